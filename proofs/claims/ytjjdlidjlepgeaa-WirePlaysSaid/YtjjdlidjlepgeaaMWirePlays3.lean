/- Of each Go function that WirePlays comes to: a model in plain Lean, and that the program's call does what the model says; no condition. -/
import Derived.Test.YtjjdlidjlepgeaaProg
import Derived.Test.YtjjdlidjlepgeaaVbcbbhpan
import Derived.Test.YtjjdlidjlepgeaaMWirePlays2
namespace Go.Proofs.Ytjjdlidjlepgeaa
open Go Go.Vk
set_option linter.unusedVariables false


def visorref19_M_End.j1 (k : Nat) (p_21 : Tvisorref19_M) : Option (Tvisorref19_M) := some (⟨p_21.n, p_21.most, p_21.words, p_21.draws, p_21.fromF, p_21.skip, 0, p_21.e, p_21.ops, p_21.blocks, p_21.val, p_21.tape, p_21.dry⟩ : Tvisorref19_M)
abbrev visorref19_M_End.R (κ : Ctx) (S : List HP) (x0 : Tvisorref19_M) (b_x0 : Nat) (A_x0oops : Option Addr) (c_x0oops : Nat) (A_x0oblocks : Option Addr) (c_x0oblocks : Nat) (A_x0oval : Option Addr) (c_x0oval : Nat) (A_x0otapel : Option Addr) (c_x0otapel : Nat) (r : Tvisorref19_M) : Ending → World → Prop := fun e w' => ∃ (A_y0oops : Option Addr), ∃ (c_y0oops : Nat), ∃ (A_y0oblocks : Option Addr), ∃ (c_y0oblocks : Nat), ∃ (A_y0oval : Option Addr), ∃ (c_y0oval : Nat), ∃ (A_y0otapel : Option Addr), ∃ (c_y0otapel : Nat), e = .returned (.tuple #[]) ∧ Own κ w' (pt b_x0 (blk (Tvisorref19_M.obj r A_y0oops c_y0oops A_y0oblocks c_y0oblocks A_y0oval c_y0oval A_y0otapel c_y0otapel) 123) :: rowp A_y0oops c_y0oops 32 6 Tapi_Op.cells r.ops :: rowp A_y0oblocks c_y0oblocks 144 3 Tapi_Span.cells r.blocks :: rowp A_y0oval c_y0oval 23 1 (eI .u64) r.val :: rdp κ A_y0otapel c_y0otapel 1 (eI .u64) r.tape.l :: S)
def visorref19_M_End.m (k : Nat) (x0 : Tvisorref19_M) : Option Tvisorref19_M := (bif x0.e != 0 then some x0 else (bif x0.kind == 0 then some (⟨x0.n, x0.most, x0.words, x0.draws, x0.fromF, x0.skip, x0.kind, 1, x0.ops, x0.blocks, x0.val, x0.tape, x0.dry⟩ : Tvisorref19_M) else (visorref19_M_Len.m k x0).bind fun v_11 => (bif decide (v_11 > x0.fromF) then (visorref19_M_Len.m k x0).bind fun v_15 => (if (x0.blocks.length + ([(⟨x0.kind, x0.fromF, v_15⟩ : Tapi_Span)] : List Tapi_Span).length) * 24 ≤ 140737488355328 then visorref19_M_End.j1 k (⟨x0.n, x0.most, x0.words, x0.draws, x0.fromF, x0.skip, x0.kind, x0.e, x0.ops, x0.blocks ++ ([(⟨x0.kind, x0.fromF, v_15⟩ : Tapi_Span)] : List Tapi_Span), x0.val, x0.tape, x0.dry⟩ : Tvisorref19_M) else none) else visorref19_M_End.j1 k x0)))

set_option maxRecDepth 100000 in
set_option maxHeartbeats 4000000 in
theorem visorref19_M_End.ok (k : Nat) (x0 : Tvisorref19_M) (r : Tvisorref19_M) (hm : visorref19_M_End.m k x0 = some r) (κ : Ctx) (w : World) (S : List HP) (b_x0 : Nat) (A_x0oops : Option Addr) (c_x0oops : Nat) (A_x0oblocks : Option Addr) (c_x0oblocks : Nat) (A_x0oval : Option Addr) (c_x0oval : Nat) (A_x0otapel : Option Addr) (c_x0otapel : Nat) (ho : Own κ w (pt b_x0 (blk (Tvisorref19_M.obj x0 A_x0oops c_x0oops A_x0oblocks c_x0oblocks A_x0oval c_x0oval A_x0otapel c_x0otapel) 123) :: rowp A_x0oops c_x0oops 32 6 Tapi_Op.cells x0.ops :: rowp A_x0oblocks c_x0oblocks 144 3 Tapi_Span.cells x0.blocks :: rowp A_x0oval c_x0oval 23 1 (eI .u64) x0.val :: rdp κ A_x0otapel c_x0otapel 1 (eI .u64) x0.tape.l :: S)) :
    Calls Try.prog 108 #[.pointer (some ⟨b_x0, 0, none⟩)] w (visorref19_M_End.R κ S x0 b_x0 A_x0oops c_x0oops A_x0oblocks c_x0oblocks A_x0oval c_x0oval A_x0otapel c_x0otapel r) := by
  unfold visorref19_M_End.m at hm
  refine Vk.enter [(0, .pointer (some ⟨b_x0, 0, none⟩))] Try.func108 rfl Try.ntmps108 (by kernel_rfl) (Nat.le_of_ble_eq_true (by kernel_rfl)) ho fun a hs => ?_
  refine Vk.seq fun K1 hK1 => ?_
  refine Vk.seq fun K2 hK2 => ?_
  refine Vk.region ?_
  refine Vk.pures 3 [(4, .pointer (some ⟨b_x0, 7, none⟩)), (3, .pointer (some ⟨b_x0, 0, none⟩)), (2, .pointer (some ⟨b_x0, 0, none⟩))] hs (by kernel_rfl) fun a hs => ?_
  refine Vk.step (Vk.value (some 5) (.int .i64 x0.e) hs (by kernel_rfl) (op := (.load 43 (.tmp 4))) (by kernel_rfl) (fun o ho => run_load1 (b := b_x0) (off := 7) (c := C.int .i64 x0.e) ho (by kernel_rfl) (by kernel_rfl) (Cell.own 0 rfl (by kernel_rfl)) _ hs.own) fun a hs => ?_)
  refine Vk.pures 1 [(6, .bool (x0.e != 0))] hs (by kernel_rfl) fun a hs => ?_
  replace hs := hs.pick [0, 6] (L' := [(0, .pointer (some ⟨b_x0, 0, none⟩)), (6, .bool (x0.e != 0))]) (by kernel_rfl)
  refine Vk.done (by kernel_rfl) ?_
  refine hK2 _ _ ?_
  clear hK2
  refine Vk.condS (b := x0.e != 0) hs (by kernel_rfl) (by kernel_rfl) (fun hb => ?_) (fun hb => ?_)
  · replace hm := bif_t hm hb
    refine wp_ret ?_
    exact Vk.ret0 (P := Try.prog) (fn := Try.f108) (R := visorref19_M_End.R κ S x0 b_x0 A_x0oops c_x0oops A_x0oblocks c_x0oblocks A_x0oval c_x0oval A_x0otapel c_x0otapel r) hs rfl (by obtain rfl := Option.some.inj hm; exact ⟨A_x0oops, c_x0oops, A_x0oblocks, c_x0oblocks, A_x0oval, c_x0oval, A_x0otapel, c_x0otapel, rfl, (Own.to hs.own [0, 1, 2, 3, 4] 5 (by kernel_rfl) (by kernel_rfl))⟩)
  · replace hm := bif_f hm hb
    refine wp_skip ?_
    refine hK1 _ _ ?_
    clear hK1
    refine Vk.seq fun K3 hK3 => ?_
    refine Vk.seq fun K4 hK4 => ?_
    refine Vk.region ?_
    refine Vk.pures 3 [(9, .pointer (some ⟨b_x0, 6, none⟩)), (8, .pointer (some ⟨b_x0, 0, none⟩)), (7, .pointer (some ⟨b_x0, 0, none⟩))] hs (by kernel_rfl) fun a hs => ?_
    refine Vk.step (Vk.value (some 10) (.int .i64 x0.kind) hs (by kernel_rfl) (op := (.load 3 (.tmp 9))) (by kernel_rfl) (fun o ho => run_load1 (b := b_x0) (off := 6) (c := C.int .i64 x0.kind) ho (by kernel_rfl) (by kernel_rfl) (Cell.own 0 rfl (by kernel_rfl)) _ hs.own) fun a hs => ?_)
    refine Vk.pures 1 [(11, .bool (x0.kind == 0))] hs (by kernel_rfl) fun a hs => ?_
    replace hs := hs.pick [0, 11] (L' := [(0, .pointer (some ⟨b_x0, 0, none⟩)), (11, .bool (x0.kind == 0))]) (by kernel_rfl)
    refine Vk.done (by kernel_rfl) ?_
    refine hK4 _ _ ?_
    clear hK4
    refine Vk.condS (b := x0.kind == 0) hs (by kernel_rfl) (by kernel_rfl) (fun hb => ?_) (fun hb => ?_)
    · replace hm := bif_t hm hb
      refine Vk.seq fun K5 hK5 => ?_
      refine Vk.region ?_
      refine Vk.pures 3 [(14, .pointer (some ⟨b_x0, 7, none⟩)), (13, .pointer (some ⟨b_x0, 0, none⟩)), (12, .pointer (some ⟨b_x0, 0, none⟩))] hs (by kernel_rfl) fun a hs => ?_
      refine Vk.step (Vk.store1 (b := b_x0) (ty := 43) (x := (.tmp 14)) (y := (.const (.int .i64 1))) (off := 7) (C.int .i64 1) 0 hs (by kernel_rfl) (by kernel_rfl) (by kernel_rfl) (by kernel_rfl) (by kernel_rfl) (by kernel_rfl) rfl (Nat.le_of_ble_eq_true (by kernel_rfl)) fun a w hs => ?_)
      replace hs := hs.pick [] (L' := []) (by kernel_rfl)
      refine Vk.done (by kernel_rfl) ?_
      refine hK5 _ _ ?_
      clear hK5
      refine wp_ret ?_
      exact Vk.ret0 (P := Try.prog) (fn := Try.f108) (R := visorref19_M_End.R κ S x0 b_x0 A_x0oops c_x0oops A_x0oblocks c_x0oblocks A_x0oval c_x0oval A_x0otapel c_x0otapel r) hs rfl (by obtain rfl := Option.some.inj hm; exact ⟨A_x0oops, c_x0oops, A_x0oblocks, c_x0oblocks, A_x0oval, c_x0oval, A_x0otapel, c_x0otapel, rfl, (Own.to hs.own [0, 1, 2, 3, 4] 5 (by kernel_rfl) (by kernel_rfl))⟩)
    · replace hm := bif_f hm hb
      refine wp_skip ?_
      refine hK3 _ _ ?_
      clear hK3
      refine Vk.seq fun K6 hK6 => ?_
      have hj6 : ∀ (p_21 : Tvisorref19_M), visorref19_M_End.j1 k p_21 = some r → ∀ (A_22 : Option Addr) (c_23 : Nat) (a : Act) (w : World), St 45 a w κ [(0, .pointer (some ⟨b_x0, 0, none⟩))] (pt b_x0 (blk (Tvisorref19_M.obj p_21 A_x0oops c_x0oops A_22 c_23 A_x0oval c_x0oval A_x0otapel c_x0otapel) 123) :: rowp A_x0oops c_x0oops 32 6 Tapi_Op.cells p_21.ops :: rowp A_22 c_23 144 3 Tapi_Span.cells p_21.blocks :: rowp A_x0oval c_x0oval 23 1 (eI .u64) p_21.val :: rdp κ A_x0otapel c_x0otapel 1 (eI .u64) p_21.tape.l :: S) → K6 a w := by
        intro p_21 hm A_22 c_23 a w hs
        unfold visorref19_M_End.j1 at hm
        refine hK6 _ _ ?_
        refine Vk.region ?_
        refine Vk.pures 3 [(44, .pointer (some ⟨b_x0, 6, none⟩)), (43, .pointer (some ⟨b_x0, 0, none⟩)), (42, .pointer (some ⟨b_x0, 0, none⟩))] hs (by kernel_rfl) fun a hs => ?_
        refine Vk.step (Vk.store1 (b := b_x0) (ty := 3) (x := (.tmp 44)) (y := (.const (.int .i64 0))) (off := 6) (C.int .i64 0) 0 hs (by kernel_rfl) (by kernel_rfl) (by kernel_rfl) (by kernel_rfl) (by kernel_rfl) (by kernel_rfl) rfl (Nat.le_of_ble_eq_true (by kernel_rfl)) fun a w hs => ?_)
        replace hs := hs.pick [] (L' := []) (by kernel_rfl)
        refine Vk.done (by kernel_rfl) ?_
        exact Vk.end0 (P := Try.prog) (fn := Try.f108) (R := visorref19_M_End.R κ S x0 b_x0 A_x0oops c_x0oops A_x0oblocks c_x0oblocks A_x0oval c_x0oval A_x0otapel c_x0otapel r) hs rfl (by obtain rfl := Option.some.inj hm; exact ⟨A_x0oops, c_x0oops, A_22, c_23, A_x0oval, c_x0oval, A_x0otapel, c_x0otapel, rfl, (Own.to hs.own [0, 1, 2, 3, 4] 5 (by kernel_rfl) (by kernel_rfl))⟩)
      refine Vk.seq fun K7 hK7 => ?_
      obtain ⟨C_8, hC_8⟩ : ∃ X0 : List HP, X0 = (pt b_x0 (blk (Tvisorref19_M.obj x0 A_x0oops c_x0oops A_x0oblocks c_x0oblocks A_x0oval c_x0oval A_x0otapel c_x0otapel) 123) :: rowp A_x0oops c_x0oops 32 6 Tapi_Op.cells x0.ops :: rowp A_x0oblocks c_x0oblocks 144 3 Tapi_Span.cells x0.blocks :: rowp A_x0oval c_x0oval 23 1 (eI .u64) x0.val :: rdp κ A_x0otapel c_x0otapel 1 (eI .u64) x0.tape.l :: S) := ⟨_, rfl⟩
      refine Vk.drawnT 7 κ C_8 hs (by kernel_rfl) fun w hs => ?_
      have hcz : Own κ w (pt b_x0 (blk (Tvisorref19_M.obj x0 A_x0oops c_x0oops A_x0oblocks c_x0oblocks A_x0oval c_x0oval A_x0otapel c_x0otapel) 123) :: rowp A_x0oops c_x0oops 32 6 Tapi_Op.cells x0.ops :: rowp A_x0oblocks c_x0oblocks 144 3 Tapi_Span.cells x0.blocks :: rowp A_x0oval c_x0oval 23 1 (eI .u64) x0.val :: rdp κ A_x0otapel c_x0otapel 1 (eI .u64) x0.tape.l :: S) := (Own.to hs.own [0, 1, 2, 3, 4] 5 (by kernel_rfl) (by kernel_rfl))
      have hcl : Own κ w C_8 := by rw [hC_8]; exact hcz
      refine Vk.dPuresT [0, 2, 3, 4] [(19, .pointer (some ⟨b_x0, 4, none⟩)), (18, .pointer (some ⟨b_x0, 0, none⟩)), (17, .pointer (some ⟨b_x0, 0, none⟩)), (15, .pointer (some ⟨b_x0, 0, none⟩))] hs (by kernel_rfl) (by repeat' (first | exact Vk.Calm.post | refine Vk.Calm.then ?_ | refine Vk.Calm.inBlock ?_)) hcl (by kernel_rfl) (by kernel_rfl) (fuel := 3) rfl fun a hs => ?_
      refine Vk.dTakeT (i := 5) (some 20) (.int .i64 x0.fromF) hs (by kernel_rfl) (by repeat' (first | exact Vk.Calm.post | refine Vk.Calm.then ?_ | refine Vk.Calm.inBlock ?_)) hcl (by kernel_rfl) (by kernel_rfl) (op := (.load 3 (.tmp 19))) (by kernel_rfl) (by kernel_rfl) (fun w hw o ho => by rw [hC_8] at hw; exact run_load1 (b := b_x0) (off := 4) (c := C.int .i64 x0.fromF) ho (by kernel_rfl) (by kernel_rfl) (Cell.own 0 rfl (by kernel_rfl)) _ hw) fun a hs => ?_
      obtain ⟨v_11, h_10, hm⟩ := bind_t hm
      refine Vk.dOnly (i := 1) (by kernel_rfl) (Vk.call (some 16) 69 #[.pointer (some ⟨b_x0, 0, none⟩)] hs (by kernel_rfl) (by kernel_rfl) (by kernel_rfl) ?_)
      refine (visorref19_M_Len.ok k x0 v_11 h_10 κ w (S) b_x0 A_x0oops c_x0oops A_x0oblocks c_x0oblocks A_x0oval c_x0oval A_x0otapel c_x0otapel (Own.to hs.own [0, 1, 2, 3, 4] 5 (by kernel_rfl) (by kernel_rfl))).mono ?_
      rintro _ w ⟨rfl, how⟩
      refine ⟨_, _, _, rfl, how, fun a hs => ?_⟩
      replace hcl : Own κ w C_8 := by rw [hC_8]; exact (Own.to hs.own [0, 1, 2, 3, 4] 5 (by kernel_rfl) (by kernel_rfl))
      refine ⟨fun _ => hcl, ?_⟩
      refine Vk.dPuresT [6] [(21, .bool (decide (v_11 > x0.fromF)))] hs (by kernel_rfl) (by repeat' (first | exact Vk.Calm.post | refine Vk.Calm.then ?_ | refine Vk.Calm.inBlock ?_)) hcl (by kernel_rfl) (by kernel_rfl) (fuel := 0) rfl fun a hs => ?_
      replace hs := hs.pick [0, 21] (L' := [(0, .pointer (some ⟨b_x0, 0, none⟩)), (21, .bool (decide (v_11 > x0.fromF)))]) (by kernel_rfl)
      refine Vk.dDone (by kernel_rfl) ?_
      refine hK7 _ _ ?_
      clear hK7
      refine Vk.condS (b := decide (v_11 > x0.fromF)) hs (by kernel_rfl) (by kernel_rfl) (fun hb => ?_) (fun hb => ?_)
      · replace hm := bif_t hm hb
        obtain ⟨C_12, hC_12⟩ : ∃ X0 : List HP, X0 = (pt b_x0 (blk (Tvisorref19_M.obj x0 A_x0oops c_x0oops A_x0oblocks c_x0oblocks A_x0oval c_x0oval A_x0otapel c_x0otapel) 123) :: rowp A_x0oops c_x0oops 32 6 Tapi_Op.cells x0.ops :: rowp A_x0oval c_x0oval 23 1 (eI .u64) x0.val :: rdp κ A_x0otapel c_x0otapel 1 (eI .u64) x0.tape.l :: S) := ⟨_, rfl⟩
        refine Vk.drawnT 18 κ C_12 hs (by kernel_rfl) fun w hs => ?_
        have hcz : Own κ w (pt b_x0 (blk (Tvisorref19_M.obj x0 A_x0oops c_x0oops A_x0oblocks c_x0oblocks A_x0oval c_x0oval A_x0otapel c_x0otapel) 123) :: rowp A_x0oops c_x0oops 32 6 Tapi_Op.cells x0.ops :: rowp A_x0oval c_x0oval 23 1 (eI .u64) x0.val :: rdp κ A_x0otapel c_x0otapel 1 (eI .u64) x0.tape.l :: S) := (Own.to hs.own [0, 1, 3, 4] 5 (by kernel_rfl) (by kernel_rfl))
        have hcl : Own κ w C_12 := by rw [hC_12]; exact hcz
        refine Vk.dPuresT [0, 1, 2, 3, 5, 6, 7, 9, 10, 11, 13] [(35, .pointer (some ⟨b_x0, 0, none⟩)), (33, .pointer (some ⟨b_x0, 4, none⟩)), (32, .pointer (some ⟨b_x0, 0, none⟩)), (31, .pointer (some ⟨b_x0, 0, none⟩)), (29, .pointer (some ⟨b_x0, 6, none⟩)), (28, .pointer (some ⟨b_x0, 0, none⟩)), (27, .pointer (some ⟨b_x0, 0, none⟩)), (25, .pointer (some ⟨b_x0, 9, none⟩)), (24, .pointer (some ⟨b_x0, 0, none⟩)), (23, .pointer (some ⟨b_x0, 0, none⟩)), (22, .pointer (some ⟨b_x0, 0, none⟩))] hs (by kernel_rfl) (by repeat' (first | exact Vk.Calm.post | refine Vk.Calm.then ?_ | refine Vk.Calm.inBlock ?_)) hcl (by kernel_rfl) (by kernel_rfl) (fuel := 10) rfl fun a hs => ?_
        refine Vk.dTakeT (i := 4) (some 26) (.slice A_x0oblocks x0.blocks.length c_x0oblocks) hs (by kernel_rfl) (by repeat' (first | exact Vk.Calm.post | refine Vk.Calm.then ?_ | refine Vk.Calm.inBlock ?_)) hcl (by kernel_rfl) (by kernel_rfl) (op := (.load 70 (.tmp 25))) (by kernel_rfl) (by kernel_rfl) (fun w hw o ho => by rw [hC_12] at hw; exact run_load1 (b := b_x0) (off := 9) (c := C.slc A_x0oblocks x0.blocks.length c_x0oblocks) ho (by kernel_rfl) (by kernel_rfl) (Cell.own 0 rfl (by kernel_rfl)) _ hw) fun a hs => ?_
        refine Vk.dTakeT (i := 8) (some 30) (.int .i64 x0.kind) hs (by kernel_rfl) (by repeat' (first | exact Vk.Calm.post | refine Vk.Calm.then ?_ | refine Vk.Calm.inBlock ?_)) hcl (by kernel_rfl) (by kernel_rfl) (op := (.load 3 (.tmp 29))) (by kernel_rfl) (by kernel_rfl) (fun w hw o ho => by rw [hC_12] at hw; exact run_load1 (b := b_x0) (off := 6) (c := C.int .i64 x0.kind) ho (by kernel_rfl) (by kernel_rfl) (Cell.own 0 rfl (by kernel_rfl)) _ hw) fun a hs => ?_
        refine Vk.dTakeT (i := 12) (some 34) (.int .i64 x0.fromF) hs (by kernel_rfl) (by repeat' (first | exact Vk.Calm.post | refine Vk.Calm.then ?_ | refine Vk.Calm.inBlock ?_)) hcl (by kernel_rfl) (by kernel_rfl) (op := (.load 3 (.tmp 33))) (by kernel_rfl) (by kernel_rfl) (fun w hw o ho => by rw [hC_12] at hw; exact run_load1 (b := b_x0) (off := 4) (c := C.int .i64 x0.fromF) ho (by kernel_rfl) (by kernel_rfl) (Cell.own 0 rfl (by kernel_rfl)) _ hw) fun a hs => ?_
        obtain ⟨v_15, h_14, hm⟩ := bind_t hm
        refine Vk.dOnly (i := 14) (by kernel_rfl) (Vk.call (some 36) 69 #[.pointer (some ⟨b_x0, 0, none⟩)] hs (by kernel_rfl) (by kernel_rfl) (by kernel_rfl) ?_)
        refine (visorref19_M_Len.ok k x0 v_15 h_14 κ w (S) b_x0 A_x0oops c_x0oops A_x0oblocks c_x0oblocks A_x0oval c_x0oval A_x0otapel c_x0otapel (Own.to hs.own [0, 1, 2, 3, 4] 5 (by kernel_rfl) (by kernel_rfl))).mono ?_
        rintro _ w ⟨rfl, how⟩
        refine ⟨_, _, _, rfl, how, fun a hs => ?_⟩
        replace hcl : Own κ w C_12 := by rw [hC_12]; exact (Own.to hs.own [0, 1, 3, 4] 5 (by kernel_rfl) (by kernel_rfl))
        refine ⟨fun _ => hcl, ?_⟩
        refine Vk.dPuresT [15] [(37, .agg (vals [C.int .i64 x0.kind, C.int .i64 x0.fromF, C.int .i64 v_15]))] hs (by kernel_rfl) (by repeat' (first | exact Vk.Calm.post | refine Vk.Calm.then ?_ | refine Vk.Calm.inBlock ?_)) hcl (by kernel_rfl) (by kernel_rfl) (fuel := 5) rfl fun a hs => ?_
        refine Vk.dOnly (i := 16) (by kernel_rfl) (Vk.buildOp (sz := 3) (by_ := 24) (t := 70) (e := 144) (parts := #[(0, (.tmp 37))]) (zs := vals [C.int .i64 0, C.int .i64 0, C.int .i64 0]) ([(⟨x0.kind, x0.fromF, v_15⟩ : Tapi_Span)] : List Tapi_Span) Tapi_Span.cells (some 38) hs (by kernel_rfl) (by kernel_rfl) (by kernel_rfl) (by kernel_rfl) (by decide) rfl (fun x _ => rfl) (Nat.le_of_ble_eq_true (by kernel_rfl)) (by kernel_rfl) fun A_16 w a hs => ?_)
        replace hcl : Own κ w C_12 := by rw [hC_12]; exact (Own.to hs.own [1, 2, 4, 5] 6 (by kernel_rfl) (by kernel_rfl))
        refine ⟨fun _ => hcl, ?_⟩
        obtain ⟨h_18, hm⟩ := ite_t hm
        refine Vk.dOnly (i := 17) (by kernel_rfl) (Vk.appendOp (x := (.tmp 26)) (y := (.tmp 38)) (e := 144) (t := 70) (by_ := 24) (sz := 3) (enc := Tapi_Span.cells) (A := A_x0oblocks) (cap := c_x0oblocks) (xs := x0.blocks) (ys := ([(⟨x0.kind, x0.fromF, v_15⟩ : Tapi_Span)] : List Tapi_Span)) (B := A_16) (c2 := 1) 3 (some 39) hs (by kernel_rfl) (by kernel_rfl) (by kernel_rfl) (by kernel_rfl) rfl (Sl.lift (fun w ho => (Own.to (S' := rowp A_16 1 144 3 Tapi_Span.cells ([(⟨x0.kind, x0.fromF, v_15⟩ : Tapi_Span)] : List Tapi_Span) :: S) ho [0] 6 (by kernel_rfl) (by kernel_rfl))) (Own.rowSl 0 (Own.to (S' := rowp A_16 1 144 3 Tapi_Span.cells ([(⟨x0.kind, x0.fromF, v_15⟩ : Tapi_Span)] : List Tapi_Span) :: S) hs.own [0] 6 (by kernel_rfl) (by kernel_rfl)) rfl)) (by kernel_rfl) (by kernel_rfl) (by decide) (by decide) h_18 fun A_19 c_20 w a hs => ?_)
        replace hcl : Own κ w C_12 := by rw [hC_12]; exact (Own.to hs.own [1, 2, 4, 5] 6 (by kernel_rfl) (by kernel_rfl))
        refine ⟨fun _ => hcl, ?_⟩
        refine Vk.dOnly (i := 18) (by kernel_rfl) (Vk.dPure1 [(40, .pointer (some ⟨b_x0, 0, none⟩))] hs (by kernel_rfl) fun a hs => ?_)
        refine ⟨fun h => absurd h (by decide), ?_⟩
        refine Vk.dOnly (i := 19) (by kernel_rfl) (Vk.dPure1 [(41, .pointer (some ⟨b_x0, 9, none⟩))] hs (by kernel_rfl) fun a hs => ?_)
        refine ⟨fun h => absurd h (by decide), ?_⟩
        refine Vk.dOnly (i := 20) (by kernel_rfl) (Vk.store1 (b := b_x0) (ty := 70) (x := (.tmp 41)) (y := (.tmp 39)) (off := 9) (C.slc A_19 ((x0.blocks ++ ([(⟨x0.kind, x0.fromF, v_15⟩ : Tapi_Span)] : List Tapi_Span)).length) c_20) 1 hs (by kernel_rfl) (by kernel_rfl) (by kernel_rfl) (by kernel_rfl) (by kernel_rfl) (by kernel_rfl) rfl (Nat.le_of_ble_eq_true (by kernel_rfl)) fun a w hs => ?_)
        refine ⟨fun h => absurd h (by decide), ?_⟩
        replace hs := hs.pick [0] (L' := [(0, .pointer (some ⟨b_x0, 0, none⟩))]) (by kernel_rfl)
        refine Vk.dDone (by kernel_rfl) ?_
        exact hj6 (⟨x0.n, x0.most, x0.words, x0.draws, x0.fromF, x0.skip, x0.kind, x0.e, x0.ops, x0.blocks ++ ([(⟨x0.kind, x0.fromF, v_15⟩ : Tapi_Span)] : List Tapi_Span), x0.val, x0.tape, x0.dry⟩ : Tvisorref19_M) hm A_19 c_20 _ _ (hs.go [0] [1, 2, 3, 4, 5] 6 (by kernel_rfl) (by kernel_rfl) (by kernel_rfl))
      · replace hm := bif_f hm hb
        refine wp_skip ?_
        exact hj6 x0 hm A_x0oblocks c_x0oblocks _ _ (hs.go [0] [0, 1, 2, 3, 4] 5 (by kernel_rfl) (by kernel_rfl) (by kernel_rfl))

structure Tvisorlaw19_Act where
  kind : Int
  o : Tapi_Op
  x : Int
  deriving Inhabited
def Tvisorlaw19_Act.cells (x : Tvisorlaw19_Act) : Cells := [C.int .i64 x.kind, C.int .i64 x.o.kind, C.int .i64 x.o.dom, C.int .i64 x.o.a, C.int .i64 x.o.b, C.int .i64 x.o.d, C.int .u64 x.o.c, C.int .u64 x.x]

def visorlaw19_does.j1 (k : Nat) (v_204 : Int × Twire_Machine) (v_216 : Int × Tvisorref19_M) (p_244 : Bool) : Option ((Bool × Twire_Machine × Tvisorref19_M)) := some (p_244, v_204.2, v_216.2)
def visorlaw19_does.j2 (k : Nat) (p_293 : Twire_Machine) (p_306 : Tvisorref19_M) : Option ((Bool × Twire_Machine × Tvisorref19_M)) := some (true, p_293, p_306)
abbrev visorlaw19_does.R (κ : Ctx) (S : List HP) (x0 : Twire_Machine) (x1 : Tvisorref19_M) (x2 : Tvisorlaw19_Act) (b_x0 : Nat) (b_x0otape : Nat) (A_x0otapeowords : Option Addr) (c_x0otapeowords : Nat) (A_x0oops : Option Addr) (c_x0oops : Nat) (A_x0ovalues : Option Addr) (c_x0ovalues : Nat) (A_x0oblocks : Option Addr) (c_x0oblocks : Nat) (b_x1 : Nat) (A_x1oops : Option Addr) (c_x1oops : Nat) (A_x1oblocks : Option Addr) (c_x1oblocks : Nat) (A_x1oval : Option Addr) (c_x1oval : Nat) (A_x1otapel : Option Addr) (c_x1otapel : Nat) (r : (Bool × Twire_Machine × Tvisorref19_M)) : Ending → World → Prop := fun e w' => ∃ (A_y0otapeowords : Option Addr), ∃ (c_y0otapeowords : Nat), ∃ (A_y0oops : Option Addr), ∃ (c_y0oops : Nat), ∃ (A_y0ovalues : Option Addr), ∃ (c_y0ovalues : Nat), ∃ (A_y0oblocks : Option Addr), ∃ (c_y0oblocks : Nat), ∃ (A_y1oops : Option Addr), ∃ (c_y1oops : Nat), ∃ (A_y1oblocks : Option Addr), ∃ (c_y1oblocks : Nat), ∃ (A_y1oval : Option Addr), ∃ (c_y1oval : Nat), ∃ (A_y1otapel : Option Addr), ∃ (c_y1otapel : Nat), e = .returned (.bool r.1) ∧ Own κ w' (pt b_x0 (blk (Twire_Machine.obj r.2.1 b_x0otape A_y0oops c_y0oops A_y0ovalues c_y0ovalues A_y0oblocks c_y0oblocks) 151) :: pto r.2.1.dry b_x0otape (blk (Ttape_Tape.obj r.2.1.tape A_y0otapeowords c_y0otapeowords) 158) :: rowp A_y0otapeowords c_y0otapeowords 23 1 (eI .u64) r.2.1.tape.words :: rowp A_y0oops c_y0oops 32 6 Tapi_Op.cells r.2.1.ops :: rowp A_y0ovalues c_y0ovalues 23 1 (eI .u64) r.2.1.values :: rowp A_y0oblocks c_y0oblocks 144 3 Tapi_Span.cells r.2.1.blocks :: pt b_x1 (blk (Tvisorref19_M.obj r.2.2 A_y1oops c_y1oops A_y1oblocks c_y1oblocks A_y1oval c_y1oval A_y1otapel c_y1otapel) 123) :: rowp A_y1oops c_y1oops 32 6 Tapi_Op.cells r.2.2.ops :: rowp A_y1oblocks c_y1oblocks 144 3 Tapi_Span.cells r.2.2.blocks :: rowp A_y1oval c_y1oval 23 1 (eI .u64) r.2.2.val :: rdp κ A_y1otapel c_y1otapel 1 (eI .u64) r.2.2.tape.l :: S)
def visorlaw19_does.m (k : Nat) (x0 : Twire_Machine) (x1 : Tvisorref19_M) (x2 : Tvisorlaw19_Act) : Option (Bool × Twire_Machine × Tvisorref19_M) := (bif x2.kind == 0 then (wire_Machine_Do.m k x0 x2.o x2.x).bind fun v_12 => (visorref19_M_Do.m k x1 x2.o x2.x).bind fun v_23 => some (v_12.1 == v_23.1, v_12.2, v_23.2) else (bif x2.kind == 1 then (wire_Machine_Rand.m k x0 x2.o.dom).bind fun v_37 => (visorref19_Op.m k 1 x2.o.dom (-1) (-1) 0).bind fun v_48 => (visorref19_M_Do.m k x1 v_48 0).bind fun v_51 => some (v_37.1 == v_51.1, v_37.2, v_51.2) else (bif x2.kind == 2 then (wire_Machine_Key.m k x0 x2.x x2.o.a x2.o.b).bind fun v_65 => (visorref19_Op.m k 2 0 x2.o.a x2.o.b (IntKind.u64.wrap x1.words)).bind fun v_76 => (visorref19_M_Do.m k x1 v_76 x2.x).bind fun v_79 => some (v_65.1 == v_79.1, v_65.2, v_79.2) else (bif x2.kind == 3 then (wire_Machine_Const.m k x0 x2.o.dom x2.o.c).bind fun v_93 => (visorref19_Op.m k 3 x2.o.dom (-1) (-1) x2.o.c).bind fun v_104 => (visorref19_M_Do.m k x1 v_104 0).bind fun v_107 => some (v_93.1 == v_107.1, v_93.2, v_107.2) else (bif x2.kind == 4 then (wire_Machine_Told.m k x0 x2.o.dom x2.o.c).bind fun v_121 => (visorref19_Op.m k 4 x2.o.dom (-1) (-1) x2.o.c).bind fun v_132 => (visorref19_M_Do.m k x1 v_132 0).bind fun v_135 => some (v_121.1 == v_135.1, v_121.2, v_135.2) else (bif x2.kind == 5 then (wire_Machine_Two.m k x0 x2.o.kind x2.o.dom x2.o.a x2.o.b).bind fun v_149 => (visorref19_Op.m k x2.o.kind x2.o.dom x2.o.a x2.o.b 0).bind fun v_160 => (visorref19_M_Do.m k x1 v_160 0).bind fun v_163 => some (v_149.1 == v_163.1, v_149.2, v_163.2) else (bif x2.kind == 6 then (wire_Machine_One.m k x0 x2.o.kind x2.o.dom x2.o.a x2.o.c).bind fun v_177 => (visorref19_Op.m k x2.o.kind x2.o.dom x2.o.a (-1) x2.o.c).bind fun v_188 => (visorref19_M_Do.m k x1 v_188 0).bind fun v_191 => some (v_177.1 == v_191.1, v_177.2, v_191.2) else (bif x2.kind == 7 then (wire_Machine_Open.m k x0 x2.o.a x2.o.b x2.o.d).bind fun v_204 => (visorref19_M_Do.m k x1 (⟨12, (-1), x2.o.a, x2.o.b, x2.o.d, 0⟩ : Tapi_Op) 0).bind fun v_216 => (bif decide (v_216.1 < 0) then some (v_204.1 == 0, v_204.2, v_216.2) else (bif v_216.2.dry && (v_204.1 == 18446744073709551615) then visorlaw19_does.j1 k v_204 v_216 true else (bif !v_216.2.dry then (if 0 ≤ v_216.1 then (v_216.2.val[v_216.1.toNat]?).bind fun e_240 => visorlaw19_does.j1 k v_204 v_216 (v_204.1 == e_240) else none) else visorlaw19_does.j1 k v_204 v_216 false))) else (bif x2.kind == 8 then (wire_Machine_Begin.m k x0 x2.o.kind).bind fun v_249 => (visorref19_M_Begin.m k x1 x2.o.kind).bind fun v_260 => visorlaw19_does.j2 k v_249 v_260 else (bif x2.kind == 9 then (wire_Machine_End.m k x0).bind fun v_273 => (visorref19_M_End.m k x1).bind fun v_284 => visorlaw19_does.j2 k v_273 v_284 else visorlaw19_does.j2 k x0 x1))))))))))

set_option maxRecDepth 100000 in
set_option maxHeartbeats 4000000 in
theorem visorlaw19_does.ok (k : Nat) (x0 : Twire_Machine) (x1 : Tvisorref19_M) (x2 : Tvisorlaw19_Act) (r : (Bool × Twire_Machine × Tvisorref19_M)) (hm : visorlaw19_does.m k x0 x1 x2 = some r) (κ : Ctx) (w : World) (S : List HP) (b_x0 : Nat) (b_x0otape : Nat) (A_x0otapeowords : Option Addr) (c_x0otapeowords : Nat) (A_x0oops : Option Addr) (c_x0oops : Nat) (A_x0ovalues : Option Addr) (c_x0ovalues : Nat) (A_x0oblocks : Option Addr) (c_x0oblocks : Nat) (b_x1 : Nat) (A_x1oops : Option Addr) (c_x1oops : Nat) (A_x1oblocks : Option Addr) (c_x1oblocks : Nat) (A_x1oval : Option Addr) (c_x1oval : Nat) (A_x1otapel : Option Addr) (c_x1otapel : Nat) (ho : Own κ w (pt b_x0 (blk (Twire_Machine.obj x0 b_x0otape A_x0oops c_x0oops A_x0ovalues c_x0ovalues A_x0oblocks c_x0oblocks) 151) :: pto x0.dry b_x0otape (blk (Ttape_Tape.obj x0.tape A_x0otapeowords c_x0otapeowords) 158) :: rowp A_x0otapeowords c_x0otapeowords 23 1 (eI .u64) x0.tape.words :: rowp A_x0oops c_x0oops 32 6 Tapi_Op.cells x0.ops :: rowp A_x0ovalues c_x0ovalues 23 1 (eI .u64) x0.values :: rowp A_x0oblocks c_x0oblocks 144 3 Tapi_Span.cells x0.blocks :: pt b_x1 (blk (Tvisorref19_M.obj x1 A_x1oops c_x1oops A_x1oblocks c_x1oblocks A_x1oval c_x1oval A_x1otapel c_x1otapel) 123) :: rowp A_x1oops c_x1oops 32 6 Tapi_Op.cells x1.ops :: rowp A_x1oblocks c_x1oblocks 144 3 Tapi_Span.cells x1.blocks :: rowp A_x1oval c_x1oval 23 1 (eI .u64) x1.val :: rdp κ A_x1otapel c_x1otapel 1 (eI .u64) x1.tape.l :: S)) :
    Calls Try.prog 70 #[.pointer (some ⟨b_x0, 0, none⟩), .pointer (some ⟨b_x1, 0, none⟩), .agg (vals [C.int .i64 x2.kind, C.int .i64 x2.o.kind, C.int .i64 x2.o.dom, C.int .i64 x2.o.a, C.int .i64 x2.o.b, C.int .i64 x2.o.d, C.int .u64 x2.o.c, C.int .u64 x2.x])] w (visorlaw19_does.R κ S x0 x1 x2 b_x0 b_x0otape A_x0otapeowords c_x0otapeowords A_x0oops c_x0oops A_x0ovalues c_x0ovalues A_x0oblocks c_x0oblocks b_x1 A_x1oops c_x1oops A_x1oblocks c_x1oblocks A_x1oval c_x1oval A_x1otapel c_x1otapel r) := by
  unfold visorlaw19_does.m at hm
  refine Vk.enter [(0, .pointer (some ⟨b_x0, 0, none⟩)), (1, .pointer (some ⟨b_x1, 0, none⟩)), (2, .agg (vals [C.int .i64 x2.kind, C.int .i64 x2.o.kind, C.int .i64 x2.o.dom, C.int .i64 x2.o.a, C.int .i64 x2.o.b, C.int .i64 x2.o.d, C.int .u64 x2.o.c, C.int .u64 x2.x]))] Try.func70 rfl Try.ntmps70 (by kernel_rfl) (Nat.le_of_ble_eq_true (by kernel_rfl)) ho fun a hs => ?_
  refine Vk.seq fun K1 hK1 => ?_
  refine Vk.region ?_
  refine Vk.step (Vk.box (x := (.tmp 2)) 5 111 [C.int .i64 x2.kind, C.int .i64 x2.o.kind, C.int .i64 x2.o.dom, C.int .i64 x2.o.a, C.int .i64 x2.o.b, C.int .i64 x2.o.d, C.int .u64 x2.o.c, C.int .u64 x2.x] hs (by kernel_rfl) (by kernel_rfl) (by kernel_rfl) fun b_2 w a hs => ?_)
  refine Vk.pures 1 [(6, .bool false)] hs (by kernel_rfl) fun a hs => ?_
  replace hs := hs.pick [0, 1, 5] (L' := [(0, .pointer (some ⟨b_x0, 0, none⟩)), (1, .pointer (some ⟨b_x1, 0, none⟩)), (5, .pointer (some ⟨b_2, 0, none⟩))]) (by kernel_rfl)
  refine Vk.done (by kernel_rfl) ?_
  refine hK1 _ _ ?_
  clear hK1
  refine Vk.seq fun K3 hK3 => ?_
  refine Vk.region ?_
  refine Vk.pures 1 [(10, .pointer (some ⟨b_2, 1, none⟩))] hs (by kernel_rfl) fun a hs => ?_
  refine Vk.step (Vk.value (some 11) (.agg (vals [C.int .i64 x2.o.kind, C.int .i64 x2.o.dom, C.int .i64 x2.o.a, C.int .i64 x2.o.b, C.int .i64 x2.o.d, C.int .u64 x2.o.c])) hs (by kernel_rfl) (op := (.load 32 (.tmp 10))) (by kernel_rfl) (fun o ho => run_loadN (cs := [C.int .i64 x2.o.kind, C.int .i64 x2.o.dom, C.int .i64 x2.o.a, C.int .i64 x2.o.b, C.int .i64 x2.o.d, C.int .u64 x2.o.c]) ho (by kernel_rfl) (by kernel_rfl) rfl (CellsAt.own (off := 1) 0 rfl (sz := 6) (by kernel_rfl)) _ hs.own) fun a hs => ?_)
  refine Vk.step (Vk.alloc 7 32 [C.int .i64 0, C.int .i64 0, C.int .i64 0, C.int .i64 0, C.int .i64 0, C.int .u64 0] hs (by kernel_rfl) (by kernel_rfl) (by kernel_rfl) fun b_4 w a hs => ?_)
  refine Vk.step (Vk.storeA (b := b_4) (ty := 32) (x := (.tmp 7)) (y := (.tmp 11)) (sz := 6) [C.int .i64 x2.o.kind, C.int .i64 x2.o.dom, C.int .i64 x2.o.a, C.int .i64 x2.o.b, C.int .i64 x2.o.d, C.int .u64 x2.o.c] 0 hs (by kernel_rfl) (by kernel_rfl) (by kernel_rfl) (by kernel_rfl) (by kernel_rfl) rfl (by kernel_rfl) rfl (Eq.trans (b := 6) rfl (Eq.symm rfl)) fun a w hs => ?_)
  replace hs := hs.pick [0, 1, 5, 7] (L' := [(0, .pointer (some ⟨b_x0, 0, none⟩)), (1, .pointer (some ⟨b_x1, 0, none⟩)), (5, .pointer (some ⟨b_2, 0, none⟩)), (7, .pointer (some ⟨b_4, 0, none⟩))]) (by kernel_rfl)
  refine Vk.done (by kernel_rfl) ?_
  refine hK3 _ _ ?_
  clear hK3
  refine Vk.seq fun K5 hK5 => ?_
  have hj5 : ∀ (p_293 : Twire_Machine) (p_306 : Tvisorref19_M), visorlaw19_does.j2 k p_293 p_306 = some r → ∀ (A_294 : Option Addr) (c_295 : Nat) (A_297 : Option Addr) (c_298 : Nat) (A_300 : Option Addr) (c_301 : Nat) (A_303 : Option Addr) (c_304 : Nat) (A_307 : Option Addr) (c_308 : Nat) (A_310 : Option Addr) (c_311 : Nat) (A_313 : Option Addr) (c_314 : Nat) (A_316 : Option Addr) (c_317 : Nat) (a : Act) (w : World), St 209 a w κ [] (pt b_x0 (blk (Twire_Machine.obj p_293 b_x0otape A_297 c_298 A_300 c_301 A_303 c_304) 151) :: pto p_293.dry b_x0otape (blk (Ttape_Tape.obj p_293.tape A_294 c_295) 158) :: rowp A_294 c_295 23 1 (eI .u64) p_293.tape.words :: rowp A_297 c_298 32 6 Tapi_Op.cells p_293.ops :: rowp A_300 c_301 23 1 (eI .u64) p_293.values :: rowp A_303 c_304 144 3 Tapi_Span.cells p_293.blocks :: pt b_x1 (blk (Tvisorref19_M.obj p_306 A_307 c_308 A_310 c_311 A_313 c_314 A_316 c_317) 123) :: rowp A_307 c_308 32 6 Tapi_Op.cells p_306.ops :: rowp A_310 c_311 144 3 Tapi_Span.cells p_306.blocks :: rowp A_313 c_314 23 1 (eI .u64) p_306.val :: rdp κ A_316 c_317 1 (eI .u64) p_306.tape.l :: S) → K5 a w := by
    intro p_293 p_306 hm A_294 c_295 A_297 c_298 A_300 c_301 A_303 c_304 A_307 c_308 A_310 c_311 A_313 c_314 A_316 c_317 a w hs
    unfold visorlaw19_does.j2 at hm
    refine hK5 _ _ ?_
    refine Vk.seq fun K319 hK319 => ?_
    refine Vk.region ?_
    refine Vk.pures 1 [(6, .bool true)] hs (by kernel_rfl) fun a hs => ?_
    replace hs := hs.pick [6] (L' := [(6, .bool true)]) (by kernel_rfl)
    refine Vk.done (by kernel_rfl) ?_
    refine hK319 _ _ ?_
    clear hK319
    refine wp_ret ?_
    exact Vk.ret1 (P := Try.prog) (fn := Try.f70) (R := visorlaw19_does.R κ S x0 x1 x2 b_x0 b_x0otape A_x0otapeowords c_x0otapeowords A_x0oops c_x0oops A_x0ovalues c_x0ovalues A_x0oblocks c_x0oblocks b_x1 A_x1oops c_x1oops A_x1oblocks c_x1oblocks A_x1oval c_x1oval A_x1otapel c_x1otapel r) (.bool true) hs rfl (by kernel_rfl) (by obtain rfl := Option.some.inj hm; exact ⟨A_294, c_295, A_297, c_298, A_300, c_301, A_303, c_304, A_307, c_308, A_310, c_311, A_313, c_314, A_316, c_317, rfl, (Own.to hs.own [0, 1, 2, 3, 4, 5, 6, 7, 8, 9, 10] 11 (by kernel_rfl) (by kernel_rfl))⟩)
  refine Vk.seq fun K6 hK6 => ?_
  refine Vk.region ?_
  refine Vk.pures 1 [(12, .pointer (some ⟨b_2, 0, none⟩))] hs (by kernel_rfl) fun a hs => ?_
  refine Vk.step (Vk.value (some 13) (.int .i64 x2.kind) hs (by kernel_rfl) (op := (.load 3 (.tmp 12))) (by kernel_rfl) (fun o ho => run_load1 (b := b_2) (off := 0) (c := C.int .i64 x2.kind) ho (by kernel_rfl) (by kernel_rfl) (Cell.own 1 rfl (by kernel_rfl)) _ hs.own) fun a hs => ?_)
  replace hs := hs.pick [0, 1, 5, 7, 13] (L' := [(0, .pointer (some ⟨b_x0, 0, none⟩)), (1, .pointer (some ⟨b_x1, 0, none⟩)), (5, .pointer (some ⟨b_2, 0, none⟩)), (7, .pointer (some ⟨b_4, 0, none⟩)), (13, .int .i64 x2.kind)]) (by kernel_rfl)
  refine Vk.done (by kernel_rfl) ?_
  refine hK6 _ _ ?_
  clear hK6
  refine wp_block ?_
  refine Vk.seq fun K7 hK7 => ?_
  refine Vk.region ?_
  refine Vk.pures 2 [(14, .bool (x2.kind == 0)), (15, .bool (x2.kind == 0))] hs (by kernel_rfl) fun a hs => ?_
  replace hs := hs.pick [0, 1, 5, 7, 13, 14] (L' := [(0, .pointer (some ⟨b_x0, 0, none⟩)), (1, .pointer (some ⟨b_x1, 0, none⟩)), (5, .pointer (some ⟨b_2, 0, none⟩)), (7, .pointer (some ⟨b_4, 0, none⟩)), (13, .int .i64 x2.kind), (14, .bool (x2.kind == 0))]) (by kernel_rfl)
  refine Vk.done (by kernel_rfl) ?_
  refine hK7 _ _ ?_
  clear hK7
  refine Vk.condS (b := x2.kind == 0) hs (by kernel_rfl) (by kernel_rfl) (fun hb => ?_) (fun hb => ?_)
  · replace hm := bif_t hm hb
    refine Vk.seq fun K8 hK8 => ?_
    obtain ⟨C_9, hC_9⟩ : ∃ X0 : List HP, X0 = (pt b_4 (blk (Tapi_Op.cells x2.o) 32) :: pt b_2 (blk (Tvisorlaw19_Act.cells x2) 111) :: pt b_x1 (blk (Tvisorref19_M.obj x1 A_x1oops c_x1oops A_x1oblocks c_x1oblocks A_x1oval c_x1oval A_x1otapel c_x1otapel) 123) :: rowp A_x1oops c_x1oops 32 6 Tapi_Op.cells x1.ops :: rowp A_x1oblocks c_x1oblocks 144 3 Tapi_Span.cells x1.blocks :: rowp A_x1oval c_x1oval 23 1 (eI .u64) x1.val :: rdp κ A_x1otapel c_x1otapel 1 (eI .u64) x1.tape.l :: S) := ⟨_, rfl⟩
    refine Vk.drawnT 9 κ C_9 hs (by kernel_rfl) fun w hs => ?_
    have hcz : Own κ w (pt b_4 (blk (Tapi_Op.cells x2.o) 32) :: pt b_2 (blk (Tvisorlaw19_Act.cells x2) 111) :: pt b_x1 (blk (Tvisorref19_M.obj x1 A_x1oops c_x1oops A_x1oblocks c_x1oblocks A_x1oval c_x1oval A_x1otapel c_x1otapel) 123) :: rowp A_x1oops c_x1oops 32 6 Tapi_Op.cells x1.ops :: rowp A_x1oblocks c_x1oblocks 144 3 Tapi_Span.cells x1.blocks :: rowp A_x1oval c_x1oval 23 1 (eI .u64) x1.val :: rdp κ A_x1otapel c_x1otapel 1 (eI .u64) x1.tape.l :: S) := (Own.to hs.own [0, 1, 8, 9, 10, 11, 12] 13 (by kernel_rfl) (by kernel_rfl))
    have hcl : Own κ w C_9 := by rw [hC_9]; exact hcz
    refine Vk.dPuresT [0, 2, 5, 7] [(23, .pointer (some ⟨b_2, 7, none⟩)), (21, .pointer (some ⟨b_x1, 0, none⟩)), (18, .pointer (some ⟨b_2, 7, none⟩)), (16, .pointer (some ⟨b_x0, 0, none⟩))] hs (by kernel_rfl) (by repeat' (first | exact Vk.Calm.post | refine Vk.Calm.then ?_ | refine Vk.Calm.inBlock ?_)) hcl (by kernel_rfl) (by kernel_rfl) (fuel := 8) rfl fun a hs => ?_
    refine Vk.dTakeT (i := 1) (some 17) (.agg (vals [C.int .i64 x2.o.kind, C.int .i64 x2.o.dom, C.int .i64 x2.o.a, C.int .i64 x2.o.b, C.int .i64 x2.o.d, C.int .u64 x2.o.c])) hs (by kernel_rfl) (by repeat' (first | exact Vk.Calm.post | refine Vk.Calm.then ?_ | refine Vk.Calm.inBlock ?_)) hcl (by kernel_rfl) (by kernel_rfl) (op := (.load 32 (.tmp 7))) (by kernel_rfl) (by kernel_rfl) (fun w hw o ho => by rw [hC_9] at hw; exact run_loadN (cs := [C.int .i64 x2.o.kind, C.int .i64 x2.o.dom, C.int .i64 x2.o.a, C.int .i64 x2.o.b, C.int .i64 x2.o.d, C.int .u64 x2.o.c]) ho (by kernel_rfl) (by kernel_rfl) rfl (CellsAt.all 0 rfl) _ hw) fun a hs => ?_
    refine Vk.dTakeT (i := 3) (some 19) (.int .u64 x2.x) hs (by kernel_rfl) (by repeat' (first | exact Vk.Calm.post | refine Vk.Calm.then ?_ | refine Vk.Calm.inBlock ?_)) hcl (by kernel_rfl) (by kernel_rfl) (op := (.load 23 (.tmp 18))) (by kernel_rfl) (by kernel_rfl) (fun w hw o ho => by rw [hC_9] at hw; exact run_load1 (b := b_2) (off := 7) (c := C.int .u64 x2.x) ho (by kernel_rfl) (by kernel_rfl) (Cell.own 1 rfl (by kernel_rfl)) _ hw) fun a hs => ?_
    refine Vk.dTakeT (i := 6) (some 22) (.agg (vals [C.int .i64 x2.o.kind, C.int .i64 x2.o.dom, C.int .i64 x2.o.a, C.int .i64 x2.o.b, C.int .i64 x2.o.d, C.int .u64 x2.o.c])) hs (by kernel_rfl) (by repeat' (first | exact Vk.Calm.post | refine Vk.Calm.then ?_ | refine Vk.Calm.inBlock ?_)) hcl (by kernel_rfl) (by kernel_rfl) (op := (.load 32 (.tmp 7))) (by kernel_rfl) (by kernel_rfl) (fun w hw o ho => by rw [hC_9] at hw; exact run_loadN (cs := [C.int .i64 x2.o.kind, C.int .i64 x2.o.dom, C.int .i64 x2.o.a, C.int .i64 x2.o.b, C.int .i64 x2.o.d, C.int .u64 x2.o.c]) ho (by kernel_rfl) (by kernel_rfl) rfl (CellsAt.all 0 rfl) _ hw) fun a hs => ?_
    refine Vk.dTakeT (i := 8) (some 24) (.int .u64 x2.x) hs (by kernel_rfl) (by repeat' (first | exact Vk.Calm.post | refine Vk.Calm.then ?_ | refine Vk.Calm.inBlock ?_)) hcl (by kernel_rfl) (by kernel_rfl) (op := (.load 23 (.tmp 23))) (by kernel_rfl) (by kernel_rfl) (fun w hw o ho => by rw [hC_9] at hw; exact run_load1 (b := b_2) (off := 7) (c := C.int .u64 x2.x) ho (by kernel_rfl) (by kernel_rfl) (Cell.own 1 rfl (by kernel_rfl)) _ hw) fun a hs => ?_
    obtain ⟨v_12, h_11, hm⟩ := bind_t hm
    refine Vk.dOnly (i := 4) (by kernel_rfl) (Vk.call (some 20) 60 #[.pointer (some ⟨b_x0, 0, none⟩), .agg (vals [C.int .i64 x2.o.kind, C.int .i64 x2.o.dom, C.int .i64 x2.o.a, C.int .i64 x2.o.b, C.int .i64 x2.o.d, C.int .u64 x2.o.c]), .int .u64 x2.x] hs (by kernel_rfl) (by kernel_rfl) (by kernel_rfl) ?_)
    refine (wire_Machine_Do.ok k x0 x2.o x2.x v_12 h_11 κ w (pt b_4 (blk (Tapi_Op.cells x2.o) 32) :: pt b_2 (blk (Tvisorlaw19_Act.cells x2) 111) :: pt b_x1 (blk (Tvisorref19_M.obj x1 A_x1oops c_x1oops A_x1oblocks c_x1oblocks A_x1oval c_x1oval A_x1otapel c_x1otapel) 123) :: rowp A_x1oops c_x1oops 32 6 Tapi_Op.cells x1.ops :: rowp A_x1oblocks c_x1oblocks 144 3 Tapi_Span.cells x1.blocks :: rowp A_x1oval c_x1oval 23 1 (eI .u64) x1.val :: rdp κ A_x1otapel c_x1otapel 1 (eI .u64) x1.tape.l :: S) b_x0 b_x0otape A_x0otapeowords c_x0otapeowords A_x0oops c_x0oops A_x0ovalues c_x0ovalues A_x0oblocks c_x0oblocks (Own.to hs.own [2, 3, 4, 5, 6, 7, 0, 1, 8, 9, 10, 11, 12] 13 (by kernel_rfl) (by kernel_rfl))).mono ?_
    rintro _ w ⟨Ar10o0otapeowords_13, cr10o0otapeowords_14, Ar10o0oops_15, cr10o0oops_16, Ar10o0ovalues_17, cr10o0ovalues_18, Ar10o0oblocks_19, cr10o0oblocks_20, rfl, how⟩
    refine ⟨_, _, _, rfl, how, fun a hs => ?_⟩
    replace hcl : Own κ w C_9 := by rw [hC_9]; exact (Own.to hs.own [6, 7, 8, 9, 10, 11, 12] 13 (by kernel_rfl) (by kernel_rfl))
    refine ⟨fun _ => hcl, ?_⟩
    obtain ⟨v_23, h_22, hm⟩ := bind_t hm
    refine Vk.dOnly (i := 9) (by kernel_rfl) (Vk.call (some 25) 103 #[.pointer (some ⟨b_x1, 0, none⟩), .agg (vals [C.int .i64 x2.o.kind, C.int .i64 x2.o.dom, C.int .i64 x2.o.a, C.int .i64 x2.o.b, C.int .i64 x2.o.d, C.int .u64 x2.o.c]), .int .u64 x2.x] hs (by kernel_rfl) (by kernel_rfl) (by kernel_rfl) ?_)
    refine (visorref19_M_Do.ok k x1 x2.o x2.x v_23 h_22 κ w (pt b_x0 (blk (Twire_Machine.obj v_12.2 b_x0otape Ar10o0oops_15 cr10o0oops_16 Ar10o0ovalues_17 cr10o0ovalues_18 Ar10o0oblocks_19 cr10o0oblocks_20) 151) :: pto v_12.2.dry b_x0otape (blk (Ttape_Tape.obj v_12.2.tape Ar10o0otapeowords_13 cr10o0otapeowords_14) 158) :: rowp Ar10o0otapeowords_13 cr10o0otapeowords_14 23 1 (eI .u64) v_12.2.tape.words :: rowp Ar10o0oops_15 cr10o0oops_16 32 6 Tapi_Op.cells v_12.2.ops :: rowp Ar10o0ovalues_17 cr10o0ovalues_18 23 1 (eI .u64) v_12.2.values :: rowp Ar10o0oblocks_19 cr10o0oblocks_20 144 3 Tapi_Span.cells v_12.2.blocks :: pt b_4 (blk (Tapi_Op.cells x2.o) 32) :: pt b_2 (blk (Tvisorlaw19_Act.cells x2) 111) :: S) b_x1 A_x1oops c_x1oops A_x1oblocks c_x1oblocks A_x1oval c_x1oval A_x1otapel c_x1otapel (Own.to hs.own [8, 9, 10, 11, 12, 0, 1, 2, 3, 4, 5, 6, 7] 13 (by kernel_rfl) (by kernel_rfl))).mono ?_
    rintro _ w ⟨Ar21o0oops_24, cr21o0oops_25, Ar21o0oblocks_26, cr21o0oblocks_27, Ar21o0oval_28, cr21o0oval_29, Ar21o0otapel_30, cr21o0otapel_31, rfl, how⟩
    refine ⟨_, _, _, rfl, how, fun a hs => ?_⟩
    refine ⟨fun h => absurd h (by decide), ?_⟩
    refine Vk.dOnly (i := 10) (by kernel_rfl) (Vk.dPure1 [(26, .bool (v_12.1 == v_23.1))] hs (by kernel_rfl) fun a hs => ?_)
    refine ⟨fun h => absurd h (by decide), ?_⟩
    refine Vk.dOnly (i := 11) (by kernel_rfl) (Vk.dPure1 [(6, .bool (v_12.1 == v_23.1))] hs (by kernel_rfl) fun a hs => ?_)
    refine ⟨fun h => absurd h (by decide), ?_⟩
    replace hs := hs.pick [6] (L' := [(6, .bool (v_12.1 == v_23.1))]) (by kernel_rfl)
    refine Vk.dDone (by kernel_rfl) ?_
    refine hK8 _ _ ?_
    clear hK8
    refine wp_ret ?_
    exact Vk.ret1 (P := Try.prog) (fn := Try.f70) (R := visorlaw19_does.R κ S x0 x1 x2 b_x0 b_x0otape A_x0otapeowords c_x0otapeowords A_x0oops c_x0oops A_x0ovalues c_x0ovalues A_x0oblocks c_x0oblocks b_x1 A_x1oops c_x1oops A_x1oblocks c_x1oblocks A_x1oval c_x1oval A_x1otapel c_x1otapel r) (.bool (v_12.1 == v_23.1)) hs rfl (by kernel_rfl) (by obtain rfl := Option.some.inj hm; exact ⟨Ar10o0otapeowords_13, cr10o0otapeowords_14, Ar10o0oops_15, cr10o0oops_16, Ar10o0ovalues_17, cr10o0ovalues_18, Ar10o0oblocks_19, cr10o0oblocks_20, Ar21o0oops_24, cr21o0oops_25, Ar21o0oblocks_26, cr21o0oblocks_27, Ar21o0oval_28, cr21o0oval_29, Ar21o0otapel_30, cr21o0otapel_31, rfl, (Own.to hs.own [5, 6, 7, 8, 9, 10, 0, 1, 2, 3, 4] 13 (by kernel_rfl) (by kernel_rfl))⟩)
  · replace hm := bif_f hm hb
    refine Vk.seq fun K32 hK32 => ?_
    refine Vk.region ?_
    refine Vk.pures 2 [(27, .bool (x2.kind == 1)), (28, .bool (x2.kind == 1))] hs (by kernel_rfl) fun a hs => ?_
    replace hs := hs.pick [0, 1, 5, 7, 13, 27] (L' := [(0, .pointer (some ⟨b_x0, 0, none⟩)), (1, .pointer (some ⟨b_x1, 0, none⟩)), (5, .pointer (some ⟨b_2, 0, none⟩)), (7, .pointer (some ⟨b_4, 0, none⟩)), (13, .int .i64 x2.kind), (27, .bool (x2.kind == 1))]) (by kernel_rfl)
    refine Vk.done (by kernel_rfl) ?_
    refine hK32 _ _ ?_
    clear hK32
    refine Vk.condS (b := x2.kind == 1) hs (by kernel_rfl) (by kernel_rfl) (fun hb => ?_) (fun hb => ?_)
    · replace hm := bif_t hm hb
      refine Vk.seq fun K33 hK33 => ?_
      obtain ⟨C_34, hC_34⟩ : ∃ X0 : List HP, X0 = (pt b_4 (blk (Tapi_Op.cells x2.o) 32) :: pt b_2 (blk (Tvisorlaw19_Act.cells x2) 111) :: pt b_x1 (blk (Tvisorref19_M.obj x1 A_x1oops c_x1oops A_x1oblocks c_x1oblocks A_x1oval c_x1oval A_x1otapel c_x1otapel) 123) :: rowp A_x1oops c_x1oops 32 6 Tapi_Op.cells x1.ops :: rowp A_x1oblocks c_x1oblocks 144 3 Tapi_Span.cells x1.blocks :: rowp A_x1oval c_x1oval 23 1 (eI .u64) x1.val :: rdp κ A_x1otapel c_x1otapel 1 (eI .u64) x1.tape.l :: S) := ⟨_, rfl⟩
      refine Vk.drawnT 8 κ C_34 hs (by kernel_rfl) fun w hs => ?_
      have hcz : Own κ w (pt b_4 (blk (Tapi_Op.cells x2.o) 32) :: pt b_2 (blk (Tvisorlaw19_Act.cells x2) 111) :: pt b_x1 (blk (Tvisorref19_M.obj x1 A_x1oops c_x1oops A_x1oblocks c_x1oblocks A_x1oval c_x1oval A_x1otapel c_x1otapel) 123) :: rowp A_x1oops c_x1oops 32 6 Tapi_Op.cells x1.ops :: rowp A_x1oblocks c_x1oblocks 144 3 Tapi_Span.cells x1.blocks :: rowp A_x1oval c_x1oval 23 1 (eI .u64) x1.val :: rdp κ A_x1otapel c_x1otapel 1 (eI .u64) x1.tape.l :: S) := (Own.to hs.own [0, 1, 8, 9, 10, 11, 12] 13 (by kernel_rfl) (by kernel_rfl))
      have hcl : Own κ w C_34 := by rw [hC_34]; exact hcz
      refine Vk.dPuresT [0, 1, 4, 5] [(34, .pointer (some ⟨b_4, 1, none⟩)), (33, .pointer (some ⟨b_x1, 0, none⟩)), (30, .pointer (some ⟨b_4, 1, none⟩)), (29, .pointer (some ⟨b_x0, 0, none⟩))] hs (by kernel_rfl) (by repeat' (first | exact Vk.Calm.post | refine Vk.Calm.then ?_ | refine Vk.Calm.inBlock ?_)) hcl (by kernel_rfl) (by kernel_rfl) (fuel := 7) rfl fun a hs => ?_
      refine Vk.dTakeT (i := 2) (some 31) (.int .i64 x2.o.dom) hs (by kernel_rfl) (by repeat' (first | exact Vk.Calm.post | refine Vk.Calm.then ?_ | refine Vk.Calm.inBlock ?_)) hcl (by kernel_rfl) (by kernel_rfl) (op := (.load 3 (.tmp 30))) (by kernel_rfl) (by kernel_rfl) (fun w hw o ho => by rw [hC_34] at hw; exact run_load1 (b := b_4) (off := 1) (c := C.int .i64 x2.o.dom) ho (by kernel_rfl) (by kernel_rfl) (Cell.own 0 rfl (by kernel_rfl)) _ hw) fun a hs => ?_
      refine Vk.dTakeT (i := 6) (some 35) (.int .i64 x2.o.dom) hs (by kernel_rfl) (by repeat' (first | exact Vk.Calm.post | refine Vk.Calm.then ?_ | refine Vk.Calm.inBlock ?_)) hcl (by kernel_rfl) (by kernel_rfl) (op := (.load 3 (.tmp 34))) (by kernel_rfl) (by kernel_rfl) (fun w hw o ho => by rw [hC_34] at hw; exact run_load1 (b := b_4) (off := 1) (c := C.int .i64 x2.o.dom) ho (by kernel_rfl) (by kernel_rfl) (Cell.own 0 rfl (by kernel_rfl)) _ hw) fun a hs => ?_
      obtain ⟨v_37, h_36, hm⟩ := bind_t hm
      refine Vk.dOnly (i := 3) (by kernel_rfl) (Vk.call (some 32) 89 #[.pointer (some ⟨b_x0, 0, none⟩), .int .i64 x2.o.dom] hs (by kernel_rfl) (by kernel_rfl) (by kernel_rfl) ?_)
      refine (wire_Machine_Rand.ok k x0 x2.o.dom v_37 h_36 κ w (pt b_4 (blk (Tapi_Op.cells x2.o) 32) :: pt b_2 (blk (Tvisorlaw19_Act.cells x2) 111) :: pt b_x1 (blk (Tvisorref19_M.obj x1 A_x1oops c_x1oops A_x1oblocks c_x1oblocks A_x1oval c_x1oval A_x1otapel c_x1otapel) 123) :: rowp A_x1oops c_x1oops 32 6 Tapi_Op.cells x1.ops :: rowp A_x1oblocks c_x1oblocks 144 3 Tapi_Span.cells x1.blocks :: rowp A_x1oval c_x1oval 23 1 (eI .u64) x1.val :: rdp κ A_x1otapel c_x1otapel 1 (eI .u64) x1.tape.l :: S) b_x0 b_x0otape A_x0otapeowords c_x0otapeowords A_x0oops c_x0oops A_x0ovalues c_x0ovalues A_x0oblocks c_x0oblocks (Own.to hs.own [2, 3, 4, 5, 6, 7, 0, 1, 8, 9, 10, 11, 12] 13 (by kernel_rfl) (by kernel_rfl))).mono ?_
      rintro _ w ⟨Ar35o0otapeowords_38, cr35o0otapeowords_39, Ar35o0oops_40, cr35o0oops_41, Ar35o0ovalues_42, cr35o0ovalues_43, Ar35o0oblocks_44, cr35o0oblocks_45, rfl, how⟩
      refine ⟨_, _, _, rfl, how, fun a hs => ?_⟩
      replace hcl : Own κ w C_34 := by rw [hC_34]; exact (Own.to hs.own [6, 7, 8, 9, 10, 11, 12] 13 (by kernel_rfl) (by kernel_rfl))
      refine ⟨fun _ => hcl, ?_⟩
      obtain ⟨v_48, h_47, hm⟩ := bind_t hm
      refine Vk.dOnly (i := 7) (by kernel_rfl) (Vk.call (some 36) 104 #[.int .i64 1, .int .i64 x2.o.dom, .int .i64 (-1), .int .i64 (-1), .int .u64 0] hs (by kernel_rfl) (by kernel_rfl) (by kernel_rfl) ?_)
      refine (visorref19_Op.ok k 1 x2.o.dom (-1) (-1) 0 v_48 h_47 κ w (pt b_x0 (blk (Twire_Machine.obj v_37.2 b_x0otape Ar35o0oops_40 cr35o0oops_41 Ar35o0ovalues_42 cr35o0ovalues_43 Ar35o0oblocks_44 cr35o0oblocks_45) 151) :: pto v_37.2.dry b_x0otape (blk (Ttape_Tape.obj v_37.2.tape Ar35o0otapeowords_38 cr35o0otapeowords_39) 158) :: rowp Ar35o0otapeowords_38 cr35o0otapeowords_39 23 1 (eI .u64) v_37.2.tape.words :: rowp Ar35o0oops_40 cr35o0oops_41 32 6 Tapi_Op.cells v_37.2.ops :: rowp Ar35o0ovalues_42 cr35o0ovalues_43 23 1 (eI .u64) v_37.2.values :: rowp Ar35o0oblocks_44 cr35o0oblocks_45 144 3 Tapi_Span.cells v_37.2.blocks :: pt b_4 (blk (Tapi_Op.cells x2.o) 32) :: pt b_2 (blk (Tvisorlaw19_Act.cells x2) 111) :: pt b_x1 (blk (Tvisorref19_M.obj x1 A_x1oops c_x1oops A_x1oblocks c_x1oblocks A_x1oval c_x1oval A_x1otapel c_x1otapel) 123) :: rowp A_x1oops c_x1oops 32 6 Tapi_Op.cells x1.ops :: rowp A_x1oblocks c_x1oblocks 144 3 Tapi_Span.cells x1.blocks :: rowp A_x1oval c_x1oval 23 1 (eI .u64) x1.val :: rdp κ A_x1otapel c_x1otapel 1 (eI .u64) x1.tape.l :: S) hs.own).mono ?_
      rintro _ w ⟨rfl, how⟩
      refine ⟨_, _, _, rfl, how, fun a hs => ?_⟩
      replace hcl : Own κ w C_34 := by rw [hC_34]; exact (Own.to hs.own [6, 7, 8, 9, 10, 11, 12] 13 (by kernel_rfl) (by kernel_rfl))
      refine ⟨fun _ => hcl, ?_⟩
      obtain ⟨v_51, h_50, hm⟩ := bind_t hm
      refine Vk.dOnly (i := 8) (by kernel_rfl) (Vk.call (some 37) 103 #[.pointer (some ⟨b_x1, 0, none⟩), .agg (vals [C.int .i64 v_48.kind, C.int .i64 v_48.dom, C.int .i64 v_48.a, C.int .i64 v_48.b, C.int .i64 v_48.d, C.int .u64 v_48.c]), .int .u64 0] hs (by kernel_rfl) (by kernel_rfl) (by kernel_rfl) ?_)
      refine (visorref19_M_Do.ok k x1 v_48 0 v_51 h_50 κ w (pt b_x0 (blk (Twire_Machine.obj v_37.2 b_x0otape Ar35o0oops_40 cr35o0oops_41 Ar35o0ovalues_42 cr35o0ovalues_43 Ar35o0oblocks_44 cr35o0oblocks_45) 151) :: pto v_37.2.dry b_x0otape (blk (Ttape_Tape.obj v_37.2.tape Ar35o0otapeowords_38 cr35o0otapeowords_39) 158) :: rowp Ar35o0otapeowords_38 cr35o0otapeowords_39 23 1 (eI .u64) v_37.2.tape.words :: rowp Ar35o0oops_40 cr35o0oops_41 32 6 Tapi_Op.cells v_37.2.ops :: rowp Ar35o0ovalues_42 cr35o0ovalues_43 23 1 (eI .u64) v_37.2.values :: rowp Ar35o0oblocks_44 cr35o0oblocks_45 144 3 Tapi_Span.cells v_37.2.blocks :: pt b_4 (blk (Tapi_Op.cells x2.o) 32) :: pt b_2 (blk (Tvisorlaw19_Act.cells x2) 111) :: S) b_x1 A_x1oops c_x1oops A_x1oblocks c_x1oblocks A_x1oval c_x1oval A_x1otapel c_x1otapel (Own.to hs.own [8, 9, 10, 11, 12, 0, 1, 2, 3, 4, 5, 6, 7] 13 (by kernel_rfl) (by kernel_rfl))).mono ?_
      rintro _ w ⟨Ar49o0oops_52, cr49o0oops_53, Ar49o0oblocks_54, cr49o0oblocks_55, Ar49o0oval_56, cr49o0oval_57, Ar49o0otapel_58, cr49o0otapel_59, rfl, how⟩
      refine ⟨_, _, _, rfl, how, fun a hs => ?_⟩
      refine ⟨fun h => absurd h (by decide), ?_⟩
      refine Vk.dOnly (i := 9) (by kernel_rfl) (Vk.dPure1 [(38, .bool (v_37.1 == v_51.1))] hs (by kernel_rfl) fun a hs => ?_)
      refine ⟨fun h => absurd h (by decide), ?_⟩
      refine Vk.dOnly (i := 10) (by kernel_rfl) (Vk.dPure1 [(6, .bool (v_37.1 == v_51.1))] hs (by kernel_rfl) fun a hs => ?_)
      refine ⟨fun h => absurd h (by decide), ?_⟩
      replace hs := hs.pick [6] (L' := [(6, .bool (v_37.1 == v_51.1))]) (by kernel_rfl)
      refine Vk.dDone (by kernel_rfl) ?_
      refine hK33 _ _ ?_
      clear hK33
      refine wp_ret ?_
      exact Vk.ret1 (P := Try.prog) (fn := Try.f70) (R := visorlaw19_does.R κ S x0 x1 x2 b_x0 b_x0otape A_x0otapeowords c_x0otapeowords A_x0oops c_x0oops A_x0ovalues c_x0ovalues A_x0oblocks c_x0oblocks b_x1 A_x1oops c_x1oops A_x1oblocks c_x1oblocks A_x1oval c_x1oval A_x1otapel c_x1otapel r) (.bool (v_37.1 == v_51.1)) hs rfl (by kernel_rfl) (by obtain rfl := Option.some.inj hm; exact ⟨Ar35o0otapeowords_38, cr35o0otapeowords_39, Ar35o0oops_40, cr35o0oops_41, Ar35o0ovalues_42, cr35o0ovalues_43, Ar35o0oblocks_44, cr35o0oblocks_45, Ar49o0oops_52, cr49o0oops_53, Ar49o0oblocks_54, cr49o0oblocks_55, Ar49o0oval_56, cr49o0oval_57, Ar49o0otapel_58, cr49o0otapel_59, rfl, (Own.to hs.own [5, 6, 7, 8, 9, 10, 0, 1, 2, 3, 4] 13 (by kernel_rfl) (by kernel_rfl))⟩)
    · replace hm := bif_f hm hb
      refine Vk.seq fun K60 hK60 => ?_
      refine Vk.region ?_
      refine Vk.pures 2 [(39, .bool (x2.kind == 2)), (40, .bool (x2.kind == 2))] hs (by kernel_rfl) fun a hs => ?_
      replace hs := hs.pick [0, 1, 5, 7, 13, 39] (L' := [(0, .pointer (some ⟨b_x0, 0, none⟩)), (1, .pointer (some ⟨b_x1, 0, none⟩)), (5, .pointer (some ⟨b_2, 0, none⟩)), (7, .pointer (some ⟨b_4, 0, none⟩)), (13, .int .i64 x2.kind), (39, .bool (x2.kind == 2))]) (by kernel_rfl)
      refine Vk.done (by kernel_rfl) ?_
      refine hK60 _ _ ?_
      clear hK60
      refine Vk.condS (b := x2.kind == 2) hs (by kernel_rfl) (by kernel_rfl) (fun hb => ?_) (fun hb => ?_)
      · replace hm := bif_t hm hb
        refine Vk.seq fun K61 hK61 => ?_
        obtain ⟨C_62, hC_62⟩ : ∃ X0 : List HP, X0 = (pt b_4 (blk (Tapi_Op.cells x2.o) 32) :: pt b_2 (blk (Tvisorlaw19_Act.cells x2) 111) :: pt b_x1 (blk (Tvisorref19_M.obj x1 A_x1oops c_x1oops A_x1oblocks c_x1oblocks A_x1oval c_x1oval A_x1otapel c_x1otapel) 123) :: rowp A_x1oops c_x1oops 32 6 Tapi_Op.cells x1.ops :: rowp A_x1oblocks c_x1oblocks 144 3 Tapi_Span.cells x1.blocks :: rowp A_x1oval c_x1oval 23 1 (eI .u64) x1.val :: rdp κ A_x1otapel c_x1otapel 1 (eI .u64) x1.tape.l :: S) := ⟨_, rfl⟩
        refine Vk.drawnT 21 κ C_62 hs (by kernel_rfl) fun w hs => ?_
        have hcz : Own κ w (pt b_4 (blk (Tapi_Op.cells x2.o) 32) :: pt b_2 (blk (Tvisorlaw19_Act.cells x2) 111) :: pt b_x1 (blk (Tvisorref19_M.obj x1 A_x1oops c_x1oops A_x1oblocks c_x1oblocks A_x1oval c_x1oval A_x1otapel c_x1otapel) 123) :: rowp A_x1oops c_x1oops 32 6 Tapi_Op.cells x1.ops :: rowp A_x1oblocks c_x1oblocks 144 3 Tapi_Span.cells x1.blocks :: rowp A_x1oval c_x1oval 23 1 (eI .u64) x1.val :: rdp κ A_x1otapel c_x1otapel 1 (eI .u64) x1.tape.l :: S) := (Own.to hs.own [0, 1, 8, 9, 10, 11, 12] 13 (by kernel_rfl) (by kernel_rfl))
        have hcl : Own κ w C_62 := by rw [hC_62]; exact hcz
        refine Vk.dPuresT [0, 1, 3, 5, 8, 9, 11, 13, 14, 15, 19] [(60, .pointer (some ⟨b_2, 7, none⟩)), (56, .pointer (some ⟨b_x1, 2, none⟩)), (55, .pointer (some ⟨b_x1, 0, none⟩)), (54, .pointer (some ⟨b_x1, 0, none⟩)), (52, .pointer (some ⟨b_4, 3, none⟩)), (50, .pointer (some ⟨b_4, 2, none⟩)), (49, .pointer (some ⟨b_x1, 0, none⟩)), (46, .pointer (some ⟨b_4, 3, none⟩)), (44, .pointer (some ⟨b_4, 2, none⟩)), (42, .pointer (some ⟨b_2, 7, none⟩)), (41, .pointer (some ⟨b_x0, 0, none⟩))] hs (by kernel_rfl) (by repeat' (first | exact Vk.Calm.post | refine Vk.Calm.then ?_ | refine Vk.Calm.inBlock ?_)) hcl (by kernel_rfl) (by kernel_rfl) (fuel := 13) rfl fun a hs => ?_
        refine Vk.dTakeT (i := 2) (some 43) (.int .u64 x2.x) hs (by kernel_rfl) (by repeat' (first | exact Vk.Calm.post | refine Vk.Calm.then ?_ | refine Vk.Calm.inBlock ?_)) hcl (by kernel_rfl) (by kernel_rfl) (op := (.load 23 (.tmp 42))) (by kernel_rfl) (by kernel_rfl) (fun w hw o ho => by rw [hC_62] at hw; exact run_load1 (b := b_2) (off := 7) (c := C.int .u64 x2.x) ho (by kernel_rfl) (by kernel_rfl) (Cell.own 1 rfl (by kernel_rfl)) _ hw) fun a hs => ?_
        refine Vk.dTakeT (i := 4) (some 45) (.int .i64 x2.o.a) hs (by kernel_rfl) (by repeat' (first | exact Vk.Calm.post | refine Vk.Calm.then ?_ | refine Vk.Calm.inBlock ?_)) hcl (by kernel_rfl) (by kernel_rfl) (op := (.load 3 (.tmp 44))) (by kernel_rfl) (by kernel_rfl) (fun w hw o ho => by rw [hC_62] at hw; exact run_load1 (b := b_4) (off := 2) (c := C.int .i64 x2.o.a) ho (by kernel_rfl) (by kernel_rfl) (Cell.own 0 rfl (by kernel_rfl)) _ hw) fun a hs => ?_
        refine Vk.dTakeT (i := 6) (some 47) (.int .i64 x2.o.b) hs (by kernel_rfl) (by repeat' (first | exact Vk.Calm.post | refine Vk.Calm.then ?_ | refine Vk.Calm.inBlock ?_)) hcl (by kernel_rfl) (by kernel_rfl) (op := (.load 3 (.tmp 46))) (by kernel_rfl) (by kernel_rfl) (fun w hw o ho => by rw [hC_62] at hw; exact run_load1 (b := b_4) (off := 3) (c := C.int .i64 x2.o.b) ho (by kernel_rfl) (by kernel_rfl) (Cell.own 0 rfl (by kernel_rfl)) _ hw) fun a hs => ?_
        refine Vk.dTakeT (i := 10) (some 51) (.int .i64 x2.o.a) hs (by kernel_rfl) (by repeat' (first | exact Vk.Calm.post | refine Vk.Calm.then ?_ | refine Vk.Calm.inBlock ?_)) hcl (by kernel_rfl) (by kernel_rfl) (op := (.load 3 (.tmp 50))) (by kernel_rfl) (by kernel_rfl) (fun w hw o ho => by rw [hC_62] at hw; exact run_load1 (b := b_4) (off := 2) (c := C.int .i64 x2.o.a) ho (by kernel_rfl) (by kernel_rfl) (Cell.own 0 rfl (by kernel_rfl)) _ hw) fun a hs => ?_
        refine Vk.dTakeT (i := 12) (some 53) (.int .i64 x2.o.b) hs (by kernel_rfl) (by repeat' (first | exact Vk.Calm.post | refine Vk.Calm.then ?_ | refine Vk.Calm.inBlock ?_)) hcl (by kernel_rfl) (by kernel_rfl) (op := (.load 3 (.tmp 52))) (by kernel_rfl) (by kernel_rfl) (fun w hw o ho => by rw [hC_62] at hw; exact run_load1 (b := b_4) (off := 3) (c := C.int .i64 x2.o.b) ho (by kernel_rfl) (by kernel_rfl) (Cell.own 0 rfl (by kernel_rfl)) _ hw) fun a hs => ?_
        refine Vk.dTakeT (i := 16) (some 57) (.int .i64 x1.words) hs (by kernel_rfl) (by repeat' (first | exact Vk.Calm.post | refine Vk.Calm.then ?_ | refine Vk.Calm.inBlock ?_)) hcl (by kernel_rfl) (by kernel_rfl) (op := (.load 3 (.tmp 56))) (by kernel_rfl) (by kernel_rfl) (fun w hw o ho => by rw [hC_62] at hw; exact run_load1 (b := b_x1) (off := 2) (c := C.int .i64 x1.words) ho (by kernel_rfl) (by kernel_rfl) (Cell.own 2 rfl (by kernel_rfl)) _ hw) fun a hs => ?_
        refine Vk.dPuresT [17] [(58, .int .u64 (IntKind.u64.wrap x1.words))] hs (by kernel_rfl) (by repeat' (first | exact Vk.Calm.post | refine Vk.Calm.then ?_ | refine Vk.Calm.inBlock ?_)) hcl (by kernel_rfl) (by kernel_rfl) (fuel := 6) rfl fun a hs => ?_
        refine Vk.dTakeT (i := 20) (some 61) (.int .u64 x2.x) hs (by kernel_rfl) (by repeat' (first | exact Vk.Calm.post | refine Vk.Calm.then ?_ | refine Vk.Calm.inBlock ?_)) hcl (by kernel_rfl) (by kernel_rfl) (op := (.load 23 (.tmp 60))) (by kernel_rfl) (by kernel_rfl) (fun w hw o ho => by rw [hC_62] at hw; exact run_load1 (b := b_2) (off := 7) (c := C.int .u64 x2.x) ho (by kernel_rfl) (by kernel_rfl) (Cell.own 1 rfl (by kernel_rfl)) _ hw) fun a hs => ?_
        obtain ⟨v_65, h_64, hm⟩ := bind_t hm
        refine Vk.dOnly (i := 7) (by kernel_rfl) (Vk.call (some 48) 59 #[.pointer (some ⟨b_x0, 0, none⟩), .int .u64 x2.x, .int .i64 x2.o.a, .int .i64 x2.o.b] hs (by kernel_rfl) (by kernel_rfl) (by kernel_rfl) ?_)
        refine (wire_Machine_Key.ok k x0 x2.x x2.o.a x2.o.b v_65 h_64 κ w (pt b_4 (blk (Tapi_Op.cells x2.o) 32) :: pt b_2 (blk (Tvisorlaw19_Act.cells x2) 111) :: pt b_x1 (blk (Tvisorref19_M.obj x1 A_x1oops c_x1oops A_x1oblocks c_x1oblocks A_x1oval c_x1oval A_x1otapel c_x1otapel) 123) :: rowp A_x1oops c_x1oops 32 6 Tapi_Op.cells x1.ops :: rowp A_x1oblocks c_x1oblocks 144 3 Tapi_Span.cells x1.blocks :: rowp A_x1oval c_x1oval 23 1 (eI .u64) x1.val :: rdp κ A_x1otapel c_x1otapel 1 (eI .u64) x1.tape.l :: S) b_x0 b_x0otape A_x0otapeowords c_x0otapeowords A_x0oops c_x0oops A_x0ovalues c_x0ovalues A_x0oblocks c_x0oblocks (Own.to hs.own [2, 3, 4, 5, 6, 7, 0, 1, 8, 9, 10, 11, 12] 13 (by kernel_rfl) (by kernel_rfl))).mono ?_
        rintro _ w ⟨Ar63o0otapeowords_66, cr63o0otapeowords_67, Ar63o0oops_68, cr63o0oops_69, Ar63o0ovalues_70, cr63o0ovalues_71, Ar63o0oblocks_72, cr63o0oblocks_73, rfl, how⟩
        refine ⟨_, _, _, rfl, how, fun a hs => ?_⟩
        replace hcl : Own κ w C_62 := by rw [hC_62]; exact (Own.to hs.own [6, 7, 8, 9, 10, 11, 12] 13 (by kernel_rfl) (by kernel_rfl))
        refine ⟨fun _ => hcl, ?_⟩
        obtain ⟨v_76, h_75, hm⟩ := bind_t hm
        refine Vk.dOnly (i := 18) (by kernel_rfl) (Vk.call (some 59) 104 #[.int .i64 2, .int .i64 0, .int .i64 x2.o.a, .int .i64 x2.o.b, .int .u64 (IntKind.u64.wrap x1.words)] hs (by kernel_rfl) (by kernel_rfl) (by kernel_rfl) ?_)
        refine (visorref19_Op.ok k 2 0 x2.o.a x2.o.b (IntKind.u64.wrap x1.words) v_76 h_75 κ w (pt b_x0 (blk (Twire_Machine.obj v_65.2 b_x0otape Ar63o0oops_68 cr63o0oops_69 Ar63o0ovalues_70 cr63o0ovalues_71 Ar63o0oblocks_72 cr63o0oblocks_73) 151) :: pto v_65.2.dry b_x0otape (blk (Ttape_Tape.obj v_65.2.tape Ar63o0otapeowords_66 cr63o0otapeowords_67) 158) :: rowp Ar63o0otapeowords_66 cr63o0otapeowords_67 23 1 (eI .u64) v_65.2.tape.words :: rowp Ar63o0oops_68 cr63o0oops_69 32 6 Tapi_Op.cells v_65.2.ops :: rowp Ar63o0ovalues_70 cr63o0ovalues_71 23 1 (eI .u64) v_65.2.values :: rowp Ar63o0oblocks_72 cr63o0oblocks_73 144 3 Tapi_Span.cells v_65.2.blocks :: pt b_4 (blk (Tapi_Op.cells x2.o) 32) :: pt b_2 (blk (Tvisorlaw19_Act.cells x2) 111) :: pt b_x1 (blk (Tvisorref19_M.obj x1 A_x1oops c_x1oops A_x1oblocks c_x1oblocks A_x1oval c_x1oval A_x1otapel c_x1otapel) 123) :: rowp A_x1oops c_x1oops 32 6 Tapi_Op.cells x1.ops :: rowp A_x1oblocks c_x1oblocks 144 3 Tapi_Span.cells x1.blocks :: rowp A_x1oval c_x1oval 23 1 (eI .u64) x1.val :: rdp κ A_x1otapel c_x1otapel 1 (eI .u64) x1.tape.l :: S) hs.own).mono ?_
        rintro _ w ⟨rfl, how⟩
        refine ⟨_, _, _, rfl, how, fun a hs => ?_⟩
        replace hcl : Own κ w C_62 := by rw [hC_62]; exact (Own.to hs.own [6, 7, 8, 9, 10, 11, 12] 13 (by kernel_rfl) (by kernel_rfl))
        refine ⟨fun _ => hcl, ?_⟩
        obtain ⟨v_79, h_78, hm⟩ := bind_t hm
        refine Vk.dOnly (i := 21) (by kernel_rfl) (Vk.call (some 62) 103 #[.pointer (some ⟨b_x1, 0, none⟩), .agg (vals [C.int .i64 v_76.kind, C.int .i64 v_76.dom, C.int .i64 v_76.a, C.int .i64 v_76.b, C.int .i64 v_76.d, C.int .u64 v_76.c]), .int .u64 x2.x] hs (by kernel_rfl) (by kernel_rfl) (by kernel_rfl) ?_)
        refine (visorref19_M_Do.ok k x1 v_76 x2.x v_79 h_78 κ w (pt b_x0 (blk (Twire_Machine.obj v_65.2 b_x0otape Ar63o0oops_68 cr63o0oops_69 Ar63o0ovalues_70 cr63o0ovalues_71 Ar63o0oblocks_72 cr63o0oblocks_73) 151) :: pto v_65.2.dry b_x0otape (blk (Ttape_Tape.obj v_65.2.tape Ar63o0otapeowords_66 cr63o0otapeowords_67) 158) :: rowp Ar63o0otapeowords_66 cr63o0otapeowords_67 23 1 (eI .u64) v_65.2.tape.words :: rowp Ar63o0oops_68 cr63o0oops_69 32 6 Tapi_Op.cells v_65.2.ops :: rowp Ar63o0ovalues_70 cr63o0ovalues_71 23 1 (eI .u64) v_65.2.values :: rowp Ar63o0oblocks_72 cr63o0oblocks_73 144 3 Tapi_Span.cells v_65.2.blocks :: pt b_4 (blk (Tapi_Op.cells x2.o) 32) :: pt b_2 (blk (Tvisorlaw19_Act.cells x2) 111) :: S) b_x1 A_x1oops c_x1oops A_x1oblocks c_x1oblocks A_x1oval c_x1oval A_x1otapel c_x1otapel (Own.to hs.own [8, 9, 10, 11, 12, 0, 1, 2, 3, 4, 5, 6, 7] 13 (by kernel_rfl) (by kernel_rfl))).mono ?_
        rintro _ w ⟨Ar77o0oops_80, cr77o0oops_81, Ar77o0oblocks_82, cr77o0oblocks_83, Ar77o0oval_84, cr77o0oval_85, Ar77o0otapel_86, cr77o0otapel_87, rfl, how⟩
        refine ⟨_, _, _, rfl, how, fun a hs => ?_⟩
        refine ⟨fun h => absurd h (by decide), ?_⟩
        refine Vk.dOnly (i := 22) (by kernel_rfl) (Vk.dPure1 [(63, .bool (v_65.1 == v_79.1))] hs (by kernel_rfl) fun a hs => ?_)
        refine ⟨fun h => absurd h (by decide), ?_⟩
        refine Vk.dOnly (i := 23) (by kernel_rfl) (Vk.dPure1 [(6, .bool (v_65.1 == v_79.1))] hs (by kernel_rfl) fun a hs => ?_)
        refine ⟨fun h => absurd h (by decide), ?_⟩
        replace hs := hs.pick [6] (L' := [(6, .bool (v_65.1 == v_79.1))]) (by kernel_rfl)
        refine Vk.dDone (by kernel_rfl) ?_
        refine hK61 _ _ ?_
        clear hK61
        refine wp_ret ?_
        exact Vk.ret1 (P := Try.prog) (fn := Try.f70) (R := visorlaw19_does.R κ S x0 x1 x2 b_x0 b_x0otape A_x0otapeowords c_x0otapeowords A_x0oops c_x0oops A_x0ovalues c_x0ovalues A_x0oblocks c_x0oblocks b_x1 A_x1oops c_x1oops A_x1oblocks c_x1oblocks A_x1oval c_x1oval A_x1otapel c_x1otapel r) (.bool (v_65.1 == v_79.1)) hs rfl (by kernel_rfl) (by obtain rfl := Option.some.inj hm; exact ⟨Ar63o0otapeowords_66, cr63o0otapeowords_67, Ar63o0oops_68, cr63o0oops_69, Ar63o0ovalues_70, cr63o0ovalues_71, Ar63o0oblocks_72, cr63o0oblocks_73, Ar77o0oops_80, cr77o0oops_81, Ar77o0oblocks_82, cr77o0oblocks_83, Ar77o0oval_84, cr77o0oval_85, Ar77o0otapel_86, cr77o0otapel_87, rfl, (Own.to hs.own [5, 6, 7, 8, 9, 10, 0, 1, 2, 3, 4] 13 (by kernel_rfl) (by kernel_rfl))⟩)
      · replace hm := bif_f hm hb
        refine Vk.seq fun K88 hK88 => ?_
        refine Vk.region ?_
        refine Vk.pures 2 [(64, .bool (x2.kind == 3)), (65, .bool (x2.kind == 3))] hs (by kernel_rfl) fun a hs => ?_
        replace hs := hs.pick [0, 1, 7, 13, 64] (L' := [(0, .pointer (some ⟨b_x0, 0, none⟩)), (1, .pointer (some ⟨b_x1, 0, none⟩)), (7, .pointer (some ⟨b_4, 0, none⟩)), (13, .int .i64 x2.kind), (64, .bool (x2.kind == 3))]) (by kernel_rfl)
        refine Vk.done (by kernel_rfl) ?_
        refine hK88 _ _ ?_
        clear hK88
        refine Vk.condS (b := x2.kind == 3) hs (by kernel_rfl) (by kernel_rfl) (fun hb => ?_) (fun hb => ?_)
        · replace hm := bif_t hm hb
          refine Vk.seq fun K89 hK89 => ?_
          obtain ⟨C_90, hC_90⟩ : ∃ X0 : List HP, X0 = (pt b_4 (blk (Tapi_Op.cells x2.o) 32) :: pt b_2 (blk (Tvisorlaw19_Act.cells x2) 111) :: pt b_x1 (blk (Tvisorref19_M.obj x1 A_x1oops c_x1oops A_x1oblocks c_x1oblocks A_x1oval c_x1oval A_x1otapel c_x1otapel) 123) :: rowp A_x1oops c_x1oops 32 6 Tapi_Op.cells x1.ops :: rowp A_x1oblocks c_x1oblocks 144 3 Tapi_Span.cells x1.blocks :: rowp A_x1oval c_x1oval 23 1 (eI .u64) x1.val :: rdp κ A_x1otapel c_x1otapel 1 (eI .u64) x1.tape.l :: S) := ⟨_, rfl⟩
          refine Vk.drawnT 12 κ C_90 hs (by kernel_rfl) fun w hs => ?_
          have hcz : Own κ w (pt b_4 (blk (Tapi_Op.cells x2.o) 32) :: pt b_2 (blk (Tvisorlaw19_Act.cells x2) 111) :: pt b_x1 (blk (Tvisorref19_M.obj x1 A_x1oops c_x1oops A_x1oblocks c_x1oblocks A_x1oval c_x1oval A_x1otapel c_x1otapel) 123) :: rowp A_x1oops c_x1oops 32 6 Tapi_Op.cells x1.ops :: rowp A_x1oblocks c_x1oblocks 144 3 Tapi_Span.cells x1.blocks :: rowp A_x1oval c_x1oval 23 1 (eI .u64) x1.val :: rdp κ A_x1otapel c_x1otapel 1 (eI .u64) x1.tape.l :: S) := (Own.to hs.own [0, 1, 8, 9, 10, 11, 12] 13 (by kernel_rfl) (by kernel_rfl))
          have hcl : Own κ w C_90 := by rw [hC_90]; exact hcz
          refine Vk.dPuresT [0, 1, 3, 6, 7, 9] [(75, .pointer (some ⟨b_4, 5, none⟩)), (73, .pointer (some ⟨b_4, 1, none⟩)), (72, .pointer (some ⟨b_x1, 0, none⟩)), (69, .pointer (some ⟨b_4, 5, none⟩)), (67, .pointer (some ⟨b_4, 1, none⟩)), (66, .pointer (some ⟨b_x0, 0, none⟩))] hs (by kernel_rfl) (by repeat' (first | exact Vk.Calm.post | refine Vk.Calm.then ?_ | refine Vk.Calm.inBlock ?_)) hcl (by kernel_rfl) (by kernel_rfl) (fuel := 9) rfl fun a hs => ?_
          refine Vk.dTakeT (i := 2) (some 68) (.int .i64 x2.o.dom) hs (by kernel_rfl) (by repeat' (first | exact Vk.Calm.post | refine Vk.Calm.then ?_ | refine Vk.Calm.inBlock ?_)) hcl (by kernel_rfl) (by kernel_rfl) (op := (.load 3 (.tmp 67))) (by kernel_rfl) (by kernel_rfl) (fun w hw o ho => by rw [hC_90] at hw; exact run_load1 (b := b_4) (off := 1) (c := C.int .i64 x2.o.dom) ho (by kernel_rfl) (by kernel_rfl) (Cell.own 0 rfl (by kernel_rfl)) _ hw) fun a hs => ?_
          refine Vk.dTakeT (i := 4) (some 70) (.int .u64 x2.o.c) hs (by kernel_rfl) (by repeat' (first | exact Vk.Calm.post | refine Vk.Calm.then ?_ | refine Vk.Calm.inBlock ?_)) hcl (by kernel_rfl) (by kernel_rfl) (op := (.load 23 (.tmp 69))) (by kernel_rfl) (by kernel_rfl) (fun w hw o ho => by rw [hC_90] at hw; exact run_load1 (b := b_4) (off := 5) (c := C.int .u64 x2.o.c) ho (by kernel_rfl) (by kernel_rfl) (Cell.own 0 rfl (by kernel_rfl)) _ hw) fun a hs => ?_
          refine Vk.dTakeT (i := 8) (some 74) (.int .i64 x2.o.dom) hs (by kernel_rfl) (by repeat' (first | exact Vk.Calm.post | refine Vk.Calm.then ?_ | refine Vk.Calm.inBlock ?_)) hcl (by kernel_rfl) (by kernel_rfl) (op := (.load 3 (.tmp 73))) (by kernel_rfl) (by kernel_rfl) (fun w hw o ho => by rw [hC_90] at hw; exact run_load1 (b := b_4) (off := 1) (c := C.int .i64 x2.o.dom) ho (by kernel_rfl) (by kernel_rfl) (Cell.own 0 rfl (by kernel_rfl)) _ hw) fun a hs => ?_
          refine Vk.dTakeT (i := 10) (some 76) (.int .u64 x2.o.c) hs (by kernel_rfl) (by repeat' (first | exact Vk.Calm.post | refine Vk.Calm.then ?_ | refine Vk.Calm.inBlock ?_)) hcl (by kernel_rfl) (by kernel_rfl) (op := (.load 23 (.tmp 75))) (by kernel_rfl) (by kernel_rfl) (fun w hw o ho => by rw [hC_90] at hw; exact run_load1 (b := b_4) (off := 5) (c := C.int .u64 x2.o.c) ho (by kernel_rfl) (by kernel_rfl) (Cell.own 0 rfl (by kernel_rfl)) _ hw) fun a hs => ?_
          obtain ⟨v_93, h_92, hm⟩ := bind_t hm
          refine Vk.dOnly (i := 5) (by kernel_rfl) (Vk.call (some 71) 100 #[.pointer (some ⟨b_x0, 0, none⟩), .int .i64 x2.o.dom, .int .u64 x2.o.c] hs (by kernel_rfl) (by kernel_rfl) (by kernel_rfl) ?_)
          refine (wire_Machine_Const.ok k x0 x2.o.dom x2.o.c v_93 h_92 κ w (pt b_4 (blk (Tapi_Op.cells x2.o) 32) :: pt b_2 (blk (Tvisorlaw19_Act.cells x2) 111) :: pt b_x1 (blk (Tvisorref19_M.obj x1 A_x1oops c_x1oops A_x1oblocks c_x1oblocks A_x1oval c_x1oval A_x1otapel c_x1otapel) 123) :: rowp A_x1oops c_x1oops 32 6 Tapi_Op.cells x1.ops :: rowp A_x1oblocks c_x1oblocks 144 3 Tapi_Span.cells x1.blocks :: rowp A_x1oval c_x1oval 23 1 (eI .u64) x1.val :: rdp κ A_x1otapel c_x1otapel 1 (eI .u64) x1.tape.l :: S) b_x0 b_x0otape A_x0otapeowords c_x0otapeowords A_x0oops c_x0oops A_x0ovalues c_x0ovalues A_x0oblocks c_x0oblocks (Own.to hs.own [2, 3, 4, 5, 6, 7, 0, 1, 8, 9, 10, 11, 12] 13 (by kernel_rfl) (by kernel_rfl))).mono ?_
          rintro _ w ⟨Ar91o0otapeowords_94, cr91o0otapeowords_95, Ar91o0oops_96, cr91o0oops_97, Ar91o0ovalues_98, cr91o0ovalues_99, Ar91o0oblocks_100, cr91o0oblocks_101, rfl, how⟩
          refine ⟨_, _, _, rfl, how, fun a hs => ?_⟩
          replace hcl : Own κ w C_90 := by rw [hC_90]; exact (Own.to hs.own [6, 7, 8, 9, 10, 11, 12] 13 (by kernel_rfl) (by kernel_rfl))
          refine ⟨fun _ => hcl, ?_⟩
          obtain ⟨v_104, h_103, hm⟩ := bind_t hm
          refine Vk.dOnly (i := 11) (by kernel_rfl) (Vk.call (some 77) 104 #[.int .i64 3, .int .i64 x2.o.dom, .int .i64 (-1), .int .i64 (-1), .int .u64 x2.o.c] hs (by kernel_rfl) (by kernel_rfl) (by kernel_rfl) ?_)
          refine (visorref19_Op.ok k 3 x2.o.dom (-1) (-1) x2.o.c v_104 h_103 κ w (pt b_x0 (blk (Twire_Machine.obj v_93.2 b_x0otape Ar91o0oops_96 cr91o0oops_97 Ar91o0ovalues_98 cr91o0ovalues_99 Ar91o0oblocks_100 cr91o0oblocks_101) 151) :: pto v_93.2.dry b_x0otape (blk (Ttape_Tape.obj v_93.2.tape Ar91o0otapeowords_94 cr91o0otapeowords_95) 158) :: rowp Ar91o0otapeowords_94 cr91o0otapeowords_95 23 1 (eI .u64) v_93.2.tape.words :: rowp Ar91o0oops_96 cr91o0oops_97 32 6 Tapi_Op.cells v_93.2.ops :: rowp Ar91o0ovalues_98 cr91o0ovalues_99 23 1 (eI .u64) v_93.2.values :: rowp Ar91o0oblocks_100 cr91o0oblocks_101 144 3 Tapi_Span.cells v_93.2.blocks :: pt b_4 (blk (Tapi_Op.cells x2.o) 32) :: pt b_2 (blk (Tvisorlaw19_Act.cells x2) 111) :: pt b_x1 (blk (Tvisorref19_M.obj x1 A_x1oops c_x1oops A_x1oblocks c_x1oblocks A_x1oval c_x1oval A_x1otapel c_x1otapel) 123) :: rowp A_x1oops c_x1oops 32 6 Tapi_Op.cells x1.ops :: rowp A_x1oblocks c_x1oblocks 144 3 Tapi_Span.cells x1.blocks :: rowp A_x1oval c_x1oval 23 1 (eI .u64) x1.val :: rdp κ A_x1otapel c_x1otapel 1 (eI .u64) x1.tape.l :: S) hs.own).mono ?_
          rintro _ w ⟨rfl, how⟩
          refine ⟨_, _, _, rfl, how, fun a hs => ?_⟩
          replace hcl : Own κ w C_90 := by rw [hC_90]; exact (Own.to hs.own [6, 7, 8, 9, 10, 11, 12] 13 (by kernel_rfl) (by kernel_rfl))
          refine ⟨fun _ => hcl, ?_⟩
          obtain ⟨v_107, h_106, hm⟩ := bind_t hm
          refine Vk.dOnly (i := 12) (by kernel_rfl) (Vk.call (some 78) 103 #[.pointer (some ⟨b_x1, 0, none⟩), .agg (vals [C.int .i64 v_104.kind, C.int .i64 v_104.dom, C.int .i64 v_104.a, C.int .i64 v_104.b, C.int .i64 v_104.d, C.int .u64 v_104.c]), .int .u64 0] hs (by kernel_rfl) (by kernel_rfl) (by kernel_rfl) ?_)
          refine (visorref19_M_Do.ok k x1 v_104 0 v_107 h_106 κ w (pt b_x0 (blk (Twire_Machine.obj v_93.2 b_x0otape Ar91o0oops_96 cr91o0oops_97 Ar91o0ovalues_98 cr91o0ovalues_99 Ar91o0oblocks_100 cr91o0oblocks_101) 151) :: pto v_93.2.dry b_x0otape (blk (Ttape_Tape.obj v_93.2.tape Ar91o0otapeowords_94 cr91o0otapeowords_95) 158) :: rowp Ar91o0otapeowords_94 cr91o0otapeowords_95 23 1 (eI .u64) v_93.2.tape.words :: rowp Ar91o0oops_96 cr91o0oops_97 32 6 Tapi_Op.cells v_93.2.ops :: rowp Ar91o0ovalues_98 cr91o0ovalues_99 23 1 (eI .u64) v_93.2.values :: rowp Ar91o0oblocks_100 cr91o0oblocks_101 144 3 Tapi_Span.cells v_93.2.blocks :: pt b_4 (blk (Tapi_Op.cells x2.o) 32) :: pt b_2 (blk (Tvisorlaw19_Act.cells x2) 111) :: S) b_x1 A_x1oops c_x1oops A_x1oblocks c_x1oblocks A_x1oval c_x1oval A_x1otapel c_x1otapel (Own.to hs.own [8, 9, 10, 11, 12, 0, 1, 2, 3, 4, 5, 6, 7] 13 (by kernel_rfl) (by kernel_rfl))).mono ?_
          rintro _ w ⟨Ar105o0oops_108, cr105o0oops_109, Ar105o0oblocks_110, cr105o0oblocks_111, Ar105o0oval_112, cr105o0oval_113, Ar105o0otapel_114, cr105o0otapel_115, rfl, how⟩
          refine ⟨_, _, _, rfl, how, fun a hs => ?_⟩
          refine ⟨fun h => absurd h (by decide), ?_⟩
          refine Vk.dOnly (i := 13) (by kernel_rfl) (Vk.dPure1 [(79, .bool (v_93.1 == v_107.1))] hs (by kernel_rfl) fun a hs => ?_)
          refine ⟨fun h => absurd h (by decide), ?_⟩
          refine Vk.dOnly (i := 14) (by kernel_rfl) (Vk.dPure1 [(6, .bool (v_93.1 == v_107.1))] hs (by kernel_rfl) fun a hs => ?_)
          refine ⟨fun h => absurd h (by decide), ?_⟩
          replace hs := hs.pick [6] (L' := [(6, .bool (v_93.1 == v_107.1))]) (by kernel_rfl)
          refine Vk.dDone (by kernel_rfl) ?_
          refine hK89 _ _ ?_
          clear hK89
          refine wp_ret ?_
          exact Vk.ret1 (P := Try.prog) (fn := Try.f70) (R := visorlaw19_does.R κ S x0 x1 x2 b_x0 b_x0otape A_x0otapeowords c_x0otapeowords A_x0oops c_x0oops A_x0ovalues c_x0ovalues A_x0oblocks c_x0oblocks b_x1 A_x1oops c_x1oops A_x1oblocks c_x1oblocks A_x1oval c_x1oval A_x1otapel c_x1otapel r) (.bool (v_93.1 == v_107.1)) hs rfl (by kernel_rfl) (by obtain rfl := Option.some.inj hm; exact ⟨Ar91o0otapeowords_94, cr91o0otapeowords_95, Ar91o0oops_96, cr91o0oops_97, Ar91o0ovalues_98, cr91o0ovalues_99, Ar91o0oblocks_100, cr91o0oblocks_101, Ar105o0oops_108, cr105o0oops_109, Ar105o0oblocks_110, cr105o0oblocks_111, Ar105o0oval_112, cr105o0oval_113, Ar105o0otapel_114, cr105o0otapel_115, rfl, (Own.to hs.own [5, 6, 7, 8, 9, 10, 0, 1, 2, 3, 4] 13 (by kernel_rfl) (by kernel_rfl))⟩)
        · replace hm := bif_f hm hb
          refine Vk.seq fun K116 hK116 => ?_
          refine Vk.region ?_
          refine Vk.pures 2 [(80, .bool (x2.kind == 4)), (81, .bool (x2.kind == 4))] hs (by kernel_rfl) fun a hs => ?_
          replace hs := hs.pick [0, 1, 7, 13, 80] (L' := [(0, .pointer (some ⟨b_x0, 0, none⟩)), (1, .pointer (some ⟨b_x1, 0, none⟩)), (7, .pointer (some ⟨b_4, 0, none⟩)), (13, .int .i64 x2.kind), (80, .bool (x2.kind == 4))]) (by kernel_rfl)
          refine Vk.done (by kernel_rfl) ?_
          refine hK116 _ _ ?_
          clear hK116
          refine Vk.condS (b := x2.kind == 4) hs (by kernel_rfl) (by kernel_rfl) (fun hb => ?_) (fun hb => ?_)
          · replace hm := bif_t hm hb
            refine Vk.seq fun K117 hK117 => ?_
            obtain ⟨C_118, hC_118⟩ : ∃ X0 : List HP, X0 = (pt b_4 (blk (Tapi_Op.cells x2.o) 32) :: pt b_2 (blk (Tvisorlaw19_Act.cells x2) 111) :: pt b_x1 (blk (Tvisorref19_M.obj x1 A_x1oops c_x1oops A_x1oblocks c_x1oblocks A_x1oval c_x1oval A_x1otapel c_x1otapel) 123) :: rowp A_x1oops c_x1oops 32 6 Tapi_Op.cells x1.ops :: rowp A_x1oblocks c_x1oblocks 144 3 Tapi_Span.cells x1.blocks :: rowp A_x1oval c_x1oval 23 1 (eI .u64) x1.val :: rdp κ A_x1otapel c_x1otapel 1 (eI .u64) x1.tape.l :: S) := ⟨_, rfl⟩
            refine Vk.drawnT 12 κ C_118 hs (by kernel_rfl) fun w hs => ?_
            have hcz : Own κ w (pt b_4 (blk (Tapi_Op.cells x2.o) 32) :: pt b_2 (blk (Tvisorlaw19_Act.cells x2) 111) :: pt b_x1 (blk (Tvisorref19_M.obj x1 A_x1oops c_x1oops A_x1oblocks c_x1oblocks A_x1oval c_x1oval A_x1otapel c_x1otapel) 123) :: rowp A_x1oops c_x1oops 32 6 Tapi_Op.cells x1.ops :: rowp A_x1oblocks c_x1oblocks 144 3 Tapi_Span.cells x1.blocks :: rowp A_x1oval c_x1oval 23 1 (eI .u64) x1.val :: rdp κ A_x1otapel c_x1otapel 1 (eI .u64) x1.tape.l :: S) := (Own.to hs.own [0, 1, 8, 9, 10, 11, 12] 13 (by kernel_rfl) (by kernel_rfl))
            have hcl : Own κ w C_118 := by rw [hC_118]; exact hcz
            refine Vk.dPuresT [0, 1, 3, 6, 7, 9] [(91, .pointer (some ⟨b_4, 5, none⟩)), (89, .pointer (some ⟨b_4, 1, none⟩)), (88, .pointer (some ⟨b_x1, 0, none⟩)), (85, .pointer (some ⟨b_4, 5, none⟩)), (83, .pointer (some ⟨b_4, 1, none⟩)), (82, .pointer (some ⟨b_x0, 0, none⟩))] hs (by kernel_rfl) (by repeat' (first | exact Vk.Calm.post | refine Vk.Calm.then ?_ | refine Vk.Calm.inBlock ?_)) hcl (by kernel_rfl) (by kernel_rfl) (fuel := 9) rfl fun a hs => ?_
            refine Vk.dTakeT (i := 2) (some 84) (.int .i64 x2.o.dom) hs (by kernel_rfl) (by repeat' (first | exact Vk.Calm.post | refine Vk.Calm.then ?_ | refine Vk.Calm.inBlock ?_)) hcl (by kernel_rfl) (by kernel_rfl) (op := (.load 3 (.tmp 83))) (by kernel_rfl) (by kernel_rfl) (fun w hw o ho => by rw [hC_118] at hw; exact run_load1 (b := b_4) (off := 1) (c := C.int .i64 x2.o.dom) ho (by kernel_rfl) (by kernel_rfl) (Cell.own 0 rfl (by kernel_rfl)) _ hw) fun a hs => ?_
            refine Vk.dTakeT (i := 4) (some 86) (.int .u64 x2.o.c) hs (by kernel_rfl) (by repeat' (first | exact Vk.Calm.post | refine Vk.Calm.then ?_ | refine Vk.Calm.inBlock ?_)) hcl (by kernel_rfl) (by kernel_rfl) (op := (.load 23 (.tmp 85))) (by kernel_rfl) (by kernel_rfl) (fun w hw o ho => by rw [hC_118] at hw; exact run_load1 (b := b_4) (off := 5) (c := C.int .u64 x2.o.c) ho (by kernel_rfl) (by kernel_rfl) (Cell.own 0 rfl (by kernel_rfl)) _ hw) fun a hs => ?_
            refine Vk.dTakeT (i := 8) (some 90) (.int .i64 x2.o.dom) hs (by kernel_rfl) (by repeat' (first | exact Vk.Calm.post | refine Vk.Calm.then ?_ | refine Vk.Calm.inBlock ?_)) hcl (by kernel_rfl) (by kernel_rfl) (op := (.load 3 (.tmp 89))) (by kernel_rfl) (by kernel_rfl) (fun w hw o ho => by rw [hC_118] at hw; exact run_load1 (b := b_4) (off := 1) (c := C.int .i64 x2.o.dom) ho (by kernel_rfl) (by kernel_rfl) (Cell.own 0 rfl (by kernel_rfl)) _ hw) fun a hs => ?_
            refine Vk.dTakeT (i := 10) (some 92) (.int .u64 x2.o.c) hs (by kernel_rfl) (by repeat' (first | exact Vk.Calm.post | refine Vk.Calm.then ?_ | refine Vk.Calm.inBlock ?_)) hcl (by kernel_rfl) (by kernel_rfl) (op := (.load 23 (.tmp 91))) (by kernel_rfl) (by kernel_rfl) (fun w hw o ho => by rw [hC_118] at hw; exact run_load1 (b := b_4) (off := 5) (c := C.int .u64 x2.o.c) ho (by kernel_rfl) (by kernel_rfl) (Cell.own 0 rfl (by kernel_rfl)) _ hw) fun a hs => ?_
            obtain ⟨v_121, h_120, hm⟩ := bind_t hm
            refine Vk.dOnly (i := 5) (by kernel_rfl) (Vk.call (some 87) 105 #[.pointer (some ⟨b_x0, 0, none⟩), .int .i64 x2.o.dom, .int .u64 x2.o.c] hs (by kernel_rfl) (by kernel_rfl) (by kernel_rfl) ?_)
            refine (wire_Machine_Told.ok k x0 x2.o.dom x2.o.c v_121 h_120 κ w (pt b_4 (blk (Tapi_Op.cells x2.o) 32) :: pt b_2 (blk (Tvisorlaw19_Act.cells x2) 111) :: pt b_x1 (blk (Tvisorref19_M.obj x1 A_x1oops c_x1oops A_x1oblocks c_x1oblocks A_x1oval c_x1oval A_x1otapel c_x1otapel) 123) :: rowp A_x1oops c_x1oops 32 6 Tapi_Op.cells x1.ops :: rowp A_x1oblocks c_x1oblocks 144 3 Tapi_Span.cells x1.blocks :: rowp A_x1oval c_x1oval 23 1 (eI .u64) x1.val :: rdp κ A_x1otapel c_x1otapel 1 (eI .u64) x1.tape.l :: S) b_x0 b_x0otape A_x0otapeowords c_x0otapeowords A_x0oops c_x0oops A_x0ovalues c_x0ovalues A_x0oblocks c_x0oblocks (Own.to hs.own [2, 3, 4, 5, 6, 7, 0, 1, 8, 9, 10, 11, 12] 13 (by kernel_rfl) (by kernel_rfl))).mono ?_
            rintro _ w ⟨Ar119o0otapeowords_122, cr119o0otapeowords_123, Ar119o0oops_124, cr119o0oops_125, Ar119o0ovalues_126, cr119o0ovalues_127, Ar119o0oblocks_128, cr119o0oblocks_129, rfl, how⟩
            refine ⟨_, _, _, rfl, how, fun a hs => ?_⟩
            replace hcl : Own κ w C_118 := by rw [hC_118]; exact (Own.to hs.own [6, 7, 8, 9, 10, 11, 12] 13 (by kernel_rfl) (by kernel_rfl))
            refine ⟨fun _ => hcl, ?_⟩
            obtain ⟨v_132, h_131, hm⟩ := bind_t hm
            refine Vk.dOnly (i := 11) (by kernel_rfl) (Vk.call (some 93) 104 #[.int .i64 4, .int .i64 x2.o.dom, .int .i64 (-1), .int .i64 (-1), .int .u64 x2.o.c] hs (by kernel_rfl) (by kernel_rfl) (by kernel_rfl) ?_)
            refine (visorref19_Op.ok k 4 x2.o.dom (-1) (-1) x2.o.c v_132 h_131 κ w (pt b_x0 (blk (Twire_Machine.obj v_121.2 b_x0otape Ar119o0oops_124 cr119o0oops_125 Ar119o0ovalues_126 cr119o0ovalues_127 Ar119o0oblocks_128 cr119o0oblocks_129) 151) :: pto v_121.2.dry b_x0otape (blk (Ttape_Tape.obj v_121.2.tape Ar119o0otapeowords_122 cr119o0otapeowords_123) 158) :: rowp Ar119o0otapeowords_122 cr119o0otapeowords_123 23 1 (eI .u64) v_121.2.tape.words :: rowp Ar119o0oops_124 cr119o0oops_125 32 6 Tapi_Op.cells v_121.2.ops :: rowp Ar119o0ovalues_126 cr119o0ovalues_127 23 1 (eI .u64) v_121.2.values :: rowp Ar119o0oblocks_128 cr119o0oblocks_129 144 3 Tapi_Span.cells v_121.2.blocks :: pt b_4 (blk (Tapi_Op.cells x2.o) 32) :: pt b_2 (blk (Tvisorlaw19_Act.cells x2) 111) :: pt b_x1 (blk (Tvisorref19_M.obj x1 A_x1oops c_x1oops A_x1oblocks c_x1oblocks A_x1oval c_x1oval A_x1otapel c_x1otapel) 123) :: rowp A_x1oops c_x1oops 32 6 Tapi_Op.cells x1.ops :: rowp A_x1oblocks c_x1oblocks 144 3 Tapi_Span.cells x1.blocks :: rowp A_x1oval c_x1oval 23 1 (eI .u64) x1.val :: rdp κ A_x1otapel c_x1otapel 1 (eI .u64) x1.tape.l :: S) hs.own).mono ?_
            rintro _ w ⟨rfl, how⟩
            refine ⟨_, _, _, rfl, how, fun a hs => ?_⟩
            replace hcl : Own κ w C_118 := by rw [hC_118]; exact (Own.to hs.own [6, 7, 8, 9, 10, 11, 12] 13 (by kernel_rfl) (by kernel_rfl))
            refine ⟨fun _ => hcl, ?_⟩
            obtain ⟨v_135, h_134, hm⟩ := bind_t hm
            refine Vk.dOnly (i := 12) (by kernel_rfl) (Vk.call (some 94) 103 #[.pointer (some ⟨b_x1, 0, none⟩), .agg (vals [C.int .i64 v_132.kind, C.int .i64 v_132.dom, C.int .i64 v_132.a, C.int .i64 v_132.b, C.int .i64 v_132.d, C.int .u64 v_132.c]), .int .u64 0] hs (by kernel_rfl) (by kernel_rfl) (by kernel_rfl) ?_)
            refine (visorref19_M_Do.ok k x1 v_132 0 v_135 h_134 κ w (pt b_x0 (blk (Twire_Machine.obj v_121.2 b_x0otape Ar119o0oops_124 cr119o0oops_125 Ar119o0ovalues_126 cr119o0ovalues_127 Ar119o0oblocks_128 cr119o0oblocks_129) 151) :: pto v_121.2.dry b_x0otape (blk (Ttape_Tape.obj v_121.2.tape Ar119o0otapeowords_122 cr119o0otapeowords_123) 158) :: rowp Ar119o0otapeowords_122 cr119o0otapeowords_123 23 1 (eI .u64) v_121.2.tape.words :: rowp Ar119o0oops_124 cr119o0oops_125 32 6 Tapi_Op.cells v_121.2.ops :: rowp Ar119o0ovalues_126 cr119o0ovalues_127 23 1 (eI .u64) v_121.2.values :: rowp Ar119o0oblocks_128 cr119o0oblocks_129 144 3 Tapi_Span.cells v_121.2.blocks :: pt b_4 (blk (Tapi_Op.cells x2.o) 32) :: pt b_2 (blk (Tvisorlaw19_Act.cells x2) 111) :: S) b_x1 A_x1oops c_x1oops A_x1oblocks c_x1oblocks A_x1oval c_x1oval A_x1otapel c_x1otapel (Own.to hs.own [8, 9, 10, 11, 12, 0, 1, 2, 3, 4, 5, 6, 7] 13 (by kernel_rfl) (by kernel_rfl))).mono ?_
            rintro _ w ⟨Ar133o0oops_136, cr133o0oops_137, Ar133o0oblocks_138, cr133o0oblocks_139, Ar133o0oval_140, cr133o0oval_141, Ar133o0otapel_142, cr133o0otapel_143, rfl, how⟩
            refine ⟨_, _, _, rfl, how, fun a hs => ?_⟩
            refine ⟨fun h => absurd h (by decide), ?_⟩
            refine Vk.dOnly (i := 13) (by kernel_rfl) (Vk.dPure1 [(95, .bool (v_121.1 == v_135.1))] hs (by kernel_rfl) fun a hs => ?_)
            refine ⟨fun h => absurd h (by decide), ?_⟩
            refine Vk.dOnly (i := 14) (by kernel_rfl) (Vk.dPure1 [(6, .bool (v_121.1 == v_135.1))] hs (by kernel_rfl) fun a hs => ?_)
            refine ⟨fun h => absurd h (by decide), ?_⟩
            replace hs := hs.pick [6] (L' := [(6, .bool (v_121.1 == v_135.1))]) (by kernel_rfl)
            refine Vk.dDone (by kernel_rfl) ?_
            refine hK117 _ _ ?_
            clear hK117
            refine wp_ret ?_
            exact Vk.ret1 (P := Try.prog) (fn := Try.f70) (R := visorlaw19_does.R κ S x0 x1 x2 b_x0 b_x0otape A_x0otapeowords c_x0otapeowords A_x0oops c_x0oops A_x0ovalues c_x0ovalues A_x0oblocks c_x0oblocks b_x1 A_x1oops c_x1oops A_x1oblocks c_x1oblocks A_x1oval c_x1oval A_x1otapel c_x1otapel r) (.bool (v_121.1 == v_135.1)) hs rfl (by kernel_rfl) (by obtain rfl := Option.some.inj hm; exact ⟨Ar119o0otapeowords_122, cr119o0otapeowords_123, Ar119o0oops_124, cr119o0oops_125, Ar119o0ovalues_126, cr119o0ovalues_127, Ar119o0oblocks_128, cr119o0oblocks_129, Ar133o0oops_136, cr133o0oops_137, Ar133o0oblocks_138, cr133o0oblocks_139, Ar133o0oval_140, cr133o0oval_141, Ar133o0otapel_142, cr133o0otapel_143, rfl, (Own.to hs.own [5, 6, 7, 8, 9, 10, 0, 1, 2, 3, 4] 13 (by kernel_rfl) (by kernel_rfl))⟩)
          · replace hm := bif_f hm hb
            refine Vk.seq fun K144 hK144 => ?_
            refine Vk.region ?_
            refine Vk.pures 2 [(96, .bool (x2.kind == 5)), (97, .bool (x2.kind == 5))] hs (by kernel_rfl) fun a hs => ?_
            replace hs := hs.pick [0, 1, 7, 13, 96] (L' := [(0, .pointer (some ⟨b_x0, 0, none⟩)), (1, .pointer (some ⟨b_x1, 0, none⟩)), (7, .pointer (some ⟨b_4, 0, none⟩)), (13, .int .i64 x2.kind), (96, .bool (x2.kind == 5))]) (by kernel_rfl)
            refine Vk.done (by kernel_rfl) ?_
            refine hK144 _ _ ?_
            clear hK144
            refine Vk.condS (b := x2.kind == 5) hs (by kernel_rfl) (by kernel_rfl) (fun hb => ?_) (fun hb => ?_)
            · replace hm := bif_t hm hb
              refine Vk.seq fun K145 hK145 => ?_
              obtain ⟨C_146, hC_146⟩ : ∃ X0 : List HP, X0 = (pt b_4 (blk (Tapi_Op.cells x2.o) 32) :: pt b_2 (blk (Tvisorlaw19_Act.cells x2) 111) :: pt b_x1 (blk (Tvisorref19_M.obj x1 A_x1oops c_x1oops A_x1oblocks c_x1oblocks A_x1oval c_x1oval A_x1otapel c_x1otapel) 123) :: rowp A_x1oops c_x1oops 32 6 Tapi_Op.cells x1.ops :: rowp A_x1oblocks c_x1oblocks 144 3 Tapi_Span.cells x1.blocks :: rowp A_x1oval c_x1oval 23 1 (eI .u64) x1.val :: rdp κ A_x1otapel c_x1otapel 1 (eI .u64) x1.tape.l :: S) := ⟨_, rfl⟩
              refine Vk.drawnT 20 κ C_146 hs (by kernel_rfl) fun w hs => ?_
              have hcz : Own κ w (pt b_4 (blk (Tapi_Op.cells x2.o) 32) :: pt b_2 (blk (Tvisorlaw19_Act.cells x2) 111) :: pt b_x1 (blk (Tvisorref19_M.obj x1 A_x1oops c_x1oops A_x1oblocks c_x1oblocks A_x1oval c_x1oval A_x1otapel c_x1otapel) 123) :: rowp A_x1oops c_x1oops 32 6 Tapi_Op.cells x1.ops :: rowp A_x1oblocks c_x1oblocks 144 3 Tapi_Span.cells x1.blocks :: rowp A_x1oval c_x1oval 23 1 (eI .u64) x1.val :: rdp κ A_x1otapel c_x1otapel 1 (eI .u64) x1.tape.l :: S) := (Own.to hs.own [0, 1, 8, 9, 10, 11, 12] 13 (by kernel_rfl) (by kernel_rfl))
              have hcl : Own κ w C_146 := by rw [hC_146]; exact hcz
              refine Vk.dPuresT [0, 1, 3, 5, 7, 10, 11, 13, 15, 17] [(115, .pointer (some ⟨b_4, 3, none⟩)), (113, .pointer (some ⟨b_4, 2, none⟩)), (111, .pointer (some ⟨b_4, 1, none⟩)), (109, .pointer (some ⟨b_4, 0, none⟩)), (108, .pointer (some ⟨b_x1, 0, none⟩)), (105, .pointer (some ⟨b_4, 3, none⟩)), (103, .pointer (some ⟨b_4, 2, none⟩)), (101, .pointer (some ⟨b_4, 1, none⟩)), (99, .pointer (some ⟨b_4, 0, none⟩)), (98, .pointer (some ⟨b_x0, 0, none⟩))] hs (by kernel_rfl) (by repeat' (first | exact Vk.Calm.post | refine Vk.Calm.then ?_ | refine Vk.Calm.inBlock ?_)) hcl (by kernel_rfl) (by kernel_rfl) (fuel := 13) rfl fun a hs => ?_
              refine Vk.dTakeT (i := 2) (some 100) (.int .i64 x2.o.kind) hs (by kernel_rfl) (by repeat' (first | exact Vk.Calm.post | refine Vk.Calm.then ?_ | refine Vk.Calm.inBlock ?_)) hcl (by kernel_rfl) (by kernel_rfl) (op := (.load 3 (.tmp 99))) (by kernel_rfl) (by kernel_rfl) (fun w hw o ho => by rw [hC_146] at hw; exact run_load1 (b := b_4) (off := 0) (c := C.int .i64 x2.o.kind) ho (by kernel_rfl) (by kernel_rfl) (Cell.own 0 rfl (by kernel_rfl)) _ hw) fun a hs => ?_
              refine Vk.dTakeT (i := 4) (some 102) (.int .i64 x2.o.dom) hs (by kernel_rfl) (by repeat' (first | exact Vk.Calm.post | refine Vk.Calm.then ?_ | refine Vk.Calm.inBlock ?_)) hcl (by kernel_rfl) (by kernel_rfl) (op := (.load 3 (.tmp 101))) (by kernel_rfl) (by kernel_rfl) (fun w hw o ho => by rw [hC_146] at hw; exact run_load1 (b := b_4) (off := 1) (c := C.int .i64 x2.o.dom) ho (by kernel_rfl) (by kernel_rfl) (Cell.own 0 rfl (by kernel_rfl)) _ hw) fun a hs => ?_
              refine Vk.dTakeT (i := 6) (some 104) (.int .i64 x2.o.a) hs (by kernel_rfl) (by repeat' (first | exact Vk.Calm.post | refine Vk.Calm.then ?_ | refine Vk.Calm.inBlock ?_)) hcl (by kernel_rfl) (by kernel_rfl) (op := (.load 3 (.tmp 103))) (by kernel_rfl) (by kernel_rfl) (fun w hw o ho => by rw [hC_146] at hw; exact run_load1 (b := b_4) (off := 2) (c := C.int .i64 x2.o.a) ho (by kernel_rfl) (by kernel_rfl) (Cell.own 0 rfl (by kernel_rfl)) _ hw) fun a hs => ?_
              refine Vk.dTakeT (i := 8) (some 106) (.int .i64 x2.o.b) hs (by kernel_rfl) (by repeat' (first | exact Vk.Calm.post | refine Vk.Calm.then ?_ | refine Vk.Calm.inBlock ?_)) hcl (by kernel_rfl) (by kernel_rfl) (op := (.load 3 (.tmp 105))) (by kernel_rfl) (by kernel_rfl) (fun w hw o ho => by rw [hC_146] at hw; exact run_load1 (b := b_4) (off := 3) (c := C.int .i64 x2.o.b) ho (by kernel_rfl) (by kernel_rfl) (Cell.own 0 rfl (by kernel_rfl)) _ hw) fun a hs => ?_
              refine Vk.dTakeT (i := 12) (some 110) (.int .i64 x2.o.kind) hs (by kernel_rfl) (by repeat' (first | exact Vk.Calm.post | refine Vk.Calm.then ?_ | refine Vk.Calm.inBlock ?_)) hcl (by kernel_rfl) (by kernel_rfl) (op := (.load 3 (.tmp 109))) (by kernel_rfl) (by kernel_rfl) (fun w hw o ho => by rw [hC_146] at hw; exact run_load1 (b := b_4) (off := 0) (c := C.int .i64 x2.o.kind) ho (by kernel_rfl) (by kernel_rfl) (Cell.own 0 rfl (by kernel_rfl)) _ hw) fun a hs => ?_
              refine Vk.dTakeT (i := 14) (some 112) (.int .i64 x2.o.dom) hs (by kernel_rfl) (by repeat' (first | exact Vk.Calm.post | refine Vk.Calm.then ?_ | refine Vk.Calm.inBlock ?_)) hcl (by kernel_rfl) (by kernel_rfl) (op := (.load 3 (.tmp 111))) (by kernel_rfl) (by kernel_rfl) (fun w hw o ho => by rw [hC_146] at hw; exact run_load1 (b := b_4) (off := 1) (c := C.int .i64 x2.o.dom) ho (by kernel_rfl) (by kernel_rfl) (Cell.own 0 rfl (by kernel_rfl)) _ hw) fun a hs => ?_
              refine Vk.dTakeT (i := 16) (some 114) (.int .i64 x2.o.a) hs (by kernel_rfl) (by repeat' (first | exact Vk.Calm.post | refine Vk.Calm.then ?_ | refine Vk.Calm.inBlock ?_)) hcl (by kernel_rfl) (by kernel_rfl) (op := (.load 3 (.tmp 113))) (by kernel_rfl) (by kernel_rfl) (fun w hw o ho => by rw [hC_146] at hw; exact run_load1 (b := b_4) (off := 2) (c := C.int .i64 x2.o.a) ho (by kernel_rfl) (by kernel_rfl) (Cell.own 0 rfl (by kernel_rfl)) _ hw) fun a hs => ?_
              refine Vk.dTakeT (i := 18) (some 116) (.int .i64 x2.o.b) hs (by kernel_rfl) (by repeat' (first | exact Vk.Calm.post | refine Vk.Calm.then ?_ | refine Vk.Calm.inBlock ?_)) hcl (by kernel_rfl) (by kernel_rfl) (op := (.load 3 (.tmp 115))) (by kernel_rfl) (by kernel_rfl) (fun w hw o ho => by rw [hC_146] at hw; exact run_load1 (b := b_4) (off := 3) (c := C.int .i64 x2.o.b) ho (by kernel_rfl) (by kernel_rfl) (Cell.own 0 rfl (by kernel_rfl)) _ hw) fun a hs => ?_
              obtain ⟨v_149, h_148, hm⟩ := bind_t hm
              refine Vk.dOnly (i := 9) (by kernel_rfl) (Vk.call (some 107) 101 #[.pointer (some ⟨b_x0, 0, none⟩), .int .i64 x2.o.kind, .int .i64 x2.o.dom, .int .i64 x2.o.a, .int .i64 x2.o.b] hs (by kernel_rfl) (by kernel_rfl) (by kernel_rfl) ?_)
              refine (wire_Machine_Two.ok k x0 x2.o.kind x2.o.dom x2.o.a x2.o.b v_149 h_148 κ w (pt b_4 (blk (Tapi_Op.cells x2.o) 32) :: pt b_2 (blk (Tvisorlaw19_Act.cells x2) 111) :: pt b_x1 (blk (Tvisorref19_M.obj x1 A_x1oops c_x1oops A_x1oblocks c_x1oblocks A_x1oval c_x1oval A_x1otapel c_x1otapel) 123) :: rowp A_x1oops c_x1oops 32 6 Tapi_Op.cells x1.ops :: rowp A_x1oblocks c_x1oblocks 144 3 Tapi_Span.cells x1.blocks :: rowp A_x1oval c_x1oval 23 1 (eI .u64) x1.val :: rdp κ A_x1otapel c_x1otapel 1 (eI .u64) x1.tape.l :: S) b_x0 b_x0otape A_x0otapeowords c_x0otapeowords A_x0oops c_x0oops A_x0ovalues c_x0ovalues A_x0oblocks c_x0oblocks (Own.to hs.own [2, 3, 4, 5, 6, 7, 0, 1, 8, 9, 10, 11, 12] 13 (by kernel_rfl) (by kernel_rfl))).mono ?_
              rintro _ w ⟨Ar147o0otapeowords_150, cr147o0otapeowords_151, Ar147o0oops_152, cr147o0oops_153, Ar147o0ovalues_154, cr147o0ovalues_155, Ar147o0oblocks_156, cr147o0oblocks_157, rfl, how⟩
              refine ⟨_, _, _, rfl, how, fun a hs => ?_⟩
              replace hcl : Own κ w C_146 := by rw [hC_146]; exact (Own.to hs.own [6, 7, 8, 9, 10, 11, 12] 13 (by kernel_rfl) (by kernel_rfl))
              refine ⟨fun _ => hcl, ?_⟩
              obtain ⟨v_160, h_159, hm⟩ := bind_t hm
              refine Vk.dOnly (i := 19) (by kernel_rfl) (Vk.call (some 117) 104 #[.int .i64 x2.o.kind, .int .i64 x2.o.dom, .int .i64 x2.o.a, .int .i64 x2.o.b, .int .u64 0] hs (by kernel_rfl) (by kernel_rfl) (by kernel_rfl) ?_)
              refine (visorref19_Op.ok k x2.o.kind x2.o.dom x2.o.a x2.o.b 0 v_160 h_159 κ w (pt b_x0 (blk (Twire_Machine.obj v_149.2 b_x0otape Ar147o0oops_152 cr147o0oops_153 Ar147o0ovalues_154 cr147o0ovalues_155 Ar147o0oblocks_156 cr147o0oblocks_157) 151) :: pto v_149.2.dry b_x0otape (blk (Ttape_Tape.obj v_149.2.tape Ar147o0otapeowords_150 cr147o0otapeowords_151) 158) :: rowp Ar147o0otapeowords_150 cr147o0otapeowords_151 23 1 (eI .u64) v_149.2.tape.words :: rowp Ar147o0oops_152 cr147o0oops_153 32 6 Tapi_Op.cells v_149.2.ops :: rowp Ar147o0ovalues_154 cr147o0ovalues_155 23 1 (eI .u64) v_149.2.values :: rowp Ar147o0oblocks_156 cr147o0oblocks_157 144 3 Tapi_Span.cells v_149.2.blocks :: pt b_4 (blk (Tapi_Op.cells x2.o) 32) :: pt b_2 (blk (Tvisorlaw19_Act.cells x2) 111) :: pt b_x1 (blk (Tvisorref19_M.obj x1 A_x1oops c_x1oops A_x1oblocks c_x1oblocks A_x1oval c_x1oval A_x1otapel c_x1otapel) 123) :: rowp A_x1oops c_x1oops 32 6 Tapi_Op.cells x1.ops :: rowp A_x1oblocks c_x1oblocks 144 3 Tapi_Span.cells x1.blocks :: rowp A_x1oval c_x1oval 23 1 (eI .u64) x1.val :: rdp κ A_x1otapel c_x1otapel 1 (eI .u64) x1.tape.l :: S) hs.own).mono ?_
              rintro _ w ⟨rfl, how⟩
              refine ⟨_, _, _, rfl, how, fun a hs => ?_⟩
              replace hcl : Own κ w C_146 := by rw [hC_146]; exact (Own.to hs.own [6, 7, 8, 9, 10, 11, 12] 13 (by kernel_rfl) (by kernel_rfl))
              refine ⟨fun _ => hcl, ?_⟩
              obtain ⟨v_163, h_162, hm⟩ := bind_t hm
              refine Vk.dOnly (i := 20) (by kernel_rfl) (Vk.call (some 118) 103 #[.pointer (some ⟨b_x1, 0, none⟩), .agg (vals [C.int .i64 v_160.kind, C.int .i64 v_160.dom, C.int .i64 v_160.a, C.int .i64 v_160.b, C.int .i64 v_160.d, C.int .u64 v_160.c]), .int .u64 0] hs (by kernel_rfl) (by kernel_rfl) (by kernel_rfl) ?_)
              refine (visorref19_M_Do.ok k x1 v_160 0 v_163 h_162 κ w (pt b_x0 (blk (Twire_Machine.obj v_149.2 b_x0otape Ar147o0oops_152 cr147o0oops_153 Ar147o0ovalues_154 cr147o0ovalues_155 Ar147o0oblocks_156 cr147o0oblocks_157) 151) :: pto v_149.2.dry b_x0otape (blk (Ttape_Tape.obj v_149.2.tape Ar147o0otapeowords_150 cr147o0otapeowords_151) 158) :: rowp Ar147o0otapeowords_150 cr147o0otapeowords_151 23 1 (eI .u64) v_149.2.tape.words :: rowp Ar147o0oops_152 cr147o0oops_153 32 6 Tapi_Op.cells v_149.2.ops :: rowp Ar147o0ovalues_154 cr147o0ovalues_155 23 1 (eI .u64) v_149.2.values :: rowp Ar147o0oblocks_156 cr147o0oblocks_157 144 3 Tapi_Span.cells v_149.2.blocks :: pt b_4 (blk (Tapi_Op.cells x2.o) 32) :: pt b_2 (blk (Tvisorlaw19_Act.cells x2) 111) :: S) b_x1 A_x1oops c_x1oops A_x1oblocks c_x1oblocks A_x1oval c_x1oval A_x1otapel c_x1otapel (Own.to hs.own [8, 9, 10, 11, 12, 0, 1, 2, 3, 4, 5, 6, 7] 13 (by kernel_rfl) (by kernel_rfl))).mono ?_
              rintro _ w ⟨Ar161o0oops_164, cr161o0oops_165, Ar161o0oblocks_166, cr161o0oblocks_167, Ar161o0oval_168, cr161o0oval_169, Ar161o0otapel_170, cr161o0otapel_171, rfl, how⟩
              refine ⟨_, _, _, rfl, how, fun a hs => ?_⟩
              refine ⟨fun h => absurd h (by decide), ?_⟩
              refine Vk.dOnly (i := 21) (by kernel_rfl) (Vk.dPure1 [(119, .bool (v_149.1 == v_163.1))] hs (by kernel_rfl) fun a hs => ?_)
              refine ⟨fun h => absurd h (by decide), ?_⟩
              refine Vk.dOnly (i := 22) (by kernel_rfl) (Vk.dPure1 [(6, .bool (v_149.1 == v_163.1))] hs (by kernel_rfl) fun a hs => ?_)
              refine ⟨fun h => absurd h (by decide), ?_⟩
              replace hs := hs.pick [6] (L' := [(6, .bool (v_149.1 == v_163.1))]) (by kernel_rfl)
              refine Vk.dDone (by kernel_rfl) ?_
              refine hK145 _ _ ?_
              clear hK145
              refine wp_ret ?_
              exact Vk.ret1 (P := Try.prog) (fn := Try.f70) (R := visorlaw19_does.R κ S x0 x1 x2 b_x0 b_x0otape A_x0otapeowords c_x0otapeowords A_x0oops c_x0oops A_x0ovalues c_x0ovalues A_x0oblocks c_x0oblocks b_x1 A_x1oops c_x1oops A_x1oblocks c_x1oblocks A_x1oval c_x1oval A_x1otapel c_x1otapel r) (.bool (v_149.1 == v_163.1)) hs rfl (by kernel_rfl) (by obtain rfl := Option.some.inj hm; exact ⟨Ar147o0otapeowords_150, cr147o0otapeowords_151, Ar147o0oops_152, cr147o0oops_153, Ar147o0ovalues_154, cr147o0ovalues_155, Ar147o0oblocks_156, cr147o0oblocks_157, Ar161o0oops_164, cr161o0oops_165, Ar161o0oblocks_166, cr161o0oblocks_167, Ar161o0oval_168, cr161o0oval_169, Ar161o0otapel_170, cr161o0otapel_171, rfl, (Own.to hs.own [5, 6, 7, 8, 9, 10, 0, 1, 2, 3, 4] 13 (by kernel_rfl) (by kernel_rfl))⟩)
            · replace hm := bif_f hm hb
              refine Vk.seq fun K172 hK172 => ?_
              refine Vk.region ?_
              refine Vk.pures 2 [(120, .bool (x2.kind == 6)), (121, .bool (x2.kind == 6))] hs (by kernel_rfl) fun a hs => ?_
              replace hs := hs.pick [0, 1, 7, 13, 120] (L' := [(0, .pointer (some ⟨b_x0, 0, none⟩)), (1, .pointer (some ⟨b_x1, 0, none⟩)), (7, .pointer (some ⟨b_4, 0, none⟩)), (13, .int .i64 x2.kind), (120, .bool (x2.kind == 6))]) (by kernel_rfl)
              refine Vk.done (by kernel_rfl) ?_
              refine hK172 _ _ ?_
              clear hK172
              refine Vk.condS (b := x2.kind == 6) hs (by kernel_rfl) (by kernel_rfl) (fun hb => ?_) (fun hb => ?_)
              · replace hm := bif_t hm hb
                refine Vk.seq fun K173 hK173 => ?_
                obtain ⟨C_174, hC_174⟩ : ∃ X0 : List HP, X0 = (pt b_4 (blk (Tapi_Op.cells x2.o) 32) :: pt b_2 (blk (Tvisorlaw19_Act.cells x2) 111) :: pt b_x1 (blk (Tvisorref19_M.obj x1 A_x1oops c_x1oops A_x1oblocks c_x1oblocks A_x1oval c_x1oval A_x1otapel c_x1otapel) 123) :: rowp A_x1oops c_x1oops 32 6 Tapi_Op.cells x1.ops :: rowp A_x1oblocks c_x1oblocks 144 3 Tapi_Span.cells x1.blocks :: rowp A_x1oval c_x1oval 23 1 (eI .u64) x1.val :: rdp κ A_x1otapel c_x1otapel 1 (eI .u64) x1.tape.l :: S) := ⟨_, rfl⟩
                refine Vk.drawnT 20 κ C_174 hs (by kernel_rfl) fun w hs => ?_
                have hcz : Own κ w (pt b_4 (blk (Tapi_Op.cells x2.o) 32) :: pt b_2 (blk (Tvisorlaw19_Act.cells x2) 111) :: pt b_x1 (blk (Tvisorref19_M.obj x1 A_x1oops c_x1oops A_x1oblocks c_x1oblocks A_x1oval c_x1oval A_x1otapel c_x1otapel) 123) :: rowp A_x1oops c_x1oops 32 6 Tapi_Op.cells x1.ops :: rowp A_x1oblocks c_x1oblocks 144 3 Tapi_Span.cells x1.blocks :: rowp A_x1oval c_x1oval 23 1 (eI .u64) x1.val :: rdp κ A_x1otapel c_x1otapel 1 (eI .u64) x1.tape.l :: S) := (Own.to hs.own [0, 1, 8, 9, 10, 11, 12] 13 (by kernel_rfl) (by kernel_rfl))
                have hcl : Own κ w C_174 := by rw [hC_174]; exact hcz
                refine Vk.dPuresT [0, 1, 3, 5, 7, 10, 11, 13, 15, 17] [(139, .pointer (some ⟨b_4, 5, none⟩)), (137, .pointer (some ⟨b_4, 2, none⟩)), (135, .pointer (some ⟨b_4, 1, none⟩)), (133, .pointer (some ⟨b_4, 0, none⟩)), (132, .pointer (some ⟨b_x1, 0, none⟩)), (129, .pointer (some ⟨b_4, 5, none⟩)), (127, .pointer (some ⟨b_4, 2, none⟩)), (125, .pointer (some ⟨b_4, 1, none⟩)), (123, .pointer (some ⟨b_4, 0, none⟩)), (122, .pointer (some ⟨b_x0, 0, none⟩))] hs (by kernel_rfl) (by repeat' (first | exact Vk.Calm.post | refine Vk.Calm.then ?_ | refine Vk.Calm.inBlock ?_)) hcl (by kernel_rfl) (by kernel_rfl) (fuel := 13) rfl fun a hs => ?_
                refine Vk.dTakeT (i := 2) (some 124) (.int .i64 x2.o.kind) hs (by kernel_rfl) (by repeat' (first | exact Vk.Calm.post | refine Vk.Calm.then ?_ | refine Vk.Calm.inBlock ?_)) hcl (by kernel_rfl) (by kernel_rfl) (op := (.load 3 (.tmp 123))) (by kernel_rfl) (by kernel_rfl) (fun w hw o ho => by rw [hC_174] at hw; exact run_load1 (b := b_4) (off := 0) (c := C.int .i64 x2.o.kind) ho (by kernel_rfl) (by kernel_rfl) (Cell.own 0 rfl (by kernel_rfl)) _ hw) fun a hs => ?_
                refine Vk.dTakeT (i := 4) (some 126) (.int .i64 x2.o.dom) hs (by kernel_rfl) (by repeat' (first | exact Vk.Calm.post | refine Vk.Calm.then ?_ | refine Vk.Calm.inBlock ?_)) hcl (by kernel_rfl) (by kernel_rfl) (op := (.load 3 (.tmp 125))) (by kernel_rfl) (by kernel_rfl) (fun w hw o ho => by rw [hC_174] at hw; exact run_load1 (b := b_4) (off := 1) (c := C.int .i64 x2.o.dom) ho (by kernel_rfl) (by kernel_rfl) (Cell.own 0 rfl (by kernel_rfl)) _ hw) fun a hs => ?_
                refine Vk.dTakeT (i := 6) (some 128) (.int .i64 x2.o.a) hs (by kernel_rfl) (by repeat' (first | exact Vk.Calm.post | refine Vk.Calm.then ?_ | refine Vk.Calm.inBlock ?_)) hcl (by kernel_rfl) (by kernel_rfl) (op := (.load 3 (.tmp 127))) (by kernel_rfl) (by kernel_rfl) (fun w hw o ho => by rw [hC_174] at hw; exact run_load1 (b := b_4) (off := 2) (c := C.int .i64 x2.o.a) ho (by kernel_rfl) (by kernel_rfl) (Cell.own 0 rfl (by kernel_rfl)) _ hw) fun a hs => ?_
                refine Vk.dTakeT (i := 8) (some 130) (.int .u64 x2.o.c) hs (by kernel_rfl) (by repeat' (first | exact Vk.Calm.post | refine Vk.Calm.then ?_ | refine Vk.Calm.inBlock ?_)) hcl (by kernel_rfl) (by kernel_rfl) (op := (.load 23 (.tmp 129))) (by kernel_rfl) (by kernel_rfl) (fun w hw o ho => by rw [hC_174] at hw; exact run_load1 (b := b_4) (off := 5) (c := C.int .u64 x2.o.c) ho (by kernel_rfl) (by kernel_rfl) (Cell.own 0 rfl (by kernel_rfl)) _ hw) fun a hs => ?_
                refine Vk.dTakeT (i := 12) (some 134) (.int .i64 x2.o.kind) hs (by kernel_rfl) (by repeat' (first | exact Vk.Calm.post | refine Vk.Calm.then ?_ | refine Vk.Calm.inBlock ?_)) hcl (by kernel_rfl) (by kernel_rfl) (op := (.load 3 (.tmp 133))) (by kernel_rfl) (by kernel_rfl) (fun w hw o ho => by rw [hC_174] at hw; exact run_load1 (b := b_4) (off := 0) (c := C.int .i64 x2.o.kind) ho (by kernel_rfl) (by kernel_rfl) (Cell.own 0 rfl (by kernel_rfl)) _ hw) fun a hs => ?_
                refine Vk.dTakeT (i := 14) (some 136) (.int .i64 x2.o.dom) hs (by kernel_rfl) (by repeat' (first | exact Vk.Calm.post | refine Vk.Calm.then ?_ | refine Vk.Calm.inBlock ?_)) hcl (by kernel_rfl) (by kernel_rfl) (op := (.load 3 (.tmp 135))) (by kernel_rfl) (by kernel_rfl) (fun w hw o ho => by rw [hC_174] at hw; exact run_load1 (b := b_4) (off := 1) (c := C.int .i64 x2.o.dom) ho (by kernel_rfl) (by kernel_rfl) (Cell.own 0 rfl (by kernel_rfl)) _ hw) fun a hs => ?_
                refine Vk.dTakeT (i := 16) (some 138) (.int .i64 x2.o.a) hs (by kernel_rfl) (by repeat' (first | exact Vk.Calm.post | refine Vk.Calm.then ?_ | refine Vk.Calm.inBlock ?_)) hcl (by kernel_rfl) (by kernel_rfl) (op := (.load 3 (.tmp 137))) (by kernel_rfl) (by kernel_rfl) (fun w hw o ho => by rw [hC_174] at hw; exact run_load1 (b := b_4) (off := 2) (c := C.int .i64 x2.o.a) ho (by kernel_rfl) (by kernel_rfl) (Cell.own 0 rfl (by kernel_rfl)) _ hw) fun a hs => ?_
                refine Vk.dTakeT (i := 18) (some 140) (.int .u64 x2.o.c) hs (by kernel_rfl) (by repeat' (first | exact Vk.Calm.post | refine Vk.Calm.then ?_ | refine Vk.Calm.inBlock ?_)) hcl (by kernel_rfl) (by kernel_rfl) (op := (.load 23 (.tmp 139))) (by kernel_rfl) (by kernel_rfl) (fun w hw o ho => by rw [hC_174] at hw; exact run_load1 (b := b_4) (off := 5) (c := C.int .u64 x2.o.c) ho (by kernel_rfl) (by kernel_rfl) (Cell.own 0 rfl (by kernel_rfl)) _ hw) fun a hs => ?_
                obtain ⟨v_177, h_176, hm⟩ := bind_t hm
                refine Vk.dOnly (i := 9) (by kernel_rfl) (Vk.call (some 131) 106 #[.pointer (some ⟨b_x0, 0, none⟩), .int .i64 x2.o.kind, .int .i64 x2.o.dom, .int .i64 x2.o.a, .int .u64 x2.o.c] hs (by kernel_rfl) (by kernel_rfl) (by kernel_rfl) ?_)
                refine (wire_Machine_One.ok k x0 x2.o.kind x2.o.dom x2.o.a x2.o.c v_177 h_176 κ w (pt b_4 (blk (Tapi_Op.cells x2.o) 32) :: pt b_2 (blk (Tvisorlaw19_Act.cells x2) 111) :: pt b_x1 (blk (Tvisorref19_M.obj x1 A_x1oops c_x1oops A_x1oblocks c_x1oblocks A_x1oval c_x1oval A_x1otapel c_x1otapel) 123) :: rowp A_x1oops c_x1oops 32 6 Tapi_Op.cells x1.ops :: rowp A_x1oblocks c_x1oblocks 144 3 Tapi_Span.cells x1.blocks :: rowp A_x1oval c_x1oval 23 1 (eI .u64) x1.val :: rdp κ A_x1otapel c_x1otapel 1 (eI .u64) x1.tape.l :: S) b_x0 b_x0otape A_x0otapeowords c_x0otapeowords A_x0oops c_x0oops A_x0ovalues c_x0ovalues A_x0oblocks c_x0oblocks (Own.to hs.own [2, 3, 4, 5, 6, 7, 0, 1, 8, 9, 10, 11, 12] 13 (by kernel_rfl) (by kernel_rfl))).mono ?_
                rintro _ w ⟨Ar175o0otapeowords_178, cr175o0otapeowords_179, Ar175o0oops_180, cr175o0oops_181, Ar175o0ovalues_182, cr175o0ovalues_183, Ar175o0oblocks_184, cr175o0oblocks_185, rfl, how⟩
                refine ⟨_, _, _, rfl, how, fun a hs => ?_⟩
                replace hcl : Own κ w C_174 := by rw [hC_174]; exact (Own.to hs.own [6, 7, 8, 9, 10, 11, 12] 13 (by kernel_rfl) (by kernel_rfl))
                refine ⟨fun _ => hcl, ?_⟩
                obtain ⟨v_188, h_187, hm⟩ := bind_t hm
                refine Vk.dOnly (i := 19) (by kernel_rfl) (Vk.call (some 141) 104 #[.int .i64 x2.o.kind, .int .i64 x2.o.dom, .int .i64 x2.o.a, .int .i64 (-1), .int .u64 x2.o.c] hs (by kernel_rfl) (by kernel_rfl) (by kernel_rfl) ?_)
                refine (visorref19_Op.ok k x2.o.kind x2.o.dom x2.o.a (-1) x2.o.c v_188 h_187 κ w (pt b_x0 (blk (Twire_Machine.obj v_177.2 b_x0otape Ar175o0oops_180 cr175o0oops_181 Ar175o0ovalues_182 cr175o0ovalues_183 Ar175o0oblocks_184 cr175o0oblocks_185) 151) :: pto v_177.2.dry b_x0otape (blk (Ttape_Tape.obj v_177.2.tape Ar175o0otapeowords_178 cr175o0otapeowords_179) 158) :: rowp Ar175o0otapeowords_178 cr175o0otapeowords_179 23 1 (eI .u64) v_177.2.tape.words :: rowp Ar175o0oops_180 cr175o0oops_181 32 6 Tapi_Op.cells v_177.2.ops :: rowp Ar175o0ovalues_182 cr175o0ovalues_183 23 1 (eI .u64) v_177.2.values :: rowp Ar175o0oblocks_184 cr175o0oblocks_185 144 3 Tapi_Span.cells v_177.2.blocks :: pt b_4 (blk (Tapi_Op.cells x2.o) 32) :: pt b_2 (blk (Tvisorlaw19_Act.cells x2) 111) :: pt b_x1 (blk (Tvisorref19_M.obj x1 A_x1oops c_x1oops A_x1oblocks c_x1oblocks A_x1oval c_x1oval A_x1otapel c_x1otapel) 123) :: rowp A_x1oops c_x1oops 32 6 Tapi_Op.cells x1.ops :: rowp A_x1oblocks c_x1oblocks 144 3 Tapi_Span.cells x1.blocks :: rowp A_x1oval c_x1oval 23 1 (eI .u64) x1.val :: rdp κ A_x1otapel c_x1otapel 1 (eI .u64) x1.tape.l :: S) hs.own).mono ?_
                rintro _ w ⟨rfl, how⟩
                refine ⟨_, _, _, rfl, how, fun a hs => ?_⟩
                replace hcl : Own κ w C_174 := by rw [hC_174]; exact (Own.to hs.own [6, 7, 8, 9, 10, 11, 12] 13 (by kernel_rfl) (by kernel_rfl))
                refine ⟨fun _ => hcl, ?_⟩
                obtain ⟨v_191, h_190, hm⟩ := bind_t hm
                refine Vk.dOnly (i := 20) (by kernel_rfl) (Vk.call (some 142) 103 #[.pointer (some ⟨b_x1, 0, none⟩), .agg (vals [C.int .i64 v_188.kind, C.int .i64 v_188.dom, C.int .i64 v_188.a, C.int .i64 v_188.b, C.int .i64 v_188.d, C.int .u64 v_188.c]), .int .u64 0] hs (by kernel_rfl) (by kernel_rfl) (by kernel_rfl) ?_)
                refine (visorref19_M_Do.ok k x1 v_188 0 v_191 h_190 κ w (pt b_x0 (blk (Twire_Machine.obj v_177.2 b_x0otape Ar175o0oops_180 cr175o0oops_181 Ar175o0ovalues_182 cr175o0ovalues_183 Ar175o0oblocks_184 cr175o0oblocks_185) 151) :: pto v_177.2.dry b_x0otape (blk (Ttape_Tape.obj v_177.2.tape Ar175o0otapeowords_178 cr175o0otapeowords_179) 158) :: rowp Ar175o0otapeowords_178 cr175o0otapeowords_179 23 1 (eI .u64) v_177.2.tape.words :: rowp Ar175o0oops_180 cr175o0oops_181 32 6 Tapi_Op.cells v_177.2.ops :: rowp Ar175o0ovalues_182 cr175o0ovalues_183 23 1 (eI .u64) v_177.2.values :: rowp Ar175o0oblocks_184 cr175o0oblocks_185 144 3 Tapi_Span.cells v_177.2.blocks :: pt b_4 (blk (Tapi_Op.cells x2.o) 32) :: pt b_2 (blk (Tvisorlaw19_Act.cells x2) 111) :: S) b_x1 A_x1oops c_x1oops A_x1oblocks c_x1oblocks A_x1oval c_x1oval A_x1otapel c_x1otapel (Own.to hs.own [8, 9, 10, 11, 12, 0, 1, 2, 3, 4, 5, 6, 7] 13 (by kernel_rfl) (by kernel_rfl))).mono ?_
                rintro _ w ⟨Ar189o0oops_192, cr189o0oops_193, Ar189o0oblocks_194, cr189o0oblocks_195, Ar189o0oval_196, cr189o0oval_197, Ar189o0otapel_198, cr189o0otapel_199, rfl, how⟩
                refine ⟨_, _, _, rfl, how, fun a hs => ?_⟩
                refine ⟨fun h => absurd h (by decide), ?_⟩
                refine Vk.dOnly (i := 21) (by kernel_rfl) (Vk.dPure1 [(143, .bool (v_177.1 == v_191.1))] hs (by kernel_rfl) fun a hs => ?_)
                refine ⟨fun h => absurd h (by decide), ?_⟩
                refine Vk.dOnly (i := 22) (by kernel_rfl) (Vk.dPure1 [(6, .bool (v_177.1 == v_191.1))] hs (by kernel_rfl) fun a hs => ?_)
                refine ⟨fun h => absurd h (by decide), ?_⟩
                replace hs := hs.pick [6] (L' := [(6, .bool (v_177.1 == v_191.1))]) (by kernel_rfl)
                refine Vk.dDone (by kernel_rfl) ?_
                refine hK173 _ _ ?_
                clear hK173
                refine wp_ret ?_
                exact Vk.ret1 (P := Try.prog) (fn := Try.f70) (R := visorlaw19_does.R κ S x0 x1 x2 b_x0 b_x0otape A_x0otapeowords c_x0otapeowords A_x0oops c_x0oops A_x0ovalues c_x0ovalues A_x0oblocks c_x0oblocks b_x1 A_x1oops c_x1oops A_x1oblocks c_x1oblocks A_x1oval c_x1oval A_x1otapel c_x1otapel r) (.bool (v_177.1 == v_191.1)) hs rfl (by kernel_rfl) (by obtain rfl := Option.some.inj hm; exact ⟨Ar175o0otapeowords_178, cr175o0otapeowords_179, Ar175o0oops_180, cr175o0oops_181, Ar175o0ovalues_182, cr175o0ovalues_183, Ar175o0oblocks_184, cr175o0oblocks_185, Ar189o0oops_192, cr189o0oops_193, Ar189o0oblocks_194, cr189o0oblocks_195, Ar189o0oval_196, cr189o0oval_197, Ar189o0otapel_198, cr189o0otapel_199, rfl, (Own.to hs.own [5, 6, 7, 8, 9, 10, 0, 1, 2, 3, 4] 13 (by kernel_rfl) (by kernel_rfl))⟩)
              · replace hm := bif_f hm hb
                refine Vk.seq fun K200 hK200 => ?_
                refine Vk.region ?_
                refine Vk.pures 2 [(144, .bool (x2.kind == 7)), (145, .bool (x2.kind == 7))] hs (by kernel_rfl) fun a hs => ?_
                replace hs := hs.pick [0, 1, 7, 13, 144] (L' := [(0, .pointer (some ⟨b_x0, 0, none⟩)), (1, .pointer (some ⟨b_x1, 0, none⟩)), (7, .pointer (some ⟨b_4, 0, none⟩)), (13, .int .i64 x2.kind), (144, .bool (x2.kind == 7))]) (by kernel_rfl)
                refine Vk.done (by kernel_rfl) ?_
                refine hK200 _ _ ?_
                clear hK200
                refine Vk.condS (b := x2.kind == 7) hs (by kernel_rfl) (by kernel_rfl) (fun hb => ?_) (fun hb => ?_)
                · replace hm := bif_t hm hb
                  refine Vk.seq fun K201 hK201 => ?_
                  refine Vk.region ?_
                  refine Vk.pures 2 [(147, .pointer (some ⟨b_4, 2, none⟩)), (146, .pointer (some ⟨b_x0, 0, none⟩))] hs (by kernel_rfl) fun a hs => ?_
                  refine Vk.step (Vk.value (some 148) (.int .i64 x2.o.a) hs (by kernel_rfl) (op := (.load 3 (.tmp 147))) (by kernel_rfl) (fun o ho => run_load1 (b := b_4) (off := 2) (c := C.int .i64 x2.o.a) ho (by kernel_rfl) (by kernel_rfl) (Cell.own 0 rfl (by kernel_rfl)) _ hs.own) fun a hs => ?_)
                  refine Vk.pures 1 [(149, .pointer (some ⟨b_4, 3, none⟩))] hs (by kernel_rfl) fun a hs => ?_
                  refine Vk.step (Vk.value (some 150) (.int .i64 x2.o.b) hs (by kernel_rfl) (op := (.load 3 (.tmp 149))) (by kernel_rfl) (fun o ho => run_load1 (b := b_4) (off := 3) (c := C.int .i64 x2.o.b) ho (by kernel_rfl) (by kernel_rfl) (Cell.own 0 rfl (by kernel_rfl)) _ hs.own) fun a hs => ?_)
                  refine Vk.pures 1 [(151, .pointer (some ⟨b_4, 4, none⟩))] hs (by kernel_rfl) fun a hs => ?_
                  refine Vk.step (Vk.value (some 152) (.int .i64 x2.o.d) hs (by kernel_rfl) (op := (.load 3 (.tmp 151))) (by kernel_rfl) (fun o ho => run_load1 (b := b_4) (off := 4) (c := C.int .i64 x2.o.d) ho (by kernel_rfl) (by kernel_rfl) (Cell.own 0 rfl (by kernel_rfl)) _ hs.own) fun a hs => ?_)
                  obtain ⟨v_204, h_203, hm⟩ := bind_t hm
                  refine Vk.step (Vk.call (some 153) 98 #[.pointer (some ⟨b_x0, 0, none⟩), .int .i64 x2.o.a, .int .i64 x2.o.b, .int .i64 x2.o.d] hs (by kernel_rfl) (by kernel_rfl) (by kernel_rfl) ?_)
                  refine (wire_Machine_Open.ok k x0 x2.o.a x2.o.b x2.o.d v_204 h_203 κ w (pt b_4 (blk (Tapi_Op.cells x2.o) 32) :: pt b_2 (blk (Tvisorlaw19_Act.cells x2) 111) :: pt b_x1 (blk (Tvisorref19_M.obj x1 A_x1oops c_x1oops A_x1oblocks c_x1oblocks A_x1oval c_x1oval A_x1otapel c_x1otapel) 123) :: rowp A_x1oops c_x1oops 32 6 Tapi_Op.cells x1.ops :: rowp A_x1oblocks c_x1oblocks 144 3 Tapi_Span.cells x1.blocks :: rowp A_x1oval c_x1oval 23 1 (eI .u64) x1.val :: rdp κ A_x1otapel c_x1otapel 1 (eI .u64) x1.tape.l :: S) b_x0 b_x0otape A_x0otapeowords c_x0otapeowords A_x0oops c_x0oops A_x0ovalues c_x0ovalues A_x0oblocks c_x0oblocks (Own.to hs.own [2, 3, 4, 5, 6, 7, 0, 1, 8, 9, 10, 11, 12] 13 (by kernel_rfl) (by kernel_rfl))).mono ?_
                  rintro _ w ⟨Ar202o0otapeowords_205, cr202o0otapeowords_206, Ar202o0oops_207, cr202o0oops_208, Ar202o0ovalues_209, cr202o0ovalues_210, Ar202o0oblocks_211, cr202o0oblocks_212, rfl, how⟩
                  refine ⟨_, _, _, rfl, how, fun a hs => ?_⟩
                  refine Vk.pures 1 [(8, .int .u64 v_204.1)] hs (by kernel_rfl) fun a hs => ?_
                  replace hs := hs.pick [1, 7, 8] (L' := [(1, .pointer (some ⟨b_x1, 0, none⟩)), (7, .pointer (some ⟨b_4, 0, none⟩)), (8, .int .u64 v_204.1)]) (by kernel_rfl)
                  refine Vk.done (by kernel_rfl) ?_
                  refine hK201 _ _ ?_
                  clear hK201
                  refine Vk.seq fun K213 hK213 => ?_
                  refine Vk.region ?_
                  refine Vk.pures 2 [(155, .pointer (some ⟨b_4, 2, none⟩)), (154, .pointer (some ⟨b_x1, 0, none⟩))] hs (by kernel_rfl) fun a hs => ?_
                  refine Vk.step (Vk.value (some 156) (.int .i64 x2.o.a) hs (by kernel_rfl) (op := (.load 3 (.tmp 155))) (by kernel_rfl) (fun o ho => run_load1 (b := b_4) (off := 2) (c := C.int .i64 x2.o.a) ho (by kernel_rfl) (by kernel_rfl) (Cell.own 6 rfl (by kernel_rfl)) _ hs.own) fun a hs => ?_)
                  refine Vk.pures 1 [(157, .pointer (some ⟨b_4, 3, none⟩))] hs (by kernel_rfl) fun a hs => ?_
                  refine Vk.step (Vk.value (some 158) (.int .i64 x2.o.b) hs (by kernel_rfl) (op := (.load 3 (.tmp 157))) (by kernel_rfl) (fun o ho => run_load1 (b := b_4) (off := 3) (c := C.int .i64 x2.o.b) ho (by kernel_rfl) (by kernel_rfl) (Cell.own 6 rfl (by kernel_rfl)) _ hs.own) fun a hs => ?_)
                  refine Vk.pures 1 [(159, .pointer (some ⟨b_4, 4, none⟩))] hs (by kernel_rfl) fun a hs => ?_
                  refine Vk.step (Vk.value (some 160) (.int .i64 x2.o.d) hs (by kernel_rfl) (op := (.load 3 (.tmp 159))) (by kernel_rfl) (fun o ho => run_load1 (b := b_4) (off := 4) (c := C.int .i64 x2.o.d) ho (by kernel_rfl) (by kernel_rfl) (Cell.own 6 rfl (by kernel_rfl)) _ hs.own) fun a hs => ?_)
                  refine Vk.pures 1 [(161, .agg (vals [C.int .i64 12, C.int .i64 (-1), C.int .i64 x2.o.a, C.int .i64 x2.o.b, C.int .i64 x2.o.d, C.int .u64 0]))] hs (by kernel_rfl) fun a hs => ?_
                  obtain ⟨v_216, h_215, hm⟩ := bind_t hm
                  refine Vk.step (Vk.call (some 162) 103 #[.pointer (some ⟨b_x1, 0, none⟩), .agg (vals [C.int .i64 12, C.int .i64 (-1), C.int .i64 x2.o.a, C.int .i64 x2.o.b, C.int .i64 x2.o.d, C.int .u64 0]), .int .u64 0] hs (by kernel_rfl) (by kernel_rfl) (by kernel_rfl) ?_)
                  refine (visorref19_M_Do.ok k x1 (⟨12, (-1), x2.o.a, x2.o.b, x2.o.d, 0⟩ : Tapi_Op) 0 v_216 h_215 κ w (pt b_x0 (blk (Twire_Machine.obj v_204.2 b_x0otape Ar202o0oops_207 cr202o0oops_208 Ar202o0ovalues_209 cr202o0ovalues_210 Ar202o0oblocks_211 cr202o0oblocks_212) 151) :: pto v_204.2.dry b_x0otape (blk (Ttape_Tape.obj v_204.2.tape Ar202o0otapeowords_205 cr202o0otapeowords_206) 158) :: rowp Ar202o0otapeowords_205 cr202o0otapeowords_206 23 1 (eI .u64) v_204.2.tape.words :: rowp Ar202o0oops_207 cr202o0oops_208 32 6 Tapi_Op.cells v_204.2.ops :: rowp Ar202o0ovalues_209 cr202o0ovalues_210 23 1 (eI .u64) v_204.2.values :: rowp Ar202o0oblocks_211 cr202o0oblocks_212 144 3 Tapi_Span.cells v_204.2.blocks :: pt b_4 (blk (Tapi_Op.cells x2.o) 32) :: pt b_2 (blk (Tvisorlaw19_Act.cells x2) 111) :: S) b_x1 A_x1oops c_x1oops A_x1oblocks c_x1oblocks A_x1oval c_x1oval A_x1otapel c_x1otapel (Own.to hs.own [8, 9, 10, 11, 12, 0, 1, 2, 3, 4, 5, 6, 7] 13 (by kernel_rfl) (by kernel_rfl))).mono ?_
                  rintro _ w ⟨Ar214o0oops_217, cr214o0oops_218, Ar214o0oblocks_219, cr214o0oblocks_220, Ar214o0oval_221, cr214o0oval_222, Ar214o0otapel_223, cr214o0otapel_224, rfl, how⟩
                  refine ⟨_, _, _, rfl, how, fun a hs => ?_⟩
                  refine Vk.pures 1 [(9, .int .i64 v_216.1)] hs (by kernel_rfl) fun a hs => ?_
                  replace hs := hs.pick [1, 8, 9] (L' := [(1, .pointer (some ⟨b_x1, 0, none⟩)), (8, .int .u64 v_204.1), (9, .int .i64 v_216.1)]) (by kernel_rfl)
                  refine Vk.done (by kernel_rfl) ?_
                  refine hK213 _ _ ?_
                  clear hK213
                  refine Vk.seq fun K225 hK225 => ?_
                  refine Vk.seq fun K226 hK226 => ?_
                  refine Vk.region ?_
                  refine Vk.pures 2 [(164, .bool (decide (v_216.1 < 0))), (163, .int .i64 v_216.1)] hs (by kernel_rfl) fun a hs => ?_
                  replace hs := hs.pick [1, 8, 9, 164] (L' := [(1, .pointer (some ⟨b_x1, 0, none⟩)), (8, .int .u64 v_204.1), (9, .int .i64 v_216.1), (164, .bool (decide (v_216.1 < 0)))]) (by kernel_rfl)
                  refine Vk.done (by kernel_rfl) ?_
                  refine hK226 _ _ ?_
                  clear hK226
                  refine Vk.condS (b := decide (v_216.1 < 0)) hs (by kernel_rfl) (by kernel_rfl) (fun hb => ?_) (fun hb => ?_)
                  · replace hm := bif_t hm hb
                    refine Vk.seq fun K227 hK227 => ?_
                    refine Vk.region ?_
                    refine Vk.pures 3 [(6, .bool (v_204.1 == 0)), (166, .bool (v_204.1 == 0)), (165, .int .u64 v_204.1)] hs (by kernel_rfl) fun a hs => ?_
                    replace hs := hs.pick [6] (L' := [(6, .bool (v_204.1 == 0))]) (by kernel_rfl)
                    refine Vk.done (by kernel_rfl) ?_
                    refine hK227 _ _ ?_
                    clear hK227
                    refine wp_ret ?_
                    exact Vk.ret1 (P := Try.prog) (fn := Try.f70) (R := visorlaw19_does.R κ S x0 x1 x2 b_x0 b_x0otape A_x0otapeowords c_x0otapeowords A_x0oops c_x0oops A_x0ovalues c_x0ovalues A_x0oblocks c_x0oblocks b_x1 A_x1oops c_x1oops A_x1oblocks c_x1oblocks A_x1oval c_x1oval A_x1otapel c_x1otapel r) (.bool (v_204.1 == 0)) hs rfl (by kernel_rfl) (by obtain rfl := Option.some.inj hm; exact ⟨Ar202o0otapeowords_205, cr202o0otapeowords_206, Ar202o0oops_207, cr202o0oops_208, Ar202o0ovalues_209, cr202o0ovalues_210, Ar202o0oblocks_211, cr202o0oblocks_212, Ar214o0oops_217, cr214o0oops_218, Ar214o0oblocks_219, cr214o0oblocks_220, Ar214o0oval_221, cr214o0oval_222, Ar214o0otapel_223, cr214o0otapel_224, rfl, (Own.to hs.own [5, 6, 7, 8, 9, 10, 0, 1, 2, 3, 4] 13 (by kernel_rfl) (by kernel_rfl))⟩)
                  · replace hm := bif_f hm hb
                    refine wp_skip ?_
                    refine hK225 _ _ ?_
                    clear hK225
                    refine Vk.seq fun K228 hK228 => ?_
                    have hj228 : ∀ (p_244 : Bool), visorlaw19_does.j1 k v_204 v_216 p_244 = some r → ∀ (a : Act) (w : World), St 209 a w κ [(6, .bool p_244)] (pt b_x0 (blk (Twire_Machine.obj v_204.2 b_x0otape Ar202o0oops_207 cr202o0oops_208 Ar202o0ovalues_209 cr202o0ovalues_210 Ar202o0oblocks_211 cr202o0oblocks_212) 151) :: pto v_204.2.dry b_x0otape (blk (Ttape_Tape.obj v_204.2.tape Ar202o0otapeowords_205 cr202o0otapeowords_206) 158) :: rowp Ar202o0otapeowords_205 cr202o0otapeowords_206 23 1 (eI .u64) v_204.2.tape.words :: rowp Ar202o0oops_207 cr202o0oops_208 32 6 Tapi_Op.cells v_204.2.ops :: rowp Ar202o0ovalues_209 cr202o0ovalues_210 23 1 (eI .u64) v_204.2.values :: rowp Ar202o0oblocks_211 cr202o0oblocks_212 144 3 Tapi_Span.cells v_204.2.blocks :: pt b_x1 (blk (Tvisorref19_M.obj v_216.2 Ar214o0oops_217 cr214o0oops_218 Ar214o0oblocks_219 cr214o0oblocks_220 Ar214o0oval_221 cr214o0oval_222 Ar214o0otapel_223 cr214o0otapel_224) 123) :: rowp Ar214o0oops_217 cr214o0oops_218 32 6 Tapi_Op.cells v_216.2.ops :: rowp Ar214o0oblocks_219 cr214o0oblocks_220 144 3 Tapi_Span.cells v_216.2.blocks :: rowp Ar214o0oval_221 cr214o0oval_222 23 1 (eI .u64) v_216.2.val :: rdp κ Ar214o0otapel_223 cr214o0otapel_224 1 (eI .u64) v_216.2.tape.l :: S) → K228 a w := by
                      intro p_244 hm a w hs
                      unfold visorlaw19_does.j1 at hm
                      refine hK228 _ _ ?_
                      refine wp_ret ?_
                      exact Vk.ret1 (P := Try.prog) (fn := Try.f70) (R := visorlaw19_does.R κ S x0 x1 x2 b_x0 b_x0otape A_x0otapeowords c_x0otapeowords A_x0oops c_x0oops A_x0ovalues c_x0ovalues A_x0oblocks c_x0oblocks b_x1 A_x1oops c_x1oops A_x1oblocks c_x1oblocks A_x1oval c_x1oval A_x1otapel c_x1otapel r) (.bool p_244) hs rfl (by kernel_rfl) (by obtain rfl := Option.some.inj hm; exact ⟨Ar202o0otapeowords_205, cr202o0otapeowords_206, Ar202o0oops_207, cr202o0oops_208, Ar202o0ovalues_209, cr202o0ovalues_210, Ar202o0oblocks_211, cr202o0oblocks_212, Ar214o0oops_217, cr214o0oops_218, Ar214o0oblocks_219, cr214o0oblocks_220, Ar214o0oval_221, cr214o0oval_222, Ar214o0otapel_223, cr214o0otapel_224, rfl, (Own.to hs.own [0, 1, 2, 3, 4, 5, 6, 7, 8, 9, 10] 11 (by kernel_rfl) (by kernel_rfl))⟩)
                    refine Vk.region ?_
                    refine Vk.pures 3 [(169, .pointer (some ⟨b_x1, 14, none⟩)), (168, .pointer (some ⟨b_x1, 0, none⟩)), (167, .pointer (some ⟨b_x1, 0, none⟩))] hs (by kernel_rfl) fun a hs => ?_
                    refine Vk.step (Vk.value (some 170) (.bool v_216.2.dry) hs (by kernel_rfl) (op := (.load 4 (.tmp 169))) (by kernel_rfl) (fun o ho => run_load1 (b := b_x1) (off := 14) (c := C.bool v_216.2.dry) ho (by kernel_rfl) (by kernel_rfl) (Cell.own 0 rfl (by kernel_rfl)) _ hs.own) fun a hs => ?_)
                    refine Vk.pures 1 [(171, .bool v_216.2.dry)] hs (by kernel_rfl) fun a hs => ?_
                    suffices hj_229 : ∀ a, St 209 a w κ [(1, .pointer (some ⟨b_x1, 0, none⟩)), (8, .int .u64 v_204.1), (9, .int .i64 v_216.1), (164, .bool (decide (v_216.1 < 0))), (167, .pointer (some ⟨b_x1, 0, none⟩)), (168, .pointer (some ⟨b_x1, 0, none⟩)), (169, .pointer (some ⟨b_x1, 14, none⟩)), (170, .bool v_216.2.dry), (171, .bool v_216.2.dry), (174, .bool (v_216.2.dry && (v_204.1 == 18446744073709551615)))] (pt b_x1 (blk (Tvisorref19_M.obj v_216.2 Ar214o0oops_217 cr214o0oops_218 Ar214o0oblocks_219 cr214o0oblocks_220 Ar214o0oval_221 cr214o0oval_222 Ar214o0otapel_223 cr214o0otapel_224) 123) :: rowp Ar214o0oops_217 cr214o0oops_218 32 6 Tapi_Op.cells v_216.2.ops :: rowp Ar214o0oblocks_219 cr214o0oblocks_220 144 3 Tapi_Span.cells v_216.2.blocks :: rowp Ar214o0oval_221 cr214o0oval_222 23 1 (eI .u64) v_216.2.val :: rdp κ Ar214o0otapel_223 cr214o0otapel_224 1 (eI .u64) v_216.2.tape.l :: pt b_x0 (blk (Twire_Machine.obj v_204.2 b_x0otape Ar202o0oops_207 cr202o0oops_208 Ar202o0ovalues_209 cr202o0ovalues_210 Ar202o0oblocks_211 cr202o0oblocks_212) 151) :: pto v_204.2.dry b_x0otape (blk (Ttape_Tape.obj v_204.2.tape Ar202o0otapeowords_205 cr202o0otapeowords_206) 158) :: rowp Ar202o0otapeowords_205 cr202o0otapeowords_206 23 1 (eI .u64) v_204.2.tape.words :: rowp Ar202o0oops_207 cr202o0oops_208 32 6 Tapi_Op.cells v_204.2.ops :: rowp Ar202o0ovalues_209 cr202o0ovalues_210 23 1 (eI .u64) v_204.2.values :: rowp Ar202o0oblocks_211 cr202o0oblocks_212 144 3 Tapi_Span.cells v_204.2.blocks :: pt b_4 (blk (Tapi_Op.cells x2.o) 32) :: pt b_2 (blk (Tvisorlaw19_Act.cells x2) 111) :: S) → wpFrom Try.prog _ _ 8 a w by
                      rcases Bool.eq_false_or_eq_true (v_216.2.dry) with hb | hb
                      · replace hs := hs.known (t := 171) hb (by kernel_rfl)
                        refine Vk.pures 3 [(174, .bool (v_204.1 == 18446744073709551615)), (173, .bool (v_204.1 == 18446744073709551615)), (172, .int .u64 v_204.1)] hs (by kernel_rfl) fun a hs => ?_
                        have hq := hs.pick [1, 8, 9, 164, 167, 168, 169, 170, 171, 174] (L' := [(1, .pointer (some ⟨b_x1, 0, none⟩)), (8, .int .u64 v_204.1), (9, .int .i64 v_216.1), (164, .bool (decide (v_216.1 < 0))), (167, .pointer (some ⟨b_x1, 0, none⟩)), (168, .pointer (some ⟨b_x1, 0, none⟩)), (169, .pointer (some ⟨b_x1, 14, none⟩)), (170, .bool v_216.2.dry), (171, .bool true), (174, .bool (v_204.1 == 18446744073709551615))]) (by kernel_rfl)
                        exact hj_229 _ (hq.conv (by first | (rw [hb] <;> rfl) | rfl))
                      · replace hs := hs.known (t := 171) hb (by kernel_rfl)
                        refine Vk.pures 3 [(174, .bool false), (173, undef), (172, undef)] hs (by kernel_rfl) fun a hs => ?_
                        have hq := hs.pick [1, 8, 9, 164, 167, 168, 169, 170, 171, 174] (L' := [(1, .pointer (some ⟨b_x1, 0, none⟩)), (8, .int .u64 v_204.1), (9, .int .i64 v_216.1), (164, .bool (decide (v_216.1 < 0))), (167, .pointer (some ⟨b_x1, 0, none⟩)), (168, .pointer (some ⟨b_x1, 0, none⟩)), (169, .pointer (some ⟨b_x1, 14, none⟩)), (170, .bool v_216.2.dry), (171, .bool false), (174, .bool false)]) (by kernel_rfl)
                        exact hj_229 _ (hq.conv (by first | (rw [hb] <;> rfl) | rfl))
                    intro a hs
                    refine Vk.pures 1 [(175, .bool (v_216.2.dry && (v_204.1 == 18446744073709551615)))] hs (by kernel_rfl) fun a hs => ?_
                    rcases Bool.eq_false_or_eq_true (v_216.2.dry && (v_204.1 == 18446744073709551615)) with hb | hb
                    · replace hm := bif_t hm hb
                      replace hs := hs.known (t := 175) hb (by kernel_rfl)
                      refine Vk.pures 18 [(6, .bool true), (192, .bool true), (191, undef), (190, undef), (189, undef), (188, undef), (187, undef), (186, undef), (185, undef), (184, undef), (183, undef), (182, undef), (181, undef), (180, undef), (179, undef), (178, undef), (177, undef), (176, undef)] hs (by kernel_rfl) fun a hs => ?_
                      replace hs := hs.pick [6] (L' := [(6, .bool true)]) (by kernel_rfl)
                      refine Vk.done (by kernel_rfl) ?_
                      exact hj228 true hm _ _ (hs.go [6] [5, 6, 7, 8, 9, 10, 0, 1, 2, 3, 4] 13 (by kernel_rfl) (by kernel_rfl) (by kernel_rfl))
                    · replace hm := bif_f hm hb
                      replace hs := hs.known (t := 175) hb (by kernel_rfl)
                      refine Vk.pures 3 [(178, .pointer (some ⟨b_x1, 14, none⟩)), (177, .pointer (some ⟨b_x1, 0, none⟩)), (176, .pointer (some ⟨b_x1, 0, none⟩))] hs (by kernel_rfl) fun a hs => ?_
                      refine Vk.step (Vk.value (some 179) (.bool v_216.2.dry) hs (by kernel_rfl) (op := (.load 4 (.tmp 178))) (by kernel_rfl) (fun o ho => run_load1 (b := b_x1) (off := 14) (c := C.bool v_216.2.dry) ho (by kernel_rfl) (by kernel_rfl) (Cell.own 0 rfl (by kernel_rfl)) _ hs.own) fun a hs => ?_)
                      refine Vk.pures 2 [(181, .bool (!v_216.2.dry)), (180, .bool (!v_216.2.dry))] hs (by kernel_rfl) fun a hs => ?_
                      rcases Bool.eq_false_or_eq_true (!v_216.2.dry) with hb | hb
                      · replace hm := bif_t hm hb
                        replace hs := hs.known (t := 181) hb (by kernel_rfl)
                        refine Vk.pures 4 [(185, .pointer (some ⟨b_x1, 10, none⟩)), (184, .pointer (some ⟨b_x1, 0, none⟩)), (183, .pointer (some ⟨b_x1, 0, none⟩)), (182, .int .u64 v_204.1)] hs (by kernel_rfl) fun a hs => ?_
                        refine Vk.step (Vk.value (some 186) (.slice Ar214o0oval_221 v_216.2.val.length cr214o0oval_222) hs (by kernel_rfl) (op := (.load 73 (.tmp 185))) (by kernel_rfl) (fun o ho => run_load1 (b := b_x1) (off := 10) (c := C.slc Ar214o0oval_221 v_216.2.val.length cr214o0oval_222) ho (by kernel_rfl) (by kernel_rfl) (Cell.own 0 rfl (by kernel_rfl)) _ hs.own) fun a hs => ?_)
                        refine Vk.pures 1 [(187, .int .i64 v_216.1)] hs (by kernel_rfl) fun a hs => ?_
                        obtain ⟨h_237, hm⟩ := ite_t hm
                        obtain ⟨e_240, h_238, hm⟩ := bind_t hm
                        obtain ⟨b_241, o_242, hA_243, h_239⟩ := Sl.elem (Own.rowSl 0 (Own.to (S' := rowp Ar214o0oval_221 cr214o0oval_222 23 1 (eI .u64) v_216.2.val :: S) hs.own [3] 13 (by kernel_rfl) (by kernel_rfl)) rfl) h_238
                        refine Vk.step (Vk.value (some 188) (.pointer (some ⟨b_241, o_242 + v_216.1.toNat * 1, none⟩)) hs (by kernel_rfl) (op := (.indexAddr 73 (.tmp 186) (.tmp 187))) (by kernel_rfl) (fun o ho => run_idxSlc (k := .i64) ho (cap := cr214o0oval_222) (len := v_216.2.val.length) ((congrArg (fun A => Value.slice A (v_216.2.val.length) (cr214o0oval_222)) hA_243) ▸ (by kernel_rfl)) (by kernel_rfl) (by kernel_rfl) (idx_ok h_237 h_238) _) fun a hs => ?_)
                        refine Vk.step (Vk.value (some 189) (.int .u64 e_240) hs (by kernel_rfl) (op := (.load 23 (.tmp 188))) (by kernel_rfl) (fun o ho => run_load1 (c := C.int .u64 e_240) ho (by kernel_rfl) (by kernel_rfl) (fun w ho => h_239 w ho 0 _ rfl) _ (Own.to (S' := rowp Ar214o0oval_221 cr214o0oval_222 23 1 (eI .u64) v_216.2.val :: S) hs.own [3] 13 (by kernel_rfl) (by kernel_rfl))) fun a hs => ?_)
                        refine Vk.pures 4 [(6, .bool (v_204.1 == e_240)), (192, .bool (v_204.1 == e_240)), (191, .bool (v_204.1 == e_240)), (190, .bool (v_204.1 == e_240))] hs (by kernel_rfl) fun a hs => ?_
                        replace hs := hs.pick [6] (L' := [(6, .bool (v_204.1 == e_240))]) (by kernel_rfl)
                        refine Vk.done (by kernel_rfl) ?_
                        exact hj228 (v_204.1 == e_240) hm _ _ (hs.go [6] [5, 6, 7, 8, 9, 10, 0, 1, 2, 3, 4] 13 (by kernel_rfl) (by kernel_rfl) (by kernel_rfl))
                      · replace hm := bif_f hm hb
                        replace hs := hs.known (t := 181) hb (by kernel_rfl)
                        refine Vk.pures 12 [(6, .bool false), (192, .bool false), (191, .bool false), (190, undef), (189, undef), (188, undef), (187, undef), (186, undef), (185, undef), (184, undef), (183, undef), (182, undef)] hs (by kernel_rfl) fun a hs => ?_
                        replace hs := hs.pick [6] (L' := [(6, .bool false)]) (by kernel_rfl)
                        refine Vk.done (by kernel_rfl) ?_
                        exact hj228 false hm _ _ (hs.go [6] [5, 6, 7, 8, 9, 10, 0, 1, 2, 3, 4] 13 (by kernel_rfl) (by kernel_rfl) (by kernel_rfl))
                · replace hm := bif_f hm hb
                  refine Vk.seq fun K245 hK245 => ?_
                  refine Vk.region ?_
                  refine Vk.pures 2 [(193, .bool (x2.kind == 8)), (194, .bool (x2.kind == 8))] hs (by kernel_rfl) fun a hs => ?_
                  replace hs := hs.pick [0, 1, 7, 13, 193] (L' := [(0, .pointer (some ⟨b_x0, 0, none⟩)), (1, .pointer (some ⟨b_x1, 0, none⟩)), (7, .pointer (some ⟨b_4, 0, none⟩)), (13, .int .i64 x2.kind), (193, .bool (x2.kind == 8))]) (by kernel_rfl)
                  refine Vk.done (by kernel_rfl) ?_
                  refine hK245 _ _ ?_
                  clear hK245
                  refine Vk.condS (b := x2.kind == 8) hs (by kernel_rfl) (by kernel_rfl) (fun hb => ?_) (fun hb => ?_)
                  · replace hm := bif_t hm hb
                    refine Vk.seq fun K246 hK246 => ?_
                    refine Vk.region ?_
                    refine Vk.pures 2 [(196, .pointer (some ⟨b_4, 0, none⟩)), (195, .pointer (some ⟨b_x0, 0, none⟩))] hs (by kernel_rfl) fun a hs => ?_
                    refine Vk.step (Vk.value (some 197) (.int .i64 x2.o.kind) hs (by kernel_rfl) (op := (.load 3 (.tmp 196))) (by kernel_rfl) (fun o ho => run_load1 (b := b_4) (off := 0) (c := C.int .i64 x2.o.kind) ho (by kernel_rfl) (by kernel_rfl) (Cell.own 0 rfl (by kernel_rfl)) _ hs.own) fun a hs => ?_)
                    obtain ⟨v_249, h_248, hm⟩ := bind_t hm
                    refine Vk.step (Vk.call (some 198) 61 #[.pointer (some ⟨b_x0, 0, none⟩), .int .i64 x2.o.kind] hs (by kernel_rfl) (by kernel_rfl) (by kernel_rfl) ?_)
                    refine (wire_Machine_Begin.ok k x0 x2.o.kind v_249 h_248 κ w (pt b_4 (blk (Tapi_Op.cells x2.o) 32) :: pt b_2 (blk (Tvisorlaw19_Act.cells x2) 111) :: pt b_x1 (blk (Tvisorref19_M.obj x1 A_x1oops c_x1oops A_x1oblocks c_x1oblocks A_x1oval c_x1oval A_x1otapel c_x1otapel) 123) :: rowp A_x1oops c_x1oops 32 6 Tapi_Op.cells x1.ops :: rowp A_x1oblocks c_x1oblocks 144 3 Tapi_Span.cells x1.blocks :: rowp A_x1oval c_x1oval 23 1 (eI .u64) x1.val :: rdp κ A_x1otapel c_x1otapel 1 (eI .u64) x1.tape.l :: S) b_x0 b_x0otape A_x0otapeowords c_x0otapeowords A_x0oops c_x0oops A_x0ovalues c_x0ovalues A_x0oblocks c_x0oblocks (Own.to hs.own [2, 3, 4, 5, 6, 7, 0, 1, 8, 9, 10, 11, 12] 13 (by kernel_rfl) (by kernel_rfl))).mono ?_
                    rintro _ w ⟨Ar247o0otapeowords_250, cr247o0otapeowords_251, Ar247o0oops_252, cr247o0oops_253, Ar247o0ovalues_254, cr247o0ovalues_255, Ar247o0oblocks_256, cr247o0oblocks_257, rfl, how⟩
                    refine ⟨_, _, _, rfl, how, fun a hs => ?_⟩
                    replace hs := hs.pick [1, 7] (L' := [(1, .pointer (some ⟨b_x1, 0, none⟩)), (7, .pointer (some ⟨b_4, 0, none⟩))]) (by kernel_rfl)
                    refine Vk.done (by kernel_rfl) ?_
                    refine hK246 _ _ ?_
                    clear hK246
                    refine Vk.region ?_
                    refine Vk.pures 2 [(200, .pointer (some ⟨b_4, 0, none⟩)), (199, .pointer (some ⟨b_x1, 0, none⟩))] hs (by kernel_rfl) fun a hs => ?_
                    refine Vk.step (Vk.value (some 201) (.int .i64 x2.o.kind) hs (by kernel_rfl) (op := (.load 3 (.tmp 200))) (by kernel_rfl) (fun o ho => run_load1 (b := b_4) (off := 0) (c := C.int .i64 x2.o.kind) ho (by kernel_rfl) (by kernel_rfl) (Cell.own 6 rfl (by kernel_rfl)) _ hs.own) fun a hs => ?_)
                    obtain ⟨v_260, h_259, hm⟩ := bind_t hm
                    refine Vk.step (Vk.call (some 202) 107 #[.pointer (some ⟨b_x1, 0, none⟩), .int .i64 x2.o.kind] hs (by kernel_rfl) (by kernel_rfl) (by kernel_rfl) ?_)
                    refine (visorref19_M_Begin.ok k x1 x2.o.kind v_260 h_259 κ w (pt b_x0 (blk (Twire_Machine.obj v_249 b_x0otape Ar247o0oops_252 cr247o0oops_253 Ar247o0ovalues_254 cr247o0ovalues_255 Ar247o0oblocks_256 cr247o0oblocks_257) 151) :: pto v_249.dry b_x0otape (blk (Ttape_Tape.obj v_249.tape Ar247o0otapeowords_250 cr247o0otapeowords_251) 158) :: rowp Ar247o0otapeowords_250 cr247o0otapeowords_251 23 1 (eI .u64) v_249.tape.words :: rowp Ar247o0oops_252 cr247o0oops_253 32 6 Tapi_Op.cells v_249.ops :: rowp Ar247o0ovalues_254 cr247o0ovalues_255 23 1 (eI .u64) v_249.values :: rowp Ar247o0oblocks_256 cr247o0oblocks_257 144 3 Tapi_Span.cells v_249.blocks :: pt b_4 (blk (Tapi_Op.cells x2.o) 32) :: pt b_2 (blk (Tvisorlaw19_Act.cells x2) 111) :: S) b_x1 A_x1oops c_x1oops A_x1oblocks c_x1oblocks A_x1oval c_x1oval A_x1otapel c_x1otapel (Own.to hs.own [8, 9, 10, 11, 12, 0, 1, 2, 3, 4, 5, 6, 7] 13 (by kernel_rfl) (by kernel_rfl))).mono ?_
                    rintro _ w ⟨Ar258o0oops_261, cr258o0oops_262, Ar258o0oblocks_263, cr258o0oblocks_264, Ar258o0oval_265, cr258o0oval_266, Ar258o0otapel_267, cr258o0otapel_268, rfl, how⟩
                    refine ⟨_, _, _, rfl, how, fun a hs => ?_⟩
                    replace hs := hs.pick [] (L' := []) (by kernel_rfl)
                    refine Vk.done (by kernel_rfl) ?_
                    exact hj5 v_249 v_260 hm Ar247o0otapeowords_250 cr247o0otapeowords_251 Ar247o0oops_252 cr247o0oops_253 Ar247o0ovalues_254 cr247o0ovalues_255 Ar247o0oblocks_256 cr247o0oblocks_257 Ar258o0oops_261 cr258o0oops_262 Ar258o0oblocks_263 cr258o0oblocks_264 Ar258o0oval_265 cr258o0oval_266 Ar258o0otapel_267 cr258o0otapel_268 _ _ (hs.go [] [5, 6, 7, 8, 9, 10, 0, 1, 2, 3, 4] 13 (by kernel_rfl) (by kernel_rfl) (by kernel_rfl))
                  · replace hm := bif_f hm hb
                    refine Vk.seq fun K269 hK269 => ?_
                    refine Vk.region ?_
                    refine Vk.pures 2 [(203, .bool (x2.kind == 9)), (204, .bool (x2.kind == 9))] hs (by kernel_rfl) fun a hs => ?_
                    replace hs := hs.pick [0, 1, 203] (L' := [(0, .pointer (some ⟨b_x0, 0, none⟩)), (1, .pointer (some ⟨b_x1, 0, none⟩)), (203, .bool (x2.kind == 9))]) (by kernel_rfl)
                    refine Vk.done (by kernel_rfl) ?_
                    refine hK269 _ _ ?_
                    clear hK269
                    refine Vk.condS (b := x2.kind == 9) hs (by kernel_rfl) (by kernel_rfl) (fun hb => ?_) (fun hb => ?_)
                    · replace hm := bif_t hm hb
                      refine Vk.seq fun K270 hK270 => ?_
                      refine Vk.region ?_
                      refine Vk.pures 1 [(205, .pointer (some ⟨b_x0, 0, none⟩))] hs (by kernel_rfl) fun a hs => ?_
                      obtain ⟨v_273, h_272, hm⟩ := bind_t hm
                      refine Vk.step (Vk.call (some 206) 63 #[.pointer (some ⟨b_x0, 0, none⟩)] hs (by kernel_rfl) (by kernel_rfl) (by kernel_rfl) ?_)
                      refine (wire_Machine_End.ok k x0 v_273 h_272 κ w (pt b_4 (blk (Tapi_Op.cells x2.o) 32) :: pt b_2 (blk (Tvisorlaw19_Act.cells x2) 111) :: pt b_x1 (blk (Tvisorref19_M.obj x1 A_x1oops c_x1oops A_x1oblocks c_x1oblocks A_x1oval c_x1oval A_x1otapel c_x1otapel) 123) :: rowp A_x1oops c_x1oops 32 6 Tapi_Op.cells x1.ops :: rowp A_x1oblocks c_x1oblocks 144 3 Tapi_Span.cells x1.blocks :: rowp A_x1oval c_x1oval 23 1 (eI .u64) x1.val :: rdp κ A_x1otapel c_x1otapel 1 (eI .u64) x1.tape.l :: S) b_x0 b_x0otape A_x0otapeowords c_x0otapeowords A_x0oops c_x0oops A_x0ovalues c_x0ovalues A_x0oblocks c_x0oblocks (Own.to hs.own [2, 3, 4, 5, 6, 7, 0, 1, 8, 9, 10, 11, 12] 13 (by kernel_rfl) (by kernel_rfl))).mono ?_
                      rintro _ w ⟨Ar271o0otapeowords_274, cr271o0otapeowords_275, Ar271o0oops_276, cr271o0oops_277, Ar271o0ovalues_278, cr271o0ovalues_279, Ar271o0oblocks_280, cr271o0oblocks_281, rfl, how⟩
                      refine ⟨_, _, _, rfl, how, fun a hs => ?_⟩
                      replace hs := hs.pick [1] (L' := [(1, .pointer (some ⟨b_x1, 0, none⟩))]) (by kernel_rfl)
                      refine Vk.done (by kernel_rfl) ?_
                      refine hK270 _ _ ?_
                      clear hK270
                      refine Vk.region ?_
                      refine Vk.pures 1 [(207, .pointer (some ⟨b_x1, 0, none⟩))] hs (by kernel_rfl) fun a hs => ?_
                      obtain ⟨v_284, h_283, hm⟩ := bind_t hm
                      refine Vk.step (Vk.call (some 208) 108 #[.pointer (some ⟨b_x1, 0, none⟩)] hs (by kernel_rfl) (by kernel_rfl) (by kernel_rfl) ?_)
                      refine (visorref19_M_End.ok k x1 v_284 h_283 κ w (pt b_x0 (blk (Twire_Machine.obj v_273 b_x0otape Ar271o0oops_276 cr271o0oops_277 Ar271o0ovalues_278 cr271o0ovalues_279 Ar271o0oblocks_280 cr271o0oblocks_281) 151) :: pto v_273.dry b_x0otape (blk (Ttape_Tape.obj v_273.tape Ar271o0otapeowords_274 cr271o0otapeowords_275) 158) :: rowp Ar271o0otapeowords_274 cr271o0otapeowords_275 23 1 (eI .u64) v_273.tape.words :: rowp Ar271o0oops_276 cr271o0oops_277 32 6 Tapi_Op.cells v_273.ops :: rowp Ar271o0ovalues_278 cr271o0ovalues_279 23 1 (eI .u64) v_273.values :: rowp Ar271o0oblocks_280 cr271o0oblocks_281 144 3 Tapi_Span.cells v_273.blocks :: pt b_4 (blk (Tapi_Op.cells x2.o) 32) :: pt b_2 (blk (Tvisorlaw19_Act.cells x2) 111) :: S) b_x1 A_x1oops c_x1oops A_x1oblocks c_x1oblocks A_x1oval c_x1oval A_x1otapel c_x1otapel (Own.to hs.own [8, 9, 10, 11, 12, 0, 1, 2, 3, 4, 5, 6, 7] 13 (by kernel_rfl) (by kernel_rfl))).mono ?_
                      rintro _ w ⟨Ar282o0oops_285, cr282o0oops_286, Ar282o0oblocks_287, cr282o0oblocks_288, Ar282o0oval_289, cr282o0oval_290, Ar282o0otapel_291, cr282o0otapel_292, rfl, how⟩
                      refine ⟨_, _, _, rfl, how, fun a hs => ?_⟩
                      replace hs := hs.pick [] (L' := []) (by kernel_rfl)
                      refine Vk.done (by kernel_rfl) ?_
                      exact hj5 v_273 v_284 hm Ar271o0otapeowords_274 cr271o0otapeowords_275 Ar271o0oops_276 cr271o0oops_277 Ar271o0ovalues_278 cr271o0ovalues_279 Ar271o0oblocks_280 cr271o0oblocks_281 Ar282o0oops_285 cr282o0oops_286 Ar282o0oblocks_287 cr282o0oblocks_288 Ar282o0oval_289 cr282o0oval_290 Ar282o0otapel_291 cr282o0otapel_292 _ _ (hs.go [] [5, 6, 7, 8, 9, 10, 0, 1, 2, 3, 4] 13 (by kernel_rfl) (by kernel_rfl) (by kernel_rfl))
                    · replace hm := bif_f hm hb
                      refine wp_skip ?_
                      exact hj5 x0 x1 hm A_x0otapeowords c_x0otapeowords A_x0oops c_x0oops A_x0ovalues c_x0ovalues A_x0oblocks c_x0oblocks A_x1oops c_x1oops A_x1oblocks c_x1oblocks A_x1oval c_x1oval A_x1otapel c_x1otapel _ _ (hs.go [] [2, 3, 4, 5, 6, 7, 8, 9, 10, 11, 12] 13 (by kernel_rfl) (by kernel_rfl) (by kernel_rfl))


def visorref18_Same.j2 (k : Nat) (rec36 : Int → Option (Sum (Bool) (Unit))) (q_37 : Int) (p_62 : Tapi_Op) (p_66 : Tapi_Op) : Option (Sum (Bool) (Unit)) := (bif !(((p_66.kind == p_62.kind) && ((p_66.dom == p_62.dom) && ((p_66.a == p_62.a) && ((p_66.b == p_62.b) && ((p_66.d == p_62.d) && ((p_66.c == p_62.c) && true))))))) then some (.inl false) else rec36 (IntKind.i64.wrap (q_37 + 1)))
def visorref18_Same.j1 (k : Nat) (rec36 : Int → Option (Sum (Bool) (Unit))) (q_37 : Int) (p_60 : Tapi_Op) (p_62 : Tapi_Op) : Option (Sum (Bool) (Unit)) := (bif (p_60.kind == 4) && (p_62.kind == 4) then visorref18_Same.j2 k (rec36) q_37 p_62 (⟨p_60.kind, p_60.dom, p_60.a, p_60.b, p_60.d, p_62.c⟩ : Tapi_Op) else visorref18_Same.j2 k (rec36) q_37 p_62 p_60)
def visorref18_Same.l2 (x0 : Tapi_Trace) (x1 : Tapi_Trace) : Nat → Int → Option (Sum (Bool) (Unit))
  | 0, _ => none
  | k + 1, q_37 => (bif decide (q_37 < ((x0.ops.length : Nat) : Int)) then (if 0 ≤ q_37 then (x0.ops[q_37.toNat]?).bind fun e_46 => (if 0 ≤ q_37 then (x1.ops[q_37.toNat]?).bind fun e_53 => visorref18_Same.j1 k (visorref18_Same.l2 x0 x1 k) q_37 e_46 e_53 else none) else none) else some (.inr ()))
def visorref18_Same.l1 (x0 : Tapi_Trace) (x1 : Tapi_Trace) : Nat → Int → Option (Sum (Bool) (Unit))
  | 0, _ => none
  | k + 1, q_12 => (bif decide (q_12 < ((x0.blocks.length : Nat) : Int)) then (if 0 ≤ q_12 then (x0.blocks[q_12.toNat]?).bind fun e_21 => (if 0 ≤ q_12 then (x1.blocks[q_12.toNat]?).bind fun e_28 => (bif !(((e_21.kind == e_28.kind) && ((e_21.fromF == e_28.fromF) && ((e_21.to == e_28.to) && true)))) then some (.inl false) else visorref18_Same.l1 x0 x1 k (IntKind.i64.wrap (q_12 + 1))) else none) else none) else some (.inr ()))
abbrev visorref18_Same.R (κ : Ctx) (S : List HP) (x0 : Tapi_Trace) (x1 : Tapi_Trace) (A_x0ops : Option Addr) (c_x0ops : Nat) (A_x0blocks : Option Addr) (c_x0blocks : Nat) (A_x1ops : Option Addr) (c_x1ops : Nat) (A_x1blocks : Option Addr) (c_x1blocks : Nat) (r : Bool) : Ending → World → Prop := fun e w' => e = .returned (.bool r) ∧ Own κ w' (S)
def visorref18_Same.m (k : Nat) (x0 : Tapi_Trace) (x1 : Tapi_Trace) : Option Bool := (bif ((x0.n != x1.n) || (((x0.ops.length : Nat) : Int) != ((x1.ops.length : Nat) : Int))) || (((x0.blocks.length : Nat) : Int) != ((x1.blocks.length : Nat) : Int)) then some false else (visorref18_Same.l1 x0 x1 k 0).bind fun x => match x with | .inl v => some v | .inr () => (visorref18_Same.l2 x0 x1 k 0).bind fun x => match x with | .inl v => some v | .inr () => some true)

set_option maxRecDepth 100000 in
set_option maxHeartbeats 4000000 in
theorem visorref18_Same.ok (k : Nat) (x0 : Tapi_Trace) (x1 : Tapi_Trace) (r : Bool) (hm : visorref18_Same.m k x0 x1 = some r) (κ : Ctx) (w : World) (S : List HP) (A_x0ops : Option Addr) (c_x0ops : Nat) (hx_x0ops : Sl κ S A_x0ops c_x0ops 6 Tapi_Op.cells x0.ops) (A_x0blocks : Option Addr) (c_x0blocks : Nat) (hx_x0blocks : Sl κ S A_x0blocks c_x0blocks 3 Tapi_Span.cells x0.blocks) (A_x1ops : Option Addr) (c_x1ops : Nat) (hx_x1ops : Sl κ S A_x1ops c_x1ops 6 Tapi_Op.cells x1.ops) (A_x1blocks : Option Addr) (c_x1blocks : Nat) (hx_x1blocks : Sl κ S A_x1blocks c_x1blocks 3 Tapi_Span.cells x1.blocks) (ho : Own κ w (S)) :
    Calls Try.prog 109 #[.agg (vals [C.int .i64 x0.n, C.slc A_x0ops x0.ops.length c_x0ops, C.slc A_x0blocks x0.blocks.length c_x0blocks]), .agg (vals [C.int .i64 x1.n, C.slc A_x1ops x1.ops.length c_x1ops, C.slc A_x1blocks x1.blocks.length c_x1blocks])] w (visorref18_Same.R κ S x0 x1 A_x0ops c_x0ops A_x0blocks c_x0blocks A_x1ops c_x1ops A_x1blocks c_x1blocks r) := by
  unfold visorref18_Same.m at hm
  refine Vk.enter [(0, .agg (vals [C.int .i64 x0.n, C.slc A_x0ops x0.ops.length c_x0ops, C.slc A_x0blocks x0.blocks.length c_x0blocks])), (1, .agg (vals [C.int .i64 x1.n, C.slc A_x1ops x1.ops.length c_x1ops, C.slc A_x1blocks x1.blocks.length c_x1blocks]))] Try.func109 rfl Try.ntmps109 (by kernel_rfl) (Nat.le_of_ble_eq_true (by kernel_rfl)) ho fun a hs => ?_
  refine Vk.seq fun K1 hK1 => ?_
  refine Vk.region ?_
  refine Vk.step (Vk.box (x := (.tmp 0)) 2 72 [C.int .i64 x0.n, C.slc A_x0ops x0.ops.length c_x0ops, C.slc A_x0blocks x0.blocks.length c_x0blocks] hs (by kernel_rfl) (by kernel_rfl) (by kernel_rfl) fun b_2 w a hs => ?_)
  refine Vk.step (Vk.box (x := (.tmp 1)) 3 72 [C.int .i64 x1.n, C.slc A_x1ops x1.ops.length c_x1ops, C.slc A_x1blocks x1.blocks.length c_x1blocks] hs (by kernel_rfl) (by kernel_rfl) (by kernel_rfl) fun b_3 w a hs => ?_)
  refine Vk.pures 1 [(4, .bool false)] hs (by kernel_rfl) fun a hs => ?_
  replace hs := hs.pick [2, 3] (L' := [(2, .pointer (some ⟨b_2, 0, none⟩)), (3, .pointer (some ⟨b_3, 0, none⟩))]) (by kernel_rfl)
  refine Vk.done (by kernel_rfl) ?_
  refine hK1 _ _ ?_
  clear hK1
  refine Vk.seq fun K4 hK4 => ?_
  refine Vk.seq fun K5 hK5 => ?_
  refine Vk.region ?_
  refine Vk.pures 1 [(9, .pointer (some ⟨b_2, 0, none⟩))] hs (by kernel_rfl) fun a hs => ?_
  refine Vk.step (Vk.value (some 10) (.int .i64 x0.n) hs (by kernel_rfl) (op := (.load 3 (.tmp 9))) (by kernel_rfl) (fun o ho => run_load1 (b := b_2) (off := 0) (c := C.int .i64 x0.n) ho (by kernel_rfl) (by kernel_rfl) (Cell.own 1 rfl (by kernel_rfl)) _ hs.own) fun a hs => ?_)
  refine Vk.pures 1 [(11, .pointer (some ⟨b_3, 0, none⟩))] hs (by kernel_rfl) fun a hs => ?_
  refine Vk.step (Vk.value (some 12) (.int .i64 x1.n) hs (by kernel_rfl) (op := (.load 3 (.tmp 11))) (by kernel_rfl) (fun o ho => run_load1 (b := b_3) (off := 0) (c := C.int .i64 x1.n) ho (by kernel_rfl) (by kernel_rfl) (Cell.own 0 rfl (by kernel_rfl)) _ hs.own) fun a hs => ?_)
  refine Vk.pures 2 [(14, .bool (x0.n != x1.n)), (13, .bool (x0.n != x1.n))] hs (by kernel_rfl) fun a hs => ?_
  suffices hj_6 : ∀ a, St 81 a w κ [(2, .pointer (some ⟨b_2, 0, none⟩)), (3, .pointer (some ⟨b_3, 0, none⟩)), (9, .pointer (some ⟨b_2, 0, none⟩)), (10, .int .i64 x0.n), (11, .pointer (some ⟨b_3, 0, none⟩)), (12, .int .i64 x1.n), (13, .bool (x0.n != x1.n)), (14, .bool (x0.n != x1.n)), (22, .bool ((x0.n != x1.n) || (((x0.ops.length : Nat) : Int) != ((x1.ops.length : Nat) : Int))))] (pt b_3 (blk (Tapi_Trace.obj x1 A_x1ops c_x1ops A_x1blocks c_x1blocks) 72) :: pt b_2 (blk (Tapi_Trace.obj x0 A_x0ops c_x0ops A_x0blocks c_x0blocks) 72) :: S) → wpFrom Try.prog _ _ 14 a w by
    rcases Bool.eq_false_or_eq_true (x0.n != x1.n) with hb | hb
    · replace hs := hs.known (t := 14) hb (by kernel_rfl)
      refine Vk.pures 8 [(22, .bool true), (21, undef), (20, undef), (19, undef), (18, undef), (17, undef), (16, undef), (15, undef)] hs (by kernel_rfl) fun a hs => ?_
      have hq := hs.pick [2, 3, 9, 10, 11, 12, 13, 14, 22] (L' := [(2, .pointer (some ⟨b_2, 0, none⟩)), (3, .pointer (some ⟨b_3, 0, none⟩)), (9, .pointer (some ⟨b_2, 0, none⟩)), (10, .int .i64 x0.n), (11, .pointer (some ⟨b_3, 0, none⟩)), (12, .int .i64 x1.n), (13, .bool (x0.n != x1.n)), (14, .bool true), (22, .bool true)]) (by kernel_rfl)
      exact hj_6 _ (hq.conv (by first | (rw [hb] <;> rfl) | rfl))
    · replace hs := hs.known (t := 14) hb (by kernel_rfl)
      refine Vk.pures 1 [(15, .pointer (some ⟨b_2, 1, none⟩))] hs (by kernel_rfl) fun a hs => ?_
      refine Vk.step (Vk.value (some 16) (.slice A_x0ops x0.ops.length c_x0ops) hs (by kernel_rfl) (op := (.load 69 (.tmp 15))) (by kernel_rfl) (fun o ho => run_load1 (b := b_2) (off := 1) (c := C.slc A_x0ops x0.ops.length c_x0ops) ho (by kernel_rfl) (by kernel_rfl) (Cell.own 1 rfl (by kernel_rfl)) _ hs.own) fun a hs => ?_)
      refine Vk.pures 2 [(18, .pointer (some ⟨b_3, 1, none⟩)), (17, .int .i64 ((x0.ops.length : Nat) : Int))] hs (by kernel_rfl) fun a hs => ?_
      refine Vk.step (Vk.value (some 19) (.slice A_x1ops x1.ops.length c_x1ops) hs (by kernel_rfl) (op := (.load 69 (.tmp 18))) (by kernel_rfl) (fun o ho => run_load1 (b := b_3) (off := 1) (c := C.slc A_x1ops x1.ops.length c_x1ops) ho (by kernel_rfl) (by kernel_rfl) (Cell.own 0 rfl (by kernel_rfl)) _ hs.own) fun a hs => ?_)
      refine Vk.pures 3 [(22, .bool (((x0.ops.length : Nat) : Int) != ((x1.ops.length : Nat) : Int))), (21, .bool (((x0.ops.length : Nat) : Int) != ((x1.ops.length : Nat) : Int))), (20, .int .i64 ((x1.ops.length : Nat) : Int))] hs (by kernel_rfl) fun a hs => ?_
      have hq := hs.pick [2, 3, 9, 10, 11, 12, 13, 14, 22] (L' := [(2, .pointer (some ⟨b_2, 0, none⟩)), (3, .pointer (some ⟨b_3, 0, none⟩)), (9, .pointer (some ⟨b_2, 0, none⟩)), (10, .int .i64 x0.n), (11, .pointer (some ⟨b_3, 0, none⟩)), (12, .int .i64 x1.n), (13, .bool (x0.n != x1.n)), (14, .bool false), (22, .bool (((x0.ops.length : Nat) : Int) != ((x1.ops.length : Nat) : Int)))]) (by kernel_rfl)
      exact hj_6 _ (hq.conv (by first | (rw [hb] <;> rfl) | rfl))
  intro a hs
  refine Vk.pures 1 [(23, .bool ((x0.n != x1.n) || (((x0.ops.length : Nat) : Int) != ((x1.ops.length : Nat) : Int))))] hs (by kernel_rfl) fun a hs => ?_
  suffices hj_7 : ∀ a, St 81 a w κ [(2, .pointer (some ⟨b_2, 0, none⟩)), (3, .pointer (some ⟨b_3, 0, none⟩)), (9, .pointer (some ⟨b_2, 0, none⟩)), (10, .int .i64 x0.n), (11, .pointer (some ⟨b_3, 0, none⟩)), (12, .int .i64 x1.n), (13, .bool (x0.n != x1.n)), (14, .bool (x0.n != x1.n)), (22, .bool ((x0.n != x1.n) || (((x0.ops.length : Nat) : Int) != ((x1.ops.length : Nat) : Int)))), (23, .bool ((x0.n != x1.n) || (((x0.ops.length : Nat) : Int) != ((x1.ops.length : Nat) : Int)))), (31, .bool (((x0.n != x1.n) || (((x0.ops.length : Nat) : Int) != ((x1.ops.length : Nat) : Int))) || (((x0.blocks.length : Nat) : Int) != ((x1.blocks.length : Nat) : Int))))] (pt b_3 (blk (Tapi_Trace.obj x1 A_x1ops c_x1ops A_x1blocks c_x1blocks) 72) :: pt b_2 (blk (Tapi_Trace.obj x0 A_x0ops c_x0ops A_x0blocks c_x0blocks) 72) :: S) → wpFrom Try.prog _ _ 23 a w by
    rcases Bool.eq_false_or_eq_true ((x0.n != x1.n) || (((x0.ops.length : Nat) : Int) != ((x1.ops.length : Nat) : Int))) with hb | hb
    · replace hs := hs.known (t := 23) hb (by kernel_rfl)
      refine Vk.pures 8 [(31, .bool true), (30, undef), (29, undef), (28, undef), (27, undef), (26, undef), (25, undef), (24, undef)] hs (by kernel_rfl) fun a hs => ?_
      have hq := hs.pick [2, 3, 9, 10, 11, 12, 13, 14, 22, 23, 31] (L' := [(2, .pointer (some ⟨b_2, 0, none⟩)), (3, .pointer (some ⟨b_3, 0, none⟩)), (9, .pointer (some ⟨b_2, 0, none⟩)), (10, .int .i64 x0.n), (11, .pointer (some ⟨b_3, 0, none⟩)), (12, .int .i64 x1.n), (13, .bool (x0.n != x1.n)), (14, .bool (x0.n != x1.n)), (22, .bool ((x0.n != x1.n) || (((x0.ops.length : Nat) : Int) != ((x1.ops.length : Nat) : Int)))), (23, .bool true), (31, .bool true)]) (by kernel_rfl)
      exact hj_7 _ (hq.conv (by first | (rw [hb] <;> rfl) | rfl))
    · replace hs := hs.known (t := 23) hb (by kernel_rfl)
      refine Vk.pures 1 [(24, .pointer (some ⟨b_2, 2, none⟩))] hs (by kernel_rfl) fun a hs => ?_
      refine Vk.step (Vk.value (some 25) (.slice A_x0blocks x0.blocks.length c_x0blocks) hs (by kernel_rfl) (op := (.load 70 (.tmp 24))) (by kernel_rfl) (fun o ho => run_load1 (b := b_2) (off := 2) (c := C.slc A_x0blocks x0.blocks.length c_x0blocks) ho (by kernel_rfl) (by kernel_rfl) (Cell.own 1 rfl (by kernel_rfl)) _ hs.own) fun a hs => ?_)
      refine Vk.pures 2 [(27, .pointer (some ⟨b_3, 2, none⟩)), (26, .int .i64 ((x0.blocks.length : Nat) : Int))] hs (by kernel_rfl) fun a hs => ?_
      refine Vk.step (Vk.value (some 28) (.slice A_x1blocks x1.blocks.length c_x1blocks) hs (by kernel_rfl) (op := (.load 70 (.tmp 27))) (by kernel_rfl) (fun o ho => run_load1 (b := b_3) (off := 2) (c := C.slc A_x1blocks x1.blocks.length c_x1blocks) ho (by kernel_rfl) (by kernel_rfl) (Cell.own 0 rfl (by kernel_rfl)) _ hs.own) fun a hs => ?_)
      refine Vk.pures 3 [(31, .bool (((x0.blocks.length : Nat) : Int) != ((x1.blocks.length : Nat) : Int))), (30, .bool (((x0.blocks.length : Nat) : Int) != ((x1.blocks.length : Nat) : Int))), (29, .int .i64 ((x1.blocks.length : Nat) : Int))] hs (by kernel_rfl) fun a hs => ?_
      have hq := hs.pick [2, 3, 9, 10, 11, 12, 13, 14, 22, 23, 31] (L' := [(2, .pointer (some ⟨b_2, 0, none⟩)), (3, .pointer (some ⟨b_3, 0, none⟩)), (9, .pointer (some ⟨b_2, 0, none⟩)), (10, .int .i64 x0.n), (11, .pointer (some ⟨b_3, 0, none⟩)), (12, .int .i64 x1.n), (13, .bool (x0.n != x1.n)), (14, .bool (x0.n != x1.n)), (22, .bool ((x0.n != x1.n) || (((x0.ops.length : Nat) : Int) != ((x1.ops.length : Nat) : Int)))), (23, .bool false), (31, .bool (((x0.blocks.length : Nat) : Int) != ((x1.blocks.length : Nat) : Int)))]) (by kernel_rfl)
      exact hj_7 _ (hq.conv (by first | (rw [hb] <;> rfl) | rfl))
  intro a hs
  replace hs := hs.pick [2, 3, 31] (L' := [(2, .pointer (some ⟨b_2, 0, none⟩)), (3, .pointer (some ⟨b_3, 0, none⟩)), (31, .bool (((x0.n != x1.n) || (((x0.ops.length : Nat) : Int) != ((x1.ops.length : Nat) : Int))) || (((x0.blocks.length : Nat) : Int) != ((x1.blocks.length : Nat) : Int))))]) (by kernel_rfl)
  refine Vk.done (by kernel_rfl) ?_
  refine hK5 _ _ ?_
  clear hK5
  refine Vk.condS (b := ((x0.n != x1.n) || (((x0.ops.length : Nat) : Int) != ((x1.ops.length : Nat) : Int))) || (((x0.blocks.length : Nat) : Int) != ((x1.blocks.length : Nat) : Int))) hs (by kernel_rfl) (by kernel_rfl) (fun hb => ?_) (fun hb => ?_)
  · replace hm := bif_t hm hb
    refine Vk.seq fun K8 hK8 => ?_
    refine Vk.region ?_
    refine Vk.pures 1 [(4, .bool false)] hs (by kernel_rfl) fun a hs => ?_
    replace hs := hs.pick [4] (L' := [(4, .bool false)]) (by kernel_rfl)
    refine Vk.done (by kernel_rfl) ?_
    refine hK8 _ _ ?_
    clear hK8
    refine wp_ret ?_
    exact Vk.ret1 (P := Try.prog) (fn := Try.f109) (R := visorref18_Same.R κ S x0 x1 A_x0ops c_x0ops A_x0blocks c_x0blocks A_x1ops c_x1ops A_x1blocks c_x1blocks r) (.bool false) hs rfl (by kernel_rfl) (by obtain rfl := Option.some.inj hm; exact ⟨rfl, (Own.to hs.own [] 2 (by kernel_rfl) (by kernel_rfl))⟩)
  · replace hm := bif_f hm hb
    refine wp_skip ?_
    refine hK4 _ _ ?_
    clear hK4
    refine Vk.seq fun K9 hK9 => ?_
    refine Vk.seq fun K10 hK10 => ?_
    refine Vk.region ?_
    refine Vk.pures 1 [(5, .int .i64 0)] hs (by kernel_rfl) fun a hs => ?_
    replace hs := hs.pick [2, 3, 5] (L' := [(2, .pointer (some ⟨b_2, 0, none⟩)), (3, .pointer (some ⟨b_3, 0, none⟩)), (5, .int .i64 0)]) (by kernel_rfl)
    refine Vk.done (by kernel_rfl) ?_
    refine hK10 _ _ ?_
    clear hK10
    refine wp_block ?_
    obtain ⟨r11, hl11, hm⟩ := bind_t hm
    have hx11 : r11 = Sum.inr () → ∀ (a : Act) (w : World), St 81 a w κ [(2, .pointer (some ⟨b_2, 0, none⟩)), (3, .pointer (some ⟨b_3, 0, none⟩))] (pt b_2 (blk (Tapi_Trace.obj x0 A_x0ops c_x0ops A_x0blocks c_x0blocks) 72) :: pt b_3 (blk (Tapi_Trace.obj x1 A_x1ops c_x1ops A_x1blocks c_x1blocks) 72) :: S) → K9 a w := by
      intro he a w hs
      subst r11
      refine hK9 _ _ ?_
      clear hK9
      refine Vk.seq fun K34 hK34 => ?_
      refine Vk.seq fun K35 hK35 => ?_
      refine Vk.region ?_
      refine Vk.pures 1 [(6, .int .i64 0)] hs (by kernel_rfl) fun a hs => ?_
      replace hs := hs.pick [2, 3, 6] (L' := [(2, .pointer (some ⟨b_2, 0, none⟩)), (3, .pointer (some ⟨b_3, 0, none⟩)), (6, .int .i64 0)]) (by kernel_rfl)
      refine Vk.done (by kernel_rfl) ?_
      refine hK35 _ _ ?_
      clear hK35
      refine wp_block ?_
      obtain ⟨r36, hl36, hm⟩ := bind_t hm
      have hx36 : r36 = Sum.inr () → ∀ (a : Act) (w : World), St 81 a w κ [] (S) → K34 a w := by
        intro he a w hs
        subst r36
        refine hK34 _ _ ?_
        clear hK34
        refine Vk.seq fun K70 hK70 => ?_
        refine Vk.region ?_
        refine Vk.pures 1 [(4, .bool true)] hs (by kernel_rfl) fun a hs => ?_
        replace hs := hs.pick [4] (L' := [(4, .bool true)]) (by kernel_rfl)
        refine Vk.done (by kernel_rfl) ?_
        refine hK70 _ _ ?_
        clear hK70
        refine wp_ret ?_
        exact Vk.ret1 (P := Try.prog) (fn := Try.f109) (R := visorref18_Same.R κ S x0 x1 A_x0ops c_x0ops A_x0blocks c_x0blocks A_x1ops c_x1ops A_x1blocks c_x1blocks r) (.bool true) hs rfl (by kernel_rfl) (by obtain rfl := Option.some.inj hm; exact ⟨rfl, (Own.to hs.own [] 0 (by kernel_rfl) (by kernel_rfl))⟩)
      have hret36 : ∀ v, r36 = Sum.inl v → v = r := by intro v he; subst r36; exact Option.some.inj hm
      refine Vk.loopBy (fun k (s : Int) a w => visorref18_Same.l2 x0 x1 k s = some r36 ∧ St 81 a w κ [(2, .pointer (some ⟨b_2, 0, none⟩)), (3, .pointer (some ⟨b_3, 0, none⟩)), (6, .int .i64 s)] (pt b_2 (blk (Tapi_Trace.obj x0 A_x0ops c_x0ops A_x0blocks c_x0blocks) 72) :: pt b_3 (blk (Tapi_Trace.obj x1 A_x1ops c_x1ops A_x1blocks c_x1blocks) 72) :: S)) k 0 ⟨hl36, hs.go [2, 3, 6] [0, 1] 2 (by kernel_rfl) (by kernel_rfl) (by kernel_rfl)⟩ (fun s a w h => by obtain ⟨h1, _⟩ := h; simp [visorref18_Same.l2] at h1) (fun k KL36 ih q_37 a w h => ?_)
      obtain ⟨hm, hs⟩ := h
      try dsimp only at hm hs
      rw [visorref18_Same.l2] at hm
      refine Vk.seq fun K38 hK38 => ?_
      refine Vk.seq fun K39 hK39 => ?_
      refine Vk.region ?_
      refine Vk.pures 2 [(51, .pointer (some ⟨b_2, 1, none⟩)), (50, .int .i64 q_37)] hs (by kernel_rfl) fun a hs => ?_
      refine Vk.step (Vk.value (some 52) (.slice A_x0ops x0.ops.length c_x0ops) hs (by kernel_rfl) (op := (.load 69 (.tmp 51))) (by kernel_rfl) (fun o ho => run_load1 (b := b_2) (off := 1) (c := C.slc A_x0ops x0.ops.length c_x0ops) ho (by kernel_rfl) (by kernel_rfl) (Cell.own 0 rfl (by kernel_rfl)) _ hs.own) fun a hs => ?_)
      refine Vk.pures 2 [(54, .bool (decide (q_37 < ((x0.ops.length : Nat) : Int)))), (53, .int .i64 ((x0.ops.length : Nat) : Int))] hs (by kernel_rfl) fun a hs => ?_
      replace hs := hs.pick [2, 3, 6, 54] (L' := [(2, .pointer (some ⟨b_2, 0, none⟩)), (3, .pointer (some ⟨b_3, 0, none⟩)), (6, .int .i64 q_37), (54, .bool (decide (q_37 < ((x0.ops.length : Nat) : Int))))]) (by kernel_rfl)
      refine Vk.done (by kernel_rfl) ?_
      refine hK39 _ _ ?_
      clear hK39
      refine Vk.condS (b := decide (q_37 < ((x0.ops.length : Nat) : Int))) hs (by kernel_rfl) (by kernel_rfl) (fun hb => ?_) (fun hb => ?_)
      · replace hm := bif_t hm hb
        refine wp_skip ?_
        refine hK38 _ _ ?_
        clear hK38
        refine Vk.seq fun K40 hK40 => ?_
        refine wp_block ?_
        refine Vk.seq fun K41 hK41 => ?_
        have hj41 : ∀ (p_60 : Tapi_Op) (p_62 : Tapi_Op), visorref18_Same.j1 k (visorref18_Same.l2 x0 x1 k) q_37 p_60 p_62 = some r36 → ∀ (b_59 : Nat) (b_61 : Nat) (a : Act) (w : World), St 81 a w κ [(2, .pointer (some ⟨b_2, 0, none⟩)), (3, .pointer (some ⟨b_3, 0, none⟩)), (6, .int .i64 q_37), (7, .pointer (some ⟨b_59, 0, none⟩)), (8, .pointer (some ⟨b_61, 0, none⟩))] (pt b_2 (blk (Tapi_Trace.obj x0 A_x0ops c_x0ops A_x0blocks c_x0blocks) 72) :: pt b_3 (blk (Tapi_Trace.obj x1 A_x1ops c_x1ops A_x1blocks c_x1blocks) 72) :: pt b_59 (blk (Tapi_Op.cells p_60) 32) :: pt b_61 (blk (Tapi_Op.cells p_62) 32) :: S) → K41 a w := by
          intro p_60 p_62 hm b_59 b_61 a w hs
          unfold visorref18_Same.j1 at hm
          refine hK41 _ _ ?_
          refine Vk.seq fun K63 hK63 => ?_
          have hj63 : ∀ (p_66 : Tapi_Op), visorref18_Same.j2 k (visorref18_Same.l2 x0 x1 k) q_37 p_62 p_66 = some r36 → ∀ (a : Act) (w : World), St 81 a w κ [(2, .pointer (some ⟨b_2, 0, none⟩)), (3, .pointer (some ⟨b_3, 0, none⟩)), (6, .int .i64 q_37), (7, .pointer (some ⟨b_59, 0, none⟩)), (8, .pointer (some ⟨b_61, 0, none⟩))] (pt b_2 (blk (Tapi_Trace.obj x0 A_x0ops c_x0ops A_x0blocks c_x0blocks) 72) :: pt b_3 (blk (Tapi_Trace.obj x1 A_x1ops c_x1ops A_x1blocks c_x1blocks) 72) :: pt b_59 (blk (Tapi_Op.cells p_66) 32) :: pt b_61 (blk (Tapi_Op.cells p_62) 32) :: S) → K63 a w := by
            intro p_66 hm a w hs
            unfold visorref18_Same.j2 at hm
            refine hK63 _ _ ?_
            refine Vk.seq fun K67 hK67 => ?_
            refine Vk.region ?_
            refine Vk.step (Vk.value (some 78) (.agg (vals [C.int .i64 p_66.kind, C.int .i64 p_66.dom, C.int .i64 p_66.a, C.int .i64 p_66.b, C.int .i64 p_66.d, C.int .u64 p_66.c])) hs (by kernel_rfl) (op := (.load 32 (.tmp 7))) (by kernel_rfl) (fun o ho => run_loadN (cs := [C.int .i64 p_66.kind, C.int .i64 p_66.dom, C.int .i64 p_66.a, C.int .i64 p_66.b, C.int .i64 p_66.d, C.int .u64 p_66.c]) ho (by kernel_rfl) (by kernel_rfl) rfl (CellsAt.all 2 rfl) _ hs.own) fun a hs => ?_)
            refine Vk.step (Vk.value (some 79) (.agg (vals [C.int .i64 p_62.kind, C.int .i64 p_62.dom, C.int .i64 p_62.a, C.int .i64 p_62.b, C.int .i64 p_62.d, C.int .u64 p_62.c])) hs (by kernel_rfl) (op := (.load 32 (.tmp 8))) (by kernel_rfl) (fun o ho => run_loadN (cs := [C.int .i64 p_62.kind, C.int .i64 p_62.dom, C.int .i64 p_62.a, C.int .i64 p_62.b, C.int .i64 p_62.d, C.int .u64 p_62.c]) ho (by kernel_rfl) (by kernel_rfl) rfl (CellsAt.all 3 rfl) _ hs.own) fun a hs => ?_)
            refine Vk.step (Vk.value (some 80) (.bool (!(((p_66.kind == p_62.kind) && ((p_66.dom == p_62.dom) && ((p_66.a == p_62.a) && ((p_66.b == p_62.b) && ((p_66.d == p_62.d) && ((p_66.c == p_62.c) && true))))))))) hs (by kernel_rfl) (op := (.binOp .neq 32 (.tmp 78) (.tmp 79) 32)) (by kernel_rfl) (fun o ho => run_neqV (ks := ([LK.int .i64] ++ [LK.int .i64] ++ [LK.int .i64] ++ [LK.int .i64] ++ [LK.int .i64] ++ [LK.int .u64])) (cs := [C.int .i64 p_66.kind, C.int .i64 p_66.dom, C.int .i64 p_66.a, C.int .i64 p_66.b, C.int .i64 p_66.d, C.int .u64 p_66.c]) (us := [C.int .i64 p_62.kind, C.int .i64 p_62.dom, C.int .i64 p_62.a, C.int .i64 p_62.b, C.int .i64 p_62.d, C.int .u64 p_62.c]) ho (by kernel_rfl) (by kernel_rfl) (by kernel_rfl) rfl rfl _) fun a hs => ?_)
            replace hs := hs.pick [2, 3, 6, 80] (L' := [(2, .pointer (some ⟨b_2, 0, none⟩)), (3, .pointer (some ⟨b_3, 0, none⟩)), (6, .int .i64 q_37), (80, .bool (!(((p_66.kind == p_62.kind) && ((p_66.dom == p_62.dom) && ((p_66.a == p_62.a) && ((p_66.b == p_62.b) && ((p_66.d == p_62.d) && ((p_66.c == p_62.c) && true)))))))))]) (by kernel_rfl)
            refine Vk.done (by kernel_rfl) ?_
            refine hK67 _ _ ?_
            clear hK67
            refine Vk.condS (b := !(((p_66.kind == p_62.kind) && ((p_66.dom == p_62.dom) && ((p_66.a == p_62.a) && ((p_66.b == p_62.b) && ((p_66.d == p_62.d) && ((p_66.c == p_62.c) && true)))))))) hs (by kernel_rfl) (by kernel_rfl) (fun hb => ?_) (fun hb => ?_)
            · replace hm := bif_t hm hb
              refine Vk.seq fun K68 hK68 => ?_
              refine Vk.region ?_
              refine Vk.pures 1 [(4, .bool false)] hs (by kernel_rfl) fun a hs => ?_
              replace hs := hs.pick [4] (L' := [(4, .bool false)]) (by kernel_rfl)
              refine Vk.done (by kernel_rfl) ?_
              refine hK68 _ _ ?_
              clear hK68
              refine wp_ret ?_
              exact Vk.ret1 (P := Try.prog) (fn := Try.f109) (R := visorref18_Same.R κ S x0 x1 A_x0ops c_x0ops A_x0blocks c_x0blocks A_x1ops c_x1ops A_x1blocks c_x1blocks r) (.bool false) hs rfl (by kernel_rfl) (by obtain rfl := hret36 _ ((Option.some.inj hm).symm); exact ⟨rfl, (Own.to hs.own [] 4 (by kernel_rfl) (by kernel_rfl))⟩)
            · replace hm := bif_f hm hb
              refine wp_skip ?_
              refine hK40 _ _ ?_
              clear hK40
              refine Vk.region ?_
              refine Vk.pures 3 [(6, .int .i64 (IntKind.i64.wrap (q_37 + 1))), (56, .int .i64 (IntKind.i64.wrap (q_37 + 1))), (55, .int .i64 q_37)] hs (by kernel_rfl) fun a hs => ?_
              replace hs := hs.pick [2, 3, 6] (L' := [(2, .pointer (some ⟨b_2, 0, none⟩)), (3, .pointer (some ⟨b_3, 0, none⟩)), (6, .int .i64 (IntKind.i64.wrap (q_37 + 1)))]) (by kernel_rfl)
              refine Vk.done (by kernel_rfl) ?_
              refine ih (IntKind.i64.wrap (q_37 + 1)) _ _ ⟨hm, hs.go [2, 3, 6] [0, 1] 4 (by kernel_rfl) (by kernel_rfl) (by kernel_rfl)⟩
          refine Vk.seq fun K64 hK64 => ?_
          refine Vk.region ?_
          refine Vk.pures 1 [(67, .pointer (some ⟨b_59, 0, none⟩))] hs (by kernel_rfl) fun a hs => ?_
          refine Vk.step (Vk.value (some 68) (.int .i64 p_60.kind) hs (by kernel_rfl) (op := (.load 3 (.tmp 67))) (by kernel_rfl) (fun o ho => run_load1 (b := b_59) (off := 0) (c := C.int .i64 p_60.kind) ho (by kernel_rfl) (by kernel_rfl) (Cell.own 2 rfl (by kernel_rfl)) _ hs.own) fun a hs => ?_)
          refine Vk.pures 2 [(70, .bool (p_60.kind == 4)), (69, .bool (p_60.kind == 4))] hs (by kernel_rfl) fun a hs => ?_
          suffices hj_65 : ∀ a, St 81 a w κ [(2, .pointer (some ⟨b_2, 0, none⟩)), (3, .pointer (some ⟨b_3, 0, none⟩)), (6, .int .i64 q_37), (7, .pointer (some ⟨b_59, 0, none⟩)), (8, .pointer (some ⟨b_61, 0, none⟩)), (67, .pointer (some ⟨b_59, 0, none⟩)), (68, .int .i64 p_60.kind), (69, .bool (p_60.kind == 4)), (70, .bool (p_60.kind == 4)), (74, .bool ((p_60.kind == 4) && (p_62.kind == 4)))] (pt b_2 (blk (Tapi_Trace.obj x0 A_x0ops c_x0ops A_x0blocks c_x0blocks) 72) :: pt b_3 (blk (Tapi_Trace.obj x1 A_x1ops c_x1ops A_x1blocks c_x1blocks) 72) :: pt b_59 (blk (Tapi_Op.cells p_60) 32) :: pt b_61 (blk (Tapi_Op.cells p_62) 32) :: S) → wpFrom Try.prog _ _ 8 a w by
            rcases Bool.eq_false_or_eq_true (p_60.kind == 4) with hb | hb
            · replace hs := hs.known (t := 70) hb (by kernel_rfl)
              refine Vk.pures 1 [(71, .pointer (some ⟨b_61, 0, none⟩))] hs (by kernel_rfl) fun a hs => ?_
              refine Vk.step (Vk.value (some 72) (.int .i64 p_62.kind) hs (by kernel_rfl) (op := (.load 3 (.tmp 71))) (by kernel_rfl) (fun o ho => run_load1 (b := b_61) (off := 0) (c := C.int .i64 p_62.kind) ho (by kernel_rfl) (by kernel_rfl) (Cell.own 3 rfl (by kernel_rfl)) _ hs.own) fun a hs => ?_)
              refine Vk.pures 2 [(74, .bool (p_62.kind == 4)), (73, .bool (p_62.kind == 4))] hs (by kernel_rfl) fun a hs => ?_
              have hq := hs.pick [2, 3, 6, 7, 8, 67, 68, 69, 70, 74] (L' := [(2, .pointer (some ⟨b_2, 0, none⟩)), (3, .pointer (some ⟨b_3, 0, none⟩)), (6, .int .i64 q_37), (7, .pointer (some ⟨b_59, 0, none⟩)), (8, .pointer (some ⟨b_61, 0, none⟩)), (67, .pointer (some ⟨b_59, 0, none⟩)), (68, .int .i64 p_60.kind), (69, .bool (p_60.kind == 4)), (70, .bool true), (74, .bool (p_62.kind == 4))]) (by kernel_rfl)
              exact hj_65 _ (hq.conv (by first | (rw [hb] <;> rfl) | rfl))
            · replace hs := hs.known (t := 70) hb (by kernel_rfl)
              refine Vk.pures 4 [(74, .bool false), (73, undef), (72, undef), (71, undef)] hs (by kernel_rfl) fun a hs => ?_
              have hq := hs.pick [2, 3, 6, 7, 8, 67, 68, 69, 70, 74] (L' := [(2, .pointer (some ⟨b_2, 0, none⟩)), (3, .pointer (some ⟨b_3, 0, none⟩)), (6, .int .i64 q_37), (7, .pointer (some ⟨b_59, 0, none⟩)), (8, .pointer (some ⟨b_61, 0, none⟩)), (67, .pointer (some ⟨b_59, 0, none⟩)), (68, .int .i64 p_60.kind), (69, .bool (p_60.kind == 4)), (70, .bool false), (74, .bool false)]) (by kernel_rfl)
              exact hj_65 _ (hq.conv (by first | (rw [hb] <;> rfl) | rfl))
          intro a hs
          replace hs := hs.pick [2, 3, 6, 7, 8, 74] (L' := [(2, .pointer (some ⟨b_2, 0, none⟩)), (3, .pointer (some ⟨b_3, 0, none⟩)), (6, .int .i64 q_37), (7, .pointer (some ⟨b_59, 0, none⟩)), (8, .pointer (some ⟨b_61, 0, none⟩)), (74, .bool ((p_60.kind == 4) && (p_62.kind == 4)))]) (by kernel_rfl)
          refine Vk.done (by kernel_rfl) ?_
          refine hK64 _ _ ?_
          clear hK64
          refine Vk.condS (b := (p_60.kind == 4) && (p_62.kind == 4)) hs (by kernel_rfl) (by kernel_rfl) (fun hb => ?_) (fun hb => ?_)
          · replace hm := bif_t hm hb
            refine Vk.region ?_
            refine Vk.pures 1 [(75, .pointer (some ⟨b_61, 5, none⟩))] hs (by kernel_rfl) fun a hs => ?_
            refine Vk.step (Vk.value (some 76) (.int .u64 p_62.c) hs (by kernel_rfl) (op := (.load 23 (.tmp 75))) (by kernel_rfl) (fun o ho => run_load1 (b := b_61) (off := 5) (c := C.int .u64 p_62.c) ho (by kernel_rfl) (by kernel_rfl) (Cell.own 3 rfl (by kernel_rfl)) _ hs.own) fun a hs => ?_)
            refine Vk.pures 1 [(77, .pointer (some ⟨b_59, 5, none⟩))] hs (by kernel_rfl) fun a hs => ?_
            refine Vk.step (Vk.store1 (b := b_59) (ty := 23) (x := (.tmp 77)) (y := (.tmp 76)) (off := 5) (C.int .u64 p_62.c) 2 hs (by kernel_rfl) (by kernel_rfl) (by kernel_rfl) (by kernel_rfl) (by kernel_rfl) (by kernel_rfl) rfl (Nat.le_of_ble_eq_true (by kernel_rfl)) fun a w hs => ?_)
            replace hs := hs.pick [2, 3, 6, 7, 8] (L' := [(2, .pointer (some ⟨b_2, 0, none⟩)), (3, .pointer (some ⟨b_3, 0, none⟩)), (6, .int .i64 q_37), (7, .pointer (some ⟨b_59, 0, none⟩)), (8, .pointer (some ⟨b_61, 0, none⟩))]) (by kernel_rfl)
            refine Vk.done (by kernel_rfl) ?_
            exact hj63 (⟨p_60.kind, p_60.dom, p_60.a, p_60.b, p_60.d, p_62.c⟩ : Tapi_Op) hm _ _ (hs.go [2, 3, 6, 7, 8] [0, 1, 2, 3] 4 (by kernel_rfl) (by kernel_rfl) (by kernel_rfl))
          · replace hm := bif_f hm hb
            refine wp_skip ?_
            exact hj63 p_60 hm _ _ (hs.go [2, 3, 6, 7, 8] [0, 1, 2, 3] 4 (by kernel_rfl) (by kernel_rfl) (by kernel_rfl))
        obtain ⟨C_42, hC_42⟩ : ∃ X0 : List HP, X0 = (pt b_2 (blk (Tapi_Trace.obj x0 A_x0ops c_x0ops A_x0blocks c_x0blocks) 72) :: pt b_3 (blk (Tapi_Trace.obj x1 A_x1ops c_x1ops A_x1blocks c_x1blocks) 72) :: S) := ⟨_, rfl⟩
        refine Vk.drawnT 13 κ C_42 hs (by kernel_rfl) fun w hs => ?_
        have hcz : Own κ w (pt b_2 (blk (Tapi_Trace.obj x0 A_x0ops c_x0ops A_x0blocks c_x0blocks) 72) :: pt b_3 (blk (Tapi_Trace.obj x1 A_x1ops c_x1ops A_x1blocks c_x1blocks) 72) :: S) := (Own.to hs.own [0, 1] 2 (by kernel_rfl) (by kernel_rfl))
        have hcl : Own κ w C_42 := by rw [hC_42]; exact hcz
        refine Vk.dPuresT [0, 2, 5, 7] [(64, .int .i64 q_37), (62, .pointer (some ⟨b_3, 1, none⟩)), (59, .int .i64 q_37), (57, .pointer (some ⟨b_2, 1, none⟩))] hs (by kernel_rfl) (by repeat' (first | exact Vk.Calm.post | refine Vk.Calm.then ?_ | refine Vk.Calm.inBlock ?_)) hcl (by kernel_rfl) (by kernel_rfl) (fuel := 10) rfl fun a hs => ?_
        refine Vk.dTakeT (i := 1) (some 58) (.slice A_x0ops x0.ops.length c_x0ops) hs (by kernel_rfl) (by repeat' (first | exact Vk.Calm.post | refine Vk.Calm.then ?_ | refine Vk.Calm.inBlock ?_)) hcl (by kernel_rfl) (by kernel_rfl) (op := (.load 69 (.tmp 57))) (by kernel_rfl) (by kernel_rfl) (fun w hw o ho => by rw [hC_42] at hw; exact run_load1 (b := b_2) (off := 1) (c := C.slc A_x0ops x0.ops.length c_x0ops) ho (by kernel_rfl) (by kernel_rfl) (Cell.own 0 rfl (by kernel_rfl)) _ hw) fun a hs => ?_
        obtain ⟨h_43, hm⟩ := ite_t hm
        obtain ⟨e_46, h_44, hm⟩ := bind_t hm
        obtain ⟨b_47, o_48, hA_49, h_45⟩ := Sl.elem hx_x0ops h_44
        refine Vk.dTakeT (i := 3) (some 60) (.pointer (some ⟨b_47, o_48 + q_37.toNat * 6, none⟩)) hs (by kernel_rfl) (by repeat' (first | exact Vk.Calm.post | refine Vk.Calm.then ?_ | refine Vk.Calm.inBlock ?_)) hcl (by kernel_rfl) (by kernel_rfl) (op := (.indexAddr 69 (.tmp 58) (.tmp 59))) (by kernel_rfl) (by kernel_rfl) (fun w hw o ho => by rw [hC_42] at hw; exact run_idxSlc (k := .i64) ho (cap := c_x0ops) (len := x0.ops.length) ((congrArg (fun A => Value.slice A (x0.ops.length) (c_x0ops)) hA_49) ▸ (by kernel_rfl)) (by kernel_rfl) (by kernel_rfl) (idx_ok h_43 h_44) _) fun a hs => ?_
        refine Vk.dTakeT (i := 4) (some 61) (.agg (vals [C.int .i64 e_46.kind, C.int .i64 e_46.dom, C.int .i64 e_46.a, C.int .i64 e_46.b, C.int .i64 e_46.d, C.int .u64 e_46.c])) hs (by kernel_rfl) (by repeat' (first | exact Vk.Calm.post | refine Vk.Calm.then ?_ | refine Vk.Calm.inBlock ?_)) hcl (by kernel_rfl) (by kernel_rfl) (op := (.load 32 (.tmp 60))) (by kernel_rfl) (by kernel_rfl) (fun w hw o ho => by rw [hC_42] at hw; exact run_loadN (cs := [C.int .i64 e_46.kind, C.int .i64 e_46.dom, C.int .i64 e_46.a, C.int .i64 e_46.b, C.int .i64 e_46.d, C.int .u64 e_46.c]) ho (by kernel_rfl) (by kernel_rfl) rfl h_45 _ hw.drop.drop) fun a hs => ?_
        refine Vk.dTakeT (i := 6) (some 63) (.slice A_x1ops x1.ops.length c_x1ops) hs (by kernel_rfl) (by repeat' (first | exact Vk.Calm.post | refine Vk.Calm.then ?_ | refine Vk.Calm.inBlock ?_)) hcl (by kernel_rfl) (by kernel_rfl) (op := (.load 69 (.tmp 62))) (by kernel_rfl) (by kernel_rfl) (fun w hw o ho => by rw [hC_42] at hw; exact run_load1 (b := b_3) (off := 1) (c := C.slc A_x1ops x1.ops.length c_x1ops) ho (by kernel_rfl) (by kernel_rfl) (Cell.own 1 rfl (by kernel_rfl)) _ hw) fun a hs => ?_
        obtain ⟨h_50, hm⟩ := ite_t hm
        obtain ⟨e_53, h_51, hm⟩ := bind_t hm
        obtain ⟨b_54, o_55, hA_56, h_52⟩ := Sl.elem hx_x1ops h_51
        refine Vk.dTakeT (i := 8) (some 65) (.pointer (some ⟨b_54, o_55 + q_37.toNat * 6, none⟩)) hs (by kernel_rfl) (by repeat' (first | exact Vk.Calm.post | refine Vk.Calm.then ?_ | refine Vk.Calm.inBlock ?_)) hcl (by kernel_rfl) (by kernel_rfl) (op := (.indexAddr 69 (.tmp 63) (.tmp 64))) (by kernel_rfl) (by kernel_rfl) (fun w hw o ho => by rw [hC_42] at hw; exact run_idxSlc (k := .i64) ho (cap := c_x1ops) (len := x1.ops.length) ((congrArg (fun A => Value.slice A (x1.ops.length) (c_x1ops)) hA_56) ▸ (by kernel_rfl)) (by kernel_rfl) (by kernel_rfl) (idx_ok h_50 h_51) _) fun a hs => ?_
        refine Vk.dTakeT (i := 9) (some 66) (.agg (vals [C.int .i64 e_53.kind, C.int .i64 e_53.dom, C.int .i64 e_53.a, C.int .i64 e_53.b, C.int .i64 e_53.d, C.int .u64 e_53.c])) hs (by kernel_rfl) (by repeat' (first | exact Vk.Calm.post | refine Vk.Calm.then ?_ | refine Vk.Calm.inBlock ?_)) hcl (by kernel_rfl) (by kernel_rfl) (op := (.load 32 (.tmp 65))) (by kernel_rfl) (by kernel_rfl) (fun w hw o ho => by rw [hC_42] at hw; exact run_loadN (cs := [C.int .i64 e_53.kind, C.int .i64 e_53.dom, C.int .i64 e_53.a, C.int .i64 e_53.b, C.int .i64 e_53.d, C.int .u64 e_53.c]) ho (by kernel_rfl) (by kernel_rfl) rfl h_52 _ hw.drop.drop) fun a hs => ?_
        refine Vk.dMany2 (i0 := 10) (i1 := 11) (by kernel_rfl) ?_ ?_
        · refine Vk.alloc 7 32 [C.int .i64 0, C.int .i64 0, C.int .i64 0, C.int .i64 0, C.int .i64 0, C.int .u64 0] hs (by kernel_rfl) (by kernel_rfl) (by kernel_rfl) fun b_57 w a hs => ?_
          replace hcl : Own κ w C_42 := by rw [hC_42]; exact (Own.to hs.own [1, 2] 3 (by kernel_rfl) (by kernel_rfl))
          refine ⟨fun _ => hcl, ?_⟩
          refine Vk.dOnly (i := 11) (by kernel_rfl) (Vk.alloc 8 32 [C.int .i64 0, C.int .i64 0, C.int .i64 0, C.int .i64 0, C.int .i64 0, C.int .u64 0] hs (by kernel_rfl) (by kernel_rfl) (by kernel_rfl) fun b_58 w a hs => ?_)
          replace hcl : Own κ w C_42 := by rw [hC_42]; exact (Own.to hs.own [2, 3] 4 (by kernel_rfl) (by kernel_rfl))
          refine ⟨fun _ => hcl, ?_⟩
          refine Vk.dOnly (i := 12) (by kernel_rfl) (Vk.storeA (b := b_57) (ty := 32) (x := (.tmp 7)) (y := (.tmp 61)) (sz := 6) [C.int .i64 e_46.kind, C.int .i64 e_46.dom, C.int .i64 e_46.a, C.int .i64 e_46.b, C.int .i64 e_46.d, C.int .u64 e_46.c] 1 hs (by kernel_rfl) (by kernel_rfl) (by kernel_rfl) (by kernel_rfl) (by kernel_rfl) rfl (by kernel_rfl) rfl (Eq.trans (b := 6) rfl (Eq.symm rfl)) fun a w hs => ?_)
          replace hcl : Own κ w C_42 := by rw [hC_42]; exact (Own.to hs.own [2, 3] 4 (by kernel_rfl) (by kernel_rfl))
          refine ⟨fun _ => hcl, ?_⟩
          refine Vk.dOnly (i := 13) (by kernel_rfl) (Vk.storeA (b := b_58) (ty := 32) (x := (.tmp 8)) (y := (.tmp 66)) (sz := 6) [C.int .i64 e_53.kind, C.int .i64 e_53.dom, C.int .i64 e_53.a, C.int .i64 e_53.b, C.int .i64 e_53.d, C.int .u64 e_53.c] 0 hs (by kernel_rfl) (by kernel_rfl) (by kernel_rfl) (by kernel_rfl) (by kernel_rfl) rfl (by kernel_rfl) rfl (Eq.trans (b := 6) rfl (Eq.symm rfl)) fun a w hs => ?_)
          refine ⟨fun h => absurd h (by decide), ?_⟩
          replace hs := hs.pick [2, 3, 6, 7, 8] (L' := [(2, .pointer (some ⟨b_2, 0, none⟩)), (3, .pointer (some ⟨b_3, 0, none⟩)), (6, .int .i64 q_37), (7, .pointer (some ⟨b_57, 0, none⟩)), (8, .pointer (some ⟨b_58, 0, none⟩))]) (by kernel_rfl)
          refine Vk.dDone (by kernel_rfl) ?_
          exact hj41 e_46 e_53 hm b_57 b_58 _ _ (hs.go [2, 3, 6, 7, 8] [2, 3, 1, 0] 4 (by kernel_rfl) (by kernel_rfl) (by kernel_rfl))
        · refine Vk.alloc 8 32 [C.int .i64 0, C.int .i64 0, C.int .i64 0, C.int .i64 0, C.int .i64 0, C.int .u64 0] hs (by kernel_rfl) (by kernel_rfl) (by kernel_rfl) fun b_57 w a hs => ?_
          replace hcl : Own κ w C_42 := by rw [hC_42]; exact (Own.to hs.own [1, 2] 3 (by kernel_rfl) (by kernel_rfl))
          refine ⟨fun _ => hcl, ?_⟩
          refine Vk.dOnly (i := 10) (by kernel_rfl) (Vk.alloc 7 32 [C.int .i64 0, C.int .i64 0, C.int .i64 0, C.int .i64 0, C.int .i64 0, C.int .u64 0] hs (by kernel_rfl) (by kernel_rfl) (by kernel_rfl) fun b_58 w a hs => ?_)
          replace hcl : Own κ w C_42 := by rw [hC_42]; exact (Own.to hs.own [2, 3] 4 (by kernel_rfl) (by kernel_rfl))
          refine ⟨fun _ => hcl, ?_⟩
          refine Vk.dOnly (i := 12) (by kernel_rfl) (Vk.storeA (b := b_58) (ty := 32) (x := (.tmp 7)) (y := (.tmp 61)) (sz := 6) [C.int .i64 e_46.kind, C.int .i64 e_46.dom, C.int .i64 e_46.a, C.int .i64 e_46.b, C.int .i64 e_46.d, C.int .u64 e_46.c] 0 hs (by kernel_rfl) (by kernel_rfl) (by kernel_rfl) (by kernel_rfl) (by kernel_rfl) rfl (by kernel_rfl) rfl (Eq.trans (b := 6) rfl (Eq.symm rfl)) fun a w hs => ?_)
          replace hcl : Own κ w C_42 := by rw [hC_42]; exact (Own.to hs.own [2, 3] 4 (by kernel_rfl) (by kernel_rfl))
          refine ⟨fun _ => hcl, ?_⟩
          refine Vk.dOnly (i := 13) (by kernel_rfl) (Vk.storeA (b := b_57) (ty := 32) (x := (.tmp 8)) (y := (.tmp 66)) (sz := 6) [C.int .i64 e_53.kind, C.int .i64 e_53.dom, C.int .i64 e_53.a, C.int .i64 e_53.b, C.int .i64 e_53.d, C.int .u64 e_53.c] 1 hs (by kernel_rfl) (by kernel_rfl) (by kernel_rfl) (by kernel_rfl) (by kernel_rfl) rfl (by kernel_rfl) rfl (Eq.trans (b := 6) rfl (Eq.symm rfl)) fun a w hs => ?_)
          refine ⟨fun h => absurd h (by decide), ?_⟩
          replace hs := hs.pick [2, 3, 6, 7, 8] (L' := [(2, .pointer (some ⟨b_2, 0, none⟩)), (3, .pointer (some ⟨b_3, 0, none⟩)), (6, .int .i64 q_37), (7, .pointer (some ⟨b_58, 0, none⟩)), (8, .pointer (some ⟨b_57, 0, none⟩))]) (by kernel_rfl)
          refine Vk.dDone (by kernel_rfl) ?_
          exact hj41 e_46 e_53 hm b_58 b_57 _ _ (hs.go [2, 3, 6, 7, 8] [2, 3, 0, 1] 4 (by kernel_rfl) (by kernel_rfl) (by kernel_rfl))
      · replace hm := bif_f hm hb
        refine wp_exit ?_
        exact hx36 (Option.some.inj hm).symm _ _ (hs.go [] [] 2 (by kernel_rfl) (by kernel_rfl) (by kernel_rfl))
    have hret11 : ∀ v, r11 = Sum.inl v → v = r := by intro v he; subst r11; exact Option.some.inj hm
    refine Vk.loopBy (fun k (s : Int) a w => visorref18_Same.l1 x0 x1 k s = some r11 ∧ St 81 a w κ [(2, .pointer (some ⟨b_2, 0, none⟩)), (3, .pointer (some ⟨b_3, 0, none⟩)), (5, .int .i64 s)] (pt b_2 (blk (Tapi_Trace.obj x0 A_x0ops c_x0ops A_x0blocks c_x0blocks) 72) :: pt b_3 (blk (Tapi_Trace.obj x1 A_x1ops c_x1ops A_x1blocks c_x1blocks) 72) :: S)) k 0 ⟨hl11, hs.go [2, 3, 5] [1, 0] 2 (by kernel_rfl) (by kernel_rfl) (by kernel_rfl)⟩ (fun s a w h => by obtain ⟨h1, _⟩ := h; simp [visorref18_Same.l1] at h1) (fun k KL11 ih q_12 a w h => ?_)
    obtain ⟨hm, hs⟩ := h
    try dsimp only at hm hs
    rw [visorref18_Same.l1] at hm
    refine Vk.seq fun K13 hK13 => ?_
    refine Vk.seq fun K14 hK14 => ?_
    refine Vk.region ?_
    refine Vk.pures 2 [(33, .pointer (some ⟨b_2, 2, none⟩)), (32, .int .i64 q_12)] hs (by kernel_rfl) fun a hs => ?_
    refine Vk.step (Vk.value (some 34) (.slice A_x0blocks x0.blocks.length c_x0blocks) hs (by kernel_rfl) (op := (.load 70 (.tmp 33))) (by kernel_rfl) (fun o ho => run_load1 (b := b_2) (off := 2) (c := C.slc A_x0blocks x0.blocks.length c_x0blocks) ho (by kernel_rfl) (by kernel_rfl) (Cell.own 0 rfl (by kernel_rfl)) _ hs.own) fun a hs => ?_)
    refine Vk.pures 2 [(36, .bool (decide (q_12 < ((x0.blocks.length : Nat) : Int)))), (35, .int .i64 ((x0.blocks.length : Nat) : Int))] hs (by kernel_rfl) fun a hs => ?_
    replace hs := hs.pick [2, 3, 5, 36] (L' := [(2, .pointer (some ⟨b_2, 0, none⟩)), (3, .pointer (some ⟨b_3, 0, none⟩)), (5, .int .i64 q_12), (36, .bool (decide (q_12 < ((x0.blocks.length : Nat) : Int))))]) (by kernel_rfl)
    refine Vk.done (by kernel_rfl) ?_
    refine hK14 _ _ ?_
    clear hK14
    refine Vk.condS (b := decide (q_12 < ((x0.blocks.length : Nat) : Int))) hs (by kernel_rfl) (by kernel_rfl) (fun hb => ?_) (fun hb => ?_)
    · replace hm := bif_t hm hb
      refine wp_skip ?_
      refine hK13 _ _ ?_
      clear hK13
      refine Vk.seq fun K15 hK15 => ?_
      refine wp_block ?_
      refine Vk.seq fun K16 hK16 => ?_
      obtain ⟨C_17, hC_17⟩ : ∃ X0 : List HP, X0 = (pt b_2 (blk (Tapi_Trace.obj x0 A_x0ops c_x0ops A_x0blocks c_x0blocks) 72) :: pt b_3 (blk (Tapi_Trace.obj x1 A_x1ops c_x1ops A_x1blocks c_x1blocks) 72) :: S) := ⟨_, rfl⟩
      refine Vk.drawnT 11 κ C_17 hs (by kernel_rfl) fun w hs => ?_
      have hcz : Own κ w (pt b_2 (blk (Tapi_Trace.obj x0 A_x0ops c_x0ops A_x0blocks c_x0blocks) 72) :: pt b_3 (blk (Tapi_Trace.obj x1 A_x1ops c_x1ops A_x1blocks c_x1blocks) 72) :: S) := (Own.to hs.own [0, 1] 2 (by kernel_rfl) (by kernel_rfl))
      have hcl : Own κ w C_17 := by rw [hC_17]; exact hcz
      refine Vk.dPuresT [0, 2, 5, 7] [(46, .int .i64 q_12), (44, .pointer (some ⟨b_3, 2, none⟩)), (41, .int .i64 q_12), (39, .pointer (some ⟨b_2, 2, none⟩))] hs (by kernel_rfl) (by repeat' (first | exact Vk.Calm.post | refine Vk.Calm.then ?_ | refine Vk.Calm.inBlock ?_)) hcl (by kernel_rfl) (by kernel_rfl) (fuel := 7) rfl fun a hs => ?_
      refine Vk.dTakeT (i := 1) (some 40) (.slice A_x0blocks x0.blocks.length c_x0blocks) hs (by kernel_rfl) (by repeat' (first | exact Vk.Calm.post | refine Vk.Calm.then ?_ | refine Vk.Calm.inBlock ?_)) hcl (by kernel_rfl) (by kernel_rfl) (op := (.load 70 (.tmp 39))) (by kernel_rfl) (by kernel_rfl) (fun w hw o ho => by rw [hC_17] at hw; exact run_load1 (b := b_2) (off := 2) (c := C.slc A_x0blocks x0.blocks.length c_x0blocks) ho (by kernel_rfl) (by kernel_rfl) (Cell.own 0 rfl (by kernel_rfl)) _ hw) fun a hs => ?_
      obtain ⟨h_18, hm⟩ := ite_t hm
      obtain ⟨e_21, h_19, hm⟩ := bind_t hm
      obtain ⟨b_22, o_23, hA_24, h_20⟩ := Sl.elem hx_x0blocks h_19
      refine Vk.dTakeT (i := 3) (some 42) (.pointer (some ⟨b_22, o_23 + q_12.toNat * 3, none⟩)) hs (by kernel_rfl) (by repeat' (first | exact Vk.Calm.post | refine Vk.Calm.then ?_ | refine Vk.Calm.inBlock ?_)) hcl (by kernel_rfl) (by kernel_rfl) (op := (.indexAddr 70 (.tmp 40) (.tmp 41))) (by kernel_rfl) (by kernel_rfl) (fun w hw o ho => by rw [hC_17] at hw; exact run_idxSlc (k := .i64) ho (cap := c_x0blocks) (len := x0.blocks.length) ((congrArg (fun A => Value.slice A (x0.blocks.length) (c_x0blocks)) hA_24) ▸ (by kernel_rfl)) (by kernel_rfl) (by kernel_rfl) (idx_ok h_18 h_19) _) fun a hs => ?_
      refine Vk.dTakeT (i := 4) (some 43) (.agg (vals [C.int .i64 e_21.kind, C.int .i64 e_21.fromF, C.int .i64 e_21.to])) hs (by kernel_rfl) (by repeat' (first | exact Vk.Calm.post | refine Vk.Calm.then ?_ | refine Vk.Calm.inBlock ?_)) hcl (by kernel_rfl) (by kernel_rfl) (op := (.load 144 (.tmp 42))) (by kernel_rfl) (by kernel_rfl) (fun w hw o ho => by rw [hC_17] at hw; exact run_loadN (cs := [C.int .i64 e_21.kind, C.int .i64 e_21.fromF, C.int .i64 e_21.to]) ho (by kernel_rfl) (by kernel_rfl) rfl h_20 _ hw.drop.drop) fun a hs => ?_
      refine Vk.dTakeT (i := 6) (some 45) (.slice A_x1blocks x1.blocks.length c_x1blocks) hs (by kernel_rfl) (by repeat' (first | exact Vk.Calm.post | refine Vk.Calm.then ?_ | refine Vk.Calm.inBlock ?_)) hcl (by kernel_rfl) (by kernel_rfl) (op := (.load 70 (.tmp 44))) (by kernel_rfl) (by kernel_rfl) (fun w hw o ho => by rw [hC_17] at hw; exact run_load1 (b := b_3) (off := 2) (c := C.slc A_x1blocks x1.blocks.length c_x1blocks) ho (by kernel_rfl) (by kernel_rfl) (Cell.own 1 rfl (by kernel_rfl)) _ hw) fun a hs => ?_
      obtain ⟨h_25, hm⟩ := ite_t hm
      obtain ⟨e_28, h_26, hm⟩ := bind_t hm
      obtain ⟨b_29, o_30, hA_31, h_27⟩ := Sl.elem hx_x1blocks h_26
      refine Vk.dTakeT (i := 8) (some 47) (.pointer (some ⟨b_29, o_30 + q_12.toNat * 3, none⟩)) hs (by kernel_rfl) (by repeat' (first | exact Vk.Calm.post | refine Vk.Calm.then ?_ | refine Vk.Calm.inBlock ?_)) hcl (by kernel_rfl) (by kernel_rfl) (op := (.indexAddr 70 (.tmp 45) (.tmp 46))) (by kernel_rfl) (by kernel_rfl) (fun w hw o ho => by rw [hC_17] at hw; exact run_idxSlc (k := .i64) ho (cap := c_x1blocks) (len := x1.blocks.length) ((congrArg (fun A => Value.slice A (x1.blocks.length) (c_x1blocks)) hA_31) ▸ (by kernel_rfl)) (by kernel_rfl) (by kernel_rfl) (idx_ok h_25 h_26) _) fun a hs => ?_
      refine Vk.dTakeT (i := 9) (some 48) (.agg (vals [C.int .i64 e_28.kind, C.int .i64 e_28.fromF, C.int .i64 e_28.to])) hs (by kernel_rfl) (by repeat' (first | exact Vk.Calm.post | refine Vk.Calm.then ?_ | refine Vk.Calm.inBlock ?_)) hcl (by kernel_rfl) (by kernel_rfl) (op := (.load 144 (.tmp 47))) (by kernel_rfl) (by kernel_rfl) (fun w hw o ho => by rw [hC_17] at hw; exact run_loadN (cs := [C.int .i64 e_28.kind, C.int .i64 e_28.fromF, C.int .i64 e_28.to]) ho (by kernel_rfl) (by kernel_rfl) rfl h_27 _ hw.drop.drop) fun a hs => ?_
      refine Vk.dTakeT (i := 10) (some 49) (.bool (!(((e_21.kind == e_28.kind) && ((e_21.fromF == e_28.fromF) && ((e_21.to == e_28.to) && true)))))) hs (by kernel_rfl) (by repeat' (first | exact Vk.Calm.post | refine Vk.Calm.then ?_ | refine Vk.Calm.inBlock ?_)) hcl (by kernel_rfl) (by kernel_rfl) (op := (.binOp .neq 144 (.tmp 43) (.tmp 48) 144)) (by kernel_rfl) (by kernel_rfl) (fun w hw o ho => by rw [hC_17] at hw; exact run_neqV (ks := ([LK.int .i64] ++ [LK.int .i64] ++ [LK.int .i64])) (cs := [C.int .i64 e_21.kind, C.int .i64 e_21.fromF, C.int .i64 e_21.to]) (us := [C.int .i64 e_28.kind, C.int .i64 e_28.fromF, C.int .i64 e_28.to]) ho (by kernel_rfl) (by kernel_rfl) (by kernel_rfl) rfl rfl _) fun a hs => ?_
      replace hs := hs.pick [2, 3, 5, 49] (L' := [(2, .pointer (some ⟨b_2, 0, none⟩)), (3, .pointer (some ⟨b_3, 0, none⟩)), (5, .int .i64 q_12), (49, .bool (!(((e_21.kind == e_28.kind) && ((e_21.fromF == e_28.fromF) && ((e_21.to == e_28.to) && true))))))]) (by kernel_rfl)
      refine Vk.dDone (by kernel_rfl) ?_
      refine hK16 _ _ ?_
      clear hK16
      refine Vk.condS (b := !(((e_21.kind == e_28.kind) && ((e_21.fromF == e_28.fromF) && ((e_21.to == e_28.to) && true))))) hs (by kernel_rfl) (by kernel_rfl) (fun hb => ?_) (fun hb => ?_)
      · replace hm := bif_t hm hb
        refine Vk.seq fun K32 hK32 => ?_
        refine Vk.region ?_
        refine Vk.pures 1 [(4, .bool false)] hs (by kernel_rfl) fun a hs => ?_
        replace hs := hs.pick [4] (L' := [(4, .bool false)]) (by kernel_rfl)
        refine Vk.done (by kernel_rfl) ?_
        refine hK32 _ _ ?_
        clear hK32
        refine wp_ret ?_
        exact Vk.ret1 (P := Try.prog) (fn := Try.f109) (R := visorref18_Same.R κ S x0 x1 A_x0ops c_x0ops A_x0blocks c_x0blocks A_x1ops c_x1ops A_x1blocks c_x1blocks r) (.bool false) hs rfl (by kernel_rfl) (by obtain rfl := hret11 _ ((Option.some.inj hm).symm); exact ⟨rfl, (Own.to hs.own [] 2 (by kernel_rfl) (by kernel_rfl))⟩)
      · replace hm := bif_f hm hb
        refine wp_skip ?_
        refine hK15 _ _ ?_
        clear hK15
        refine Vk.region ?_
        refine Vk.pures 3 [(5, .int .i64 (IntKind.i64.wrap (q_12 + 1))), (38, .int .i64 (IntKind.i64.wrap (q_12 + 1))), (37, .int .i64 q_12)] hs (by kernel_rfl) fun a hs => ?_
        replace hs := hs.pick [2, 3, 5] (L' := [(2, .pointer (some ⟨b_2, 0, none⟩)), (3, .pointer (some ⟨b_3, 0, none⟩)), (5, .int .i64 (IntKind.i64.wrap (q_12 + 1)))]) (by kernel_rfl)
        refine Vk.done (by kernel_rfl) ?_
        refine ih (IntKind.i64.wrap (q_12 + 1)) _ _ ⟨hm, hs.go [2, 3, 5] [0, 1] 2 (by kernel_rfl) (by kernel_rfl) (by kernel_rfl)⟩
    · replace hm := bif_f hm hb
      refine wp_exit ?_
      exact hx11 (Option.some.inj hm).symm _ _ (hs.go [2, 3] [0, 1] 2 (by kernel_rfl) (by kernel_rfl) (by kernel_rfl))


def visorlaw19_same.j2 (k : Nat) (p_41 : Bool) : Option (Bool) := some p_41
def visorlaw19_same.j3 (k : Nat) (p_67 : Bool) : Option (Bool) := some p_67
def visorlaw19_same.j1 (k : Nat) (x0 : Twire_Machine) (x1 : Tvisorref19_M) (p_20 : Bool) : Option (Bool) := (bif p_20 then some false else (bif x1.dry then (wire_Machine_Values.m k x0).bind fun v_28 => (bif ((v_28.length : Nat) : Int) == 0 then (wire_Machine_Trace.m k x0).bind fun v_33 => (visorref18_Same.m k v_33 (⟨x1.n, [], []⟩ : Tapi_Trace)).bind fun v_40 => visorlaw19_same.j2 k v_40 else visorlaw19_same.j2 k false) else (wire_Machine_Values.m k x0).bind fun v_46 => (visorlaw19_words.m k v_46 x1.val).bind fun v_51 => (bif v_51 then (wire_Machine_Trace.m k x0).bind fun v_54 => (visorref18_Same.m k v_54 (⟨x1.n, x1.ops, x1.blocks⟩ : Tapi_Trace)).bind fun v_66 => visorlaw19_same.j3 k v_66 else visorlaw19_same.j3 k false)))
abbrev visorlaw19_same.R (κ : Ctx) (S : List HP) (x0 : Twire_Machine) (x1 : Tvisorref19_M) (b_x0 : Nat) (b_x0otape : Nat) (A_x0otapeowords : Option Addr) (c_x0otapeowords : Nat) (A_x0oops : Option Addr) (c_x0oops : Nat) (A_x0ovalues : Option Addr) (c_x0ovalues : Nat) (A_x0oblocks : Option Addr) (c_x0oblocks : Nat) (b_x1 : Nat) (A_x1oops : Option Addr) (c_x1oops : Nat) (A_x1oblocks : Option Addr) (c_x1oblocks : Nat) (A_x1oval : Option Addr) (c_x1oval : Nat) (A_x1otapel : Option Addr) (c_x1otapel : Nat) (r : Bool) : Ending → World → Prop := fun e w' => e = .returned (.bool r) ∧ Own κ w' (pt b_x0 (blk (Twire_Machine.obj x0 b_x0otape A_x0oops c_x0oops A_x0ovalues c_x0ovalues A_x0oblocks c_x0oblocks) 151) :: pto x0.dry b_x0otape (blk (Ttape_Tape.obj x0.tape A_x0otapeowords c_x0otapeowords) 158) :: rowp A_x0otapeowords c_x0otapeowords 23 1 (eI .u64) x0.tape.words :: rowp A_x0oops c_x0oops 32 6 Tapi_Op.cells x0.ops :: rowp A_x0ovalues c_x0ovalues 23 1 (eI .u64) x0.values :: rowp A_x0oblocks c_x0oblocks 144 3 Tapi_Span.cells x0.blocks :: pt b_x1 (blk (Tvisorref19_M.obj x1 A_x1oops c_x1oops A_x1oblocks c_x1oblocks A_x1oval c_x1oval A_x1otapel c_x1otapel) 123) :: rowp A_x1oops c_x1oops 32 6 Tapi_Op.cells x1.ops :: rowp A_x1oblocks c_x1oblocks 144 3 Tapi_Span.cells x1.blocks :: rowp A_x1oval c_x1oval 23 1 (eI .u64) x1.val :: rdp κ A_x1otapel c_x1otapel 1 (eI .u64) x1.tape.l :: S)
def visorlaw19_same.m (k : Nat) (x0 : Twire_Machine) (x1 : Tvisorref19_M) : Option Bool := (wire_Machine_N.m k x0).bind fun v_7 => (bif v_7 != x1.n then visorlaw19_same.j1 k x0 x1 true else (wire_Machine_Len.m k x0).bind fun v_10 => (visorref19_M_Len.m k x1).bind fun v_13 => (bif v_10 != v_13 then visorlaw19_same.j1 k x0 x1 true else (wire_Machine_Draws.m k x0).bind fun v_16 => (bif v_16 != x1.draws then visorlaw19_same.j1 k x0 x1 true else (wire_Machine_Err.m k x0).bind fun v_19 => visorlaw19_same.j1 k x0 x1 (v_19 != x1.e))))

set_option maxRecDepth 100000 in
set_option maxHeartbeats 4000000 in
theorem visorlaw19_same.ok (k : Nat) (x0 : Twire_Machine) (x1 : Tvisorref19_M) (r : Bool) (hm : visorlaw19_same.m k x0 x1 = some r) (κ : Ctx) (w : World) (S : List HP) (b_x0 : Nat) (b_x0otape : Nat) (A_x0otapeowords : Option Addr) (c_x0otapeowords : Nat) (A_x0oops : Option Addr) (c_x0oops : Nat) (A_x0ovalues : Option Addr) (c_x0ovalues : Nat) (A_x0oblocks : Option Addr) (c_x0oblocks : Nat) (b_x1 : Nat) (A_x1oops : Option Addr) (c_x1oops : Nat) (A_x1oblocks : Option Addr) (c_x1oblocks : Nat) (A_x1oval : Option Addr) (c_x1oval : Nat) (A_x1otapel : Option Addr) (c_x1otapel : Nat) (ho : Own κ w (pt b_x0 (blk (Twire_Machine.obj x0 b_x0otape A_x0oops c_x0oops A_x0ovalues c_x0ovalues A_x0oblocks c_x0oblocks) 151) :: pto x0.dry b_x0otape (blk (Ttape_Tape.obj x0.tape A_x0otapeowords c_x0otapeowords) 158) :: rowp A_x0otapeowords c_x0otapeowords 23 1 (eI .u64) x0.tape.words :: rowp A_x0oops c_x0oops 32 6 Tapi_Op.cells x0.ops :: rowp A_x0ovalues c_x0ovalues 23 1 (eI .u64) x0.values :: rowp A_x0oblocks c_x0oblocks 144 3 Tapi_Span.cells x0.blocks :: pt b_x1 (blk (Tvisorref19_M.obj x1 A_x1oops c_x1oops A_x1oblocks c_x1oblocks A_x1oval c_x1oval A_x1otapel c_x1otapel) 123) :: rowp A_x1oops c_x1oops 32 6 Tapi_Op.cells x1.ops :: rowp A_x1oblocks c_x1oblocks 144 3 Tapi_Span.cells x1.blocks :: rowp A_x1oval c_x1oval 23 1 (eI .u64) x1.val :: rdp κ A_x1otapel c_x1otapel 1 (eI .u64) x1.tape.l :: S)) :
    Calls Try.prog 71 #[.pointer (some ⟨b_x0, 0, none⟩), .pointer (some ⟨b_x1, 0, none⟩)] w (visorlaw19_same.R κ S x0 x1 b_x0 b_x0otape A_x0otapeowords c_x0otapeowords A_x0oops c_x0oops A_x0ovalues c_x0ovalues A_x0oblocks c_x0oblocks b_x1 A_x1oops c_x1oops A_x1oblocks c_x1oblocks A_x1oval c_x1oval A_x1otapel c_x1otapel r) := by
  unfold visorlaw19_same.m at hm
  refine Vk.enter [(0, .pointer (some ⟨b_x0, 0, none⟩)), (1, .pointer (some ⟨b_x1, 0, none⟩))] Try.func71 rfl Try.ntmps71 (by kernel_rfl) (Nat.le_of_ble_eq_true (by kernel_rfl)) ho fun a hs => ?_
  refine Vk.seq fun K1 hK1 => ?_
  refine Vk.region ?_
  refine Vk.pures 1 [(4, .bool false)] hs (by kernel_rfl) fun a hs => ?_
  replace hs := hs.pick [0, 1] (L' := [(0, .pointer (some ⟨b_x0, 0, none⟩)), (1, .pointer (some ⟨b_x1, 0, none⟩))]) (by kernel_rfl)
  refine Vk.done (by kernel_rfl) ?_
  refine hK1 _ _ ?_
  clear hK1
  refine Vk.seq fun K2 hK2 => ?_
  refine Vk.seq fun K3 hK3 => ?_
  have hj3 : ∀ (p_20 : Bool), visorlaw19_same.j1 k x0 x1 p_20 = some r → ∀ (a : Act) (w : World), St 69 a w κ [(0, .pointer (some ⟨b_x0, 0, none⟩)), (1, .pointer (some ⟨b_x1, 0, none⟩)), (36, .bool p_20)] (pt b_x0 (blk (Twire_Machine.obj x0 b_x0otape A_x0oops c_x0oops A_x0ovalues c_x0ovalues A_x0oblocks c_x0oblocks) 151) :: pto x0.dry b_x0otape (blk (Ttape_Tape.obj x0.tape A_x0otapeowords c_x0otapeowords) 158) :: rowp A_x0otapeowords c_x0otapeowords 23 1 (eI .u64) x0.tape.words :: rowp A_x0oops c_x0oops 32 6 Tapi_Op.cells x0.ops :: rowp A_x0ovalues c_x0ovalues 23 1 (eI .u64) x0.values :: rowp A_x0oblocks c_x0oblocks 144 3 Tapi_Span.cells x0.blocks :: pt b_x1 (blk (Tvisorref19_M.obj x1 A_x1oops c_x1oops A_x1oblocks c_x1oblocks A_x1oval c_x1oval A_x1otapel c_x1otapel) 123) :: rowp A_x1oops c_x1oops 32 6 Tapi_Op.cells x1.ops :: rowp A_x1oblocks c_x1oblocks 144 3 Tapi_Span.cells x1.blocks :: rowp A_x1oval c_x1oval 23 1 (eI .u64) x1.val :: rdp κ A_x1otapel c_x1otapel 1 (eI .u64) x1.tape.l :: S) → K3 a w := by
    intro p_20 hm a w hs
    unfold visorlaw19_same.j1 at hm
    refine hK3 _ _ ?_
    refine Vk.condS (b := p_20) hs (by kernel_rfl) (by kernel_rfl) (fun hb => ?_) (fun hb => ?_)
    · replace hm := bif_t hm hb
      refine Vk.seq fun K21 hK21 => ?_
      refine Vk.region ?_
      refine Vk.pures 1 [(4, .bool false)] hs (by kernel_rfl) fun a hs => ?_
      replace hs := hs.pick [4] (L' := [(4, .bool false)]) (by kernel_rfl)
      refine Vk.done (by kernel_rfl) ?_
      refine hK21 _ _ ?_
      clear hK21
      refine wp_ret ?_
      exact Vk.ret1 (P := Try.prog) (fn := Try.f71) (R := visorlaw19_same.R κ S x0 x1 b_x0 b_x0otape A_x0otapeowords c_x0otapeowords A_x0oops c_x0oops A_x0ovalues c_x0ovalues A_x0oblocks c_x0oblocks b_x1 A_x1oops c_x1oops A_x1oblocks c_x1oblocks A_x1oval c_x1oval A_x1otapel c_x1otapel r) (.bool false) hs rfl (by kernel_rfl) (by obtain rfl := Option.some.inj hm; exact ⟨rfl, (Own.to hs.own [0, 1, 2, 3, 4, 5, 6, 7, 8, 9, 10] 11 (by kernel_rfl) (by kernel_rfl))⟩)
    · replace hm := bif_f hm hb
      refine wp_skip ?_
      refine hK2 _ _ ?_
      clear hK2
      refine Vk.seq fun K22 hK22 => ?_
      refine Vk.seq fun K23 hK23 => ?_
      refine Vk.region ?_
      refine Vk.pures 3 [(39, .pointer (some ⟨b_x1, 14, none⟩)), (38, .pointer (some ⟨b_x1, 0, none⟩)), (37, .pointer (some ⟨b_x1, 0, none⟩))] hs (by kernel_rfl) fun a hs => ?_
      refine Vk.step (Vk.value (some 40) (.bool x1.dry) hs (by kernel_rfl) (op := (.load 4 (.tmp 39))) (by kernel_rfl) (fun o ho => run_load1 (b := b_x1) (off := 14) (c := C.bool x1.dry) ho (by kernel_rfl) (by kernel_rfl) (Cell.own 6 rfl (by kernel_rfl)) _ hs.own) fun a hs => ?_)
      replace hs := hs.pick [0, 1, 40] (L' := [(0, .pointer (some ⟨b_x0, 0, none⟩)), (1, .pointer (some ⟨b_x1, 0, none⟩)), (40, .bool x1.dry)]) (by kernel_rfl)
      refine Vk.done (by kernel_rfl) ?_
      refine hK23 _ _ ?_
      clear hK23
      refine Vk.condS (b := x1.dry) hs (by kernel_rfl) (by kernel_rfl) (fun hb => ?_) (fun hb => ?_)
      · replace hm := bif_t hm hb
        refine Vk.seq fun K24 hK24 => ?_
        have hj24 : ∀ (p_41 : Bool), visorlaw19_same.j2 k p_41 = some r → ∀ (a : Act) (w : World), St 69 a w κ [(4, .bool p_41)] (pt b_x0 (blk (Twire_Machine.obj x0 b_x0otape A_x0oops c_x0oops A_x0ovalues c_x0ovalues A_x0oblocks c_x0oblocks) 151) :: pto x0.dry b_x0otape (blk (Ttape_Tape.obj x0.tape A_x0otapeowords c_x0otapeowords) 158) :: rowp A_x0otapeowords c_x0otapeowords 23 1 (eI .u64) x0.tape.words :: rowp A_x0oops c_x0oops 32 6 Tapi_Op.cells x0.ops :: rowp A_x0ovalues c_x0ovalues 23 1 (eI .u64) x0.values :: rowp A_x0oblocks c_x0oblocks 144 3 Tapi_Span.cells x0.blocks :: pt b_x1 (blk (Tvisorref19_M.obj x1 A_x1oops c_x1oops A_x1oblocks c_x1oblocks A_x1oval c_x1oval A_x1otapel c_x1otapel) 123) :: rowp A_x1oops c_x1oops 32 6 Tapi_Op.cells x1.ops :: rowp A_x1oblocks c_x1oblocks 144 3 Tapi_Span.cells x1.blocks :: rowp A_x1oval c_x1oval 23 1 (eI .u64) x1.val :: rdp κ A_x1otapel c_x1otapel 1 (eI .u64) x1.tape.l :: S) → K24 a w := by
          intro p_41 hm a w hs
          unfold visorlaw19_same.j2 at hm
          refine hK24 _ _ ?_
          refine wp_ret ?_
          exact Vk.ret1 (P := Try.prog) (fn := Try.f71) (R := visorlaw19_same.R κ S x0 x1 b_x0 b_x0otape A_x0otapeowords c_x0otapeowords A_x0oops c_x0oops A_x0ovalues c_x0ovalues A_x0oblocks c_x0oblocks b_x1 A_x1oops c_x1oops A_x1oblocks c_x1oblocks A_x1oval c_x1oval A_x1otapel c_x1otapel r) (.bool p_41) hs rfl (by kernel_rfl) (by obtain rfl := Option.some.inj hm; exact ⟨rfl, (Own.to hs.own [0, 1, 2, 3, 4, 5, 6, 7, 8, 9, 10] 11 (by kernel_rfl) (by kernel_rfl))⟩)
        obtain ⟨C_25, hC_25⟩ : ∃ X0 : List HP, X0 = (pt b_x0 (blk (Twire_Machine.obj x0 b_x0otape A_x0oops c_x0oops A_x0ovalues c_x0ovalues A_x0oblocks c_x0oblocks) 151) :: pto x0.dry b_x0otape (blk (Ttape_Tape.obj x0.tape A_x0otapeowords c_x0otapeowords) 158) :: rowp A_x0otapeowords c_x0otapeowords 23 1 (eI .u64) x0.tape.words :: rowp A_x0oops c_x0oops 32 6 Tapi_Op.cells x0.ops :: rowp A_x0ovalues c_x0ovalues 23 1 (eI .u64) x0.values :: rowp A_x0oblocks c_x0oblocks 144 3 Tapi_Span.cells x0.blocks :: pt b_x1 (blk (Tvisorref19_M.obj x1 A_x1oops c_x1oops A_x1oblocks c_x1oblocks A_x1oval c_x1oval A_x1otapel c_x1otapel) 123) :: rowp A_x1oops c_x1oops 32 6 Tapi_Op.cells x1.ops :: rowp A_x1oblocks c_x1oblocks 144 3 Tapi_Span.cells x1.blocks :: rowp A_x1oval c_x1oval 23 1 (eI .u64) x1.val :: rdp κ A_x1otapel c_x1otapel 1 (eI .u64) x1.tape.l :: S) := ⟨_, rfl⟩
        refine Vk.drawnT 15 κ C_25 hs (by kernel_rfl) fun w hs => ?_
        have hcz : Own κ w (pt b_x0 (blk (Twire_Machine.obj x0 b_x0otape A_x0oops c_x0oops A_x0ovalues c_x0ovalues A_x0oblocks c_x0oblocks) 151) :: pto x0.dry b_x0otape (blk (Ttape_Tape.obj x0.tape A_x0otapeowords c_x0otapeowords) 158) :: rowp A_x0otapeowords c_x0otapeowords 23 1 (eI .u64) x0.tape.words :: rowp A_x0oops c_x0oops 32 6 Tapi_Op.cells x0.ops :: rowp A_x0ovalues c_x0ovalues 23 1 (eI .u64) x0.values :: rowp A_x0oblocks c_x0oblocks 144 3 Tapi_Span.cells x0.blocks :: pt b_x1 (blk (Tvisorref19_M.obj x1 A_x1oops c_x1oops A_x1oblocks c_x1oblocks A_x1oval c_x1oval A_x1otapel c_x1otapel) 123) :: rowp A_x1oops c_x1oops 32 6 Tapi_Op.cells x1.ops :: rowp A_x1oblocks c_x1oblocks 144 3 Tapi_Span.cells x1.blocks :: rowp A_x1oval c_x1oval 23 1 (eI .u64) x1.val :: rdp κ A_x1otapel c_x1otapel 1 (eI .u64) x1.tape.l :: S) := (Own.to hs.own [0, 1, 2, 3, 4, 5, 6, 7, 8, 9, 10] 11 (by kernel_rfl) (by kernel_rfl))
        have hcl : Own κ w C_25 := by rw [hC_25]; exact hcz
        refine Vk.dPuresT [0] [(41, .pointer (some ⟨b_x0, 0, none⟩))] hs (by kernel_rfl) (by repeat' (first | exact Vk.Calm.post | refine Vk.Calm.then ?_ | refine Vk.Calm.inBlock ?_)) hcl (by kernel_rfl) (by kernel_rfl) (fuel := 14) rfl fun a hs => ?_
        obtain ⟨v_28, h_27, hm⟩ := bind_t hm
        refine Vk.dOnly (i := 1) (by kernel_rfl) (Vk.call (some 42) 53 #[.pointer (some ⟨b_x0, 0, none⟩)] hs (by kernel_rfl) (by kernel_rfl) (by kernel_rfl) ?_)
        refine (wire_Machine_Values.ok k x0 v_28 h_27 κ w (pt b_x1 (blk (Tvisorref19_M.obj x1 A_x1oops c_x1oops A_x1oblocks c_x1oblocks A_x1oval c_x1oval A_x1otapel c_x1otapel) 123) :: rowp A_x1oops c_x1oops 32 6 Tapi_Op.cells x1.ops :: rowp A_x1oblocks c_x1oblocks 144 3 Tapi_Span.cells x1.blocks :: rowp A_x1oval c_x1oval 23 1 (eI .u64) x1.val :: rdp κ A_x1otapel c_x1otapel 1 (eI .u64) x1.tape.l :: S) b_x0 b_x0otape A_x0otapeowords c_x0otapeowords A_x0oops c_x0oops A_x0ovalues c_x0ovalues A_x0oblocks c_x0oblocks (Own.to hs.own [0, 1, 2, 3, 4, 5, 6, 7, 8, 9, 10] 11 (by kernel_rfl) (by kernel_rfl))).mono ?_
        rintro _ w ⟨Ar26x0_29, cr26x0_30, rfl, how⟩
        refine ⟨_, _, _, rfl, how, fun a hs => ?_⟩
        replace hcl : Own κ w C_25 := by rw [hC_25]; exact (Own.to hs.own [1, 2, 3, 4, 5, 6, 7, 8, 9, 10, 11] 12 (by kernel_rfl) (by kernel_rfl))
        refine ⟨fun _ => hcl, ?_⟩
        refine Vk.dPuresT [2, 3, 4] [(45, .bool (((v_28.length : Nat) : Int) == 0)), (44, .bool (((v_28.length : Nat) : Int) == 0)), (43, .int .i64 ((v_28.length : Nat) : Int))] hs (by kernel_rfl) (by repeat' (first | exact Vk.Calm.post | refine Vk.Calm.then ?_ | refine Vk.Calm.inBlock ?_)) hcl (by kernel_rfl) (by kernel_rfl) (fuel := 10) rfl fun a hs => ?_
        rcases Bool.eq_false_or_eq_true (((v_28.length : Nat) : Int) == 0) with hb | hb
        · replace hm := bif_t hm hb
          replace hs := hs.known (t := 45) hb (by kernel_rfl)
          refine Vk.dPuresT [5, 7, 8, 9] [(50, .pointer (some ⟨b_x1, 0, none⟩)), (49, .pointer (some ⟨b_x1, 0, none⟩)), (48, .pointer (some ⟨b_x1, 0, none⟩)), (46, .pointer (some ⟨b_x0, 0, none⟩))] hs (by kernel_rfl) (by repeat' (first | exact Vk.Calm.post | refine Vk.Calm.then ?_ | refine Vk.Calm.inBlock ?_)) hcl (by kernel_rfl) (by kernel_rfl) (fuel := 6) rfl fun a hs => ?_
          refine Vk.dTakeT (i := 10) (some 51) (.int .i64 x1.n) hs (by kernel_rfl) (by repeat' (first | exact Vk.Calm.post | refine Vk.Calm.then ?_ | refine Vk.Calm.inBlock ?_)) hcl (by kernel_rfl) (by kernel_rfl) (op := (.load 3 (.tmp 50))) (by kernel_rfl) (by kernel_rfl) (fun w hw o ho => by rw [hC_25] at hw; exact run_load1 (b := b_x1) (off := 0) (c := C.int .i64 x1.n) ho (by kernel_rfl) (by kernel_rfl) (Cell.own 6 rfl (by kernel_rfl)) _ hw) fun a hs => ?_
          refine Vk.dPuresT [11] [(52, .agg (vals [C.int .i64 x1.n, C.slc none 0 0, C.slc none 0 0]))] hs (by kernel_rfl) (by repeat' (first | exact Vk.Calm.post | refine Vk.Calm.then ?_ | refine Vk.Calm.inBlock ?_)) hcl (by kernel_rfl) (by kernel_rfl) (fuel := 4) rfl fun a hs => ?_
          obtain ⟨v_33, h_32, hm⟩ := bind_t hm
          refine Vk.dOnly (i := 6) (by kernel_rfl) (Vk.call (some 47) 65 #[.pointer (some ⟨b_x0, 0, none⟩)] hs (by kernel_rfl) (by kernel_rfl) (by kernel_rfl) ?_)
          refine (wire_Machine_Trace.ok k x0 v_33 h_32 κ w (rowp Ar26x0_29 cr26x0_30 23 1 (eI .u64) v_28 :: pt b_x1 (blk (Tvisorref19_M.obj x1 A_x1oops c_x1oops A_x1oblocks c_x1oblocks A_x1oval c_x1oval A_x1otapel c_x1otapel) 123) :: rowp A_x1oops c_x1oops 32 6 Tapi_Op.cells x1.ops :: rowp A_x1oblocks c_x1oblocks 144 3 Tapi_Span.cells x1.blocks :: rowp A_x1oval c_x1oval 23 1 (eI .u64) x1.val :: rdp κ A_x1otapel c_x1otapel 1 (eI .u64) x1.tape.l :: S) b_x0 b_x0otape A_x0otapeowords c_x0otapeowords A_x0oops c_x0oops A_x0ovalues c_x0ovalues A_x0oblocks c_x0oblocks (Own.to hs.own [1, 2, 3, 4, 5, 6, 0, 7, 8, 9, 10, 11] 12 (by kernel_rfl) (by kernel_rfl))).mono ?_
          rintro _ w ⟨Ar31x0ops_34, cr31x0ops_35, Ar31x0blocks_36, cr31x0blocks_37, rfl, how⟩
          refine ⟨_, _, _, rfl, how, fun a hs => ?_⟩
          replace hcl : Own κ w C_25 := by rw [hC_25]; exact (Own.to hs.own [2, 3, 4, 5, 6, 7, 9, 10, 11, 12, 13] 14 (by kernel_rfl) (by kernel_rfl))
          refine ⟨fun _ => hcl, ?_⟩
          obtain ⟨v_40, h_39, hm⟩ := bind_t hm
          refine Vk.dOnly (i := 12) (by kernel_rfl) (Vk.call (some 53) 109 #[.agg (vals [C.int .i64 v_33.n, C.slc Ar31x0ops_34 v_33.ops.length cr31x0ops_35, C.slc Ar31x0blocks_36 v_33.blocks.length cr31x0blocks_37]), .agg (vals [C.int .i64 x1.n, C.slc none 0 0, C.slc none 0 0])] hs (by kernel_rfl) (by kernel_rfl) (by kernel_rfl) ?_)
          refine (visorref18_Same.ok k v_33 (⟨x1.n, [], []⟩ : Tapi_Trace) v_40 h_39 κ w (rowp Ar31x0ops_34 cr31x0ops_35 32 6 Tapi_Op.cells v_33.ops :: rowp Ar31x0blocks_36 cr31x0blocks_37 144 3 Tapi_Span.cells v_33.blocks :: pt b_x0 (blk (Twire_Machine.obj x0 b_x0otape A_x0oops c_x0oops A_x0ovalues c_x0ovalues A_x0oblocks c_x0oblocks) 151) :: pto x0.dry b_x0otape (blk (Ttape_Tape.obj x0.tape A_x0otapeowords c_x0otapeowords) 158) :: rowp A_x0otapeowords c_x0otapeowords 23 1 (eI .u64) x0.tape.words :: rowp A_x0oops c_x0oops 32 6 Tapi_Op.cells x0.ops :: rowp A_x0ovalues c_x0ovalues 23 1 (eI .u64) x0.values :: rowp A_x0oblocks c_x0oblocks 144 3 Tapi_Span.cells x0.blocks :: rowp Ar26x0_29 cr26x0_30 23 1 (eI .u64) v_28 :: pt b_x1 (blk (Tvisorref19_M.obj x1 A_x1oops c_x1oops A_x1oblocks c_x1oblocks A_x1oval c_x1oval A_x1otapel c_x1otapel) 123) :: rowp A_x1oops c_x1oops 32 6 Tapi_Op.cells x1.ops :: rowp A_x1oblocks c_x1oblocks 144 3 Tapi_Span.cells x1.blocks :: rowp A_x1oval c_x1oval 23 1 (eI .u64) x1.val :: rdp κ A_x1otapel c_x1otapel 1 (eI .u64) x1.tape.l :: S) Ar31x0ops_34 cr31x0ops_35 (Sl.lift (fun w ho => (Own.to (S' := rowp Ar31x0ops_34 cr31x0ops_35 32 6 Tapi_Op.cells v_33.ops :: S) ho [0] 14 (by kernel_rfl) (by kernel_rfl))) (Own.rowSl 0 (Own.to (S' := rowp Ar31x0ops_34 cr31x0ops_35 32 6 Tapi_Op.cells v_33.ops :: S) hs.own [0] 14 (by kernel_rfl) (by kernel_rfl)) rfl)) Ar31x0blocks_36 cr31x0blocks_37 (Sl.lift (fun w ho => (Own.to (S' := rowp Ar31x0blocks_36 cr31x0blocks_37 144 3 Tapi_Span.cells v_33.blocks :: S) ho [1] 14 (by kernel_rfl) (by kernel_rfl))) (Own.rowSl 0 (Own.to (S' := rowp Ar31x0blocks_36 cr31x0blocks_37 144 3 Tapi_Span.cells v_33.blocks :: S) hs.own [1] 14 (by kernel_rfl) (by kernel_rfl)) rfl)) none 0 Sl.nil none 0 Sl.nil hs.own).mono ?_
          rintro _ w ⟨rfl, how⟩
          refine ⟨_, _, _, rfl, how, fun a hs => ?_⟩
          replace hcl : Own κ w C_25 := by rw [hC_25]; exact (Own.to hs.own [2, 3, 4, 5, 6, 7, 9, 10, 11, 12, 13] 14 (by kernel_rfl) (by kernel_rfl))
          refine ⟨fun _ => hcl, ?_⟩
          refine Vk.dPuresT [13, 14] [(4, .bool v_40), (54, .bool v_40)] hs (by kernel_rfl) (by repeat' (first | exact Vk.Calm.post | refine Vk.Calm.then ?_ | refine Vk.Calm.inBlock ?_)) hcl (by kernel_rfl) (by kernel_rfl) (fuel := 0) rfl fun a hs => ?_
          replace hs := hs.pick [4] (L' := [(4, .bool v_40)]) (by kernel_rfl)
          refine Vk.dDone (by kernel_rfl) ?_
          exact hj24 v_40 hm _ _ (hs.go [4] [2, 3, 4, 5, 6, 7, 9, 10, 11, 12, 13] 14 (by kernel_rfl) (by kernel_rfl) (by kernel_rfl))
        · replace hm := bif_f hm hb
          replace hs := hs.known (t := 45) hb (by kernel_rfl)
          refine Vk.dPuresT [5, 6, 7, 8, 9, 10, 11, 12, 13, 14] [(4, .bool false), (54, .bool false), (53, undef), (52, undef), (51, undef), (50, undef), (49, undef), (48, undef), (47, undef), (46, undef)] hs (by kernel_rfl) (by repeat' (first | exact Vk.Calm.post | refine Vk.Calm.then ?_ | refine Vk.Calm.inBlock ?_)) hcl (by kernel_rfl) (by kernel_rfl) (fuel := 0) rfl fun a hs => ?_
          replace hs := hs.pick [4] (L' := [(4, .bool false)]) (by kernel_rfl)
          refine Vk.dDone (by kernel_rfl) ?_
          exact hj24 false hm _ _ (hs.go [4] [1, 2, 3, 4, 5, 6, 7, 8, 9, 10, 11] 12 (by kernel_rfl) (by kernel_rfl) (by kernel_rfl))
      · replace hm := bif_f hm hb
        refine wp_skip ?_
        refine hK22 _ _ ?_
        clear hK22
        refine Vk.seq fun K42 hK42 => ?_
        have hj42 : ∀ (p_67 : Bool), visorlaw19_same.j3 k p_67 = some r → ∀ (a : Act) (w : World), St 69 a w κ [(4, .bool p_67)] (pt b_x0 (blk (Twire_Machine.obj x0 b_x0otape A_x0oops c_x0oops A_x0ovalues c_x0ovalues A_x0oblocks c_x0oblocks) 151) :: pto x0.dry b_x0otape (blk (Ttape_Tape.obj x0.tape A_x0otapeowords c_x0otapeowords) 158) :: rowp A_x0otapeowords c_x0otapeowords 23 1 (eI .u64) x0.tape.words :: rowp A_x0oops c_x0oops 32 6 Tapi_Op.cells x0.ops :: rowp A_x0ovalues c_x0ovalues 23 1 (eI .u64) x0.values :: rowp A_x0oblocks c_x0oblocks 144 3 Tapi_Span.cells x0.blocks :: pt b_x1 (blk (Tvisorref19_M.obj x1 A_x1oops c_x1oops A_x1oblocks c_x1oblocks A_x1oval c_x1oval A_x1otapel c_x1otapel) 123) :: rowp A_x1oops c_x1oops 32 6 Tapi_Op.cells x1.ops :: rowp A_x1oblocks c_x1oblocks 144 3 Tapi_Span.cells x1.blocks :: rowp A_x1oval c_x1oval 23 1 (eI .u64) x1.val :: rdp κ A_x1otapel c_x1otapel 1 (eI .u64) x1.tape.l :: S) → K42 a w := by
          intro p_67 hm a w hs
          unfold visorlaw19_same.j3 at hm
          refine hK42 _ _ ?_
          refine wp_ret ?_
          exact Vk.ret1 (P := Try.prog) (fn := Try.f71) (R := visorlaw19_same.R κ S x0 x1 b_x0 b_x0otape A_x0otapeowords c_x0otapeowords A_x0oops c_x0oops A_x0ovalues c_x0ovalues A_x0oblocks c_x0oblocks b_x1 A_x1oops c_x1oops A_x1oblocks c_x1oblocks A_x1oval c_x1oval A_x1otapel c_x1otapel r) (.bool p_67) hs rfl (by kernel_rfl) (by obtain rfl := Option.some.inj hm; exact ⟨rfl, (Own.to hs.own [0, 1, 2, 3, 4, 5, 6, 7, 8, 9, 10] 11 (by kernel_rfl) (by kernel_rfl))⟩)
        obtain ⟨C_43, hC_43⟩ : ∃ X0 : List HP, X0 = (pt b_x0 (blk (Twire_Machine.obj x0 b_x0otape A_x0oops c_x0oops A_x0ovalues c_x0ovalues A_x0oblocks c_x0oblocks) 151) :: pto x0.dry b_x0otape (blk (Ttape_Tape.obj x0.tape A_x0otapeowords c_x0otapeowords) 158) :: rowp A_x0otapeowords c_x0otapeowords 23 1 (eI .u64) x0.tape.words :: rowp A_x0oops c_x0oops 32 6 Tapi_Op.cells x0.ops :: rowp A_x0ovalues c_x0ovalues 23 1 (eI .u64) x0.values :: rowp A_x0oblocks c_x0oblocks 144 3 Tapi_Span.cells x0.blocks :: pt b_x1 (blk (Tvisorref19_M.obj x1 A_x1oops c_x1oops A_x1oblocks c_x1oblocks A_x1oval c_x1oval A_x1otapel c_x1otapel) 123) :: rowp A_x1oops c_x1oops 32 6 Tapi_Op.cells x1.ops :: rowp A_x1oblocks c_x1oblocks 144 3 Tapi_Span.cells x1.blocks :: rowp A_x1oval c_x1oval 23 1 (eI .u64) x1.val :: rdp κ A_x1otapel c_x1otapel 1 (eI .u64) x1.tape.l :: S) := ⟨_, rfl⟩
        refine Vk.drawnT 15 κ C_43 hs (by kernel_rfl) fun w hs => ?_
        have hcz : Own κ w (pt b_x0 (blk (Twire_Machine.obj x0 b_x0otape A_x0oops c_x0oops A_x0ovalues c_x0ovalues A_x0oblocks c_x0oblocks) 151) :: pto x0.dry b_x0otape (blk (Ttape_Tape.obj x0.tape A_x0otapeowords c_x0otapeowords) 158) :: rowp A_x0otapeowords c_x0otapeowords 23 1 (eI .u64) x0.tape.words :: rowp A_x0oops c_x0oops 32 6 Tapi_Op.cells x0.ops :: rowp A_x0ovalues c_x0ovalues 23 1 (eI .u64) x0.values :: rowp A_x0oblocks c_x0oblocks 144 3 Tapi_Span.cells x0.blocks :: pt b_x1 (blk (Tvisorref19_M.obj x1 A_x1oops c_x1oops A_x1oblocks c_x1oblocks A_x1oval c_x1oval A_x1otapel c_x1otapel) 123) :: rowp A_x1oops c_x1oops 32 6 Tapi_Op.cells x1.ops :: rowp A_x1oblocks c_x1oblocks 144 3 Tapi_Span.cells x1.blocks :: rowp A_x1oval c_x1oval 23 1 (eI .u64) x1.val :: rdp κ A_x1otapel c_x1otapel 1 (eI .u64) x1.tape.l :: S) := (Own.to hs.own [0, 1, 2, 3, 4, 5, 6, 7, 8, 9, 10] 11 (by kernel_rfl) (by kernel_rfl))
        have hcl : Own κ w C_43 := by rw [hC_43]; exact hcz
        refine Vk.dPuresT [0, 2, 3, 4] [(59, .pointer (some ⟨b_x1, 10, none⟩)), (58, .pointer (some ⟨b_x1, 0, none⟩)), (57, .pointer (some ⟨b_x1, 0, none⟩)), (55, .pointer (some ⟨b_x0, 0, none⟩))] hs (by kernel_rfl) (by repeat' (first | exact Vk.Calm.post | refine Vk.Calm.then ?_ | refine Vk.Calm.inBlock ?_)) hcl (by kernel_rfl) (by kernel_rfl) (fuel := 11) rfl fun a hs => ?_
        refine Vk.dTakeT (i := 5) (some 60) (.slice A_x1oval x1.val.length c_x1oval) hs (by kernel_rfl) (by repeat' (first | exact Vk.Calm.post | refine Vk.Calm.then ?_ | refine Vk.Calm.inBlock ?_)) hcl (by kernel_rfl) (by kernel_rfl) (op := (.load 73 (.tmp 59))) (by kernel_rfl) (by kernel_rfl) (fun w hw o ho => by rw [hC_43] at hw; exact run_load1 (b := b_x1) (off := 10) (c := C.slc A_x1oval x1.val.length c_x1oval) ho (by kernel_rfl) (by kernel_rfl) (Cell.own 6 rfl (by kernel_rfl)) _ hw) fun a hs => ?_
        obtain ⟨v_46, h_45, hm⟩ := bind_t hm
        refine Vk.dOnly (i := 1) (by kernel_rfl) (Vk.call (some 56) 53 #[.pointer (some ⟨b_x0, 0, none⟩)] hs (by kernel_rfl) (by kernel_rfl) (by kernel_rfl) ?_)
        refine (wire_Machine_Values.ok k x0 v_46 h_45 κ w (pt b_x1 (blk (Tvisorref19_M.obj x1 A_x1oops c_x1oops A_x1oblocks c_x1oblocks A_x1oval c_x1oval A_x1otapel c_x1otapel) 123) :: rowp A_x1oops c_x1oops 32 6 Tapi_Op.cells x1.ops :: rowp A_x1oblocks c_x1oblocks 144 3 Tapi_Span.cells x1.blocks :: rowp A_x1oval c_x1oval 23 1 (eI .u64) x1.val :: rdp κ A_x1otapel c_x1otapel 1 (eI .u64) x1.tape.l :: S) b_x0 b_x0otape A_x0otapeowords c_x0otapeowords A_x0oops c_x0oops A_x0ovalues c_x0ovalues A_x0oblocks c_x0oblocks (Own.to hs.own [0, 1, 2, 3, 4, 5, 6, 7, 8, 9, 10] 11 (by kernel_rfl) (by kernel_rfl))).mono ?_
        rintro _ w ⟨Ar44x0_47, cr44x0_48, rfl, how⟩
        refine ⟨_, _, _, rfl, how, fun a hs => ?_⟩
        replace hcl : Own κ w C_43 := by rw [hC_43]; exact (Own.to hs.own [1, 2, 3, 4, 5, 6, 7, 8, 9, 10, 11] 12 (by kernel_rfl) (by kernel_rfl))
        refine ⟨fun _ => hcl, ?_⟩
        obtain ⟨v_51, h_50, hm⟩ := bind_t hm
        refine Vk.dOnly (i := 6) (by kernel_rfl) (Vk.call (some 61) 102 #[.slice Ar44x0_47 v_46.length cr44x0_48, .slice A_x1oval x1.val.length c_x1oval] hs (by kernel_rfl) (by kernel_rfl) (by kernel_rfl) ?_)
        refine (visorlaw19_words.ok k v_46 x1.val v_51 h_50 κ w (rowp Ar44x0_47 cr44x0_48 23 1 (eI .u64) v_46 :: pt b_x0 (blk (Twire_Machine.obj x0 b_x0otape A_x0oops c_x0oops A_x0ovalues c_x0ovalues A_x0oblocks c_x0oblocks) 151) :: pto x0.dry b_x0otape (blk (Ttape_Tape.obj x0.tape A_x0otapeowords c_x0otapeowords) 158) :: rowp A_x0otapeowords c_x0otapeowords 23 1 (eI .u64) x0.tape.words :: rowp A_x0oops c_x0oops 32 6 Tapi_Op.cells x0.ops :: rowp A_x0ovalues c_x0ovalues 23 1 (eI .u64) x0.values :: rowp A_x0oblocks c_x0oblocks 144 3 Tapi_Span.cells x0.blocks :: pt b_x1 (blk (Tvisorref19_M.obj x1 A_x1oops c_x1oops A_x1oblocks c_x1oblocks A_x1oval c_x1oval A_x1otapel c_x1otapel) 123) :: rowp A_x1oops c_x1oops 32 6 Tapi_Op.cells x1.ops :: rowp A_x1oblocks c_x1oblocks 144 3 Tapi_Span.cells x1.blocks :: rowp A_x1oval c_x1oval 23 1 (eI .u64) x1.val :: rdp κ A_x1otapel c_x1otapel 1 (eI .u64) x1.tape.l :: S) Ar44x0_47 cr44x0_48 (Sl.lift (fun w ho => (Own.to (S' := rowp Ar44x0_47 cr44x0_48 23 1 (eI .u64) v_46 :: S) ho [0] 12 (by kernel_rfl) (by kernel_rfl))) (Own.rowSl 0 (Own.to (S' := rowp Ar44x0_47 cr44x0_48 23 1 (eI .u64) v_46 :: S) hs.own [0] 12 (by kernel_rfl) (by kernel_rfl)) rfl)) A_x1oval c_x1oval (Sl.lift (fun w ho => (Own.to (S' := rowp A_x1oval c_x1oval 23 1 (eI .u64) x1.val :: S) ho [10] 12 (by kernel_rfl) (by kernel_rfl))) (Own.rowSl 0 (Own.to (S' := rowp A_x1oval c_x1oval 23 1 (eI .u64) x1.val :: S) hs.own [10] 12 (by kernel_rfl) (by kernel_rfl)) rfl)) hs.own).mono ?_
        rintro _ w ⟨rfl, how⟩
        refine ⟨_, _, _, rfl, how, fun a hs => ?_⟩
        replace hcl : Own κ w C_43 := by rw [hC_43]; exact (Own.to hs.own [1, 2, 3, 4, 5, 6, 7, 8, 9, 10, 11] 12 (by kernel_rfl) (by kernel_rfl))
        refine ⟨fun _ => hcl, ?_⟩
        refine Vk.dPuresT [7] [(62, .bool v_51)] hs (by kernel_rfl) (by repeat' (first | exact Vk.Calm.post | refine Vk.Calm.then ?_ | refine Vk.Calm.inBlock ?_)) hcl (by kernel_rfl) (by kernel_rfl) (fuel := 7) rfl fun a hs => ?_
        rcases Bool.eq_false_or_eq_true (v_51) with hb | hb
        · replace hm := bif_t hm hb
          replace hs := hs.known (t := 62) hb (by kernel_rfl)
          refine Vk.dPuresT [8, 10] [(65, .pointer (some ⟨b_x1, 0, none⟩)), (63, .pointer (some ⟨b_x0, 0, none⟩))] hs (by kernel_rfl) (by repeat' (first | exact Vk.Calm.post | refine Vk.Calm.then ?_ | refine Vk.Calm.inBlock ?_)) hcl (by kernel_rfl) (by kernel_rfl) (fuel := 5) rfl fun a hs => ?_
          obtain ⟨v_54, h_53, hm⟩ := bind_t hm
          refine Vk.dOnly (i := 9) (by kernel_rfl) (Vk.call (some 64) 65 #[.pointer (some ⟨b_x0, 0, none⟩)] hs (by kernel_rfl) (by kernel_rfl) (by kernel_rfl) ?_)
          refine (wire_Machine_Trace.ok k x0 v_54 h_53 κ w (rowp Ar44x0_47 cr44x0_48 23 1 (eI .u64) v_46 :: pt b_x1 (blk (Tvisorref19_M.obj x1 A_x1oops c_x1oops A_x1oblocks c_x1oblocks A_x1oval c_x1oval A_x1otapel c_x1otapel) 123) :: rowp A_x1oops c_x1oops 32 6 Tapi_Op.cells x1.ops :: rowp A_x1oblocks c_x1oblocks 144 3 Tapi_Span.cells x1.blocks :: rowp A_x1oval c_x1oval 23 1 (eI .u64) x1.val :: rdp κ A_x1otapel c_x1otapel 1 (eI .u64) x1.tape.l :: S) b_x0 b_x0otape A_x0otapeowords c_x0otapeowords A_x0oops c_x0oops A_x0ovalues c_x0ovalues A_x0oblocks c_x0oblocks (Own.to hs.own [1, 2, 3, 4, 5, 6, 0, 7, 8, 9, 10, 11] 12 (by kernel_rfl) (by kernel_rfl))).mono ?_
          rintro _ w ⟨Ar52x0ops_55, cr52x0ops_56, Ar52x0blocks_57, cr52x0blocks_58, rfl, how⟩
          refine ⟨_, _, _, rfl, how, fun a hs => ?_⟩
          replace hcl : Own κ w C_43 := by rw [hC_43]; exact (Own.to hs.own [2, 3, 4, 5, 6, 7, 9, 10, 11, 12, 13] 14 (by kernel_rfl) (by kernel_rfl))
          refine ⟨fun _ => hcl, ?_⟩
          refine Vk.dOnly (i := 11) (by kernel_rfl) (Vk.call (some 66) 110 #[.pointer (some ⟨b_x1, 0, none⟩)] hs (by kernel_rfl) (by kernel_rfl) (by kernel_rfl) ?_)
          refine Vk.enterI [(0, .pointer (some ⟨b_x1, 0, none⟩))] Try.func110 rfl Try.ntmps110 (by kernel_rfl) (Nat.le_of_ble_eq_true (by kernel_rfl)) hs.own fun KR59 hKR59 hKP59 a hs => ?_
          refine Vk.seq fun K60 hK60 => ?_
          refine Vk.region ?_
          refine Vk.step (Vk.alloc 2 72 [C.int .i64 0, C.slc none 0 0, C.slc none 0 0] hs (by kernel_rfl) (by kernel_rfl) (by kernel_rfl) fun b_61 w a hs => ?_)
          replace hs := hs.pick [0, 2] (L' := [(0, .pointer (some ⟨b_x1, 0, none⟩)), (2, .pointer (some ⟨b_61, 0, none⟩))]) (by kernel_rfl)
          refine Vk.done (by kernel_rfl) ?_
          refine hK60 _ _ ?_
          clear hK60
          refine Vk.seq fun K62 hK62 => ?_
          obtain ⟨C_63, hC_63⟩ : ∃ X0 : List HP, X0 = (pt b_61 (blk [C.int .i64 0, C.slc none 0 0, C.slc none 0 0] 72) :: rowp Ar52x0ops_55 cr52x0ops_56 32 6 Tapi_Op.cells v_54.ops :: rowp Ar52x0blocks_57 cr52x0blocks_58 144 3 Tapi_Span.cells v_54.blocks :: pt b_x0 (blk (Twire_Machine.obj x0 b_x0otape A_x0oops c_x0oops A_x0ovalues c_x0ovalues A_x0oblocks c_x0oblocks) 151) :: pto x0.dry b_x0otape (blk (Ttape_Tape.obj x0.tape A_x0otapeowords c_x0otapeowords) 158) :: rowp A_x0otapeowords c_x0otapeowords 23 1 (eI .u64) x0.tape.words :: rowp A_x0oops c_x0oops 32 6 Tapi_Op.cells x0.ops :: rowp A_x0ovalues c_x0ovalues 23 1 (eI .u64) x0.values :: rowp A_x0oblocks c_x0oblocks 144 3 Tapi_Span.cells x0.blocks :: rowp Ar44x0_47 cr44x0_48 23 1 (eI .u64) v_46 :: pt b_x1 (blk (Tvisorref19_M.obj x1 A_x1oops c_x1oops A_x1oblocks c_x1oblocks A_x1oval c_x1oval A_x1otapel c_x1otapel) 123) :: rowp A_x1oops c_x1oops 32 6 Tapi_Op.cells x1.ops :: rowp A_x1oblocks c_x1oblocks 144 3 Tapi_Span.cells x1.blocks :: rowp A_x1oval c_x1oval 23 1 (eI .u64) x1.val :: rdp κ A_x1otapel c_x1otapel 1 (eI .u64) x1.tape.l :: S) := ⟨_, rfl⟩
          refine Vk.drawnT 13 κ C_63 hs (by kernel_rfl) fun w hs => ?_
          have hcz : Own κ w (pt b_61 (blk [C.int .i64 0, C.slc none 0 0, C.slc none 0 0] 72) :: rowp Ar52x0ops_55 cr52x0ops_56 32 6 Tapi_Op.cells v_54.ops :: rowp Ar52x0blocks_57 cr52x0blocks_58 144 3 Tapi_Span.cells v_54.blocks :: pt b_x0 (blk (Twire_Machine.obj x0 b_x0otape A_x0oops c_x0oops A_x0ovalues c_x0ovalues A_x0oblocks c_x0oblocks) 151) :: pto x0.dry b_x0otape (blk (Ttape_Tape.obj x0.tape A_x0otapeowords c_x0otapeowords) 158) :: rowp A_x0otapeowords c_x0otapeowords 23 1 (eI .u64) x0.tape.words :: rowp A_x0oops c_x0oops 32 6 Tapi_Op.cells x0.ops :: rowp A_x0ovalues c_x0ovalues 23 1 (eI .u64) x0.values :: rowp A_x0oblocks c_x0oblocks 144 3 Tapi_Span.cells x0.blocks :: rowp Ar44x0_47 cr44x0_48 23 1 (eI .u64) v_46 :: pt b_x1 (blk (Tvisorref19_M.obj x1 A_x1oops c_x1oops A_x1oblocks c_x1oblocks A_x1oval c_x1oval A_x1otapel c_x1otapel) 123) :: rowp A_x1oops c_x1oops 32 6 Tapi_Op.cells x1.ops :: rowp A_x1oblocks c_x1oblocks 144 3 Tapi_Span.cells x1.blocks :: rowp A_x1oval c_x1oval 23 1 (eI .u64) x1.val :: rdp κ A_x1otapel c_x1otapel 1 (eI .u64) x1.tape.l :: S) := (Own.to hs.own [0, 1, 2, 3, 4, 5, 6, 7, 8, 9, 10, 11, 12, 13, 14] 15 (by kernel_rfl) (by kernel_rfl))
          have hcl : Own κ w C_63 := by rw [hC_63]; exact hcz
          refine Vk.dPuresT [0, 1, 2, 4, 5, 6, 8, 9, 10] [(13, .pointer (some ⟨b_x1, 9, none⟩)), (12, .pointer (some ⟨b_x1, 0, none⟩)), (11, .pointer (some ⟨b_x1, 0, none⟩)), (9, .pointer (some ⟨b_x1, 8, none⟩)), (8, .pointer (some ⟨b_x1, 0, none⟩)), (7, .pointer (some ⟨b_x1, 0, none⟩)), (5, .pointer (some ⟨b_x1, 0, none⟩)), (4, .pointer (some ⟨b_x1, 0, none⟩)), (3, .pointer (some ⟨b_x1, 0, none⟩))] hs (by kernel_rfl) (by repeat' (first | exact Vk.Calm.post | refine Vk.Calm.then ?_ | refine Vk.Calm.inBlock ?_)) hcl (by kernel_rfl) (by kernel_rfl) (fuel := 5) rfl fun a hs => ?_
          refine Vk.dTakeT (i := 3) (some 6) (.int .i64 x1.n) hs (by kernel_rfl) (by repeat' (first | exact Vk.Calm.post | refine Vk.Calm.then ?_ | refine Vk.Calm.inBlock ?_)) hcl (by kernel_rfl) (by kernel_rfl) (op := (.load 3 (.tmp 5))) (by kernel_rfl) (by kernel_rfl) (fun w hw o ho => by rw [hC_63] at hw; exact run_load1 (b := b_x1) (off := 0) (c := C.int .i64 x1.n) ho (by kernel_rfl) (by kernel_rfl) (Cell.own 10 rfl (by kernel_rfl)) _ hw) fun a hs => ?_
          refine Vk.dTakeT (i := 7) (some 10) (.slice A_x1oops x1.ops.length c_x1oops) hs (by kernel_rfl) (by repeat' (first | exact Vk.Calm.post | refine Vk.Calm.then ?_ | refine Vk.Calm.inBlock ?_)) hcl (by kernel_rfl) (by kernel_rfl) (op := (.load 69 (.tmp 9))) (by kernel_rfl) (by kernel_rfl) (fun w hw o ho => by rw [hC_63] at hw; exact run_load1 (b := b_x1) (off := 8) (c := C.slc A_x1oops x1.ops.length c_x1oops) ho (by kernel_rfl) (by kernel_rfl) (Cell.own 10 rfl (by kernel_rfl)) _ hw) fun a hs => ?_
          refine Vk.dTakeT (i := 11) (some 14) (.slice A_x1oblocks x1.blocks.length c_x1oblocks) hs (by kernel_rfl) (by repeat' (first | exact Vk.Calm.post | refine Vk.Calm.then ?_ | refine Vk.Calm.inBlock ?_)) hcl (by kernel_rfl) (by kernel_rfl) (op := (.load 70 (.tmp 13))) (by kernel_rfl) (by kernel_rfl) (fun w hw o ho => by rw [hC_63] at hw; exact run_load1 (b := b_x1) (off := 9) (c := C.slc A_x1oblocks x1.blocks.length c_x1oblocks) ho (by kernel_rfl) (by kernel_rfl) (Cell.own 10 rfl (by kernel_rfl)) _ hw) fun a hs => ?_
          refine Vk.dPuresT [12] [(15, .agg (vals [C.int .i64 x1.n, C.slc A_x1oops x1.ops.length c_x1oops, C.slc A_x1oblocks x1.blocks.length c_x1oblocks]))] hs (by kernel_rfl) (by repeat' (first | exact Vk.Calm.post | refine Vk.Calm.then ?_ | refine Vk.Calm.inBlock ?_)) hcl (by kernel_rfl) (by kernel_rfl) (fuel := 1) rfl fun a hs => ?_
          refine Vk.dOnly (i := 13) (by kernel_rfl) (Vk.storeA (b := b_61) (ty := 72) (x := (.tmp 2)) (y := (.tmp 15)) (sz := 3) [C.int .i64 x1.n, C.slc A_x1oops x1.ops.length c_x1oops, C.slc A_x1oblocks x1.blocks.length c_x1oblocks] 0 hs (by kernel_rfl) (by kernel_rfl) (by kernel_rfl) (by kernel_rfl) (by kernel_rfl) rfl (by kernel_rfl) rfl (Eq.trans (b := 3) rfl (Eq.symm rfl)) fun a w hs => ?_)
          refine ⟨fun h => absurd h (by decide), ?_⟩
          replace hs := hs.pick [2] (L' := [(2, .pointer (some ⟨b_61, 0, none⟩))]) (by kernel_rfl)
          refine Vk.dDone (by kernel_rfl) ?_
          refine hK62 _ _ ?_
          clear hK62
          refine wp_ret ?_
          refine hKP59 _ _ ?_
          refine hKR59 _ _ ?_
          refine Vk.retC (P := Try.prog) (fn := Try.f110) [C.int .i64 x1.n, C.slc A_x1oops x1.ops.length c_x1oops, C.slc A_x1oblocks x1.blocks.length c_x1oblocks] hs rfl (by kernel_rfl) (sz := 3) (by kernel_rfl) rfl (CellsAt.all 0 rfl) ⟨_, _, _, rfl, hs.own, fun a hs => ?_⟩
          replace hcl : Own κ w C_43 := by rw [hC_43]; exact (Own.to hs.own [3, 4, 5, 6, 7, 8, 10, 11, 12, 13, 14] 15 (by kernel_rfl) (by kernel_rfl))
          refine ⟨fun _ => hcl, ?_⟩
          obtain ⟨v_66, h_65, hm⟩ := bind_t hm
          refine Vk.dOnly (i := 12) (by kernel_rfl) (Vk.call (some 67) 109 #[.agg (vals [C.int .i64 v_54.n, C.slc Ar52x0ops_55 v_54.ops.length cr52x0ops_56, C.slc Ar52x0blocks_57 v_54.blocks.length cr52x0blocks_58]), .agg (vals [C.int .i64 x1.n, C.slc A_x1oops x1.ops.length c_x1oops, C.slc A_x1oblocks x1.blocks.length c_x1oblocks])] hs (by kernel_rfl) (by kernel_rfl) (by kernel_rfl) ?_)
          refine (visorref18_Same.ok k v_54 (⟨x1.n, x1.ops, x1.blocks⟩ : Tapi_Trace) v_66 h_65 κ w (pt b_61 (blk [C.int .i64 x1.n, C.slc A_x1oops x1.ops.length c_x1oops, C.slc A_x1oblocks x1.blocks.length c_x1oblocks] 72) :: rowp Ar52x0ops_55 cr52x0ops_56 32 6 Tapi_Op.cells v_54.ops :: rowp Ar52x0blocks_57 cr52x0blocks_58 144 3 Tapi_Span.cells v_54.blocks :: pt b_x0 (blk (Twire_Machine.obj x0 b_x0otape A_x0oops c_x0oops A_x0ovalues c_x0ovalues A_x0oblocks c_x0oblocks) 151) :: pto x0.dry b_x0otape (blk (Ttape_Tape.obj x0.tape A_x0otapeowords c_x0otapeowords) 158) :: rowp A_x0otapeowords c_x0otapeowords 23 1 (eI .u64) x0.tape.words :: rowp A_x0oops c_x0oops 32 6 Tapi_Op.cells x0.ops :: rowp A_x0ovalues c_x0ovalues 23 1 (eI .u64) x0.values :: rowp A_x0oblocks c_x0oblocks 144 3 Tapi_Span.cells x0.blocks :: rowp Ar44x0_47 cr44x0_48 23 1 (eI .u64) v_46 :: pt b_x1 (blk (Tvisorref19_M.obj x1 A_x1oops c_x1oops A_x1oblocks c_x1oblocks A_x1oval c_x1oval A_x1otapel c_x1otapel) 123) :: rowp A_x1oops c_x1oops 32 6 Tapi_Op.cells x1.ops :: rowp A_x1oblocks c_x1oblocks 144 3 Tapi_Span.cells x1.blocks :: rowp A_x1oval c_x1oval 23 1 (eI .u64) x1.val :: rdp κ A_x1otapel c_x1otapel 1 (eI .u64) x1.tape.l :: S) Ar52x0ops_55 cr52x0ops_56 (Sl.lift (fun w ho => (Own.to (S' := rowp Ar52x0ops_55 cr52x0ops_56 32 6 Tapi_Op.cells v_54.ops :: S) ho [1] 15 (by kernel_rfl) (by kernel_rfl))) (Own.rowSl 0 (Own.to (S' := rowp Ar52x0ops_55 cr52x0ops_56 32 6 Tapi_Op.cells v_54.ops :: S) hs.own [1] 15 (by kernel_rfl) (by kernel_rfl)) rfl)) Ar52x0blocks_57 cr52x0blocks_58 (Sl.lift (fun w ho => (Own.to (S' := rowp Ar52x0blocks_57 cr52x0blocks_58 144 3 Tapi_Span.cells v_54.blocks :: S) ho [2] 15 (by kernel_rfl) (by kernel_rfl))) (Own.rowSl 0 (Own.to (S' := rowp Ar52x0blocks_57 cr52x0blocks_58 144 3 Tapi_Span.cells v_54.blocks :: S) hs.own [2] 15 (by kernel_rfl) (by kernel_rfl)) rfl)) A_x1oops c_x1oops (Sl.lift (fun w ho => (Own.to (S' := rowp A_x1oops c_x1oops 32 6 Tapi_Op.cells x1.ops :: S) ho [11] 15 (by kernel_rfl) (by kernel_rfl))) (Own.rowSl 0 (Own.to (S' := rowp A_x1oops c_x1oops 32 6 Tapi_Op.cells x1.ops :: S) hs.own [11] 15 (by kernel_rfl) (by kernel_rfl)) rfl)) A_x1oblocks c_x1oblocks (Sl.lift (fun w ho => (Own.to (S' := rowp A_x1oblocks c_x1oblocks 144 3 Tapi_Span.cells x1.blocks :: S) ho [12] 15 (by kernel_rfl) (by kernel_rfl))) (Own.rowSl 0 (Own.to (S' := rowp A_x1oblocks c_x1oblocks 144 3 Tapi_Span.cells x1.blocks :: S) hs.own [12] 15 (by kernel_rfl) (by kernel_rfl)) rfl)) hs.own).mono ?_
          rintro _ w ⟨rfl, how⟩
          refine ⟨_, _, _, rfl, how, fun a hs => ?_⟩
          replace hcl : Own κ w C_43 := by rw [hC_43]; exact (Own.to hs.own [3, 4, 5, 6, 7, 8, 10, 11, 12, 13, 14] 15 (by kernel_rfl) (by kernel_rfl))
          refine ⟨fun _ => hcl, ?_⟩
          refine Vk.dPuresT [13, 14] [(4, .bool v_66), (68, .bool v_66)] hs (by kernel_rfl) (by repeat' (first | exact Vk.Calm.post | refine Vk.Calm.then ?_ | refine Vk.Calm.inBlock ?_)) hcl (by kernel_rfl) (by kernel_rfl) (fuel := 0) rfl fun a hs => ?_
          replace hs := hs.pick [4] (L' := [(4, .bool v_66)]) (by kernel_rfl)
          refine Vk.dDone (by kernel_rfl) ?_
          exact hj42 v_66 hm _ _ (hs.go [4] [3, 4, 5, 6, 7, 8, 10, 11, 12, 13, 14] 15 (by kernel_rfl) (by kernel_rfl) (by kernel_rfl))
        · replace hm := bif_f hm hb
          replace hs := hs.known (t := 62) hb (by kernel_rfl)
          refine Vk.dPuresT [8, 9, 10, 11, 12, 13, 14] [(4, .bool false), (68, .bool false), (67, undef), (66, undef), (65, undef), (64, undef), (63, undef)] hs (by kernel_rfl) (by repeat' (first | exact Vk.Calm.post | refine Vk.Calm.then ?_ | refine Vk.Calm.inBlock ?_)) hcl (by kernel_rfl) (by kernel_rfl) (fuel := 0) rfl fun a hs => ?_
          replace hs := hs.pick [4] (L' := [(4, .bool false)]) (by kernel_rfl)
          refine Vk.dDone (by kernel_rfl) ?_
          exact hj42 false hm _ _ (hs.go [4] [1, 2, 3, 4, 5, 6, 7, 8, 9, 10, 11] 12 (by kernel_rfl) (by kernel_rfl) (by kernel_rfl))
  obtain ⟨C_4, hC_4⟩ : ∃ X0 : List HP, X0 = (pt b_x0 (blk (Twire_Machine.obj x0 b_x0otape A_x0oops c_x0oops A_x0ovalues c_x0ovalues A_x0oblocks c_x0oblocks) 151) :: pto x0.dry b_x0otape (blk (Ttape_Tape.obj x0.tape A_x0otapeowords c_x0otapeowords) 158) :: rowp A_x0otapeowords c_x0otapeowords 23 1 (eI .u64) x0.tape.words :: rowp A_x0oops c_x0oops 32 6 Tapi_Op.cells x0.ops :: rowp A_x0ovalues c_x0ovalues 23 1 (eI .u64) x0.values :: rowp A_x0oblocks c_x0oblocks 144 3 Tapi_Span.cells x0.blocks :: pt b_x1 (blk (Tvisorref19_M.obj x1 A_x1oops c_x1oops A_x1oblocks c_x1oblocks A_x1oval c_x1oval A_x1otapel c_x1otapel) 123) :: rowp A_x1oops c_x1oops 32 6 Tapi_Op.cells x1.ops :: rowp A_x1oblocks c_x1oblocks 144 3 Tapi_Span.cells x1.blocks :: rowp A_x1oval c_x1oval 23 1 (eI .u64) x1.val :: rdp κ A_x1otapel c_x1otapel 1 (eI .u64) x1.tape.l :: S) := ⟨_, rfl⟩
  refine Vk.drawnT 32 κ C_4 hs (by kernel_rfl) fun w hs => ?_
  have hcz : Own κ w (pt b_x0 (blk (Twire_Machine.obj x0 b_x0otape A_x0oops c_x0oops A_x0ovalues c_x0ovalues A_x0oblocks c_x0oblocks) 151) :: pto x0.dry b_x0otape (blk (Ttape_Tape.obj x0.tape A_x0otapeowords c_x0otapeowords) 158) :: rowp A_x0otapeowords c_x0otapeowords 23 1 (eI .u64) x0.tape.words :: rowp A_x0oops c_x0oops 32 6 Tapi_Op.cells x0.ops :: rowp A_x0ovalues c_x0ovalues 23 1 (eI .u64) x0.values :: rowp A_x0oblocks c_x0oblocks 144 3 Tapi_Span.cells x0.blocks :: pt b_x1 (blk (Tvisorref19_M.obj x1 A_x1oops c_x1oops A_x1oblocks c_x1oblocks A_x1oval c_x1oval A_x1otapel c_x1otapel) 123) :: rowp A_x1oops c_x1oops 32 6 Tapi_Op.cells x1.ops :: rowp A_x1oblocks c_x1oblocks 144 3 Tapi_Span.cells x1.blocks :: rowp A_x1oval c_x1oval 23 1 (eI .u64) x1.val :: rdp κ A_x1otapel c_x1otapel 1 (eI .u64) x1.tape.l :: S) := (Own.to hs.own [0, 1, 2, 3, 4, 5, 6, 7, 8, 9, 10] 11 (by kernel_rfl) (by kernel_rfl))
  have hcl : Own κ w C_4 := by rw [hC_4]; exact hcz
  refine Vk.dPuresT [0, 2, 3, 4] [(9, .pointer (some ⟨b_x1, 0, none⟩)), (8, .pointer (some ⟨b_x1, 0, none⟩)), (7, .pointer (some ⟨b_x1, 0, none⟩)), (5, .pointer (some ⟨b_x0, 0, none⟩))] hs (by kernel_rfl) (by repeat' (first | exact Vk.Calm.post | refine Vk.Calm.then ?_ | refine Vk.Calm.inBlock ?_)) hcl (by kernel_rfl) (by kernel_rfl) (fuel := 28) rfl fun a hs => ?_
  refine Vk.dTakeT (i := 5) (some 10) (.int .i64 x1.n) hs (by kernel_rfl) (by repeat' (first | exact Vk.Calm.post | refine Vk.Calm.then ?_ | refine Vk.Calm.inBlock ?_)) hcl (by kernel_rfl) (by kernel_rfl) (op := (.load 3 (.tmp 9))) (by kernel_rfl) (by kernel_rfl) (fun w hw o ho => by rw [hC_4] at hw; exact run_load1 (b := b_x1) (off := 0) (c := C.int .i64 x1.n) ho (by kernel_rfl) (by kernel_rfl) (Cell.own 6 rfl (by kernel_rfl)) _ hw) fun a hs => ?_
  obtain ⟨v_7, h_6, hm⟩ := bind_t hm
  refine Vk.dOnly (i := 1) (by kernel_rfl) (Vk.call (some 6) 88 #[.pointer (some ⟨b_x0, 0, none⟩)] hs (by kernel_rfl) (by kernel_rfl) (by kernel_rfl) ?_)
  refine (wire_Machine_N.ok k x0 v_7 h_6 κ w (pt b_x1 (blk (Tvisorref19_M.obj x1 A_x1oops c_x1oops A_x1oblocks c_x1oblocks A_x1oval c_x1oval A_x1otapel c_x1otapel) 123) :: rowp A_x1oops c_x1oops 32 6 Tapi_Op.cells x1.ops :: rowp A_x1oblocks c_x1oblocks 144 3 Tapi_Span.cells x1.blocks :: rowp A_x1oval c_x1oval 23 1 (eI .u64) x1.val :: rdp κ A_x1otapel c_x1otapel 1 (eI .u64) x1.tape.l :: S) b_x0 b_x0otape A_x0otapeowords c_x0otapeowords A_x0oops c_x0oops A_x0ovalues c_x0ovalues A_x0oblocks c_x0oblocks (Own.to hs.own [0, 1, 2, 3, 4, 5, 6, 7, 8, 9, 10] 11 (by kernel_rfl) (by kernel_rfl))).mono ?_
  rintro _ w ⟨rfl, how⟩
  refine ⟨_, _, _, rfl, how, fun a hs => ?_⟩
  replace hcl : Own κ w C_4 := by rw [hC_4]; exact (Own.to hs.own [0, 1, 2, 3, 4, 5, 6, 7, 8, 9, 10] 11 (by kernel_rfl) (by kernel_rfl))
  refine ⟨fun _ => hcl, ?_⟩
  refine Vk.dPuresT [6, 7] [(12, .bool (v_7 != x1.n)), (11, .bool (v_7 != x1.n))] hs (by kernel_rfl) (by repeat' (first | exact Vk.Calm.post | refine Vk.Calm.then ?_ | refine Vk.Calm.inBlock ?_)) hcl (by kernel_rfl) (by kernel_rfl) (fuel := 24) rfl fun a hs => ?_
  rcases Bool.eq_false_or_eq_true (v_7 != x1.n) with hb | hb
  · replace hm := bif_t hm hb
    replace hs := hs.known (t := 12) hb (by kernel_rfl)
    refine Vk.dPuresT [8, 9, 10, 11, 12, 13, 14, 15, 16, 17, 18, 19, 20, 21, 22, 23, 24, 25, 26, 27, 28, 29, 30, 31] [(36, .bool true), (35, undef), (34, undef), (33, undef), (32, undef), (31, undef), (30, undef), (29, undef), (28, .bool true), (27, .bool true), (26, undef), (25, undef), (24, undef), (23, undef), (22, undef), (21, undef), (20, undef), (19, .bool true), (18, .bool true), (17, undef), (16, undef), (15, undef), (14, undef), (13, undef)] hs (by kernel_rfl) (by repeat' (first | exact Vk.Calm.post | refine Vk.Calm.then ?_ | refine Vk.Calm.inBlock ?_)) hcl (by kernel_rfl) (by kernel_rfl) (fuel := 0) rfl fun a hs => ?_
    replace hs := hs.pick [0, 1, 36] (L' := [(0, .pointer (some ⟨b_x0, 0, none⟩)), (1, .pointer (some ⟨b_x1, 0, none⟩)), (36, .bool true)]) (by kernel_rfl)
    refine Vk.dDone (by kernel_rfl) ?_
    exact hj3 true hm _ _ (hs.go [0, 1, 36] [0, 1, 2, 3, 4, 5, 6, 7, 8, 9, 10] 11 (by kernel_rfl) (by kernel_rfl) (by kernel_rfl))
  · replace hm := bif_f hm hb
    replace hs := hs.known (t := 12) hb (by kernel_rfl)
    refine Vk.dPuresT [8, 10] [(15, .pointer (some ⟨b_x1, 0, none⟩)), (13, .pointer (some ⟨b_x0, 0, none⟩))] hs (by kernel_rfl) (by repeat' (first | exact Vk.Calm.post | refine Vk.Calm.then ?_ | refine Vk.Calm.inBlock ?_)) hcl (by kernel_rfl) (by kernel_rfl) (fuel := 22) rfl fun a hs => ?_
    obtain ⟨v_10, h_9, hm⟩ := bind_t hm
    refine Vk.dOnly (i := 9) (by kernel_rfl) (Vk.call (some 14) 58 #[.pointer (some ⟨b_x0, 0, none⟩)] hs (by kernel_rfl) (by kernel_rfl) (by kernel_rfl) ?_)
    refine (wire_Machine_Len.ok k x0 v_10 h_9 κ w (pt b_x1 (blk (Tvisorref19_M.obj x1 A_x1oops c_x1oops A_x1oblocks c_x1oblocks A_x1oval c_x1oval A_x1otapel c_x1otapel) 123) :: rowp A_x1oops c_x1oops 32 6 Tapi_Op.cells x1.ops :: rowp A_x1oblocks c_x1oblocks 144 3 Tapi_Span.cells x1.blocks :: rowp A_x1oval c_x1oval 23 1 (eI .u64) x1.val :: rdp κ A_x1otapel c_x1otapel 1 (eI .u64) x1.tape.l :: S) b_x0 b_x0otape A_x0otapeowords c_x0otapeowords A_x0oops c_x0oops A_x0ovalues c_x0ovalues A_x0oblocks c_x0oblocks (Own.to hs.own [0, 1, 2, 3, 4, 5, 6, 7, 8, 9, 10] 11 (by kernel_rfl) (by kernel_rfl))).mono ?_
    rintro _ w ⟨rfl, how⟩
    refine ⟨_, _, _, rfl, how, fun a hs => ?_⟩
    replace hcl : Own κ w C_4 := by rw [hC_4]; exact (Own.to hs.own [0, 1, 2, 3, 4, 5, 6, 7, 8, 9, 10] 11 (by kernel_rfl) (by kernel_rfl))
    refine ⟨fun _ => hcl, ?_⟩
    obtain ⟨v_13, h_12, hm⟩ := bind_t hm
    refine Vk.dOnly (i := 11) (by kernel_rfl) (Vk.call (some 16) 69 #[.pointer (some ⟨b_x1, 0, none⟩)] hs (by kernel_rfl) (by kernel_rfl) (by kernel_rfl) ?_)
    refine (visorref19_M_Len.ok k x1 v_13 h_12 κ w (pt b_x0 (blk (Twire_Machine.obj x0 b_x0otape A_x0oops c_x0oops A_x0ovalues c_x0ovalues A_x0oblocks c_x0oblocks) 151) :: pto x0.dry b_x0otape (blk (Ttape_Tape.obj x0.tape A_x0otapeowords c_x0otapeowords) 158) :: rowp A_x0otapeowords c_x0otapeowords 23 1 (eI .u64) x0.tape.words :: rowp A_x0oops c_x0oops 32 6 Tapi_Op.cells x0.ops :: rowp A_x0ovalues c_x0ovalues 23 1 (eI .u64) x0.values :: rowp A_x0oblocks c_x0oblocks 144 3 Tapi_Span.cells x0.blocks :: S) b_x1 A_x1oops c_x1oops A_x1oblocks c_x1oblocks A_x1oval c_x1oval A_x1otapel c_x1otapel (Own.to hs.own [6, 7, 8, 9, 10, 0, 1, 2, 3, 4, 5] 11 (by kernel_rfl) (by kernel_rfl))).mono ?_
    rintro _ w ⟨rfl, how⟩
    refine ⟨_, _, _, rfl, how, fun a hs => ?_⟩
    replace hcl : Own κ w C_4 := by rw [hC_4]; exact (Own.to hs.own [5, 6, 7, 8, 9, 10, 0, 1, 2, 3, 4] 11 (by kernel_rfl) (by kernel_rfl))
    refine ⟨fun _ => hcl, ?_⟩
    refine Vk.dPuresT [12, 13, 14] [(19, .bool (v_10 != v_13)), (18, .bool (v_10 != v_13)), (17, .bool (v_10 != v_13))] hs (by kernel_rfl) (by repeat' (first | exact Vk.Calm.post | refine Vk.Calm.then ?_ | refine Vk.Calm.inBlock ?_)) hcl (by kernel_rfl) (by kernel_rfl) (fuel := 17) rfl fun a hs => ?_
    rcases Bool.eq_false_or_eq_true (v_10 != v_13) with hb | hb
    · replace hm := bif_t hm hb
      replace hs := hs.known (t := 19) hb (by kernel_rfl)
      refine Vk.dPuresT [15, 16, 17, 18, 19, 20, 21, 22, 23, 24, 25, 26, 27, 28, 29, 30, 31] [(36, .bool true), (35, undef), (34, undef), (33, undef), (32, undef), (31, undef), (30, undef), (29, undef), (28, .bool true), (27, .bool true), (26, undef), (25, undef), (24, undef), (23, undef), (22, undef), (21, undef), (20, undef)] hs (by kernel_rfl) (by repeat' (first | exact Vk.Calm.post | refine Vk.Calm.then ?_ | refine Vk.Calm.inBlock ?_)) hcl (by kernel_rfl) (by kernel_rfl) (fuel := 0) rfl fun a hs => ?_
      replace hs := hs.pick [0, 1, 36] (L' := [(0, .pointer (some ⟨b_x0, 0, none⟩)), (1, .pointer (some ⟨b_x1, 0, none⟩)), (36, .bool true)]) (by kernel_rfl)
      refine Vk.dDone (by kernel_rfl) ?_
      exact hj3 true hm _ _ (hs.go [0, 1, 36] [5, 6, 7, 8, 9, 10, 0, 1, 2, 3, 4] 11 (by kernel_rfl) (by kernel_rfl) (by kernel_rfl))
    · replace hm := bif_f hm hb
      replace hs := hs.known (t := 19) hb (by kernel_rfl)
      refine Vk.dPuresT [15, 17, 18, 19] [(24, .pointer (some ⟨b_x1, 3, none⟩)), (23, .pointer (some ⟨b_x1, 0, none⟩)), (22, .pointer (some ⟨b_x1, 0, none⟩)), (20, .pointer (some ⟨b_x0, 0, none⟩))] hs (by kernel_rfl) (by repeat' (first | exact Vk.Calm.post | refine Vk.Calm.then ?_ | refine Vk.Calm.inBlock ?_)) hcl (by kernel_rfl) (by kernel_rfl) (fuel := 13) rfl fun a hs => ?_
      refine Vk.dTakeT (i := 20) (some 25) (.int .i64 x1.draws) hs (by kernel_rfl) (by repeat' (first | exact Vk.Calm.post | refine Vk.Calm.then ?_ | refine Vk.Calm.inBlock ?_)) hcl (by kernel_rfl) (by kernel_rfl) (op := (.load 3 (.tmp 24))) (by kernel_rfl) (by kernel_rfl) (fun w hw o ho => by rw [hC_4] at hw; exact run_load1 (b := b_x1) (off := 3) (c := C.int .i64 x1.draws) ho (by kernel_rfl) (by kernel_rfl) (Cell.own 6 rfl (by kernel_rfl)) _ hw) fun a hs => ?_
      obtain ⟨v_16, h_15, hm⟩ := bind_t hm
      refine Vk.dOnly (i := 16) (by kernel_rfl) (Vk.call (some 21) 99 #[.pointer (some ⟨b_x0, 0, none⟩)] hs (by kernel_rfl) (by kernel_rfl) (by kernel_rfl) ?_)
      refine (wire_Machine_Draws.ok k x0 v_16 h_15 κ w (pt b_x1 (blk (Tvisorref19_M.obj x1 A_x1oops c_x1oops A_x1oblocks c_x1oblocks A_x1oval c_x1oval A_x1otapel c_x1otapel) 123) :: rowp A_x1oops c_x1oops 32 6 Tapi_Op.cells x1.ops :: rowp A_x1oblocks c_x1oblocks 144 3 Tapi_Span.cells x1.blocks :: rowp A_x1oval c_x1oval 23 1 (eI .u64) x1.val :: rdp κ A_x1otapel c_x1otapel 1 (eI .u64) x1.tape.l :: S) b_x0 b_x0otape A_x0otapeowords c_x0otapeowords A_x0oops c_x0oops A_x0ovalues c_x0ovalues A_x0oblocks c_x0oblocks (Own.to hs.own [5, 6, 7, 8, 9, 10, 0, 1, 2, 3, 4] 11 (by kernel_rfl) (by kernel_rfl))).mono ?_
      rintro _ w ⟨rfl, how⟩
      refine ⟨_, _, _, rfl, how, fun a hs => ?_⟩
      replace hcl : Own κ w C_4 := by rw [hC_4]; exact (Own.to hs.own [0, 1, 2, 3, 4, 5, 6, 7, 8, 9, 10] 11 (by kernel_rfl) (by kernel_rfl))
      refine ⟨fun _ => hcl, ?_⟩
      refine Vk.dPuresT [21, 22, 23] [(28, .bool (v_16 != x1.draws)), (27, .bool (v_16 != x1.draws)), (26, .bool (v_16 != x1.draws))] hs (by kernel_rfl) (by repeat' (first | exact Vk.Calm.post | refine Vk.Calm.then ?_ | refine Vk.Calm.inBlock ?_)) hcl (by kernel_rfl) (by kernel_rfl) (fuel := 8) rfl fun a hs => ?_
      rcases Bool.eq_false_or_eq_true (v_16 != x1.draws) with hb | hb
      · replace hm := bif_t hm hb
        replace hs := hs.known (t := 28) hb (by kernel_rfl)
        refine Vk.dPuresT [24, 25, 26, 27, 28, 29, 30, 31] [(36, .bool true), (35, undef), (34, undef), (33, undef), (32, undef), (31, undef), (30, undef), (29, undef)] hs (by kernel_rfl) (by repeat' (first | exact Vk.Calm.post | refine Vk.Calm.then ?_ | refine Vk.Calm.inBlock ?_)) hcl (by kernel_rfl) (by kernel_rfl) (fuel := 0) rfl fun a hs => ?_
        replace hs := hs.pick [0, 1, 36] (L' := [(0, .pointer (some ⟨b_x0, 0, none⟩)), (1, .pointer (some ⟨b_x1, 0, none⟩)), (36, .bool true)]) (by kernel_rfl)
        refine Vk.dDone (by kernel_rfl) ?_
        exact hj3 true hm _ _ (hs.go [0, 1, 36] [0, 1, 2, 3, 4, 5, 6, 7, 8, 9, 10] 11 (by kernel_rfl) (by kernel_rfl) (by kernel_rfl))
      · replace hm := bif_f hm hb
        replace hs := hs.known (t := 28) hb (by kernel_rfl)
        refine Vk.dPuresT [24, 26, 27, 28] [(33, .pointer (some ⟨b_x1, 7, none⟩)), (32, .pointer (some ⟨b_x1, 0, none⟩)), (31, .pointer (some ⟨b_x1, 0, none⟩)), (29, .pointer (some ⟨b_x0, 0, none⟩))] hs (by kernel_rfl) (by repeat' (first | exact Vk.Calm.post | refine Vk.Calm.then ?_ | refine Vk.Calm.inBlock ?_)) hcl (by kernel_rfl) (by kernel_rfl) (fuel := 4) rfl fun a hs => ?_
        refine Vk.dTakeT (i := 29) (some 34) (.int .i64 x1.e) hs (by kernel_rfl) (by repeat' (first | exact Vk.Calm.post | refine Vk.Calm.then ?_ | refine Vk.Calm.inBlock ?_)) hcl (by kernel_rfl) (by kernel_rfl) (op := (.load 43 (.tmp 33))) (by kernel_rfl) (by kernel_rfl) (fun w hw o ho => by rw [hC_4] at hw; exact run_load1 (b := b_x1) (off := 7) (c := C.int .i64 x1.e) ho (by kernel_rfl) (by kernel_rfl) (Cell.own 6 rfl (by kernel_rfl)) _ hw) fun a hs => ?_
        obtain ⟨v_19, h_18, hm⟩ := bind_t hm
        refine Vk.dOnly (i := 25) (by kernel_rfl) (Vk.call (some 30) 62 #[.pointer (some ⟨b_x0, 0, none⟩)] hs (by kernel_rfl) (by kernel_rfl) (by kernel_rfl) ?_)
        refine (wire_Machine_Err.ok k x0 v_19 h_18 κ w (pt b_x1 (blk (Tvisorref19_M.obj x1 A_x1oops c_x1oops A_x1oblocks c_x1oblocks A_x1oval c_x1oval A_x1otapel c_x1otapel) 123) :: rowp A_x1oops c_x1oops 32 6 Tapi_Op.cells x1.ops :: rowp A_x1oblocks c_x1oblocks 144 3 Tapi_Span.cells x1.blocks :: rowp A_x1oval c_x1oval 23 1 (eI .u64) x1.val :: rdp κ A_x1otapel c_x1otapel 1 (eI .u64) x1.tape.l :: S) b_x0 b_x0otape A_x0otapeowords c_x0otapeowords A_x0oops c_x0oops A_x0ovalues c_x0ovalues A_x0oblocks c_x0oblocks (Own.to hs.own [0, 1, 2, 3, 4, 5, 6, 7, 8, 9, 10] 11 (by kernel_rfl) (by kernel_rfl))).mono ?_
        rintro _ w ⟨rfl, how⟩
        refine ⟨_, _, _, rfl, how, fun a hs => ?_⟩
        replace hcl : Own κ w C_4 := by rw [hC_4]; exact (Own.to hs.own [0, 1, 2, 3, 4, 5, 6, 7, 8, 9, 10] 11 (by kernel_rfl) (by kernel_rfl))
        refine ⟨fun _ => hcl, ?_⟩
        refine Vk.dPuresT [30, 31] [(36, .bool (v_19 != x1.e)), (35, .bool (v_19 != x1.e))] hs (by kernel_rfl) (by repeat' (first | exact Vk.Calm.post | refine Vk.Calm.then ?_ | refine Vk.Calm.inBlock ?_)) hcl (by kernel_rfl) (by kernel_rfl) (fuel := 0) rfl fun a hs => ?_
        replace hs := hs.pick [0, 1, 36] (L' := [(0, .pointer (some ⟨b_x0, 0, none⟩)), (1, .pointer (some ⟨b_x1, 0, none⟩)), (36, .bool (v_19 != x1.e))]) (by kernel_rfl)
        refine Vk.dDone (by kernel_rfl) ?_
        exact hj3 (v_19 != x1.e) hm _ _ (hs.go [0, 1, 36] [0, 1, 2, 3, 4, 5, 6, 7, 8, 9, 10] 11 (by kernel_rfl) (by kernel_rfl) (by kernel_rfl))

end Go.Proofs.Ytjjdlidjlepgeaa
