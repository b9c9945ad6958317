/- Of each Go function that WirePlays comes to: a model in plain Lean, and that the program's call does what the model says; no condition. -/
import Derived.Test.YtjjdlidjlepgeaaProg
import Derived.Test.YtjjdlidjlepgeaaVbcbbhpan
import Derived.Test.YtjjdlidjlepgeaaMWirePlays0
namespace Go.Proofs.Ytjjdlidjlepgeaa
open Go Go.Vk
set_option linter.unusedVariables false


def wire_Machine_Do.j3 (k : Nat) (x1 : Tapi_Op) (p_64 : Int) (p_69 : Twire_Machine) : Option ((Int × Twire_Machine)) := (bif p_69.dry then some (IntKind.i64.wrap ((IntKind.i64.wrap (p_69.base + 1)) - 1), (⟨p_69.n, p_69.most, IntKind.i64.wrap (p_69.base + 1), p_69.words, p_69.draws, p_69.dry, p_69.openF, p_69.fromF, p_69.bad, p_69.tape, p_69.ops, p_69.values, p_69.blocks⟩ : Twire_Machine)) else (wire_Machine_value.m k p_69 x1.a).bind fun v_78 => (wire_Machine_value.m k p_69 x1.b).bind fun v_81 => (wire_Machine_value.m k p_69 x1.d).bind fun v_84 => (op_Eval.m k x1 v_78 v_81 v_84 p_64).bind fun v_87 => (if (p_69.values.length + ([v_87] : List Int).length) * 8 ≤ 140737488355328 then (if (p_69.ops.length + ([x1] : List Tapi_Op).length) * 48 ≤ 140737488355328 then some (IntKind.i64.wrap ((((p_69.ops ++ ([x1] : List Tapi_Op)).length : Nat) : Int) - 1), (⟨p_69.n, p_69.most, p_69.base, p_69.words, p_69.draws, p_69.dry, p_69.openF, p_69.fromF, p_69.bad, p_69.tape, p_69.ops ++ ([x1] : List Tapi_Op), p_69.values ++ ([v_87] : List Int), p_69.blocks⟩ : Twire_Machine)) else none) else none))
def wire_Machine_Do.j2 (k : Nat) (x1 : Tapi_Op) (p_60 : Twire_Machine) (p_64 : Int) : Option ((Int × Twire_Machine)) := (bif x1.kind == 1 then wire_Machine_Do.j3 k x1 p_64 (⟨p_60.n, p_60.most, p_60.base, p_60.words, IntKind.i64.wrap (p_60.draws + 1), p_60.dry, p_60.openF, p_60.fromF, p_60.bad, p_60.tape, p_60.ops, p_60.values, p_60.blocks⟩ : Twire_Machine) else (bif x1.kind == 2 then wire_Machine_Do.j3 k x1 p_64 (⟨p_60.n, p_60.most, p_60.base, IntKind.i64.wrap (p_60.words + 1), p_60.draws, p_60.dry, p_60.openF, p_60.fromF, p_60.bad, p_60.tape, p_60.ops, p_60.values, p_60.blocks⟩ : Twire_Machine) else wire_Machine_Do.j3 k x1 p_64 p_60))
def wire_Machine_Do.j1 (k : Nat) (x0 : Twire_Machine) (x1 : Tapi_Op) (x2 : Int) (p_24 : Bool) : Option ((Int × Twire_Machine)) := (bif p_24 then (wire_Machine_fail.m k x0 3).bind fun v_28 => some (v_28.1, v_28.2) else (bif (x1.kind == 1) && (!x0.dry) then (bif x0.dry then none else (tape_Tape_Draw.m k x0.tape).bind fun v_43 => (bif !v_43.2.1 then (wire_Machine_fail.m k (⟨x0.n, x0.most, x0.base, x0.words, x0.draws, x0.dry, x0.openF, x0.fromF, x0.bad, v_43.2.2, x0.ops, x0.values, x0.blocks⟩ : Twire_Machine) 2).bind fun v_51 => some (v_51.1, v_51.2) else wire_Machine_Do.j2 k x1 (⟨x0.n, x0.most, x0.base, x0.words, x0.draws, x0.dry, x0.openF, x0.fromF, x0.bad, v_43.2.2, x0.ops, x0.values, x0.blocks⟩ : Twire_Machine) v_43.1)) else wire_Machine_Do.j2 k x1 x0 x2))
abbrev wire_Machine_Do.R (κ : Ctx) (S : List HP) (x0 : Twire_Machine) (x1 : Tapi_Op) (x2 : Int) (b_x0 : Nat) (b_x0otape : Nat) (A_x0otapeowords : Option Addr) (c_x0otapeowords : Nat) (A_x0oops : Option Addr) (c_x0oops : Nat) (A_x0ovalues : Option Addr) (c_x0ovalues : Nat) (A_x0oblocks : Option Addr) (c_x0oblocks : Nat) (r : (Int × Twire_Machine)) : Ending → World → Prop := fun e w' => ∃ (A_y0otapeowords : Option Addr), ∃ (c_y0otapeowords : Nat), ∃ (A_y0oops : Option Addr), ∃ (c_y0oops : Nat), ∃ (A_y0ovalues : Option Addr), ∃ (c_y0ovalues : Nat), ∃ (A_y0oblocks : Option Addr), ∃ (c_y0oblocks : Nat), e = .returned (.int .i64 r.1) ∧ Own κ w' (pt b_x0 (blk (Twire_Machine.obj r.2 b_x0otape A_y0oops c_y0oops A_y0ovalues c_y0ovalues A_y0oblocks c_y0oblocks) 151) :: pto r.2.dry b_x0otape (blk (Ttape_Tape.obj r.2.tape A_y0otapeowords c_y0otapeowords) 158) :: rowp A_y0otapeowords c_y0otapeowords 23 1 (eI .u64) r.2.tape.words :: rowp A_y0oops c_y0oops 32 6 Tapi_Op.cells r.2.ops :: rowp A_y0ovalues c_y0ovalues 23 1 (eI .u64) r.2.values :: rowp A_y0oblocks c_y0oblocks 144 3 Tapi_Span.cells r.2.blocks :: S)
def wire_Machine_Do.m (k : Nat) (x0 : Twire_Machine) (x1 : Tapi_Op) (x2 : Int) : Option (Int × Twire_Machine) := (bif x0.bad != 0 then some ((-1), x0) else (wire_Machine_right.m k x0 x1).bind fun v_9 => (bif !v_9 then (wire_Machine_fail.m k x0 1).bind fun v_13 => some (v_13.1, v_13.2) else (bif !x0.dry then wire_Machine_Do.j1 k x0 x1 x2 (decide (((x0.ops.length : Nat) : Int) ≥ x0.most)) else wire_Machine_Do.j1 k x0 x1 x2 false)))

set_option maxRecDepth 100000 in
set_option maxHeartbeats 4000000 in
theorem wire_Machine_Do.ok (k : Nat) (x0 : Twire_Machine) (x1 : Tapi_Op) (x2 : Int) (r : (Int × Twire_Machine)) (hm : wire_Machine_Do.m k x0 x1 x2 = some r) (κ : Ctx) (w : World) (S : List HP) (b_x0 : Nat) (b_x0otape : Nat) (A_x0otapeowords : Option Addr) (c_x0otapeowords : Nat) (A_x0oops : Option Addr) (c_x0oops : Nat) (A_x0ovalues : Option Addr) (c_x0ovalues : Nat) (A_x0oblocks : Option Addr) (c_x0oblocks : Nat) (ho : Own κ w (pt b_x0 (blk (Twire_Machine.obj x0 b_x0otape A_x0oops c_x0oops A_x0ovalues c_x0ovalues A_x0oblocks c_x0oblocks) 151) :: pto x0.dry b_x0otape (blk (Ttape_Tape.obj x0.tape A_x0otapeowords c_x0otapeowords) 158) :: rowp A_x0otapeowords c_x0otapeowords 23 1 (eI .u64) x0.tape.words :: rowp A_x0oops c_x0oops 32 6 Tapi_Op.cells x0.ops :: rowp A_x0ovalues c_x0ovalues 23 1 (eI .u64) x0.values :: rowp A_x0oblocks c_x0oblocks 144 3 Tapi_Span.cells x0.blocks :: S)) :
    Calls Try.prog 60 #[.pointer (some ⟨b_x0, 0, none⟩), .agg (vals [C.int .i64 x1.kind, C.int .i64 x1.dom, C.int .i64 x1.a, C.int .i64 x1.b, C.int .i64 x1.d, C.int .u64 x1.c]), .int .u64 x2] w (wire_Machine_Do.R κ S x0 x1 x2 b_x0 b_x0otape A_x0otapeowords c_x0otapeowords A_x0oops c_x0oops A_x0ovalues c_x0ovalues A_x0oblocks c_x0oblocks r) := by
  unfold wire_Machine_Do.m at hm
  refine Vk.enter [(0, .pointer (some ⟨b_x0, 0, none⟩)), (1, .agg (vals [C.int .i64 x1.kind, C.int .i64 x1.dom, C.int .i64 x1.a, C.int .i64 x1.b, C.int .i64 x1.d, C.int .u64 x1.c])), (2, .int .u64 x2)] Try.func60 rfl Try.ntmps60 (by kernel_rfl) (Nat.le_of_ble_eq_true (by kernel_rfl)) ho fun a hs => ?_
  refine Vk.seq fun K1 hK1 => ?_
  refine Vk.region ?_
  refine Vk.step (Vk.box (x := (.tmp 1)) 4 32 [C.int .i64 x1.kind, C.int .i64 x1.dom, C.int .i64 x1.a, C.int .i64 x1.b, C.int .i64 x1.d, C.int .u64 x1.c] hs (by kernel_rfl) (by kernel_rfl) (by kernel_rfl) fun b_2 w a hs => ?_)
  refine Vk.pures 1 [(6, .int .i64 0)] hs (by kernel_rfl) fun a hs => ?_
  replace hs := hs.pick [0, 2, 4] (L' := [(0, .pointer (some ⟨b_x0, 0, none⟩)), (2, .int .u64 x2), (4, .pointer (some ⟨b_2, 0, none⟩))]) (by kernel_rfl)
  refine Vk.done (by kernel_rfl) ?_
  refine hK1 _ _ ?_
  clear hK1
  refine Vk.seq fun K3 hK3 => ?_
  refine wp_block ?_
  refine Vk.seq fun K4 hK4 => ?_
  refine Vk.region ?_
  refine Vk.pures 6 [(15, .pointer (some ⟨b_x0, 8, none⟩)), (14, .pointer (some ⟨b_x0, 0, none⟩)), (13, .pointer (some ⟨b_x0, 0, none⟩)), (12, .bool false), (11, .bool false), (10, .pointer (some ⟨b_x0, 0, none⟩))] hs (by kernel_rfl) fun a hs => ?_
  refine Vk.step (Vk.value (some 16) (.int .i64 x0.bad) hs (by kernel_rfl) (op := (.load 43 (.tmp 15))) (by kernel_rfl) (fun o ho => run_load1 (b := b_x0) (off := 8) (c := C.int .i64 x0.bad) ho (by kernel_rfl) (by kernel_rfl) (Cell.own 1 rfl (by kernel_rfl)) _ hs.own) fun a hs => ?_)
  refine Vk.pures 3 [(9, .bool (x0.bad != 0)), (18, .bool (x0.bad != 0)), (17, .bool (x0.bad != 0))] hs (by kernel_rfl) fun a hs => ?_
  replace hs := hs.pick [0, 2, 4, 9] (L' := [(0, .pointer (some ⟨b_x0, 0, none⟩)), (2, .int .u64 x2), (4, .pointer (some ⟨b_2, 0, none⟩)), (9, .bool (x0.bad != 0))]) (by kernel_rfl)
  refine Vk.done (by kernel_rfl) ?_
  refine hK4 _ _ ?_
  clear hK4
  refine Vk.condS (b := x0.bad != 0) hs (by kernel_rfl) (by kernel_rfl) (fun hb => ?_) (fun hb => ?_)
  · replace hm := bif_t hm hb
    refine Vk.seq fun K5 hK5 => ?_
    refine Vk.region ?_
    refine Vk.pures 1 [(6, .int .i64 (-1))] hs (by kernel_rfl) fun a hs => ?_
    replace hs := hs.pick [6] (L' := [(6, .int .i64 (-1))]) (by kernel_rfl)
    refine Vk.done (by kernel_rfl) ?_
    refine hK5 _ _ ?_
    clear hK5
    refine wp_ret ?_
    exact Vk.ret1 (P := Try.prog) (fn := Try.f60) (R := wire_Machine_Do.R κ S x0 x1 x2 b_x0 b_x0otape A_x0otapeowords c_x0otapeowords A_x0oops c_x0oops A_x0ovalues c_x0ovalues A_x0oblocks c_x0oblocks r) (.int .i64 (-1)) hs rfl (by kernel_rfl) (by obtain rfl := Option.some.inj hm; exact ⟨A_x0otapeowords, c_x0otapeowords, A_x0oops, c_x0oops, A_x0ovalues, c_x0ovalues, A_x0oblocks, c_x0oblocks, rfl, (Own.to hs.own [1, 2, 3, 4, 5, 6] 7 (by kernel_rfl) (by kernel_rfl))⟩)
  · replace hm := bif_f hm hb
    refine Vk.seq fun K6 hK6 => ?_
    refine Vk.region ?_
    refine Vk.pures 1 [(20, .pointer (some ⟨b_x0, 0, none⟩))] hs (by kernel_rfl) fun a hs => ?_
    refine Vk.step (Vk.value (some 21) (.agg (vals [C.int .i64 x1.kind, C.int .i64 x1.dom, C.int .i64 x1.a, C.int .i64 x1.b, C.int .i64 x1.d, C.int .u64 x1.c])) hs (by kernel_rfl) (op := (.load 32 (.tmp 4))) (by kernel_rfl) (fun o ho => run_loadN (cs := [C.int .i64 x1.kind, C.int .i64 x1.dom, C.int .i64 x1.a, C.int .i64 x1.b, C.int .i64 x1.d, C.int .u64 x1.c]) ho (by kernel_rfl) (by kernel_rfl) rfl (CellsAt.all 0 rfl) _ hs.own) fun a hs => ?_)
    obtain ⟨v_9, h_8, hm⟩ := bind_t hm
    refine Vk.step (Vk.call (some 22) 93 #[.pointer (some ⟨b_x0, 0, none⟩), .agg (vals [C.int .i64 x1.kind, C.int .i64 x1.dom, C.int .i64 x1.a, C.int .i64 x1.b, C.int .i64 x1.d, C.int .u64 x1.c])] hs (by kernel_rfl) (by kernel_rfl) (by kernel_rfl) ?_)
    refine (wire_Machine_right.ok k x0 x1 v_9 h_8 κ w (pt b_2 (blk (Tapi_Op.cells x1) 32) :: S) b_x0 b_x0otape A_x0otapeowords c_x0otapeowords A_x0oops c_x0oops A_x0ovalues c_x0ovalues A_x0oblocks c_x0oblocks (Own.to hs.own [1, 2, 3, 4, 5, 6, 0] 7 (by kernel_rfl) (by kernel_rfl))).mono ?_
    rintro _ w ⟨rfl, how⟩
    refine ⟨_, _, _, rfl, how, fun a hs => ?_⟩
    refine Vk.pures 2 [(19, .bool (!v_9)), (23, .bool (!v_9))] hs (by kernel_rfl) fun a hs => ?_
    replace hs := hs.pick [0, 2, 4, 19] (L' := [(0, .pointer (some ⟨b_x0, 0, none⟩)), (2, .int .u64 x2), (4, .pointer (some ⟨b_2, 0, none⟩)), (19, .bool (!v_9))]) (by kernel_rfl)
    refine Vk.done (by kernel_rfl) ?_
    refine hK6 _ _ ?_
    clear hK6
    refine Vk.condS (b := !v_9) hs (by kernel_rfl) (by kernel_rfl) (fun hb => ?_) (fun hb => ?_)
    · replace hm := bif_t hm hb
      refine Vk.seq fun K10 hK10 => ?_
      refine Vk.region ?_
      refine Vk.pures 1 [(24, .pointer (some ⟨b_x0, 0, none⟩))] hs (by kernel_rfl) fun a hs => ?_
      obtain ⟨v_13, h_12, hm⟩ := bind_t hm
      refine Vk.step (Vk.call (some 25) 94 #[.pointer (some ⟨b_x0, 0, none⟩), .int .i64 1] hs (by kernel_rfl) (by kernel_rfl) (by kernel_rfl) ?_)
      refine (wire_Machine_fail.ok k x0 1 v_13 h_12 κ w (pt b_2 (blk (Tapi_Op.cells x1) 32) :: S) b_x0 b_x0otape A_x0otapeowords c_x0otapeowords A_x0oops c_x0oops A_x0ovalues c_x0ovalues A_x0oblocks c_x0oblocks (Own.to hs.own [0, 1, 2, 3, 4, 5, 6] 7 (by kernel_rfl) (by kernel_rfl))).mono ?_
      rintro _ w ⟨Ar11o0otapeowords_14, cr11o0otapeowords_15, Ar11o0oops_16, cr11o0oops_17, Ar11o0ovalues_18, cr11o0ovalues_19, Ar11o0oblocks_20, cr11o0oblocks_21, rfl, how⟩
      refine ⟨_, _, _, rfl, how, fun a hs => ?_⟩
      refine Vk.pures 1 [(6, .int .i64 v_13.1)] hs (by kernel_rfl) fun a hs => ?_
      replace hs := hs.pick [6] (L' := [(6, .int .i64 v_13.1)]) (by kernel_rfl)
      refine Vk.done (by kernel_rfl) ?_
      refine hK10 _ _ ?_
      clear hK10
      refine wp_ret ?_
      exact Vk.ret1 (P := Try.prog) (fn := Try.f60) (R := wire_Machine_Do.R κ S x0 x1 x2 b_x0 b_x0otape A_x0otapeowords c_x0otapeowords A_x0oops c_x0oops A_x0ovalues c_x0ovalues A_x0oblocks c_x0oblocks r) (.int .i64 v_13.1) hs rfl (by kernel_rfl) (by obtain rfl := Option.some.inj hm; exact ⟨Ar11o0otapeowords_14, cr11o0otapeowords_15, Ar11o0oops_16, cr11o0oops_17, Ar11o0ovalues_18, cr11o0ovalues_19, Ar11o0oblocks_20, cr11o0oblocks_21, rfl, (Own.to hs.own [0, 1, 2, 3, 4, 5] 7 (by kernel_rfl) (by kernel_rfl))⟩)
    · replace hm := bif_f hm hb
      refine Vk.seq fun K22 hK22 => ?_
      have hj22 : ∀ (p_24 : Bool), wire_Machine_Do.j1 k x0 x1 x2 p_24 = some r → ∀ (a : Act) (w : World), St 145 a w κ [(0, .pointer (some ⟨b_x0, 0, none⟩)), (2, .int .u64 x2), (4, .pointer (some ⟨b_2, 0, none⟩)), (26, .bool p_24)] (pt b_x0 (blk (Twire_Machine.obj x0 b_x0otape A_x0oops c_x0oops A_x0ovalues c_x0ovalues A_x0oblocks c_x0oblocks) 151) :: pto x0.dry b_x0otape (blk (Ttape_Tape.obj x0.tape A_x0otapeowords c_x0otapeowords) 158) :: rowp A_x0otapeowords c_x0otapeowords 23 1 (eI .u64) x0.tape.words :: rowp A_x0oops c_x0oops 32 6 Tapi_Op.cells x0.ops :: rowp A_x0ovalues c_x0ovalues 23 1 (eI .u64) x0.values :: rowp A_x0oblocks c_x0oblocks 144 3 Tapi_Span.cells x0.blocks :: pt b_2 (blk (Tapi_Op.cells x1) 32) :: S) → K22 a w := by
        intro p_24 hm a w hs
        unfold wire_Machine_Do.j1 at hm
        refine hK22 _ _ ?_
        refine Vk.condS (b := p_24) hs (by kernel_rfl) (by kernel_rfl) (fun hb => ?_) (fun hb => ?_)
        · replace hm := bif_t hm hb
          refine Vk.seq fun K25 hK25 => ?_
          refine Vk.region ?_
          refine Vk.pures 1 [(44, .pointer (some ⟨b_x0, 0, none⟩))] hs (by kernel_rfl) fun a hs => ?_
          obtain ⟨v_28, h_27, hm⟩ := bind_t hm
          refine Vk.step (Vk.call (some 45) 94 #[.pointer (some ⟨b_x0, 0, none⟩), .int .i64 3] hs (by kernel_rfl) (by kernel_rfl) (by kernel_rfl) ?_)
          refine (wire_Machine_fail.ok k x0 3 v_28 h_27 κ w (pt b_2 (blk (Tapi_Op.cells x1) 32) :: S) b_x0 b_x0otape A_x0otapeowords c_x0otapeowords A_x0oops c_x0oops A_x0ovalues c_x0ovalues A_x0oblocks c_x0oblocks (Own.to hs.own [0, 1, 2, 3, 4, 5, 6] 7 (by kernel_rfl) (by kernel_rfl))).mono ?_
          rintro _ w ⟨Ar26o0otapeowords_29, cr26o0otapeowords_30, Ar26o0oops_31, cr26o0oops_32, Ar26o0ovalues_33, cr26o0ovalues_34, Ar26o0oblocks_35, cr26o0oblocks_36, rfl, how⟩
          refine ⟨_, _, _, rfl, how, fun a hs => ?_⟩
          refine Vk.pures 1 [(6, .int .i64 v_28.1)] hs (by kernel_rfl) fun a hs => ?_
          replace hs := hs.pick [6] (L' := [(6, .int .i64 v_28.1)]) (by kernel_rfl)
          refine Vk.done (by kernel_rfl) ?_
          refine hK25 _ _ ?_
          clear hK25
          refine wp_ret ?_
          exact Vk.ret1 (P := Try.prog) (fn := Try.f60) (R := wire_Machine_Do.R κ S x0 x1 x2 b_x0 b_x0otape A_x0otapeowords c_x0otapeowords A_x0oops c_x0oops A_x0ovalues c_x0ovalues A_x0oblocks c_x0oblocks r) (.int .i64 v_28.1) hs rfl (by kernel_rfl) (by obtain rfl := Option.some.inj hm; exact ⟨Ar26o0otapeowords_29, cr26o0otapeowords_30, Ar26o0oops_31, cr26o0oops_32, Ar26o0ovalues_33, cr26o0ovalues_34, Ar26o0oblocks_35, cr26o0oblocks_36, rfl, (Own.to hs.own [0, 1, 2, 3, 4, 5] 7 (by kernel_rfl) (by kernel_rfl))⟩)
        · replace hm := bif_f hm hb
          refine wp_skip ?_
          refine hK3 _ _ ?_
          clear hK3
          refine Vk.seq fun K37 hK37 => ?_
          have hj37 : ∀ (p_60 : Twire_Machine) (p_64 : Int), wire_Machine_Do.j2 k x1 p_60 p_64 = some r → ∀ (A_61 : Option Addr) (c_62 : Nat) (a : Act) (w : World), St 145 a w κ [(0, .pointer (some ⟨b_x0, 0, none⟩)), (2, .int .u64 p_64), (4, .pointer (some ⟨b_2, 0, none⟩))] (pt b_x0 (blk (Twire_Machine.obj p_60 b_x0otape A_x0oops c_x0oops A_x0ovalues c_x0ovalues A_x0oblocks c_x0oblocks) 151) :: pto p_60.dry b_x0otape (blk (Ttape_Tape.obj p_60.tape A_61 c_62) 158) :: rowp A_61 c_62 23 1 (eI .u64) p_60.tape.words :: rowp A_x0oops c_x0oops 32 6 Tapi_Op.cells p_60.ops :: rowp A_x0ovalues c_x0ovalues 23 1 (eI .u64) p_60.values :: rowp A_x0oblocks c_x0oblocks 144 3 Tapi_Span.cells p_60.blocks :: pt b_2 (blk (Tapi_Op.cells x1) 32) :: S) → K37 a w := by
            intro p_60 p_64 hm A_61 c_62 a w hs
            unfold wire_Machine_Do.j2 at hm
            refine hK37 _ _ ?_
            refine Vk.seq fun K65 hK65 => ?_
            have hj65 : ∀ (p_69 : Twire_Machine), wire_Machine_Do.j3 k x1 p_64 p_69 = some r → ∀ (a : Act) (w : World), St 145 a w κ [(0, .pointer (some ⟨b_x0, 0, none⟩)), (2, .int .u64 p_64), (4, .pointer (some ⟨b_2, 0, none⟩))] (pt b_x0 (blk (Twire_Machine.obj p_69 b_x0otape A_x0oops c_x0oops A_x0ovalues c_x0ovalues A_x0oblocks c_x0oblocks) 151) :: pto p_69.dry b_x0otape (blk (Ttape_Tape.obj p_69.tape A_61 c_62) 158) :: rowp A_61 c_62 23 1 (eI .u64) p_69.tape.words :: rowp A_x0oops c_x0oops 32 6 Tapi_Op.cells p_69.ops :: rowp A_x0ovalues c_x0ovalues 23 1 (eI .u64) p_69.values :: rowp A_x0oblocks c_x0oblocks 144 3 Tapi_Span.cells p_69.blocks :: pt b_2 (blk (Tapi_Op.cells x1) 32) :: S) → K65 a w := by
              intro p_69 hm a w hs
              unfold wire_Machine_Do.j3 at hm
              refine hK65 _ _ ?_
              refine Vk.seq fun K70 hK70 => ?_
              refine Vk.seq fun K71 hK71 => ?_
              refine Vk.region ?_
              refine Vk.pures 3 [(91, .pointer (some ⟨b_x0, 5, none⟩)), (90, .pointer (some ⟨b_x0, 0, none⟩)), (89, .pointer (some ⟨b_x0, 0, none⟩))] hs (by kernel_rfl) fun a hs => ?_
              refine Vk.step (Vk.value (some 92) (.bool p_69.dry) hs (by kernel_rfl) (op := (.load 4 (.tmp 91))) (by kernel_rfl) (fun o ho => run_load1 (b := b_x0) (off := 5) (c := C.bool p_69.dry) ho (by kernel_rfl) (by kernel_rfl) (Cell.own 0 rfl (by kernel_rfl)) _ hs.own) fun a hs => ?_)
              replace hs := hs.pick [0, 2, 4, 92] (L' := [(0, .pointer (some ⟨b_x0, 0, none⟩)), (2, .int .u64 p_64), (4, .pointer (some ⟨b_2, 0, none⟩)), (92, .bool p_69.dry)]) (by kernel_rfl)
              refine Vk.done (by kernel_rfl) ?_
              refine hK71 _ _ ?_
              clear hK71
              refine Vk.condS (b := p_69.dry) hs (by kernel_rfl) (by kernel_rfl) (fun hb => ?_) (fun hb => ?_)
              · replace hm := bif_t hm hb
                refine Vk.seq fun K72 hK72 => ?_
                refine Vk.region ?_
                refine Vk.pures 3 [(95, .pointer (some ⟨b_x0, 2, none⟩)), (94, .pointer (some ⟨b_x0, 0, none⟩)), (93, .pointer (some ⟨b_x0, 0, none⟩))] hs (by kernel_rfl) fun a hs => ?_
                refine Vk.step (Vk.value (some 96) (.int .i64 p_69.base) hs (by kernel_rfl) (op := (.load 3 (.tmp 95))) (by kernel_rfl) (fun o ho => run_load1 (b := b_x0) (off := 2) (c := C.int .i64 p_69.base) ho (by kernel_rfl) (by kernel_rfl) (Cell.own 0 rfl (by kernel_rfl)) _ hs.own) fun a hs => ?_)
                refine Vk.pures 3 [(99, .pointer (some ⟨b_x0, 2, none⟩)), (98, .pointer (some ⟨b_x0, 0, none⟩)), (97, .int .i64 (IntKind.i64.wrap (p_69.base + 1)))] hs (by kernel_rfl) fun a hs => ?_
                refine Vk.step (Vk.store1 (b := b_x0) (ty := 3) (x := (.tmp 99)) (y := (.tmp 97)) (off := 2) (C.int .i64 (IntKind.i64.wrap (p_69.base + 1))) 0 hs (by kernel_rfl) (by kernel_rfl) (by kernel_rfl) (by kernel_rfl) (by kernel_rfl) (by kernel_rfl) rfl (Nat.le_of_ble_eq_true (by kernel_rfl)) fun a w hs => ?_)
                replace hs := hs.pick [0] (L' := [(0, .pointer (some ⟨b_x0, 0, none⟩))]) (by kernel_rfl)
                refine Vk.done (by kernel_rfl) ?_
                refine hK72 _ _ ?_
                clear hK72
                refine Vk.seq fun K73 hK73 => ?_
                refine Vk.region ?_
                refine Vk.pures 3 [(102, .pointer (some ⟨b_x0, 2, none⟩)), (101, .pointer (some ⟨b_x0, 0, none⟩)), (100, .pointer (some ⟨b_x0, 0, none⟩))] hs (by kernel_rfl) fun a hs => ?_
                refine Vk.step (Vk.value (some 103) (.int .i64 (IntKind.i64.wrap (p_69.base + 1))) hs (by kernel_rfl) (op := (.load 3 (.tmp 102))) (by kernel_rfl) (fun o ho => run_load1 (b := b_x0) (off := 2) (c := C.int .i64 (IntKind.i64.wrap (p_69.base + 1))) ho (by kernel_rfl) (by kernel_rfl) (Cell.own 0 rfl (by kernel_rfl)) _ hs.own) fun a hs => ?_)
                refine Vk.pures 2 [(6, .int .i64 (IntKind.i64.wrap ((IntKind.i64.wrap (p_69.base + 1)) - 1))), (104, .int .i64 (IntKind.i64.wrap ((IntKind.i64.wrap (p_69.base + 1)) - 1)))] hs (by kernel_rfl) fun a hs => ?_
                replace hs := hs.pick [6] (L' := [(6, .int .i64 (IntKind.i64.wrap ((IntKind.i64.wrap (p_69.base + 1)) - 1)))]) (by kernel_rfl)
                refine Vk.done (by kernel_rfl) ?_
                refine hK73 _ _ ?_
                clear hK73
                refine wp_ret ?_
                exact Vk.ret1 (P := Try.prog) (fn := Try.f60) (R := wire_Machine_Do.R κ S x0 x1 x2 b_x0 b_x0otape A_x0otapeowords c_x0otapeowords A_x0oops c_x0oops A_x0ovalues c_x0ovalues A_x0oblocks c_x0oblocks r) (.int .i64 (IntKind.i64.wrap ((IntKind.i64.wrap (p_69.base + 1)) - 1))) hs rfl (by kernel_rfl) (by obtain rfl := Option.some.inj hm; exact ⟨A_61, c_62, A_x0oops, c_x0oops, A_x0ovalues, c_x0ovalues, A_x0oblocks, c_x0oblocks, rfl, (Own.to hs.own [0, 1, 2, 3, 4, 5] 7 (by kernel_rfl) (by kernel_rfl))⟩)
              · replace hm := bif_f hm hb
                refine wp_skip ?_
                refine hK70 _ _ ?_
                clear hK70
                refine Vk.seq fun K74 hK74 => ?_
                obtain ⟨C_75, hC_75⟩ : ∃ X0 : List HP, X0 = (pt b_x0 (blk (Twire_Machine.obj p_69 b_x0otape A_x0oops c_x0oops A_x0ovalues c_x0ovalues A_x0oblocks c_x0oblocks) 151) :: pto p_69.dry b_x0otape (blk (Ttape_Tape.obj p_69.tape A_61 c_62) 158) :: rowp A_61 c_62 23 1 (eI .u64) p_69.tape.words :: rowp A_x0oops c_x0oops 32 6 Tapi_Op.cells p_69.ops :: rowp A_x0oblocks c_x0oblocks 144 3 Tapi_Span.cells p_69.blocks :: pt b_2 (blk (Tapi_Op.cells x1) 32) :: S) := ⟨_, rfl⟩
                refine Vk.drawnT 22 κ C_75 hs (by kernel_rfl) fun w hs => ?_
                have hcz : Own κ w (pt b_x0 (blk (Twire_Machine.obj p_69 b_x0otape A_x0oops c_x0oops A_x0ovalues c_x0ovalues A_x0oblocks c_x0oblocks) 151) :: pto p_69.dry b_x0otape (blk (Ttape_Tape.obj p_69.tape A_61 c_62) 158) :: rowp A_61 c_62 23 1 (eI .u64) p_69.tape.words :: rowp A_x0oops c_x0oops 32 6 Tapi_Op.cells p_69.ops :: rowp A_x0oblocks c_x0oblocks 144 3 Tapi_Span.cells p_69.blocks :: pt b_2 (blk (Tapi_Op.cells x1) 32) :: S) := (Own.to hs.own [0, 1, 2, 3, 5, 6] 7 (by kernel_rfl) (by kernel_rfl))
                have hcl : Own κ w C_75 := by rw [hC_75]; exact hcz
                refine Vk.dPuresT [0, 1, 2, 3, 6, 7, 10, 11, 14, 15, 18] [(123, .int .u64 p_64), (120, .pointer (some ⟨b_2, 4, none⟩)), (119, .pointer (some ⟨b_x0, 0, none⟩)), (116, .pointer (some ⟨b_2, 3, none⟩)), (115, .pointer (some ⟨b_x0, 0, none⟩)), (112, .pointer (some ⟨b_2, 2, none⟩)), (111, .pointer (some ⟨b_x0, 0, none⟩)), (108, .pointer (some ⟨b_x0, 11, none⟩)), (107, .pointer (some ⟨b_x0, 0, none⟩)), (106, .pointer (some ⟨b_x0, 0, none⟩)), (105, .pointer (some ⟨b_x0, 0, none⟩))] hs (by kernel_rfl) (by repeat' (first | exact Vk.Calm.post | refine Vk.Calm.then ?_ | refine Vk.Calm.inBlock ?_)) hcl (by kernel_rfl) (by kernel_rfl) (fuel := 14) rfl fun a hs => ?_
                refine Vk.dTakeT (i := 4) (some 109) (.slice A_x0ovalues p_69.values.length c_x0ovalues) hs (by kernel_rfl) (by repeat' (first | exact Vk.Calm.post | refine Vk.Calm.then ?_ | refine Vk.Calm.inBlock ?_)) hcl (by kernel_rfl) (by kernel_rfl) (op := (.load 73 (.tmp 108))) (by kernel_rfl) (by kernel_rfl) (fun w hw o ho => by rw [hC_75] at hw; exact run_load1 (b := b_x0) (off := 11) (c := C.slc A_x0ovalues p_69.values.length c_x0ovalues) ho (by kernel_rfl) (by kernel_rfl) (Cell.own 0 rfl (by kernel_rfl)) _ hw) fun a hs => ?_
                refine Vk.dTakeT (i := 5) (some 110) (.agg (vals [C.int .i64 x1.kind, C.int .i64 x1.dom, C.int .i64 x1.a, C.int .i64 x1.b, C.int .i64 x1.d, C.int .u64 x1.c])) hs (by kernel_rfl) (by repeat' (first | exact Vk.Calm.post | refine Vk.Calm.then ?_ | refine Vk.Calm.inBlock ?_)) hcl (by kernel_rfl) (by kernel_rfl) (op := (.load 32 (.tmp 4))) (by kernel_rfl) (by kernel_rfl) (fun w hw o ho => by rw [hC_75] at hw; exact run_loadN (cs := [C.int .i64 x1.kind, C.int .i64 x1.dom, C.int .i64 x1.a, C.int .i64 x1.b, C.int .i64 x1.d, C.int .u64 x1.c]) ho (by kernel_rfl) (by kernel_rfl) rfl (CellsAt.all 5 rfl) _ hw) fun a hs => ?_
                refine Vk.dTakeT (i := 8) (some 113) (.int .i64 x1.a) hs (by kernel_rfl) (by repeat' (first | exact Vk.Calm.post | refine Vk.Calm.then ?_ | refine Vk.Calm.inBlock ?_)) hcl (by kernel_rfl) (by kernel_rfl) (op := (.load 3 (.tmp 112))) (by kernel_rfl) (by kernel_rfl) (fun w hw o ho => by rw [hC_75] at hw; exact run_load1 (b := b_2) (off := 2) (c := C.int .i64 x1.a) ho (by kernel_rfl) (by kernel_rfl) (Cell.own 5 rfl (by kernel_rfl)) _ hw) fun a hs => ?_
                refine Vk.dTakeT (i := 12) (some 117) (.int .i64 x1.b) hs (by kernel_rfl) (by repeat' (first | exact Vk.Calm.post | refine Vk.Calm.then ?_ | refine Vk.Calm.inBlock ?_)) hcl (by kernel_rfl) (by kernel_rfl) (op := (.load 3 (.tmp 116))) (by kernel_rfl) (by kernel_rfl) (fun w hw o ho => by rw [hC_75] at hw; exact run_load1 (b := b_2) (off := 3) (c := C.int .i64 x1.b) ho (by kernel_rfl) (by kernel_rfl) (Cell.own 5 rfl (by kernel_rfl)) _ hw) fun a hs => ?_
                refine Vk.dTakeT (i := 16) (some 121) (.int .i64 x1.d) hs (by kernel_rfl) (by repeat' (first | exact Vk.Calm.post | refine Vk.Calm.then ?_ | refine Vk.Calm.inBlock ?_)) hcl (by kernel_rfl) (by kernel_rfl) (op := (.load 3 (.tmp 120))) (by kernel_rfl) (by kernel_rfl) (fun w hw o ho => by rw [hC_75] at hw; exact run_load1 (b := b_2) (off := 4) (c := C.int .i64 x1.d) ho (by kernel_rfl) (by kernel_rfl) (Cell.own 5 rfl (by kernel_rfl)) _ hw) fun a hs => ?_
                obtain ⟨v_78, h_77, hm⟩ := bind_t hm
                refine Vk.dOnly (i := 9) (by kernel_rfl) (Vk.call (some 114) 96 #[.pointer (some ⟨b_x0, 0, none⟩), .int .i64 x1.a] hs (by kernel_rfl) (by kernel_rfl) (by kernel_rfl) ?_)
                refine (wire_Machine_value.ok k p_69 x1.a v_78 h_77 κ w (pt b_2 (blk (Tapi_Op.cells x1) 32) :: S) b_x0 b_x0otape A_61 c_62 A_x0oops c_x0oops A_x0ovalues c_x0ovalues A_x0oblocks c_x0oblocks (Own.to hs.own [0, 1, 2, 3, 4, 5, 6] 7 (by kernel_rfl) (by kernel_rfl))).mono ?_
                rintro _ w ⟨rfl, how⟩
                refine ⟨_, _, _, rfl, how, fun a hs => ?_⟩
                replace hcl : Own κ w C_75 := by rw [hC_75]; exact (Own.to hs.own [0, 1, 2, 3, 5, 6] 7 (by kernel_rfl) (by kernel_rfl))
                refine ⟨fun _ => hcl, ?_⟩
                obtain ⟨v_81, h_80, hm⟩ := bind_t hm
                refine Vk.dOnly (i := 13) (by kernel_rfl) (Vk.call (some 118) 96 #[.pointer (some ⟨b_x0, 0, none⟩), .int .i64 x1.b] hs (by kernel_rfl) (by kernel_rfl) (by kernel_rfl) ?_)
                refine (wire_Machine_value.ok k p_69 x1.b v_81 h_80 κ w (pt b_2 (blk (Tapi_Op.cells x1) 32) :: S) b_x0 b_x0otape A_61 c_62 A_x0oops c_x0oops A_x0ovalues c_x0ovalues A_x0oblocks c_x0oblocks (Own.to hs.own [0, 1, 2, 3, 4, 5, 6] 7 (by kernel_rfl) (by kernel_rfl))).mono ?_
                rintro _ w ⟨rfl, how⟩
                refine ⟨_, _, _, rfl, how, fun a hs => ?_⟩
                replace hcl : Own κ w C_75 := by rw [hC_75]; exact (Own.to hs.own [0, 1, 2, 3, 5, 6] 7 (by kernel_rfl) (by kernel_rfl))
                refine ⟨fun _ => hcl, ?_⟩
                obtain ⟨v_84, h_83, hm⟩ := bind_t hm
                refine Vk.dOnly (i := 17) (by kernel_rfl) (Vk.call (some 122) 96 #[.pointer (some ⟨b_x0, 0, none⟩), .int .i64 x1.d] hs (by kernel_rfl) (by kernel_rfl) (by kernel_rfl) ?_)
                refine (wire_Machine_value.ok k p_69 x1.d v_84 h_83 κ w (pt b_2 (blk (Tapi_Op.cells x1) 32) :: S) b_x0 b_x0otape A_61 c_62 A_x0oops c_x0oops A_x0ovalues c_x0ovalues A_x0oblocks c_x0oblocks (Own.to hs.own [0, 1, 2, 3, 4, 5, 6] 7 (by kernel_rfl) (by kernel_rfl))).mono ?_
                rintro _ w ⟨rfl, how⟩
                refine ⟨_, _, _, rfl, how, fun a hs => ?_⟩
                replace hcl : Own κ w C_75 := by rw [hC_75]; exact (Own.to hs.own [0, 1, 2, 3, 5, 6] 7 (by kernel_rfl) (by kernel_rfl))
                refine ⟨fun _ => hcl, ?_⟩
                obtain ⟨v_87, h_86, hm⟩ := bind_t hm
                refine Vk.dOnly (i := 19) (by kernel_rfl) (Vk.call (some 124) 21 #[.agg (vals [C.int .i64 x1.kind, C.int .i64 x1.dom, C.int .i64 x1.a, C.int .i64 x1.b, C.int .i64 x1.d, C.int .u64 x1.c]), .int .u64 v_78, .int .u64 v_81, .int .u64 v_84, .int .u64 p_64] hs (by kernel_rfl) (by kernel_rfl) (by kernel_rfl) ?_)
                refine (op_Eval.ok k x1 v_78 v_81 v_84 p_64 v_87 h_86 κ w (pt b_x0 (blk (Twire_Machine.obj p_69 b_x0otape A_x0oops c_x0oops A_x0ovalues c_x0ovalues A_x0oblocks c_x0oblocks) 151) :: pto p_69.dry b_x0otape (blk (Ttape_Tape.obj p_69.tape A_61 c_62) 158) :: rowp A_61 c_62 23 1 (eI .u64) p_69.tape.words :: rowp A_x0oops c_x0oops 32 6 Tapi_Op.cells p_69.ops :: rowp A_x0ovalues c_x0ovalues 23 1 (eI .u64) p_69.values :: rowp A_x0oblocks c_x0oblocks 144 3 Tapi_Span.cells p_69.blocks :: pt b_2 (blk (Tapi_Op.cells x1) 32) :: S) hs.own).mono ?_
                rintro _ w ⟨rfl, how⟩
                refine ⟨_, _, _, rfl, how, fun a hs => ?_⟩
                replace hcl : Own κ w C_75 := by rw [hC_75]; exact (Own.to hs.own [0, 1, 2, 3, 5, 6] 7 (by kernel_rfl) (by kernel_rfl))
                refine ⟨fun _ => hcl, ?_⟩
                refine Vk.dOnly (i := 20) (by kernel_rfl) (Vk.buildOp (sz := 1) (by_ := 8) (t := 73) (e := 23) (parts := #[(0, (.tmp 124))]) (zs := vals [C.int .u64 0]) ([v_87] : List Int) (eI .u64) (some 125) hs (by kernel_rfl) (by kernel_rfl) (by kernel_rfl) (by kernel_rfl) (by decide) rfl (fun x _ => rfl) (Nat.le_of_ble_eq_true (by kernel_rfl)) (by kernel_rfl) fun A_88 w a hs => ?_)
                replace hcl : Own κ w C_75 := by rw [hC_75]; exact (Own.to hs.own [1, 2, 3, 4, 6, 7] 8 (by kernel_rfl) (by kernel_rfl))
                refine ⟨fun _ => hcl, ?_⟩
                obtain ⟨h_90, hm⟩ := ite_t hm
                refine Vk.dOnly (i := 21) (by kernel_rfl) (Vk.appendOp (x := (.tmp 109)) (y := (.tmp 125)) (e := 23) (t := 73) (by_ := 8) (sz := 1) (enc := (eI .u64)) (A := A_x0ovalues) (cap := c_x0ovalues) (xs := p_69.values) (ys := ([v_87] : List Int)) (B := A_88) (c2 := 1) 5 (some 126) hs (by kernel_rfl) (by kernel_rfl) (by kernel_rfl) (by kernel_rfl) rfl (Sl.lift (fun w ho => (Own.to (S' := rowp A_88 1 23 1 (eI .u64) ([v_87] : List Int) :: S) ho [0] 8 (by kernel_rfl) (by kernel_rfl))) (Own.rowSl 0 (Own.to (S' := rowp A_88 1 23 1 (eI .u64) ([v_87] : List Int) :: S) hs.own [0] 8 (by kernel_rfl) (by kernel_rfl)) rfl)) (by kernel_rfl) (by kernel_rfl) (by decide) (by decide) h_90 fun A_91 c_92 w a hs => ?_)
                replace hcl : Own κ w C_75 := by rw [hC_75]; exact (Own.to hs.own [1, 2, 3, 4, 6, 7] 8 (by kernel_rfl) (by kernel_rfl))
                refine ⟨fun _ => hcl, ?_⟩
                refine Vk.dOnly (i := 22) (by kernel_rfl) (Vk.dPure1 [(127, .pointer (some ⟨b_x0, 0, none⟩))] hs (by kernel_rfl) fun a hs => ?_)
                refine ⟨fun h => absurd h (by decide), ?_⟩
                refine Vk.dOnly (i := 23) (by kernel_rfl) (Vk.dPure1 [(128, .pointer (some ⟨b_x0, 11, none⟩))] hs (by kernel_rfl) fun a hs => ?_)
                refine ⟨fun h => absurd h (by decide), ?_⟩
                refine Vk.dOnly (i := 24) (by kernel_rfl) (Vk.store1 (b := b_x0) (ty := 73) (x := (.tmp 128)) (y := (.tmp 126)) (off := 11) (C.slc A_91 ((p_69.values ++ ([v_87] : List Int)).length) c_92) 1 hs (by kernel_rfl) (by kernel_rfl) (by kernel_rfl) (by kernel_rfl) (by kernel_rfl) (by kernel_rfl) rfl (Nat.le_of_ble_eq_true (by kernel_rfl)) fun a w hs => ?_)
                refine ⟨fun h => absurd h (by decide), ?_⟩
                replace hs := hs.pick [0, 4] (L' := [(0, .pointer (some ⟨b_x0, 0, none⟩)), (4, .pointer (some ⟨b_2, 0, none⟩))]) (by kernel_rfl)
                refine Vk.dDone (by kernel_rfl) ?_
                refine hK74 _ _ ?_
                clear hK74
                refine Vk.seq fun K93 hK93 => ?_
                obtain ⟨C_94, hC_94⟩ : ∃ X0 : List HP, X0 = (rowp A_88 1 23 1 (eI .u64) ([v_87] : List Int) :: pt b_x0 (blk ((Twire_Machine.obj p_69 b_x0otape A_x0oops c_x0oops none 0 A_x0oblocks c_x0oblocks).set 11 (C.slc A_91 ((p_69.values ++ ([v_87] : List Int)).length) c_92)) 151) :: pto p_69.dry b_x0otape (blk (Ttape_Tape.obj p_69.tape A_61 c_62) 158) :: rowp A_61 c_62 23 1 (eI .u64) p_69.tape.words :: rowp A_91 c_92 23 1 (eI .u64) (p_69.values ++ ([v_87] : List Int)) :: rowp A_x0oblocks c_x0oblocks 144 3 Tapi_Span.cells p_69.blocks :: pt b_2 (blk (Tapi_Op.cells x1) 32) :: S) := ⟨_, rfl⟩
                refine Vk.drawnT 8 κ C_94 hs (by kernel_rfl) fun w hs => ?_
                have hcz : Own κ w (rowp A_88 1 23 1 (eI .u64) ([v_87] : List Int) :: pt b_x0 (blk ((Twire_Machine.obj p_69 b_x0otape A_x0oops c_x0oops none 0 A_x0oblocks c_x0oblocks).set 11 (C.slc A_91 ((p_69.values ++ ([v_87] : List Int)).length) c_92)) 151) :: pto p_69.dry b_x0otape (blk (Ttape_Tape.obj p_69.tape A_61 c_62) 158) :: rowp A_61 c_62 23 1 (eI .u64) p_69.tape.words :: rowp A_91 c_92 23 1 (eI .u64) (p_69.values ++ ([v_87] : List Int)) :: rowp A_x0oblocks c_x0oblocks 144 3 Tapi_Span.cells p_69.blocks :: pt b_2 (blk (Tapi_Op.cells x1) 32) :: S) := (Own.to hs.own [0, 1, 2, 3, 5, 6, 7] 8 (by kernel_rfl) (by kernel_rfl))
                have hcl : Own κ w C_94 := by rw [hC_94]; exact hcz
                refine Vk.dPuresT [0, 1, 2, 3] [(132, .pointer (some ⟨b_x0, 10, none⟩)), (131, .pointer (some ⟨b_x0, 0, none⟩)), (130, .pointer (some ⟨b_x0, 0, none⟩)), (129, .pointer (some ⟨b_x0, 0, none⟩))] hs (by kernel_rfl) (by repeat' (first | exact Vk.Calm.post | refine Vk.Calm.then ?_ | refine Vk.Calm.inBlock ?_)) hcl (by kernel_rfl) (by kernel_rfl) (fuel := 7) rfl fun a hs => ?_
                refine Vk.dTakeT (i := 4) (some 133) (.slice A_x0oops p_69.ops.length c_x0oops) hs (by kernel_rfl) (by repeat' (first | exact Vk.Calm.post | refine Vk.Calm.then ?_ | refine Vk.Calm.inBlock ?_)) hcl (by kernel_rfl) (by kernel_rfl) (op := (.load 69 (.tmp 132))) (by kernel_rfl) (by kernel_rfl) (fun w hw o ho => by rw [hC_94] at hw; exact run_load1 (b := b_x0) (off := 10) (c := C.slc A_x0oops p_69.ops.length c_x0oops) ho (by kernel_rfl) (by kernel_rfl) (Cell.own 1 rfl (by kernel_rfl)) _ hw) fun a hs => ?_
                refine Vk.dTakeT (i := 5) (some 134) (.agg (vals [C.int .i64 x1.kind, C.int .i64 x1.dom, C.int .i64 x1.a, C.int .i64 x1.b, C.int .i64 x1.d, C.int .u64 x1.c])) hs (by kernel_rfl) (by repeat' (first | exact Vk.Calm.post | refine Vk.Calm.then ?_ | refine Vk.Calm.inBlock ?_)) hcl (by kernel_rfl) (by kernel_rfl) (op := (.load 32 (.tmp 4))) (by kernel_rfl) (by kernel_rfl) (fun w hw o ho => by rw [hC_94] at hw; exact run_loadN (cs := [C.int .i64 x1.kind, C.int .i64 x1.dom, C.int .i64 x1.a, C.int .i64 x1.b, C.int .i64 x1.d, C.int .u64 x1.c]) ho (by kernel_rfl) (by kernel_rfl) rfl (CellsAt.all 6 rfl) _ hw) fun a hs => ?_
                refine Vk.dOnly (i := 6) (by kernel_rfl) (Vk.buildOp (sz := 6) (by_ := 48) (t := 69) (e := 32) (parts := #[(0, (.tmp 134))]) (zs := vals [C.int .i64 0, C.int .i64 0, C.int .i64 0, C.int .i64 0, C.int .i64 0, C.int .u64 0]) ([x1] : List Tapi_Op) Tapi_Op.cells (some 135) hs (by kernel_rfl) (by kernel_rfl) (by kernel_rfl) (by kernel_rfl) (by decide) rfl (fun x _ => rfl) (Nat.le_of_ble_eq_true (by kernel_rfl)) (by kernel_rfl) fun A_95 w a hs => ?_)
                replace hcl : Own κ w C_94 := by rw [hC_94]; exact (Own.to hs.own [1, 2, 3, 4, 6, 7, 8] 9 (by kernel_rfl) (by kernel_rfl))
                refine ⟨fun _ => hcl, ?_⟩
                obtain ⟨h_97, hm⟩ := ite_t hm
                refine Vk.dOnly (i := 7) (by kernel_rfl) (Vk.appendOp (x := (.tmp 133)) (y := (.tmp 135)) (e := 32) (t := 69) (by_ := 48) (sz := 6) (enc := Tapi_Op.cells) (A := A_x0oops) (cap := c_x0oops) (xs := p_69.ops) (ys := ([x1] : List Tapi_Op)) (B := A_95) (c2 := 1) 5 (some 136) hs (by kernel_rfl) (by kernel_rfl) (by kernel_rfl) (by kernel_rfl) rfl (Sl.lift (fun w ho => (Own.to (S' := rowp A_95 1 32 6 Tapi_Op.cells ([x1] : List Tapi_Op) :: S) ho [0] 9 (by kernel_rfl) (by kernel_rfl))) (Own.rowSl 0 (Own.to (S' := rowp A_95 1 32 6 Tapi_Op.cells ([x1] : List Tapi_Op) :: S) hs.own [0] 9 (by kernel_rfl) (by kernel_rfl)) rfl)) (by kernel_rfl) (by kernel_rfl) (by decide) (by decide) h_97 fun A_98 c_99 w a hs => ?_)
                replace hcl : Own κ w C_94 := by rw [hC_94]; exact (Own.to hs.own [1, 2, 3, 4, 6, 7, 8] 9 (by kernel_rfl) (by kernel_rfl))
                refine ⟨fun _ => hcl, ?_⟩
                refine Vk.dOnly (i := 8) (by kernel_rfl) (Vk.dPure1 [(137, .pointer (some ⟨b_x0, 0, none⟩))] hs (by kernel_rfl) fun a hs => ?_)
                refine ⟨fun h => absurd h (by decide), ?_⟩
                refine Vk.dOnly (i := 9) (by kernel_rfl) (Vk.dPure1 [(138, .pointer (some ⟨b_x0, 10, none⟩))] hs (by kernel_rfl) fun a hs => ?_)
                refine ⟨fun h => absurd h (by decide), ?_⟩
                refine Vk.dOnly (i := 10) (by kernel_rfl) (Vk.store1 (b := b_x0) (ty := 69) (x := (.tmp 138)) (y := (.tmp 136)) (off := 10) (C.slc A_98 ((p_69.ops ++ ([x1] : List Tapi_Op)).length) c_99) 2 hs (by kernel_rfl) (by kernel_rfl) (by kernel_rfl) (by kernel_rfl) (by kernel_rfl) (by kernel_rfl) rfl (Nat.le_of_ble_eq_true (by kernel_rfl)) fun a w hs => ?_)
                refine ⟨fun h => absurd h (by decide), ?_⟩
                replace hs := hs.pick [0] (L' := [(0, .pointer (some ⟨b_x0, 0, none⟩))]) (by kernel_rfl)
                refine Vk.dDone (by kernel_rfl) ?_
                refine hK93 _ _ ?_
                clear hK93
                refine Vk.seq fun K100 hK100 => ?_
                refine Vk.region ?_
                refine Vk.pures 3 [(141, .pointer (some ⟨b_x0, 10, none⟩)), (140, .pointer (some ⟨b_x0, 0, none⟩)), (139, .pointer (some ⟨b_x0, 0, none⟩))] hs (by kernel_rfl) fun a hs => ?_
                refine Vk.step (Vk.value (some 142) (.slice A_98 ((p_69.ops ++ ([x1] : List Tapi_Op)).length) c_99) hs (by kernel_rfl) (op := (.load 69 (.tmp 141))) (by kernel_rfl) (fun o ho => run_load1 (b := b_x0) (off := 10) (c := C.slc A_98 ((p_69.ops ++ ([x1] : List Tapi_Op)).length) c_99) ho (by kernel_rfl) (by kernel_rfl) (Cell.own 2 rfl (by kernel_rfl)) _ hs.own) fun a hs => ?_)
                refine Vk.pures 3 [(6, .int .i64 (IntKind.i64.wrap ((((p_69.ops ++ ([x1] : List Tapi_Op)).length : Nat) : Int) - 1))), (144, .int .i64 (IntKind.i64.wrap ((((p_69.ops ++ ([x1] : List Tapi_Op)).length : Nat) : Int) - 1))), (143, .int .i64 (((p_69.ops ++ ([x1] : List Tapi_Op)).length : Nat) : Int))] hs (by kernel_rfl) fun a hs => ?_
                replace hs := hs.pick [6] (L' := [(6, .int .i64 (IntKind.i64.wrap ((((p_69.ops ++ ([x1] : List Tapi_Op)).length : Nat) : Int) - 1)))]) (by kernel_rfl)
                refine Vk.done (by kernel_rfl) ?_
                refine hK100 _ _ ?_
                clear hK100
                refine wp_ret ?_
                exact Vk.ret1 (P := Try.prog) (fn := Try.f60) (R := wire_Machine_Do.R κ S x0 x1 x2 b_x0 b_x0otape A_x0otapeowords c_x0otapeowords A_x0oops c_x0oops A_x0ovalues c_x0ovalues A_x0oblocks c_x0oblocks r) (.int .i64 (IntKind.i64.wrap ((((p_69.ops ++ ([x1] : List Tapi_Op)).length : Nat) : Int) - 1))) hs rfl (by kernel_rfl) (by obtain rfl := Option.some.inj hm; exact ⟨A_61, c_62, A_98, c_99, A_91, c_92, A_x0oblocks, c_x0oblocks, rfl, (Own.to hs.own [2, 3, 4, 5, 6, 7] 9 (by kernel_rfl) (by kernel_rfl))⟩)
            refine Vk.seq fun K66 hK66 => ?_
            refine Vk.region ?_
            refine Vk.pures 1 [(69, .pointer (some ⟨b_2, 0, none⟩))] hs (by kernel_rfl) fun a hs => ?_
            refine Vk.step (Vk.value (some 70) (.int .i64 x1.kind) hs (by kernel_rfl) (op := (.load 3 (.tmp 69))) (by kernel_rfl) (fun o ho => run_load1 (b := b_2) (off := 0) (c := C.int .i64 x1.kind) ho (by kernel_rfl) (by kernel_rfl) (Cell.own 6 rfl (by kernel_rfl)) _ hs.own) fun a hs => ?_)
            replace hs := hs.pick [0, 2, 4, 70] (L' := [(0, .pointer (some ⟨b_x0, 0, none⟩)), (2, .int .u64 p_64), (4, .pointer (some ⟨b_2, 0, none⟩)), (70, .int .i64 x1.kind)]) (by kernel_rfl)
            refine Vk.done (by kernel_rfl) ?_
            refine hK66 _ _ ?_
            clear hK66
            refine wp_block ?_
            refine Vk.seq fun K67 hK67 => ?_
            refine Vk.region ?_
            refine Vk.pures 2 [(71, .bool (x1.kind == 1)), (72, .bool (x1.kind == 1))] hs (by kernel_rfl) fun a hs => ?_
            replace hs := hs.pick [0, 2, 4, 70, 71] (L' := [(0, .pointer (some ⟨b_x0, 0, none⟩)), (2, .int .u64 p_64), (4, .pointer (some ⟨b_2, 0, none⟩)), (70, .int .i64 x1.kind), (71, .bool (x1.kind == 1))]) (by kernel_rfl)
            refine Vk.done (by kernel_rfl) ?_
            refine hK67 _ _ ?_
            clear hK67
            refine Vk.condS (b := x1.kind == 1) hs (by kernel_rfl) (by kernel_rfl) (fun hb => ?_) (fun hb => ?_)
            · replace hm := bif_t hm hb
              refine Vk.region ?_
              refine Vk.pures 3 [(75, .pointer (some ⟨b_x0, 4, none⟩)), (74, .pointer (some ⟨b_x0, 0, none⟩)), (73, .pointer (some ⟨b_x0, 0, none⟩))] hs (by kernel_rfl) fun a hs => ?_
              refine Vk.step (Vk.value (some 76) (.int .i64 p_60.draws) hs (by kernel_rfl) (op := (.load 3 (.tmp 75))) (by kernel_rfl) (fun o ho => run_load1 (b := b_x0) (off := 4) (c := C.int .i64 p_60.draws) ho (by kernel_rfl) (by kernel_rfl) (Cell.own 0 rfl (by kernel_rfl)) _ hs.own) fun a hs => ?_)
              refine Vk.pures 3 [(79, .pointer (some ⟨b_x0, 4, none⟩)), (78, .pointer (some ⟨b_x0, 0, none⟩)), (77, .int .i64 (IntKind.i64.wrap (p_60.draws + 1)))] hs (by kernel_rfl) fun a hs => ?_
              refine Vk.step (Vk.store1 (b := b_x0) (ty := 3) (x := (.tmp 79)) (y := (.tmp 77)) (off := 4) (C.int .i64 (IntKind.i64.wrap (p_60.draws + 1))) 0 hs (by kernel_rfl) (by kernel_rfl) (by kernel_rfl) (by kernel_rfl) (by kernel_rfl) (by kernel_rfl) rfl (Nat.le_of_ble_eq_true (by kernel_rfl)) fun a w hs => ?_)
              replace hs := hs.pick [0, 2, 4] (L' := [(0, .pointer (some ⟨b_x0, 0, none⟩)), (2, .int .u64 p_64), (4, .pointer (some ⟨b_2, 0, none⟩))]) (by kernel_rfl)
              refine Vk.done (by kernel_rfl) ?_
              exact hj65 (⟨p_60.n, p_60.most, p_60.base, p_60.words, IntKind.i64.wrap (p_60.draws + 1), p_60.dry, p_60.openF, p_60.fromF, p_60.bad, p_60.tape, p_60.ops, p_60.values, p_60.blocks⟩ : Twire_Machine) hm _ _ (hs.go [0, 2, 4] [0, 1, 2, 3, 4, 5, 6] 7 (by kernel_rfl) (by kernel_rfl) (by kernel_rfl))
            · replace hm := bif_f hm hb
              refine Vk.seq fun K68 hK68 => ?_
              refine Vk.region ?_
              refine Vk.pures 2 [(80, .bool (x1.kind == 2)), (81, .bool (x1.kind == 2))] hs (by kernel_rfl) fun a hs => ?_
              replace hs := hs.pick [0, 2, 4, 80] (L' := [(0, .pointer (some ⟨b_x0, 0, none⟩)), (2, .int .u64 p_64), (4, .pointer (some ⟨b_2, 0, none⟩)), (80, .bool (x1.kind == 2))]) (by kernel_rfl)
              refine Vk.done (by kernel_rfl) ?_
              refine hK68 _ _ ?_
              clear hK68
              refine Vk.condS (b := x1.kind == 2) hs (by kernel_rfl) (by kernel_rfl) (fun hb => ?_) (fun hb => ?_)
              · replace hm := bif_t hm hb
                refine Vk.region ?_
                refine Vk.pures 3 [(84, .pointer (some ⟨b_x0, 3, none⟩)), (83, .pointer (some ⟨b_x0, 0, none⟩)), (82, .pointer (some ⟨b_x0, 0, none⟩))] hs (by kernel_rfl) fun a hs => ?_
                refine Vk.step (Vk.value (some 85) (.int .i64 p_60.words) hs (by kernel_rfl) (op := (.load 3 (.tmp 84))) (by kernel_rfl) (fun o ho => run_load1 (b := b_x0) (off := 3) (c := C.int .i64 p_60.words) ho (by kernel_rfl) (by kernel_rfl) (Cell.own 0 rfl (by kernel_rfl)) _ hs.own) fun a hs => ?_)
                refine Vk.pures 3 [(88, .pointer (some ⟨b_x0, 3, none⟩)), (87, .pointer (some ⟨b_x0, 0, none⟩)), (86, .int .i64 (IntKind.i64.wrap (p_60.words + 1)))] hs (by kernel_rfl) fun a hs => ?_
                refine Vk.step (Vk.store1 (b := b_x0) (ty := 3) (x := (.tmp 88)) (y := (.tmp 86)) (off := 3) (C.int .i64 (IntKind.i64.wrap (p_60.words + 1))) 0 hs (by kernel_rfl) (by kernel_rfl) (by kernel_rfl) (by kernel_rfl) (by kernel_rfl) (by kernel_rfl) rfl (Nat.le_of_ble_eq_true (by kernel_rfl)) fun a w hs => ?_)
                replace hs := hs.pick [0, 2, 4] (L' := [(0, .pointer (some ⟨b_x0, 0, none⟩)), (2, .int .u64 p_64), (4, .pointer (some ⟨b_2, 0, none⟩))]) (by kernel_rfl)
                refine Vk.done (by kernel_rfl) ?_
                exact hj65 (⟨p_60.n, p_60.most, p_60.base, IntKind.i64.wrap (p_60.words + 1), p_60.draws, p_60.dry, p_60.openF, p_60.fromF, p_60.bad, p_60.tape, p_60.ops, p_60.values, p_60.blocks⟩ : Twire_Machine) hm _ _ (hs.go [0, 2, 4] [0, 1, 2, 3, 4, 5, 6] 7 (by kernel_rfl) (by kernel_rfl) (by kernel_rfl))
              · replace hm := bif_f hm hb
                refine wp_skip ?_
                exact hj65 p_60 hm _ _ (hs.go [0, 2, 4] [0, 1, 2, 3, 4, 5, 6] 7 (by kernel_rfl) (by kernel_rfl) (by kernel_rfl))
          refine Vk.seq fun K38 hK38 => ?_
          refine Vk.region ?_
          refine Vk.pures 1 [(46, .pointer (some ⟨b_2, 0, none⟩))] hs (by kernel_rfl) fun a hs => ?_
          refine Vk.step (Vk.value (some 47) (.int .i64 x1.kind) hs (by kernel_rfl) (op := (.load 3 (.tmp 46))) (by kernel_rfl) (fun o ho => run_load1 (b := b_2) (off := 0) (c := C.int .i64 x1.kind) ho (by kernel_rfl) (by kernel_rfl) (Cell.own 6 rfl (by kernel_rfl)) _ hs.own) fun a hs => ?_)
          refine Vk.pures 2 [(49, .bool (x1.kind == 1)), (48, .bool (x1.kind == 1))] hs (by kernel_rfl) fun a hs => ?_
          suffices hj_39 : ∀ a, St 145 a w κ [(0, .pointer (some ⟨b_x0, 0, none⟩)), (2, .int .u64 x2), (4, .pointer (some ⟨b_2, 0, none⟩)), (26, .bool p_24), (46, .pointer (some ⟨b_2, 0, none⟩)), (47, .int .i64 x1.kind), (48, .bool (x1.kind == 1)), (49, .bool (x1.kind == 1)), (55, .bool ((x1.kind == 1) && (!x0.dry)))] (pt b_x0 (blk (Twire_Machine.obj x0 b_x0otape A_x0oops c_x0oops A_x0ovalues c_x0ovalues A_x0oblocks c_x0oblocks) 151) :: pto x0.dry b_x0otape (blk (Ttape_Tape.obj x0.tape A_x0otapeowords c_x0otapeowords) 158) :: rowp A_x0otapeowords c_x0otapeowords 23 1 (eI .u64) x0.tape.words :: rowp A_x0oops c_x0oops 32 6 Tapi_Op.cells x0.ops :: rowp A_x0ovalues c_x0ovalues 23 1 (eI .u64) x0.values :: rowp A_x0oblocks c_x0oblocks 144 3 Tapi_Span.cells x0.blocks :: pt b_2 (blk (Tapi_Op.cells x1) 32) :: S) → wpFrom Try.prog _ _ 10 a w by
            rcases Bool.eq_false_or_eq_true (x1.kind == 1) with hb | hb
            · replace hs := hs.known (t := 49) hb (by kernel_rfl)
              refine Vk.pures 3 [(52, .pointer (some ⟨b_x0, 5, none⟩)), (51, .pointer (some ⟨b_x0, 0, none⟩)), (50, .pointer (some ⟨b_x0, 0, none⟩))] hs (by kernel_rfl) fun a hs => ?_
              refine Vk.step (Vk.value (some 53) (.bool x0.dry) hs (by kernel_rfl) (op := (.load 4 (.tmp 52))) (by kernel_rfl) (fun o ho => run_load1 (b := b_x0) (off := 5) (c := C.bool x0.dry) ho (by kernel_rfl) (by kernel_rfl) (Cell.own 0 rfl (by kernel_rfl)) _ hs.own) fun a hs => ?_)
              refine Vk.pures 2 [(55, .bool (!x0.dry)), (54, .bool (!x0.dry))] hs (by kernel_rfl) fun a hs => ?_
              have hq := hs.pick [0, 2, 4, 26, 46, 47, 48, 49, 55] (L' := [(0, .pointer (some ⟨b_x0, 0, none⟩)), (2, .int .u64 x2), (4, .pointer (some ⟨b_2, 0, none⟩)), (26, .bool p_24), (46, .pointer (some ⟨b_2, 0, none⟩)), (47, .int .i64 x1.kind), (48, .bool (x1.kind == 1)), (49, .bool true), (55, .bool (!x0.dry))]) (by kernel_rfl)
              exact hj_39 _ (hq.conv (by first | (rw [hb] <;> rfl) | rfl))
            · replace hs := hs.known (t := 49) hb (by kernel_rfl)
              refine Vk.pures 6 [(55, .bool false), (54, undef), (53, undef), (52, undef), (51, undef), (50, undef)] hs (by kernel_rfl) fun a hs => ?_
              have hq := hs.pick [0, 2, 4, 26, 46, 47, 48, 49, 55] (L' := [(0, .pointer (some ⟨b_x0, 0, none⟩)), (2, .int .u64 x2), (4, .pointer (some ⟨b_2, 0, none⟩)), (26, .bool p_24), (46, .pointer (some ⟨b_2, 0, none⟩)), (47, .int .i64 x1.kind), (48, .bool (x1.kind == 1)), (49, .bool false), (55, .bool false)]) (by kernel_rfl)
              exact hj_39 _ (hq.conv (by first | (rw [hb] <;> rfl) | rfl))
          intro a hs
          replace hs := hs.pick [0, 2, 4, 55] (L' := [(0, .pointer (some ⟨b_x0, 0, none⟩)), (2, .int .u64 x2), (4, .pointer (some ⟨b_2, 0, none⟩)), (55, .bool ((x1.kind == 1) && (!x0.dry)))]) (by kernel_rfl)
          refine Vk.done (by kernel_rfl) ?_
          refine hK38 _ _ ?_
          clear hK38
          refine Vk.condS (b := (x1.kind == 1) && (!x0.dry)) hs (by kernel_rfl) (by kernel_rfl) (fun hb => ?_) (fun hb => ?_)
          · replace hm := bif_t hm hb
            refine Vk.seq fun K40 hK40 => ?_
            refine Vk.region ?_
            refine Vk.pures 3 [(59, .pointer (some ⟨b_x0, 9, none⟩)), (58, .pointer (some ⟨b_x0, 0, none⟩)), (57, .pointer (some ⟨b_x0, 0, none⟩))] hs (by kernel_rfl) fun a hs => ?_
            refine Vk.step (Vk.value (some 60) (.pointer (optA x0.dry b_x0otape)) hs (by kernel_rfl) (op := (.load 105 (.tmp 59))) (by kernel_rfl) (fun o ho => run_load1 (b := b_x0) (off := 9) (c := C.ptr (optA x0.dry b_x0otape)) ho (by kernel_rfl) (by kernel_rfl) (Cell.own 0 rfl (by kernel_rfl)) _ hs.own) fun a hs => ?_)
            rcases Bool.eq_false_or_eq_true (x0.dry) with hb | hb
            · replace hm := bif_t hm hb
              cases hm
            · replace hm := bif_f hm hb
              replace hs := hs.pick [0, 2, 4, 55, 57, 58, 59, 60] (L' := [(0, .pointer (some ⟨b_x0, 0, none⟩)), (2, .int .u64 x2), (4, .pointer (some ⟨b_2, 0, none⟩)), (55, .bool ((x1.kind == 1) && (!x0.dry))), (57, .pointer (some ⟨b_x0, 0, none⟩)), (58, .pointer (some ⟨b_x0, 0, none⟩)), (59, .pointer (some ⟨b_x0, 9, none⟩)), (60, .pointer (optA x0.dry b_x0otape))]) (by kernel_rfl)
              replace hs := hs.conv2 (L' := [(0, .pointer (some ⟨b_x0, 0, none⟩)), (2, .int .u64 x2), (4, .pointer (some ⟨b_2, 0, none⟩)), (55, .bool ((x1.kind == 1) && (!x0.dry))), (57, .pointer (some ⟨b_x0, 0, none⟩)), (58, .pointer (some ⟨b_x0, 0, none⟩)), (59, .pointer (some ⟨b_x0, 9, none⟩)), (60, .pointer (some ⟨b_x0otape, 0, none⟩))]) (S' := pt b_x0 (blk (Twire_Machine.obj x0 b_x0otape A_x0oops c_x0oops A_x0ovalues c_x0ovalues A_x0oblocks c_x0oblocks) 151) :: pt b_x0otape (blk (Ttape_Tape.obj x0.tape A_x0otapeowords c_x0otapeowords) 158) :: rowp A_x0otapeowords c_x0otapeowords 23 1 (eI .u64) x0.tape.words :: rowp A_x0oops c_x0oops 32 6 Tapi_Op.cells x0.ops :: rowp A_x0ovalues c_x0ovalues 23 1 (eI .u64) x0.values :: rowp A_x0oblocks c_x0oblocks 144 3 Tapi_Span.cells x0.blocks :: pt b_2 (blk (Tapi_Op.cells x1) 32) :: S) (by first | rfl | (rw [hb] <;> rfl)) (by first | rfl | (rw [hb] <;> rfl))
              obtain ⟨v_43, h_42, hm⟩ := bind_t hm
              refine Vk.step (Vk.call (some 61) 95 #[.pointer (some ⟨b_x0otape, 0, none⟩)] hs (by kernel_rfl) (by kernel_rfl) (by kernel_rfl) ?_)
              refine (tape_Tape_Draw.ok k x0.tape v_43 h_42 κ w (pt b_x0 (blk (Twire_Machine.obj x0 b_x0otape A_x0oops c_x0oops A_x0ovalues c_x0ovalues A_x0oblocks c_x0oblocks) 151) :: rowp A_x0oops c_x0oops 32 6 Tapi_Op.cells x0.ops :: rowp A_x0ovalues c_x0ovalues 23 1 (eI .u64) x0.values :: rowp A_x0oblocks c_x0oblocks 144 3 Tapi_Span.cells x0.blocks :: pt b_2 (blk (Tapi_Op.cells x1) 32) :: S) b_x0otape A_x0otapeowords c_x0otapeowords (Own.to hs.own [1, 2, 0, 3, 4, 5, 6] 7 (by kernel_rfl) (by kernel_rfl))).mono ?_
              rintro _ w ⟨Ar41o0owords_44, cr41o0owords_45, rfl, how⟩
              refine ⟨_, _, _, rfl, how, fun a hs => ?_⟩
              replace hs := hs.pick [0, 2, 4, 55, 57, 58, 59, 60, 61] (L' := [(0, .pointer (some ⟨b_x0, 0, none⟩)), (2, .int .u64 x2), (4, .pointer (some ⟨b_2, 0, none⟩)), (55, .bool ((x1.kind == 1) && (!x0.dry))), (57, .pointer (some ⟨b_x0, 0, none⟩)), (58, .pointer (some ⟨b_x0, 0, none⟩)), (59, .pointer (some ⟨b_x0, 9, none⟩)), (60, .pointer (some ⟨b_x0otape, 0, none⟩)), (61, .tuple #[.int .u64 v_43.1, .bool v_43.2.1])]) (by kernel_rfl)
              replace hs := hs.conv2 (L' := [(0, .pointer (some ⟨b_x0, 0, none⟩)), (2, .int .u64 x2), (4, .pointer (some ⟨b_2, 0, none⟩)), (55, .bool ((x1.kind == 1) && (!x0.dry))), (57, .pointer (some ⟨b_x0, 0, none⟩)), (58, .pointer (some ⟨b_x0, 0, none⟩)), (59, .pointer (some ⟨b_x0, 9, none⟩)), (60, .pointer (some ⟨b_x0otape, 0, none⟩)), (61, .tuple #[.int .u64 v_43.1, .bool v_43.2.1])]) (S' := pto x0.dry b_x0otape (blk (Ttape_Tape.obj v_43.2.2 Ar41o0owords_44 cr41o0owords_45) 158) :: rowp Ar41o0owords_44 cr41o0owords_45 23 1 (eI .u64) v_43.2.2.words :: pt b_x0 (blk (Twire_Machine.obj x0 b_x0otape A_x0oops c_x0oops A_x0ovalues c_x0ovalues A_x0oblocks c_x0oblocks) 151) :: rowp A_x0oops c_x0oops 32 6 Tapi_Op.cells x0.ops :: rowp A_x0ovalues c_x0ovalues 23 1 (eI .u64) x0.values :: rowp A_x0oblocks c_x0oblocks 144 3 Tapi_Span.cells x0.blocks :: pt b_2 (blk (Tapi_Op.cells x1) 32) :: S) rfl (by first | rfl | (rw [hb] <;> rfl))
              refine Vk.pures 5 [(8, .bool v_43.2.1), (7, .int .u64 v_43.1), (63, .bool v_43.2.1), (62, .int .u64 v_43.1), (56, .tuple #[.int .u64 v_43.1, .bool v_43.2.1])] hs (by kernel_rfl) fun a hs => ?_
              replace hs := hs.pick [0, 4, 7, 8] (L' := [(0, .pointer (some ⟨b_x0, 0, none⟩)), (4, .pointer (some ⟨b_2, 0, none⟩)), (7, .int .u64 v_43.1), (8, .bool v_43.2.1)]) (by kernel_rfl)
              refine Vk.done (by kernel_rfl) ?_
              refine hK40 _ _ ?_
              clear hK40
              refine Vk.seq fun K46 hK46 => ?_
              refine Vk.seq fun K47 hK47 => ?_
              refine Vk.region ?_
              refine Vk.pures 2 [(65, .bool (!v_43.2.1)), (64, .bool v_43.2.1)] hs (by kernel_rfl) fun a hs => ?_
              replace hs := hs.pick [0, 4, 7, 65] (L' := [(0, .pointer (some ⟨b_x0, 0, none⟩)), (4, .pointer (some ⟨b_2, 0, none⟩)), (7, .int .u64 v_43.1), (65, .bool (!v_43.2.1))]) (by kernel_rfl)
              refine Vk.done (by kernel_rfl) ?_
              refine hK47 _ _ ?_
              clear hK47
              refine Vk.condS (b := !v_43.2.1) hs (by kernel_rfl) (by kernel_rfl) (fun hb => ?_) (fun hb => ?_)
              · replace hm := bif_t hm hb
                refine Vk.seq fun K48 hK48 => ?_
                refine Vk.region ?_
                refine Vk.pures 1 [(66, .pointer (some ⟨b_x0, 0, none⟩))] hs (by kernel_rfl) fun a hs => ?_
                obtain ⟨v_51, h_50, hm⟩ := bind_t hm
                refine Vk.step (Vk.call (some 67) 94 #[.pointer (some ⟨b_x0, 0, none⟩), .int .i64 2] hs (by kernel_rfl) (by kernel_rfl) (by kernel_rfl) ?_)
                refine (wire_Machine_fail.ok k (⟨x0.n, x0.most, x0.base, x0.words, x0.draws, x0.dry, x0.openF, x0.fromF, x0.bad, v_43.2.2, x0.ops, x0.values, x0.blocks⟩ : Twire_Machine) 2 v_51 h_50 κ w (pt b_2 (blk (Tapi_Op.cells x1) 32) :: S) b_x0 b_x0otape Ar41o0owords_44 cr41o0owords_45 A_x0oops c_x0oops A_x0ovalues c_x0ovalues A_x0oblocks c_x0oblocks (Own.to hs.own [2, 0, 1, 3, 4, 5, 6] 7 (by kernel_rfl) (by kernel_rfl))).mono ?_
                rintro _ w ⟨Ar49o0otapeowords_52, cr49o0otapeowords_53, Ar49o0oops_54, cr49o0oops_55, Ar49o0ovalues_56, cr49o0ovalues_57, Ar49o0oblocks_58, cr49o0oblocks_59, rfl, how⟩
                refine ⟨_, _, _, rfl, how, fun a hs => ?_⟩
                refine Vk.pures 1 [(6, .int .i64 v_51.1)] hs (by kernel_rfl) fun a hs => ?_
                replace hs := hs.pick [6] (L' := [(6, .int .i64 v_51.1)]) (by kernel_rfl)
                refine Vk.done (by kernel_rfl) ?_
                refine hK48 _ _ ?_
                clear hK48
                refine wp_ret ?_
                exact Vk.ret1 (P := Try.prog) (fn := Try.f60) (R := wire_Machine_Do.R κ S x0 x1 x2 b_x0 b_x0otape A_x0otapeowords c_x0otapeowords A_x0oops c_x0oops A_x0ovalues c_x0ovalues A_x0oblocks c_x0oblocks r) (.int .i64 v_51.1) hs rfl (by kernel_rfl) (by obtain rfl := Option.some.inj hm; exact ⟨Ar49o0otapeowords_52, cr49o0otapeowords_53, Ar49o0oops_54, cr49o0oops_55, Ar49o0ovalues_56, cr49o0ovalues_57, Ar49o0oblocks_58, cr49o0oblocks_59, rfl, (Own.to hs.own [0, 1, 2, 3, 4, 5] 7 (by kernel_rfl) (by kernel_rfl))⟩)
              · replace hm := bif_f hm hb
                refine wp_skip ?_
                refine hK46 _ _ ?_
                clear hK46
                refine Vk.region ?_
                refine Vk.pures 2 [(2, .int .u64 v_43.1), (68, .int .u64 v_43.1)] hs (by kernel_rfl) fun a hs => ?_
                replace hs := hs.pick [0, 2, 4] (L' := [(0, .pointer (some ⟨b_x0, 0, none⟩)), (2, .int .u64 v_43.1), (4, .pointer (some ⟨b_2, 0, none⟩))]) (by kernel_rfl)
                refine Vk.done (by kernel_rfl) ?_
                exact hj37 (⟨x0.n, x0.most, x0.base, x0.words, x0.draws, x0.dry, x0.openF, x0.fromF, x0.bad, v_43.2.2, x0.ops, x0.values, x0.blocks⟩ : Twire_Machine) v_43.1 hm Ar41o0owords_44 cr41o0owords_45 _ _ (hs.go [0, 2, 4] [2, 0, 1, 3, 4, 5, 6] 7 (by kernel_rfl) (by kernel_rfl) (by kernel_rfl))
          · replace hm := bif_f hm hb
            refine wp_skip ?_
            exact hj37 x0 x2 hm A_x0otapeowords c_x0otapeowords _ _ (hs.go [0, 2, 4] [0, 1, 2, 3, 4, 5, 6] 7 (by kernel_rfl) (by kernel_rfl) (by kernel_rfl))
      obtain ⟨C_23, hC_23⟩ : ∃ X0 : List HP, X0 = (pt b_x0 (blk (Twire_Machine.obj x0 b_x0otape A_x0oops c_x0oops A_x0ovalues c_x0ovalues A_x0oblocks c_x0oblocks) 151) :: pto x0.dry b_x0otape (blk (Ttape_Tape.obj x0.tape A_x0otapeowords c_x0otapeowords) 158) :: rowp A_x0otapeowords c_x0otapeowords 23 1 (eI .u64) x0.tape.words :: rowp A_x0oops c_x0oops 32 6 Tapi_Op.cells x0.ops :: rowp A_x0ovalues c_x0ovalues 23 1 (eI .u64) x0.values :: rowp A_x0oblocks c_x0oblocks 144 3 Tapi_Span.cells x0.blocks :: pt b_2 (blk (Tapi_Op.cells x1) 32) :: S) := ⟨_, rfl⟩
      refine Vk.drawnT 18 κ C_23 hs (by kernel_rfl) fun w hs => ?_
      have hcz : Own κ w (pt b_x0 (blk (Twire_Machine.obj x0 b_x0otape A_x0oops c_x0oops A_x0ovalues c_x0ovalues A_x0oblocks c_x0oblocks) 151) :: pto x0.dry b_x0otape (blk (Ttape_Tape.obj x0.tape A_x0otapeowords c_x0otapeowords) 158) :: rowp A_x0otapeowords c_x0otapeowords 23 1 (eI .u64) x0.tape.words :: rowp A_x0oops c_x0oops 32 6 Tapi_Op.cells x0.ops :: rowp A_x0ovalues c_x0ovalues 23 1 (eI .u64) x0.values :: rowp A_x0oblocks c_x0oblocks 144 3 Tapi_Span.cells x0.blocks :: pt b_2 (blk (Tapi_Op.cells x1) 32) :: S) := (Own.to hs.own [0, 1, 2, 3, 4, 5, 6] 7 (by kernel_rfl) (by kernel_rfl))
      have hcl : Own κ w C_23 := by rw [hC_23]; exact hcz
      refine Vk.dPuresT [0, 1, 2] [(29, .pointer (some ⟨b_x0, 5, none⟩)), (28, .pointer (some ⟨b_x0, 0, none⟩)), (27, .pointer (some ⟨b_x0, 0, none⟩))] hs (by kernel_rfl) (by repeat' (first | exact Vk.Calm.post | refine Vk.Calm.then ?_ | refine Vk.Calm.inBlock ?_)) hcl (by kernel_rfl) (by kernel_rfl) (fuel := 15) rfl fun a hs => ?_
      refine Vk.dTakeT (i := 3) (some 30) (.bool x0.dry) hs (by kernel_rfl) (by repeat' (first | exact Vk.Calm.post | refine Vk.Calm.then ?_ | refine Vk.Calm.inBlock ?_)) hcl (by kernel_rfl) (by kernel_rfl) (op := (.load 4 (.tmp 29))) (by kernel_rfl) (by kernel_rfl) (fun w hw o ho => by rw [hC_23] at hw; exact run_load1 (b := b_x0) (off := 5) (c := C.bool x0.dry) ho (by kernel_rfl) (by kernel_rfl) (Cell.own 0 rfl (by kernel_rfl)) _ hw) fun a hs => ?_
      refine Vk.dPuresT [4, 5] [(32, .bool (!x0.dry)), (31, .bool (!x0.dry))] hs (by kernel_rfl) (by repeat' (first | exact Vk.Calm.post | refine Vk.Calm.then ?_ | refine Vk.Calm.inBlock ?_)) hcl (by kernel_rfl) (by kernel_rfl) (fuel := 12) rfl fun a hs => ?_
      rcases Bool.eq_false_or_eq_true (!x0.dry) with hb | hb
      · replace hm := bif_t hm hb
        replace hs := hs.known (t := 32) hb (by kernel_rfl)
        refine Vk.dPuresT [6, 7, 8, 11, 12, 13] [(40, .pointer (some ⟨b_x0, 1, none⟩)), (39, .pointer (some ⟨b_x0, 0, none⟩)), (38, .pointer (some ⟨b_x0, 0, none⟩)), (35, .pointer (some ⟨b_x0, 10, none⟩)), (34, .pointer (some ⟨b_x0, 0, none⟩)), (33, .pointer (some ⟨b_x0, 0, none⟩))] hs (by kernel_rfl) (by repeat' (first | exact Vk.Calm.post | refine Vk.Calm.then ?_ | refine Vk.Calm.inBlock ?_)) hcl (by kernel_rfl) (by kernel_rfl) (fuel := 6) rfl fun a hs => ?_
        refine Vk.dTakeT (i := 9) (some 36) (.slice A_x0oops x0.ops.length c_x0oops) hs (by kernel_rfl) (by repeat' (first | exact Vk.Calm.post | refine Vk.Calm.then ?_ | refine Vk.Calm.inBlock ?_)) hcl (by kernel_rfl) (by kernel_rfl) (op := (.load 69 (.tmp 35))) (by kernel_rfl) (by kernel_rfl) (fun w hw o ho => by rw [hC_23] at hw; exact run_load1 (b := b_x0) (off := 10) (c := C.slc A_x0oops x0.ops.length c_x0oops) ho (by kernel_rfl) (by kernel_rfl) (Cell.own 0 rfl (by kernel_rfl)) _ hw) fun a hs => ?_
        refine Vk.dPuresT [10] [(37, .int .i64 ((x0.ops.length : Nat) : Int))] hs (by kernel_rfl) (by repeat' (first | exact Vk.Calm.post | refine Vk.Calm.then ?_ | refine Vk.Calm.inBlock ?_)) hcl (by kernel_rfl) (by kernel_rfl) (fuel := 4) rfl fun a hs => ?_
        refine Vk.dTakeT (i := 14) (some 41) (.int .i64 x0.most) hs (by kernel_rfl) (by repeat' (first | exact Vk.Calm.post | refine Vk.Calm.then ?_ | refine Vk.Calm.inBlock ?_)) hcl (by kernel_rfl) (by kernel_rfl) (op := (.load 3 (.tmp 40))) (by kernel_rfl) (by kernel_rfl) (fun w hw o ho => by rw [hC_23] at hw; exact run_load1 (b := b_x0) (off := 1) (c := C.int .i64 x0.most) ho (by kernel_rfl) (by kernel_rfl) (Cell.own 0 rfl (by kernel_rfl)) _ hw) fun a hs => ?_
        refine Vk.dPuresT [15, 16, 17] [(26, .bool (decide (((x0.ops.length : Nat) : Int) ≥ x0.most))), (43, .bool (decide (((x0.ops.length : Nat) : Int) ≥ x0.most))), (42, .bool (decide (((x0.ops.length : Nat) : Int) ≥ x0.most)))] hs (by kernel_rfl) (by repeat' (first | exact Vk.Calm.post | refine Vk.Calm.then ?_ | refine Vk.Calm.inBlock ?_)) hcl (by kernel_rfl) (by kernel_rfl) (fuel := 0) rfl fun a hs => ?_
        replace hs := hs.pick [0, 2, 4, 26] (L' := [(0, .pointer (some ⟨b_x0, 0, none⟩)), (2, .int .u64 x2), (4, .pointer (some ⟨b_2, 0, none⟩)), (26, .bool (decide (((x0.ops.length : Nat) : Int) ≥ x0.most)))]) (by kernel_rfl)
        refine Vk.dDone (by kernel_rfl) ?_
        exact hj22 (decide (((x0.ops.length : Nat) : Int) ≥ x0.most)) hm _ _ (hs.go [0, 2, 4, 26] [0, 1, 2, 3, 4, 5, 6] 7 (by kernel_rfl) (by kernel_rfl) (by kernel_rfl))
      · replace hm := bif_f hm hb
        replace hs := hs.known (t := 32) hb (by kernel_rfl)
        refine Vk.dPuresT [6, 7, 8, 9, 10, 11, 12, 13, 14, 15, 16, 17] [(26, .bool false), (43, .bool false), (42, undef), (41, undef), (40, undef), (39, undef), (38, undef), (37, undef), (36, undef), (35, undef), (34, undef), (33, undef)] hs (by kernel_rfl) (by repeat' (first | exact Vk.Calm.post | refine Vk.Calm.then ?_ | refine Vk.Calm.inBlock ?_)) hcl (by kernel_rfl) (by kernel_rfl) (fuel := 0) rfl fun a hs => ?_
        replace hs := hs.pick [0, 2, 4, 26] (L' := [(0, .pointer (some ⟨b_x0, 0, none⟩)), (2, .int .u64 x2), (4, .pointer (some ⟨b_2, 0, none⟩)), (26, .bool false)]) (by kernel_rfl)
        refine Vk.dDone (by kernel_rfl) ?_
        exact hj22 false hm _ _ (hs.go [0, 2, 4, 26] [0, 1, 2, 3, 4, 5, 6] 7 (by kernel_rfl) (by kernel_rfl) (by kernel_rfl))


abbrev wire_Machine_Rand.R (κ : Ctx) (S : List HP) (x0 : Twire_Machine) (x1 : Int) (b_x0 : Nat) (b_x0otape : Nat) (A_x0otapeowords : Option Addr) (c_x0otapeowords : Nat) (A_x0oops : Option Addr) (c_x0oops : Nat) (A_x0ovalues : Option Addr) (c_x0ovalues : Nat) (A_x0oblocks : Option Addr) (c_x0oblocks : Nat) (r : (Int × Twire_Machine)) : Ending → World → Prop := fun e w' => ∃ (A_y0otapeowords : Option Addr), ∃ (c_y0otapeowords : Nat), ∃ (A_y0oops : Option Addr), ∃ (c_y0oops : Nat), ∃ (A_y0ovalues : Option Addr), ∃ (c_y0ovalues : Nat), ∃ (A_y0oblocks : Option Addr), ∃ (c_y0oblocks : Nat), e = .returned (.int .i64 r.1) ∧ Own κ w' (pt b_x0 (blk (Twire_Machine.obj r.2 b_x0otape A_y0oops c_y0oops A_y0ovalues c_y0ovalues A_y0oblocks c_y0oblocks) 151) :: pto r.2.dry b_x0otape (blk (Ttape_Tape.obj r.2.tape A_y0otapeowords c_y0otapeowords) 158) :: rowp A_y0otapeowords c_y0otapeowords 23 1 (eI .u64) r.2.tape.words :: rowp A_y0oops c_y0oops 32 6 Tapi_Op.cells r.2.ops :: rowp A_y0ovalues c_y0ovalues 23 1 (eI .u64) r.2.values :: rowp A_y0oblocks c_y0oblocks 144 3 Tapi_Span.cells r.2.blocks :: S)
def wire_Machine_Rand.m (k : Nat) (x0 : Twire_Machine) (x1 : Int) : Option (Int × Twire_Machine) := (wire_Machine_Do.m k x0 (⟨1, x1, (-1), (-1), (-1), 0⟩ : Tapi_Op) 0).bind fun v_5 => some (v_5.1, v_5.2)

set_option maxRecDepth 100000 in
set_option maxHeartbeats 4000000 in
theorem wire_Machine_Rand.ok (k : Nat) (x0 : Twire_Machine) (x1 : Int) (r : (Int × Twire_Machine)) (hm : wire_Machine_Rand.m k x0 x1 = some r) (κ : Ctx) (w : World) (S : List HP) (b_x0 : Nat) (b_x0otape : Nat) (A_x0otapeowords : Option Addr) (c_x0otapeowords : Nat) (A_x0oops : Option Addr) (c_x0oops : Nat) (A_x0ovalues : Option Addr) (c_x0ovalues : Nat) (A_x0oblocks : Option Addr) (c_x0oblocks : Nat) (ho : Own κ w (pt b_x0 (blk (Twire_Machine.obj x0 b_x0otape A_x0oops c_x0oops A_x0ovalues c_x0ovalues A_x0oblocks c_x0oblocks) 151) :: pto x0.dry b_x0otape (blk (Ttape_Tape.obj x0.tape A_x0otapeowords c_x0otapeowords) 158) :: rowp A_x0otapeowords c_x0otapeowords 23 1 (eI .u64) x0.tape.words :: rowp A_x0oops c_x0oops 32 6 Tapi_Op.cells x0.ops :: rowp A_x0ovalues c_x0ovalues 23 1 (eI .u64) x0.values :: rowp A_x0oblocks c_x0oblocks 144 3 Tapi_Span.cells x0.blocks :: S)) :
    Calls Try.prog 89 #[.pointer (some ⟨b_x0, 0, none⟩), .int .i64 x1] w (wire_Machine_Rand.R κ S x0 x1 b_x0 b_x0otape A_x0otapeowords c_x0otapeowords A_x0oops c_x0oops A_x0ovalues c_x0ovalues A_x0oblocks c_x0oblocks r) := by
  unfold wire_Machine_Rand.m at hm
  refine Vk.enter [(0, .pointer (some ⟨b_x0, 0, none⟩)), (1, .int .i64 x1)] Try.func89 rfl Try.ntmps89 (by kernel_rfl) (Nat.le_of_ble_eq_true (by kernel_rfl)) ho fun a hs => ?_
  refine Vk.seq fun K1 hK1 => ?_
  refine Vk.region ?_
  refine Vk.pures 1 [(4, .int .i64 0)] hs (by kernel_rfl) fun a hs => ?_
  replace hs := hs.pick [0, 1] (L' := [(0, .pointer (some ⟨b_x0, 0, none⟩)), (1, .int .i64 x1)]) (by kernel_rfl)
  refine Vk.done (by kernel_rfl) ?_
  refine hK1 _ _ ?_
  clear hK1
  refine Vk.seq fun K2 hK2 => ?_
  refine Vk.region ?_
  refine Vk.pures 3 [(7, .agg (vals [C.int .i64 1, C.int .i64 x1, C.int .i64 (-1), C.int .i64 (-1), C.int .i64 (-1), C.int .u64 0])), (6, .int .i64 x1), (5, .pointer (some ⟨b_x0, 0, none⟩))] hs (by kernel_rfl) fun a hs => ?_
  obtain ⟨v_5, h_4, hm⟩ := bind_t hm
  refine Vk.step (Vk.call (some 8) 60 #[.pointer (some ⟨b_x0, 0, none⟩), .agg (vals [C.int .i64 1, C.int .i64 x1, C.int .i64 (-1), C.int .i64 (-1), C.int .i64 (-1), C.int .u64 0]), .int .u64 0] hs (by kernel_rfl) (by kernel_rfl) (by kernel_rfl) ?_)
  refine (wire_Machine_Do.ok k x0 (⟨1, x1, (-1), (-1), (-1), 0⟩ : Tapi_Op) 0 v_5 h_4 κ w (S) b_x0 b_x0otape A_x0otapeowords c_x0otapeowords A_x0oops c_x0oops A_x0ovalues c_x0ovalues A_x0oblocks c_x0oblocks (Own.to hs.own [0, 1, 2, 3, 4, 5] 6 (by kernel_rfl) (by kernel_rfl))).mono ?_
  rintro _ w ⟨Ar3o0otapeowords_6, cr3o0otapeowords_7, Ar3o0oops_8, cr3o0oops_9, Ar3o0ovalues_10, cr3o0ovalues_11, Ar3o0oblocks_12, cr3o0oblocks_13, rfl, how⟩
  refine ⟨_, _, _, rfl, how, fun a hs => ?_⟩
  refine Vk.pures 1 [(4, .int .i64 v_5.1)] hs (by kernel_rfl) fun a hs => ?_
  replace hs := hs.pick [4] (L' := [(4, .int .i64 v_5.1)]) (by kernel_rfl)
  refine Vk.done (by kernel_rfl) ?_
  refine hK2 _ _ ?_
  clear hK2
  refine wp_ret ?_
  exact Vk.ret1 (P := Try.prog) (fn := Try.f89) (R := wire_Machine_Rand.R κ S x0 x1 b_x0 b_x0otape A_x0otapeowords c_x0otapeowords A_x0oops c_x0oops A_x0ovalues c_x0ovalues A_x0oblocks c_x0oblocks r) (.int .i64 v_5.1) hs rfl (by kernel_rfl) (by obtain rfl := Option.some.inj hm; exact ⟨Ar3o0otapeowords_6, cr3o0otapeowords_7, Ar3o0oops_8, cr3o0oops_9, Ar3o0ovalues_10, cr3o0ovalues_11, Ar3o0oblocks_12, cr3o0oblocks_13, rfl, (Own.to hs.own [0, 1, 2, 3, 4, 5] 6 (by kernel_rfl) (by kernel_rfl))⟩)


abbrev wire_Machine_next.R (κ : Ctx) (S : List HP) (x0 : Twire_Machine) (b_x0 : Nat) (b_x0otape : Nat) (A_x0otapeowords : Option Addr) (c_x0otapeowords : Nat) (A_x0oops : Option Addr) (c_x0oops : Nat) (A_x0ovalues : Option Addr) (c_x0ovalues : Nat) (A_x0oblocks : Option Addr) (c_x0oblocks : Nat) (r : Int) : Ending → World → Prop := fun e w' => e = .returned (.int .u64 r) ∧ Own κ w' (pt b_x0 (blk (Twire_Machine.obj x0 b_x0otape A_x0oops c_x0oops A_x0ovalues c_x0ovalues A_x0oblocks c_x0oblocks) 151) :: pto x0.dry b_x0otape (blk (Ttape_Tape.obj x0.tape A_x0otapeowords c_x0otapeowords) 158) :: rowp A_x0otapeowords c_x0otapeowords 23 1 (eI .u64) x0.tape.words :: rowp A_x0oops c_x0oops 32 6 Tapi_Op.cells x0.ops :: rowp A_x0ovalues c_x0ovalues 23 1 (eI .u64) x0.values :: rowp A_x0oblocks c_x0oblocks 144 3 Tapi_Span.cells x0.blocks :: S)
def wire_Machine_next.m (k : Nat) (x0 : Twire_Machine) : Option Int := some (IntKind.u64.wrap x0.words)

set_option maxRecDepth 100000 in
set_option maxHeartbeats 4000000 in
theorem wire_Machine_next.ok (k : Nat) (x0 : Twire_Machine) (r : Int) (hm : wire_Machine_next.m k x0 = some r) (κ : Ctx) (w : World) (S : List HP) (b_x0 : Nat) (b_x0otape : Nat) (A_x0otapeowords : Option Addr) (c_x0otapeowords : Nat) (A_x0oops : Option Addr) (c_x0oops : Nat) (A_x0ovalues : Option Addr) (c_x0ovalues : Nat) (A_x0oblocks : Option Addr) (c_x0oblocks : Nat) (ho : Own κ w (pt b_x0 (blk (Twire_Machine.obj x0 b_x0otape A_x0oops c_x0oops A_x0ovalues c_x0ovalues A_x0oblocks c_x0oblocks) 151) :: pto x0.dry b_x0otape (blk (Ttape_Tape.obj x0.tape A_x0otapeowords c_x0otapeowords) 158) :: rowp A_x0otapeowords c_x0otapeowords 23 1 (eI .u64) x0.tape.words :: rowp A_x0oops c_x0oops 32 6 Tapi_Op.cells x0.ops :: rowp A_x0ovalues c_x0ovalues 23 1 (eI .u64) x0.values :: rowp A_x0oblocks c_x0oblocks 144 3 Tapi_Span.cells x0.blocks :: S)) :
    Calls Try.prog 92 #[.pointer (some ⟨b_x0, 0, none⟩)] w (wire_Machine_next.R κ S x0 b_x0 b_x0otape A_x0otapeowords c_x0otapeowords A_x0oops c_x0oops A_x0ovalues c_x0ovalues A_x0oblocks c_x0oblocks r) := by
  unfold wire_Machine_next.m at hm
  refine Vk.enter [(0, .pointer (some ⟨b_x0, 0, none⟩))] Try.func92 rfl Try.ntmps92 (by kernel_rfl) (Nat.le_of_ble_eq_true (by kernel_rfl)) ho fun a hs => ?_
  refine Vk.seq fun K1 hK1 => ?_
  refine Vk.region ?_
  refine Vk.pures 1 [(2, .int .u64 0)] hs (by kernel_rfl) fun a hs => ?_
  replace hs := hs.pick [0] (L' := [(0, .pointer (some ⟨b_x0, 0, none⟩))]) (by kernel_rfl)
  refine Vk.done (by kernel_rfl) ?_
  refine hK1 _ _ ?_
  clear hK1
  refine Vk.seq fun K2 hK2 => ?_
  refine Vk.seq fun K3 hK3 => ?_
  refine Vk.region ?_
  refine Vk.pures 2 [(4, .bool false), (3, .pointer (some ⟨b_x0, 0, none⟩))] hs (by kernel_rfl) fun a hs => ?_
  replace hs := hs.pick [0, 4] (L' := [(0, .pointer (some ⟨b_x0, 0, none⟩)), (4, .bool false)]) (by kernel_rfl)
  refine Vk.done (by kernel_rfl) ?_
  refine hK3 _ _ ?_
  clear hK3
  refine Vk.condF hs (by kernel_rfl) (by kernel_rfl) ?_
  refine wp_skip ?_
  refine hK2 _ _ ?_
  clear hK2
  refine Vk.seq fun K4 hK4 => ?_
  refine Vk.region ?_
  refine Vk.pures 3 [(7, .pointer (some ⟨b_x0, 3, none⟩)), (6, .pointer (some ⟨b_x0, 0, none⟩)), (5, .pointer (some ⟨b_x0, 0, none⟩))] hs (by kernel_rfl) fun a hs => ?_
  refine Vk.step (Vk.value (some 8) (.int .i64 x0.words) hs (by kernel_rfl) (op := (.load 3 (.tmp 7))) (by kernel_rfl) (fun o ho => run_load1 (b := b_x0) (off := 3) (c := C.int .i64 x0.words) ho (by kernel_rfl) (by kernel_rfl) (Cell.own 0 rfl (by kernel_rfl)) _ hs.own) fun a hs => ?_)
  refine Vk.pures 2 [(2, .int .u64 (IntKind.u64.wrap x0.words)), (9, .int .u64 (IntKind.u64.wrap x0.words))] hs (by kernel_rfl) fun a hs => ?_
  replace hs := hs.pick [2] (L' := [(2, .int .u64 (IntKind.u64.wrap x0.words))]) (by kernel_rfl)
  refine Vk.done (by kernel_rfl) ?_
  refine hK4 _ _ ?_
  clear hK4
  refine wp_ret ?_
  exact Vk.ret1 (P := Try.prog) (fn := Try.f92) (R := wire_Machine_next.R κ S x0 b_x0 b_x0otape A_x0otapeowords c_x0otapeowords A_x0oops c_x0oops A_x0ovalues c_x0ovalues A_x0oblocks c_x0oblocks r) (.int .u64 (IntKind.u64.wrap x0.words)) hs rfl (by kernel_rfl) (by obtain rfl := Option.some.inj hm; exact ⟨rfl, (Own.to hs.own [0, 1, 2, 3, 4, 5] 6 (by kernel_rfl) (by kernel_rfl))⟩)


abbrev wire_Machine_Key.R (κ : Ctx) (S : List HP) (x0 : Twire_Machine) (x1 : Int) (x2 : Int) (x3 : Int) (b_x0 : Nat) (b_x0otape : Nat) (A_x0otapeowords : Option Addr) (c_x0otapeowords : Nat) (A_x0oops : Option Addr) (c_x0oops : Nat) (A_x0ovalues : Option Addr) (c_x0ovalues : Nat) (A_x0oblocks : Option Addr) (c_x0oblocks : Nat) (r : (Int × Twire_Machine)) : Ending → World → Prop := fun e w' => ∃ (A_y0otapeowords : Option Addr), ∃ (c_y0otapeowords : Nat), ∃ (A_y0oops : Option Addr), ∃ (c_y0oops : Nat), ∃ (A_y0ovalues : Option Addr), ∃ (c_y0ovalues : Nat), ∃ (A_y0oblocks : Option Addr), ∃ (c_y0oblocks : Nat), e = .returned (.int .i64 r.1) ∧ Own κ w' (pt b_x0 (blk (Twire_Machine.obj r.2 b_x0otape A_y0oops c_y0oops A_y0ovalues c_y0ovalues A_y0oblocks c_y0oblocks) 151) :: pto r.2.dry b_x0otape (blk (Ttape_Tape.obj r.2.tape A_y0otapeowords c_y0otapeowords) 158) :: rowp A_y0otapeowords c_y0otapeowords 23 1 (eI .u64) r.2.tape.words :: rowp A_y0oops c_y0oops 32 6 Tapi_Op.cells r.2.ops :: rowp A_y0ovalues c_y0ovalues 23 1 (eI .u64) r.2.values :: rowp A_y0oblocks c_y0oblocks 144 3 Tapi_Span.cells r.2.blocks :: S)
def wire_Machine_Key.m (k : Nat) (x0 : Twire_Machine) (x1 : Int) (x2 : Int) (x3 : Int) : Option (Int × Twire_Machine) := (wire_Machine_next.m k x0).bind fun v_5 => (wire_Machine_Do.m k x0 (⟨2, 0, x2, x3, (-1), v_5⟩ : Tapi_Op) x1).bind fun v_8 => some (v_8.1, v_8.2)

set_option maxRecDepth 100000 in
set_option maxHeartbeats 4000000 in
theorem wire_Machine_Key.ok (k : Nat) (x0 : Twire_Machine) (x1 : Int) (x2 : Int) (x3 : Int) (r : (Int × Twire_Machine)) (hm : wire_Machine_Key.m k x0 x1 x2 x3 = some r) (κ : Ctx) (w : World) (S : List HP) (b_x0 : Nat) (b_x0otape : Nat) (A_x0otapeowords : Option Addr) (c_x0otapeowords : Nat) (A_x0oops : Option Addr) (c_x0oops : Nat) (A_x0ovalues : Option Addr) (c_x0ovalues : Nat) (A_x0oblocks : Option Addr) (c_x0oblocks : Nat) (ho : Own κ w (pt b_x0 (blk (Twire_Machine.obj x0 b_x0otape A_x0oops c_x0oops A_x0ovalues c_x0ovalues A_x0oblocks c_x0oblocks) 151) :: pto x0.dry b_x0otape (blk (Ttape_Tape.obj x0.tape A_x0otapeowords c_x0otapeowords) 158) :: rowp A_x0otapeowords c_x0otapeowords 23 1 (eI .u64) x0.tape.words :: rowp A_x0oops c_x0oops 32 6 Tapi_Op.cells x0.ops :: rowp A_x0ovalues c_x0ovalues 23 1 (eI .u64) x0.values :: rowp A_x0oblocks c_x0oblocks 144 3 Tapi_Span.cells x0.blocks :: S)) :
    Calls Try.prog 59 #[.pointer (some ⟨b_x0, 0, none⟩), .int .u64 x1, .int .i64 x2, .int .i64 x3] w (wire_Machine_Key.R κ S x0 x1 x2 x3 b_x0 b_x0otape A_x0otapeowords c_x0otapeowords A_x0oops c_x0oops A_x0ovalues c_x0ovalues A_x0oblocks c_x0oblocks r) := by
  unfold wire_Machine_Key.m at hm
  refine Vk.enter [(0, .pointer (some ⟨b_x0, 0, none⟩)), (1, .int .u64 x1), (2, .int .i64 x2), (3, .int .i64 x3)] Try.func59 rfl Try.ntmps59 (by kernel_rfl) (Nat.le_of_ble_eq_true (by kernel_rfl)) ho fun a hs => ?_
  refine Vk.seq fun K1 hK1 => ?_
  refine Vk.region ?_
  refine Vk.pures 1 [(8, .int .i64 0)] hs (by kernel_rfl) fun a hs => ?_
  replace hs := hs.pick [0, 1, 2, 3] (L' := [(0, .pointer (some ⟨b_x0, 0, none⟩)), (1, .int .u64 x1), (2, .int .i64 x2), (3, .int .i64 x3)]) (by kernel_rfl)
  refine Vk.done (by kernel_rfl) ?_
  refine hK1 _ _ ?_
  clear hK1
  refine Vk.seq fun K2 hK2 => ?_
  refine Vk.region ?_
  refine Vk.pures 4 [(12, .pointer (some ⟨b_x0, 0, none⟩)), (11, .int .i64 x3), (10, .int .i64 x2), (9, .pointer (some ⟨b_x0, 0, none⟩))] hs (by kernel_rfl) fun a hs => ?_
  obtain ⟨v_5, h_4, hm⟩ := bind_t hm
  refine Vk.step (Vk.call (some 13) 92 #[.pointer (some ⟨b_x0, 0, none⟩)] hs (by kernel_rfl) (by kernel_rfl) (by kernel_rfl) ?_)
  refine (wire_Machine_next.ok k x0 v_5 h_4 κ w (S) b_x0 b_x0otape A_x0otapeowords c_x0otapeowords A_x0oops c_x0oops A_x0ovalues c_x0ovalues A_x0oblocks c_x0oblocks (Own.to hs.own [0, 1, 2, 3, 4, 5] 6 (by kernel_rfl) (by kernel_rfl))).mono ?_
  rintro _ w ⟨rfl, how⟩
  refine ⟨_, _, _, rfl, how, fun a hs => ?_⟩
  refine Vk.pures 2 [(15, .int .u64 x1), (14, .agg (vals [C.int .i64 2, C.int .i64 0, C.int .i64 x2, C.int .i64 x3, C.int .i64 (-1), C.int .u64 v_5]))] hs (by kernel_rfl) fun a hs => ?_
  obtain ⟨v_8, h_7, hm⟩ := bind_t hm
  refine Vk.step (Vk.call (some 16) 60 #[.pointer (some ⟨b_x0, 0, none⟩), .agg (vals [C.int .i64 2, C.int .i64 0, C.int .i64 x2, C.int .i64 x3, C.int .i64 (-1), C.int .u64 v_5]), .int .u64 x1] hs (by kernel_rfl) (by kernel_rfl) (by kernel_rfl) ?_)
  refine (wire_Machine_Do.ok k x0 (⟨2, 0, x2, x3, (-1), v_5⟩ : Tapi_Op) x1 v_8 h_7 κ w (S) b_x0 b_x0otape A_x0otapeowords c_x0otapeowords A_x0oops c_x0oops A_x0ovalues c_x0ovalues A_x0oblocks c_x0oblocks (Own.to hs.own [0, 1, 2, 3, 4, 5] 6 (by kernel_rfl) (by kernel_rfl))).mono ?_
  rintro _ w ⟨Ar6o0otapeowords_9, cr6o0otapeowords_10, Ar6o0oops_11, cr6o0oops_12, Ar6o0ovalues_13, cr6o0ovalues_14, Ar6o0oblocks_15, cr6o0oblocks_16, rfl, how⟩
  refine ⟨_, _, _, rfl, how, fun a hs => ?_⟩
  refine Vk.pures 1 [(8, .int .i64 v_8.1)] hs (by kernel_rfl) fun a hs => ?_
  replace hs := hs.pick [8] (L' := [(8, .int .i64 v_8.1)]) (by kernel_rfl)
  refine Vk.done (by kernel_rfl) ?_
  refine hK2 _ _ ?_
  clear hK2
  refine wp_ret ?_
  exact Vk.ret1 (P := Try.prog) (fn := Try.f59) (R := wire_Machine_Key.R κ S x0 x1 x2 x3 b_x0 b_x0otape A_x0otapeowords c_x0otapeowords A_x0oops c_x0oops A_x0ovalues c_x0ovalues A_x0oblocks c_x0oblocks r) (.int .i64 v_8.1) hs rfl (by kernel_rfl) (by obtain rfl := Option.some.inj hm; exact ⟨Ar6o0otapeowords_9, cr6o0otapeowords_10, Ar6o0oops_11, cr6o0oops_12, Ar6o0ovalues_13, cr6o0ovalues_14, Ar6o0oblocks_15, cr6o0oblocks_16, rfl, (Own.to hs.own [0, 1, 2, 3, 4, 5] 6 (by kernel_rfl) (by kernel_rfl))⟩)


abbrev wire_Machine_Open.R (κ : Ctx) (S : List HP) (x0 : Twire_Machine) (x1 : Int) (x2 : Int) (x3 : Int) (b_x0 : Nat) (b_x0otape : Nat) (A_x0otapeowords : Option Addr) (c_x0otapeowords : Nat) (A_x0oops : Option Addr) (c_x0oops : Nat) (A_x0ovalues : Option Addr) (c_x0ovalues : Nat) (A_x0oblocks : Option Addr) (c_x0oblocks : Nat) (r : (Int × Twire_Machine)) : Ending → World → Prop := fun e w' => ∃ (A_y0otapeowords : Option Addr), ∃ (c_y0otapeowords : Nat), ∃ (A_y0oops : Option Addr), ∃ (c_y0oops : Nat), ∃ (A_y0ovalues : Option Addr), ∃ (c_y0ovalues : Nat), ∃ (A_y0oblocks : Option Addr), ∃ (c_y0oblocks : Nat), e = .returned (.int .u64 r.1) ∧ Own κ w' (pt b_x0 (blk (Twire_Machine.obj r.2 b_x0otape A_y0oops c_y0oops A_y0ovalues c_y0ovalues A_y0oblocks c_y0oblocks) 151) :: pto r.2.dry b_x0otape (blk (Ttape_Tape.obj r.2.tape A_y0otapeowords c_y0otapeowords) 158) :: rowp A_y0otapeowords c_y0otapeowords 23 1 (eI .u64) r.2.tape.words :: rowp A_y0oops c_y0oops 32 6 Tapi_Op.cells r.2.ops :: rowp A_y0ovalues c_y0ovalues 23 1 (eI .u64) r.2.values :: rowp A_y0oblocks c_y0oblocks 144 3 Tapi_Span.cells r.2.blocks :: S)
def wire_Machine_Open.m (k : Nat) (x0 : Twire_Machine) (x1 : Int) (x2 : Int) (x3 : Int) : Option (Int × Twire_Machine) := (wire_Machine_Do.m k x0 (⟨12, (-1), x1, x2, x3, 0⟩ : Tapi_Op) 0).bind fun v_5 => (bif decide (v_5.1 < 0) then some (0, v_5.2) else (bif v_5.2.dry then some (18446744073709551615, v_5.2) else (if 0 ≤ v_5.1 then (v_5.2.values[v_5.1.toNat]?).bind fun e_23 => some (e_23, v_5.2) else none)))

set_option maxRecDepth 100000 in
set_option maxHeartbeats 4000000 in
theorem wire_Machine_Open.ok (k : Nat) (x0 : Twire_Machine) (x1 : Int) (x2 : Int) (x3 : Int) (r : (Int × Twire_Machine)) (hm : wire_Machine_Open.m k x0 x1 x2 x3 = some r) (κ : Ctx) (w : World) (S : List HP) (b_x0 : Nat) (b_x0otape : Nat) (A_x0otapeowords : Option Addr) (c_x0otapeowords : Nat) (A_x0oops : Option Addr) (c_x0oops : Nat) (A_x0ovalues : Option Addr) (c_x0ovalues : Nat) (A_x0oblocks : Option Addr) (c_x0oblocks : Nat) (ho : Own κ w (pt b_x0 (blk (Twire_Machine.obj x0 b_x0otape A_x0oops c_x0oops A_x0ovalues c_x0ovalues A_x0oblocks c_x0oblocks) 151) :: pto x0.dry b_x0otape (blk (Ttape_Tape.obj x0.tape A_x0otapeowords c_x0otapeowords) 158) :: rowp A_x0otapeowords c_x0otapeowords 23 1 (eI .u64) x0.tape.words :: rowp A_x0oops c_x0oops 32 6 Tapi_Op.cells x0.ops :: rowp A_x0ovalues c_x0ovalues 23 1 (eI .u64) x0.values :: rowp A_x0oblocks c_x0oblocks 144 3 Tapi_Span.cells x0.blocks :: S)) :
    Calls Try.prog 98 #[.pointer (some ⟨b_x0, 0, none⟩), .int .i64 x1, .int .i64 x2, .int .i64 x3] w (wire_Machine_Open.R κ S x0 x1 x2 x3 b_x0 b_x0otape A_x0otapeowords c_x0otapeowords A_x0oops c_x0oops A_x0ovalues c_x0ovalues A_x0oblocks c_x0oblocks r) := by
  unfold wire_Machine_Open.m at hm
  refine Vk.enter [(0, .pointer (some ⟨b_x0, 0, none⟩)), (1, .int .i64 x1), (2, .int .i64 x2), (3, .int .i64 x3)] Try.func98 rfl Try.ntmps98 (by kernel_rfl) (Nat.le_of_ble_eq_true (by kernel_rfl)) ho fun a hs => ?_
  refine Vk.seq fun K1 hK1 => ?_
  refine Vk.region ?_
  refine Vk.pures 1 [(8, .int .u64 0)] hs (by kernel_rfl) fun a hs => ?_
  replace hs := hs.pick [0, 1, 2, 3] (L' := [(0, .pointer (some ⟨b_x0, 0, none⟩)), (1, .int .i64 x1), (2, .int .i64 x2), (3, .int .i64 x3)]) (by kernel_rfl)
  refine Vk.done (by kernel_rfl) ?_
  refine hK1 _ _ ?_
  clear hK1
  refine Vk.seq fun K2 hK2 => ?_
  refine Vk.region ?_
  refine Vk.pures 5 [(14, .agg (vals [C.int .i64 12, C.int .i64 (-1), C.int .i64 x1, C.int .i64 x2, C.int .i64 x3, C.int .u64 0])), (13, .int .i64 x3), (12, .int .i64 x2), (11, .int .i64 x1), (10, .pointer (some ⟨b_x0, 0, none⟩))] hs (by kernel_rfl) fun a hs => ?_
  obtain ⟨v_5, h_4, hm⟩ := bind_t hm
  refine Vk.step (Vk.call (some 15) 60 #[.pointer (some ⟨b_x0, 0, none⟩), .agg (vals [C.int .i64 12, C.int .i64 (-1), C.int .i64 x1, C.int .i64 x2, C.int .i64 x3, C.int .u64 0]), .int .u64 0] hs (by kernel_rfl) (by kernel_rfl) (by kernel_rfl) ?_)
  refine (wire_Machine_Do.ok k x0 (⟨12, (-1), x1, x2, x3, 0⟩ : Tapi_Op) 0 v_5 h_4 κ w (S) b_x0 b_x0otape A_x0otapeowords c_x0otapeowords A_x0oops c_x0oops A_x0ovalues c_x0ovalues A_x0oblocks c_x0oblocks (Own.to hs.own [0, 1, 2, 3, 4, 5] 6 (by kernel_rfl) (by kernel_rfl))).mono ?_
  rintro _ w ⟨Ar3o0otapeowords_6, cr3o0otapeowords_7, Ar3o0oops_8, cr3o0oops_9, Ar3o0ovalues_10, cr3o0ovalues_11, Ar3o0oblocks_12, cr3o0oblocks_13, rfl, how⟩
  refine ⟨_, _, _, rfl, how, fun a hs => ?_⟩
  refine Vk.pures 1 [(9, .int .i64 v_5.1)] hs (by kernel_rfl) fun a hs => ?_
  replace hs := hs.pick [0, 9] (L' := [(0, .pointer (some ⟨b_x0, 0, none⟩)), (9, .int .i64 v_5.1)]) (by kernel_rfl)
  refine Vk.done (by kernel_rfl) ?_
  refine hK2 _ _ ?_
  clear hK2
  refine Vk.seq fun K14 hK14 => ?_
  refine wp_block ?_
  refine Vk.seq fun K15 hK15 => ?_
  refine Vk.region ?_
  refine Vk.pures 3 [(16, .bool (decide (v_5.1 < 0))), (18, .bool (decide (v_5.1 < 0))), (17, .int .i64 v_5.1)] hs (by kernel_rfl) fun a hs => ?_
  replace hs := hs.pick [0, 9, 16] (L' := [(0, .pointer (some ⟨b_x0, 0, none⟩)), (9, .int .i64 v_5.1), (16, .bool (decide (v_5.1 < 0)))]) (by kernel_rfl)
  refine Vk.done (by kernel_rfl) ?_
  refine hK15 _ _ ?_
  clear hK15
  refine Vk.condS (b := decide (v_5.1 < 0)) hs (by kernel_rfl) (by kernel_rfl) (fun hb => ?_) (fun hb => ?_)
  · replace hm := bif_t hm hb
    refine Vk.seq fun K16 hK16 => ?_
    refine Vk.region ?_
    refine Vk.pures 1 [(8, .int .u64 0)] hs (by kernel_rfl) fun a hs => ?_
    replace hs := hs.pick [8] (L' := [(8, .int .u64 0)]) (by kernel_rfl)
    refine Vk.done (by kernel_rfl) ?_
    refine hK16 _ _ ?_
    clear hK16
    refine wp_ret ?_
    exact Vk.ret1 (P := Try.prog) (fn := Try.f98) (R := wire_Machine_Open.R κ S x0 x1 x2 x3 b_x0 b_x0otape A_x0otapeowords c_x0otapeowords A_x0oops c_x0oops A_x0ovalues c_x0ovalues A_x0oblocks c_x0oblocks r) (.int .u64 0) hs rfl (by kernel_rfl) (by obtain rfl := Option.some.inj hm; exact ⟨Ar3o0otapeowords_6, cr3o0otapeowords_7, Ar3o0oops_8, cr3o0oops_9, Ar3o0ovalues_10, cr3o0ovalues_11, Ar3o0oblocks_12, cr3o0oblocks_13, rfl, (Own.to hs.own [0, 1, 2, 3, 4, 5] 6 (by kernel_rfl) (by kernel_rfl))⟩)
  · replace hm := bif_f hm hb
    refine Vk.seq fun K17 hK17 => ?_
    refine Vk.region ?_
    refine Vk.pures 3 [(22, .pointer (some ⟨b_x0, 5, none⟩)), (21, .pointer (some ⟨b_x0, 0, none⟩)), (20, .pointer (some ⟨b_x0, 0, none⟩))] hs (by kernel_rfl) fun a hs => ?_
    refine Vk.step (Vk.value (some 23) (.bool v_5.2.dry) hs (by kernel_rfl) (op := (.load 4 (.tmp 22))) (by kernel_rfl) (fun o ho => run_load1 (b := b_x0) (off := 5) (c := C.bool v_5.2.dry) ho (by kernel_rfl) (by kernel_rfl) (Cell.own 0 rfl (by kernel_rfl)) _ hs.own) fun a hs => ?_)
    refine Vk.pures 1 [(19, .bool v_5.2.dry)] hs (by kernel_rfl) fun a hs => ?_
    replace hs := hs.pick [0, 9, 19] (L' := [(0, .pointer (some ⟨b_x0, 0, none⟩)), (9, .int .i64 v_5.1), (19, .bool v_5.2.dry)]) (by kernel_rfl)
    refine Vk.done (by kernel_rfl) ?_
    refine hK17 _ _ ?_
    clear hK17
    refine Vk.condS (b := v_5.2.dry) hs (by kernel_rfl) (by kernel_rfl) (fun hb => ?_) (fun hb => ?_)
    · replace hm := bif_t hm hb
      refine Vk.seq fun K18 hK18 => ?_
      refine Vk.region ?_
      refine Vk.pures 1 [(8, .int .u64 18446744073709551615)] hs (by kernel_rfl) fun a hs => ?_
      replace hs := hs.pick [8] (L' := [(8, .int .u64 18446744073709551615)]) (by kernel_rfl)
      refine Vk.done (by kernel_rfl) ?_
      refine hK18 _ _ ?_
      clear hK18
      refine wp_ret ?_
      exact Vk.ret1 (P := Try.prog) (fn := Try.f98) (R := wire_Machine_Open.R κ S x0 x1 x2 x3 b_x0 b_x0otape A_x0otapeowords c_x0otapeowords A_x0oops c_x0oops A_x0ovalues c_x0ovalues A_x0oblocks c_x0oblocks r) (.int .u64 18446744073709551615) hs rfl (by kernel_rfl) (by obtain rfl := Option.some.inj hm; exact ⟨Ar3o0otapeowords_6, cr3o0otapeowords_7, Ar3o0oops_8, cr3o0oops_9, Ar3o0ovalues_10, cr3o0ovalues_11, Ar3o0oblocks_12, cr3o0oblocks_13, rfl, (Own.to hs.own [0, 1, 2, 3, 4, 5] 6 (by kernel_rfl) (by kernel_rfl))⟩)
    · replace hm := bif_f hm hb
      refine wp_skip ?_
      refine hK14 _ _ ?_
      clear hK14
      refine Vk.seq fun K19 hK19 => ?_
      refine Vk.region ?_
      refine Vk.pures 3 [(26, .pointer (some ⟨b_x0, 11, none⟩)), (25, .pointer (some ⟨b_x0, 0, none⟩)), (24, .pointer (some ⟨b_x0, 0, none⟩))] hs (by kernel_rfl) fun a hs => ?_
      refine Vk.step (Vk.value (some 27) (.slice Ar3o0ovalues_10 v_5.2.values.length cr3o0ovalues_11) hs (by kernel_rfl) (op := (.load 73 (.tmp 26))) (by kernel_rfl) (fun o ho => run_load1 (b := b_x0) (off := 11) (c := C.slc Ar3o0ovalues_10 v_5.2.values.length cr3o0ovalues_11) ho (by kernel_rfl) (by kernel_rfl) (Cell.own 0 rfl (by kernel_rfl)) _ hs.own) fun a hs => ?_)
      refine Vk.pures 1 [(28, .int .i64 v_5.1)] hs (by kernel_rfl) fun a hs => ?_
      obtain ⟨h_20, hm⟩ := ite_t hm
      obtain ⟨e_23, h_21, hm⟩ := bind_t hm
      obtain ⟨b_24, o_25, hA_26, h_22⟩ := Sl.elem (Own.rowSl 0 (Own.to (S' := rowp Ar3o0ovalues_10 cr3o0ovalues_11 23 1 (eI .u64) v_5.2.values :: S) hs.own [4] 6 (by kernel_rfl) (by kernel_rfl)) rfl) h_21
      refine Vk.step (Vk.value (some 29) (.pointer (some ⟨b_24, o_25 + v_5.1.toNat * 1, none⟩)) hs (by kernel_rfl) (op := (.indexAddr 73 (.tmp 27) (.tmp 28))) (by kernel_rfl) (fun o ho => run_idxSlc (k := .i64) ho (cap := cr3o0ovalues_11) (len := v_5.2.values.length) ((congrArg (fun A => Value.slice A (v_5.2.values.length) (cr3o0ovalues_11)) hA_26) ▸ (by kernel_rfl)) (by kernel_rfl) (by kernel_rfl) (idx_ok h_20 h_21) _) fun a hs => ?_)
      refine Vk.step (Vk.value (some 30) (.int .u64 e_23) hs (by kernel_rfl) (op := (.load 23 (.tmp 29))) (by kernel_rfl) (fun o ho => run_load1 (c := C.int .u64 e_23) ho (by kernel_rfl) (by kernel_rfl) (fun w ho => h_22 w ho 0 _ rfl) _ (Own.to (S' := rowp Ar3o0ovalues_10 cr3o0ovalues_11 23 1 (eI .u64) v_5.2.values :: S) hs.own [4] 6 (by kernel_rfl) (by kernel_rfl))) fun a hs => ?_)
      refine Vk.pures 1 [(8, .int .u64 e_23)] hs (by kernel_rfl) fun a hs => ?_
      replace hs := hs.pick [8] (L' := [(8, .int .u64 e_23)]) (by kernel_rfl)
      refine Vk.done (by kernel_rfl) ?_
      refine hK19 _ _ ?_
      clear hK19
      refine wp_ret ?_
      exact Vk.ret1 (P := Try.prog) (fn := Try.f98) (R := wire_Machine_Open.R κ S x0 x1 x2 x3 b_x0 b_x0otape A_x0otapeowords c_x0otapeowords A_x0oops c_x0oops A_x0ovalues c_x0ovalues A_x0oblocks c_x0oblocks r) (.int .u64 e_23) hs rfl (by kernel_rfl) (by obtain rfl := Option.some.inj hm; exact ⟨Ar3o0otapeowords_6, cr3o0otapeowords_7, Ar3o0oops_8, cr3o0oops_9, Ar3o0ovalues_10, cr3o0ovalues_11, Ar3o0oblocks_12, cr3o0oblocks_13, rfl, (Own.to hs.own [0, 1, 2, 3, 4, 5] 6 (by kernel_rfl) (by kernel_rfl))⟩)


abbrev wire_Machine_Err.R (κ : Ctx) (S : List HP) (x0 : Twire_Machine) (b_x0 : Nat) (b_x0otape : Nat) (A_x0otapeowords : Option Addr) (c_x0otapeowords : Nat) (A_x0oops : Option Addr) (c_x0oops : Nat) (A_x0ovalues : Option Addr) (c_x0ovalues : Nat) (A_x0oblocks : Option Addr) (c_x0oblocks : Nat) (r : Int) : Ending → World → Prop := fun e w' => e = .returned (.int .i64 r) ∧ Own κ w' (pt b_x0 (blk (Twire_Machine.obj x0 b_x0otape A_x0oops c_x0oops A_x0ovalues c_x0ovalues A_x0oblocks c_x0oblocks) 151) :: pto x0.dry b_x0otape (blk (Ttape_Tape.obj x0.tape A_x0otapeowords c_x0otapeowords) 158) :: rowp A_x0otapeowords c_x0otapeowords 23 1 (eI .u64) x0.tape.words :: rowp A_x0oops c_x0oops 32 6 Tapi_Op.cells x0.ops :: rowp A_x0ovalues c_x0ovalues 23 1 (eI .u64) x0.values :: rowp A_x0oblocks c_x0oblocks 144 3 Tapi_Span.cells x0.blocks :: S)
def wire_Machine_Err.m (k : Nat) (x0 : Twire_Machine) : Option Int := some x0.bad

set_option maxRecDepth 100000 in
set_option maxHeartbeats 4000000 in
theorem wire_Machine_Err.ok (k : Nat) (x0 : Twire_Machine) (r : Int) (hm : wire_Machine_Err.m k x0 = some r) (κ : Ctx) (w : World) (S : List HP) (b_x0 : Nat) (b_x0otape : Nat) (A_x0otapeowords : Option Addr) (c_x0otapeowords : Nat) (A_x0oops : Option Addr) (c_x0oops : Nat) (A_x0ovalues : Option Addr) (c_x0ovalues : Nat) (A_x0oblocks : Option Addr) (c_x0oblocks : Nat) (ho : Own κ w (pt b_x0 (blk (Twire_Machine.obj x0 b_x0otape A_x0oops c_x0oops A_x0ovalues c_x0ovalues A_x0oblocks c_x0oblocks) 151) :: pto x0.dry b_x0otape (blk (Ttape_Tape.obj x0.tape A_x0otapeowords c_x0otapeowords) 158) :: rowp A_x0otapeowords c_x0otapeowords 23 1 (eI .u64) x0.tape.words :: rowp A_x0oops c_x0oops 32 6 Tapi_Op.cells x0.ops :: rowp A_x0ovalues c_x0ovalues 23 1 (eI .u64) x0.values :: rowp A_x0oblocks c_x0oblocks 144 3 Tapi_Span.cells x0.blocks :: S)) :
    Calls Try.prog 62 #[.pointer (some ⟨b_x0, 0, none⟩)] w (wire_Machine_Err.R κ S x0 b_x0 b_x0otape A_x0otapeowords c_x0otapeowords A_x0oops c_x0oops A_x0ovalues c_x0ovalues A_x0oblocks c_x0oblocks r) := by
  unfold wire_Machine_Err.m at hm
  refine Vk.enter [(0, .pointer (some ⟨b_x0, 0, none⟩))] Try.func62 rfl Try.ntmps62 (by kernel_rfl) (Nat.le_of_ble_eq_true (by kernel_rfl)) ho fun a hs => ?_
  refine Vk.seq fun K1 hK1 => ?_
  refine Vk.region ?_
  refine Vk.pures 1 [(2, .int .i64 0)] hs (by kernel_rfl) fun a hs => ?_
  replace hs := hs.pick [0] (L' := [(0, .pointer (some ⟨b_x0, 0, none⟩))]) (by kernel_rfl)
  refine Vk.done (by kernel_rfl) ?_
  refine hK1 _ _ ?_
  clear hK1
  refine Vk.seq fun K2 hK2 => ?_
  refine Vk.seq fun K3 hK3 => ?_
  refine Vk.region ?_
  refine Vk.pures 2 [(4, .bool false), (3, .pointer (some ⟨b_x0, 0, none⟩))] hs (by kernel_rfl) fun a hs => ?_
  replace hs := hs.pick [0, 4] (L' := [(0, .pointer (some ⟨b_x0, 0, none⟩)), (4, .bool false)]) (by kernel_rfl)
  refine Vk.done (by kernel_rfl) ?_
  refine hK3 _ _ ?_
  clear hK3
  refine Vk.condF hs (by kernel_rfl) (by kernel_rfl) ?_
  refine wp_skip ?_
  refine hK2 _ _ ?_
  clear hK2
  refine Vk.seq fun K4 hK4 => ?_
  refine Vk.region ?_
  refine Vk.pures 3 [(7, .pointer (some ⟨b_x0, 8, none⟩)), (6, .pointer (some ⟨b_x0, 0, none⟩)), (5, .pointer (some ⟨b_x0, 0, none⟩))] hs (by kernel_rfl) fun a hs => ?_
  refine Vk.step (Vk.value (some 8) (.int .i64 x0.bad) hs (by kernel_rfl) (op := (.load 43 (.tmp 7))) (by kernel_rfl) (fun o ho => run_load1 (b := b_x0) (off := 8) (c := C.int .i64 x0.bad) ho (by kernel_rfl) (by kernel_rfl) (Cell.own 0 rfl (by kernel_rfl)) _ hs.own) fun a hs => ?_)
  refine Vk.pures 1 [(2, .int .i64 x0.bad)] hs (by kernel_rfl) fun a hs => ?_
  replace hs := hs.pick [2] (L' := [(2, .int .i64 x0.bad)]) (by kernel_rfl)
  refine Vk.done (by kernel_rfl) ?_
  refine hK4 _ _ ?_
  clear hK4
  refine wp_ret ?_
  exact Vk.ret1 (P := Try.prog) (fn := Try.f62) (R := wire_Machine_Err.R κ S x0 b_x0 b_x0otape A_x0otapeowords c_x0otapeowords A_x0oops c_x0oops A_x0ovalues c_x0ovalues A_x0oblocks c_x0oblocks r) (.int .i64 x0.bad) hs rfl (by kernel_rfl) (by obtain rfl := Option.some.inj hm; exact ⟨rfl, (Own.to hs.own [0, 1, 2, 3, 4, 5] 6 (by kernel_rfl) (by kernel_rfl))⟩)


abbrev wire_Machine_Dry.R (κ : Ctx) (S : List HP) (x0 : Twire_Machine) (b_x0 : Nat) (b_x0otape : Nat) (A_x0otapeowords : Option Addr) (c_x0otapeowords : Nat) (A_x0oops : Option Addr) (c_x0oops : Nat) (A_x0ovalues : Option Addr) (c_x0ovalues : Nat) (A_x0oblocks : Option Addr) (c_x0oblocks : Nat) (r : Twire_Machine) : Ending → World → Prop := fun e w' => ∃ (b_r0 : Nat), ∃ (b_r0otape : Nat), ∃ (A_r0otapeowords : Option Addr), ∃ (c_r0otapeowords : Nat), ∃ (A_r0oops : Option Addr), ∃ (c_r0oops : Nat), ∃ (A_r0ovalues : Option Addr), ∃ (c_r0ovalues : Nat), ∃ (A_r0oblocks : Option Addr), ∃ (c_r0oblocks : Nat), e = .returned (.pointer (some ⟨b_r0, 0, none⟩)) ∧ Own κ w' (pt b_r0 (blk (Twire_Machine.obj r b_r0otape A_r0oops c_r0oops A_r0ovalues c_r0ovalues A_r0oblocks c_r0oblocks) 151) :: pto r.dry b_r0otape (blk (Ttape_Tape.obj r.tape A_r0otapeowords c_r0otapeowords) 158) :: rowp A_r0otapeowords c_r0otapeowords 23 1 (eI .u64) r.tape.words :: rowp A_r0oops c_r0oops 32 6 Tapi_Op.cells r.ops :: rowp A_r0ovalues c_r0ovalues 23 1 (eI .u64) r.values :: rowp A_r0oblocks c_r0oblocks 144 3 Tapi_Span.cells r.blocks :: pt b_x0 (blk (Twire_Machine.obj x0 b_x0otape A_x0oops c_x0oops A_x0ovalues c_x0ovalues A_x0oblocks c_x0oblocks) 151) :: pto x0.dry b_x0otape (blk (Ttape_Tape.obj x0.tape A_x0otapeowords c_x0otapeowords) 158) :: rowp A_x0otapeowords c_x0otapeowords 23 1 (eI .u64) x0.tape.words :: rowp A_x0oops c_x0oops 32 6 Tapi_Op.cells x0.ops :: rowp A_x0ovalues c_x0ovalues 23 1 (eI .u64) x0.values :: rowp A_x0oblocks c_x0oblocks 144 3 Tapi_Span.cells x0.blocks :: S)
def wire_Machine_Dry.m (k : Nat) (x0 : Twire_Machine) : Option Twire_Machine := (wire_Machine_Len.m k x0).bind fun v_8 => some (⟨x0.n, 0, v_8, x0.words, 0, true, 0, 0, 0, (⟨([] : List Int), (⟨0⟩ : Tatomic_Int64), 0⟩ : Ttape_Tape), ([] : List Tapi_Op), ([] : List Int), ([] : List Tapi_Span)⟩ : Twire_Machine)

set_option maxRecDepth 100000 in
set_option maxHeartbeats 4000000 in
theorem wire_Machine_Dry.ok (k : Nat) (x0 : Twire_Machine) (r : Twire_Machine) (hm : wire_Machine_Dry.m k x0 = some r) (κ : Ctx) (w : World) (S : List HP) (b_x0 : Nat) (b_x0otape : Nat) (A_x0otapeowords : Option Addr) (c_x0otapeowords : Nat) (A_x0oops : Option Addr) (c_x0oops : Nat) (A_x0ovalues : Option Addr) (c_x0ovalues : Nat) (A_x0oblocks : Option Addr) (c_x0oblocks : Nat) (ho : Own κ w (pt b_x0 (blk (Twire_Machine.obj x0 b_x0otape A_x0oops c_x0oops A_x0ovalues c_x0ovalues A_x0oblocks c_x0oblocks) 151) :: pto x0.dry b_x0otape (blk (Ttape_Tape.obj x0.tape A_x0otapeowords c_x0otapeowords) 158) :: rowp A_x0otapeowords c_x0otapeowords 23 1 (eI .u64) x0.tape.words :: rowp A_x0oops c_x0oops 32 6 Tapi_Op.cells x0.ops :: rowp A_x0ovalues c_x0ovalues 23 1 (eI .u64) x0.values :: rowp A_x0oblocks c_x0oblocks 144 3 Tapi_Span.cells x0.blocks :: S)) :
    Calls Try.prog 68 #[.pointer (some ⟨b_x0, 0, none⟩)] w (wire_Machine_Dry.R κ S x0 b_x0 b_x0otape A_x0otapeowords c_x0otapeowords A_x0oops c_x0oops A_x0ovalues c_x0ovalues A_x0oblocks c_x0oblocks r) := by
  unfold wire_Machine_Dry.m at hm
  refine Vk.enter [(0, .pointer (some ⟨b_x0, 0, none⟩))] Try.func68 rfl Try.ntmps68 (by kernel_rfl) (Nat.le_of_ble_eq_true (by kernel_rfl)) ho fun a hs => ?_
  refine Vk.seq fun K1 hK1 => ?_
  refine Vk.region ?_
  refine Vk.pures 1 [(2, .pointer none)] hs (by kernel_rfl) fun a hs => ?_
  replace hs := hs.pick [0] (L' := [(0, .pointer (some ⟨b_x0, 0, none⟩))]) (by kernel_rfl)
  refine Vk.done (by kernel_rfl) ?_
  refine hK1 _ _ ?_
  clear hK1
  refine Vk.seq fun K2 hK2 => ?_
  refine Vk.seq fun K3 hK3 => ?_
  refine Vk.region ?_
  refine Vk.pures 2 [(4, .bool false), (3, .pointer (some ⟨b_x0, 0, none⟩))] hs (by kernel_rfl) fun a hs => ?_
  replace hs := hs.pick [0, 4] (L' := [(0, .pointer (some ⟨b_x0, 0, none⟩)), (4, .bool false)]) (by kernel_rfl)
  refine Vk.done (by kernel_rfl) ?_
  refine hK3 _ _ ?_
  clear hK3
  refine Vk.condF hs (by kernel_rfl) (by kernel_rfl) ?_
  refine wp_skip ?_
  refine hK2 _ _ ?_
  clear hK2
  refine Vk.seq fun K4 hK4 => ?_
  obtain ⟨C_5, hC_5⟩ : ∃ X0 : List HP, X0 = (pt b_x0 (blk (Twire_Machine.obj x0 b_x0otape A_x0oops c_x0oops A_x0ovalues c_x0ovalues A_x0oblocks c_x0oblocks) 151) :: pto x0.dry b_x0otape (blk (Ttape_Tape.obj x0.tape A_x0otapeowords c_x0otapeowords) 158) :: rowp A_x0otapeowords c_x0otapeowords 23 1 (eI .u64) x0.tape.words :: rowp A_x0oops c_x0oops 32 6 Tapi_Op.cells x0.ops :: rowp A_x0ovalues c_x0ovalues 23 1 (eI .u64) x0.values :: rowp A_x0oblocks c_x0oblocks 144 3 Tapi_Span.cells x0.blocks :: S) := ⟨_, rfl⟩
  refine Vk.drawnT 13 κ C_5 hs (by kernel_rfl) fun w hs => ?_
  have hcz : Own κ w (pt b_x0 (blk (Twire_Machine.obj x0 b_x0otape A_x0oops c_x0oops A_x0ovalues c_x0ovalues A_x0oblocks c_x0oblocks) 151) :: pto x0.dry b_x0otape (blk (Ttape_Tape.obj x0.tape A_x0otapeowords c_x0otapeowords) 158) :: rowp A_x0otapeowords c_x0otapeowords 23 1 (eI .u64) x0.tape.words :: rowp A_x0oops c_x0oops 32 6 Tapi_Op.cells x0.ops :: rowp A_x0ovalues c_x0ovalues 23 1 (eI .u64) x0.values :: rowp A_x0oblocks c_x0oblocks 144 3 Tapi_Span.cells x0.blocks :: S) := (Own.to hs.own [0, 1, 2, 3, 4, 5] 6 (by kernel_rfl) (by kernel_rfl))
  have hcl : Own κ w C_5 := by rw [hC_5]; exact hcz
  refine Vk.dPuresT [0, 1, 2, 4, 6, 7, 8] [(13, .pointer (some ⟨b_x0, 3, none⟩)), (12, .pointer (some ⟨b_x0, 0, none⟩)), (11, .pointer (some ⟨b_x0, 0, none⟩)), (9, .pointer (some ⟨b_x0, 0, none⟩)), (7, .pointer (some ⟨b_x0, 0, none⟩)), (6, .pointer (some ⟨b_x0, 0, none⟩)), (5, .pointer (some ⟨b_x0, 0, none⟩))] hs (by kernel_rfl) (by repeat' (first | exact Vk.Calm.post | refine Vk.Calm.then ?_ | refine Vk.Calm.inBlock ?_)) hcl (by kernel_rfl) (by kernel_rfl) (fuel := 6) rfl fun a hs => ?_
  refine Vk.dTakeT (i := 3) (some 8) (.int .i64 x0.n) hs (by kernel_rfl) (by repeat' (first | exact Vk.Calm.post | refine Vk.Calm.then ?_ | refine Vk.Calm.inBlock ?_)) hcl (by kernel_rfl) (by kernel_rfl) (op := (.load 3 (.tmp 7))) (by kernel_rfl) (by kernel_rfl) (fun w hw o ho => by rw [hC_5] at hw; exact run_load1 (b := b_x0) (off := 0) (c := C.int .i64 x0.n) ho (by kernel_rfl) (by kernel_rfl) (Cell.own 0 rfl (by kernel_rfl)) _ hw) fun a hs => ?_
  refine Vk.dTakeT (i := 9) (some 14) (.int .i64 x0.words) hs (by kernel_rfl) (by repeat' (first | exact Vk.Calm.post | refine Vk.Calm.then ?_ | refine Vk.Calm.inBlock ?_)) hcl (by kernel_rfl) (by kernel_rfl) (op := (.load 3 (.tmp 13))) (by kernel_rfl) (by kernel_rfl) (fun w hw o ho => by rw [hC_5] at hw; exact run_load1 (b := b_x0) (off := 3) (c := C.int .i64 x0.words) ho (by kernel_rfl) (by kernel_rfl) (Cell.own 0 rfl (by kernel_rfl)) _ hw) fun a hs => ?_
  obtain ⟨v_8, h_7, hm⟩ := bind_t hm
  refine Vk.dOnly (i := 5) (by kernel_rfl) (Vk.call (some 10) 58 #[.pointer (some ⟨b_x0, 0, none⟩)] hs (by kernel_rfl) (by kernel_rfl) (by kernel_rfl) ?_)
  refine (wire_Machine_Len.ok k x0 v_8 h_7 κ w (S) b_x0 b_x0otape A_x0otapeowords c_x0otapeowords A_x0oops c_x0oops A_x0ovalues c_x0ovalues A_x0oblocks c_x0oblocks (Own.to hs.own [0, 1, 2, 3, 4, 5] 6 (by kernel_rfl) (by kernel_rfl))).mono ?_
  rintro _ w ⟨rfl, how⟩
  refine ⟨_, _, _, rfl, how, fun a hs => ?_⟩
  replace hcl : Own κ w C_5 := by rw [hC_5]; exact (Own.to hs.own [0, 1, 2, 3, 4, 5] 6 (by kernel_rfl) (by kernel_rfl))
  refine ⟨fun _ => hcl, ?_⟩
  refine Vk.dPuresT [10] [(15, .agg (vals [C.int .i64 x0.n, C.int .i64 0, C.int .i64 v_8, C.int .i64 x0.words, C.int .i64 0, C.bool true, C.int .i64 0, C.int .i64 0, C.int .i64 0, C.ptr none, C.slc none 0 0, C.slc none 0 0, C.slc none 0 0]))] hs (by kernel_rfl) (by repeat' (first | exact Vk.Calm.post | refine Vk.Calm.then ?_ | refine Vk.Calm.inBlock ?_)) hcl (by kernel_rfl) (by kernel_rfl) (fuel := 2) rfl fun a hs => ?_
  refine Vk.dOnly (i := 11) (by kernel_rfl) (Vk.box (x := (.tmp 15)) 16 151 [C.int .i64 x0.n, C.int .i64 0, C.int .i64 v_8, C.int .i64 x0.words, C.int .i64 0, C.bool true, C.int .i64 0, C.int .i64 0, C.int .i64 0, C.ptr none, C.slc none 0 0, C.slc none 0 0, C.slc none 0 0] hs (by kernel_rfl) (by kernel_rfl) (by kernel_rfl) fun b_9 w a hs => ?_)
  replace hcl : Own κ w C_5 := by rw [hC_5]; exact (Own.to hs.own [1, 2, 3, 4, 5, 6] 7 (by kernel_rfl) (by kernel_rfl))
  refine ⟨fun _ => hcl, ?_⟩
  refine Vk.dPuresT [12] [(2, .pointer (some ⟨b_9, 0, none⟩))] hs (by kernel_rfl) (by repeat' (first | exact Vk.Calm.post | refine Vk.Calm.then ?_ | refine Vk.Calm.inBlock ?_)) hcl (by kernel_rfl) (by kernel_rfl) (fuel := 0) rfl fun a hs => ?_
  replace hs := hs.pick [2] (L' := [(2, .pointer (some ⟨b_9, 0, none⟩))]) (by kernel_rfl)
  refine Vk.dDone (by kernel_rfl) ?_
  refine hK4 _ _ ?_
  clear hK4
  refine wp_ret ?_
  replace hs := hs.addRow none 23 1 (eI .u64)
  replace hs := hs.addOpt 0 (blk ([C.slc none (([] : List Int).length) 0, C.int .i64 0, C.int .i64 0]) 158)
  replace hs := hs.addRow none 32 6 Tapi_Op.cells
  replace hs := hs.addRow none 23 1 (eI .u64)
  replace hs := hs.addRow none 144 3 Tapi_Span.cells
  exact Vk.ret1 (P := Try.prog) (fn := Try.f68) (R := wire_Machine_Dry.R κ S x0 b_x0 b_x0otape A_x0otapeowords c_x0otapeowords A_x0oops c_x0oops A_x0ovalues c_x0ovalues A_x0oblocks c_x0oblocks r) (.pointer (some ⟨b_9, 0, none⟩)) hs rfl (by kernel_rfl) (by obtain rfl := Option.some.inj hm; exact ⟨b_9, 0, none, 0, none, 0, none, 0, none, 0, rfl, (Own.to hs.own [5, 3, 4, 2, 1, 0, 6, 7, 8, 9, 10, 11] 12 (by kernel_rfl) (by kernel_rfl))⟩)


abbrev wire_Machine_Values.R (κ : Ctx) (S : List HP) (x0 : Twire_Machine) (b_x0 : Nat) (b_x0otape : Nat) (A_x0otapeowords : Option Addr) (c_x0otapeowords : Nat) (A_x0oops : Option Addr) (c_x0oops : Nat) (A_x0ovalues : Option Addr) (c_x0ovalues : Nat) (A_x0oblocks : Option Addr) (c_x0oblocks : Nat) (r : List Int) : Ending → World → Prop := fun e w' => ∃ (A_r0 : Option Addr), ∃ (c_r0 : Nat), e = .returned (.slice A_r0 r.length c_r0) ∧ Own κ w' (rowp A_r0 c_r0 23 1 (eI .u64) r :: pt b_x0 (blk (Twire_Machine.obj x0 b_x0otape A_x0oops c_x0oops A_x0ovalues c_x0ovalues A_x0oblocks c_x0oblocks) 151) :: pto x0.dry b_x0otape (blk (Ttape_Tape.obj x0.tape A_x0otapeowords c_x0otapeowords) 158) :: rowp A_x0otapeowords c_x0otapeowords 23 1 (eI .u64) x0.tape.words :: rowp A_x0oops c_x0oops 32 6 Tapi_Op.cells x0.ops :: rowp A_x0ovalues c_x0ovalues 23 1 (eI .u64) x0.values :: rowp A_x0oblocks c_x0oblocks 144 3 Tapi_Span.cells x0.blocks :: S)
def wire_Machine_Values.m (k : Nat) (x0 : Twire_Machine) : Option (List Int) := (slices_Clone_uint64_uint64.m k x0.values).bind fun v_7 => some v_7

set_option maxRecDepth 100000 in
set_option maxHeartbeats 4000000 in
theorem wire_Machine_Values.ok (k : Nat) (x0 : Twire_Machine) (r : List Int) (hm : wire_Machine_Values.m k x0 = some r) (κ : Ctx) (w : World) (S : List HP) (b_x0 : Nat) (b_x0otape : Nat) (A_x0otapeowords : Option Addr) (c_x0otapeowords : Nat) (A_x0oops : Option Addr) (c_x0oops : Nat) (A_x0ovalues : Option Addr) (c_x0ovalues : Nat) (A_x0oblocks : Option Addr) (c_x0oblocks : Nat) (ho : Own κ w (pt b_x0 (blk (Twire_Machine.obj x0 b_x0otape A_x0oops c_x0oops A_x0ovalues c_x0ovalues A_x0oblocks c_x0oblocks) 151) :: pto x0.dry b_x0otape (blk (Ttape_Tape.obj x0.tape A_x0otapeowords c_x0otapeowords) 158) :: rowp A_x0otapeowords c_x0otapeowords 23 1 (eI .u64) x0.tape.words :: rowp A_x0oops c_x0oops 32 6 Tapi_Op.cells x0.ops :: rowp A_x0ovalues c_x0ovalues 23 1 (eI .u64) x0.values :: rowp A_x0oblocks c_x0oblocks 144 3 Tapi_Span.cells x0.blocks :: S)) :
    Calls Try.prog 53 #[.pointer (some ⟨b_x0, 0, none⟩)] w (wire_Machine_Values.R κ S x0 b_x0 b_x0otape A_x0otapeowords c_x0otapeowords A_x0oops c_x0oops A_x0ovalues c_x0ovalues A_x0oblocks c_x0oblocks r) := by
  unfold wire_Machine_Values.m at hm
  refine Vk.enter [(0, .pointer (some ⟨b_x0, 0, none⟩))] Try.func53 rfl Try.ntmps53 (by kernel_rfl) (Nat.le_of_ble_eq_true (by kernel_rfl)) ho fun a hs => ?_
  refine Vk.seq fun K1 hK1 => ?_
  refine Vk.region ?_
  refine Vk.pures 1 [(2, .slice none 0 0)] hs (by kernel_rfl) fun a hs => ?_
  replace hs := hs.pick [0] (L' := [(0, .pointer (some ⟨b_x0, 0, none⟩))]) (by kernel_rfl)
  refine Vk.done (by kernel_rfl) ?_
  refine hK1 _ _ ?_
  clear hK1
  refine Vk.seq fun K2 hK2 => ?_
  refine Vk.seq fun K3 hK3 => ?_
  refine Vk.region ?_
  refine Vk.pures 2 [(4, .bool false), (3, .pointer (some ⟨b_x0, 0, none⟩))] hs (by kernel_rfl) fun a hs => ?_
  replace hs := hs.pick [0, 4] (L' := [(0, .pointer (some ⟨b_x0, 0, none⟩)), (4, .bool false)]) (by kernel_rfl)
  refine Vk.done (by kernel_rfl) ?_
  refine hK3 _ _ ?_
  clear hK3
  refine Vk.condF hs (by kernel_rfl) (by kernel_rfl) ?_
  refine wp_skip ?_
  refine hK2 _ _ ?_
  clear hK2
  refine Vk.seq fun K4 hK4 => ?_
  refine Vk.region ?_
  refine Vk.pures 3 [(7, .pointer (some ⟨b_x0, 11, none⟩)), (6, .pointer (some ⟨b_x0, 0, none⟩)), (5, .pointer (some ⟨b_x0, 0, none⟩))] hs (by kernel_rfl) fun a hs => ?_
  refine Vk.step (Vk.value (some 8) (.slice A_x0ovalues x0.values.length c_x0ovalues) hs (by kernel_rfl) (op := (.load 73 (.tmp 7))) (by kernel_rfl) (fun o ho => run_load1 (b := b_x0) (off := 11) (c := C.slc A_x0ovalues x0.values.length c_x0ovalues) ho (by kernel_rfl) (by kernel_rfl) (Cell.own 0 rfl (by kernel_rfl)) _ hs.own) fun a hs => ?_)
  obtain ⟨v_7, h_6, hm⟩ := bind_t hm
  refine Vk.step (Vk.call (some 9) 90 #[.slice A_x0ovalues x0.values.length c_x0ovalues] hs (by kernel_rfl) (by kernel_rfl) (by kernel_rfl) ?_)
  refine (slices_Clone_uint64_uint64.ok k x0.values v_7 h_6 κ w (pt b_x0 (blk (Twire_Machine.obj x0 b_x0otape A_x0oops c_x0oops A_x0ovalues c_x0ovalues A_x0oblocks c_x0oblocks) 151) :: pto x0.dry b_x0otape (blk (Ttape_Tape.obj x0.tape A_x0otapeowords c_x0otapeowords) 158) :: rowp A_x0otapeowords c_x0otapeowords 23 1 (eI .u64) x0.tape.words :: rowp A_x0oops c_x0oops 32 6 Tapi_Op.cells x0.ops :: rowp A_x0ovalues c_x0ovalues 23 1 (eI .u64) x0.values :: rowp A_x0oblocks c_x0oblocks 144 3 Tapi_Span.cells x0.blocks :: S) A_x0ovalues c_x0ovalues (Sl.lift (fun w ho => (Own.to (S' := rowp A_x0ovalues c_x0ovalues 23 1 (eI .u64) x0.values :: S) ho [4] 6 (by kernel_rfl) (by kernel_rfl))) (Own.rowSl 0 (Own.to (S' := rowp A_x0ovalues c_x0ovalues 23 1 (eI .u64) x0.values :: S) hs.own [4] 6 (by kernel_rfl) (by kernel_rfl)) rfl)) hs.own).mono ?_
  rintro _ w ⟨Ar5x0_8, cr5x0_9, rfl, how⟩
  refine ⟨_, _, _, rfl, how, fun a hs => ?_⟩
  refine Vk.pures 1 [(2, .slice Ar5x0_8 v_7.length cr5x0_9)] hs (by kernel_rfl) fun a hs => ?_
  replace hs := hs.pick [2] (L' := [(2, .slice Ar5x0_8 v_7.length cr5x0_9)]) (by kernel_rfl)
  refine Vk.done (by kernel_rfl) ?_
  refine hK4 _ _ ?_
  clear hK4
  refine wp_ret ?_
  exact Vk.ret1 (P := Try.prog) (fn := Try.f53) (R := wire_Machine_Values.R κ S x0 b_x0 b_x0otape A_x0otapeowords c_x0otapeowords A_x0oops c_x0oops A_x0ovalues c_x0ovalues A_x0oblocks c_x0oblocks r) (.slice Ar5x0_8 v_7.length cr5x0_9) hs rfl (by kernel_rfl) (by obtain rfl := Option.some.inj hm; exact ⟨Ar5x0_8, cr5x0_9, rfl, (Own.to hs.own [0, 1, 2, 3, 4, 5, 6] 7 (by kernel_rfl) (by kernel_rfl))⟩)


abbrev wire_Machine_N.R (κ : Ctx) (S : List HP) (x0 : Twire_Machine) (b_x0 : Nat) (b_x0otape : Nat) (A_x0otapeowords : Option Addr) (c_x0otapeowords : Nat) (A_x0oops : Option Addr) (c_x0oops : Nat) (A_x0ovalues : Option Addr) (c_x0ovalues : Nat) (A_x0oblocks : Option Addr) (c_x0oblocks : Nat) (r : Int) : Ending → World → Prop := fun e w' => e = .returned (.int .i64 r) ∧ Own κ w' (pt b_x0 (blk (Twire_Machine.obj x0 b_x0otape A_x0oops c_x0oops A_x0ovalues c_x0ovalues A_x0oblocks c_x0oblocks) 151) :: pto x0.dry b_x0otape (blk (Ttape_Tape.obj x0.tape A_x0otapeowords c_x0otapeowords) 158) :: rowp A_x0otapeowords c_x0otapeowords 23 1 (eI .u64) x0.tape.words :: rowp A_x0oops c_x0oops 32 6 Tapi_Op.cells x0.ops :: rowp A_x0ovalues c_x0ovalues 23 1 (eI .u64) x0.values :: rowp A_x0oblocks c_x0oblocks 144 3 Tapi_Span.cells x0.blocks :: S)
def wire_Machine_N.m (k : Nat) (x0 : Twire_Machine) : Option Int := some x0.n

set_option maxRecDepth 100000 in
set_option maxHeartbeats 4000000 in
theorem wire_Machine_N.ok (k : Nat) (x0 : Twire_Machine) (r : Int) (hm : wire_Machine_N.m k x0 = some r) (κ : Ctx) (w : World) (S : List HP) (b_x0 : Nat) (b_x0otape : Nat) (A_x0otapeowords : Option Addr) (c_x0otapeowords : Nat) (A_x0oops : Option Addr) (c_x0oops : Nat) (A_x0ovalues : Option Addr) (c_x0ovalues : Nat) (A_x0oblocks : Option Addr) (c_x0oblocks : Nat) (ho : Own κ w (pt b_x0 (blk (Twire_Machine.obj x0 b_x0otape A_x0oops c_x0oops A_x0ovalues c_x0ovalues A_x0oblocks c_x0oblocks) 151) :: pto x0.dry b_x0otape (blk (Ttape_Tape.obj x0.tape A_x0otapeowords c_x0otapeowords) 158) :: rowp A_x0otapeowords c_x0otapeowords 23 1 (eI .u64) x0.tape.words :: rowp A_x0oops c_x0oops 32 6 Tapi_Op.cells x0.ops :: rowp A_x0ovalues c_x0ovalues 23 1 (eI .u64) x0.values :: rowp A_x0oblocks c_x0oblocks 144 3 Tapi_Span.cells x0.blocks :: S)) :
    Calls Try.prog 88 #[.pointer (some ⟨b_x0, 0, none⟩)] w (wire_Machine_N.R κ S x0 b_x0 b_x0otape A_x0otapeowords c_x0otapeowords A_x0oops c_x0oops A_x0ovalues c_x0ovalues A_x0oblocks c_x0oblocks r) := by
  unfold wire_Machine_N.m at hm
  refine Vk.enter [(0, .pointer (some ⟨b_x0, 0, none⟩))] Try.func88 rfl Try.ntmps88 (by kernel_rfl) (Nat.le_of_ble_eq_true (by kernel_rfl)) ho fun a hs => ?_
  refine Vk.seq fun K1 hK1 => ?_
  refine Vk.region ?_
  refine Vk.pures 1 [(2, .int .i64 0)] hs (by kernel_rfl) fun a hs => ?_
  replace hs := hs.pick [0] (L' := [(0, .pointer (some ⟨b_x0, 0, none⟩))]) (by kernel_rfl)
  refine Vk.done (by kernel_rfl) ?_
  refine hK1 _ _ ?_
  clear hK1
  refine Vk.seq fun K2 hK2 => ?_
  refine Vk.seq fun K3 hK3 => ?_
  refine Vk.region ?_
  refine Vk.pures 2 [(4, .bool false), (3, .pointer (some ⟨b_x0, 0, none⟩))] hs (by kernel_rfl) fun a hs => ?_
  replace hs := hs.pick [0, 4] (L' := [(0, .pointer (some ⟨b_x0, 0, none⟩)), (4, .bool false)]) (by kernel_rfl)
  refine Vk.done (by kernel_rfl) ?_
  refine hK3 _ _ ?_
  clear hK3
  refine Vk.condF hs (by kernel_rfl) (by kernel_rfl) ?_
  refine wp_skip ?_
  refine hK2 _ _ ?_
  clear hK2
  refine Vk.seq fun K4 hK4 => ?_
  refine Vk.region ?_
  refine Vk.pures 3 [(7, .pointer (some ⟨b_x0, 0, none⟩)), (6, .pointer (some ⟨b_x0, 0, none⟩)), (5, .pointer (some ⟨b_x0, 0, none⟩))] hs (by kernel_rfl) fun a hs => ?_
  refine Vk.step (Vk.value (some 8) (.int .i64 x0.n) hs (by kernel_rfl) (op := (.load 3 (.tmp 7))) (by kernel_rfl) (fun o ho => run_load1 (b := b_x0) (off := 0) (c := C.int .i64 x0.n) ho (by kernel_rfl) (by kernel_rfl) (Cell.own 0 rfl (by kernel_rfl)) _ hs.own) fun a hs => ?_)
  refine Vk.pures 1 [(2, .int .i64 x0.n)] hs (by kernel_rfl) fun a hs => ?_
  replace hs := hs.pick [2] (L' := [(2, .int .i64 x0.n)]) (by kernel_rfl)
  refine Vk.done (by kernel_rfl) ?_
  refine hK4 _ _ ?_
  clear hK4
  refine wp_ret ?_
  exact Vk.ret1 (P := Try.prog) (fn := Try.f88) (R := wire_Machine_N.R κ S x0 b_x0 b_x0otape A_x0otapeowords c_x0otapeowords A_x0oops c_x0oops A_x0ovalues c_x0ovalues A_x0oblocks c_x0oblocks r) (.int .i64 x0.n) hs rfl (by kernel_rfl) (by obtain rfl := Option.some.inj hm; exact ⟨rfl, (Own.to hs.own [0, 1, 2, 3, 4, 5] 6 (by kernel_rfl) (by kernel_rfl))⟩)


abbrev wire_Machine_Draws.R (κ : Ctx) (S : List HP) (x0 : Twire_Machine) (b_x0 : Nat) (b_x0otape : Nat) (A_x0otapeowords : Option Addr) (c_x0otapeowords : Nat) (A_x0oops : Option Addr) (c_x0oops : Nat) (A_x0ovalues : Option Addr) (c_x0ovalues : Nat) (A_x0oblocks : Option Addr) (c_x0oblocks : Nat) (r : Int) : Ending → World → Prop := fun e w' => e = .returned (.int .i64 r) ∧ Own κ w' (pt b_x0 (blk (Twire_Machine.obj x0 b_x0otape A_x0oops c_x0oops A_x0ovalues c_x0ovalues A_x0oblocks c_x0oblocks) 151) :: pto x0.dry b_x0otape (blk (Ttape_Tape.obj x0.tape A_x0otapeowords c_x0otapeowords) 158) :: rowp A_x0otapeowords c_x0otapeowords 23 1 (eI .u64) x0.tape.words :: rowp A_x0oops c_x0oops 32 6 Tapi_Op.cells x0.ops :: rowp A_x0ovalues c_x0ovalues 23 1 (eI .u64) x0.values :: rowp A_x0oblocks c_x0oblocks 144 3 Tapi_Span.cells x0.blocks :: S)
def wire_Machine_Draws.m (k : Nat) (x0 : Twire_Machine) : Option Int := some x0.draws

set_option maxRecDepth 100000 in
set_option maxHeartbeats 4000000 in
theorem wire_Machine_Draws.ok (k : Nat) (x0 : Twire_Machine) (r : Int) (hm : wire_Machine_Draws.m k x0 = some r) (κ : Ctx) (w : World) (S : List HP) (b_x0 : Nat) (b_x0otape : Nat) (A_x0otapeowords : Option Addr) (c_x0otapeowords : Nat) (A_x0oops : Option Addr) (c_x0oops : Nat) (A_x0ovalues : Option Addr) (c_x0ovalues : Nat) (A_x0oblocks : Option Addr) (c_x0oblocks : Nat) (ho : Own κ w (pt b_x0 (blk (Twire_Machine.obj x0 b_x0otape A_x0oops c_x0oops A_x0ovalues c_x0ovalues A_x0oblocks c_x0oblocks) 151) :: pto x0.dry b_x0otape (blk (Ttape_Tape.obj x0.tape A_x0otapeowords c_x0otapeowords) 158) :: rowp A_x0otapeowords c_x0otapeowords 23 1 (eI .u64) x0.tape.words :: rowp A_x0oops c_x0oops 32 6 Tapi_Op.cells x0.ops :: rowp A_x0ovalues c_x0ovalues 23 1 (eI .u64) x0.values :: rowp A_x0oblocks c_x0oblocks 144 3 Tapi_Span.cells x0.blocks :: S)) :
    Calls Try.prog 99 #[.pointer (some ⟨b_x0, 0, none⟩)] w (wire_Machine_Draws.R κ S x0 b_x0 b_x0otape A_x0otapeowords c_x0otapeowords A_x0oops c_x0oops A_x0ovalues c_x0ovalues A_x0oblocks c_x0oblocks r) := by
  unfold wire_Machine_Draws.m at hm
  refine Vk.enter [(0, .pointer (some ⟨b_x0, 0, none⟩))] Try.func99 rfl Try.ntmps99 (by kernel_rfl) (Nat.le_of_ble_eq_true (by kernel_rfl)) ho fun a hs => ?_
  refine Vk.seq fun K1 hK1 => ?_
  refine Vk.region ?_
  refine Vk.pures 1 [(2, .int .i64 0)] hs (by kernel_rfl) fun a hs => ?_
  replace hs := hs.pick [0] (L' := [(0, .pointer (some ⟨b_x0, 0, none⟩))]) (by kernel_rfl)
  refine Vk.done (by kernel_rfl) ?_
  refine hK1 _ _ ?_
  clear hK1
  refine Vk.seq fun K2 hK2 => ?_
  refine Vk.seq fun K3 hK3 => ?_
  refine Vk.region ?_
  refine Vk.pures 2 [(4, .bool false), (3, .pointer (some ⟨b_x0, 0, none⟩))] hs (by kernel_rfl) fun a hs => ?_
  replace hs := hs.pick [0, 4] (L' := [(0, .pointer (some ⟨b_x0, 0, none⟩)), (4, .bool false)]) (by kernel_rfl)
  refine Vk.done (by kernel_rfl) ?_
  refine hK3 _ _ ?_
  clear hK3
  refine Vk.condF hs (by kernel_rfl) (by kernel_rfl) ?_
  refine wp_skip ?_
  refine hK2 _ _ ?_
  clear hK2
  refine Vk.seq fun K4 hK4 => ?_
  refine Vk.region ?_
  refine Vk.pures 3 [(7, .pointer (some ⟨b_x0, 4, none⟩)), (6, .pointer (some ⟨b_x0, 0, none⟩)), (5, .pointer (some ⟨b_x0, 0, none⟩))] hs (by kernel_rfl) fun a hs => ?_
  refine Vk.step (Vk.value (some 8) (.int .i64 x0.draws) hs (by kernel_rfl) (op := (.load 3 (.tmp 7))) (by kernel_rfl) (fun o ho => run_load1 (b := b_x0) (off := 4) (c := C.int .i64 x0.draws) ho (by kernel_rfl) (by kernel_rfl) (Cell.own 0 rfl (by kernel_rfl)) _ hs.own) fun a hs => ?_)
  refine Vk.pures 1 [(2, .int .i64 x0.draws)] hs (by kernel_rfl) fun a hs => ?_
  replace hs := hs.pick [2] (L' := [(2, .int .i64 x0.draws)]) (by kernel_rfl)
  refine Vk.done (by kernel_rfl) ?_
  refine hK4 _ _ ?_
  clear hK4
  refine wp_ret ?_
  exact Vk.ret1 (P := Try.prog) (fn := Try.f99) (R := wire_Machine_Draws.R κ S x0 b_x0 b_x0otape A_x0otapeowords c_x0otapeowords A_x0oops c_x0oops A_x0ovalues c_x0ovalues A_x0oblocks c_x0oblocks r) (.int .i64 x0.draws) hs rfl (by kernel_rfl) (by obtain rfl := Option.some.inj hm; exact ⟨rfl, (Own.to hs.own [0, 1, 2, 3, 4, 5] 6 (by kernel_rfl) (by kernel_rfl))⟩)


abbrev slices_Clone_api_Op_api_Op.R (κ : Ctx) (S : List HP) (x0 : List Tapi_Op) (A_x0 : Option Addr) (c_x0 : Nat) (r : List Tapi_Op) : Ending → World → Prop := fun e w' => ∃ (A_r0 : Option Addr), ∃ (c_r0 : Nat), e = .returned (.slice A_r0 r.length c_r0) ∧ Own κ w' (rowp A_r0 c_r0 32 6 Tapi_Op.cells r :: S)
def slices_Clone_api_Op_api_Op.m (k : Nat) (x0 : List Tapi_Op) : Option (List Tapi_Op) := (if (([] : List Tapi_Op).length + x0.length) * 48 ≤ 140737488355328 then some (([] : List Tapi_Op) ++ x0) else none)

set_option maxRecDepth 100000 in
set_option maxHeartbeats 4000000 in
theorem slices_Clone_api_Op_api_Op.ok (k : Nat) (x0 : List Tapi_Op) (r : List Tapi_Op) (hm : slices_Clone_api_Op_api_Op.m k x0 = some r) (κ : Ctx) (w : World) (S : List HP) (A_x0 : Option Addr) (c_x0 : Nat) (hx_x0 : Sl κ S A_x0 c_x0 6 Tapi_Op.cells x0) (ho : Own κ w (S)) :
    Calls Try.prog 82 #[.slice A_x0 x0.length c_x0] w (slices_Clone_api_Op_api_Op.R κ S x0 A_x0 c_x0 r) := by
  unfold slices_Clone_api_Op_api_Op.m at hm
  rcases A_x0 with _ | p_x0
  · obtain rfl : c_x0 = 0 := hx_x0.none rfl
    obtain rfl : x0 = [] := List.length_eq_zero_iff.1 (Nat.le_zero.1 hx_x0.le)
    replace hm : some ([] : List Tapi_Op) = some r := by simpa using hm
    refine Vk.enter [(0, .slice none 0 0)] Try.func82 rfl Try.ntmps82 (by kernel_rfl) (Nat.le_of_ble_eq_true (by kernel_rfl)) ho fun a hs => ?_
    refine Vk.seq fun K1 hK1 => ?_
    refine Vk.region ?_
    refine Vk.pures 1 [(2, .slice none 0 0)] hs (by kernel_rfl) fun a hs => ?_
    replace hs := hs.pick [0] (L' := [(0, .slice none 0 0)]) (by kernel_rfl)
    refine Vk.done (by kernel_rfl) ?_
    refine hK1 _ _ ?_
    clear hK1
    refine Vk.seq fun K2 hK2 => ?_
    refine Vk.seq fun K3 hK3 => ?_
    refine Vk.region ?_
    refine Vk.pures 2 [(4, .bool true), (3, .slice none 0 0)] hs (by kernel_rfl) fun a hs => ?_
    replace hs := hs.pick [0, 4] (L' := [(0, .slice none 0 0), (4, .bool true)]) (by kernel_rfl)
    refine Vk.done (by kernel_rfl) ?_
    refine hK3 _ _ ?_
    clear hK3
    refine Vk.condT hs (by kernel_rfl) (by kernel_rfl) ?_
    refine Vk.seq fun K4 hK4 => ?_
    refine Vk.region ?_
    refine Vk.pures 1 [(2, .slice none 0 0)] hs (by kernel_rfl) fun a hs => ?_
    replace hs := hs.pick [2] (L' := [(2, .slice none 0 0)]) (by kernel_rfl)
    refine Vk.done (by kernel_rfl) ?_
    refine hK4 _ _ ?_
    clear hK4
    refine wp_ret ?_
    replace hs := hs.addRow none 32 6 Tapi_Op.cells
    exact Vk.ret1 (P := Try.prog) (fn := Try.f82) (R := slices_Clone_api_Op_api_Op.R κ S [] none 0 r) (.slice none (([] : List Tapi_Op).length) 0) hs rfl (by kernel_rfl) (by obtain rfl := Option.some.inj hm; exact ⟨none, 0, rfl, (Own.to hs.own [0] 1 (by kernel_rfl) (by kernel_rfl))⟩)
  · skip
    refine Vk.enter [(0, .slice (some p_x0) x0.length c_x0)] Try.func82 rfl Try.ntmps82 (by kernel_rfl) (Nat.le_of_ble_eq_true (by kernel_rfl)) ho fun a hs => ?_
    refine Vk.seq fun K1 hK1 => ?_
    refine Vk.region ?_
    refine Vk.pures 1 [(2, .slice none 0 0)] hs (by kernel_rfl) fun a hs => ?_
    replace hs := hs.pick [0] (L' := [(0, .slice (some p_x0) x0.length c_x0)]) (by kernel_rfl)
    refine Vk.done (by kernel_rfl) ?_
    refine hK1 _ _ ?_
    clear hK1
    refine Vk.seq fun K2 hK2 => ?_
    refine Vk.seq fun K3 hK3 => ?_
    refine Vk.region ?_
    refine Vk.pures 2 [(4, .bool false), (3, .slice (some p_x0) x0.length c_x0)] hs (by kernel_rfl) fun a hs => ?_
    replace hs := hs.pick [0, 4] (L' := [(0, .slice (some p_x0) x0.length c_x0), (4, .bool false)]) (by kernel_rfl)
    refine Vk.done (by kernel_rfl) ?_
    refine hK3 _ _ ?_
    clear hK3
    refine Vk.condF hs (by kernel_rfl) (by kernel_rfl) ?_
    refine wp_skip ?_
    refine hK2 _ _ ?_
    clear hK2
    refine Vk.seq fun K4 hK4 => ?_
    refine Vk.region ?_
    refine Vk.step (Vk.buildOp (sz := 6) (by_ := 48) (t := 69) (e := 32) (parts := #[]) (zs := vals [C.int .i64 0, C.int .i64 0, C.int .i64 0, C.int .i64 0, C.int .i64 0, C.int .u64 0]) ([] : List Tapi_Op) Tapi_Op.cells (some 5) hs (by kernel_rfl) (by kernel_rfl) (by kernel_rfl) (by kernel_rfl) (by decide) rfl (fun x _ => rfl) (Nat.le_of_ble_eq_true (by kernel_rfl)) (by kernel_rfl) fun A_5 w a hs => ?_)
    refine Vk.pures 1 [(6, .slice (some p_x0) x0.length c_x0)] hs (by kernel_rfl) fun a hs => ?_
    obtain ⟨h_7, hm⟩ := ite_t hm
    refine Vk.step (Vk.appendOp (x := (.tmp 5)) (y := (.tmp 6)) (e := 32) (t := 69) (by_ := 48) (sz := 6) (enc := Tapi_Op.cells) (A := A_5) (cap := 0) (xs := ([] : List Tapi_Op)) (ys := x0) (B := (some p_x0)) (c2 := c_x0) 0 (some 7) hs (by kernel_rfl) (by kernel_rfl) (by kernel_rfl) (by kernel_rfl) rfl hx_x0.less (by kernel_rfl) (by kernel_rfl) (by decide) (by decide) h_7 fun A_8 c_9 w a hs => ?_)
    refine Vk.pures 1 [(2, .slice A_8 ((([] : List Tapi_Op) ++ x0).length) c_9)] hs (by kernel_rfl) fun a hs => ?_
    replace hs := hs.pick [2] (L' := [(2, .slice A_8 ((([] : List Tapi_Op) ++ x0).length) c_9)]) (by kernel_rfl)
    refine Vk.done (by kernel_rfl) ?_
    refine hK4 _ _ ?_
    clear hK4
    refine wp_ret ?_
    exact Vk.ret1 (P := Try.prog) (fn := Try.f82) (R := slices_Clone_api_Op_api_Op.R κ S x0 (some p_x0) c_x0 r) (.slice A_8 ((([] : List Tapi_Op) ++ x0).length) c_9) hs rfl (by kernel_rfl) (by obtain rfl := Option.some.inj hm; exact ⟨A_8, c_9, rfl, (Own.to hs.own [0] 1 (by kernel_rfl) (by kernel_rfl))⟩)


abbrev slices_Clone_api_Span_api_Span.R (κ : Ctx) (S : List HP) (x0 : List Tapi_Span) (A_x0 : Option Addr) (c_x0 : Nat) (r : List Tapi_Span) : Ending → World → Prop := fun e w' => ∃ (A_r0 : Option Addr), ∃ (c_r0 : Nat), e = .returned (.slice A_r0 r.length c_r0) ∧ Own κ w' (rowp A_r0 c_r0 144 3 Tapi_Span.cells r :: S)
def slices_Clone_api_Span_api_Span.m (k : Nat) (x0 : List Tapi_Span) : Option (List Tapi_Span) := (if (([] : List Tapi_Span).length + x0.length) * 24 ≤ 140737488355328 then some (([] : List Tapi_Span) ++ x0) else none)

set_option maxRecDepth 100000 in
set_option maxHeartbeats 4000000 in
theorem slices_Clone_api_Span_api_Span.ok (k : Nat) (x0 : List Tapi_Span) (r : List Tapi_Span) (hm : slices_Clone_api_Span_api_Span.m k x0 = some r) (κ : Ctx) (w : World) (S : List HP) (A_x0 : Option Addr) (c_x0 : Nat) (hx_x0 : Sl κ S A_x0 c_x0 3 Tapi_Span.cells x0) (ho : Own κ w (S)) :
    Calls Try.prog 83 #[.slice A_x0 x0.length c_x0] w (slices_Clone_api_Span_api_Span.R κ S x0 A_x0 c_x0 r) := by
  unfold slices_Clone_api_Span_api_Span.m at hm
  rcases A_x0 with _ | p_x0
  · obtain rfl : c_x0 = 0 := hx_x0.none rfl
    obtain rfl : x0 = [] := List.length_eq_zero_iff.1 (Nat.le_zero.1 hx_x0.le)
    replace hm : some ([] : List Tapi_Span) = some r := by simpa using hm
    refine Vk.enter [(0, .slice none 0 0)] Try.func83 rfl Try.ntmps83 (by kernel_rfl) (Nat.le_of_ble_eq_true (by kernel_rfl)) ho fun a hs => ?_
    refine Vk.seq fun K1 hK1 => ?_
    refine Vk.region ?_
    refine Vk.pures 1 [(2, .slice none 0 0)] hs (by kernel_rfl) fun a hs => ?_
    replace hs := hs.pick [0] (L' := [(0, .slice none 0 0)]) (by kernel_rfl)
    refine Vk.done (by kernel_rfl) ?_
    refine hK1 _ _ ?_
    clear hK1
    refine Vk.seq fun K2 hK2 => ?_
    refine Vk.seq fun K3 hK3 => ?_
    refine Vk.region ?_
    refine Vk.pures 2 [(4, .bool true), (3, .slice none 0 0)] hs (by kernel_rfl) fun a hs => ?_
    replace hs := hs.pick [0, 4] (L' := [(0, .slice none 0 0), (4, .bool true)]) (by kernel_rfl)
    refine Vk.done (by kernel_rfl) ?_
    refine hK3 _ _ ?_
    clear hK3
    refine Vk.condT hs (by kernel_rfl) (by kernel_rfl) ?_
    refine Vk.seq fun K4 hK4 => ?_
    refine Vk.region ?_
    refine Vk.pures 1 [(2, .slice none 0 0)] hs (by kernel_rfl) fun a hs => ?_
    replace hs := hs.pick [2] (L' := [(2, .slice none 0 0)]) (by kernel_rfl)
    refine Vk.done (by kernel_rfl) ?_
    refine hK4 _ _ ?_
    clear hK4
    refine wp_ret ?_
    replace hs := hs.addRow none 144 3 Tapi_Span.cells
    exact Vk.ret1 (P := Try.prog) (fn := Try.f83) (R := slices_Clone_api_Span_api_Span.R κ S [] none 0 r) (.slice none (([] : List Tapi_Span).length) 0) hs rfl (by kernel_rfl) (by obtain rfl := Option.some.inj hm; exact ⟨none, 0, rfl, (Own.to hs.own [0] 1 (by kernel_rfl) (by kernel_rfl))⟩)
  · skip
    refine Vk.enter [(0, .slice (some p_x0) x0.length c_x0)] Try.func83 rfl Try.ntmps83 (by kernel_rfl) (Nat.le_of_ble_eq_true (by kernel_rfl)) ho fun a hs => ?_
    refine Vk.seq fun K1 hK1 => ?_
    refine Vk.region ?_
    refine Vk.pures 1 [(2, .slice none 0 0)] hs (by kernel_rfl) fun a hs => ?_
    replace hs := hs.pick [0] (L' := [(0, .slice (some p_x0) x0.length c_x0)]) (by kernel_rfl)
    refine Vk.done (by kernel_rfl) ?_
    refine hK1 _ _ ?_
    clear hK1
    refine Vk.seq fun K2 hK2 => ?_
    refine Vk.seq fun K3 hK3 => ?_
    refine Vk.region ?_
    refine Vk.pures 2 [(4, .bool false), (3, .slice (some p_x0) x0.length c_x0)] hs (by kernel_rfl) fun a hs => ?_
    replace hs := hs.pick [0, 4] (L' := [(0, .slice (some p_x0) x0.length c_x0), (4, .bool false)]) (by kernel_rfl)
    refine Vk.done (by kernel_rfl) ?_
    refine hK3 _ _ ?_
    clear hK3
    refine Vk.condF hs (by kernel_rfl) (by kernel_rfl) ?_
    refine wp_skip ?_
    refine hK2 _ _ ?_
    clear hK2
    refine Vk.seq fun K4 hK4 => ?_
    refine Vk.region ?_
    refine Vk.step (Vk.buildOp (sz := 3) (by_ := 24) (t := 70) (e := 144) (parts := #[]) (zs := vals [C.int .i64 0, C.int .i64 0, C.int .i64 0]) ([] : List Tapi_Span) Tapi_Span.cells (some 5) hs (by kernel_rfl) (by kernel_rfl) (by kernel_rfl) (by kernel_rfl) (by decide) rfl (fun x _ => rfl) (Nat.le_of_ble_eq_true (by kernel_rfl)) (by kernel_rfl) fun A_5 w a hs => ?_)
    refine Vk.pures 1 [(6, .slice (some p_x0) x0.length c_x0)] hs (by kernel_rfl) fun a hs => ?_
    obtain ⟨h_7, hm⟩ := ite_t hm
    refine Vk.step (Vk.appendOp (x := (.tmp 5)) (y := (.tmp 6)) (e := 144) (t := 70) (by_ := 24) (sz := 3) (enc := Tapi_Span.cells) (A := A_5) (cap := 0) (xs := ([] : List Tapi_Span)) (ys := x0) (B := (some p_x0)) (c2 := c_x0) 0 (some 7) hs (by kernel_rfl) (by kernel_rfl) (by kernel_rfl) (by kernel_rfl) rfl hx_x0.less (by kernel_rfl) (by kernel_rfl) (by decide) (by decide) h_7 fun A_8 c_9 w a hs => ?_)
    refine Vk.pures 1 [(2, .slice A_8 ((([] : List Tapi_Span) ++ x0).length) c_9)] hs (by kernel_rfl) fun a hs => ?_
    replace hs := hs.pick [2] (L' := [(2, .slice A_8 ((([] : List Tapi_Span) ++ x0).length) c_9)]) (by kernel_rfl)
    refine Vk.done (by kernel_rfl) ?_
    refine hK4 _ _ ?_
    clear hK4
    refine wp_ret ?_
    exact Vk.ret1 (P := Try.prog) (fn := Try.f83) (R := slices_Clone_api_Span_api_Span.R κ S x0 (some p_x0) c_x0 r) (.slice A_8 ((([] : List Tapi_Span) ++ x0).length) c_9) hs rfl (by kernel_rfl) (by obtain rfl := Option.some.inj hm; exact ⟨A_8, c_9, rfl, (Own.to hs.own [0] 1 (by kernel_rfl) (by kernel_rfl))⟩)

structure Tapi_Trace where
  n : Int
  ops : List Tapi_Op
  blocks : List Tapi_Span
  deriving Inhabited
def Tapi_Trace.obj (x : Tapi_Trace) (Aops : Option Addr) (cops : Nat) (Ablocks : Option Addr) (cblocks : Nat) : Cells := [C.int .i64 x.n, C.slc Aops x.ops.length cops, C.slc Ablocks x.blocks.length cblocks]

abbrev wire_Machine_Trace.R (κ : Ctx) (S : List HP) (x0 : Twire_Machine) (b_x0 : Nat) (b_x0otape : Nat) (A_x0otapeowords : Option Addr) (c_x0otapeowords : Nat) (A_x0oops : Option Addr) (c_x0oops : Nat) (A_x0ovalues : Option Addr) (c_x0ovalues : Nat) (A_x0oblocks : Option Addr) (c_x0oblocks : Nat) (r : Tapi_Trace) : Ending → World → Prop := fun e w' => ∃ (A_r0ops : Option Addr), ∃ (c_r0ops : Nat), ∃ (A_r0blocks : Option Addr), ∃ (c_r0blocks : Nat), e = .returned (.agg (vals [C.int .i64 r.n, C.slc A_r0ops r.ops.length c_r0ops, C.slc A_r0blocks r.blocks.length c_r0blocks])) ∧ Own κ w' (rowp A_r0ops c_r0ops 32 6 Tapi_Op.cells r.ops :: rowp A_r0blocks c_r0blocks 144 3 Tapi_Span.cells r.blocks :: pt b_x0 (blk (Twire_Machine.obj x0 b_x0otape A_x0oops c_x0oops A_x0ovalues c_x0ovalues A_x0oblocks c_x0oblocks) 151) :: pto x0.dry b_x0otape (blk (Ttape_Tape.obj x0.tape A_x0otapeowords c_x0otapeowords) 158) :: rowp A_x0otapeowords c_x0otapeowords 23 1 (eI .u64) x0.tape.words :: rowp A_x0oops c_x0oops 32 6 Tapi_Op.cells x0.ops :: rowp A_x0ovalues c_x0ovalues 23 1 (eI .u64) x0.values :: rowp A_x0oblocks c_x0oblocks 144 3 Tapi_Span.cells x0.blocks :: S)
def wire_Machine_Trace.m (k : Nat) (x0 : Twire_Machine) : Option Tapi_Trace := (slices_Clone_api_Op_api_Op.m k x0.ops).bind fun v_9 => (slices_Clone_api_Span_api_Span.m k x0.blocks).bind fun v_14 => some (⟨x0.n, v_9, v_14⟩ : Tapi_Trace)

set_option maxRecDepth 100000 in
set_option maxHeartbeats 4000000 in
theorem wire_Machine_Trace.ok (k : Nat) (x0 : Twire_Machine) (r : Tapi_Trace) (hm : wire_Machine_Trace.m k x0 = some r) (κ : Ctx) (w : World) (S : List HP) (b_x0 : Nat) (b_x0otape : Nat) (A_x0otapeowords : Option Addr) (c_x0otapeowords : Nat) (A_x0oops : Option Addr) (c_x0oops : Nat) (A_x0ovalues : Option Addr) (c_x0ovalues : Nat) (A_x0oblocks : Option Addr) (c_x0oblocks : Nat) (ho : Own κ w (pt b_x0 (blk (Twire_Machine.obj x0 b_x0otape A_x0oops c_x0oops A_x0ovalues c_x0ovalues A_x0oblocks c_x0oblocks) 151) :: pto x0.dry b_x0otape (blk (Ttape_Tape.obj x0.tape A_x0otapeowords c_x0otapeowords) 158) :: rowp A_x0otapeowords c_x0otapeowords 23 1 (eI .u64) x0.tape.words :: rowp A_x0oops c_x0oops 32 6 Tapi_Op.cells x0.ops :: rowp A_x0ovalues c_x0ovalues 23 1 (eI .u64) x0.values :: rowp A_x0oblocks c_x0oblocks 144 3 Tapi_Span.cells x0.blocks :: S)) :
    Calls Try.prog 65 #[.pointer (some ⟨b_x0, 0, none⟩)] w (wire_Machine_Trace.R κ S x0 b_x0 b_x0otape A_x0otapeowords c_x0otapeowords A_x0oops c_x0oops A_x0ovalues c_x0ovalues A_x0oblocks c_x0oblocks r) := by
  unfold wire_Machine_Trace.m at hm
  refine Vk.enter [(0, .pointer (some ⟨b_x0, 0, none⟩))] Try.func65 rfl Try.ntmps65 (by kernel_rfl) (Nat.le_of_ble_eq_true (by kernel_rfl)) ho fun a hs => ?_
  refine Vk.seq fun K1 hK1 => ?_
  refine Vk.region ?_
  refine Vk.step (Vk.alloc 2 72 [C.int .i64 0, C.slc none 0 0, C.slc none 0 0] hs (by kernel_rfl) (by kernel_rfl) (by kernel_rfl) fun b_2 w a hs => ?_)
  replace hs := hs.pick [0, 2] (L' := [(0, .pointer (some ⟨b_x0, 0, none⟩)), (2, .pointer (some ⟨b_2, 0, none⟩))]) (by kernel_rfl)
  refine Vk.done (by kernel_rfl) ?_
  refine hK1 _ _ ?_
  clear hK1
  refine Vk.seq fun K3 hK3 => ?_
  refine Vk.seq fun K4 hK4 => ?_
  refine Vk.region ?_
  refine Vk.pures 2 [(4, .bool false), (3, .pointer (some ⟨b_x0, 0, none⟩))] hs (by kernel_rfl) fun a hs => ?_
  replace hs := hs.pick [0, 2, 4] (L' := [(0, .pointer (some ⟨b_x0, 0, none⟩)), (2, .pointer (some ⟨b_2, 0, none⟩)), (4, .bool false)]) (by kernel_rfl)
  refine Vk.done (by kernel_rfl) ?_
  refine hK4 _ _ ?_
  clear hK4
  refine Vk.condF hs (by kernel_rfl) (by kernel_rfl) ?_
  refine wp_skip ?_
  refine hK3 _ _ ?_
  clear hK3
  refine Vk.seq fun K5 hK5 => ?_
  obtain ⟨C_6, hC_6⟩ : ∃ X0 : List HP, X0 = (pt b_2 (blk [C.int .i64 0, C.slc none 0 0, C.slc none 0 0] 72) :: pt b_x0 (blk (Twire_Machine.obj x0 b_x0otape A_x0oops c_x0oops A_x0ovalues c_x0ovalues A_x0oblocks c_x0oblocks) 151) :: pto x0.dry b_x0otape (blk (Ttape_Tape.obj x0.tape A_x0otapeowords c_x0otapeowords) 158) :: rowp A_x0otapeowords c_x0otapeowords 23 1 (eI .u64) x0.tape.words :: rowp A_x0oops c_x0oops 32 6 Tapi_Op.cells x0.ops :: rowp A_x0ovalues c_x0ovalues 23 1 (eI .u64) x0.values :: rowp A_x0oblocks c_x0oblocks 144 3 Tapi_Span.cells x0.blocks :: S) := ⟨_, rfl⟩
  refine Vk.drawnT 15 κ C_6 hs (by kernel_rfl) fun w hs => ?_
  have hcz : Own κ w (pt b_2 (blk [C.int .i64 0, C.slc none 0 0, C.slc none 0 0] 72) :: pt b_x0 (blk (Twire_Machine.obj x0 b_x0otape A_x0oops c_x0oops A_x0ovalues c_x0ovalues A_x0oblocks c_x0oblocks) 151) :: pto x0.dry b_x0otape (blk (Ttape_Tape.obj x0.tape A_x0otapeowords c_x0otapeowords) 158) :: rowp A_x0otapeowords c_x0otapeowords 23 1 (eI .u64) x0.tape.words :: rowp A_x0oops c_x0oops 32 6 Tapi_Op.cells x0.ops :: rowp A_x0ovalues c_x0ovalues 23 1 (eI .u64) x0.values :: rowp A_x0oblocks c_x0oblocks 144 3 Tapi_Span.cells x0.blocks :: S) := (Own.to hs.own [0, 1, 2, 3, 4, 5, 6] 7 (by kernel_rfl) (by kernel_rfl))
  have hcl : Own κ w C_6 := by rw [hC_6]; exact hcz
  refine Vk.dPuresT [0, 1, 2, 4, 5, 6, 9, 10, 11] [(17, .pointer (some ⟨b_x0, 12, none⟩)), (16, .pointer (some ⟨b_x0, 0, none⟩)), (15, .pointer (some ⟨b_x0, 0, none⟩)), (12, .pointer (some ⟨b_x0, 10, none⟩)), (11, .pointer (some ⟨b_x0, 0, none⟩)), (10, .pointer (some ⟨b_x0, 0, none⟩)), (8, .pointer (some ⟨b_x0, 0, none⟩)), (7, .pointer (some ⟨b_x0, 0, none⟩)), (6, .pointer (some ⟨b_x0, 0, none⟩))] hs (by kernel_rfl) (by repeat' (first | exact Vk.Calm.post | refine Vk.Calm.then ?_ | refine Vk.Calm.inBlock ?_)) hcl (by kernel_rfl) (by kernel_rfl) (fuel := 7) rfl fun a hs => ?_
  refine Vk.dTakeT (i := 3) (some 9) (.int .i64 x0.n) hs (by kernel_rfl) (by repeat' (first | exact Vk.Calm.post | refine Vk.Calm.then ?_ | refine Vk.Calm.inBlock ?_)) hcl (by kernel_rfl) (by kernel_rfl) (op := (.load 3 (.tmp 8))) (by kernel_rfl) (by kernel_rfl) (fun w hw o ho => by rw [hC_6] at hw; exact run_load1 (b := b_x0) (off := 0) (c := C.int .i64 x0.n) ho (by kernel_rfl) (by kernel_rfl) (Cell.own 1 rfl (by kernel_rfl)) _ hw) fun a hs => ?_
  refine Vk.dTakeT (i := 7) (some 13) (.slice A_x0oops x0.ops.length c_x0oops) hs (by kernel_rfl) (by repeat' (first | exact Vk.Calm.post | refine Vk.Calm.then ?_ | refine Vk.Calm.inBlock ?_)) hcl (by kernel_rfl) (by kernel_rfl) (op := (.load 69 (.tmp 12))) (by kernel_rfl) (by kernel_rfl) (fun w hw o ho => by rw [hC_6] at hw; exact run_load1 (b := b_x0) (off := 10) (c := C.slc A_x0oops x0.ops.length c_x0oops) ho (by kernel_rfl) (by kernel_rfl) (Cell.own 1 rfl (by kernel_rfl)) _ hw) fun a hs => ?_
  refine Vk.dTakeT (i := 12) (some 18) (.slice A_x0oblocks x0.blocks.length c_x0oblocks) hs (by kernel_rfl) (by repeat' (first | exact Vk.Calm.post | refine Vk.Calm.then ?_ | refine Vk.Calm.inBlock ?_)) hcl (by kernel_rfl) (by kernel_rfl) (op := (.load 70 (.tmp 17))) (by kernel_rfl) (by kernel_rfl) (fun w hw o ho => by rw [hC_6] at hw; exact run_load1 (b := b_x0) (off := 12) (c := C.slc A_x0oblocks x0.blocks.length c_x0oblocks) ho (by kernel_rfl) (by kernel_rfl) (Cell.own 1 rfl (by kernel_rfl)) _ hw) fun a hs => ?_
  obtain ⟨v_9, h_8, hm⟩ := bind_t hm
  refine Vk.dOnly (i := 8) (by kernel_rfl) (Vk.call (some 14) 82 #[.slice A_x0oops x0.ops.length c_x0oops] hs (by kernel_rfl) (by kernel_rfl) (by kernel_rfl) ?_)
  refine (slices_Clone_api_Op_api_Op.ok k x0.ops v_9 h_8 κ w (pt b_2 (blk [C.int .i64 0, C.slc none 0 0, C.slc none 0 0] 72) :: pt b_x0 (blk (Twire_Machine.obj x0 b_x0otape A_x0oops c_x0oops A_x0ovalues c_x0ovalues A_x0oblocks c_x0oblocks) 151) :: pto x0.dry b_x0otape (blk (Ttape_Tape.obj x0.tape A_x0otapeowords c_x0otapeowords) 158) :: rowp A_x0otapeowords c_x0otapeowords 23 1 (eI .u64) x0.tape.words :: rowp A_x0oops c_x0oops 32 6 Tapi_Op.cells x0.ops :: rowp A_x0ovalues c_x0ovalues 23 1 (eI .u64) x0.values :: rowp A_x0oblocks c_x0oblocks 144 3 Tapi_Span.cells x0.blocks :: S) A_x0oops c_x0oops (Sl.lift (fun w ho => (Own.to (S' := rowp A_x0oops c_x0oops 32 6 Tapi_Op.cells x0.ops :: S) ho [4] 7 (by kernel_rfl) (by kernel_rfl))) (Own.rowSl 0 (Own.to (S' := rowp A_x0oops c_x0oops 32 6 Tapi_Op.cells x0.ops :: S) hs.own [4] 7 (by kernel_rfl) (by kernel_rfl)) rfl)) hs.own).mono ?_
  rintro _ w ⟨Ar7x0_10, cr7x0_11, rfl, how⟩
  refine ⟨_, _, _, rfl, how, fun a hs => ?_⟩
  replace hcl : Own κ w C_6 := by rw [hC_6]; exact (Own.to hs.own [1, 2, 3, 4, 5, 6, 7] 8 (by kernel_rfl) (by kernel_rfl))
  refine ⟨fun _ => hcl, ?_⟩
  obtain ⟨v_14, h_13, hm⟩ := bind_t hm
  refine Vk.dOnly (i := 13) (by kernel_rfl) (Vk.call (some 19) 83 #[.slice A_x0oblocks x0.blocks.length c_x0oblocks] hs (by kernel_rfl) (by kernel_rfl) (by kernel_rfl) ?_)
  refine (slices_Clone_api_Span_api_Span.ok k x0.blocks v_14 h_13 κ w (rowp Ar7x0_10 cr7x0_11 32 6 Tapi_Op.cells v_9 :: pt b_2 (blk [C.int .i64 0, C.slc none 0 0, C.slc none 0 0] 72) :: pt b_x0 (blk (Twire_Machine.obj x0 b_x0otape A_x0oops c_x0oops A_x0ovalues c_x0ovalues A_x0oblocks c_x0oblocks) 151) :: pto x0.dry b_x0otape (blk (Ttape_Tape.obj x0.tape A_x0otapeowords c_x0otapeowords) 158) :: rowp A_x0otapeowords c_x0otapeowords 23 1 (eI .u64) x0.tape.words :: rowp A_x0oops c_x0oops 32 6 Tapi_Op.cells x0.ops :: rowp A_x0ovalues c_x0ovalues 23 1 (eI .u64) x0.values :: rowp A_x0oblocks c_x0oblocks 144 3 Tapi_Span.cells x0.blocks :: S) A_x0oblocks c_x0oblocks ((Own.rowSl 0 hs.own.drop.drop.drop.drop.drop.drop.drop rfl).less.less.less.less.less.less.less) hs.own).mono ?_
  rintro _ w ⟨Ar12x0_15, cr12x0_16, rfl, how⟩
  refine ⟨_, _, _, rfl, how, fun a hs => ?_⟩
  replace hcl : Own κ w C_6 := by rw [hC_6]; exact (Own.to hs.own [2, 3, 4, 5, 6, 7, 8] 9 (by kernel_rfl) (by kernel_rfl))
  refine ⟨fun _ => hcl, ?_⟩
  refine Vk.dPuresT [14] [(20, .agg (vals [C.int .i64 x0.n, C.slc Ar7x0_10 v_9.length cr7x0_11, C.slc Ar12x0_15 v_14.length cr12x0_16]))] hs (by kernel_rfl) (by repeat' (first | exact Vk.Calm.post | refine Vk.Calm.then ?_ | refine Vk.Calm.inBlock ?_)) hcl (by kernel_rfl) (by kernel_rfl) (fuel := 1) rfl fun a hs => ?_
  refine Vk.dOnly (i := 15) (by kernel_rfl) (Vk.storeA (b := b_2) (ty := 72) (x := (.tmp 2)) (y := (.tmp 20)) (sz := 3) [C.int .i64 x0.n, C.slc Ar7x0_10 v_9.length cr7x0_11, C.slc Ar12x0_15 v_14.length cr12x0_16] 2 hs (by kernel_rfl) (by kernel_rfl) (by kernel_rfl) (by kernel_rfl) (by kernel_rfl) rfl (by kernel_rfl) rfl (Eq.trans (b := 3) rfl (Eq.symm rfl)) fun a w hs => ?_)
  refine ⟨fun h => absurd h (by decide), ?_⟩
  replace hs := hs.pick [2] (L' := [(2, .pointer (some ⟨b_2, 0, none⟩))]) (by kernel_rfl)
  refine Vk.dDone (by kernel_rfl) ?_
  refine hK5 _ _ ?_
  clear hK5
  refine wp_ret ?_
  exact Vk.retC (P := Try.prog) (fn := Try.f65) (R := wire_Machine_Trace.R κ S x0 b_x0 b_x0otape A_x0otapeowords c_x0otapeowords A_x0oops c_x0oops A_x0ovalues c_x0ovalues A_x0oblocks c_x0oblocks r) [C.int .i64 x0.n, C.slc Ar7x0_10 v_9.length cr7x0_11, C.slc Ar12x0_15 v_14.length cr12x0_16] hs rfl (by kernel_rfl) (sz := 3) (by kernel_rfl) rfl (CellsAt.all 2 rfl) (by obtain rfl := Option.some.inj hm; exact ⟨Ar7x0_10, cr7x0_11, Ar12x0_15, cr12x0_16, rfl, (Own.to hs.own [1, 0, 3, 4, 5, 6, 7, 8] 9 (by kernel_rfl) (by kernel_rfl))⟩)


abbrev wire_Machine_Const.R (κ : Ctx) (S : List HP) (x0 : Twire_Machine) (x1 : Int) (x2 : Int) (b_x0 : Nat) (b_x0otape : Nat) (A_x0otapeowords : Option Addr) (c_x0otapeowords : Nat) (A_x0oops : Option Addr) (c_x0oops : Nat) (A_x0ovalues : Option Addr) (c_x0ovalues : Nat) (A_x0oblocks : Option Addr) (c_x0oblocks : Nat) (r : (Int × Twire_Machine)) : Ending → World → Prop := fun e w' => ∃ (A_y0otapeowords : Option Addr), ∃ (c_y0otapeowords : Nat), ∃ (A_y0oops : Option Addr), ∃ (c_y0oops : Nat), ∃ (A_y0ovalues : Option Addr), ∃ (c_y0ovalues : Nat), ∃ (A_y0oblocks : Option Addr), ∃ (c_y0oblocks : Nat), e = .returned (.int .i64 r.1) ∧ Own κ w' (pt b_x0 (blk (Twire_Machine.obj r.2 b_x0otape A_y0oops c_y0oops A_y0ovalues c_y0ovalues A_y0oblocks c_y0oblocks) 151) :: pto r.2.dry b_x0otape (blk (Ttape_Tape.obj r.2.tape A_y0otapeowords c_y0otapeowords) 158) :: rowp A_y0otapeowords c_y0otapeowords 23 1 (eI .u64) r.2.tape.words :: rowp A_y0oops c_y0oops 32 6 Tapi_Op.cells r.2.ops :: rowp A_y0ovalues c_y0ovalues 23 1 (eI .u64) r.2.values :: rowp A_y0oblocks c_y0oblocks 144 3 Tapi_Span.cells r.2.blocks :: S)
def wire_Machine_Const.m (k : Nat) (x0 : Twire_Machine) (x1 : Int) (x2 : Int) : Option (Int × Twire_Machine) := (wire_Machine_Do.m k x0 (⟨3, x1, (-1), (-1), (-1), x2⟩ : Tapi_Op) 0).bind fun v_5 => some (v_5.1, v_5.2)

set_option maxRecDepth 100000 in
set_option maxHeartbeats 4000000 in
theorem wire_Machine_Const.ok (k : Nat) (x0 : Twire_Machine) (x1 : Int) (x2 : Int) (r : (Int × Twire_Machine)) (hm : wire_Machine_Const.m k x0 x1 x2 = some r) (κ : Ctx) (w : World) (S : List HP) (b_x0 : Nat) (b_x0otape : Nat) (A_x0otapeowords : Option Addr) (c_x0otapeowords : Nat) (A_x0oops : Option Addr) (c_x0oops : Nat) (A_x0ovalues : Option Addr) (c_x0ovalues : Nat) (A_x0oblocks : Option Addr) (c_x0oblocks : Nat) (ho : Own κ w (pt b_x0 (blk (Twire_Machine.obj x0 b_x0otape A_x0oops c_x0oops A_x0ovalues c_x0ovalues A_x0oblocks c_x0oblocks) 151) :: pto x0.dry b_x0otape (blk (Ttape_Tape.obj x0.tape A_x0otapeowords c_x0otapeowords) 158) :: rowp A_x0otapeowords c_x0otapeowords 23 1 (eI .u64) x0.tape.words :: rowp A_x0oops c_x0oops 32 6 Tapi_Op.cells x0.ops :: rowp A_x0ovalues c_x0ovalues 23 1 (eI .u64) x0.values :: rowp A_x0oblocks c_x0oblocks 144 3 Tapi_Span.cells x0.blocks :: S)) :
    Calls Try.prog 100 #[.pointer (some ⟨b_x0, 0, none⟩), .int .i64 x1, .int .u64 x2] w (wire_Machine_Const.R κ S x0 x1 x2 b_x0 b_x0otape A_x0otapeowords c_x0otapeowords A_x0oops c_x0oops A_x0ovalues c_x0ovalues A_x0oblocks c_x0oblocks r) := by
  unfold wire_Machine_Const.m at hm
  refine Vk.enter [(0, .pointer (some ⟨b_x0, 0, none⟩)), (1, .int .i64 x1), (2, .int .u64 x2)] Try.func100 rfl Try.ntmps100 (by kernel_rfl) (Nat.le_of_ble_eq_true (by kernel_rfl)) ho fun a hs => ?_
  refine Vk.seq fun K1 hK1 => ?_
  refine Vk.region ?_
  refine Vk.pures 1 [(6, .int .i64 0)] hs (by kernel_rfl) fun a hs => ?_
  replace hs := hs.pick [0, 1, 2] (L' := [(0, .pointer (some ⟨b_x0, 0, none⟩)), (1, .int .i64 x1), (2, .int .u64 x2)]) (by kernel_rfl)
  refine Vk.done (by kernel_rfl) ?_
  refine hK1 _ _ ?_
  clear hK1
  refine Vk.seq fun K2 hK2 => ?_
  refine Vk.region ?_
  refine Vk.pures 4 [(10, .agg (vals [C.int .i64 3, C.int .i64 x1, C.int .i64 (-1), C.int .i64 (-1), C.int .i64 (-1), C.int .u64 x2])), (9, .int .u64 x2), (8, .int .i64 x1), (7, .pointer (some ⟨b_x0, 0, none⟩))] hs (by kernel_rfl) fun a hs => ?_
  obtain ⟨v_5, h_4, hm⟩ := bind_t hm
  refine Vk.step (Vk.call (some 11) 60 #[.pointer (some ⟨b_x0, 0, none⟩), .agg (vals [C.int .i64 3, C.int .i64 x1, C.int .i64 (-1), C.int .i64 (-1), C.int .i64 (-1), C.int .u64 x2]), .int .u64 0] hs (by kernel_rfl) (by kernel_rfl) (by kernel_rfl) ?_)
  refine (wire_Machine_Do.ok k x0 (⟨3, x1, (-1), (-1), (-1), x2⟩ : Tapi_Op) 0 v_5 h_4 κ w (S) b_x0 b_x0otape A_x0otapeowords c_x0otapeowords A_x0oops c_x0oops A_x0ovalues c_x0ovalues A_x0oblocks c_x0oblocks (Own.to hs.own [0, 1, 2, 3, 4, 5] 6 (by kernel_rfl) (by kernel_rfl))).mono ?_
  rintro _ w ⟨Ar3o0otapeowords_6, cr3o0otapeowords_7, Ar3o0oops_8, cr3o0oops_9, Ar3o0ovalues_10, cr3o0ovalues_11, Ar3o0oblocks_12, cr3o0oblocks_13, rfl, how⟩
  refine ⟨_, _, _, rfl, how, fun a hs => ?_⟩
  refine Vk.pures 1 [(6, .int .i64 v_5.1)] hs (by kernel_rfl) fun a hs => ?_
  replace hs := hs.pick [6] (L' := [(6, .int .i64 v_5.1)]) (by kernel_rfl)
  refine Vk.done (by kernel_rfl) ?_
  refine hK2 _ _ ?_
  clear hK2
  refine wp_ret ?_
  exact Vk.ret1 (P := Try.prog) (fn := Try.f100) (R := wire_Machine_Const.R κ S x0 x1 x2 b_x0 b_x0otape A_x0otapeowords c_x0otapeowords A_x0oops c_x0oops A_x0ovalues c_x0ovalues A_x0oblocks c_x0oblocks r) (.int .i64 v_5.1) hs rfl (by kernel_rfl) (by obtain rfl := Option.some.inj hm; exact ⟨Ar3o0otapeowords_6, cr3o0otapeowords_7, Ar3o0oops_8, cr3o0oops_9, Ar3o0ovalues_10, cr3o0ovalues_11, Ar3o0oblocks_12, cr3o0oblocks_13, rfl, (Own.to hs.own [0, 1, 2, 3, 4, 5] 6 (by kernel_rfl) (by kernel_rfl))⟩)


abbrev wire_Machine_Two.R (κ : Ctx) (S : List HP) (x0 : Twire_Machine) (x1 : Int) (x2 : Int) (x3 : Int) (x4 : Int) (b_x0 : Nat) (b_x0otape : Nat) (A_x0otapeowords : Option Addr) (c_x0otapeowords : Nat) (A_x0oops : Option Addr) (c_x0oops : Nat) (A_x0ovalues : Option Addr) (c_x0ovalues : Nat) (A_x0oblocks : Option Addr) (c_x0oblocks : Nat) (r : (Int × Twire_Machine)) : Ending → World → Prop := fun e w' => ∃ (A_y0otapeowords : Option Addr), ∃ (c_y0otapeowords : Nat), ∃ (A_y0oops : Option Addr), ∃ (c_y0oops : Nat), ∃ (A_y0ovalues : Option Addr), ∃ (c_y0ovalues : Nat), ∃ (A_y0oblocks : Option Addr), ∃ (c_y0oblocks : Nat), e = .returned (.int .i64 r.1) ∧ Own κ w' (pt b_x0 (blk (Twire_Machine.obj r.2 b_x0otape A_y0oops c_y0oops A_y0ovalues c_y0ovalues A_y0oblocks c_y0oblocks) 151) :: pto r.2.dry b_x0otape (blk (Ttape_Tape.obj r.2.tape A_y0otapeowords c_y0otapeowords) 158) :: rowp A_y0otapeowords c_y0otapeowords 23 1 (eI .u64) r.2.tape.words :: rowp A_y0oops c_y0oops 32 6 Tapi_Op.cells r.2.ops :: rowp A_y0ovalues c_y0ovalues 23 1 (eI .u64) r.2.values :: rowp A_y0oblocks c_y0oblocks 144 3 Tapi_Span.cells r.2.blocks :: S)
def wire_Machine_Two.m (k : Nat) (x0 : Twire_Machine) (x1 : Int) (x2 : Int) (x3 : Int) (x4 : Int) : Option (Int × Twire_Machine) := (wire_Machine_Do.m k x0 (⟨x1, x2, x3, x4, (-1), 0⟩ : Tapi_Op) 0).bind fun v_5 => some (v_5.1, v_5.2)

set_option maxRecDepth 100000 in
set_option maxHeartbeats 4000000 in
theorem wire_Machine_Two.ok (k : Nat) (x0 : Twire_Machine) (x1 : Int) (x2 : Int) (x3 : Int) (x4 : Int) (r : (Int × Twire_Machine)) (hm : wire_Machine_Two.m k x0 x1 x2 x3 x4 = some r) (κ : Ctx) (w : World) (S : List HP) (b_x0 : Nat) (b_x0otape : Nat) (A_x0otapeowords : Option Addr) (c_x0otapeowords : Nat) (A_x0oops : Option Addr) (c_x0oops : Nat) (A_x0ovalues : Option Addr) (c_x0ovalues : Nat) (A_x0oblocks : Option Addr) (c_x0oblocks : Nat) (ho : Own κ w (pt b_x0 (blk (Twire_Machine.obj x0 b_x0otape A_x0oops c_x0oops A_x0ovalues c_x0ovalues A_x0oblocks c_x0oblocks) 151) :: pto x0.dry b_x0otape (blk (Ttape_Tape.obj x0.tape A_x0otapeowords c_x0otapeowords) 158) :: rowp A_x0otapeowords c_x0otapeowords 23 1 (eI .u64) x0.tape.words :: rowp A_x0oops c_x0oops 32 6 Tapi_Op.cells x0.ops :: rowp A_x0ovalues c_x0ovalues 23 1 (eI .u64) x0.values :: rowp A_x0oblocks c_x0oblocks 144 3 Tapi_Span.cells x0.blocks :: S)) :
    Calls Try.prog 101 #[.pointer (some ⟨b_x0, 0, none⟩), .int .i64 x1, .int .i64 x2, .int .i64 x3, .int .i64 x4] w (wire_Machine_Two.R κ S x0 x1 x2 x3 x4 b_x0 b_x0otape A_x0otapeowords c_x0otapeowords A_x0oops c_x0oops A_x0ovalues c_x0ovalues A_x0oblocks c_x0oblocks r) := by
  unfold wire_Machine_Two.m at hm
  refine Vk.enter [(0, .pointer (some ⟨b_x0, 0, none⟩)), (1, .int .i64 x1), (2, .int .i64 x2), (3, .int .i64 x3), (4, .int .i64 x4)] Try.func101 rfl Try.ntmps101 (by kernel_rfl) (Nat.le_of_ble_eq_true (by kernel_rfl)) ho fun a hs => ?_
  refine Vk.seq fun K1 hK1 => ?_
  refine Vk.region ?_
  refine Vk.pures 1 [(10, .int .i64 0)] hs (by kernel_rfl) fun a hs => ?_
  replace hs := hs.pick [0, 1, 2, 3, 4] (L' := [(0, .pointer (some ⟨b_x0, 0, none⟩)), (1, .int .i64 x1), (2, .int .i64 x2), (3, .int .i64 x3), (4, .int .i64 x4)]) (by kernel_rfl)
  refine Vk.done (by kernel_rfl) ?_
  refine hK1 _ _ ?_
  clear hK1
  refine Vk.seq fun K2 hK2 => ?_
  refine Vk.region ?_
  refine Vk.pures 6 [(16, .agg (vals [C.int .i64 x1, C.int .i64 x2, C.int .i64 x3, C.int .i64 x4, C.int .i64 (-1), C.int .u64 0])), (15, .int .i64 x4), (14, .int .i64 x3), (13, .int .i64 x2), (12, .int .i64 x1), (11, .pointer (some ⟨b_x0, 0, none⟩))] hs (by kernel_rfl) fun a hs => ?_
  obtain ⟨v_5, h_4, hm⟩ := bind_t hm
  refine Vk.step (Vk.call (some 17) 60 #[.pointer (some ⟨b_x0, 0, none⟩), .agg (vals [C.int .i64 x1, C.int .i64 x2, C.int .i64 x3, C.int .i64 x4, C.int .i64 (-1), C.int .u64 0]), .int .u64 0] hs (by kernel_rfl) (by kernel_rfl) (by kernel_rfl) ?_)
  refine (wire_Machine_Do.ok k x0 (⟨x1, x2, x3, x4, (-1), 0⟩ : Tapi_Op) 0 v_5 h_4 κ w (S) b_x0 b_x0otape A_x0otapeowords c_x0otapeowords A_x0oops c_x0oops A_x0ovalues c_x0ovalues A_x0oblocks c_x0oblocks (Own.to hs.own [0, 1, 2, 3, 4, 5] 6 (by kernel_rfl) (by kernel_rfl))).mono ?_
  rintro _ w ⟨Ar3o0otapeowords_6, cr3o0otapeowords_7, Ar3o0oops_8, cr3o0oops_9, Ar3o0ovalues_10, cr3o0ovalues_11, Ar3o0oblocks_12, cr3o0oblocks_13, rfl, how⟩
  refine ⟨_, _, _, rfl, how, fun a hs => ?_⟩
  refine Vk.pures 1 [(10, .int .i64 v_5.1)] hs (by kernel_rfl) fun a hs => ?_
  replace hs := hs.pick [10] (L' := [(10, .int .i64 v_5.1)]) (by kernel_rfl)
  refine Vk.done (by kernel_rfl) ?_
  refine hK2 _ _ ?_
  clear hK2
  refine wp_ret ?_
  exact Vk.ret1 (P := Try.prog) (fn := Try.f101) (R := wire_Machine_Two.R κ S x0 x1 x2 x3 x4 b_x0 b_x0otape A_x0otapeowords c_x0otapeowords A_x0oops c_x0oops A_x0ovalues c_x0ovalues A_x0oblocks c_x0oblocks r) (.int .i64 v_5.1) hs rfl (by kernel_rfl) (by obtain rfl := Option.some.inj hm; exact ⟨Ar3o0otapeowords_6, cr3o0otapeowords_7, Ar3o0oops_8, cr3o0oops_9, Ar3o0ovalues_10, cr3o0ovalues_11, Ar3o0oblocks_12, cr3o0oblocks_13, rfl, (Own.to hs.own [0, 1, 2, 3, 4, 5] 6 (by kernel_rfl) (by kernel_rfl))⟩)


def visorlaw19_words.l1 (x0 : List Int) (x1 : List Int) : Nat → Int → Option (Sum (Bool) (Unit))
  | 0, _ => none
  | k + 1, q_8 => (bif decide (q_8 < ((x0.length : Nat) : Int)) then (if 0 ≤ q_8 then (x0[q_8.toNat]?).bind fun e_17 => (if 0 ≤ q_8 then (x1[q_8.toNat]?).bind fun e_24 => (bif e_17 != e_24 then some (.inl false) else visorlaw19_words.l1 x0 x1 k (IntKind.i64.wrap (q_8 + 1))) else none) else none) else some (.inr ()))
abbrev visorlaw19_words.R (κ : Ctx) (S : List HP) (x0 : List Int) (x1 : List Int) (A_x0 : Option Addr) (c_x0 : Nat) (A_x1 : Option Addr) (c_x1 : Nat) (r : Bool) : Ending → World → Prop := fun e w' => e = .returned (.bool r) ∧ Own κ w' (S)
def visorlaw19_words.m (k : Nat) (x0 : List Int) (x1 : List Int) : Option Bool := (bif ((x0.length : Nat) : Int) != ((x1.length : Nat) : Int) then some false else (visorlaw19_words.l1 x0 x1 k 0).bind fun x => match x with | .inl v => some v | .inr () => some true)

set_option maxRecDepth 100000 in
set_option maxHeartbeats 4000000 in
theorem visorlaw19_words.ok (k : Nat) (x0 : List Int) (x1 : List Int) (r : Bool) (hm : visorlaw19_words.m k x0 x1 = some r) (κ : Ctx) (w : World) (S : List HP) (A_x0 : Option Addr) (c_x0 : Nat) (hx_x0 : Sl κ S A_x0 c_x0 1 (eI .u64) x0) (A_x1 : Option Addr) (c_x1 : Nat) (hx_x1 : Sl κ S A_x1 c_x1 1 (eI .u64) x1) (ho : Own κ w (S)) :
    Calls Try.prog 102 #[.slice A_x0 x0.length c_x0, .slice A_x1 x1.length c_x1] w (visorlaw19_words.R κ S x0 x1 A_x0 c_x0 A_x1 c_x1 r) := by
  unfold visorlaw19_words.m at hm
  refine Vk.enter [(0, .slice A_x0 x0.length c_x0), (1, .slice A_x1 x1.length c_x1)] Try.func102 rfl Try.ntmps102 (by kernel_rfl) (Nat.le_of_ble_eq_true (by kernel_rfl)) ho fun a hs => ?_
  refine Vk.seq fun K1 hK1 => ?_
  refine Vk.region ?_
  refine Vk.pures 1 [(4, .bool false)] hs (by kernel_rfl) fun a hs => ?_
  replace hs := hs.pick [0, 1] (L' := [(0, .slice A_x0 x0.length c_x0), (1, .slice A_x1 x1.length c_x1)]) (by kernel_rfl)
  refine Vk.done (by kernel_rfl) ?_
  refine hK1 _ _ ?_
  clear hK1
  refine Vk.seq fun K2 hK2 => ?_
  refine Vk.seq fun K3 hK3 => ?_
  refine Vk.region ?_
  refine Vk.pures 5 [(10, .bool (((x0.length : Nat) : Int) != ((x1.length : Nat) : Int))), (9, .int .i64 ((x1.length : Nat) : Int)), (8, .slice A_x1 x1.length c_x1), (7, .int .i64 ((x0.length : Nat) : Int)), (6, .slice A_x0 x0.length c_x0)] hs (by kernel_rfl) fun a hs => ?_
  replace hs := hs.pick [0, 1, 10] (L' := [(0, .slice A_x0 x0.length c_x0), (1, .slice A_x1 x1.length c_x1), (10, .bool (((x0.length : Nat) : Int) != ((x1.length : Nat) : Int)))]) (by kernel_rfl)
  refine Vk.done (by kernel_rfl) ?_
  refine hK3 _ _ ?_
  clear hK3
  refine Vk.condS (b := ((x0.length : Nat) : Int) != ((x1.length : Nat) : Int)) hs (by kernel_rfl) (by kernel_rfl) (fun hb => ?_) (fun hb => ?_)
  · replace hm := bif_t hm hb
    refine Vk.seq fun K4 hK4 => ?_
    refine Vk.region ?_
    refine Vk.pures 1 [(4, .bool false)] hs (by kernel_rfl) fun a hs => ?_
    replace hs := hs.pick [4] (L' := [(4, .bool false)]) (by kernel_rfl)
    refine Vk.done (by kernel_rfl) ?_
    refine hK4 _ _ ?_
    clear hK4
    refine wp_ret ?_
    exact Vk.ret1 (P := Try.prog) (fn := Try.f102) (R := visorlaw19_words.R κ S x0 x1 A_x0 c_x0 A_x1 c_x1 r) (.bool false) hs rfl (by kernel_rfl) (by obtain rfl := Option.some.inj hm; exact ⟨rfl, (Own.to hs.own [] 0 (by kernel_rfl) (by kernel_rfl))⟩)
  · replace hm := bif_f hm hb
    refine wp_skip ?_
    refine hK2 _ _ ?_
    clear hK2
    refine Vk.seq fun K5 hK5 => ?_
    refine Vk.seq fun K6 hK6 => ?_
    refine Vk.region ?_
    refine Vk.pures 1 [(5, .int .i64 0)] hs (by kernel_rfl) fun a hs => ?_
    replace hs := hs.pick [0, 1, 5] (L' := [(0, .slice A_x0 x0.length c_x0), (1, .slice A_x1 x1.length c_x1), (5, .int .i64 0)]) (by kernel_rfl)
    refine Vk.done (by kernel_rfl) ?_
    refine hK6 _ _ ?_
    clear hK6
    refine wp_block ?_
    obtain ⟨r7, hl7, hm⟩ := bind_t hm
    have hx7 : r7 = Sum.inr () → ∀ (a : Act) (w : World), St 26 a w κ [] (S) → K5 a w := by
      intro he a w hs
      subst r7
      refine hK5 _ _ ?_
      clear hK5
      refine Vk.seq fun K30 hK30 => ?_
      refine Vk.region ?_
      refine Vk.pures 1 [(4, .bool true)] hs (by kernel_rfl) fun a hs => ?_
      replace hs := hs.pick [4] (L' := [(4, .bool true)]) (by kernel_rfl)
      refine Vk.done (by kernel_rfl) ?_
      refine hK30 _ _ ?_
      clear hK30
      refine wp_ret ?_
      exact Vk.ret1 (P := Try.prog) (fn := Try.f102) (R := visorlaw19_words.R κ S x0 x1 A_x0 c_x0 A_x1 c_x1 r) (.bool true) hs rfl (by kernel_rfl) (by obtain rfl := Option.some.inj hm; exact ⟨rfl, (Own.to hs.own [] 0 (by kernel_rfl) (by kernel_rfl))⟩)
    have hret7 : ∀ v, r7 = Sum.inl v → v = r := by intro v he; subst r7; exact Option.some.inj hm
    refine Vk.loopBy (fun k (s : Int) a w => visorlaw19_words.l1 x0 x1 k s = some r7 ∧ St 26 a w κ [(0, .slice A_x0 x0.length c_x0), (1, .slice A_x1 x1.length c_x1), (5, .int .i64 s)] (S)) k 0 ⟨hl7, hs.go [0, 1, 5] [] 0 (by kernel_rfl) (by kernel_rfl) (by kernel_rfl)⟩ (fun s a w h => by obtain ⟨h1, _⟩ := h; simp [visorlaw19_words.l1] at h1) (fun k KL7 ih q_8 a w h => ?_)
    obtain ⟨hm, hs⟩ := h
    try dsimp only at hm hs
    rw [visorlaw19_words.l1] at hm
    refine Vk.seq fun K9 hK9 => ?_
    refine Vk.seq fun K10 hK10 => ?_
    refine Vk.region ?_
    refine Vk.pures 4 [(14, .bool (decide (q_8 < ((x0.length : Nat) : Int)))), (13, .int .i64 ((x0.length : Nat) : Int)), (12, .slice A_x0 x0.length c_x0), (11, .int .i64 q_8)] hs (by kernel_rfl) fun a hs => ?_
    replace hs := hs.pick [0, 1, 5, 14] (L' := [(0, .slice A_x0 x0.length c_x0), (1, .slice A_x1 x1.length c_x1), (5, .int .i64 q_8), (14, .bool (decide (q_8 < ((x0.length : Nat) : Int))))]) (by kernel_rfl)
    refine Vk.done (by kernel_rfl) ?_
    refine hK10 _ _ ?_
    clear hK10
    refine Vk.condS (b := decide (q_8 < ((x0.length : Nat) : Int))) hs (by kernel_rfl) (by kernel_rfl) (fun hb => ?_) (fun hb => ?_)
    · replace hm := bif_t hm hb
      refine wp_skip ?_
      refine hK9 _ _ ?_
      clear hK9
      refine Vk.seq fun K11 hK11 => ?_
      refine wp_block ?_
      refine Vk.seq fun K12 hK12 => ?_
      obtain ⟨C_13, hC_13⟩ : ∃ X0 : List HP, X0 = (S) := ⟨_, rfl⟩
      refine Vk.drawnT 9 κ C_13 hs (by kernel_rfl) fun w hs => ?_
      have hcz : Own κ w (S) := (Own.to hs.own [] 0 (by kernel_rfl) (by kernel_rfl))
      have hcl : Own κ w C_13 := by rw [hC_13]; exact hcz
      refine Vk.dPuresT [0, 1, 4, 5] [(22, .int .i64 q_8), (21, .slice A_x1 x1.length c_x1), (18, .int .i64 q_8), (17, .slice A_x0 x0.length c_x0)] hs (by kernel_rfl) (by repeat' (first | exact Vk.Calm.post | refine Vk.Calm.then ?_ | refine Vk.Calm.inBlock ?_)) hcl (by kernel_rfl) (by kernel_rfl) (fuel := 5) rfl fun a hs => ?_
      obtain ⟨h_14, hm⟩ := ite_t hm
      obtain ⟨e_17, h_15, hm⟩ := bind_t hm
      obtain ⟨b_18, o_19, hA_20, h_16⟩ := Sl.elem hx_x0 h_15
      refine Vk.dTakeT (i := 2) (some 19) (.pointer (some ⟨b_18, o_19 + q_8.toNat * 1, none⟩)) hs (by kernel_rfl) (by repeat' (first | exact Vk.Calm.post | refine Vk.Calm.then ?_ | refine Vk.Calm.inBlock ?_)) hcl (by kernel_rfl) (by kernel_rfl) (op := (.indexAddr 73 (.tmp 17) (.tmp 18))) (by kernel_rfl) (by kernel_rfl) (fun w hw o ho => by rw [hC_13] at hw; exact run_idxSlc (k := .i64) ho (cap := c_x0) (len := x0.length) ((congrArg (fun A => Value.slice A (x0.length) (c_x0)) hA_20) ▸ (by kernel_rfl)) (by kernel_rfl) (by kernel_rfl) (idx_ok h_14 h_15) _) fun a hs => ?_
      refine Vk.dTakeT (i := 3) (some 20) (.int .u64 e_17) hs (by kernel_rfl) (by repeat' (first | exact Vk.Calm.post | refine Vk.Calm.then ?_ | refine Vk.Calm.inBlock ?_)) hcl (by kernel_rfl) (by kernel_rfl) (op := (.load 23 (.tmp 19))) (by kernel_rfl) (by kernel_rfl) (fun w hw o ho => by rw [hC_13] at hw; exact run_load1 (c := C.int .u64 e_17) ho (by kernel_rfl) (by kernel_rfl) (fun w ho => h_16 w ho 0 _ rfl) _ hw) fun a hs => ?_
      obtain ⟨h_21, hm⟩ := ite_t hm
      obtain ⟨e_24, h_22, hm⟩ := bind_t hm
      obtain ⟨b_25, o_26, hA_27, h_23⟩ := Sl.elem hx_x1 h_22
      refine Vk.dTakeT (i := 6) (some 23) (.pointer (some ⟨b_25, o_26 + q_8.toNat * 1, none⟩)) hs (by kernel_rfl) (by repeat' (first | exact Vk.Calm.post | refine Vk.Calm.then ?_ | refine Vk.Calm.inBlock ?_)) hcl (by kernel_rfl) (by kernel_rfl) (op := (.indexAddr 73 (.tmp 21) (.tmp 22))) (by kernel_rfl) (by kernel_rfl) (fun w hw o ho => by rw [hC_13] at hw; exact run_idxSlc (k := .i64) ho (cap := c_x1) (len := x1.length) ((congrArg (fun A => Value.slice A (x1.length) (c_x1)) hA_27) ▸ (by kernel_rfl)) (by kernel_rfl) (by kernel_rfl) (idx_ok h_21 h_22) _) fun a hs => ?_
      refine Vk.dTakeT (i := 7) (some 24) (.int .u64 e_24) hs (by kernel_rfl) (by repeat' (first | exact Vk.Calm.post | refine Vk.Calm.then ?_ | refine Vk.Calm.inBlock ?_)) hcl (by kernel_rfl) (by kernel_rfl) (op := (.load 23 (.tmp 23))) (by kernel_rfl) (by kernel_rfl) (fun w hw o ho => by rw [hC_13] at hw; exact run_load1 (c := C.int .u64 e_24) ho (by kernel_rfl) (by kernel_rfl) (fun w ho => h_23 w ho 0 _ rfl) _ hw) fun a hs => ?_
      refine Vk.dPuresT [8] [(25, .bool (e_17 != e_24))] hs (by kernel_rfl) (by repeat' (first | exact Vk.Calm.post | refine Vk.Calm.then ?_ | refine Vk.Calm.inBlock ?_)) hcl (by kernel_rfl) (by kernel_rfl) (fuel := 0) rfl fun a hs => ?_
      replace hs := hs.pick [0, 1, 5, 25] (L' := [(0, .slice A_x0 x0.length c_x0), (1, .slice A_x1 x1.length c_x1), (5, .int .i64 q_8), (25, .bool (e_17 != e_24))]) (by kernel_rfl)
      refine Vk.dDone (by kernel_rfl) ?_
      refine hK12 _ _ ?_
      clear hK12
      refine Vk.condS (b := e_17 != e_24) hs (by kernel_rfl) (by kernel_rfl) (fun hb => ?_) (fun hb => ?_)
      · replace hm := bif_t hm hb
        refine Vk.seq fun K28 hK28 => ?_
        refine Vk.region ?_
        refine Vk.pures 1 [(4, .bool false)] hs (by kernel_rfl) fun a hs => ?_
        replace hs := hs.pick [4] (L' := [(4, .bool false)]) (by kernel_rfl)
        refine Vk.done (by kernel_rfl) ?_
        refine hK28 _ _ ?_
        clear hK28
        refine wp_ret ?_
        exact Vk.ret1 (P := Try.prog) (fn := Try.f102) (R := visorlaw19_words.R κ S x0 x1 A_x0 c_x0 A_x1 c_x1 r) (.bool false) hs rfl (by kernel_rfl) (by obtain rfl := hret7 _ ((Option.some.inj hm).symm); exact ⟨rfl, (Own.to hs.own [] 0 (by kernel_rfl) (by kernel_rfl))⟩)
      · replace hm := bif_f hm hb
        refine wp_skip ?_
        refine hK11 _ _ ?_
        clear hK11
        refine Vk.region ?_
        refine Vk.pures 3 [(5, .int .i64 (IntKind.i64.wrap (q_8 + 1))), (16, .int .i64 (IntKind.i64.wrap (q_8 + 1))), (15, .int .i64 q_8)] hs (by kernel_rfl) fun a hs => ?_
        replace hs := hs.pick [0, 1, 5] (L' := [(0, .slice A_x0 x0.length c_x0), (1, .slice A_x1 x1.length c_x1), (5, .int .i64 (IntKind.i64.wrap (q_8 + 1)))]) (by kernel_rfl)
        refine Vk.done (by kernel_rfl) ?_
        refine ih (IntKind.i64.wrap (q_8 + 1)) _ _ ⟨hm, hs.go [0, 1, 5] [] 0 (by kernel_rfl) (by kernel_rfl) (by kernel_rfl)⟩
    · replace hm := bif_f hm hb
      refine wp_exit ?_
      exact hx7 (Option.some.inj hm).symm _ _ (hs.go [] [] 0 (by kernel_rfl) (by kernel_rfl) (by kernel_rfl))


abbrev visorlaw19_awake.R (κ : Ctx) (S : List HP) (r : Bool) : Ending → World → Prop := fun e w' => e = .returned (.bool r) ∧ Own κ w' (S)
def visorlaw19_awake.m (k : Nat) : Option Bool := (tape_New.m k []).bind fun v_87 => ((wire_New.m k 2 v_87 9).bind fun v => match v with | (.inl v_94) => (bif v_94.1 != 0 then some false else (visorlaw19_words.m k [] ([5, 6, 3] : List Int)).bind fun v_150 => some v_150) | (.inr v_97) => (bif v_97.2 != 0 then some false else (wire_Machine_Const.m k v_97.1 0 5).bind fun v_157 => (wire_Machine_Const.m k v_157.2 0 6).bind fun v_168 => (wire_Machine_Two.m k v_168.2 5 0 v_157.1 v_168.1).bind fun v_180 => (wire_Machine_Values.m k v_180.2).bind fun v_192 => (visorlaw19_words.m k v_192 ([5, 6, 3] : List Int)).bind fun v_199 => some v_199))

set_option maxRecDepth 100000 in
set_option maxHeartbeats 4000000 in
theorem visorlaw19_awake.ok (k : Nat) (r : Bool) (hm : visorlaw19_awake.m k = some r) (κ : Ctx) (w : World) (S : List HP) (ho : Own κ w (S)) :
    Calls Try.prog 66 #[] w (visorlaw19_awake.R κ S r) := by
  unfold visorlaw19_awake.m at hm
  refine Vk.enter [] Try.func66 rfl Try.ntmps66 (by kernel_rfl) (Nat.le_of_ble_eq_true (by kernel_rfl)) ho fun a hs => ?_
  refine Vk.seq fun K1 hK1 => ?_
  refine Vk.region ?_
  refine Vk.pures 1 [(0, .bool false)] hs (by kernel_rfl) fun a hs => ?_
  replace hs := hs.pick [] (L' := []) (by kernel_rfl)
  refine Vk.done (by kernel_rfl) ?_
  refine hK1 _ _ ?_
  clear hK1
  refine Vk.seq fun K2 hK2 => ?_
  refine Vk.region ?_
  refine Vk.pures 1 [(1, .pointer none)] hs (by kernel_rfl) fun a hs => ?_
  replace hs := hs.pick [1] (L' := [(1, .pointer none)]) (by kernel_rfl)
  refine Vk.done (by kernel_rfl) ?_
  refine hK2 _ _ ?_
  clear hK2
  refine Vk.seq fun K3 hK3 => ?_
  refine Vk.region ?_
  refine Vk.pures 1 [(6, .pointer none)] hs (by kernel_rfl) fun a hs => ?_
  refine Vk.step (Vk.call (some 7) 61 #[.pointer none, .int .i64 1] hs (by kernel_rfl) (by kernel_rfl) (by kernel_rfl) ?_)
  refine Vk.enterI [(0, .pointer none), (1, .int .i64 1)] Try.func61 rfl Try.ntmps61 (by kernel_rfl) (Nat.le_of_ble_eq_true (by kernel_rfl)) hs.own fun KR4 hKR4 hKP4 a hs => ?_
  refine Vk.seq fun K5 hK5 => ?_
  refine wp_block ?_
  refine Vk.seq fun K6 hK6 => ?_
  refine Vk.region ?_
  refine Vk.pures 10 [(4, .bool true), (13, .bool true), (12, undef), (11, undef), (10, undef), (9, undef), (8, undef), (7, .bool true), (6, .bool true), (5, .pointer none)] hs (by kernel_rfl) fun a hs => ?_
  replace hs := hs.pick [0, 1, 4] (L' := [(0, .pointer none), (1, .int .i64 1), (4, .bool true)]) (by kernel_rfl)
  refine Vk.done (by kernel_rfl) ?_
  refine hK6 _ _ ?_
  clear hK6
  refine Vk.condT hs (by kernel_rfl) (by kernel_rfl) ?_
  refine wp_ret ?_
  refine hKP4 _ _ ?_
  refine hKR4 _ _ ?_
  refine Vk.ret0 (P := Try.prog) (fn := Try.f61) hs rfl ⟨_, _, _, rfl, hs.own, fun a hs => ?_⟩
  replace hs := hs.pick [1] (L' := [(1, .pointer none)]) (by kernel_rfl)
  refine Vk.done (by kernel_rfl) ?_
  refine hK3 _ _ ?_
  clear hK3
  refine Vk.seq fun K7 hK7 => ?_
  refine Vk.region ?_
  refine Vk.pures 1 [(8, .pointer none)] hs (by kernel_rfl) fun a hs => ?_
  refine Vk.step (Vk.call (some 9) 63 #[.pointer none] hs (by kernel_rfl) (by kernel_rfl) (by kernel_rfl) ?_)
  refine Vk.enterI [(0, .pointer none)] Try.func63 rfl Try.ntmps63 (by kernel_rfl) (Nat.le_of_ble_eq_true (by kernel_rfl)) hs.own fun KR8 hKR8 hKP8 a hs => ?_
  refine Vk.seq fun K9 hK9 => ?_
  refine wp_block ?_
  refine Vk.seq fun K10 hK10 => ?_
  refine Vk.region ?_
  refine Vk.pures 10 [(2, .bool true), (11, .bool true), (10, undef), (9, undef), (8, undef), (7, undef), (6, undef), (5, .bool true), (4, .bool true), (3, .pointer none)] hs (by kernel_rfl) fun a hs => ?_
  replace hs := hs.pick [0, 2] (L' := [(0, .pointer none), (2, .bool true)]) (by kernel_rfl)
  refine Vk.done (by kernel_rfl) ?_
  refine hK10 _ _ ?_
  clear hK10
  refine Vk.condT hs (by kernel_rfl) (by kernel_rfl) ?_
  refine wp_ret ?_
  refine hKP8 _ _ ?_
  refine hKR8 _ _ ?_
  refine Vk.ret0 (P := Try.prog) (fn := Try.f63) hs rfl ⟨_, _, _, rfl, hs.own, fun a hs => ?_⟩
  replace hs := hs.pick [1] (L' := [(1, .pointer none)]) (by kernel_rfl)
  refine Vk.done (by kernel_rfl) ?_
  refine hK7 _ _ ?_
  clear hK7
  refine Vk.seq fun K11 hK11 => ?_
  refine Vk.seq fun K12 hK12 => ?_
  refine Vk.region ?_
  refine Vk.pures 1 [(10, .pointer none)] hs (by kernel_rfl) fun a hs => ?_
  refine Vk.step (Vk.call (some 11) 89 #[.pointer none, .int .i64 0] hs (by kernel_rfl) (by kernel_rfl) (by kernel_rfl) ?_)
  refine Vk.enterI [(0, .pointer none), (1, .int .i64 0)] Try.func89 rfl Try.ntmps89 (by kernel_rfl) (Nat.le_of_ble_eq_true (by kernel_rfl)) hs.own fun KR13 hKR13 hKP13 a hs => ?_
  refine Vk.seq fun K14 hK14 => ?_
  refine Vk.region ?_
  refine Vk.pures 1 [(4, .int .i64 0)] hs (by kernel_rfl) fun a hs => ?_
  replace hs := hs.pick [0, 1] (L' := [(0, .pointer none), (1, .int .i64 0)]) (by kernel_rfl)
  refine Vk.done (by kernel_rfl) ?_
  refine hK14 _ _ ?_
  clear hK14
  refine Vk.seq fun K15 hK15 => ?_
  refine Vk.region ?_
  refine Vk.pures 3 [(7, .agg (vals [C.int .i64 1, C.int .i64 0, C.int .i64 (-1), C.int .i64 (-1), C.int .i64 (-1), C.int .u64 0])), (6, .int .i64 0), (5, .pointer none)] hs (by kernel_rfl) fun a hs => ?_
  refine Vk.step (Vk.call (some 8) 60 #[.pointer none, .agg (vals [C.int .i64 1, C.int .i64 0, C.int .i64 (-1), C.int .i64 (-1), C.int .i64 (-1), C.int .u64 0]), .int .u64 0] hs (by kernel_rfl) (by kernel_rfl) (by kernel_rfl) ?_)
  refine Vk.enterI [(0, .pointer none), (1, .agg (vals [C.int .i64 1, C.int .i64 0, C.int .i64 (-1), C.int .i64 (-1), C.int .i64 (-1), C.int .u64 0])), (2, .int .u64 0)] Try.func60 rfl Try.ntmps60 (by kernel_rfl) (Nat.le_of_ble_eq_true (by kernel_rfl)) hs.own fun KR16 hKR16 hKP16 a hs => ?_
  refine Vk.seq fun K17 hK17 => ?_
  refine Vk.region ?_
  refine Vk.step (Vk.box (x := (.tmp 1)) 4 32 [C.int .i64 1, C.int .i64 0, C.int .i64 (-1), C.int .i64 (-1), C.int .i64 (-1), C.int .u64 0] hs (by kernel_rfl) (by kernel_rfl) (by kernel_rfl) fun b_18 w a hs => ?_)
  refine Vk.pures 1 [(6, .int .i64 0)] hs (by kernel_rfl) fun a hs => ?_
  replace hs := hs.pick [0, 2, 4] (L' := [(0, .pointer none), (2, .int .u64 0), (4, .pointer (some ⟨b_18, 0, none⟩))]) (by kernel_rfl)
  refine Vk.done (by kernel_rfl) ?_
  refine hK17 _ _ ?_
  clear hK17
  refine Vk.seq fun K19 hK19 => ?_
  refine wp_block ?_
  refine Vk.seq fun K20 hK20 => ?_
  refine Vk.region ?_
  refine Vk.pures 10 [(9, .bool true), (18, .bool true), (17, undef), (16, undef), (15, undef), (14, undef), (13, undef), (12, .bool true), (11, .bool true), (10, .pointer none)] hs (by kernel_rfl) fun a hs => ?_
  replace hs := hs.pick [0, 2, 4, 9] (L' := [(0, .pointer none), (2, .int .u64 0), (4, .pointer (some ⟨b_18, 0, none⟩)), (9, .bool true)]) (by kernel_rfl)
  refine Vk.done (by kernel_rfl) ?_
  refine hK20 _ _ ?_
  clear hK20
  refine Vk.condT hs (by kernel_rfl) (by kernel_rfl) ?_
  refine Vk.seq fun K21 hK21 => ?_
  refine Vk.region ?_
  refine Vk.pures 1 [(6, .int .i64 (-1))] hs (by kernel_rfl) fun a hs => ?_
  replace hs := hs.pick [6] (L' := [(6, .int .i64 (-1))]) (by kernel_rfl)
  refine Vk.done (by kernel_rfl) ?_
  refine hK21 _ _ ?_
  clear hK21
  refine wp_ret ?_
  refine hKP16 _ _ ?_
  refine hKR16 _ _ ?_
  refine Vk.ret1 (P := Try.prog) (fn := Try.f60) (.int .i64 (-1)) hs rfl (by kernel_rfl) ⟨_, _, _, rfl, hs.own, fun a hs => ?_⟩
  refine Vk.pures 1 [(4, .int .i64 (-1))] hs (by kernel_rfl) fun a hs => ?_
  replace hs := hs.pick [4] (L' := [(4, .int .i64 (-1))]) (by kernel_rfl)
  refine Vk.done (by kernel_rfl) ?_
  refine hK15 _ _ ?_
  clear hK15
  refine wp_ret ?_
  refine hKP13 _ _ ?_
  refine hKR13 _ _ ?_
  refine Vk.ret1 (P := Try.prog) (fn := Try.f89) (.int .i64 (-1)) hs rfl (by kernel_rfl) ⟨_, _, _, rfl, hs.own, fun a hs => ?_⟩
  refine Vk.pures 3 [(14, .pointer none), (13, .bool false), (12, .bool false)] hs (by kernel_rfl) fun a hs => ?_
  refine Vk.step (Vk.call (some 15) 59 #[.pointer none, .int .u64 1, .int .i64 0, .int .i64 0] hs (by kernel_rfl) (by kernel_rfl) (by kernel_rfl) ?_)
  refine Vk.enterI [(0, .pointer none), (1, .int .u64 1), (2, .int .i64 0), (3, .int .i64 0)] Try.func59 rfl Try.ntmps59 (by kernel_rfl) (Nat.le_of_ble_eq_true (by kernel_rfl)) hs.own fun KR22 hKR22 hKP22 a hs => ?_
  refine Vk.seq fun K23 hK23 => ?_
  refine Vk.region ?_
  refine Vk.pures 1 [(8, .int .i64 0)] hs (by kernel_rfl) fun a hs => ?_
  replace hs := hs.pick [0, 1, 2, 3] (L' := [(0, .pointer none), (1, .int .u64 1), (2, .int .i64 0), (3, .int .i64 0)]) (by kernel_rfl)
  refine Vk.done (by kernel_rfl) ?_
  refine hK23 _ _ ?_
  clear hK23
  refine Vk.seq fun K24 hK24 => ?_
  refine Vk.region ?_
  refine Vk.pures 4 [(12, .pointer none), (11, .int .i64 0), (10, .int .i64 0), (9, .pointer none)] hs (by kernel_rfl) fun a hs => ?_
  refine Vk.step (Vk.call (some 13) 92 #[.pointer none] hs (by kernel_rfl) (by kernel_rfl) (by kernel_rfl) ?_)
  refine Vk.enterI [(0, .pointer none)] Try.func92 rfl Try.ntmps92 (by kernel_rfl) (Nat.le_of_ble_eq_true (by kernel_rfl)) hs.own fun KR25 hKR25 hKP25 a hs => ?_
  refine Vk.seq fun K26 hK26 => ?_
  refine Vk.region ?_
  refine Vk.pures 1 [(2, .int .u64 0)] hs (by kernel_rfl) fun a hs => ?_
  replace hs := hs.pick [0] (L' := [(0, .pointer none)]) (by kernel_rfl)
  refine Vk.done (by kernel_rfl) ?_
  refine hK26 _ _ ?_
  clear hK26
  refine Vk.seq fun K27 hK27 => ?_
  refine Vk.seq fun K28 hK28 => ?_
  refine Vk.region ?_
  refine Vk.pures 2 [(4, .bool true), (3, .pointer none)] hs (by kernel_rfl) fun a hs => ?_
  replace hs := hs.pick [0, 4] (L' := [(0, .pointer none), (4, .bool true)]) (by kernel_rfl)
  refine Vk.done (by kernel_rfl) ?_
  refine hK28 _ _ ?_
  clear hK28
  refine Vk.condT hs (by kernel_rfl) (by kernel_rfl) ?_
  refine Vk.seq fun K29 hK29 => ?_
  refine Vk.region ?_
  refine Vk.pures 1 [(2, .int .u64 0)] hs (by kernel_rfl) fun a hs => ?_
  replace hs := hs.pick [2] (L' := [(2, .int .u64 0)]) (by kernel_rfl)
  refine Vk.done (by kernel_rfl) ?_
  refine hK29 _ _ ?_
  clear hK29
  refine wp_ret ?_
  refine hKP25 _ _ ?_
  refine hKR25 _ _ ?_
  refine Vk.ret1 (P := Try.prog) (fn := Try.f92) (.int .u64 0) hs rfl (by kernel_rfl) ⟨_, _, _, rfl, hs.own, fun a hs => ?_⟩
  refine Vk.pures 2 [(15, .int .u64 1), (14, .agg (vals [C.int .i64 2, C.int .i64 0, C.int .i64 0, C.int .i64 0, C.int .i64 (-1), C.int .u64 0]))] hs (by kernel_rfl) fun a hs => ?_
  refine Vk.step (Vk.call (some 16) 60 #[.pointer none, .agg (vals [C.int .i64 2, C.int .i64 0, C.int .i64 0, C.int .i64 0, C.int .i64 (-1), C.int .u64 0]), .int .u64 1] hs (by kernel_rfl) (by kernel_rfl) (by kernel_rfl) ?_)
  refine Vk.enterI [(0, .pointer none), (1, .agg (vals [C.int .i64 2, C.int .i64 0, C.int .i64 0, C.int .i64 0, C.int .i64 (-1), C.int .u64 0])), (2, .int .u64 1)] Try.func60 rfl Try.ntmps60 (by kernel_rfl) (Nat.le_of_ble_eq_true (by kernel_rfl)) hs.own fun KR30 hKR30 hKP30 a hs => ?_
  refine Vk.seq fun K31 hK31 => ?_
  refine Vk.region ?_
  refine Vk.step (Vk.box (x := (.tmp 1)) 4 32 [C.int .i64 2, C.int .i64 0, C.int .i64 0, C.int .i64 0, C.int .i64 (-1), C.int .u64 0] hs (by kernel_rfl) (by kernel_rfl) (by kernel_rfl) fun b_32 w a hs => ?_)
  refine Vk.pures 1 [(6, .int .i64 0)] hs (by kernel_rfl) fun a hs => ?_
  replace hs := hs.pick [0, 2, 4] (L' := [(0, .pointer none), (2, .int .u64 1), (4, .pointer (some ⟨b_32, 0, none⟩))]) (by kernel_rfl)
  refine Vk.done (by kernel_rfl) ?_
  refine hK31 _ _ ?_
  clear hK31
  refine Vk.seq fun K33 hK33 => ?_
  refine wp_block ?_
  refine Vk.seq fun K34 hK34 => ?_
  refine Vk.region ?_
  refine Vk.pures 10 [(9, .bool true), (18, .bool true), (17, undef), (16, undef), (15, undef), (14, undef), (13, undef), (12, .bool true), (11, .bool true), (10, .pointer none)] hs (by kernel_rfl) fun a hs => ?_
  replace hs := hs.pick [0, 2, 4, 9] (L' := [(0, .pointer none), (2, .int .u64 1), (4, .pointer (some ⟨b_32, 0, none⟩)), (9, .bool true)]) (by kernel_rfl)
  refine Vk.done (by kernel_rfl) ?_
  refine hK34 _ _ ?_
  clear hK34
  refine Vk.condT hs (by kernel_rfl) (by kernel_rfl) ?_
  refine Vk.seq fun K35 hK35 => ?_
  refine Vk.region ?_
  refine Vk.pures 1 [(6, .int .i64 (-1))] hs (by kernel_rfl) fun a hs => ?_
  replace hs := hs.pick [6] (L' := [(6, .int .i64 (-1))]) (by kernel_rfl)
  refine Vk.done (by kernel_rfl) ?_
  refine hK35 _ _ ?_
  clear hK35
  refine wp_ret ?_
  refine hKP30 _ _ ?_
  refine hKR30 _ _ ?_
  refine Vk.ret1 (P := Try.prog) (fn := Try.f60) (.int .i64 (-1)) hs rfl (by kernel_rfl) ⟨_, _, _, rfl, hs.own, fun a hs => ?_⟩
  refine Vk.pures 1 [(8, .int .i64 (-1))] hs (by kernel_rfl) fun a hs => ?_
  replace hs := hs.pick [8] (L' := [(8, .int .i64 (-1))]) (by kernel_rfl)
  refine Vk.done (by kernel_rfl) ?_
  refine hK24 _ _ ?_
  clear hK24
  refine wp_ret ?_
  refine hKP22 _ _ ?_
  refine hKR22 _ _ ?_
  refine Vk.ret1 (P := Try.prog) (fn := Try.f59) (.int .i64 (-1)) hs rfl (by kernel_rfl) ⟨_, _, _, rfl, hs.own, fun a hs => ?_⟩
  refine Vk.pures 4 [(19, .pointer none), (18, .bool false), (17, .bool false), (16, .bool false)] hs (by kernel_rfl) fun a hs => ?_
  refine Vk.step (Vk.call (some 20) 98 #[.pointer none, .int .i64 0, .int .i64 0, .int .i64 0] hs (by kernel_rfl) (by kernel_rfl) (by kernel_rfl) ?_)
  refine Vk.enterI [(0, .pointer none), (1, .int .i64 0), (2, .int .i64 0), (3, .int .i64 0)] Try.func98 rfl Try.ntmps98 (by kernel_rfl) (Nat.le_of_ble_eq_true (by kernel_rfl)) hs.own fun KR36 hKR36 hKP36 a hs => ?_
  refine Vk.seq fun K37 hK37 => ?_
  refine Vk.region ?_
  refine Vk.pures 1 [(8, .int .u64 0)] hs (by kernel_rfl) fun a hs => ?_
  replace hs := hs.pick [0, 1, 2, 3] (L' := [(0, .pointer none), (1, .int .i64 0), (2, .int .i64 0), (3, .int .i64 0)]) (by kernel_rfl)
  refine Vk.done (by kernel_rfl) ?_
  refine hK37 _ _ ?_
  clear hK37
  refine Vk.seq fun K38 hK38 => ?_
  refine Vk.region ?_
  refine Vk.pures 5 [(14, .agg (vals [C.int .i64 12, C.int .i64 (-1), C.int .i64 0, C.int .i64 0, C.int .i64 0, C.int .u64 0])), (13, .int .i64 0), (12, .int .i64 0), (11, .int .i64 0), (10, .pointer none)] hs (by kernel_rfl) fun a hs => ?_
  refine Vk.step (Vk.call (some 15) 60 #[.pointer none, .agg (vals [C.int .i64 12, C.int .i64 (-1), C.int .i64 0, C.int .i64 0, C.int .i64 0, C.int .u64 0]), .int .u64 0] hs (by kernel_rfl) (by kernel_rfl) (by kernel_rfl) ?_)
  refine Vk.enterI [(0, .pointer none), (1, .agg (vals [C.int .i64 12, C.int .i64 (-1), C.int .i64 0, C.int .i64 0, C.int .i64 0, C.int .u64 0])), (2, .int .u64 0)] Try.func60 rfl Try.ntmps60 (by kernel_rfl) (Nat.le_of_ble_eq_true (by kernel_rfl)) hs.own fun KR39 hKR39 hKP39 a hs => ?_
  refine Vk.seq fun K40 hK40 => ?_
  refine Vk.region ?_
  refine Vk.step (Vk.box (x := (.tmp 1)) 4 32 [C.int .i64 12, C.int .i64 (-1), C.int .i64 0, C.int .i64 0, C.int .i64 0, C.int .u64 0] hs (by kernel_rfl) (by kernel_rfl) (by kernel_rfl) fun b_41 w a hs => ?_)
  refine Vk.pures 1 [(6, .int .i64 0)] hs (by kernel_rfl) fun a hs => ?_
  replace hs := hs.pick [0, 2, 4] (L' := [(0, .pointer none), (2, .int .u64 0), (4, .pointer (some ⟨b_41, 0, none⟩))]) (by kernel_rfl)
  refine Vk.done (by kernel_rfl) ?_
  refine hK40 _ _ ?_
  clear hK40
  refine Vk.seq fun K42 hK42 => ?_
  refine wp_block ?_
  refine Vk.seq fun K43 hK43 => ?_
  refine Vk.region ?_
  refine Vk.pures 10 [(9, .bool true), (18, .bool true), (17, undef), (16, undef), (15, undef), (14, undef), (13, undef), (12, .bool true), (11, .bool true), (10, .pointer none)] hs (by kernel_rfl) fun a hs => ?_
  replace hs := hs.pick [0, 2, 4, 9] (L' := [(0, .pointer none), (2, .int .u64 0), (4, .pointer (some ⟨b_41, 0, none⟩)), (9, .bool true)]) (by kernel_rfl)
  refine Vk.done (by kernel_rfl) ?_
  refine hK43 _ _ ?_
  clear hK43
  refine Vk.condT hs (by kernel_rfl) (by kernel_rfl) ?_
  refine Vk.seq fun K44 hK44 => ?_
  refine Vk.region ?_
  refine Vk.pures 1 [(6, .int .i64 (-1))] hs (by kernel_rfl) fun a hs => ?_
  replace hs := hs.pick [6] (L' := [(6, .int .i64 (-1))]) (by kernel_rfl)
  refine Vk.done (by kernel_rfl) ?_
  refine hK44 _ _ ?_
  clear hK44
  refine wp_ret ?_
  refine hKP39 _ _ ?_
  refine hKR39 _ _ ?_
  refine Vk.ret1 (P := Try.prog) (fn := Try.f60) (.int .i64 (-1)) hs rfl (by kernel_rfl) ⟨_, _, _, rfl, hs.own, fun a hs => ?_⟩
  refine Vk.pures 1 [(9, .int .i64 (-1))] hs (by kernel_rfl) fun a hs => ?_
  replace hs := hs.pick [0, 9] (L' := [(0, .pointer none), (9, .int .i64 (-1))]) (by kernel_rfl)
  refine Vk.done (by kernel_rfl) ?_
  refine hK38 _ _ ?_
  clear hK38
  refine Vk.seq fun K45 hK45 => ?_
  refine wp_block ?_
  refine Vk.seq fun K46 hK46 => ?_
  refine Vk.region ?_
  refine Vk.pures 3 [(16, .bool true), (18, .bool true), (17, .int .i64 (-1))] hs (by kernel_rfl) fun a hs => ?_
  replace hs := hs.pick [0, 9, 16] (L' := [(0, .pointer none), (9, .int .i64 (-1)), (16, .bool true)]) (by kernel_rfl)
  refine Vk.done (by kernel_rfl) ?_
  refine hK46 _ _ ?_
  clear hK46
  refine Vk.condT hs (by kernel_rfl) (by kernel_rfl) ?_
  refine Vk.seq fun K47 hK47 => ?_
  refine Vk.region ?_
  refine Vk.pures 1 [(8, .int .u64 0)] hs (by kernel_rfl) fun a hs => ?_
  replace hs := hs.pick [8] (L' := [(8, .int .u64 0)]) (by kernel_rfl)
  refine Vk.done (by kernel_rfl) ?_
  refine hK47 _ _ ?_
  clear hK47
  refine wp_ret ?_
  refine hKP36 _ _ ?_
  refine hKR36 _ _ ?_
  refine Vk.ret1 (P := Try.prog) (fn := Try.f98) (.int .u64 0) hs rfl (by kernel_rfl) ⟨_, _, _, rfl, hs.own, fun a hs => ?_⟩
  refine Vk.pures 4 [(24, .pointer none), (23, .bool false), (22, .bool false), (21, .bool false)] hs (by kernel_rfl) fun a hs => ?_
  refine Vk.step (Vk.call (some 25) 58 #[.pointer none] hs (by kernel_rfl) (by kernel_rfl) (by kernel_rfl) ?_)
  refine Vk.enterI [(0, .pointer none)] Try.func58 rfl Try.ntmps58 (by kernel_rfl) (Nat.le_of_ble_eq_true (by kernel_rfl)) hs.own fun KR48 hKR48 hKP48 a hs => ?_
  refine Vk.seq fun K49 hK49 => ?_
  refine Vk.region ?_
  refine Vk.pures 1 [(2, .int .i64 0)] hs (by kernel_rfl) fun a hs => ?_
  replace hs := hs.pick [0] (L' := [(0, .pointer none)]) (by kernel_rfl)
  refine Vk.done (by kernel_rfl) ?_
  refine hK49 _ _ ?_
  clear hK49
  refine Vk.seq fun K50 hK50 => ?_
  refine Vk.seq fun K51 hK51 => ?_
  refine Vk.region ?_
  refine Vk.pures 2 [(4, .bool true), (3, .pointer none)] hs (by kernel_rfl) fun a hs => ?_
  replace hs := hs.pick [0, 4] (L' := [(0, .pointer none), (4, .bool true)]) (by kernel_rfl)
  refine Vk.done (by kernel_rfl) ?_
  refine hK51 _ _ ?_
  clear hK51
  refine Vk.condT hs (by kernel_rfl) (by kernel_rfl) ?_
  refine Vk.seq fun K52 hK52 => ?_
  refine Vk.region ?_
  refine Vk.pures 1 [(2, .int .i64 0)] hs (by kernel_rfl) fun a hs => ?_
  replace hs := hs.pick [2] (L' := [(2, .int .i64 0)]) (by kernel_rfl)
  refine Vk.done (by kernel_rfl) ?_
  refine hK52 _ _ ?_
  clear hK52
  refine wp_ret ?_
  refine hKP48 _ _ ?_
  refine hKR48 _ _ ?_
  refine Vk.ret1 (P := Try.prog) (fn := Try.f58) (.int .i64 0) hs rfl (by kernel_rfl) ⟨_, _, _, rfl, hs.own, fun a hs => ?_⟩
  refine Vk.pures 4 [(29, .pointer none), (28, .bool false), (27, .bool false), (26, .bool false)] hs (by kernel_rfl) fun a hs => ?_
  refine Vk.step (Vk.call (some 30) 62 #[.pointer none] hs (by kernel_rfl) (by kernel_rfl) (by kernel_rfl) ?_)
  refine Vk.enterI [(0, .pointer none)] Try.func62 rfl Try.ntmps62 (by kernel_rfl) (Nat.le_of_ble_eq_true (by kernel_rfl)) hs.own fun KR53 hKR53 hKP53 a hs => ?_
  refine Vk.seq fun K54 hK54 => ?_
  refine Vk.region ?_
  refine Vk.pures 1 [(2, .int .i64 0)] hs (by kernel_rfl) fun a hs => ?_
  replace hs := hs.pick [0] (L' := [(0, .pointer none)]) (by kernel_rfl)
  refine Vk.done (by kernel_rfl) ?_
  refine hK54 _ _ ?_
  clear hK54
  refine Vk.seq fun K55 hK55 => ?_
  refine Vk.seq fun K56 hK56 => ?_
  refine Vk.region ?_
  refine Vk.pures 2 [(4, .bool true), (3, .pointer none)] hs (by kernel_rfl) fun a hs => ?_
  replace hs := hs.pick [0, 4] (L' := [(0, .pointer none), (4, .bool true)]) (by kernel_rfl)
  refine Vk.done (by kernel_rfl) ?_
  refine hK56 _ _ ?_
  clear hK56
  refine Vk.condT hs (by kernel_rfl) (by kernel_rfl) ?_
  refine Vk.seq fun K57 hK57 => ?_
  refine Vk.region ?_
  refine Vk.pures 1 [(2, .int .i64 1)] hs (by kernel_rfl) fun a hs => ?_
  replace hs := hs.pick [2] (L' := [(2, .int .i64 1)]) (by kernel_rfl)
  refine Vk.done (by kernel_rfl) ?_
  refine hK57 _ _ ?_
  clear hK57
  refine wp_ret ?_
  refine hKP53 _ _ ?_
  refine hKR53 _ _ ?_
  refine Vk.ret1 (P := Try.prog) (fn := Try.f62) (.int .i64 1) hs rfl (by kernel_rfl) ⟨_, _, _, rfl, hs.own, fun a hs => ?_⟩
  refine Vk.pures 4 [(34, .pointer none), (33, .bool false), (32, .bool false), (31, .bool false)] hs (by kernel_rfl) fun a hs => ?_
  refine Vk.step (Vk.call (some 35) 68 #[.pointer none] hs (by kernel_rfl) (by kernel_rfl) (by kernel_rfl) ?_)
  refine Vk.enterI [(0, .pointer none)] Try.func68 rfl Try.ntmps68 (by kernel_rfl) (Nat.le_of_ble_eq_true (by kernel_rfl)) hs.own fun KR58 hKR58 hKP58 a hs => ?_
  refine Vk.seq fun K59 hK59 => ?_
  refine Vk.region ?_
  refine Vk.pures 1 [(2, .pointer none)] hs (by kernel_rfl) fun a hs => ?_
  replace hs := hs.pick [0] (L' := [(0, .pointer none)]) (by kernel_rfl)
  refine Vk.done (by kernel_rfl) ?_
  refine hK59 _ _ ?_
  clear hK59
  refine Vk.seq fun K60 hK60 => ?_
  refine Vk.seq fun K61 hK61 => ?_
  refine Vk.region ?_
  refine Vk.pures 2 [(4, .bool true), (3, .pointer none)] hs (by kernel_rfl) fun a hs => ?_
  replace hs := hs.pick [0, 4] (L' := [(0, .pointer none), (4, .bool true)]) (by kernel_rfl)
  refine Vk.done (by kernel_rfl) ?_
  refine hK61 _ _ ?_
  clear hK61
  refine Vk.condT hs (by kernel_rfl) (by kernel_rfl) ?_
  refine Vk.seq fun K62 hK62 => ?_
  refine Vk.region ?_
  refine Vk.pures 1 [(2, .pointer none)] hs (by kernel_rfl) fun a hs => ?_
  replace hs := hs.pick [2] (L' := [(2, .pointer none)]) (by kernel_rfl)
  refine Vk.done (by kernel_rfl) ?_
  refine hK62 _ _ ?_
  clear hK62
  refine wp_ret ?_
  refine hKP58 _ _ ?_
  refine hKR58 _ _ ?_
  refine Vk.ret1 (P := Try.prog) (fn := Try.f68) (.pointer none) hs rfl (by kernel_rfl) ⟨_, _, _, rfl, hs.own, fun a hs => ?_⟩
  refine Vk.pures 4 [(39, .pointer none), (38, .bool false), (37, .bool false), (36, .bool false)] hs (by kernel_rfl) fun a hs => ?_
  refine Vk.step (Vk.call (some 40) 53 #[.pointer none] hs (by kernel_rfl) (by kernel_rfl) (by kernel_rfl) ?_)
  refine Vk.enterI [(0, .pointer none)] Try.func53 rfl Try.ntmps53 (by kernel_rfl) (Nat.le_of_ble_eq_true (by kernel_rfl)) hs.own fun KR63 hKR63 hKP63 a hs => ?_
  refine Vk.seq fun K64 hK64 => ?_
  refine Vk.region ?_
  refine Vk.pures 1 [(2, .slice none 0 0)] hs (by kernel_rfl) fun a hs => ?_
  replace hs := hs.pick [0] (L' := [(0, .pointer none)]) (by kernel_rfl)
  refine Vk.done (by kernel_rfl) ?_
  refine hK64 _ _ ?_
  clear hK64
  refine Vk.seq fun K65 hK65 => ?_
  refine Vk.seq fun K66 hK66 => ?_
  refine Vk.region ?_
  refine Vk.pures 2 [(4, .bool true), (3, .pointer none)] hs (by kernel_rfl) fun a hs => ?_
  replace hs := hs.pick [0, 4] (L' := [(0, .pointer none), (4, .bool true)]) (by kernel_rfl)
  refine Vk.done (by kernel_rfl) ?_
  refine hK66 _ _ ?_
  clear hK66
  refine Vk.condT hs (by kernel_rfl) (by kernel_rfl) ?_
  refine Vk.seq fun K67 hK67 => ?_
  refine Vk.region ?_
  refine Vk.pures 1 [(2, .slice none 0 0)] hs (by kernel_rfl) fun a hs => ?_
  replace hs := hs.pick [2] (L' := [(2, .slice none 0 0)]) (by kernel_rfl)
  refine Vk.done (by kernel_rfl) ?_
  refine hK67 _ _ ?_
  clear hK67
  refine wp_ret ?_
  refine hKP63 _ _ ?_
  refine hKR63 _ _ ?_
  refine Vk.ret1 (P := Try.prog) (fn := Try.f53) (.slice none 0 0) hs rfl (by kernel_rfl) ⟨_, _, _, rfl, hs.own, fun a hs => ?_⟩
  refine Vk.pures 5 [(45, .pointer none), (44, .bool false), (43, .bool false), (42, .bool false), (41, .int .i64 0)] hs (by kernel_rfl) fun a hs => ?_
  refine Vk.step (Vk.call (some 46) 88 #[.pointer none] hs (by kernel_rfl) (by kernel_rfl) (by kernel_rfl) ?_)
  refine Vk.enterI [(0, .pointer none)] Try.func88 rfl Try.ntmps88 (by kernel_rfl) (Nat.le_of_ble_eq_true (by kernel_rfl)) hs.own fun KR68 hKR68 hKP68 a hs => ?_
  refine Vk.seq fun K69 hK69 => ?_
  refine Vk.region ?_
  refine Vk.pures 1 [(2, .int .i64 0)] hs (by kernel_rfl) fun a hs => ?_
  replace hs := hs.pick [0] (L' := [(0, .pointer none)]) (by kernel_rfl)
  refine Vk.done (by kernel_rfl) ?_
  refine hK69 _ _ ?_
  clear hK69
  refine Vk.seq fun K70 hK70 => ?_
  refine Vk.seq fun K71 hK71 => ?_
  refine Vk.region ?_
  refine Vk.pures 2 [(4, .bool true), (3, .pointer none)] hs (by kernel_rfl) fun a hs => ?_
  replace hs := hs.pick [0, 4] (L' := [(0, .pointer none), (4, .bool true)]) (by kernel_rfl)
  refine Vk.done (by kernel_rfl) ?_
  refine hK71 _ _ ?_
  clear hK71
  refine Vk.condT hs (by kernel_rfl) (by kernel_rfl) ?_
  refine Vk.seq fun K72 hK72 => ?_
  refine Vk.region ?_
  refine Vk.pures 1 [(2, .int .i64 0)] hs (by kernel_rfl) fun a hs => ?_
  replace hs := hs.pick [2] (L' := [(2, .int .i64 0)]) (by kernel_rfl)
  refine Vk.done (by kernel_rfl) ?_
  refine hK72 _ _ ?_
  clear hK72
  refine wp_ret ?_
  refine hKP68 _ _ ?_
  refine hKR68 _ _ ?_
  refine Vk.ret1 (P := Try.prog) (fn := Try.f88) (.int .i64 0) hs rfl (by kernel_rfl) ⟨_, _, _, rfl, hs.own, fun a hs => ?_⟩
  refine Vk.pures 4 [(50, .pointer none), (49, .bool false), (48, .bool false), (47, .bool false)] hs (by kernel_rfl) fun a hs => ?_
  refine Vk.step (Vk.call (some 51) 99 #[.pointer none] hs (by kernel_rfl) (by kernel_rfl) (by kernel_rfl) ?_)
  refine Vk.enterI [(0, .pointer none)] Try.func99 rfl Try.ntmps99 (by kernel_rfl) (Nat.le_of_ble_eq_true (by kernel_rfl)) hs.own fun KR73 hKR73 hKP73 a hs => ?_
  refine Vk.seq fun K74 hK74 => ?_
  refine Vk.region ?_
  refine Vk.pures 1 [(2, .int .i64 0)] hs (by kernel_rfl) fun a hs => ?_
  replace hs := hs.pick [0] (L' := [(0, .pointer none)]) (by kernel_rfl)
  refine Vk.done (by kernel_rfl) ?_
  refine hK74 _ _ ?_
  clear hK74
  refine Vk.seq fun K75 hK75 => ?_
  refine Vk.seq fun K76 hK76 => ?_
  refine Vk.region ?_
  refine Vk.pures 2 [(4, .bool true), (3, .pointer none)] hs (by kernel_rfl) fun a hs => ?_
  replace hs := hs.pick [0, 4] (L' := [(0, .pointer none), (4, .bool true)]) (by kernel_rfl)
  refine Vk.done (by kernel_rfl) ?_
  refine hK76 _ _ ?_
  clear hK76
  refine Vk.condT hs (by kernel_rfl) (by kernel_rfl) ?_
  refine Vk.seq fun K77 hK77 => ?_
  refine Vk.region ?_
  refine Vk.pures 1 [(2, .int .i64 0)] hs (by kernel_rfl) fun a hs => ?_
  replace hs := hs.pick [2] (L' := [(2, .int .i64 0)]) (by kernel_rfl)
  refine Vk.done (by kernel_rfl) ?_
  refine hK77 _ _ ?_
  clear hK77
  refine wp_ret ?_
  refine hKP73 _ _ ?_
  refine hKR73 _ _ ?_
  refine Vk.ret1 (P := Try.prog) (fn := Try.f99) (.int .i64 0) hs rfl (by kernel_rfl) ⟨_, _, _, rfl, hs.own, fun a hs => ?_⟩
  refine Vk.pures 4 [(55, .pointer none), (54, .bool false), (53, .bool false), (52, .bool false)] hs (by kernel_rfl) fun a hs => ?_
  refine Vk.step (Vk.call (some 56) 65 #[.pointer none] hs (by kernel_rfl) (by kernel_rfl) (by kernel_rfl) ?_)
  refine Vk.enterI [(0, .pointer none)] Try.func65 rfl Try.ntmps65 (by kernel_rfl) (Nat.le_of_ble_eq_true (by kernel_rfl)) hs.own fun KR78 hKR78 hKP78 a hs => ?_
  refine Vk.seq fun K79 hK79 => ?_
  refine Vk.region ?_
  refine Vk.step (Vk.alloc 2 72 [C.int .i64 0, C.slc none 0 0, C.slc none 0 0] hs (by kernel_rfl) (by kernel_rfl) (by kernel_rfl) fun b_80 w a hs => ?_)
  replace hs := hs.pick [0, 2] (L' := [(0, .pointer none), (2, .pointer (some ⟨b_80, 0, none⟩))]) (by kernel_rfl)
  refine Vk.done (by kernel_rfl) ?_
  refine hK79 _ _ ?_
  clear hK79
  refine Vk.seq fun K81 hK81 => ?_
  refine Vk.seq fun K82 hK82 => ?_
  refine Vk.region ?_
  refine Vk.pures 2 [(4, .bool true), (3, .pointer none)] hs (by kernel_rfl) fun a hs => ?_
  replace hs := hs.pick [0, 2, 4] (L' := [(0, .pointer none), (2, .pointer (some ⟨b_80, 0, none⟩)), (4, .bool true)]) (by kernel_rfl)
  refine Vk.done (by kernel_rfl) ?_
  refine hK82 _ _ ?_
  clear hK82
  refine Vk.condT hs (by kernel_rfl) (by kernel_rfl) ?_
  refine Vk.seq fun K83 hK83 => ?_
  refine Vk.region ?_
  refine Vk.pures 1 [(5, .agg (vals [C.int .i64 0, C.slc none 0 0, C.slc none 0 0]))] hs (by kernel_rfl) fun a hs => ?_
  refine Vk.step (Vk.storeA (b := b_80) (ty := 72) (x := (.tmp 2)) (y := (.tmp 5)) (sz := 3) [C.int .i64 0, C.slc none 0 0, C.slc none 0 0] 0 hs (by kernel_rfl) (by kernel_rfl) (by kernel_rfl) (by kernel_rfl) (by kernel_rfl) rfl (by kernel_rfl) rfl (Eq.trans (b := 3) rfl (Eq.symm rfl)) fun a w hs => ?_)
  replace hs := hs.pick [2] (L' := [(2, .pointer (some ⟨b_80, 0, none⟩))]) (by kernel_rfl)
  refine Vk.done (by kernel_rfl) ?_
  refine hK83 _ _ ?_
  clear hK83
  refine wp_ret ?_
  refine hKP78 _ _ ?_
  refine hKR78 _ _ ?_
  refine Vk.retC (P := Try.prog) (fn := Try.f65) [C.int .i64 0, C.slc none 0 0, C.slc none 0 0] hs rfl (by kernel_rfl) (sz := 3) (by kernel_rfl) rfl (CellsAt.all 0 rfl) ⟨_, _, _, rfl, hs.own, fun a hs => ?_⟩
  refine Vk.pures 4 [(60, .bool false), (59, .bool false), (58, .int .i64 0), (57, .slice none 0 0)] hs (by kernel_rfl) fun a hs => ?_
  replace hs := hs.pick [60] (L' := [(60, .bool false)]) (by kernel_rfl)
  refine Vk.done (by kernel_rfl) ?_
  refine hK12 _ _ ?_
  clear hK12
  refine Vk.condF hs (by kernel_rfl) (by kernel_rfl) ?_
  refine wp_skip ?_
  refine hK11 _ _ ?_
  clear hK11
  refine Vk.seq fun K84 hK84 => ?_
  refine Vk.region ?_
  obtain ⟨v_87, h_86, hm⟩ := bind_t hm
  refine Vk.step (Vk.call (some 62) 54 #[.slice none 0 0] hs (by kernel_rfl) (by kernel_rfl) (by kernel_rfl) ?_)
  refine (tape_New.ok k [] v_87 h_86 κ w (pt b_80 (blk [C.int .i64 0, C.slc none 0 0, C.slc none 0 0] 72) :: pt b_41 (blk [C.int .i64 12, C.int .i64 (-1), C.int .i64 0, C.int .i64 0, C.int .i64 0, C.int .u64 0] 32) :: pt b_32 (blk [C.int .i64 2, C.int .i64 0, C.int .i64 0, C.int .i64 0, C.int .i64 (-1), C.int .u64 0] 32) :: pt b_18 (blk [C.int .i64 1, C.int .i64 0, C.int .i64 (-1), C.int .i64 (-1), C.int .i64 (-1), C.int .u64 0] 32) :: S) none 0 Sl.nil hs.own).mono ?_
  rintro _ w ⟨br85x0_88, Ar85x0owords_89, cr85x0owords_90, rfl, how⟩
  refine ⟨_, _, _, rfl, how, fun a hs => ?_⟩
  obtain ⟨v_93, h_92, hm⟩ := bind_t hm
  refine Vk.step (Vk.call (some 63) 57 #[.int .i64 2, .pointer (some ⟨br85x0_88, 0, none⟩), .int .i64 9] hs (by kernel_rfl) (by kernel_rfl) (by kernel_rfl) ?_)
  refine (wire_New.ok k 2 v_87 9 v_93 h_92 κ w (pt b_80 (blk [C.int .i64 0, C.slc none 0 0, C.slc none 0 0] 72) :: pt b_41 (blk [C.int .i64 12, C.int .i64 (-1), C.int .i64 0, C.int .i64 0, C.int .i64 0, C.int .u64 0] 32) :: pt b_32 (blk [C.int .i64 2, C.int .i64 0, C.int .i64 0, C.int .i64 0, C.int .i64 (-1), C.int .u64 0] 32) :: pt b_18 (blk [C.int .i64 1, C.int .i64 0, C.int .i64 (-1), C.int .i64 (-1), C.int .i64 (-1), C.int .u64 0] 32) :: S) br85x0_88 Ar85x0owords_89 cr85x0owords_90 (Own.to hs.own [0, 1, 2, 3, 4, 5] 6 (by kernel_rfl) (by kernel_rfl))).mono ?_
  rintro _ w (⟨v_94, rfl, Ar91o0owords_95, cr91o0owords_96, rfl, how⟩ | ⟨v_97, rfl, br91x0_98, br91x0otape_99, Ar91x0otapeowords_100, cr91x0otapeowords_101, Ar91x0oops_102, cr91x0oops_103, Ar91x0ovalues_104, cr91x0ovalues_105, Ar91x0oblocks_106, cr91x0oblocks_107, rfl, how⟩)
  · dsimp only at hm
    refine ⟨_, _, _, rfl, how, fun a hs => ?_⟩
    refine Vk.pures 5 [(3, .int .i64 v_94.1), (2, .pointer none), (65, .int .i64 v_94.1), (64, .pointer none), (61, .tuple #[.pointer none, .int .i64 v_94.1])] hs (by kernel_rfl) fun a hs => ?_
    replace hs := hs.pick [2, 3] (L' := [(2, .pointer none), (3, .int .i64 v_94.1)]) (by kernel_rfl)
    refine Vk.done (by kernel_rfl) ?_
    refine hK84 _ _ ?_
    refine Vk.seq fun K108 hK108 => ?_
    refine Vk.seq fun K109 hK109 => ?_
    refine Vk.region ?_
    refine Vk.pures 2 [(67, .bool (v_94.1 != 0)), (66, .int .i64 v_94.1)] hs (by kernel_rfl) fun a hs => ?_
    replace hs := hs.pick [2, 67] (L' := [(2, .pointer none), (67, .bool (v_94.1 != 0))]) (by kernel_rfl)
    refine Vk.done (by kernel_rfl) ?_
    refine hK109 _ _ ?_
    clear hK109
    refine Vk.condS (b := v_94.1 != 0) hs (by kernel_rfl) (by kernel_rfl) (fun hb => ?_) (fun hb => ?_)
    · replace hm := bif_t hm hb
      refine Vk.seq fun K110 hK110 => ?_
      refine Vk.region ?_
      refine Vk.pures 1 [(0, .bool false)] hs (by kernel_rfl) fun a hs => ?_
      replace hs := hs.pick [0] (L' := [(0, .bool false)]) (by kernel_rfl)
      refine Vk.done (by kernel_rfl) ?_
      refine hK110 _ _ ?_
      clear hK110
      refine wp_ret ?_
      exact Vk.ret1 (P := Try.prog) (fn := Try.f66) (R := visorlaw19_awake.R κ S r) (.bool false) hs rfl (by kernel_rfl) (by obtain rfl := Option.some.inj hm; exact ⟨rfl, (Own.to hs.own [] 6 (by kernel_rfl) (by kernel_rfl))⟩)
    · replace hm := bif_f hm hb
      refine wp_skip ?_
      refine hK108 _ _ ?_
      clear hK108
      refine Vk.seq fun K111 hK111 => ?_
      refine Vk.region ?_
      refine Vk.pures 1 [(68, .pointer none)] hs (by kernel_rfl) fun a hs => ?_
      refine Vk.step (Vk.call (some 69) 100 #[.pointer none, .int .i64 0, .int .u64 5] hs (by kernel_rfl) (by kernel_rfl) (by kernel_rfl) ?_)
      refine Vk.enterI [(0, .pointer none), (1, .int .i64 0), (2, .int .u64 5)] Try.func100 rfl Try.ntmps100 (by kernel_rfl) (Nat.le_of_ble_eq_true (by kernel_rfl)) hs.own fun KR112 hKR112 hKP112 a hs => ?_
      refine Vk.seq fun K113 hK113 => ?_
      refine Vk.region ?_
      refine Vk.pures 1 [(6, .int .i64 0)] hs (by kernel_rfl) fun a hs => ?_
      replace hs := hs.pick [0, 1, 2] (L' := [(0, .pointer none), (1, .int .i64 0), (2, .int .u64 5)]) (by kernel_rfl)
      refine Vk.done (by kernel_rfl) ?_
      refine hK113 _ _ ?_
      clear hK113
      refine Vk.seq fun K114 hK114 => ?_
      refine Vk.region ?_
      refine Vk.pures 4 [(10, .agg (vals [C.int .i64 3, C.int .i64 0, C.int .i64 (-1), C.int .i64 (-1), C.int .i64 (-1), C.int .u64 5])), (9, .int .u64 5), (8, .int .i64 0), (7, .pointer none)] hs (by kernel_rfl) fun a hs => ?_
      refine Vk.step (Vk.call (some 11) 60 #[.pointer none, .agg (vals [C.int .i64 3, C.int .i64 0, C.int .i64 (-1), C.int .i64 (-1), C.int .i64 (-1), C.int .u64 5]), .int .u64 0] hs (by kernel_rfl) (by kernel_rfl) (by kernel_rfl) ?_)
      refine Vk.enterI [(0, .pointer none), (1, .agg (vals [C.int .i64 3, C.int .i64 0, C.int .i64 (-1), C.int .i64 (-1), C.int .i64 (-1), C.int .u64 5])), (2, .int .u64 0)] Try.func60 rfl Try.ntmps60 (by kernel_rfl) (Nat.le_of_ble_eq_true (by kernel_rfl)) hs.own fun KR115 hKR115 hKP115 a hs => ?_
      refine Vk.seq fun K116 hK116 => ?_
      refine Vk.region ?_
      refine Vk.step (Vk.box (x := (.tmp 1)) 4 32 [C.int .i64 3, C.int .i64 0, C.int .i64 (-1), C.int .i64 (-1), C.int .i64 (-1), C.int .u64 5] hs (by kernel_rfl) (by kernel_rfl) (by kernel_rfl) fun b_117 w a hs => ?_)
      refine Vk.pures 1 [(6, .int .i64 0)] hs (by kernel_rfl) fun a hs => ?_
      replace hs := hs.pick [0, 2, 4] (L' := [(0, .pointer none), (2, .int .u64 0), (4, .pointer (some ⟨b_117, 0, none⟩))]) (by kernel_rfl)
      refine Vk.done (by kernel_rfl) ?_
      refine hK116 _ _ ?_
      clear hK116
      refine Vk.seq fun K118 hK118 => ?_
      refine wp_block ?_
      refine Vk.seq fun K119 hK119 => ?_
      refine Vk.region ?_
      refine Vk.pures 10 [(9, .bool true), (18, .bool true), (17, undef), (16, undef), (15, undef), (14, undef), (13, undef), (12, .bool true), (11, .bool true), (10, .pointer none)] hs (by kernel_rfl) fun a hs => ?_
      replace hs := hs.pick [0, 2, 4, 9] (L' := [(0, .pointer none), (2, .int .u64 0), (4, .pointer (some ⟨b_117, 0, none⟩)), (9, .bool true)]) (by kernel_rfl)
      refine Vk.done (by kernel_rfl) ?_
      refine hK119 _ _ ?_
      clear hK119
      refine Vk.condT hs (by kernel_rfl) (by kernel_rfl) ?_
      refine Vk.seq fun K120 hK120 => ?_
      refine Vk.region ?_
      refine Vk.pures 1 [(6, .int .i64 (-1))] hs (by kernel_rfl) fun a hs => ?_
      replace hs := hs.pick [6] (L' := [(6, .int .i64 (-1))]) (by kernel_rfl)
      refine Vk.done (by kernel_rfl) ?_
      refine hK120 _ _ ?_
      clear hK120
      refine wp_ret ?_
      refine hKP115 _ _ ?_
      refine hKR115 _ _ ?_
      refine Vk.ret1 (P := Try.prog) (fn := Try.f60) (.int .i64 (-1)) hs rfl (by kernel_rfl) ⟨_, _, _, rfl, hs.own, fun a hs => ?_⟩
      refine Vk.pures 1 [(6, .int .i64 (-1))] hs (by kernel_rfl) fun a hs => ?_
      replace hs := hs.pick [6] (L' := [(6, .int .i64 (-1))]) (by kernel_rfl)
      refine Vk.done (by kernel_rfl) ?_
      refine hK114 _ _ ?_
      clear hK114
      refine wp_ret ?_
      refine hKP112 _ _ ?_
      refine hKR112 _ _ ?_
      refine Vk.ret1 (P := Try.prog) (fn := Try.f100) (.int .i64 (-1)) hs rfl (by kernel_rfl) ⟨_, _, _, rfl, hs.own, fun a hs => ?_⟩
      refine Vk.pures 1 [(70, .pointer none)] hs (by kernel_rfl) fun a hs => ?_
      refine Vk.step (Vk.call (some 71) 100 #[.pointer none, .int .i64 0, .int .u64 6] hs (by kernel_rfl) (by kernel_rfl) (by kernel_rfl) ?_)
      refine Vk.enterI [(0, .pointer none), (1, .int .i64 0), (2, .int .u64 6)] Try.func100 rfl Try.ntmps100 (by kernel_rfl) (Nat.le_of_ble_eq_true (by kernel_rfl)) hs.own fun KR121 hKR121 hKP121 a hs => ?_
      refine Vk.seq fun K122 hK122 => ?_
      refine Vk.region ?_
      refine Vk.pures 1 [(6, .int .i64 0)] hs (by kernel_rfl) fun a hs => ?_
      replace hs := hs.pick [0, 1, 2] (L' := [(0, .pointer none), (1, .int .i64 0), (2, .int .u64 6)]) (by kernel_rfl)
      refine Vk.done (by kernel_rfl) ?_
      refine hK122 _ _ ?_
      clear hK122
      refine Vk.seq fun K123 hK123 => ?_
      refine Vk.region ?_
      refine Vk.pures 4 [(10, .agg (vals [C.int .i64 3, C.int .i64 0, C.int .i64 (-1), C.int .i64 (-1), C.int .i64 (-1), C.int .u64 6])), (9, .int .u64 6), (8, .int .i64 0), (7, .pointer none)] hs (by kernel_rfl) fun a hs => ?_
      refine Vk.step (Vk.call (some 11) 60 #[.pointer none, .agg (vals [C.int .i64 3, C.int .i64 0, C.int .i64 (-1), C.int .i64 (-1), C.int .i64 (-1), C.int .u64 6]), .int .u64 0] hs (by kernel_rfl) (by kernel_rfl) (by kernel_rfl) ?_)
      refine Vk.enterI [(0, .pointer none), (1, .agg (vals [C.int .i64 3, C.int .i64 0, C.int .i64 (-1), C.int .i64 (-1), C.int .i64 (-1), C.int .u64 6])), (2, .int .u64 0)] Try.func60 rfl Try.ntmps60 (by kernel_rfl) (Nat.le_of_ble_eq_true (by kernel_rfl)) hs.own fun KR124 hKR124 hKP124 a hs => ?_
      refine Vk.seq fun K125 hK125 => ?_
      refine Vk.region ?_
      refine Vk.step (Vk.box (x := (.tmp 1)) 4 32 [C.int .i64 3, C.int .i64 0, C.int .i64 (-1), C.int .i64 (-1), C.int .i64 (-1), C.int .u64 6] hs (by kernel_rfl) (by kernel_rfl) (by kernel_rfl) fun b_126 w a hs => ?_)
      refine Vk.pures 1 [(6, .int .i64 0)] hs (by kernel_rfl) fun a hs => ?_
      replace hs := hs.pick [0, 2, 4] (L' := [(0, .pointer none), (2, .int .u64 0), (4, .pointer (some ⟨b_126, 0, none⟩))]) (by kernel_rfl)
      refine Vk.done (by kernel_rfl) ?_
      refine hK125 _ _ ?_
      clear hK125
      refine Vk.seq fun K127 hK127 => ?_
      refine wp_block ?_
      refine Vk.seq fun K128 hK128 => ?_
      refine Vk.region ?_
      refine Vk.pures 10 [(9, .bool true), (18, .bool true), (17, undef), (16, undef), (15, undef), (14, undef), (13, undef), (12, .bool true), (11, .bool true), (10, .pointer none)] hs (by kernel_rfl) fun a hs => ?_
      replace hs := hs.pick [0, 2, 4, 9] (L' := [(0, .pointer none), (2, .int .u64 0), (4, .pointer (some ⟨b_126, 0, none⟩)), (9, .bool true)]) (by kernel_rfl)
      refine Vk.done (by kernel_rfl) ?_
      refine hK128 _ _ ?_
      clear hK128
      refine Vk.condT hs (by kernel_rfl) (by kernel_rfl) ?_
      refine Vk.seq fun K129 hK129 => ?_
      refine Vk.region ?_
      refine Vk.pures 1 [(6, .int .i64 (-1))] hs (by kernel_rfl) fun a hs => ?_
      replace hs := hs.pick [6] (L' := [(6, .int .i64 (-1))]) (by kernel_rfl)
      refine Vk.done (by kernel_rfl) ?_
      refine hK129 _ _ ?_
      clear hK129
      refine wp_ret ?_
      refine hKP124 _ _ ?_
      refine hKR124 _ _ ?_
      refine Vk.ret1 (P := Try.prog) (fn := Try.f60) (.int .i64 (-1)) hs rfl (by kernel_rfl) ⟨_, _, _, rfl, hs.own, fun a hs => ?_⟩
      refine Vk.pures 1 [(6, .int .i64 (-1))] hs (by kernel_rfl) fun a hs => ?_
      replace hs := hs.pick [6] (L' := [(6, .int .i64 (-1))]) (by kernel_rfl)
      refine Vk.done (by kernel_rfl) ?_
      refine hK123 _ _ ?_
      clear hK123
      refine wp_ret ?_
      refine hKP121 _ _ ?_
      refine hKR121 _ _ ?_
      refine Vk.ret1 (P := Try.prog) (fn := Try.f100) (.int .i64 (-1)) hs rfl (by kernel_rfl) ⟨_, _, _, rfl, hs.own, fun a hs => ?_⟩
      refine Vk.pures 2 [(5, .int .i64 (-1)), (4, .int .i64 (-1))] hs (by kernel_rfl) fun a hs => ?_
      replace hs := hs.pick [2, 4, 5] (L' := [(2, .pointer none), (4, .int .i64 (-1)), (5, .int .i64 (-1))]) (by kernel_rfl)
      refine Vk.done (by kernel_rfl) ?_
      refine hK111 _ _ ?_
      clear hK111
      refine Vk.seq fun K130 hK130 => ?_
      refine Vk.region ?_
      refine Vk.pures 3 [(74, .int .i64 (-1)), (73, .int .i64 (-1)), (72, .pointer none)] hs (by kernel_rfl) fun a hs => ?_
      refine Vk.step (Vk.call (some 75) 101 #[.pointer none, .int .i64 5, .int .i64 0, .int .i64 (-1), .int .i64 (-1)] hs (by kernel_rfl) (by kernel_rfl) (by kernel_rfl) ?_)
      refine Vk.enterI [(0, .pointer none), (1, .int .i64 5), (2, .int .i64 0), (3, .int .i64 (-1)), (4, .int .i64 (-1))] Try.func101 rfl Try.ntmps101 (by kernel_rfl) (Nat.le_of_ble_eq_true (by kernel_rfl)) hs.own fun KR131 hKR131 hKP131 a hs => ?_
      refine Vk.seq fun K132 hK132 => ?_
      refine Vk.region ?_
      refine Vk.pures 1 [(10, .int .i64 0)] hs (by kernel_rfl) fun a hs => ?_
      replace hs := hs.pick [0, 1, 2, 3, 4] (L' := [(0, .pointer none), (1, .int .i64 5), (2, .int .i64 0), (3, .int .i64 (-1)), (4, .int .i64 (-1))]) (by kernel_rfl)
      refine Vk.done (by kernel_rfl) ?_
      refine hK132 _ _ ?_
      clear hK132
      refine Vk.seq fun K133 hK133 => ?_
      refine Vk.region ?_
      refine Vk.pures 6 [(16, .agg (vals [C.int .i64 5, C.int .i64 0, C.int .i64 (-1), C.int .i64 (-1), C.int .i64 (-1), C.int .u64 0])), (15, .int .i64 (-1)), (14, .int .i64 (-1)), (13, .int .i64 0), (12, .int .i64 5), (11, .pointer none)] hs (by kernel_rfl) fun a hs => ?_
      refine Vk.step (Vk.call (some 17) 60 #[.pointer none, .agg (vals [C.int .i64 5, C.int .i64 0, C.int .i64 (-1), C.int .i64 (-1), C.int .i64 (-1), C.int .u64 0]), .int .u64 0] hs (by kernel_rfl) (by kernel_rfl) (by kernel_rfl) ?_)
      refine Vk.enterI [(0, .pointer none), (1, .agg (vals [C.int .i64 5, C.int .i64 0, C.int .i64 (-1), C.int .i64 (-1), C.int .i64 (-1), C.int .u64 0])), (2, .int .u64 0)] Try.func60 rfl Try.ntmps60 (by kernel_rfl) (Nat.le_of_ble_eq_true (by kernel_rfl)) hs.own fun KR134 hKR134 hKP134 a hs => ?_
      refine Vk.seq fun K135 hK135 => ?_
      refine Vk.region ?_
      refine Vk.step (Vk.box (x := (.tmp 1)) 4 32 [C.int .i64 5, C.int .i64 0, C.int .i64 (-1), C.int .i64 (-1), C.int .i64 (-1), C.int .u64 0] hs (by kernel_rfl) (by kernel_rfl) (by kernel_rfl) fun b_136 w a hs => ?_)
      refine Vk.pures 1 [(6, .int .i64 0)] hs (by kernel_rfl) fun a hs => ?_
      replace hs := hs.pick [0, 2, 4] (L' := [(0, .pointer none), (2, .int .u64 0), (4, .pointer (some ⟨b_136, 0, none⟩))]) (by kernel_rfl)
      refine Vk.done (by kernel_rfl) ?_
      refine hK135 _ _ ?_
      clear hK135
      refine Vk.seq fun K137 hK137 => ?_
      refine wp_block ?_
      refine Vk.seq fun K138 hK138 => ?_
      refine Vk.region ?_
      refine Vk.pures 10 [(9, .bool true), (18, .bool true), (17, undef), (16, undef), (15, undef), (14, undef), (13, undef), (12, .bool true), (11, .bool true), (10, .pointer none)] hs (by kernel_rfl) fun a hs => ?_
      replace hs := hs.pick [0, 2, 4, 9] (L' := [(0, .pointer none), (2, .int .u64 0), (4, .pointer (some ⟨b_136, 0, none⟩)), (9, .bool true)]) (by kernel_rfl)
      refine Vk.done (by kernel_rfl) ?_
      refine hK138 _ _ ?_
      clear hK138
      refine Vk.condT hs (by kernel_rfl) (by kernel_rfl) ?_
      refine Vk.seq fun K139 hK139 => ?_
      refine Vk.region ?_
      refine Vk.pures 1 [(6, .int .i64 (-1))] hs (by kernel_rfl) fun a hs => ?_
      replace hs := hs.pick [6] (L' := [(6, .int .i64 (-1))]) (by kernel_rfl)
      refine Vk.done (by kernel_rfl) ?_
      refine hK139 _ _ ?_
      clear hK139
      refine wp_ret ?_
      refine hKP134 _ _ ?_
      refine hKR134 _ _ ?_
      refine Vk.ret1 (P := Try.prog) (fn := Try.f60) (.int .i64 (-1)) hs rfl (by kernel_rfl) ⟨_, _, _, rfl, hs.own, fun a hs => ?_⟩
      refine Vk.pures 1 [(10, .int .i64 (-1))] hs (by kernel_rfl) fun a hs => ?_
      replace hs := hs.pick [10] (L' := [(10, .int .i64 (-1))]) (by kernel_rfl)
      refine Vk.done (by kernel_rfl) ?_
      refine hK133 _ _ ?_
      clear hK133
      refine wp_ret ?_
      refine hKP131 _ _ ?_
      refine hKR131 _ _ ?_
      refine Vk.ret1 (P := Try.prog) (fn := Try.f101) (.int .i64 (-1)) hs rfl (by kernel_rfl) ⟨_, _, _, rfl, hs.own, fun a hs => ?_⟩
      replace hs := hs.pick [2] (L' := [(2, .pointer none)]) (by kernel_rfl)
      refine Vk.done (by kernel_rfl) ?_
      refine hK130 _ _ ?_
      clear hK130
      refine Vk.seq fun K140 hK140 => ?_
      refine Vk.region ?_
      refine Vk.pures 1 [(76, .pointer none)] hs (by kernel_rfl) fun a hs => ?_
      refine Vk.step (Vk.call (some 77) 53 #[.pointer none] hs (by kernel_rfl) (by kernel_rfl) (by kernel_rfl) ?_)
      refine Vk.enterI [(0, .pointer none)] Try.func53 rfl Try.ntmps53 (by kernel_rfl) (Nat.le_of_ble_eq_true (by kernel_rfl)) hs.own fun KR141 hKR141 hKP141 a hs => ?_
      refine Vk.seq fun K142 hK142 => ?_
      refine Vk.region ?_
      refine Vk.pures 1 [(2, .slice none 0 0)] hs (by kernel_rfl) fun a hs => ?_
      replace hs := hs.pick [0] (L' := [(0, .pointer none)]) (by kernel_rfl)
      refine Vk.done (by kernel_rfl) ?_
      refine hK142 _ _ ?_
      clear hK142
      refine Vk.seq fun K143 hK143 => ?_
      refine Vk.seq fun K144 hK144 => ?_
      refine Vk.region ?_
      refine Vk.pures 2 [(4, .bool true), (3, .pointer none)] hs (by kernel_rfl) fun a hs => ?_
      replace hs := hs.pick [0, 4] (L' := [(0, .pointer none), (4, .bool true)]) (by kernel_rfl)
      refine Vk.done (by kernel_rfl) ?_
      refine hK144 _ _ ?_
      clear hK144
      refine Vk.condT hs (by kernel_rfl) (by kernel_rfl) ?_
      refine Vk.seq fun K145 hK145 => ?_
      refine Vk.region ?_
      refine Vk.pures 1 [(2, .slice none 0 0)] hs (by kernel_rfl) fun a hs => ?_
      replace hs := hs.pick [2] (L' := [(2, .slice none 0 0)]) (by kernel_rfl)
      refine Vk.done (by kernel_rfl) ?_
      refine hK145 _ _ ?_
      clear hK145
      refine wp_ret ?_
      refine hKP141 _ _ ?_
      refine hKR141 _ _ ?_
      refine Vk.ret1 (P := Try.prog) (fn := Try.f53) (.slice none 0 0) hs rfl (by kernel_rfl) ⟨_, _, _, rfl, hs.own, fun a hs => ?_⟩
      refine Vk.step (Vk.buildOp (sz := 1) (by_ := 8) (t := 73) (e := 23) (parts := #[(0, (.const (.int .u64 5))), (1, (.const (.int .u64 6))), (2, (.const (.int .u64 3)))]) (zs := vals [C.int .u64 0]) ([5, 6, 3] : List Int) (eI .u64) (some 78) hs (by kernel_rfl) (by kernel_rfl) (by kernel_rfl) (by kernel_rfl) (by decide) rfl (fun x _ => rfl) (Nat.le_of_ble_eq_true (by kernel_rfl)) (by kernel_rfl) fun A_146 w a hs => ?_)
      obtain ⟨v_150, h_149, hm⟩ := bind_t hm
      refine Vk.step (Vk.call (some 79) 102 #[.slice none 0 0, .slice A_146 (([5, 6, 3] : List Int).length) 3] hs (by kernel_rfl) (by kernel_rfl) (by kernel_rfl) ?_)
      refine (visorlaw19_words.ok k [] ([5, 6, 3] : List Int) v_150 h_149 κ w (rowp A_146 3 23 1 (eI .u64) ([5, 6, 3] : List Int) :: pt b_136 (blk [C.int .i64 5, C.int .i64 0, C.int .i64 (-1), C.int .i64 (-1), C.int .i64 (-1), C.int .u64 0] 32) :: pt b_126 (blk [C.int .i64 3, C.int .i64 0, C.int .i64 (-1), C.int .i64 (-1), C.int .i64 (-1), C.int .u64 6] 32) :: pt b_117 (blk [C.int .i64 3, C.int .i64 0, C.int .i64 (-1), C.int .i64 (-1), C.int .i64 (-1), C.int .u64 5] 32) :: pt br85x0_88 (blk (Ttape_Tape.obj v_94.2 Ar91o0owords_95 cr91o0owords_96) 158) :: rowp Ar91o0owords_95 cr91o0owords_96 23 1 (eI .u64) v_94.2.words :: pt b_80 (blk [C.int .i64 0, C.slc none 0 0, C.slc none 0 0] 72) :: pt b_41 (blk [C.int .i64 12, C.int .i64 (-1), C.int .i64 0, C.int .i64 0, C.int .i64 0, C.int .u64 0] 32) :: pt b_32 (blk [C.int .i64 2, C.int .i64 0, C.int .i64 0, C.int .i64 0, C.int .i64 (-1), C.int .u64 0] 32) :: pt b_18 (blk [C.int .i64 1, C.int .i64 0, C.int .i64 (-1), C.int .i64 (-1), C.int .i64 (-1), C.int .u64 0] 32) :: S) none 0 Sl.nil A_146 3 (Sl.lift (fun w ho => (Own.to (S' := rowp A_146 3 23 1 (eI .u64) ([5, 6, 3] : List Int) :: S) ho [0] 10 (by kernel_rfl) (by kernel_rfl))) (Own.rowSl 0 (Own.to (S' := rowp A_146 3 23 1 (eI .u64) ([5, 6, 3] : List Int) :: S) hs.own [0] 10 (by kernel_rfl) (by kernel_rfl)) rfl)) hs.own).mono ?_
      rintro _ w ⟨rfl, how⟩
      refine ⟨_, _, _, rfl, how, fun a hs => ?_⟩
      refine Vk.pures 1 [(0, .bool v_150)] hs (by kernel_rfl) fun a hs => ?_
      replace hs := hs.pick [0] (L' := [(0, .bool v_150)]) (by kernel_rfl)
      refine Vk.done (by kernel_rfl) ?_
      refine hK140 _ _ ?_
      clear hK140
      refine wp_ret ?_
      exact Vk.ret1 (P := Try.prog) (fn := Try.f66) (R := visorlaw19_awake.R κ S r) (.bool v_150) hs rfl (by kernel_rfl) (by obtain rfl := Option.some.inj hm; exact ⟨rfl, (Own.to hs.own [] 10 (by kernel_rfl) (by kernel_rfl))⟩)
  · dsimp only at hm
    refine ⟨_, _, _, rfl, how, fun a hs => ?_⟩
    refine Vk.pures 5 [(3, .int .i64 v_97.2), (2, .pointer (some ⟨br91x0_98, 0, none⟩)), (65, .int .i64 v_97.2), (64, .pointer (some ⟨br91x0_98, 0, none⟩)), (61, .tuple #[.pointer (some ⟨br91x0_98, 0, none⟩), .int .i64 v_97.2])] hs (by kernel_rfl) fun a hs => ?_
    replace hs := hs.pick [2, 3] (L' := [(2, .pointer (some ⟨br91x0_98, 0, none⟩)), (3, .int .i64 v_97.2)]) (by kernel_rfl)
    refine Vk.done (by kernel_rfl) ?_
    refine hK84 _ _ ?_
    refine Vk.seq fun K151 hK151 => ?_
    refine Vk.seq fun K152 hK152 => ?_
    refine Vk.region ?_
    refine Vk.pures 2 [(67, .bool (v_97.2 != 0)), (66, .int .i64 v_97.2)] hs (by kernel_rfl) fun a hs => ?_
    replace hs := hs.pick [2, 67] (L' := [(2, .pointer (some ⟨br91x0_98, 0, none⟩)), (67, .bool (v_97.2 != 0))]) (by kernel_rfl)
    refine Vk.done (by kernel_rfl) ?_
    refine hK152 _ _ ?_
    clear hK152
    refine Vk.condS (b := v_97.2 != 0) hs (by kernel_rfl) (by kernel_rfl) (fun hb => ?_) (fun hb => ?_)
    · replace hm := bif_t hm hb
      refine Vk.seq fun K153 hK153 => ?_
      refine Vk.region ?_
      refine Vk.pures 1 [(0, .bool false)] hs (by kernel_rfl) fun a hs => ?_
      replace hs := hs.pick [0] (L' := [(0, .bool false)]) (by kernel_rfl)
      refine Vk.done (by kernel_rfl) ?_
      refine hK153 _ _ ?_
      clear hK153
      refine wp_ret ?_
      exact Vk.ret1 (P := Try.prog) (fn := Try.f66) (R := visorlaw19_awake.R κ S r) (.bool false) hs rfl (by kernel_rfl) (by obtain rfl := Option.some.inj hm; exact ⟨rfl, (Own.to hs.own [] 10 (by kernel_rfl) (by kernel_rfl))⟩)
    · replace hm := bif_f hm hb
      refine wp_skip ?_
      refine hK151 _ _ ?_
      clear hK151
      refine Vk.seq fun K154 hK154 => ?_
      refine Vk.region ?_
      refine Vk.pures 1 [(68, .pointer (some ⟨br91x0_98, 0, none⟩))] hs (by kernel_rfl) fun a hs => ?_
      obtain ⟨v_157, h_156, hm⟩ := bind_t hm
      refine Vk.step (Vk.call (some 69) 100 #[.pointer (some ⟨br91x0_98, 0, none⟩), .int .i64 0, .int .u64 5] hs (by kernel_rfl) (by kernel_rfl) (by kernel_rfl) ?_)
      refine (wire_Machine_Const.ok k v_97.1 0 5 v_157 h_156 κ w (pt b_80 (blk [C.int .i64 0, C.slc none 0 0, C.slc none 0 0] 72) :: pt b_41 (blk [C.int .i64 12, C.int .i64 (-1), C.int .i64 0, C.int .i64 0, C.int .i64 0, C.int .u64 0] 32) :: pt b_32 (blk [C.int .i64 2, C.int .i64 0, C.int .i64 0, C.int .i64 0, C.int .i64 (-1), C.int .u64 0] 32) :: pt b_18 (blk [C.int .i64 1, C.int .i64 0, C.int .i64 (-1), C.int .i64 (-1), C.int .i64 (-1), C.int .u64 0] 32) :: S) br91x0_98 br91x0otape_99 Ar91x0otapeowords_100 cr91x0otapeowords_101 Ar91x0oops_102 cr91x0oops_103 Ar91x0ovalues_104 cr91x0ovalues_105 Ar91x0oblocks_106 cr91x0oblocks_107 (Own.to hs.own [0, 1, 2, 3, 4, 5, 6, 7, 8, 9] 10 (by kernel_rfl) (by kernel_rfl))).mono ?_
      rintro _ w ⟨Ar155o0otapeowords_158, cr155o0otapeowords_159, Ar155o0oops_160, cr155o0oops_161, Ar155o0ovalues_162, cr155o0ovalues_163, Ar155o0oblocks_164, cr155o0oblocks_165, rfl, how⟩
      refine ⟨_, _, _, rfl, how, fun a hs => ?_⟩
      refine Vk.pures 1 [(70, .pointer (some ⟨br91x0_98, 0, none⟩))] hs (by kernel_rfl) fun a hs => ?_
      obtain ⟨v_168, h_167, hm⟩ := bind_t hm
      refine Vk.step (Vk.call (some 71) 100 #[.pointer (some ⟨br91x0_98, 0, none⟩), .int .i64 0, .int .u64 6] hs (by kernel_rfl) (by kernel_rfl) (by kernel_rfl) ?_)
      refine (wire_Machine_Const.ok k v_157.2 0 6 v_168 h_167 κ w (pt b_80 (blk [C.int .i64 0, C.slc none 0 0, C.slc none 0 0] 72) :: pt b_41 (blk [C.int .i64 12, C.int .i64 (-1), C.int .i64 0, C.int .i64 0, C.int .i64 0, C.int .u64 0] 32) :: pt b_32 (blk [C.int .i64 2, C.int .i64 0, C.int .i64 0, C.int .i64 0, C.int .i64 (-1), C.int .u64 0] 32) :: pt b_18 (blk [C.int .i64 1, C.int .i64 0, C.int .i64 (-1), C.int .i64 (-1), C.int .i64 (-1), C.int .u64 0] 32) :: S) br91x0_98 br91x0otape_99 Ar155o0otapeowords_158 cr155o0otapeowords_159 Ar155o0oops_160 cr155o0oops_161 Ar155o0ovalues_162 cr155o0ovalues_163 Ar155o0oblocks_164 cr155o0oblocks_165 (Own.to hs.own [0, 1, 2, 3, 4, 5, 6, 7, 8, 9] 10 (by kernel_rfl) (by kernel_rfl))).mono ?_
      rintro _ w ⟨Ar166o0otapeowords_169, cr166o0otapeowords_170, Ar166o0oops_171, cr166o0oops_172, Ar166o0ovalues_173, cr166o0ovalues_174, Ar166o0oblocks_175, cr166o0oblocks_176, rfl, how⟩
      refine ⟨_, _, _, rfl, how, fun a hs => ?_⟩
      refine Vk.pures 2 [(5, .int .i64 v_168.1), (4, .int .i64 v_157.1)] hs (by kernel_rfl) fun a hs => ?_
      replace hs := hs.pick [2, 4, 5] (L' := [(2, .pointer (some ⟨br91x0_98, 0, none⟩)), (4, .int .i64 v_157.1), (5, .int .i64 v_168.1)]) (by kernel_rfl)
      refine Vk.done (by kernel_rfl) ?_
      refine hK154 _ _ ?_
      clear hK154
      refine Vk.seq fun K177 hK177 => ?_
      refine Vk.region ?_
      refine Vk.pures 3 [(74, .int .i64 v_168.1), (73, .int .i64 v_157.1), (72, .pointer (some ⟨br91x0_98, 0, none⟩))] hs (by kernel_rfl) fun a hs => ?_
      obtain ⟨v_180, h_179, hm⟩ := bind_t hm
      refine Vk.step (Vk.call (some 75) 101 #[.pointer (some ⟨br91x0_98, 0, none⟩), .int .i64 5, .int .i64 0, .int .i64 v_157.1, .int .i64 v_168.1] hs (by kernel_rfl) (by kernel_rfl) (by kernel_rfl) ?_)
      refine (wire_Machine_Two.ok k v_168.2 5 0 v_157.1 v_168.1 v_180 h_179 κ w (pt b_80 (blk [C.int .i64 0, C.slc none 0 0, C.slc none 0 0] 72) :: pt b_41 (blk [C.int .i64 12, C.int .i64 (-1), C.int .i64 0, C.int .i64 0, C.int .i64 0, C.int .u64 0] 32) :: pt b_32 (blk [C.int .i64 2, C.int .i64 0, C.int .i64 0, C.int .i64 0, C.int .i64 (-1), C.int .u64 0] 32) :: pt b_18 (blk [C.int .i64 1, C.int .i64 0, C.int .i64 (-1), C.int .i64 (-1), C.int .i64 (-1), C.int .u64 0] 32) :: S) br91x0_98 br91x0otape_99 Ar166o0otapeowords_169 cr166o0otapeowords_170 Ar166o0oops_171 cr166o0oops_172 Ar166o0ovalues_173 cr166o0ovalues_174 Ar166o0oblocks_175 cr166o0oblocks_176 (Own.to hs.own [0, 1, 2, 3, 4, 5, 6, 7, 8, 9] 10 (by kernel_rfl) (by kernel_rfl))).mono ?_
      rintro _ w ⟨Ar178o0otapeowords_181, cr178o0otapeowords_182, Ar178o0oops_183, cr178o0oops_184, Ar178o0ovalues_185, cr178o0ovalues_186, Ar178o0oblocks_187, cr178o0oblocks_188, rfl, how⟩
      refine ⟨_, _, _, rfl, how, fun a hs => ?_⟩
      replace hs := hs.pick [2] (L' := [(2, .pointer (some ⟨br91x0_98, 0, none⟩))]) (by kernel_rfl)
      refine Vk.done (by kernel_rfl) ?_
      refine hK177 _ _ ?_
      clear hK177
      refine Vk.seq fun K189 hK189 => ?_
      refine Vk.region ?_
      refine Vk.pures 1 [(76, .pointer (some ⟨br91x0_98, 0, none⟩))] hs (by kernel_rfl) fun a hs => ?_
      obtain ⟨v_192, h_191, hm⟩ := bind_t hm
      refine Vk.step (Vk.call (some 77) 53 #[.pointer (some ⟨br91x0_98, 0, none⟩)] hs (by kernel_rfl) (by kernel_rfl) (by kernel_rfl) ?_)
      refine (wire_Machine_Values.ok k v_180.2 v_192 h_191 κ w (pt b_80 (blk [C.int .i64 0, C.slc none 0 0, C.slc none 0 0] 72) :: pt b_41 (blk [C.int .i64 12, C.int .i64 (-1), C.int .i64 0, C.int .i64 0, C.int .i64 0, C.int .u64 0] 32) :: pt b_32 (blk [C.int .i64 2, C.int .i64 0, C.int .i64 0, C.int .i64 0, C.int .i64 (-1), C.int .u64 0] 32) :: pt b_18 (blk [C.int .i64 1, C.int .i64 0, C.int .i64 (-1), C.int .i64 (-1), C.int .i64 (-1), C.int .u64 0] 32) :: S) br91x0_98 br91x0otape_99 Ar178o0otapeowords_181 cr178o0otapeowords_182 Ar178o0oops_183 cr178o0oops_184 Ar178o0ovalues_185 cr178o0ovalues_186 Ar178o0oblocks_187 cr178o0oblocks_188 (Own.to hs.own [0, 1, 2, 3, 4, 5, 6, 7, 8, 9] 10 (by kernel_rfl) (by kernel_rfl))).mono ?_
      rintro _ w ⟨Ar190x0_193, cr190x0_194, rfl, how⟩
      refine ⟨_, _, _, rfl, how, fun a hs => ?_⟩
      refine Vk.step (Vk.buildOp (sz := 1) (by_ := 8) (t := 73) (e := 23) (parts := #[(0, (.const (.int .u64 5))), (1, (.const (.int .u64 6))), (2, (.const (.int .u64 3)))]) (zs := vals [C.int .u64 0]) ([5, 6, 3] : List Int) (eI .u64) (some 78) hs (by kernel_rfl) (by kernel_rfl) (by kernel_rfl) (by kernel_rfl) (by decide) rfl (fun x _ => rfl) (Nat.le_of_ble_eq_true (by kernel_rfl)) (by kernel_rfl) fun A_195 w a hs => ?_)
      obtain ⟨v_199, h_198, hm⟩ := bind_t hm
      refine Vk.step (Vk.call (some 79) 102 #[.slice Ar190x0_193 v_192.length cr190x0_194, .slice A_195 (([5, 6, 3] : List Int).length) 3] hs (by kernel_rfl) (by kernel_rfl) (by kernel_rfl) ?_)
      refine (visorlaw19_words.ok k v_192 ([5, 6, 3] : List Int) v_199 h_198 κ w (rowp A_195 3 23 1 (eI .u64) ([5, 6, 3] : List Int) :: rowp Ar190x0_193 cr190x0_194 23 1 (eI .u64) v_192 :: pt br91x0_98 (blk (Twire_Machine.obj v_180.2 br91x0otape_99 Ar178o0oops_183 cr178o0oops_184 Ar178o0ovalues_185 cr178o0ovalues_186 Ar178o0oblocks_187 cr178o0oblocks_188) 151) :: pto v_180.2.dry br91x0otape_99 (blk (Ttape_Tape.obj v_180.2.tape Ar178o0otapeowords_181 cr178o0otapeowords_182) 158) :: rowp Ar178o0otapeowords_181 cr178o0otapeowords_182 23 1 (eI .u64) v_180.2.tape.words :: rowp Ar178o0oops_183 cr178o0oops_184 32 6 Tapi_Op.cells v_180.2.ops :: rowp Ar178o0ovalues_185 cr178o0ovalues_186 23 1 (eI .u64) v_180.2.values :: rowp Ar178o0oblocks_187 cr178o0oblocks_188 144 3 Tapi_Span.cells v_180.2.blocks :: pt b_80 (blk [C.int .i64 0, C.slc none 0 0, C.slc none 0 0] 72) :: pt b_41 (blk [C.int .i64 12, C.int .i64 (-1), C.int .i64 0, C.int .i64 0, C.int .i64 0, C.int .u64 0] 32) :: pt b_32 (blk [C.int .i64 2, C.int .i64 0, C.int .i64 0, C.int .i64 0, C.int .i64 (-1), C.int .u64 0] 32) :: pt b_18 (blk [C.int .i64 1, C.int .i64 0, C.int .i64 (-1), C.int .i64 (-1), C.int .i64 (-1), C.int .u64 0] 32) :: S) Ar190x0_193 cr190x0_194 (Sl.lift (fun w ho => (Own.to (S' := rowp Ar190x0_193 cr190x0_194 23 1 (eI .u64) v_192 :: S) ho [1] 12 (by kernel_rfl) (by kernel_rfl))) (Own.rowSl 0 (Own.to (S' := rowp Ar190x0_193 cr190x0_194 23 1 (eI .u64) v_192 :: S) hs.own [1] 12 (by kernel_rfl) (by kernel_rfl)) rfl)) A_195 3 (Sl.lift (fun w ho => (Own.to (S' := rowp A_195 3 23 1 (eI .u64) ([5, 6, 3] : List Int) :: S) ho [0] 12 (by kernel_rfl) (by kernel_rfl))) (Own.rowSl 0 (Own.to (S' := rowp A_195 3 23 1 (eI .u64) ([5, 6, 3] : List Int) :: S) hs.own [0] 12 (by kernel_rfl) (by kernel_rfl)) rfl)) hs.own).mono ?_
      rintro _ w ⟨rfl, how⟩
      refine ⟨_, _, _, rfl, how, fun a hs => ?_⟩
      refine Vk.pures 1 [(0, .bool v_199)] hs (by kernel_rfl) fun a hs => ?_
      replace hs := hs.pick [0] (L' := [(0, .bool v_199)]) (by kernel_rfl)
      refine Vk.done (by kernel_rfl) ?_
      refine hK189 _ _ ?_
      clear hK189
      refine wp_ret ?_
      exact Vk.ret1 (P := Try.prog) (fn := Try.f66) (R := visorlaw19_awake.R κ S r) (.bool v_199) hs rfl (by kernel_rfl) (by obtain rfl := Option.some.inj hm; exact ⟨rfl, (Own.to hs.own [] 12 (by kernel_rfl) (by kernel_rfl))⟩)

structure Tvisorref02_T where
  l : List Int
  used : Int
  free : Int
  deriving Inhabited
def Tvisorref02_T.obj (x : Tvisorref02_T) (Al : Option Addr) (cl : Nat) : Cells := [C.slc Al x.l.length cl, C.int .i64 x.used, C.int .i64 x.free]

structure Tvisorref19_M where
  n : Int
  most : Int
  words : Int
  draws : Int
  fromF : Int
  skip : Int
  kind : Int
  e : Int
  ops : List Tapi_Op
  blocks : List Tapi_Span
  val : List Int
  tape : Tvisorref02_T
  dry : Bool
  deriving Inhabited
def Tvisorref19_M.obj (x : Tvisorref19_M) (Aops : Option Addr) (cops : Nat) (Ablocks : Option Addr) (cblocks : Nat) (Aval : Option Addr) (cval : Nat) (Atapel : Option Addr) (ctapel : Nat) : Cells := [C.int .i64 x.n, C.int .i64 x.most, C.int .i64 x.words, C.int .i64 x.draws, C.int .i64 x.fromF, C.int .i64 x.skip, C.int .i64 x.kind, C.int .i64 x.e, C.slc Aops x.ops.length cops, C.slc Ablocks x.blocks.length cblocks, C.slc Aval x.val.length cval, C.slc Atapel x.tape.l.length ctapel, C.int .i64 x.tape.used, C.int .i64 x.tape.free, C.bool x.dry]

abbrev visorref19_New.R (κ : Ctx) (S : List HP) (x0 : Int) (x1 : List Int) (x2 : Int) (A_x1 : Option Addr) (c_x1 : Nat) (r : Tvisorref19_M) : Ending → World → Prop := fun e w' => ∃ (b_r0 : Nat), ∃ (A_r0oops : Option Addr), ∃ (c_r0oops : Nat), ∃ (A_r0oblocks : Option Addr), ∃ (c_r0oblocks : Nat), ∃ (A_r0oval : Option Addr), ∃ (c_r0oval : Nat), ∃ (A_r0otapel : Option Addr), ∃ (c_r0otapel : Nat), e = .returned (.pointer (some ⟨b_r0, 0, none⟩)) ∧ Own κ w' (pt b_r0 (blk (Tvisorref19_M.obj r A_r0oops c_r0oops A_r0oblocks c_r0oblocks A_r0oval c_r0oval A_r0otapel c_r0otapel) 123) :: rowp A_r0oops c_r0oops 32 6 Tapi_Op.cells r.ops :: rowp A_r0oblocks c_r0oblocks 144 3 Tapi_Span.cells r.blocks :: rowp A_r0oval c_r0oval 23 1 (eI .u64) r.val :: rdp κ A_r0otapel c_r0otapel 1 (eI .u64) r.tape.l :: S)
def visorref19_New.m (k : Nat) (x0 : Int) (x1 : List Int) (x2 : Int) : Option Tvisorref19_M := some (⟨x0, x2, 0, 0, 0, 0, 0, 0, ([] : List Tapi_Op), ([] : List Tapi_Span), ([] : List Int), (⟨x1, 0, ((x1.length : Nat) : Int)⟩ : Tvisorref02_T), false⟩ : Tvisorref19_M)

set_option maxRecDepth 100000 in
set_option maxHeartbeats 4000000 in
theorem visorref19_New.ok (k : Nat) (x0 : Int) (x1 : List Int) (x2 : Int) (r : Tvisorref19_M) (hm : visorref19_New.m k x0 x1 x2 = some r) (κ : Ctx) (w : World) (S : List HP) (A_x1 : Option Addr) (c_x1 : Nat) (ho : Own κ w (rdp κ A_x1 c_x1 1 (eI .u64) x1 :: S)) :
    Calls Try.prog 67 #[.int .i64 x0, .slice A_x1 x1.length c_x1, .int .i64 x2] w (visorref19_New.R κ S x0 x1 x2 A_x1 c_x1 r) := by
  unfold visorref19_New.m at hm
  refine Vk.enter [(0, .int .i64 x0), (1, .slice A_x1 x1.length c_x1), (2, .int .i64 x2)] Try.func67 rfl Try.ntmps67 (by kernel_rfl) (Nat.le_of_ble_eq_true (by kernel_rfl)) ho fun a hs => ?_
  refine Vk.seq fun K1 hK1 => ?_
  refine Vk.region ?_
  refine Vk.pures 1 [(6, .pointer none)] hs (by kernel_rfl) fun a hs => ?_
  replace hs := hs.pick [0, 1, 2] (L' := [(0, .int .i64 x0), (1, .slice A_x1 x1.length c_x1), (2, .int .i64 x2)]) (by kernel_rfl)
  refine Vk.done (by kernel_rfl) ?_
  refine hK1 _ _ ?_
  clear hK1
  refine Vk.seq fun K2 hK2 => ?_
  refine Vk.region ?_
  refine Vk.pures 7 [(13, .agg (vals [C.int .i64 x0, C.int .i64 x2, C.int .i64 0, C.int .i64 0, C.int .i64 0, C.int .i64 0, C.int .i64 0, C.int .i64 0, C.slc none 0 0, C.slc none 0 0, C.slc none 0 0, C.slc A_x1 x1.length c_x1, C.int .i64 0, C.int .i64 ((x1.length : Nat) : Int), C.bool false])), (12, .agg (vals [C.slc A_x1 x1.length c_x1, C.int .i64 0, C.int .i64 ((x1.length : Nat) : Int)])), (11, .int .i64 ((x1.length : Nat) : Int)), (10, .slice A_x1 x1.length c_x1), (9, .slice A_x1 x1.length c_x1), (8, .int .i64 x2), (7, .int .i64 x0)] hs (by kernel_rfl) fun a hs => ?_
  refine Vk.step (Vk.box (x := (.tmp 13)) 14 123 [C.int .i64 x0, C.int .i64 x2, C.int .i64 0, C.int .i64 0, C.int .i64 0, C.int .i64 0, C.int .i64 0, C.int .i64 0, C.slc none 0 0, C.slc none 0 0, C.slc none 0 0, C.slc A_x1 x1.length c_x1, C.int .i64 0, C.int .i64 ((x1.length : Nat) : Int), C.bool false] hs (by kernel_rfl) (by kernel_rfl) (by kernel_rfl) fun b_3 w a hs => ?_)
  refine Vk.pures 1 [(6, .pointer (some ⟨b_3, 0, none⟩))] hs (by kernel_rfl) fun a hs => ?_
  replace hs := hs.pick [6] (L' := [(6, .pointer (some ⟨b_3, 0, none⟩))]) (by kernel_rfl)
  refine Vk.done (by kernel_rfl) ?_
  refine hK2 _ _ ?_
  clear hK2
  refine wp_ret ?_
  replace hs := hs.addRow none 32 6 Tapi_Op.cells
  replace hs := hs.addRow none 144 3 Tapi_Span.cells
  replace hs := hs.addRow none 23 1 (eI .u64)
  exact Vk.ret1 (P := Try.prog) (fn := Try.f67) (R := visorref19_New.R κ S x0 x1 x2 A_x1 c_x1 r) (.pointer (some ⟨b_3, 0, none⟩)) hs rfl (by kernel_rfl) (by obtain rfl := Option.some.inj hm; exact ⟨b_3, none, 0, none, 0, none, 0, A_x1, c_x1, rfl, (Own.to hs.own [3, 2, 1, 0, 4] 5 (by kernel_rfl) (by kernel_rfl))⟩)


abbrev visorref19_M_Len.R (κ : Ctx) (S : List HP) (x0 : Tvisorref19_M) (b_x0 : Nat) (A_x0oops : Option Addr) (c_x0oops : Nat) (A_x0oblocks : Option Addr) (c_x0oblocks : Nat) (A_x0oval : Option Addr) (c_x0oval : Nat) (A_x0otapel : Option Addr) (c_x0otapel : Nat) (r : Int) : Ending → World → Prop := fun e w' => e = .returned (.int .i64 r) ∧ Own κ w' (pt b_x0 (blk (Tvisorref19_M.obj x0 A_x0oops c_x0oops A_x0oblocks c_x0oblocks A_x0oval c_x0oval A_x0otapel c_x0otapel) 123) :: rowp A_x0oops c_x0oops 32 6 Tapi_Op.cells x0.ops :: rowp A_x0oblocks c_x0oblocks 144 3 Tapi_Span.cells x0.blocks :: rowp A_x0oval c_x0oval 23 1 (eI .u64) x0.val :: rdp κ A_x0otapel c_x0otapel 1 (eI .u64) x0.tape.l :: S)
def visorref19_M_Len.m (k : Nat) (x0 : Tvisorref19_M) : Option Int := some (IntKind.i64.wrap (x0.skip + ((x0.ops.length : Nat) : Int)))

set_option maxRecDepth 100000 in
set_option maxHeartbeats 4000000 in
theorem visorref19_M_Len.ok (k : Nat) (x0 : Tvisorref19_M) (r : Int) (hm : visorref19_M_Len.m k x0 = some r) (κ : Ctx) (w : World) (S : List HP) (b_x0 : Nat) (A_x0oops : Option Addr) (c_x0oops : Nat) (A_x0oblocks : Option Addr) (c_x0oblocks : Nat) (A_x0oval : Option Addr) (c_x0oval : Nat) (A_x0otapel : Option Addr) (c_x0otapel : Nat) (ho : Own κ w (pt b_x0 (blk (Tvisorref19_M.obj x0 A_x0oops c_x0oops A_x0oblocks c_x0oblocks A_x0oval c_x0oval A_x0otapel c_x0otapel) 123) :: rowp A_x0oops c_x0oops 32 6 Tapi_Op.cells x0.ops :: rowp A_x0oblocks c_x0oblocks 144 3 Tapi_Span.cells x0.blocks :: rowp A_x0oval c_x0oval 23 1 (eI .u64) x0.val :: rdp κ A_x0otapel c_x0otapel 1 (eI .u64) x0.tape.l :: S)) :
    Calls Try.prog 69 #[.pointer (some ⟨b_x0, 0, none⟩)] w (visorref19_M_Len.R κ S x0 b_x0 A_x0oops c_x0oops A_x0oblocks c_x0oblocks A_x0oval c_x0oval A_x0otapel c_x0otapel r) := by
  unfold visorref19_M_Len.m at hm
  refine Vk.enter [(0, .pointer (some ⟨b_x0, 0, none⟩))] Try.func69 rfl Try.ntmps69 (by kernel_rfl) (Nat.le_of_ble_eq_true (by kernel_rfl)) ho fun a hs => ?_
  refine Vk.seq fun K1 hK1 => ?_
  refine Vk.region ?_
  refine Vk.pures 1 [(2, .int .i64 0)] hs (by kernel_rfl) fun a hs => ?_
  replace hs := hs.pick [0] (L' := [(0, .pointer (some ⟨b_x0, 0, none⟩))]) (by kernel_rfl)
  refine Vk.done (by kernel_rfl) ?_
  refine hK1 _ _ ?_
  clear hK1
  refine Vk.seq fun K2 hK2 => ?_
  obtain ⟨C_3, hC_3⟩ : ∃ X0 : List HP, X0 = (pt b_x0 (blk (Tvisorref19_M.obj x0 A_x0oops c_x0oops A_x0oblocks c_x0oblocks A_x0oval c_x0oval A_x0otapel c_x0otapel) 123) :: rowp A_x0oops c_x0oops 32 6 Tapi_Op.cells x0.ops :: rowp A_x0oblocks c_x0oblocks 144 3 Tapi_Span.cells x0.blocks :: rowp A_x0oval c_x0oval 23 1 (eI .u64) x0.val :: rdp κ A_x0otapel c_x0otapel 1 (eI .u64) x0.tape.l :: S) := ⟨_, rfl⟩
  refine Vk.drawnT 11 κ C_3 hs (by kernel_rfl) fun w hs => ?_
  have hcz : Own κ w (pt b_x0 (blk (Tvisorref19_M.obj x0 A_x0oops c_x0oops A_x0oblocks c_x0oblocks A_x0oval c_x0oval A_x0otapel c_x0otapel) 123) :: rowp A_x0oops c_x0oops 32 6 Tapi_Op.cells x0.ops :: rowp A_x0oblocks c_x0oblocks 144 3 Tapi_Span.cells x0.blocks :: rowp A_x0oval c_x0oval 23 1 (eI .u64) x0.val :: rdp κ A_x0otapel c_x0otapel 1 (eI .u64) x0.tape.l :: S) := (Own.to hs.own [0, 1, 2, 3, 4] 5 (by kernel_rfl) (by kernel_rfl))
  have hcl : Own κ w C_3 := by rw [hC_3]; exact hcz
  refine Vk.dPuresT [0, 1, 2, 4, 5, 6] [(9, .pointer (some ⟨b_x0, 8, none⟩)), (8, .pointer (some ⟨b_x0, 0, none⟩)), (7, .pointer (some ⟨b_x0, 0, none⟩)), (5, .pointer (some ⟨b_x0, 5, none⟩)), (4, .pointer (some ⟨b_x0, 0, none⟩)), (3, .pointer (some ⟨b_x0, 0, none⟩))] hs (by kernel_rfl) (by repeat' (first | exact Vk.Calm.post | refine Vk.Calm.then ?_ | refine Vk.Calm.inBlock ?_)) hcl (by kernel_rfl) (by kernel_rfl) (fuel := 5) rfl fun a hs => ?_
  refine Vk.dTakeT (i := 3) (some 6) (.int .i64 x0.skip) hs (by kernel_rfl) (by repeat' (first | exact Vk.Calm.post | refine Vk.Calm.then ?_ | refine Vk.Calm.inBlock ?_)) hcl (by kernel_rfl) (by kernel_rfl) (op := (.load 3 (.tmp 5))) (by kernel_rfl) (by kernel_rfl) (fun w hw o ho => by rw [hC_3] at hw; exact run_load1 (b := b_x0) (off := 5) (c := C.int .i64 x0.skip) ho (by kernel_rfl) (by kernel_rfl) (Cell.own 0 rfl (by kernel_rfl)) _ hw) fun a hs => ?_
  refine Vk.dTakeT (i := 7) (some 10) (.slice A_x0oops x0.ops.length c_x0oops) hs (by kernel_rfl) (by repeat' (first | exact Vk.Calm.post | refine Vk.Calm.then ?_ | refine Vk.Calm.inBlock ?_)) hcl (by kernel_rfl) (by kernel_rfl) (op := (.load 69 (.tmp 9))) (by kernel_rfl) (by kernel_rfl) (fun w hw o ho => by rw [hC_3] at hw; exact run_load1 (b := b_x0) (off := 8) (c := C.slc A_x0oops x0.ops.length c_x0oops) ho (by kernel_rfl) (by kernel_rfl) (Cell.own 0 rfl (by kernel_rfl)) _ hw) fun a hs => ?_
  refine Vk.dPuresT [8, 9, 10] [(2, .int .i64 (IntKind.i64.wrap (x0.skip + ((x0.ops.length : Nat) : Int)))), (12, .int .i64 (IntKind.i64.wrap (x0.skip + ((x0.ops.length : Nat) : Int)))), (11, .int .i64 ((x0.ops.length : Nat) : Int))] hs (by kernel_rfl) (by repeat' (first | exact Vk.Calm.post | refine Vk.Calm.then ?_ | refine Vk.Calm.inBlock ?_)) hcl (by kernel_rfl) (by kernel_rfl) (fuel := 0) rfl fun a hs => ?_
  replace hs := hs.pick [2] (L' := [(2, .int .i64 (IntKind.i64.wrap (x0.skip + ((x0.ops.length : Nat) : Int))))]) (by kernel_rfl)
  refine Vk.dDone (by kernel_rfl) ?_
  refine hK2 _ _ ?_
  clear hK2
  refine wp_ret ?_
  exact Vk.ret1 (P := Try.prog) (fn := Try.f69) (R := visorref19_M_Len.R κ S x0 b_x0 A_x0oops c_x0oops A_x0oblocks c_x0oblocks A_x0oval c_x0oval A_x0otapel c_x0otapel r) (.int .i64 (IntKind.i64.wrap (x0.skip + ((x0.ops.length : Nat) : Int)))) hs rfl (by kernel_rfl) (by obtain rfl := Option.some.inj hm; exact ⟨rfl, (Own.to hs.own [0, 1, 2, 3, 4] 5 (by kernel_rfl) (by kernel_rfl))⟩)


def visorref17_Regs.j2 (k : Nat) (x0 : Int) (x1 : Int) (p_19 : Bool) : Option (Int) := (bif p_19 then some 1 else (bif x0 == 12 then some x1 else some 0))
def visorref17_Regs.j1 (k : Nat) (x0 : Int) (x1 : Int) (p_12 : Bool) : Option (Int) := (bif p_12 then some 2 else (bif x0 == 6 then visorref17_Regs.j2 k x0 x1 (x0 == 6) else (bif x0 == 8 then visorref17_Regs.j2 k x0 x1 (x0 == 8) else (bif x0 == 9 then visorref17_Regs.j2 k x0 x1 (x0 == 9) else (bif x0 == 10 then visorref17_Regs.j2 k x0 x1 (x0 == 10) else visorref17_Regs.j2 k x0 x1 (x0 == 11))))))
abbrev visorref17_Regs.R (κ : Ctx) (S : List HP) (x0 : Int) (x1 : Int) (r : Int) : Ending → World → Prop := fun e w' => e = .returned (.int .i64 r) ∧ Own κ w' (S)
def visorref17_Regs.m (k : Nat) (x0 : Int) (x1 : Int) : Option Int := (bif (x1 != 2) && (x1 != 3) then some 0 else (bif x0 == 2 then some (IntKind.i64.wrap (x1 - 1)) else (bif x0 == 5 then visorref17_Regs.j1 k x0 x1 (x0 == 5) else visorref17_Regs.j1 k x0 x1 (x0 == 7))))

set_option maxRecDepth 100000 in
set_option maxHeartbeats 4000000 in
theorem visorref17_Regs.ok (k : Nat) (x0 : Int) (x1 : Int) (r : Int) (hm : visorref17_Regs.m k x0 x1 = some r) (κ : Ctx) (w : World) (S : List HP) (ho : Own κ w (S)) :
    Calls Try.prog 118 #[.int .i64 x0, .int .i64 x1] w (visorref17_Regs.R κ S x0 x1 r) := by
  unfold visorref17_Regs.m at hm
  refine Vk.enter [(0, .int .i64 x0), (1, .int .i64 x1)] Try.func118 rfl Try.ntmps118 (by kernel_rfl) (Nat.le_of_ble_eq_true (by kernel_rfl)) ho fun a hs => ?_
  refine Vk.seq fun K1 hK1 => ?_
  refine Vk.region ?_
  refine Vk.pures 1 [(4, .int .i64 0)] hs (by kernel_rfl) fun a hs => ?_
  replace hs := hs.pick [0, 1] (L' := [(0, .int .i64 x0), (1, .int .i64 x1)]) (by kernel_rfl)
  refine Vk.done (by kernel_rfl) ?_
  refine hK1 _ _ ?_
  clear hK1
  refine Vk.seq fun K2 hK2 => ?_
  refine Vk.seq fun K3 hK3 => ?_
  refine Vk.region ?_
  refine Vk.pures 3 [(7, .bool (x1 != 2)), (6, .bool (x1 != 2)), (5, .int .i64 x1)] hs (by kernel_rfl) fun a hs => ?_
  suffices hj_4 : ∀ a, St 28 a w κ [(0, .int .i64 x0), (1, .int .i64 x1), (5, .int .i64 x1), (6, .bool (x1 != 2)), (7, .bool (x1 != 2)), (10, .bool ((x1 != 2) && (x1 != 3)))] (S) → wpFrom Try.prog _ _ 6 a w by
    rcases Bool.eq_false_or_eq_true (x1 != 2) with hb | hb
    · replace hs := hs.known (t := 7) hb (by kernel_rfl)
      refine Vk.pures 3 [(10, .bool (x1 != 3)), (9, .bool (x1 != 3)), (8, .int .i64 x1)] hs (by kernel_rfl) fun a hs => ?_
      have hq := hs.pick [0, 1, 5, 6, 7, 10] (L' := [(0, .int .i64 x0), (1, .int .i64 x1), (5, .int .i64 x1), (6, .bool (x1 != 2)), (7, .bool true), (10, .bool (x1 != 3))]) (by kernel_rfl)
      exact hj_4 _ (hq.conv (by first | (rw [hb] <;> rfl) | rfl))
    · replace hs := hs.known (t := 7) hb (by kernel_rfl)
      refine Vk.pures 3 [(10, .bool false), (9, undef), (8, undef)] hs (by kernel_rfl) fun a hs => ?_
      have hq := hs.pick [0, 1, 5, 6, 7, 10] (L' := [(0, .int .i64 x0), (1, .int .i64 x1), (5, .int .i64 x1), (6, .bool (x1 != 2)), (7, .bool false), (10, .bool false)]) (by kernel_rfl)
      exact hj_4 _ (hq.conv (by first | (rw [hb] <;> rfl) | rfl))
  intro a hs
  replace hs := hs.pick [0, 1, 10] (L' := [(0, .int .i64 x0), (1, .int .i64 x1), (10, .bool ((x1 != 2) && (x1 != 3)))]) (by kernel_rfl)
  refine Vk.done (by kernel_rfl) ?_
  refine hK3 _ _ ?_
  clear hK3
  refine Vk.condS (b := (x1 != 2) && (x1 != 3)) hs (by kernel_rfl) (by kernel_rfl) (fun hb => ?_) (fun hb => ?_)
  · replace hm := bif_t hm hb
    refine Vk.seq fun K5 hK5 => ?_
    refine Vk.region ?_
    refine Vk.pures 1 [(4, .int .i64 0)] hs (by kernel_rfl) fun a hs => ?_
    replace hs := hs.pick [4] (L' := [(4, .int .i64 0)]) (by kernel_rfl)
    refine Vk.done (by kernel_rfl) ?_
    refine hK5 _ _ ?_
    clear hK5
    refine wp_ret ?_
    exact Vk.ret1 (P := Try.prog) (fn := Try.f118) (R := visorref17_Regs.R κ S x0 x1 r) (.int .i64 0) hs rfl (by kernel_rfl) (by obtain rfl := Option.some.inj hm; exact ⟨rfl, (Own.to hs.own [] 0 (by kernel_rfl) (by kernel_rfl))⟩)
  · replace hm := bif_f hm hb
    refine wp_skip ?_
    refine hK2 _ _ ?_
    clear hK2
    refine Vk.seq fun K6 hK6 => ?_
    refine Vk.seq fun K7 hK7 => ?_
    refine Vk.region ?_
    refine Vk.pures 1 [(11, .int .i64 x0)] hs (by kernel_rfl) fun a hs => ?_
    replace hs := hs.pick [1, 11] (L' := [(1, .int .i64 x1), (11, .int .i64 x0)]) (by kernel_rfl)
    refine Vk.done (by kernel_rfl) ?_
    refine hK7 _ _ ?_
    clear hK7
    refine wp_block ?_
    refine Vk.seq fun K8 hK8 => ?_
    refine Vk.region ?_
    refine Vk.pures 2 [(12, .bool (x0 == 2)), (13, .bool (x0 == 2))] hs (by kernel_rfl) fun a hs => ?_
    replace hs := hs.pick [1, 11, 12] (L' := [(1, .int .i64 x1), (11, .int .i64 x0), (12, .bool (x0 == 2))]) (by kernel_rfl)
    refine Vk.done (by kernel_rfl) ?_
    refine hK8 _ _ ?_
    clear hK8
    refine Vk.condS (b := x0 == 2) hs (by kernel_rfl) (by kernel_rfl) (fun hb => ?_) (fun hb => ?_)
    · replace hm := bif_t hm hb
      refine Vk.seq fun K9 hK9 => ?_
      refine Vk.region ?_
      refine Vk.pures 3 [(4, .int .i64 (IntKind.i64.wrap (x1 - 1))), (15, .int .i64 (IntKind.i64.wrap (x1 - 1))), (14, .int .i64 x1)] hs (by kernel_rfl) fun a hs => ?_
      replace hs := hs.pick [4] (L' := [(4, .int .i64 (IntKind.i64.wrap (x1 - 1)))]) (by kernel_rfl)
      refine Vk.done (by kernel_rfl) ?_
      refine hK9 _ _ ?_
      clear hK9
      refine wp_ret ?_
      exact Vk.ret1 (P := Try.prog) (fn := Try.f118) (R := visorref17_Regs.R κ S x0 x1 r) (.int .i64 (IntKind.i64.wrap (x1 - 1))) hs rfl (by kernel_rfl) (by obtain rfl := Option.some.inj hm; exact ⟨rfl, (Own.to hs.own [] 0 (by kernel_rfl) (by kernel_rfl))⟩)
    · replace hm := bif_f hm hb
      refine Vk.seq fun K10 hK10 => ?_
      have hj10 : ∀ (p_12 : Bool), visorref17_Regs.j1 k x0 x1 p_12 = some r → ∀ (a : Act) (w : World), St 28 a w κ [(1, .int .i64 x1), (11, .int .i64 x0), (16, .bool p_12)] (S) → K10 a w := by
        intro p_12 hm a w hs
        unfold visorref17_Regs.j1 at hm
        refine hK10 _ _ ?_
        refine Vk.condS (b := p_12) hs (by kernel_rfl) (by kernel_rfl) (fun hb => ?_) (fun hb => ?_)
        · replace hm := bif_t hm hb
          refine Vk.seq fun K13 hK13 => ?_
          refine Vk.region ?_
          refine Vk.pures 1 [(4, .int .i64 2)] hs (by kernel_rfl) fun a hs => ?_
          replace hs := hs.pick [4] (L' := [(4, .int .i64 2)]) (by kernel_rfl)
          refine Vk.done (by kernel_rfl) ?_
          refine hK13 _ _ ?_
          clear hK13
          refine wp_ret ?_
          exact Vk.ret1 (P := Try.prog) (fn := Try.f118) (R := visorref17_Regs.R κ S x0 x1 r) (.int .i64 2) hs rfl (by kernel_rfl) (by obtain rfl := Option.some.inj hm; exact ⟨rfl, (Own.to hs.own [] 0 (by kernel_rfl) (by kernel_rfl))⟩)
        · replace hm := bif_f hm hb
          refine Vk.seq fun K14 hK14 => ?_
          have hj14 : ∀ (p_19 : Bool), visorref17_Regs.j2 k x0 x1 p_19 = some r → ∀ (a : Act) (w : World), St 28 a w κ [(1, .int .i64 x1), (11, .int .i64 x0), (19, .bool p_19)] (S) → K14 a w := by
            intro p_19 hm a w hs
            unfold visorref17_Regs.j2 at hm
            refine hK14 _ _ ?_
            refine Vk.condS (b := p_19) hs (by kernel_rfl) (by kernel_rfl) (fun hb => ?_) (fun hb => ?_)
            · replace hm := bif_t hm hb
              refine Vk.seq fun K20 hK20 => ?_
              refine Vk.region ?_
              refine Vk.pures 1 [(4, .int .i64 1)] hs (by kernel_rfl) fun a hs => ?_
              replace hs := hs.pick [4] (L' := [(4, .int .i64 1)]) (by kernel_rfl)
              refine Vk.done (by kernel_rfl) ?_
              refine hK20 _ _ ?_
              clear hK20
              refine wp_ret ?_
              exact Vk.ret1 (P := Try.prog) (fn := Try.f118) (R := visorref17_Regs.R κ S x0 x1 r) (.int .i64 1) hs rfl (by kernel_rfl) (by obtain rfl := Option.some.inj hm; exact ⟨rfl, (Own.to hs.own [] 0 (by kernel_rfl) (by kernel_rfl))⟩)
            · replace hm := bif_f hm hb
              refine Vk.seq fun K21 hK21 => ?_
              refine Vk.region ?_
              refine Vk.pures 2 [(25, .bool (x0 == 12)), (26, .bool (x0 == 12))] hs (by kernel_rfl) fun a hs => ?_
              replace hs := hs.pick [1, 25] (L' := [(1, .int .i64 x1), (25, .bool (x0 == 12))]) (by kernel_rfl)
              refine Vk.done (by kernel_rfl) ?_
              refine hK21 _ _ ?_
              clear hK21
              refine Vk.condS (b := x0 == 12) hs (by kernel_rfl) (by kernel_rfl) (fun hb => ?_) (fun hb => ?_)
              · replace hm := bif_t hm hb
                refine Vk.seq fun K22 hK22 => ?_
                refine Vk.region ?_
                refine Vk.pures 2 [(4, .int .i64 x1), (27, .int .i64 x1)] hs (by kernel_rfl) fun a hs => ?_
                replace hs := hs.pick [4] (L' := [(4, .int .i64 x1)]) (by kernel_rfl)
                refine Vk.done (by kernel_rfl) ?_
                refine hK22 _ _ ?_
                clear hK22
                refine wp_ret ?_
                exact Vk.ret1 (P := Try.prog) (fn := Try.f118) (R := visorref17_Regs.R κ S x0 x1 r) (.int .i64 x1) hs rfl (by kernel_rfl) (by obtain rfl := Option.some.inj hm; exact ⟨rfl, (Own.to hs.own [] 0 (by kernel_rfl) (by kernel_rfl))⟩)
              · replace hm := bif_f hm hb
                refine wp_skip ?_
                refine hK6 _ _ ?_
                clear hK6
                refine Vk.seq fun K23 hK23 => ?_
                refine Vk.region ?_
                refine Vk.pures 1 [(4, .int .i64 0)] hs (by kernel_rfl) fun a hs => ?_
                replace hs := hs.pick [4] (L' := [(4, .int .i64 0)]) (by kernel_rfl)
                refine Vk.done (by kernel_rfl) ?_
                refine hK23 _ _ ?_
                clear hK23
                refine wp_ret ?_
                exact Vk.ret1 (P := Try.prog) (fn := Try.f118) (R := visorref17_Regs.R κ S x0 x1 r) (.int .i64 0) hs rfl (by kernel_rfl) (by obtain rfl := Option.some.inj hm; exact ⟨rfl, (Own.to hs.own [] 0 (by kernel_rfl) (by kernel_rfl))⟩)
          refine Vk.seq fun K15 hK15 => ?_
          refine Vk.region ?_
          refine Vk.pures 2 [(19, .bool (x0 == 6)), (20, .bool (x0 == 6))] hs (by kernel_rfl) fun a hs => ?_
          replace hs := hs.pick [1, 11, 19] (L' := [(1, .int .i64 x1), (11, .int .i64 x0), (19, .bool (x0 == 6))]) (by kernel_rfl)
          refine Vk.done (by kernel_rfl) ?_
          refine hK15 _ _ ?_
          clear hK15
          refine Vk.condS (b := x0 == 6) hs (by kernel_rfl) (by kernel_rfl) (fun hb => ?_) (fun hb => ?_)
          · replace hm := bif_t hm hb
            refine wp_skip ?_
            exact hj14 (x0 == 6) hm _ _ (hs.go [1, 11, 19] [] 0 (by kernel_rfl) (by kernel_rfl) (by kernel_rfl))
          · replace hm := bif_f hm hb
            refine Vk.seq fun K16 hK16 => ?_
            refine Vk.region ?_
            refine Vk.pures 2 [(19, .bool (x0 == 8)), (21, .bool (x0 == 8))] hs (by kernel_rfl) fun a hs => ?_
            replace hs := hs.pick [1, 11, 19] (L' := [(1, .int .i64 x1), (11, .int .i64 x0), (19, .bool (x0 == 8))]) (by kernel_rfl)
            refine Vk.done (by kernel_rfl) ?_
            refine hK16 _ _ ?_
            clear hK16
            refine Vk.condS (b := x0 == 8) hs (by kernel_rfl) (by kernel_rfl) (fun hb => ?_) (fun hb => ?_)
            · replace hm := bif_t hm hb
              refine wp_skip ?_
              exact hj14 (x0 == 8) hm _ _ (hs.go [1, 11, 19] [] 0 (by kernel_rfl) (by kernel_rfl) (by kernel_rfl))
            · replace hm := bif_f hm hb
              refine Vk.seq fun K17 hK17 => ?_
              refine Vk.region ?_
              refine Vk.pures 2 [(19, .bool (x0 == 9)), (22, .bool (x0 == 9))] hs (by kernel_rfl) fun a hs => ?_
              replace hs := hs.pick [1, 11, 19] (L' := [(1, .int .i64 x1), (11, .int .i64 x0), (19, .bool (x0 == 9))]) (by kernel_rfl)
              refine Vk.done (by kernel_rfl) ?_
              refine hK17 _ _ ?_
              clear hK17
              refine Vk.condS (b := x0 == 9) hs (by kernel_rfl) (by kernel_rfl) (fun hb => ?_) (fun hb => ?_)
              · replace hm := bif_t hm hb
                refine wp_skip ?_
                exact hj14 (x0 == 9) hm _ _ (hs.go [1, 11, 19] [] 0 (by kernel_rfl) (by kernel_rfl) (by kernel_rfl))
              · replace hm := bif_f hm hb
                refine Vk.seq fun K18 hK18 => ?_
                refine Vk.region ?_
                refine Vk.pures 2 [(19, .bool (x0 == 10)), (23, .bool (x0 == 10))] hs (by kernel_rfl) fun a hs => ?_
                replace hs := hs.pick [1, 11, 19] (L' := [(1, .int .i64 x1), (11, .int .i64 x0), (19, .bool (x0 == 10))]) (by kernel_rfl)
                refine Vk.done (by kernel_rfl) ?_
                refine hK18 _ _ ?_
                clear hK18
                refine Vk.condS (b := x0 == 10) hs (by kernel_rfl) (by kernel_rfl) (fun hb => ?_) (fun hb => ?_)
                · replace hm := bif_t hm hb
                  refine wp_skip ?_
                  exact hj14 (x0 == 10) hm _ _ (hs.go [1, 11, 19] [] 0 (by kernel_rfl) (by kernel_rfl) (by kernel_rfl))
                · replace hm := bif_f hm hb
                  refine Vk.region ?_
                  refine Vk.pures 2 [(19, .bool (x0 == 11)), (24, .bool (x0 == 11))] hs (by kernel_rfl) fun a hs => ?_
                  replace hs := hs.pick [1, 11, 19] (L' := [(1, .int .i64 x1), (11, .int .i64 x0), (19, .bool (x0 == 11))]) (by kernel_rfl)
                  refine Vk.done (by kernel_rfl) ?_
                  exact hj14 (x0 == 11) hm _ _ (hs.go [1, 11, 19] [] 0 (by kernel_rfl) (by kernel_rfl) (by kernel_rfl))
      refine Vk.seq fun K11 hK11 => ?_
      refine Vk.region ?_
      refine Vk.pures 2 [(16, .bool (x0 == 5)), (17, .bool (x0 == 5))] hs (by kernel_rfl) fun a hs => ?_
      replace hs := hs.pick [1, 11, 16] (L' := [(1, .int .i64 x1), (11, .int .i64 x0), (16, .bool (x0 == 5))]) (by kernel_rfl)
      refine Vk.done (by kernel_rfl) ?_
      refine hK11 _ _ ?_
      clear hK11
      refine Vk.condS (b := x0 == 5) hs (by kernel_rfl) (by kernel_rfl) (fun hb => ?_) (fun hb => ?_)
      · replace hm := bif_t hm hb
        refine wp_skip ?_
        exact hj10 (x0 == 5) hm _ _ (hs.go [1, 11, 16] [] 0 (by kernel_rfl) (by kernel_rfl) (by kernel_rfl))
      · replace hm := bif_f hm hb
        refine Vk.region ?_
        refine Vk.pures 2 [(16, .bool (x0 == 7)), (18, .bool (x0 == 7))] hs (by kernel_rfl) fun a hs => ?_
        replace hs := hs.pick [1, 11, 16] (L' := [(1, .int .i64 x1), (11, .int .i64 x0), (16, .bool (x0 == 7))]) (by kernel_rfl)
        refine Vk.done (by kernel_rfl) ?_
        exact hj10 (x0 == 7) hm _ _ (hs.go [1, 11, 16] [] 0 (by kernel_rfl) (by kernel_rfl) (by kernel_rfl))

end Go.Proofs.Ytjjdlidjlepgeaa
