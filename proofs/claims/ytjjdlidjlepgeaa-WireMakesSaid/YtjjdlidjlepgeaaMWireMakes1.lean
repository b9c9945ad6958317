/- Of each Go function that WireMakes comes to: a model in plain Lean, and that the program's call does what the model says; no condition. -/
import Derived.Test.YtjjdlidjlepgeaaProg
import Derived.Test.YtjjdlidjlepgeaaVollbmjpn
import Derived.Test.YtjjdlidjlepgeaaMWireMakes0
namespace Go.Proofs.Ytjjdlidjlepgeaa
open Go Go.Vk
set_option linter.unusedVariables false


def wire_Machine_Do.j3 (k : Nat) (x1 : Tapi_Op) (p_64 : Int) (p_69 : Twire_Machine) : Option ((Int × Twire_Machine)) := (bif p_69.dry then some (IntKind.i64.wrap ((IntKind.i64.wrap (p_69.base + 1)) - 1), (⟨p_69.n, p_69.most, IntKind.i64.wrap (p_69.base + 1), p_69.words, p_69.draws, p_69.dry, p_69.openF, p_69.fromF, p_69.bad, p_69.tape, p_69.ops, p_69.values, p_69.blocks⟩ : Twire_Machine)) else (wire_Machine_value.m k p_69 x1.a).bind fun v_78 => (wire_Machine_value.m k p_69 x1.b).bind fun v_81 => (wire_Machine_value.m k p_69 x1.d).bind fun v_84 => (op_Eval.m k x1 v_78 v_81 v_84 p_64).bind fun v_87 => (if (p_69.values.length + ([v_87] : List Int).length) * 8 ≤ 140737488355328 then (if (p_69.ops.length + ([x1] : List Tapi_Op).length) * 48 ≤ 140737488355328 then some (IntKind.i64.wrap ((((p_69.ops ++ ([x1] : List Tapi_Op)).length : Nat) : Int) - 1), (⟨p_69.n, p_69.most, p_69.base, p_69.words, p_69.draws, p_69.dry, p_69.openF, p_69.fromF, p_69.bad, p_69.tape, p_69.ops ++ ([x1] : List Tapi_Op), p_69.values ++ ([v_87] : List Int), p_69.blocks⟩ : Twire_Machine)) else none) else none))
def wire_Machine_Do.j2 (k : Nat) (x1 : Tapi_Op) (p_60 : Twire_Machine) (p_64 : Int) : Option ((Int × Twire_Machine)) := (bif x1.kind == 1 then wire_Machine_Do.j3 k x1 p_64 (⟨p_60.n, p_60.most, p_60.base, p_60.words, IntKind.i64.wrap (p_60.draws + 1), p_60.dry, p_60.openF, p_60.fromF, p_60.bad, p_60.tape, p_60.ops, p_60.values, p_60.blocks⟩ : Twire_Machine) else (bif x1.kind == 2 then wire_Machine_Do.j3 k x1 p_64 (⟨p_60.n, p_60.most, p_60.base, IntKind.i64.wrap (p_60.words + 1), p_60.draws, p_60.dry, p_60.openF, p_60.fromF, p_60.bad, p_60.tape, p_60.ops, p_60.values, p_60.blocks⟩ : Twire_Machine) else wire_Machine_Do.j3 k x1 p_64 p_60))
def wire_Machine_Do.j1 (k : Nat) (x0 : Twire_Machine) (x1 : Tapi_Op) (x2 : Int) (p_24 : Bool) : Option ((Int × Twire_Machine)) := (bif p_24 then (wire_Machine_fail.m k x0 3).bind fun v_28 => some (v_28.1, v_28.2) else (bif (x1.kind == 1) && (!x0.dry) then (tape_Tape_Draw.m k x0.tape).bind fun v_43 => (bif !v_43.2.1 then (wire_Machine_fail.m k (⟨x0.n, x0.most, x0.base, x0.words, x0.draws, x0.dry, x0.openF, x0.fromF, x0.bad, v_43.2.2, x0.ops, x0.values, x0.blocks⟩ : Twire_Machine) 2).bind fun v_51 => some (v_51.1, v_51.2) else wire_Machine_Do.j2 k x1 (⟨x0.n, x0.most, x0.base, x0.words, x0.draws, x0.dry, x0.openF, x0.fromF, x0.bad, v_43.2.2, x0.ops, x0.values, x0.blocks⟩ : Twire_Machine) v_43.1) else wire_Machine_Do.j2 k x1 x0 x2))
abbrev wire_Machine_Do.R (κ : Ctx) (S : List HP) (x0 : Twire_Machine) (x1 : Tapi_Op) (x2 : Int) (b_x0 : Nat) (b_x0otape : Nat) (A_x0otapeowords : Option Addr) (c_x0otapeowords : Nat) (A_x0oops : Option Addr) (c_x0oops : Nat) (A_x0ovalues : Option Addr) (c_x0ovalues : Nat) (A_x0oblocks : Option Addr) (c_x0oblocks : Nat) (r : (Int × Twire_Machine)) : Ending → World → Prop := fun e w' => ∃ (A_y0otapeowords : Option Addr), ∃ (c_y0otapeowords : Nat), ∃ (A_y0oops : Option Addr), ∃ (c_y0oops : Nat), ∃ (A_y0ovalues : Option Addr), ∃ (c_y0ovalues : Nat), ∃ (A_y0oblocks : Option Addr), ∃ (c_y0oblocks : Nat), e = .returned (.int .i64 r.1) ∧ Own κ w' (pt b_x0 (blk (Twire_Machine.obj r.2 b_x0otape A_y0oops c_y0oops A_y0ovalues c_y0ovalues A_y0oblocks c_y0oblocks) 151) :: pt b_x0otape (blk (Ttape_Tape.obj r.2.tape A_y0otapeowords c_y0otapeowords) 158) :: rowp A_y0otapeowords c_y0otapeowords 23 1 (eI .u64) r.2.tape.words :: rowp A_y0oops c_y0oops 32 6 Tapi_Op.cells r.2.ops :: rowp A_y0ovalues c_y0ovalues 23 1 (eI .u64) r.2.values :: rowp A_y0oblocks c_y0oblocks 144 3 Tapi_Span.cells r.2.blocks :: S)
def wire_Machine_Do.m (k : Nat) (x0 : Twire_Machine) (x1 : Tapi_Op) (x2 : Int) : Option (Int × Twire_Machine) := (bif x0.bad != 0 then some ((-1), x0) else (wire_Machine_right.m k x0 x1).bind fun v_9 => (bif !v_9 then (wire_Machine_fail.m k x0 1).bind fun v_13 => some (v_13.1, v_13.2) else (bif !x0.dry then wire_Machine_Do.j1 k x0 x1 x2 (decide (((x0.ops.length : Nat) : Int) ≥ x0.most)) else wire_Machine_Do.j1 k x0 x1 x2 false)))

set_option maxRecDepth 100000 in
set_option maxHeartbeats 4000000 in
theorem wire_Machine_Do.ok (k : Nat) (x0 : Twire_Machine) (x1 : Tapi_Op) (x2 : Int) (r : (Int × Twire_Machine)) (hm : wire_Machine_Do.m k x0 x1 x2 = some r) (κ : Ctx) (w : World) (S : List HP) (b_x0 : Nat) (b_x0otape : Nat) (A_x0otapeowords : Option Addr) (c_x0otapeowords : Nat) (A_x0oops : Option Addr) (c_x0oops : Nat) (A_x0ovalues : Option Addr) (c_x0ovalues : Nat) (A_x0oblocks : Option Addr) (c_x0oblocks : Nat) (ho : Own κ w (pt b_x0 (blk (Twire_Machine.obj x0 b_x0otape A_x0oops c_x0oops A_x0ovalues c_x0ovalues A_x0oblocks c_x0oblocks) 151) :: pt b_x0otape (blk (Ttape_Tape.obj x0.tape A_x0otapeowords c_x0otapeowords) 158) :: rowp A_x0otapeowords c_x0otapeowords 23 1 (eI .u64) x0.tape.words :: rowp A_x0oops c_x0oops 32 6 Tapi_Op.cells x0.ops :: rowp A_x0ovalues c_x0ovalues 23 1 (eI .u64) x0.values :: rowp A_x0oblocks c_x0oblocks 144 3 Tapi_Span.cells x0.blocks :: S)) :
    Calls Try.prog 60 #[.pointer (some ⟨b_x0, 0, none⟩), .agg (vals [C.int .i64 x1.kind, C.int .i64 x1.dom, C.int .i64 x1.a, C.int .i64 x1.b, C.int .i64 x1.d, C.int .u64 x1.c]), .int .u64 x2] w (wire_Machine_Do.R κ S x0 x1 x2 b_x0 b_x0otape A_x0otapeowords c_x0otapeowords A_x0oops c_x0oops A_x0ovalues c_x0ovalues A_x0oblocks c_x0oblocks r) := by
  unfold wire_Machine_Do.m at hm
  refine Vk.enter [(0, .pointer (some ⟨b_x0, 0, none⟩)), (1, .agg (vals [C.int .i64 x1.kind, C.int .i64 x1.dom, C.int .i64 x1.a, C.int .i64 x1.b, C.int .i64 x1.d, C.int .u64 x1.c])), (2, .int .u64 x2)] Try.func60 rfl Try.ntmps60 (by kernel_rfl) (Nat.le_of_ble_eq_true (by kernel_rfl)) ho fun a hs => ?_
  refine Vk.seq fun K1 hK1 => ?_
  refine Vk.region ?_
  refine Vk.step (Vk.box (x := (.tmp 1)) 4 32 [C.int .i64 x1.kind, C.int .i64 x1.dom, C.int .i64 x1.a, C.int .i64 x1.b, C.int .i64 x1.d, C.int .u64 x1.c] hs (by kernel_rfl) (by kernel_rfl) (by kernel_rfl) fun b_2 w a hs => ?_)
  refine Vk.pures 1 [(6, .int .i64 0)] hs (by kernel_rfl) fun a hs => ?_
  replace hs := hs.pick [0, 2, 4] (L' := [(0, .pointer (some ⟨b_x0, 0, none⟩)), (2, .int .u64 x2), (4, .pointer (some ⟨b_2, 0, none⟩))]) (by kernel_rfl)
  refine Vk.done (by kernel_rfl) ?_
  refine hK1 _ _ ?_
  clear hK1
  refine Vk.seq fun K3 hK3 => ?_
  refine wp_block ?_
  refine Vk.seq fun K4 hK4 => ?_
  refine Vk.region ?_
  refine Vk.pures 6 [(15, .pointer (some ⟨b_x0, 8, none⟩)), (14, .pointer (some ⟨b_x0, 0, none⟩)), (13, .pointer (some ⟨b_x0, 0, none⟩)), (12, .bool false), (11, .bool false), (10, .pointer (some ⟨b_x0, 0, none⟩))] hs (by kernel_rfl) fun a hs => ?_
  refine Vk.step (Vk.value (some 16) (.int .i64 x0.bad) hs (by kernel_rfl) (op := (.load 43 (.tmp 15))) (by kernel_rfl) (fun o ho => run_load1 (b := b_x0) (off := 8) (c := C.int .i64 x0.bad) ho (by kernel_rfl) (by kernel_rfl) (Cell.own 1 rfl (by kernel_rfl)) _ hs.own) fun a hs => ?_)
  refine Vk.pures 3 [(9, .bool (x0.bad != 0)), (18, .bool (x0.bad != 0)), (17, .bool (x0.bad != 0))] hs (by kernel_rfl) fun a hs => ?_
  replace hs := hs.pick [0, 2, 4, 9] (L' := [(0, .pointer (some ⟨b_x0, 0, none⟩)), (2, .int .u64 x2), (4, .pointer (some ⟨b_2, 0, none⟩)), (9, .bool (x0.bad != 0))]) (by kernel_rfl)
  refine Vk.done (by kernel_rfl) ?_
  refine hK4 _ _ ?_
  clear hK4
  refine Vk.condS (b := x0.bad != 0) hs (by kernel_rfl) (by kernel_rfl) (fun hb => ?_) (fun hb => ?_)
  · replace hm := bif_t hm hb
    refine Vk.seq fun K5 hK5 => ?_
    refine Vk.region ?_
    refine Vk.pures 1 [(6, .int .i64 (-1))] hs (by kernel_rfl) fun a hs => ?_
    replace hs := hs.pick [6] (L' := [(6, .int .i64 (-1))]) (by kernel_rfl)
    refine Vk.done (by kernel_rfl) ?_
    refine hK5 _ _ ?_
    clear hK5
    refine wp_ret ?_
    exact Vk.ret1 (P := Try.prog) (fn := Try.f60) (R := wire_Machine_Do.R κ S x0 x1 x2 b_x0 b_x0otape A_x0otapeowords c_x0otapeowords A_x0oops c_x0oops A_x0ovalues c_x0ovalues A_x0oblocks c_x0oblocks r) (.int .i64 (-1)) hs rfl (by kernel_rfl) (by obtain rfl := Option.some.inj hm; exact ⟨A_x0otapeowords, c_x0otapeowords, A_x0oops, c_x0oops, A_x0ovalues, c_x0ovalues, A_x0oblocks, c_x0oblocks, rfl, (Own.to hs.own [1, 2, 3, 4, 5, 6] 7 (by kernel_rfl) (by kernel_rfl))⟩)
  · replace hm := bif_f hm hb
    refine Vk.seq fun K6 hK6 => ?_
    refine Vk.region ?_
    refine Vk.pures 1 [(20, .pointer (some ⟨b_x0, 0, none⟩))] hs (by kernel_rfl) fun a hs => ?_
    refine Vk.step (Vk.value (some 21) (.agg (vals [C.int .i64 x1.kind, C.int .i64 x1.dom, C.int .i64 x1.a, C.int .i64 x1.b, C.int .i64 x1.d, C.int .u64 x1.c])) hs (by kernel_rfl) (op := (.load 32 (.tmp 4))) (by kernel_rfl) (fun o ho => run_loadN (cs := [C.int .i64 x1.kind, C.int .i64 x1.dom, C.int .i64 x1.a, C.int .i64 x1.b, C.int .i64 x1.d, C.int .u64 x1.c]) ho (by kernel_rfl) (by kernel_rfl) rfl (CellsAt.all 0 rfl) _ hs.own) fun a hs => ?_)
    obtain ⟨v_9, h_8, hm⟩ := bind_t hm
    refine Vk.step (Vk.call (some 22) 93 #[.pointer (some ⟨b_x0, 0, none⟩), .agg (vals [C.int .i64 x1.kind, C.int .i64 x1.dom, C.int .i64 x1.a, C.int .i64 x1.b, C.int .i64 x1.d, C.int .u64 x1.c])] hs (by kernel_rfl) (by kernel_rfl) (by kernel_rfl) ?_)
    refine (wire_Machine_right.ok k x0 x1 v_9 h_8 κ w (pt b_2 (blk (Tapi_Op.cells x1) 32) :: S) b_x0 b_x0otape A_x0otapeowords c_x0otapeowords A_x0oops c_x0oops A_x0ovalues c_x0ovalues A_x0oblocks c_x0oblocks (Own.to hs.own [1, 2, 3, 4, 5, 6, 0] 7 (by kernel_rfl) (by kernel_rfl))).mono ?_
    rintro _ w ⟨rfl, how⟩
    refine ⟨_, _, _, rfl, how, fun a hs => ?_⟩
    refine Vk.pures 2 [(19, .bool (!v_9)), (23, .bool (!v_9))] hs (by kernel_rfl) fun a hs => ?_
    replace hs := hs.pick [0, 2, 4, 19] (L' := [(0, .pointer (some ⟨b_x0, 0, none⟩)), (2, .int .u64 x2), (4, .pointer (some ⟨b_2, 0, none⟩)), (19, .bool (!v_9))]) (by kernel_rfl)
    refine Vk.done (by kernel_rfl) ?_
    refine hK6 _ _ ?_
    clear hK6
    refine Vk.condS (b := !v_9) hs (by kernel_rfl) (by kernel_rfl) (fun hb => ?_) (fun hb => ?_)
    · replace hm := bif_t hm hb
      refine Vk.seq fun K10 hK10 => ?_
      refine Vk.region ?_
      refine Vk.pures 1 [(24, .pointer (some ⟨b_x0, 0, none⟩))] hs (by kernel_rfl) fun a hs => ?_
      obtain ⟨v_13, h_12, hm⟩ := bind_t hm
      refine Vk.step (Vk.call (some 25) 94 #[.pointer (some ⟨b_x0, 0, none⟩), .int .i64 1] hs (by kernel_rfl) (by kernel_rfl) (by kernel_rfl) ?_)
      refine (wire_Machine_fail.ok k x0 1 v_13 h_12 κ w (pt b_2 (blk (Tapi_Op.cells x1) 32) :: S) b_x0 b_x0otape A_x0otapeowords c_x0otapeowords A_x0oops c_x0oops A_x0ovalues c_x0ovalues A_x0oblocks c_x0oblocks (Own.to hs.own [0, 1, 2, 3, 4, 5, 6] 7 (by kernel_rfl) (by kernel_rfl))).mono ?_
      rintro _ w ⟨Ar11o0otapeowords_14, cr11o0otapeowords_15, Ar11o0oops_16, cr11o0oops_17, Ar11o0ovalues_18, cr11o0ovalues_19, Ar11o0oblocks_20, cr11o0oblocks_21, rfl, how⟩
      refine ⟨_, _, _, rfl, how, fun a hs => ?_⟩
      refine Vk.pures 1 [(6, .int .i64 v_13.1)] hs (by kernel_rfl) fun a hs => ?_
      replace hs := hs.pick [6] (L' := [(6, .int .i64 v_13.1)]) (by kernel_rfl)
      refine Vk.done (by kernel_rfl) ?_
      refine hK10 _ _ ?_
      clear hK10
      refine wp_ret ?_
      exact Vk.ret1 (P := Try.prog) (fn := Try.f60) (R := wire_Machine_Do.R κ S x0 x1 x2 b_x0 b_x0otape A_x0otapeowords c_x0otapeowords A_x0oops c_x0oops A_x0ovalues c_x0ovalues A_x0oblocks c_x0oblocks r) (.int .i64 v_13.1) hs rfl (by kernel_rfl) (by obtain rfl := Option.some.inj hm; exact ⟨Ar11o0otapeowords_14, cr11o0otapeowords_15, Ar11o0oops_16, cr11o0oops_17, Ar11o0ovalues_18, cr11o0ovalues_19, Ar11o0oblocks_20, cr11o0oblocks_21, rfl, (Own.to hs.own [0, 1, 2, 3, 4, 5] 7 (by kernel_rfl) (by kernel_rfl))⟩)
    · replace hm := bif_f hm hb
      refine Vk.seq fun K22 hK22 => ?_
      have hj22 : ∀ (p_24 : Bool), wire_Machine_Do.j1 k x0 x1 x2 p_24 = some r → ∀ (a : Act) (w : World), St 145 a w κ [(0, .pointer (some ⟨b_x0, 0, none⟩)), (2, .int .u64 x2), (4, .pointer (some ⟨b_2, 0, none⟩)), (26, .bool p_24)] (pt b_x0 (blk (Twire_Machine.obj x0 b_x0otape A_x0oops c_x0oops A_x0ovalues c_x0ovalues A_x0oblocks c_x0oblocks) 151) :: pt b_x0otape (blk (Ttape_Tape.obj x0.tape A_x0otapeowords c_x0otapeowords) 158) :: rowp A_x0otapeowords c_x0otapeowords 23 1 (eI .u64) x0.tape.words :: rowp A_x0oops c_x0oops 32 6 Tapi_Op.cells x0.ops :: rowp A_x0ovalues c_x0ovalues 23 1 (eI .u64) x0.values :: rowp A_x0oblocks c_x0oblocks 144 3 Tapi_Span.cells x0.blocks :: pt b_2 (blk (Tapi_Op.cells x1) 32) :: S) → K22 a w := by
        intro p_24 hm a w hs
        unfold wire_Machine_Do.j1 at hm
        refine hK22 _ _ ?_
        refine Vk.condS (b := p_24) hs (by kernel_rfl) (by kernel_rfl) (fun hb => ?_) (fun hb => ?_)
        · replace hm := bif_t hm hb
          refine Vk.seq fun K25 hK25 => ?_
          refine Vk.region ?_
          refine Vk.pures 1 [(44, .pointer (some ⟨b_x0, 0, none⟩))] hs (by kernel_rfl) fun a hs => ?_
          obtain ⟨v_28, h_27, hm⟩ := bind_t hm
          refine Vk.step (Vk.call (some 45) 94 #[.pointer (some ⟨b_x0, 0, none⟩), .int .i64 3] hs (by kernel_rfl) (by kernel_rfl) (by kernel_rfl) ?_)
          refine (wire_Machine_fail.ok k x0 3 v_28 h_27 κ w (pt b_2 (blk (Tapi_Op.cells x1) 32) :: S) b_x0 b_x0otape A_x0otapeowords c_x0otapeowords A_x0oops c_x0oops A_x0ovalues c_x0ovalues A_x0oblocks c_x0oblocks (Own.to hs.own [0, 1, 2, 3, 4, 5, 6] 7 (by kernel_rfl) (by kernel_rfl))).mono ?_
          rintro _ w ⟨Ar26o0otapeowords_29, cr26o0otapeowords_30, Ar26o0oops_31, cr26o0oops_32, Ar26o0ovalues_33, cr26o0ovalues_34, Ar26o0oblocks_35, cr26o0oblocks_36, rfl, how⟩
          refine ⟨_, _, _, rfl, how, fun a hs => ?_⟩
          refine Vk.pures 1 [(6, .int .i64 v_28.1)] hs (by kernel_rfl) fun a hs => ?_
          replace hs := hs.pick [6] (L' := [(6, .int .i64 v_28.1)]) (by kernel_rfl)
          refine Vk.done (by kernel_rfl) ?_
          refine hK25 _ _ ?_
          clear hK25
          refine wp_ret ?_
          exact Vk.ret1 (P := Try.prog) (fn := Try.f60) (R := wire_Machine_Do.R κ S x0 x1 x2 b_x0 b_x0otape A_x0otapeowords c_x0otapeowords A_x0oops c_x0oops A_x0ovalues c_x0ovalues A_x0oblocks c_x0oblocks r) (.int .i64 v_28.1) hs rfl (by kernel_rfl) (by obtain rfl := Option.some.inj hm; exact ⟨Ar26o0otapeowords_29, cr26o0otapeowords_30, Ar26o0oops_31, cr26o0oops_32, Ar26o0ovalues_33, cr26o0ovalues_34, Ar26o0oblocks_35, cr26o0oblocks_36, rfl, (Own.to hs.own [0, 1, 2, 3, 4, 5] 7 (by kernel_rfl) (by kernel_rfl))⟩)
        · replace hm := bif_f hm hb
          refine wp_skip ?_
          refine hK3 _ _ ?_
          clear hK3
          refine Vk.seq fun K37 hK37 => ?_
          have hj37 : ∀ (p_60 : Twire_Machine) (p_64 : Int), wire_Machine_Do.j2 k x1 p_60 p_64 = some r → ∀ (A_61 : Option Addr) (c_62 : Nat) (a : Act) (w : World), St 145 a w κ [(0, .pointer (some ⟨b_x0, 0, none⟩)), (2, .int .u64 p_64), (4, .pointer (some ⟨b_2, 0, none⟩))] (pt b_x0 (blk (Twire_Machine.obj p_60 b_x0otape A_x0oops c_x0oops A_x0ovalues c_x0ovalues A_x0oblocks c_x0oblocks) 151) :: pt b_x0otape (blk (Ttape_Tape.obj p_60.tape A_61 c_62) 158) :: rowp A_61 c_62 23 1 (eI .u64) p_60.tape.words :: rowp A_x0oops c_x0oops 32 6 Tapi_Op.cells p_60.ops :: rowp A_x0ovalues c_x0ovalues 23 1 (eI .u64) p_60.values :: rowp A_x0oblocks c_x0oblocks 144 3 Tapi_Span.cells p_60.blocks :: pt b_2 (blk (Tapi_Op.cells x1) 32) :: S) → K37 a w := by
            intro p_60 p_64 hm A_61 c_62 a w hs
            unfold wire_Machine_Do.j2 at hm
            refine hK37 _ _ ?_
            refine Vk.seq fun K65 hK65 => ?_
            have hj65 : ∀ (p_69 : Twire_Machine), wire_Machine_Do.j3 k x1 p_64 p_69 = some r → ∀ (a : Act) (w : World), St 145 a w κ [(0, .pointer (some ⟨b_x0, 0, none⟩)), (2, .int .u64 p_64), (4, .pointer (some ⟨b_2, 0, none⟩))] (pt b_x0 (blk (Twire_Machine.obj p_69 b_x0otape A_x0oops c_x0oops A_x0ovalues c_x0ovalues A_x0oblocks c_x0oblocks) 151) :: pt b_x0otape (blk (Ttape_Tape.obj p_69.tape A_61 c_62) 158) :: rowp A_61 c_62 23 1 (eI .u64) p_69.tape.words :: rowp A_x0oops c_x0oops 32 6 Tapi_Op.cells p_69.ops :: rowp A_x0ovalues c_x0ovalues 23 1 (eI .u64) p_69.values :: rowp A_x0oblocks c_x0oblocks 144 3 Tapi_Span.cells p_69.blocks :: pt b_2 (blk (Tapi_Op.cells x1) 32) :: S) → K65 a w := by
              intro p_69 hm a w hs
              unfold wire_Machine_Do.j3 at hm
              refine hK65 _ _ ?_
              refine Vk.seq fun K70 hK70 => ?_
              refine Vk.seq fun K71 hK71 => ?_
              refine Vk.region ?_
              refine Vk.pures 3 [(91, .pointer (some ⟨b_x0, 5, none⟩)), (90, .pointer (some ⟨b_x0, 0, none⟩)), (89, .pointer (some ⟨b_x0, 0, none⟩))] hs (by kernel_rfl) fun a hs => ?_
              refine Vk.step (Vk.value (some 92) (.bool p_69.dry) hs (by kernel_rfl) (op := (.load 4 (.tmp 91))) (by kernel_rfl) (fun o ho => run_load1 (b := b_x0) (off := 5) (c := C.bool p_69.dry) ho (by kernel_rfl) (by kernel_rfl) (Cell.own 0 rfl (by kernel_rfl)) _ hs.own) fun a hs => ?_)
              replace hs := hs.pick [0, 2, 4, 92] (L' := [(0, .pointer (some ⟨b_x0, 0, none⟩)), (2, .int .u64 p_64), (4, .pointer (some ⟨b_2, 0, none⟩)), (92, .bool p_69.dry)]) (by kernel_rfl)
              refine Vk.done (by kernel_rfl) ?_
              refine hK71 _ _ ?_
              clear hK71
              refine Vk.condS (b := p_69.dry) hs (by kernel_rfl) (by kernel_rfl) (fun hb => ?_) (fun hb => ?_)
              · replace hm := bif_t hm hb
                refine Vk.seq fun K72 hK72 => ?_
                refine Vk.region ?_
                refine Vk.pures 3 [(95, .pointer (some ⟨b_x0, 2, none⟩)), (94, .pointer (some ⟨b_x0, 0, none⟩)), (93, .pointer (some ⟨b_x0, 0, none⟩))] hs (by kernel_rfl) fun a hs => ?_
                refine Vk.step (Vk.value (some 96) (.int .i64 p_69.base) hs (by kernel_rfl) (op := (.load 3 (.tmp 95))) (by kernel_rfl) (fun o ho => run_load1 (b := b_x0) (off := 2) (c := C.int .i64 p_69.base) ho (by kernel_rfl) (by kernel_rfl) (Cell.own 0 rfl (by kernel_rfl)) _ hs.own) fun a hs => ?_)
                refine Vk.pures 3 [(99, .pointer (some ⟨b_x0, 2, none⟩)), (98, .pointer (some ⟨b_x0, 0, none⟩)), (97, .int .i64 (IntKind.i64.wrap (p_69.base + 1)))] hs (by kernel_rfl) fun a hs => ?_
                refine Vk.step (Vk.store1 (b := b_x0) (ty := 3) (x := (.tmp 99)) (y := (.tmp 97)) (off := 2) (C.int .i64 (IntKind.i64.wrap (p_69.base + 1))) 0 hs (by kernel_rfl) (by kernel_rfl) (by kernel_rfl) (by kernel_rfl) (by kernel_rfl) (by kernel_rfl) rfl (Nat.le_of_ble_eq_true (by kernel_rfl)) fun a w hs => ?_)
                replace hs := hs.pick [0] (L' := [(0, .pointer (some ⟨b_x0, 0, none⟩))]) (by kernel_rfl)
                refine Vk.done (by kernel_rfl) ?_
                refine hK72 _ _ ?_
                clear hK72
                refine Vk.seq fun K73 hK73 => ?_
                refine Vk.region ?_
                refine Vk.pures 3 [(102, .pointer (some ⟨b_x0, 2, none⟩)), (101, .pointer (some ⟨b_x0, 0, none⟩)), (100, .pointer (some ⟨b_x0, 0, none⟩))] hs (by kernel_rfl) fun a hs => ?_
                refine Vk.step (Vk.value (some 103) (.int .i64 (IntKind.i64.wrap (p_69.base + 1))) hs (by kernel_rfl) (op := (.load 3 (.tmp 102))) (by kernel_rfl) (fun o ho => run_load1 (b := b_x0) (off := 2) (c := C.int .i64 (IntKind.i64.wrap (p_69.base + 1))) ho (by kernel_rfl) (by kernel_rfl) (Cell.own 0 rfl (by kernel_rfl)) _ hs.own) fun a hs => ?_)
                refine Vk.pures 2 [(6, .int .i64 (IntKind.i64.wrap ((IntKind.i64.wrap (p_69.base + 1)) - 1))), (104, .int .i64 (IntKind.i64.wrap ((IntKind.i64.wrap (p_69.base + 1)) - 1)))] hs (by kernel_rfl) fun a hs => ?_
                replace hs := hs.pick [6] (L' := [(6, .int .i64 (IntKind.i64.wrap ((IntKind.i64.wrap (p_69.base + 1)) - 1)))]) (by kernel_rfl)
                refine Vk.done (by kernel_rfl) ?_
                refine hK73 _ _ ?_
                clear hK73
                refine wp_ret ?_
                exact Vk.ret1 (P := Try.prog) (fn := Try.f60) (R := wire_Machine_Do.R κ S x0 x1 x2 b_x0 b_x0otape A_x0otapeowords c_x0otapeowords A_x0oops c_x0oops A_x0ovalues c_x0ovalues A_x0oblocks c_x0oblocks r) (.int .i64 (IntKind.i64.wrap ((IntKind.i64.wrap (p_69.base + 1)) - 1))) hs rfl (by kernel_rfl) (by obtain rfl := Option.some.inj hm; exact ⟨A_61, c_62, A_x0oops, c_x0oops, A_x0ovalues, c_x0ovalues, A_x0oblocks, c_x0oblocks, rfl, (Own.to hs.own [0, 1, 2, 3, 4, 5] 7 (by kernel_rfl) (by kernel_rfl))⟩)
              · replace hm := bif_f hm hb
                refine wp_skip ?_
                refine hK70 _ _ ?_
                clear hK70
                refine Vk.seq fun K74 hK74 => ?_
                obtain ⟨C_75, hC_75⟩ : ∃ X0 : List HP, X0 = (pt b_x0 (blk (Twire_Machine.obj p_69 b_x0otape A_x0oops c_x0oops A_x0ovalues c_x0ovalues A_x0oblocks c_x0oblocks) 151) :: pt b_x0otape (blk (Ttape_Tape.obj p_69.tape A_61 c_62) 158) :: rowp A_61 c_62 23 1 (eI .u64) p_69.tape.words :: rowp A_x0oops c_x0oops 32 6 Tapi_Op.cells p_69.ops :: rowp A_x0oblocks c_x0oblocks 144 3 Tapi_Span.cells p_69.blocks :: pt b_2 (blk (Tapi_Op.cells x1) 32) :: S) := ⟨_, rfl⟩
                refine Vk.drawnT 22 κ C_75 hs (by kernel_rfl) fun w hs => ?_
                have hcz : Own κ w (pt b_x0 (blk (Twire_Machine.obj p_69 b_x0otape A_x0oops c_x0oops A_x0ovalues c_x0ovalues A_x0oblocks c_x0oblocks) 151) :: pt b_x0otape (blk (Ttape_Tape.obj p_69.tape A_61 c_62) 158) :: rowp A_61 c_62 23 1 (eI .u64) p_69.tape.words :: rowp A_x0oops c_x0oops 32 6 Tapi_Op.cells p_69.ops :: rowp A_x0oblocks c_x0oblocks 144 3 Tapi_Span.cells p_69.blocks :: pt b_2 (blk (Tapi_Op.cells x1) 32) :: S) := (Own.to hs.own [0, 1, 2, 3, 5, 6] 7 (by kernel_rfl) (by kernel_rfl))
                have hcl : Own κ w C_75 := by rw [hC_75]; exact hcz
                refine Vk.dPuresT [0, 1, 2, 3, 6, 7, 10, 11, 14, 15, 18] [(123, .int .u64 p_64), (120, .pointer (some ⟨b_2, 4, none⟩)), (119, .pointer (some ⟨b_x0, 0, none⟩)), (116, .pointer (some ⟨b_2, 3, none⟩)), (115, .pointer (some ⟨b_x0, 0, none⟩)), (112, .pointer (some ⟨b_2, 2, none⟩)), (111, .pointer (some ⟨b_x0, 0, none⟩)), (108, .pointer (some ⟨b_x0, 11, none⟩)), (107, .pointer (some ⟨b_x0, 0, none⟩)), (106, .pointer (some ⟨b_x0, 0, none⟩)), (105, .pointer (some ⟨b_x0, 0, none⟩))] hs (by kernel_rfl) (by repeat' (first | exact Vk.Calm.post | refine Vk.Calm.then ?_ | refine Vk.Calm.inBlock ?_)) hcl (by kernel_rfl) (by kernel_rfl) (fuel := 14) rfl fun a hs => ?_
                refine Vk.dTakeT (i := 4) (some 109) (.slice A_x0ovalues p_69.values.length c_x0ovalues) hs (by kernel_rfl) (by repeat' (first | exact Vk.Calm.post | refine Vk.Calm.then ?_ | refine Vk.Calm.inBlock ?_)) hcl (by kernel_rfl) (by kernel_rfl) (op := (.load 73 (.tmp 108))) (by kernel_rfl) (by kernel_rfl) (fun w hw o ho => by rw [hC_75] at hw; exact run_load1 (b := b_x0) (off := 11) (c := C.slc A_x0ovalues p_69.values.length c_x0ovalues) ho (by kernel_rfl) (by kernel_rfl) (Cell.own 0 rfl (by kernel_rfl)) _ hw) fun a hs => ?_
                refine Vk.dTakeT (i := 5) (some 110) (.agg (vals [C.int .i64 x1.kind, C.int .i64 x1.dom, C.int .i64 x1.a, C.int .i64 x1.b, C.int .i64 x1.d, C.int .u64 x1.c])) hs (by kernel_rfl) (by repeat' (first | exact Vk.Calm.post | refine Vk.Calm.then ?_ | refine Vk.Calm.inBlock ?_)) hcl (by kernel_rfl) (by kernel_rfl) (op := (.load 32 (.tmp 4))) (by kernel_rfl) (by kernel_rfl) (fun w hw o ho => by rw [hC_75] at hw; exact run_loadN (cs := [C.int .i64 x1.kind, C.int .i64 x1.dom, C.int .i64 x1.a, C.int .i64 x1.b, C.int .i64 x1.d, C.int .u64 x1.c]) ho (by kernel_rfl) (by kernel_rfl) rfl (CellsAt.all 5 rfl) _ hw) fun a hs => ?_
                refine Vk.dTakeT (i := 8) (some 113) (.int .i64 x1.a) hs (by kernel_rfl) (by repeat' (first | exact Vk.Calm.post | refine Vk.Calm.then ?_ | refine Vk.Calm.inBlock ?_)) hcl (by kernel_rfl) (by kernel_rfl) (op := (.load 3 (.tmp 112))) (by kernel_rfl) (by kernel_rfl) (fun w hw o ho => by rw [hC_75] at hw; exact run_load1 (b := b_2) (off := 2) (c := C.int .i64 x1.a) ho (by kernel_rfl) (by kernel_rfl) (Cell.own 5 rfl (by kernel_rfl)) _ hw) fun a hs => ?_
                refine Vk.dTakeT (i := 12) (some 117) (.int .i64 x1.b) hs (by kernel_rfl) (by repeat' (first | exact Vk.Calm.post | refine Vk.Calm.then ?_ | refine Vk.Calm.inBlock ?_)) hcl (by kernel_rfl) (by kernel_rfl) (op := (.load 3 (.tmp 116))) (by kernel_rfl) (by kernel_rfl) (fun w hw o ho => by rw [hC_75] at hw; exact run_load1 (b := b_2) (off := 3) (c := C.int .i64 x1.b) ho (by kernel_rfl) (by kernel_rfl) (Cell.own 5 rfl (by kernel_rfl)) _ hw) fun a hs => ?_
                refine Vk.dTakeT (i := 16) (some 121) (.int .i64 x1.d) hs (by kernel_rfl) (by repeat' (first | exact Vk.Calm.post | refine Vk.Calm.then ?_ | refine Vk.Calm.inBlock ?_)) hcl (by kernel_rfl) (by kernel_rfl) (op := (.load 3 (.tmp 120))) (by kernel_rfl) (by kernel_rfl) (fun w hw o ho => by rw [hC_75] at hw; exact run_load1 (b := b_2) (off := 4) (c := C.int .i64 x1.d) ho (by kernel_rfl) (by kernel_rfl) (Cell.own 5 rfl (by kernel_rfl)) _ hw) fun a hs => ?_
                obtain ⟨v_78, h_77, hm⟩ := bind_t hm
                refine Vk.dOnly (i := 9) (by kernel_rfl) (Vk.call (some 114) 96 #[.pointer (some ⟨b_x0, 0, none⟩), .int .i64 x1.a] hs (by kernel_rfl) (by kernel_rfl) (by kernel_rfl) ?_)
                refine (wire_Machine_value.ok k p_69 x1.a v_78 h_77 κ w (pt b_2 (blk (Tapi_Op.cells x1) 32) :: S) b_x0 b_x0otape A_61 c_62 A_x0oops c_x0oops A_x0ovalues c_x0ovalues A_x0oblocks c_x0oblocks (Own.to hs.own [0, 1, 2, 3, 4, 5, 6] 7 (by kernel_rfl) (by kernel_rfl))).mono ?_
                rintro _ w ⟨rfl, how⟩
                refine ⟨_, _, _, rfl, how, fun a hs => ?_⟩
                replace hcl : Own κ w C_75 := by rw [hC_75]; exact (Own.to hs.own [0, 1, 2, 3, 5, 6] 7 (by kernel_rfl) (by kernel_rfl))
                refine ⟨fun _ => hcl, ?_⟩
                obtain ⟨v_81, h_80, hm⟩ := bind_t hm
                refine Vk.dOnly (i := 13) (by kernel_rfl) (Vk.call (some 118) 96 #[.pointer (some ⟨b_x0, 0, none⟩), .int .i64 x1.b] hs (by kernel_rfl) (by kernel_rfl) (by kernel_rfl) ?_)
                refine (wire_Machine_value.ok k p_69 x1.b v_81 h_80 κ w (pt b_2 (blk (Tapi_Op.cells x1) 32) :: S) b_x0 b_x0otape A_61 c_62 A_x0oops c_x0oops A_x0ovalues c_x0ovalues A_x0oblocks c_x0oblocks (Own.to hs.own [0, 1, 2, 3, 4, 5, 6] 7 (by kernel_rfl) (by kernel_rfl))).mono ?_
                rintro _ w ⟨rfl, how⟩
                refine ⟨_, _, _, rfl, how, fun a hs => ?_⟩
                replace hcl : Own κ w C_75 := by rw [hC_75]; exact (Own.to hs.own [0, 1, 2, 3, 5, 6] 7 (by kernel_rfl) (by kernel_rfl))
                refine ⟨fun _ => hcl, ?_⟩
                obtain ⟨v_84, h_83, hm⟩ := bind_t hm
                refine Vk.dOnly (i := 17) (by kernel_rfl) (Vk.call (some 122) 96 #[.pointer (some ⟨b_x0, 0, none⟩), .int .i64 x1.d] hs (by kernel_rfl) (by kernel_rfl) (by kernel_rfl) ?_)
                refine (wire_Machine_value.ok k p_69 x1.d v_84 h_83 κ w (pt b_2 (blk (Tapi_Op.cells x1) 32) :: S) b_x0 b_x0otape A_61 c_62 A_x0oops c_x0oops A_x0ovalues c_x0ovalues A_x0oblocks c_x0oblocks (Own.to hs.own [0, 1, 2, 3, 4, 5, 6] 7 (by kernel_rfl) (by kernel_rfl))).mono ?_
                rintro _ w ⟨rfl, how⟩
                refine ⟨_, _, _, rfl, how, fun a hs => ?_⟩
                replace hcl : Own κ w C_75 := by rw [hC_75]; exact (Own.to hs.own [0, 1, 2, 3, 5, 6] 7 (by kernel_rfl) (by kernel_rfl))
                refine ⟨fun _ => hcl, ?_⟩
                obtain ⟨v_87, h_86, hm⟩ := bind_t hm
                refine Vk.dOnly (i := 19) (by kernel_rfl) (Vk.call (some 124) 21 #[.agg (vals [C.int .i64 x1.kind, C.int .i64 x1.dom, C.int .i64 x1.a, C.int .i64 x1.b, C.int .i64 x1.d, C.int .u64 x1.c]), .int .u64 v_78, .int .u64 v_81, .int .u64 v_84, .int .u64 p_64] hs (by kernel_rfl) (by kernel_rfl) (by kernel_rfl) ?_)
                refine (op_Eval.ok k x1 v_78 v_81 v_84 p_64 v_87 h_86 κ w (pt b_x0 (blk (Twire_Machine.obj p_69 b_x0otape A_x0oops c_x0oops A_x0ovalues c_x0ovalues A_x0oblocks c_x0oblocks) 151) :: pt b_x0otape (blk (Ttape_Tape.obj p_69.tape A_61 c_62) 158) :: rowp A_61 c_62 23 1 (eI .u64) p_69.tape.words :: rowp A_x0oops c_x0oops 32 6 Tapi_Op.cells p_69.ops :: rowp A_x0ovalues c_x0ovalues 23 1 (eI .u64) p_69.values :: rowp A_x0oblocks c_x0oblocks 144 3 Tapi_Span.cells p_69.blocks :: pt b_2 (blk (Tapi_Op.cells x1) 32) :: S) hs.own).mono ?_
                rintro _ w ⟨rfl, how⟩
                refine ⟨_, _, _, rfl, how, fun a hs => ?_⟩
                replace hcl : Own κ w C_75 := by rw [hC_75]; exact (Own.to hs.own [0, 1, 2, 3, 5, 6] 7 (by kernel_rfl) (by kernel_rfl))
                refine ⟨fun _ => hcl, ?_⟩
                refine Vk.dOnly (i := 20) (by kernel_rfl) (Vk.buildOp (sz := 1) (by_ := 8) (t := 73) (e := 23) (parts := #[(0, (.tmp 124))]) (zs := vals [C.int .u64 0]) ([v_87] : List Int) (eI .u64) (some 125) hs (by kernel_rfl) (by kernel_rfl) (by kernel_rfl) (by kernel_rfl) (by decide) rfl (fun x _ => rfl) (Nat.le_of_ble_eq_true (by kernel_rfl)) (by kernel_rfl) fun A_88 w a hs => ?_)
                replace hcl : Own κ w C_75 := by rw [hC_75]; exact (Own.to hs.own [1, 2, 3, 4, 6, 7] 8 (by kernel_rfl) (by kernel_rfl))
                refine ⟨fun _ => hcl, ?_⟩
                obtain ⟨h_90, hm⟩ := ite_t hm
                refine Vk.dOnly (i := 21) (by kernel_rfl) (Vk.appendOp (x := (.tmp 109)) (y := (.tmp 125)) (e := 23) (t := 73) (by_ := 8) (sz := 1) (enc := (eI .u64)) (A := A_x0ovalues) (cap := c_x0ovalues) (xs := p_69.values) (ys := ([v_87] : List Int)) (B := A_88) (c2 := 1) 5 (some 126) hs (by kernel_rfl) (by kernel_rfl) (by kernel_rfl) (by kernel_rfl) rfl (Sl.lift (fun w ho => (Own.to (S' := rowp A_88 1 23 1 (eI .u64) ([v_87] : List Int) :: S) ho [0] 8 (by kernel_rfl) (by kernel_rfl))) (Own.rowSl 0 (Own.to (S' := rowp A_88 1 23 1 (eI .u64) ([v_87] : List Int) :: S) hs.own [0] 8 (by kernel_rfl) (by kernel_rfl)) rfl)) (by kernel_rfl) (by kernel_rfl) (by decide) (by decide) h_90 fun A_91 c_92 w a hs => ?_)
                replace hcl : Own κ w C_75 := by rw [hC_75]; exact (Own.to hs.own [1, 2, 3, 4, 6, 7] 8 (by kernel_rfl) (by kernel_rfl))
                refine ⟨fun _ => hcl, ?_⟩
                refine Vk.dOnly (i := 22) (by kernel_rfl) (Vk.dPure1 [(127, .pointer (some ⟨b_x0, 0, none⟩))] hs (by kernel_rfl) fun a hs => ?_)
                refine ⟨fun h => absurd h (by decide), ?_⟩
                refine Vk.dOnly (i := 23) (by kernel_rfl) (Vk.dPure1 [(128, .pointer (some ⟨b_x0, 11, none⟩))] hs (by kernel_rfl) fun a hs => ?_)
                refine ⟨fun h => absurd h (by decide), ?_⟩
                refine Vk.dOnly (i := 24) (by kernel_rfl) (Vk.store1 (b := b_x0) (ty := 73) (x := (.tmp 128)) (y := (.tmp 126)) (off := 11) (C.slc A_91 ((p_69.values ++ ([v_87] : List Int)).length) c_92) 1 hs (by kernel_rfl) (by kernel_rfl) (by kernel_rfl) (by kernel_rfl) (by kernel_rfl) (by kernel_rfl) rfl (Nat.le_of_ble_eq_true (by kernel_rfl)) fun a w hs => ?_)
                refine ⟨fun h => absurd h (by decide), ?_⟩
                replace hs := hs.pick [0, 4] (L' := [(0, .pointer (some ⟨b_x0, 0, none⟩)), (4, .pointer (some ⟨b_2, 0, none⟩))]) (by kernel_rfl)
                refine Vk.dDone (by kernel_rfl) ?_
                refine hK74 _ _ ?_
                clear hK74
                refine Vk.seq fun K93 hK93 => ?_
                obtain ⟨C_94, hC_94⟩ : ∃ X0 : List HP, X0 = (rowp A_88 1 23 1 (eI .u64) ([v_87] : List Int) :: pt b_x0 (blk ((Twire_Machine.obj p_69 b_x0otape A_x0oops c_x0oops none 0 A_x0oblocks c_x0oblocks).set 11 (C.slc A_91 ((p_69.values ++ ([v_87] : List Int)).length) c_92)) 151) :: pt b_x0otape (blk (Ttape_Tape.obj p_69.tape A_61 c_62) 158) :: rowp A_61 c_62 23 1 (eI .u64) p_69.tape.words :: rowp A_91 c_92 23 1 (eI .u64) (p_69.values ++ ([v_87] : List Int)) :: rowp A_x0oblocks c_x0oblocks 144 3 Tapi_Span.cells p_69.blocks :: pt b_2 (blk (Tapi_Op.cells x1) 32) :: S) := ⟨_, rfl⟩
                refine Vk.drawnT 8 κ C_94 hs (by kernel_rfl) fun w hs => ?_
                have hcz : Own κ w (rowp A_88 1 23 1 (eI .u64) ([v_87] : List Int) :: pt b_x0 (blk ((Twire_Machine.obj p_69 b_x0otape A_x0oops c_x0oops none 0 A_x0oblocks c_x0oblocks).set 11 (C.slc A_91 ((p_69.values ++ ([v_87] : List Int)).length) c_92)) 151) :: pt b_x0otape (blk (Ttape_Tape.obj p_69.tape A_61 c_62) 158) :: rowp A_61 c_62 23 1 (eI .u64) p_69.tape.words :: rowp A_91 c_92 23 1 (eI .u64) (p_69.values ++ ([v_87] : List Int)) :: rowp A_x0oblocks c_x0oblocks 144 3 Tapi_Span.cells p_69.blocks :: pt b_2 (blk (Tapi_Op.cells x1) 32) :: S) := (Own.to hs.own [0, 1, 2, 3, 5, 6, 7] 8 (by kernel_rfl) (by kernel_rfl))
                have hcl : Own κ w C_94 := by rw [hC_94]; exact hcz
                refine Vk.dPuresT [0, 1, 2, 3] [(132, .pointer (some ⟨b_x0, 10, none⟩)), (131, .pointer (some ⟨b_x0, 0, none⟩)), (130, .pointer (some ⟨b_x0, 0, none⟩)), (129, .pointer (some ⟨b_x0, 0, none⟩))] hs (by kernel_rfl) (by repeat' (first | exact Vk.Calm.post | refine Vk.Calm.then ?_ | refine Vk.Calm.inBlock ?_)) hcl (by kernel_rfl) (by kernel_rfl) (fuel := 7) rfl fun a hs => ?_
                refine Vk.dTakeT (i := 4) (some 133) (.slice A_x0oops p_69.ops.length c_x0oops) hs (by kernel_rfl) (by repeat' (first | exact Vk.Calm.post | refine Vk.Calm.then ?_ | refine Vk.Calm.inBlock ?_)) hcl (by kernel_rfl) (by kernel_rfl) (op := (.load 69 (.tmp 132))) (by kernel_rfl) (by kernel_rfl) (fun w hw o ho => by rw [hC_94] at hw; exact run_load1 (b := b_x0) (off := 10) (c := C.slc A_x0oops p_69.ops.length c_x0oops) ho (by kernel_rfl) (by kernel_rfl) (Cell.own 1 rfl (by kernel_rfl)) _ hw) fun a hs => ?_
                refine Vk.dTakeT (i := 5) (some 134) (.agg (vals [C.int .i64 x1.kind, C.int .i64 x1.dom, C.int .i64 x1.a, C.int .i64 x1.b, C.int .i64 x1.d, C.int .u64 x1.c])) hs (by kernel_rfl) (by repeat' (first | exact Vk.Calm.post | refine Vk.Calm.then ?_ | refine Vk.Calm.inBlock ?_)) hcl (by kernel_rfl) (by kernel_rfl) (op := (.load 32 (.tmp 4))) (by kernel_rfl) (by kernel_rfl) (fun w hw o ho => by rw [hC_94] at hw; exact run_loadN (cs := [C.int .i64 x1.kind, C.int .i64 x1.dom, C.int .i64 x1.a, C.int .i64 x1.b, C.int .i64 x1.d, C.int .u64 x1.c]) ho (by kernel_rfl) (by kernel_rfl) rfl (CellsAt.all 6 rfl) _ hw) fun a hs => ?_
                refine Vk.dOnly (i := 6) (by kernel_rfl) (Vk.buildOp (sz := 6) (by_ := 48) (t := 69) (e := 32) (parts := #[(0, (.tmp 134))]) (zs := vals [C.int .i64 0, C.int .i64 0, C.int .i64 0, C.int .i64 0, C.int .i64 0, C.int .u64 0]) ([x1] : List Tapi_Op) Tapi_Op.cells (some 135) hs (by kernel_rfl) (by kernel_rfl) (by kernel_rfl) (by kernel_rfl) (by decide) rfl (fun x _ => rfl) (Nat.le_of_ble_eq_true (by kernel_rfl)) (by kernel_rfl) fun A_95 w a hs => ?_)
                replace hcl : Own κ w C_94 := by rw [hC_94]; exact (Own.to hs.own [1, 2, 3, 4, 6, 7, 8] 9 (by kernel_rfl) (by kernel_rfl))
                refine ⟨fun _ => hcl, ?_⟩
                obtain ⟨h_97, hm⟩ := ite_t hm
                refine Vk.dOnly (i := 7) (by kernel_rfl) (Vk.appendOp (x := (.tmp 133)) (y := (.tmp 135)) (e := 32) (t := 69) (by_ := 48) (sz := 6) (enc := Tapi_Op.cells) (A := A_x0oops) (cap := c_x0oops) (xs := p_69.ops) (ys := ([x1] : List Tapi_Op)) (B := A_95) (c2 := 1) 5 (some 136) hs (by kernel_rfl) (by kernel_rfl) (by kernel_rfl) (by kernel_rfl) rfl (Sl.lift (fun w ho => (Own.to (S' := rowp A_95 1 32 6 Tapi_Op.cells ([x1] : List Tapi_Op) :: S) ho [0] 9 (by kernel_rfl) (by kernel_rfl))) (Own.rowSl 0 (Own.to (S' := rowp A_95 1 32 6 Tapi_Op.cells ([x1] : List Tapi_Op) :: S) hs.own [0] 9 (by kernel_rfl) (by kernel_rfl)) rfl)) (by kernel_rfl) (by kernel_rfl) (by decide) (by decide) h_97 fun A_98 c_99 w a hs => ?_)
                replace hcl : Own κ w C_94 := by rw [hC_94]; exact (Own.to hs.own [1, 2, 3, 4, 6, 7, 8] 9 (by kernel_rfl) (by kernel_rfl))
                refine ⟨fun _ => hcl, ?_⟩
                refine Vk.dOnly (i := 8) (by kernel_rfl) (Vk.dPure1 [(137, .pointer (some ⟨b_x0, 0, none⟩))] hs (by kernel_rfl) fun a hs => ?_)
                refine ⟨fun h => absurd h (by decide), ?_⟩
                refine Vk.dOnly (i := 9) (by kernel_rfl) (Vk.dPure1 [(138, .pointer (some ⟨b_x0, 10, none⟩))] hs (by kernel_rfl) fun a hs => ?_)
                refine ⟨fun h => absurd h (by decide), ?_⟩
                refine Vk.dOnly (i := 10) (by kernel_rfl) (Vk.store1 (b := b_x0) (ty := 69) (x := (.tmp 138)) (y := (.tmp 136)) (off := 10) (C.slc A_98 ((p_69.ops ++ ([x1] : List Tapi_Op)).length) c_99) 2 hs (by kernel_rfl) (by kernel_rfl) (by kernel_rfl) (by kernel_rfl) (by kernel_rfl) (by kernel_rfl) rfl (Nat.le_of_ble_eq_true (by kernel_rfl)) fun a w hs => ?_)
                refine ⟨fun h => absurd h (by decide), ?_⟩
                replace hs := hs.pick [0] (L' := [(0, .pointer (some ⟨b_x0, 0, none⟩))]) (by kernel_rfl)
                refine Vk.dDone (by kernel_rfl) ?_
                refine hK93 _ _ ?_
                clear hK93
                refine Vk.seq fun K100 hK100 => ?_
                refine Vk.region ?_
                refine Vk.pures 3 [(141, .pointer (some ⟨b_x0, 10, none⟩)), (140, .pointer (some ⟨b_x0, 0, none⟩)), (139, .pointer (some ⟨b_x0, 0, none⟩))] hs (by kernel_rfl) fun a hs => ?_
                refine Vk.step (Vk.value (some 142) (.slice A_98 ((p_69.ops ++ ([x1] : List Tapi_Op)).length) c_99) hs (by kernel_rfl) (op := (.load 69 (.tmp 141))) (by kernel_rfl) (fun o ho => run_load1 (b := b_x0) (off := 10) (c := C.slc A_98 ((p_69.ops ++ ([x1] : List Tapi_Op)).length) c_99) ho (by kernel_rfl) (by kernel_rfl) (Cell.own 2 rfl (by kernel_rfl)) _ hs.own) fun a hs => ?_)
                refine Vk.pures 3 [(6, .int .i64 (IntKind.i64.wrap ((((p_69.ops ++ ([x1] : List Tapi_Op)).length : Nat) : Int) - 1))), (144, .int .i64 (IntKind.i64.wrap ((((p_69.ops ++ ([x1] : List Tapi_Op)).length : Nat) : Int) - 1))), (143, .int .i64 (((p_69.ops ++ ([x1] : List Tapi_Op)).length : Nat) : Int))] hs (by kernel_rfl) fun a hs => ?_
                replace hs := hs.pick [6] (L' := [(6, .int .i64 (IntKind.i64.wrap ((((p_69.ops ++ ([x1] : List Tapi_Op)).length : Nat) : Int) - 1)))]) (by kernel_rfl)
                refine Vk.done (by kernel_rfl) ?_
                refine hK100 _ _ ?_
                clear hK100
                refine wp_ret ?_
                exact Vk.ret1 (P := Try.prog) (fn := Try.f60) (R := wire_Machine_Do.R κ S x0 x1 x2 b_x0 b_x0otape A_x0otapeowords c_x0otapeowords A_x0oops c_x0oops A_x0ovalues c_x0ovalues A_x0oblocks c_x0oblocks r) (.int .i64 (IntKind.i64.wrap ((((p_69.ops ++ ([x1] : List Tapi_Op)).length : Nat) : Int) - 1))) hs rfl (by kernel_rfl) (by obtain rfl := Option.some.inj hm; exact ⟨A_61, c_62, A_98, c_99, A_91, c_92, A_x0oblocks, c_x0oblocks, rfl, (Own.to hs.own [2, 3, 4, 5, 6, 7] 9 (by kernel_rfl) (by kernel_rfl))⟩)
            refine Vk.seq fun K66 hK66 => ?_
            refine Vk.region ?_
            refine Vk.pures 1 [(69, .pointer (some ⟨b_2, 0, none⟩))] hs (by kernel_rfl) fun a hs => ?_
            refine Vk.step (Vk.value (some 70) (.int .i64 x1.kind) hs (by kernel_rfl) (op := (.load 3 (.tmp 69))) (by kernel_rfl) (fun o ho => run_load1 (b := b_2) (off := 0) (c := C.int .i64 x1.kind) ho (by kernel_rfl) (by kernel_rfl) (Cell.own 6 rfl (by kernel_rfl)) _ hs.own) fun a hs => ?_)
            replace hs := hs.pick [0, 2, 4, 70] (L' := [(0, .pointer (some ⟨b_x0, 0, none⟩)), (2, .int .u64 p_64), (4, .pointer (some ⟨b_2, 0, none⟩)), (70, .int .i64 x1.kind)]) (by kernel_rfl)
            refine Vk.done (by kernel_rfl) ?_
            refine hK66 _ _ ?_
            clear hK66
            refine wp_block ?_
            refine Vk.seq fun K67 hK67 => ?_
            refine Vk.region ?_
            refine Vk.pures 2 [(71, .bool (x1.kind == 1)), (72, .bool (x1.kind == 1))] hs (by kernel_rfl) fun a hs => ?_
            replace hs := hs.pick [0, 2, 4, 70, 71] (L' := [(0, .pointer (some ⟨b_x0, 0, none⟩)), (2, .int .u64 p_64), (4, .pointer (some ⟨b_2, 0, none⟩)), (70, .int .i64 x1.kind), (71, .bool (x1.kind == 1))]) (by kernel_rfl)
            refine Vk.done (by kernel_rfl) ?_
            refine hK67 _ _ ?_
            clear hK67
            refine Vk.condS (b := x1.kind == 1) hs (by kernel_rfl) (by kernel_rfl) (fun hb => ?_) (fun hb => ?_)
            · replace hm := bif_t hm hb
              refine Vk.region ?_
              refine Vk.pures 3 [(75, .pointer (some ⟨b_x0, 4, none⟩)), (74, .pointer (some ⟨b_x0, 0, none⟩)), (73, .pointer (some ⟨b_x0, 0, none⟩))] hs (by kernel_rfl) fun a hs => ?_
              refine Vk.step (Vk.value (some 76) (.int .i64 p_60.draws) hs (by kernel_rfl) (op := (.load 3 (.tmp 75))) (by kernel_rfl) (fun o ho => run_load1 (b := b_x0) (off := 4) (c := C.int .i64 p_60.draws) ho (by kernel_rfl) (by kernel_rfl) (Cell.own 0 rfl (by kernel_rfl)) _ hs.own) fun a hs => ?_)
              refine Vk.pures 3 [(79, .pointer (some ⟨b_x0, 4, none⟩)), (78, .pointer (some ⟨b_x0, 0, none⟩)), (77, .int .i64 (IntKind.i64.wrap (p_60.draws + 1)))] hs (by kernel_rfl) fun a hs => ?_
              refine Vk.step (Vk.store1 (b := b_x0) (ty := 3) (x := (.tmp 79)) (y := (.tmp 77)) (off := 4) (C.int .i64 (IntKind.i64.wrap (p_60.draws + 1))) 0 hs (by kernel_rfl) (by kernel_rfl) (by kernel_rfl) (by kernel_rfl) (by kernel_rfl) (by kernel_rfl) rfl (Nat.le_of_ble_eq_true (by kernel_rfl)) fun a w hs => ?_)
              replace hs := hs.pick [0, 2, 4] (L' := [(0, .pointer (some ⟨b_x0, 0, none⟩)), (2, .int .u64 p_64), (4, .pointer (some ⟨b_2, 0, none⟩))]) (by kernel_rfl)
              refine Vk.done (by kernel_rfl) ?_
              exact hj65 (⟨p_60.n, p_60.most, p_60.base, p_60.words, IntKind.i64.wrap (p_60.draws + 1), p_60.dry, p_60.openF, p_60.fromF, p_60.bad, p_60.tape, p_60.ops, p_60.values, p_60.blocks⟩ : Twire_Machine) hm _ _ (hs.go [0, 2, 4] [0, 1, 2, 3, 4, 5, 6] 7 (by kernel_rfl) (by kernel_rfl) (by kernel_rfl))
            · replace hm := bif_f hm hb
              refine Vk.seq fun K68 hK68 => ?_
              refine Vk.region ?_
              refine Vk.pures 2 [(80, .bool (x1.kind == 2)), (81, .bool (x1.kind == 2))] hs (by kernel_rfl) fun a hs => ?_
              replace hs := hs.pick [0, 2, 4, 80] (L' := [(0, .pointer (some ⟨b_x0, 0, none⟩)), (2, .int .u64 p_64), (4, .pointer (some ⟨b_2, 0, none⟩)), (80, .bool (x1.kind == 2))]) (by kernel_rfl)
              refine Vk.done (by kernel_rfl) ?_
              refine hK68 _ _ ?_
              clear hK68
              refine Vk.condS (b := x1.kind == 2) hs (by kernel_rfl) (by kernel_rfl) (fun hb => ?_) (fun hb => ?_)
              · replace hm := bif_t hm hb
                refine Vk.region ?_
                refine Vk.pures 3 [(84, .pointer (some ⟨b_x0, 3, none⟩)), (83, .pointer (some ⟨b_x0, 0, none⟩)), (82, .pointer (some ⟨b_x0, 0, none⟩))] hs (by kernel_rfl) fun a hs => ?_
                refine Vk.step (Vk.value (some 85) (.int .i64 p_60.words) hs (by kernel_rfl) (op := (.load 3 (.tmp 84))) (by kernel_rfl) (fun o ho => run_load1 (b := b_x0) (off := 3) (c := C.int .i64 p_60.words) ho (by kernel_rfl) (by kernel_rfl) (Cell.own 0 rfl (by kernel_rfl)) _ hs.own) fun a hs => ?_)
                refine Vk.pures 3 [(88, .pointer (some ⟨b_x0, 3, none⟩)), (87, .pointer (some ⟨b_x0, 0, none⟩)), (86, .int .i64 (IntKind.i64.wrap (p_60.words + 1)))] hs (by kernel_rfl) fun a hs => ?_
                refine Vk.step (Vk.store1 (b := b_x0) (ty := 3) (x := (.tmp 88)) (y := (.tmp 86)) (off := 3) (C.int .i64 (IntKind.i64.wrap (p_60.words + 1))) 0 hs (by kernel_rfl) (by kernel_rfl) (by kernel_rfl) (by kernel_rfl) (by kernel_rfl) (by kernel_rfl) rfl (Nat.le_of_ble_eq_true (by kernel_rfl)) fun a w hs => ?_)
                replace hs := hs.pick [0, 2, 4] (L' := [(0, .pointer (some ⟨b_x0, 0, none⟩)), (2, .int .u64 p_64), (4, .pointer (some ⟨b_2, 0, none⟩))]) (by kernel_rfl)
                refine Vk.done (by kernel_rfl) ?_
                exact hj65 (⟨p_60.n, p_60.most, p_60.base, IntKind.i64.wrap (p_60.words + 1), p_60.draws, p_60.dry, p_60.openF, p_60.fromF, p_60.bad, p_60.tape, p_60.ops, p_60.values, p_60.blocks⟩ : Twire_Machine) hm _ _ (hs.go [0, 2, 4] [0, 1, 2, 3, 4, 5, 6] 7 (by kernel_rfl) (by kernel_rfl) (by kernel_rfl))
              · replace hm := bif_f hm hb
                refine wp_skip ?_
                exact hj65 p_60 hm _ _ (hs.go [0, 2, 4] [0, 1, 2, 3, 4, 5, 6] 7 (by kernel_rfl) (by kernel_rfl) (by kernel_rfl))
          refine Vk.seq fun K38 hK38 => ?_
          refine Vk.region ?_
          refine Vk.pures 1 [(46, .pointer (some ⟨b_2, 0, none⟩))] hs (by kernel_rfl) fun a hs => ?_
          refine Vk.step (Vk.value (some 47) (.int .i64 x1.kind) hs (by kernel_rfl) (op := (.load 3 (.tmp 46))) (by kernel_rfl) (fun o ho => run_load1 (b := b_2) (off := 0) (c := C.int .i64 x1.kind) ho (by kernel_rfl) (by kernel_rfl) (Cell.own 6 rfl (by kernel_rfl)) _ hs.own) fun a hs => ?_)
          refine Vk.pures 2 [(49, .bool (x1.kind == 1)), (48, .bool (x1.kind == 1))] hs (by kernel_rfl) fun a hs => ?_
          suffices hj_39 : ∀ a, St 145 a w κ [(0, .pointer (some ⟨b_x0, 0, none⟩)), (2, .int .u64 x2), (4, .pointer (some ⟨b_2, 0, none⟩)), (26, .bool p_24), (46, .pointer (some ⟨b_2, 0, none⟩)), (47, .int .i64 x1.kind), (48, .bool (x1.kind == 1)), (49, .bool (x1.kind == 1)), (55, .bool ((x1.kind == 1) && (!x0.dry)))] (pt b_x0 (blk (Twire_Machine.obj x0 b_x0otape A_x0oops c_x0oops A_x0ovalues c_x0ovalues A_x0oblocks c_x0oblocks) 151) :: pt b_x0otape (blk (Ttape_Tape.obj x0.tape A_x0otapeowords c_x0otapeowords) 158) :: rowp A_x0otapeowords c_x0otapeowords 23 1 (eI .u64) x0.tape.words :: rowp A_x0oops c_x0oops 32 6 Tapi_Op.cells x0.ops :: rowp A_x0ovalues c_x0ovalues 23 1 (eI .u64) x0.values :: rowp A_x0oblocks c_x0oblocks 144 3 Tapi_Span.cells x0.blocks :: pt b_2 (blk (Tapi_Op.cells x1) 32) :: S) → wpFrom Try.prog _ _ 10 a w by
            rcases Bool.eq_false_or_eq_true (x1.kind == 1) with hb | hb
            · replace hs := hs.known (t := 49) hb (by kernel_rfl)
              refine Vk.pures 3 [(52, .pointer (some ⟨b_x0, 5, none⟩)), (51, .pointer (some ⟨b_x0, 0, none⟩)), (50, .pointer (some ⟨b_x0, 0, none⟩))] hs (by kernel_rfl) fun a hs => ?_
              refine Vk.step (Vk.value (some 53) (.bool x0.dry) hs (by kernel_rfl) (op := (.load 4 (.tmp 52))) (by kernel_rfl) (fun o ho => run_load1 (b := b_x0) (off := 5) (c := C.bool x0.dry) ho (by kernel_rfl) (by kernel_rfl) (Cell.own 0 rfl (by kernel_rfl)) _ hs.own) fun a hs => ?_)
              refine Vk.pures 2 [(55, .bool (!x0.dry)), (54, .bool (!x0.dry))] hs (by kernel_rfl) fun a hs => ?_
              have hq := hs.pick [0, 2, 4, 26, 46, 47, 48, 49, 55] (L' := [(0, .pointer (some ⟨b_x0, 0, none⟩)), (2, .int .u64 x2), (4, .pointer (some ⟨b_2, 0, none⟩)), (26, .bool p_24), (46, .pointer (some ⟨b_2, 0, none⟩)), (47, .int .i64 x1.kind), (48, .bool (x1.kind == 1)), (49, .bool true), (55, .bool (!x0.dry))]) (by kernel_rfl)
              exact hj_39 _ (hq.conv (by first | (rw [hb] <;> rfl) | rfl))
            · replace hs := hs.known (t := 49) hb (by kernel_rfl)
              refine Vk.pures 6 [(55, .bool false), (54, undef), (53, undef), (52, undef), (51, undef), (50, undef)] hs (by kernel_rfl) fun a hs => ?_
              have hq := hs.pick [0, 2, 4, 26, 46, 47, 48, 49, 55] (L' := [(0, .pointer (some ⟨b_x0, 0, none⟩)), (2, .int .u64 x2), (4, .pointer (some ⟨b_2, 0, none⟩)), (26, .bool p_24), (46, .pointer (some ⟨b_2, 0, none⟩)), (47, .int .i64 x1.kind), (48, .bool (x1.kind == 1)), (49, .bool false), (55, .bool false)]) (by kernel_rfl)
              exact hj_39 _ (hq.conv (by first | (rw [hb] <;> rfl) | rfl))
          intro a hs
          replace hs := hs.pick [0, 2, 4, 55] (L' := [(0, .pointer (some ⟨b_x0, 0, none⟩)), (2, .int .u64 x2), (4, .pointer (some ⟨b_2, 0, none⟩)), (55, .bool ((x1.kind == 1) && (!x0.dry)))]) (by kernel_rfl)
          refine Vk.done (by kernel_rfl) ?_
          refine hK38 _ _ ?_
          clear hK38
          refine Vk.condS (b := (x1.kind == 1) && (!x0.dry)) hs (by kernel_rfl) (by kernel_rfl) (fun hb => ?_) (fun hb => ?_)
          · replace hm := bif_t hm hb
            refine Vk.seq fun K40 hK40 => ?_
            refine Vk.region ?_
            refine Vk.pures 3 [(59, .pointer (some ⟨b_x0, 9, none⟩)), (58, .pointer (some ⟨b_x0, 0, none⟩)), (57, .pointer (some ⟨b_x0, 0, none⟩))] hs (by kernel_rfl) fun a hs => ?_
            refine Vk.step (Vk.value (some 60) (.pointer (some ⟨b_x0otape, 0, none⟩)) hs (by kernel_rfl) (op := (.load 105 (.tmp 59))) (by kernel_rfl) (fun o ho => run_load1 (b := b_x0) (off := 9) (c := C.ptr (some ⟨b_x0otape, 0, none⟩)) ho (by kernel_rfl) (by kernel_rfl) (Cell.own 0 rfl (by kernel_rfl)) _ hs.own) fun a hs => ?_)
            obtain ⟨v_43, h_42, hm⟩ := bind_t hm
            refine Vk.step (Vk.call (some 61) 95 #[.pointer (some ⟨b_x0otape, 0, none⟩)] hs (by kernel_rfl) (by kernel_rfl) (by kernel_rfl) ?_)
            refine (tape_Tape_Draw.ok k x0.tape v_43 h_42 κ w (pt b_x0 (blk (Twire_Machine.obj x0 b_x0otape A_x0oops c_x0oops A_x0ovalues c_x0ovalues A_x0oblocks c_x0oblocks) 151) :: rowp A_x0oops c_x0oops 32 6 Tapi_Op.cells x0.ops :: rowp A_x0ovalues c_x0ovalues 23 1 (eI .u64) x0.values :: rowp A_x0oblocks c_x0oblocks 144 3 Tapi_Span.cells x0.blocks :: pt b_2 (blk (Tapi_Op.cells x1) 32) :: S) b_x0otape A_x0otapeowords c_x0otapeowords (Own.to hs.own [1, 2, 0, 3, 4, 5, 6] 7 (by kernel_rfl) (by kernel_rfl))).mono ?_
            rintro _ w ⟨Ar41o0owords_44, cr41o0owords_45, rfl, how⟩
            refine ⟨_, _, _, rfl, how, fun a hs => ?_⟩
            refine Vk.pures 5 [(8, .bool v_43.2.1), (7, .int .u64 v_43.1), (63, .bool v_43.2.1), (62, .int .u64 v_43.1), (56, .tuple #[.int .u64 v_43.1, .bool v_43.2.1])] hs (by kernel_rfl) fun a hs => ?_
            replace hs := hs.pick [0, 4, 7, 8] (L' := [(0, .pointer (some ⟨b_x0, 0, none⟩)), (4, .pointer (some ⟨b_2, 0, none⟩)), (7, .int .u64 v_43.1), (8, .bool v_43.2.1)]) (by kernel_rfl)
            refine Vk.done (by kernel_rfl) ?_
            refine hK40 _ _ ?_
            clear hK40
            refine Vk.seq fun K46 hK46 => ?_
            refine Vk.seq fun K47 hK47 => ?_
            refine Vk.region ?_
            refine Vk.pures 2 [(65, .bool (!v_43.2.1)), (64, .bool v_43.2.1)] hs (by kernel_rfl) fun a hs => ?_
            replace hs := hs.pick [0, 4, 7, 65] (L' := [(0, .pointer (some ⟨b_x0, 0, none⟩)), (4, .pointer (some ⟨b_2, 0, none⟩)), (7, .int .u64 v_43.1), (65, .bool (!v_43.2.1))]) (by kernel_rfl)
            refine Vk.done (by kernel_rfl) ?_
            refine hK47 _ _ ?_
            clear hK47
            refine Vk.condS (b := !v_43.2.1) hs (by kernel_rfl) (by kernel_rfl) (fun hb => ?_) (fun hb => ?_)
            · replace hm := bif_t hm hb
              refine Vk.seq fun K48 hK48 => ?_
              refine Vk.region ?_
              refine Vk.pures 1 [(66, .pointer (some ⟨b_x0, 0, none⟩))] hs (by kernel_rfl) fun a hs => ?_
              obtain ⟨v_51, h_50, hm⟩ := bind_t hm
              refine Vk.step (Vk.call (some 67) 94 #[.pointer (some ⟨b_x0, 0, none⟩), .int .i64 2] hs (by kernel_rfl) (by kernel_rfl) (by kernel_rfl) ?_)
              refine (wire_Machine_fail.ok k (⟨x0.n, x0.most, x0.base, x0.words, x0.draws, x0.dry, x0.openF, x0.fromF, x0.bad, v_43.2.2, x0.ops, x0.values, x0.blocks⟩ : Twire_Machine) 2 v_51 h_50 κ w (pt b_2 (blk (Tapi_Op.cells x1) 32) :: S) b_x0 b_x0otape Ar41o0owords_44 cr41o0owords_45 A_x0oops c_x0oops A_x0ovalues c_x0ovalues A_x0oblocks c_x0oblocks (Own.to hs.own [2, 0, 1, 3, 4, 5, 6] 7 (by kernel_rfl) (by kernel_rfl))).mono ?_
              rintro _ w ⟨Ar49o0otapeowords_52, cr49o0otapeowords_53, Ar49o0oops_54, cr49o0oops_55, Ar49o0ovalues_56, cr49o0ovalues_57, Ar49o0oblocks_58, cr49o0oblocks_59, rfl, how⟩
              refine ⟨_, _, _, rfl, how, fun a hs => ?_⟩
              refine Vk.pures 1 [(6, .int .i64 v_51.1)] hs (by kernel_rfl) fun a hs => ?_
              replace hs := hs.pick [6] (L' := [(6, .int .i64 v_51.1)]) (by kernel_rfl)
              refine Vk.done (by kernel_rfl) ?_
              refine hK48 _ _ ?_
              clear hK48
              refine wp_ret ?_
              exact Vk.ret1 (P := Try.prog) (fn := Try.f60) (R := wire_Machine_Do.R κ S x0 x1 x2 b_x0 b_x0otape A_x0otapeowords c_x0otapeowords A_x0oops c_x0oops A_x0ovalues c_x0ovalues A_x0oblocks c_x0oblocks r) (.int .i64 v_51.1) hs rfl (by kernel_rfl) (by obtain rfl := Option.some.inj hm; exact ⟨Ar49o0otapeowords_52, cr49o0otapeowords_53, Ar49o0oops_54, cr49o0oops_55, Ar49o0ovalues_56, cr49o0ovalues_57, Ar49o0oblocks_58, cr49o0oblocks_59, rfl, (Own.to hs.own [0, 1, 2, 3, 4, 5] 7 (by kernel_rfl) (by kernel_rfl))⟩)
            · replace hm := bif_f hm hb
              refine wp_skip ?_
              refine hK46 _ _ ?_
              clear hK46
              refine Vk.region ?_
              refine Vk.pures 2 [(2, .int .u64 v_43.1), (68, .int .u64 v_43.1)] hs (by kernel_rfl) fun a hs => ?_
              replace hs := hs.pick [0, 2, 4] (L' := [(0, .pointer (some ⟨b_x0, 0, none⟩)), (2, .int .u64 v_43.1), (4, .pointer (some ⟨b_2, 0, none⟩))]) (by kernel_rfl)
              refine Vk.done (by kernel_rfl) ?_
              exact hj37 (⟨x0.n, x0.most, x0.base, x0.words, x0.draws, x0.dry, x0.openF, x0.fromF, x0.bad, v_43.2.2, x0.ops, x0.values, x0.blocks⟩ : Twire_Machine) v_43.1 hm Ar41o0owords_44 cr41o0owords_45 _ _ (hs.go [0, 2, 4] [2, 0, 1, 3, 4, 5, 6] 7 (by kernel_rfl) (by kernel_rfl) (by kernel_rfl))
          · replace hm := bif_f hm hb
            refine wp_skip ?_
            exact hj37 x0 x2 hm A_x0otapeowords c_x0otapeowords _ _ (hs.go [0, 2, 4] [0, 1, 2, 3, 4, 5, 6] 7 (by kernel_rfl) (by kernel_rfl) (by kernel_rfl))
      obtain ⟨C_23, hC_23⟩ : ∃ X0 : List HP, X0 = (pt b_x0 (blk (Twire_Machine.obj x0 b_x0otape A_x0oops c_x0oops A_x0ovalues c_x0ovalues A_x0oblocks c_x0oblocks) 151) :: pt b_x0otape (blk (Ttape_Tape.obj x0.tape A_x0otapeowords c_x0otapeowords) 158) :: rowp A_x0otapeowords c_x0otapeowords 23 1 (eI .u64) x0.tape.words :: rowp A_x0oops c_x0oops 32 6 Tapi_Op.cells x0.ops :: rowp A_x0ovalues c_x0ovalues 23 1 (eI .u64) x0.values :: rowp A_x0oblocks c_x0oblocks 144 3 Tapi_Span.cells x0.blocks :: pt b_2 (blk (Tapi_Op.cells x1) 32) :: S) := ⟨_, rfl⟩
      refine Vk.drawnT 18 κ C_23 hs (by kernel_rfl) fun w hs => ?_
      have hcz : Own κ w (pt b_x0 (blk (Twire_Machine.obj x0 b_x0otape A_x0oops c_x0oops A_x0ovalues c_x0ovalues A_x0oblocks c_x0oblocks) 151) :: pt b_x0otape (blk (Ttape_Tape.obj x0.tape A_x0otapeowords c_x0otapeowords) 158) :: rowp A_x0otapeowords c_x0otapeowords 23 1 (eI .u64) x0.tape.words :: rowp A_x0oops c_x0oops 32 6 Tapi_Op.cells x0.ops :: rowp A_x0ovalues c_x0ovalues 23 1 (eI .u64) x0.values :: rowp A_x0oblocks c_x0oblocks 144 3 Tapi_Span.cells x0.blocks :: pt b_2 (blk (Tapi_Op.cells x1) 32) :: S) := (Own.to hs.own [0, 1, 2, 3, 4, 5, 6] 7 (by kernel_rfl) (by kernel_rfl))
      have hcl : Own κ w C_23 := by rw [hC_23]; exact hcz
      refine Vk.dPuresT [0, 1, 2] [(29, .pointer (some ⟨b_x0, 5, none⟩)), (28, .pointer (some ⟨b_x0, 0, none⟩)), (27, .pointer (some ⟨b_x0, 0, none⟩))] hs (by kernel_rfl) (by repeat' (first | exact Vk.Calm.post | refine Vk.Calm.then ?_ | refine Vk.Calm.inBlock ?_)) hcl (by kernel_rfl) (by kernel_rfl) (fuel := 15) rfl fun a hs => ?_
      refine Vk.dTakeT (i := 3) (some 30) (.bool x0.dry) hs (by kernel_rfl) (by repeat' (first | exact Vk.Calm.post | refine Vk.Calm.then ?_ | refine Vk.Calm.inBlock ?_)) hcl (by kernel_rfl) (by kernel_rfl) (op := (.load 4 (.tmp 29))) (by kernel_rfl) (by kernel_rfl) (fun w hw o ho => by rw [hC_23] at hw; exact run_load1 (b := b_x0) (off := 5) (c := C.bool x0.dry) ho (by kernel_rfl) (by kernel_rfl) (Cell.own 0 rfl (by kernel_rfl)) _ hw) fun a hs => ?_
      refine Vk.dPuresT [4, 5] [(32, .bool (!x0.dry)), (31, .bool (!x0.dry))] hs (by kernel_rfl) (by repeat' (first | exact Vk.Calm.post | refine Vk.Calm.then ?_ | refine Vk.Calm.inBlock ?_)) hcl (by kernel_rfl) (by kernel_rfl) (fuel := 12) rfl fun a hs => ?_
      rcases Bool.eq_false_or_eq_true (!x0.dry) with hb | hb
      · replace hm := bif_t hm hb
        replace hs := hs.known (t := 32) hb (by kernel_rfl)
        refine Vk.dPuresT [6, 7, 8, 11, 12, 13] [(40, .pointer (some ⟨b_x0, 1, none⟩)), (39, .pointer (some ⟨b_x0, 0, none⟩)), (38, .pointer (some ⟨b_x0, 0, none⟩)), (35, .pointer (some ⟨b_x0, 10, none⟩)), (34, .pointer (some ⟨b_x0, 0, none⟩)), (33, .pointer (some ⟨b_x0, 0, none⟩))] hs (by kernel_rfl) (by repeat' (first | exact Vk.Calm.post | refine Vk.Calm.then ?_ | refine Vk.Calm.inBlock ?_)) hcl (by kernel_rfl) (by kernel_rfl) (fuel := 6) rfl fun a hs => ?_
        refine Vk.dTakeT (i := 9) (some 36) (.slice A_x0oops x0.ops.length c_x0oops) hs (by kernel_rfl) (by repeat' (first | exact Vk.Calm.post | refine Vk.Calm.then ?_ | refine Vk.Calm.inBlock ?_)) hcl (by kernel_rfl) (by kernel_rfl) (op := (.load 69 (.tmp 35))) (by kernel_rfl) (by kernel_rfl) (fun w hw o ho => by rw [hC_23] at hw; exact run_load1 (b := b_x0) (off := 10) (c := C.slc A_x0oops x0.ops.length c_x0oops) ho (by kernel_rfl) (by kernel_rfl) (Cell.own 0 rfl (by kernel_rfl)) _ hw) fun a hs => ?_
        refine Vk.dPuresT [10] [(37, .int .i64 ((x0.ops.length : Nat) : Int))] hs (by kernel_rfl) (by repeat' (first | exact Vk.Calm.post | refine Vk.Calm.then ?_ | refine Vk.Calm.inBlock ?_)) hcl (by kernel_rfl) (by kernel_rfl) (fuel := 4) rfl fun a hs => ?_
        refine Vk.dTakeT (i := 14) (some 41) (.int .i64 x0.most) hs (by kernel_rfl) (by repeat' (first | exact Vk.Calm.post | refine Vk.Calm.then ?_ | refine Vk.Calm.inBlock ?_)) hcl (by kernel_rfl) (by kernel_rfl) (op := (.load 3 (.tmp 40))) (by kernel_rfl) (by kernel_rfl) (fun w hw o ho => by rw [hC_23] at hw; exact run_load1 (b := b_x0) (off := 1) (c := C.int .i64 x0.most) ho (by kernel_rfl) (by kernel_rfl) (Cell.own 0 rfl (by kernel_rfl)) _ hw) fun a hs => ?_
        refine Vk.dPuresT [15, 16, 17] [(26, .bool (decide (((x0.ops.length : Nat) : Int) ≥ x0.most))), (43, .bool (decide (((x0.ops.length : Nat) : Int) ≥ x0.most))), (42, .bool (decide (((x0.ops.length : Nat) : Int) ≥ x0.most)))] hs (by kernel_rfl) (by repeat' (first | exact Vk.Calm.post | refine Vk.Calm.then ?_ | refine Vk.Calm.inBlock ?_)) hcl (by kernel_rfl) (by kernel_rfl) (fuel := 0) rfl fun a hs => ?_
        replace hs := hs.pick [0, 2, 4, 26] (L' := [(0, .pointer (some ⟨b_x0, 0, none⟩)), (2, .int .u64 x2), (4, .pointer (some ⟨b_2, 0, none⟩)), (26, .bool (decide (((x0.ops.length : Nat) : Int) ≥ x0.most)))]) (by kernel_rfl)
        refine Vk.dDone (by kernel_rfl) ?_
        exact hj22 (decide (((x0.ops.length : Nat) : Int) ≥ x0.most)) hm _ _ (hs.go [0, 2, 4, 26] [0, 1, 2, 3, 4, 5, 6] 7 (by kernel_rfl) (by kernel_rfl) (by kernel_rfl))
      · replace hm := bif_f hm hb
        replace hs := hs.known (t := 32) hb (by kernel_rfl)
        refine Vk.dPuresT [6, 7, 8, 9, 10, 11, 12, 13, 14, 15, 16, 17] [(26, .bool false), (43, .bool false), (42, undef), (41, undef), (40, undef), (39, undef), (38, undef), (37, undef), (36, undef), (35, undef), (34, undef), (33, undef)] hs (by kernel_rfl) (by repeat' (first | exact Vk.Calm.post | refine Vk.Calm.then ?_ | refine Vk.Calm.inBlock ?_)) hcl (by kernel_rfl) (by kernel_rfl) (fuel := 0) rfl fun a hs => ?_
        replace hs := hs.pick [0, 2, 4, 26] (L' := [(0, .pointer (some ⟨b_x0, 0, none⟩)), (2, .int .u64 x2), (4, .pointer (some ⟨b_2, 0, none⟩)), (26, .bool false)]) (by kernel_rfl)
        refine Vk.dDone (by kernel_rfl) ?_
        exact hj22 false hm _ _ (hs.go [0, 2, 4, 26] [0, 1, 2, 3, 4, 5, 6] 7 (by kernel_rfl) (by kernel_rfl) (by kernel_rfl))


abbrev wire_Machine_Key.R (κ : Ctx) (S : List HP) (x0 : Twire_Machine) (x1 : Int) (x2 : Int) (x3 : Int) (b_x0 : Nat) (b_x0otape : Nat) (A_x0otapeowords : Option Addr) (c_x0otapeowords : Nat) (A_x0oops : Option Addr) (c_x0oops : Nat) (A_x0ovalues : Option Addr) (c_x0ovalues : Nat) (A_x0oblocks : Option Addr) (c_x0oblocks : Nat) (r : (Int × Twire_Machine)) : Ending → World → Prop := fun e w' => ∃ (A_y0otapeowords : Option Addr), ∃ (c_y0otapeowords : Nat), ∃ (A_y0oops : Option Addr), ∃ (c_y0oops : Nat), ∃ (A_y0ovalues : Option Addr), ∃ (c_y0ovalues : Nat), ∃ (A_y0oblocks : Option Addr), ∃ (c_y0oblocks : Nat), e = .returned (.int .i64 r.1) ∧ Own κ w' (pt b_x0 (blk (Twire_Machine.obj r.2 b_x0otape A_y0oops c_y0oops A_y0ovalues c_y0ovalues A_y0oblocks c_y0oblocks) 151) :: pt b_x0otape (blk (Ttape_Tape.obj r.2.tape A_y0otapeowords c_y0otapeowords) 158) :: rowp A_y0otapeowords c_y0otapeowords 23 1 (eI .u64) r.2.tape.words :: rowp A_y0oops c_y0oops 32 6 Tapi_Op.cells r.2.ops :: rowp A_y0ovalues c_y0ovalues 23 1 (eI .u64) r.2.values :: rowp A_y0oblocks c_y0oblocks 144 3 Tapi_Span.cells r.2.blocks :: S)
def wire_Machine_Key.m (k : Nat) (x0 : Twire_Machine) (x1 : Int) (x2 : Int) (x3 : Int) : Option (Int × Twire_Machine) := (wire_Machine_next.m k x0).bind fun v_5 => (wire_Machine_Do.m k x0 (⟨2, 0, x2, x3, (-1), v_5⟩ : Tapi_Op) x1).bind fun v_8 => some (v_8.1, v_8.2)

set_option maxRecDepth 100000 in
set_option maxHeartbeats 4000000 in
theorem wire_Machine_Key.ok (k : Nat) (x0 : Twire_Machine) (x1 : Int) (x2 : Int) (x3 : Int) (r : (Int × Twire_Machine)) (hm : wire_Machine_Key.m k x0 x1 x2 x3 = some r) (κ : Ctx) (w : World) (S : List HP) (b_x0 : Nat) (b_x0otape : Nat) (A_x0otapeowords : Option Addr) (c_x0otapeowords : Nat) (A_x0oops : Option Addr) (c_x0oops : Nat) (A_x0ovalues : Option Addr) (c_x0ovalues : Nat) (A_x0oblocks : Option Addr) (c_x0oblocks : Nat) (ho : Own κ w (pt b_x0 (blk (Twire_Machine.obj x0 b_x0otape A_x0oops c_x0oops A_x0ovalues c_x0ovalues A_x0oblocks c_x0oblocks) 151) :: pt b_x0otape (blk (Ttape_Tape.obj x0.tape A_x0otapeowords c_x0otapeowords) 158) :: rowp A_x0otapeowords c_x0otapeowords 23 1 (eI .u64) x0.tape.words :: rowp A_x0oops c_x0oops 32 6 Tapi_Op.cells x0.ops :: rowp A_x0ovalues c_x0ovalues 23 1 (eI .u64) x0.values :: rowp A_x0oblocks c_x0oblocks 144 3 Tapi_Span.cells x0.blocks :: S)) :
    Calls Try.prog 59 #[.pointer (some ⟨b_x0, 0, none⟩), .int .u64 x1, .int .i64 x2, .int .i64 x3] w (wire_Machine_Key.R κ S x0 x1 x2 x3 b_x0 b_x0otape A_x0otapeowords c_x0otapeowords A_x0oops c_x0oops A_x0ovalues c_x0ovalues A_x0oblocks c_x0oblocks r) := by
  unfold wire_Machine_Key.m at hm
  refine Vk.enter [(0, .pointer (some ⟨b_x0, 0, none⟩)), (1, .int .u64 x1), (2, .int .i64 x2), (3, .int .i64 x3)] Try.func59 rfl Try.ntmps59 (by kernel_rfl) (Nat.le_of_ble_eq_true (by kernel_rfl)) ho fun a hs => ?_
  refine Vk.seq fun K1 hK1 => ?_
  refine Vk.region ?_
  refine Vk.pures 1 [(8, .int .i64 0)] hs (by kernel_rfl) fun a hs => ?_
  replace hs := hs.pick [0, 1, 2, 3] (L' := [(0, .pointer (some ⟨b_x0, 0, none⟩)), (1, .int .u64 x1), (2, .int .i64 x2), (3, .int .i64 x3)]) (by kernel_rfl)
  refine Vk.done (by kernel_rfl) ?_
  refine hK1 _ _ ?_
  clear hK1
  refine Vk.seq fun K2 hK2 => ?_
  refine Vk.region ?_
  refine Vk.pures 4 [(12, .pointer (some ⟨b_x0, 0, none⟩)), (11, .int .i64 x3), (10, .int .i64 x2), (9, .pointer (some ⟨b_x0, 0, none⟩))] hs (by kernel_rfl) fun a hs => ?_
  obtain ⟨v_5, h_4, hm⟩ := bind_t hm
  refine Vk.step (Vk.call (some 13) 92 #[.pointer (some ⟨b_x0, 0, none⟩)] hs (by kernel_rfl) (by kernel_rfl) (by kernel_rfl) ?_)
  refine (wire_Machine_next.ok k x0 v_5 h_4 κ w (S) b_x0 b_x0otape A_x0otapeowords c_x0otapeowords A_x0oops c_x0oops A_x0ovalues c_x0ovalues A_x0oblocks c_x0oblocks (Own.to hs.own [0, 1, 2, 3, 4, 5] 6 (by kernel_rfl) (by kernel_rfl))).mono ?_
  rintro _ w ⟨rfl, how⟩
  refine ⟨_, _, _, rfl, how, fun a hs => ?_⟩
  refine Vk.pures 2 [(15, .int .u64 x1), (14, .agg (vals [C.int .i64 2, C.int .i64 0, C.int .i64 x2, C.int .i64 x3, C.int .i64 (-1), C.int .u64 v_5]))] hs (by kernel_rfl) fun a hs => ?_
  obtain ⟨v_8, h_7, hm⟩ := bind_t hm
  refine Vk.step (Vk.call (some 16) 60 #[.pointer (some ⟨b_x0, 0, none⟩), .agg (vals [C.int .i64 2, C.int .i64 0, C.int .i64 x2, C.int .i64 x3, C.int .i64 (-1), C.int .u64 v_5]), .int .u64 x1] hs (by kernel_rfl) (by kernel_rfl) (by kernel_rfl) ?_)
  refine (wire_Machine_Do.ok k x0 (⟨2, 0, x2, x3, (-1), v_5⟩ : Tapi_Op) x1 v_8 h_7 κ w (S) b_x0 b_x0otape A_x0otapeowords c_x0otapeowords A_x0oops c_x0oops A_x0ovalues c_x0ovalues A_x0oblocks c_x0oblocks (Own.to hs.own [0, 1, 2, 3, 4, 5] 6 (by kernel_rfl) (by kernel_rfl))).mono ?_
  rintro _ w ⟨Ar6o0otapeowords_9, cr6o0otapeowords_10, Ar6o0oops_11, cr6o0oops_12, Ar6o0ovalues_13, cr6o0ovalues_14, Ar6o0oblocks_15, cr6o0oblocks_16, rfl, how⟩
  refine ⟨_, _, _, rfl, how, fun a hs => ?_⟩
  refine Vk.pures 1 [(8, .int .i64 v_8.1)] hs (by kernel_rfl) fun a hs => ?_
  replace hs := hs.pick [8] (L' := [(8, .int .i64 v_8.1)]) (by kernel_rfl)
  refine Vk.done (by kernel_rfl) ?_
  refine hK2 _ _ ?_
  clear hK2
  refine wp_ret ?_
  exact Vk.ret1 (P := Try.prog) (fn := Try.f59) (R := wire_Machine_Key.R κ S x0 x1 x2 x3 b_x0 b_x0otape A_x0otapeowords c_x0otapeowords A_x0oops c_x0oops A_x0ovalues c_x0ovalues A_x0oblocks c_x0oblocks r) (.int .i64 v_8.1) hs rfl (by kernel_rfl) (by obtain rfl := Option.some.inj hm; exact ⟨Ar6o0otapeowords_9, cr6o0otapeowords_10, Ar6o0oops_11, cr6o0oops_12, Ar6o0ovalues_13, cr6o0ovalues_14, Ar6o0oblocks_15, cr6o0oblocks_16, rfl, (Own.to hs.own [0, 1, 2, 3, 4, 5] 6 (by kernel_rfl) (by kernel_rfl))⟩)


abbrev wire_Machine_Begin.R (κ : Ctx) (S : List HP) (x0 : Twire_Machine) (x1 : Int) (b_x0 : Nat) (b_x0otape : Nat) (A_x0otapeowords : Option Addr) (c_x0otapeowords : Nat) (A_x0oops : Option Addr) (c_x0oops : Nat) (A_x0ovalues : Option Addr) (c_x0ovalues : Nat) (A_x0oblocks : Option Addr) (c_x0oblocks : Nat) (r : Twire_Machine) : Ending → World → Prop := fun e w' => ∃ (A_y0otapeowords : Option Addr), ∃ (c_y0otapeowords : Nat), ∃ (A_y0oops : Option Addr), ∃ (c_y0oops : Nat), ∃ (A_y0ovalues : Option Addr), ∃ (c_y0ovalues : Nat), ∃ (A_y0oblocks : Option Addr), ∃ (c_y0oblocks : Nat), e = .returned (.tuple #[]) ∧ Own κ w' (pt b_x0 (blk (Twire_Machine.obj r b_x0otape A_y0oops c_y0oops A_y0ovalues c_y0ovalues A_y0oblocks c_y0oblocks) 151) :: pt b_x0otape (blk (Ttape_Tape.obj r.tape A_y0otapeowords c_y0otapeowords) 158) :: rowp A_y0otapeowords c_y0otapeowords 23 1 (eI .u64) r.tape.words :: rowp A_y0oops c_y0oops 32 6 Tapi_Op.cells r.ops :: rowp A_y0ovalues c_y0ovalues 23 1 (eI .u64) r.values :: rowp A_y0oblocks c_y0oblocks 144 3 Tapi_Span.cells r.blocks :: S)
def wire_Machine_Begin.m (k : Nat) (x0 : Twire_Machine) (x1 : Int) : Option Twire_Machine := (bif x0.bad != 0 then some x0 else (bif ((x0.openF != 0) || (decide (x1 < 1))) || (decide (x1 > 3)) then (wire_Machine_fail.m k x0 1).bind fun v_9 => some v_9.2 else (wire_Machine_Len.m k x0).bind fun v_20 => some (⟨x0.n, x0.most, x0.base, x0.words, x0.draws, x0.dry, x1, v_20, x0.bad, x0.tape, x0.ops, x0.values, x0.blocks⟩ : Twire_Machine)))

set_option maxRecDepth 100000 in
set_option maxHeartbeats 4000000 in
theorem wire_Machine_Begin.ok (k : Nat) (x0 : Twire_Machine) (x1 : Int) (r : Twire_Machine) (hm : wire_Machine_Begin.m k x0 x1 = some r) (κ : Ctx) (w : World) (S : List HP) (b_x0 : Nat) (b_x0otape : Nat) (A_x0otapeowords : Option Addr) (c_x0otapeowords : Nat) (A_x0oops : Option Addr) (c_x0oops : Nat) (A_x0ovalues : Option Addr) (c_x0ovalues : Nat) (A_x0oblocks : Option Addr) (c_x0oblocks : Nat) (ho : Own κ w (pt b_x0 (blk (Twire_Machine.obj x0 b_x0otape A_x0oops c_x0oops A_x0ovalues c_x0ovalues A_x0oblocks c_x0oblocks) 151) :: pt b_x0otape (blk (Ttape_Tape.obj x0.tape A_x0otapeowords c_x0otapeowords) 158) :: rowp A_x0otapeowords c_x0otapeowords 23 1 (eI .u64) x0.tape.words :: rowp A_x0oops c_x0oops 32 6 Tapi_Op.cells x0.ops :: rowp A_x0ovalues c_x0ovalues 23 1 (eI .u64) x0.values :: rowp A_x0oblocks c_x0oblocks 144 3 Tapi_Span.cells x0.blocks :: S)) :
    Calls Try.prog 61 #[.pointer (some ⟨b_x0, 0, none⟩), .int .i64 x1] w (wire_Machine_Begin.R κ S x0 x1 b_x0 b_x0otape A_x0otapeowords c_x0otapeowords A_x0oops c_x0oops A_x0ovalues c_x0ovalues A_x0oblocks c_x0oblocks r) := by
  unfold wire_Machine_Begin.m at hm
  refine Vk.enter [(0, .pointer (some ⟨b_x0, 0, none⟩)), (1, .int .i64 x1)] Try.func61 rfl Try.ntmps61 (by kernel_rfl) (Nat.le_of_ble_eq_true (by kernel_rfl)) ho fun a hs => ?_
  refine Vk.seq fun K1 hK1 => ?_
  refine wp_block ?_
  refine Vk.seq fun K2 hK2 => ?_
  refine Vk.region ?_
  refine Vk.pures 6 [(10, .pointer (some ⟨b_x0, 8, none⟩)), (9, .pointer (some ⟨b_x0, 0, none⟩)), (8, .pointer (some ⟨b_x0, 0, none⟩)), (7, .bool false), (6, .bool false), (5, .pointer (some ⟨b_x0, 0, none⟩))] hs (by kernel_rfl) fun a hs => ?_
  refine Vk.step (Vk.value (some 11) (.int .i64 x0.bad) hs (by kernel_rfl) (op := (.load 43 (.tmp 10))) (by kernel_rfl) (fun o ho => run_load1 (b := b_x0) (off := 8) (c := C.int .i64 x0.bad) ho (by kernel_rfl) (by kernel_rfl) (Cell.own 0 rfl (by kernel_rfl)) _ hs.own) fun a hs => ?_)
  refine Vk.pures 3 [(4, .bool (x0.bad != 0)), (13, .bool (x0.bad != 0)), (12, .bool (x0.bad != 0))] hs (by kernel_rfl) fun a hs => ?_
  replace hs := hs.pick [0, 1, 4] (L' := [(0, .pointer (some ⟨b_x0, 0, none⟩)), (1, .int .i64 x1), (4, .bool (x0.bad != 0))]) (by kernel_rfl)
  refine Vk.done (by kernel_rfl) ?_
  refine hK2 _ _ ?_
  clear hK2
  refine Vk.condS (b := x0.bad != 0) hs (by kernel_rfl) (by kernel_rfl) (fun hb => ?_) (fun hb => ?_)
  · replace hm := bif_t hm hb
    refine wp_ret ?_
    exact Vk.ret0 (P := Try.prog) (fn := Try.f61) (R := wire_Machine_Begin.R κ S x0 x1 b_x0 b_x0otape A_x0otapeowords c_x0otapeowords A_x0oops c_x0oops A_x0ovalues c_x0ovalues A_x0oblocks c_x0oblocks r) hs rfl (by obtain rfl := Option.some.inj hm; exact ⟨A_x0otapeowords, c_x0otapeowords, A_x0oops, c_x0oops, A_x0ovalues, c_x0ovalues, A_x0oblocks, c_x0oblocks, rfl, (Own.to hs.own [0, 1, 2, 3, 4, 5] 6 (by kernel_rfl) (by kernel_rfl))⟩)
  · replace hm := bif_f hm hb
    refine Vk.seq fun K3 hK3 => ?_
    refine Vk.region ?_
    refine Vk.pures 3 [(17, .pointer (some ⟨b_x0, 6, none⟩)), (16, .pointer (some ⟨b_x0, 0, none⟩)), (15, .pointer (some ⟨b_x0, 0, none⟩))] hs (by kernel_rfl) fun a hs => ?_
    refine Vk.step (Vk.value (some 18) (.int .i64 x0.openF) hs (by kernel_rfl) (op := (.load 3 (.tmp 17))) (by kernel_rfl) (fun o ho => run_load1 (b := b_x0) (off := 6) (c := C.int .i64 x0.openF) ho (by kernel_rfl) (by kernel_rfl) (Cell.own 0 rfl (by kernel_rfl)) _ hs.own) fun a hs => ?_)
    refine Vk.pures 2 [(20, .bool (x0.openF != 0)), (19, .bool (x0.openF != 0))] hs (by kernel_rfl) fun a hs => ?_
    suffices hj_4 : ∀ a, St 39 a w κ [(0, .pointer (some ⟨b_x0, 0, none⟩)), (1, .int .i64 x1), (4, .bool (x0.bad != 0)), (15, .pointer (some ⟨b_x0, 0, none⟩)), (16, .pointer (some ⟨b_x0, 0, none⟩)), (17, .pointer (some ⟨b_x0, 6, none⟩)), (18, .int .i64 x0.openF), (19, .bool (x0.openF != 0)), (20, .bool (x0.openF != 0)), (23, .bool ((x0.openF != 0) || (decide (x1 < 1))))] (pt b_x0 (blk (Twire_Machine.obj x0 b_x0otape A_x0oops c_x0oops A_x0ovalues c_x0ovalues A_x0oblocks c_x0oblocks) 151) :: pt b_x0otape (blk (Ttape_Tape.obj x0.tape A_x0otapeowords c_x0otapeowords) 158) :: rowp A_x0otapeowords c_x0otapeowords 23 1 (eI .u64) x0.tape.words :: rowp A_x0oops c_x0oops 32 6 Tapi_Op.cells x0.ops :: rowp A_x0ovalues c_x0ovalues 23 1 (eI .u64) x0.values :: rowp A_x0oblocks c_x0oblocks 144 3 Tapi_Span.cells x0.blocks :: S) → wpFrom Try.prog _ _ 9 a w by
      rcases Bool.eq_false_or_eq_true (x0.openF != 0) with hb | hb
      · replace hs := hs.known (t := 20) hb (by kernel_rfl)
        refine Vk.pures 3 [(23, .bool true), (22, undef), (21, undef)] hs (by kernel_rfl) fun a hs => ?_
        have hq := hs.pick [0, 1, 4, 15, 16, 17, 18, 19, 20, 23] (L' := [(0, .pointer (some ⟨b_x0, 0, none⟩)), (1, .int .i64 x1), (4, .bool (x0.bad != 0)), (15, .pointer (some ⟨b_x0, 0, none⟩)), (16, .pointer (some ⟨b_x0, 0, none⟩)), (17, .pointer (some ⟨b_x0, 6, none⟩)), (18, .int .i64 x0.openF), (19, .bool (x0.openF != 0)), (20, .bool true), (23, .bool true)]) (by kernel_rfl)
        exact hj_4 _ (hq.conv (by first | (rw [hb] <;> rfl) | rfl))
      · replace hs := hs.known (t := 20) hb (by kernel_rfl)
        refine Vk.pures 3 [(23, .bool (decide (x1 < 1))), (22, .bool (decide (x1 < 1))), (21, .int .i64 x1)] hs (by kernel_rfl) fun a hs => ?_
        have hq := hs.pick [0, 1, 4, 15, 16, 17, 18, 19, 20, 23] (L' := [(0, .pointer (some ⟨b_x0, 0, none⟩)), (1, .int .i64 x1), (4, .bool (x0.bad != 0)), (15, .pointer (some ⟨b_x0, 0, none⟩)), (16, .pointer (some ⟨b_x0, 0, none⟩)), (17, .pointer (some ⟨b_x0, 6, none⟩)), (18, .int .i64 x0.openF), (19, .bool (x0.openF != 0)), (20, .bool false), (23, .bool (decide (x1 < 1)))]) (by kernel_rfl)
        exact hj_4 _ (hq.conv (by first | (rw [hb] <;> rfl) | rfl))
    intro a hs
    refine Vk.pures 1 [(24, .bool ((x0.openF != 0) || (decide (x1 < 1))))] hs (by kernel_rfl) fun a hs => ?_
    suffices hj_5 : ∀ a, St 39 a w κ [(0, .pointer (some ⟨b_x0, 0, none⟩)), (1, .int .i64 x1), (4, .bool (x0.bad != 0)), (15, .pointer (some ⟨b_x0, 0, none⟩)), (16, .pointer (some ⟨b_x0, 0, none⟩)), (17, .pointer (some ⟨b_x0, 6, none⟩)), (18, .int .i64 x0.openF), (19, .bool (x0.openF != 0)), (20, .bool (x0.openF != 0)), (23, .bool ((x0.openF != 0) || (decide (x1 < 1)))), (24, .bool ((x0.openF != 0) || (decide (x1 < 1)))), (27, .bool (((x0.openF != 0) || (decide (x1 < 1))) || (decide (x1 > 3))))] (pt b_x0 (blk (Twire_Machine.obj x0 b_x0otape A_x0oops c_x0oops A_x0ovalues c_x0ovalues A_x0oblocks c_x0oblocks) 151) :: pt b_x0otape (blk (Ttape_Tape.obj x0.tape A_x0otapeowords c_x0otapeowords) 158) :: rowp A_x0otapeowords c_x0otapeowords 23 1 (eI .u64) x0.tape.words :: rowp A_x0oops c_x0oops 32 6 Tapi_Op.cells x0.ops :: rowp A_x0ovalues c_x0ovalues 23 1 (eI .u64) x0.values :: rowp A_x0oblocks c_x0oblocks 144 3 Tapi_Span.cells x0.blocks :: S) → wpFrom Try.prog _ _ 13 a w by
      rcases Bool.eq_false_or_eq_true ((x0.openF != 0) || (decide (x1 < 1))) with hb | hb
      · replace hs := hs.known (t := 24) hb (by kernel_rfl)
        refine Vk.pures 3 [(27, .bool true), (26, undef), (25, undef)] hs (by kernel_rfl) fun a hs => ?_
        have hq := hs.pick [0, 1, 4, 15, 16, 17, 18, 19, 20, 23, 24, 27] (L' := [(0, .pointer (some ⟨b_x0, 0, none⟩)), (1, .int .i64 x1), (4, .bool (x0.bad != 0)), (15, .pointer (some ⟨b_x0, 0, none⟩)), (16, .pointer (some ⟨b_x0, 0, none⟩)), (17, .pointer (some ⟨b_x0, 6, none⟩)), (18, .int .i64 x0.openF), (19, .bool (x0.openF != 0)), (20, .bool (x0.openF != 0)), (23, .bool ((x0.openF != 0) || (decide (x1 < 1)))), (24, .bool true), (27, .bool true)]) (by kernel_rfl)
        exact hj_5 _ (hq.conv (by first | (rw [hb] <;> rfl) | rfl))
      · replace hs := hs.known (t := 24) hb (by kernel_rfl)
        refine Vk.pures 3 [(27, .bool (decide (x1 > 3))), (26, .bool (decide (x1 > 3))), (25, .int .i64 x1)] hs (by kernel_rfl) fun a hs => ?_
        have hq := hs.pick [0, 1, 4, 15, 16, 17, 18, 19, 20, 23, 24, 27] (L' := [(0, .pointer (some ⟨b_x0, 0, none⟩)), (1, .int .i64 x1), (4, .bool (x0.bad != 0)), (15, .pointer (some ⟨b_x0, 0, none⟩)), (16, .pointer (some ⟨b_x0, 0, none⟩)), (17, .pointer (some ⟨b_x0, 6, none⟩)), (18, .int .i64 x0.openF), (19, .bool (x0.openF != 0)), (20, .bool (x0.openF != 0)), (23, .bool ((x0.openF != 0) || (decide (x1 < 1)))), (24, .bool false), (27, .bool (decide (x1 > 3)))]) (by kernel_rfl)
        exact hj_5 _ (hq.conv (by first | (rw [hb] <;> rfl) | rfl))
    intro a hs
    refine Vk.pures 1 [(14, .bool (((x0.openF != 0) || (decide (x1 < 1))) || (decide (x1 > 3))))] hs (by kernel_rfl) fun a hs => ?_
    replace hs := hs.pick [0, 1, 14] (L' := [(0, .pointer (some ⟨b_x0, 0, none⟩)), (1, .int .i64 x1), (14, .bool (((x0.openF != 0) || (decide (x1 < 1))) || (decide (x1 > 3))))]) (by kernel_rfl)
    refine Vk.done (by kernel_rfl) ?_
    refine hK3 _ _ ?_
    clear hK3
    refine Vk.condS (b := ((x0.openF != 0) || (decide (x1 < 1))) || (decide (x1 > 3))) hs (by kernel_rfl) (by kernel_rfl) (fun hb => ?_) (fun hb => ?_)
    · replace hm := bif_t hm hb
      refine Vk.seq fun K6 hK6 => ?_
      refine Vk.region ?_
      refine Vk.pures 1 [(28, .pointer (some ⟨b_x0, 0, none⟩))] hs (by kernel_rfl) fun a hs => ?_
      obtain ⟨v_9, h_8, hm⟩ := bind_t hm
      refine Vk.step (Vk.call (some 29) 94 #[.pointer (some ⟨b_x0, 0, none⟩), .int .i64 1] hs (by kernel_rfl) (by kernel_rfl) (by kernel_rfl) ?_)
      refine (wire_Machine_fail.ok k x0 1 v_9 h_8 κ w (S) b_x0 b_x0otape A_x0otapeowords c_x0otapeowords A_x0oops c_x0oops A_x0ovalues c_x0ovalues A_x0oblocks c_x0oblocks (Own.to hs.own [0, 1, 2, 3, 4, 5] 6 (by kernel_rfl) (by kernel_rfl))).mono ?_
      rintro _ w ⟨Ar7o0otapeowords_10, cr7o0otapeowords_11, Ar7o0oops_12, cr7o0oops_13, Ar7o0ovalues_14, cr7o0ovalues_15, Ar7o0oblocks_16, cr7o0oblocks_17, rfl, how⟩
      refine ⟨_, _, _, rfl, how, fun a hs => ?_⟩
      replace hs := hs.pick [] (L' := []) (by kernel_rfl)
      refine Vk.done (by kernel_rfl) ?_
      refine hK6 _ _ ?_
      clear hK6
      refine wp_ret ?_
      exact Vk.ret0 (P := Try.prog) (fn := Try.f61) (R := wire_Machine_Begin.R κ S x0 x1 b_x0 b_x0otape A_x0otapeowords c_x0otapeowords A_x0oops c_x0oops A_x0ovalues c_x0ovalues A_x0oblocks c_x0oblocks r) hs rfl (by obtain rfl := Option.some.inj hm; exact ⟨Ar7o0otapeowords_10, cr7o0otapeowords_11, Ar7o0oops_12, cr7o0oops_13, Ar7o0ovalues_14, cr7o0ovalues_15, Ar7o0oblocks_16, cr7o0oblocks_17, rfl, (Own.to hs.own [0, 1, 2, 3, 4, 5] 6 (by kernel_rfl) (by kernel_rfl))⟩)
    · replace hm := bif_f hm hb
      refine wp_skip ?_
      refine hK1 _ _ ?_
      clear hK1
      refine Vk.region ?_
      refine Vk.pures 4 [(33, .pointer (some ⟨b_x0, 0, none⟩)), (32, .int .i64 x1), (31, .pointer (some ⟨b_x0, 0, none⟩)), (30, .pointer (some ⟨b_x0, 0, none⟩))] hs (by kernel_rfl) fun a hs => ?_
      obtain ⟨v_20, h_19, hm⟩ := bind_t hm
      refine Vk.step (Vk.call (some 34) 58 #[.pointer (some ⟨b_x0, 0, none⟩)] hs (by kernel_rfl) (by kernel_rfl) (by kernel_rfl) ?_)
      refine (wire_Machine_Len.ok k x0 v_20 h_19 κ w (S) b_x0 b_x0otape A_x0otapeowords c_x0otapeowords A_x0oops c_x0oops A_x0ovalues c_x0ovalues A_x0oblocks c_x0oblocks (Own.to hs.own [0, 1, 2, 3, 4, 5] 6 (by kernel_rfl) (by kernel_rfl))).mono ?_
      rintro _ w ⟨rfl, how⟩
      refine ⟨_, _, _, rfl, how, fun a hs => ?_⟩
      refine Vk.pures 2 [(36, .pointer (some ⟨b_x0, 6, none⟩)), (35, .pointer (some ⟨b_x0, 0, none⟩))] hs (by kernel_rfl) fun a hs => ?_
      refine Vk.step (Vk.store1 (b := b_x0) (ty := 3) (x := (.tmp 36)) (y := (.tmp 32)) (off := 6) (C.int .i64 x1) 0 hs (by kernel_rfl) (by kernel_rfl) (by kernel_rfl) (by kernel_rfl) (by kernel_rfl) (by kernel_rfl) rfl (Nat.le_of_ble_eq_true (by kernel_rfl)) fun a w hs => ?_)
      refine Vk.pures 2 [(38, .pointer (some ⟨b_x0, 7, none⟩)), (37, .pointer (some ⟨b_x0, 0, none⟩))] hs (by kernel_rfl) fun a hs => ?_
      refine Vk.step (Vk.store1 (b := b_x0) (ty := 3) (x := (.tmp 38)) (y := (.tmp 34)) (off := 7) (C.int .i64 v_20) 0 hs (by kernel_rfl) (by kernel_rfl) (by kernel_rfl) (by kernel_rfl) (by kernel_rfl) (by kernel_rfl) rfl (Nat.le_of_ble_eq_true (by kernel_rfl)) fun a w hs => ?_)
      replace hs := hs.pick [] (L' := []) (by kernel_rfl)
      refine Vk.done (by kernel_rfl) ?_
      exact Vk.end0 (P := Try.prog) (fn := Try.f61) (R := wire_Machine_Begin.R κ S x0 x1 b_x0 b_x0otape A_x0otapeowords c_x0otapeowords A_x0oops c_x0oops A_x0ovalues c_x0ovalues A_x0oblocks c_x0oblocks r) hs rfl (by obtain rfl := Option.some.inj hm; exact ⟨A_x0otapeowords, c_x0otapeowords, A_x0oops, c_x0oops, A_x0ovalues, c_x0ovalues, A_x0oblocks, c_x0oblocks, rfl, (Own.to hs.own [0, 1, 2, 3, 4, 5] 6 (by kernel_rfl) (by kernel_rfl))⟩)


abbrev wire_Machine_Err.R (κ : Ctx) (S : List HP) (x0 : Twire_Machine) (b_x0 : Nat) (b_x0otape : Nat) (A_x0otapeowords : Option Addr) (c_x0otapeowords : Nat) (A_x0oops : Option Addr) (c_x0oops : Nat) (A_x0ovalues : Option Addr) (c_x0ovalues : Nat) (A_x0oblocks : Option Addr) (c_x0oblocks : Nat) (r : Int) : Ending → World → Prop := fun e w' => e = .returned (.int .i64 r) ∧ Own κ w' (pt b_x0 (blk (Twire_Machine.obj x0 b_x0otape A_x0oops c_x0oops A_x0ovalues c_x0ovalues A_x0oblocks c_x0oblocks) 151) :: pt b_x0otape (blk (Ttape_Tape.obj x0.tape A_x0otapeowords c_x0otapeowords) 158) :: rowp A_x0otapeowords c_x0otapeowords 23 1 (eI .u64) x0.tape.words :: rowp A_x0oops c_x0oops 32 6 Tapi_Op.cells x0.ops :: rowp A_x0ovalues c_x0ovalues 23 1 (eI .u64) x0.values :: rowp A_x0oblocks c_x0oblocks 144 3 Tapi_Span.cells x0.blocks :: S)
def wire_Machine_Err.m (k : Nat) (x0 : Twire_Machine) : Option Int := some x0.bad

set_option maxRecDepth 100000 in
set_option maxHeartbeats 4000000 in
theorem wire_Machine_Err.ok (k : Nat) (x0 : Twire_Machine) (r : Int) (hm : wire_Machine_Err.m k x0 = some r) (κ : Ctx) (w : World) (S : List HP) (b_x0 : Nat) (b_x0otape : Nat) (A_x0otapeowords : Option Addr) (c_x0otapeowords : Nat) (A_x0oops : Option Addr) (c_x0oops : Nat) (A_x0ovalues : Option Addr) (c_x0ovalues : Nat) (A_x0oblocks : Option Addr) (c_x0oblocks : Nat) (ho : Own κ w (pt b_x0 (blk (Twire_Machine.obj x0 b_x0otape A_x0oops c_x0oops A_x0ovalues c_x0ovalues A_x0oblocks c_x0oblocks) 151) :: pt b_x0otape (blk (Ttape_Tape.obj x0.tape A_x0otapeowords c_x0otapeowords) 158) :: rowp A_x0otapeowords c_x0otapeowords 23 1 (eI .u64) x0.tape.words :: rowp A_x0oops c_x0oops 32 6 Tapi_Op.cells x0.ops :: rowp A_x0ovalues c_x0ovalues 23 1 (eI .u64) x0.values :: rowp A_x0oblocks c_x0oblocks 144 3 Tapi_Span.cells x0.blocks :: S)) :
    Calls Try.prog 62 #[.pointer (some ⟨b_x0, 0, none⟩)] w (wire_Machine_Err.R κ S x0 b_x0 b_x0otape A_x0otapeowords c_x0otapeowords A_x0oops c_x0oops A_x0ovalues c_x0ovalues A_x0oblocks c_x0oblocks r) := by
  unfold wire_Machine_Err.m at hm
  refine Vk.enter [(0, .pointer (some ⟨b_x0, 0, none⟩))] Try.func62 rfl Try.ntmps62 (by kernel_rfl) (Nat.le_of_ble_eq_true (by kernel_rfl)) ho fun a hs => ?_
  refine Vk.seq fun K1 hK1 => ?_
  refine Vk.region ?_
  refine Vk.pures 1 [(2, .int .i64 0)] hs (by kernel_rfl) fun a hs => ?_
  replace hs := hs.pick [0] (L' := [(0, .pointer (some ⟨b_x0, 0, none⟩))]) (by kernel_rfl)
  refine Vk.done (by kernel_rfl) ?_
  refine hK1 _ _ ?_
  clear hK1
  refine Vk.seq fun K2 hK2 => ?_
  refine Vk.seq fun K3 hK3 => ?_
  refine Vk.region ?_
  refine Vk.pures 2 [(4, .bool false), (3, .pointer (some ⟨b_x0, 0, none⟩))] hs (by kernel_rfl) fun a hs => ?_
  replace hs := hs.pick [0, 4] (L' := [(0, .pointer (some ⟨b_x0, 0, none⟩)), (4, .bool false)]) (by kernel_rfl)
  refine Vk.done (by kernel_rfl) ?_
  refine hK3 _ _ ?_
  clear hK3
  refine Vk.condF hs (by kernel_rfl) (by kernel_rfl) ?_
  refine wp_skip ?_
  refine hK2 _ _ ?_
  clear hK2
  refine Vk.seq fun K4 hK4 => ?_
  refine Vk.region ?_
  refine Vk.pures 3 [(7, .pointer (some ⟨b_x0, 8, none⟩)), (6, .pointer (some ⟨b_x0, 0, none⟩)), (5, .pointer (some ⟨b_x0, 0, none⟩))] hs (by kernel_rfl) fun a hs => ?_
  refine Vk.step (Vk.value (some 8) (.int .i64 x0.bad) hs (by kernel_rfl) (op := (.load 43 (.tmp 7))) (by kernel_rfl) (fun o ho => run_load1 (b := b_x0) (off := 8) (c := C.int .i64 x0.bad) ho (by kernel_rfl) (by kernel_rfl) (Cell.own 0 rfl (by kernel_rfl)) _ hs.own) fun a hs => ?_)
  refine Vk.pures 1 [(2, .int .i64 x0.bad)] hs (by kernel_rfl) fun a hs => ?_
  replace hs := hs.pick [2] (L' := [(2, .int .i64 x0.bad)]) (by kernel_rfl)
  refine Vk.done (by kernel_rfl) ?_
  refine hK4 _ _ ?_
  clear hK4
  refine wp_ret ?_
  exact Vk.ret1 (P := Try.prog) (fn := Try.f62) (R := wire_Machine_Err.R κ S x0 b_x0 b_x0otape A_x0otapeowords c_x0otapeowords A_x0oops c_x0oops A_x0ovalues c_x0ovalues A_x0oblocks c_x0oblocks r) (.int .i64 x0.bad) hs rfl (by kernel_rfl) (by obtain rfl := Option.some.inj hm; exact ⟨rfl, (Own.to hs.own [0, 1, 2, 3, 4, 5] 6 (by kernel_rfl) (by kernel_rfl))⟩)


def wire_Machine_End.j2 (k : Nat) (p_32 : Twire_Machine) : Option (Twire_Machine) := some (⟨p_32.n, p_32.most, p_32.base, p_32.words, p_32.draws, p_32.dry, 0, p_32.fromF, p_32.bad, p_32.tape, p_32.ops, p_32.values, p_32.blocks⟩ : Twire_Machine)
def wire_Machine_End.j1 (k : Nat) (x0 : Twire_Machine) (p_22 : Bool) : Option (Twire_Machine) := (bif p_22 then (wire_Machine_Len.m k x0).bind fun v_26 => (if (x0.blocks.length + ([(⟨x0.openF, x0.fromF, v_26⟩ : Tapi_Span)] : List Tapi_Span).length) * 24 ≤ 140737488355328 then wire_Machine_End.j2 k (⟨x0.n, x0.most, x0.base, x0.words, x0.draws, x0.dry, x0.openF, x0.fromF, x0.bad, x0.tape, x0.ops, x0.values, x0.blocks ++ ([(⟨x0.openF, x0.fromF, v_26⟩ : Tapi_Span)] : List Tapi_Span)⟩ : Twire_Machine) else none) else wire_Machine_End.j2 k x0)
abbrev wire_Machine_End.R (κ : Ctx) (S : List HP) (x0 : Twire_Machine) (b_x0 : Nat) (b_x0otape : Nat) (A_x0otapeowords : Option Addr) (c_x0otapeowords : Nat) (A_x0oops : Option Addr) (c_x0oops : Nat) (A_x0ovalues : Option Addr) (c_x0ovalues : Nat) (A_x0oblocks : Option Addr) (c_x0oblocks : Nat) (r : Twire_Machine) : Ending → World → Prop := fun e w' => ∃ (A_y0otapeowords : Option Addr), ∃ (c_y0otapeowords : Nat), ∃ (A_y0oops : Option Addr), ∃ (c_y0oops : Nat), ∃ (A_y0ovalues : Option Addr), ∃ (c_y0ovalues : Nat), ∃ (A_y0oblocks : Option Addr), ∃ (c_y0oblocks : Nat), e = .returned (.tuple #[]) ∧ Own κ w' (pt b_x0 (blk (Twire_Machine.obj r b_x0otape A_y0oops c_y0oops A_y0ovalues c_y0ovalues A_y0oblocks c_y0oblocks) 151) :: pt b_x0otape (blk (Ttape_Tape.obj r.tape A_y0otapeowords c_y0otapeowords) 158) :: rowp A_y0otapeowords c_y0otapeowords 23 1 (eI .u64) r.tape.words :: rowp A_y0oops c_y0oops 32 6 Tapi_Op.cells r.ops :: rowp A_y0ovalues c_y0ovalues 23 1 (eI .u64) r.values :: rowp A_y0oblocks c_y0oblocks 144 3 Tapi_Span.cells r.blocks :: S)
def wire_Machine_End.m (k : Nat) (x0 : Twire_Machine) : Option Twire_Machine := (bif x0.bad != 0 then some x0 else (bif x0.openF == 0 then (wire_Machine_fail.m k x0 1).bind fun v_7 => some v_7.2 else (wire_Machine_Len.m k x0).bind fun v_21 => (bif decide (v_21 > x0.fromF) then wire_Machine_End.j1 k x0 (!x0.dry) else wire_Machine_End.j1 k x0 false)))

set_option maxRecDepth 100000 in
set_option maxHeartbeats 4000000 in
theorem wire_Machine_End.ok (k : Nat) (x0 : Twire_Machine) (r : Twire_Machine) (hm : wire_Machine_End.m k x0 = some r) (κ : Ctx) (w : World) (S : List HP) (b_x0 : Nat) (b_x0otape : Nat) (A_x0otapeowords : Option Addr) (c_x0otapeowords : Nat) (A_x0oops : Option Addr) (c_x0oops : Nat) (A_x0ovalues : Option Addr) (c_x0ovalues : Nat) (A_x0oblocks : Option Addr) (c_x0oblocks : Nat) (ho : Own κ w (pt b_x0 (blk (Twire_Machine.obj x0 b_x0otape A_x0oops c_x0oops A_x0ovalues c_x0ovalues A_x0oblocks c_x0oblocks) 151) :: pt b_x0otape (blk (Ttape_Tape.obj x0.tape A_x0otapeowords c_x0otapeowords) 158) :: rowp A_x0otapeowords c_x0otapeowords 23 1 (eI .u64) x0.tape.words :: rowp A_x0oops c_x0oops 32 6 Tapi_Op.cells x0.ops :: rowp A_x0ovalues c_x0ovalues 23 1 (eI .u64) x0.values :: rowp A_x0oblocks c_x0oblocks 144 3 Tapi_Span.cells x0.blocks :: S)) :
    Calls Try.prog 63 #[.pointer (some ⟨b_x0, 0, none⟩)] w (wire_Machine_End.R κ S x0 b_x0 b_x0otape A_x0otapeowords c_x0otapeowords A_x0oops c_x0oops A_x0ovalues c_x0ovalues A_x0oblocks c_x0oblocks r) := by
  unfold wire_Machine_End.m at hm
  refine Vk.enter [(0, .pointer (some ⟨b_x0, 0, none⟩))] Try.func63 rfl Try.ntmps63 (by kernel_rfl) (Nat.le_of_ble_eq_true (by kernel_rfl)) ho fun a hs => ?_
  refine Vk.seq fun K1 hK1 => ?_
  refine wp_block ?_
  refine Vk.seq fun K2 hK2 => ?_
  refine Vk.region ?_
  refine Vk.pures 6 [(8, .pointer (some ⟨b_x0, 8, none⟩)), (7, .pointer (some ⟨b_x0, 0, none⟩)), (6, .pointer (some ⟨b_x0, 0, none⟩)), (5, .bool false), (4, .bool false), (3, .pointer (some ⟨b_x0, 0, none⟩))] hs (by kernel_rfl) fun a hs => ?_
  refine Vk.step (Vk.value (some 9) (.int .i64 x0.bad) hs (by kernel_rfl) (op := (.load 43 (.tmp 8))) (by kernel_rfl) (fun o ho => run_load1 (b := b_x0) (off := 8) (c := C.int .i64 x0.bad) ho (by kernel_rfl) (by kernel_rfl) (Cell.own 0 rfl (by kernel_rfl)) _ hs.own) fun a hs => ?_)
  refine Vk.pures 3 [(2, .bool (x0.bad != 0)), (11, .bool (x0.bad != 0)), (10, .bool (x0.bad != 0))] hs (by kernel_rfl) fun a hs => ?_
  replace hs := hs.pick [0, 2] (L' := [(0, .pointer (some ⟨b_x0, 0, none⟩)), (2, .bool (x0.bad != 0))]) (by kernel_rfl)
  refine Vk.done (by kernel_rfl) ?_
  refine hK2 _ _ ?_
  clear hK2
  refine Vk.condS (b := x0.bad != 0) hs (by kernel_rfl) (by kernel_rfl) (fun hb => ?_) (fun hb => ?_)
  · replace hm := bif_t hm hb
    refine wp_ret ?_
    exact Vk.ret0 (P := Try.prog) (fn := Try.f63) (R := wire_Machine_End.R κ S x0 b_x0 b_x0otape A_x0otapeowords c_x0otapeowords A_x0oops c_x0oops A_x0ovalues c_x0ovalues A_x0oblocks c_x0oblocks r) hs rfl (by obtain rfl := Option.some.inj hm; exact ⟨A_x0otapeowords, c_x0otapeowords, A_x0oops, c_x0oops, A_x0ovalues, c_x0ovalues, A_x0oblocks, c_x0oblocks, rfl, (Own.to hs.own [0, 1, 2, 3, 4, 5] 6 (by kernel_rfl) (by kernel_rfl))⟩)
  · replace hm := bif_f hm hb
    refine Vk.seq fun K3 hK3 => ?_
    refine Vk.region ?_
    refine Vk.pures 3 [(15, .pointer (some ⟨b_x0, 6, none⟩)), (14, .pointer (some ⟨b_x0, 0, none⟩)), (13, .pointer (some ⟨b_x0, 0, none⟩))] hs (by kernel_rfl) fun a hs => ?_
    refine Vk.step (Vk.value (some 16) (.int .i64 x0.openF) hs (by kernel_rfl) (op := (.load 3 (.tmp 15))) (by kernel_rfl) (fun o ho => run_load1 (b := b_x0) (off := 6) (c := C.int .i64 x0.openF) ho (by kernel_rfl) (by kernel_rfl) (Cell.own 0 rfl (by kernel_rfl)) _ hs.own) fun a hs => ?_)
    refine Vk.pures 2 [(12, .bool (x0.openF == 0)), (17, .bool (x0.openF == 0))] hs (by kernel_rfl) fun a hs => ?_
    replace hs := hs.pick [0, 12] (L' := [(0, .pointer (some ⟨b_x0, 0, none⟩)), (12, .bool (x0.openF == 0))]) (by kernel_rfl)
    refine Vk.done (by kernel_rfl) ?_
    refine hK3 _ _ ?_
    clear hK3
    refine Vk.condS (b := x0.openF == 0) hs (by kernel_rfl) (by kernel_rfl) (fun hb => ?_) (fun hb => ?_)
    · replace hm := bif_t hm hb
      refine Vk.seq fun K4 hK4 => ?_
      refine Vk.region ?_
      refine Vk.pures 1 [(18, .pointer (some ⟨b_x0, 0, none⟩))] hs (by kernel_rfl) fun a hs => ?_
      obtain ⟨v_7, h_6, hm⟩ := bind_t hm
      refine Vk.step (Vk.call (some 19) 94 #[.pointer (some ⟨b_x0, 0, none⟩), .int .i64 1] hs (by kernel_rfl) (by kernel_rfl) (by kernel_rfl) ?_)
      refine (wire_Machine_fail.ok k x0 1 v_7 h_6 κ w (S) b_x0 b_x0otape A_x0otapeowords c_x0otapeowords A_x0oops c_x0oops A_x0ovalues c_x0ovalues A_x0oblocks c_x0oblocks (Own.to hs.own [0, 1, 2, 3, 4, 5] 6 (by kernel_rfl) (by kernel_rfl))).mono ?_
      rintro _ w ⟨Ar5o0otapeowords_8, cr5o0otapeowords_9, Ar5o0oops_10, cr5o0oops_11, Ar5o0ovalues_12, cr5o0ovalues_13, Ar5o0oblocks_14, cr5o0oblocks_15, rfl, how⟩
      refine ⟨_, _, _, rfl, how, fun a hs => ?_⟩
      replace hs := hs.pick [] (L' := []) (by kernel_rfl)
      refine Vk.done (by kernel_rfl) ?_
      refine hK4 _ _ ?_
      clear hK4
      refine wp_ret ?_
      exact Vk.ret0 (P := Try.prog) (fn := Try.f63) (R := wire_Machine_End.R κ S x0 b_x0 b_x0otape A_x0otapeowords c_x0otapeowords A_x0oops c_x0oops A_x0ovalues c_x0ovalues A_x0oblocks c_x0oblocks r) hs rfl (by obtain rfl := Option.some.inj hm; exact ⟨Ar5o0otapeowords_8, cr5o0otapeowords_9, Ar5o0oops_10, cr5o0oops_11, Ar5o0ovalues_12, cr5o0ovalues_13, Ar5o0oblocks_14, cr5o0oblocks_15, rfl, (Own.to hs.own [0, 1, 2, 3, 4, 5] 6 (by kernel_rfl) (by kernel_rfl))⟩)
    · replace hm := bif_f hm hb
      refine wp_skip ?_
      refine hK1 _ _ ?_
      clear hK1
      refine Vk.seq fun K16 hK16 => ?_
      have hj16 : ∀ (p_32 : Twire_Machine), wire_Machine_End.j2 k p_32 = some r → ∀ (A_33 : Option Addr) (c_34 : Nat) (a : Act) (w : World), St 57 a w κ [(0, .pointer (some ⟨b_x0, 0, none⟩))] (pt b_x0 (blk (Twire_Machine.obj p_32 b_x0otape A_x0oops c_x0oops A_x0ovalues c_x0ovalues A_33 c_34) 151) :: pt b_x0otape (blk (Ttape_Tape.obj p_32.tape A_x0otapeowords c_x0otapeowords) 158) :: rowp A_x0otapeowords c_x0otapeowords 23 1 (eI .u64) p_32.tape.words :: rowp A_x0oops c_x0oops 32 6 Tapi_Op.cells p_32.ops :: rowp A_x0ovalues c_x0ovalues 23 1 (eI .u64) p_32.values :: rowp A_33 c_34 144 3 Tapi_Span.cells p_32.blocks :: S) → K16 a w := by
        intro p_32 hm A_33 c_34 a w hs
        unfold wire_Machine_End.j2 at hm
        refine hK16 _ _ ?_
        refine Vk.region ?_
        refine Vk.pures 3 [(56, .pointer (some ⟨b_x0, 6, none⟩)), (55, .pointer (some ⟨b_x0, 0, none⟩)), (54, .pointer (some ⟨b_x0, 0, none⟩))] hs (by kernel_rfl) fun a hs => ?_
        refine Vk.step (Vk.store1 (b := b_x0) (ty := 3) (x := (.tmp 56)) (y := (.const (.int .i64 0))) (off := 6) (C.int .i64 0) 0 hs (by kernel_rfl) (by kernel_rfl) (by kernel_rfl) (by kernel_rfl) (by kernel_rfl) (by kernel_rfl) rfl (Nat.le_of_ble_eq_true (by kernel_rfl)) fun a w hs => ?_)
        replace hs := hs.pick [] (L' := []) (by kernel_rfl)
        refine Vk.done (by kernel_rfl) ?_
        exact Vk.end0 (P := Try.prog) (fn := Try.f63) (R := wire_Machine_End.R κ S x0 b_x0 b_x0otape A_x0otapeowords c_x0otapeowords A_x0oops c_x0oops A_x0ovalues c_x0ovalues A_x0oblocks c_x0oblocks r) hs rfl (by obtain rfl := Option.some.inj hm; exact ⟨A_x0otapeowords, c_x0otapeowords, A_x0oops, c_x0oops, A_x0ovalues, c_x0ovalues, A_33, c_34, rfl, (Own.to hs.own [0, 1, 2, 3, 4, 5] 6 (by kernel_rfl) (by kernel_rfl))⟩)
      refine Vk.seq fun K17 hK17 => ?_
      have hj17 : ∀ (p_22 : Bool), wire_Machine_End.j1 k x0 p_22 = some r → ∀ (a : Act) (w : World), St 57 a w κ [(0, .pointer (some ⟨b_x0, 0, none⟩)), (33, .bool p_22)] (pt b_x0 (blk (Twire_Machine.obj x0 b_x0otape A_x0oops c_x0oops A_x0ovalues c_x0ovalues A_x0oblocks c_x0oblocks) 151) :: pt b_x0otape (blk (Ttape_Tape.obj x0.tape A_x0otapeowords c_x0otapeowords) 158) :: rowp A_x0otapeowords c_x0otapeowords 23 1 (eI .u64) x0.tape.words :: rowp A_x0oops c_x0oops 32 6 Tapi_Op.cells x0.ops :: rowp A_x0ovalues c_x0ovalues 23 1 (eI .u64) x0.values :: rowp A_x0oblocks c_x0oblocks 144 3 Tapi_Span.cells x0.blocks :: S) → K17 a w := by
        intro p_22 hm a w hs
        unfold wire_Machine_End.j1 at hm
        refine hK17 _ _ ?_
        refine Vk.condS (b := p_22) hs (by kernel_rfl) (by kernel_rfl) (fun hb => ?_) (fun hb => ?_)
        · replace hm := bif_t hm hb
          obtain ⟨C_23, hC_23⟩ : ∃ X0 : List HP, X0 = (pt b_x0 (blk (Twire_Machine.obj x0 b_x0otape A_x0oops c_x0oops A_x0ovalues c_x0ovalues A_x0oblocks c_x0oblocks) 151) :: pt b_x0otape (blk (Ttape_Tape.obj x0.tape A_x0otapeowords c_x0otapeowords) 158) :: rowp A_x0otapeowords c_x0otapeowords 23 1 (eI .u64) x0.tape.words :: rowp A_x0oops c_x0oops 32 6 Tapi_Op.cells x0.ops :: rowp A_x0ovalues c_x0ovalues 23 1 (eI .u64) x0.values :: S) := ⟨_, rfl⟩
          refine Vk.drawnT 18 κ C_23 hs (by kernel_rfl) fun w hs => ?_
          have hcz : Own κ w (pt b_x0 (blk (Twire_Machine.obj x0 b_x0otape A_x0oops c_x0oops A_x0ovalues c_x0ovalues A_x0oblocks c_x0oblocks) 151) :: pt b_x0otape (blk (Ttape_Tape.obj x0.tape A_x0otapeowords c_x0otapeowords) 158) :: rowp A_x0otapeowords c_x0otapeowords 23 1 (eI .u64) x0.tape.words :: rowp A_x0oops c_x0oops 32 6 Tapi_Op.cells x0.ops :: rowp A_x0ovalues c_x0ovalues 23 1 (eI .u64) x0.values :: S) := (Own.to hs.own [0, 1, 2, 3, 4] 6 (by kernel_rfl) (by kernel_rfl))
          have hcl : Own κ w C_23 := by rw [hC_23]; exact hcz
          refine Vk.dPuresT [0, 1, 2, 3, 5, 6, 7, 9, 10, 11, 13] [(47, .pointer (some ⟨b_x0, 0, none⟩)), (45, .pointer (some ⟨b_x0, 7, none⟩)), (44, .pointer (some ⟨b_x0, 0, none⟩)), (43, .pointer (some ⟨b_x0, 0, none⟩)), (41, .pointer (some ⟨b_x0, 6, none⟩)), (40, .pointer (some ⟨b_x0, 0, none⟩)), (39, .pointer (some ⟨b_x0, 0, none⟩)), (37, .pointer (some ⟨b_x0, 12, none⟩)), (36, .pointer (some ⟨b_x0, 0, none⟩)), (35, .pointer (some ⟨b_x0, 0, none⟩)), (34, .pointer (some ⟨b_x0, 0, none⟩))] hs (by kernel_rfl) (by repeat' (first | exact Vk.Calm.post | refine Vk.Calm.then ?_ | refine Vk.Calm.inBlock ?_)) hcl (by kernel_rfl) (by kernel_rfl) (fuel := 10) rfl fun a hs => ?_
          refine Vk.dTakeT (i := 4) (some 38) (.slice A_x0oblocks x0.blocks.length c_x0oblocks) hs (by kernel_rfl) (by repeat' (first | exact Vk.Calm.post | refine Vk.Calm.then ?_ | refine Vk.Calm.inBlock ?_)) hcl (by kernel_rfl) (by kernel_rfl) (op := (.load 70 (.tmp 37))) (by kernel_rfl) (by kernel_rfl) (fun w hw o ho => by rw [hC_23] at hw; exact run_load1 (b := b_x0) (off := 12) (c := C.slc A_x0oblocks x0.blocks.length c_x0oblocks) ho (by kernel_rfl) (by kernel_rfl) (Cell.own 0 rfl (by kernel_rfl)) _ hw) fun a hs => ?_
          refine Vk.dTakeT (i := 8) (some 42) (.int .i64 x0.openF) hs (by kernel_rfl) (by repeat' (first | exact Vk.Calm.post | refine Vk.Calm.then ?_ | refine Vk.Calm.inBlock ?_)) hcl (by kernel_rfl) (by kernel_rfl) (op := (.load 3 (.tmp 41))) (by kernel_rfl) (by kernel_rfl) (fun w hw o ho => by rw [hC_23] at hw; exact run_load1 (b := b_x0) (off := 6) (c := C.int .i64 x0.openF) ho (by kernel_rfl) (by kernel_rfl) (Cell.own 0 rfl (by kernel_rfl)) _ hw) fun a hs => ?_
          refine Vk.dTakeT (i := 12) (some 46) (.int .i64 x0.fromF) hs (by kernel_rfl) (by repeat' (first | exact Vk.Calm.post | refine Vk.Calm.then ?_ | refine Vk.Calm.inBlock ?_)) hcl (by kernel_rfl) (by kernel_rfl) (op := (.load 3 (.tmp 45))) (by kernel_rfl) (by kernel_rfl) (fun w hw o ho => by rw [hC_23] at hw; exact run_load1 (b := b_x0) (off := 7) (c := C.int .i64 x0.fromF) ho (by kernel_rfl) (by kernel_rfl) (Cell.own 0 rfl (by kernel_rfl)) _ hw) fun a hs => ?_
          obtain ⟨v_26, h_25, hm⟩ := bind_t hm
          refine Vk.dOnly (i := 14) (by kernel_rfl) (Vk.call (some 48) 58 #[.pointer (some ⟨b_x0, 0, none⟩)] hs (by kernel_rfl) (by kernel_rfl) (by kernel_rfl) ?_)
          refine (wire_Machine_Len.ok k x0 v_26 h_25 κ w (S) b_x0 b_x0otape A_x0otapeowords c_x0otapeowords A_x0oops c_x0oops A_x0ovalues c_x0ovalues A_x0oblocks c_x0oblocks (Own.to hs.own [0, 1, 2, 3, 4, 5] 6 (by kernel_rfl) (by kernel_rfl))).mono ?_
          rintro _ w ⟨rfl, how⟩
          refine ⟨_, _, _, rfl, how, fun a hs => ?_⟩
          replace hcl : Own κ w C_23 := by rw [hC_23]; exact (Own.to hs.own [0, 1, 2, 3, 4] 6 (by kernel_rfl) (by kernel_rfl))
          refine ⟨fun _ => hcl, ?_⟩
          refine Vk.dPuresT [15] [(49, .agg (vals [C.int .i64 x0.openF, C.int .i64 x0.fromF, C.int .i64 v_26]))] hs (by kernel_rfl) (by repeat' (first | exact Vk.Calm.post | refine Vk.Calm.then ?_ | refine Vk.Calm.inBlock ?_)) hcl (by kernel_rfl) (by kernel_rfl) (fuel := 5) rfl fun a hs => ?_
          refine Vk.dOnly (i := 16) (by kernel_rfl) (Vk.buildOp (sz := 3) (by_ := 24) (t := 70) (e := 144) (parts := #[(0, (.tmp 49))]) (zs := vals [C.int .i64 0, C.int .i64 0, C.int .i64 0]) ([(⟨x0.openF, x0.fromF, v_26⟩ : Tapi_Span)] : List Tapi_Span) Tapi_Span.cells (some 50) hs (by kernel_rfl) (by kernel_rfl) (by kernel_rfl) (by kernel_rfl) (by decide) rfl (fun x _ => rfl) (Nat.le_of_ble_eq_true (by kernel_rfl)) (by kernel_rfl) fun A_27 w a hs => ?_)
          replace hcl : Own κ w C_23 := by rw [hC_23]; exact (Own.to hs.own [1, 2, 3, 4, 5] 7 (by kernel_rfl) (by kernel_rfl))
          refine ⟨fun _ => hcl, ?_⟩
          obtain ⟨h_29, hm⟩ := ite_t hm
          refine Vk.dOnly (i := 17) (by kernel_rfl) (Vk.appendOp (x := (.tmp 38)) (y := (.tmp 50)) (e := 144) (t := 70) (by_ := 24) (sz := 3) (enc := Tapi_Span.cells) (A := A_x0oblocks) (cap := c_x0oblocks) (xs := x0.blocks) (ys := ([(⟨x0.openF, x0.fromF, v_26⟩ : Tapi_Span)] : List Tapi_Span)) (B := A_27) (c2 := 1) 6 (some 51) hs (by kernel_rfl) (by kernel_rfl) (by kernel_rfl) (by kernel_rfl) rfl (Sl.lift (fun w ho => (Own.to (S' := rowp A_27 1 144 3 Tapi_Span.cells ([(⟨x0.openF, x0.fromF, v_26⟩ : Tapi_Span)] : List Tapi_Span) :: S) ho [0] 7 (by kernel_rfl) (by kernel_rfl))) (Own.rowSl 0 (Own.to (S' := rowp A_27 1 144 3 Tapi_Span.cells ([(⟨x0.openF, x0.fromF, v_26⟩ : Tapi_Span)] : List Tapi_Span) :: S) hs.own [0] 7 (by kernel_rfl) (by kernel_rfl)) rfl)) (by kernel_rfl) (by kernel_rfl) (by decide) (by decide) h_29 fun A_30 c_31 w a hs => ?_)
          replace hcl : Own κ w C_23 := by rw [hC_23]; exact (Own.to hs.own [1, 2, 3, 4, 5] 7 (by kernel_rfl) (by kernel_rfl))
          refine ⟨fun _ => hcl, ?_⟩
          refine Vk.dOnly (i := 18) (by kernel_rfl) (Vk.dPure1 [(52, .pointer (some ⟨b_x0, 0, none⟩))] hs (by kernel_rfl) fun a hs => ?_)
          refine ⟨fun h => absurd h (by decide), ?_⟩
          refine Vk.dOnly (i := 19) (by kernel_rfl) (Vk.dPure1 [(53, .pointer (some ⟨b_x0, 12, none⟩))] hs (by kernel_rfl) fun a hs => ?_)
          refine ⟨fun h => absurd h (by decide), ?_⟩
          refine Vk.dOnly (i := 20) (by kernel_rfl) (Vk.store1 (b := b_x0) (ty := 70) (x := (.tmp 53)) (y := (.tmp 51)) (off := 12) (C.slc A_30 ((x0.blocks ++ ([(⟨x0.openF, x0.fromF, v_26⟩ : Tapi_Span)] : List Tapi_Span)).length) c_31) 1 hs (by kernel_rfl) (by kernel_rfl) (by kernel_rfl) (by kernel_rfl) (by kernel_rfl) (by kernel_rfl) rfl (Nat.le_of_ble_eq_true (by kernel_rfl)) fun a w hs => ?_)
          refine ⟨fun h => absurd h (by decide), ?_⟩
          replace hs := hs.pick [0] (L' := [(0, .pointer (some ⟨b_x0, 0, none⟩))]) (by kernel_rfl)
          refine Vk.dDone (by kernel_rfl) ?_
          exact hj16 (⟨x0.n, x0.most, x0.base, x0.words, x0.draws, x0.dry, x0.openF, x0.fromF, x0.bad, x0.tape, x0.ops, x0.values, x0.blocks ++ ([(⟨x0.openF, x0.fromF, v_26⟩ : Tapi_Span)] : List Tapi_Span)⟩ : Twire_Machine) hm A_30 c_31 _ _ (hs.go [0] [1, 2, 3, 4, 5, 6] 7 (by kernel_rfl) (by kernel_rfl) (by kernel_rfl))
        · replace hm := bif_f hm hb
          refine wp_skip ?_
          exact hj16 x0 hm A_x0oblocks c_x0oblocks _ _ (hs.go [0] [0, 1, 2, 3, 4, 5] 6 (by kernel_rfl) (by kernel_rfl) (by kernel_rfl))
      obtain ⟨C_18, hC_18⟩ : ∃ X0 : List HP, X0 = (pt b_x0 (blk (Twire_Machine.obj x0 b_x0otape A_x0oops c_x0oops A_x0ovalues c_x0ovalues A_x0oblocks c_x0oblocks) 151) :: pt b_x0otape (blk (Ttape_Tape.obj x0.tape A_x0otapeowords c_x0otapeowords) 158) :: rowp A_x0otapeowords c_x0otapeowords 23 1 (eI .u64) x0.tape.words :: rowp A_x0oops c_x0oops 32 6 Tapi_Op.cells x0.ops :: rowp A_x0ovalues c_x0ovalues 23 1 (eI .u64) x0.values :: rowp A_x0oblocks c_x0oblocks 144 3 Tapi_Span.cells x0.blocks :: S) := ⟨_, rfl⟩
      refine Vk.drawnT 14 κ C_18 hs (by kernel_rfl) fun w hs => ?_
      have hcz : Own κ w (pt b_x0 (blk (Twire_Machine.obj x0 b_x0otape A_x0oops c_x0oops A_x0ovalues c_x0ovalues A_x0oblocks c_x0oblocks) 151) :: pt b_x0otape (blk (Ttape_Tape.obj x0.tape A_x0otapeowords c_x0otapeowords) 158) :: rowp A_x0otapeowords c_x0otapeowords 23 1 (eI .u64) x0.tape.words :: rowp A_x0oops c_x0oops 32 6 Tapi_Op.cells x0.ops :: rowp A_x0ovalues c_x0ovalues 23 1 (eI .u64) x0.values :: rowp A_x0oblocks c_x0oblocks 144 3 Tapi_Span.cells x0.blocks :: S) := (Own.to hs.own [0, 1, 2, 3, 4, 5] 6 (by kernel_rfl) (by kernel_rfl))
      have hcl : Own κ w C_18 := by rw [hC_18]; exact hcz
      refine Vk.dPuresT [0, 2, 3, 4] [(24, .pointer (some ⟨b_x0, 7, none⟩)), (23, .pointer (some ⟨b_x0, 0, none⟩)), (22, .pointer (some ⟨b_x0, 0, none⟩)), (20, .pointer (some ⟨b_x0, 0, none⟩))] hs (by kernel_rfl) (by repeat' (first | exact Vk.Calm.post | refine Vk.Calm.then ?_ | refine Vk.Calm.inBlock ?_)) hcl (by kernel_rfl) (by kernel_rfl) (fuel := 10) rfl fun a hs => ?_
      refine Vk.dTakeT (i := 5) (some 25) (.int .i64 x0.fromF) hs (by kernel_rfl) (by repeat' (first | exact Vk.Calm.post | refine Vk.Calm.then ?_ | refine Vk.Calm.inBlock ?_)) hcl (by kernel_rfl) (by kernel_rfl) (op := (.load 3 (.tmp 24))) (by kernel_rfl) (by kernel_rfl) (fun w hw o ho => by rw [hC_18] at hw; exact run_load1 (b := b_x0) (off := 7) (c := C.int .i64 x0.fromF) ho (by kernel_rfl) (by kernel_rfl) (Cell.own 0 rfl (by kernel_rfl)) _ hw) fun a hs => ?_
      obtain ⟨v_21, h_20, hm⟩ := bind_t hm
      refine Vk.dOnly (i := 1) (by kernel_rfl) (Vk.call (some 21) 58 #[.pointer (some ⟨b_x0, 0, none⟩)] hs (by kernel_rfl) (by kernel_rfl) (by kernel_rfl) ?_)
      refine (wire_Machine_Len.ok k x0 v_21 h_20 κ w (S) b_x0 b_x0otape A_x0otapeowords c_x0otapeowords A_x0oops c_x0oops A_x0ovalues c_x0ovalues A_x0oblocks c_x0oblocks (Own.to hs.own [0, 1, 2, 3, 4, 5] 6 (by kernel_rfl) (by kernel_rfl))).mono ?_
      rintro _ w ⟨rfl, how⟩
      refine ⟨_, _, _, rfl, how, fun a hs => ?_⟩
      replace hcl : Own κ w C_18 := by rw [hC_18]; exact (Own.to hs.own [0, 1, 2, 3, 4, 5] 6 (by kernel_rfl) (by kernel_rfl))
      refine ⟨fun _ => hcl, ?_⟩
      refine Vk.dPuresT [6, 7] [(27, .bool (decide (v_21 > x0.fromF))), (26, .bool (decide (v_21 > x0.fromF)))] hs (by kernel_rfl) (by repeat' (first | exact Vk.Calm.post | refine Vk.Calm.then ?_ | refine Vk.Calm.inBlock ?_)) hcl (by kernel_rfl) (by kernel_rfl) (fuel := 6) rfl fun a hs => ?_
      rcases Bool.eq_false_or_eq_true (decide (v_21 > x0.fromF)) with hb | hb
      · replace hm := bif_t hm hb
        replace hs := hs.known (t := 27) hb (by kernel_rfl)
        refine Vk.dPuresT [8, 9, 10] [(30, .pointer (some ⟨b_x0, 5, none⟩)), (29, .pointer (some ⟨b_x0, 0, none⟩)), (28, .pointer (some ⟨b_x0, 0, none⟩))] hs (by kernel_rfl) (by repeat' (first | exact Vk.Calm.post | refine Vk.Calm.then ?_ | refine Vk.Calm.inBlock ?_)) hcl (by kernel_rfl) (by kernel_rfl) (fuel := 3) rfl fun a hs => ?_
        refine Vk.dTakeT (i := 11) (some 31) (.bool x0.dry) hs (by kernel_rfl) (by repeat' (first | exact Vk.Calm.post | refine Vk.Calm.then ?_ | refine Vk.Calm.inBlock ?_)) hcl (by kernel_rfl) (by kernel_rfl) (op := (.load 4 (.tmp 30))) (by kernel_rfl) (by kernel_rfl) (fun w hw o ho => by rw [hC_18] at hw; exact run_load1 (b := b_x0) (off := 5) (c := C.bool x0.dry) ho (by kernel_rfl) (by kernel_rfl) (Cell.own 0 rfl (by kernel_rfl)) _ hw) fun a hs => ?_
        refine Vk.dPuresT [12, 13] [(33, .bool (!x0.dry)), (32, .bool (!x0.dry))] hs (by kernel_rfl) (by repeat' (first | exact Vk.Calm.post | refine Vk.Calm.then ?_ | refine Vk.Calm.inBlock ?_)) hcl (by kernel_rfl) (by kernel_rfl) (fuel := 0) rfl fun a hs => ?_
        replace hs := hs.pick [0, 33] (L' := [(0, .pointer (some ⟨b_x0, 0, none⟩)), (33, .bool (!x0.dry))]) (by kernel_rfl)
        refine Vk.dDone (by kernel_rfl) ?_
        exact hj17 (!x0.dry) hm _ _ (hs.go [0, 33] [0, 1, 2, 3, 4, 5] 6 (by kernel_rfl) (by kernel_rfl) (by kernel_rfl))
      · replace hm := bif_f hm hb
        replace hs := hs.known (t := 27) hb (by kernel_rfl)
        refine Vk.dPuresT [8, 9, 10, 11, 12, 13] [(33, .bool false), (32, undef), (31, undef), (30, undef), (29, undef), (28, undef)] hs (by kernel_rfl) (by repeat' (first | exact Vk.Calm.post | refine Vk.Calm.then ?_ | refine Vk.Calm.inBlock ?_)) hcl (by kernel_rfl) (by kernel_rfl) (fuel := 0) rfl fun a hs => ?_
        replace hs := hs.pick [0, 33] (L' := [(0, .pointer (some ⟨b_x0, 0, none⟩)), (33, .bool false)]) (by kernel_rfl)
        refine Vk.dDone (by kernel_rfl) ?_
        exact hj17 false hm _ _ (hs.go [0, 33] [0, 1, 2, 3, 4, 5] 6 (by kernel_rfl) (by kernel_rfl) (by kernel_rfl))


abbrev slices_Clone_api_Op_api_Op.R (κ : Ctx) (S : List HP) (x0 : List Tapi_Op) (A_x0 : Option Addr) (c_x0 : Nat) (r : List Tapi_Op) : Ending → World → Prop := fun e w' => ∃ (A_r0 : Option Addr), ∃ (c_r0 : Nat), e = .returned (.slice A_r0 r.length c_r0) ∧ Own κ w' (rowp A_r0 c_r0 32 6 Tapi_Op.cells r :: S)
def slices_Clone_api_Op_api_Op.m (k : Nat) (x0 : List Tapi_Op) : Option (List Tapi_Op) := (if (([] : List Tapi_Op).length + x0.length) * 48 ≤ 140737488355328 then some (([] : List Tapi_Op) ++ x0) else none)

set_option maxRecDepth 100000 in
set_option maxHeartbeats 4000000 in
theorem slices_Clone_api_Op_api_Op.ok (k : Nat) (x0 : List Tapi_Op) (r : List Tapi_Op) (hm : slices_Clone_api_Op_api_Op.m k x0 = some r) (κ : Ctx) (w : World) (S : List HP) (A_x0 : Option Addr) (c_x0 : Nat) (hx_x0 : Sl κ S A_x0 c_x0 6 Tapi_Op.cells x0) (ho : Own κ w (S)) :
    Calls Try.prog 82 #[.slice A_x0 x0.length c_x0] w (slices_Clone_api_Op_api_Op.R κ S x0 A_x0 c_x0 r) := by
  unfold slices_Clone_api_Op_api_Op.m at hm
  rcases A_x0 with _ | p_x0
  · obtain rfl : c_x0 = 0 := hx_x0.none rfl
    obtain rfl : x0 = [] := List.length_eq_zero_iff.1 (Nat.le_zero.1 hx_x0.le)
    replace hm : some ([] : List Tapi_Op) = some r := by simpa using hm
    refine Vk.enter [(0, .slice none 0 0)] Try.func82 rfl Try.ntmps82 (by kernel_rfl) (Nat.le_of_ble_eq_true (by kernel_rfl)) ho fun a hs => ?_
    refine Vk.seq fun K1 hK1 => ?_
    refine Vk.region ?_
    refine Vk.pures 1 [(2, .slice none 0 0)] hs (by kernel_rfl) fun a hs => ?_
    replace hs := hs.pick [0] (L' := [(0, .slice none 0 0)]) (by kernel_rfl)
    refine Vk.done (by kernel_rfl) ?_
    refine hK1 _ _ ?_
    clear hK1
    refine Vk.seq fun K2 hK2 => ?_
    refine Vk.seq fun K3 hK3 => ?_
    refine Vk.region ?_
    refine Vk.pures 2 [(4, .bool true), (3, .slice none 0 0)] hs (by kernel_rfl) fun a hs => ?_
    replace hs := hs.pick [0, 4] (L' := [(0, .slice none 0 0), (4, .bool true)]) (by kernel_rfl)
    refine Vk.done (by kernel_rfl) ?_
    refine hK3 _ _ ?_
    clear hK3
    refine Vk.condT hs (by kernel_rfl) (by kernel_rfl) ?_
    refine Vk.seq fun K4 hK4 => ?_
    refine Vk.region ?_
    refine Vk.pures 1 [(2, .slice none 0 0)] hs (by kernel_rfl) fun a hs => ?_
    replace hs := hs.pick [2] (L' := [(2, .slice none 0 0)]) (by kernel_rfl)
    refine Vk.done (by kernel_rfl) ?_
    refine hK4 _ _ ?_
    clear hK4
    refine wp_ret ?_
    replace hs := hs.addRow none 32 6 Tapi_Op.cells
    exact Vk.ret1 (P := Try.prog) (fn := Try.f82) (R := slices_Clone_api_Op_api_Op.R κ S [] none 0 r) (.slice none (([] : List Tapi_Op).length) 0) hs rfl (by kernel_rfl) (by obtain rfl := Option.some.inj hm; exact ⟨none, 0, rfl, (Own.to hs.own [0] 1 (by kernel_rfl) (by kernel_rfl))⟩)
  · skip
    refine Vk.enter [(0, .slice (some p_x0) x0.length c_x0)] Try.func82 rfl Try.ntmps82 (by kernel_rfl) (Nat.le_of_ble_eq_true (by kernel_rfl)) ho fun a hs => ?_
    refine Vk.seq fun K1 hK1 => ?_
    refine Vk.region ?_
    refine Vk.pures 1 [(2, .slice none 0 0)] hs (by kernel_rfl) fun a hs => ?_
    replace hs := hs.pick [0] (L' := [(0, .slice (some p_x0) x0.length c_x0)]) (by kernel_rfl)
    refine Vk.done (by kernel_rfl) ?_
    refine hK1 _ _ ?_
    clear hK1
    refine Vk.seq fun K2 hK2 => ?_
    refine Vk.seq fun K3 hK3 => ?_
    refine Vk.region ?_
    refine Vk.pures 2 [(4, .bool false), (3, .slice (some p_x0) x0.length c_x0)] hs (by kernel_rfl) fun a hs => ?_
    replace hs := hs.pick [0, 4] (L' := [(0, .slice (some p_x0) x0.length c_x0), (4, .bool false)]) (by kernel_rfl)
    refine Vk.done (by kernel_rfl) ?_
    refine hK3 _ _ ?_
    clear hK3
    refine Vk.condF hs (by kernel_rfl) (by kernel_rfl) ?_
    refine wp_skip ?_
    refine hK2 _ _ ?_
    clear hK2
    refine Vk.seq fun K4 hK4 => ?_
    refine Vk.region ?_
    refine Vk.step (Vk.buildOp (sz := 6) (by_ := 48) (t := 69) (e := 32) (parts := #[]) (zs := vals [C.int .i64 0, C.int .i64 0, C.int .i64 0, C.int .i64 0, C.int .i64 0, C.int .u64 0]) ([] : List Tapi_Op) Tapi_Op.cells (some 5) hs (by kernel_rfl) (by kernel_rfl) (by kernel_rfl) (by kernel_rfl) (by decide) rfl (fun x _ => rfl) (Nat.le_of_ble_eq_true (by kernel_rfl)) (by kernel_rfl) fun A_5 w a hs => ?_)
    refine Vk.pures 1 [(6, .slice (some p_x0) x0.length c_x0)] hs (by kernel_rfl) fun a hs => ?_
    obtain ⟨h_7, hm⟩ := ite_t hm
    refine Vk.step (Vk.appendOp (x := (.tmp 5)) (y := (.tmp 6)) (e := 32) (t := 69) (by_ := 48) (sz := 6) (enc := Tapi_Op.cells) (A := A_5) (cap := 0) (xs := ([] : List Tapi_Op)) (ys := x0) (B := (some p_x0)) (c2 := c_x0) 0 (some 7) hs (by kernel_rfl) (by kernel_rfl) (by kernel_rfl) (by kernel_rfl) rfl hx_x0.less (by kernel_rfl) (by kernel_rfl) (by decide) (by decide) h_7 fun A_8 c_9 w a hs => ?_)
    refine Vk.pures 1 [(2, .slice A_8 ((([] : List Tapi_Op) ++ x0).length) c_9)] hs (by kernel_rfl) fun a hs => ?_
    replace hs := hs.pick [2] (L' := [(2, .slice A_8 ((([] : List Tapi_Op) ++ x0).length) c_9)]) (by kernel_rfl)
    refine Vk.done (by kernel_rfl) ?_
    refine hK4 _ _ ?_
    clear hK4
    refine wp_ret ?_
    exact Vk.ret1 (P := Try.prog) (fn := Try.f82) (R := slices_Clone_api_Op_api_Op.R κ S x0 (some p_x0) c_x0 r) (.slice A_8 ((([] : List Tapi_Op) ++ x0).length) c_9) hs rfl (by kernel_rfl) (by obtain rfl := Option.some.inj hm; exact ⟨A_8, c_9, rfl, (Own.to hs.own [0] 1 (by kernel_rfl) (by kernel_rfl))⟩)


abbrev slices_Clone_api_Span_api_Span.R (κ : Ctx) (S : List HP) (x0 : List Tapi_Span) (A_x0 : Option Addr) (c_x0 : Nat) (r : List Tapi_Span) : Ending → World → Prop := fun e w' => ∃ (A_r0 : Option Addr), ∃ (c_r0 : Nat), e = .returned (.slice A_r0 r.length c_r0) ∧ Own κ w' (rowp A_r0 c_r0 144 3 Tapi_Span.cells r :: S)
def slices_Clone_api_Span_api_Span.m (k : Nat) (x0 : List Tapi_Span) : Option (List Tapi_Span) := (if (([] : List Tapi_Span).length + x0.length) * 24 ≤ 140737488355328 then some (([] : List Tapi_Span) ++ x0) else none)

set_option maxRecDepth 100000 in
set_option maxHeartbeats 4000000 in
theorem slices_Clone_api_Span_api_Span.ok (k : Nat) (x0 : List Tapi_Span) (r : List Tapi_Span) (hm : slices_Clone_api_Span_api_Span.m k x0 = some r) (κ : Ctx) (w : World) (S : List HP) (A_x0 : Option Addr) (c_x0 : Nat) (hx_x0 : Sl κ S A_x0 c_x0 3 Tapi_Span.cells x0) (ho : Own κ w (S)) :
    Calls Try.prog 83 #[.slice A_x0 x0.length c_x0] w (slices_Clone_api_Span_api_Span.R κ S x0 A_x0 c_x0 r) := by
  unfold slices_Clone_api_Span_api_Span.m at hm
  rcases A_x0 with _ | p_x0
  · obtain rfl : c_x0 = 0 := hx_x0.none rfl
    obtain rfl : x0 = [] := List.length_eq_zero_iff.1 (Nat.le_zero.1 hx_x0.le)
    replace hm : some ([] : List Tapi_Span) = some r := by simpa using hm
    refine Vk.enter [(0, .slice none 0 0)] Try.func83 rfl Try.ntmps83 (by kernel_rfl) (Nat.le_of_ble_eq_true (by kernel_rfl)) ho fun a hs => ?_
    refine Vk.seq fun K1 hK1 => ?_
    refine Vk.region ?_
    refine Vk.pures 1 [(2, .slice none 0 0)] hs (by kernel_rfl) fun a hs => ?_
    replace hs := hs.pick [0] (L' := [(0, .slice none 0 0)]) (by kernel_rfl)
    refine Vk.done (by kernel_rfl) ?_
    refine hK1 _ _ ?_
    clear hK1
    refine Vk.seq fun K2 hK2 => ?_
    refine Vk.seq fun K3 hK3 => ?_
    refine Vk.region ?_
    refine Vk.pures 2 [(4, .bool true), (3, .slice none 0 0)] hs (by kernel_rfl) fun a hs => ?_
    replace hs := hs.pick [0, 4] (L' := [(0, .slice none 0 0), (4, .bool true)]) (by kernel_rfl)
    refine Vk.done (by kernel_rfl) ?_
    refine hK3 _ _ ?_
    clear hK3
    refine Vk.condT hs (by kernel_rfl) (by kernel_rfl) ?_
    refine Vk.seq fun K4 hK4 => ?_
    refine Vk.region ?_
    refine Vk.pures 1 [(2, .slice none 0 0)] hs (by kernel_rfl) fun a hs => ?_
    replace hs := hs.pick [2] (L' := [(2, .slice none 0 0)]) (by kernel_rfl)
    refine Vk.done (by kernel_rfl) ?_
    refine hK4 _ _ ?_
    clear hK4
    refine wp_ret ?_
    replace hs := hs.addRow none 144 3 Tapi_Span.cells
    exact Vk.ret1 (P := Try.prog) (fn := Try.f83) (R := slices_Clone_api_Span_api_Span.R κ S [] none 0 r) (.slice none (([] : List Tapi_Span).length) 0) hs rfl (by kernel_rfl) (by obtain rfl := Option.some.inj hm; exact ⟨none, 0, rfl, (Own.to hs.own [0] 1 (by kernel_rfl) (by kernel_rfl))⟩)
  · skip
    refine Vk.enter [(0, .slice (some p_x0) x0.length c_x0)] Try.func83 rfl Try.ntmps83 (by kernel_rfl) (Nat.le_of_ble_eq_true (by kernel_rfl)) ho fun a hs => ?_
    refine Vk.seq fun K1 hK1 => ?_
    refine Vk.region ?_
    refine Vk.pures 1 [(2, .slice none 0 0)] hs (by kernel_rfl) fun a hs => ?_
    replace hs := hs.pick [0] (L' := [(0, .slice (some p_x0) x0.length c_x0)]) (by kernel_rfl)
    refine Vk.done (by kernel_rfl) ?_
    refine hK1 _ _ ?_
    clear hK1
    refine Vk.seq fun K2 hK2 => ?_
    refine Vk.seq fun K3 hK3 => ?_
    refine Vk.region ?_
    refine Vk.pures 2 [(4, .bool false), (3, .slice (some p_x0) x0.length c_x0)] hs (by kernel_rfl) fun a hs => ?_
    replace hs := hs.pick [0, 4] (L' := [(0, .slice (some p_x0) x0.length c_x0), (4, .bool false)]) (by kernel_rfl)
    refine Vk.done (by kernel_rfl) ?_
    refine hK3 _ _ ?_
    clear hK3
    refine Vk.condF hs (by kernel_rfl) (by kernel_rfl) ?_
    refine wp_skip ?_
    refine hK2 _ _ ?_
    clear hK2
    refine Vk.seq fun K4 hK4 => ?_
    refine Vk.region ?_
    refine Vk.step (Vk.buildOp (sz := 3) (by_ := 24) (t := 70) (e := 144) (parts := #[]) (zs := vals [C.int .i64 0, C.int .i64 0, C.int .i64 0]) ([] : List Tapi_Span) Tapi_Span.cells (some 5) hs (by kernel_rfl) (by kernel_rfl) (by kernel_rfl) (by kernel_rfl) (by decide) rfl (fun x _ => rfl) (Nat.le_of_ble_eq_true (by kernel_rfl)) (by kernel_rfl) fun A_5 w a hs => ?_)
    refine Vk.pures 1 [(6, .slice (some p_x0) x0.length c_x0)] hs (by kernel_rfl) fun a hs => ?_
    obtain ⟨h_7, hm⟩ := ite_t hm
    refine Vk.step (Vk.appendOp (x := (.tmp 5)) (y := (.tmp 6)) (e := 144) (t := 70) (by_ := 24) (sz := 3) (enc := Tapi_Span.cells) (A := A_5) (cap := 0) (xs := ([] : List Tapi_Span)) (ys := x0) (B := (some p_x0)) (c2 := c_x0) 0 (some 7) hs (by kernel_rfl) (by kernel_rfl) (by kernel_rfl) (by kernel_rfl) rfl hx_x0.less (by kernel_rfl) (by kernel_rfl) (by decide) (by decide) h_7 fun A_8 c_9 w a hs => ?_)
    refine Vk.pures 1 [(2, .slice A_8 ((([] : List Tapi_Span) ++ x0).length) c_9)] hs (by kernel_rfl) fun a hs => ?_
    replace hs := hs.pick [2] (L' := [(2, .slice A_8 ((([] : List Tapi_Span) ++ x0).length) c_9)]) (by kernel_rfl)
    refine Vk.done (by kernel_rfl) ?_
    refine hK4 _ _ ?_
    clear hK4
    refine wp_ret ?_
    exact Vk.ret1 (P := Try.prog) (fn := Try.f83) (R := slices_Clone_api_Span_api_Span.R κ S x0 (some p_x0) c_x0 r) (.slice A_8 ((([] : List Tapi_Span) ++ x0).length) c_9) hs rfl (by kernel_rfl) (by obtain rfl := Option.some.inj hm; exact ⟨A_8, c_9, rfl, (Own.to hs.own [0] 1 (by kernel_rfl) (by kernel_rfl))⟩)

structure Tapi_Trace where
  n : Int
  ops : List Tapi_Op
  blocks : List Tapi_Span
  deriving Inhabited
def Tapi_Trace.obj (x : Tapi_Trace) (Aops : Option Addr) (cops : Nat) (Ablocks : Option Addr) (cblocks : Nat) : Cells := [C.int .i64 x.n, C.slc Aops x.ops.length cops, C.slc Ablocks x.blocks.length cblocks]

abbrev wire_Machine_Trace.R (κ : Ctx) (S : List HP) (x0 : Twire_Machine) (b_x0 : Nat) (b_x0otape : Nat) (A_x0otapeowords : Option Addr) (c_x0otapeowords : Nat) (A_x0oops : Option Addr) (c_x0oops : Nat) (A_x0ovalues : Option Addr) (c_x0ovalues : Nat) (A_x0oblocks : Option Addr) (c_x0oblocks : Nat) (r : Tapi_Trace) : Ending → World → Prop := fun e w' => ∃ (A_r0ops : Option Addr), ∃ (c_r0ops : Nat), ∃ (A_r0blocks : Option Addr), ∃ (c_r0blocks : Nat), e = .returned (.agg (vals [C.int .i64 r.n, C.slc A_r0ops r.ops.length c_r0ops, C.slc A_r0blocks r.blocks.length c_r0blocks])) ∧ Own κ w' (rowp A_r0ops c_r0ops 32 6 Tapi_Op.cells r.ops :: rowp A_r0blocks c_r0blocks 144 3 Tapi_Span.cells r.blocks :: pt b_x0 (blk (Twire_Machine.obj x0 b_x0otape A_x0oops c_x0oops A_x0ovalues c_x0ovalues A_x0oblocks c_x0oblocks) 151) :: pt b_x0otape (blk (Ttape_Tape.obj x0.tape A_x0otapeowords c_x0otapeowords) 158) :: rowp A_x0otapeowords c_x0otapeowords 23 1 (eI .u64) x0.tape.words :: rowp A_x0oops c_x0oops 32 6 Tapi_Op.cells x0.ops :: rowp A_x0ovalues c_x0ovalues 23 1 (eI .u64) x0.values :: rowp A_x0oblocks c_x0oblocks 144 3 Tapi_Span.cells x0.blocks :: S)
def wire_Machine_Trace.m (k : Nat) (x0 : Twire_Machine) : Option Tapi_Trace := (slices_Clone_api_Op_api_Op.m k x0.ops).bind fun v_9 => (slices_Clone_api_Span_api_Span.m k x0.blocks).bind fun v_14 => some (⟨x0.n, v_9, v_14⟩ : Tapi_Trace)

set_option maxRecDepth 100000 in
set_option maxHeartbeats 4000000 in
theorem wire_Machine_Trace.ok (k : Nat) (x0 : Twire_Machine) (r : Tapi_Trace) (hm : wire_Machine_Trace.m k x0 = some r) (κ : Ctx) (w : World) (S : List HP) (b_x0 : Nat) (b_x0otape : Nat) (A_x0otapeowords : Option Addr) (c_x0otapeowords : Nat) (A_x0oops : Option Addr) (c_x0oops : Nat) (A_x0ovalues : Option Addr) (c_x0ovalues : Nat) (A_x0oblocks : Option Addr) (c_x0oblocks : Nat) (ho : Own κ w (pt b_x0 (blk (Twire_Machine.obj x0 b_x0otape A_x0oops c_x0oops A_x0ovalues c_x0ovalues A_x0oblocks c_x0oblocks) 151) :: pt b_x0otape (blk (Ttape_Tape.obj x0.tape A_x0otapeowords c_x0otapeowords) 158) :: rowp A_x0otapeowords c_x0otapeowords 23 1 (eI .u64) x0.tape.words :: rowp A_x0oops c_x0oops 32 6 Tapi_Op.cells x0.ops :: rowp A_x0ovalues c_x0ovalues 23 1 (eI .u64) x0.values :: rowp A_x0oblocks c_x0oblocks 144 3 Tapi_Span.cells x0.blocks :: S)) :
    Calls Try.prog 65 #[.pointer (some ⟨b_x0, 0, none⟩)] w (wire_Machine_Trace.R κ S x0 b_x0 b_x0otape A_x0otapeowords c_x0otapeowords A_x0oops c_x0oops A_x0ovalues c_x0ovalues A_x0oblocks c_x0oblocks r) := by
  unfold wire_Machine_Trace.m at hm
  refine Vk.enter [(0, .pointer (some ⟨b_x0, 0, none⟩))] Try.func65 rfl Try.ntmps65 (by kernel_rfl) (Nat.le_of_ble_eq_true (by kernel_rfl)) ho fun a hs => ?_
  refine Vk.seq fun K1 hK1 => ?_
  refine Vk.region ?_
  refine Vk.step (Vk.alloc 2 72 [C.int .i64 0, C.slc none 0 0, C.slc none 0 0] hs (by kernel_rfl) (by kernel_rfl) (by kernel_rfl) fun b_2 w a hs => ?_)
  replace hs := hs.pick [0, 2] (L' := [(0, .pointer (some ⟨b_x0, 0, none⟩)), (2, .pointer (some ⟨b_2, 0, none⟩))]) (by kernel_rfl)
  refine Vk.done (by kernel_rfl) ?_
  refine hK1 _ _ ?_
  clear hK1
  refine Vk.seq fun K3 hK3 => ?_
  refine Vk.seq fun K4 hK4 => ?_
  refine Vk.region ?_
  refine Vk.pures 2 [(4, .bool false), (3, .pointer (some ⟨b_x0, 0, none⟩))] hs (by kernel_rfl) fun a hs => ?_
  replace hs := hs.pick [0, 2, 4] (L' := [(0, .pointer (some ⟨b_x0, 0, none⟩)), (2, .pointer (some ⟨b_2, 0, none⟩)), (4, .bool false)]) (by kernel_rfl)
  refine Vk.done (by kernel_rfl) ?_
  refine hK4 _ _ ?_
  clear hK4
  refine Vk.condF hs (by kernel_rfl) (by kernel_rfl) ?_
  refine wp_skip ?_
  refine hK3 _ _ ?_
  clear hK3
  refine Vk.seq fun K5 hK5 => ?_
  obtain ⟨C_6, hC_6⟩ : ∃ X0 : List HP, X0 = (pt b_2 (blk [C.int .i64 0, C.slc none 0 0, C.slc none 0 0] 72) :: pt b_x0 (blk (Twire_Machine.obj x0 b_x0otape A_x0oops c_x0oops A_x0ovalues c_x0ovalues A_x0oblocks c_x0oblocks) 151) :: pt b_x0otape (blk (Ttape_Tape.obj x0.tape A_x0otapeowords c_x0otapeowords) 158) :: rowp A_x0otapeowords c_x0otapeowords 23 1 (eI .u64) x0.tape.words :: rowp A_x0oops c_x0oops 32 6 Tapi_Op.cells x0.ops :: rowp A_x0ovalues c_x0ovalues 23 1 (eI .u64) x0.values :: rowp A_x0oblocks c_x0oblocks 144 3 Tapi_Span.cells x0.blocks :: S) := ⟨_, rfl⟩
  refine Vk.drawnT 15 κ C_6 hs (by kernel_rfl) fun w hs => ?_
  have hcz : Own κ w (pt b_2 (blk [C.int .i64 0, C.slc none 0 0, C.slc none 0 0] 72) :: pt b_x0 (blk (Twire_Machine.obj x0 b_x0otape A_x0oops c_x0oops A_x0ovalues c_x0ovalues A_x0oblocks c_x0oblocks) 151) :: pt b_x0otape (blk (Ttape_Tape.obj x0.tape A_x0otapeowords c_x0otapeowords) 158) :: rowp A_x0otapeowords c_x0otapeowords 23 1 (eI .u64) x0.tape.words :: rowp A_x0oops c_x0oops 32 6 Tapi_Op.cells x0.ops :: rowp A_x0ovalues c_x0ovalues 23 1 (eI .u64) x0.values :: rowp A_x0oblocks c_x0oblocks 144 3 Tapi_Span.cells x0.blocks :: S) := (Own.to hs.own [0, 1, 2, 3, 4, 5, 6] 7 (by kernel_rfl) (by kernel_rfl))
  have hcl : Own κ w C_6 := by rw [hC_6]; exact hcz
  refine Vk.dPuresT [0, 1, 2, 4, 5, 6, 9, 10, 11] [(17, .pointer (some ⟨b_x0, 12, none⟩)), (16, .pointer (some ⟨b_x0, 0, none⟩)), (15, .pointer (some ⟨b_x0, 0, none⟩)), (12, .pointer (some ⟨b_x0, 10, none⟩)), (11, .pointer (some ⟨b_x0, 0, none⟩)), (10, .pointer (some ⟨b_x0, 0, none⟩)), (8, .pointer (some ⟨b_x0, 0, none⟩)), (7, .pointer (some ⟨b_x0, 0, none⟩)), (6, .pointer (some ⟨b_x0, 0, none⟩))] hs (by kernel_rfl) (by repeat' (first | exact Vk.Calm.post | refine Vk.Calm.then ?_ | refine Vk.Calm.inBlock ?_)) hcl (by kernel_rfl) (by kernel_rfl) (fuel := 7) rfl fun a hs => ?_
  refine Vk.dTakeT (i := 3) (some 9) (.int .i64 x0.n) hs (by kernel_rfl) (by repeat' (first | exact Vk.Calm.post | refine Vk.Calm.then ?_ | refine Vk.Calm.inBlock ?_)) hcl (by kernel_rfl) (by kernel_rfl) (op := (.load 3 (.tmp 8))) (by kernel_rfl) (by kernel_rfl) (fun w hw o ho => by rw [hC_6] at hw; exact run_load1 (b := b_x0) (off := 0) (c := C.int .i64 x0.n) ho (by kernel_rfl) (by kernel_rfl) (Cell.own 1 rfl (by kernel_rfl)) _ hw) fun a hs => ?_
  refine Vk.dTakeT (i := 7) (some 13) (.slice A_x0oops x0.ops.length c_x0oops) hs (by kernel_rfl) (by repeat' (first | exact Vk.Calm.post | refine Vk.Calm.then ?_ | refine Vk.Calm.inBlock ?_)) hcl (by kernel_rfl) (by kernel_rfl) (op := (.load 69 (.tmp 12))) (by kernel_rfl) (by kernel_rfl) (fun w hw o ho => by rw [hC_6] at hw; exact run_load1 (b := b_x0) (off := 10) (c := C.slc A_x0oops x0.ops.length c_x0oops) ho (by kernel_rfl) (by kernel_rfl) (Cell.own 1 rfl (by kernel_rfl)) _ hw) fun a hs => ?_
  refine Vk.dTakeT (i := 12) (some 18) (.slice A_x0oblocks x0.blocks.length c_x0oblocks) hs (by kernel_rfl) (by repeat' (first | exact Vk.Calm.post | refine Vk.Calm.then ?_ | refine Vk.Calm.inBlock ?_)) hcl (by kernel_rfl) (by kernel_rfl) (op := (.load 70 (.tmp 17))) (by kernel_rfl) (by kernel_rfl) (fun w hw o ho => by rw [hC_6] at hw; exact run_load1 (b := b_x0) (off := 12) (c := C.slc A_x0oblocks x0.blocks.length c_x0oblocks) ho (by kernel_rfl) (by kernel_rfl) (Cell.own 1 rfl (by kernel_rfl)) _ hw) fun a hs => ?_
  obtain ⟨v_9, h_8, hm⟩ := bind_t hm
  refine Vk.dOnly (i := 8) (by kernel_rfl) (Vk.call (some 14) 82 #[.slice A_x0oops x0.ops.length c_x0oops] hs (by kernel_rfl) (by kernel_rfl) (by kernel_rfl) ?_)
  refine (slices_Clone_api_Op_api_Op.ok k x0.ops v_9 h_8 κ w (pt b_2 (blk [C.int .i64 0, C.slc none 0 0, C.slc none 0 0] 72) :: pt b_x0 (blk (Twire_Machine.obj x0 b_x0otape A_x0oops c_x0oops A_x0ovalues c_x0ovalues A_x0oblocks c_x0oblocks) 151) :: pt b_x0otape (blk (Ttape_Tape.obj x0.tape A_x0otapeowords c_x0otapeowords) 158) :: rowp A_x0otapeowords c_x0otapeowords 23 1 (eI .u64) x0.tape.words :: rowp A_x0oops c_x0oops 32 6 Tapi_Op.cells x0.ops :: rowp A_x0ovalues c_x0ovalues 23 1 (eI .u64) x0.values :: rowp A_x0oblocks c_x0oblocks 144 3 Tapi_Span.cells x0.blocks :: S) A_x0oops c_x0oops (Sl.lift (fun w ho => (Own.to (S' := rowp A_x0oops c_x0oops 32 6 Tapi_Op.cells x0.ops :: S) ho [4] 7 (by kernel_rfl) (by kernel_rfl))) (Own.rowSl 0 (Own.to (S' := rowp A_x0oops c_x0oops 32 6 Tapi_Op.cells x0.ops :: S) hs.own [4] 7 (by kernel_rfl) (by kernel_rfl)) rfl)) hs.own).mono ?_
  rintro _ w ⟨Ar7x0_10, cr7x0_11, rfl, how⟩
  refine ⟨_, _, _, rfl, how, fun a hs => ?_⟩
  replace hcl : Own κ w C_6 := by rw [hC_6]; exact (Own.to hs.own [1, 2, 3, 4, 5, 6, 7] 8 (by kernel_rfl) (by kernel_rfl))
  refine ⟨fun _ => hcl, ?_⟩
  obtain ⟨v_14, h_13, hm⟩ := bind_t hm
  refine Vk.dOnly (i := 13) (by kernel_rfl) (Vk.call (some 19) 83 #[.slice A_x0oblocks x0.blocks.length c_x0oblocks] hs (by kernel_rfl) (by kernel_rfl) (by kernel_rfl) ?_)
  refine (slices_Clone_api_Span_api_Span.ok k x0.blocks v_14 h_13 κ w (rowp Ar7x0_10 cr7x0_11 32 6 Tapi_Op.cells v_9 :: pt b_2 (blk [C.int .i64 0, C.slc none 0 0, C.slc none 0 0] 72) :: pt b_x0 (blk (Twire_Machine.obj x0 b_x0otape A_x0oops c_x0oops A_x0ovalues c_x0ovalues A_x0oblocks c_x0oblocks) 151) :: pt b_x0otape (blk (Ttape_Tape.obj x0.tape A_x0otapeowords c_x0otapeowords) 158) :: rowp A_x0otapeowords c_x0otapeowords 23 1 (eI .u64) x0.tape.words :: rowp A_x0oops c_x0oops 32 6 Tapi_Op.cells x0.ops :: rowp A_x0ovalues c_x0ovalues 23 1 (eI .u64) x0.values :: rowp A_x0oblocks c_x0oblocks 144 3 Tapi_Span.cells x0.blocks :: S) A_x0oblocks c_x0oblocks ((Own.rowSl 0 hs.own.drop.drop.drop.drop.drop.drop.drop rfl).less.less.less.less.less.less.less) hs.own).mono ?_
  rintro _ w ⟨Ar12x0_15, cr12x0_16, rfl, how⟩
  refine ⟨_, _, _, rfl, how, fun a hs => ?_⟩
  replace hcl : Own κ w C_6 := by rw [hC_6]; exact (Own.to hs.own [2, 3, 4, 5, 6, 7, 8] 9 (by kernel_rfl) (by kernel_rfl))
  refine ⟨fun _ => hcl, ?_⟩
  refine Vk.dPuresT [14] [(20, .agg (vals [C.int .i64 x0.n, C.slc Ar7x0_10 v_9.length cr7x0_11, C.slc Ar12x0_15 v_14.length cr12x0_16]))] hs (by kernel_rfl) (by repeat' (first | exact Vk.Calm.post | refine Vk.Calm.then ?_ | refine Vk.Calm.inBlock ?_)) hcl (by kernel_rfl) (by kernel_rfl) (fuel := 1) rfl fun a hs => ?_
  refine Vk.dOnly (i := 15) (by kernel_rfl) (Vk.storeA (b := b_2) (ty := 72) (x := (.tmp 2)) (y := (.tmp 20)) (sz := 3) [C.int .i64 x0.n, C.slc Ar7x0_10 v_9.length cr7x0_11, C.slc Ar12x0_15 v_14.length cr12x0_16] 2 hs (by kernel_rfl) (by kernel_rfl) (by kernel_rfl) (by kernel_rfl) (by kernel_rfl) rfl (by kernel_rfl) rfl (Eq.trans (b := 3) rfl (Eq.symm rfl)) fun a w hs => ?_)
  refine ⟨fun h => absurd h (by decide), ?_⟩
  replace hs := hs.pick [2] (L' := [(2, .pointer (some ⟨b_2, 0, none⟩))]) (by kernel_rfl)
  refine Vk.dDone (by kernel_rfl) ?_
  refine hK5 _ _ ?_
  clear hK5
  refine wp_ret ?_
  exact Vk.retC (P := Try.prog) (fn := Try.f65) (R := wire_Machine_Trace.R κ S x0 b_x0 b_x0otape A_x0otapeowords c_x0otapeowords A_x0oops c_x0oops A_x0ovalues c_x0ovalues A_x0oblocks c_x0oblocks r) [C.int .i64 x0.n, C.slc Ar7x0_10 v_9.length cr7x0_11, C.slc Ar12x0_15 v_14.length cr12x0_16] hs rfl (by kernel_rfl) (sz := 3) (by kernel_rfl) rfl (CellsAt.all 2 rfl) (by obtain rfl := Option.some.inj hm; exact ⟨Ar7x0_10, cr7x0_11, Ar12x0_15, cr12x0_16, rfl, (Own.to hs.own [1, 0, 3, 4, 5, 6, 7, 8] 9 (by kernel_rfl) (by kernel_rfl))⟩)


abbrev wire_Machine_Values.R (κ : Ctx) (S : List HP) (x0 : Twire_Machine) (b_x0 : Nat) (b_x0otape : Nat) (A_x0otapeowords : Option Addr) (c_x0otapeowords : Nat) (A_x0oops : Option Addr) (c_x0oops : Nat) (A_x0ovalues : Option Addr) (c_x0ovalues : Nat) (A_x0oblocks : Option Addr) (c_x0oblocks : Nat) (r : List Int) : Ending → World → Prop := fun e w' => ∃ (A_r0 : Option Addr), ∃ (c_r0 : Nat), e = .returned (.slice A_r0 r.length c_r0) ∧ Own κ w' (rowp A_r0 c_r0 23 1 (eI .u64) r :: pt b_x0 (blk (Twire_Machine.obj x0 b_x0otape A_x0oops c_x0oops A_x0ovalues c_x0ovalues A_x0oblocks c_x0oblocks) 151) :: pt b_x0otape (blk (Ttape_Tape.obj x0.tape A_x0otapeowords c_x0otapeowords) 158) :: rowp A_x0otapeowords c_x0otapeowords 23 1 (eI .u64) x0.tape.words :: rowp A_x0oops c_x0oops 32 6 Tapi_Op.cells x0.ops :: rowp A_x0ovalues c_x0ovalues 23 1 (eI .u64) x0.values :: rowp A_x0oblocks c_x0oblocks 144 3 Tapi_Span.cells x0.blocks :: S)
def wire_Machine_Values.m (k : Nat) (x0 : Twire_Machine) : Option (List Int) := (slices_Clone_uint64_uint64.m k x0.values).bind fun v_7 => some v_7

set_option maxRecDepth 100000 in
set_option maxHeartbeats 4000000 in
theorem wire_Machine_Values.ok (k : Nat) (x0 : Twire_Machine) (r : List Int) (hm : wire_Machine_Values.m k x0 = some r) (κ : Ctx) (w : World) (S : List HP) (b_x0 : Nat) (b_x0otape : Nat) (A_x0otapeowords : Option Addr) (c_x0otapeowords : Nat) (A_x0oops : Option Addr) (c_x0oops : Nat) (A_x0ovalues : Option Addr) (c_x0ovalues : Nat) (A_x0oblocks : Option Addr) (c_x0oblocks : Nat) (ho : Own κ w (pt b_x0 (blk (Twire_Machine.obj x0 b_x0otape A_x0oops c_x0oops A_x0ovalues c_x0ovalues A_x0oblocks c_x0oblocks) 151) :: pt b_x0otape (blk (Ttape_Tape.obj x0.tape A_x0otapeowords c_x0otapeowords) 158) :: rowp A_x0otapeowords c_x0otapeowords 23 1 (eI .u64) x0.tape.words :: rowp A_x0oops c_x0oops 32 6 Tapi_Op.cells x0.ops :: rowp A_x0ovalues c_x0ovalues 23 1 (eI .u64) x0.values :: rowp A_x0oblocks c_x0oblocks 144 3 Tapi_Span.cells x0.blocks :: S)) :
    Calls Try.prog 53 #[.pointer (some ⟨b_x0, 0, none⟩)] w (wire_Machine_Values.R κ S x0 b_x0 b_x0otape A_x0otapeowords c_x0otapeowords A_x0oops c_x0oops A_x0ovalues c_x0ovalues A_x0oblocks c_x0oblocks r) := by
  unfold wire_Machine_Values.m at hm
  refine Vk.enter [(0, .pointer (some ⟨b_x0, 0, none⟩))] Try.func53 rfl Try.ntmps53 (by kernel_rfl) (Nat.le_of_ble_eq_true (by kernel_rfl)) ho fun a hs => ?_
  refine Vk.seq fun K1 hK1 => ?_
  refine Vk.region ?_
  refine Vk.pures 1 [(2, .slice none 0 0)] hs (by kernel_rfl) fun a hs => ?_
  replace hs := hs.pick [0] (L' := [(0, .pointer (some ⟨b_x0, 0, none⟩))]) (by kernel_rfl)
  refine Vk.done (by kernel_rfl) ?_
  refine hK1 _ _ ?_
  clear hK1
  refine Vk.seq fun K2 hK2 => ?_
  refine Vk.seq fun K3 hK3 => ?_
  refine Vk.region ?_
  refine Vk.pures 2 [(4, .bool false), (3, .pointer (some ⟨b_x0, 0, none⟩))] hs (by kernel_rfl) fun a hs => ?_
  replace hs := hs.pick [0, 4] (L' := [(0, .pointer (some ⟨b_x0, 0, none⟩)), (4, .bool false)]) (by kernel_rfl)
  refine Vk.done (by kernel_rfl) ?_
  refine hK3 _ _ ?_
  clear hK3
  refine Vk.condF hs (by kernel_rfl) (by kernel_rfl) ?_
  refine wp_skip ?_
  refine hK2 _ _ ?_
  clear hK2
  refine Vk.seq fun K4 hK4 => ?_
  refine Vk.region ?_
  refine Vk.pures 3 [(7, .pointer (some ⟨b_x0, 11, none⟩)), (6, .pointer (some ⟨b_x0, 0, none⟩)), (5, .pointer (some ⟨b_x0, 0, none⟩))] hs (by kernel_rfl) fun a hs => ?_
  refine Vk.step (Vk.value (some 8) (.slice A_x0ovalues x0.values.length c_x0ovalues) hs (by kernel_rfl) (op := (.load 73 (.tmp 7))) (by kernel_rfl) (fun o ho => run_load1 (b := b_x0) (off := 11) (c := C.slc A_x0ovalues x0.values.length c_x0ovalues) ho (by kernel_rfl) (by kernel_rfl) (Cell.own 0 rfl (by kernel_rfl)) _ hs.own) fun a hs => ?_)
  obtain ⟨v_7, h_6, hm⟩ := bind_t hm
  refine Vk.step (Vk.call (some 9) 90 #[.slice A_x0ovalues x0.values.length c_x0ovalues] hs (by kernel_rfl) (by kernel_rfl) (by kernel_rfl) ?_)
  refine (slices_Clone_uint64_uint64.ok k x0.values v_7 h_6 κ w (pt b_x0 (blk (Twire_Machine.obj x0 b_x0otape A_x0oops c_x0oops A_x0ovalues c_x0ovalues A_x0oblocks c_x0oblocks) 151) :: pt b_x0otape (blk (Ttape_Tape.obj x0.tape A_x0otapeowords c_x0otapeowords) 158) :: rowp A_x0otapeowords c_x0otapeowords 23 1 (eI .u64) x0.tape.words :: rowp A_x0oops c_x0oops 32 6 Tapi_Op.cells x0.ops :: rowp A_x0ovalues c_x0ovalues 23 1 (eI .u64) x0.values :: rowp A_x0oblocks c_x0oblocks 144 3 Tapi_Span.cells x0.blocks :: S) A_x0ovalues c_x0ovalues (Sl.lift (fun w ho => (Own.to (S' := rowp A_x0ovalues c_x0ovalues 23 1 (eI .u64) x0.values :: S) ho [4] 6 (by kernel_rfl) (by kernel_rfl))) (Own.rowSl 0 (Own.to (S' := rowp A_x0ovalues c_x0ovalues 23 1 (eI .u64) x0.values :: S) hs.own [4] 6 (by kernel_rfl) (by kernel_rfl)) rfl)) hs.own).mono ?_
  rintro _ w ⟨Ar5x0_8, cr5x0_9, rfl, how⟩
  refine ⟨_, _, _, rfl, how, fun a hs => ?_⟩
  refine Vk.pures 1 [(2, .slice Ar5x0_8 v_7.length cr5x0_9)] hs (by kernel_rfl) fun a hs => ?_
  replace hs := hs.pick [2] (L' := [(2, .slice Ar5x0_8 v_7.length cr5x0_9)]) (by kernel_rfl)
  refine Vk.done (by kernel_rfl) ?_
  refine hK4 _ _ ?_
  clear hK4
  refine wp_ret ?_
  exact Vk.ret1 (P := Try.prog) (fn := Try.f53) (R := wire_Machine_Values.R κ S x0 b_x0 b_x0otape A_x0otapeowords c_x0otapeowords A_x0oops c_x0oops A_x0ovalues c_x0ovalues A_x0oblocks c_x0oblocks r) (.slice Ar5x0_8 v_7.length cr5x0_9) hs rfl (by kernel_rfl) (by obtain rfl := Option.some.inj hm; exact ⟨Ar5x0_8, cr5x0_9, rfl, (Own.to hs.own [0, 1, 2, 3, 4, 5, 6] 7 (by kernel_rfl) (by kernel_rfl))⟩)


def visorref17_Regs.j2 (k : Nat) (x0 : Int) (x1 : Int) (p_19 : Bool) : Option (Int) := (bif p_19 then some 1 else (bif x0 == 12 then some x1 else some 0))
def visorref17_Regs.j1 (k : Nat) (x0 : Int) (x1 : Int) (p_12 : Bool) : Option (Int) := (bif p_12 then some 2 else (bif x0 == 6 then visorref17_Regs.j2 k x0 x1 (x0 == 6) else (bif x0 == 8 then visorref17_Regs.j2 k x0 x1 (x0 == 8) else (bif x0 == 9 then visorref17_Regs.j2 k x0 x1 (x0 == 9) else (bif x0 == 10 then visorref17_Regs.j2 k x0 x1 (x0 == 10) else visorref17_Regs.j2 k x0 x1 (x0 == 11))))))
abbrev visorref17_Regs.R (κ : Ctx) (S : List HP) (x0 : Int) (x1 : Int) (r : Int) : Ending → World → Prop := fun e w' => e = .returned (.int .i64 r) ∧ Own κ w' (S)
def visorref17_Regs.m (k : Nat) (x0 : Int) (x1 : Int) : Option Int := (bif (x1 != 2) && (x1 != 3) then some 0 else (bif x0 == 2 then some (IntKind.i64.wrap (x1 - 1)) else (bif x0 == 5 then visorref17_Regs.j1 k x0 x1 (x0 == 5) else visorref17_Regs.j1 k x0 x1 (x0 == 7))))

set_option maxRecDepth 100000 in
set_option maxHeartbeats 4000000 in
theorem visorref17_Regs.ok (k : Nat) (x0 : Int) (x1 : Int) (r : Int) (hm : visorref17_Regs.m k x0 x1 = some r) (κ : Ctx) (w : World) (S : List HP) (ho : Own κ w (S)) :
    Calls Try.prog 118 #[.int .i64 x0, .int .i64 x1] w (visorref17_Regs.R κ S x0 x1 r) := by
  unfold visorref17_Regs.m at hm
  refine Vk.enter [(0, .int .i64 x0), (1, .int .i64 x1)] Try.func118 rfl Try.ntmps118 (by kernel_rfl) (Nat.le_of_ble_eq_true (by kernel_rfl)) ho fun a hs => ?_
  refine Vk.seq fun K1 hK1 => ?_
  refine Vk.region ?_
  refine Vk.pures 1 [(4, .int .i64 0)] hs (by kernel_rfl) fun a hs => ?_
  replace hs := hs.pick [0, 1] (L' := [(0, .int .i64 x0), (1, .int .i64 x1)]) (by kernel_rfl)
  refine Vk.done (by kernel_rfl) ?_
  refine hK1 _ _ ?_
  clear hK1
  refine Vk.seq fun K2 hK2 => ?_
  refine Vk.seq fun K3 hK3 => ?_
  refine Vk.region ?_
  refine Vk.pures 3 [(7, .bool (x1 != 2)), (6, .bool (x1 != 2)), (5, .int .i64 x1)] hs (by kernel_rfl) fun a hs => ?_
  suffices hj_4 : ∀ a, St 28 a w κ [(0, .int .i64 x0), (1, .int .i64 x1), (5, .int .i64 x1), (6, .bool (x1 != 2)), (7, .bool (x1 != 2)), (10, .bool ((x1 != 2) && (x1 != 3)))] (S) → wpFrom Try.prog _ _ 6 a w by
    rcases Bool.eq_false_or_eq_true (x1 != 2) with hb | hb
    · replace hs := hs.known (t := 7) hb (by kernel_rfl)
      refine Vk.pures 3 [(10, .bool (x1 != 3)), (9, .bool (x1 != 3)), (8, .int .i64 x1)] hs (by kernel_rfl) fun a hs => ?_
      have hq := hs.pick [0, 1, 5, 6, 7, 10] (L' := [(0, .int .i64 x0), (1, .int .i64 x1), (5, .int .i64 x1), (6, .bool (x1 != 2)), (7, .bool true), (10, .bool (x1 != 3))]) (by kernel_rfl)
      exact hj_4 _ (hq.conv (by first | (rw [hb] <;> rfl) | rfl))
    · replace hs := hs.known (t := 7) hb (by kernel_rfl)
      refine Vk.pures 3 [(10, .bool false), (9, undef), (8, undef)] hs (by kernel_rfl) fun a hs => ?_
      have hq := hs.pick [0, 1, 5, 6, 7, 10] (L' := [(0, .int .i64 x0), (1, .int .i64 x1), (5, .int .i64 x1), (6, .bool (x1 != 2)), (7, .bool false), (10, .bool false)]) (by kernel_rfl)
      exact hj_4 _ (hq.conv (by first | (rw [hb] <;> rfl) | rfl))
  intro a hs
  replace hs := hs.pick [0, 1, 10] (L' := [(0, .int .i64 x0), (1, .int .i64 x1), (10, .bool ((x1 != 2) && (x1 != 3)))]) (by kernel_rfl)
  refine Vk.done (by kernel_rfl) ?_
  refine hK3 _ _ ?_
  clear hK3
  refine Vk.condS (b := (x1 != 2) && (x1 != 3)) hs (by kernel_rfl) (by kernel_rfl) (fun hb => ?_) (fun hb => ?_)
  · replace hm := bif_t hm hb
    refine Vk.seq fun K5 hK5 => ?_
    refine Vk.region ?_
    refine Vk.pures 1 [(4, .int .i64 0)] hs (by kernel_rfl) fun a hs => ?_
    replace hs := hs.pick [4] (L' := [(4, .int .i64 0)]) (by kernel_rfl)
    refine Vk.done (by kernel_rfl) ?_
    refine hK5 _ _ ?_
    clear hK5
    refine wp_ret ?_
    exact Vk.ret1 (P := Try.prog) (fn := Try.f118) (R := visorref17_Regs.R κ S x0 x1 r) (.int .i64 0) hs rfl (by kernel_rfl) (by obtain rfl := Option.some.inj hm; exact ⟨rfl, (Own.to hs.own [] 0 (by kernel_rfl) (by kernel_rfl))⟩)
  · replace hm := bif_f hm hb
    refine wp_skip ?_
    refine hK2 _ _ ?_
    clear hK2
    refine Vk.seq fun K6 hK6 => ?_
    refine Vk.seq fun K7 hK7 => ?_
    refine Vk.region ?_
    refine Vk.pures 1 [(11, .int .i64 x0)] hs (by kernel_rfl) fun a hs => ?_
    replace hs := hs.pick [1, 11] (L' := [(1, .int .i64 x1), (11, .int .i64 x0)]) (by kernel_rfl)
    refine Vk.done (by kernel_rfl) ?_
    refine hK7 _ _ ?_
    clear hK7
    refine wp_block ?_
    refine Vk.seq fun K8 hK8 => ?_
    refine Vk.region ?_
    refine Vk.pures 2 [(12, .bool (x0 == 2)), (13, .bool (x0 == 2))] hs (by kernel_rfl) fun a hs => ?_
    replace hs := hs.pick [1, 11, 12] (L' := [(1, .int .i64 x1), (11, .int .i64 x0), (12, .bool (x0 == 2))]) (by kernel_rfl)
    refine Vk.done (by kernel_rfl) ?_
    refine hK8 _ _ ?_
    clear hK8
    refine Vk.condS (b := x0 == 2) hs (by kernel_rfl) (by kernel_rfl) (fun hb => ?_) (fun hb => ?_)
    · replace hm := bif_t hm hb
      refine Vk.seq fun K9 hK9 => ?_
      refine Vk.region ?_
      refine Vk.pures 3 [(4, .int .i64 (IntKind.i64.wrap (x1 - 1))), (15, .int .i64 (IntKind.i64.wrap (x1 - 1))), (14, .int .i64 x1)] hs (by kernel_rfl) fun a hs => ?_
      replace hs := hs.pick [4] (L' := [(4, .int .i64 (IntKind.i64.wrap (x1 - 1)))]) (by kernel_rfl)
      refine Vk.done (by kernel_rfl) ?_
      refine hK9 _ _ ?_
      clear hK9
      refine wp_ret ?_
      exact Vk.ret1 (P := Try.prog) (fn := Try.f118) (R := visorref17_Regs.R κ S x0 x1 r) (.int .i64 (IntKind.i64.wrap (x1 - 1))) hs rfl (by kernel_rfl) (by obtain rfl := Option.some.inj hm; exact ⟨rfl, (Own.to hs.own [] 0 (by kernel_rfl) (by kernel_rfl))⟩)
    · replace hm := bif_f hm hb
      refine Vk.seq fun K10 hK10 => ?_
      have hj10 : ∀ (p_12 : Bool), visorref17_Regs.j1 k x0 x1 p_12 = some r → ∀ (a : Act) (w : World), St 28 a w κ [(1, .int .i64 x1), (11, .int .i64 x0), (16, .bool p_12)] (S) → K10 a w := by
        intro p_12 hm a w hs
        unfold visorref17_Regs.j1 at hm
        refine hK10 _ _ ?_
        refine Vk.condS (b := p_12) hs (by kernel_rfl) (by kernel_rfl) (fun hb => ?_) (fun hb => ?_)
        · replace hm := bif_t hm hb
          refine Vk.seq fun K13 hK13 => ?_
          refine Vk.region ?_
          refine Vk.pures 1 [(4, .int .i64 2)] hs (by kernel_rfl) fun a hs => ?_
          replace hs := hs.pick [4] (L' := [(4, .int .i64 2)]) (by kernel_rfl)
          refine Vk.done (by kernel_rfl) ?_
          refine hK13 _ _ ?_
          clear hK13
          refine wp_ret ?_
          exact Vk.ret1 (P := Try.prog) (fn := Try.f118) (R := visorref17_Regs.R κ S x0 x1 r) (.int .i64 2) hs rfl (by kernel_rfl) (by obtain rfl := Option.some.inj hm; exact ⟨rfl, (Own.to hs.own [] 0 (by kernel_rfl) (by kernel_rfl))⟩)
        · replace hm := bif_f hm hb
          refine Vk.seq fun K14 hK14 => ?_
          have hj14 : ∀ (p_19 : Bool), visorref17_Regs.j2 k x0 x1 p_19 = some r → ∀ (a : Act) (w : World), St 28 a w κ [(1, .int .i64 x1), (11, .int .i64 x0), (19, .bool p_19)] (S) → K14 a w := by
            intro p_19 hm a w hs
            unfold visorref17_Regs.j2 at hm
            refine hK14 _ _ ?_
            refine Vk.condS (b := p_19) hs (by kernel_rfl) (by kernel_rfl) (fun hb => ?_) (fun hb => ?_)
            · replace hm := bif_t hm hb
              refine Vk.seq fun K20 hK20 => ?_
              refine Vk.region ?_
              refine Vk.pures 1 [(4, .int .i64 1)] hs (by kernel_rfl) fun a hs => ?_
              replace hs := hs.pick [4] (L' := [(4, .int .i64 1)]) (by kernel_rfl)
              refine Vk.done (by kernel_rfl) ?_
              refine hK20 _ _ ?_
              clear hK20
              refine wp_ret ?_
              exact Vk.ret1 (P := Try.prog) (fn := Try.f118) (R := visorref17_Regs.R κ S x0 x1 r) (.int .i64 1) hs rfl (by kernel_rfl) (by obtain rfl := Option.some.inj hm; exact ⟨rfl, (Own.to hs.own [] 0 (by kernel_rfl) (by kernel_rfl))⟩)
            · replace hm := bif_f hm hb
              refine Vk.seq fun K21 hK21 => ?_
              refine Vk.region ?_
              refine Vk.pures 2 [(25, .bool (x0 == 12)), (26, .bool (x0 == 12))] hs (by kernel_rfl) fun a hs => ?_
              replace hs := hs.pick [1, 25] (L' := [(1, .int .i64 x1), (25, .bool (x0 == 12))]) (by kernel_rfl)
              refine Vk.done (by kernel_rfl) ?_
              refine hK21 _ _ ?_
              clear hK21
              refine Vk.condS (b := x0 == 12) hs (by kernel_rfl) (by kernel_rfl) (fun hb => ?_) (fun hb => ?_)
              · replace hm := bif_t hm hb
                refine Vk.seq fun K22 hK22 => ?_
                refine Vk.region ?_
                refine Vk.pures 2 [(4, .int .i64 x1), (27, .int .i64 x1)] hs (by kernel_rfl) fun a hs => ?_
                replace hs := hs.pick [4] (L' := [(4, .int .i64 x1)]) (by kernel_rfl)
                refine Vk.done (by kernel_rfl) ?_
                refine hK22 _ _ ?_
                clear hK22
                refine wp_ret ?_
                exact Vk.ret1 (P := Try.prog) (fn := Try.f118) (R := visorref17_Regs.R κ S x0 x1 r) (.int .i64 x1) hs rfl (by kernel_rfl) (by obtain rfl := Option.some.inj hm; exact ⟨rfl, (Own.to hs.own [] 0 (by kernel_rfl) (by kernel_rfl))⟩)
              · replace hm := bif_f hm hb
                refine wp_skip ?_
                refine hK6 _ _ ?_
                clear hK6
                refine Vk.seq fun K23 hK23 => ?_
                refine Vk.region ?_
                refine Vk.pures 1 [(4, .int .i64 0)] hs (by kernel_rfl) fun a hs => ?_
                replace hs := hs.pick [4] (L' := [(4, .int .i64 0)]) (by kernel_rfl)
                refine Vk.done (by kernel_rfl) ?_
                refine hK23 _ _ ?_
                clear hK23
                refine wp_ret ?_
                exact Vk.ret1 (P := Try.prog) (fn := Try.f118) (R := visorref17_Regs.R κ S x0 x1 r) (.int .i64 0) hs rfl (by kernel_rfl) (by obtain rfl := Option.some.inj hm; exact ⟨rfl, (Own.to hs.own [] 0 (by kernel_rfl) (by kernel_rfl))⟩)
          refine Vk.seq fun K15 hK15 => ?_
          refine Vk.region ?_
          refine Vk.pures 2 [(19, .bool (x0 == 6)), (20, .bool (x0 == 6))] hs (by kernel_rfl) fun a hs => ?_
          replace hs := hs.pick [1, 11, 19] (L' := [(1, .int .i64 x1), (11, .int .i64 x0), (19, .bool (x0 == 6))]) (by kernel_rfl)
          refine Vk.done (by kernel_rfl) ?_
          refine hK15 _ _ ?_
          clear hK15
          refine Vk.condS (b := x0 == 6) hs (by kernel_rfl) (by kernel_rfl) (fun hb => ?_) (fun hb => ?_)
          · replace hm := bif_t hm hb
            refine wp_skip ?_
            exact hj14 (x0 == 6) hm _ _ (hs.go [1, 11, 19] [] 0 (by kernel_rfl) (by kernel_rfl) (by kernel_rfl))
          · replace hm := bif_f hm hb
            refine Vk.seq fun K16 hK16 => ?_
            refine Vk.region ?_
            refine Vk.pures 2 [(19, .bool (x0 == 8)), (21, .bool (x0 == 8))] hs (by kernel_rfl) fun a hs => ?_
            replace hs := hs.pick [1, 11, 19] (L' := [(1, .int .i64 x1), (11, .int .i64 x0), (19, .bool (x0 == 8))]) (by kernel_rfl)
            refine Vk.done (by kernel_rfl) ?_
            refine hK16 _ _ ?_
            clear hK16
            refine Vk.condS (b := x0 == 8) hs (by kernel_rfl) (by kernel_rfl) (fun hb => ?_) (fun hb => ?_)
            · replace hm := bif_t hm hb
              refine wp_skip ?_
              exact hj14 (x0 == 8) hm _ _ (hs.go [1, 11, 19] [] 0 (by kernel_rfl) (by kernel_rfl) (by kernel_rfl))
            · replace hm := bif_f hm hb
              refine Vk.seq fun K17 hK17 => ?_
              refine Vk.region ?_
              refine Vk.pures 2 [(19, .bool (x0 == 9)), (22, .bool (x0 == 9))] hs (by kernel_rfl) fun a hs => ?_
              replace hs := hs.pick [1, 11, 19] (L' := [(1, .int .i64 x1), (11, .int .i64 x0), (19, .bool (x0 == 9))]) (by kernel_rfl)
              refine Vk.done (by kernel_rfl) ?_
              refine hK17 _ _ ?_
              clear hK17
              refine Vk.condS (b := x0 == 9) hs (by kernel_rfl) (by kernel_rfl) (fun hb => ?_) (fun hb => ?_)
              · replace hm := bif_t hm hb
                refine wp_skip ?_
                exact hj14 (x0 == 9) hm _ _ (hs.go [1, 11, 19] [] 0 (by kernel_rfl) (by kernel_rfl) (by kernel_rfl))
              · replace hm := bif_f hm hb
                refine Vk.seq fun K18 hK18 => ?_
                refine Vk.region ?_
                refine Vk.pures 2 [(19, .bool (x0 == 10)), (23, .bool (x0 == 10))] hs (by kernel_rfl) fun a hs => ?_
                replace hs := hs.pick [1, 11, 19] (L' := [(1, .int .i64 x1), (11, .int .i64 x0), (19, .bool (x0 == 10))]) (by kernel_rfl)
                refine Vk.done (by kernel_rfl) ?_
                refine hK18 _ _ ?_
                clear hK18
                refine Vk.condS (b := x0 == 10) hs (by kernel_rfl) (by kernel_rfl) (fun hb => ?_) (fun hb => ?_)
                · replace hm := bif_t hm hb
                  refine wp_skip ?_
                  exact hj14 (x0 == 10) hm _ _ (hs.go [1, 11, 19] [] 0 (by kernel_rfl) (by kernel_rfl) (by kernel_rfl))
                · replace hm := bif_f hm hb
                  refine Vk.region ?_
                  refine Vk.pures 2 [(19, .bool (x0 == 11)), (24, .bool (x0 == 11))] hs (by kernel_rfl) fun a hs => ?_
                  replace hs := hs.pick [1, 11, 19] (L' := [(1, .int .i64 x1), (11, .int .i64 x0), (19, .bool (x0 == 11))]) (by kernel_rfl)
                  refine Vk.done (by kernel_rfl) ?_
                  exact hj14 (x0 == 11) hm _ _ (hs.go [1, 11, 19] [] 0 (by kernel_rfl) (by kernel_rfl) (by kernel_rfl))
      refine Vk.seq fun K11 hK11 => ?_
      refine Vk.region ?_
      refine Vk.pures 2 [(16, .bool (x0 == 5)), (17, .bool (x0 == 5))] hs (by kernel_rfl) fun a hs => ?_
      replace hs := hs.pick [1, 11, 16] (L' := [(1, .int .i64 x1), (11, .int .i64 x0), (16, .bool (x0 == 5))]) (by kernel_rfl)
      refine Vk.done (by kernel_rfl) ?_
      refine hK11 _ _ ?_
      clear hK11
      refine Vk.condS (b := x0 == 5) hs (by kernel_rfl) (by kernel_rfl) (fun hb => ?_) (fun hb => ?_)
      · replace hm := bif_t hm hb
        refine wp_skip ?_
        exact hj10 (x0 == 5) hm _ _ (hs.go [1, 11, 16] [] 0 (by kernel_rfl) (by kernel_rfl) (by kernel_rfl))
      · replace hm := bif_f hm hb
        refine Vk.region ?_
        refine Vk.pures 2 [(16, .bool (x0 == 7)), (18, .bool (x0 == 7))] hs (by kernel_rfl) fun a hs => ?_
        replace hs := hs.pick [1, 11, 16] (L' := [(1, .int .i64 x1), (11, .int .i64 x0), (16, .bool (x0 == 7))]) (by kernel_rfl)
        refine Vk.done (by kernel_rfl) ?_
        exact hj10 (x0 == 7) hm _ _ (hs.go [1, 11, 16] [] 0 (by kernel_rfl) (by kernel_rfl) (by kernel_rfl))


def visorref17_Right.j3 (k : Nat) (x0 : Tapi_Op) (p_67 : Bool) : Option (Bool) := (bif p_67 then some true else some (x0.c == 0))
def visorref17_Right.j2 (k : Nat) (x0 : Tapi_Op) (p_60 : Bool) : Option (Bool) := (bif p_60 then some (decide (x0.c < 64)) else (bif x0.kind == 2 then some (decide (x0.c < 1048576)) else (bif x0.kind == 3 then visorref17_Right.j3 k x0 (x0.kind == 3) else (bif x0.kind == 4 then visorref17_Right.j3 k x0 (x0.kind == 4) else visorref17_Right.j3 k x0 (x0.kind == 8)))))
def visorref17_Right.l1 (x0 : Tapi_Op) (x1 : Int) (x2 : Int) : Nat → Int → Option (Sum (Bool) (Unit))
  | 0, _ => none
  | k + 1, q_17 => (bif decide (q_17 < 3) then (visorref17_Regs.m k x0.kind x2).bind fun v_24 => (bif decide (q_17 < v_24) then (if 0 ≤ q_17 ∧ q_17 < 3 then (getI .i64 [C.int .i64 x0.a, C.int .i64 x0.b, C.int .i64 x0.d] (0 + q_17.toNat * 1)).bind fun v_28 => (bif decide (v_28 < 0) then some (.inl false) else (if 0 ≤ q_17 ∧ q_17 < 3 then (getI .i64 [C.int .i64 x0.a, C.int .i64 x0.b, C.int .i64 x0.d] (0 + q_17.toNat * 1)).bind fun v_32 => (bif decide (v_32 ≥ x1) then some (.inl false) else (visorref17_Regs.m k x0.kind x2).bind fun v_35 => (bif decide (q_17 ≥ v_35) then (if 0 ≤ q_17 ∧ q_17 < 3 then (getI .i64 [C.int .i64 x0.a, C.int .i64 x0.b, C.int .i64 x0.d] (0 + q_17.toNat * 1)).bind fun v_39 => (bif v_39 != (-1) then some (.inl false) else visorref17_Right.l1 x0 x1 x2 k (IntKind.i64.wrap (q_17 + 1))) else none) else visorref17_Right.l1 x0 x1 x2 k (IntKind.i64.wrap (q_17 + 1)))) else none)) else none) else (visorref17_Regs.m k x0.kind x2).bind fun v_42 => (bif decide (q_17 ≥ v_42) then (if 0 ≤ q_17 ∧ q_17 < 3 then (getI .i64 [C.int .i64 x0.a, C.int .i64 x0.b, C.int .i64 x0.d] (0 + q_17.toNat * 1)).bind fun v_46 => (bif v_46 != (-1) then some (.inl false) else visorref17_Right.l1 x0 x1 x2 k (IntKind.i64.wrap (q_17 + 1))) else none) else visorref17_Right.l1 x0 x1 x2 k (IntKind.i64.wrap (q_17 + 1)))) else some (.inr ()))
def visorref17_Right.j1 (k : Nat) (x0 : Tapi_Op) (x1 : Int) (x2 : Int) (p_10 : Bool) : Option (Bool) := (bif p_10 then some false else (visorref17_Right.l1 x0 x1 x2 k 0).bind fun x => match x with | .inl v => some v | .inr () => (bif x0.kind == 9 then visorref17_Right.j2 k x0 (x0.kind == 9) else (bif x0.kind == 10 then visorref17_Right.j2 k x0 (x0.kind == 10) else visorref17_Right.j2 k x0 (x0.kind == 11))))
abbrev visorref17_Right.R (κ : Ctx) (S : List HP) (x0 : Tapi_Op) (x1 : Int) (x2 : Int) (r : Bool) : Ending → World → Prop := fun e w' => e = .returned (.bool r) ∧ Own κ w' (S)
def visorref17_Right.m (k : Nat) (x0 : Tapi_Op) (x1 : Int) (x2 : Int) : Option Bool := (bif (((((x2 != 2) && (x2 != 3)) || (decide (x0.kind < 1))) || (decide (x0.kind > 12))) || (decide (x0.dom < (-1)))) || (decide (x0.dom ≥ x2)) then visorref17_Right.j1 k x0 x1 x2 true else (bif x0.kind == 12 then visorref17_Right.j1 k x0 x1 x2 (x0.dom != (-1)) else visorref17_Right.j1 k x0 x1 x2 false))

set_option maxRecDepth 100000 in
set_option maxHeartbeats 4000000 in
theorem visorref17_Right.ok (k : Nat) (x0 : Tapi_Op) (x1 : Int) (x2 : Int) (r : Bool) (hm : visorref17_Right.m k x0 x1 x2 = some r) (κ : Ctx) (w : World) (S : List HP) (ho : Own κ w (S)) :
    Calls Try.prog 85 #[.agg (vals [C.int .i64 x0.kind, C.int .i64 x0.dom, C.int .i64 x0.a, C.int .i64 x0.b, C.int .i64 x0.d, C.int .u64 x0.c]), .int .i64 x1, .int .i64 x2] w (visorref17_Right.R κ S x0 x1 x2 r) := by
  unfold visorref17_Right.m at hm
  refine Vk.enter [(0, .agg (vals [C.int .i64 x0.kind, C.int .i64 x0.dom, C.int .i64 x0.a, C.int .i64 x0.b, C.int .i64 x0.d, C.int .u64 x0.c])), (1, .int .i64 x1), (2, .int .i64 x2)] Try.func85 rfl Try.ntmps85 (by kernel_rfl) (Nat.le_of_ble_eq_true (by kernel_rfl)) ho fun a hs => ?_
  refine Vk.seq fun K1 hK1 => ?_
  refine Vk.region ?_
  refine Vk.step (Vk.box (x := (.tmp 0)) 3 32 [C.int .i64 x0.kind, C.int .i64 x0.dom, C.int .i64 x0.a, C.int .i64 x0.b, C.int .i64 x0.d, C.int .u64 x0.c] hs (by kernel_rfl) (by kernel_rfl) (by kernel_rfl) fun b_2 w a hs => ?_)
  refine Vk.pures 1 [(6, .bool false)] hs (by kernel_rfl) fun a hs => ?_
  replace hs := hs.pick [1, 2, 3] (L' := [(1, .int .i64 x1), (2, .int .i64 x2), (3, .pointer (some ⟨b_2, 0, none⟩))]) (by kernel_rfl)
  refine Vk.done (by kernel_rfl) ?_
  refine hK1 _ _ ?_
  clear hK1
  refine Vk.seq fun K3 hK3 => ?_
  refine Vk.seq fun K4 hK4 => ?_
  have hj4 : ∀ (p_10 : Bool), visorref17_Right.j1 k x0 x1 x2 p_10 = some r → ∀ (a : Act) (w : World), St 111 a w κ [(1, .int .i64 x1), (2, .int .i64 x2), (3, .pointer (some ⟨b_2, 0, none⟩)), (45, .bool p_10)] (pt b_2 (blk (Tapi_Op.cells x0) 32) :: S) → K4 a w := by
    intro p_10 hm a w hs
    unfold visorref17_Right.j1 at hm
    refine hK4 _ _ ?_
    refine Vk.condS (b := p_10) hs (by kernel_rfl) (by kernel_rfl) (fun hb => ?_) (fun hb => ?_)
    · replace hm := bif_t hm hb
      refine Vk.seq fun K11 hK11 => ?_
      refine Vk.region ?_
      refine Vk.pures 1 [(6, .bool false)] hs (by kernel_rfl) fun a hs => ?_
      replace hs := hs.pick [6] (L' := [(6, .bool false)]) (by kernel_rfl)
      refine Vk.done (by kernel_rfl) ?_
      refine hK11 _ _ ?_
      clear hK11
      refine wp_ret ?_
      exact Vk.ret1 (P := Try.prog) (fn := Try.f85) (R := visorref17_Right.R κ S x0 x1 x2 r) (.bool false) hs rfl (by kernel_rfl) (by obtain rfl := Option.some.inj hm; exact ⟨rfl, (Own.to hs.own [] 1 (by kernel_rfl) (by kernel_rfl))⟩)
    · replace hm := bif_f hm hb
      refine wp_skip ?_
      refine hK3 _ _ ?_
      clear hK3
      refine Vk.seq fun K12 hK12 => ?_
      refine Vk.region ?_
      refine Vk.pures 1 [(46, .pointer (some ⟨b_2, 2, none⟩))] hs (by kernel_rfl) fun a hs => ?_
      refine Vk.step (Vk.value (some 47) (.int .i64 x0.a) hs (by kernel_rfl) (op := (.load 3 (.tmp 46))) (by kernel_rfl) (fun o ho => run_load1 (b := b_2) (off := 2) (c := C.int .i64 x0.a) ho (by kernel_rfl) (by kernel_rfl) (Cell.own 0 rfl (by kernel_rfl)) _ hs.own) fun a hs => ?_)
      refine Vk.pures 1 [(48, .pointer (some ⟨b_2, 3, none⟩))] hs (by kernel_rfl) fun a hs => ?_
      refine Vk.step (Vk.value (some 49) (.int .i64 x0.b) hs (by kernel_rfl) (op := (.load 3 (.tmp 48))) (by kernel_rfl) (fun o ho => run_load1 (b := b_2) (off := 3) (c := C.int .i64 x0.b) ho (by kernel_rfl) (by kernel_rfl) (Cell.own 0 rfl (by kernel_rfl)) _ hs.own) fun a hs => ?_)
      refine Vk.pures 1 [(50, .pointer (some ⟨b_2, 4, none⟩))] hs (by kernel_rfl) fun a hs => ?_
      refine Vk.step (Vk.value (some 51) (.int .i64 x0.d) hs (by kernel_rfl) (op := (.load 3 (.tmp 50))) (by kernel_rfl) (fun o ho => run_load1 (b := b_2) (off := 4) (c := C.int .i64 x0.d) ho (by kernel_rfl) (by kernel_rfl) (Cell.own 0 rfl (by kernel_rfl)) _ hs.own) fun a hs => ?_)
      refine Vk.pures 1 [(52, .agg (vals [C.int .i64 x0.a, C.int .i64 x0.b, C.int .i64 x0.d]))] hs (by kernel_rfl) fun a hs => ?_
      refine Vk.step (Vk.alloc 7 63 [C.int .i64 0, C.int .i64 0, C.int .i64 0] hs (by kernel_rfl) (by kernel_rfl) (by kernel_rfl) fun b_13 w a hs => ?_)
      refine Vk.step (Vk.storeA (b := b_13) (ty := 63) (x := (.tmp 7)) (y := (.tmp 52)) (sz := 3) [C.int .i64 x0.a, C.int .i64 x0.b, C.int .i64 x0.d] 0 hs (by kernel_rfl) (by kernel_rfl) (by kernel_rfl) (by kernel_rfl) (by kernel_rfl) rfl (by kernel_rfl) rfl (Eq.trans (b := 3) rfl (Eq.symm rfl)) fun a w hs => ?_)
      replace hs := hs.pick [1, 2, 3, 7] (L' := [(1, .int .i64 x1), (2, .int .i64 x2), (3, .pointer (some ⟨b_2, 0, none⟩)), (7, .pointer (some ⟨b_13, 0, none⟩))]) (by kernel_rfl)
      refine Vk.done (by kernel_rfl) ?_
      refine hK12 _ _ ?_
      clear hK12
      refine Vk.seq fun K14 hK14 => ?_
      refine Vk.seq fun K15 hK15 => ?_
      refine Vk.region ?_
      refine Vk.pures 1 [(8, .int .i64 0)] hs (by kernel_rfl) fun a hs => ?_
      replace hs := hs.pick [1, 2, 3, 7, 8] (L' := [(1, .int .i64 x1), (2, .int .i64 x2), (3, .pointer (some ⟨b_2, 0, none⟩)), (7, .pointer (some ⟨b_13, 0, none⟩)), (8, .int .i64 0)]) (by kernel_rfl)
      refine Vk.done (by kernel_rfl) ?_
      refine hK15 _ _ ?_
      clear hK15
      refine wp_block ?_
      obtain ⟨r16, hl16, hm⟩ := bind_t hm
      have hx16 : r16 = Sum.inr () → ∀ (a : Act) (w : World), St 111 a w κ [(3, .pointer (some ⟨b_2, 0, none⟩))] (pt b_2 (blk (Tapi_Op.cells x0) 32) :: S) → K14 a w := by
        intro he a w hs
        subst r16
        refine hK14 _ _ ?_
        clear hK14
        refine Vk.seq fun K55 hK55 => ?_
        refine Vk.seq fun K56 hK56 => ?_
        refine Vk.region ?_
        refine Vk.pures 1 [(90, .pointer (some ⟨b_2, 0, none⟩))] hs (by kernel_rfl) fun a hs => ?_
        refine Vk.step (Vk.value (some 91) (.int .i64 x0.kind) hs (by kernel_rfl) (op := (.load 3 (.tmp 90))) (by kernel_rfl) (fun o ho => run_load1 (b := b_2) (off := 0) (c := C.int .i64 x0.kind) ho (by kernel_rfl) (by kernel_rfl) (Cell.own 0 rfl (by kernel_rfl)) _ hs.own) fun a hs => ?_)
        replace hs := hs.pick [3, 91] (L' := [(3, .pointer (some ⟨b_2, 0, none⟩)), (91, .int .i64 x0.kind)]) (by kernel_rfl)
        refine Vk.done (by kernel_rfl) ?_
        refine hK56 _ _ ?_
        clear hK56
        refine wp_block ?_
        refine Vk.seq fun K57 hK57 => ?_
        have hj57 : ∀ (p_60 : Bool), visorref17_Right.j2 k x0 p_60 = some r → ∀ (a : Act) (w : World), St 111 a w κ [(3, .pointer (some ⟨b_2, 0, none⟩)), (91, .int .i64 x0.kind), (92, .bool p_60)] (pt b_2 (blk (Tapi_Op.cells x0) 32) :: S) → K57 a w := by
          intro p_60 hm a w hs
          unfold visorref17_Right.j2 at hm
          refine hK57 _ _ ?_
          refine Vk.condS (b := p_60) hs (by kernel_rfl) (by kernel_rfl) (fun hb => ?_) (fun hb => ?_)
          · replace hm := bif_t hm hb
            refine Vk.seq fun K61 hK61 => ?_
            refine Vk.region ?_
            refine Vk.pures 1 [(96, .pointer (some ⟨b_2, 5, none⟩))] hs (by kernel_rfl) fun a hs => ?_
            refine Vk.step (Vk.value (some 97) (.int .u64 x0.c) hs (by kernel_rfl) (op := (.load 23 (.tmp 96))) (by kernel_rfl) (fun o ho => run_load1 (b := b_2) (off := 5) (c := C.int .u64 x0.c) ho (by kernel_rfl) (by kernel_rfl) (Cell.own 0 rfl (by kernel_rfl)) _ hs.own) fun a hs => ?_)
            refine Vk.pures 2 [(6, .bool (decide (x0.c < 64))), (98, .bool (decide (x0.c < 64)))] hs (by kernel_rfl) fun a hs => ?_
            replace hs := hs.pick [6] (L' := [(6, .bool (decide (x0.c < 64)))]) (by kernel_rfl)
            refine Vk.done (by kernel_rfl) ?_
            refine hK61 _ _ ?_
            clear hK61
            refine wp_ret ?_
            exact Vk.ret1 (P := Try.prog) (fn := Try.f85) (R := visorref17_Right.R κ S x0 x1 x2 r) (.bool (decide (x0.c < 64))) hs rfl (by kernel_rfl) (by obtain rfl := Option.some.inj hm; exact ⟨rfl, (Own.to hs.own [] 1 (by kernel_rfl) (by kernel_rfl))⟩)
          · replace hm := bif_f hm hb
            refine Vk.seq fun K62 hK62 => ?_
            refine Vk.region ?_
            refine Vk.pures 2 [(99, .bool (x0.kind == 2)), (100, .bool (x0.kind == 2))] hs (by kernel_rfl) fun a hs => ?_
            replace hs := hs.pick [3, 91, 99] (L' := [(3, .pointer (some ⟨b_2, 0, none⟩)), (91, .int .i64 x0.kind), (99, .bool (x0.kind == 2))]) (by kernel_rfl)
            refine Vk.done (by kernel_rfl) ?_
            refine hK62 _ _ ?_
            clear hK62
            refine Vk.condS (b := x0.kind == 2) hs (by kernel_rfl) (by kernel_rfl) (fun hb => ?_) (fun hb => ?_)
            · replace hm := bif_t hm hb
              refine Vk.seq fun K63 hK63 => ?_
              refine Vk.region ?_
              refine Vk.pures 1 [(101, .pointer (some ⟨b_2, 5, none⟩))] hs (by kernel_rfl) fun a hs => ?_
              refine Vk.step (Vk.value (some 102) (.int .u64 x0.c) hs (by kernel_rfl) (op := (.load 23 (.tmp 101))) (by kernel_rfl) (fun o ho => run_load1 (b := b_2) (off := 5) (c := C.int .u64 x0.c) ho (by kernel_rfl) (by kernel_rfl) (Cell.own 0 rfl (by kernel_rfl)) _ hs.own) fun a hs => ?_)
              refine Vk.pures 2 [(6, .bool (decide (x0.c < 1048576))), (103, .bool (decide (x0.c < 1048576)))] hs (by kernel_rfl) fun a hs => ?_
              replace hs := hs.pick [6] (L' := [(6, .bool (decide (x0.c < 1048576)))]) (by kernel_rfl)
              refine Vk.done (by kernel_rfl) ?_
              refine hK63 _ _ ?_
              clear hK63
              refine wp_ret ?_
              exact Vk.ret1 (P := Try.prog) (fn := Try.f85) (R := visorref17_Right.R κ S x0 x1 x2 r) (.bool (decide (x0.c < 1048576))) hs rfl (by kernel_rfl) (by obtain rfl := Option.some.inj hm; exact ⟨rfl, (Own.to hs.own [] 1 (by kernel_rfl) (by kernel_rfl))⟩)
            · replace hm := bif_f hm hb
              refine Vk.seq fun K64 hK64 => ?_
              have hj64 : ∀ (p_67 : Bool), visorref17_Right.j3 k x0 p_67 = some r → ∀ (a : Act) (w : World), St 111 a w κ [(3, .pointer (some ⟨b_2, 0, none⟩)), (104, .bool p_67)] (pt b_2 (blk (Tapi_Op.cells x0) 32) :: S) → K64 a w := by
                intro p_67 hm a w hs
                unfold visorref17_Right.j3 at hm
                refine hK64 _ _ ?_
                refine Vk.condS (b := p_67) hs (by kernel_rfl) (by kernel_rfl) (fun hb => ?_) (fun hb => ?_)
                · replace hm := bif_t hm hb
                  refine Vk.seq fun K68 hK68 => ?_
                  refine Vk.region ?_
                  refine Vk.pures 1 [(6, .bool true)] hs (by kernel_rfl) fun a hs => ?_
                  replace hs := hs.pick [6] (L' := [(6, .bool true)]) (by kernel_rfl)
                  refine Vk.done (by kernel_rfl) ?_
                  refine hK68 _ _ ?_
                  clear hK68
                  refine wp_ret ?_
                  exact Vk.ret1 (P := Try.prog) (fn := Try.f85) (R := visorref17_Right.R κ S x0 x1 x2 r) (.bool true) hs rfl (by kernel_rfl) (by obtain rfl := Option.some.inj hm; exact ⟨rfl, (Own.to hs.own [] 1 (by kernel_rfl) (by kernel_rfl))⟩)
                · replace hm := bif_f hm hb
                  refine wp_skip ?_
                  refine hK55 _ _ ?_
                  clear hK55
                  refine Vk.seq fun K69 hK69 => ?_
                  refine Vk.region ?_
                  refine Vk.pures 1 [(108, .pointer (some ⟨b_2, 5, none⟩))] hs (by kernel_rfl) fun a hs => ?_
                  refine Vk.step (Vk.value (some 109) (.int .u64 x0.c) hs (by kernel_rfl) (op := (.load 23 (.tmp 108))) (by kernel_rfl) (fun o ho => run_load1 (b := b_2) (off := 5) (c := C.int .u64 x0.c) ho (by kernel_rfl) (by kernel_rfl) (Cell.own 0 rfl (by kernel_rfl)) _ hs.own) fun a hs => ?_)
                  refine Vk.pures 2 [(6, .bool (x0.c == 0)), (110, .bool (x0.c == 0))] hs (by kernel_rfl) fun a hs => ?_
                  replace hs := hs.pick [6] (L' := [(6, .bool (x0.c == 0))]) (by kernel_rfl)
                  refine Vk.done (by kernel_rfl) ?_
                  refine hK69 _ _ ?_
                  clear hK69
                  refine wp_ret ?_
                  exact Vk.ret1 (P := Try.prog) (fn := Try.f85) (R := visorref17_Right.R κ S x0 x1 x2 r) (.bool (x0.c == 0)) hs rfl (by kernel_rfl) (by obtain rfl := Option.some.inj hm; exact ⟨rfl, (Own.to hs.own [] 1 (by kernel_rfl) (by kernel_rfl))⟩)
              refine Vk.seq fun K65 hK65 => ?_
              refine Vk.region ?_
              refine Vk.pures 2 [(104, .bool (x0.kind == 3)), (105, .bool (x0.kind == 3))] hs (by kernel_rfl) fun a hs => ?_
              replace hs := hs.pick [3, 91, 104] (L' := [(3, .pointer (some ⟨b_2, 0, none⟩)), (91, .int .i64 x0.kind), (104, .bool (x0.kind == 3))]) (by kernel_rfl)
              refine Vk.done (by kernel_rfl) ?_
              refine hK65 _ _ ?_
              clear hK65
              refine Vk.condS (b := x0.kind == 3) hs (by kernel_rfl) (by kernel_rfl) (fun hb => ?_) (fun hb => ?_)
              · replace hm := bif_t hm hb
                refine wp_skip ?_
                exact hj64 (x0.kind == 3) hm _ _ (hs.go [3, 104] [0] 1 (by kernel_rfl) (by kernel_rfl) (by kernel_rfl))
              · replace hm := bif_f hm hb
                refine Vk.seq fun K66 hK66 => ?_
                refine Vk.region ?_
                refine Vk.pures 2 [(104, .bool (x0.kind == 4)), (106, .bool (x0.kind == 4))] hs (by kernel_rfl) fun a hs => ?_
                replace hs := hs.pick [3, 91, 104] (L' := [(3, .pointer (some ⟨b_2, 0, none⟩)), (91, .int .i64 x0.kind), (104, .bool (x0.kind == 4))]) (by kernel_rfl)
                refine Vk.done (by kernel_rfl) ?_
                refine hK66 _ _ ?_
                clear hK66
                refine Vk.condS (b := x0.kind == 4) hs (by kernel_rfl) (by kernel_rfl) (fun hb => ?_) (fun hb => ?_)
                · replace hm := bif_t hm hb
                  refine wp_skip ?_
                  exact hj64 (x0.kind == 4) hm _ _ (hs.go [3, 104] [0] 1 (by kernel_rfl) (by kernel_rfl) (by kernel_rfl))
                · replace hm := bif_f hm hb
                  refine Vk.region ?_
                  refine Vk.pures 2 [(104, .bool (x0.kind == 8)), (107, .bool (x0.kind == 8))] hs (by kernel_rfl) fun a hs => ?_
                  replace hs := hs.pick [3, 104] (L' := [(3, .pointer (some ⟨b_2, 0, none⟩)), (104, .bool (x0.kind == 8))]) (by kernel_rfl)
                  refine Vk.done (by kernel_rfl) ?_
                  exact hj64 (x0.kind == 8) hm _ _ (hs.go [3, 104] [0] 1 (by kernel_rfl) (by kernel_rfl) (by kernel_rfl))
        refine Vk.seq fun K58 hK58 => ?_
        refine Vk.region ?_
        refine Vk.pures 2 [(92, .bool (x0.kind == 9)), (93, .bool (x0.kind == 9))] hs (by kernel_rfl) fun a hs => ?_
        replace hs := hs.pick [3, 91, 92] (L' := [(3, .pointer (some ⟨b_2, 0, none⟩)), (91, .int .i64 x0.kind), (92, .bool (x0.kind == 9))]) (by kernel_rfl)
        refine Vk.done (by kernel_rfl) ?_
        refine hK58 _ _ ?_
        clear hK58
        refine Vk.condS (b := x0.kind == 9) hs (by kernel_rfl) (by kernel_rfl) (fun hb => ?_) (fun hb => ?_)
        · replace hm := bif_t hm hb
          refine wp_skip ?_
          exact hj57 (x0.kind == 9) hm _ _ (hs.go [3, 91, 92] [0] 1 (by kernel_rfl) (by kernel_rfl) (by kernel_rfl))
        · replace hm := bif_f hm hb
          refine Vk.seq fun K59 hK59 => ?_
          refine Vk.region ?_
          refine Vk.pures 2 [(92, .bool (x0.kind == 10)), (94, .bool (x0.kind == 10))] hs (by kernel_rfl) fun a hs => ?_
          replace hs := hs.pick [3, 91, 92] (L' := [(3, .pointer (some ⟨b_2, 0, none⟩)), (91, .int .i64 x0.kind), (92, .bool (x0.kind == 10))]) (by kernel_rfl)
          refine Vk.done (by kernel_rfl) ?_
          refine hK59 _ _ ?_
          clear hK59
          refine Vk.condS (b := x0.kind == 10) hs (by kernel_rfl) (by kernel_rfl) (fun hb => ?_) (fun hb => ?_)
          · replace hm := bif_t hm hb
            refine wp_skip ?_
            exact hj57 (x0.kind == 10) hm _ _ (hs.go [3, 91, 92] [0] 1 (by kernel_rfl) (by kernel_rfl) (by kernel_rfl))
          · replace hm := bif_f hm hb
            refine Vk.region ?_
            refine Vk.pures 2 [(92, .bool (x0.kind == 11)), (95, .bool (x0.kind == 11))] hs (by kernel_rfl) fun a hs => ?_
            replace hs := hs.pick [3, 91, 92] (L' := [(3, .pointer (some ⟨b_2, 0, none⟩)), (91, .int .i64 x0.kind), (92, .bool (x0.kind == 11))]) (by kernel_rfl)
            refine Vk.done (by kernel_rfl) ?_
            exact hj57 (x0.kind == 11) hm _ _ (hs.go [3, 91, 92] [0] 1 (by kernel_rfl) (by kernel_rfl) (by kernel_rfl))
      have hret16 : ∀ v, r16 = Sum.inl v → v = r := by intro v he; subst r16; exact Option.some.inj hm
      refine Vk.loopBy (fun k (s : Int) a w => visorref17_Right.l1 x0 x1 x2 k s = some r16 ∧ St 111 a w κ [(1, .int .i64 x1), (2, .int .i64 x2), (3, .pointer (some ⟨b_2, 0, none⟩)), (7, .pointer (some ⟨b_13, 0, none⟩)), (8, .int .i64 s)] (pt b_2 (blk (Tapi_Op.cells x0) 32) :: pt b_13 (blk [C.int .i64 x0.a, C.int .i64 x0.b, C.int .i64 x0.d] 63) :: S)) k 0 ⟨hl16, hs.go [1, 2, 3, 7, 8] [1, 0] 2 (by kernel_rfl) (by kernel_rfl) (by kernel_rfl)⟩ (fun s a w h => by obtain ⟨h1, _⟩ := h; simp [visorref17_Right.l1] at h1) (fun k KL16 ih q_17 a w h => ?_)
      obtain ⟨hm, hs⟩ := h
      try dsimp only at hm hs
      rw [visorref17_Right.l1] at hm
      refine Vk.seq fun K18 hK18 => ?_
      refine Vk.seq fun K19 hK19 => ?_
      refine Vk.region ?_
      refine Vk.pures 2 [(54, .bool (decide (q_17 < 3))), (53, .int .i64 q_17)] hs (by kernel_rfl) fun a hs => ?_
      replace hs := hs.pick [1, 2, 3, 7, 8, 54] (L' := [(1, .int .i64 x1), (2, .int .i64 x2), (3, .pointer (some ⟨b_2, 0, none⟩)), (7, .pointer (some ⟨b_13, 0, none⟩)), (8, .int .i64 q_17), (54, .bool (decide (q_17 < 3)))]) (by kernel_rfl)
      refine Vk.done (by kernel_rfl) ?_
      refine hK19 _ _ ?_
      clear hK19
      refine Vk.condS (b := decide (q_17 < 3)) hs (by kernel_rfl) (by kernel_rfl) (fun hb => ?_) (fun hb => ?_)
      · replace hm := bif_t hm hb
        refine wp_skip ?_
        refine hK18 _ _ ?_
        clear hK18
        refine Vk.seq fun K20 hK20 => ?_
        refine wp_block ?_
        refine Vk.seq fun K21 hK21 => ?_
        refine Vk.region ?_
        refine Vk.pures 2 [(58, .pointer (some ⟨b_2, 0, none⟩)), (57, .int .i64 q_17)] hs (by kernel_rfl) fun a hs => ?_
        refine Vk.step (Vk.value (some 59) (.int .i64 x0.kind) hs (by kernel_rfl) (op := (.load 3 (.tmp 58))) (by kernel_rfl) (fun o ho => run_load1 (b := b_2) (off := 0) (c := C.int .i64 x0.kind) ho (by kernel_rfl) (by kernel_rfl) (Cell.own 0 rfl (by kernel_rfl)) _ hs.own) fun a hs => ?_)
        refine Vk.pures 1 [(60, .int .i64 x2)] hs (by kernel_rfl) fun a hs => ?_
        obtain ⟨v_24, h_23, hm⟩ := bind_t hm
        refine Vk.step (Vk.call (some 61) 118 #[.int .i64 x0.kind, .int .i64 x2] hs (by kernel_rfl) (by kernel_rfl) (by kernel_rfl) ?_)
        refine (visorref17_Regs.ok k x0.kind x2 v_24 h_23 κ w (pt b_2 (blk (Tapi_Op.cells x0) 32) :: pt b_13 (blk [C.int .i64 x0.a, C.int .i64 x0.b, C.int .i64 x0.d] 63) :: S) hs.own).mono ?_
        rintro _ w ⟨rfl, how⟩
        refine ⟨_, _, _, rfl, how, fun a hs => ?_⟩
        refine Vk.pures 2 [(63, .bool (decide (q_17 < v_24))), (62, .bool (decide (q_17 < v_24)))] hs (by kernel_rfl) fun a hs => ?_
        rcases Bool.eq_false_or_eq_true (decide (q_17 < v_24)) with hb | hb
        · replace hm := bif_t hm hb
          replace hs := hs.known (t := 63) hb (by kernel_rfl)
          refine Vk.pures 1 [(64, .int .i64 q_17)] hs (by kernel_rfl) fun a hs => ?_
          obtain ⟨h_26, hm⟩ := ite_t hm
          refine Vk.step (Vk.value (some 65) (.pointer (some ⟨b_13, 0 + q_17.toNat * 1, none⟩)) hs (by kernel_rfl) (op := (.indexAddr 63 (.tmp 7) (.tmp 64))) (by kernel_rfl) (fun o ho => run_idxArr (k := .i64) ho (by kernel_rfl) (by kernel_rfl) (by kernel_rfl) h_26 _) fun a hs => ?_)
          obtain ⟨v_28, h_27, hm⟩ := bind_t hm
          refine Vk.step (Vk.value (some 66) (.int .i64 v_28) hs (by kernel_rfl) (op := (.load 3 (.tmp 65))) (by kernel_rfl) (fun o ho => run_load1 (c := C.int .i64 v_28) ho (by kernel_rfl) (by kernel_rfl) (Cell.own 1 rfl (getI_some h_27)) _ hs.own) fun a hs => ?_)
          refine Vk.pures 2 [(68, .bool (decide (v_28 < 0))), (67, .bool (decide (v_28 < 0)))] hs (by kernel_rfl) fun a hs => ?_
          rcases Bool.eq_false_or_eq_true (decide (v_28 < 0)) with hb | hb
          · replace hm := bif_t hm hb
            replace hs := hs.known (t := 68) hb (by kernel_rfl)
            refine Vk.pures 21 [(89, .bool true), (88, undef), (87, undef), (86, undef), (85, undef), (84, undef), (83, undef), (82, undef), (81, undef), (80, undef), (79, undef), (78, undef), (77, undef), (76, .bool true), (75, .bool true), (74, .bool true), (73, undef), (72, undef), (71, undef), (70, undef), (69, undef)] hs (by kernel_rfl) fun a hs => ?_
            replace hs := hs.pick [1, 2, 3, 7, 8, 64, 65, 66, 67, 68, 74, 89] (L' := [(1, .int .i64 x1), (2, .int .i64 x2), (3, .pointer (some ⟨b_2, 0, none⟩)), (7, .pointer (some ⟨b_13, 0, none⟩)), (8, .int .i64 q_17), (64, .int .i64 q_17), (65, .pointer (some ⟨b_13, 0 + q_17.toNat * 1, none⟩)), (66, .int .i64 v_28), (67, .bool (decide (v_28 < 0))), (68, .bool true), (74, .bool true), (89, .bool true)]) (by kernel_rfl)
            refine Vk.done (by kernel_rfl) ?_
            refine hK21 _ _ ?_
            refine Vk.condT hs (by kernel_rfl) (by kernel_rfl) ?_
            refine Vk.seq fun K47 hK47 => ?_
            refine Vk.region ?_
            refine Vk.pures 1 [(6, .bool false)] hs (by kernel_rfl) fun a hs => ?_
            replace hs := hs.pick [6] (L' := [(6, .bool false)]) (by kernel_rfl)
            refine Vk.done (by kernel_rfl) ?_
            refine hK47 _ _ ?_
            clear hK47
            refine wp_ret ?_
            exact Vk.ret1 (P := Try.prog) (fn := Try.f85) (R := visorref17_Right.R κ S x0 x1 x2 r) (.bool false) hs rfl (by kernel_rfl) (by obtain rfl := hret16 _ ((Option.some.inj hm).symm); exact ⟨rfl, (Own.to hs.own [] 2 (by kernel_rfl) (by kernel_rfl))⟩)
          · replace hm := bif_f hm hb
            replace hs := hs.known (t := 68) hb (by kernel_rfl)
            refine Vk.pures 1 [(69, .int .i64 q_17)] hs (by kernel_rfl) fun a hs => ?_
            obtain ⟨h_30, hm⟩ := ite_t hm
            refine Vk.step (Vk.value (some 70) (.pointer (some ⟨b_13, 0 + q_17.toNat * 1, none⟩)) hs (by kernel_rfl) (op := (.indexAddr 63 (.tmp 7) (.tmp 69))) (by kernel_rfl) (fun o ho => run_idxArr (k := .i64) ho (by kernel_rfl) (by kernel_rfl) (by kernel_rfl) h_30 _) fun a hs => ?_)
            obtain ⟨v_32, h_31, hm⟩ := bind_t hm
            refine Vk.step (Vk.value (some 71) (.int .i64 v_32) hs (by kernel_rfl) (op := (.load 3 (.tmp 70))) (by kernel_rfl) (fun o ho => run_load1 (c := C.int .i64 v_32) ho (by kernel_rfl) (by kernel_rfl) (Cell.own 1 rfl (getI_some h_31)) _ hs.own) fun a hs => ?_)
            refine Vk.pures 5 [(76, .bool (decide (v_32 ≥ x1))), (75, .bool (decide (v_32 ≥ x1))), (74, .bool (decide (v_32 ≥ x1))), (73, .bool (decide (v_32 ≥ x1))), (72, .int .i64 x1)] hs (by kernel_rfl) fun a hs => ?_
            rcases Bool.eq_false_or_eq_true (decide (v_32 ≥ x1)) with hb | hb
            · replace hm := bif_t hm hb
              replace hs := hs.known (t := 76) hb (by kernel_rfl)
              refine Vk.pures 13 [(89, .bool true), (88, undef), (87, undef), (86, undef), (85, undef), (84, undef), (83, undef), (82, undef), (81, undef), (80, undef), (79, undef), (78, undef), (77, undef)] hs (by kernel_rfl) fun a hs => ?_
              replace hs := hs.pick [1, 2, 3, 7, 8, 64, 65, 66, 67, 68, 69, 70, 71, 72, 73, 74, 89] (L' := [(1, .int .i64 x1), (2, .int .i64 x2), (3, .pointer (some ⟨b_2, 0, none⟩)), (7, .pointer (some ⟨b_13, 0, none⟩)), (8, .int .i64 q_17), (64, .int .i64 q_17), (65, .pointer (some ⟨b_13, 0 + q_17.toNat * 1, none⟩)), (66, .int .i64 v_28), (67, .bool (decide (v_28 < 0))), (68, .bool false), (69, .int .i64 q_17), (70, .pointer (some ⟨b_13, 0 + q_17.toNat * 1, none⟩)), (71, .int .i64 v_32), (72, .int .i64 x1), (73, .bool (decide (v_32 ≥ x1))), (74, .bool (decide (v_32 ≥ x1))), (89, .bool true)]) (by kernel_rfl)
              refine Vk.done (by kernel_rfl) ?_
              refine hK21 _ _ ?_
              refine Vk.condT hs (by kernel_rfl) (by kernel_rfl) ?_
              refine Vk.seq fun K48 hK48 => ?_
              refine Vk.region ?_
              refine Vk.pures 1 [(6, .bool false)] hs (by kernel_rfl) fun a hs => ?_
              replace hs := hs.pick [6] (L' := [(6, .bool false)]) (by kernel_rfl)
              refine Vk.done (by kernel_rfl) ?_
              refine hK48 _ _ ?_
              clear hK48
              refine wp_ret ?_
              exact Vk.ret1 (P := Try.prog) (fn := Try.f85) (R := visorref17_Right.R κ S x0 x1 x2 r) (.bool false) hs rfl (by kernel_rfl) (by obtain rfl := hret16 _ ((Option.some.inj hm).symm); exact ⟨rfl, (Own.to hs.own [] 2 (by kernel_rfl) (by kernel_rfl))⟩)
            · replace hm := bif_f hm hb
              replace hs := hs.known (t := 76) hb (by kernel_rfl)
              refine Vk.pures 2 [(78, .pointer (some ⟨b_2, 0, none⟩)), (77, .int .i64 q_17)] hs (by kernel_rfl) fun a hs => ?_
              refine Vk.step (Vk.value (some 79) (.int .i64 x0.kind) hs (by kernel_rfl) (op := (.load 3 (.tmp 78))) (by kernel_rfl) (fun o ho => run_load1 (b := b_2) (off := 0) (c := C.int .i64 x0.kind) ho (by kernel_rfl) (by kernel_rfl) (Cell.own 0 rfl (by kernel_rfl)) _ hs.own) fun a hs => ?_)
              refine Vk.pures 1 [(80, .int .i64 x2)] hs (by kernel_rfl) fun a hs => ?_
              obtain ⟨v_35, h_34, hm⟩ := bind_t hm
              refine Vk.step (Vk.call (some 81) 118 #[.int .i64 x0.kind, .int .i64 x2] hs (by kernel_rfl) (by kernel_rfl) (by kernel_rfl) ?_)
              refine (visorref17_Regs.ok k x0.kind x2 v_35 h_34 κ w (pt b_2 (blk (Tapi_Op.cells x0) 32) :: pt b_13 (blk [C.int .i64 x0.a, C.int .i64 x0.b, C.int .i64 x0.d] 63) :: S) hs.own).mono ?_
              rintro _ w ⟨rfl, how⟩
              refine ⟨_, _, _, rfl, how, fun a hs => ?_⟩
              refine Vk.pures 2 [(83, .bool (decide (q_17 ≥ v_35))), (82, .bool (decide (q_17 ≥ v_35)))] hs (by kernel_rfl) fun a hs => ?_
              rcases Bool.eq_false_or_eq_true (decide (q_17 ≥ v_35)) with hb | hb
              · replace hm := bif_t hm hb
                replace hs := hs.known (t := 83) hb (by kernel_rfl)
                refine Vk.pures 1 [(84, .int .i64 q_17)] hs (by kernel_rfl) fun a hs => ?_
                obtain ⟨h_37, hm⟩ := ite_t hm
                refine Vk.step (Vk.value (some 85) (.pointer (some ⟨b_13, 0 + q_17.toNat * 1, none⟩)) hs (by kernel_rfl) (op := (.indexAddr 63 (.tmp 7) (.tmp 84))) (by kernel_rfl) (fun o ho => run_idxArr (k := .i64) ho (by kernel_rfl) (by kernel_rfl) (by kernel_rfl) h_37 _) fun a hs => ?_)
                obtain ⟨v_39, h_38, hm⟩ := bind_t hm
                refine Vk.step (Vk.value (some 86) (.int .i64 v_39) hs (by kernel_rfl) (op := (.load 3 (.tmp 85))) (by kernel_rfl) (fun o ho => run_load1 (c := C.int .i64 v_39) ho (by kernel_rfl) (by kernel_rfl) (Cell.own 1 rfl (getI_some h_38)) _ hs.own) fun a hs => ?_)
                refine Vk.pures 3 [(89, .bool (v_39 != (-1))), (88, .bool (v_39 != (-1))), (87, .bool (v_39 != (-1)))] hs (by kernel_rfl) fun a hs => ?_
                replace hs := hs.pick [1, 2, 3, 7, 8, 64, 65, 66, 67, 68, 69, 70, 71, 72, 73, 74, 77, 78, 79, 80, 81, 82, 83, 84, 85, 86, 87, 88, 89] (L' := [(1, .int .i64 x1), (2, .int .i64 x2), (3, .pointer (some ⟨b_2, 0, none⟩)), (7, .pointer (some ⟨b_13, 0, none⟩)), (8, .int .i64 q_17), (64, .int .i64 q_17), (65, .pointer (some ⟨b_13, 0 + q_17.toNat * 1, none⟩)), (66, .int .i64 v_28), (67, .bool (decide (v_28 < 0))), (68, .bool false), (69, .int .i64 q_17), (70, .pointer (some ⟨b_13, 0 + q_17.toNat * 1, none⟩)), (71, .int .i64 v_32), (72, .int .i64 x1), (73, .bool (decide (v_32 ≥ x1))), (74, .bool (decide (v_32 ≥ x1))), (77, .int .i64 q_17), (78, .pointer (some ⟨b_2, 0, none⟩)), (79, .int .i64 x0.kind), (80, .int .i64 x2), (81, .int .i64 v_35), (82, .bool (decide (q_17 ≥ v_35))), (83, .bool true), (84, .int .i64 q_17), (85, .pointer (some ⟨b_13, 0 + q_17.toNat * 1, none⟩)), (86, .int .i64 v_39), (87, .bool (v_39 != (-1))), (88, .bool (v_39 != (-1))), (89, .bool (v_39 != (-1)))]) (by kernel_rfl)
                refine Vk.done (by kernel_rfl) ?_
                refine hK21 _ _ ?_
                refine Vk.condS (b := v_39 != (-1)) hs (by kernel_rfl) (by kernel_rfl) (fun hb => ?_) (fun hb => ?_)
                · replace hm := bif_t hm hb
                  refine Vk.seq fun K49 hK49 => ?_
                  refine Vk.region ?_
                  refine Vk.pures 1 [(6, .bool false)] hs (by kernel_rfl) fun a hs => ?_
                  replace hs := hs.pick [6] (L' := [(6, .bool false)]) (by kernel_rfl)
                  refine Vk.done (by kernel_rfl) ?_
                  refine hK49 _ _ ?_
                  clear hK49
                  refine wp_ret ?_
                  exact Vk.ret1 (P := Try.prog) (fn := Try.f85) (R := visorref17_Right.R κ S x0 x1 x2 r) (.bool false) hs rfl (by kernel_rfl) (by obtain rfl := hret16 _ ((Option.some.inj hm).symm); exact ⟨rfl, (Own.to hs.own [] 2 (by kernel_rfl) (by kernel_rfl))⟩)
                · replace hm := bif_f hm hb
                  refine wp_skip ?_
                  refine hK20 _ _ ?_
                  refine Vk.region ?_
                  refine Vk.pures 3 [(8, .int .i64 (IntKind.i64.wrap (q_17 + 1))), (56, .int .i64 (IntKind.i64.wrap (q_17 + 1))), (55, .int .i64 q_17)] hs (by kernel_rfl) fun a hs => ?_
                  replace hs := hs.pick [1, 2, 3, 7, 8, 64, 65, 66, 67, 68, 69, 70, 71, 72, 73, 74, 77, 78, 79, 80, 81, 82, 83, 84, 85, 86, 87, 88] (L' := [(1, .int .i64 x1), (2, .int .i64 x2), (3, .pointer (some ⟨b_2, 0, none⟩)), (7, .pointer (some ⟨b_13, 0, none⟩)), (8, .int .i64 (IntKind.i64.wrap (q_17 + 1))), (64, .int .i64 q_17), (65, .pointer (some ⟨b_13, 0 + q_17.toNat * 1, none⟩)), (66, .int .i64 v_28), (67, .bool (decide (v_28 < 0))), (68, .bool false), (69, .int .i64 q_17), (70, .pointer (some ⟨b_13, 0 + q_17.toNat * 1, none⟩)), (71, .int .i64 v_32), (72, .int .i64 x1), (73, .bool (decide (v_32 ≥ x1))), (74, .bool (decide (v_32 ≥ x1))), (77, .int .i64 q_17), (78, .pointer (some ⟨b_2, 0, none⟩)), (79, .int .i64 x0.kind), (80, .int .i64 x2), (81, .int .i64 v_35), (82, .bool (decide (q_17 ≥ v_35))), (83, .bool true), (84, .int .i64 q_17), (85, .pointer (some ⟨b_13, 0 + q_17.toNat * 1, none⟩)), (86, .int .i64 v_39), (87, .bool (v_39 != (-1))), (88, .bool (v_39 != (-1)))]) (by kernel_rfl)
                  refine Vk.done (by kernel_rfl) ?_
                  refine ih (IntKind.i64.wrap (q_17 + 1)) _ _ ⟨hm, hs.go [1, 2, 3, 7, 8] [0, 1] 2 (by kernel_rfl) (by kernel_rfl) (by kernel_rfl)⟩
              · replace hm := bif_f hm hb
                replace hs := hs.known (t := 83) hb (by kernel_rfl)
                refine Vk.pures 6 [(89, .bool false), (88, .bool false), (87, undef), (86, undef), (85, undef), (84, undef)] hs (by kernel_rfl) fun a hs => ?_
                replace hs := hs.pick [1, 2, 3, 7, 8, 64, 65, 66, 67, 68, 69, 70, 71, 72, 73, 74, 77, 78, 79, 80, 81, 82, 83, 88, 89] (L' := [(1, .int .i64 x1), (2, .int .i64 x2), (3, .pointer (some ⟨b_2, 0, none⟩)), (7, .pointer (some ⟨b_13, 0, none⟩)), (8, .int .i64 q_17), (64, .int .i64 q_17), (65, .pointer (some ⟨b_13, 0 + q_17.toNat * 1, none⟩)), (66, .int .i64 v_28), (67, .bool (decide (v_28 < 0))), (68, .bool false), (69, .int .i64 q_17), (70, .pointer (some ⟨b_13, 0 + q_17.toNat * 1, none⟩)), (71, .int .i64 v_32), (72, .int .i64 x1), (73, .bool (decide (v_32 ≥ x1))), (74, .bool (decide (v_32 ≥ x1))), (77, .int .i64 q_17), (78, .pointer (some ⟨b_2, 0, none⟩)), (79, .int .i64 x0.kind), (80, .int .i64 x2), (81, .int .i64 v_35), (82, .bool (decide (q_17 ≥ v_35))), (83, .bool false), (88, .bool false), (89, .bool false)]) (by kernel_rfl)
                refine Vk.done (by kernel_rfl) ?_
                refine hK21 _ _ ?_
                refine Vk.condF hs (by kernel_rfl) (by kernel_rfl) ?_
                refine wp_skip ?_
                refine hK20 _ _ ?_
                refine Vk.region ?_
                refine Vk.pures 3 [(8, .int .i64 (IntKind.i64.wrap (q_17 + 1))), (56, .int .i64 (IntKind.i64.wrap (q_17 + 1))), (55, .int .i64 q_17)] hs (by kernel_rfl) fun a hs => ?_
                replace hs := hs.pick [1, 2, 3, 7, 8, 64, 65, 66, 67, 68, 69, 70, 71, 72, 73, 74, 77, 78, 79, 80, 81, 82, 83, 88] (L' := [(1, .int .i64 x1), (2, .int .i64 x2), (3, .pointer (some ⟨b_2, 0, none⟩)), (7, .pointer (some ⟨b_13, 0, none⟩)), (8, .int .i64 (IntKind.i64.wrap (q_17 + 1))), (64, .int .i64 q_17), (65, .pointer (some ⟨b_13, 0 + q_17.toNat * 1, none⟩)), (66, .int .i64 v_28), (67, .bool (decide (v_28 < 0))), (68, .bool false), (69, .int .i64 q_17), (70, .pointer (some ⟨b_13, 0 + q_17.toNat * 1, none⟩)), (71, .int .i64 v_32), (72, .int .i64 x1), (73, .bool (decide (v_32 ≥ x1))), (74, .bool (decide (v_32 ≥ x1))), (77, .int .i64 q_17), (78, .pointer (some ⟨b_2, 0, none⟩)), (79, .int .i64 x0.kind), (80, .int .i64 x2), (81, .int .i64 v_35), (82, .bool (decide (q_17 ≥ v_35))), (83, .bool false), (88, .bool false)]) (by kernel_rfl)
                refine Vk.done (by kernel_rfl) ?_
                refine ih (IntKind.i64.wrap (q_17 + 1)) _ _ ⟨hm, hs.go [1, 2, 3, 7, 8] [0, 1] 2 (by kernel_rfl) (by kernel_rfl) (by kernel_rfl)⟩
        · replace hm := bif_f hm hb
          replace hs := hs.known (t := 63) hb (by kernel_rfl)
          refine Vk.pures 15 [(78, .pointer (some ⟨b_2, 0, none⟩)), (77, .int .i64 q_17), (76, .bool false), (75, .bool false), (74, undef), (73, undef), (72, undef), (71, undef), (70, undef), (69, undef), (68, undef), (67, undef), (66, undef), (65, undef), (64, undef)] hs (by kernel_rfl) fun a hs => ?_
          refine Vk.step (Vk.value (some 79) (.int .i64 x0.kind) hs (by kernel_rfl) (op := (.load 3 (.tmp 78))) (by kernel_rfl) (fun o ho => run_load1 (b := b_2) (off := 0) (c := C.int .i64 x0.kind) ho (by kernel_rfl) (by kernel_rfl) (Cell.own 0 rfl (by kernel_rfl)) _ hs.own) fun a hs => ?_)
          refine Vk.pures 1 [(80, .int .i64 x2)] hs (by kernel_rfl) fun a hs => ?_
          obtain ⟨v_42, h_41, hm⟩ := bind_t hm
          refine Vk.step (Vk.call (some 81) 118 #[.int .i64 x0.kind, .int .i64 x2] hs (by kernel_rfl) (by kernel_rfl) (by kernel_rfl) ?_)
          refine (visorref17_Regs.ok k x0.kind x2 v_42 h_41 κ w (pt b_2 (blk (Tapi_Op.cells x0) 32) :: pt b_13 (blk [C.int .i64 x0.a, C.int .i64 x0.b, C.int .i64 x0.d] 63) :: S) hs.own).mono ?_
          rintro _ w ⟨rfl, how⟩
          refine ⟨_, _, _, rfl, how, fun a hs => ?_⟩
          refine Vk.pures 2 [(83, .bool (decide (q_17 ≥ v_42))), (82, .bool (decide (q_17 ≥ v_42)))] hs (by kernel_rfl) fun a hs => ?_
          rcases Bool.eq_false_or_eq_true (decide (q_17 ≥ v_42)) with hb | hb
          · replace hm := bif_t hm hb
            replace hs := hs.known (t := 83) hb (by kernel_rfl)
            refine Vk.pures 1 [(84, .int .i64 q_17)] hs (by kernel_rfl) fun a hs => ?_
            obtain ⟨h_44, hm⟩ := ite_t hm
            refine Vk.step (Vk.value (some 85) (.pointer (some ⟨b_13, 0 + q_17.toNat * 1, none⟩)) hs (by kernel_rfl) (op := (.indexAddr 63 (.tmp 7) (.tmp 84))) (by kernel_rfl) (fun o ho => run_idxArr (k := .i64) ho (by kernel_rfl) (by kernel_rfl) (by kernel_rfl) h_44 _) fun a hs => ?_)
            obtain ⟨v_46, h_45, hm⟩ := bind_t hm
            refine Vk.step (Vk.value (some 86) (.int .i64 v_46) hs (by kernel_rfl) (op := (.load 3 (.tmp 85))) (by kernel_rfl) (fun o ho => run_load1 (c := C.int .i64 v_46) ho (by kernel_rfl) (by kernel_rfl) (Cell.own 1 rfl (getI_some h_45)) _ hs.own) fun a hs => ?_)
            refine Vk.pures 3 [(89, .bool (v_46 != (-1))), (88, .bool (v_46 != (-1))), (87, .bool (v_46 != (-1)))] hs (by kernel_rfl) fun a hs => ?_
            replace hs := hs.pick [1, 2, 3, 7, 8, 77, 78, 79, 80, 81, 82, 83, 84, 85, 86, 87, 88, 89] (L' := [(1, .int .i64 x1), (2, .int .i64 x2), (3, .pointer (some ⟨b_2, 0, none⟩)), (7, .pointer (some ⟨b_13, 0, none⟩)), (8, .int .i64 q_17), (77, .int .i64 q_17), (78, .pointer (some ⟨b_2, 0, none⟩)), (79, .int .i64 x0.kind), (80, .int .i64 x2), (81, .int .i64 v_42), (82, .bool (decide (q_17 ≥ v_42))), (83, .bool true), (84, .int .i64 q_17), (85, .pointer (some ⟨b_13, 0 + q_17.toNat * 1, none⟩)), (86, .int .i64 v_46), (87, .bool (v_46 != (-1))), (88, .bool (v_46 != (-1))), (89, .bool (v_46 != (-1)))]) (by kernel_rfl)
            refine Vk.done (by kernel_rfl) ?_
            refine hK21 _ _ ?_
            refine Vk.condS (b := v_46 != (-1)) hs (by kernel_rfl) (by kernel_rfl) (fun hb => ?_) (fun hb => ?_)
            · replace hm := bif_t hm hb
              refine Vk.seq fun K50 hK50 => ?_
              refine Vk.region ?_
              refine Vk.pures 1 [(6, .bool false)] hs (by kernel_rfl) fun a hs => ?_
              replace hs := hs.pick [6] (L' := [(6, .bool false)]) (by kernel_rfl)
              refine Vk.done (by kernel_rfl) ?_
              refine hK50 _ _ ?_
              clear hK50
              refine wp_ret ?_
              exact Vk.ret1 (P := Try.prog) (fn := Try.f85) (R := visorref17_Right.R κ S x0 x1 x2 r) (.bool false) hs rfl (by kernel_rfl) (by obtain rfl := hret16 _ ((Option.some.inj hm).symm); exact ⟨rfl, (Own.to hs.own [] 2 (by kernel_rfl) (by kernel_rfl))⟩)
            · replace hm := bif_f hm hb
              refine wp_skip ?_
              refine hK20 _ _ ?_
              refine Vk.region ?_
              refine Vk.pures 3 [(8, .int .i64 (IntKind.i64.wrap (q_17 + 1))), (56, .int .i64 (IntKind.i64.wrap (q_17 + 1))), (55, .int .i64 q_17)] hs (by kernel_rfl) fun a hs => ?_
              replace hs := hs.pick [1, 2, 3, 7, 8, 77, 78, 79, 80, 81, 82, 83, 84, 85, 86, 87, 88] (L' := [(1, .int .i64 x1), (2, .int .i64 x2), (3, .pointer (some ⟨b_2, 0, none⟩)), (7, .pointer (some ⟨b_13, 0, none⟩)), (8, .int .i64 (IntKind.i64.wrap (q_17 + 1))), (77, .int .i64 q_17), (78, .pointer (some ⟨b_2, 0, none⟩)), (79, .int .i64 x0.kind), (80, .int .i64 x2), (81, .int .i64 v_42), (82, .bool (decide (q_17 ≥ v_42))), (83, .bool true), (84, .int .i64 q_17), (85, .pointer (some ⟨b_13, 0 + q_17.toNat * 1, none⟩)), (86, .int .i64 v_46), (87, .bool (v_46 != (-1))), (88, .bool (v_46 != (-1)))]) (by kernel_rfl)
              refine Vk.done (by kernel_rfl) ?_
              refine ih (IntKind.i64.wrap (q_17 + 1)) _ _ ⟨hm, hs.go [1, 2, 3, 7, 8] [0, 1] 2 (by kernel_rfl) (by kernel_rfl) (by kernel_rfl)⟩
          · replace hm := bif_f hm hb
            replace hs := hs.known (t := 83) hb (by kernel_rfl)
            refine Vk.pures 6 [(89, .bool false), (88, .bool false), (87, undef), (86, undef), (85, undef), (84, undef)] hs (by kernel_rfl) fun a hs => ?_
            replace hs := hs.pick [1, 2, 3, 7, 8, 77, 78, 79, 80, 81, 82, 83, 88, 89] (L' := [(1, .int .i64 x1), (2, .int .i64 x2), (3, .pointer (some ⟨b_2, 0, none⟩)), (7, .pointer (some ⟨b_13, 0, none⟩)), (8, .int .i64 q_17), (77, .int .i64 q_17), (78, .pointer (some ⟨b_2, 0, none⟩)), (79, .int .i64 x0.kind), (80, .int .i64 x2), (81, .int .i64 v_42), (82, .bool (decide (q_17 ≥ v_42))), (83, .bool false), (88, .bool false), (89, .bool false)]) (by kernel_rfl)
            refine Vk.done (by kernel_rfl) ?_
            refine hK21 _ _ ?_
            refine Vk.condF hs (by kernel_rfl) (by kernel_rfl) ?_
            refine wp_skip ?_
            refine hK20 _ _ ?_
            refine Vk.region ?_
            refine Vk.pures 3 [(8, .int .i64 (IntKind.i64.wrap (q_17 + 1))), (56, .int .i64 (IntKind.i64.wrap (q_17 + 1))), (55, .int .i64 q_17)] hs (by kernel_rfl) fun a hs => ?_
            replace hs := hs.pick [1, 2, 3, 7, 8, 77, 78, 79, 80, 81, 82, 83, 88] (L' := [(1, .int .i64 x1), (2, .int .i64 x2), (3, .pointer (some ⟨b_2, 0, none⟩)), (7, .pointer (some ⟨b_13, 0, none⟩)), (8, .int .i64 (IntKind.i64.wrap (q_17 + 1))), (77, .int .i64 q_17), (78, .pointer (some ⟨b_2, 0, none⟩)), (79, .int .i64 x0.kind), (80, .int .i64 x2), (81, .int .i64 v_42), (82, .bool (decide (q_17 ≥ v_42))), (83, .bool false), (88, .bool false)]) (by kernel_rfl)
            refine Vk.done (by kernel_rfl) ?_
            refine ih (IntKind.i64.wrap (q_17 + 1)) _ _ ⟨hm, hs.go [1, 2, 3, 7, 8] [0, 1] 2 (by kernel_rfl) (by kernel_rfl) (by kernel_rfl)⟩
      · replace hm := bif_f hm hb
        refine wp_exit ?_
        exact hx16 (Option.some.inj hm).symm _ _ (hs.go [3] [0] 2 (by kernel_rfl) (by kernel_rfl) (by kernel_rfl))
  refine Vk.region ?_
  refine Vk.pures 3 [(11, .bool (x2 != 2)), (10, .bool (x2 != 2)), (9, .int .i64 x2)] hs (by kernel_rfl) fun a hs => ?_
  suffices hj_5 : ∀ a, St 111 a w κ [(1, .int .i64 x1), (2, .int .i64 x2), (3, .pointer (some ⟨b_2, 0, none⟩)), (9, .int .i64 x2), (10, .bool (x2 != 2)), (11, .bool (x2 != 2)), (14, .bool ((x2 != 2) && (x2 != 3)))] (pt b_2 (blk (Tapi_Op.cells x0) 32) :: S) → wpFrom Try.prog _ _ 6 a w by
    rcases Bool.eq_false_or_eq_true (x2 != 2) with hb | hb
    · replace hs := hs.known (t := 11) hb (by kernel_rfl)
      refine Vk.pures 3 [(14, .bool (x2 != 3)), (13, .bool (x2 != 3)), (12, .int .i64 x2)] hs (by kernel_rfl) fun a hs => ?_
      have hq := hs.pick [1, 2, 3, 9, 10, 11, 14] (L' := [(1, .int .i64 x1), (2, .int .i64 x2), (3, .pointer (some ⟨b_2, 0, none⟩)), (9, .int .i64 x2), (10, .bool (x2 != 2)), (11, .bool true), (14, .bool (x2 != 3))]) (by kernel_rfl)
      exact hj_5 _ (hq.conv (by first | (rw [hb] <;> rfl) | rfl))
    · replace hs := hs.known (t := 11) hb (by kernel_rfl)
      refine Vk.pures 3 [(14, .bool false), (13, undef), (12, undef)] hs (by kernel_rfl) fun a hs => ?_
      have hq := hs.pick [1, 2, 3, 9, 10, 11, 14] (L' := [(1, .int .i64 x1), (2, .int .i64 x2), (3, .pointer (some ⟨b_2, 0, none⟩)), (9, .int .i64 x2), (10, .bool (x2 != 2)), (11, .bool false), (14, .bool false)]) (by kernel_rfl)
      exact hj_5 _ (hq.conv (by first | (rw [hb] <;> rfl) | rfl))
  intro a hs
  refine Vk.pures 1 [(15, .bool ((x2 != 2) && (x2 != 3)))] hs (by kernel_rfl) fun a hs => ?_
  suffices hj_6 : ∀ a, St 111 a w κ [(1, .int .i64 x1), (2, .int .i64 x2), (3, .pointer (some ⟨b_2, 0, none⟩)), (9, .int .i64 x2), (10, .bool (x2 != 2)), (11, .bool (x2 != 2)), (14, .bool ((x2 != 2) && (x2 != 3))), (15, .bool ((x2 != 2) && (x2 != 3))), (19, .bool (((x2 != 2) && (x2 != 3)) || (decide (x0.kind < 1))))] (pt b_2 (blk (Tapi_Op.cells x0) 32) :: S) → wpFrom Try.prog _ _ 11 a w by
    rcases Bool.eq_false_or_eq_true ((x2 != 2) && (x2 != 3)) with hb | hb
    · replace hs := hs.known (t := 15) hb (by kernel_rfl)
      refine Vk.pures 4 [(19, .bool true), (18, undef), (17, undef), (16, undef)] hs (by kernel_rfl) fun a hs => ?_
      have hq := hs.pick [1, 2, 3, 9, 10, 11, 14, 15, 19] (L' := [(1, .int .i64 x1), (2, .int .i64 x2), (3, .pointer (some ⟨b_2, 0, none⟩)), (9, .int .i64 x2), (10, .bool (x2 != 2)), (11, .bool (x2 != 2)), (14, .bool ((x2 != 2) && (x2 != 3))), (15, .bool true), (19, .bool true)]) (by kernel_rfl)
      exact hj_6 _ (hq.conv (by first | (rw [hb] <;> rfl) | rfl))
    · replace hs := hs.known (t := 15) hb (by kernel_rfl)
      refine Vk.pures 1 [(16, .pointer (some ⟨b_2, 0, none⟩))] hs (by kernel_rfl) fun a hs => ?_
      refine Vk.step (Vk.value (some 17) (.int .i64 x0.kind) hs (by kernel_rfl) (op := (.load 3 (.tmp 16))) (by kernel_rfl) (fun o ho => run_load1 (b := b_2) (off := 0) (c := C.int .i64 x0.kind) ho (by kernel_rfl) (by kernel_rfl) (Cell.own 0 rfl (by kernel_rfl)) _ hs.own) fun a hs => ?_)
      refine Vk.pures 2 [(19, .bool (decide (x0.kind < 1))), (18, .bool (decide (x0.kind < 1)))] hs (by kernel_rfl) fun a hs => ?_
      have hq := hs.pick [1, 2, 3, 9, 10, 11, 14, 15, 19] (L' := [(1, .int .i64 x1), (2, .int .i64 x2), (3, .pointer (some ⟨b_2, 0, none⟩)), (9, .int .i64 x2), (10, .bool (x2 != 2)), (11, .bool (x2 != 2)), (14, .bool ((x2 != 2) && (x2 != 3))), (15, .bool false), (19, .bool (decide (x0.kind < 1)))]) (by kernel_rfl)
      exact hj_6 _ (hq.conv (by first | (rw [hb] <;> rfl) | rfl))
  intro a hs
  refine Vk.pures 1 [(20, .bool (((x2 != 2) && (x2 != 3)) || (decide (x0.kind < 1))))] hs (by kernel_rfl) fun a hs => ?_
  suffices hj_7 : ∀ a, St 111 a w κ [(1, .int .i64 x1), (2, .int .i64 x2), (3, .pointer (some ⟨b_2, 0, none⟩)), (9, .int .i64 x2), (10, .bool (x2 != 2)), (11, .bool (x2 != 2)), (14, .bool ((x2 != 2) && (x2 != 3))), (15, .bool ((x2 != 2) && (x2 != 3))), (19, .bool (((x2 != 2) && (x2 != 3)) || (decide (x0.kind < 1)))), (20, .bool (((x2 != 2) && (x2 != 3)) || (decide (x0.kind < 1)))), (24, .bool ((((x2 != 2) && (x2 != 3)) || (decide (x0.kind < 1))) || (decide (x0.kind > 12))))] (pt b_2 (blk (Tapi_Op.cells x0) 32) :: S) → wpFrom Try.prog _ _ 16 a w by
    rcases Bool.eq_false_or_eq_true (((x2 != 2) && (x2 != 3)) || (decide (x0.kind < 1))) with hb | hb
    · replace hs := hs.known (t := 20) hb (by kernel_rfl)
      refine Vk.pures 4 [(24, .bool true), (23, undef), (22, undef), (21, undef)] hs (by kernel_rfl) fun a hs => ?_
      have hq := hs.pick [1, 2, 3, 9, 10, 11, 14, 15, 19, 20, 24] (L' := [(1, .int .i64 x1), (2, .int .i64 x2), (3, .pointer (some ⟨b_2, 0, none⟩)), (9, .int .i64 x2), (10, .bool (x2 != 2)), (11, .bool (x2 != 2)), (14, .bool ((x2 != 2) && (x2 != 3))), (15, .bool ((x2 != 2) && (x2 != 3))), (19, .bool (((x2 != 2) && (x2 != 3)) || (decide (x0.kind < 1)))), (20, .bool true), (24, .bool true)]) (by kernel_rfl)
      exact hj_7 _ (hq.conv (by first | (rw [hb] <;> rfl) | rfl))
    · replace hs := hs.known (t := 20) hb (by kernel_rfl)
      refine Vk.pures 1 [(21, .pointer (some ⟨b_2, 0, none⟩))] hs (by kernel_rfl) fun a hs => ?_
      refine Vk.step (Vk.value (some 22) (.int .i64 x0.kind) hs (by kernel_rfl) (op := (.load 3 (.tmp 21))) (by kernel_rfl) (fun o ho => run_load1 (b := b_2) (off := 0) (c := C.int .i64 x0.kind) ho (by kernel_rfl) (by kernel_rfl) (Cell.own 0 rfl (by kernel_rfl)) _ hs.own) fun a hs => ?_)
      refine Vk.pures 2 [(24, .bool (decide (x0.kind > 12))), (23, .bool (decide (x0.kind > 12)))] hs (by kernel_rfl) fun a hs => ?_
      have hq := hs.pick [1, 2, 3, 9, 10, 11, 14, 15, 19, 20, 24] (L' := [(1, .int .i64 x1), (2, .int .i64 x2), (3, .pointer (some ⟨b_2, 0, none⟩)), (9, .int .i64 x2), (10, .bool (x2 != 2)), (11, .bool (x2 != 2)), (14, .bool ((x2 != 2) && (x2 != 3))), (15, .bool ((x2 != 2) && (x2 != 3))), (19, .bool (((x2 != 2) && (x2 != 3)) || (decide (x0.kind < 1)))), (20, .bool false), (24, .bool (decide (x0.kind > 12)))]) (by kernel_rfl)
      exact hj_7 _ (hq.conv (by first | (rw [hb] <;> rfl) | rfl))
  intro a hs
  refine Vk.pures 1 [(25, .bool ((((x2 != 2) && (x2 != 3)) || (decide (x0.kind < 1))) || (decide (x0.kind > 12))))] hs (by kernel_rfl) fun a hs => ?_
  suffices hj_8 : ∀ a, St 111 a w κ [(1, .int .i64 x1), (2, .int .i64 x2), (3, .pointer (some ⟨b_2, 0, none⟩)), (9, .int .i64 x2), (10, .bool (x2 != 2)), (11, .bool (x2 != 2)), (14, .bool ((x2 != 2) && (x2 != 3))), (15, .bool ((x2 != 2) && (x2 != 3))), (19, .bool (((x2 != 2) && (x2 != 3)) || (decide (x0.kind < 1)))), (20, .bool (((x2 != 2) && (x2 != 3)) || (decide (x0.kind < 1)))), (24, .bool ((((x2 != 2) && (x2 != 3)) || (decide (x0.kind < 1))) || (decide (x0.kind > 12)))), (25, .bool ((((x2 != 2) && (x2 != 3)) || (decide (x0.kind < 1))) || (decide (x0.kind > 12)))), (29, .bool (((((x2 != 2) && (x2 != 3)) || (decide (x0.kind < 1))) || (decide (x0.kind > 12))) || (decide (x0.dom < (-1)))))] (pt b_2 (blk (Tapi_Op.cells x0) 32) :: S) → wpFrom Try.prog _ _ 21 a w by
    rcases Bool.eq_false_or_eq_true ((((x2 != 2) && (x2 != 3)) || (decide (x0.kind < 1))) || (decide (x0.kind > 12))) with hb | hb
    · replace hs := hs.known (t := 25) hb (by kernel_rfl)
      refine Vk.pures 4 [(29, .bool true), (28, undef), (27, undef), (26, undef)] hs (by kernel_rfl) fun a hs => ?_
      have hq := hs.pick [1, 2, 3, 9, 10, 11, 14, 15, 19, 20, 24, 25, 29] (L' := [(1, .int .i64 x1), (2, .int .i64 x2), (3, .pointer (some ⟨b_2, 0, none⟩)), (9, .int .i64 x2), (10, .bool (x2 != 2)), (11, .bool (x2 != 2)), (14, .bool ((x2 != 2) && (x2 != 3))), (15, .bool ((x2 != 2) && (x2 != 3))), (19, .bool (((x2 != 2) && (x2 != 3)) || (decide (x0.kind < 1)))), (20, .bool (((x2 != 2) && (x2 != 3)) || (decide (x0.kind < 1)))), (24, .bool ((((x2 != 2) && (x2 != 3)) || (decide (x0.kind < 1))) || (decide (x0.kind > 12)))), (25, .bool true), (29, .bool true)]) (by kernel_rfl)
      exact hj_8 _ (hq.conv (by first | (rw [hb] <;> rfl) | rfl))
    · replace hs := hs.known (t := 25) hb (by kernel_rfl)
      refine Vk.pures 1 [(26, .pointer (some ⟨b_2, 1, none⟩))] hs (by kernel_rfl) fun a hs => ?_
      refine Vk.step (Vk.value (some 27) (.int .i64 x0.dom) hs (by kernel_rfl) (op := (.load 3 (.tmp 26))) (by kernel_rfl) (fun o ho => run_load1 (b := b_2) (off := 1) (c := C.int .i64 x0.dom) ho (by kernel_rfl) (by kernel_rfl) (Cell.own 0 rfl (by kernel_rfl)) _ hs.own) fun a hs => ?_)
      refine Vk.pures 2 [(29, .bool (decide (x0.dom < (-1)))), (28, .bool (decide (x0.dom < (-1))))] hs (by kernel_rfl) fun a hs => ?_
      have hq := hs.pick [1, 2, 3, 9, 10, 11, 14, 15, 19, 20, 24, 25, 29] (L' := [(1, .int .i64 x1), (2, .int .i64 x2), (3, .pointer (some ⟨b_2, 0, none⟩)), (9, .int .i64 x2), (10, .bool (x2 != 2)), (11, .bool (x2 != 2)), (14, .bool ((x2 != 2) && (x2 != 3))), (15, .bool ((x2 != 2) && (x2 != 3))), (19, .bool (((x2 != 2) && (x2 != 3)) || (decide (x0.kind < 1)))), (20, .bool (((x2 != 2) && (x2 != 3)) || (decide (x0.kind < 1)))), (24, .bool ((((x2 != 2) && (x2 != 3)) || (decide (x0.kind < 1))) || (decide (x0.kind > 12)))), (25, .bool false), (29, .bool (decide (x0.dom < (-1))))]) (by kernel_rfl)
      exact hj_8 _ (hq.conv (by first | (rw [hb] <;> rfl) | rfl))
  intro a hs
  refine Vk.pures 1 [(30, .bool (((((x2 != 2) && (x2 != 3)) || (decide (x0.kind < 1))) || (decide (x0.kind > 12))) || (decide (x0.dom < (-1)))))] hs (by kernel_rfl) fun a hs => ?_
  suffices hj_9 : ∀ a, St 111 a w κ [(1, .int .i64 x1), (2, .int .i64 x2), (3, .pointer (some ⟨b_2, 0, none⟩)), (9, .int .i64 x2), (10, .bool (x2 != 2)), (11, .bool (x2 != 2)), (14, .bool ((x2 != 2) && (x2 != 3))), (15, .bool ((x2 != 2) && (x2 != 3))), (19, .bool (((x2 != 2) && (x2 != 3)) || (decide (x0.kind < 1)))), (20, .bool (((x2 != 2) && (x2 != 3)) || (decide (x0.kind < 1)))), (24, .bool ((((x2 != 2) && (x2 != 3)) || (decide (x0.kind < 1))) || (decide (x0.kind > 12)))), (25, .bool ((((x2 != 2) && (x2 != 3)) || (decide (x0.kind < 1))) || (decide (x0.kind > 12)))), (29, .bool (((((x2 != 2) && (x2 != 3)) || (decide (x0.kind < 1))) || (decide (x0.kind > 12))) || (decide (x0.dom < (-1))))), (30, .bool (((((x2 != 2) && (x2 != 3)) || (decide (x0.kind < 1))) || (decide (x0.kind > 12))) || (decide (x0.dom < (-1))))), (35, .bool ((((((x2 != 2) && (x2 != 3)) || (decide (x0.kind < 1))) || (decide (x0.kind > 12))) || (decide (x0.dom < (-1)))) || (decide (x0.dom ≥ x2))))] (pt b_2 (blk (Tapi_Op.cells x0) 32) :: S) → wpFrom Try.prog _ _ 27 a w by
    rcases Bool.eq_false_or_eq_true (((((x2 != 2) && (x2 != 3)) || (decide (x0.kind < 1))) || (decide (x0.kind > 12))) || (decide (x0.dom < (-1)))) with hb | hb
    · replace hs := hs.known (t := 30) hb (by kernel_rfl)
      refine Vk.pures 5 [(35, .bool true), (34, undef), (33, undef), (32, undef), (31, undef)] hs (by kernel_rfl) fun a hs => ?_
      have hq := hs.pick [1, 2, 3, 9, 10, 11, 14, 15, 19, 20, 24, 25, 29, 30, 35] (L' := [(1, .int .i64 x1), (2, .int .i64 x2), (3, .pointer (some ⟨b_2, 0, none⟩)), (9, .int .i64 x2), (10, .bool (x2 != 2)), (11, .bool (x2 != 2)), (14, .bool ((x2 != 2) && (x2 != 3))), (15, .bool ((x2 != 2) && (x2 != 3))), (19, .bool (((x2 != 2) && (x2 != 3)) || (decide (x0.kind < 1)))), (20, .bool (((x2 != 2) && (x2 != 3)) || (decide (x0.kind < 1)))), (24, .bool ((((x2 != 2) && (x2 != 3)) || (decide (x0.kind < 1))) || (decide (x0.kind > 12)))), (25, .bool ((((x2 != 2) && (x2 != 3)) || (decide (x0.kind < 1))) || (decide (x0.kind > 12)))), (29, .bool (((((x2 != 2) && (x2 != 3)) || (decide (x0.kind < 1))) || (decide (x0.kind > 12))) || (decide (x0.dom < (-1))))), (30, .bool true), (35, .bool true)]) (by kernel_rfl)
      exact hj_9 _ (hq.conv (by first | (rw [hb] <;> rfl) | rfl))
    · replace hs := hs.known (t := 30) hb (by kernel_rfl)
      refine Vk.pures 1 [(31, .pointer (some ⟨b_2, 1, none⟩))] hs (by kernel_rfl) fun a hs => ?_
      refine Vk.step (Vk.value (some 32) (.int .i64 x0.dom) hs (by kernel_rfl) (op := (.load 3 (.tmp 31))) (by kernel_rfl) (fun o ho => run_load1 (b := b_2) (off := 1) (c := C.int .i64 x0.dom) ho (by kernel_rfl) (by kernel_rfl) (Cell.own 0 rfl (by kernel_rfl)) _ hs.own) fun a hs => ?_)
      refine Vk.pures 3 [(35, .bool (decide (x0.dom ≥ x2))), (34, .bool (decide (x0.dom ≥ x2))), (33, .int .i64 x2)] hs (by kernel_rfl) fun a hs => ?_
      have hq := hs.pick [1, 2, 3, 9, 10, 11, 14, 15, 19, 20, 24, 25, 29, 30, 35] (L' := [(1, .int .i64 x1), (2, .int .i64 x2), (3, .pointer (some ⟨b_2, 0, none⟩)), (9, .int .i64 x2), (10, .bool (x2 != 2)), (11, .bool (x2 != 2)), (14, .bool ((x2 != 2) && (x2 != 3))), (15, .bool ((x2 != 2) && (x2 != 3))), (19, .bool (((x2 != 2) && (x2 != 3)) || (decide (x0.kind < 1)))), (20, .bool (((x2 != 2) && (x2 != 3)) || (decide (x0.kind < 1)))), (24, .bool ((((x2 != 2) && (x2 != 3)) || (decide (x0.kind < 1))) || (decide (x0.kind > 12)))), (25, .bool ((((x2 != 2) && (x2 != 3)) || (decide (x0.kind < 1))) || (decide (x0.kind > 12)))), (29, .bool (((((x2 != 2) && (x2 != 3)) || (decide (x0.kind < 1))) || (decide (x0.kind > 12))) || (decide (x0.dom < (-1))))), (30, .bool false), (35, .bool (decide (x0.dom ≥ x2)))]) (by kernel_rfl)
      exact hj_9 _ (hq.conv (by first | (rw [hb] <;> rfl) | rfl))
  intro a hs
  refine Vk.pures 1 [(36, .bool ((((((x2 != 2) && (x2 != 3)) || (decide (x0.kind < 1))) || (decide (x0.kind > 12))) || (decide (x0.dom < (-1)))) || (decide (x0.dom ≥ x2))))] hs (by kernel_rfl) fun a hs => ?_
  rcases Bool.eq_false_or_eq_true ((((((x2 != 2) && (x2 != 3)) || (decide (x0.kind < 1))) || (decide (x0.kind > 12))) || (decide (x0.dom < (-1)))) || (decide (x0.dom ≥ x2))) with hb | hb
  · replace hm := bif_t hm hb
    replace hs := hs.known (t := 36) hb (by kernel_rfl)
    refine Vk.pures 9 [(45, .bool true), (44, undef), (43, undef), (42, undef), (41, undef), (40, undef), (39, undef), (38, undef), (37, undef)] hs (by kernel_rfl) fun a hs => ?_
    replace hs := hs.pick [1, 2, 3, 45] (L' := [(1, .int .i64 x1), (2, .int .i64 x2), (3, .pointer (some ⟨b_2, 0, none⟩)), (45, .bool true)]) (by kernel_rfl)
    refine Vk.done (by kernel_rfl) ?_
    exact hj4 true hm _ _ (hs.go [1, 2, 3, 45] [0] 1 (by kernel_rfl) (by kernel_rfl) (by kernel_rfl))
  · replace hm := bif_f hm hb
    replace hs := hs.known (t := 36) hb (by kernel_rfl)
    refine Vk.pures 1 [(37, .pointer (some ⟨b_2, 0, none⟩))] hs (by kernel_rfl) fun a hs => ?_
    refine Vk.step (Vk.value (some 38) (.int .i64 x0.kind) hs (by kernel_rfl) (op := (.load 3 (.tmp 37))) (by kernel_rfl) (fun o ho => run_load1 (b := b_2) (off := 0) (c := C.int .i64 x0.kind) ho (by kernel_rfl) (by kernel_rfl) (Cell.own 0 rfl (by kernel_rfl)) _ hs.own) fun a hs => ?_)
    refine Vk.pures 2 [(40, .bool (x0.kind == 12)), (39, .bool (x0.kind == 12))] hs (by kernel_rfl) fun a hs => ?_
    rcases Bool.eq_false_or_eq_true (x0.kind == 12) with hb | hb
    · replace hm := bif_t hm hb
      replace hs := hs.known (t := 40) hb (by kernel_rfl)
      refine Vk.pures 1 [(41, .pointer (some ⟨b_2, 1, none⟩))] hs (by kernel_rfl) fun a hs => ?_
      refine Vk.step (Vk.value (some 42) (.int .i64 x0.dom) hs (by kernel_rfl) (op := (.load 3 (.tmp 41))) (by kernel_rfl) (fun o ho => run_load1 (b := b_2) (off := 1) (c := C.int .i64 x0.dom) ho (by kernel_rfl) (by kernel_rfl) (Cell.own 0 rfl (by kernel_rfl)) _ hs.own) fun a hs => ?_)
      refine Vk.pures 3 [(45, .bool (x0.dom != (-1))), (44, .bool (x0.dom != (-1))), (43, .bool (x0.dom != (-1)))] hs (by kernel_rfl) fun a hs => ?_
      replace hs := hs.pick [1, 2, 3, 45] (L' := [(1, .int .i64 x1), (2, .int .i64 x2), (3, .pointer (some ⟨b_2, 0, none⟩)), (45, .bool (x0.dom != (-1)))]) (by kernel_rfl)
      refine Vk.done (by kernel_rfl) ?_
      exact hj4 (x0.dom != (-1)) hm _ _ (hs.go [1, 2, 3, 45] [0] 1 (by kernel_rfl) (by kernel_rfl) (by kernel_rfl))
    · replace hm := bif_f hm hb
      replace hs := hs.known (t := 40) hb (by kernel_rfl)
      refine Vk.pures 5 [(45, .bool false), (44, .bool false), (43, undef), (42, undef), (41, undef)] hs (by kernel_rfl) fun a hs => ?_
      replace hs := hs.pick [1, 2, 3, 45] (L' := [(1, .int .i64 x1), (2, .int .i64 x2), (3, .pointer (some ⟨b_2, 0, none⟩)), (45, .bool false)]) (by kernel_rfl)
      refine Vk.done (by kernel_rfl) ?_
      exact hj4 false hm _ _ (hs.go [1, 2, 3, 45] [0] 1 (by kernel_rfl) (by kernel_rfl) (by kernel_rfl))

end Go.Proofs.Ytjjdlidjlepgeaa
