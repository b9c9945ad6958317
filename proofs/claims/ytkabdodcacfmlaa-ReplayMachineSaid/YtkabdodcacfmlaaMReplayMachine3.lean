/- Of each Go function that ReplayMachine comes to: a model in plain Lean, and that the program's call does what the model says; no condition. -/
import Derived.Test.YtkabdodcacfmlaaProg
import Derived.Test.YtkabdodcacfmlaaVdoapibmo
import Derived.Test.YtkabdodcacfmlaaMReplayMachine2
namespace Go.Proofs.Ytkabdodcacfmlaa
open Go Go.Vk
set_option linter.unusedVariables false

structure Treplay_source where
 keys : List Int
 masks : List Int
 opened : List Int
 blind : Bool
 deriving Inhabited
def Treplay_source.obj (x : Treplay_source) (Akeys : Option Addr) (ckeys : Nat) (Amasks : Option Addr) (cmasks : Nat) (Aopened : Option Addr) (copened : Nat) : Cells := [C.slc Akeys x.keys.length ckeys, C.slc Amasks x.masks.length cmasks, C.slc Aopened x.opened.length copened, C.bool x.blind]
def Treplay_source.parts (b : Nat) (x : Treplay_source) (g : Option Addr × Nat × Option Addr × Nat × Option Addr × Nat) : List HP := [pt b (blk (Treplay_source.obj x g.1 g.2.1 g.2.2.1 g.2.2.2.1 g.2.2.2.2.1 g.2.2.2.2.2) 80), rowp g.1 g.2.1 41 1 (eI .u64) x.keys, rowp g.2.2.1 g.2.2.2.1 41 1 (eI .u64) x.masks, rowp g.2.2.2.2.1 g.2.2.2.2.2 41 1 (eI .u64) x.opened]
def Treplay_source.own (b : Nat) (x : Treplay_source) : HP := exBag (Treplay_source.parts b x)

def replay_all.j3 (k : Nat) (rec24 : (List Int) → (List Int) → (List Int) → Int → (List Int) → Option (List Int × List Int × List Int)) (q_35 : List Int) (q_36 : Int) (q_39 : List Int) (p_135 : List Int) (p_163 : List Int) (p_165 : Int) : Option (List Int × List Int × List Int) := (if (q_39.length + ([p_165] : List Int).length) * 8 ≤ 140737488355328 then (if (q_35.length + ([p_165] : List Int).length) * 8 ≤ 140737488355328 then rec24 p_135 p_163 (q_35 ++ ([p_165] : List Int)) (IntKind.i64.wrap (q_36 + 1)) (q_39 ++ ([p_165] : List Int)) else none) else none)
def replay_all.j2 (k : Nat) (rec24 : (List Int) → (List Int) → (List Int) → Int → (List Int) → Option (List Int × List Int × List Int)) (x1 : Treplay_source) (q_31 : List Int) (q_35 : List Int) (q_36 : Int) (q_39 : List Int) (e_47 : Tapi_Op) (p_67 : Int) (p_81 : Int) (p_95 : Int) (p_132 : Int) (p_135 : List Int) : Option (List Int × List Int × List Int) := (op_Eval.m k e_47 p_67 p_81 p_95 p_132).bind fun v_139 => (bif (e_47.kind == 12) && x1.blind then (if 0 ≤ (0 : Int) then (q_31[0]?).bind fun e_149 => (if ((0 : Int) ≤ 1) ∧ 1 ≤ q_31.length ∧ q_31.length ≤ q_31.length then replay_all.j3 k (rec24) q_35 q_36 q_39 p_135 (cut q_31 (1) (q_31.length)) e_149 else none) else none) else replay_all.j3 k (rec24) q_35 q_36 q_39 p_135 q_31 v_139)
def replay_all.j1_3 (k : Nat) (rec24 : (List Int) → (List Int) → (List Int) → Int → (List Int) → Option (List Int × List Int × List Int)) (x1 : Treplay_source) (q_27 : List Int) (q_31 : List Int) (q_35 : List Int) (q_36 : Int) (q_39 : List Int) (e_47 : Tapi_Op) (p_67 : Int) (p_81 : Int) (p_95 : Int) : Option (List Int × List Int × List Int) := (bif e_47.kind == 1 then (if 0 ≤ (0 : Int) then (q_27[0]?).bind fun e_108 => (if ((0 : Int) ≤ 1) ∧ 1 ≤ q_27.length ∧ q_27.length ≤ q_27.length then replay_all.j2 k (rec24) x1 q_31 q_35 q_36 q_39 e_47 p_67 p_81 p_95 e_108 (cut q_27 (1) (q_27.length)) else none) else none) else (bif (e_47.kind == 2) && (!x1.blind) then (if 0 ≤ e_47.c then (x1.keys[e_47.c.toNat]?).bind fun e_127 => replay_all.j2 k (rec24) x1 q_31 q_35 q_36 q_39 e_47 p_67 p_81 p_95 e_127 q_27 else none) else replay_all.j2 k (rec24) x1 q_31 q_35 q_36 q_39 e_47 p_67 p_81 p_95 0 q_27))
def replay_all.j1_2 (k : Nat) (rec24 : (List Int) → (List Int) → (List Int) → Int → (List Int) → Option (List Int × List Int × List Int)) (x1 : Treplay_source) (q_27 : List Int) (q_31 : List Int) (q_35 : List Int) (q_36 : Int) (q_39 : List Int) (e_47 : Tapi_Op) (p_67 : Int) (p_81 : Int) : Option (List Int × List Int × List Int) := (bif decide (e_47.d < 0) then replay_all.j1_3 k (rec24) x1 q_27 q_31 q_35 q_36 q_39 e_47 p_67 p_81 0 else (if 0 ≤ e_47.d then (q_35[e_47.d.toNat]?).bind fun e_91 => replay_all.j1_3 k (rec24) x1 q_27 q_31 q_35 q_36 q_39 e_47 p_67 p_81 e_91 else none))
def replay_all.j1 (k : Nat) (rec24 : (List Int) → (List Int) → (List Int) → Int → (List Int) → Option (List Int × List Int × List Int)) (x1 : Treplay_source) (q_27 : List Int) (q_31 : List Int) (q_35 : List Int) (q_36 : Int) (q_39 : List Int) (e_47 : Tapi_Op) (p_67 : Int) : Option (List Int × List Int × List Int) := (bif decide (e_47.b < 0) then replay_all.j1_2 k (rec24) x1 q_27 q_31 q_35 q_36 q_39 e_47 p_67 0 else (if 0 ≤ e_47.b then (q_35[e_47.b.toNat]?).bind fun e_77 => replay_all.j1_2 k (rec24) x1 q_27 q_31 q_35 q_36 q_39 e_47 p_67 e_77 else none))
def replay_all.l1 (x0 : Tapi_Trace) (x1 : Treplay_source) : Nat → (List Int) → (List Int) → (List Int) → Int → (List Int) → Option (List Int × List Int × List Int)
 | 0, _, _, _, _, _ => none
 | k + 1, q_27, q_31, q_35, q_36, q_39 => (bif decide (q_36 < ((x0.ops.length : Nat) : Int)) then (if 0 ≤ q_36 then (x0.ops[q_36.toNat]?).bind fun e_47 => (bif decide (e_47.a < 0) then replay_all.j1 k (replay_all.l1 x0 x1 k) x1 q_27 q_31 q_35 q_36 q_39 e_47 0 else (if 0 ≤ e_47.a then (q_35[e_47.a.toNat]?).bind fun e_63 => replay_all.j1 k (replay_all.l1 x0 x1 k) x1 q_27 q_31 q_35 q_36 q_39 e_47 e_63 else none)) else none) else some (q_39, q_27, q_31))
abbrev replay_all.R (κ : Ctx) (S : List HP) (x0 : Tapi_Trace) (x1 : Treplay_source) (A_x0ops : Option Addr) (c_x0ops : Nat) (A_x0blocks : Option Addr) (c_x0blocks : Nat) (A_x1keys : Option Addr) (c_x1keys : Nat) (A_x1masks : Option Addr) (c_x1masks : Nat) (A_x1opened : Option Addr) (c_x1opened : Nat) (r : List Int) : Ending → World → Prop := fun e w' => ∃ (A_r0 : Option Addr), ∃ (c_r0 : Nat), e = .returned (.slice A_r0 r.length c_r0) ∧ Ow κ w' (rowp A_r0 c_r0 41 1 (eI .u64) r :: S)
def replay_all.m (k : Nat) (x0 : Tapi_Trace) (x1 : Treplay_source) : Option (List Int) := (if (0 : Int) ≤ 0 ∧ (0 : Int) ≤ ((x0.ops.length : Nat) : Int) ∧ (8 : Int) * ((x0.ops.length : Nat) : Int) ≤ 281474976710656 then (if (0 : Int) ≤ 0 ∧ (0 : Int) ≤ ((x0.ops.length : Nat) : Int) ∧ (8 : Int) * ((x0.ops.length : Nat) : Int) ≤ 281474976710656 then (replay_all.l1 x0 x1 k x1.masks x1.opened (List.replicate 0 0 : List Int) 0 (List.replicate 0 0 : List Int)).bind fun x => match x with | (p_181, p_184, p_188) => some p_181 else none) else none)

set_option maxRecDepth 100000 in
set_option maxHeartbeats 4000000 in
theorem replay_all.ok (k : Nat) (x0 : Tapi_Trace) (x1 : Treplay_source) (r : List Int) (hm : replay_all.m k x0 x1 = some r) (κ : Ctx) (w : World) (S : List HP) (A_x0ops : Option Addr) (c_x0ops : Nat) (hx_x0ops : Sl κ S A_x0ops c_x0ops 6 Tapi_Op.cells x0.ops) (A_x0blocks : Option Addr) (c_x0blocks : Nat) (hx_x0blocks : Sl κ S A_x0blocks c_x0blocks 3 Tapi_Span.cells x0.blocks) (A_x1keys : Option Addr) (c_x1keys : Nat) (hx_x1keys : Sl κ S A_x1keys c_x1keys 1 (eI .u64) x1.keys) (A_x1masks : Option Addr) (c_x1masks : Nat) (hx_x1masks : Sl κ S A_x1masks c_x1masks 1 (eI .u64) x1.masks) (A_x1opened : Option Addr) (c_x1opened : Nat) (hx_x1opened : Sl κ S A_x1opened c_x1opened 1 (eI .u64) x1.opened) (ho : Ow κ w (S)) :
  Calls Try.prog 39 #[.agg (vals [ci x0.n, C.slc A_x0ops x0.ops.length c_x0ops, C.slc A_x0blocks x0.blocks.length c_x0blocks]), .agg (vals [C.slc A_x1keys x1.keys.length c_x1keys, C.slc A_x1masks x1.masks.length c_x1masks, C.slc A_x1opened x1.opened.length c_x1opened, C.bool x1.blind])] w (replay_all.R κ S x0 x1 A_x0ops c_x0ops A_x0blocks c_x0blocks A_x1keys c_x1keys A_x1masks c_x1masks A_x1opened c_x1opened r) := by
 unfold replay_all.m at hm
 generalize hRR : replay_all.R κ S x0 x1 A_x0ops c_x0ops A_x0blocks c_x0blocks A_x1keys c_x1keys A_x1masks c_x1masks A_x1opened c_x1opened r = RR
 refine enterM [(0, .agg (vals [ci x0.n, C.slc A_x0ops x0.ops.length c_x0ops, C.slc A_x0blocks x0.blocks.length c_x0blocks])), (1, .agg (vals [C.slc A_x1keys x1.keys.length c_x1keys, C.slc A_x1masks x1.masks.length c_x1masks, C.slc A_x1opened x1.opened.length c_x1opened, C.bool x1.blind]))] Try.func39 Try.ntmps39 ho fun a hs => ?_
 refine qsr fun K1 hK1 => ?_
 refine qbx 0 35 [ci x0.n, C.slc A_x0ops x0.ops.length c_x0ops, C.slc A_x0blocks x0.blocks.length c_x0blocks] 2 hs fun b_2 w a hs => ?_
 refine qbx 1 80 [C.slc A_x1keys x1.keys.length c_x1keys, C.slc A_x1masks x1.masks.length c_x1masks, C.slc A_x1opened x1.opened.length c_x1opened, C.bool x1.blind] 3 hs fun b_3 w a hs => ?_
 refine qpe 1 [(2, pp b_2), (3, pp b_3)] hs fun a hs => hK1 _ _ ?_
 clear hK1
 refine qsr fun K4 hK4 => ?_
 refine qpu 1 hs fun a hs => ?_
 refine qld 1 (C.slc A_x0ops x0.ops.length c_x0ops) hs rfl fun a hs => ?_
 refine qpu 1 hs fun a hs => ?_
 obtain ⟨h_5, hm⟩ := ite_t hm
 refine Vk.step (Vk.makeOp (x := (.const (vi 0))) (y := (.tmp 9)) (kl := .i64) (kc := .i64) (enc := (eI .u64)) (sz := 1) (by_ := 8) (t := 23) (e := 41) (0) (some 10) hs (by kernel_rfl) (by kernel_rfl) (by kernel_rfl) (by kernel_rfl) (by kernel_rfl) (by kernel_rfl) rfl (by decide) h_5 (by decide) fun A_6 w a hs => ?_)
 refine qal 23 [C.slc none 0 0] 5 hs fun b_8 w a hs => ?_
 refine qst 0 0 (C.slc A_6 ((List.replicate 0 0 : List Int).length) (((x0.ops.length : Nat) : Int).toNat)) hs rfl fun a w hs => ?_
 refine qpk 0 [2, 3, 5] hs fun a hs => hK4 _ _ ?_
 clear hK4
 refine Vk.seq fun K9 hK9 => ?_
 refine qsr fun K10 hK10 => ?_
 refine qln 3 ([ci x0.n, C.slc A_x0ops x0.ops.length c_x0ops, C.slc A_x0blocks x0.blocks.length c_x0blocks]) hs rfl fun a hs => ?_
 refine qln 2 ([C.slc A_x1keys x1.keys.length c_x1keys, C.slc A_x1masks x1.masks.length c_x1masks, C.slc A_x1opened x1.opened.length c_x1opened, C.bool x1.blind]) hs rfl fun a hs => ?_
 refine Vk.step (Vk.call (some 13) 69 #[.agg (vals [ci x0.n, C.slc A_x0ops x0.ops.length c_x0ops, C.slc A_x0blocks x0.blocks.length c_x0blocks]), .agg (vals [C.slc A_x1keys x1.keys.length c_x1keys, C.slc A_x1masks x1.masks.length c_x1masks, C.slc A_x1opened x1.opened.length c_x1opened, C.bool x1.blind])] hs (by kernel_rfl) (by kernel_rfl) (by kernel_rfl) ?_)
 refine Vk.enterI [(0, .agg (vals [ci x0.n, C.slc A_x0ops x0.ops.length c_x0ops, C.slc A_x0blocks x0.blocks.length c_x0blocks])), (1, .agg (vals [C.slc A_x1keys x1.keys.length c_x1keys, C.slc A_x1masks x1.masks.length c_x1masks, C.slc A_x1opened x1.opened.length c_x1opened, C.bool x1.blind]))] Try.func69 rfl Try.ntmps69 (by kernel_rfl) (Nat.le_of_ble_eq_true (by kernel_rfl)) hs.own fun KR11 hKR11 hKP11 a hs => ?_
 refine qsr fun K12 hK12 => ?_
 refine qbx 0 35 [ci x0.n, C.slc A_x0ops x0.ops.length c_x0ops, C.slc A_x0blocks x0.blocks.length c_x0blocks] 2 hs fun b_13 w a hs => ?_
 refine qbx 1 80 [C.slc A_x1keys x1.keys.length c_x1keys, C.slc A_x1masks x1.masks.length c_x1masks, C.slc A_x1opened x1.opened.length c_x1opened, C.bool x1.blind] 3 hs fun b_14 w a hs => ?_
 refine qpe 1 [(2, pp b_13), (3, pp b_14)] hs fun a hs => hK12 _ _ ?_
 clear hK12
 refine qsk 2 [4] hs fun a hs => ?_
 refine wp_ret ?_
 refine hKP11 _ _ ?_
 refine hKR11 _ _ ?_
 refine Vk.ret1 (P := Try.prog) (fn := Try.f69) (.func (.func 82) #[] #[pp b_13, pp b_14]) hs rfl (by kernel_rfl) ⟨_, _, _, rfl, hs.own, fun a hs => ?_⟩
 refine qpk 0 [5, 13] hs fun a hs => hK10 _ _ ?_
 clear hK10
 refine wp_block ?_
 replace hs := hs.pick [5, 13] (L' := [(5, pp b_8), (13, .func (.func 82) #[] #[pp b_13, pp b_14])]) (by kernel_rfl)
 refine rangeFn (gf := 82) (caps := #[pp b_13, pp b_14]) hs fun lp_16 dm_16 fm_16 Tm_16 Xr_16 Yr_16 w hX_16 hY_16 hT_16 ho => ?_
 refine Vk.enterI [(0, .func (.yield lp_16) #[] #[]), (1, pp b_13), (2, pp b_14)] Try.func82 rfl Try.ntmps82 (by kernel_rfl) (Nat.le_of_ble_eq_true (by kernel_rfl)) ho fun KR16 hKR16 hKP16 a hs => ?_
 refine tailK fun KN16 hKN16 => ?_
 refine qsr fun K17 hK17 => ?_
 refine qpu 1 hs fun a hs => ?_
 refine qld 3 (C.slc A_x0ops x0.ops.length c_x0ops) hs rfl fun a hs => ?_
 refine qpu 1 hs fun a hs => ?_
 obtain ⟨h_18, hm⟩ := ite_t hm
 refine Vk.step (Vk.makeOp (x := (.const (vi 0))) (y := (.tmp 11)) (kl := .i64) (kc := .i64) (enc := (eI .u64)) (sz := 1) (by_ := 8) (t := 23) (e := 41) (0) (some 12) hs (by kernel_rfl) (by kernel_rfl) (by kernel_rfl) (by kernel_rfl) (by kernel_rfl) (by kernel_rfl) rfl (by decide) h_18 (by decide) fun A_19 w a hs => ?_)
 refine qal 23 [C.slc none 0 0] 4 hs fun b_21 w a hs => ?_
 refine qst 0 0 (C.slc A_19 ((List.replicate 0 0 : List Int).length) (((x0.ops.length : Nat) : Int).toNat)) hs rfl fun a w hs => ?_
 refine qpk 0 [0, 1, 2, 4] hs fun a hs => hK17 _ _ ?_
 clear hK17
 refine qsk 2 [0, 1, 2, 4, 5] hs fun a hs => ?_
 refine qsr fun K23 hK23 => ?_
 refine qpu 1 hs fun a hs => ?_
 refine qld 5 (C.slc A_x0ops x0.ops.length c_x0ops) hs rfl fun a hs => ?_
 refine qpk 2 [0, 2, 4, 5, 15, 16, 17] hs fun a hs => hK23 _ _ ?_
 clear hK23
 refine wp_block ?_
 obtain ⟨r24, hl24, hm⟩ := bind_t hm
 have hx24 : ∀ (p_181 : List Int) (p_184 : List Int) (p_188 : List Int), r24 = (p_181, p_184, p_188) → ∀ (A_179 : Option Addr) (c_180 : Nat) (A_182 : Option Addr) (c_183 : Nat) (hx_185 : Sl κ S A_182 c_183 1 (eI .u64) p_184) (A_186 : Option Addr) (c_187 : Nat) (hx_189 : Sl κ S A_186 c_187 1 (eI .u64) p_188) (a : Act) (w : World), St 55 a w κ [] (pt lp_16 Xr_16 :: pt dm_16 dfD :: pt b_8 (blk [C.slc A_179 p_181.length c_180] 23) :: rowp A_179 c_180 41 1 (eI .u64) p_181 :: pt b_13 (blk (Tapi_Trace.obj x0 A_x0ops c_x0ops A_x0blocks c_x0blocks) 35) :: pt b_14 (blk [C.slc A_x1keys x1.keys.length c_x1keys, C.slc A_182 p_184.length c_183, C.slc A_186 p_188.length c_187, C.bool x1.blind] 80) :: S) → KN16 a w := by
  intro p_181 p_184 p_188 he A_179 c_180 A_182 c_183 hx_185 A_186 c_187 hx_189 a w hs
  subst r24
  refine hKN16 _ _ ?_
  refine Vk.end0 (P := Try.prog) (fn := Try.f82) hs rfl ⟨_, _, 0, ⟨_, rfl⟩, hs.own, rfl, fun a w (hs : St ⟨20, [mkD dm_16]⟩ a w κ [(5, pp b_8), (13, .func (.func 82) #[] #[pp b_13, pp b_14])] (pt dm_16 dfD :: pt b_8 (blk [C.slc A_179 p_181.length c_180] 23) :: rowp A_179 c_180 41 1 (eI .u64) p_181 :: pt b_13 (blk (Tapi_Trace.obj x0 A_x0ops c_x0ops A_x0blocks c_x0blocks) 35) :: pt b_14 (blk [C.slc A_x1keys x1.keys.length c_x1keys, C.slc A_182 p_184.length c_183, C.slc A_186 p_188.length c_187, C.bool x1.blind] 80) :: S)) => ?_⟩
  refine hK9 _ _ ?_
  clear hK9
  refine qsr fun K205 hK205 => ?_
  refine qld 1 (C.slc A_179 p_181.length c_180) hs rfl fun a hs => ?_
  refine qpe 1 [(4, .slice A_179 p_181.length c_180)] hs fun a hs => hK205 _ _ ?_
  clear hK205
  refine wp_ret ?_
  refine leaves1 0 hs rfl rfl fun a w hs => ?_
  replace hs : St 20 a w κ [(4, .slice A_179 p_181.length c_180)] (pt b_8 (blk [C.slc A_179 p_181.length c_180] 23) :: rowp A_179 c_180 41 1 (eI .u64) p_181 :: pt b_13 (blk (Tapi_Trace.obj x0 A_x0ops c_x0ops A_x0blocks c_x0blocks) 35) :: pt b_14 (blk [C.slc A_x1keys x1.keys.length c_x1keys, C.slc A_182 p_184.length c_183, C.slc A_186 p_188.length c_187, C.bool x1.blind] 80) :: S) := hs.pick [4] (by kernel_rfl)
  exact qr1 (.slice A_179 p_181.length c_180) hs rfl hRR (by cases hm; exact ⟨A_179, c_180, rfl, hs.own.f3.drop.f2.drop.drop⟩)
 refine Vk.loopBy (fun k (s : List Int × List Int × List Int × Int × List Int) a w => ∃ (A_25 : Option Addr), ∃ (c_26 : Nat), ∃ (A_29 : Option Addr), ∃ (c_30 : Nat), ∃ (A_33 : Option Addr), ∃ (c_34 : Nat), ∃ (A_37 : Option Addr), ∃ (c_38 : Nat), replay_all.l1 x0 x1 k s.1 s.2.1 s.2.2.1 s.2.2.2.1 s.2.2.2.2 = some r24 ∧ Sl κ S A_25 c_26 1 (eI .u64) s.1 ∧ Sl κ S A_29 c_30 1 (eI .u64) s.2.1 ∧ St 55 a w κ [(0, .func (.yield lp_16) #[] #[]), (2, pp b_14), (4, pp b_21), (5, .func (.func 83) #[] #[pp b_21]), (15, .slice A_x0ops x0.ops.length c_x0ops), (16, vi ((x0.ops.length : Nat) : Int)), (17, vi s.2.2.2.1)] (pt b_14 (blk [C.slc A_x1keys x1.keys.length c_x1keys, C.slc A_25 s.1.length c_26, C.slc A_29 s.2.1.length c_30, C.bool x1.blind] 80) :: pt b_21 (blk [C.slc A_33 s.2.2.1.length c_34] 23) :: rowp A_33 c_34 41 1 (eI .u64) s.2.2.1 :: pt lp_16 Xr_16 :: pt dm_16 dfD :: pt b_8 (blk [C.slc A_37 s.2.2.2.2.length c_38] 23) :: rowp A_37 c_38 41 1 (eI .u64) s.2.2.2.2 :: pt b_13 (blk (Tapi_Trace.obj x0 A_x0ops c_x0ops A_x0blocks c_x0blocks) 35) :: S)) k (x1.masks, x1.opened, (List.replicate 0 0 : List Int), 0, (List.replicate 0 0 : List Int)) ⟨A_x1masks, c_x1masks, A_x1opened, c_x1opened, A_19, ((x0.ops.length : Nat) : Int).toNat, A_6, ((x0.ops.length : Nat) : Int).toNat, hl24, hx_x1masks, hx_x1opened, hs.go [0, 2, 4, 5, 15, 16, 17] [4, 0, 1, 2, 3, 6, 7, 5] 10 (by kernel_rfl) (by kernel_rfl) (by kernel_rfl)⟩ (fun s a w h => by obtain ⟨_, _, _, _, _, _, _, _, h1, _⟩ := h; simp [replay_all.l1] at h1) (fun k KL24 ih s a w h => ?_)
 obtain ⟨q_27, q_31, q_35, q_36, q_39⟩ := s
 obtain ⟨A_25, c_26, A_29, c_30, A_33, c_34, A_37, c_38, hm, hx_28, hx_32, hs⟩ := h
 try dsimp only at hm hs
 rw [replay_all.l1] at hm
 refine qsk 1 [0, 2, 4, 5, 15, 16, 17, 18] hs fun a hs => ?_
 refine Vk.seq fun K41 hK41 => ?_
 refine qcs (decide (q_36 < ((x0.ops.length : Nat) : Int))) hs (fun hb => ?_) fun hb => ?_
 ·replace hm := bif_t hm hb
  refine wp_skip ?_
  refine hK41 _ _ ?_
  clear hK41
  refine Vk.seq fun K42 hK42 => ?_
  refine wp_block ?_
  refine qsr fun K43 hK43 => ?_
  obtain ⟨h_44, hm⟩ := ite_t hm
  obtain ⟨e_47, h_45, hm⟩ := bind_t hm
  obtain ⟨b_48, o_49, hA_50, h_46⟩ := Sl.elem hx_x0ops h_45
  refine qva (.pointer (some ⟨b_48, o_49 + q_36.toNat * 6, none⟩)) (op := (.indexAddr 32 (.tmp 15) (.tmp 17))) hs (fun o ho => run_idxSlc (k := .i64) ho (cap := c_x0ops) (len := x0.ops.length) ((congrArg (fun A => Value.slice A (x0.ops.length) (c_x0ops)) hA_50) ▸ (by kernel_rfl)) (by kernel_rfl) (by kernel_rfl) (idx_ok h_44 h_45) _) fun a hs => ?_
  refine qva (.agg (vals [ci e_47.kind, ci e_47.dom, ci e_47.a, ci e_47.b, ci e_47.d, cw e_47.c])) (op := (.load 43 (.tmp 19))) hs (fun o ho => run_loadN (cs := [ci e_47.kind, ci e_47.dom, ci e_47.a, ci e_47.b, ci e_47.d, cw e_47.c]) ho (by kernel_rfl) (by kernel_rfl) rfl h_46 _ hs.own.drop.drop.drop.drop.drop.drop.drop.drop) fun a hs => ?_
  refine qal 43 [ci 0, ci 0, ci 0, ci 0, ci 0, cw 0] 7 hs fun b_51 w a hs => ?_
  refine qsa 0 [ci e_47.kind, ci e_47.dom, ci e_47.a, ci e_47.b, ci e_47.d, cw e_47.c] hs rfl fun a w hs => ?_
  refine qpk 0 [0, 2, 4, 5, 7, 15, 16, 17] hs fun a hs => hK43 _ _ ?_
  clear hK43
  refine Vk.seq fun K52 hK52 => ?_
  obtain ⟨C_53, hC_53⟩ := qC hs.own.f1.drop
  refine qdr 17 κ C_53 hs fun w hs hqC_53 => ?_
  have hcl := qO hC_53 hs.own.f1.drop
  refine qdp (fuel := 11) [1, 2, 5, 6, 9, 10] hs hcl hqC_53 fun a hs => ?_
  refine qdn 0 0 ([ci e_47.kind, ci e_47.dom, ci e_47.a, ci e_47.b, ci e_47.d, cw e_47.c]) hs hcl hqC_53 hC_53 rfl fun a hs => ?_
  refine qdl 3 0 (ci e_47.a) hs hcl hqC_53 hC_53 rfl fun a hs => ?_
  refine qdl 7 0 (ci e_47.b) hs hcl hqC_53 hC_53 rfl fun a hs => ?_
  refine qdl 11 0 (ci e_47.d) hs hcl hqC_53 hC_53 rfl fun a hs => ?_
  refine qdn 13 0 ([ci e_47.kind, ci e_47.dom, ci e_47.a, ci e_47.b, ci e_47.d, cw e_47.c]) hs hcl hqC_53 hC_53 rfl fun a hs => ?_
  refine Vk.dOnly (i := 4) (by kernel_rfl) (Vk.call (some 25) 83 #[vi e_47.a, pp b_21] hs (by kernel_rfl) (by kernel_rfl) (by kernel_rfl) ?_)
  refine Vk.enterI [(0, vi e_47.a), (1, pp b_21)] Try.func83 rfl Try.ntmps83 (by kernel_rfl) (Nat.le_of_ble_eq_true (by kernel_rfl)) hs.own fun KR54 hKR54 hKP54 a hs => ?_
  have hj54 : ∀ (p_67 : Int), replay_all.j1 k (replay_all.l1 x0 x1 k) x1 q_27 q_31 q_35 q_36 q_39 e_47 p_67 = some r24 → ∀ (a : Act) (w : World), St 10 a w κ [(3, vw p_67)] (pt lp_16 Xr_16 :: pt dm_16 dfD :: pt b_8 (blk [C.slc A_37 q_39.length c_38] 23) :: rowp A_37 c_38 41 1 (eI .u64) q_39 :: pt b_13 (blk (Tapi_Trace.obj x0 A_x0ops c_x0ops A_x0blocks c_x0blocks) 35) :: pt b_14 (blk [C.slc A_x1keys x1.keys.length c_x1keys, C.slc A_25 q_27.length c_26, C.slc A_29 q_31.length c_30, C.bool x1.blind] 80) :: pt b_21 (blk [C.slc A_33 q_35.length c_34] 23) :: rowp A_33 c_34 41 1 (eI .u64) q_35 :: pt b_51 (blk (Tapi_Op.cells e_47) 43) :: S) → KR54 a w := by
   intro p_67 hm a w hs
   unfold replay_all.j1 at hm
   refine hKR54 _ _ ?_
   refine Vk.ret1 (P := Try.prog) (fn := Try.f83) (vw p_67) hs rfl (by kernel_rfl) ⟨_, _, _, rfl, hs.own, fun a hs => ?_⟩
   replace hcl := qO hC_53 hs.own.f5.drop.f6.f6.f7
   refine ⟨fun _ => hcl, ?_⟩
   refine Vk.dOnly (i := 8) (by kernel_rfl) (Vk.call (some 29) 83 #[vi e_47.b, pp b_21] hs (by kernel_rfl) (by kernel_rfl) (by kernel_rfl) ?_)
   refine Vk.enterI [(0, vi e_47.b), (1, pp b_21)] Try.func83 rfl Try.ntmps83 (by kernel_rfl) (Nat.le_of_ble_eq_true (by kernel_rfl)) hs.own fun KR68 hKR68 hKP68 a hs => ?_
   have hj68 : ∀ (p_81 : Int), replay_all.j1_2 k (replay_all.l1 x0 x1 k) x1 q_27 q_31 q_35 q_36 q_39 e_47 p_67 p_81 = some r24 → ∀ (a : Act) (w : World), St 10 a w κ [(3, vw p_81)] (pt lp_16 Xr_16 :: pt dm_16 dfD :: pt b_8 (blk [C.slc A_37 q_39.length c_38] 23) :: rowp A_37 c_38 41 1 (eI .u64) q_39 :: pt b_13 (blk (Tapi_Trace.obj x0 A_x0ops c_x0ops A_x0blocks c_x0blocks) 35) :: pt b_14 (blk [C.slc A_x1keys x1.keys.length c_x1keys, C.slc A_25 q_27.length c_26, C.slc A_29 q_31.length c_30, C.bool x1.blind] 80) :: pt b_21 (blk [C.slc A_33 q_35.length c_34] 23) :: rowp A_33 c_34 41 1 (eI .u64) q_35 :: pt b_51 (blk (Tapi_Op.cells e_47) 43) :: S) → KR68 a w := by
    intro p_81 hm a w hs
    unfold replay_all.j1_2 at hm
    refine hKR68 _ _ ?_
    refine Vk.ret1 (P := Try.prog) (fn := Try.f83) (vw p_81) hs rfl (by kernel_rfl) ⟨_, _, _, rfl, hs.own, fun a hs => ?_⟩
    replace hcl := qO hC_53 hs.own.f5.drop.f6.f6.f7
    refine ⟨fun _ => hcl, ?_⟩
    refine Vk.dOnly (i := 12) (by kernel_rfl) (Vk.call (some 33) 83 #[vi e_47.d, pp b_21] hs (by kernel_rfl) (by kernel_rfl) (by kernel_rfl) ?_)
    refine Vk.enterI [(0, vi e_47.d), (1, pp b_21)] Try.func83 rfl Try.ntmps83 (by kernel_rfl) (Nat.le_of_ble_eq_true (by kernel_rfl)) hs.own fun KR82 hKR82 hKP82 a hs => ?_
    have hj82 : ∀ (p_95 : Int), replay_all.j1_3 k (replay_all.l1 x0 x1 k) x1 q_27 q_31 q_35 q_36 q_39 e_47 p_67 p_81 p_95 = some r24 → ∀ (a : Act) (w : World), St 10 a w κ [(3, vw p_95)] (pt lp_16 Xr_16 :: pt dm_16 dfD :: pt b_8 (blk [C.slc A_37 q_39.length c_38] 23) :: rowp A_37 c_38 41 1 (eI .u64) q_39 :: pt b_13 (blk (Tapi_Trace.obj x0 A_x0ops c_x0ops A_x0blocks c_x0blocks) 35) :: pt b_14 (blk [C.slc A_x1keys x1.keys.length c_x1keys, C.slc A_25 q_27.length c_26, C.slc A_29 q_31.length c_30, C.bool x1.blind] 80) :: pt b_21 (blk [C.slc A_33 q_35.length c_34] 23) :: rowp A_33 c_34 41 1 (eI .u64) q_35 :: pt b_51 (blk (Tapi_Op.cells e_47) 43) :: S) → KR82 a w := by
     intro p_95 hm a w hs
     unfold replay_all.j1_3 at hm
     refine hKR82 _ _ ?_
     refine Vk.ret1 (P := Try.prog) (fn := Try.f83) (vw p_95) hs rfl (by kernel_rfl) ⟨_, _, _, rfl, hs.own, fun a hs => ?_⟩
     replace hcl := qO hC_53 hs.own.f5.drop.f6.f6.f7
     refine ⟨fun _ => hcl, ?_⟩
     refine Vk.dOnly (i := 14) (by kernel_rfl) (Vk.call (some 35) 85 #[pp b_14, .agg (vals [ci e_47.kind, ci e_47.dom, ci e_47.a, ci e_47.b, ci e_47.d, cw e_47.c])] hs (by kernel_rfl) (by kernel_rfl) (by kernel_rfl) ?_)
     refine Vk.enterI [(0, pp b_14), (1, .agg (vals [ci e_47.kind, ci e_47.dom, ci e_47.a, ci e_47.b, ci e_47.d, cw e_47.c]))] Try.func85 rfl Try.ntmps85 (by kernel_rfl) (Nat.le_of_ble_eq_true (by kernel_rfl)) hs.own fun KR96 hKR96 hKP96 a hs => ?_
     have hj96 : ∀ (p_132 : Int) (p_135 : List Int), replay_all.j2 k (replay_all.l1 x0 x1 k) x1 q_31 q_35 q_36 q_39 e_47 p_67 p_81 p_95 p_132 p_135 = some r24 → ∀ (A_133 : Option Addr) (c_134 : Nat) (hx_136 : Sl κ S A_133 c_134 1 (eI .u64) p_135) (a : Act) (w : World), St 32 a w κ [(4, vw p_132)] (pt lp_16 Xr_16 :: pt dm_16 dfD :: pt b_8 (blk [C.slc A_37 q_39.length c_38] 23) :: rowp A_37 c_38 41 1 (eI .u64) q_39 :: pt b_13 (blk (Tapi_Trace.obj x0 A_x0ops c_x0ops A_x0blocks c_x0blocks) 35) :: pt b_14 (blk [C.slc A_x1keys x1.keys.length c_x1keys, C.slc A_133 p_135.length c_134, C.slc A_29 q_31.length c_30, C.bool x1.blind] 80) :: pt b_21 (blk [C.slc A_33 q_35.length c_34] 23) :: rowp A_33 c_34 41 1 (eI .u64) q_35 :: pt b_51 (blk (Tapi_Op.cells e_47) 43) :: S) → KR96 a w := by
      intro p_132 p_135 hm A_133 c_134 hx_136 a w hs
      unfold replay_all.j2 at hm
      refine hKR96 _ _ ?_
      refine Vk.ret1 (P := Try.prog) (fn := Try.f85) (vw p_132) hs rfl (by kernel_rfl) ⟨_, _, _, rfl, hs.own, fun a hs => ?_⟩
      replace hcl := qO hC_53 hs.own.f5.drop.f6.f6.f7
      refine ⟨fun _ => hcl, ?_⟩
      obtain ⟨v_139, h_138, hm⟩ := bind_t hm
      refine qdc 15 (op_Eval.ok _ _ _ _ _ _ _ h_138 _ _ (pt lp_16 Xr_16 :: pt dm_16 dfD :: pt b_8 (blk [C.slc A_37 q_39.length c_38] 23) :: rowp A_37 c_38 41 1 (eI .u64) q_39 :: pt b_13 (blk (Tapi_Trace.obj x0 A_x0ops c_x0ops A_x0blocks c_x0blocks) 35) :: pt b_14 (blk [C.slc A_x1keys x1.keys.length c_x1keys, C.slc A_133 p_135.length c_134, C.slc A_29 q_31.length c_30, C.bool x1.blind] 80) :: pt b_21 (blk [C.slc A_33 q_35.length c_34] 23) :: rowp A_33 c_34 41 1 (eI .u64) q_35 :: pt b_51 (blk (Tapi_Op.cells e_47) 43) :: S) hs.own) hs fun w a hs => ?_
      replace hcl := qO hC_53 hs.own.f5.drop.f6.f6.f7
      refine ⟨fun _ => hcl, ?_⟩
      refine qdp (fuel := 0) [16] hs hcl hqC_53 fun a hs => ?_
      replace hs := hs.pick [0, 2, 4, 5, 7, 8, 15, 16, 17] (L' := [(0, .func (.yield lp_16) #[] #[]), (2, pp b_14), (4, pp b_21), (5, .func (.func 83) #[] #[pp b_21]), (7, pp b_51), (8, vw v_139), (15, .slice A_x0ops x0.ops.length c_x0ops), (16, vi ((x0.ops.length : Nat) : Int)), (17, vi q_36)]) (by kernel_rfl)
      refine Vk.dDone (by kernel_rfl) ?_
      refine hK52 _ _ ?_
      clear hK52
      refine Vk.seq fun K140 hK140 => ?_
      have hj140 : ∀ (p_163 : List Int) (p_165 : Int), replay_all.j3 k (replay_all.l1 x0 x1 k) q_35 q_36 q_39 p_135 p_163 p_165 = some r24 → ∀ (A_161 : Option Addr) (c_162 : Nat) (hx_164 : Sl κ S A_161 c_162 1 (eI .u64) p_163) (a : Act) (w : World), St 55 a w κ [(0, .func (.yield lp_16) #[] #[]), (2, pp b_14), (4, pp b_21), (5, .func (.func 83) #[] #[pp b_21]), (8, vw p_165), (15, .slice A_x0ops x0.ops.length c_x0ops), (16, vi ((x0.ops.length : Nat) : Int)), (17, vi q_36)] (pt b_14 (blk [C.slc A_x1keys x1.keys.length c_x1keys, C.slc A_133 p_135.length c_134, C.slc A_161 p_163.length c_162, C.bool x1.blind] 80) :: pt b_21 (blk [C.slc A_33 q_35.length c_34] 23) :: rowp A_33 c_34 41 1 (eI .u64) q_35 :: pt lp_16 Xr_16 :: pt dm_16 dfD :: pt b_8 (blk [C.slc A_37 q_39.length c_38] 23) :: rowp A_37 c_38 41 1 (eI .u64) q_39 :: pt b_13 (blk (Tapi_Trace.obj x0 A_x0ops c_x0ops A_x0blocks c_x0blocks) 35) :: S) → K140 a w := by
       intro p_163 p_165 hm A_161 c_162 hx_164 a w hs
       unfold replay_all.j3 at hm
       refine hK140 _ _ ?_
       refine Vk.seq fun K166 hK166 => ?_
       refine qsr fun K167 hK167 => ?_
       refine qpu 2 hs fun a hs => ?_
       refine yieldOp 3 #[vw p_165] hs hX_16 hY_16 hT_16 rfl fun KA168 QB168 a hqB168 hno168 hKB168 hb168 he168 hs => ?_
       replace hs := hs.pick [5, 14] (L' := [(5, pp b_8), (14, vw p_165)]) (by kernel_rfl)
       refine regionI ?_
       refine qpe 1 [(5, pp b_8), (6, vw p_165)] hs fun a hs => ?_
       refine hb168 3 _ _ _ _ _ hs rfl fun w hs => ?_
       replace hs : St 20 a w κ [(5, pp b_8), (6, vw p_165)] (pt b_14 (blk [C.slc A_x1keys x1.keys.length c_x1keys, C.slc A_133 p_135.length c_134, C.slc A_161 p_163.length c_162, C.bool x1.blind] 80) :: pt b_21 (blk [C.slc A_33 q_35.length c_34] 23) :: rowp A_33 c_34 41 1 (eI .u64) q_35 :: pt lp_16 Yr_16 :: pt dm_16 dfD :: pt b_8 (blk [C.slc A_37 q_39.length c_38] 23) :: rowp A_37 c_38 41 1 (eI .u64) q_39 :: pt b_13 (blk (Tapi_Trace.obj x0 A_x0ops c_x0ops A_x0blocks c_x0blocks) 35) :: S) := hs.pick [5, 6] (by kernel_rfl)
       refine blockI ?_
       refine regionI ?_
       refine qld 5 (C.slc A_37 q_39.length c_38) hs rfl fun a hs => ?_
       refine qpu 1 hs fun a hs => ?_
       refine Vk.step (Vk.buildOp (sz := 1) (by_ := 8) (t := 23) (e := 41) (parts := #[(0, (.tmp 16))]) (zs := vals [cw 0]) ([p_165] : List Int) (eI .u64) (some 17) hs (by kernel_rfl) (by kernel_rfl) (by kernel_rfl) (by kernel_rfl) (by decide) rfl (fun x _ => rfl) (Nat.le_of_ble_eq_true (by kernel_rfl)) (by kernel_rfl) fun A_169 w a hs => ?_)
       obtain ⟨h_171, hm⟩ := ite_t hm
       refine Vk.step (Vk.appendOp (x := (.tmp 15)) (y := (.tmp 17)) (e := 41) (t := 23) (by_ := 8) (sz := 1) (enc := (eI .u64)) (A := A_37) (cap := c_38) (xs := q_39) (ys := ([p_165] : List Int)) (B := A_169) (c2 := 1) 7 (some 18) hs (by kernel_rfl) (by kernel_rfl) (by kernel_rfl) (by kernel_rfl) rfl (Sl.lift (fun w ho => (Ow.to (S' := rowp A_169 1 41 1 (eI .u64) ([p_165] : List Int) :: S) ho [0] 9 (by kernel_rfl) (by kernel_rfl))) (Ow.rowSl 0 (Ow.to (S' := rowp A_169 1 41 1 (eI .u64) ([p_165] : List Int) :: S) hs.own [0] 9 (by kernel_rfl) (by kernel_rfl)) rfl)) (by kernel_rfl) (by kernel_rfl) (by decide) (by decide) h_171 fun A_172 c_173 w a hs => ?_)
       refine qst 6 0 (C.slc A_172 ((q_39 ++ ([p_165] : List Int)).length) c_173) hs rfl fun a w hs => ?_
       refine qpe 0 [] hs fun a hs => ?_
       refine he168 4 _ _ _ _ _ hs rfl fun a w hs => ?_
       replace hs : St 55 a w κ [(0, .func (.yield lp_16) #[] #[]), (2, pp b_14), (4, pp b_21), (5, .func (.func 83) #[] #[pp b_21]), (8, vw p_165), (15, .slice A_x0ops x0.ops.length c_x0ops), (16, vi ((x0.ops.length : Nat) : Int)), (17, vi q_36), (46, .func (.yield lp_16) #[] #[]), (47, vw p_165), (48, .bool true)] (rowp A_169 1 41 1 (eI .u64) ([p_165] : List Int) :: pt b_14 (blk [C.slc A_x1keys x1.keys.length c_x1keys, C.slc A_133 p_135.length c_134, C.slc A_161 p_163.length c_162, C.bool x1.blind] 80) :: pt b_21 (blk [C.slc A_33 q_35.length c_34] 23) :: rowp A_33 c_34 41 1 (eI .u64) q_35 :: pt lp_16 Xr_16 :: pt dm_16 dfD :: pt b_8 (blk ([C.slc A_172 ((q_39 ++ ([p_165] : List Int)).length) c_173]) 23) :: rowp A_172 c_173 41 1 (eI .u64) (q_39 ++ ([p_165] : List Int)) :: pt b_13 (blk (Tapi_Trace.obj x0 A_x0ops c_x0ops A_x0blocks c_x0blocks) 35) :: S) := hs.pick [0, 2, 4, 5, 8, 15, 16, 17, 46, 47, 48] (by kernel_rfl)
       refine qpk 1 [0, 2, 4, 5, 8, 15, 16, 17, 49] hs fun a hs => hK167 _ _ ?_
       clear hK167
       refine qcf hs ?_
       refine wp_skip ?_
       refine hK166 _ _ ?_
       clear hK166
       refine Vk.region ?_
       refine qld 2 (C.slc A_33 q_35.length c_34) hs rfl fun a hs => ?_
       refine qpu 1 hs fun a hs => ?_
       refine Vk.step (Vk.buildOp (sz := 1) (by_ := 8) (t := 23) (e := 41) (parts := #[(0, (.tmp 51))]) (zs := vals [cw 0]) ([p_165] : List Int) (eI .u64) (some 52) hs (by kernel_rfl) (by kernel_rfl) (by kernel_rfl) (by kernel_rfl) (by decide) rfl (fun x _ => rfl) (Nat.le_of_ble_eq_true (by kernel_rfl)) (by kernel_rfl) fun A_174 w a hs => ?_)
       obtain ⟨h_176, hm⟩ := ite_t hm
       refine Vk.step (Vk.appendOp (x := (.tmp 50)) (y := (.tmp 52)) (e := 41) (t := 23) (by_ := 8) (sz := 1) (enc := (eI .u64)) (A := A_33) (cap := c_34) (xs := q_35) (ys := ([p_165] : List Int)) (B := A_174) (c2 := 1) 4 (some 53) hs (by kernel_rfl) (by kernel_rfl) (by kernel_rfl) (by kernel_rfl) rfl (Sl.lift (fun w ho => (Ow.to (S' := rowp A_174 1 41 1 (eI .u64) ([p_165] : List Int) :: S) ho [0] 10 (by kernel_rfl) (by kernel_rfl))) (Ow.rowSl 0 (Ow.to (S' := rowp A_174 1 41 1 (eI .u64) ([p_165] : List Int) :: S) hs.own [0] 10 (by kernel_rfl) (by kernel_rfl)) rfl)) (by kernel_rfl) (by kernel_rfl) (by decide) (by decide) h_176 fun A_177 c_178 w a hs => ?_)
       refine qst 3 0 (C.slc A_177 ((q_35 ++ ([p_165] : List Int)).length) c_178) hs rfl fun a w hs => ?_
       refine qpk 0 [0, 2, 4, 5, 15, 16, 17] hs fun a hs => hK42 _ _ ?_
       clear hK42
       refine Vk.region ?_
       refine qpe 2 [(0, .func (.yield lp_16) #[] #[]), (2, pp b_14), (4, pp b_21), (5, .func (.func 83) #[] #[pp b_21]), (15, .slice A_x0ops x0.ops.length c_x0ops), (16, vi ((x0.ops.length : Nat) : Int)), (17, vi (IntKind.i64.wrap (q_36 + 1)))] hs fun a hs => ?_
       refine ih (p_135, p_163, (q_35 ++ ([p_165] : List Int)), (IntKind.i64.wrap (q_36 + 1)), (q_39 ++ ([p_165] : List Int))) _ _ ⟨A_133, c_134, A_161, c_162, A_177, c_178, A_172, c_173, hm, hx_136, hx_164, hs.go [0, 2, 4, 5, 15, 16, 17] [2, 3, 4, 5, 6, 7, 8, 9] 10 (by kernel_rfl) (by kernel_rfl) (by kernel_rfl)⟩
      refine qsr fun K141 hK141 => ?_
      refine qpu 1 hs fun a hs => ?_
      refine qld 8 (ci e_47.kind) hs rfl fun a hs => ?_
      refine qpu 2 hs fun a hs => ?_
      suffices hj_142 : ∀ a, St 55 a w κ [(0, .func (.yield lp_16) #[] #[]), (2, pp b_14), (4, pp b_21), (5, .func (.func 83) #[] #[pp b_21]), (7, pp b_51), (8, vw v_139), (15, .slice A_x0ops x0.ops.length c_x0ops), (16, vi ((x0.ops.length : Nat) : Int)), (17, vi q_36), (37, pp b_51), (38, vi e_47.kind), (39, .bool (e_47.kind == 12)), (40, .bool (e_47.kind == 12)), (43, .bool ((e_47.kind == 12) && x1.blind))] (pt lp_16 Xr_16 :: pt dm_16 dfD :: pt b_8 (blk [C.slc A_37 q_39.length c_38] 23) :: rowp A_37 c_38 41 1 (eI .u64) q_39 :: pt b_13 (blk (Tapi_Trace.obj x0 A_x0ops c_x0ops A_x0blocks c_x0blocks) 35) :: pt b_14 (blk [C.slc A_x1keys x1.keys.length c_x1keys, C.slc A_133 p_135.length c_134, C.slc A_29 q_31.length c_30, C.bool x1.blind] 80) :: pt b_21 (blk [C.slc A_33 q_35.length c_34] 23) :: rowp A_33 c_34 41 1 (eI .u64) q_35 :: pt b_51 (blk (Tapi_Op.cells e_47) 43) :: S) → wpFrom Try.prog _ _ 7 a w by
       rcases Bool.eq_false_or_eq_true (e_47.kind == 12) with hb | hb
       ·replace hs := hs.known (t := 40) hb (by kernel_rfl)
        refine qpu 1 hs fun a hs => ?_
        refine qld 5 (C.bool x1.blind) hs rfl fun a hs => ?_
        refine qpu 1 hs fun a hs => ?_
        have hq := hs.pick [0, 2, 4, 5, 7, 8, 15, 16, 17, 37, 38, 39, 40, 43] (L' := [(0, .func (.yield lp_16) #[] #[]), (2, pp b_14), (4, pp b_21), (5, .func (.func 83) #[] #[pp b_21]), (7, pp b_51), (8, vw v_139), (15, .slice A_x0ops x0.ops.length c_x0ops), (16, vi ((x0.ops.length : Nat) : Int)), (17, vi q_36), (37, pp b_51), (38, vi e_47.kind), (39, .bool (e_47.kind == 12)), (40, .bool true), (43, .bool x1.blind)]) (by kernel_rfl)
        exact hj_142 _ (hq.conv (by first | (rw [hb] <;> rfl) | rfl))
       ·replace hs := hs.known (t := 40) hb (by kernel_rfl)
        refine qpu 3 hs fun a hs => ?_
        have hq := hs.pick [0, 2, 4, 5, 7, 8, 15, 16, 17, 37, 38, 39, 40, 43] (L' := [(0, .func (.yield lp_16) #[] #[]), (2, pp b_14), (4, pp b_21), (5, .func (.func 83) #[] #[pp b_21]), (7, pp b_51), (8, vw v_139), (15, .slice A_x0ops x0.ops.length c_x0ops), (16, vi ((x0.ops.length : Nat) : Int)), (17, vi q_36), (37, pp b_51), (38, vi e_47.kind), (39, .bool (e_47.kind == 12)), (40, .bool false), (43, .bool false)]) (by kernel_rfl)
        exact hj_142 _ (hq.conv (by first | (rw [hb] <;> rfl) | rfl))
      intro a hs
      refine qpk 0 [0, 2, 4, 5, 8, 15, 16, 17, 43] hs fun a hs => hK141 _ _ ?_
      clear hK141
      refine qcs ((e_47.kind == 12) && x1.blind) hs (fun hb => ?_) fun hb => ?_
      ·replace hm := bif_t hm hb
       refine Vk.region ?_
       refine qpu 1 hs fun a hs => ?_
       refine Vk.step (Vk.call (some 45) 86 #[.pointer (some ⟨b_14, 2, none⟩)] hs (by kernel_rfl) (by kernel_rfl) (by kernel_rfl) ?_)
       refine Vk.enterI [(0, .pointer (some ⟨b_14, 2, none⟩))] Try.func86 rfl Try.ntmps86 (by kernel_rfl) (Nat.le_of_ble_eq_true (by kernel_rfl)) hs.own fun KR143 hKR143 hKP143 a hs => ?_
       refine qsk 1 [0] hs fun a hs => ?_
       refine qsr fun K145 hK145 => ?_
       refine qpu 2 hs fun a hs => ?_
       refine qld 5 (C.slc A_29 q_31.length c_30) hs rfl fun a hs => ?_
       obtain ⟨h_146, hm⟩ := ite_t hm
       obtain ⟨e_149, h_147, hm⟩ := bind_t hm
       obtain ⟨b_150, o_151, hA_152, h_148⟩ := Sl.elem hx_32 h_147
       refine qva (.pointer (some ⟨b_150, o_151 + 0 * 1, none⟩)) (op := (.indexAddr 23 (.tmp 6) (.const (vi 0)))) hs (fun o ho => run_idxSlc (k := .i64) ho (cap := c_30) (len := q_31.length) ((congrArg (fun A => Value.slice A (q_31.length) (c_30)) hA_152) ▸ (by kernel_rfl)) (by kernel_rfl) (by kernel_rfl) (idx_ok h_146 h_147) _) fun a hs => ?_
       refine qva (vw e_149) (op := (.load 41 (.tmp 7))) hs (fun o ho => run_load1 (c := cw e_149) ho (by kernel_rfl) (by kernel_rfl) (fun w ho => h_148 w ho 0 _ rfl) _ hs.own.drop.drop.drop.drop.drop.drop.drop.drop.drop) fun a hs => ?_
       refine qpk 1 [0, 3] hs fun a hs => hK145 _ _ ?_
       clear hK145
       refine qsr fun K153 hK153 => ?_
       refine qpu 3 hs fun a hs => ?_
       refine qld 5 (C.slc A_29 q_31.length c_30) hs rfl fun a hs => ?_
       obtain ⟨h_154, hm⟩ := ite_t hm
       obtain ⟨A_155, c_156, eA_157, ec_158, hx_159⟩ := Sl.sub hx_32 h_154.2
       refine qva (.slice A_155 ((cut q_31 (1) (q_31.length)).length) c_156) (op := (.slice 23 (.tmp 12) (some (.const (vi 1))) none none)) hs (fun o ho => run_sub (sz := 1) (e := 41) h_154.2 eA_157 ec_158 (Sl.le hx_32) ho (by kernel_rfl) (by kernel_rfl) (by kernel_rfl) ⟨.i64, 1, by kernel_rfl, h_154.1, rfl⟩ rfl _) fun a hs => ?_
       refine qpu 1 hs fun a hs => ?_
       refine qst 5 2 (C.slc A_155 ((cut q_31 (1) (q_31.length)).length) c_156) hs rfl fun a w hs => ?_
       refine qpe 0 [(3, vw e_149)] hs fun a hs => hK153 _ _ ?_
       clear hK153
       refine qse 2 [(2, vw e_149)] hs fun a hs => ?_
       refine wp_ret ?_
       refine hKP143 _ _ ?_
       refine hKR143 _ _ ?_
       refine Vk.ret1 (P := Try.prog) (fn := Try.f86) (vw e_149) hs rfl (by kernel_rfl) ⟨_, _, _, rfl, hs.own, fun a hs => ?_⟩
       refine qpe 1 [(0, .func (.yield lp_16) #[] #[]), (2, pp b_14), (4, pp b_21), (5, .func (.func 83) #[] #[pp b_21]), (8, vw e_149), (15, .slice A_x0ops x0.ops.length c_x0ops), (16, vi ((x0.ops.length : Nat) : Int)), (17, vi q_36)] hs fun a hs => ?_
       exact hj140 (cut q_31 (1) (q_31.length)) e_149 hm A_155 c_156 hx_159 _ _ (hs.go [0, 2, 4, 5, 8, 15, 16, 17] [5, 6, 7, 0, 1, 2, 3, 4] 9 (by kernel_rfl) (by kernel_rfl) (by kernel_rfl))
      ·replace hm := bif_f hm hb
       refine wp_skip ?_
       exact hj140 q_31 v_139 hm A_29 c_30 hx_32 _ _ (hs.go [0, 2, 4, 5, 8, 15, 16, 17] [5, 6, 7, 0, 1, 2, 3, 4] 9 (by kernel_rfl) (by kernel_rfl) (by kernel_rfl))
     refine qsr fun K97 hK97 => ?_
     refine qbx 1 43 [ci e_47.kind, ci e_47.dom, ci e_47.a, ci e_47.b, ci e_47.d, cw e_47.c] 3 hs fun b_98 w a hs => ?_
     refine qpe 1 [(0, pp b_14), (3, pp b_98)] hs fun a hs => hK97 _ _ ?_
     clear hK97
     refine Vk.seq fun K99 hK99 => ?_
     refine wp_block ?_
     refine qsr fun K100 hK100 => ?_
     refine qpu 1 hs fun a hs => ?_
     refine qld 0 (ci e_47.kind) hs rfl fun a hs => ?_
     refine qpk 2 [0, 3, 5] hs fun a hs => hK100 _ _ ?_
     clear hK100
     refine qcs (e_47.kind == 1) hs (fun hb => ?_) fun hb => ?_
     ·replace hm := bif_t hm hb
      refine qsr fun K101 hK101 => ?_
      refine qpu 3 hs fun a hs => ?_
      refine Vk.step (Vk.call (some 12) 86 #[.pointer (some ⟨b_14, 1, none⟩)] hs (by kernel_rfl) (by kernel_rfl) (by kernel_rfl) ?_)
      refine Vk.enterI [(0, .pointer (some ⟨b_14, 1, none⟩))] Try.func86 rfl Try.ntmps86 (by kernel_rfl) (Nat.le_of_ble_eq_true (by kernel_rfl)) hs.own fun KR102 hKR102 hKP102 a hs => ?_
      refine qsk 1 [0] hs fun a hs => ?_
      refine qsr fun K104 hK104 => ?_
      refine qpu 2 hs fun a hs => ?_
      refine qld 6 (C.slc A_25 q_27.length c_26) hs rfl fun a hs => ?_
      obtain ⟨h_105, hm⟩ := ite_t hm
      obtain ⟨e_108, h_106, hm⟩ := bind_t hm
      obtain ⟨b_109, o_110, hA_111, h_107⟩ := Sl.elem hx_28 h_106
      refine qva (.pointer (some ⟨b_109, o_110 + 0 * 1, none⟩)) (op := (.indexAddr 23 (.tmp 6) (.const (vi 0)))) hs (fun o ho => run_idxSlc (k := .i64) ho (cap := c_26) (len := q_27.length) ((congrArg (fun A => Value.slice A (q_27.length) (c_26)) hA_111) ▸ (by kernel_rfl)) (by kernel_rfl) (by kernel_rfl) (idx_ok h_105 h_106) _) fun a hs => ?_
      refine qva (vw e_108) (op := (.load 41 (.tmp 7))) hs (fun o ho => run_load1 (c := cw e_108) ho (by kernel_rfl) (by kernel_rfl) (fun w ho => h_107 w ho 0 _ rfl) _ hs.own.drop.drop.drop.drop.drop.drop.drop.drop.drop.drop) fun a hs => ?_
      refine qpk 1 [0, 3] hs fun a hs => hK104 _ _ ?_
      clear hK104
      refine qsr fun K112 hK112 => ?_
      refine qpu 3 hs fun a hs => ?_
      refine qld 6 (C.slc A_25 q_27.length c_26) hs rfl fun a hs => ?_
      obtain ⟨h_113, hm⟩ := ite_t hm
      obtain ⟨A_114, c_115, eA_116, ec_117, hx_118⟩ := Sl.sub hx_28 h_113.2
      refine qva (.slice A_114 ((cut q_27 (1) (q_27.length)).length) c_115) (op := (.slice 23 (.tmp 12) (some (.const (vi 1))) none none)) hs (fun o ho => run_sub (sz := 1) (e := 41) h_113.2 eA_116 ec_117 (Sl.le hx_28) ho (by kernel_rfl) (by kernel_rfl) (by kernel_rfl) ⟨.i64, 1, by kernel_rfl, h_113.1, rfl⟩ rfl _) fun a hs => ?_
      refine qpu 1 hs fun a hs => ?_
      refine qst 6 1 (C.slc A_114 ((cut q_27 (1) (q_27.length)).length) c_115) hs rfl fun a w hs => ?_
      refine qpe 0 [(3, vw e_108)] hs fun a hs => hK112 _ _ ?_
      clear hK112
      refine qse 2 [(2, vw e_108)] hs fun a hs => ?_
      refine wp_ret ?_
      refine hKP102 _ _ ?_
      refine hKR102 _ _ ?_
      refine Vk.ret1 (P := Try.prog) (fn := Try.f86) (vw e_108) hs rfl (by kernel_rfl) ⟨_, _, _, rfl, hs.own, fun a hs => ?_⟩
      refine qpe 1 [(4, vw e_108)] hs fun a hs => hK101 _ _ ?_
      clear hK101
      refine wp_ret ?_
      refine hKP96 _ _ ?_
      exact hj96 e_108 (cut q_27 (1) (q_27.length)) hm A_114 c_115 hx_118 _ _ (hs.go [4] [1, 2, 3, 4, 5, 6, 7, 8, 9] 10 (by kernel_rfl) (by kernel_rfl) (by kernel_rfl))
     ·replace hm := bif_f hm hb
      refine qsr fun K120 hK120 => ?_
      refine qpu 1 hs fun a hs => ?_
      refine qld 0 (ci e_47.kind) hs rfl fun a hs => ?_
      refine qpu 2 hs fun a hs => ?_
      suffices hj_121 : ∀ a, St 32 a w κ [(0, pp b_14), (3, pp b_98), (5, .bool (e_47.kind == 1)), (14, pp b_98), (15, vi e_47.kind), (16, .bool (e_47.kind == 2)), (17, .bool (e_47.kind == 2)), (23, .bool ((e_47.kind == 2) && (!x1.blind)))] (pt b_98 (blk (Tapi_Op.cells e_47) 43) :: pt lp_16 Xr_16 :: pt dm_16 dfD :: pt b_8 (blk [C.slc A_37 q_39.length c_38] 23) :: rowp A_37 c_38 41 1 (eI .u64) q_39 :: pt b_13 (blk (Tapi_Trace.obj x0 A_x0ops c_x0ops A_x0blocks c_x0blocks) 35) :: pt b_14 (blk [C.slc A_x1keys x1.keys.length c_x1keys, C.slc A_25 q_27.length c_26, C.slc A_29 q_31.length c_30, C.bool x1.blind] 80) :: pt b_21 (blk [C.slc A_33 q_35.length c_34] 23) :: rowp A_33 c_34 41 1 (eI .u64) q_35 :: pt b_51 (blk (Tapi_Op.cells e_47) 43) :: S) → wpFrom Try.prog _ _ 10 a w by
       rcases Bool.eq_false_or_eq_true (e_47.kind == 2) with hb | hb
       ·replace hs := hs.known (t := 17) hb (by kernel_rfl)
        refine qpu 3 hs fun a hs => ?_
        refine qld 6 (C.bool x1.blind) hs rfl fun a hs => ?_
        refine qpu 2 hs fun a hs => ?_
        have hq := hs.pick [0, 3, 5, 14, 15, 16, 17, 23] (L' := [(0, pp b_14), (3, pp b_98), (5, .bool (e_47.kind == 1)), (14, pp b_98), (15, vi e_47.kind), (16, .bool (e_47.kind == 2)), (17, .bool true), (23, .bool (!x1.blind))]) (by kernel_rfl)
        exact hj_121 _ (hq.conv (by first | (rw [hb] <;> rfl) | rfl))
       ·replace hs := hs.known (t := 17) hb (by kernel_rfl)
        refine qpu 6 hs fun a hs => ?_
        have hq := hs.pick [0, 3, 5, 14, 15, 16, 17, 23] (L' := [(0, pp b_14), (3, pp b_98), (5, .bool (e_47.kind == 1)), (14, pp b_98), (15, vi e_47.kind), (16, .bool (e_47.kind == 2)), (17, .bool false), (23, .bool false)]) (by kernel_rfl)
        exact hj_121 _ (hq.conv (by first | (rw [hb] <;> rfl) | rfl))
      intro a hs
      refine qpe 1 [(0, pp b_14), (3, pp b_98), (13, .bool ((e_47.kind == 2) && (!x1.blind)))] hs fun a hs => hK120 _ _ ?_
      clear hK120
      refine qcs ((e_47.kind == 2) && (!x1.blind)) hs (fun hb => ?_) fun hb => ?_
      ·replace hm := bif_t hm hb
       refine Vk.seq fun K122 hK122 => ?_
       obtain ⟨C_123, hC_123⟩ := qC hs.own
       refine qdr 9 κ C_123 hs fun w hs hqC_123 => ?_
       have hcl := qO hC_123 hs.own
       refine qdp (fuel := 5) [0, 1, 2, 4] hs hcl hqC_123 fun a hs => ?_
       refine qdl 3 6 (C.slc A_x1keys x1.keys.length c_x1keys) hs hcl hqC_123 hC_123 rfl fun a hs => ?_
       refine qdl 5 0 (cw e_47.c) hs hcl hqC_123 hC_123 rfl fun a hs => ?_
       obtain ⟨h_124, hm⟩ := ite_t hm
       obtain ⟨e_127, h_125, hm⟩ := bind_t hm
       obtain ⟨b_128, o_129, hA_130, h_126⟩ := Sl.elem hx_x1keys h_125
       refine qdt 6 (.pointer (some ⟨b_128, o_129 + e_47.c.toNat * 1, none⟩)) (op := (.indexAddr 23 (.tmp 27) (.tmp 29))) hs hcl hqC_123 (fun w hw o ho => by rw [hC_123] at hw; exact run_idxSlc (k := .u64) ho (cap := c_x1keys) (len := x1.keys.length) ((congrArg (fun A => Value.slice A (x1.keys.length) (c_x1keys)) hA_130) ▸ (by kernel_rfl)) (by kernel_rfl) (by kernel_rfl) (idx_ok h_124 h_125) _) fun a hs => ?_
       refine qdt 7 (vw e_127) (op := (.load 41 (.tmp 30))) hs hcl hqC_123 (fun w hw o ho => by rw [hC_123] at hw; exact run_load1 (c := cw e_127) ho (by kernel_rfl) (by kernel_rfl) (fun w ho => h_126 w ho 0 _ rfl) _ hw.drop.drop.drop.drop.drop.drop.drop.drop.drop.drop) fun a hs => ?_
       refine qdp (fuel := 0) [8] hs hcl hqC_123 fun a hs => ?_
       replace hs := hs.pick [4] (L' := [(4, vw e_127)]) (by kernel_rfl)
       refine Vk.dDone (by kernel_rfl) ?_
       refine hK122 _ _ ?_
       clear hK122
       refine wp_ret ?_
       refine hKP96 _ _ ?_
       exact hj96 e_127 q_27 hm A_25 c_26 hx_28 _ _ (hs.go [4] [1, 2, 3, 4, 5, 6, 7, 8, 9] 10 (by kernel_rfl) (by kernel_rfl) (by kernel_rfl))
      ·replace hm := bif_f hm hb
       refine wp_skip ?_
       refine hK99 _ _ ?_
       clear hK99
       refine qse 1 [(4, vw 0)] hs fun a hs => ?_
       refine wp_ret ?_
       refine hKP96 _ _ ?_
       exact hj96 0 q_27 hm A_25 c_26 hx_28 _ _ (hs.go [4] [1, 2, 3, 4, 5, 6, 7, 8, 9] 10 (by kernel_rfl) (by kernel_rfl) (by kernel_rfl))
    refine qsk 1 [0, 1] hs fun a hs => ?_
    refine Vk.seq fun K84 hK84 => ?_
    refine qsk 2 [0, 1, 5] hs fun a hs => ?_
    refine qcs (decide (e_47.d < 0)) hs (fun hb => ?_) fun hb => ?_
    ·replace hm := bif_t hm hb
     refine qse 1 [(3, vw 0)] hs fun a hs => ?_
     refine wp_ret ?_
     refine hKP82 _ _ ?_
     exact hj82 0 hm _ _ (hs.go [3] [0, 1, 2, 3, 4, 5, 6, 7, 8] 9 (by kernel_rfl) (by kernel_rfl) (by kernel_rfl))
    ·replace hm := bif_f hm hb
     refine wp_skip ?_
     refine hK84 _ _ ?_
     clear hK84
     refine qsr fun K87 hK87 => ?_
     refine qld 6 (C.slc A_33 q_35.length c_34) hs rfl fun a hs => ?_
     refine qpu 1 hs fun a hs => ?_
     obtain ⟨h_88, hm⟩ := ite_t hm
     obtain ⟨e_91, h_89, hm⟩ := bind_t hm
     obtain ⟨b_92, o_93, hA_94, h_90⟩ := Sl.elem (Ow.rowSl 0 (Ow.to (S' := rowp A_33 c_34 41 1 (eI .u64) q_35 :: S) hs.own [7] 9 (by kernel_rfl) (by kernel_rfl)) rfl) h_89
     refine qva (.pointer (some ⟨b_92, o_93 + e_47.d.toNat * 1, none⟩)) (op := (.indexAddr 23 (.tmp 6) (.tmp 7))) hs (fun o ho => run_idxSlc (k := .i64) ho (cap := c_34) (len := q_35.length) ((congrArg (fun A => Value.slice A (q_35.length) (c_34)) hA_94) ▸ (by kernel_rfl)) (by kernel_rfl) (by kernel_rfl) (idx_ok h_88 h_89) _) fun a hs => ?_
     refine qva (vw e_91) (op := (.load 41 (.tmp 8))) hs (fun o ho => run_load1 (c := cw e_91) ho (by kernel_rfl) (by kernel_rfl) (fun w ho => h_90 w ho 0 _ rfl) _ (Ow.to (S' := rowp A_33 c_34 41 1 (eI .u64) q_35 :: S) hs.own [7] 9 (by kernel_rfl) (by kernel_rfl))) fun a hs => ?_
     refine qpe 1 [(3, vw e_91)] hs fun a hs => hK87 _ _ ?_
     clear hK87
     refine wp_ret ?_
     refine hKP82 _ _ ?_
     exact hj82 e_91 hm _ _ (hs.go [3] [0, 1, 2, 3, 4, 5, 6, 7, 8] 9 (by kernel_rfl) (by kernel_rfl) (by kernel_rfl))
   refine qsk 1 [0, 1] hs fun a hs => ?_
   refine Vk.seq fun K70 hK70 => ?_
   refine qsk 2 [0, 1, 5] hs fun a hs => ?_
   refine qcs (decide (e_47.b < 0)) hs (fun hb => ?_) fun hb => ?_
   ·replace hm := bif_t hm hb
    refine qse 1 [(3, vw 0)] hs fun a hs => ?_
    refine wp_ret ?_
    refine hKP68 _ _ ?_
    exact hj68 0 hm _ _ (hs.go [3] [0, 1, 2, 3, 4, 5, 6, 7, 8] 9 (by kernel_rfl) (by kernel_rfl) (by kernel_rfl))
   ·replace hm := bif_f hm hb
    refine wp_skip ?_
    refine hK70 _ _ ?_
    clear hK70
    refine qsr fun K73 hK73 => ?_
    refine qld 6 (C.slc A_33 q_35.length c_34) hs rfl fun a hs => ?_
    refine qpu 1 hs fun a hs => ?_
    obtain ⟨h_74, hm⟩ := ite_t hm
    obtain ⟨e_77, h_75, hm⟩ := bind_t hm
    obtain ⟨b_78, o_79, hA_80, h_76⟩ := Sl.elem (Ow.rowSl 0 (Ow.to (S' := rowp A_33 c_34 41 1 (eI .u64) q_35 :: S) hs.own [7] 9 (by kernel_rfl) (by kernel_rfl)) rfl) h_75
    refine qva (.pointer (some ⟨b_78, o_79 + e_47.b.toNat * 1, none⟩)) (op := (.indexAddr 23 (.tmp 6) (.tmp 7))) hs (fun o ho => run_idxSlc (k := .i64) ho (cap := c_34) (len := q_35.length) ((congrArg (fun A => Value.slice A (q_35.length) (c_34)) hA_80) ▸ (by kernel_rfl)) (by kernel_rfl) (by kernel_rfl) (idx_ok h_74 h_75) _) fun a hs => ?_
    refine qva (vw e_77) (op := (.load 41 (.tmp 8))) hs (fun o ho => run_load1 (c := cw e_77) ho (by kernel_rfl) (by kernel_rfl) (fun w ho => h_76 w ho 0 _ rfl) _ (Ow.to (S' := rowp A_33 c_34 41 1 (eI .u64) q_35 :: S) hs.own [7] 9 (by kernel_rfl) (by kernel_rfl))) fun a hs => ?_
    refine qpe 1 [(3, vw e_77)] hs fun a hs => hK73 _ _ ?_
    clear hK73
    refine wp_ret ?_
    refine hKP68 _ _ ?_
    exact hj68 e_77 hm _ _ (hs.go [3] [0, 1, 2, 3, 4, 5, 6, 7, 8] 9 (by kernel_rfl) (by kernel_rfl) (by kernel_rfl))
  refine qsk 1 [0, 1] hs fun a hs => ?_
  refine Vk.seq fun K56 hK56 => ?_
  refine qsk 2 [0, 1, 5] hs fun a hs => ?_
  refine qcs (decide (e_47.a < 0)) hs (fun hb => ?_) fun hb => ?_
  ·replace hm := bif_t hm hb
   refine qse 1 [(3, vw 0)] hs fun a hs => ?_
   refine wp_ret ?_
   refine hKP54 _ _ ?_
   exact hj54 0 hm _ _ (hs.go [3] [4, 5, 6, 7, 8, 1, 2, 3, 0] 9 (by kernel_rfl) (by kernel_rfl) (by kernel_rfl))
  ·replace hm := bif_f hm hb
   refine wp_skip ?_
   refine hK56 _ _ ?_
   clear hK56
   refine qsr fun K59 hK59 => ?_
   refine qld 2 (C.slc A_33 q_35.length c_34) hs rfl fun a hs => ?_
   refine qpu 1 hs fun a hs => ?_
   obtain ⟨h_60, hm⟩ := ite_t hm
   obtain ⟨e_63, h_61, hm⟩ := bind_t hm
   obtain ⟨b_64, o_65, hA_66, h_62⟩ := Sl.elem (Ow.rowSl 0 (Ow.to (S' := rowp A_33 c_34 41 1 (eI .u64) q_35 :: S) hs.own [3] 9 (by kernel_rfl) (by kernel_rfl)) rfl) h_61
   refine qva (.pointer (some ⟨b_64, o_65 + e_47.a.toNat * 1, none⟩)) (op := (.indexAddr 23 (.tmp 6) (.tmp 7))) hs (fun o ho => run_idxSlc (k := .i64) ho (cap := c_34) (len := q_35.length) ((congrArg (fun A => Value.slice A (q_35.length) (c_34)) hA_66) ▸ (by kernel_rfl)) (by kernel_rfl) (by kernel_rfl) (idx_ok h_60 h_61) _) fun a hs => ?_
   refine qva (vw e_63) (op := (.load 41 (.tmp 8))) hs (fun o ho => run_load1 (c := cw e_63) ho (by kernel_rfl) (by kernel_rfl) (fun w ho => h_62 w ho 0 _ rfl) _ (Ow.to (S' := rowp A_33 c_34 41 1 (eI .u64) q_35 :: S) hs.own [3] 9 (by kernel_rfl) (by kernel_rfl))) fun a hs => ?_
   refine qpe 1 [(3, vw e_63)] hs fun a hs => hK59 _ _ ?_
   clear hK59
   refine wp_ret ?_
   refine hKP54 _ _ ?_
   exact hj54 e_63 hm _ _ (hs.go [3] [4, 5, 6, 7, 8, 1, 2, 3, 0] 9 (by kernel_rfl) (by kernel_rfl) (by kernel_rfl))
 ·replace hm := bif_f hm hb
  refine wp_exit ?_
  exact hx24 q_39 q_27 q_31 (Option.some.inj hm).symm A_37 c_38 A_25 c_26 hx_28 A_29 c_30 hx_32 _ _ (hs.go [] [3, 4, 5, 6, 7, 0] 8 (by kernel_rfl) (by kernel_rfl) (by kernel_rfl))


def replay_Run.j1 (k : Nat) (x0 : Tapi_Trace) (x1 : List Int) (x2 : List Int) (p_18 : Bool) : Option ((List Int × Int)) := (bif p_18 then some (([] : List Int), 5) else (replay_all.m k x0 (⟨x1, x2, [], false⟩ : Treplay_source)).bind fun v_23 => some (v_23, 0))
abbrev replay_Run.R (κ : Ctx) (S : List HP) (x0 : Tapi_Trace) (x1 : List Int) (x2 : List Int) (A_x0ops : Option Addr) (c_x0ops : Nat) (A_x0blocks : Option Addr) (c_x0blocks : Nat) (A_x1 : Option Addr) (c_x1 : Nat) (A_x2 : Option Addr) (c_x2 : Nat) (r : (List Int × Int)) : Ending → World → Prop := fun e w' => ∃ (A_r0 : Option Addr), ∃ (c_r0 : Nat), e = .returned (.tuple #[.slice A_r0 r.1.length c_r0, vi r.2]) ∧ Ow κ w' (rowp A_r0 c_r0 41 1 (eI .u64) r.1 :: S)
def replay_Run.m (k : Nat) (x0 : Tapi_Trace) (x1 : List Int) (x2 : List Int) : Option (List Int × Int) := (trace_Check.m k x0).bind fun v_7 => (bif v_7 != 0 then some (([] : List Int), v_7) else (trace_Words.m k x0).bind fun v_14 => (bif ((x1.length : Nat) : Int) != v_14 then replay_Run.j1 k x0 x1 x2 true else (trace_Draws.m k x0).bind fun v_17 => replay_Run.j1 k x0 x1 x2 (((x2.length : Nat) : Int) != v_17)))

set_option maxRecDepth 100000 in
set_option maxHeartbeats 4000000 in
theorem replay_Run.ok (k : Nat) (x0 : Tapi_Trace) (x1 : List Int) (x2 : List Int) (r : (List Int × Int)) (hm : replay_Run.m k x0 x1 x2 = some r) (κ : Ctx) (w : World) (S : List HP) (A_x0ops : Option Addr) (c_x0ops : Nat) (hx_x0ops : Sl κ S A_x0ops c_x0ops 6 Tapi_Op.cells x0.ops) (A_x0blocks : Option Addr) (c_x0blocks : Nat) (hx_x0blocks : Sl κ S A_x0blocks c_x0blocks 3 Tapi_Span.cells x0.blocks) (A_x1 : Option Addr) (c_x1 : Nat) (hx_x1 : Sl κ S A_x1 c_x1 1 (eI .u64) x1) (A_x2 : Option Addr) (c_x2 : Nat) (hx_x2 : Sl κ S A_x2 c_x2 1 (eI .u64) x2) (ho : Ow κ w (S)) :
  Calls Try.prog 11 #[.agg (vals [ci x0.n, C.slc A_x0ops x0.ops.length c_x0ops, C.slc A_x0blocks x0.blocks.length c_x0blocks]), .slice A_x1 x1.length c_x1, .slice A_x2 x2.length c_x2] w (replay_Run.R κ S x0 x1 x2 A_x0ops c_x0ops A_x0blocks c_x0blocks A_x1 c_x1 A_x2 c_x2 r) := by
 unfold replay_Run.m at hm
 generalize hRR : replay_Run.R κ S x0 x1 x2 A_x0ops c_x0ops A_x0blocks c_x0blocks A_x1 c_x1 A_x2 c_x2 r = RR
 refine qen [(0, .agg (vals [ci x0.n, C.slc A_x0ops x0.ops.length c_x0ops, C.slc A_x0blocks x0.blocks.length c_x0blocks])), (1, .slice A_x1 x1.length c_x1), (2, .slice A_x2 x2.length c_x2)] Try.func11 Try.ntmps11 ho fun a hs => ?_
 refine qsr fun K1 hK1 => ?_
 refine qbx 0 35 [ci x0.n, C.slc A_x0ops x0.ops.length c_x0ops, C.slc A_x0blocks x0.blocks.length c_x0blocks] 3 hs fun b_2 w a hs => ?_
 refine qpk 2 [1, 2, 3] hs fun a hs => hK1 _ _ ?_
 clear hK1
 refine Vk.seq fun K3 hK3 => ?_
 refine qsr fun K4 hK4 => ?_
 refine qln 0 ([ci x0.n, C.slc A_x0ops x0.ops.length c_x0ops, C.slc A_x0blocks x0.blocks.length c_x0blocks]) hs rfl fun a hs => ?_
 obtain ⟨v_7, h_6, hm⟩ := bind_t hm
 refine qcl (trace_Check.ok _ _ _ h_6 _ _ (pt b_2 (blk (Tapi_Trace.obj x0 A_x0ops c_x0ops A_x0blocks c_x0blocks) 35) :: S) A_x0ops c_x0ops hx_x0ops.less A_x0blocks c_x0blocks hx_x0blocks.less hs.own) hs fun w a hs => ?_
 refine qpk 1 [1, 2, 3, 8] hs fun a hs => hK4 _ _ ?_
 clear hK4
 refine qsk 2 [1, 2, 3, 8, 12] hs fun a hs => ?_
 refine qcs (v_7 != 0) hs (fun hb => ?_) fun hb => ?_
 ·replace hm := bif_t hm hb
  refine qsk 3 [6, 7] hs fun a hs => ?_
  refine wp_ret ?_
  replace hs := hs.addRow none 41 1 (eI .u64)
  exact Vk.ret2 (.slice none (([] : List Int).length) 0) (vi v_7) hs rfl (by kernel_rfl) (by kernel_rfl) (hRR ▸ by cases hm; exact ⟨none, 0, rfl, hs.own.f1.drop⟩)
 ·replace hm := bif_f hm hb
  refine wp_skip ?_
  refine hK3 _ _ ?_
  clear hK3
  refine Vk.seq fun K10 hK10 => ?_
  refine Vk.seq fun K11 hK11 => ?_
  have hj11 : ∀ (p_18 : Bool), replay_Run.j1 k x0 x1 x2 p_18 = some r → ∀ (a : Act) (w : World), St 31 a w κ [(1, .slice A_x1 x1.length c_x1), (2, .slice A_x2 x2.length c_x2), (3, pp b_2), (25, .bool p_18)] (pt b_2 (blk (Tapi_Trace.obj x0 A_x0ops c_x0ops A_x0blocks c_x0blocks) 35) :: S) → K11 a w := by
   intro p_18 hm a w hs
   unfold replay_Run.j1 at hm
   refine hK11 _ _ ?_
   refine qcs (p_18) hs (fun hb => ?_) fun hb => ?_
   ·replace hm := bif_t hm hb
    refine qsk 2 [6, 7] hs fun a hs => ?_
    refine wp_ret ?_
    replace hs := hs.addRow none 41 1 (eI .u64)
    exact Vk.ret2 (.slice none (([] : List Int).length) 0) (vi 5) hs rfl (by kernel_rfl) (by kernel_rfl) (hRR ▸ by cases hm; exact ⟨none, 0, rfl, hs.own.f1.drop⟩)
   ·replace hm := bif_f hm hb
    refine wp_skip ?_
    refine hK10 _ _ ?_
    clear hK10
    refine qsr fun K20 hK20 => ?_
    refine qln 0 ([ci x0.n, C.slc A_x0ops x0.ops.length c_x0ops, C.slc A_x0blocks x0.blocks.length c_x0blocks]) hs rfl fun a hs => ?_
    refine qpu 3 hs fun a hs => ?_
    obtain ⟨v_23, h_22, hm⟩ := bind_t hm
    refine Vk.step (Vk.call (some 30) 39 #[.agg (vals [ci x0.n, C.slc A_x0ops x0.ops.length c_x0ops, C.slc A_x0blocks x0.blocks.length c_x0blocks]), .agg (vals [C.slc A_x1 x1.length c_x1, C.slc A_x2 x2.length c_x2, C.slc none 0 0, C.bool false])] hs (by kernel_rfl) (by kernel_rfl) (by kernel_rfl) ?_)
    refine (replay_all.ok k x0 (⟨x1, x2, [], false⟩ : Treplay_source) v_23 h_22 κ w (pt b_2 (blk (Tapi_Trace.obj x0 A_x0ops c_x0ops A_x0blocks c_x0blocks) 35) :: S) A_x0ops c_x0ops hx_x0ops.less A_x0blocks c_x0blocks hx_x0blocks.less A_x1 c_x1 hx_x1.less A_x2 c_x2 hx_x2.less none 0 Sl.nil hs.own).mono ?_
    rintro _ w ⟨Ar21x0_24, cr21x0_25, rfl, how⟩
    refine ⟨_, _, _, rfl, how, fun a hs => ?_⟩
    refine qpe 2 [(6, .slice Ar21x0_24 v_23.length cr21x0_25), (7, vi 0)] hs fun a hs => hK20 _ _ ?_
    clear hK20
    refine wp_ret ?_
    exact Vk.ret2 (.slice Ar21x0_24 v_23.length cr21x0_25) (vi 0) hs rfl (by kernel_rfl) (by kernel_rfl) (hRR ▸ by cases hm; exact ⟨Ar21x0_24, cr21x0_25, rfl, hs.own.f1.drop⟩)
  refine Vk.region ?_
  refine qpu 2 hs fun a hs => ?_
  refine qln 0 ([ci x0.n, C.slc A_x0ops x0.ops.length c_x0ops, C.slc A_x0blocks x0.blocks.length c_x0blocks]) hs rfl fun a hs => ?_
  obtain ⟨v_14, h_13, hm⟩ := bind_t hm
  refine qcl (trace_Words.ok _ _ _ h_13 _ _ (pt b_2 (blk (Tapi_Trace.obj x0 A_x0ops c_x0ops A_x0blocks c_x0blocks) 35) :: S) A_x0ops c_x0ops hx_x0ops.less A_x0blocks c_x0blocks hx_x0blocks.less hs.own) hs fun w a hs => ?_
  refine qpu 2 hs fun a hs => ?_
  rcases Bool.eq_false_or_eq_true (((x1.length : Nat) : Int) != v_14) with hb | hb
  ·replace hm := bif_t hm hb
   replace hs := hs.known (t := 19) hb (by kernel_rfl)
   refine qpe 6 [(1, .slice A_x1 x1.length c_x1), (2, .slice A_x2 x2.length c_x2), (3, pp b_2), (25, .bool true)] hs fun a hs => ?_
   exact hj11 true hm _ _ (hs.go [1, 2, 3, 25] [0] 1 (by kernel_rfl) (by kernel_rfl) (by kernel_rfl))
  ·replace hm := bif_f hm hb
   replace hs := hs.known (t := 19) hb (by kernel_rfl)
   refine qpu 2 hs fun a hs => ?_
   refine qln 0 ([ci x0.n, C.slc A_x0ops x0.ops.length c_x0ops, C.slc A_x0blocks x0.blocks.length c_x0blocks]) hs rfl fun a hs => ?_
   obtain ⟨v_17, h_16, hm⟩ := bind_t hm
   refine qcl (trace_Draws.ok _ _ _ h_16 _ _ (pt b_2 (blk (Tapi_Trace.obj x0 A_x0ops c_x0ops A_x0blocks c_x0blocks) 35) :: S) A_x0ops c_x0ops hx_x0ops.less A_x0blocks c_x0blocks hx_x0blocks.less hs.own) hs fun w a hs => ?_
   refine qpe 2 [(1, .slice A_x1 x1.length c_x1), (2, .slice A_x2 x2.length c_x2), (3, pp b_2), (25, .bool (((x2.length : Nat) : Int) != v_17))] hs fun a hs => ?_
   exact hj11 (((x2.length : Nat) : Int) != v_17) hm _ _ (hs.go [1, 2, 3, 25] [0] 1 (by kernel_rfl) (by kernel_rfl) (by kernel_rfl))


def visorlaw29_awake.j1 (k : Nat) (p_34 : Bool) : Option (Bool) := some p_34
abbrev visorlaw29_awake.R (κ : Ctx) (S : List HP) (r : Bool) : Ending → World → Prop := fun e w' => e = .returned (.bool r) ∧ Ow κ w' (S)
def visorlaw29_awake.m (k : Nat) : Option Bool := (replay_Run.m k (⟨2, [], []⟩ : Tapi_Trace) [] []).bind fun v_5 => (replay_Run.m k (⟨2, ([(⟨3, 0, (-1), (-1), (-1), 9⟩ : Tapi_Op)] : List Tapi_Op), []⟩ : Tapi_Trace) [] []).bind fun v_13 => (bif (((((v_5.1.length : Nat) : Int) == 0) && (v_5.2 == 0)) && (v_13.2 == 0)) && (((v_13.1.length : Nat) : Int) == 1) then (if 0 ≤ (0 : Int) then (v_13.1[0]?).bind fun e_30 => visorlaw29_awake.j1 k (e_30 == 9) else none) else visorlaw29_awake.j1 k false)

set_option maxRecDepth 100000 in
set_option maxHeartbeats 4000000 in
theorem visorlaw29_awake.ok (k : Nat) (r : Bool) (hm : visorlaw29_awake.m k = some r) (κ : Ctx) (w : World) (S : List HP) (ho : Ow κ w (S)) :
  Calls Try.prog 5 #[] w (visorlaw29_awake.R κ S r) := by
 unfold visorlaw29_awake.m at hm
 generalize hRR : visorlaw29_awake.R κ S r = RR
 refine qen [] Try.func5 Try.ntmps5 ho fun a hs => ?_
 refine qse 1 [] hs fun a hs => ?_
 refine qsr fun K2 hK2 => ?_
 refine qpu 1 hs fun a hs => ?_
 obtain ⟨v_5, h_4, hm⟩ := bind_t hm
 refine Vk.step (Vk.call (some 7) 11 #[.agg (vals [ci 2, C.slc none 0 0, C.slc none 0 0]), .slice none 0 0, .slice none 0 0] hs (by kernel_rfl) (by kernel_rfl) (by kernel_rfl) ?_)
 refine (replay_Run.ok k (⟨2, [], []⟩ : Tapi_Trace) [] [] v_5 h_4 κ w (S) none 0 Sl.nil none 0 Sl.nil none 0 Sl.nil none 0 Sl.nil hs.own).mono ?_
 rintro _ w ⟨Ar3x0_6, cr3x0_7, rfl, how⟩
 refine ⟨_, _, _, rfl, how, fun a hs => ?_⟩
 refine qpk 5 [1, 2] hs fun a hs => hK2 _ _ ?_
 clear hK2
 refine qsr fun K8 hK8 => ?_
 refine qpu 1 hs fun a hs => ?_
 refine Vk.step (Vk.buildOp (sz := 6) (by_ := 48) (t := 32) (e := 43) (parts := #[(0, (.tmp 11))]) (zs := vals [ci 0, ci 0, ci 0, ci 0, ci 0, cw 0]) ([(⟨3, 0, (-1), (-1), (-1), 9⟩ : Tapi_Op)] : List Tapi_Op) Tapi_Op.cells (some 12) hs (by kernel_rfl) (by kernel_rfl) (by kernel_rfl) (by kernel_rfl) (by decide) rfl (fun x _ => rfl) (Nat.le_of_ble_eq_true (by kernel_rfl)) (by kernel_rfl) fun A_9 w a hs => ?_)
 refine qpu 1 hs fun a hs => ?_
 obtain ⟨v_13, h_12, hm⟩ := bind_t hm
 refine Vk.step (Vk.call (some 14) 11 #[.agg (vals ([ci 2, C.slc A_9 (([(⟨3, 0, (-1), (-1), (-1), 9⟩ : Tapi_Op)] : List Tapi_Op).length) 1, C.slc none 0 0])), .slice none 0 0, .slice none 0 0] hs (by kernel_rfl) (by kernel_rfl) (by kernel_rfl) ?_)
 refine (replay_Run.ok k (⟨2, ([(⟨3, 0, (-1), (-1), (-1), 9⟩ : Tapi_Op)] : List Tapi_Op), []⟩ : Tapi_Trace) [] [] v_13 h_12 κ w (rowp A_9 1 43 6 Tapi_Op.cells ([(⟨3, 0, (-1), (-1), (-1), 9⟩ : Tapi_Op)] : List Tapi_Op) :: rowp Ar3x0_6 cr3x0_7 41 1 (eI .u64) v_5.1 :: S) A_9 1 (Sl.lift (fun w ho => (Ow.to (S' := rowp A_9 1 43 6 Tapi_Op.cells ([(⟨3, 0, (-1), (-1), (-1), 9⟩ : Tapi_Op)] : List Tapi_Op) :: S) ho [0] 2 (by kernel_rfl) (by kernel_rfl))) (Ow.rowSl 0 (Ow.to (S' := rowp A_9 1 43 6 Tapi_Op.cells ([(⟨3, 0, (-1), (-1), (-1), 9⟩ : Tapi_Op)] : List Tapi_Op) :: S) hs.own [0] 2 (by kernel_rfl) (by kernel_rfl)) rfl)) none 0 Sl.nil none 0 Sl.nil none 0 Sl.nil hs.own).mono ?_
 rintro _ w ⟨Ar11x0_14, cr11x0_15, rfl, how⟩
 refine ⟨_, _, _, rfl, how, fun a hs => ?_⟩
 refine qpk 5 [1, 2, 3, 4] hs fun a hs => hK8 _ _ ?_
 clear hK8
 refine Vk.seq fun K16 hK16 => ?_
 have hj16 : ∀ (p_34 : Bool), visorlaw29_awake.j1 k p_34 = some r → ∀ (a : Act) (w : World), St 39 a w κ [(0, .bool p_34)] (S) → K16 a w := by
  intro p_34 hm a w hs
  unfold visorlaw29_awake.j1 at hm
  refine hK16 _ _ ?_
  refine wp_ret ?_
  exact qr1 (.bool p_34) hs rfl hRR (by cases hm; exact ⟨rfl, hs.own⟩)
 refine Vk.region ?_
 refine qpu 4 hs fun a hs => ?_
 refine qsc 20 3 hs fun a hs => ?_
 refine qpu 1 hs fun a hs => ?_
 refine qsc 24 3 hs fun a hs => ?_
 refine qpu 1 hs fun a hs => ?_
 refine qsc 28 4 hs fun a hs => ?_
 refine qpu 1 hs fun a hs => ?_
 rcases Bool.eq_false_or_eq_true ((((((v_5.1.length : Nat) : Int) == 0) && (v_5.2 == 0)) && (v_13.2 == 0)) && (((v_13.1.length : Nat) : Int) == 1)) with hb | hb
 ·replace hm := bif_t hm hb
  replace hs := hs.known (t := 33) hb (by kernel_rfl)
  refine qpu 1 hs fun a hs => ?_
  obtain ⟨h_27, hm⟩ := ite_t hm
  obtain ⟨e_30, h_28, hm⟩ := bind_t hm
  obtain ⟨b_31, o_32, hA_33, h_29⟩ := Sl.elem (Ow.rowSl 0 (Ow.to (S' := rowp Ar11x0_14 cr11x0_15 41 1 (eI .u64) v_13.1 :: S) hs.own [0] 3 (by kernel_rfl) (by kernel_rfl)) rfl) h_28
  refine qva (.pointer (some ⟨b_31, o_32 + 0 * 1, none⟩)) (op := (.indexAddr 23 (.tmp 34) (.const (vi 0)))) hs (fun o ho => run_idxSlc (k := .i64) ho (cap := cr11x0_15) (len := v_13.1.length) ((congrArg (fun A => Value.slice A (v_13.1.length) (cr11x0_15)) hA_33) ▸ (by kernel_rfl)) (by kernel_rfl) (by kernel_rfl) (idx_ok h_27 h_28) _) fun a hs => ?_
  refine qva (vw e_30) (op := (.load 41 (.tmp 35))) hs (fun o ho => run_load1 (c := cw e_30) ho (by kernel_rfl) (by kernel_rfl) (fun w ho => h_29 w ho 0 _ rfl) _ (Ow.to (S' := rowp Ar11x0_14 cr11x0_15 41 1 (eI .u64) v_13.1 :: S) hs.own [0] 3 (by kernel_rfl) (by kernel_rfl))) fun a hs => ?_
  refine qpe 3 [(0, .bool (e_30 == 9))] hs fun a hs => ?_
  exact hj16 (e_30 == 9) hm _ _ (hs.go [0] [] 3 (by kernel_rfl) (by kernel_rfl) (by kernel_rfl))
 ·replace hm := bif_f hm hb
  replace hs := hs.known (t := 33) hb (by kernel_rfl)
  refine qpe 6 [(0, .bool false)] hs fun a hs => ?_
  exact hj16 false hm _ _ (hs.go [0] [] 3 (by kernel_rfl) (by kernel_rfl) (by kernel_rfl))


abbrev slices_Clone_api_Op_api_Op.R (κ : Ctx) (S : List HP) (x0 : List Tapi_Op) (A_x0 : Option Addr) (c_x0 : Nat) (r : List Tapi_Op) : Ending → World → Prop := fun e w' => ∃ (A_r0 : Option Addr), ∃ (c_r0 : Nat), e = .returned (.slice A_r0 r.length c_r0) ∧ Ow κ w' (rowp A_r0 c_r0 43 6 Tapi_Op.cells r :: S)
def slices_Clone_api_Op_api_Op.m (k : Nat) (x0 : List Tapi_Op) : Option (List Tapi_Op) := (if (([] : List Tapi_Op).length + x0.length) * 48 ≤ 140737488355328 then some (([] : List Tapi_Op) ++ x0) else none)

set_option maxRecDepth 100000 in
set_option maxHeartbeats 4000000 in
theorem slices_Clone_api_Op_api_Op.ok (k : Nat) (x0 : List Tapi_Op) (r : List Tapi_Op) (hm : slices_Clone_api_Op_api_Op.m k x0 = some r) (κ : Ctx) (w : World) (S : List HP) (A_x0 : Option Addr) (c_x0 : Nat) (hx_x0 : Sl κ S A_x0 c_x0 6 Tapi_Op.cells x0) (ho : Ow κ w (S)) :
  Calls Try.prog 32 #[.slice A_x0 x0.length c_x0] w (slices_Clone_api_Op_api_Op.R κ S x0 A_x0 c_x0 r) := by
 unfold slices_Clone_api_Op_api_Op.m at hm
 rcases A_x0 with _ | p_x0
 ·obtain rfl : c_x0 = 0 := hx_x0.none rfl
  obtain rfl : x0 = [] := List.length_eq_zero_iff.1 (Nat.le_zero.1 hx_x0.le)
  replace hm : some ([] : List Tapi_Op) = some r := by simpa using hm
  refine Vk.enter [(0, .slice none 0 0)] Try.func32 rfl Try.ntmps32 (by kernel_rfl) (Nat.le_of_ble_eq_true (by kernel_rfl)) ho fun a hs => ?_
  refine Vk.seq fun K1 hK1 => ?_
  refine Vk.region ?_
  refine Vk.pures 1 [(2, .slice none 0 0)] hs (by kernel_rfl) fun a hs => ?_
  replace hs := hs.pick [0] (L' := [(0, .slice none 0 0)]) (by kernel_rfl)
  refine Vk.done (by kernel_rfl) ?_
  refine hK1 _ _ ?_
  clear hK1
  refine Vk.seq fun K2 hK2 => ?_
  refine Vk.seq fun K3 hK3 => ?_
  refine Vk.region ?_
  refine Vk.pures 2 [(4, .bool true), (3, .slice none 0 0)] hs (by kernel_rfl) fun a hs => ?_
  replace hs := hs.pick [0, 4] (L' := [(0, .slice none 0 0), (4, .bool true)]) (by kernel_rfl)
  refine Vk.done (by kernel_rfl) ?_
  refine hK3 _ _ ?_
  clear hK3
  refine Vk.condT hs (by kernel_rfl) (by kernel_rfl) ?_
  refine Vk.seq fun K4 hK4 => ?_
  refine Vk.region ?_
  refine Vk.pures 1 [(2, .slice none 0 0)] hs (by kernel_rfl) fun a hs => ?_
  replace hs := hs.pick [2] (L' := [(2, .slice none 0 0)]) (by kernel_rfl)
  refine Vk.done (by kernel_rfl) ?_
  refine hK4 _ _ ?_
  clear hK4
  refine wp_ret ?_
  replace hs := hs.addRow none 43 6 Tapi_Op.cells
  exact Vk.ret1 (P := Try.prog) (fn := Try.f32) (R := slices_Clone_api_Op_api_Op.R κ S [] none 0 r) (.slice none (([] : List Tapi_Op).length) 0) hs rfl (by kernel_rfl) (by obtain rfl := Option.some.inj hm; exact ⟨none, 0, rfl, hs.own⟩)
 ·skip
  refine Vk.enter [(0, .slice (some p_x0) x0.length c_x0)] Try.func32 rfl Try.ntmps32 (by kernel_rfl) (Nat.le_of_ble_eq_true (by kernel_rfl)) ho fun a hs => ?_
  refine Vk.seq fun K1 hK1 => ?_
  refine Vk.region ?_
  refine Vk.pures 1 [(2, .slice none 0 0)] hs (by kernel_rfl) fun a hs => ?_
  replace hs := hs.pick [0] (L' := [(0, .slice (some p_x0) x0.length c_x0)]) (by kernel_rfl)
  refine Vk.done (by kernel_rfl) ?_
  refine hK1 _ _ ?_
  clear hK1
  refine Vk.seq fun K2 hK2 => ?_
  refine Vk.seq fun K3 hK3 => ?_
  refine Vk.region ?_
  refine Vk.pures 2 [(4, .bool false), (3, .slice (some p_x0) x0.length c_x0)] hs (by kernel_rfl) fun a hs => ?_
  replace hs := hs.pick [0, 4] (L' := [(0, .slice (some p_x0) x0.length c_x0), (4, .bool false)]) (by kernel_rfl)
  refine Vk.done (by kernel_rfl) ?_
  refine hK3 _ _ ?_
  clear hK3
  refine Vk.condF hs (by kernel_rfl) (by kernel_rfl) ?_
  refine wp_skip ?_
  refine hK2 _ _ ?_
  clear hK2
  refine Vk.seq fun K4 hK4 => ?_
  refine Vk.region ?_
  refine Vk.step (Vk.buildOp (sz := 6) (by_ := 48) (t := 32) (e := 43) (parts := #[]) (zs := vals [C.int .i64 0, C.int .i64 0, C.int .i64 0, C.int .i64 0, C.int .i64 0, C.int .u64 0]) ([] : List Tapi_Op) Tapi_Op.cells (some 5) hs (by kernel_rfl) (by kernel_rfl) (by kernel_rfl) (by kernel_rfl) (by decide) rfl (fun x _ => rfl) (Nat.le_of_ble_eq_true (by kernel_rfl)) (by kernel_rfl) fun A_5 w a hs => ?_)
  refine Vk.pures 1 [(6, .slice (some p_x0) x0.length c_x0)] hs (by kernel_rfl) fun a hs => ?_
  obtain ⟨h_7, hm⟩ := ite_t hm
  refine Vk.step (Vk.appendOp (x := (.tmp 5)) (y := (.tmp 6)) (e := 43) (t := 32) (by_ := 48) (sz := 6) (enc := Tapi_Op.cells) (A := A_5) (cap := 0) (xs := ([] : List Tapi_Op)) (ys := x0) (B := (some p_x0)) (c2 := c_x0) 0 (some 7) hs (by kernel_rfl) (by kernel_rfl) (by kernel_rfl) (by kernel_rfl) rfl hx_x0.less (by kernel_rfl) (by kernel_rfl) (by decide) (by decide) h_7 fun A_8 c_9 w a hs => ?_)
  refine Vk.pures 1 [(2, .slice A_8 ((([] : List Tapi_Op) ++ x0).length) c_9)] hs (by kernel_rfl) fun a hs => ?_
  replace hs := hs.pick [2] (L' := [(2, .slice A_8 ((([] : List Tapi_Op) ++ x0).length) c_9)]) (by kernel_rfl)
  refine Vk.done (by kernel_rfl) ?_
  refine hK4 _ _ ?_
  clear hK4
  refine wp_ret ?_
  exact Vk.ret1 (P := Try.prog) (fn := Try.f32) (R := slices_Clone_api_Op_api_Op.R κ S x0 (some p_x0) c_x0 r) (.slice A_8 ((([] : List Tapi_Op) ++ x0).length) c_9) hs rfl (by kernel_rfl) (by obtain rfl := Option.some.inj hm; exact ⟨A_8, c_9, rfl, hs.own⟩)


abbrev slices_Clone_api_Span_api_Span.R (κ : Ctx) (S : List HP) (x0 : List Tapi_Span) (A_x0 : Option Addr) (c_x0 : Nat) (r : List Tapi_Span) : Ending → World → Prop := fun e w' => ∃ (A_r0 : Option Addr), ∃ (c_r0 : Nat), e = .returned (.slice A_r0 r.length c_r0) ∧ Ow κ w' (rowp A_r0 c_r0 73 3 Tapi_Span.cells r :: S)
def slices_Clone_api_Span_api_Span.m (k : Nat) (x0 : List Tapi_Span) : Option (List Tapi_Span) := (if (([] : List Tapi_Span).length + x0.length) * 24 ≤ 140737488355328 then some (([] : List Tapi_Span) ++ x0) else none)

set_option maxRecDepth 100000 in
set_option maxHeartbeats 4000000 in
theorem slices_Clone_api_Span_api_Span.ok (k : Nat) (x0 : List Tapi_Span) (r : List Tapi_Span) (hm : slices_Clone_api_Span_api_Span.m k x0 = some r) (κ : Ctx) (w : World) (S : List HP) (A_x0 : Option Addr) (c_x0 : Nat) (hx_x0 : Sl κ S A_x0 c_x0 3 Tapi_Span.cells x0) (ho : Ow κ w (S)) :
  Calls Try.prog 33 #[.slice A_x0 x0.length c_x0] w (slices_Clone_api_Span_api_Span.R κ S x0 A_x0 c_x0 r) := by
 unfold slices_Clone_api_Span_api_Span.m at hm
 rcases A_x0 with _ | p_x0
 ·obtain rfl : c_x0 = 0 := hx_x0.none rfl
  obtain rfl : x0 = [] := List.length_eq_zero_iff.1 (Nat.le_zero.1 hx_x0.le)
  replace hm : some ([] : List Tapi_Span) = some r := by simpa using hm
  refine Vk.enter [(0, .slice none 0 0)] Try.func33 rfl Try.ntmps33 (by kernel_rfl) (Nat.le_of_ble_eq_true (by kernel_rfl)) ho fun a hs => ?_
  refine Vk.seq fun K1 hK1 => ?_
  refine Vk.region ?_
  refine Vk.pures 1 [(2, .slice none 0 0)] hs (by kernel_rfl) fun a hs => ?_
  replace hs := hs.pick [0] (L' := [(0, .slice none 0 0)]) (by kernel_rfl)
  refine Vk.done (by kernel_rfl) ?_
  refine hK1 _ _ ?_
  clear hK1
  refine Vk.seq fun K2 hK2 => ?_
  refine Vk.seq fun K3 hK3 => ?_
  refine Vk.region ?_
  refine Vk.pures 2 [(4, .bool true), (3, .slice none 0 0)] hs (by kernel_rfl) fun a hs => ?_
  replace hs := hs.pick [0, 4] (L' := [(0, .slice none 0 0), (4, .bool true)]) (by kernel_rfl)
  refine Vk.done (by kernel_rfl) ?_
  refine hK3 _ _ ?_
  clear hK3
  refine Vk.condT hs (by kernel_rfl) (by kernel_rfl) ?_
  refine Vk.seq fun K4 hK4 => ?_
  refine Vk.region ?_
  refine Vk.pures 1 [(2, .slice none 0 0)] hs (by kernel_rfl) fun a hs => ?_
  replace hs := hs.pick [2] (L' := [(2, .slice none 0 0)]) (by kernel_rfl)
  refine Vk.done (by kernel_rfl) ?_
  refine hK4 _ _ ?_
  clear hK4
  refine wp_ret ?_
  replace hs := hs.addRow none 73 3 Tapi_Span.cells
  exact Vk.ret1 (P := Try.prog) (fn := Try.f33) (R := slices_Clone_api_Span_api_Span.R κ S [] none 0 r) (.slice none (([] : List Tapi_Span).length) 0) hs rfl (by kernel_rfl) (by obtain rfl := Option.some.inj hm; exact ⟨none, 0, rfl, hs.own⟩)
 ·skip
  refine Vk.enter [(0, .slice (some p_x0) x0.length c_x0)] Try.func33 rfl Try.ntmps33 (by kernel_rfl) (Nat.le_of_ble_eq_true (by kernel_rfl)) ho fun a hs => ?_
  refine Vk.seq fun K1 hK1 => ?_
  refine Vk.region ?_
  refine Vk.pures 1 [(2, .slice none 0 0)] hs (by kernel_rfl) fun a hs => ?_
  replace hs := hs.pick [0] (L' := [(0, .slice (some p_x0) x0.length c_x0)]) (by kernel_rfl)
  refine Vk.done (by kernel_rfl) ?_
  refine hK1 _ _ ?_
  clear hK1
  refine Vk.seq fun K2 hK2 => ?_
  refine Vk.seq fun K3 hK3 => ?_
  refine Vk.region ?_
  refine Vk.pures 2 [(4, .bool false), (3, .slice (some p_x0) x0.length c_x0)] hs (by kernel_rfl) fun a hs => ?_
  replace hs := hs.pick [0, 4] (L' := [(0, .slice (some p_x0) x0.length c_x0), (4, .bool false)]) (by kernel_rfl)
  refine Vk.done (by kernel_rfl) ?_
  refine hK3 _ _ ?_
  clear hK3
  refine Vk.condF hs (by kernel_rfl) (by kernel_rfl) ?_
  refine wp_skip ?_
  refine hK2 _ _ ?_
  clear hK2
  refine Vk.seq fun K4 hK4 => ?_
  refine Vk.region ?_
  refine Vk.step (Vk.buildOp (sz := 3) (by_ := 24) (t := 33) (e := 73) (parts := #[]) (zs := vals [C.int .i64 0, C.int .i64 0, C.int .i64 0]) ([] : List Tapi_Span) Tapi_Span.cells (some 5) hs (by kernel_rfl) (by kernel_rfl) (by kernel_rfl) (by kernel_rfl) (by decide) rfl (fun x _ => rfl) (Nat.le_of_ble_eq_true (by kernel_rfl)) (by kernel_rfl) fun A_5 w a hs => ?_)
  refine Vk.pures 1 [(6, .slice (some p_x0) x0.length c_x0)] hs (by kernel_rfl) fun a hs => ?_
  obtain ⟨h_7, hm⟩ := ite_t hm
  refine Vk.step (Vk.appendOp (x := (.tmp 5)) (y := (.tmp 6)) (e := 73) (t := 33) (by_ := 24) (sz := 3) (enc := Tapi_Span.cells) (A := A_5) (cap := 0) (xs := ([] : List Tapi_Span)) (ys := x0) (B := (some p_x0)) (c2 := c_x0) 0 (some 7) hs (by kernel_rfl) (by kernel_rfl) (by kernel_rfl) (by kernel_rfl) rfl hx_x0.less (by kernel_rfl) (by kernel_rfl) (by decide) (by decide) h_7 fun A_8 c_9 w a hs => ?_)
  refine Vk.pures 1 [(2, .slice A_8 ((([] : List Tapi_Span) ++ x0).length) c_9)] hs (by kernel_rfl) fun a hs => ?_
  replace hs := hs.pick [2] (L' := [(2, .slice A_8 ((([] : List Tapi_Span) ++ x0).length) c_9)]) (by kernel_rfl)
  refine Vk.done (by kernel_rfl) ?_
  refine hK4 _ _ ?_
  clear hK4
  refine wp_ret ?_
  exact Vk.ret1 (P := Try.prog) (fn := Try.f33) (R := slices_Clone_api_Span_api_Span.R κ S x0 (some p_x0) c_x0 r) (.slice A_8 ((([] : List Tapi_Span) ++ x0).length) c_9) hs rfl (by kernel_rfl) (by obtain rfl := Option.some.inj hm; exact ⟨A_8, c_9, rfl, hs.own⟩)


abbrev wire_Machine_Trace.R (κ : Ctx) (S : List HP) (x0 : Twire_Machine) (b_x0 : Nat) (g_x0 : Nat × Option Addr × Nat × Option Addr × Nat × Option Addr × Nat) (r : Tapi_Trace) : Ending → World → Prop := fun e w' => ∃ (A_r0ops : Option Addr), ∃ (c_r0ops : Nat), ∃ (A_r0blocks : Option Addr), ∃ (c_r0blocks : Nat), e = .returned (.agg (vals [ci r.n, C.slc A_r0ops r.ops.length c_r0ops, C.slc A_r0blocks r.blocks.length c_r0blocks])) ∧ Ow κ w' (rowp A_r0ops c_r0ops 43 6 Tapi_Op.cells r.ops :: rowp A_r0blocks c_r0blocks 73 3 Tapi_Span.cells r.blocks :: bagL (Twire_Machine.parts b_x0 x0 g_x0) :: S)
def wire_Machine_Trace.m (k : Nat) (x0 : Twire_Machine) : Option Tapi_Trace := (slices_Clone_api_Op_api_Op.m k x0.ops).bind fun v_12 => (slices_Clone_api_Span_api_Span.m k x0.blocks).bind fun v_17 => some (⟨x0.n, v_12, v_17⟩ : Tapi_Trace)

set_option maxRecDepth 100000 in
set_option maxHeartbeats 4000000 in
theorem wire_Machine_Trace.ok (k : Nat) (x0 : Twire_Machine) (r : Tapi_Trace) (hm : wire_Machine_Trace.m k x0 = some r) (κ : Ctx) (w : World) (S : List HP) (b_x0 : Nat) (g_x0 : Nat × Option Addr × Nat × Option Addr × Nat × Option Addr × Nat) (ho : Ow κ w (bagL (Twire_Machine.parts b_x0 x0 g_x0) :: S)) :
  Calls Try.prog 6 #[pp b_x0] w (wire_Machine_Trace.R κ S x0 b_x0 g_x0 r) := by
 unfold wire_Machine_Trace.m at hm
 generalize hRR : wire_Machine_Trace.R κ S x0 b_x0 g_x0 r = RR
 refine qen [(0, pp b_x0)] Try.func6 Try.ntmps6 ho fun a hs => ?_
 refine qsr fun K1 hK1 => ?_
 refine qal 35 [ci 0, C.slc none 0 0, C.slc none 0 0] 2 hs fun b_2 w a hs => ?_
 refine qpe 0 [(0, pp b_x0), (2, pp b_2)] hs fun a hs => hK1 _ _ ?_
 clear hK1
 refine Vk.seq fun K3 hK3 => ?_
 refine qsk 2 [0, 2, 4] hs fun a hs => ?_
 refine qcf hs ?_
 refine wp_skip ?_
 refine hK3 _ _ ?_
 clear hK3
 refine Vk.seq fun K5 hK5 => ?_
 replace hs := hs.unbagAt 1 rfl
 obtain ⟨C_9, hC_9⟩ := qC hs.own
 refine qdr 15 κ C_9 hs fun w hs hqC_9 => ?_
 have hcl := qO hC_9 hs.own
 refine qdp (fuel := 7) [0, 1, 2, 4, 5, 6, 9, 10, 11] hs hcl hqC_9 fun a hs => ?_
 refine qdl 3 0 (ci x0.n) hs hcl hqC_9 hC_9 rfl fun a hs => ?_
 refine qdl 7 0 (C.slc g_x0.2.1 x0.ops.length g_x0.2.2.1) hs hcl hqC_9 hC_9 rfl fun a hs => ?_
 refine qdl 12 0 (C.slc g_x0.2.2.2.2.2.1 x0.blocks.length g_x0.2.2.2.2.2.2) hs hcl hqC_9 hC_9 rfl fun a hs => ?_
 obtain ⟨v_12, h_11, hm⟩ := bind_t hm
 refine Vk.dOnly (i := 8) (by kernel_rfl) (Vk.call (some 14) 32 #[.slice g_x0.2.1 x0.ops.length g_x0.2.2.1] hs (by kernel_rfl) (by kernel_rfl) (by kernel_rfl) ?_)
 refine (slices_Clone_api_Op_api_Op.ok k x0.ops v_12 h_11 κ w (pt b_x0 (blk (Twire_Machine.obj x0 g_x0.1 g_x0.2.1 g_x0.2.2.1 g_x0.2.2.2.1 g_x0.2.2.2.2.1 g_x0.2.2.2.2.2.1 g_x0.2.2.2.2.2.2) 69) :: opto x0.dry (Ttape_Tape.own g_x0.1 x0.tape) :: rowp g_x0.2.1 g_x0.2.2.1 43 6 Tapi_Op.cells x0.ops :: rowp g_x0.2.2.2.1 g_x0.2.2.2.2.1 41 1 (eI .u64) x0.values :: rowp g_x0.2.2.2.2.2.1 g_x0.2.2.2.2.2.2 73 3 Tapi_Span.cells x0.blocks :: pt b_2 (blk [ci 0, C.slc none 0 0, C.slc none 0 0] 35) :: S) g_x0.2.1 g_x0.2.2.1 (Sl.lift (fun w ho => (Ow.to (S' := rowp g_x0.2.1 g_x0.2.2.1 43 6 Tapi_Op.cells x0.ops :: S) ho [2] 6 (by kernel_rfl) (by kernel_rfl))) (Ow.rowSl 0 (Ow.to (S' := rowp g_x0.2.1 g_x0.2.2.1 43 6 Tapi_Op.cells x0.ops :: S) hs.own [2] 6 (by kernel_rfl) (by kernel_rfl)) rfl)) hs.own).mono ?_
 rintro _ w ⟨Ar10x0_13, cr10x0_14, rfl, how⟩
 refine ⟨_, _, _, rfl, how, fun a hs => ?_⟩
 replace hcl := qO hC_9 hs.own.drop
 refine ⟨fun _ => hcl, ?_⟩
 obtain ⟨v_17, h_16, hm⟩ := bind_t hm
 refine Vk.dOnly (i := 13) (by kernel_rfl) (Vk.call (some 19) 33 #[.slice g_x0.2.2.2.2.2.1 x0.blocks.length g_x0.2.2.2.2.2.2] hs (by kernel_rfl) (by kernel_rfl) (by kernel_rfl) ?_)
 refine (slices_Clone_api_Span_api_Span.ok k x0.blocks v_17 h_16 κ w (rowp Ar10x0_13 cr10x0_14 43 6 Tapi_Op.cells v_12 :: pt b_x0 (blk (Twire_Machine.obj x0 g_x0.1 g_x0.2.1 g_x0.2.2.1 g_x0.2.2.2.1 g_x0.2.2.2.2.1 g_x0.2.2.2.2.2.1 g_x0.2.2.2.2.2.2) 69) :: opto x0.dry (Ttape_Tape.own g_x0.1 x0.tape) :: rowp g_x0.2.1 g_x0.2.2.1 43 6 Tapi_Op.cells x0.ops :: rowp g_x0.2.2.2.1 g_x0.2.2.2.2.1 41 1 (eI .u64) x0.values :: rowp g_x0.2.2.2.2.2.1 g_x0.2.2.2.2.2.2 73 3 Tapi_Span.cells x0.blocks :: pt b_2 (blk [ci 0, C.slc none 0 0, C.slc none 0 0] 35) :: S) g_x0.2.2.2.2.2.1 g_x0.2.2.2.2.2.2 (Sl.lift (fun w ho => (Ow.to (S' := rowp g_x0.2.2.2.2.2.1 g_x0.2.2.2.2.2.2 73 3 Tapi_Span.cells x0.blocks :: S) ho [5] 7 (by kernel_rfl) (by kernel_rfl))) (Ow.rowSl 0 (Ow.to (S' := rowp g_x0.2.2.2.2.2.1 g_x0.2.2.2.2.2.2 73 3 Tapi_Span.cells x0.blocks :: S) hs.own [5] 7 (by kernel_rfl) (by kernel_rfl)) rfl)) hs.own).mono ?_
 rintro _ w ⟨Ar15x0_18, cr15x0_19, rfl, how⟩
 refine ⟨_, _, _, rfl, how, fun a hs => ?_⟩
 replace hcl := qO hC_9 hs.own.f1.drop.drop
 refine ⟨fun _ => hcl, ?_⟩
 refine qdp (fuel := 1) [14] hs hcl hqC_9 fun a hs => ?_
 refine qsA 15 7 [ci x0.n, C.slc Ar10x0_13 v_12.length cr10x0_14, C.slc Ar15x0_18 v_17.length cr15x0_19] hs rfl rfl rfl fun a w hs => ?_
 refine ⟨fun h => absurd h (by decide), ?_⟩
 replace hs := hs.pick [2] (L' := [(2, pp b_2)]) (by kernel_rfl)
 refine Vk.dDone (by kernel_rfl) ?_
 refine hK5 _ _ ?_
 clear hK5
 refine wp_ret ?_
 replace hs := hs.bagG (l := Twire_Machine.parts b_x0 x0 g_x0) (S' := rowp Ar15x0_18 cr15x0_19 73 3 Tapi_Span.cells v_17 :: rowp Ar10x0_13 cr10x0_14 43 6 Tapi_Op.cells v_12 :: pt b_2 (blk [ci x0.n, C.slc Ar10x0_13 v_12.length cr10x0_14, C.slc Ar15x0_18 v_17.length cr15x0_19] 35) :: S) hs.own.f6.f6.f6.f6.f6
 exact Vk.retC [ci x0.n, C.slc Ar10x0_13 v_12.length cr10x0_14, C.slc Ar15x0_18 v_17.length cr15x0_19] hs rfl (by kernel_rfl) (sz := 3) (by kernel_rfl) rfl (CellsAt.all 3 rfl) (hRR ▸ by cases hm; exact ⟨Ar10x0_13, cr10x0_14, Ar15x0_18, cr15x0_19, rfl, hs.own.f3.drop.f1.f2⟩)


abbrev wire_Machine_Values.R (κ : Ctx) (S : List HP) (x0 : Twire_Machine) (b_x0 : Nat) (g_x0 : Nat × Option Addr × Nat × Option Addr × Nat × Option Addr × Nat) (r : List Int) : Ending → World → Prop := fun e w' => ∃ (A_r0 : Option Addr), ∃ (c_r0 : Nat), e = .returned (.slice A_r0 r.length c_r0) ∧ Ow κ w' (rowp A_r0 c_r0 41 1 (eI .u64) r :: bagL (Twire_Machine.parts b_x0 x0 g_x0) :: S)
def wire_Machine_Values.m (k : Nat) (x0 : Twire_Machine) : Option (List Int) := (slices_Clone_uint64_uint64.m k x0.values).bind fun v_10 => some v_10

set_option maxRecDepth 100000 in
set_option maxHeartbeats 4000000 in
theorem wire_Machine_Values.ok (k : Nat) (x0 : Twire_Machine) (r : List Int) (hm : wire_Machine_Values.m k x0 = some r) (κ : Ctx) (w : World) (S : List HP) (b_x0 : Nat) (g_x0 : Nat × Option Addr × Nat × Option Addr × Nat × Option Addr × Nat) (ho : Ow κ w (bagL (Twire_Machine.parts b_x0 x0 g_x0) :: S)) :
  Calls Try.prog 7 #[pp b_x0] w (wire_Machine_Values.R κ S x0 b_x0 g_x0 r) := by
 unfold wire_Machine_Values.m at hm
 generalize hRR : wire_Machine_Values.R κ S x0 b_x0 g_x0 r = RR
 refine qen [(0, pp b_x0)] Try.func7 Try.ntmps7 ho fun a hs => ?_
 refine qse 1 [(0, pp b_x0)] hs fun a hs => ?_
 refine Vk.seq fun K2 hK2 => ?_
 refine qsk 2 [0, 4] hs fun a hs => ?_
 refine qcf hs ?_
 refine wp_skip ?_
 refine hK2 _ _ ?_
 clear hK2
 refine qsr fun K4 hK4 => ?_
 refine qpu 3 hs fun a hs => ?_
 replace hs := hs.unbagAt 0 rfl
 refine qld 0 (C.slc g_x0.2.2.2.1 x0.values.length g_x0.2.2.2.2.1) hs rfl fun a hs => ?_
 obtain ⟨v_10, h_9, hm⟩ := bind_t hm
 refine Vk.step (Vk.call (some 9) 34 #[.slice g_x0.2.2.2.1 x0.values.length g_x0.2.2.2.2.1] hs (by kernel_rfl) (by kernel_rfl) (by kernel_rfl) ?_)
 refine (slices_Clone_uint64_uint64.ok k x0.values v_10 h_9 κ w (pt b_x0 (blk (Twire_Machine.obj x0 g_x0.1 g_x0.2.1 g_x0.2.2.1 g_x0.2.2.2.1 g_x0.2.2.2.2.1 g_x0.2.2.2.2.2.1 g_x0.2.2.2.2.2.2) 69) :: opto x0.dry (Ttape_Tape.own g_x0.1 x0.tape) :: rowp g_x0.2.1 g_x0.2.2.1 43 6 Tapi_Op.cells x0.ops :: rowp g_x0.2.2.2.1 g_x0.2.2.2.2.1 41 1 (eI .u64) x0.values :: rowp g_x0.2.2.2.2.2.1 g_x0.2.2.2.2.2.2 73 3 Tapi_Span.cells x0.blocks :: S) g_x0.2.2.2.1 g_x0.2.2.2.2.1 (Sl.lift (fun w ho => (Ow.to (S' := rowp g_x0.2.2.2.1 g_x0.2.2.2.2.1 41 1 (eI .u64) x0.values :: S) ho [3] 5 (by kernel_rfl) (by kernel_rfl))) (Ow.rowSl 0 (Ow.to (S' := rowp g_x0.2.2.2.1 g_x0.2.2.2.2.1 41 1 (eI .u64) x0.values :: S) hs.own [3] 5 (by kernel_rfl) (by kernel_rfl)) rfl)) hs.own).mono ?_
 rintro _ w ⟨Ar8x0_11, cr8x0_12, rfl, how⟩
 refine ⟨_, _, _, rfl, how, fun a hs => ?_⟩
 refine qpk 1 [2] hs fun a hs => hK4 _ _ ?_
 clear hK4
 refine wp_ret ?_
 replace hs := hs.bagG (l := Twire_Machine.parts b_x0 x0 g_x0) (S' := rowp Ar8x0_11 cr8x0_12 41 1 (eI .u64) v_10 :: S) hs.own.f5.f5.f5.f5.f5
 exact qr1 (.slice Ar8x0_11 v_10.length cr8x0_12) hs rfl hRR (by cases hm; exact ⟨Ar8x0_11, cr8x0_12, rfl, hs.own.f1⟩)


def visorref18_Tally.j1 (k : Nat) (rec8 : Cells → Int → Option (Cells)) (q_9 : Cells) (q_10 : Int) (p_25 : Int) : Option (Cells) := (if 0 ≤ p_25 ∧ p_25 < 13 then (getI .i64 q_9 (0 + p_25.toNat * 1)).bind fun v_28 => (if 0 ≤ p_25 ∧ p_25 < 13 then (if 0 + p_25.toNat * 1 < q_9.length then rec8 (q_9.set (0 + p_25.toNat * 1) (ci (IntKind.i64.wrap (v_28 + 1)))) (IntKind.i64.wrap (q_10 + 1)) else none) else none) else none)
def visorref18_Tally.l1 (x0 : Tapi_Trace) : Nat → Cells → Int → Option (Cells)
 | 0, _, _ => none
 | k + 1, q_9, q_10 => (bif decide (q_10 < ((x0.ops.length : Nat) : Int)) then (if 0 ≤ q_10 then (x0.ops[q_10.toNat]?).bind fun e_18 => (bif (decide (e_18.kind < 1)) || (decide (e_18.kind > 12)) then visorref18_Tally.j1 k (visorref18_Tally.l1 x0 k) q_9 q_10 0 else visorref18_Tally.j1 k (visorref18_Tally.l1 x0 k) q_9 q_10 e_18.kind) else none) else some q_9)
abbrev visorref18_Tally.R (κ : Ctx) (S : List HP) (x0 : Tapi_Trace) (A_x0ops : Option Addr) (c_x0ops : Nat) (A_x0blocks : Option Addr) (c_x0blocks : Nat) (r : Cells) : Ending → World → Prop := fun e w' => e = .returned (.agg (vals r)) ∧ Ow κ w' (S)
def visorref18_Tally.m (k : Nat) (x0 : Tapi_Trace) : Option Cells := (visorref18_Tally.l1 x0 k [ci 0, ci 0, ci 0, ci 0, ci 0, ci 0, ci 0, ci 0, ci 0, ci 0, ci 0, ci 0, ci 0] 0).bind fun p_31 => (if p_31.length = 13 then some p_31 else none)

set_option maxRecDepth 100000 in
set_option maxHeartbeats 4000000 in
theorem visorref18_Tally.ok (k : Nat) (x0 : Tapi_Trace) (r : Cells) (hm : visorref18_Tally.m k x0 = some r) (κ : Ctx) (w : World) (S : List HP) (A_x0ops : Option Addr) (c_x0ops : Nat) (hx_x0ops : Sl κ S A_x0ops c_x0ops 6 Tapi_Op.cells x0.ops) (A_x0blocks : Option Addr) (c_x0blocks : Nat) (hx_x0blocks : Sl κ S A_x0blocks c_x0blocks 3 Tapi_Span.cells x0.blocks) (ho : Ow κ w (S)) :
  Calls Try.prog 8 #[.agg (vals [ci x0.n, C.slc A_x0ops x0.ops.length c_x0ops, C.slc A_x0blocks x0.blocks.length c_x0blocks])] w (visorref18_Tally.R κ S x0 A_x0ops c_x0ops A_x0blocks c_x0blocks r) := by
 unfold visorref18_Tally.m at hm
 generalize hRR : visorref18_Tally.R κ S x0 A_x0ops c_x0ops A_x0blocks c_x0blocks r = RR
 refine qen [(0, .agg (vals [ci x0.n, C.slc A_x0ops x0.ops.length c_x0ops, C.slc A_x0blocks x0.blocks.length c_x0blocks]))] Try.func8 Try.ntmps8 ho fun a hs => ?_
 refine qsr fun K1 hK1 => ?_
 refine qbx 0 35 [ci x0.n, C.slc A_x0ops x0.ops.length c_x0ops, C.slc A_x0blocks x0.blocks.length c_x0blocks] 1 hs fun b_2 w a hs => ?_
 refine qal 38 [ci 0, ci 0, ci 0, ci 0, ci 0, ci 0, ci 0, ci 0, ci 0, ci 0, ci 0, ci 0, ci 0] 2 hs fun b_3 w a hs => ?_
 refine qpe 0 [(1, pp b_2), (2, pp b_3)] hs fun a hs => hK1 _ _ ?_
 clear hK1
 refine qsr fun K4 hK4 => ?_
 refine qpu 1 hs fun a hs => ?_
 refine qal 38 [ci 0, ci 0, ci 0, ci 0, ci 0, ci 0, ci 0, ci 0, ci 0, ci 0, ci 0, ci 0, ci 0] 3 hs fun b_5 w a hs => ?_
 refine qsa 0 [ci 0, ci 0, ci 0, ci 0, ci 0, ci 0, ci 0, ci 0, ci 0, ci 0, ci 0, ci 0, ci 0] hs rfl fun a w hs => ?_
 refine qpk 0 [1, 2, 3] hs fun a hs => hK4 _ _ ?_
 clear hK4
 refine Vk.seq fun K6 hK6 => ?_
 refine qsk 1 [1, 2, 3, 4] hs fun a hs => ?_
 refine wp_block ?_
 obtain ⟨r8, hl8, hm⟩ := bind_t hm
 have hx8 : ∀ (p_31 : Cells), r8 = p_31 → ∀ (a : Act) (w : World), St 32 a w κ [(2, pp b_3), (3, pp b_5)] (pt b_3 (blk [ci 0, ci 0, ci 0, ci 0, ci 0, ci 0, ci 0, ci 0, ci 0, ci 0, ci 0, ci 0, ci 0] 38) :: pt b_5 (blk p_31 38) :: S) → K6 a w := by
  intro p_31 he a w hs
  subst r8
  refine hK6 _ _ ?_
  clear hK6
  refine qsr fun K34 hK34 => ?_
  obtain ⟨h_35, hm⟩ := ite_t hm
  refine qlw 1 hs rfl h_35 fun a hs => ?_
  refine qsb 0 p_31 hs rfl h_35 rfl fun a w hs => ?_
  refine qpe 0 [(2, pp b_3)] hs fun a hs => hK34 _ _ ?_
  clear hK34
  refine wp_ret ?_
  exact Vk.retC p_31 hs rfl (by kernel_rfl) (sz := 13) (by kernel_rfl) h_35 (CellsAt.all 0 rfl) (hRR ▸ by cases hm; exact ⟨rfl, hs.own.f1.drop.drop⟩)
 refine Vk.loopBy (fun k (s : Cells × Int) a w => visorref18_Tally.l1 x0 k s.1 s.2 = some r8 ∧ St 32 a w κ [(1, pp b_2), (2, pp b_3), (3, pp b_5), (4, vi s.2)] (pt b_2 (blk (Tapi_Trace.obj x0 A_x0ops c_x0ops A_x0blocks c_x0blocks) 35) :: pt b_3 (blk [ci 0, ci 0, ci 0, ci 0, ci 0, ci 0, ci 0, ci 0, ci 0, ci 0, ci 0, ci 0, ci 0] 38) :: pt b_5 (blk s.1 38) :: S)) k ([ci 0, ci 0, ci 0, ci 0, ci 0, ci 0, ci 0, ci 0, ci 0, ci 0, ci 0, ci 0, ci 0], 0) ⟨hl8, hs.go [1, 2, 3, 4] [2, 1, 0] 3 (by kernel_rfl) (by kernel_rfl) (by kernel_rfl)⟩ (fun s a w h => by obtain ⟨h1, _⟩ := h; simp [visorref18_Tally.l1] at h1) (fun k KL8 ih s a w h => ?_)
 obtain ⟨q_9, q_10⟩ := s
 obtain ⟨hm, hs⟩ := h
 try dsimp only at hm hs
 rw [visorref18_Tally.l1] at hm
 refine Vk.seq fun K11 hK11 => ?_
 refine qsr fun K12 hK12 => ?_
 refine qpu 2 hs fun a hs => ?_
 refine qld 0 (C.slc A_x0ops x0.ops.length c_x0ops) hs rfl fun a hs => ?_
 refine qpk 2 [1, 2, 3, 4, 11] hs fun a hs => hK12 _ _ ?_
 clear hK12
 refine qcs (decide (q_10 < ((x0.ops.length : Nat) : Int))) hs (fun hb => ?_) fun hb => ?_
 ·replace hm := bif_t hm hb
  refine wp_skip ?_
  refine hK11 _ _ ?_
  clear hK11
  refine Vk.seq fun K13 hK13 => ?_
  refine wp_block ?_
  refine qsr fun K14 hK14 => ?_
  refine qpu 1 hs fun a hs => ?_
  refine qld 0 (C.slc A_x0ops x0.ops.length c_x0ops) hs rfl fun a hs => ?_
  refine qpu 1 hs fun a hs => ?_
  obtain ⟨h_15, hm⟩ := ite_t hm
  obtain ⟨e_18, h_16, hm⟩ := bind_t hm
  obtain ⟨b_19, o_20, hA_21, h_17⟩ := Sl.elem hx_x0ops h_16
  refine qva (.pointer (some ⟨b_19, o_20 + q_10.toNat * 6, none⟩)) (op := (.indexAddr 32 (.tmp 15) (.tmp 16))) hs (fun o ho => run_idxSlc (k := .i64) ho (cap := c_x0ops) (len := x0.ops.length) ((congrArg (fun A => Value.slice A (x0.ops.length) (c_x0ops)) hA_21) ▸ (by kernel_rfl)) (by kernel_rfl) (by kernel_rfl) (idx_ok h_15 h_16) _) fun a hs => ?_
  refine qpu 1 hs fun a hs => ?_
  refine qva (vi e_18.kind) (op := (.load 3 (.tmp 18))) hs (fun o ho => run_load1 (b := b_19) (off := o_20 + q_10.toNat * 6) (c := ci e_18.kind) ho (by kernel_rfl) (by kernel_rfl) (CellsAt.cell h_17 (i := 0) (by kernel_rfl)) _ hs.own.drop.drop.drop) fun a hs => ?_
  refine qpk 1 [1, 2, 3, 4, 5] hs fun a hs => hK14 _ _ ?_
  clear hK14
  refine Vk.seq fun K22 hK22 => ?_
  have hj22 : ∀ (p_25 : Int), visorref18_Tally.j1 k (visorref18_Tally.l1 x0 k) q_9 q_10 p_25 = some r8 → ∀ (a : Act) (w : World), St 32 a w κ [(1, pp b_2), (2, pp b_3), (3, pp b_5), (4, vi q_10), (5, vi p_25)] (pt b_2 (blk (Tapi_Trace.obj x0 A_x0ops c_x0ops A_x0blocks c_x0blocks) 35) :: pt b_3 (blk [ci 0, ci 0, ci 0, ci 0, ci 0, ci 0, ci 0, ci 0, ci 0, ci 0, ci 0, ci 0, ci 0] 38) :: pt b_5 (blk q_9 38) :: S) → K22 a w := by
   intro p_25 hm a w hs
   unfold visorref18_Tally.j1 at hm
   refine hK22 _ _ ?_
   refine Vk.region ?_
   refine qpu 1 hs fun a hs => ?_
   obtain ⟨h_26, hm⟩ := ite_t hm
   refine qix b_5 0 1 hs h_26 fun a hs => ?_
   obtain ⟨v_28, h_27, hm⟩ := bind_t hm
   refine qli 2 hs rfl h_27 fun a hs => ?_
   refine qpu 1 hs fun a hs => ?_
   obtain ⟨h_29, hm⟩ := ite_t hm
   refine qix b_5 0 1 hs h_29 fun a hs => ?_
   obtain ⟨h_30, hm⟩ := ite_t hm
   refine Vk.step (Vk.store1 (b := b_5) (ty := 3) (x := (.tmp 30)) (y := (.tmp 29)) (off := 0 + p_25.toNat * 1) (ci (IntKind.i64.wrap (v_28 + 1))) 2 hs (by kernel_rfl) (by kernel_rfl) (by kernel_rfl) (by kernel_rfl) (by kernel_rfl) (by kernel_rfl) rfl h_30 fun a w hs => ?_)
   refine qpk 0 [1, 2, 3, 4] hs fun a hs => hK13 _ _ ?_
   clear hK13
   refine Vk.region ?_
   refine qpk 3 [1, 2, 3, 4] hs fun a hs => ?_
   refine ih ((q_9.set (0 + p_25.toNat * 1) (ci (IntKind.i64.wrap (v_28 + 1)))), (IntKind.i64.wrap (q_10 + 1))) _ _ ⟨hm, hs.go [1, 2, 3, 4] [0, 1, 2] 3 (by kernel_rfl) (by kernel_rfl) (by kernel_rfl)⟩
  refine qsr fun K23 hK23 => ?_
  refine qpu 3 hs fun a hs => ?_
  refine qsc 22 3 hs fun a hs => ?_
  refine qpk 0 [1, 2, 3, 4, 5, 25] hs fun a hs => hK23 _ _ ?_
  clear hK23
  refine qcs ((decide (e_18.kind < 1)) || (decide (e_18.kind > 12))) hs (fun hb => ?_) fun hb => ?_
  ·replace hm := bif_t hm hb
   refine Vk.region ?_
   refine qpe 1 [(1, pp b_2), (2, pp b_3), (3, pp b_5), (4, vi q_10), (5, vi 0)] hs fun a hs => ?_
   exact hj22 0 hm _ _ (hs.go [1, 2, 3, 4, 5] [0, 1, 2] 3 (by kernel_rfl) (by kernel_rfl) (by kernel_rfl))
  ·replace hm := bif_f hm hb
   refine wp_skip ?_
   exact hj22 e_18.kind hm _ _ (hs.go [1, 2, 3, 4, 5] [0, 1, 2] 3 (by kernel_rfl) (by kernel_rfl) (by kernel_rfl))
 ·replace hm := bif_f hm hb
  refine wp_exit ?_
  exact hx8 q_9 (Option.some.inj hm).symm _ _ (hs.go [2, 3] [1, 2] 3 (by kernel_rfl) (by kernel_rfl) (by kernel_rfl))


def visorref17_Regs.j2 (k : Nat) (x0 : Int) (x1 : Int) (p_19 : Bool) : Option (Int) := (bif p_19 then some 1 else (bif x0 == 12 then some x1 else some 0))
def visorref17_Regs.j1 (k : Nat) (x0 : Int) (x1 : Int) (p_12 : Bool) : Option (Int) := (bif p_12 then some 2 else (bif x0 == 6 then visorref17_Regs.j2 k x0 x1 (x0 == 6) else (bif x0 == 8 then visorref17_Regs.j2 k x0 x1 (x0 == 8) else (bif x0 == 9 then visorref17_Regs.j2 k x0 x1 (x0 == 9) else (bif x0 == 10 then visorref17_Regs.j2 k x0 x1 (x0 == 10) else visorref17_Regs.j2 k x0 x1 (x0 == 11))))))
abbrev visorref17_Regs.R (κ : Ctx) (S : List HP) (x0 : Int) (x1 : Int) (r : Int) : Ending → World → Prop := fun e w' => e = .returned (vi r) ∧ Ow κ w' (S)
def visorref17_Regs.m (k : Nat) (x0 : Int) (x1 : Int) : Option Int := (bif (x1 != 2) && (x1 != 3) then some 0 else (bif x0 == 2 then some (IntKind.i64.wrap (x1 - 1)) else (bif x0 == 5 then visorref17_Regs.j1 k x0 x1 (x0 == 5) else visorref17_Regs.j1 k x0 x1 (x0 == 7))))

set_option maxRecDepth 100000 in
set_option maxHeartbeats 4000000 in
theorem visorref17_Regs.ok (k : Nat) (x0 : Int) (x1 : Int) (r : Int) (hm : visorref17_Regs.m k x0 x1 = some r) (κ : Ctx) (w : World) (S : List HP) (ho : Ow κ w (S)) :
  Calls Try.prog 65 #[vi x0, vi x1] w (visorref17_Regs.R κ S x0 x1 r) := by
 unfold visorref17_Regs.m at hm
 generalize hRR : visorref17_Regs.R κ S x0 x1 r = RR
 refine qen [(0, vi x0), (1, vi x1)] Try.func65 Try.ntmps65 ho fun a hs => ?_
 refine qse 1 [(0, vi x0), (1, vi x1)] hs fun a hs => ?_
 refine Vk.seq fun K2 hK2 => ?_
 refine qsr fun K3 hK3 => ?_
 refine qpu 3 hs fun a hs => ?_
 refine qsc 7 3 hs fun a hs => ?_
 refine qpk 0 [0, 1, 10] hs fun a hs => hK3 _ _ ?_
 clear hK3
 refine qcs ((x1 != 2) && (x1 != 3)) hs (fun hb => ?_) fun hb => ?_
 ·replace hm := bif_t hm hb
  refine qse 1 [(4, vi 0)] hs fun a hs => ?_
  refine wp_ret ?_
  exact qr1 (vi 0) hs rfl hRR (by cases hm; exact ⟨rfl, hs.own⟩)
 ·replace hm := bif_f hm hb
  refine wp_skip ?_
  refine hK2 _ _ ?_
  clear hK2
  refine Vk.seq fun K6 hK6 => ?_
  refine qse 1 [(1, vi x1), (11, vi x0)] hs fun a hs => ?_
  refine wp_block ?_
  refine qsk 2 [1, 11, 12] hs fun a hs => ?_
  refine qcs (x0 == 2) hs (fun hb => ?_) fun hb => ?_
  ·replace hm := bif_t hm hb
   refine qsk 3 [4] hs fun a hs => ?_
   refine wp_ret ?_
   exact qr1 (vi (IntKind.i64.wrap (x1 - 1))) hs rfl hRR (by cases hm; exact ⟨rfl, hs.own⟩)
  ·replace hm := bif_f hm hb
   refine Vk.seq fun K10 hK10 => ?_
   have hj10 : ∀ (p_12 : Bool), visorref17_Regs.j1 k x0 x1 p_12 = some r → ∀ (a : Act) (w : World), St 28 a w κ [(1, vi x1), (11, vi x0), (16, .bool p_12)] (S) → K10 a w := by
    intro p_12 hm a w hs
    unfold visorref17_Regs.j1 at hm
    refine hK10 _ _ ?_
    refine qcs (p_12) hs (fun hb => ?_) fun hb => ?_
    ·replace hm := bif_t hm hb
     refine qse 1 [(4, vi 2)] hs fun a hs => ?_
     refine wp_ret ?_
     exact qr1 (vi 2) hs rfl hRR (by cases hm; exact ⟨rfl, hs.own⟩)
    ·replace hm := bif_f hm hb
     refine Vk.seq fun K14 hK14 => ?_
     have hj14 : ∀ (p_19 : Bool), visorref17_Regs.j2 k x0 x1 p_19 = some r → ∀ (a : Act) (w : World), St 28 a w κ [(1, vi x1), (11, vi x0), (19, .bool p_19)] (S) → K14 a w := by
      intro p_19 hm a w hs
      unfold visorref17_Regs.j2 at hm
      refine hK14 _ _ ?_
      refine qcs (p_19) hs (fun hb => ?_) fun hb => ?_
      ·replace hm := bif_t hm hb
       refine qse 1 [(4, vi 1)] hs fun a hs => ?_
       refine wp_ret ?_
       exact qr1 (vi 1) hs rfl hRR (by cases hm; exact ⟨rfl, hs.own⟩)
      ·replace hm := bif_f hm hb
       refine qsk 2 [1, 25] hs fun a hs => ?_
       refine qcs (x0 == 12) hs (fun hb => ?_) fun hb => ?_
       ·replace hm := bif_t hm hb
        refine qse 2 [(4, vi x1)] hs fun a hs => ?_
        refine wp_ret ?_
        exact qr1 (vi x1) hs rfl hRR (by cases hm; exact ⟨rfl, hs.own⟩)
       ·replace hm := bif_f hm hb
        refine wp_skip ?_
        refine hK6 _ _ ?_
        clear hK6
        refine qse 1 [(4, vi 0)] hs fun a hs => ?_
        refine wp_ret ?_
        exact qr1 (vi 0) hs rfl hRR (by cases hm; exact ⟨rfl, hs.own⟩)
     refine qse 2 [(1, vi x1), (11, vi x0), (19, .bool (x0 == 6))] hs fun a hs => ?_
     refine qcs (x0 == 6) hs (fun hb => ?_) fun hb => ?_
     ·replace hm := bif_t hm hb
      refine wp_skip ?_
      exact hj14 (x0 == 6) hm _ _ (hs.go [1, 11, 19] [] 0 (by kernel_rfl) (by kernel_rfl) (by kernel_rfl))
     ·replace hm := bif_f hm hb
      refine qse 2 [(1, vi x1), (11, vi x0), (19, .bool (x0 == 8))] hs fun a hs => ?_
      refine qcs (x0 == 8) hs (fun hb => ?_) fun hb => ?_
      ·replace hm := bif_t hm hb
       refine wp_skip ?_
       exact hj14 (x0 == 8) hm _ _ (hs.go [1, 11, 19] [] 0 (by kernel_rfl) (by kernel_rfl) (by kernel_rfl))
      ·replace hm := bif_f hm hb
       refine qse 2 [(1, vi x1), (11, vi x0), (19, .bool (x0 == 9))] hs fun a hs => ?_
       refine qcs (x0 == 9) hs (fun hb => ?_) fun hb => ?_
       ·replace hm := bif_t hm hb
        refine wp_skip ?_
        exact hj14 (x0 == 9) hm _ _ (hs.go [1, 11, 19] [] 0 (by kernel_rfl) (by kernel_rfl) (by kernel_rfl))
       ·replace hm := bif_f hm hb
        refine qse 2 [(1, vi x1), (11, vi x0), (19, .bool (x0 == 10))] hs fun a hs => ?_
        refine qcs (x0 == 10) hs (fun hb => ?_) fun hb => ?_
        ·replace hm := bif_t hm hb
         refine wp_skip ?_
         exact hj14 (x0 == 10) hm _ _ (hs.go [1, 11, 19] [] 0 (by kernel_rfl) (by kernel_rfl) (by kernel_rfl))
        ·replace hm := bif_f hm hb
         refine Vk.region ?_
         refine qpe 2 [(1, vi x1), (11, vi x0), (19, .bool (x0 == 11))] hs fun a hs => ?_
         exact hj14 (x0 == 11) hm _ _ (hs.go [1, 11, 19] [] 0 (by kernel_rfl) (by kernel_rfl) (by kernel_rfl))
   refine qse 2 [(1, vi x1), (11, vi x0), (16, .bool (x0 == 5))] hs fun a hs => ?_
   refine qcs (x0 == 5) hs (fun hb => ?_) fun hb => ?_
   ·replace hm := bif_t hm hb
    refine wp_skip ?_
    exact hj10 (x0 == 5) hm _ _ (hs.go [1, 11, 16] [] 0 (by kernel_rfl) (by kernel_rfl) (by kernel_rfl))
   ·replace hm := bif_f hm hb
    refine Vk.region ?_
    refine qpe 2 [(1, vi x1), (11, vi x0), (16, .bool (x0 == 7))] hs fun a hs => ?_
    exact hj10 (x0 == 7) hm _ _ (hs.go [1, 11, 16] [] 0 (by kernel_rfl) (by kernel_rfl) (by kernel_rfl))


def visorref17_Right.j3 (k : Nat) (x0 : Tapi_Op) (p_68 : Bool) : Option (Bool) := (bif p_68 then some true else some (x0.c == 0))
def visorref17_Right.j2 (k : Nat) (x0 : Tapi_Op) (p_61 : Bool) : Option (Bool) := (bif p_61 then some (decide (x0.c < 64)) else (bif x0.kind == 2 then some (decide (x0.c < 1048576)) else (bif x0.kind == 3 then visorref17_Right.j3 k x0 (x0.kind == 3) else (bif x0.kind == 4 then visorref17_Right.j3 k x0 (x0.kind == 4) else visorref17_Right.j3 k x0 (x0.kind == 8)))))
def visorref17_Right.l1 (x0 : Tapi_Op) (x1 : Int) (x2 : Int) : Nat → Int → Option (Sum (Bool) (Unit))
 | 0, _ => none
 | k + 1, q_18 => (bif decide (q_18 < 3) then (visorref17_Regs.m k x0.kind x2).bind fun v_25 => (bif decide (q_18 < v_25) then (if 0 ≤ q_18 ∧ q_18 < 3 then (getI .i64 [ci x0.a, ci x0.b, ci x0.d] (0 + q_18.toNat * 1)).bind fun v_29 => (bif decide (v_29 < 0) then some (.inl false) else (if 0 ≤ q_18 ∧ q_18 < 3 then (getI .i64 [ci x0.a, ci x0.b, ci x0.d] (0 + q_18.toNat * 1)).bind fun v_33 => (bif decide (v_33 ≥ x1) then some (.inl false) else (visorref17_Regs.m k x0.kind x2).bind fun v_36 => (bif decide (q_18 ≥ v_36) then (if 0 ≤ q_18 ∧ q_18 < 3 then (getI .i64 [ci x0.a, ci x0.b, ci x0.d] (0 + q_18.toNat * 1)).bind fun v_40 => (bif v_40 != (-1) then some (.inl false) else visorref17_Right.l1 x0 x1 x2 k (IntKind.i64.wrap (q_18 + 1))) else none) else visorref17_Right.l1 x0 x1 x2 k (IntKind.i64.wrap (q_18 + 1)))) else none)) else none) else (visorref17_Regs.m k x0.kind x2).bind fun v_43 => (bif decide (q_18 ≥ v_43) then (if 0 ≤ q_18 ∧ q_18 < 3 then (getI .i64 [ci x0.a, ci x0.b, ci x0.d] (0 + q_18.toNat * 1)).bind fun v_47 => (bif v_47 != (-1) then some (.inl false) else visorref17_Right.l1 x0 x1 x2 k (IntKind.i64.wrap (q_18 + 1))) else none) else visorref17_Right.l1 x0 x1 x2 k (IntKind.i64.wrap (q_18 + 1)))) else some (.inr ()))
def visorref17_Right.j1 (k : Nat) (x0 : Tapi_Op) (x1 : Int) (x2 : Int) (p_11 : Bool) : Option (Bool) := (bif p_11 then some false else (visorref17_Right.l1 x0 x1 x2 k 0).bind fun x => match x with | .inl v => some v | .inr () => (bif x0.kind == 9 then visorref17_Right.j2 k x0 (x0.kind == 9) else (bif x0.kind == 10 then visorref17_Right.j2 k x0 (x0.kind == 10) else visorref17_Right.j2 k x0 (x0.kind == 11))))
abbrev visorref17_Right.R (κ : Ctx) (S : List HP) (x0 : Tapi_Op) (x1 : Int) (x2 : Int) (r : Bool) : Ending → World → Prop := fun e w' => e = .returned (.bool r) ∧ Ow κ w' (S)
def visorref17_Right.m (k : Nat) (x0 : Tapi_Op) (x1 : Int) (x2 : Int) : Option Bool := (bif (((((x2 != 2) && (x2 != 3)) || (decide (x0.kind < 1))) || (decide (x0.kind > 12))) || (decide (x0.dom < (-1)))) || (decide (x0.dom ≥ x2)) then visorref17_Right.j1 k x0 x1 x2 true else visorref17_Right.j1 k x0 x1 x2 ((x0.kind == 12) && (x0.dom != (-1))))

set_option maxRecDepth 100000 in
set_option maxHeartbeats 4000000 in
theorem visorref17_Right.ok (k : Nat) (x0 : Tapi_Op) (x1 : Int) (x2 : Int) (r : Bool) (hm : visorref17_Right.m k x0 x1 x2 = some r) (κ : Ctx) (w : World) (S : List HP) (ho : Ow κ w (S)) :
  Calls Try.prog 35 #[.agg (vals [ci x0.kind, ci x0.dom, ci x0.a, ci x0.b, ci x0.d, cw x0.c]), vi x1, vi x2] w (visorref17_Right.R κ S x0 x1 x2 r) := by
 unfold visorref17_Right.m at hm
 generalize hRR : visorref17_Right.R κ S x0 x1 x2 r = RR
 refine qen [(0, .agg (vals [ci x0.kind, ci x0.dom, ci x0.a, ci x0.b, ci x0.d, cw x0.c])), (1, vi x1), (2, vi x2)] Try.func35 Try.ntmps35 ho fun a hs => ?_
 refine qsr fun K1 hK1 => ?_
 refine qbx 0 43 [ci x0.kind, ci x0.dom, ci x0.a, ci x0.b, ci x0.d, cw x0.c] 3 hs fun b_2 w a hs => ?_
 refine qpk 1 [1, 2, 3] hs fun a hs => hK1 _ _ ?_
 clear hK1
 refine Vk.seq fun K3 hK3 => ?_
 refine Vk.seq fun K4 hK4 => ?_
 have hj4 : ∀ (p_11 : Bool), visorref17_Right.j1 k x0 x1 x2 p_11 = some r → ∀ (a : Act) (w : World), St 111 a w κ [(1, vi x1), (2, vi x2), (3, pp b_2), (45, .bool p_11)] (pt b_2 (blk (Tapi_Op.cells x0) 43) :: S) → K4 a w := by
  intro p_11 hm a w hs
  unfold visorref17_Right.j1 at hm
  refine hK4 _ _ ?_
  refine qcs (p_11) hs (fun hb => ?_) fun hb => ?_
  ·replace hm := bif_t hm hb
   refine qse 1 [(6, .bool false)] hs fun a hs => ?_
   refine wp_ret ?_
   exact qr1 (.bool false) hs rfl hRR (by cases hm; exact ⟨rfl, hs.own.drop⟩)
  ·replace hm := bif_f hm hb
   refine wp_skip ?_
   refine hK3 _ _ ?_
   clear hK3
   refine qsr fun K13 hK13 => ?_
   refine qpu 1 hs fun a hs => ?_
   refine qld 0 (ci x0.a) hs rfl fun a hs => ?_
   refine qpu 1 hs fun a hs => ?_
   refine qld 0 (ci x0.b) hs rfl fun a hs => ?_
   refine qpu 1 hs fun a hs => ?_
   refine qld 0 (ci x0.d) hs rfl fun a hs => ?_
   refine qpu 1 hs fun a hs => ?_
   refine qal 54 [ci 0, ci 0, ci 0] 7 hs fun b_14 w a hs => ?_
   refine qsa 0 [ci x0.a, ci x0.b, ci x0.d] hs rfl fun a w hs => ?_
   refine qpk 0 [1, 2, 3, 7] hs fun a hs => hK13 _ _ ?_
   clear hK13
   refine Vk.seq fun K15 hK15 => ?_
   refine qsk 1 [1, 2, 3, 7, 8] hs fun a hs => ?_
   refine wp_block ?_
   obtain ⟨r17, hl17, hm⟩ := bind_t hm
   have hx17 : r17 = Sum.inr () → ∀ (a : Act) (w : World), St 111 a w κ [(3, pp b_2)] (pt b_2 (blk (Tapi_Op.cells x0) 43) :: S) → K15 a w := by
    intro he a w hs
    subst r17
    refine hK15 _ _ ?_
    clear hK15
    refine Vk.seq fun K56 hK56 => ?_
    refine qsr fun K57 hK57 => ?_
    refine qpu 1 hs fun a hs => ?_
    refine qld 0 (ci x0.kind) hs rfl fun a hs => ?_
    refine qpk 0 [3, 91] hs fun a hs => hK57 _ _ ?_
    clear hK57
    refine wp_block ?_
    refine Vk.seq fun K58 hK58 => ?_
    have hj58 : ∀ (p_61 : Bool), visorref17_Right.j2 k x0 p_61 = some r → ∀ (a : Act) (w : World), St 111 a w κ [(3, pp b_2), (91, vi x0.kind), (92, .bool p_61)] (pt b_2 (blk (Tapi_Op.cells x0) 43) :: S) → K58 a w := by
     intro p_61 hm a w hs
     unfold visorref17_Right.j2 at hm
     refine hK58 _ _ ?_
     refine qcs (p_61) hs (fun hb => ?_) fun hb => ?_
     ·replace hm := bif_t hm hb
      refine qsr fun K62 hK62 => ?_
      refine qpu 1 hs fun a hs => ?_
      refine qld 0 (cw x0.c) hs rfl fun a hs => ?_
      refine qpk 2 [6] hs fun a hs => hK62 _ _ ?_
      clear hK62
      refine wp_ret ?_
      exact qr1 (.bool (decide (x0.c < 64))) hs rfl hRR (by cases hm; exact ⟨rfl, hs.own.drop⟩)
     ·replace hm := bif_f hm hb
      refine qsk 2 [3, 91, 99] hs fun a hs => ?_
      refine qcs (x0.kind == 2) hs (fun hb => ?_) fun hb => ?_
      ·replace hm := bif_t hm hb
       refine qsr fun K64 hK64 => ?_
       refine qpu 1 hs fun a hs => ?_
       refine qld 0 (cw x0.c) hs rfl fun a hs => ?_
       refine qpe 2 [(6, .bool (decide (x0.c < 1048576)))] hs fun a hs => hK64 _ _ ?_
       clear hK64
       refine wp_ret ?_
       exact qr1 (.bool (decide (x0.c < 1048576))) hs rfl hRR (by cases hm; exact ⟨rfl, hs.own.drop⟩)
      ·replace hm := bif_f hm hb
       refine Vk.seq fun K65 hK65 => ?_
       have hj65 : ∀ (p_68 : Bool), visorref17_Right.j3 k x0 p_68 = some r → ∀ (a : Act) (w : World), St 111 a w κ [(3, pp b_2), (104, .bool p_68)] (pt b_2 (blk (Tapi_Op.cells x0) 43) :: S) → K65 a w := by
        intro p_68 hm a w hs
        unfold visorref17_Right.j3 at hm
        refine hK65 _ _ ?_
        refine qcs (p_68) hs (fun hb => ?_) fun hb => ?_
        ·replace hm := bif_t hm hb
         refine qse 1 [(6, .bool true)] hs fun a hs => ?_
         refine wp_ret ?_
         exact qr1 (.bool true) hs rfl hRR (by cases hm; exact ⟨rfl, hs.own.drop⟩)
        ·replace hm := bif_f hm hb
         refine wp_skip ?_
         refine hK56 _ _ ?_
         clear hK56
         refine qsr fun K70 hK70 => ?_
         refine qpu 1 hs fun a hs => ?_
         refine qld 0 (cw x0.c) hs rfl fun a hs => ?_
         refine qpe 2 [(6, .bool (x0.c == 0))] hs fun a hs => hK70 _ _ ?_
         clear hK70
         refine wp_ret ?_
         exact qr1 (.bool (x0.c == 0)) hs rfl hRR (by cases hm; exact ⟨rfl, hs.own.drop⟩)
       refine qse 2 [(3, pp b_2), (91, vi x0.kind), (104, .bool (x0.kind == 3))] hs fun a hs => ?_
       refine qcs (x0.kind == 3) hs (fun hb => ?_) fun hb => ?_
       ·replace hm := bif_t hm hb
        refine wp_skip ?_
        exact hj65 (x0.kind == 3) hm _ _ (hs.go [3, 104] [0] 1 (by kernel_rfl) (by kernel_rfl) (by kernel_rfl))
       ·replace hm := bif_f hm hb
        refine qse 2 [(3, pp b_2), (91, vi x0.kind), (104, .bool (x0.kind == 4))] hs fun a hs => ?_
        refine qcs (x0.kind == 4) hs (fun hb => ?_) fun hb => ?_
        ·replace hm := bif_t hm hb
         refine wp_skip ?_
         exact hj65 (x0.kind == 4) hm _ _ (hs.go [3, 104] [0] 1 (by kernel_rfl) (by kernel_rfl) (by kernel_rfl))
        ·replace hm := bif_f hm hb
         refine Vk.region ?_
         refine qpe 2 [(3, pp b_2), (104, .bool (x0.kind == 8))] hs fun a hs => ?_
         exact hj65 (x0.kind == 8) hm _ _ (hs.go [3, 104] [0] 1 (by kernel_rfl) (by kernel_rfl) (by kernel_rfl))
    refine qse 2 [(3, pp b_2), (91, vi x0.kind), (92, .bool (x0.kind == 9))] hs fun a hs => ?_
    refine qcs (x0.kind == 9) hs (fun hb => ?_) fun hb => ?_
    ·replace hm := bif_t hm hb
     refine wp_skip ?_
     exact hj58 (x0.kind == 9) hm _ _ (hs.go [3, 91, 92] [0] 1 (by kernel_rfl) (by kernel_rfl) (by kernel_rfl))
    ·replace hm := bif_f hm hb
     refine qse 2 [(3, pp b_2), (91, vi x0.kind), (92, .bool (x0.kind == 10))] hs fun a hs => ?_
     refine qcs (x0.kind == 10) hs (fun hb => ?_) fun hb => ?_
     ·replace hm := bif_t hm hb
      refine wp_skip ?_
      exact hj58 (x0.kind == 10) hm _ _ (hs.go [3, 91, 92] [0] 1 (by kernel_rfl) (by kernel_rfl) (by kernel_rfl))
     ·replace hm := bif_f hm hb
      refine Vk.region ?_
      refine qpe 2 [(3, pp b_2), (91, vi x0.kind), (92, .bool (x0.kind == 11))] hs fun a hs => ?_
      exact hj58 (x0.kind == 11) hm _ _ (hs.go [3, 91, 92] [0] 1 (by kernel_rfl) (by kernel_rfl) (by kernel_rfl))
   have hret17 : ∀ v, r17 = Sum.inl v → v = r := by intro v he; subst r17; exact Option.some.inj hm
   refine Vk.loopBy (fun k (s : Int) a w => visorref17_Right.l1 x0 x1 x2 k s = some r17 ∧ St 111 a w κ [(1, vi x1), (2, vi x2), (3, pp b_2), (7, pp b_14), (8, vi s)] (pt b_2 (blk (Tapi_Op.cells x0) 43) :: pt b_14 (blk [ci x0.a, ci x0.b, ci x0.d] 54) :: S)) k 0 ⟨hl17, hs.go [1, 2, 3, 7, 8] [1, 0] 2 (by kernel_rfl) (by kernel_rfl) (by kernel_rfl)⟩ (fun s a w h => by obtain ⟨h1, _⟩ := h; simp [visorref17_Right.l1] at h1) (fun k KL17 ih q_18 a w h => ?_)
   obtain ⟨hm, hs⟩ := h
   try dsimp only at hm hs
   rw [visorref17_Right.l1] at hm
   refine Vk.seq fun K19 hK19 => ?_
   refine qsk 2 [1, 2, 3, 7, 8, 54] hs fun a hs => ?_
   refine qcs (decide (q_18 < 3)) hs (fun hb => ?_) fun hb => ?_
   ·replace hm := bif_t hm hb
    refine wp_skip ?_
    refine hK19 _ _ ?_
    clear hK19
    refine Vk.seq fun K21 hK21 => ?_
    refine wp_block ?_
    refine qsr fun K22 hK22 => ?_
    refine qpu 2 hs fun a hs => ?_
    refine qld 0 (ci x0.kind) hs rfl fun a hs => ?_
    refine qpu 1 hs fun a hs => ?_
    obtain ⟨v_25, h_24, hm⟩ := bind_t hm
    refine qcl (visorref17_Regs.ok _ _ _ _ h_24 _ _ (pt b_2 (blk (Tapi_Op.cells x0) 43) :: pt b_14 (blk [ci x0.a, ci x0.b, ci x0.d] 54) :: S) hs.own) hs fun w a hs => ?_
    refine qpu 2 hs fun a hs => ?_
    rcases Bool.eq_false_or_eq_true (decide (q_18 < v_25)) with hb | hb
    ·replace hm := bif_t hm hb
     replace hs := hs.known (t := 63) hb (by kernel_rfl)
     refine qpu 1 hs fun a hs => ?_
     obtain ⟨h_27, hm⟩ := ite_t hm
     refine qix b_14 0 1 hs h_27 fun a hs => ?_
     obtain ⟨v_29, h_28, hm⟩ := bind_t hm
     refine qli 1 hs rfl h_28 fun a hs => ?_
     refine qpu 2 hs fun a hs => ?_
     rcases Bool.eq_false_or_eq_true (decide (v_29 < 0)) with hb | hb
     ·replace hm := bif_t hm hb
      replace hs := hs.known (t := 68) hb (by kernel_rfl)
      refine qpk 21 [1, 2, 3, 7, 8, 64, 65, 66, 67, 68, 74, 89] hs fun a hs => hK22 _ _ ?_
      refine qct hs ?_
      refine qse 1 [(6, .bool false)] hs fun a hs => ?_
      refine wp_ret ?_
      exact Vk.ret1 (P := Try.prog) (fn := Try.f35) (R := RR) (.bool false) hs rfl (by kernel_rfl) (by obtain rfl := hret17 _ ((Option.some.inj hm).symm); subst hRR; exact ⟨rfl, hs.own.f1.drop.drop⟩)
     ·replace hm := bif_f hm hb
      replace hs := hs.known (t := 68) hb (by kernel_rfl)
      refine qpu 1 hs fun a hs => ?_
      obtain ⟨h_31, hm⟩ := ite_t hm
      refine qix b_14 0 1 hs h_31 fun a hs => ?_
      obtain ⟨v_33, h_32, hm⟩ := bind_t hm
      refine qli 1 hs rfl h_32 fun a hs => ?_
      refine qpu 5 hs fun a hs => ?_
      rcases Bool.eq_false_or_eq_true (decide (v_33 ≥ x1)) with hb | hb
      ·replace hm := bif_t hm hb
       replace hs := hs.known (t := 76) hb (by kernel_rfl)
       refine qpk 13 [1, 2, 3, 7, 8, 64, 65, 66, 67, 68, 69, 70, 71, 72, 73, 74, 89] hs fun a hs => hK22 _ _ ?_
       refine qct hs ?_
       refine qse 1 [(6, .bool false)] hs fun a hs => ?_
       refine wp_ret ?_
       exact Vk.ret1 (P := Try.prog) (fn := Try.f35) (R := RR) (.bool false) hs rfl (by kernel_rfl) (by obtain rfl := hret17 _ ((Option.some.inj hm).symm); subst hRR; exact ⟨rfl, hs.own.f1.drop.drop⟩)
      ·replace hm := bif_f hm hb
       replace hs := hs.known (t := 76) hb (by kernel_rfl)
       refine qpu 2 hs fun a hs => ?_
       refine qld 0 (ci x0.kind) hs rfl fun a hs => ?_
       refine qpu 1 hs fun a hs => ?_
       obtain ⟨v_36, h_35, hm⟩ := bind_t hm
       refine qcl (visorref17_Regs.ok _ _ _ _ h_35 _ _ (pt b_2 (blk (Tapi_Op.cells x0) 43) :: pt b_14 (blk [ci x0.a, ci x0.b, ci x0.d] 54) :: S) hs.own) hs fun w a hs => ?_
       refine qpu 2 hs fun a hs => ?_
       rcases Bool.eq_false_or_eq_true (decide (q_18 ≥ v_36)) with hb | hb
       ·replace hm := bif_t hm hb
        replace hs := hs.known (t := 83) hb (by kernel_rfl)
        refine qpu 1 hs fun a hs => ?_
        obtain ⟨h_38, hm⟩ := ite_t hm
        refine qix b_14 0 1 hs h_38 fun a hs => ?_
        obtain ⟨v_40, h_39, hm⟩ := bind_t hm
        refine qli 1 hs rfl h_39 fun a hs => ?_
        refine qpk 3 [1, 2, 3, 7, 8, 64, 65, 66, 67, 68, 69, 70, 71, 72, 73, 74, 77, 78, 79, 80, 81, 82, 83, 84, 85, 86, 87, 88, 89] hs fun a hs => hK22 _ _ ?_
        refine qcs (v_40 != (-1)) hs (fun hb => ?_) fun hb => ?_
        ·replace hm := bif_t hm hb
         refine qse 1 [(6, .bool false)] hs fun a hs => ?_
         refine wp_ret ?_
         exact Vk.ret1 (P := Try.prog) (fn := Try.f35) (R := RR) (.bool false) hs rfl (by kernel_rfl) (by obtain rfl := hret17 _ ((Option.some.inj hm).symm); subst hRR; exact ⟨rfl, hs.own.f1.drop.drop⟩)
        ·replace hm := bif_f hm hb
         refine wp_skip ?_
         refine hK21 _ _ ?_
         refine Vk.region ?_
         refine qpk 3 [1, 2, 3, 7, 8, 64, 65, 66, 67, 68, 69, 70, 71, 72, 73, 74, 77, 78, 79, 80, 81, 82, 83, 84, 85, 86, 87, 88] hs fun a hs => ?_
         refine ih (IntKind.i64.wrap (q_18 + 1)) _ _ ⟨hm, hs.go [1, 2, 3, 7, 8] [0, 1] 2 (by kernel_rfl) (by kernel_rfl) (by kernel_rfl)⟩
       ·replace hm := bif_f hm hb
        replace hs := hs.known (t := 83) hb (by kernel_rfl)
        refine qpk 6 [1, 2, 3, 7, 8, 64, 65, 66, 67, 68, 69, 70, 71, 72, 73, 74, 77, 78, 79, 80, 81, 82, 83, 88, 89] hs fun a hs => hK22 _ _ ?_
        refine qcf hs ?_
        refine wp_skip ?_
        refine hK21 _ _ ?_
        refine Vk.region ?_
        refine qpk 3 [1, 2, 3, 7, 8, 64, 65, 66, 67, 68, 69, 70, 71, 72, 73, 74, 77, 78, 79, 80, 81, 82, 83, 88] hs fun a hs => ?_
        refine ih (IntKind.i64.wrap (q_18 + 1)) _ _ ⟨hm, hs.go [1, 2, 3, 7, 8] [0, 1] 2 (by kernel_rfl) (by kernel_rfl) (by kernel_rfl)⟩
    ·replace hm := bif_f hm hb
     replace hs := hs.known (t := 63) hb (by kernel_rfl)
     refine qpu 15 hs fun a hs => ?_
     refine qld 0 (ci x0.kind) hs rfl fun a hs => ?_
     refine qpu 1 hs fun a hs => ?_
     obtain ⟨v_43, h_42, hm⟩ := bind_t hm
     refine qcl (visorref17_Regs.ok _ _ _ _ h_42 _ _ (pt b_2 (blk (Tapi_Op.cells x0) 43) :: pt b_14 (blk [ci x0.a, ci x0.b, ci x0.d] 54) :: S) hs.own) hs fun w a hs => ?_
     refine qpu 2 hs fun a hs => ?_
     rcases Bool.eq_false_or_eq_true (decide (q_18 ≥ v_43)) with hb | hb
     ·replace hm := bif_t hm hb
      replace hs := hs.known (t := 83) hb (by kernel_rfl)
      refine qpu 1 hs fun a hs => ?_
      obtain ⟨h_45, hm⟩ := ite_t hm
      refine qix b_14 0 1 hs h_45 fun a hs => ?_
      obtain ⟨v_47, h_46, hm⟩ := bind_t hm
      refine qli 1 hs rfl h_46 fun a hs => ?_
      refine qpk 3 [1, 2, 3, 7, 8, 77, 78, 79, 80, 81, 82, 83, 84, 85, 86, 87, 88, 89] hs fun a hs => hK22 _ _ ?_
      refine qcs (v_47 != (-1)) hs (fun hb => ?_) fun hb => ?_
      ·replace hm := bif_t hm hb
       refine qse 1 [(6, .bool false)] hs fun a hs => ?_
       refine wp_ret ?_
       exact Vk.ret1 (P := Try.prog) (fn := Try.f35) (R := RR) (.bool false) hs rfl (by kernel_rfl) (by obtain rfl := hret17 _ ((Option.some.inj hm).symm); subst hRR; exact ⟨rfl, hs.own.f1.drop.drop⟩)
      ·replace hm := bif_f hm hb
       refine wp_skip ?_
       refine hK21 _ _ ?_
       refine Vk.region ?_
       refine qpk 3 [1, 2, 3, 7, 8, 77, 78, 79, 80, 81, 82, 83, 84, 85, 86, 87, 88] hs fun a hs => ?_
       refine ih (IntKind.i64.wrap (q_18 + 1)) _ _ ⟨hm, hs.go [1, 2, 3, 7, 8] [0, 1] 2 (by kernel_rfl) (by kernel_rfl) (by kernel_rfl)⟩
     ·replace hm := bif_f hm hb
      replace hs := hs.known (t := 83) hb (by kernel_rfl)
      refine qpk 6 [1, 2, 3, 7, 8, 77, 78, 79, 80, 81, 82, 83, 88, 89] hs fun a hs => hK22 _ _ ?_
      refine qcf hs ?_
      refine wp_skip ?_
      refine hK21 _ _ ?_
      refine Vk.region ?_
      refine qpe 3 [(1, vi x1), (2, vi x2), (3, pp b_2), (7, pp b_14), (8, vi (IntKind.i64.wrap (q_18 + 1))), (77, vi q_18), (78, pp b_2), (79, vi x0.kind), (80, vi x2), (81, vi v_43), (82, .bool (decide (q_18 ≥ v_43))), (83, .bool false), (88, .bool false)] hs fun a hs => ?_
      refine ih (IntKind.i64.wrap (q_18 + 1)) _ _ ⟨hm, hs.go [1, 2, 3, 7, 8] [0, 1] 2 (by kernel_rfl) (by kernel_rfl) (by kernel_rfl)⟩
   ·replace hm := bif_f hm hb
    refine wp_exit ?_
    exact hx17 (Option.some.inj hm).symm _ _ (hs.go [3] [0] 2 (by kernel_rfl) (by kernel_rfl) (by kernel_rfl))
 refine Vk.region ?_
 refine qpu 3 hs fun a hs => ?_
 refine qsc 11 3 hs fun a hs => ?_
 refine qpu 1 hs fun a hs => ?_
 suffices hj_6 : ∀ a, St 111 a w κ [(1, vi x1), (2, vi x2), (3, pp b_2), (9, vi x2), (10, .bool (x2 != 2)), (11, .bool (x2 != 2)), (14, .bool ((x2 != 2) && (x2 != 3))), (15, .bool ((x2 != 2) && (x2 != 3))), (19, .bool (((x2 != 2) && (x2 != 3)) || (decide (x0.kind < 1))))] (pt b_2 (blk (Tapi_Op.cells x0) 43) :: S) → wpFrom Try.prog _ _ 11 a w by
  rcases Bool.eq_false_or_eq_true ((x2 != 2) && (x2 != 3)) with hb | hb
  ·replace hs := hs.known (t := 15) hb (by kernel_rfl)
   refine qpu 4 hs fun a hs => ?_
   have hq := hs.pick [1, 2, 3, 9, 10, 11, 14, 15, 19] (L' := [(1, vi x1), (2, vi x2), (3, pp b_2), (9, vi x2), (10, .bool (x2 != 2)), (11, .bool (x2 != 2)), (14, .bool ((x2 != 2) && (x2 != 3))), (15, .bool true), (19, .bool true)]) (by kernel_rfl)
   exact hj_6 _ (hq.conv (by first | (rw [hb] <;> rfl) | rfl))
  ·replace hs := hs.known (t := 15) hb (by kernel_rfl)
   refine qpu 1 hs fun a hs => ?_
   refine qld 0 (ci x0.kind) hs rfl fun a hs => ?_
   refine qpu 2 hs fun a hs => ?_
   have hq := hs.pick [1, 2, 3, 9, 10, 11, 14, 15, 19] (L' := [(1, vi x1), (2, vi x2), (3, pp b_2), (9, vi x2), (10, .bool (x2 != 2)), (11, .bool (x2 != 2)), (14, .bool ((x2 != 2) && (x2 != 3))), (15, .bool false), (19, .bool (decide (x0.kind < 1)))]) (by kernel_rfl)
   exact hj_6 _ (hq.conv (by first | (rw [hb] <;> rfl) | rfl))
 intro a hs
 refine qpu 1 hs fun a hs => ?_
 suffices hj_7 : ∀ a, St 111 a w κ [(1, vi x1), (2, vi x2), (3, pp b_2), (9, vi x2), (10, .bool (x2 != 2)), (11, .bool (x2 != 2)), (14, .bool ((x2 != 2) && (x2 != 3))), (15, .bool ((x2 != 2) && (x2 != 3))), (19, .bool (((x2 != 2) && (x2 != 3)) || (decide (x0.kind < 1)))), (20, .bool (((x2 != 2) && (x2 != 3)) || (decide (x0.kind < 1)))), (24, .bool ((((x2 != 2) && (x2 != 3)) || (decide (x0.kind < 1))) || (decide (x0.kind > 12))))] (pt b_2 (blk (Tapi_Op.cells x0) 43) :: S) → wpFrom Try.prog _ _ 16 a w by
  rcases Bool.eq_false_or_eq_true (((x2 != 2) && (x2 != 3)) || (decide (x0.kind < 1))) with hb | hb
  ·replace hs := hs.known (t := 20) hb (by kernel_rfl)
   refine qpu 4 hs fun a hs => ?_
   have hq := hs.pick [1, 2, 3, 9, 10, 11, 14, 15, 19, 20, 24] (L' := [(1, vi x1), (2, vi x2), (3, pp b_2), (9, vi x2), (10, .bool (x2 != 2)), (11, .bool (x2 != 2)), (14, .bool ((x2 != 2) && (x2 != 3))), (15, .bool ((x2 != 2) && (x2 != 3))), (19, .bool (((x2 != 2) && (x2 != 3)) || (decide (x0.kind < 1)))), (20, .bool true), (24, .bool true)]) (by kernel_rfl)
   exact hj_7 _ (hq.conv (by first | (rw [hb] <;> rfl) | rfl))
  ·replace hs := hs.known (t := 20) hb (by kernel_rfl)
   refine qpu 1 hs fun a hs => ?_
   refine qld 0 (ci x0.kind) hs rfl fun a hs => ?_
   refine qpu 2 hs fun a hs => ?_
   have hq := hs.pick [1, 2, 3, 9, 10, 11, 14, 15, 19, 20, 24] (L' := [(1, vi x1), (2, vi x2), (3, pp b_2), (9, vi x2), (10, .bool (x2 != 2)), (11, .bool (x2 != 2)), (14, .bool ((x2 != 2) && (x2 != 3))), (15, .bool ((x2 != 2) && (x2 != 3))), (19, .bool (((x2 != 2) && (x2 != 3)) || (decide (x0.kind < 1)))), (20, .bool false), (24, .bool (decide (x0.kind > 12)))]) (by kernel_rfl)
   exact hj_7 _ (hq.conv (by first | (rw [hb] <;> rfl) | rfl))
 intro a hs
 refine qpu 1 hs fun a hs => ?_
 suffices hj_8 : ∀ a, St 111 a w κ [(1, vi x1), (2, vi x2), (3, pp b_2), (9, vi x2), (10, .bool (x2 != 2)), (11, .bool (x2 != 2)), (14, .bool ((x2 != 2) && (x2 != 3))), (15, .bool ((x2 != 2) && (x2 != 3))), (19, .bool (((x2 != 2) && (x2 != 3)) || (decide (x0.kind < 1)))), (20, .bool (((x2 != 2) && (x2 != 3)) || (decide (x0.kind < 1)))), (24, .bool ((((x2 != 2) && (x2 != 3)) || (decide (x0.kind < 1))) || (decide (x0.kind > 12)))), (25, .bool ((((x2 != 2) && (x2 != 3)) || (decide (x0.kind < 1))) || (decide (x0.kind > 12)))), (29, .bool (((((x2 != 2) && (x2 != 3)) || (decide (x0.kind < 1))) || (decide (x0.kind > 12))) || (decide (x0.dom < (-1)))))] (pt b_2 (blk (Tapi_Op.cells x0) 43) :: S) → wpFrom Try.prog _ _ 21 a w by
  rcases Bool.eq_false_or_eq_true ((((x2 != 2) && (x2 != 3)) || (decide (x0.kind < 1))) || (decide (x0.kind > 12))) with hb | hb
  ·replace hs := hs.known (t := 25) hb (by kernel_rfl)
   refine qpu 4 hs fun a hs => ?_
   have hq := hs.pick [1, 2, 3, 9, 10, 11, 14, 15, 19, 20, 24, 25, 29] (L' := [(1, vi x1), (2, vi x2), (3, pp b_2), (9, vi x2), (10, .bool (x2 != 2)), (11, .bool (x2 != 2)), (14, .bool ((x2 != 2) && (x2 != 3))), (15, .bool ((x2 != 2) && (x2 != 3))), (19, .bool (((x2 != 2) && (x2 != 3)) || (decide (x0.kind < 1)))), (20, .bool (((x2 != 2) && (x2 != 3)) || (decide (x0.kind < 1)))), (24, .bool ((((x2 != 2) && (x2 != 3)) || (decide (x0.kind < 1))) || (decide (x0.kind > 12)))), (25, .bool true), (29, .bool true)]) (by kernel_rfl)
   exact hj_8 _ (hq.conv (by first | (rw [hb] <;> rfl) | rfl))
  ·replace hs := hs.known (t := 25) hb (by kernel_rfl)
   refine qpu 1 hs fun a hs => ?_
   refine qld 0 (ci x0.dom) hs rfl fun a hs => ?_
   refine qpu 2 hs fun a hs => ?_
   have hq := hs.pick [1, 2, 3, 9, 10, 11, 14, 15, 19, 20, 24, 25, 29] (L' := [(1, vi x1), (2, vi x2), (3, pp b_2), (9, vi x2), (10, .bool (x2 != 2)), (11, .bool (x2 != 2)), (14, .bool ((x2 != 2) && (x2 != 3))), (15, .bool ((x2 != 2) && (x2 != 3))), (19, .bool (((x2 != 2) && (x2 != 3)) || (decide (x0.kind < 1)))), (20, .bool (((x2 != 2) && (x2 != 3)) || (decide (x0.kind < 1)))), (24, .bool ((((x2 != 2) && (x2 != 3)) || (decide (x0.kind < 1))) || (decide (x0.kind > 12)))), (25, .bool false), (29, .bool (decide (x0.dom < (-1))))]) (by kernel_rfl)
   exact hj_8 _ (hq.conv (by first | (rw [hb] <;> rfl) | rfl))
 intro a hs
 refine qpu 1 hs fun a hs => ?_
 suffices hj_9 : ∀ a, St 111 a w κ [(1, vi x1), (2, vi x2), (3, pp b_2), (9, vi x2), (10, .bool (x2 != 2)), (11, .bool (x2 != 2)), (14, .bool ((x2 != 2) && (x2 != 3))), (15, .bool ((x2 != 2) && (x2 != 3))), (19, .bool (((x2 != 2) && (x2 != 3)) || (decide (x0.kind < 1)))), (20, .bool (((x2 != 2) && (x2 != 3)) || (decide (x0.kind < 1)))), (24, .bool ((((x2 != 2) && (x2 != 3)) || (decide (x0.kind < 1))) || (decide (x0.kind > 12)))), (25, .bool ((((x2 != 2) && (x2 != 3)) || (decide (x0.kind < 1))) || (decide (x0.kind > 12)))), (29, .bool (((((x2 != 2) && (x2 != 3)) || (decide (x0.kind < 1))) || (decide (x0.kind > 12))) || (decide (x0.dom < (-1))))), (30, .bool (((((x2 != 2) && (x2 != 3)) || (decide (x0.kind < 1))) || (decide (x0.kind > 12))) || (decide (x0.dom < (-1))))), (35, .bool ((((((x2 != 2) && (x2 != 3)) || (decide (x0.kind < 1))) || (decide (x0.kind > 12))) || (decide (x0.dom < (-1)))) || (decide (x0.dom ≥ x2))))] (pt b_2 (blk (Tapi_Op.cells x0) 43) :: S) → wpFrom Try.prog _ _ 27 a w by
  rcases Bool.eq_false_or_eq_true (((((x2 != 2) && (x2 != 3)) || (decide (x0.kind < 1))) || (decide (x0.kind > 12))) || (decide (x0.dom < (-1)))) with hb | hb
  ·replace hs := hs.known (t := 30) hb (by kernel_rfl)
   refine qpu 5 hs fun a hs => ?_
   have hq := hs.pick [1, 2, 3, 9, 10, 11, 14, 15, 19, 20, 24, 25, 29, 30, 35] (L' := [(1, vi x1), (2, vi x2), (3, pp b_2), (9, vi x2), (10, .bool (x2 != 2)), (11, .bool (x2 != 2)), (14, .bool ((x2 != 2) && (x2 != 3))), (15, .bool ((x2 != 2) && (x2 != 3))), (19, .bool (((x2 != 2) && (x2 != 3)) || (decide (x0.kind < 1)))), (20, .bool (((x2 != 2) && (x2 != 3)) || (decide (x0.kind < 1)))), (24, .bool ((((x2 != 2) && (x2 != 3)) || (decide (x0.kind < 1))) || (decide (x0.kind > 12)))), (25, .bool ((((x2 != 2) && (x2 != 3)) || (decide (x0.kind < 1))) || (decide (x0.kind > 12)))), (29, .bool (((((x2 != 2) && (x2 != 3)) || (decide (x0.kind < 1))) || (decide (x0.kind > 12))) || (decide (x0.dom < (-1))))), (30, .bool true), (35, .bool true)]) (by kernel_rfl)
   exact hj_9 _ (hq.conv (by first | (rw [hb] <;> rfl) | rfl))
  ·replace hs := hs.known (t := 30) hb (by kernel_rfl)
   refine qpu 1 hs fun a hs => ?_
   refine qld 0 (ci x0.dom) hs rfl fun a hs => ?_
   refine qpu 3 hs fun a hs => ?_
   have hq := hs.pick [1, 2, 3, 9, 10, 11, 14, 15, 19, 20, 24, 25, 29, 30, 35] (L' := [(1, vi x1), (2, vi x2), (3, pp b_2), (9, vi x2), (10, .bool (x2 != 2)), (11, .bool (x2 != 2)), (14, .bool ((x2 != 2) && (x2 != 3))), (15, .bool ((x2 != 2) && (x2 != 3))), (19, .bool (((x2 != 2) && (x2 != 3)) || (decide (x0.kind < 1)))), (20, .bool (((x2 != 2) && (x2 != 3)) || (decide (x0.kind < 1)))), (24, .bool ((((x2 != 2) && (x2 != 3)) || (decide (x0.kind < 1))) || (decide (x0.kind > 12)))), (25, .bool ((((x2 != 2) && (x2 != 3)) || (decide (x0.kind < 1))) || (decide (x0.kind > 12)))), (29, .bool (((((x2 != 2) && (x2 != 3)) || (decide (x0.kind < 1))) || (decide (x0.kind > 12))) || (decide (x0.dom < (-1))))), (30, .bool false), (35, .bool (decide (x0.dom ≥ x2)))]) (by kernel_rfl)
   exact hj_9 _ (hq.conv (by first | (rw [hb] <;> rfl) | rfl))
 intro a hs
 refine qpu 1 hs fun a hs => ?_
 rcases Bool.eq_false_or_eq_true ((((((x2 != 2) && (x2 != 3)) || (decide (x0.kind < 1))) || (decide (x0.kind > 12))) || (decide (x0.dom < (-1)))) || (decide (x0.dom ≥ x2))) with hb | hb
 ·replace hm := bif_t hm hb
  replace hs := hs.known (t := 36) hb (by kernel_rfl)
  refine qpe 9 [(1, vi x1), (2, vi x2), (3, pp b_2), (45, .bool true)] hs fun a hs => ?_
  exact hj4 true hm _ _ (hs.go [1, 2, 3, 45] [0] 1 (by kernel_rfl) (by kernel_rfl) (by kernel_rfl))
 ·replace hm := bif_f hm hb
  replace hs := hs.known (t := 36) hb (by kernel_rfl)
  refine qpu 1 hs fun a hs => ?_
  refine qld 0 (ci x0.kind) hs rfl fun a hs => ?_
  refine qpu 2 hs fun a hs => ?_
  suffices hj_10 : ∀ a, St 111 a w κ [(1, vi x1), (2, vi x2), (3, pp b_2), (9, vi x2), (10, .bool (x2 != 2)), (11, .bool (x2 != 2)), (14, .bool ((x2 != 2) && (x2 != 3))), (15, .bool ((x2 != 2) && (x2 != 3))), (19, .bool (((x2 != 2) && (x2 != 3)) || (decide (x0.kind < 1)))), (20, .bool (((x2 != 2) && (x2 != 3)) || (decide (x0.kind < 1)))), (24, .bool ((((x2 != 2) && (x2 != 3)) || (decide (x0.kind < 1))) || (decide (x0.kind > 12)))), (25, .bool ((((x2 != 2) && (x2 != 3)) || (decide (x0.kind < 1))) || (decide (x0.kind > 12)))), (29, .bool (((((x2 != 2) && (x2 != 3)) || (decide (x0.kind < 1))) || (decide (x0.kind > 12))) || (decide (x0.dom < (-1))))), (30, .bool (((((x2 != 2) && (x2 != 3)) || (decide (x0.kind < 1))) || (decide (x0.kind > 12))) || (decide (x0.dom < (-1))))), (35, .bool ((((((x2 != 2) && (x2 != 3)) || (decide (x0.kind < 1))) || (decide (x0.kind > 12))) || (decide (x0.dom < (-1)))) || (decide (x0.dom ≥ x2)))), (36, .bool false), (37, pp b_2), (38, vi x0.kind), (39, .bool (x0.kind == 12)), (40, .bool (x0.kind == 12)), (44, .bool ((x0.kind == 12) && (x0.dom != (-1))))] (pt b_2 (blk (Tapi_Op.cells x0) 43) :: S) → wpFrom Try.prog _ _ 36 a w by
   rcases Bool.eq_false_or_eq_true (x0.kind == 12) with hb | hb
   ·replace hs := hs.known (t := 40) hb (by kernel_rfl)
    refine qpu 1 hs fun a hs => ?_
    refine qld 0 (ci x0.dom) hs rfl fun a hs => ?_
    refine qpu 2 hs fun a hs => ?_
    have hq := hs.pick [1, 2, 3, 9, 10, 11, 14, 15, 19, 20, 24, 25, 29, 30, 35, 36, 37, 38, 39, 40, 44] (L' := [(1, vi x1), (2, vi x2), (3, pp b_2), (9, vi x2), (10, .bool (x2 != 2)), (11, .bool (x2 != 2)), (14, .bool ((x2 != 2) && (x2 != 3))), (15, .bool ((x2 != 2) && (x2 != 3))), (19, .bool (((x2 != 2) && (x2 != 3)) || (decide (x0.kind < 1)))), (20, .bool (((x2 != 2) && (x2 != 3)) || (decide (x0.kind < 1)))), (24, .bool ((((x2 != 2) && (x2 != 3)) || (decide (x0.kind < 1))) || (decide (x0.kind > 12)))), (25, .bool ((((x2 != 2) && (x2 != 3)) || (decide (x0.kind < 1))) || (decide (x0.kind > 12)))), (29, .bool (((((x2 != 2) && (x2 != 3)) || (decide (x0.kind < 1))) || (decide (x0.kind > 12))) || (decide (x0.dom < (-1))))), (30, .bool (((((x2 != 2) && (x2 != 3)) || (decide (x0.kind < 1))) || (decide (x0.kind > 12))) || (decide (x0.dom < (-1))))), (35, .bool ((((((x2 != 2) && (x2 != 3)) || (decide (x0.kind < 1))) || (decide (x0.kind > 12))) || (decide (x0.dom < (-1)))) || (decide (x0.dom ≥ x2)))), (36, .bool false), (37, pp b_2), (38, vi x0.kind), (39, .bool (x0.kind == 12)), (40, .bool true), (44, .bool (x0.dom != (-1)))]) (by kernel_rfl)
    exact hj_10 _ (hq.conv (by first | (rw [hb] <;> rfl) | rfl))
   ·replace hs := hs.known (t := 40) hb (by kernel_rfl)
    refine qpu 4 hs fun a hs => ?_
    have hq := hs.pick [1, 2, 3, 9, 10, 11, 14, 15, 19, 20, 24, 25, 29, 30, 35, 36, 37, 38, 39, 40, 44] (L' := [(1, vi x1), (2, vi x2), (3, pp b_2), (9, vi x2), (10, .bool (x2 != 2)), (11, .bool (x2 != 2)), (14, .bool ((x2 != 2) && (x2 != 3))), (15, .bool ((x2 != 2) && (x2 != 3))), (19, .bool (((x2 != 2) && (x2 != 3)) || (decide (x0.kind < 1)))), (20, .bool (((x2 != 2) && (x2 != 3)) || (decide (x0.kind < 1)))), (24, .bool ((((x2 != 2) && (x2 != 3)) || (decide (x0.kind < 1))) || (decide (x0.kind > 12)))), (25, .bool ((((x2 != 2) && (x2 != 3)) || (decide (x0.kind < 1))) || (decide (x0.kind > 12)))), (29, .bool (((((x2 != 2) && (x2 != 3)) || (decide (x0.kind < 1))) || (decide (x0.kind > 12))) || (decide (x0.dom < (-1))))), (30, .bool (((((x2 != 2) && (x2 != 3)) || (decide (x0.kind < 1))) || (decide (x0.kind > 12))) || (decide (x0.dom < (-1))))), (35, .bool ((((((x2 != 2) && (x2 != 3)) || (decide (x0.kind < 1))) || (decide (x0.kind > 12))) || (decide (x0.dom < (-1)))) || (decide (x0.dom ≥ x2)))), (36, .bool false), (37, pp b_2), (38, vi x0.kind), (39, .bool (x0.kind == 12)), (40, .bool false), (44, .bool false)]) (by kernel_rfl)
    exact hj_10 _ (hq.conv (by first | (rw [hb] <;> rfl) | rfl))
  intro a hs
  refine qpe 1 [(1, vi x1), (2, vi x2), (3, pp b_2), (45, .bool ((x0.kind == 12) && (x0.dom != (-1))))] hs fun a hs => ?_
  exact hj4 ((x0.kind == 12) && (x0.dom != (-1))) hm _ _ (hs.go [1, 2, 3, 45] [0] 1 (by kernel_rfl) (by kernel_rfl) (by kernel_rfl))


def visorref18_Right.l2 (x0 : Tapi_Trace) : Nat → Int → Int → Option (Sum (Bool) (Unit))
 | 0, _, _ => none
 | k + 1, q_56, q_57 => (bif decide (q_57 < ((x0.blocks.length : Nat) : Int)) then (if 0 ≤ q_57 then (x0.blocks[q_57.toNat]?).bind fun e_65 => (bif ((((decide (e_65.kind < 1)) || (decide (e_65.kind > 3))) || (decide (e_65.fromF < q_56))) || (decide (e_65.to ≤ e_65.fromF))) || (decide (e_65.to > ((x0.ops.length : Nat) : Int))) then some (.inl false) else visorref18_Right.l2 x0 k e_65.to (IntKind.i64.wrap (q_57 + 1))) else none) else some (.inr ()))
def visorref18_Right.j1 (k : Nat) (rec11 : Int → Int → Option (Sum (Bool) (Unit))) (q_13 : Int) (p_49 : Int) : Option (Sum (Bool) (Unit)) := rec11 p_49 (IntKind.i64.wrap (q_13 + 1))
def visorref18_Right.l1 (x0 : Tapi_Trace) : Nat → Int → Int → Option (Sum (Bool) (Unit))
 | 0, _, _ => none
 | k + 1, q_12, q_13 => (bif decide (q_13 < ((x0.ops.length : Nat) : Int)) then (if 0 ≤ q_13 then (x0.ops[q_13.toNat]?).bind fun e_23 => (visorref17_Right.m k e_23 q_13 x0.n).bind fun v_29 => (bif !v_29 then some (.inl false) else (if 0 ≤ q_13 then (x0.ops[q_13.toNat]?).bind fun e_35 => (bif e_35.kind == 2 then (if 0 ≤ q_13 then (x0.ops[q_13.toNat]?).bind fun e_44 => (bif e_44.c != q_12 then some (.inl false) else visorref18_Right.j1 k (visorref18_Right.l1 x0 k) q_13 (IntKind.u64.wrap (q_12 + 1))) else none) else visorref18_Right.j1 k (visorref18_Right.l1 x0 k) q_13 q_12) else none)) else none) else some (.inr ()))
abbrev visorref18_Right.R (κ : Ctx) (S : List HP) (x0 : Tapi_Trace) (A_x0ops : Option Addr) (c_x0ops : Nat) (A_x0blocks : Option Addr) (c_x0blocks : Nat) (r : Bool) : Ending → World → Prop := fun e w' => e = .returned (.bool r) ∧ Ow κ w' (S)
def visorref18_Right.m (k : Nat) (x0 : Tapi_Trace) : Option Bool := (bif ((x0.n != 2) && (x0.n != 3)) || (decide (((x0.ops.length : Nat) : Int) > 1048576)) then some false else (visorref18_Right.l1 x0 k 0 0).bind fun x => match x with | .inl v => some v | .inr () => (visorref18_Right.l2 x0 k 0 0).bind fun x => match x with | .inl v => some v | .inr () => some true)

set_option maxRecDepth 100000 in
set_option maxHeartbeats 4000000 in
theorem visorref18_Right.ok (k : Nat) (x0 : Tapi_Trace) (r : Bool) (hm : visorref18_Right.m k x0 = some r) (κ : Ctx) (w : World) (S : List HP) (A_x0ops : Option Addr) (c_x0ops : Nat) (hx_x0ops : Sl κ S A_x0ops c_x0ops 6 Tapi_Op.cells x0.ops) (A_x0blocks : Option Addr) (c_x0blocks : Nat) (hx_x0blocks : Sl κ S A_x0blocks c_x0blocks 3 Tapi_Span.cells x0.blocks) (ho : Ow κ w (S)) :
  Calls Try.prog 9 #[.agg (vals [ci x0.n, C.slc A_x0ops x0.ops.length c_x0ops, C.slc A_x0blocks x0.blocks.length c_x0blocks])] w (visorref18_Right.R κ S x0 A_x0ops c_x0ops A_x0blocks c_x0blocks r) := by
 unfold visorref18_Right.m at hm
 generalize hRR : visorref18_Right.R κ S x0 A_x0ops c_x0ops A_x0blocks c_x0blocks r = RR
 refine qen [(0, .agg (vals [ci x0.n, C.slc A_x0ops x0.ops.length c_x0ops, C.slc A_x0blocks x0.blocks.length c_x0blocks]))] Try.func9 Try.ntmps9 ho fun a hs => ?_
 refine qsr fun K1 hK1 => ?_
 refine qbx 0 35 [ci x0.n, C.slc A_x0ops x0.ops.length c_x0ops, C.slc A_x0blocks x0.blocks.length c_x0blocks] 1 hs fun b_2 w a hs => ?_
 refine qpe 1 [(1, pp b_2)] hs fun a hs => hK1 _ _ ?_
 clear hK1
 refine Vk.seq fun K3 hK3 => ?_
 refine qsr fun K4 hK4 => ?_
 refine qpu 1 hs fun a hs => ?_
 refine qld 0 (ci x0.n) hs rfl fun a hs => ?_
 refine qpu 2 hs fun a hs => ?_
 suffices hj_5 : ∀ a, St 99 a w κ [(1, pp b_2), (8, pp b_2), (9, vi x0.n), (10, .bool (x0.n != 2)), (11, .bool (x0.n != 2)), (15, .bool ((x0.n != 2) && (x0.n != 3)))] (pt b_2 (blk (Tapi_Trace.obj x0 A_x0ops c_x0ops A_x0blocks c_x0blocks) 35) :: S) → wpFrom Try.prog _ _ 8 a w by
  rcases Bool.eq_false_or_eq_true (x0.n != 2) with hb | hb
  ·replace hs := hs.known (t := 11) hb (by kernel_rfl)
   refine qpu 1 hs fun a hs => ?_
   refine qld 0 (ci x0.n) hs rfl fun a hs => ?_
   refine qpu 2 hs fun a hs => ?_
   have hq := hs.pick [1, 8, 9, 10, 11, 15] (L' := [(1, pp b_2), (8, pp b_2), (9, vi x0.n), (10, .bool (x0.n != 2)), (11, .bool true), (15, .bool (x0.n != 3))]) (by kernel_rfl)
   exact hj_5 _ (hq.conv (by first | (rw [hb] <;> rfl) | rfl))
  ·replace hs := hs.known (t := 11) hb (by kernel_rfl)
   refine qpu 4 hs fun a hs => ?_
   have hq := hs.pick [1, 8, 9, 10, 11, 15] (L' := [(1, pp b_2), (8, pp b_2), (9, vi x0.n), (10, .bool (x0.n != 2)), (11, .bool false), (15, .bool false)]) (by kernel_rfl)
   exact hj_5 _ (hq.conv (by first | (rw [hb] <;> rfl) | rfl))
 intro a hs
 refine qpu 1 hs fun a hs => ?_
 suffices hj_6 : ∀ a, St 99 a w κ [(1, pp b_2), (8, pp b_2), (9, vi x0.n), (10, .bool (x0.n != 2)), (11, .bool (x0.n != 2)), (15, .bool ((x0.n != 2) && (x0.n != 3))), (16, .bool ((x0.n != 2) && (x0.n != 3))), (21, .bool (((x0.n != 2) && (x0.n != 3)) || (decide (((x0.ops.length : Nat) : Int) > 1048576))))] (pt b_2 (blk (Tapi_Trace.obj x0 A_x0ops c_x0ops A_x0blocks c_x0blocks) 35) :: S) → wpFrom Try.prog _ _ 14 a w by
  rcases Bool.eq_false_or_eq_true ((x0.n != 2) && (x0.n != 3)) with hb | hb
  ·replace hs := hs.known (t := 16) hb (by kernel_rfl)
   refine qpu 5 hs fun a hs => ?_
   have hq := hs.pick [1, 8, 9, 10, 11, 15, 16, 21] (L' := [(1, pp b_2), (8, pp b_2), (9, vi x0.n), (10, .bool (x0.n != 2)), (11, .bool (x0.n != 2)), (15, .bool ((x0.n != 2) && (x0.n != 3))), (16, .bool true), (21, .bool true)]) (by kernel_rfl)
   exact hj_6 _ (hq.conv (by first | (rw [hb] <;> rfl) | rfl))
  ·replace hs := hs.known (t := 16) hb (by kernel_rfl)
   refine qpu 1 hs fun a hs => ?_
   refine qld 0 (C.slc A_x0ops x0.ops.length c_x0ops) hs rfl fun a hs => ?_
   refine qpu 3 hs fun a hs => ?_
   have hq := hs.pick [1, 8, 9, 10, 11, 15, 16, 21] (L' := [(1, pp b_2), (8, pp b_2), (9, vi x0.n), (10, .bool (x0.n != 2)), (11, .bool (x0.n != 2)), (15, .bool ((x0.n != 2) && (x0.n != 3))), (16, .bool false), (21, .bool (decide (((x0.ops.length : Nat) : Int) > 1048576)))]) (by kernel_rfl)
   exact hj_6 _ (hq.conv (by first | (rw [hb] <;> rfl) | rfl))
 intro a hs
 refine qpk 0 [1, 21] hs fun a hs => hK4 _ _ ?_
 clear hK4
 refine qcs (((x0.n != 2) && (x0.n != 3)) || (decide (((x0.ops.length : Nat) : Int) > 1048576))) hs (fun hb => ?_) fun hb => ?_
 ·replace hm := bif_t hm hb
  refine qse 1 [(2, .bool false)] hs fun a hs => ?_
  refine wp_ret ?_
  exact qr1 (.bool false) hs rfl hRR (by cases hm; exact ⟨rfl, hs.own.drop⟩)
 ·replace hm := bif_f hm hb
  refine wp_skip ?_
  refine hK3 _ _ ?_
  clear hK3
  refine qse 1 [(1, pp b_2), (3, vw 0)] hs fun a hs => ?_
  refine Vk.seq fun K9 hK9 => ?_
  refine qsk 1 [1, 3, 4] hs fun a hs => ?_
  refine wp_block ?_
  obtain ⟨r11, hl11, hm⟩ := bind_t hm
  have hx11 : r11 = Sum.inr () → ∀ (a : Act) (w : World), St 99 a w κ [(1, pp b_2)] (pt b_2 (blk (Tapi_Trace.obj x0 A_x0ops c_x0ops A_x0blocks c_x0blocks) 35) :: S) → K9 a w := by
   intro he a w hs
   subst r11
   refine hK9 _ _ ?_
   clear hK9
   refine qse 1 [(1, pp b_2), (5, vi 0)] hs fun a hs => ?_
   refine Vk.seq fun K53 hK53 => ?_
   refine qsk 1 [1, 5, 6] hs fun a hs => ?_
   refine wp_block ?_
   obtain ⟨r55, hl55, hm⟩ := bind_t hm
   have hx55 : r55 = Sum.inr () → ∀ (a : Act) (w : World), St 99 a w κ [] (S) → K53 a w := by
    intro he a w hs
    subst r55
    refine hK53 _ _ ?_
    clear hK53
    refine qse 1 [(2, .bool true)] hs fun a hs => ?_
    refine wp_ret ?_
    exact qr1 (.bool true) hs rfl hRR (by cases hm; exact ⟨rfl, hs.own⟩)
   have hret55 : ∀ v, r55 = Sum.inl v → v = r := by intro v he; subst r55; exact Option.some.inj hm
   refine Vk.loopBy (fun k (s : Int × Int) a w => visorref18_Right.l2 x0 k s.1 s.2 = some r55 ∧ St 99 a w κ [(1, pp b_2), (5, vi s.1), (6, vi s.2)] (pt b_2 (blk (Tapi_Trace.obj x0 A_x0ops c_x0ops A_x0blocks c_x0blocks) 35) :: S)) k (0, 0) ⟨hl55, hs.go [1, 5, 6] [0] 1 (by kernel_rfl) (by kernel_rfl) (by kernel_rfl)⟩ (fun s a w h => by obtain ⟨h1, _⟩ := h; simp [visorref18_Right.l2] at h1) (fun k KL55 ih s a w h => ?_)
   obtain ⟨q_56, q_57⟩ := s
   obtain ⟨hm, hs⟩ := h
   try dsimp only at hm hs
   rw [visorref18_Right.l2] at hm
   refine Vk.seq fun K58 hK58 => ?_
   refine qsr fun K59 hK59 => ?_
   refine qpu 2 hs fun a hs => ?_
   refine qld 0 (C.slc A_x0blocks x0.blocks.length c_x0blocks) hs rfl fun a hs => ?_
   refine qpk 2 [1, 5, 6, 60] hs fun a hs => hK59 _ _ ?_
   clear hK59
   refine qcs (decide (q_57 < ((x0.blocks.length : Nat) : Int))) hs (fun hb => ?_) fun hb => ?_
   ·replace hm := bif_t hm hb
    refine wp_skip ?_
    refine hK58 _ _ ?_
    clear hK58
    refine Vk.seq fun K60 hK60 => ?_
    refine wp_block ?_
    refine qsr fun K61 hK61 => ?_
    refine qpu 1 hs fun a hs => ?_
    refine qld 0 (C.slc A_x0blocks x0.blocks.length c_x0blocks) hs rfl fun a hs => ?_
    refine qpu 1 hs fun a hs => ?_
    obtain ⟨h_62, hm⟩ := ite_t hm
    obtain ⟨e_65, h_63, hm⟩ := bind_t hm
    obtain ⟨b_66, o_67, hA_68, h_64⟩ := Sl.elem hx_x0blocks h_63
    refine qva (.pointer (some ⟨b_66, o_67 + q_57.toNat * 3, none⟩)) (op := (.indexAddr 33 (.tmp 64) (.tmp 65))) hs (fun o ho => run_idxSlc (k := .i64) ho (cap := c_x0blocks) (len := x0.blocks.length) ((congrArg (fun A => Value.slice A (x0.blocks.length) (c_x0blocks)) hA_68) ▸ (by kernel_rfl)) (by kernel_rfl) (by kernel_rfl) (idx_ok h_62 h_63) _) fun a hs => ?_
    refine qva (.agg (vals [ci e_65.kind, ci e_65.fromF, ci e_65.to])) (op := (.load 73 (.tmp 66))) hs (fun o ho => run_loadN (cs := [ci e_65.kind, ci e_65.fromF, ci e_65.to]) ho (by kernel_rfl) (by kernel_rfl) rfl h_64 _ hs.own.drop) fun a hs => ?_
    refine qal 73 [ci 0, ci 0, ci 0] 7 hs fun b_69 w a hs => ?_
    refine qsa 0 [ci e_65.kind, ci e_65.fromF, ci e_65.to] hs rfl fun a w hs => ?_
    refine qpe 0 [(1, pp b_2), (5, vi q_56), (6, vi q_57), (7, pp b_69)] hs fun a hs => hK61 _ _ ?_
    clear hK61
    refine Vk.seq fun K70 hK70 => ?_
    refine qsr fun K71 hK71 => ?_
    refine qpu 1 hs fun a hs => ?_
    refine qld 0 (ci e_65.kind) hs rfl fun a hs => ?_
    refine qpu 2 hs fun a hs => ?_
    suffices hj_72 : ∀ a, St 99 a w κ [(1, pp b_2), (5, vi q_56), (6, vi q_57), (7, pp b_69), (68, pp b_69), (69, vi e_65.kind), (70, .bool (decide (e_65.kind < 1))), (71, .bool (decide (e_65.kind < 1))), (75, .bool ((decide (e_65.kind < 1)) || (decide (e_65.kind > 3))))] (pt b_69 (blk (Tapi_Span.cells e_65) 73) :: pt b_2 (blk (Tapi_Trace.obj x0 A_x0ops c_x0ops A_x0blocks c_x0blocks) 35) :: S) → wpFrom Try.prog _ _ 8 a w by
     rcases Bool.eq_false_or_eq_true (decide (e_65.kind < 1)) with hb | hb
     ·replace hs := hs.known (t := 71) hb (by kernel_rfl)
      refine qpu 4 hs fun a hs => ?_
      have hq := hs.pick [1, 5, 6, 7, 68, 69, 70, 71, 75] (L' := [(1, pp b_2), (5, vi q_56), (6, vi q_57), (7, pp b_69), (68, pp b_69), (69, vi e_65.kind), (70, .bool (decide (e_65.kind < 1))), (71, .bool true), (75, .bool true)]) (by kernel_rfl)
      exact hj_72 _ (hq.conv (by first | (rw [hb] <;> rfl) | rfl))
     ·replace hs := hs.known (t := 71) hb (by kernel_rfl)
      refine qpu 1 hs fun a hs => ?_
      refine qld 0 (ci e_65.kind) hs rfl fun a hs => ?_
      refine qpu 2 hs fun a hs => ?_
      have hq := hs.pick [1, 5, 6, 7, 68, 69, 70, 71, 75] (L' := [(1, pp b_2), (5, vi q_56), (6, vi q_57), (7, pp b_69), (68, pp b_69), (69, vi e_65.kind), (70, .bool (decide (e_65.kind < 1))), (71, .bool false), (75, .bool (decide (e_65.kind > 3)))]) (by kernel_rfl)
      exact hj_72 _ (hq.conv (by first | (rw [hb] <;> rfl) | rfl))
    intro a hs
    refine qpu 1 hs fun a hs => ?_
    suffices hj_73 : ∀ a, St 99 a w κ [(1, pp b_2), (5, vi q_56), (6, vi q_57), (7, pp b_69), (68, pp b_69), (69, vi e_65.kind), (70, .bool (decide (e_65.kind < 1))), (71, .bool (decide (e_65.kind < 1))), (75, .bool ((decide (e_65.kind < 1)) || (decide (e_65.kind > 3)))), (76, .bool ((decide (e_65.kind < 1)) || (decide (e_65.kind > 3)))), (81, .bool (((decide (e_65.kind < 1)) || (decide (e_65.kind > 3))) || (decide (e_65.fromF < q_56))))] (pt b_69 (blk (Tapi_Span.cells e_65) 73) :: pt b_2 (blk (Tapi_Trace.obj x0 A_x0ops c_x0ops A_x0blocks c_x0blocks) 35) :: S) → wpFrom Try.prog _ _ 14 a w by
     rcases Bool.eq_false_or_eq_true ((decide (e_65.kind < 1)) || (decide (e_65.kind > 3))) with hb | hb
     ·replace hs := hs.known (t := 76) hb (by kernel_rfl)
      refine qpu 5 hs fun a hs => ?_
      have hq := hs.pick [1, 5, 6, 7, 68, 69, 70, 71, 75, 76, 81] (L' := [(1, pp b_2), (5, vi q_56), (6, vi q_57), (7, pp b_69), (68, pp b_69), (69, vi e_65.kind), (70, .bool (decide (e_65.kind < 1))), (71, .bool (decide (e_65.kind < 1))), (75, .bool ((decide (e_65.kind < 1)) || (decide (e_65.kind > 3)))), (76, .bool true), (81, .bool true)]) (by kernel_rfl)
      exact hj_73 _ (hq.conv (by first | (rw [hb] <;> rfl) | rfl))
     ·replace hs := hs.known (t := 76) hb (by kernel_rfl)
      refine qpu 1 hs fun a hs => ?_
      refine qld 0 (ci e_65.fromF) hs rfl fun a hs => ?_
      refine qpu 3 hs fun a hs => ?_
      have hq := hs.pick [1, 5, 6, 7, 68, 69, 70, 71, 75, 76, 81] (L' := [(1, pp b_2), (5, vi q_56), (6, vi q_57), (7, pp b_69), (68, pp b_69), (69, vi e_65.kind), (70, .bool (decide (e_65.kind < 1))), (71, .bool (decide (e_65.kind < 1))), (75, .bool ((decide (e_65.kind < 1)) || (decide (e_65.kind > 3)))), (76, .bool false), (81, .bool (decide (e_65.fromF < q_56)))]) (by kernel_rfl)
      exact hj_73 _ (hq.conv (by first | (rw [hb] <;> rfl) | rfl))
    intro a hs
    refine qpu 1 hs fun a hs => ?_
    suffices hj_74 : ∀ a, St 99 a w κ [(1, pp b_2), (5, vi q_56), (6, vi q_57), (7, pp b_69), (68, pp b_69), (69, vi e_65.kind), (70, .bool (decide (e_65.kind < 1))), (71, .bool (decide (e_65.kind < 1))), (75, .bool ((decide (e_65.kind < 1)) || (decide (e_65.kind > 3)))), (76, .bool ((decide (e_65.kind < 1)) || (decide (e_65.kind > 3)))), (81, .bool (((decide (e_65.kind < 1)) || (decide (e_65.kind > 3))) || (decide (e_65.fromF < q_56)))), (82, .bool (((decide (e_65.kind < 1)) || (decide (e_65.kind > 3))) || (decide (e_65.fromF < q_56)))), (88, .bool ((((decide (e_65.kind < 1)) || (decide (e_65.kind > 3))) || (decide (e_65.fromF < q_56))) || (decide (e_65.to ≤ e_65.fromF))))] (pt b_69 (blk (Tapi_Span.cells e_65) 73) :: pt b_2 (blk (Tapi_Trace.obj x0 A_x0ops c_x0ops A_x0blocks c_x0blocks) 35) :: S) → wpFrom Try.prog _ _ 21 a w by
     rcases Bool.eq_false_or_eq_true (((decide (e_65.kind < 1)) || (decide (e_65.kind > 3))) || (decide (e_65.fromF < q_56))) with hb | hb
     ·replace hs := hs.known (t := 82) hb (by kernel_rfl)
      refine qpu 6 hs fun a hs => ?_
      have hq := hs.pick [1, 5, 6, 7, 68, 69, 70, 71, 75, 76, 81, 82, 88] (L' := [(1, pp b_2), (5, vi q_56), (6, vi q_57), (7, pp b_69), (68, pp b_69), (69, vi e_65.kind), (70, .bool (decide (e_65.kind < 1))), (71, .bool (decide (e_65.kind < 1))), (75, .bool ((decide (e_65.kind < 1)) || (decide (e_65.kind > 3)))), (76, .bool ((decide (e_65.kind < 1)) || (decide (e_65.kind > 3)))), (81, .bool (((decide (e_65.kind < 1)) || (decide (e_65.kind > 3))) || (decide (e_65.fromF < q_56)))), (82, .bool true), (88, .bool true)]) (by kernel_rfl)
      exact hj_74 _ (hq.conv (by first | (rw [hb] <;> rfl) | rfl))
     ·replace hs := hs.known (t := 82) hb (by kernel_rfl)
      refine qpu 1 hs fun a hs => ?_
      refine qld 0 (ci e_65.to) hs rfl fun a hs => ?_
      refine qpu 1 hs fun a hs => ?_
      refine qld 0 (ci e_65.fromF) hs rfl fun a hs => ?_
      refine qpu 2 hs fun a hs => ?_
      have hq := hs.pick [1, 5, 6, 7, 68, 69, 70, 71, 75, 76, 81, 82, 88] (L' := [(1, pp b_2), (5, vi q_56), (6, vi q_57), (7, pp b_69), (68, pp b_69), (69, vi e_65.kind), (70, .bool (decide (e_65.kind < 1))), (71, .bool (decide (e_65.kind < 1))), (75, .bool ((decide (e_65.kind < 1)) || (decide (e_65.kind > 3)))), (76, .bool ((decide (e_65.kind < 1)) || (decide (e_65.kind > 3)))), (81, .bool (((decide (e_65.kind < 1)) || (decide (e_65.kind > 3))) || (decide (e_65.fromF < q_56)))), (82, .bool false), (88, .bool (decide (e_65.to ≤ e_65.fromF)))]) (by kernel_rfl)
      exact hj_74 _ (hq.conv (by first | (rw [hb] <;> rfl) | rfl))
    intro a hs
    refine qpu 1 hs fun a hs => ?_
    suffices hj_75 : ∀ a, St 99 a w κ [(1, pp b_2), (5, vi q_56), (6, vi q_57), (7, pp b_69), (68, pp b_69), (69, vi e_65.kind), (70, .bool (decide (e_65.kind < 1))), (71, .bool (decide (e_65.kind < 1))), (75, .bool ((decide (e_65.kind < 1)) || (decide (e_65.kind > 3)))), (76, .bool ((decide (e_65.kind < 1)) || (decide (e_65.kind > 3)))), (81, .bool (((decide (e_65.kind < 1)) || (decide (e_65.kind > 3))) || (decide (e_65.fromF < q_56)))), (82, .bool (((decide (e_65.kind < 1)) || (decide (e_65.kind > 3))) || (decide (e_65.fromF < q_56)))), (88, .bool ((((decide (e_65.kind < 1)) || (decide (e_65.kind > 3))) || (decide (e_65.fromF < q_56))) || (decide (e_65.to ≤ e_65.fromF)))), (89, .bool ((((decide (e_65.kind < 1)) || (decide (e_65.kind > 3))) || (decide (e_65.fromF < q_56))) || (decide (e_65.to ≤ e_65.fromF)))), (96, .bool (((((decide (e_65.kind < 1)) || (decide (e_65.kind > 3))) || (decide (e_65.fromF < q_56))) || (decide (e_65.to ≤ e_65.fromF))) || (decide (e_65.to > ((x0.ops.length : Nat) : Int)))))] (pt b_69 (blk (Tapi_Span.cells e_65) 73) :: pt b_2 (blk (Tapi_Trace.obj x0 A_x0ops c_x0ops A_x0blocks c_x0blocks) 35) :: S) → wpFrom Try.prog _ _ 29 a w by
     rcases Bool.eq_false_or_eq_true ((((decide (e_65.kind < 1)) || (decide (e_65.kind > 3))) || (decide (e_65.fromF < q_56))) || (decide (e_65.to ≤ e_65.fromF))) with hb | hb
     ·replace hs := hs.known (t := 89) hb (by kernel_rfl)
      refine qpu 7 hs fun a hs => ?_
      have hq := hs.pick [1, 5, 6, 7, 68, 69, 70, 71, 75, 76, 81, 82, 88, 89, 96] (L' := [(1, pp b_2), (5, vi q_56), (6, vi q_57), (7, pp b_69), (68, pp b_69), (69, vi e_65.kind), (70, .bool (decide (e_65.kind < 1))), (71, .bool (decide (e_65.kind < 1))), (75, .bool ((decide (e_65.kind < 1)) || (decide (e_65.kind > 3)))), (76, .bool ((decide (e_65.kind < 1)) || (decide (e_65.kind > 3)))), (81, .bool (((decide (e_65.kind < 1)) || (decide (e_65.kind > 3))) || (decide (e_65.fromF < q_56)))), (82, .bool (((decide (e_65.kind < 1)) || (decide (e_65.kind > 3))) || (decide (e_65.fromF < q_56)))), (88, .bool ((((decide (e_65.kind < 1)) || (decide (e_65.kind > 3))) || (decide (e_65.fromF < q_56))) || (decide (e_65.to ≤ e_65.fromF)))), (89, .bool true), (96, .bool true)]) (by kernel_rfl)
      exact hj_75 _ (hq.conv (by first | (rw [hb] <;> rfl) | rfl))
     ·replace hs := hs.known (t := 89) hb (by kernel_rfl)
      refine qpu 1 hs fun a hs => ?_
      refine qld 0 (ci e_65.to) hs rfl fun a hs => ?_
      refine qpu 1 hs fun a hs => ?_
      refine qld 1 (C.slc A_x0ops x0.ops.length c_x0ops) hs rfl fun a hs => ?_
      refine qpu 3 hs fun a hs => ?_
      have hq := hs.pick [1, 5, 6, 7, 68, 69, 70, 71, 75, 76, 81, 82, 88, 89, 96] (L' := [(1, pp b_2), (5, vi q_56), (6, vi q_57), (7, pp b_69), (68, pp b_69), (69, vi e_65.kind), (70, .bool (decide (e_65.kind < 1))), (71, .bool (decide (e_65.kind < 1))), (75, .bool ((decide (e_65.kind < 1)) || (decide (e_65.kind > 3)))), (76, .bool ((decide (e_65.kind < 1)) || (decide (e_65.kind > 3)))), (81, .bool (((decide (e_65.kind < 1)) || (decide (e_65.kind > 3))) || (decide (e_65.fromF < q_56)))), (82, .bool (((decide (e_65.kind < 1)) || (decide (e_65.kind > 3))) || (decide (e_65.fromF < q_56)))), (88, .bool ((((decide (e_65.kind < 1)) || (decide (e_65.kind > 3))) || (decide (e_65.fromF < q_56))) || (decide (e_65.to ≤ e_65.fromF)))), (89, .bool false), (96, .bool (decide (e_65.to > ((x0.ops.length : Nat) : Int))))]) (by kernel_rfl)
      exact hj_75 _ (hq.conv (by first | (rw [hb] <;> rfl) | rfl))
    intro a hs
    refine qpk 0 [1, 6, 7, 96] hs fun a hs => hK71 _ _ ?_
    clear hK71
    refine qcs (((((decide (e_65.kind < 1)) || (decide (e_65.kind > 3))) || (decide (e_65.fromF < q_56))) || (decide (e_65.to ≤ e_65.fromF))) || (decide (e_65.to > ((x0.ops.length : Nat) : Int)))) hs (fun hb => ?_) fun hb => ?_
    ·replace hm := bif_t hm hb
     refine qse 1 [(2, .bool false)] hs fun a hs => ?_
     refine wp_ret ?_
     exact Vk.ret1 (P := Try.prog) (fn := Try.f9) (R := RR) (.bool false) hs rfl (by kernel_rfl) (by obtain rfl := hret55 _ ((Option.some.inj hm).symm); subst hRR; exact ⟨rfl, hs.own.f1.drop.drop⟩)
    ·replace hm := bif_f hm hb
     refine wp_skip ?_
     refine hK70 _ _ ?_
     clear hK70
     refine Vk.region ?_
     refine qpu 1 hs fun a hs => ?_
     refine qld 0 (ci e_65.to) hs rfl fun a hs => ?_
     refine qpk 1 [1, 5, 6] hs fun a hs => hK60 _ _ ?_
     clear hK60
     refine Vk.region ?_
     refine qpe 3 [(1, pp b_2), (5, vi e_65.to), (6, vi (IntKind.i64.wrap (q_57 + 1)))] hs fun a hs => ?_
     refine ih (e_65.to, (IntKind.i64.wrap (q_57 + 1))) _ _ ⟨hm, hs.go [1, 5, 6] [1] 2 (by kernel_rfl) (by kernel_rfl) (by kernel_rfl)⟩
   ·replace hm := bif_f hm hb
    refine wp_exit ?_
    exact hx55 (Option.some.inj hm).symm _ _ (hs.go [] [] 1 (by kernel_rfl) (by kernel_rfl) (by kernel_rfl))
  have hret11 : ∀ v, r11 = Sum.inl v → v = r := by intro v he; subst r11; exact Option.some.inj hm
  refine Vk.loopBy (fun k (s : Int × Int) a w => visorref18_Right.l1 x0 k s.1 s.2 = some r11 ∧ St 99 a w κ [(1, pp b_2), (3, vw s.1), (4, vi s.2)] (pt b_2 (blk (Tapi_Trace.obj x0 A_x0ops c_x0ops A_x0blocks c_x0blocks) 35) :: S)) k (0, 0) ⟨hl11, hs.go [1, 3, 4] [0] 1 (by kernel_rfl) (by kernel_rfl) (by kernel_rfl)⟩ (fun s a w h => by obtain ⟨h1, _⟩ := h; simp [visorref18_Right.l1] at h1) (fun k KL11 ih s a w h => ?_)
  obtain ⟨q_12, q_13⟩ := s
  obtain ⟨hm, hs⟩ := h
  try dsimp only at hm hs
  rw [visorref18_Right.l1] at hm
  refine Vk.seq fun K14 hK14 => ?_
  refine qsr fun K15 hK15 => ?_
  refine qpu 2 hs fun a hs => ?_
  refine qld 0 (C.slc A_x0ops x0.ops.length c_x0ops) hs rfl fun a hs => ?_
  refine qpk 2 [1, 3, 4, 26] hs fun a hs => hK15 _ _ ?_
  clear hK15
  refine qcs (decide (q_13 < ((x0.ops.length : Nat) : Int))) hs (fun hb => ?_) fun hb => ?_
  ·replace hm := bif_t hm hb
   refine wp_skip ?_
   refine hK14 _ _ ?_
   clear hK14
   refine Vk.seq fun K16 hK16 => ?_
   have hj16 : ∀ (p_49 : Int), visorref18_Right.j1 k (visorref18_Right.l1 x0 k) q_13 p_49 = some r11 → ∀ (a : Act) (w : World), St 99 a w κ [(1, pp b_2), (3, vw p_49), (4, vi q_13)] (pt b_2 (blk (Tapi_Trace.obj x0 A_x0ops c_x0ops A_x0blocks c_x0blocks) 35) :: S) → K16 a w := by
    intro p_49 hm a w hs
    unfold visorref18_Right.j1 at hm
    refine hK16 _ _ ?_
    refine Vk.region ?_
    refine qpk 3 [1, 3, 4] hs fun a hs => ?_
    refine ih (p_49, (IntKind.i64.wrap (q_13 + 1))) _ _ ⟨hm, hs.go [1, 3, 4] [0] 1 (by kernel_rfl) (by kernel_rfl) (by kernel_rfl)⟩
   refine wp_block ?_
   refine Vk.seq fun K17 hK17 => ?_
   refine Vk.seq fun K18 hK18 => ?_
   obtain ⟨C_19, hC_19⟩ := qC hs.own
   refine qdr 10 κ C_19 hs fun w hs hqC_19 => ?_
   have hcl := qO hC_19 hs.own
   refine qdp (fuel := 6) [0, 2, 5, 6] hs hcl hqC_19 fun a hs => ?_
   refine qdl 1 0 (C.slc A_x0ops x0.ops.length c_x0ops) hs hcl hqC_19 hC_19 rfl fun a hs => ?_
   obtain ⟨h_20, hm⟩ := ite_t hm
   obtain ⟨e_23, h_21, hm⟩ := bind_t hm
   obtain ⟨b_24, o_25, hA_26, h_22⟩ := Sl.elem hx_x0ops h_21
   refine qdt 3 (.pointer (some ⟨b_24, o_25 + q_13.toNat * 6, none⟩)) (op := (.indexAddr 32 (.tmp 30) (.tmp 31))) hs hcl hqC_19 (fun w hw o ho => by rw [hC_19] at hw; exact run_idxSlc (k := .i64) ho (cap := c_x0ops) (len := x0.ops.length) ((congrArg (fun A => Value.slice A (x0.ops.length) (c_x0ops)) hA_26) ▸ (by kernel_rfl)) (by kernel_rfl) (by kernel_rfl) (idx_ok h_20 h_21) _) fun a hs => ?_
   refine qdt 4 (.agg (vals [ci e_23.kind, ci e_23.dom, ci e_23.a, ci e_23.b, ci e_23.d, cw e_23.c])) (op := (.load 43 (.tmp 32))) hs hcl hqC_19 (fun w hw o ho => by rw [hC_19] at hw; exact run_loadN (cs := [ci e_23.kind, ci e_23.dom, ci e_23.a, ci e_23.b, ci e_23.d, cw e_23.c]) ho (by kernel_rfl) (by kernel_rfl) rfl h_22 _ hw.drop) fun a hs => ?_
   refine qdl 7 0 (ci x0.n) hs hcl hqC_19 hC_19 rfl fun a hs => ?_
   obtain ⟨v_29, h_28, hm⟩ := bind_t hm
   refine qdc 8 (visorref17_Right.ok _ _ _ _ _ h_28 _ _ (pt b_2 (blk (Tapi_Trace.obj x0 A_x0ops c_x0ops A_x0blocks c_x0blocks) 35) :: S) hs.own) hs fun w a hs => ?_
   replace hcl := qO hC_19 hs.own
   refine ⟨fun _ => hcl, ?_⟩
   refine qdp (fuel := 0) [9] hs hcl hqC_19 fun a hs => ?_
   replace hs := hs.pick [1, 3, 4, 38] (L' := [(1, pp b_2), (3, vw q_12), (4, vi q_13), (38, .bool (!v_29))]) (by kernel_rfl)
   refine Vk.dDone (by kernel_rfl) ?_
   refine hK18 _ _ ?_
   clear hK18
   refine qcs (!v_29) hs (fun hb => ?_) fun hb => ?_
   ·replace hm := bif_t hm hb
    refine qse 1 [(2, .bool false)] hs fun a hs => ?_
    refine wp_ret ?_
    exact Vk.ret1 (P := Try.prog) (fn := Try.f9) (R := RR) (.bool false) hs rfl (by kernel_rfl) (by obtain rfl := hret11 _ ((Option.some.inj hm).symm); subst hRR; exact ⟨rfl, hs.own.drop⟩)
   ·replace hm := bif_f hm hb
    refine wp_skip ?_
    refine hK17 _ _ ?_
    clear hK17
    refine qsr fun K31 hK31 => ?_
    refine qpu 1 hs fun a hs => ?_
    refine qld 0 (C.slc A_x0ops x0.ops.length c_x0ops) hs rfl fun a hs => ?_
    refine qpu 1 hs fun a hs => ?_
    obtain ⟨h_32, hm⟩ := ite_t hm
    obtain ⟨e_35, h_33, hm⟩ := bind_t hm
    obtain ⟨b_36, o_37, hA_38, h_34⟩ := Sl.elem hx_x0ops h_33
    refine qva (.pointer (some ⟨b_36, o_37 + q_13.toNat * 6, none⟩)) (op := (.indexAddr 32 (.tmp 40) (.tmp 41))) hs (fun o ho => run_idxSlc (k := .i64) ho (cap := c_x0ops) (len := x0.ops.length) ((congrArg (fun A => Value.slice A (x0.ops.length) (c_x0ops)) hA_38) ▸ (by kernel_rfl)) (by kernel_rfl) (by kernel_rfl) (idx_ok h_32 h_33) _) fun a hs => ?_
    refine qpu 1 hs fun a hs => ?_
    refine qva (vi e_35.kind) (op := (.load 3 (.tmp 43))) hs (fun o ho => run_load1 (b := b_36) (off := o_37 + q_13.toNat * 6) (c := ci e_35.kind) ho (by kernel_rfl) (by kernel_rfl) (CellsAt.cell h_34 (i := 0) (by kernel_rfl)) _ hs.own.drop) fun a hs => ?_
    refine qpk 1 [1, 3, 4, 45] hs fun a hs => hK31 _ _ ?_
    clear hK31
    refine qcs (e_35.kind == 2) hs (fun hb => ?_) fun hb => ?_
    ·replace hm := bif_t hm hb
     refine Vk.seq fun K39 hK39 => ?_
     refine qsr fun K40 hK40 => ?_
     refine qpu 1 hs fun a hs => ?_
     refine qld 0 (C.slc A_x0ops x0.ops.length c_x0ops) hs rfl fun a hs => ?_
     refine qpu 1 hs fun a hs => ?_
     obtain ⟨h_41, hm⟩ := ite_t hm
     obtain ⟨e_44, h_42, hm⟩ := bind_t hm
     obtain ⟨b_45, o_46, hA_47, h_43⟩ := Sl.elem hx_x0ops h_42
     refine qva (.pointer (some ⟨b_45, o_46 + q_13.toNat * 6, none⟩)) (op := (.indexAddr 32 (.tmp 47) (.tmp 48))) hs (fun o ho => run_idxSlc (k := .i64) ho (cap := c_x0ops) (len := x0.ops.length) ((congrArg (fun A => Value.slice A (x0.ops.length) (c_x0ops)) hA_47) ▸ (by kernel_rfl)) (by kernel_rfl) (by kernel_rfl) (idx_ok h_41 h_42) _) fun a hs => ?_
     refine qpu 1 hs fun a hs => ?_
     refine qva (vw e_44.c) (op := (.load 41 (.tmp 50))) hs (fun o ho => run_load1 (b := b_45) (off := o_46 + q_13.toNat * 6 + 5) (c := cw e_44.c) ho (by kernel_rfl) (by kernel_rfl) (CellsAt.cell h_43 (i := 5) (by kernel_rfl)) _ hs.own.drop) fun a hs => ?_
     refine qpk 2 [1, 3, 4, 53] hs fun a hs => hK40 _ _ ?_
     clear hK40
     refine qcs (e_44.c != q_12) hs (fun hb => ?_) fun hb => ?_
     ·replace hm := bif_t hm hb
      refine qse 1 [(2, .bool false)] hs fun a hs => ?_
      refine wp_ret ?_
      exact Vk.ret1 (P := Try.prog) (fn := Try.f9) (R := RR) (.bool false) hs rfl (by kernel_rfl) (by obtain rfl := hret11 _ ((Option.some.inj hm).symm); subst hRR; exact ⟨rfl, hs.own.drop⟩)
     ·replace hm := bif_f hm hb
      refine wp_skip ?_
      refine hK39 _ _ ?_
      clear hK39
      refine Vk.region ?_
      refine qpe 3 [(1, pp b_2), (3, vw (IntKind.u64.wrap (q_12 + 1))), (4, vi q_13)] hs fun a hs => ?_
      exact hj16 (IntKind.u64.wrap (q_12 + 1)) hm _ _ (hs.go [1, 3, 4] [0] 1 (by kernel_rfl) (by kernel_rfl) (by kernel_rfl))
    ·replace hm := bif_f hm hb
     refine wp_skip ?_
     exact hj16 q_12 hm _ _ (hs.go [1, 3, 4] [0] 1 (by kernel_rfl) (by kernel_rfl) (by kernel_rfl))
  ·replace hm := bif_f hm hb
   refine wp_exit ?_
   exact hx11 (Option.some.inj hm).symm _ _ (hs.go [1] [0] 1 (by kernel_rfl) (by kernel_rfl) (by kernel_rfl))


abbrev visorref29_Word.R (κ : Ctx) (S : List HP) (x0 : List Int) (x1 : Int) (A_x0 : Option Addr) (c_x0 : Nat) (r : Int) : Ending → World → Prop := fun e w' => e = .returned (vw r) ∧ Ow κ w' (S)
def visorref29_Word.m (k : Nat) (x0 : List Int) (x1 : Int) : Option Int := (bif (decide (x1 < 0)) || (decide (x1 ≥ ((x0.length : Nat) : Int))) then some 0 else (if 0 ≤ x1 then (x0[x1.toNat]?).bind fun e_10 => some e_10 else none))

set_option maxRecDepth 100000 in
set_option maxHeartbeats 4000000 in
theorem visorref29_Word.ok (k : Nat) (x0 : List Int) (x1 : Int) (r : Int) (hm : visorref29_Word.m k x0 x1 = some r) (κ : Ctx) (w : World) (S : List HP) (A_x0 : Option Addr) (c_x0 : Nat) (hx_x0 : Sl κ S A_x0 c_x0 1 (eI .u64) x0) (ho : Ow κ w (S)) :
  Calls Try.prog 10 #[.slice A_x0 x0.length c_x0, vi x1] w (visorref29_Word.R κ S x0 x1 A_x0 c_x0 r) := by
 unfold visorref29_Word.m at hm
 generalize hRR : visorref29_Word.R κ S x0 x1 A_x0 c_x0 r = RR
 refine qen [(0, .slice A_x0 x0.length c_x0), (1, vi x1)] Try.func10 Try.ntmps10 ho fun a hs => ?_
 refine qsk 1 [0, 1] hs fun a hs => ?_
 refine Vk.seq fun K2 hK2 => ?_
 refine qsr fun K3 hK3 => ?_
 refine qpu 3 hs fun a hs => ?_
 refine qsc 7 5 hs fun a hs => ?_
 refine qpk 0 [0, 1, 12] hs fun a hs => hK3 _ _ ?_
 clear hK3
 refine qcs ((decide (x1 < 0)) || (decide (x1 ≥ ((x0.length : Nat) : Int)))) hs (fun hb => ?_) fun hb => ?_
 ·replace hm := bif_t hm hb
  refine qse 1 [(4, vw 0)] hs fun a hs => ?_
  refine wp_ret ?_
  exact qr1 (vw 0) hs rfl hRR (by cases hm; exact ⟨rfl, hs.own⟩)
 ·replace hm := bif_f hm hb
  refine wp_skip ?_
  refine hK2 _ _ ?_
  clear hK2
  refine qsr fun K6 hK6 => ?_
  refine qpu 2 hs fun a hs => ?_
  obtain ⟨h_7, hm⟩ := ite_t hm
  obtain ⟨e_10, h_8, hm⟩ := bind_t hm
  obtain ⟨b_11, o_12, hA_13, h_9⟩ := Sl.elem hx_x0 h_8
  refine qva (.pointer (some ⟨b_11, o_12 + x1.toNat * 1, none⟩)) (op := (.indexAddr 23 (.tmp 13) (.tmp 14))) hs (fun o ho => run_idxSlc (k := .i64) ho (cap := c_x0) (len := x0.length) ((congrArg (fun A => Value.slice A (x0.length) (c_x0)) hA_13) ▸ (by kernel_rfl)) (by kernel_rfl) (by kernel_rfl) (idx_ok h_7 h_8) _) fun a hs => ?_
  refine qva (vw e_10) (op := (.load 41 (.tmp 15))) hs (fun o ho => run_load1 (c := cw e_10) ho (by kernel_rfl) (by kernel_rfl) (fun w ho => h_9 w ho 0 _ rfl) _ hs.own) fun a hs => ?_
  refine qpe 1 [(4, vw e_10)] hs fun a hs => hK6 _ _ ?_
  clear hK6
  refine wp_ret ?_
  exact qr1 (vw e_10) hs rfl hRR (by cases hm; exact ⟨rfl, hs.own⟩)


def trace_Opens.j1 (k : Nat) (rec7 : (List Int) → Int → Option (List Int)) (q_11 : Int) (p_32 : List Int) : Option (List Int) := rec7 p_32 (IntKind.i64.wrap (q_11 + 1))
def trace_Opens.l1 (x0 : Tapi_Trace) : Nat → (List Int) → Int → Option (List Int)
 | 0, _, _ => none
 | k + 1, q_10, q_11 => (bif decide (q_11 < ((x0.ops.length : Nat) : Int)) then (if 0 ≤ q_11 then (x0.ops[q_11.toNat]?).bind fun e_19 => (bif e_19.kind == 12 then (if (q_10.length + ([q_11] : List Int).length) * 8 ≤ 140737488355328 then trace_Opens.j1 k (trace_Opens.l1 x0 k) q_11 (q_10 ++ ([q_11] : List Int)) else none) else trace_Opens.j1 k (trace_Opens.l1 x0 k) q_11 q_10) else none) else some q_10)
abbrev trace_Opens.R (κ : Ctx) (S : List HP) (x0 : Tapi_Trace) (A_x0ops : Option Addr) (c_x0ops : Nat) (A_x0blocks : Option Addr) (c_x0blocks : Nat) (r : List Int) : Ending → World → Prop := fun e w' => ∃ (A_r0 : Option Addr), ∃ (c_r0 : Nat), e = .returned (.slice A_r0 r.length c_r0) ∧ Ow κ w' (rowp A_r0 c_r0 3 1 (eI .i64) r :: S)
def trace_Opens.m (k : Nat) (x0 : Tapi_Trace) : Option (List Int) := (trace_Opens.l1 x0 k ([] : List Int) 0).bind fun p_35 => some p_35

set_option maxRecDepth 100000 in
set_option maxHeartbeats 4000000 in
theorem trace_Opens.ok (k : Nat) (x0 : Tapi_Trace) (r : List Int) (hm : trace_Opens.m k x0 = some r) (κ : Ctx) (w : World) (S : List HP) (A_x0ops : Option Addr) (c_x0ops : Nat) (hx_x0ops : Sl κ S A_x0ops c_x0ops 6 Tapi_Op.cells x0.ops) (A_x0blocks : Option Addr) (c_x0blocks : Nat) (hx_x0blocks : Sl κ S A_x0blocks c_x0blocks 3 Tapi_Span.cells x0.blocks) (ho : Ow κ w (S)) :
  Calls Try.prog 40 #[.agg (vals [ci x0.n, C.slc A_x0ops x0.ops.length c_x0ops, C.slc A_x0blocks x0.blocks.length c_x0blocks])] w (trace_Opens.R κ S x0 A_x0ops c_x0ops A_x0blocks c_x0blocks r) := by
 unfold trace_Opens.m at hm
 generalize hRR : trace_Opens.R κ S x0 A_x0ops c_x0ops A_x0blocks c_x0blocks r = RR
 refine qen [(0, .agg (vals [ci x0.n, C.slc A_x0ops x0.ops.length c_x0ops, C.slc A_x0blocks x0.blocks.length c_x0blocks]))] Try.func40 Try.ntmps40 ho fun a hs => ?_
 refine qsr fun K1 hK1 => ?_
 refine qbx 0 35 [ci x0.n, C.slc A_x0ops x0.ops.length c_x0ops, C.slc A_x0blocks x0.blocks.length c_x0blocks] 1 hs fun b_2 w a hs => ?_
 refine qpe 1 [(1, pp b_2)] hs fun a hs => hK1 _ _ ?_
 clear hK1
 refine qsk 1 [1, 3] hs fun a hs => ?_
 refine Vk.seq fun K4 hK4 => ?_
 refine qsr fun K5 hK5 => ?_
 refine qpu 1 hs fun a hs => ?_
 refine qld 0 (C.slc A_x0ops x0.ops.length c_x0ops) hs rfl fun a hs => ?_
 refine qpk 2 [3, 7, 8, 9] hs fun a hs => hK5 _ _ ?_
 clear hK5
 refine wp_block ?_
 replace hs := hs.addRow none 3 1 (eI .i64)
 obtain ⟨r7, hl7, hm⟩ := bind_t hm
 have hx7 : ∀ (p_35 : List Int), r7 = p_35 → ∀ (A_33 : Option Addr) (c_34 : Nat) (a : Act) (w : World), St 23 a w κ [(3, .slice A_33 p_35.length c_34)] (rowp A_33 c_34 3 1 (eI .i64) p_35 :: S) → K4 a w := by
  intro p_35 he A_33 c_34 a w hs
  subst r7
  refine hK4 _ _ ?_
  clear hK4
  refine qse 2 [(2, .slice A_33 p_35.length c_34)] hs fun a hs => ?_
  refine wp_ret ?_
  exact qr1 (.slice A_33 p_35.length c_34) hs rfl hRR (by cases hm; exact ⟨A_33, c_34, rfl, hs.own⟩)
 refine Vk.loopBy (fun k (s : List Int × Int) a w => ∃ (A_8 : Option Addr), ∃ (c_9 : Nat), trace_Opens.l1 x0 k s.1 s.2 = some r7 ∧ St 23 a w κ [(3, .slice A_8 s.1.length c_9), (7, .slice A_x0ops x0.ops.length c_x0ops), (8, vi ((x0.ops.length : Nat) : Int)), (9, vi s.2)] (rowp A_8 c_9 3 1 (eI .i64) s.1 :: S)) k (([] : List Int), 0) ⟨none, 0, hl7, hs.go [3, 7, 8, 9] [0] 2 (by kernel_rfl) (by kernel_rfl) (by kernel_rfl)⟩ (fun s a w h => by obtain ⟨_, _, h1, _⟩ := h; simp [trace_Opens.l1] at h1) (fun k KL7 ih s a w h => ?_)
 obtain ⟨q_10, q_11⟩ := s
 obtain ⟨A_8, c_9, hm, hs⟩ := h
 try dsimp only at hm hs
 rw [trace_Opens.l1] at hm
 refine qsk 1 [3, 7, 8, 9, 10] hs fun a hs => ?_
 refine Vk.seq fun K13 hK13 => ?_
 refine qcs (decide (q_11 < ((x0.ops.length : Nat) : Int))) hs (fun hb => ?_) fun hb => ?_
 ·replace hm := bif_t hm hb
  refine wp_skip ?_
  refine hK13 _ _ ?_
  clear hK13
  refine Vk.seq fun K14 hK14 => ?_
  have hj14 : ∀ (p_32 : List Int), trace_Opens.j1 k (trace_Opens.l1 x0 k) q_11 p_32 = some r7 → ∀ (A_30 : Option Addr) (c_31 : Nat) (a : Act) (w : World), St 23 a w κ [(3, .slice A_30 p_32.length c_31), (7, .slice A_x0ops x0.ops.length c_x0ops), (8, vi ((x0.ops.length : Nat) : Int)), (9, vi q_11)] (rowp A_30 c_31 3 1 (eI .i64) p_32 :: S) → K14 a w := by
   intro p_32 hm A_30 c_31 a w hs
   unfold trace_Opens.j1 at hm
   refine hK14 _ _ ?_
   refine Vk.region ?_
   refine qpk 2 [3, 7, 8, 9] hs fun a hs => ?_
   refine ih (p_32, (IntKind.i64.wrap (q_11 + 1))) _ _ ⟨A_30, c_31, hm, hs.go [3, 7, 8, 9] [0] 1 (by kernel_rfl) (by kernel_rfl) (by kernel_rfl)⟩
  refine wp_block ?_
  refine qsr fun K15 hK15 => ?_
  refine qpu 1 hs fun a hs => ?_
  obtain ⟨h_16, hm⟩ := ite_t hm
  obtain ⟨e_19, h_17, hm⟩ := bind_t hm
  obtain ⟨b_20, o_21, hA_22, h_18⟩ := Sl.elem hx_x0ops h_17
  refine qva (.pointer (some ⟨b_20, o_21 + q_11.toNat * 6, none⟩)) (op := (.indexAddr 32 (.tmp 7) (.tmp 9))) hs (fun o ho => run_idxSlc (k := .i64) ho (cap := c_x0ops) (len := x0.ops.length) ((congrArg (fun A => Value.slice A (x0.ops.length) (c_x0ops)) hA_22) ▸ (by kernel_rfl)) (by kernel_rfl) (by kernel_rfl) (idx_ok h_16 h_17) _) fun a hs => ?_
  refine qva (.agg (vals [ci e_19.kind, ci e_19.dom, ci e_19.a, ci e_19.b, ci e_19.d, cw e_19.c])) (op := (.load 43 (.tmp 12))) hs (fun o ho => run_loadN (cs := [ci e_19.kind, ci e_19.dom, ci e_19.a, ci e_19.b, ci e_19.d, cw e_19.c]) ho (by kernel_rfl) (by kernel_rfl) rfl h_18 _ hs.own.drop) fun a hs => ?_
  refine qal 43 [ci 0, ci 0, ci 0, ci 0, ci 0, cw 0] 5 hs fun b_23 w a hs => ?_
  refine qpu 1 hs fun a hs => ?_
  refine qsa 0 [ci e_19.kind, ci e_19.dom, ci e_19.a, ci e_19.b, ci e_19.d, cw e_19.c] hs rfl fun a w hs => ?_
  refine qpk 0 [3, 4, 5, 7, 8, 9] hs fun a hs => hK15 _ _ ?_
  clear hK15
  refine qsr fun K24 hK24 => ?_
  refine qpu 1 hs fun a hs => ?_
  refine qld 0 (ci e_19.kind) hs rfl fun a hs => ?_
  refine qpk 1 [3, 4, 7, 8, 9, 16] hs fun a hs => hK24 _ _ ?_
  clear hK24
  refine qcs (e_19.kind == 12) hs (fun hb => ?_) fun hb => ?_
  ·replace hm := bif_t hm hb
   refine Vk.region ?_
   refine qpu 2 hs fun a hs => ?_
   refine Vk.step (Vk.buildOp (sz := 1) (by_ := 8) (t := 81) (e := 3) (parts := #[(0, (.tmp 18))]) (zs := vals [ci 0]) ([q_11] : List Int) (eI .i64) (some 19) hs (by kernel_rfl) (by kernel_rfl) (by kernel_rfl) (by kernel_rfl) (by decide) rfl (fun x _ => rfl) (Nat.le_of_ble_eq_true (by kernel_rfl)) (by kernel_rfl) fun A_25 w a hs => ?_)
   obtain ⟨h_27, hm⟩ := ite_t hm
   refine Vk.step (Vk.appendOp (x := (.tmp 17)) (y := (.tmp 19)) (e := 3) (t := 81) (by_ := 8) (sz := 1) (enc := (eI .i64)) (A := A_8) (cap := c_9) (xs := q_10) (ys := ([q_11] : List Int)) (B := A_25) (c2 := 1) 2 (some 20) hs (by kernel_rfl) (by kernel_rfl) (by kernel_rfl) (by kernel_rfl) rfl (Sl.lift (fun w ho => (Ow.to (S' := rowp A_25 1 3 1 (eI .i64) ([q_11] : List Int) :: S) ho [0] 3 (by kernel_rfl) (by kernel_rfl))) (Ow.rowSl 0 (Ow.to (S' := rowp A_25 1 3 1 (eI .i64) ([q_11] : List Int) :: S) hs.own [0] 3 (by kernel_rfl) (by kernel_rfl)) rfl)) (by kernel_rfl) (by kernel_rfl) (by decide) (by decide) h_27 fun A_28 c_29 w a hs => ?_)
   refine qpe 1 [(3, .slice A_28 ((q_10 ++ ([q_11] : List Int)).length) c_29), (7, .slice A_x0ops x0.ops.length c_x0ops), (8, vi ((x0.ops.length : Nat) : Int)), (9, vi q_11)] hs fun a hs => ?_
   exact hj14 (q_10 ++ ([q_11] : List Int)) hm A_28 c_29 _ _ (hs.go [3, 7, 8, 9] [2] 3 (by kernel_rfl) (by kernel_rfl) (by kernel_rfl))
  ·replace hm := bif_f hm hb
   refine wp_skip ?_
   exact hj14 q_10 hm A_8 c_9 _ _ (hs.go [3, 7, 8, 9] [1] 2 (by kernel_rfl) (by kernel_rfl) (by kernel_rfl))
 ·replace hm := bif_f hm hb
  refine wp_exit ?_
  exact hx7 q_10 (Option.some.inj hm).symm A_8 c_9 _ _ (hs.go [3] [0] 1 (by kernel_rfl) (by kernel_rfl) (by kernel_rfl))


def replay_Taps.j1 (k : Nat) (rec6 : (List Int) → Int → Option (List Int)) (q_9 : List Int) (q_10 : Int) (p_33 : Int) : Option (List Int) := (if (q_9.length + ([p_33] : List Int).length) * 8 ≤ 140737488355328 then rec6 (q_9 ++ ([p_33] : List Int)) (IntKind.i64.wrap (q_10 + 1)) else none)
def replay_Taps.l1 (x0 : List Int) (x1 : List Int) : Nat → (List Int) → Int → Option (List Int)
 | 0, _, _ => none
 | k + 1, q_9, q_10 => (bif decide (q_10 < ((x1.length : Nat) : Int)) then (if 0 ≤ q_10 then (x1[q_10.toNat]?).bind fun e_18 => (bif (decide (e_18 ≥ 0)) && (decide (e_18 < ((x0.length : Nat) : Int))) then (if 0 ≤ e_18 then (x0[e_18.toNat]?).bind fun e_29 => replay_Taps.j1 k (replay_Taps.l1 x0 x1 k) q_9 q_10 e_29 else none) else replay_Taps.j1 k (replay_Taps.l1 x0 x1 k) q_9 q_10 0) else none) else some q_9)
abbrev replay_Taps.R (κ : Ctx) (S : List HP) (x0 : List Int) (x1 : List Int) (A_x0 : Option Addr) (c_x0 : Nat) (A_x1 : Option Addr) (c_x1 : Nat) (r : List Int) : Ending → World → Prop := fun e w' => ∃ (A_r0 : Option Addr), ∃ (c_r0 : Nat), e = .returned (.slice A_r0 r.length c_r0) ∧ Ow κ w' (rowp A_r0 c_r0 41 1 (eI .u64) r :: S)
def replay_Taps.m (k : Nat) (x0 : List Int) (x1 : List Int) : Option (List Int) := (replay_Taps.l1 x0 x1 k ([] : List Int) 0).bind fun p_41 => some p_41

set_option maxRecDepth 100000 in
set_option maxHeartbeats 4000000 in
theorem replay_Taps.ok (k : Nat) (x0 : List Int) (x1 : List Int) (r : List Int) (hm : replay_Taps.m k x0 x1 = some r) (κ : Ctx) (w : World) (S : List HP) (A_x0 : Option Addr) (c_x0 : Nat) (hx_x0 : Sl κ S A_x0 c_x0 1 (eI .u64) x0) (A_x1 : Option Addr) (c_x1 : Nat) (hx_x1 : Sl κ S A_x1 c_x1 1 (eI .i64) x1) (ho : Ow κ w (S)) :
  Calls Try.prog 41 #[.slice A_x0 x0.length c_x0, .slice A_x1 x1.length c_x1] w (replay_Taps.R κ S x0 x1 A_x0 c_x0 A_x1 c_x1 r) := by
 unfold replay_Taps.m at hm
 generalize hRR : replay_Taps.R κ S x0 x1 A_x0 c_x0 A_x1 c_x1 r = RR
 refine qen [(0, .slice A_x0 x0.length c_x0), (1, .slice A_x1 x1.length c_x1)] Try.func41 Try.ntmps41 ho fun a hs => ?_
 refine qsk 1 [0, 1] hs fun a hs => ?_
 refine qsk 1 [0, 1, 5] hs fun a hs => ?_
 refine Vk.seq fun K3 hK3 => ?_
 refine qsk 3 [0, 5, 9, 10, 11] hs fun a hs => ?_
 refine wp_block ?_
 replace hs := hs.addRow none 41 1 (eI .u64)
 obtain ⟨r6, hl6, hm⟩ := bind_t hm
 have hx6 : ∀ (p_41 : List Int), r6 = p_41 → ∀ (A_39 : Option Addr) (c_40 : Nat) (a : Act) (w : World), St 33 a w κ [(5, .slice A_39 p_41.length c_40)] (rowp A_39 c_40 41 1 (eI .u64) p_41 :: S) → K3 a w := by
  intro p_41 he A_39 c_40 a w hs
  subst r6
  refine hK3 _ _ ?_
  clear hK3
  refine qse 2 [(4, .slice A_39 p_41.length c_40)] hs fun a hs => ?_
  refine wp_ret ?_
  exact qr1 (.slice A_39 p_41.length c_40) hs rfl hRR (by cases hm; exact ⟨A_39, c_40, rfl, hs.own⟩)
 refine Vk.loopBy (fun k (s : List Int × Int) a w => ∃ (A_7 : Option Addr), ∃ (c_8 : Nat), replay_Taps.l1 x0 x1 k s.1 s.2 = some r6 ∧ St 33 a w κ [(0, .slice A_x0 x0.length c_x0), (5, .slice A_7 s.1.length c_8), (9, .slice A_x1 x1.length c_x1), (10, vi ((x1.length : Nat) : Int)), (11, vi s.2)] (rowp A_7 c_8 41 1 (eI .u64) s.1 :: S)) k (([] : List Int), 0) ⟨none, 0, hl6, hs.go [0, 5, 9, 10, 11] [0] 1 (by kernel_rfl) (by kernel_rfl) (by kernel_rfl)⟩ (fun s a w h => by obtain ⟨_, _, h1, _⟩ := h; simp [replay_Taps.l1] at h1) (fun k KL6 ih s a w h => ?_)
 obtain ⟨q_9, q_10⟩ := s
 obtain ⟨A_7, c_8, hm, hs⟩ := h
 try dsimp only at hm hs
 rw [replay_Taps.l1] at hm
 refine qsk 1 [0, 5, 9, 10, 11, 12] hs fun a hs => ?_
 refine Vk.seq fun K12 hK12 => ?_
 refine qcs (decide (q_10 < ((x1.length : Nat) : Int))) hs (fun hb => ?_) fun hb => ?_
 ·replace hm := bif_t hm hb
  refine wp_skip ?_
  refine hK12 _ _ ?_
  clear hK12
  refine Vk.seq fun K13 hK13 => ?_
  refine wp_block ?_
  refine qsr fun K14 hK14 => ?_
  obtain ⟨h_15, hm⟩ := ite_t hm
  obtain ⟨e_18, h_16, hm⟩ := bind_t hm
  obtain ⟨b_19, o_20, hA_21, h_17⟩ := Sl.elem hx_x1 h_16
  refine qva (.pointer (some ⟨b_19, o_20 + q_10.toNat * 1, none⟩)) (op := (.indexAddr 81 (.tmp 9) (.tmp 11))) hs (fun o ho => run_idxSlc (k := .i64) ho (cap := c_x1) (len := x1.length) ((congrArg (fun A => Value.slice A (x1.length) (c_x1)) hA_21) ▸ (by kernel_rfl)) (by kernel_rfl) (by kernel_rfl) (idx_ok h_15 h_16) _) fun a hs => ?_
  refine qva (vi e_18) (op := (.load 3 (.tmp 13))) hs (fun o ho => run_load1 (c := ci e_18) ho (by kernel_rfl) (by kernel_rfl) (fun w ho => h_17 w ho 0 _ rfl) _ hs.own.drop) fun a hs => ?_
  refine qpk 1 [0, 5, 7, 9, 10, 11] hs fun a hs => hK14 _ _ ?_
  clear hK14
  refine qsk 1 [0, 5, 7, 8, 9, 10, 11] hs fun a hs => ?_
  refine Vk.seq fun K23 hK23 => ?_
  have hj23 : ∀ (p_33 : Int), replay_Taps.j1 k (replay_Taps.l1 x0 x1 k) q_9 q_10 p_33 = some r6 → ∀ (a : Act) (w : World), St 33 a w κ [(0, .slice A_x0 x0.length c_x0), (5, .slice A_7 q_9.length c_8), (8, vw p_33), (9, .slice A_x1 x1.length c_x1), (10, vi ((x1.length : Nat) : Int)), (11, vi q_10)] (rowp A_7 c_8 41 1 (eI .u64) q_9 :: S) → K23 a w := by
   intro p_33 hm a w hs
   unfold replay_Taps.j1 at hm
   refine hK23 _ _ ?_
   refine Vk.region ?_
   refine qpu 2 hs fun a hs => ?_
   refine Vk.step (Vk.buildOp (sz := 1) (by_ := 8) (t := 23) (e := 41) (parts := #[(0, (.tmp 28))]) (zs := vals [cw 0]) ([p_33] : List Int) (eI .u64) (some 29) hs (by kernel_rfl) (by kernel_rfl) (by kernel_rfl) (by kernel_rfl) (by decide) rfl (fun x _ => rfl) (Nat.le_of_ble_eq_true (by kernel_rfl)) (by kernel_rfl) fun A_34 w a hs => ?_)
   obtain ⟨h_36, hm⟩ := ite_t hm
   refine Vk.step (Vk.appendOp (x := (.tmp 27)) (y := (.tmp 29)) (e := 41) (t := 23) (by_ := 8) (sz := 1) (enc := (eI .u64)) (A := A_7) (cap := c_8) (xs := q_9) (ys := ([p_33] : List Int)) (B := A_34) (c2 := 1) 1 (some 30) hs (by kernel_rfl) (by kernel_rfl) (by kernel_rfl) (by kernel_rfl) rfl (Sl.lift (fun w ho => (Ow.to (S' := rowp A_34 1 41 1 (eI .u64) ([p_33] : List Int) :: S) ho [0] 2 (by kernel_rfl) (by kernel_rfl))) (Ow.rowSl 0 (Ow.to (S' := rowp A_34 1 41 1 (eI .u64) ([p_33] : List Int) :: S) hs.own [0] 2 (by kernel_rfl) (by kernel_rfl)) rfl)) (by kernel_rfl) (by kernel_rfl) (by decide) (by decide) h_36 fun A_37 c_38 w a hs => ?_)
   refine qpk 1 [0, 5, 9, 10, 11] hs fun a hs => hK13 _ _ ?_
   clear hK13
   refine Vk.region ?_
   refine qpk 2 [0, 5, 9, 10, 11] hs fun a hs => ?_
   refine ih ((q_9 ++ ([p_33] : List Int)), (IntKind.i64.wrap (q_10 + 1))) _ _ ⟨A_37, c_38, hm, hs.go [0, 5, 9, 10, 11] [1] 2 (by kernel_rfl) (by kernel_rfl) (by kernel_rfl)⟩
  refine qsr fun K24 hK24 => ?_
  refine qpu 3 hs fun a hs => ?_
  refine qsc 17 5 hs fun a hs => ?_
  refine qpe 0 [(0, .slice A_x0 x0.length c_x0), (5, .slice A_7 q_9.length c_8), (7, vi e_18), (8, vw 0), (9, .slice A_x1 x1.length c_x1), (10, vi ((x1.length : Nat) : Int)), (11, vi q_10), (22, .bool ((decide (e_18 ≥ 0)) && (decide (e_18 < ((x0.length : Nat) : Int)))))] hs fun a hs => hK24 _ _ ?_
  clear hK24
  refine qcs ((decide (e_18 ≥ 0)) && (decide (e_18 < ((x0.length : Nat) : Int)))) hs (fun hb => ?_) fun hb => ?_
  ·replace hm := bif_t hm hb
   refine Vk.region ?_
   refine qpu 2 hs fun a hs => ?_
   obtain ⟨h_26, hm⟩ := ite_t hm
   obtain ⟨e_29, h_27, hm⟩ := bind_t hm
   obtain ⟨b_30, o_31, hA_32, h_28⟩ := Sl.elem hx_x0 h_27
   refine qva (.pointer (some ⟨b_30, o_31 + e_18.toNat * 1, none⟩)) (op := (.indexAddr 23 (.tmp 23) (.tmp 24))) hs (fun o ho => run_idxSlc (k := .i64) ho (cap := c_x0) (len := x0.length) ((congrArg (fun A => Value.slice A (x0.length) (c_x0)) hA_32) ▸ (by kernel_rfl)) (by kernel_rfl) (by kernel_rfl) (idx_ok h_26 h_27) _) fun a hs => ?_
   refine qva (vw e_29) (op := (.load 41 (.tmp 25))) hs (fun o ho => run_load1 (c := cw e_29) ho (by kernel_rfl) (by kernel_rfl) (fun w ho => h_28 w ho 0 _ rfl) _ hs.own.drop) fun a hs => ?_
   refine qpe 1 [(0, .slice A_x0 x0.length c_x0), (5, .slice A_7 q_9.length c_8), (8, vw e_29), (9, .slice A_x1 x1.length c_x1), (10, vi ((x1.length : Nat) : Int)), (11, vi q_10)] hs fun a hs => ?_
   exact hj23 e_29 hm _ _ (hs.go [0, 5, 8, 9, 10, 11] [0] 1 (by kernel_rfl) (by kernel_rfl) (by kernel_rfl))
  ·replace hm := bif_f hm hb
   refine wp_skip ?_
   exact hj23 0 hm _ _ (hs.go [0, 5, 8, 9, 10, 11] [0] 1 (by kernel_rfl) (by kernel_rfl) (by kernel_rfl))
 ·replace hm := bif_f hm hb
  refine wp_exit ?_
  exact hx6 q_9 (Option.some.inj hm).symm A_7 c_8 _ _ (hs.go [5] [0] 1 (by kernel_rfl) (by kernel_rfl) (by kernel_rfl))


abbrev replay_Opened.R (κ : Ctx) (S : List HP) (x0 : Tapi_Trace) (x1 : List Int) (A_x0ops : Option Addr) (c_x0ops : Nat) (A_x0blocks : Option Addr) (c_x0blocks : Nat) (A_x1 : Option Addr) (c_x1 : Nat) (r : List Int) : Ending → World → Prop := fun e w' => ∃ (A_r0 : Option Addr), ∃ (c_r0 : Nat), e = .returned (.slice A_r0 r.length c_r0) ∧ Ow κ w' (rowp A_r0 c_r0 41 1 (eI .u64) r :: S)
def replay_Opened.m (k : Nat) (x0 : Tapi_Trace) (x1 : List Int) : Option (List Int) := (trace_Opens.m k x0).bind fun v_6 => (replay_Taps.m k x1 v_6).bind fun v_11 => some v_11

set_option maxRecDepth 100000 in
set_option maxHeartbeats 4000000 in
theorem replay_Opened.ok (k : Nat) (x0 : Tapi_Trace) (x1 : List Int) (r : List Int) (hm : replay_Opened.m k x0 x1 = some r) (κ : Ctx) (w : World) (S : List HP) (A_x0ops : Option Addr) (c_x0ops : Nat) (hx_x0ops : Sl κ S A_x0ops c_x0ops 6 Tapi_Op.cells x0.ops) (A_x0blocks : Option Addr) (c_x0blocks : Nat) (hx_x0blocks : Sl κ S A_x0blocks c_x0blocks 3 Tapi_Span.cells x0.blocks) (A_x1 : Option Addr) (c_x1 : Nat) (hx_x1 : Sl κ S A_x1 c_x1 1 (eI .u64) x1) (ho : Ow κ w (S)) :
  Calls Try.prog 13 #[.agg (vals [ci x0.n, C.slc A_x0ops x0.ops.length c_x0ops, C.slc A_x0blocks x0.blocks.length c_x0blocks]), .slice A_x1 x1.length c_x1] w (replay_Opened.R κ S x0 x1 A_x0ops c_x0ops A_x0blocks c_x0blocks A_x1 c_x1 r) := by
 unfold replay_Opened.m at hm
 generalize hRR : replay_Opened.R κ S x0 x1 A_x0ops c_x0ops A_x0blocks c_x0blocks A_x1 c_x1 r = RR
 refine qen [(0, .agg (vals [ci x0.n, C.slc A_x0ops x0.ops.length c_x0ops, C.slc A_x0blocks x0.blocks.length c_x0blocks])), (1, .slice A_x1 x1.length c_x1)] Try.func13 Try.ntmps13 ho fun a hs => ?_
 refine qsr fun K1 hK1 => ?_
 refine qbx 0 35 [ci x0.n, C.slc A_x0ops x0.ops.length c_x0ops, C.slc A_x0blocks x0.blocks.length c_x0blocks] 2 hs fun b_2 w a hs => ?_
 refine qpk 1 [1, 2] hs fun a hs => hK1 _ _ ?_
 clear hK1
 refine qsr fun K3 hK3 => ?_
 refine qpu 1 hs fun a hs => ?_
 refine qln 0 ([ci x0.n, C.slc A_x0ops x0.ops.length c_x0ops, C.slc A_x0blocks x0.blocks.length c_x0blocks]) hs rfl fun a hs => ?_
 obtain ⟨v_6, h_5, hm⟩ := bind_t hm
 refine Vk.step (Vk.call (some 7) 40 #[.agg (vals [ci x0.n, C.slc A_x0ops x0.ops.length c_x0ops, C.slc A_x0blocks x0.blocks.length c_x0blocks])] hs (by kernel_rfl) (by kernel_rfl) (by kernel_rfl) ?_)
 refine (trace_Opens.ok k x0 v_6 h_5 κ w (pt b_2 (blk (Tapi_Trace.obj x0 A_x0ops c_x0ops A_x0blocks c_x0blocks) 35) :: S) A_x0ops c_x0ops hx_x0ops.less A_x0blocks c_x0blocks hx_x0blocks.less hs.own).mono ?_
 rintro _ w ⟨Ar4x0_7, cr4x0_8, rfl, how⟩
 refine ⟨_, _, _, rfl, how, fun a hs => ?_⟩
 obtain ⟨v_11, h_10, hm⟩ := bind_t hm
 refine Vk.step (Vk.call (some 8) 41 #[.slice A_x1 x1.length c_x1, .slice Ar4x0_7 v_6.length cr4x0_8] hs (by kernel_rfl) (by kernel_rfl) (by kernel_rfl) ?_)
 refine (replay_Taps.ok k x1 v_6 v_11 h_10 κ w (rowp Ar4x0_7 cr4x0_8 3 1 (eI .i64) v_6 :: pt b_2 (blk (Tapi_Trace.obj x0 A_x0ops c_x0ops A_x0blocks c_x0blocks) 35) :: S) A_x1 c_x1 hx_x1.less.less Ar4x0_7 cr4x0_8 (Sl.lift (fun w ho => (Ow.to (S' := rowp Ar4x0_7 cr4x0_8 3 1 (eI .i64) v_6 :: S) ho [0] 2 (by kernel_rfl) (by kernel_rfl))) (Ow.rowSl 0 (Ow.to (S' := rowp Ar4x0_7 cr4x0_8 3 1 (eI .i64) v_6 :: S) hs.own [0] 2 (by kernel_rfl) (by kernel_rfl)) rfl)) hs.own).mono ?_
 rintro _ w ⟨Ar9x0_12, cr9x0_13, rfl, how⟩
 refine ⟨_, _, _, rfl, how, fun a hs => ?_⟩
 refine qpk 1 [4] hs fun a hs => hK3 _ _ ?_
 clear hK3
 refine wp_ret ?_
 exact qr1 (.slice Ar9x0_12 v_11.length cr9x0_13) hs rfl hRR (by cases hm; exact ⟨Ar9x0_12, cr9x0_13, rfl, hs.own.f2.drop.f1.drop⟩)


def replay_Blind.j1 (k : Nat) (x0 : Tapi_Trace) (x1 : List Int) (x2 : List Int) (p_20 : Bool) : Option ((List Int × Int)) := (bif p_20 then some (([] : List Int), 5) else (replay_all.m k x0 (⟨[], x2, x1, true⟩ : Treplay_source)).bind fun v_25 => some (v_25, 0))
abbrev replay_Blind.R (κ : Ctx) (S : List HP) (x0 : Tapi_Trace) (x1 : List Int) (x2 : List Int) (A_x0ops : Option Addr) (c_x0ops : Nat) (A_x0blocks : Option Addr) (c_x0blocks : Nat) (A_x1 : Option Addr) (c_x1 : Nat) (A_x2 : Option Addr) (c_x2 : Nat) (r : (List Int × Int)) : Ending → World → Prop := fun e w' => ∃ (A_r0 : Option Addr), ∃ (c_r0 : Nat), e = .returned (.tuple #[.slice A_r0 r.1.length c_r0, vi r.2]) ∧ Ow κ w' (rowp A_r0 c_r0 41 1 (eI .u64) r.1 :: S)
def replay_Blind.m (k : Nat) (x0 : Tapi_Trace) (x1 : List Int) (x2 : List Int) : Option (List Int × Int) := (trace_Check.m k x0).bind fun v_7 => (bif v_7 != 0 then some (([] : List Int), v_7) else (trace_Opens.m k x0).bind fun v_14 => (bif ((x1.length : Nat) : Int) != ((v_14.length : Nat) : Int) then replay_Blind.j1 k x0 x1 x2 true else (trace_Draws.m k x0).bind fun v_19 => replay_Blind.j1 k x0 x1 x2 (((x2.length : Nat) : Int) != v_19)))

set_option maxRecDepth 100000 in
set_option maxHeartbeats 4000000 in
theorem replay_Blind.ok (k : Nat) (x0 : Tapi_Trace) (x1 : List Int) (x2 : List Int) (r : (List Int × Int)) (hm : replay_Blind.m k x0 x1 x2 = some r) (κ : Ctx) (w : World) (S : List HP) (A_x0ops : Option Addr) (c_x0ops : Nat) (hx_x0ops : Sl κ S A_x0ops c_x0ops 6 Tapi_Op.cells x0.ops) (A_x0blocks : Option Addr) (c_x0blocks : Nat) (hx_x0blocks : Sl κ S A_x0blocks c_x0blocks 3 Tapi_Span.cells x0.blocks) (A_x1 : Option Addr) (c_x1 : Nat) (hx_x1 : Sl κ S A_x1 c_x1 1 (eI .u64) x1) (A_x2 : Option Addr) (c_x2 : Nat) (hx_x2 : Sl κ S A_x2 c_x2 1 (eI .u64) x2) (ho : Ow κ w (S)) :
  Calls Try.prog 12 #[.agg (vals [ci x0.n, C.slc A_x0ops x0.ops.length c_x0ops, C.slc A_x0blocks x0.blocks.length c_x0blocks]), .slice A_x1 x1.length c_x1, .slice A_x2 x2.length c_x2] w (replay_Blind.R κ S x0 x1 x2 A_x0ops c_x0ops A_x0blocks c_x0blocks A_x1 c_x1 A_x2 c_x2 r) := by
 unfold replay_Blind.m at hm
 generalize hRR : replay_Blind.R κ S x0 x1 x2 A_x0ops c_x0ops A_x0blocks c_x0blocks A_x1 c_x1 A_x2 c_x2 r = RR
 refine qen [(0, .agg (vals [ci x0.n, C.slc A_x0ops x0.ops.length c_x0ops, C.slc A_x0blocks x0.blocks.length c_x0blocks])), (1, .slice A_x1 x1.length c_x1), (2, .slice A_x2 x2.length c_x2)] Try.func12 Try.ntmps12 ho fun a hs => ?_
 refine qsr fun K1 hK1 => ?_
 refine qbx 0 35 [ci x0.n, C.slc A_x0ops x0.ops.length c_x0ops, C.slc A_x0blocks x0.blocks.length c_x0blocks] 3 hs fun b_2 w a hs => ?_
 refine qpk 2 [1, 2, 3] hs fun a hs => hK1 _ _ ?_
 clear hK1
 refine Vk.seq fun K3 hK3 => ?_
 refine qsr fun K4 hK4 => ?_
 refine qln 0 ([ci x0.n, C.slc A_x0ops x0.ops.length c_x0ops, C.slc A_x0blocks x0.blocks.length c_x0blocks]) hs rfl fun a hs => ?_
 obtain ⟨v_7, h_6, hm⟩ := bind_t hm
 refine qcl (trace_Check.ok _ _ _ h_6 _ _ (pt b_2 (blk (Tapi_Trace.obj x0 A_x0ops c_x0ops A_x0blocks c_x0blocks) 35) :: S) A_x0ops c_x0ops hx_x0ops.less A_x0blocks c_x0blocks hx_x0blocks.less hs.own) hs fun w a hs => ?_
 refine qpk 1 [1, 2, 3, 8] hs fun a hs => hK4 _ _ ?_
 clear hK4
 refine qsk 2 [1, 2, 3, 8, 12] hs fun a hs => ?_
 refine qcs (v_7 != 0) hs (fun hb => ?_) fun hb => ?_
 ·replace hm := bif_t hm hb
  refine qsk 3 [6, 7] hs fun a hs => ?_
  refine wp_ret ?_
  replace hs := hs.addRow none 41 1 (eI .u64)
  exact Vk.ret2 (.slice none (([] : List Int).length) 0) (vi v_7) hs rfl (by kernel_rfl) (by kernel_rfl) (hRR ▸ by cases hm; exact ⟨none, 0, rfl, hs.own.f1.drop⟩)
 ·replace hm := bif_f hm hb
  refine wp_skip ?_
  refine hK3 _ _ ?_
  clear hK3
  refine Vk.seq fun K10 hK10 => ?_
  refine Vk.seq fun K11 hK11 => ?_
  have hj11 : ∀ (p_20 : Bool), replay_Blind.j1 k x0 x1 x2 p_20 = some r → ∀ (a : Act) (w : World), St 32 a w κ [(1, .slice A_x1 x1.length c_x1), (2, .slice A_x2 x2.length c_x2), (3, pp b_2), (26, .bool p_20)] (pt b_2 (blk (Tapi_Trace.obj x0 A_x0ops c_x0ops A_x0blocks c_x0blocks) 35) :: S) → K11 a w := by
   intro p_20 hm a w hs
   unfold replay_Blind.j1 at hm
   refine hK11 _ _ ?_
   refine qcs (p_20) hs (fun hb => ?_) fun hb => ?_
   ·replace hm := bif_t hm hb
    refine qsk 2 [6, 7] hs fun a hs => ?_
    refine wp_ret ?_
    replace hs := hs.addRow none 41 1 (eI .u64)
    exact Vk.ret2 (.slice none (([] : List Int).length) 0) (vi 5) hs rfl (by kernel_rfl) (by kernel_rfl) (hRR ▸ by cases hm; exact ⟨none, 0, rfl, hs.own.f1.drop⟩)
   ·replace hm := bif_f hm hb
    refine wp_skip ?_
    refine hK10 _ _ ?_
    clear hK10
    refine qsr fun K22 hK22 => ?_
    refine qln 0 ([ci x0.n, C.slc A_x0ops x0.ops.length c_x0ops, C.slc A_x0blocks x0.blocks.length c_x0blocks]) hs rfl fun a hs => ?_
    refine qpu 3 hs fun a hs => ?_
    obtain ⟨v_25, h_24, hm⟩ := bind_t hm
    refine Vk.step (Vk.call (some 31) 39 #[.agg (vals [ci x0.n, C.slc A_x0ops x0.ops.length c_x0ops, C.slc A_x0blocks x0.blocks.length c_x0blocks]), .agg (vals [C.slc none 0 0, C.slc A_x2 x2.length c_x2, C.slc A_x1 x1.length c_x1, C.bool true])] hs (by kernel_rfl) (by kernel_rfl) (by kernel_rfl) ?_)
    refine (replay_all.ok k x0 (⟨[], x2, x1, true⟩ : Treplay_source) v_25 h_24 κ w (pt b_2 (blk (Tapi_Trace.obj x0 A_x0ops c_x0ops A_x0blocks c_x0blocks) 35) :: S) A_x0ops c_x0ops hx_x0ops.less A_x0blocks c_x0blocks hx_x0blocks.less none 0 Sl.nil A_x2 c_x2 hx_x2.less A_x1 c_x1 hx_x1.less hs.own).mono ?_
    rintro _ w ⟨Ar23x0_26, cr23x0_27, rfl, how⟩
    refine ⟨_, _, _, rfl, how, fun a hs => ?_⟩
    refine qpe 2 [(6, .slice Ar23x0_26 v_25.length cr23x0_27), (7, vi 0)] hs fun a hs => hK22 _ _ ?_
    clear hK22
    refine wp_ret ?_
    exact Vk.ret2 (.slice Ar23x0_26 v_25.length cr23x0_27) (vi 0) hs rfl (by kernel_rfl) (by kernel_rfl) (hRR ▸ by cases hm; exact ⟨Ar23x0_26, cr23x0_27, rfl, hs.own.f1.drop⟩)
  refine Vk.region ?_
  refine qpu 2 hs fun a hs => ?_
  refine qln 0 ([ci x0.n, C.slc A_x0ops x0.ops.length c_x0ops, C.slc A_x0blocks x0.blocks.length c_x0blocks]) hs rfl fun a hs => ?_
  obtain ⟨v_14, h_13, hm⟩ := bind_t hm
  refine Vk.step (Vk.call (some 17) 40 #[.agg (vals [ci x0.n, C.slc A_x0ops x0.ops.length c_x0ops, C.slc A_x0blocks x0.blocks.length c_x0blocks])] hs (by kernel_rfl) (by kernel_rfl) (by kernel_rfl) ?_)
  refine (trace_Opens.ok k x0 v_14 h_13 κ w (pt b_2 (blk (Tapi_Trace.obj x0 A_x0ops c_x0ops A_x0blocks c_x0blocks) 35) :: S) A_x0ops c_x0ops hx_x0ops.less A_x0blocks c_x0blocks hx_x0blocks.less hs.own).mono ?_
  rintro _ w ⟨Ar12x0_15, cr12x0_16, rfl, how⟩
  refine ⟨_, _, _, rfl, how, fun a hs => ?_⟩
  refine qpu 3 hs fun a hs => ?_
  rcases Bool.eq_false_or_eq_true (((x1.length : Nat) : Int) != ((v_14.length : Nat) : Int)) with hb | hb
  ·replace hm := bif_t hm hb
   replace hs := hs.known (t := 20) hb (by kernel_rfl)
   refine qpe 6 [(1, .slice A_x1 x1.length c_x1), (2, .slice A_x2 x2.length c_x2), (3, pp b_2), (26, .bool true)] hs fun a hs => ?_
   exact hj11 true hm _ _ (hs.go [1, 2, 3, 26] [1] 2 (by kernel_rfl) (by kernel_rfl) (by kernel_rfl))
  ·replace hm := bif_f hm hb
   replace hs := hs.known (t := 20) hb (by kernel_rfl)
   refine qpu 2 hs fun a hs => ?_
   refine qln 1 ([ci x0.n, C.slc A_x0ops x0.ops.length c_x0ops, C.slc A_x0blocks x0.blocks.length c_x0blocks]) hs rfl fun a hs => ?_
   obtain ⟨v_19, h_18, hm⟩ := bind_t hm
   refine qcl (trace_Draws.ok _ _ _ h_18 _ _ (rowp Ar12x0_15 cr12x0_16 3 1 (eI .i64) v_14 :: pt b_2 (blk (Tapi_Trace.obj x0 A_x0ops c_x0ops A_x0blocks c_x0blocks) 35) :: S) A_x0ops c_x0ops hx_x0ops.less.less A_x0blocks c_x0blocks hx_x0blocks.less.less hs.own) hs fun w a hs => ?_
   refine qpe 2 [(1, .slice A_x1 x1.length c_x1), (2, .slice A_x2 x2.length c_x2), (3, pp b_2), (26, .bool (((x2.length : Nat) : Int) != v_19))] hs fun a hs => ?_
   exact hj11 (((x2.length : Nat) : Int) != v_19) hm _ _ (hs.go [1, 2, 3, 26] [1] 2 (by kernel_rfl) (by kernel_rfl) (by kernel_rfl))


def visorref29_Same.l1 (x0 : List Int) (x1 : List Int) : Nat → Int → Option (Sum (Bool) (Unit))
 | 0, _ => none
 | k + 1, q_8 => (bif decide (q_8 < ((x0.length : Nat) : Int)) then (if 0 ≤ q_8 then (x0[q_8.toNat]?).bind fun e_17 => (if 0 ≤ q_8 then (x1[q_8.toNat]?).bind fun e_24 => (bif e_17 != e_24 then some (.inl false) else visorref29_Same.l1 x0 x1 k (IntKind.i64.wrap (q_8 + 1))) else none) else none) else some (.inr ()))
abbrev visorref29_Same.R (κ : Ctx) (S : List HP) (x0 : List Int) (x1 : List Int) (A_x0 : Option Addr) (c_x0 : Nat) (A_x1 : Option Addr) (c_x1 : Nat) (r : Bool) : Ending → World → Prop := fun e w' => e = .returned (.bool r) ∧ Ow κ w' (S)
def visorref29_Same.m (k : Nat) (x0 : List Int) (x1 : List Int) : Option Bool := (bif ((x0.length : Nat) : Int) != ((x1.length : Nat) : Int) then some false else (visorref29_Same.l1 x0 x1 k 0).bind fun x => match x with | .inl v => some v | .inr () => some true)

set_option maxRecDepth 100000 in
set_option maxHeartbeats 4000000 in
theorem visorref29_Same.ok (k : Nat) (x0 : List Int) (x1 : List Int) (r : Bool) (hm : visorref29_Same.m k x0 x1 = some r) (κ : Ctx) (w : World) (S : List HP) (A_x0 : Option Addr) (c_x0 : Nat) (hx_x0 : Sl κ S A_x0 c_x0 1 (eI .u64) x0) (A_x1 : Option Addr) (c_x1 : Nat) (hx_x1 : Sl κ S A_x1 c_x1 1 (eI .u64) x1) (ho : Ow κ w (S)) :
  Calls Try.prog 14 #[.slice A_x0 x0.length c_x0, .slice A_x1 x1.length c_x1] w (visorref29_Same.R κ S x0 x1 A_x0 c_x0 A_x1 c_x1 r) := by
 unfold visorref29_Same.m at hm
 generalize hRR : visorref29_Same.R κ S x0 x1 A_x0 c_x0 A_x1 c_x1 r = RR
 refine qen [(0, .slice A_x0 x0.length c_x0), (1, .slice A_x1 x1.length c_x1)] Try.func14 Try.ntmps14 ho fun a hs => ?_
 refine qsk 1 [0, 1] hs fun a hs => ?_
 refine Vk.seq fun K2 hK2 => ?_
 refine qsk 5 [0, 1, 10] hs fun a hs => ?_
 refine qcs (((x0.length : Nat) : Int) != ((x1.length : Nat) : Int)) hs (fun hb => ?_) fun hb => ?_
 ·replace hm := bif_t hm hb
  refine qse 1 [(4, .bool false)] hs fun a hs => ?_
  refine wp_ret ?_
  exact qr1 (.bool false) hs rfl hRR (by cases hm; exact ⟨rfl, hs.own⟩)
 ·replace hm := bif_f hm hb
  refine wp_skip ?_
  refine hK2 _ _ ?_
  clear hK2
  refine Vk.seq fun K5 hK5 => ?_
  refine qsk 1 [0, 1, 5] hs fun a hs => ?_
  refine wp_block ?_
  obtain ⟨r7, hl7, hm⟩ := bind_t hm
  have hx7 : r7 = Sum.inr () → ∀ (a : Act) (w : World), St 26 a w κ [] (S) → K5 a w := by
   intro he a w hs
   subst r7
   refine hK5 _ _ ?_
   clear hK5
   refine qse 1 [(4, .bool true)] hs fun a hs => ?_
   refine wp_ret ?_
   exact qr1 (.bool true) hs rfl hRR (by cases hm; exact ⟨rfl, hs.own⟩)
  have hret7 : ∀ v, r7 = Sum.inl v → v = r := by intro v he; subst r7; exact Option.some.inj hm
  refine Vk.loopBy (fun k (s : Int) a w => visorref29_Same.l1 x0 x1 k s = some r7 ∧ St 26 a w κ [(0, .slice A_x0 x0.length c_x0), (1, .slice A_x1 x1.length c_x1), (5, vi s)] (S)) k 0 ⟨hl7, hs.go [0, 1, 5] [] 0 (by kernel_rfl) (by kernel_rfl) (by kernel_rfl)⟩ (fun s a w h => by obtain ⟨h1, _⟩ := h; simp [visorref29_Same.l1] at h1) (fun k KL7 ih q_8 a w h => ?_)
  obtain ⟨hm, hs⟩ := h
  try dsimp only at hm hs
  rw [visorref29_Same.l1] at hm
  refine Vk.seq fun K9 hK9 => ?_
  refine qsk 4 [0, 1, 5, 14] hs fun a hs => ?_
  refine qcs (decide (q_8 < ((x0.length : Nat) : Int))) hs (fun hb => ?_) fun hb => ?_
  ·replace hm := bif_t hm hb
   refine wp_skip ?_
   refine hK9 _ _ ?_
   clear hK9
   refine Vk.seq fun K11 hK11 => ?_
   refine wp_block ?_
   refine Vk.seq fun K12 hK12 => ?_
   obtain ⟨C_13, hC_13⟩ := qC hs.own
   refine qdr 9 κ C_13 hs fun w hs hqC_13 => ?_
   have hcl := qO hC_13 hs.own
   refine qdp (fuel := 5) [0, 1, 4, 5] hs hcl hqC_13 fun a hs => ?_
   obtain ⟨h_14, hm⟩ := ite_t hm
   obtain ⟨e_17, h_15, hm⟩ := bind_t hm
   obtain ⟨b_18, o_19, hA_20, h_16⟩ := Sl.elem hx_x0 h_15
   refine qdt 2 (.pointer (some ⟨b_18, o_19 + q_8.toNat * 1, none⟩)) (op := (.indexAddr 23 (.tmp 17) (.tmp 18))) hs hcl hqC_13 (fun w hw o ho => by rw [hC_13] at hw; exact run_idxSlc (k := .i64) ho (cap := c_x0) (len := x0.length) ((congrArg (fun A => Value.slice A (x0.length) (c_x0)) hA_20) ▸ (by kernel_rfl)) (by kernel_rfl) (by kernel_rfl) (idx_ok h_14 h_15) _) fun a hs => ?_
   refine qdt 3 (vw e_17) (op := (.load 41 (.tmp 19))) hs hcl hqC_13 (fun w hw o ho => by rw [hC_13] at hw; exact run_load1 (c := cw e_17) ho (by kernel_rfl) (by kernel_rfl) (fun w ho => h_16 w ho 0 _ rfl) _ hw) fun a hs => ?_
   obtain ⟨h_21, hm⟩ := ite_t hm
   obtain ⟨e_24, h_22, hm⟩ := bind_t hm
   obtain ⟨b_25, o_26, hA_27, h_23⟩ := Sl.elem hx_x1 h_22
   refine qdt 6 (.pointer (some ⟨b_25, o_26 + q_8.toNat * 1, none⟩)) (op := (.indexAddr 23 (.tmp 21) (.tmp 22))) hs hcl hqC_13 (fun w hw o ho => by rw [hC_13] at hw; exact run_idxSlc (k := .i64) ho (cap := c_x1) (len := x1.length) ((congrArg (fun A => Value.slice A (x1.length) (c_x1)) hA_27) ▸ (by kernel_rfl)) (by kernel_rfl) (by kernel_rfl) (idx_ok h_21 h_22) _) fun a hs => ?_
   refine qdt 7 (vw e_24) (op := (.load 41 (.tmp 23))) hs hcl hqC_13 (fun w hw o ho => by rw [hC_13] at hw; exact run_load1 (c := cw e_24) ho (by kernel_rfl) (by kernel_rfl) (fun w ho => h_23 w ho 0 _ rfl) _ hw) fun a hs => ?_
   refine qdp (fuel := 0) [8] hs hcl hqC_13 fun a hs => ?_
   replace hs := hs.pick [0, 1, 5, 25] (L' := [(0, .slice A_x0 x0.length c_x0), (1, .slice A_x1 x1.length c_x1), (5, vi q_8), (25, .bool (e_17 != e_24))]) (by kernel_rfl)
   refine Vk.dDone (by kernel_rfl) ?_
   refine hK12 _ _ ?_
   clear hK12
   refine qcs (e_17 != e_24) hs (fun hb => ?_) fun hb => ?_
   ·replace hm := bif_t hm hb
    refine qse 1 [(4, .bool false)] hs fun a hs => ?_
    refine wp_ret ?_
    exact Vk.ret1 (P := Try.prog) (fn := Try.f14) (R := RR) (.bool false) hs rfl (by kernel_rfl) (by obtain rfl := hret7 _ ((Option.some.inj hm).symm); subst hRR; exact ⟨rfl, hs.own⟩)
   ·replace hm := bif_f hm hb
    refine wp_skip ?_
    refine hK11 _ _ ?_
    clear hK11
    refine Vk.region ?_
    refine qpk 3 [0, 1, 5] hs fun a hs => ?_
    refine ih (IntKind.i64.wrap (q_8 + 1)) _ _ ⟨hm, hs.go [0, 1, 5] [] 0 (by kernel_rfl) (by kernel_rfl) (by kernel_rfl)⟩
  ·replace hm := bif_f hm hb
   refine wp_exit ?_
   exact hx7 (Option.some.inj hm).symm _ _ (hs.go [] [] 0 (by kernel_rfl) (by kernel_rfl) (by kernel_rfl))

end Go.Proofs.Ytkabdodcacfmlaa
