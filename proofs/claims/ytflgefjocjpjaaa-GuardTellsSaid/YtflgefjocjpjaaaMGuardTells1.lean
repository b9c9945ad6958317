/- Of each Go function that GuardTells comes to: a model in plain Lean, and that the program's call does what the model says; no condition. -/
import Derived.Test.YtflgefjocjpjaaaProg
import Derived.Test.YtflgefjocjpjaaaVaidcpedm
import Derived.Test.YtflgefjocjpjaaaMGuardTells0
namespace Go.Proofs.Ytflgefjocjpjaaa
open Go Go.Vk
set_option linter.unusedVariables false


def visorref19_M_Do.j6 (k : Nat) (x1 : Tapi_Op) (p_84 : Int) (p_100 : Tvisorref19_M) : Option ((Int × Tvisorref19_M)) := (visorref19_M_At.m k p_100 x1.a).bind fun v_110 => (visorref19_M_At.m k p_100 x1.b).bind fun v_113 => (visorref19_M_At.m k p_100 x1.d).bind fun v_116 => (visorref17_Eval.m k x1 v_110 v_113 v_116 p_84).bind fun v_119 => (if (p_100.val.length + ([v_119] : List Int).length) * 8 ≤ 140737488355328 then (if (p_100.ops.length + ([x1] : List Tapi_Op).length) * 48 ≤ 140737488355328 then (visorref19_M_Len.m k (⟨p_100.n, p_100.most, p_100.words, p_100.draws, p_100.fromF, p_100.skip, p_100.kind, p_100.e, p_100.ops ++ ([x1] : List Tapi_Op), p_100.blocks, p_100.val ++ ([v_119] : List Int), p_100.tape, p_100.dry⟩ : Tvisorref19_M)).bind fun v_135 => some (IntKind.i64.wrap (v_135 - 1), (⟨p_100.n, p_100.most, p_100.words, p_100.draws, p_100.fromF, p_100.skip, p_100.kind, p_100.e, p_100.ops ++ ([x1] : List Tapi_Op), p_100.blocks, p_100.val ++ ([v_119] : List Int), p_100.tape, p_100.dry⟩ : Tvisorref19_M)) else none) else none)
def visorref19_M_Do.j5 (k : Nat) (x1 : Tapi_Op) (p_84 : Int) (p_92 : Tvisorref19_M) : Option ((Int × Tvisorref19_M)) := (bif x1.kind == 2 then visorref19_M_Do.j6 k x1 p_84 (⟨p_92.n, p_92.most, IntKind.i64.wrap (p_92.words + 1), p_92.draws, p_92.fromF, p_92.skip, p_92.kind, p_92.e, p_92.ops, p_92.blocks, p_92.val, p_92.tape, p_92.dry⟩ : Tvisorref19_M) else visorref19_M_Do.j6 k x1 p_84 p_92)
def visorref19_M_Do.j4 (k : Nat) (x1 : Tapi_Op) (p_83 : Tvisorref19_M) (p_84 : Int) : Option ((Int × Tvisorref19_M)) := (bif x1.kind == 1 then visorref19_M_Do.j5 k x1 p_84 (⟨p_83.n, p_83.most, p_83.words, IntKind.i64.wrap (p_83.draws + 1), p_83.fromF, p_83.skip, p_83.kind, p_83.e, p_83.ops, p_83.blocks, p_83.val, p_83.tape, p_83.dry⟩ : Tvisorref19_M) else visorref19_M_Do.j5 k x1 p_84 p_83)
def visorref19_M_Do.j3 (k : Nat) (x1 : Tapi_Op) (p_74 : Int) (p_75 : Bool) (p_76 : Tvisorref19_M) : Option ((Int × Tvisorref19_M)) := (bif !p_75 then (visorref19_M_Fails.m k p_76 2).bind fun v_82 => some (v_82.1, v_82.2) else visorref19_M_Do.j4 k x1 p_76 p_74)
def visorref19_M_Do.j2 (k : Nat) (x0 : Tvisorref19_M) (x1 : Tapi_Op) (x2 : Int) (p_36 : Bool) : Option ((Int × Tvisorref19_M)) := (bif p_36 then (visorref19_M_Fails.m k x0 3).bind fun v_40 => some (v_40.1, v_40.2) else (bif (x1.kind == 1) && (!x0.dry) then (bif (decide (x0.tape.free < 1)) || (((x0.tape.l.length : Nat) : Int) == 0) then visorref19_M_Do.j3 k x1 0 false x0 else (if 0 ≤ (0 : Int) then (x0.tape.l[0]?).bind fun e_60 => (if ((0 : Int) ≤ 1) ∧ 1 ≤ x0.tape.l.length ∧ x0.tape.l.length ≤ x0.tape.l.length then visorref19_M_Do.j3 k x1 e_60 true (⟨x0.n, x0.most, x0.words, x0.draws, x0.fromF, x0.skip, x0.kind, x0.e, x0.ops, x0.blocks, x0.val, (⟨cut x0.tape.l (1) (x0.tape.l.length), IntKind.i64.wrap (x0.tape.used + 1), IntKind.i64.wrap (x0.tape.free - 1)⟩ : Tvisorref02_T), x0.dry⟩ : Tvisorref19_M) else none) else none)) else visorref19_M_Do.j4 k x1 x0 x2))
def visorref19_M_Do.j1 (k : Nat) (x0 : Tvisorref19_M) (x1 : Tapi_Op) (x2 : Int) (p_20 : Bool) : Option ((Int × Tvisorref19_M)) := (bif p_20 then (visorref19_M_Fails.m k x0 1).bind fun v_24 => some (v_24.1, v_24.2) else (bif !x0.dry then (visorref19_M_Len.m k x0).bind fun v_35 => visorref19_M_Do.j2 k x0 x1 x2 (decide (v_35 ≥ x0.most)) else visorref19_M_Do.j2 k x0 x1 x2 false))
abbrev visorref19_M_Do.R (κ : Ctx) (S : List HP) (x0 : Tvisorref19_M) (x1 : Tapi_Op) (x2 : Int) (b_x0 : Nat) (r : (Int × Tvisorref19_M)) : Ending → World → Prop := fun e w' => e = .returned (vi r.1) ∧ Ow κ w' (Tvisorref19_M.own κ b_x0 r.2 :: S)
def visorref19_M_Do.m (k : Nat) (x0 : Tvisorref19_M) (x1 : Tapi_Op) (x2 : Int) : Option (Int × Tvisorref19_M) := (bif x0.e != 0 then some ((-1), x0) else (visorref19_M_Len.m k x0).bind fun v_16 => (visorref17_Right.m k x1 v_16 x0.n).bind fun v_19 => (bif !v_19 then visorref19_M_Do.j1 k x0 x1 x2 true else (bif x1.kind == 2 then visorref19_M_Do.j1 k x0 x1 x2 (x1.c != (IntKind.u64.wrap x0.words)) else visorref19_M_Do.j1 k x0 x1 x2 false)))

set_option maxRecDepth 100000 in
set_option maxHeartbeats 4000000 in
theorem visorref19_M_Do.ok (k : Nat) (x0 : Tvisorref19_M) (x1 : Tapi_Op) (x2 : Int) (r : (Int × Tvisorref19_M)) (hm : visorref19_M_Do.m k x0 x1 x2 = some r) (κ : Ctx) (w : World) (S : List HP) (b_x0 : Nat) (ho : Ow κ w (Tvisorref19_M.own κ b_x0 x0 :: S)) :
  Calls Try.prog 55 #[pp b_x0, .agg (vals [ci x1.kind, ci x1.dom, ci x1.a, ci x1.b, ci x1.d, cw x1.c]), vw x2] w (visorref19_M_Do.R κ S x0 x1 x2 b_x0 r) := by
 unfold visorref19_M_Do.m at hm
 generalize hRR : visorref19_M_Do.R κ S x0 x1 x2 b_x0 r = RR
 refine qen [(0, pp b_x0), (1, .agg (vals [ci x1.kind, ci x1.dom, ci x1.a, ci x1.b, ci x1.d, cw x1.c])), (2, vw x2)] Try.func55 Try.ntmps55 ho fun a hs => ?_
 refine qsr fun K1 hK1 => ?_
 refine qbx 1 93 [ci x1.kind, ci x1.dom, ci x1.a, ci x1.b, ci x1.d, cw x1.c] 4 hs fun b_2 w a hs => ?_
 refine qpe 1 [(0, pp b_x0), (2, vw x2), (4, pp b_2)] hs fun a hs => hK1 _ _ ?_
 clear hK1
 refine Vk.seq fun K3 hK3 => ?_
 refine qsr fun K4 hK4 => ?_
 refine qpu 3 hs fun a hs => ?_
 obtain ⟨g_5, hs⟩ := hs.unbag 1 rfl
 refine qld 0 (ci x0.e) hs rfl fun a hs => ?_
 refine qpk 1 [0, 2, 4, 13] hs fun a hs => hK4 _ _ ?_
 clear hK4
 refine qcs (x0.e != 0) hs (fun hb => ?_) fun hb => ?_
 ·replace hm := bif_t hm hb
  refine qse 1 [(6, vi (-1))] hs fun a hs => ?_
  refine wp_ret ?_
  replace hs := hs.bagG (l := Tvisorref19_M.parts κ b_x0 x0 g_5) (S' := pt b_2 (blk (Tapi_Op.cells x1) 93) :: S) hs.own
  replace hs := hs.toEx (Tvisorref19_M.parts κ b_x0 x0) g_5 0 rfl
  exact qr1 (vi (-1)) hs rfl hRR (by cases hm; exact ⟨rfl, hs.own.f1.drop⟩)
 ·replace hm := bif_f hm hb
  refine wp_skip ?_
  refine hK3 _ _ ?_
  clear hK3
  refine Vk.seq fun K11 hK11 => ?_
  refine Vk.seq fun K12 hK12 => ?_
  have hj12 : ∀ (p_20 : Bool), visorref19_M_Do.j1 k x0 x1 x2 p_20 = some r → ∀ (a : Act) (w : World), St 137 a w κ [(0, pp b_x0), (2, vw x2), (4, pp b_2), (37, .bool p_20)] (Tvisorref19_M.own κ b_x0 x0 :: pt b_2 (blk (Tapi_Op.cells x1) 93) :: S) → K12 a w := by
   intro p_20 hm a w hs
   unfold visorref19_M_Do.j1 at hm
   refine hK12 _ _ ?_
   refine qcs (p_20) hs (fun hb => ?_) fun hb => ?_
   ·replace hm := bif_t hm hb
    refine qsr fun K21 hK21 => ?_
    refine qpu 1 hs fun a hs => ?_
    obtain ⟨v_24, h_23, hm⟩ := bind_t hm
    refine qcl (visorref19_M_Fails.ok _ _ _ _ h_23 _ _ _ b_x0 hs.own) hs fun w a hs => ?_
    refine qpe 1 [(6, vi v_24.1)] hs fun a hs => hK21 _ _ ?_
    clear hK21
    refine wp_ret ?_
    exact qr1 (vi v_24.1) hs rfl hRR (by cases hm; exact ⟨rfl, hs.own.f1.drop⟩)
   ·replace hm := bif_f hm hb
    refine wp_skip ?_
    refine hK11 _ _ ?_
    clear hK11
    refine Vk.seq fun K25 hK25 => ?_
    refine Vk.seq fun K26 hK26 => ?_
    have hj26 : ∀ (p_36 : Bool), visorref19_M_Do.j2 k x0 x1 x2 p_36 = some r → ∀ (a : Act) (w : World), St 137 a w κ [(0, pp b_x0), (2, vw x2), (4, pp b_2), (53, .bool p_36)] (Tvisorref19_M.own κ b_x0 x0 :: pt b_2 (blk (Tapi_Op.cells x1) 93) :: S) → K26 a w := by
     intro p_36 hm a w hs
     unfold visorref19_M_Do.j2 at hm
     refine hK26 _ _ ?_
     refine qcs (p_36) hs (fun hb => ?_) fun hb => ?_
     ·replace hm := bif_t hm hb
      refine qsr fun K37 hK37 => ?_
      refine qpu 1 hs fun a hs => ?_
      obtain ⟨v_40, h_39, hm⟩ := bind_t hm
      refine qcl (visorref19_M_Fails.ok _ _ _ _ h_39 _ _ _ b_x0 hs.own) hs fun w a hs => ?_
      refine qpe 1 [(6, vi v_40.1)] hs fun a hs => hK37 _ _ ?_
      clear hK37
      refine wp_ret ?_
      exact qr1 (vi v_40.1) hs rfl hRR (by cases hm; exact ⟨rfl, hs.own.f1.drop⟩)
     ·replace hm := bif_f hm hb
      refine wp_skip ?_
      refine hK25 _ _ ?_
      clear hK25
      refine Vk.seq fun K41 hK41 => ?_
      have hj41 : ∀ (p_83 : Tvisorref19_M) (p_84 : Int), visorref19_M_Do.j4 k x1 p_83 p_84 = some r → ∀ (a : Act) (w : World), St 137 a w κ [(0, pp b_x0), (2, vw p_84), (4, pp b_2)] (Tvisorref19_M.own κ b_x0 p_83 :: pt b_2 (blk (Tapi_Op.cells x1) 93) :: S) → K41 a w := by
       intro p_83 p_84 hm a w hs
       unfold visorref19_M_Do.j4 at hm
       refine hK41 _ _ ?_
       refine Vk.seq fun K85 hK85 => ?_
       have hj85 : ∀ (p_92 : Tvisorref19_M), visorref19_M_Do.j5 k x1 p_84 p_92 = some r → ∀ (a : Act) (w : World), St 137 a w κ [(0, pp b_x0), (2, vw p_84), (4, pp b_2)] (Tvisorref19_M.own κ b_x0 p_92 :: pt b_2 (blk (Tapi_Op.cells x1) 93) :: S) → K85 a w := by
        intro p_92 hm a w hs
        unfold visorref19_M_Do.j5 at hm
        refine hK85 _ _ ?_
        refine Vk.seq fun K93 hK93 => ?_
        have hj93 : ∀ (p_100 : Tvisorref19_M), visorref19_M_Do.j6 k x1 p_84 p_100 = some r → ∀ (a : Act) (w : World), St 137 a w κ [(0, pp b_x0), (2, vw p_84), (4, pp b_2)] (Tvisorref19_M.own κ b_x0 p_100 :: pt b_2 (blk (Tapi_Op.cells x1) 93) :: S) → K93 a w := by
         intro p_100 hm a w hs
         unfold visorref19_M_Do.j6 at hm
         refine hK93 _ _ ?_
         refine Vk.seq fun K101 hK101 => ?_
         obtain ⟨g_102, hs⟩ := hs.unbag 0 rfl
         obtain ⟨C_107, hC_107⟩ := qC hs.own.f3.drop
         refine qdr 22 κ C_107 hs fun w hs hqC_107 => ?_
         have hcl := qO hC_107 hs.own.f3.drop
         refine qdp (fuel := 14) [0, 1, 2, 3, 6, 7, 10, 11, 14, 15, 18] hs hcl hqC_107 fun a hs => ?_
         refine qdl 4 0 (C.slc g_102.2.2.2.2.1 p_100.val.length g_102.2.2.2.2.2.1) hs hcl hqC_107 hC_107 rfl fun a hs => ?_
         refine qdn 5 4 ([ci x1.kind, ci x1.dom, ci x1.a, ci x1.b, ci x1.d, cw x1.c]) hs hcl hqC_107 hC_107 rfl fun a hs => ?_
         refine qdl 8 4 (ci x1.a) hs hcl hqC_107 hC_107 rfl fun a hs => ?_
         refine qdl 12 4 (ci x1.b) hs hcl hqC_107 hC_107 rfl fun a hs => ?_
         refine qdl 16 4 (ci x1.d) hs hcl hqC_107 hC_107 rfl fun a hs => ?_
         replace hs := hs.bagG (l := Tvisorref19_M.parts κ b_x0 p_100 g_102) (S' := pt b_2 (blk (Tapi_Op.cells x1) 93) :: S) hs.own
         obtain ⟨v_110, h_109, hm⟩ := bind_t hm
         refine qdc 9 (visorref19_M_At.ok _ _ _ _ h_109 _ _ _ b_x0 g_102 hs.own) hs fun w a hs => ?_
         replace hs := hs.unbagAt 0 rfl
         replace hcl := qO hC_107 hs.own.f3.drop
         refine ⟨fun _ => hcl, ?_⟩
         replace hs := hs.bagG (l := Tvisorref19_M.parts κ b_x0 p_100 g_102) (S' := pt b_2 (blk (Tapi_Op.cells x1) 93) :: S) hs.own
         obtain ⟨v_113, h_112, hm⟩ := bind_t hm
         refine qdc 13 (visorref19_M_At.ok _ _ _ _ h_112 _ _ _ b_x0 g_102 hs.own) hs fun w a hs => ?_
         replace hs := hs.unbagAt 0 rfl
         replace hcl := qO hC_107 hs.own.f3.drop
         refine ⟨fun _ => hcl, ?_⟩
         replace hs := hs.bagG (l := Tvisorref19_M.parts κ b_x0 p_100 g_102) (S' := pt b_2 (blk (Tapi_Op.cells x1) 93) :: S) hs.own
         obtain ⟨v_116, h_115, hm⟩ := bind_t hm
         refine qdc 17 (visorref19_M_At.ok _ _ _ _ h_115 _ _ _ b_x0 g_102 hs.own) hs fun w a hs => ?_
         replace hs := hs.unbagAt 0 rfl
         replace hcl := qO hC_107 hs.own.f3.drop
         refine ⟨fun _ => hcl, ?_⟩
         obtain ⟨v_119, h_118, hm⟩ := bind_t hm
         refine qdc 19 (visorref17_Eval.ok _ _ _ _ _ _ _ h_118 _ _ (pt b_x0 (blk (Tvisorref19_M.obj p_100 g_102.1 g_102.2.1 g_102.2.2.1 g_102.2.2.2.1 g_102.2.2.2.2.1 g_102.2.2.2.2.2.1 g_102.2.2.2.2.2.2.1 g_102.2.2.2.2.2.2.2) 64) :: rowp g_102.1 g_102.2.1 93 6 Tapi_Op.cells p_100.ops :: rowp g_102.2.2.1 g_102.2.2.2.1 175 3 Tapi_Span.cells p_100.blocks :: rowp g_102.2.2.2.2.1 g_102.2.2.2.2.2.1 32 1 (eI .u64) p_100.val :: rdp κ g_102.2.2.2.2.2.2.1 g_102.2.2.2.2.2.2.2 1 (eI .u64) p_100.tape.l :: pt b_2 (blk (Tapi_Op.cells x1) 93) :: S) hs.own) hs fun w a hs => ?_
         replace hcl := qO hC_107 hs.own.f3.drop
         refine ⟨fun _ => hcl, ?_⟩
         refine Vk.dOnly (i := 20) (by kernel_rfl) (Vk.buildOp (sz := 1) (by_ := 8) (t := 25) (e := 32) (parts := #[(0, (.tmp 119))]) (zs := vals [cw 0]) ([v_119] : List Int) (eI .u64) (some 120) hs (by kernel_rfl) (by kernel_rfl) (by kernel_rfl) (by kernel_rfl) (by decide) rfl (fun x _ => rfl) (Nat.le_of_ble_eq_true (by kernel_rfl)) (by kernel_rfl) fun A_120 w a hs => ?_)
         replace hcl := qO hC_107 hs.own.f4.drop.drop
         refine ⟨fun _ => hcl, ?_⟩
         obtain ⟨h_122, hm⟩ := ite_t hm
         refine Vk.dOnly (i := 21) (by kernel_rfl) (Vk.appendOp (x := (.tmp 104)) (y := (.tmp 120)) (e := 32) (t := 25) (by_ := 8) (sz := 1) (enc := (eI .u64)) (A := g_102.2.2.2.2.1) (cap := g_102.2.2.2.2.2.1) (xs := p_100.val) (ys := ([v_119] : List Int)) (B := A_120) (c2 := 1) 4 (some 121) hs (by kernel_rfl) (by kernel_rfl) (by kernel_rfl) (by kernel_rfl) rfl (Sl.lift (fun w ho => (Ow.to (S' := rowp A_120 1 32 1 (eI .u64) ([v_119] : List Int) :: S) ho [0] 7 (by kernel_rfl) (by kernel_rfl))) (Ow.rowSl 0 (Ow.to (S' := rowp A_120 1 32 1 (eI .u64) ([v_119] : List Int) :: S) hs.own [0] 7 (by kernel_rfl) (by kernel_rfl)) rfl)) (by kernel_rfl) (by kernel_rfl) (by decide) (by decide) h_122 fun A_123 c_124 w a hs => ?_)
         replace hcl := qO hC_107 hs.own.f4.drop.drop
         refine ⟨fun _ => hcl, ?_⟩
         refine Vk.dOnly (i := 22) (by kernel_rfl) (Vk.dPure1 [(122, pp b_x0)] hs (by kernel_rfl) fun a hs => ?_)
         refine ⟨fun h => absurd h (by decide), ?_⟩
         refine Vk.dOnly (i := 23) (by kernel_rfl) (Vk.dPure1 [(123, .pointer (some ⟨b_x0, 10, none⟩))] hs (by kernel_rfl) fun a hs => ?_)
         refine ⟨fun h => absurd h (by decide), ?_⟩
         refine qsd 24 1 10 (C.slc A_123 ((p_100.val ++ ([v_119] : List Int)).length) c_124) hs rfl fun a w hs => ?_
         refine ⟨fun h => absurd h (by decide), ?_⟩
         replace hs := hs.pick [0, 4] (L' := [(0, pp b_x0), (4, pp b_2)]) (by kernel_rfl)
         refine Vk.dDone (by kernel_rfl) ?_
         refine hK101 _ _ ?_
         clear hK101
         refine Vk.seq fun K125 hK125 => ?_
         obtain ⟨C_126, hC_126⟩ := qC hs.own.f2.drop
         refine qdr 8 κ C_126 hs fun w hs hqC_126 => ?_
         have hcl := qO hC_126 hs.own.f2.drop
         refine qdp (fuel := 7) [0, 1, 2, 3] hs hcl hqC_126 fun a hs => ?_
         refine qdl 4 1 (C.slc g_102.1 p_100.ops.length g_102.2.1) hs hcl hqC_126 hC_126 rfl fun a hs => ?_
         refine qdn 5 5 ([ci x1.kind, ci x1.dom, ci x1.a, ci x1.b, ci x1.d, cw x1.c]) hs hcl hqC_126 hC_126 rfl fun a hs => ?_
         refine Vk.dOnly (i := 6) (by kernel_rfl) (Vk.buildOp (sz := 6) (by_ := 48) (t := 59) (e := 93) (parts := #[(0, (.tmp 129))]) (zs := vals [ci 0, ci 0, ci 0, ci 0, ci 0, cw 0]) ([x1] : List Tapi_Op) Tapi_Op.cells (some 130) hs (by kernel_rfl) (by kernel_rfl) (by kernel_rfl) (by kernel_rfl) (by decide) rfl (fun x _ => rfl) (Nat.le_of_ble_eq_true (by kernel_rfl)) (by kernel_rfl) fun A_127 w a hs => ?_)
         replace hcl := qO hC_126 hs.own.f3.drop.drop
         refine ⟨fun _ => hcl, ?_⟩
         obtain ⟨h_129, hm⟩ := ite_t hm
         refine Vk.dOnly (i := 7) (by kernel_rfl) (Vk.appendOp (x := (.tmp 128)) (y := (.tmp 130)) (e := 93) (t := 59) (by_ := 48) (sz := 6) (enc := Tapi_Op.cells) (A := g_102.1) (cap := g_102.2.1) (xs := p_100.ops) (ys := ([x1] : List Tapi_Op)) (B := A_127) (c2 := 1) 3 (some 131) hs (by kernel_rfl) (by kernel_rfl) (by kernel_rfl) (by kernel_rfl) rfl (Sl.lift (fun w ho => (Ow.to (S' := rowp A_127 1 93 6 Tapi_Op.cells ([x1] : List Tapi_Op) :: S) ho [0] 8 (by kernel_rfl) (by kernel_rfl))) (Ow.rowSl 0 (Ow.to (S' := rowp A_127 1 93 6 Tapi_Op.cells ([x1] : List Tapi_Op) :: S) hs.own [0] 8 (by kernel_rfl) (by kernel_rfl)) rfl)) (by kernel_rfl) (by kernel_rfl) (by decide) (by decide) h_129 fun A_130 c_131 w a hs => ?_)
         replace hcl := qO hC_126 hs.own.f3.drop.drop
         refine ⟨fun _ => hcl, ?_⟩
         refine Vk.dOnly (i := 8) (by kernel_rfl) (Vk.dPure1 [(132, pp b_x0)] hs (by kernel_rfl) fun a hs => ?_)
         refine ⟨fun h => absurd h (by decide), ?_⟩
         refine Vk.dOnly (i := 9) (by kernel_rfl) (Vk.dPure1 [(133, .pointer (some ⟨b_x0, 8, none⟩))] hs (by kernel_rfl) fun a hs => ?_)
         refine ⟨fun h => absurd h (by decide), ?_⟩
         refine qsd 10 2 8 (C.slc A_130 ((p_100.ops ++ ([x1] : List Tapi_Op)).length) c_131) hs rfl fun a w hs => ?_
         refine ⟨fun h => absurd h (by decide), ?_⟩
         replace hs := hs.pick [0] (L' := [(0, pp b_x0)]) (by kernel_rfl)
         refine Vk.dDone (by kernel_rfl) ?_
         refine hK125 _ _ ?_
         clear hK125
         refine qsr fun K132 hK132 => ?_
         refine qpu 1 hs fun a hs => ?_
         replace hs := hs.bagG (l := Tvisorref19_M.parts κ b_x0 (⟨p_100.n, p_100.most, p_100.words, p_100.draws, p_100.fromF, p_100.skip, p_100.kind, p_100.e, p_100.ops ++ ([x1] : List Tapi_Op), p_100.blocks, p_100.val ++ ([v_119] : List Int), p_100.tape, p_100.dry⟩ : Tvisorref19_M) (A_130, c_131, g_102.2.2.1, g_102.2.2.2.1, A_123, c_124, g_102.2.2.2.2.2.2.1, g_102.2.2.2.2.2.2.2)) (S' := rowp A_127 1 93 6 Tapi_Op.cells ([x1] : List Tapi_Op) :: rowp A_120 1 32 1 (eI .u64) ([v_119] : List Int) :: pt b_2 (blk (Tapi_Op.cells x1) 93) :: S) hs.own.f6.f6.f6.f6.f6
         obtain ⟨v_135, h_134, hm⟩ := bind_t hm
         refine qcl (visorref19_M_Len.ok _ _ _ h_134 _ _ _ b_x0 (A_130, c_131, g_102.2.2.1, g_102.2.2.2.1, A_123, c_124, g_102.2.2.2.2.2.2.1, g_102.2.2.2.2.2.2.2) hs.own) hs fun w a hs => ?_
         replace hs := hs.unbagAt 0 rfl
         refine qpk 2 [6] hs fun a hs => hK132 _ _ ?_
         clear hK132
         refine wp_ret ?_
         replace hs := hs.bagG (l := Tvisorref19_M.parts κ b_x0 (⟨p_100.n, p_100.most, p_100.words, p_100.draws, p_100.fromF, p_100.skip, p_100.kind, p_100.e, p_100.ops ++ ([x1] : List Tapi_Op), p_100.blocks, p_100.val ++ ([v_119] : List Int), p_100.tape, p_100.dry⟩ : Tvisorref19_M) (A_130, c_131, g_102.2.2.1, g_102.2.2.2.1, A_123, c_124, g_102.2.2.2.2.2.2.1, g_102.2.2.2.2.2.2.2)) (S' := rowp A_127 1 93 6 Tapi_Op.cells ([x1] : List Tapi_Op) :: rowp A_120 1 32 1 (eI .u64) ([v_119] : List Int) :: pt b_2 (blk (Tapi_Op.cells x1) 93) :: S) hs.own
         replace hs := hs.toEx (Tvisorref19_M.parts κ b_x0 (⟨p_100.n, p_100.most, p_100.words, p_100.draws, p_100.fromF, p_100.skip, p_100.kind, p_100.e, p_100.ops ++ ([x1] : List Tapi_Op), p_100.blocks, p_100.val ++ ([v_119] : List Int), p_100.tape, p_100.dry⟩ : Tvisorref19_M)) (A_130, c_131, g_102.2.2.1, g_102.2.2.2.1, A_123, c_124, g_102.2.2.2.2.2.2.1, g_102.2.2.2.2.2.2.2) 0 rfl
         exact qr1 (vi (IntKind.i64.wrap (v_135 - 1))) hs rfl hRR (by cases hm; exact ⟨rfl, (hs.own.too [0] 4)⟩)
        refine qsr fun K94 hK94 => ?_
        refine qpu 1 hs fun a hs => ?_
        refine qld 1 (ci x1.kind) hs rfl fun a hs => ?_
        refine qpe 1 [(0, pp b_x0), (2, vw p_84), (4, pp b_2), (91, .bool (x1.kind == 2))] hs fun a hs => hK94 _ _ ?_
        clear hK94
        refine qcs (x1.kind == 2) hs (fun hb => ?_) fun hb => ?_
        ·replace hm := bif_t hm hb
         refine Vk.region ?_
         refine qpu 4 hs fun a hs => ?_
         obtain ⟨g_95, hs⟩ := hs.unbag 0 rfl
         refine qld 0 (ci p_92.words) hs rfl fun a hs => ?_
         refine qpu 3 hs fun a hs => ?_
         refine qst 0 2 (ci (IntKind.i64.wrap (p_92.words + 1))) hs rfl fun a w hs => ?_
         refine qpe 0 [(0, pp b_x0), (2, vw p_84), (4, pp b_2)] hs fun a hs => ?_
         replace hs := hs.bagG (l := Tvisorref19_M.parts κ b_x0 (⟨p_92.n, p_92.most, IntKind.i64.wrap (p_92.words + 1), p_92.draws, p_92.fromF, p_92.skip, p_92.kind, p_92.e, p_92.ops, p_92.blocks, p_92.val, p_92.tape, p_92.dry⟩ : Tvisorref19_M) g_95) (S' := pt b_2 (blk (Tapi_Op.cells x1) 93) :: S) hs.own
         replace hs := hs.toEx (Tvisorref19_M.parts κ b_x0 (⟨p_92.n, p_92.most, IntKind.i64.wrap (p_92.words + 1), p_92.draws, p_92.fromF, p_92.skip, p_92.kind, p_92.e, p_92.ops, p_92.blocks, p_92.val, p_92.tape, p_92.dry⟩ : Tvisorref19_M)) g_95 0 rfl
         exact hj93 (⟨p_92.n, p_92.most, IntKind.i64.wrap (p_92.words + 1), p_92.draws, p_92.fromF, p_92.skip, p_92.kind, p_92.e, p_92.ops, p_92.blocks, p_92.val, p_92.tape, p_92.dry⟩ : Tvisorref19_M) hm _ _ (hs.go [0, 2, 4] [0, 1] 2 (by kernel_rfl) (by kernel_rfl) (by kernel_rfl))
        ·replace hm := bif_f hm hb
         refine wp_skip ?_
         exact hj93 p_92 hm _ _ (hs.go [0, 2, 4] [0, 1] 2 (by kernel_rfl) (by kernel_rfl) (by kernel_rfl))
       refine qsr fun K86 hK86 => ?_
       refine qpu 1 hs fun a hs => ?_
       refine qld 1 (ci x1.kind) hs rfl fun a hs => ?_
       refine qpe 1 [(0, pp b_x0), (2, vw p_84), (4, pp b_2), (80, .bool (x1.kind == 1))] hs fun a hs => hK86 _ _ ?_
       clear hK86
       refine qcs (x1.kind == 1) hs (fun hb => ?_) fun hb => ?_
       ·replace hm := bif_t hm hb
        refine Vk.region ?_
        refine qpu 4 hs fun a hs => ?_
        obtain ⟨g_87, hs⟩ := hs.unbag 0 rfl
        refine qld 0 (ci p_83.draws) hs rfl fun a hs => ?_
        refine qpu 3 hs fun a hs => ?_
        refine qst 0 3 (ci (IntKind.i64.wrap (p_83.draws + 1))) hs rfl fun a w hs => ?_
        refine qpe 0 [(0, pp b_x0), (2, vw p_84), (4, pp b_2)] hs fun a hs => ?_
        replace hs := hs.bagG (l := Tvisorref19_M.parts κ b_x0 (⟨p_83.n, p_83.most, p_83.words, IntKind.i64.wrap (p_83.draws + 1), p_83.fromF, p_83.skip, p_83.kind, p_83.e, p_83.ops, p_83.blocks, p_83.val, p_83.tape, p_83.dry⟩ : Tvisorref19_M) g_87) (S' := pt b_2 (blk (Tapi_Op.cells x1) 93) :: S) hs.own
        replace hs := hs.toEx (Tvisorref19_M.parts κ b_x0 (⟨p_83.n, p_83.most, p_83.words, IntKind.i64.wrap (p_83.draws + 1), p_83.fromF, p_83.skip, p_83.kind, p_83.e, p_83.ops, p_83.blocks, p_83.val, p_83.tape, p_83.dry⟩ : Tvisorref19_M)) g_87 0 rfl
        exact hj85 (⟨p_83.n, p_83.most, p_83.words, IntKind.i64.wrap (p_83.draws + 1), p_83.fromF, p_83.skip, p_83.kind, p_83.e, p_83.ops, p_83.blocks, p_83.val, p_83.tape, p_83.dry⟩ : Tvisorref19_M) hm _ _ (hs.go [0, 2, 4] [0, 1] 2 (by kernel_rfl) (by kernel_rfl) (by kernel_rfl))
       ·replace hm := bif_f hm hb
        refine wp_skip ?_
        exact hj85 p_83 hm _ _ (hs.go [0, 2, 4] [0, 1] 2 (by kernel_rfl) (by kernel_rfl) (by kernel_rfl))
      refine qsr fun K42 hK42 => ?_
      refine qpu 1 hs fun a hs => ?_
      refine qld 1 (ci x1.kind) hs rfl fun a hs => ?_
      refine qpu 2 hs fun a hs => ?_
      obtain ⟨g_43, hs⟩ := hs.unbag 0 rfl
      suffices hj_48 : ∀ a, St 137 a w κ [(0, pp b_x0), (2, vw x2), (4, pp b_2), (53, .bool p_36), (56, pp b_2), (57, vi x1.kind), (58, .bool (x1.kind == 1)), (59, .bool (x1.kind == 1)), (65, .bool ((x1.kind == 1) && (!x0.dry)))] (pt b_x0 (blk (Tvisorref19_M.obj x0 g_43.1 g_43.2.1 g_43.2.2.1 g_43.2.2.2.1 g_43.2.2.2.2.1 g_43.2.2.2.2.2.1 g_43.2.2.2.2.2.2.1 g_43.2.2.2.2.2.2.2) 64) :: rowp g_43.1 g_43.2.1 93 6 Tapi_Op.cells x0.ops :: rowp g_43.2.2.1 g_43.2.2.2.1 175 3 Tapi_Span.cells x0.blocks :: rowp g_43.2.2.2.2.1 g_43.2.2.2.2.2.1 32 1 (eI .u64) x0.val :: rdp κ g_43.2.2.2.2.2.2.1 g_43.2.2.2.2.2.2.2 1 (eI .u64) x0.tape.l :: pt b_2 (blk (Tapi_Op.cells x1) 93) :: S) → wpFrom Try.prog _ _ 10 a w by
       rcases Bool.eq_false_or_eq_true (x1.kind == 1) with hb | hb
       ·replace hs := hs.known (t := 59) hb (by kernel_rfl)
        refine qpu 3 hs fun a hs => ?_
        refine qld 0 (C.bool x0.dry) hs rfl fun a hs => ?_
        refine qpu 2 hs fun a hs => ?_
        have hq := hs.pick [0, 2, 4, 53, 56, 57, 58, 59, 65] (L' := [(0, pp b_x0), (2, vw x2), (4, pp b_2), (53, .bool p_36), (56, pp b_2), (57, vi x1.kind), (58, .bool (x1.kind == 1)), (59, .bool true), (65, .bool (!x0.dry))]) (by kernel_rfl)
        exact hj_48 _ (hq.conv (by first | (rw [hb] <;> rfl) | rfl))
       ·replace hs := hs.known (t := 59) hb (by kernel_rfl)
        refine qpu 6 hs fun a hs => ?_
        have hq := hs.pick [0, 2, 4, 53, 56, 57, 58, 59, 65] (L' := [(0, pp b_x0), (2, vw x2), (4, pp b_2), (53, .bool p_36), (56, pp b_2), (57, vi x1.kind), (58, .bool (x1.kind == 1)), (59, .bool false), (65, .bool false)]) (by kernel_rfl)
        exact hj_48 _ (hq.conv (by first | (rw [hb] <;> rfl) | rfl))
      intro a hs
      refine qpk 0 [0, 2, 4, 65] hs fun a hs => hK42 _ _ ?_
      clear hK42
      refine qcs ((x1.kind == 1) && (!x0.dry)) hs (fun hb => ?_) fun hb => ?_
      ·replace hm := bif_t hm hb
       refine qsr fun K49 hK49 => ?_
       refine qpu 3 hs fun a hs => ?_
       refine Vk.step (Vk.call (some 70) 129 #[.pointer (some ⟨b_x0, 11, none⟩)] hs (by kernel_rfl) (by kernel_rfl) (by kernel_rfl) ?_)
       refine Vk.enterI [(0, .pointer (some ⟨b_x0, 11, none⟩))] Try.func129 rfl Try.ntmps129 (by kernel_rfl) (Nat.le_of_ble_eq_true (by kernel_rfl)) hs.own fun KR50 hKR50 hKP50 a hs => ?_
       have hj50 : ∀ (p_74 : Int) (p_75 : Bool) (p_76 : Tvisorref19_M), visorref19_M_Do.j3 k x1 p_74 p_75 p_76 = some r → ∀ (a : Act) (w : World), St 49 a w κ [(2, vw p_74), (3, .bool p_75)] (Tvisorref19_M.own κ b_x0 p_76 :: pt b_2 (blk (Tapi_Op.cells x1) 93) :: S) → KR50 a w := by
        intro p_74 p_75 p_76 hm a w hs
        unfold visorref19_M_Do.j3 at hm
        refine hKR50 _ _ ?_
        refine Vk.ret2 (P := Try.prog) (fn := Try.f129) (vw p_74) (.bool p_75) hs rfl (by kernel_rfl) (by kernel_rfl) ⟨_, _, _, rfl, hs.own, fun a hs => ?_⟩
        refine qpk 5 [0, 4, 7, 8] hs fun a hs => hK49 _ _ ?_
        clear hK49
        refine Vk.seq fun K77 hK77 => ?_
        refine qsk 2 [0, 4, 7, 74] hs fun a hs => ?_
        refine qcs (!p_75) hs (fun hb => ?_) fun hb => ?_
        ·replace hm := bif_t hm hb
         refine qsr fun K79 hK79 => ?_
         refine qpu 1 hs fun a hs => ?_
         obtain ⟨v_82, h_81, hm⟩ := bind_t hm
         refine qcl (visorref19_M_Fails.ok _ _ _ _ h_81 _ _ _ b_x0 hs.own) hs fun w a hs => ?_
         refine qpe 1 [(6, vi v_82.1)] hs fun a hs => hK79 _ _ ?_
         clear hK79
         refine wp_ret ?_
         exact qr1 (vi v_82.1) hs rfl hRR (by cases hm; exact ⟨rfl, hs.own.f1.drop⟩)
        ·replace hm := bif_f hm hb
         refine wp_skip ?_
         refine hK77 _ _ ?_
         clear hK77
         refine Vk.region ?_
         refine qpe 2 [(0, pp b_x0), (2, vw p_74), (4, pp b_2)] hs fun a hs => ?_
         exact hj41 p_76 p_74 hm _ _ (hs.go [0, 2, 4] [0, 1] 2 (by kernel_rfl) (by kernel_rfl) (by kernel_rfl))
       refine qse 2 [(0, .pointer (some ⟨b_x0, 11, none⟩))] hs fun a hs => ?_
       refine Vk.seq fun K52 hK52 => ?_
       refine qsr fun K53 hK53 => ?_
       refine qpu 3 hs fun a hs => ?_
       refine qld 0 (ci x0.tape.free) hs rfl fun a hs => ?_
       refine qpu 2 hs fun a hs => ?_
       suffices hj_54 : ∀ a, St 49 a w κ [(0, .pointer (some ⟨b_x0, 11, none⟩)), (5, .pointer (some ⟨b_x0, 11, none⟩)), (6, .pointer (some ⟨b_x0, 11, none⟩)), (7, .pointer (some ⟨b_x0, 13, none⟩)), (8, vi x0.tape.free), (9, .bool (decide (x0.tape.free < 1))), (10, .bool (decide (x0.tape.free < 1))), (17, .bool ((decide (x0.tape.free < 1)) || (((x0.tape.l.length : Nat) : Int) == 0)))] (pt b_x0 (blk (Tvisorref19_M.obj x0 g_43.1 g_43.2.1 g_43.2.2.1 g_43.2.2.2.1 g_43.2.2.2.2.1 g_43.2.2.2.2.2.1 g_43.2.2.2.2.2.2.1 g_43.2.2.2.2.2.2.2) 64) :: rowp g_43.1 g_43.2.1 93 6 Tapi_Op.cells x0.ops :: rowp g_43.2.2.1 g_43.2.2.2.1 175 3 Tapi_Span.cells x0.blocks :: rowp g_43.2.2.2.2.1 g_43.2.2.2.2.2.1 32 1 (eI .u64) x0.val :: rdp κ g_43.2.2.2.2.2.2.1 g_43.2.2.2.2.2.2.2 1 (eI .u64) x0.tape.l :: pt b_2 (blk (Tapi_Op.cells x1) 93) :: S) → wpFrom Try.prog _ _ 13 a w by
        rcases Bool.eq_false_or_eq_true (decide (x0.tape.free < 1)) with hb | hb
        ·replace hs := hs.known (t := 10) hb (by kernel_rfl)
         refine qpu 7 hs fun a hs => ?_
         have hq := hs.pick [0, 5, 6, 7, 8, 9, 10, 17] (L' := [(0, .pointer (some ⟨b_x0, 11, none⟩)), (5, .pointer (some ⟨b_x0, 11, none⟩)), (6, .pointer (some ⟨b_x0, 11, none⟩)), (7, .pointer (some ⟨b_x0, 13, none⟩)), (8, vi x0.tape.free), (9, .bool (decide (x0.tape.free < 1))), (10, .bool true), (17, .bool true)]) (by kernel_rfl)
         exact hj_54 _ (hq.conv (by first | (rw [hb] <;> rfl) | rfl))
        ·replace hs := hs.known (t := 10) hb (by kernel_rfl)
         refine qpu 3 hs fun a hs => ?_
         refine qld 0 (C.slc g_43.2.2.2.2.2.2.1 x0.tape.l.length g_43.2.2.2.2.2.2.2) hs rfl fun a hs => ?_
         refine qpu 3 hs fun a hs => ?_
         have hq := hs.pick [0, 5, 6, 7, 8, 9, 10, 17] (L' := [(0, .pointer (some ⟨b_x0, 11, none⟩)), (5, .pointer (some ⟨b_x0, 11, none⟩)), (6, .pointer (some ⟨b_x0, 11, none⟩)), (7, .pointer (some ⟨b_x0, 13, none⟩)), (8, vi x0.tape.free), (9, .bool (decide (x0.tape.free < 1))), (10, .bool false), (17, .bool (((x0.tape.l.length : Nat) : Int) == 0))]) (by kernel_rfl)
         exact hj_54 _ (hq.conv (by first | (rw [hb] <;> rfl) | rfl))
       intro a hs
       refine qpk 0 [0, 17] hs fun a hs => hK53 _ _ ?_
       clear hK53
       refine qcs ((decide (x0.tape.free < 1)) || (((x0.tape.l.length : Nat) : Int) == 0)) hs (fun hb => ?_) fun hb => ?_
       ·replace hm := bif_t hm hb
        refine qse 2 [(2, vw 0), (3, .bool false)] hs fun a hs => ?_
        refine wp_ret ?_
        refine hKP50 _ _ ?_
        replace hs := hs.bagG (l := Tvisorref19_M.parts κ b_x0 x0 g_43) (S' := pt b_2 (blk (Tapi_Op.cells x1) 93) :: S) hs.own
        replace hs := hs.toEx (Tvisorref19_M.parts κ b_x0 x0) g_43 0 rfl
        exact hj50 0 false x0 hm _ _ (hs.go [2, 3] [0, 1] 2 (by kernel_rfl) (by kernel_rfl) (by kernel_rfl))
       ·replace hm := bif_f hm hb
        refine wp_skip ?_
        refine hK52 _ _ ?_
        clear hK52
        refine qsr fun K56 hK56 => ?_
        refine qpu 3 hs fun a hs => ?_
        refine qld 0 (C.slc g_43.2.2.2.2.2.2.1 x0.tape.l.length g_43.2.2.2.2.2.2.2) hs rfl fun a hs => ?_
        obtain ⟨h_57, hm⟩ := ite_t hm
        obtain ⟨e_60, h_58, hm⟩ := bind_t hm
        obtain ⟨b_61, o_62, hA_63, h_59⟩ := Sl.elem (Ow.rdSl 0 (Ow.to (S' := rdp κ g_43.2.2.2.2.2.2.1 g_43.2.2.2.2.2.2.2 1 (eI .u64) x0.tape.l :: S) hs.own [4] 6 (by kernel_rfl) (by kernel_rfl)) rfl) h_58
        refine qva (.pointer (some ⟨b_61, o_62 + 0 * 1, none⟩)) (op := (.indexAddr 25 (.tmp 21) (.const (vi 0)))) hs (fun o ho => run_idxSlc (k := .i64) ho (cap := g_43.2.2.2.2.2.2.2) (len := x0.tape.l.length) ((congrArg (fun A => Value.slice A (x0.tape.l.length) (g_43.2.2.2.2.2.2.2)) hA_63) ▸ (by kernel_rfl)) (by kernel_rfl) (by kernel_rfl) (idx_ok h_57 h_58) _) fun a hs => ?_
        refine qva (vw e_60) (op := (.load 32 (.tmp 22))) hs (fun o ho => run_load1 (c := cw e_60) ho (by kernel_rfl) (by kernel_rfl) (fun w ho => h_59 w ho 0 _ rfl) _ (Ow.to (S' := rdp κ g_43.2.2.2.2.2.2.1 g_43.2.2.2.2.2.2.2 1 (eI .u64) x0.tape.l :: S) hs.own [4] 6 (by kernel_rfl) (by kernel_rfl))) fun a hs => ?_
        refine qpk 1 [0, 4] hs fun a hs => hK56 _ _ ?_
        clear hK56
        refine qsr fun K64 hK64 => ?_
        refine qpu 4 hs fun a hs => ?_
        refine qld 0 (C.slc g_43.2.2.2.2.2.2.1 x0.tape.l.length g_43.2.2.2.2.2.2.2) hs rfl fun a hs => ?_
        obtain ⟨h_65, hm⟩ := ite_t hm
        obtain ⟨A_66, c_67, eA_68, ec_69, hx_70⟩ := Sl.sub (Ow.rdSl 0 (Ow.to (S' := rdp κ g_43.2.2.2.2.2.2.1 g_43.2.2.2.2.2.2.2 1 (eI .u64) x0.tape.l :: S) hs.own [4] 6 (by kernel_rfl) (by kernel_rfl)) rfl) h_65.2
        refine qva (.slice A_66 ((cut x0.tape.l (1) (x0.tape.l.length)).length) c_67) (op := (.slice 25 (.tmp 28) (some (.const (vi 1))) none none)) hs (fun o ho => run_sub (sz := 1) (e := 32) h_65.2 eA_68 ec_69 (Sl.le (Ow.rdSl 0 (Ow.to (S' := rdp κ g_43.2.2.2.2.2.2.1 g_43.2.2.2.2.2.2.2 1 (eI .u64) x0.tape.l :: S) hs.own [4] 6 (by kernel_rfl) (by kernel_rfl)) rfl)) ho (by kernel_rfl) (by kernel_rfl) (by kernel_rfl) ⟨.i64, 1, by kernel_rfl, h_65.1, rfl⟩ rfl _) fun a hs => ?_
        replace hs := hs.cutRd 4 rfl h_65.2 eA_68 ec_69
        refine qpu 2 hs fun a hs => ?_
        refine qst 0 11 (C.slc A_66 ((cut x0.tape.l (1) (x0.tape.l.length)).length) c_67) hs rfl fun a w hs => ?_
        refine qpk 0 [0, 4] hs fun a hs => hK64 _ _ ?_
        clear hK64
        refine qsr fun K71 hK71 => ?_
        refine qpu 4 hs fun a hs => ?_
        refine qld 0 (ci x0.tape.free) hs rfl fun a hs => ?_
        refine qpu 3 hs fun a hs => ?_
        refine qst 0 13 (ci (IntKind.i64.wrap (x0.tape.free - 1))) hs rfl fun a w hs => ?_
        refine qpk 0 [0, 4] hs fun a hs => hK71 _ _ ?_
        clear hK71
        refine qsr fun K72 hK72 => ?_
        refine qpu 4 hs fun a hs => ?_
        refine qld 0 (ci x0.tape.used) hs rfl fun a hs => ?_
        refine qpu 3 hs fun a hs => ?_
        refine qst 0 12 (ci (IntKind.i64.wrap (x0.tape.used + 1))) hs rfl fun a w hs => ?_
        refine qpe 0 [(4, vw e_60)] hs fun a hs => hK72 _ _ ?_
        clear hK72
        refine qse 3 [(2, vw e_60), (3, .bool true)] hs fun a hs => ?_
        refine wp_ret ?_
        refine hKP50 _ _ ?_
        replace hs := hs.bagG (l := Tvisorref19_M.parts κ b_x0 (⟨x0.n, x0.most, x0.words, x0.draws, x0.fromF, x0.skip, x0.kind, x0.e, x0.ops, x0.blocks, x0.val, (⟨cut x0.tape.l (1) (x0.tape.l.length), IntKind.i64.wrap (x0.tape.used + 1), IntKind.i64.wrap (x0.tape.free - 1)⟩ : Tvisorref02_T), x0.dry⟩ : Tvisorref19_M) (g_43.1, g_43.2.1, g_43.2.2.1, g_43.2.2.2.1, g_43.2.2.2.2.1, g_43.2.2.2.2.2.1, A_66, c_67)) (S' := pt b_2 (blk (Tapi_Op.cells x1) 93) :: S) hs.own
        replace hs := hs.toEx (Tvisorref19_M.parts κ b_x0 (⟨x0.n, x0.most, x0.words, x0.draws, x0.fromF, x0.skip, x0.kind, x0.e, x0.ops, x0.blocks, x0.val, (⟨cut x0.tape.l (1) (x0.tape.l.length), IntKind.i64.wrap (x0.tape.used + 1), IntKind.i64.wrap (x0.tape.free - 1)⟩ : Tvisorref02_T), x0.dry⟩ : Tvisorref19_M)) (g_43.1, g_43.2.1, g_43.2.2.1, g_43.2.2.2.1, g_43.2.2.2.2.1, g_43.2.2.2.2.2.1, A_66, c_67) 0 rfl
        exact hj50 e_60 true (⟨x0.n, x0.most, x0.words, x0.draws, x0.fromF, x0.skip, x0.kind, x0.e, x0.ops, x0.blocks, x0.val, (⟨cut x0.tape.l (1) (x0.tape.l.length), IntKind.i64.wrap (x0.tape.used + 1), IntKind.i64.wrap (x0.tape.free - 1)⟩ : Tvisorref02_T), x0.dry⟩ : Tvisorref19_M) hm _ _ (hs.go [2, 3] [0, 1] 2 (by kernel_rfl) (by kernel_rfl) (by kernel_rfl))
      ·replace hm := bif_f hm hb
       refine wp_skip ?_
       replace hs := hs.bagG (l := Tvisorref19_M.parts κ b_x0 x0 g_43) (S' := pt b_2 (blk (Tapi_Op.cells x1) 93) :: S) hs.own
       replace hs := hs.toEx (Tvisorref19_M.parts κ b_x0 x0) g_43 0 rfl
       exact hj41 x0 x2 hm _ _ (hs.go [0, 2, 4] [0, 1] 2 (by kernel_rfl) (by kernel_rfl) (by kernel_rfl))
    obtain ⟨g_27, hs⟩ := hs.unbag 0 rfl
    obtain ⟨C_32, hC_32⟩ := qC hs.own
    refine qdr 14 κ C_32 hs fun w hs hqC_32 => ?_
    have hcl := qO hC_32 hs.own
    refine qdp (fuel := 11) [0, 1, 2] hs hcl hqC_32 fun a hs => ?_
    refine qdl 3 0 (C.bool x0.dry) hs hcl hqC_32 hC_32 rfl fun a hs => ?_
    refine qdp (fuel := 8) [4, 5] hs hcl hqC_32 fun a hs => ?_
    rcases Bool.eq_false_or_eq_true (!x0.dry) with hb | hb
    ·replace hm := bif_t hm hb
     replace hs := hs.known (t := 45) hb (by kernel_rfl)
     refine qdp (fuel := 4) [6, 8, 9, 10] hs hcl hqC_32 fun a hs => ?_
     refine qdl 11 0 (ci x0.most) hs hcl hqC_32 hC_32 rfl fun a hs => ?_
     replace hs := hs.bagG (l := Tvisorref19_M.parts κ b_x0 x0 g_27) (S' := pt b_2 (blk (Tapi_Op.cells x1) 93) :: S) hs.own
     obtain ⟨v_35, h_34, hm⟩ := bind_t hm
     refine qdc 7 (visorref19_M_Len.ok _ _ _ h_34 _ _ _ b_x0 g_27 hs.own) hs fun w a hs => ?_
     replace hs := hs.unbagAt 0 rfl
     replace hcl := qO hC_32 hs.own
     refine ⟨fun _ => hcl, ?_⟩
     refine qdp (fuel := 0) [12, 13] hs hcl hqC_32 fun a hs => ?_
     replace hs := hs.pick [0, 2, 4, 53] (L' := [(0, pp b_x0), (2, vw x2), (4, pp b_2), (53, .bool (decide (v_35 ≥ x0.most)))]) (by kernel_rfl)
     refine Vk.dDone (by kernel_rfl) ?_
     replace hs := hs.bagG (l := Tvisorref19_M.parts κ b_x0 x0 g_27) (S' := pt b_2 (blk (Tapi_Op.cells x1) 93) :: S) hs.own
     replace hs := hs.toEx (Tvisorref19_M.parts κ b_x0 x0) g_27 0 rfl
     exact hj26 (decide (v_35 ≥ x0.most)) hm _ _ (hs.go [0, 2, 4, 53] [0, 1] 2 (by kernel_rfl) (by kernel_rfl) (by kernel_rfl))
    ·replace hm := bif_f hm hb
     replace hs := hs.known (t := 45) hb (by kernel_rfl)
     refine qdp (fuel := 0) [6, 7, 8, 9, 10, 11, 12, 13] hs hcl hqC_32 fun a hs => ?_
     replace hs := hs.pick [0, 2, 4, 53] (L' := [(0, pp b_x0), (2, vw x2), (4, pp b_2), (53, .bool false)]) (by kernel_rfl)
     refine Vk.dDone (by kernel_rfl) ?_
     replace hs := hs.bagG (l := Tvisorref19_M.parts κ b_x0 x0 g_27) (S' := pt b_2 (blk (Tapi_Op.cells x1) 93) :: S) hs.own
     replace hs := hs.toEx (Tvisorref19_M.parts κ b_x0 x0) g_27 0 rfl
     exact hj26 false hm _ _ (hs.go [0, 2, 4, 53] [0, 1] 2 (by kernel_rfl) (by kernel_rfl) (by kernel_rfl))
  obtain ⟨C_13, hC_13⟩ := qC hs.own
  refine qdr 24 κ C_13 hs fun w hs hqC_13 => ?_
  have hcl := qO hC_13 hs.own
  refine qdp (fuel := 20) [1, 3, 4, 5] hs hcl hqC_13 fun a hs => ?_
  refine qdn 0 5 ([ci x1.kind, ci x1.dom, ci x1.a, ci x1.b, ci x1.d, cw x1.c]) hs hcl hqC_13 hC_13 rfl fun a hs => ?_
  refine qdl 6 0 (ci x0.n) hs hcl hqC_13 hC_13 rfl fun a hs => ?_
  replace hs := hs.bagG (l := Tvisorref19_M.parts κ b_x0 x0 g_5) (S' := pt b_2 (blk (Tapi_Op.cells x1) 93) :: S) hs.own
  obtain ⟨v_16, h_15, hm⟩ := bind_t hm
  refine qdc 2 (visorref19_M_Len.ok _ _ _ h_15 _ _ _ b_x0 g_5 hs.own) hs fun w a hs => ?_
  replace hs := hs.unbagAt 0 rfl
  replace hcl := qO hC_13 hs.own
  refine ⟨fun _ => hcl, ?_⟩
  obtain ⟨v_19, h_18, hm⟩ := bind_t hm
  refine qdc 7 (visorref17_Right.ok _ _ _ _ _ h_18 _ _ (pt b_x0 (blk (Tvisorref19_M.obj x0 g_5.1 g_5.2.1 g_5.2.2.1 g_5.2.2.2.1 g_5.2.2.2.2.1 g_5.2.2.2.2.2.1 g_5.2.2.2.2.2.2.1 g_5.2.2.2.2.2.2.2) 64) :: rowp g_5.1 g_5.2.1 93 6 Tapi_Op.cells x0.ops :: rowp g_5.2.2.1 g_5.2.2.2.1 175 3 Tapi_Span.cells x0.blocks :: rowp g_5.2.2.2.2.1 g_5.2.2.2.2.2.1 32 1 (eI .u64) x0.val :: rdp κ g_5.2.2.2.2.2.2.1 g_5.2.2.2.2.2.2.2 1 (eI .u64) x0.tape.l :: pt b_2 (blk (Tapi_Op.cells x1) 93) :: S) hs.own) hs fun w a hs => ?_
  replace hcl := qO hC_13 hs.own
  refine ⟨fun _ => hcl, ?_⟩
  refine qdp (fuel := 14) [8, 9] hs hcl hqC_13 fun a hs => ?_
  rcases Bool.eq_false_or_eq_true (!v_19) with hb | hb
  ·replace hm := bif_t hm hb
   replace hs := hs.known (t := 23) hb (by kernel_rfl)
   refine qdp (fuel := 0) [10, 11, 12, 13, 14, 15, 16, 17, 18, 19, 20, 21, 22, 23] hs hcl hqC_13 fun a hs => ?_
   replace hs := hs.pick [0, 2, 4, 37] (L' := [(0, pp b_x0), (2, vw x2), (4, pp b_2), (37, .bool true)]) (by kernel_rfl)
   refine Vk.dDone (by kernel_rfl) ?_
   replace hs := hs.bagG (l := Tvisorref19_M.parts κ b_x0 x0 g_5) (S' := pt b_2 (blk (Tapi_Op.cells x1) 93) :: S) hs.own
   replace hs := hs.toEx (Tvisorref19_M.parts κ b_x0 x0) g_5 0 rfl
   exact hj12 true hm _ _ (hs.go [0, 2, 4, 37] [0, 1] 2 (by kernel_rfl) (by kernel_rfl) (by kernel_rfl))
  ·replace hm := bif_f hm hb
   replace hs := hs.known (t := 23) hb (by kernel_rfl)
   refine qdp (fuel := 13) [10] hs hcl hqC_13 fun a hs => ?_
   refine qdl 11 5 (ci x1.kind) hs hcl hqC_13 hC_13 rfl fun a hs => ?_
   refine qdp (fuel := 10) [12, 13] hs hcl hqC_13 fun a hs => ?_
   rcases Bool.eq_false_or_eq_true (x1.kind == 2) with hb | hb
   ·replace hm := bif_t hm hb
    replace hs := hs.known (t := 27) hb (by kernel_rfl)
    refine qdp (fuel := 6) [14, 16, 17, 18] hs hcl hqC_13 fun a hs => ?_
    refine qdl 15 5 (cw x1.c) hs hcl hqC_13 hC_13 rfl fun a hs => ?_
    refine qdl 19 0 (ci x0.words) hs hcl hqC_13 hC_13 rfl fun a hs => ?_
    refine qdp (fuel := 0) [20, 21, 22, 23] hs hcl hqC_13 fun a hs => ?_
    replace hs := hs.pick [0, 2, 4, 37] (L' := [(0, pp b_x0), (2, vw x2), (4, pp b_2), (37, .bool (x1.c != (IntKind.u64.wrap x0.words)))]) (by kernel_rfl)
    refine Vk.dDone (by kernel_rfl) ?_
    replace hs := hs.bagG (l := Tvisorref19_M.parts κ b_x0 x0 g_5) (S' := pt b_2 (blk (Tapi_Op.cells x1) 93) :: S) hs.own
    replace hs := hs.toEx (Tvisorref19_M.parts κ b_x0 x0) g_5 0 rfl
    exact hj12 (x1.c != (IntKind.u64.wrap x0.words)) hm _ _ (hs.go [0, 2, 4, 37] [0, 1] 2 (by kernel_rfl) (by kernel_rfl) (by kernel_rfl))
   ·replace hm := bif_f hm hb
    replace hs := hs.known (t := 27) hb (by kernel_rfl)
    refine qdp (fuel := 0) [14, 15, 16, 17, 18, 19, 20, 21, 22, 23] hs hcl hqC_13 fun a hs => ?_
    replace hs := hs.pick [0, 2, 4, 37] (L' := [(0, pp b_x0), (2, vw x2), (4, pp b_2), (37, .bool false)]) (by kernel_rfl)
    refine Vk.dDone (by kernel_rfl) ?_
    replace hs := hs.bagG (l := Tvisorref19_M.parts κ b_x0 x0 g_5) (S' := pt b_2 (blk (Tapi_Op.cells x1) 93) :: S) hs.own
    replace hs := hs.toEx (Tvisorref19_M.parts κ b_x0 x0) g_5 0 rfl
    exact hj12 false hm _ _ (hs.go [0, 2, 4, 37] [0, 1] 2 (by kernel_rfl) (by kernel_rfl) (by kernel_rfl))


def visorref20_Const.l1 : Nat → Tvisorref19_M → Cells → Int → Option (Cells × Tvisorref19_M)
 | 0, _, _, _ => none
 | k + 1, q_20, q_21, q_22 => (bif decide (q_22 < q_20.n) then (visorref19_Op.m k 3 q_22 (-1) (-1) 0).bind fun v_33 => (visorref19_M_Do.m k q_20 v_33 0).bind fun v_36 => (if 0 ≤ q_22 ∧ q_22 < 3 then (if 0 + q_22.toNat * 1 < q_21.length then visorref20_Const.l1 k v_36.2 (q_21.set (0 + q_22.toNat * 1) (ci v_36.1)) (IntKind.i64.wrap (q_22 + 1)) else none) else none) else some (q_21, q_20))
abbrev visorref20_Const.R (κ : Ctx) (S : List HP) (x0 : Tvisorref19_M) (x1 : Int) (x2 : Int) (b_x0 : Nat) (r : (Cells × Tvisorref19_M)) : Ending → World → Prop := fun e w' => e = .returned (.agg (vals r.1)) ∧ Ow κ w' (Tvisorref19_M.own κ b_x0 r.2 :: S)
def visorref20_Const.m (k : Nat) (x0 : Tvisorref19_M) (x1 : Int) (x2 : Int) : Option (Cells × Tvisorref19_M) := (visorref20_None.m k).bind fun v_6 => (if v_6.length = 3 then (visorref19_Op.m k x1 0 (-1) (-1) x2).bind fun v_12 => (visorref19_M_Do.m k x0 v_12 0).bind fun v_15 => (if 0 < v_6.length then (visorref20_Const.l1 k v_15.2 (v_6.set (0) (ci v_15.1)) 1).bind fun x => match x with | (p_39, p_40) => (if p_39.length = 3 then some (p_39, p_40) else none) else none) else none)

set_option maxRecDepth 100000 in
set_option maxHeartbeats 4000000 in
theorem visorref20_Const.ok (k : Nat) (x0 : Tvisorref19_M) (x1 : Int) (x2 : Int) (r : (Cells × Tvisorref19_M)) (hm : visorref20_Const.m k x0 x1 x2 = some r) (κ : Ctx) (w : World) (S : List HP) (b_x0 : Nat) (ho : Ow κ w (Tvisorref19_M.own κ b_x0 x0 :: S)) :
  Calls Try.prog 67 #[pp b_x0, vi x1, vw x2] w (visorref20_Const.R κ S x0 x1 x2 b_x0 r) := by
 unfold visorref20_Const.m at hm
 generalize hRR : visorref20_Const.R κ S x0 x1 x2 b_x0 r = RR
 refine qen [(0, pp b_x0), (1, vi x1), (2, vw x2)] Try.func67 Try.ntmps67 ho fun a hs => ?_
 refine qsr fun K1 hK1 => ?_
 refine qal 28 [ci 0, ci 0, ci 0] 6 hs fun b_2 w a hs => ?_
 refine qpk 0 [0, 1, 2, 6] hs fun a hs => hK1 _ _ ?_
 clear hK1
 refine qsr fun K3 hK3 => ?_
 obtain ⟨v_6, h_5, hm⟩ := bind_t hm
 refine qcl (visorref20_None.ok _ _ h_5 _ _ (pt b_2 (blk [ci 0, ci 0, ci 0] 28) :: Tvisorref19_M.own κ b_x0 x0 :: S) hs.own) hs fun w a hs => ?_
 refine qal 28 [ci 0, ci 0, ci 0] 7 hs fun b_7 w a hs => ?_
 obtain ⟨h_8, hm⟩ := ite_t hm
 refine qsb 0 v_6 hs rfl h_8 rfl fun a w hs => ?_
 refine qpk 0 [0, 1, 2, 6, 7] hs fun a hs => hK3 _ _ ?_
 clear hK3
 refine qsr fun K9 hK9 => ?_
 refine qpu 3 hs fun a hs => ?_
 obtain ⟨v_12, h_11, hm⟩ := bind_t hm
 refine qcl (visorref19_Op.ok _ _ _ _ _ _ _ h_11 _ _ (pt b_7 (blk v_6 28) :: pt b_2 (blk [ci 0, ci 0, ci 0] 28) :: Tvisorref19_M.own κ b_x0 x0 :: S) hs.own) hs fun w a hs => ?_
 obtain ⟨v_15, h_14, hm⟩ := bind_t hm
 refine qcl (visorref19_M_Do.ok _ _ _ _ _ h_14 _ _ _ b_x0 hs.own.f2) hs fun w a hs => ?_
 refine qpu 2 hs fun a hs => ?_
 obtain ⟨h_16, hm⟩ := ite_t hm
 refine Vk.step (Vk.store1 (b := b_7) (ty := 3) (x := (.tmp 16)) (y := (.tmp 14)) (off := 0) (ci v_15.1) 1 hs (by kernel_rfl) (by kernel_rfl) (by kernel_rfl) (by kernel_rfl) (by kernel_rfl) (by kernel_rfl) rfl h_16 fun a w hs => ?_)
 refine qpk 0 [0, 6, 7] hs fun a hs => hK9 _ _ ?_
 clear hK9
 refine Vk.seq fun K17 hK17 => ?_
 refine qsk 1 [0, 6, 7, 8] hs fun a hs => ?_
 refine wp_block ?_
 obtain ⟨r19, hl19, hm⟩ := bind_t hm
 have hx19 : ∀ (p_39 : Cells) (p_40 : Tvisorref19_M), r19 = (p_39, p_40) → ∀ (a : Act) (w : World), St 33 a w κ [(6, pp b_2), (7, pp b_7)] (pt b_2 (blk [ci 0, ci 0, ci 0] 28) :: pt b_7 (blk p_39 28) :: Tvisorref19_M.own κ b_x0 p_40 :: S) → K17 a w := by
  intro p_39 p_40 he a w hs
  subst r19
  refine hK17 _ _ ?_
  clear hK17
  refine qsr fun K44 hK44 => ?_
  obtain ⟨h_45, hm⟩ := ite_t hm
  refine qlw 1 hs rfl h_45 fun a hs => ?_
  refine qsb 0 p_39 hs rfl h_45 rfl fun a w hs => ?_
  refine qpe 0 [(6, pp b_2)] hs fun a hs => hK44 _ _ ?_
  clear hK44
  refine wp_ret ?_
  exact Vk.retC p_39 hs rfl (by kernel_rfl) (sz := 3) (by kernel_rfl) h_45 (CellsAt.all 0 rfl) (hRR ▸ by cases hm; exact ⟨rfl, hs.own.f1.drop.drop⟩)
 refine Vk.loopBy (fun k (s : Tvisorref19_M × Cells × Int) a w => visorref20_Const.l1 k s.1 s.2.1 s.2.2 = some r19 ∧ St 33 a w κ [(0, pp b_x0), (6, pp b_2), (7, pp b_7), (8, vi s.2.2)] (Tvisorref19_M.own κ b_x0 s.1 :: pt b_2 (blk [ci 0, ci 0, ci 0] 28) :: pt b_7 (blk s.2.1 28) :: S)) k (v_15.2, (v_6.set (0) (ci v_15.1)), 1) ⟨hl19, hs.go [0, 6, 7, 8] [0, 2, 1] 3 (by kernel_rfl) (by kernel_rfl) (by kernel_rfl)⟩ (fun s a w h => by obtain ⟨h1, _⟩ := h; simp [visorref20_Const.l1] at h1) (fun k KL19 ih s a w h => ?_)
 obtain ⟨q_20, q_21, q_22⟩ := s
 obtain ⟨hm, hs⟩ := h
 try dsimp only at hm hs
 rw [visorref20_Const.l1] at hm
 refine Vk.seq fun K23 hK23 => ?_
 refine qsr fun K24 hK24 => ?_
 refine qpu 4 hs fun a hs => ?_
 obtain ⟨g_25, hs⟩ := hs.unbag 0 rfl
 refine qld 0 (ci q_20.n) hs rfl fun a hs => ?_
 refine qpk 1 [0, 6, 7, 8, 22] hs fun a hs => hK24 _ _ ?_
 clear hK24
 refine qcs (decide (q_22 < q_20.n)) hs (fun hb => ?_) fun hb => ?_
 ·replace hm := bif_t hm hb
  refine wp_skip ?_
  refine hK23 _ _ ?_
  clear hK23
  refine Vk.seq fun K30 hK30 => ?_
  refine wp_block ?_
  refine Vk.region ?_
  refine qpu 3 hs fun a hs => ?_
  obtain ⟨v_33, h_32, hm⟩ := bind_t hm
  refine qcl (visorref19_Op.ok _ _ _ _ _ _ _ h_32 _ _ (pt b_x0 (blk (Tvisorref19_M.obj q_20 g_25.1 g_25.2.1 g_25.2.2.1 g_25.2.2.2.1 g_25.2.2.2.2.1 g_25.2.2.2.2.2.1 g_25.2.2.2.2.2.2.1 g_25.2.2.2.2.2.2.2) 64) :: rowp g_25.1 g_25.2.1 93 6 Tapi_Op.cells q_20.ops :: rowp g_25.2.2.1 g_25.2.2.2.1 175 3 Tapi_Span.cells q_20.blocks :: rowp g_25.2.2.2.2.1 g_25.2.2.2.2.2.1 32 1 (eI .u64) q_20.val :: rdp κ g_25.2.2.2.2.2.2.1 g_25.2.2.2.2.2.2.2 1 (eI .u64) q_20.tape.l :: pt b_2 (blk [ci 0, ci 0, ci 0] 28) :: pt b_7 (blk q_21 28) :: S) hs.own) hs fun w a hs => ?_
  replace hs := hs.bagG (l := Tvisorref19_M.parts κ b_x0 q_20 g_25) (S' := pt b_2 (blk [ci 0, ci 0, ci 0] 28) :: pt b_7 (blk q_21 28) :: S) hs.own
  replace hs := hs.toEx (Tvisorref19_M.parts κ b_x0 q_20) g_25 0 rfl
  obtain ⟨v_36, h_35, hm⟩ := bind_t hm
  refine qcl (visorref19_M_Do.ok _ _ _ _ _ h_35 _ _ _ b_x0 hs.own) hs fun w a hs => ?_
  refine qpu 1 hs fun a hs => ?_
  obtain ⟨h_37, hm⟩ := ite_t hm
  refine qix b_7 0 1 hs h_37 fun a hs => ?_
  obtain ⟨h_38, hm⟩ := ite_t hm
  refine Vk.step (Vk.store1 (b := b_7) (ty := 3) (x := (.tmp 31)) (y := (.tmp 29)) (off := 0 + q_22.toNat * 1) (ci v_36.1) 2 hs (by kernel_rfl) (by kernel_rfl) (by kernel_rfl) (by kernel_rfl) (by kernel_rfl) (by kernel_rfl) rfl h_38 fun a w hs => ?_)
  refine qpk 0 [0, 6, 7, 8] hs fun a hs => hK30 _ _ ?_
  clear hK30
  refine Vk.region ?_
  refine qpk 3 [0, 6, 7, 8] hs fun a hs => ?_
  refine ih (v_36.2, (q_21.set (0 + q_22.toNat * 1) (ci v_36.1)), (IntKind.i64.wrap (q_22 + 1))) _ _ ⟨hm, hs.go [0, 6, 7, 8] [0, 1, 2] 3 (by kernel_rfl) (by kernel_rfl) (by kernel_rfl)⟩
 ·replace hm := bif_f hm hb
  refine wp_exit ?_
  replace hs := hs.bagG (l := Tvisorref19_M.parts κ b_x0 q_20 g_25) (S' := pt b_2 (blk [ci 0, ci 0, ci 0] 28) :: pt b_7 (blk q_21 28) :: S) hs.own
  replace hs := hs.toEx (Tvisorref19_M.parts κ b_x0 q_20) g_25 0 rfl
  exact hx19 q_21 q_20 (Option.some.inj hm).symm _ _ (hs.go [6, 7] [1, 2, 0] 3 (by kernel_rfl) (by kernel_rfl) (by kernel_rfl))


abbrev wire_Machine_Begin.R (κ : Ctx) (S : List HP) (x0 : Twire_Machine) (x1 : Int) (b_x0 : Nat) (r : Twire_Machine) : Ending → World → Prop := fun e w' => e = .returned (.tuple #[]) ∧ Ow κ w' (Twire_Machine.own b_x0 r :: S)
def wire_Machine_Begin.m (k : Nat) (x0 : Twire_Machine) (x1 : Int) : Option Twire_Machine := (bif x0.bad != 0 then some x0 else (bif ((x0.openF != 0) || (decide (x1 < 1))) || (decide (x1 > 3)) then (wire_Machine_fail.m k x0 1).bind fun v_13 => some v_13.2 else (wire_Machine_Len.m k x0).bind fun v_16 => some (⟨x0.n, x0.most, x0.base, x0.words, x0.draws, x0.dry, x1, v_16, x0.bad, x0.tape, x0.ops, x0.values, x0.blocks⟩ : Twire_Machine)))

set_option maxRecDepth 100000 in
set_option maxHeartbeats 4000000 in
theorem wire_Machine_Begin.ok (k : Nat) (x0 : Twire_Machine) (x1 : Int) (r : Twire_Machine) (hm : wire_Machine_Begin.m k x0 x1 = some r) (κ : Ctx) (w : World) (S : List HP) (b_x0 : Nat) (ho : Ow κ w (Twire_Machine.own b_x0 x0 :: S)) :
  Calls Try.prog 90 #[pp b_x0, vi x1] w (wire_Machine_Begin.R κ S x0 x1 b_x0 r) := by
 unfold wire_Machine_Begin.m at hm
 generalize hRR : wire_Machine_Begin.R κ S x0 x1 b_x0 r = RR
 refine qen [(0, pp b_x0), (1, vi x1)] Try.func90 Try.ntmps90 ho fun a hs => ?_
 refine Vk.seq fun K1 hK1 => ?_
 refine wp_block ?_
 refine qsr fun K2 hK2 => ?_
 refine qpu 6 hs fun a hs => ?_
 obtain ⟨g_3, hs⟩ := hs.unbag 0 rfl
 refine qld 0 (ci x0.bad) hs rfl fun a hs => ?_
 refine qpk 3 [0, 1, 4] hs fun a hs => hK2 _ _ ?_
 clear hK2
 refine qcs (x0.bad != 0) hs (fun hb => ?_) fun hb => ?_
 ·replace hm := bif_t hm hb
  refine wp_ret ?_
  replace hs := hs.bagG (l := Twire_Machine.parts b_x0 x0 g_3) (S' := S) hs.own
  replace hs := hs.toEx (Twire_Machine.parts b_x0 x0) g_3 0 rfl
  exact qr0 hs rfl hRR (by cases hm; exact ⟨rfl, hs.own⟩)
 ·replace hm := bif_f hm hb
  refine qsr fun K7 hK7 => ?_
  refine qpu 3 hs fun a hs => ?_
  refine qld 0 (ci x0.openF) hs rfl fun a hs => ?_
  refine qpu 2 hs fun a hs => ?_
  refine qsc 20 3 hs fun a hs => ?_
  refine qpu 1 hs fun a hs => ?_
  refine qsc 24 3 hs fun a hs => ?_
  refine qpk 1 [0, 1, 14] hs fun a hs => hK7 _ _ ?_
  clear hK7
  refine qcs (((x0.openF != 0) || (decide (x1 < 1))) || (decide (x1 > 3))) hs (fun hb => ?_) fun hb => ?_
  ·replace hm := bif_t hm hb
   refine qsr fun K10 hK10 => ?_
   refine qpu 1 hs fun a hs => ?_
   replace hs := hs.bagG (l := Twire_Machine.parts b_x0 x0 g_3) (S' := S) hs.own
   replace hs := hs.toEx (Twire_Machine.parts b_x0 x0) g_3 0 rfl
   obtain ⟨v_13, h_12, hm⟩ := bind_t hm
   refine qcl (wire_Machine_fail.ok _ _ _ _ h_12 _ _ _ b_x0 hs.own) hs fun w a hs => ?_
   refine qpe 0 [] hs fun a hs => hK10 _ _ ?_
   clear hK10
   refine wp_ret ?_
   exact qr0 hs rfl hRR (by cases hm; exact ⟨rfl, hs.own⟩)
  ·replace hm := bif_f hm hb
   refine wp_skip ?_
   refine hK1 _ _ ?_
   clear hK1
   refine Vk.region ?_
   refine qpu 4 hs fun a hs => ?_
   replace hs := hs.bagG (l := Twire_Machine.parts b_x0 x0 g_3) (S' := S) hs.own
   obtain ⟨v_16, h_15, hm⟩ := bind_t hm
   refine qcl (wire_Machine_Len.ok _ _ _ h_15 _ _ _ b_x0 g_3 hs.own) hs fun w a hs => ?_
   replace hs := hs.unbagAt 0 rfl
   refine qpu 2 hs fun a hs => ?_
   refine qst 0 6 (ci x1) hs rfl fun a w hs => ?_
   refine qpu 2 hs fun a hs => ?_
   refine qst 0 7 (ci v_16) hs rfl fun a w hs => ?_
   refine qpe 0 [] hs fun a hs => ?_
   replace hs := hs.bagG (l := Twire_Machine.parts b_x0 (⟨x0.n, x0.most, x0.base, x0.words, x0.draws, x0.dry, x1, v_16, x0.bad, x0.tape, x0.ops, x0.values, x0.blocks⟩ : Twire_Machine) g_3) (S' := S) hs.own
   replace hs := hs.toEx (Twire_Machine.parts b_x0 (⟨x0.n, x0.most, x0.base, x0.words, x0.draws, x0.dry, x1, v_16, x0.bad, x0.tape, x0.ops, x0.values, x0.blocks⟩ : Twire_Machine)) g_3 0 rfl
   exact qe0 hs rfl hRR (by cases hm; exact ⟨rfl, hs.own⟩)


abbrev wire_Machine_Rand.R (κ : Ctx) (S : List HP) (x0 : Twire_Machine) (x1 : Int) (b_x0 : Nat) (r : (Int × Twire_Machine)) : Ending → World → Prop := fun e w' => e = .returned (vi r.1) ∧ Ow κ w' (Twire_Machine.own b_x0 r.2 :: S)
def wire_Machine_Rand.m (k : Nat) (x0 : Twire_Machine) (x1 : Int) : Option (Int × Twire_Machine) := (wire_Machine_Do.m k x0 (⟨1, x1, (-1), (-1), (-1), 0⟩ : Tapi_Op) 0).bind fun v_5 => some (v_5.1, v_5.2)

set_option maxRecDepth 100000 in
set_option maxHeartbeats 4000000 in
theorem wire_Machine_Rand.ok (k : Nat) (x0 : Twire_Machine) (x1 : Int) (r : (Int × Twire_Machine)) (hm : wire_Machine_Rand.m k x0 x1 = some r) (κ : Ctx) (w : World) (S : List HP) (b_x0 : Nat) (ho : Ow κ w (Twire_Machine.own b_x0 x0 :: S)) :
  Calls Try.prog 120 #[pp b_x0, vi x1] w (wire_Machine_Rand.R κ S x0 x1 b_x0 r) := by
 unfold wire_Machine_Rand.m at hm
 generalize hRR : wire_Machine_Rand.R κ S x0 x1 b_x0 r = RR
 refine qen [(0, pp b_x0), (1, vi x1)] Try.func120 Try.ntmps120 ho fun a hs => ?_
 refine qse 1 [(0, pp b_x0), (1, vi x1)] hs fun a hs => ?_
 refine qsr fun K2 hK2 => ?_
 refine qpu 3 hs fun a hs => ?_
 obtain ⟨v_5, h_4, hm⟩ := bind_t hm
 refine qcl (wire_Machine_Do.ok _ _ _ _ _ h_4 _ _ _ b_x0 hs.own) hs fun w a hs => ?_
 refine qpe 1 [(4, vi v_5.1)] hs fun a hs => hK2 _ _ ?_
 clear hK2
 refine wp_ret ?_
 exact qr1 (vi v_5.1) hs rfl hRR (by cases hm; exact ⟨rfl, hs.own⟩)


def fresh_masks.l1 (x1 : Int) : Nat → Twire_Machine → Cells → Int → Option (Cells × Twire_Machine)
 | 0, _, _, _ => none
 | k + 1, q_8, q_9, q_10 => (bif decide (q_10 < x1) then (wire_Machine_Rand.m k q_8 (-1)).bind fun v_17 => (if 0 ≤ q_10 ∧ q_10 < 3 then (if 0 + q_10.toNat * 1 < q_9.length then fresh_masks.l1 x1 k v_17.2 (q_9.set (0 + q_10.toNat * 1) (ci v_17.1)) (IntKind.i64.wrap (q_10 + 1)) else none) else none) else some (q_9, q_8))
abbrev fresh_masks.R (κ : Ctx) (S : List HP) (x0 : Twire_Machine) (x1 : Int) (b_x0 : Nat) (r : (Cells × Twire_Machine)) : Ending → World → Prop := fun e w' => e = .returned (.agg (vals r.1)) ∧ Ow κ w' (Twire_Machine.own b_x0 r.2 :: S)
def fresh_masks.m (k : Nat) (x0 : Twire_Machine) (x1 : Int) : Option (Cells × Twire_Machine) := (fresh_masks.l1 x1 k x0 [ci 0, ci 0, ci 0] 0).bind fun x => match x with | (p_20, p_21) => (if p_20.length = 3 then some (p_20, p_21) else none)

set_option maxRecDepth 100000 in
set_option maxHeartbeats 4000000 in
theorem fresh_masks.ok (k : Nat) (x0 : Twire_Machine) (x1 : Int) (r : (Cells × Twire_Machine)) (hm : fresh_masks.m k x0 x1 = some r) (κ : Ctx) (w : World) (S : List HP) (b_x0 : Nat) (ho : Ow κ w (Twire_Machine.own b_x0 x0 :: S)) :
  Calls Try.prog 160 #[pp b_x0, vi x1] w (fresh_masks.R κ S x0 x1 b_x0 r) := by
 unfold fresh_masks.m at hm
 generalize hRR : fresh_masks.R κ S x0 x1 b_x0 r = RR
 refine qen [(0, pp b_x0), (1, vi x1)] Try.func160 Try.ntmps160 ho fun a hs => ?_
 refine qsr fun K1 hK1 => ?_
 refine qal 26 [ci 0, ci 0, ci 0] 4 hs fun b_2 w a hs => ?_
 refine qpk 0 [0, 1, 4] hs fun a hs => hK1 _ _ ?_
 clear hK1
 refine qsr fun K3 hK3 => ?_
 refine qal 26 [ci 0, ci 0, ci 0] 5 hs fun b_4 w a hs => ?_
 refine qpk 0 [0, 1, 4, 5] hs fun a hs => hK3 _ _ ?_
 clear hK3
 refine Vk.seq fun K5 hK5 => ?_
 refine qsk 2 [0, 4, 5, 7, 8] hs fun a hs => ?_
 refine wp_block ?_
 obtain ⟨r7, hl7, hm⟩ := bind_t hm
 have hx7 : ∀ (p_20 : Cells) (p_21 : Twire_Machine), r7 = (p_20, p_21) → ∀ (a : Act) (w : World), St 17 a w κ [(4, pp b_2), (5, pp b_4)] (pt b_2 (blk [ci 0, ci 0, ci 0] 26) :: pt b_4 (blk p_20 26) :: Twire_Machine.own b_x0 p_21 :: S) → K5 a w := by
  intro p_20 p_21 he a w hs
  subst r7
  refine hK5 _ _ ?_
  clear hK5
  refine qsr fun K25 hK25 => ?_
  obtain ⟨h_26, hm⟩ := ite_t hm
  refine qlw 1 hs rfl h_26 fun a hs => ?_
  refine qsb 0 p_20 hs rfl h_26 rfl fun a w hs => ?_
  refine qpe 0 [(4, pp b_2)] hs fun a hs => hK25 _ _ ?_
  clear hK25
  refine wp_ret ?_
  exact Vk.retC p_20 hs rfl (by kernel_rfl) (sz := 3) (by kernel_rfl) h_26 (CellsAt.all 0 rfl) (hRR ▸ by cases hm; exact ⟨rfl, hs.own.f1.drop.drop⟩)
 refine Vk.loopBy (fun k (s : Twire_Machine × Cells × Int) a w => fresh_masks.l1 x1 k s.1 s.2.1 s.2.2 = some r7 ∧ St 17 a w κ [(0, pp b_x0), (4, pp b_2), (5, pp b_4), (7, vi x1), (8, vi s.2.2)] (Twire_Machine.own b_x0 s.1 :: pt b_2 (blk [ci 0, ci 0, ci 0] 26) :: pt b_4 (blk s.2.1 26) :: S)) k (x0, [ci 0, ci 0, ci 0], 0) ⟨hl7, hs.go [0, 4, 5, 7, 8] [2, 1, 0] 3 (by kernel_rfl) (by kernel_rfl) (by kernel_rfl)⟩ (fun s a w h => by obtain ⟨h1, _⟩ := h; simp [fresh_masks.l1] at h1) (fun k KL7 ih s a w h => ?_)
 obtain ⟨q_8, q_9, q_10⟩ := s
 obtain ⟨hm, hs⟩ := h
 try dsimp only at hm hs
 rw [fresh_masks.l1] at hm
 refine qsk 1 [0, 4, 5, 7, 8, 9] hs fun a hs => ?_
 refine Vk.seq fun K12 hK12 => ?_
 refine qcs (decide (q_10 < x1)) hs (fun hb => ?_) fun hb => ?_
 ·replace hm := bif_t hm hb
  refine wp_skip ?_
  refine hK12 _ _ ?_
  clear hK12
  refine Vk.seq fun K13 hK13 => ?_
  refine wp_block ?_
  refine qsk 2 [0, 4, 5, 6, 7, 8] hs fun a hs => ?_
  refine Vk.region ?_
  refine qpu 2 hs fun a hs => ?_
  obtain ⟨v_17, h_16, hm⟩ := bind_t hm
  refine qcl (wire_Machine_Rand.ok _ _ _ _ h_16 _ _ _ b_x0 hs.own) hs fun w a hs => ?_
  obtain ⟨h_18, hm⟩ := ite_t hm
  refine qix b_4 0 1 hs h_18 fun a hs => ?_
  obtain ⟨h_19, hm⟩ := ite_t hm
  refine Vk.step (Vk.store1 (b := b_4) (ty := 3) (x := (.tmp 14)) (y := (.tmp 13)) (off := 0 + q_10.toNat * 1) (ci v_17.1) 2 hs (by kernel_rfl) (by kernel_rfl) (by kernel_rfl) (by kernel_rfl) (by kernel_rfl) (by kernel_rfl) rfl h_19 fun a w hs => ?_)
  refine qpk 0 [0, 4, 5, 7, 8] hs fun a hs => hK13 _ _ ?_
  clear hK13
  refine Vk.region ?_
  refine qpk 2 [0, 4, 5, 7, 8] hs fun a hs => ?_
  refine ih (v_17.2, (q_9.set (0 + q_10.toNat * 1) (ci v_17.1)), (IntKind.i64.wrap (q_10 + 1))) _ _ ⟨hm, hs.go [0, 4, 5, 7, 8] [0, 1, 2] 3 (by kernel_rfl) (by kernel_rfl) (by kernel_rfl)⟩
 ·replace hm := bif_f hm hb
  refine wp_exit ?_
  exact hx7 q_9 q_8 (Option.some.inj hm).symm _ _ (hs.go [4, 5] [1, 2, 0] 3 (by kernel_rfl) (by kernel_rfl) (by kernel_rfl))


abbrev wire_Machine_Two.R (κ : Ctx) (S : List HP) (x0 : Twire_Machine) (x1 : Int) (x2 : Int) (x3 : Int) (x4 : Int) (b_x0 : Nat) (r : (Int × Twire_Machine)) : Ending → World → Prop := fun e w' => e = .returned (vi r.1) ∧ Ow κ w' (Twire_Machine.own b_x0 r.2 :: S)
def wire_Machine_Two.m (k : Nat) (x0 : Twire_Machine) (x1 : Int) (x2 : Int) (x3 : Int) (x4 : Int) : Option (Int × Twire_Machine) := (wire_Machine_Do.m k x0 (⟨x1, x2, x3, x4, (-1), 0⟩ : Tapi_Op) 0).bind fun v_5 => some (v_5.1, v_5.2)

set_option maxRecDepth 100000 in
set_option maxHeartbeats 4000000 in
theorem wire_Machine_Two.ok (k : Nat) (x0 : Twire_Machine) (x1 : Int) (x2 : Int) (x3 : Int) (x4 : Int) (r : (Int × Twire_Machine)) (hm : wire_Machine_Two.m k x0 x1 x2 x3 x4 = some r) (κ : Ctx) (w : World) (S : List HP) (b_x0 : Nat) (ho : Ow κ w (Twire_Machine.own b_x0 x0 :: S)) :
  Calls Try.prog 150 #[pp b_x0, vi x1, vi x2, vi x3, vi x4] w (wire_Machine_Two.R κ S x0 x1 x2 x3 x4 b_x0 r) := by
 unfold wire_Machine_Two.m at hm
 generalize hRR : wire_Machine_Two.R κ S x0 x1 x2 x3 x4 b_x0 r = RR
 refine qen [(0, pp b_x0), (1, vi x1), (2, vi x2), (3, vi x3), (4, vi x4)] Try.func150 Try.ntmps150 ho fun a hs => ?_
 refine qsk 1 [0, 1, 2, 3, 4] hs fun a hs => ?_
 refine qsr fun K2 hK2 => ?_
 refine qpu 6 hs fun a hs => ?_
 obtain ⟨v_5, h_4, hm⟩ := bind_t hm
 refine qcl (wire_Machine_Do.ok _ _ _ _ _ h_4 _ _ _ b_x0 hs.own) hs fun w a hs => ?_
 refine qpe 1 [(10, vi v_5.1)] hs fun a hs => hK2 _ _ ?_
 clear hK2
 refine wp_ret ?_
 exact qr1 (vi v_5.1) hs rfl hRR (by cases hm; exact ⟨rfl, hs.own⟩)


def wire_Machine_End.j2 (k : Nat) (p_32 : Twire_Machine) : Option (Twire_Machine) := some (⟨p_32.n, p_32.most, p_32.base, p_32.words, p_32.draws, p_32.dry, 0, p_32.fromF, p_32.bad, p_32.tape, p_32.ops, p_32.values, p_32.blocks⟩ : Twire_Machine)
def wire_Machine_End.j1 (k : Nat) (x0 : Twire_Machine) (p_18 : Bool) : Option (Twire_Machine) := (bif p_18 then (wire_Machine_Len.m k x0).bind fun v_26 => (if (x0.blocks.length + ([(⟨x0.openF, x0.fromF, v_26⟩ : Tapi_Span)] : List Tapi_Span).length) * 24 ≤ 140737488355328 then wire_Machine_End.j2 k (⟨x0.n, x0.most, x0.base, x0.words, x0.draws, x0.dry, x0.openF, x0.fromF, x0.bad, x0.tape, x0.ops, x0.values, x0.blocks ++ ([(⟨x0.openF, x0.fromF, v_26⟩ : Tapi_Span)] : List Tapi_Span)⟩ : Twire_Machine) else none) else wire_Machine_End.j2 k x0)
abbrev wire_Machine_End.R (κ : Ctx) (S : List HP) (x0 : Twire_Machine) (b_x0 : Nat) (r : Twire_Machine) : Ending → World → Prop := fun e w' => e = .returned (.tuple #[]) ∧ Ow κ w' (Twire_Machine.own b_x0 r :: S)
def wire_Machine_End.m (k : Nat) (x0 : Twire_Machine) : Option Twire_Machine := (bif x0.bad != 0 then some x0 else (bif x0.openF == 0 then (wire_Machine_fail.m k x0 1).bind fun v_11 => some v_11.2 else (wire_Machine_Len.m k x0).bind fun v_17 => (bif decide (v_17 > x0.fromF) then wire_Machine_End.j1 k x0 (!x0.dry) else wire_Machine_End.j1 k x0 false)))

set_option maxRecDepth 100000 in
set_option maxHeartbeats 4000000 in
theorem wire_Machine_End.ok (k : Nat) (x0 : Twire_Machine) (r : Twire_Machine) (hm : wire_Machine_End.m k x0 = some r) (κ : Ctx) (w : World) (S : List HP) (b_x0 : Nat) (ho : Ow κ w (Twire_Machine.own b_x0 x0 :: S)) :
  Calls Try.prog 94 #[pp b_x0] w (wire_Machine_End.R κ S x0 b_x0 r) := by
 unfold wire_Machine_End.m at hm
 generalize hRR : wire_Machine_End.R κ S x0 b_x0 r = RR
 refine qen [(0, pp b_x0)] Try.func94 Try.ntmps94 ho fun a hs => ?_
 refine Vk.seq fun K1 hK1 => ?_
 refine wp_block ?_
 refine qsr fun K2 hK2 => ?_
 refine qpu 6 hs fun a hs => ?_
 obtain ⟨g_3, hs⟩ := hs.unbag 0 rfl
 refine qld 0 (ci x0.bad) hs rfl fun a hs => ?_
 refine qpk 3 [0, 2] hs fun a hs => hK2 _ _ ?_
 clear hK2
 refine qcs (x0.bad != 0) hs (fun hb => ?_) fun hb => ?_
 ·replace hm := bif_t hm hb
  refine wp_ret ?_
  replace hs := hs.bagG (l := Twire_Machine.parts b_x0 x0 g_3) (S' := S) hs.own
  replace hs := hs.toEx (Twire_Machine.parts b_x0 x0) g_3 0 rfl
  exact qr0 hs rfl hRR (by cases hm; exact ⟨rfl, hs.own⟩)
 ·replace hm := bif_f hm hb
  refine qsr fun K7 hK7 => ?_
  refine qpu 3 hs fun a hs => ?_
  refine qld 0 (ci x0.openF) hs rfl fun a hs => ?_
  refine qpk 2 [0, 12] hs fun a hs => hK7 _ _ ?_
  clear hK7
  refine qcs (x0.openF == 0) hs (fun hb => ?_) fun hb => ?_
  ·replace hm := bif_t hm hb
   refine qsr fun K8 hK8 => ?_
   refine qpu 1 hs fun a hs => ?_
   replace hs := hs.bagG (l := Twire_Machine.parts b_x0 x0 g_3) (S' := S) hs.own
   replace hs := hs.toEx (Twire_Machine.parts b_x0 x0) g_3 0 rfl
   obtain ⟨v_11, h_10, hm⟩ := bind_t hm
   refine qcl (wire_Machine_fail.ok _ _ _ _ h_10 _ _ _ b_x0 hs.own) hs fun w a hs => ?_
   refine qpe 0 [] hs fun a hs => hK8 _ _ ?_
   clear hK8
   refine wp_ret ?_
   exact qr0 hs rfl hRR (by cases hm; exact ⟨rfl, hs.own⟩)
  ·replace hm := bif_f hm hb
   refine wp_skip ?_
   refine hK1 _ _ ?_
   clear hK1
   refine Vk.seq fun K12 hK12 => ?_
   have hj12 : ∀ (p_32 : Twire_Machine), wire_Machine_End.j2 k p_32 = some r → ∀ (a : Act) (w : World), St 57 a w κ [(0, pp b_x0)] (Twire_Machine.own b_x0 p_32 :: S) → K12 a w := by
    intro p_32 hm a w hs
    unfold wire_Machine_End.j2 at hm
    refine hK12 _ _ ?_
    refine Vk.region ?_
    refine qpu 3 hs fun a hs => ?_
    obtain ⟨g_33, hs⟩ := hs.unbag 0 rfl
    refine qst 0 6 (ci 0) hs rfl fun a w hs => ?_
    refine qpe 0 [] hs fun a hs => ?_
    replace hs := hs.bagG (l := Twire_Machine.parts b_x0 (⟨p_32.n, p_32.most, p_32.base, p_32.words, p_32.draws, p_32.dry, 0, p_32.fromF, p_32.bad, p_32.tape, p_32.ops, p_32.values, p_32.blocks⟩ : Twire_Machine) g_33) (S' := S) hs.own
    replace hs := hs.toEx (Twire_Machine.parts b_x0 (⟨p_32.n, p_32.most, p_32.base, p_32.words, p_32.draws, p_32.dry, 0, p_32.fromF, p_32.bad, p_32.tape, p_32.ops, p_32.values, p_32.blocks⟩ : Twire_Machine)) g_33 0 rfl
    exact qe0 hs rfl hRR (by cases hm; exact ⟨rfl, hs.own⟩)
   refine Vk.seq fun K13 hK13 => ?_
   have hj13 : ∀ (p_18 : Bool), wire_Machine_End.j1 k x0 p_18 = some r → ∀ (a : Act) (w : World), St 57 a w κ [(0, pp b_x0), (33, .bool p_18)] (Twire_Machine.own b_x0 x0 :: S) → K13 a w := by
    intro p_18 hm a w hs
    unfold wire_Machine_End.j1 at hm
    refine hK13 _ _ ?_
    refine qcs (p_18) hs (fun hb => ?_) fun hb => ?_
    ·replace hm := bif_t hm hb
     obtain ⟨g_19, hs⟩ := hs.unbag 0 rfl
     obtain ⟨C_23, hC_23⟩ := qC hs.own.f4.drop
     refine qdr 18 κ C_23 hs fun w hs hqC_23 => ?_
     have hcl := qO hC_23 hs.own.f4.drop
     refine qdp (fuel := 10) [0, 1, 2, 3, 5, 6, 7, 9, 10, 11, 13] hs hcl hqC_23 fun a hs => ?_
     refine qdl 4 0 (C.slc g_19.2.2.2.2.2.1 x0.blocks.length g_19.2.2.2.2.2.2) hs hcl hqC_23 hC_23 rfl fun a hs => ?_
     refine qdl 8 0 (ci x0.openF) hs hcl hqC_23 hC_23 rfl fun a hs => ?_
     refine qdl 12 0 (ci x0.fromF) hs hcl hqC_23 hC_23 rfl fun a hs => ?_
     replace hs := hs.bagG (l := Twire_Machine.parts b_x0 x0 g_19) (S' := S) hs.own
     obtain ⟨v_26, h_25, hm⟩ := bind_t hm
     refine qdc 14 (wire_Machine_Len.ok _ _ _ h_25 _ _ _ b_x0 g_19 hs.own) hs fun w a hs => ?_
     replace hs := hs.unbagAt 0 rfl
     replace hcl := qO hC_23 hs.own.f4.drop
     refine ⟨fun _ => hcl, ?_⟩
     refine qdp (fuel := 5) [15] hs hcl hqC_23 fun a hs => ?_
     refine Vk.dOnly (i := 16) (by kernel_rfl) (Vk.buildOp (sz := 3) (by_ := 24) (t := 60) (e := 175) (parts := #[(0, (.tmp 49))]) (zs := vals [ci 0, ci 0, ci 0]) ([(⟨x0.openF, x0.fromF, v_26⟩ : Tapi_Span)] : List Tapi_Span) Tapi_Span.cells (some 50) hs (by kernel_rfl) (by kernel_rfl) (by kernel_rfl) (by kernel_rfl) (by decide) rfl (fun x _ => rfl) (Nat.le_of_ble_eq_true (by kernel_rfl)) (by kernel_rfl) fun A_27 w a hs => ?_)
     replace hcl := qO hC_23 hs.own.f5.drop.drop
     refine ⟨fun _ => hcl, ?_⟩
     obtain ⟨h_29, hm⟩ := ite_t hm
     refine Vk.dOnly (i := 17) (by kernel_rfl) (Vk.appendOp (x := (.tmp 38)) (y := (.tmp 50)) (e := 175) (t := 60) (by_ := 24) (sz := 3) (enc := Tapi_Span.cells) (A := g_19.2.2.2.2.2.1) (cap := g_19.2.2.2.2.2.2) (xs := x0.blocks) (ys := ([(⟨x0.openF, x0.fromF, v_26⟩ : Tapi_Span)] : List Tapi_Span)) (B := A_27) (c2 := 1) 5 (some 51) hs (by kernel_rfl) (by kernel_rfl) (by kernel_rfl) (by kernel_rfl) rfl (Sl.lift (fun w ho => (Ow.to (S' := rowp A_27 1 175 3 Tapi_Span.cells ([(⟨x0.openF, x0.fromF, v_26⟩ : Tapi_Span)] : List Tapi_Span) :: S) ho [0] 6 (by kernel_rfl) (by kernel_rfl))) (Ow.rowSl 0 (Ow.to (S' := rowp A_27 1 175 3 Tapi_Span.cells ([(⟨x0.openF, x0.fromF, v_26⟩ : Tapi_Span)] : List Tapi_Span) :: S) hs.own [0] 6 (by kernel_rfl) (by kernel_rfl)) rfl)) (by kernel_rfl) (by kernel_rfl) (by decide) (by decide) h_29 fun A_30 c_31 w a hs => ?_)
     replace hcl := qO hC_23 hs.own.f5.drop.drop
     refine ⟨fun _ => hcl, ?_⟩
     refine Vk.dOnly (i := 18) (by kernel_rfl) (Vk.dPure1 [(52, pp b_x0)] hs (by kernel_rfl) fun a hs => ?_)
     refine ⟨fun h => absurd h (by decide), ?_⟩
     refine Vk.dOnly (i := 19) (by kernel_rfl) (Vk.dPure1 [(53, .pointer (some ⟨b_x0, 12, none⟩))] hs (by kernel_rfl) fun a hs => ?_)
     refine ⟨fun h => absurd h (by decide), ?_⟩
     refine qsd 20 1 12 (C.slc A_30 ((x0.blocks ++ ([(⟨x0.openF, x0.fromF, v_26⟩ : Tapi_Span)] : List Tapi_Span)).length) c_31) hs rfl fun a w hs => ?_
     refine ⟨fun h => absurd h (by decide), ?_⟩
     replace hs := hs.pick [0] (L' := [(0, pp b_x0)]) (by kernel_rfl)
     refine Vk.dDone (by kernel_rfl) ?_
     replace hs := hs.bagG (l := Twire_Machine.parts b_x0 (⟨x0.n, x0.most, x0.base, x0.words, x0.draws, x0.dry, x0.openF, x0.fromF, x0.bad, x0.tape, x0.ops, x0.values, x0.blocks ++ ([(⟨x0.openF, x0.fromF, v_26⟩ : Tapi_Span)] : List Tapi_Span)⟩ : Twire_Machine) (g_19.1, g_19.2.1, g_19.2.2.1, g_19.2.2.2.1, g_19.2.2.2.2.1, A_30, c_31)) (S' := rowp A_27 1 175 3 Tapi_Span.cells ([(⟨x0.openF, x0.fromF, v_26⟩ : Tapi_Span)] : List Tapi_Span) :: S) hs.own.f5.f5.f5.f5.f5
     replace hs := hs.toEx (Twire_Machine.parts b_x0 (⟨x0.n, x0.most, x0.base, x0.words, x0.draws, x0.dry, x0.openF, x0.fromF, x0.bad, x0.tape, x0.ops, x0.values, x0.blocks ++ ([(⟨x0.openF, x0.fromF, v_26⟩ : Tapi_Span)] : List Tapi_Span)⟩ : Twire_Machine)) (g_19.1, g_19.2.1, g_19.2.2.1, g_19.2.2.2.1, g_19.2.2.2.2.1, A_30, c_31) 0 rfl
     exact hj12 (⟨x0.n, x0.most, x0.base, x0.words, x0.draws, x0.dry, x0.openF, x0.fromF, x0.bad, x0.tape, x0.ops, x0.values, x0.blocks ++ ([(⟨x0.openF, x0.fromF, v_26⟩ : Tapi_Span)] : List Tapi_Span)⟩ : Twire_Machine) hm _ _ (hs.go [0] [0] 2 (by kernel_rfl) (by kernel_rfl) (by kernel_rfl))
    ·replace hm := bif_f hm hb
     refine wp_skip ?_
     exact hj12 x0 hm _ _ (hs.go [0] [0] 1 (by kernel_rfl) (by kernel_rfl) (by kernel_rfl))
   obtain ⟨C_14, hC_14⟩ := qC hs.own
   refine qdr 14 κ C_14 hs fun w hs hqC_14 => ?_
   have hcl := qO hC_14 hs.own
   refine qdp (fuel := 10) [0, 2, 3, 4] hs hcl hqC_14 fun a hs => ?_
   refine qdl 5 0 (ci x0.fromF) hs hcl hqC_14 hC_14 rfl fun a hs => ?_
   replace hs := hs.bagG (l := Twire_Machine.parts b_x0 x0 g_3) (S' := S) hs.own
   obtain ⟨v_17, h_16, hm⟩ := bind_t hm
   refine qdc 1 (wire_Machine_Len.ok _ _ _ h_16 _ _ _ b_x0 g_3 hs.own) hs fun w a hs => ?_
   replace hs := hs.unbagAt 0 rfl
   replace hcl := qO hC_14 hs.own
   refine ⟨fun _ => hcl, ?_⟩
   refine qdp (fuel := 6) [6, 7] hs hcl hqC_14 fun a hs => ?_
   rcases Bool.eq_false_or_eq_true (decide (v_17 > x0.fromF)) with hb | hb
   ·replace hm := bif_t hm hb
    replace hs := hs.known (t := 27) hb (by kernel_rfl)
    refine qdp (fuel := 3) [8, 9, 10] hs hcl hqC_14 fun a hs => ?_
    refine qdl 11 0 (C.bool x0.dry) hs hcl hqC_14 hC_14 rfl fun a hs => ?_
    refine qdp (fuel := 0) [12, 13] hs hcl hqC_14 fun a hs => ?_
    replace hs := hs.pick [0, 33] (L' := [(0, pp b_x0), (33, .bool (!x0.dry))]) (by kernel_rfl)
    refine Vk.dDone (by kernel_rfl) ?_
    replace hs := hs.bagG (l := Twire_Machine.parts b_x0 x0 g_3) (S' := S) hs.own
    replace hs := hs.toEx (Twire_Machine.parts b_x0 x0) g_3 0 rfl
    exact hj13 (!x0.dry) hm _ _ (hs.go [0, 33] [0] 1 (by kernel_rfl) (by kernel_rfl) (by kernel_rfl))
   ·replace hm := bif_f hm hb
    replace hs := hs.known (t := 27) hb (by kernel_rfl)
    refine qdp (fuel := 0) [8, 9, 10, 11, 12, 13] hs hcl hqC_14 fun a hs => ?_
    replace hs := hs.pick [0, 33] (L' := [(0, pp b_x0), (33, .bool false)]) (by kernel_rfl)
    refine Vk.dDone (by kernel_rfl) ?_
    replace hs := hs.bagG (l := Twire_Machine.parts b_x0 x0 g_3) (S' := S) hs.own
    replace hs := hs.toEx (Twire_Machine.parts b_x0 x0) g_3 0 rfl
    exact hj13 false hm _ _ (hs.go [0, 33] [0] 1 (by kernel_rfl) (by kernel_rfl) (by kernel_rfl))


abbrev fresh_Full.R (κ : Ctx) (S : List HP) (x0 : Twire_Machine) (x1 : Cells) (b_x0 : Nat) (r : (Cells × Twire_Machine)) : Ending → World → Prop := fun e w' => e = .returned (.agg (vals r.1)) ∧ Ow κ w' (Twire_Machine.own b_x0 r.2 :: S)
def fresh_Full.m (k : Nat) (x0 : Twire_Machine) (x1 : Cells) : Option (Cells × Twire_Machine) := (wire_Machine_N.m k x0).bind fun v_9 => (bif v_9 == 2 then (if x1.length = 3 then (wire_Machine_N.m k x0).bind fun v_375 => (bif v_375 == 2 then (wire_Machine_Begin.m k x0 2).bind fun v_379 => (fresh_masks.m k v_379 1).bind fun v_383 => (if v_383.1.length = 3 then (if 0 ≤ (0 : Int) then (([0] : List Int)[0]?).bind fun e_404 => (if 0 ≤ e_404 ∧ e_404 < 3 then (getI .i64 v_383.1 (0 + e_404.toNat * 1)).bind fun v_411 => (if (([] : List Int).length + ([v_411] : List Int).length) * 8 ≤ 140737488355328 then (if 0 ≤ (0 : Int) then (([0] : List Int)[0]?).bind fun e_435 => (if 0 ≤ e_435 ∧ e_435 < 3 then (getI .i64 v_383.1 (0 + e_435.toNat * 1)).bind fun v_442 => (if (([] : List Int).length + ([v_442] : List Int).length) * 8 ≤ 140737488355328 then (wire_Machine_N.m k v_383.2).bind fun v_477 => (bif v_477 == 2 then (if 0 ≤ (0 : Int) then ((([] : List Int) ++ ([v_411] : List Int))[0]?).bind fun e_492 => (getI .i64 x1 (0)).bind fun v_497 => (wire_Machine_Two.m k v_383.2 5 0 v_497 e_492).bind fun v_500 => (if 0 < x1.length then (if 0 ≤ (0 : Int) then ((([] : List Int) ++ ([v_442] : List Int))[0]?).bind fun e_519 => (getI .i64 (x1.set (0) (ci v_500.1)) (1)).bind fun v_524 => (wire_Machine_Two.m k v_500.2 5 1 v_524 e_519).bind fun v_527 => (if 1 < (x1.set (0) (ci v_500.1)).length then (wire_Machine_End.m k v_527.2).bind fun v_540 => some (((x1.set (0) (ci v_500.1)).set (1) (ci v_527.1)), v_540) else none) else none) else none) else none) else none) else none) else none) else none) else none) else none) else none) else none) else none) else none) else (bif v_9 == 3 then (if x1.length = 3 then (wire_Machine_N.m k x0).bind fun v_27 => (bif v_27 == 3 then (wire_Machine_Begin.m k x0 2).bind fun v_31 => (fresh_masks.m k v_31 3).bind fun v_35 => (if v_35.1.length = 3 then (if 0 ≤ (0 : Int) then (([0, 1] : List Int)[0]?).bind fun e_56 => (if 0 ≤ e_56 ∧ e_56 < 3 then (getI .i64 v_35.1 (0 + e_56.toNat * 1)).bind fun v_63 => (if (([] : List Int).length + ([v_63] : List Int).length) * 8 ≤ 140737488355328 then (if 0 ≤ (1 : Int) then (([0, 1] : List Int)[1]?).bind fun e_78 => (if 0 ≤ e_78 ∧ e_78 < 3 then (getI .i64 v_35.1 (0 + e_78.toNat * 1)).bind fun v_85 => (if ((([] : List Int) ++ ([v_63] : List Int)).length + ([v_85] : List Int).length) * 8 ≤ 140737488355328 then (if 0 ≤ (0 : Int) then (([0, 2] : List Int)[0]?).bind fun e_108 => (if 0 ≤ e_108 ∧ e_108 < 3 then (getI .i64 v_35.1 (0 + e_108.toNat * 1)).bind fun v_115 => (if (([] : List Int).length + ([v_115] : List Int).length) * 8 ≤ 140737488355328 then (if 0 ≤ (1 : Int) then (([0, 2] : List Int)[1]?).bind fun e_130 => (if 0 ≤ e_130 ∧ e_130 < 3 then (getI .i64 v_35.1 (0 + e_130.toNat * 1)).bind fun v_137 => (if ((([] : List Int) ++ ([v_115] : List Int)).length + ([v_137] : List Int).length) * 8 ≤ 140737488355328 then (if 0 ≤ (0 : Int) then (([1, 2] : List Int)[0]?).bind fun e_160 => (if 0 ≤ e_160 ∧ e_160 < 3 then (getI .i64 v_35.1 (0 + e_160.toNat * 1)).bind fun v_167 => (if (([] : List Int).length + ([v_167] : List Int).length) * 8 ≤ 140737488355328 then (if 0 ≤ (1 : Int) then (([1, 2] : List Int)[1]?).bind fun e_182 => (if 0 ≤ e_182 ∧ e_182 < 3 then (getI .i64 v_35.1 (0 + e_182.toNat * 1)).bind fun v_189 => (if ((([] : List Int) ++ ([v_167] : List Int)).length + ([v_189] : List Int).length) * 8 ≤ 140737488355328 then (wire_Machine_N.m k v_35.2).bind fun v_214 => (bif v_214 == 3 then (if 0 ≤ (0 : Int) then (((([] : List Int) ++ ([v_63] : List Int)) ++ ([v_85] : List Int))[0]?).bind fun e_229 => (getI .i64 x1 (0)).bind fun v_234 => (wire_Machine_Two.m k v_35.2 5 0 v_234 e_229).bind fun v_237 => (if 0 < x1.length then (if 0 ≤ (1 : Int) then (((([] : List Int) ++ ([v_63] : List Int)) ++ ([v_85] : List Int))[1]?).bind fun e_247 => (getI .i64 (x1.set (0) (ci v_237.1)) (0)).bind fun v_252 => (wire_Machine_Two.m k v_237.2 5 0 v_252 e_247).bind fun v_255 => (if 0 < (x1.set (0) (ci v_237.1)).length then (if 0 ≤ (0 : Int) then (((([] : List Int) ++ ([v_115] : List Int)) ++ ([v_137] : List Int))[0]?).bind fun e_274 => (getI .i64 ((x1.set (0) (ci v_237.1)).set (0) (ci v_255.1)) (1)).bind fun v_279 => (wire_Machine_Two.m k v_255.2 5 1 v_279 e_274).bind fun v_282 => (if 1 < ((x1.set (0) (ci v_237.1)).set (0) (ci v_255.1)).length then (if 0 ≤ (1 : Int) then (((([] : List Int) ++ ([v_115] : List Int)) ++ ([v_137] : List Int))[1]?).bind fun e_292 => (getI .i64 (((x1.set (0) (ci v_237.1)).set (0) (ci v_255.1)).set (1) (ci v_282.1)) (1)).bind fun v_297 => (wire_Machine_Two.m k v_282.2 5 1 v_297 e_292).bind fun v_300 => (if 1 < (((x1.set (0) (ci v_237.1)).set (0) (ci v_255.1)).set (1) (ci v_282.1)).length then (if 0 ≤ (0 : Int) then (((([] : List Int) ++ ([v_167] : List Int)) ++ ([v_189] : List Int))[0]?).bind fun e_319 => (getI .i64 ((((x1.set (0) (ci v_237.1)).set (0) (ci v_255.1)).set (1) (ci v_282.1)).set (1) (ci v_300.1)) (2)).bind fun v_324 => (wire_Machine_Two.m k v_300.2 5 2 v_324 e_319).bind fun v_327 => (if 2 < ((((x1.set (0) (ci v_237.1)).set (0) (ci v_255.1)).set (1) (ci v_282.1)).set (1) (ci v_300.1)).length then (if 0 ≤ (1 : Int) then (((([] : List Int) ++ ([v_167] : List Int)) ++ ([v_189] : List Int))[1]?).bind fun e_337 => (getI .i64 (((((x1.set (0) (ci v_237.1)).set (0) (ci v_255.1)).set (1) (ci v_282.1)).set (1) (ci v_300.1)).set (2) (ci v_327.1)) (2)).bind fun v_342 => (wire_Machine_Two.m k v_327.2 5 2 v_342 e_337).bind fun v_345 => (if 2 < (((((x1.set (0) (ci v_237.1)).set (0) (ci v_255.1)).set (1) (ci v_282.1)).set (1) (ci v_300.1)).set (2) (ci v_327.1)).length then (wire_Machine_End.m k v_345.2).bind fun v_358 => some (((((((x1.set (0) (ci v_237.1)).set (0) (ci v_255.1)).set (1) (ci v_282.1)).set (1) (ci v_300.1)).set (2) (ci v_327.1)).set (2) (ci v_345.1)), v_358) else none) else none) else none) else none) else none) else none) else none) else none) else none) else none) else none) else none) else none) else none) else none) else none) else none) else none) else none) else none) else none) else none) else none) else none) else none) else none) else none) else none) else none) else none) else none) else none) else none) else none) else none))

set_option maxRecDepth 100000 in
set_option maxHeartbeats 4000000 in
theorem fresh_Full.ok (k : Nat) (x0 : Twire_Machine) (x1 : Cells) (r : (Cells × Twire_Machine)) (hm : fresh_Full.m k x0 x1 = some r) (κ : Ctx) (w : World) (S : List HP) (b_x0 : Nat) (ho : Ow κ w (Twire_Machine.own b_x0 x0 :: S)) :
  Calls Try.prog 49 #[pp b_x0, .agg (vals x1)] w (fresh_Full.R κ S x0 x1 b_x0 r) := by
 unfold fresh_Full.m at hm
 generalize hRR : fresh_Full.R κ S x0 x1 b_x0 r = RR
 refine qen [(0, pp b_x0), (1, .agg (vals x1))] Try.func49 Try.ntmps49 ho fun a hs => ?_
 refine qsr fun K1 hK1 => ?_
 refine qbx 1 28 x1 3 hs fun b_2 w a hs => ?_
 refine qal 28 [ci 0, ci 0, ci 0] 4 hs fun b_3 w a hs => ?_
 refine qpe 0 [(0, pp b_x0), (3, pp b_2), (4, pp b_3)] hs fun a hs => hK1 _ _ ?_
 clear hK1
 refine Vk.seq fun K4 hK4 => ?_
 refine qsr fun K5 hK5 => ?_
 refine qpu 1 hs fun a hs => ?_
 obtain ⟨g_6, hs⟩ := hs.unex 2 rfl
 obtain ⟨v_9, h_8, hm⟩ := bind_t hm
 refine qcl (wire_Machine_N.ok _ _ _ h_8 _ _ _ b_x0 g_6 hs.own.f2) hs fun w a hs => ?_
 rcases Bool.eq_false_or_eq_true (v_9 == 2) with hb | hb
 ·replace hm := bif_t hm hb
  obtain rfl := Vk.of_beq hb
  refine qpk 1 [0, 3, 4, 7] hs fun a hs => hK5 _ _ ?_
  refine qcf hs ?_
  refine wp_skip ?_
  refine hK4 _ _ ?_
  clear hK4
  refine qsr fun K360 hK360 => ?_
  refine qpu 1 hs fun a hs => ?_
  obtain ⟨h_361, hm⟩ := ite_t hm
  refine qlw 2 hs rfl h_361 fun a hs => ?_
  refine Vk.step (Vk.buildOp (sz := 1) (by_ := 8) (t := 159) (e := 3) (parts := #[(0, (.const (vi 0)))]) (zs := vals [ci 0]) ([0] : List Int) (eI .i64) (some 17) hs (by kernel_rfl) (by kernel_rfl) (by kernel_rfl) (by kernel_rfl) (by decide) rfl (fun x _ => rfl) (Nat.le_of_ble_eq_true (by kernel_rfl)) (by kernel_rfl) fun A_362 w a hs => ?_)
  refine Vk.step (Vk.buildOp (sz := 1) (by_ := 8) (t := 159) (e := 3) (parts := #[(0, (.const (vi 0)))]) (zs := vals [ci 0]) ([0] : List Int) (eI .i64) (some 18) hs (by kernel_rfl) (by kernel_rfl) (by kernel_rfl) (by kernel_rfl) (by decide) rfl (fun x _ => rfl) (Nat.le_of_ble_eq_true (by kernel_rfl)) (by kernel_rfl) fun A_364 w a hs => ?_)
  refine qpu 1 hs fun a hs => ?_
  refine Vk.step (Vk.call (some 20) 125 #[pp b_x0, .agg (vals x1), vi 1, .agg (vals ([C.slc A_362 (([0] : List Int).length) 1, C.slc A_364 (([0] : List Int).length) 1, C.slc none 0 0]))] hs (by kernel_rfl) (by kernel_rfl) (by kernel_rfl) ?_)
  refine Vk.enterI [(0, pp b_x0), (1, .agg (vals x1)), (2, vi 1), (3, .agg (vals ([C.slc A_362 (([0] : List Int).length) 1, C.slc A_364 (([0] : List Int).length) 1, C.slc none 0 0])))] Try.func125 rfl Try.ntmps125 (by kernel_rfl) (Nat.le_of_ble_eq_true (by kernel_rfl)) hs.own fun KR366 hKR366 hKP366 a hs => ?_
  refine qsr fun K367 hK367 => ?_
  refine qbx 1 28 x1 5 hs fun b_368 w a hs => ?_
  refine qbx 3 160 ([C.slc A_362 (([0] : List Int).length) 1, C.slc A_364 (([0] : List Int).length) 1, C.slc none 0 0]) 7 hs fun b_369 w a hs => ?_
  refine qal 28 [ci 0, ci 0, ci 0] 8 hs fun b_370 w a hs => ?_
  refine qpk 0 [0, 2, 5, 7, 8] hs fun a hs => hK367 _ _ ?_
  clear hK367
  refine Vk.seq fun K371 hK371 => ?_
  refine qsr fun K372 hK372 => ?_
  refine qpu 1 hs fun a hs => ?_
  obtain ⟨v_375, h_374, hm⟩ := bind_t hm
  refine qcl (wire_Machine_N.ok _ _ _ h_374 _ _ _ b_x0 g_6 hs.own.f5) hs fun w a hs => ?_
  rcases Bool.eq_false_or_eq_true (v_375 == 2) with hb | hb
  ·replace hm := bif_t hm hb
   obtain rfl := Vk.of_beq hb
   refine qpk 1 [0, 2, 5, 7, 8, 18] hs fun a hs => hK372 _ _ ?_
   clear hK372
   refine qcf hs ?_
   refine wp_skip ?_
   refine hK371 _ _ ?_
   clear hK371
   refine qsr fun K376 hK376 => ?_
   refine qpu 1 hs fun a hs => ?_
   replace hs := hs.toEx (Twire_Machine.parts b_x0 x0) g_6 0 rfl
   obtain ⟨v_379, h_378, hm⟩ := bind_t hm
   refine qcl (wire_Machine_Begin.ok _ _ _ _ h_378 _ _ _ b_x0 hs.own) hs fun w a hs => ?_
   refine qpk 0 [0, 2, 5, 7, 8] hs fun a hs => hK376 _ _ ?_
   clear hK376
   refine qsr fun K380 hK380 => ?_
   refine qpu 2 hs fun a hs => ?_
   obtain ⟨v_383, h_382, hm⟩ := bind_t hm
   refine qcl (fresh_masks.ok _ _ _ _ h_382 _ _ _ b_x0 hs.own) hs fun w a hs => ?_
   refine qal 26 [ci 0, ci 0, ci 0] 9 hs fun b_384 w a hs => ?_
   obtain ⟨h_385, hm⟩ := ite_t hm
   refine qsb 0 v_383.1 hs rfl h_385 rfl fun a w hs => ?_
   refine qpk 0 [0, 5, 7, 8, 9] hs fun a hs => hK380 _ _ ?_
   clear hK380
   refine qsr fun K386 hK386 => ?_
   refine qal 160 [C.slc none 0 0, C.slc none 0 0, C.slc none 0 0] 10 hs fun b_387 w a hs => ?_
   refine qpe 0 [(0, pp b_x0), (5, pp b_368), (7, pp b_369), (8, pp b_370), (9, pp b_384), (10, pp b_387)] hs fun a hs => hK386 _ _ ?_
   clear hK386
   refine Vk.seq fun K388 hK388 => ?_
   refine qsr fun K389 hK389 => ?_
   refine qln 4 ([C.slc A_362 (([0] : List Int).length) 1, C.slc A_364 (([0] : List Int).length) 1, C.slc none 0 0]) hs rfl fun a hs => ?_
   refine qpk 1 [0, 5, 8, 9, 10, 26, 27] hs fun a hs => hK389 _ _ ?_
   clear hK389
   refine wp_block ?_
   refine Vk.unroll0 40 ?_
   refine Vk.unroll fun KL390 hKL390 => ?_
   refine qsk 1 [0, 5, 8, 9, 10, 26, 27, 28] hs fun a hs => ?_
   refine qck hs ?_
   refine Vk.seq fun K393 hK393 => ?_
   refine wp_block ?_
   refine qsk 4 [0, 5, 8, 9, 10, 11, 12, 26, 27] hs fun a hs => ?_
   refine qsk 3 [0, 5, 8, 9, 10, 11, 26, 27, 31, 32, 33] hs fun a hs => ?_
   refine wp_block ?_
   refine Vk.unroll0 40 ?_
   refine Vk.unroll fun KL396 hKL396 => ?_
   refine qsk 1 [0, 5, 8, 9, 10, 11, 26, 27, 31, 32, 33, 34] hs fun a hs => ?_
   refine qck hs ?_
   refine Vk.seq fun K399 hK399 => ?_
   refine wp_block ?_
   refine qsr fun K400 hK400 => ?_
   obtain ⟨h_401, hm⟩ := ite_t hm
   obtain ⟨e_404, h_402, hm⟩ := bind_t hm
   obtain ⟨b_405, o_406, hA_407, h_403⟩ := Sl.elem (Ow.rowSl 0 (Ow.to (S' := rowp A_362 1 3 1 (eI .i64) ([0] : List Int) :: S) hs.own [7] 10 (by kernel_rfl) (by kernel_rfl)) rfl) h_402
   refine qva (.pointer (some ⟨b_405, o_406 + 0 * 1, none⟩)) (op := (.indexAddr 159 (.tmp 31) (.tmp 33))) hs (fun o ho => run_idxSlc (k := .i64) ho (cap := 1) (len := ([0] : List Int).length) ((congrArg (fun A => Value.slice A (([0] : List Int).length) (1)) hA_407) ▸ (by kernel_rfl)) (by kernel_rfl) (by kernel_rfl) (idx_ok h_401 h_402) _) fun a hs => ?_
   refine qva (vi e_404) (op := (.load 3 (.tmp 35))) hs (fun o ho => run_load1 (c := ci e_404) ho (by kernel_rfl) (by kernel_rfl) (fun w ho => h_403 w ho 0 _ rfl) _ (Ow.to (S' := rowp A_362 1 3 1 (eI .i64) ([0] : List Int) :: S) hs.own [7] 10 (by kernel_rfl) (by kernel_rfl))) fun a hs => ?_
   refine qpe 1 [(0, pp b_x0), (5, pp b_368), (8, pp b_370), (9, pp b_384), (10, pp b_387), (11, vi 0), (14, vi e_404), (26, .agg (vals ([C.slc A_362 (([0] : List Int).length) 1, C.slc A_364 (([0] : List Int).length) 1, C.slc none 0 0]))), (27, vi 0), (31, .slice A_362 (([0] : List Int).length) 1), (32, vi 1), (33, vi 0)] hs fun a hs => hK400 _ _ ?_
   clear hK400
   obtain ⟨C_408, hC_408⟩ := qC hs.own
   refine qdr 10 κ C_408 hs fun w hs hqC_408 => ?_
   have hcl := qO hC_408 hs.own
   refine qdp (fuel := 7) [0, 1, 2, 4] hs hcl hqC_408 fun a hs => ?_
   refine qdl 3 0 (C.slc none 0 0) hs hcl hqC_408 hC_408 rfl fun a hs => ?_
   obtain ⟨h_409, hm⟩ := ite_t hm
   refine qdx 5 b_384 0 1 hs hcl hqC_408 h_409 fun a hs => ?_
   obtain ⟨v_411, h_410, hm⟩ := bind_t hm
   refine qdi 6 1 hs hcl hqC_408 hC_408 rfl h_410 fun a hs => ?_
   refine Vk.dOnly (i := 7) (by kernel_rfl) (Vk.buildOp (sz := 1) (by_ := 8) (t := 159) (e := 3) (parts := #[(0, (.tmp 43))]) (zs := vals [ci 0]) ([v_411] : List Int) (eI .i64) (some 44) hs (by kernel_rfl) (by kernel_rfl) (by kernel_rfl) (by kernel_rfl) (by decide) rfl (fun x _ => rfl) (Nat.le_of_ble_eq_true (by kernel_rfl)) (by kernel_rfl) fun A_412 w a hs => ?_)
   replace hcl := qO hC_408 hs.own.drop
   refine ⟨fun _ => hcl, ?_⟩
   replace hs := hs.addRow none 3 1 (eI .i64)
   obtain ⟨h_415, hm⟩ := ite_t hm
   refine Vk.dOnly (i := 8) (by kernel_rfl) (Vk.appendOp (x := (.tmp 40)) (y := (.tmp 44)) (e := 3) (t := 159) (by_ := 8) (sz := 1) (enc := (eI .i64)) (A := none) (cap := 0) (xs := ([] : List Int)) (ys := ([v_411] : List Int)) (B := A_412) (c2 := 1) 0 (some 45) hs (by kernel_rfl) (by kernel_rfl) (by kernel_rfl) (by kernel_rfl) rfl (Sl.lift (fun w ho => (Ow.to (S' := rowp A_412 1 3 1 (eI .i64) ([v_411] : List Int) :: S) ho [1] 12 (by kernel_rfl) (by kernel_rfl))) (Ow.rowSl 0 (Ow.to (S' := rowp A_412 1 3 1 (eI .i64) ([v_411] : List Int) :: S) hs.own [1] 12 (by kernel_rfl) (by kernel_rfl)) rfl)) (by kernel_rfl) (by kernel_rfl) (by decide) (by decide) h_415 fun A_416 c_417 w a hs => ?_)
   replace hcl := qO hC_408 hs.own.f1.drop.drop
   refine ⟨fun _ => hcl, ?_⟩
   refine qdp (fuel := 1) [9] hs hcl hqC_408 fun a hs => ?_
   refine qsd 10 2 0 (C.slc A_416 ((([] : List Int) ++ ([v_411] : List Int)).length) c_417) hs rfl fun a w hs => ?_
   refine ⟨fun h => absurd h (by decide), ?_⟩
   replace hs := hs.pick [0, 5, 8, 9, 10, 11, 26, 27, 31, 32, 33] (L' := [(0, pp b_x0), (5, pp b_368), (8, pp b_370), (9, pp b_384), (10, pp b_387), (11, vi 0), (26, .agg (vals ([C.slc A_362 (([0] : List Int).length) 1, C.slc A_364 (([0] : List Int).length) 1, C.slc none 0 0]))), (27, vi 0), (31, .slice A_362 (([0] : List Int).length) 1), (32, vi 1), (33, vi 0)]) (by kernel_rfl)
   refine Vk.dDone (by kernel_rfl) ?_
   refine hK399 _ _ ?_
   clear hK399
   refine Vk.region ?_
   refine qpk 2 [0, 5, 8, 9, 10, 11, 26, 27, 31, 32, 33] hs fun a hs => hKL396 _ _ ?_
   clear hKL396
   refine Vk.unroll fun KL418 hKL418 => ?_
   refine qsk 1 [0, 5, 8, 9, 10, 11, 26, 27, 31, 32, 33, 34] hs fun a hs => ?_
   refine Vk.seq fun K420 hK420 => ?_
   refine qcf hs ?_
   refine wp_exit ?_
   refine hK393 _ _ ?_
   clear hK393
   refine Vk.region ?_
   refine qpk 2 [0, 5, 8, 9, 10, 26, 27] hs fun a hs => hKL390 _ _ ?_
   clear hKL390
   refine Vk.unroll fun KL421 hKL421 => ?_
   refine qsk 1 [0, 5, 8, 9, 10, 26, 27, 28] hs fun a hs => ?_
   refine qck hs ?_
   refine Vk.seq fun K424 hK424 => ?_
   refine wp_block ?_
   refine qsk 4 [0, 5, 8, 9, 10, 11, 12, 26, 27] hs fun a hs => ?_
   refine qse 3 [(0, pp b_x0), (5, pp b_368), (8, pp b_370), (9, pp b_384), (10, pp b_387), (11, vi 1), (26, .agg (vals ([C.slc A_362 (([0] : List Int).length) 1, C.slc A_364 (([0] : List Int).length) 1, C.slc none 0 0]))), (27, vi 1), (31, .slice A_364 (([0] : List Int).length) 1), (32, vi 1), (33, vi 0)] hs fun a hs => ?_
   refine wp_block ?_
   refine Vk.unroll0 40 ?_
   refine Vk.unroll fun KL427 hKL427 => ?_
   refine qsk 1 [0, 5, 8, 9, 10, 11, 26, 27, 31, 32, 33, 34] hs fun a hs => ?_
   refine qck hs ?_
   refine Vk.seq fun K430 hK430 => ?_
   refine wp_block ?_
   refine qsr fun K431 hK431 => ?_
   obtain ⟨h_432, hm⟩ := ite_t hm
   obtain ⟨e_435, h_433, hm⟩ := bind_t hm
   obtain ⟨b_436, o_437, hA_438, h_434⟩ := Sl.elem (Ow.rowSl 0 (Ow.to (S' := rowp A_364 1 3 1 (eI .i64) ([0] : List Int) :: S) hs.own [8] 12 (by kernel_rfl) (by kernel_rfl)) rfl) h_433
   refine qva (.pointer (some ⟨b_436, o_437 + 0 * 1, none⟩)) (op := (.indexAddr 159 (.tmp 31) (.tmp 33))) hs (fun o ho => run_idxSlc (k := .i64) ho (cap := 1) (len := ([0] : List Int).length) ((congrArg (fun A => Value.slice A (([0] : List Int).length) (1)) hA_438) ▸ (by kernel_rfl)) (by kernel_rfl) (by kernel_rfl) (idx_ok h_432 h_433) _) fun a hs => ?_
   refine qva (vi e_435) (op := (.load 3 (.tmp 35))) hs (fun o ho => run_load1 (c := ci e_435) ho (by kernel_rfl) (by kernel_rfl) (fun w ho => h_434 w ho 0 _ rfl) _ (Ow.to (S' := rowp A_364 1 3 1 (eI .i64) ([0] : List Int) :: S) hs.own [8] 12 (by kernel_rfl) (by kernel_rfl))) fun a hs => ?_
   refine qpk 1 [0, 5, 8, 9, 10, 11, 14, 26, 27, 31, 32, 33] hs fun a hs => hK431 _ _ ?_
   clear hK431
   obtain ⟨C_439, hC_439⟩ := qC hs.own
   refine qdr 10 κ C_439 hs fun w hs hqC_439 => ?_
   have hcl := qO hC_439 hs.own
   refine qdp (fuel := 7) [0, 1, 2, 4] hs hcl hqC_439 fun a hs => ?_
   refine qdl 3 2 (C.slc none 0 0) hs hcl hqC_439 hC_439 rfl fun a hs => ?_
   obtain ⟨h_440, hm⟩ := ite_t hm
   refine qdx 5 b_384 0 1 hs hcl hqC_439 h_440 fun a hs => ?_
   obtain ⟨v_442, h_441, hm⟩ := bind_t hm
   refine qdi 6 3 hs hcl hqC_439 hC_439 rfl h_441 fun a hs => ?_
   refine Vk.dOnly (i := 7) (by kernel_rfl) (Vk.buildOp (sz := 1) (by_ := 8) (t := 159) (e := 3) (parts := #[(0, (.tmp 43))]) (zs := vals [ci 0]) ([v_442] : List Int) (eI .i64) (some 44) hs (by kernel_rfl) (by kernel_rfl) (by kernel_rfl) (by kernel_rfl) (by decide) rfl (fun x _ => rfl) (Nat.le_of_ble_eq_true (by kernel_rfl)) (by kernel_rfl) fun A_443 w a hs => ?_)
   replace hcl := qO hC_439 hs.own.drop
   refine ⟨fun _ => hcl, ?_⟩
   replace hs := hs.addRow none 3 1 (eI .i64)
   obtain ⟨h_446, hm⟩ := ite_t hm
   refine Vk.dOnly (i := 8) (by kernel_rfl) (Vk.appendOp (x := (.tmp 40)) (y := (.tmp 44)) (e := 3) (t := 159) (by_ := 8) (sz := 1) (enc := (eI .i64)) (A := none) (cap := 0) (xs := ([] : List Int)) (ys := ([v_442] : List Int)) (B := A_443) (c2 := 1) 0 (some 45) hs (by kernel_rfl) (by kernel_rfl) (by kernel_rfl) (by kernel_rfl) rfl (Sl.lift (fun w ho => (Ow.to (S' := rowp A_443 1 3 1 (eI .i64) ([v_442] : List Int) :: S) ho [1] 14 (by kernel_rfl) (by kernel_rfl))) (Ow.rowSl 0 (Ow.to (S' := rowp A_443 1 3 1 (eI .i64) ([v_442] : List Int) :: S) hs.own [1] 14 (by kernel_rfl) (by kernel_rfl)) rfl)) (by kernel_rfl) (by kernel_rfl) (by decide) (by decide) h_446 fun A_447 c_448 w a hs => ?_)
   replace hcl := qO hC_439 hs.own.f1.drop.drop
   refine ⟨fun _ => hcl, ?_⟩
   refine qdp (fuel := 1) [9] hs hcl hqC_439 fun a hs => ?_
   refine qsd 10 4 1 (C.slc A_447 ((([] : List Int) ++ ([v_442] : List Int)).length) c_448) hs rfl fun a w hs => ?_
   refine ⟨fun h => absurd h (by decide), ?_⟩
   replace hs := hs.pick [0, 5, 8, 9, 10, 11, 26, 27, 31, 32, 33] (L' := [(0, pp b_x0), (5, pp b_368), (8, pp b_370), (9, pp b_384), (10, pp b_387), (11, vi 1), (26, .agg (vals ([C.slc A_362 (([0] : List Int).length) 1, C.slc A_364 (([0] : List Int).length) 1, C.slc none 0 0]))), (27, vi 1), (31, .slice A_364 (([0] : List Int).length) 1), (32, vi 1), (33, vi 0)]) (by kernel_rfl)
   refine Vk.dDone (by kernel_rfl) ?_
   refine hK430 _ _ ?_
   clear hK430
   refine Vk.region ?_
   refine qpk 2 [0, 5, 8, 9, 10, 11, 26, 27, 31, 32, 33] hs fun a hs => hKL427 _ _ ?_
   clear hKL427
   refine Vk.unroll fun KL449 hKL449 => ?_
   refine qsk 1 [0, 5, 8, 9, 10, 11, 26, 27, 31, 32, 33, 34] hs fun a hs => ?_
   refine Vk.seq fun K451 hK451 => ?_
   refine qcf hs ?_
   refine wp_exit ?_
   refine hK424 _ _ ?_
   clear hK424
   refine Vk.region ?_
   refine qpk 2 [0, 5, 8, 9, 10, 26, 27] hs fun a hs => hKL421 _ _ ?_
   clear hKL421
   refine Vk.unroll fun KL452 hKL452 => ?_
   refine qse 1 [(0, pp b_x0), (5, pp b_368), (8, pp b_370), (9, pp b_384), (10, pp b_387), (26, .agg (vals ([C.slc A_362 (([0] : List Int).length) 1, C.slc A_364 (([0] : List Int).length) 1, C.slc none 0 0]))), (27, vi 2), (28, .bool true)] hs fun a hs => ?_
   refine qck hs ?_
   refine Vk.seq fun K455 hK455 => ?_
   refine wp_block ?_
   refine qsk 4 [0, 5, 8, 9, 10, 11, 12, 26, 27] hs fun a hs => ?_
   refine qsk 3 [0, 5, 8, 9, 10, 11, 26, 27, 31, 32, 33] hs fun a hs => ?_
   refine wp_block ?_
   refine Vk.unroll0 40 ?_
   refine Vk.unroll fun KL458 hKL458 => ?_
   refine qsk 1 [0, 5, 8, 9, 10, 11, 26, 27, 31, 32, 33, 34] hs fun a hs => ?_
   refine Vk.seq fun K460 hK460 => ?_
   refine qcf hs ?_
   refine wp_exit ?_
   refine hK455 _ _ ?_
   clear hK455
   refine Vk.region ?_
   refine qpk 2 [0, 5, 8, 9, 10, 26, 27] hs fun a hs => hKL452 _ _ ?_
   clear hKL452
   refine Vk.unroll fun KL461 hKL461 => ?_
   refine qsk 1 [0, 5, 8, 9, 10, 26, 27, 28] hs fun a hs => ?_
   refine Vk.seq fun K463 hK463 => ?_
   refine qcf hs ?_
   refine wp_exit ?_
   refine hK388 _ _ ?_
   clear hK388
   refine qsr fun K464 hK464 => ?_
   refine qpu 1 hs fun a hs => ?_
   refine qlw 9 hs rfl h_361 fun a hs => ?_
   refine qln 4 ([C.slc A_416 ((([] : List Int) ++ ([v_411] : List Int)).length) c_417, C.slc A_447 ((([] : List Int) ++ ([v_442] : List Int)).length) c_448, C.slc none 0 0]) hs rfl fun a hs => ?_
   refine Vk.step (Vk.call (some 52) 161 #[pp b_x0, .agg (vals x1), .agg (vals ([C.slc A_416 ((([] : List Int) ++ ([v_411] : List Int)).length) c_417, C.slc A_447 ((([] : List Int) ++ ([v_442] : List Int)).length) c_448, C.slc none 0 0]))] hs (by kernel_rfl) (by kernel_rfl) (by kernel_rfl) ?_)
   refine Vk.enterI [(0, pp b_x0), (1, .agg (vals x1)), (2, .agg (vals ([C.slc A_416 ((([] : List Int) ++ ([v_411] : List Int)).length) c_417, C.slc A_447 ((([] : List Int) ++ ([v_442] : List Int)).length) c_448, C.slc none 0 0])))] Try.func161 rfl Try.ntmps161 (by kernel_rfl) (Nat.le_of_ble_eq_true (by kernel_rfl)) hs.own fun KR465 hKR465 hKP465 a hs => ?_
   refine qsr fun K466 hK466 => ?_
   refine qbx 1 28 x1 4 hs fun b_467 w a hs => ?_
   refine qbx 2 160 ([C.slc A_416 ((([] : List Int) ++ ([v_411] : List Int)).length) c_417, C.slc A_447 ((([] : List Int) ++ ([v_442] : List Int)).length) c_448, C.slc none 0 0]) 5 hs fun b_468 w a hs => ?_
   refine qal 28 [ci 0, ci 0, ci 0] 6 hs fun b_469 w a hs => ?_
   refine qpe 0 [(0, pp b_x0), (4, pp b_467), (5, pp b_468), (6, pp b_469)] hs fun a hs => hK466 _ _ ?_
   clear hK466
   refine qsr fun K470 hK470 => ?_
   refine qlw 2 hs rfl h_361 fun a hs => ?_
   refine qal 28 [ci 0, ci 0, ci 0] 7 hs fun b_471 w a hs => ?_
   refine qsb 0 x1 hs rfl h_361 rfl fun a w hs => ?_
   refine qpe 0 [(0, pp b_x0), (5, pp b_468), (6, pp b_469), (7, pp b_471)] hs fun a hs => hK470 _ _ ?_
   clear hK470
   refine Vk.seq fun K472 hK472 => ?_
   refine qsr fun K473 hK473 => ?_
   refine qpu 1 hs fun a hs => ?_
   obtain ⟨g_474, hs⟩ := hs.unex 10 rfl
   obtain ⟨v_477, h_476, hm⟩ := bind_t hm
   refine qcl (wire_Machine_N.ok _ _ _ h_476 _ _ _ b_x0 g_474 hs.own.f10) hs fun w a hs => ?_
   rcases Bool.eq_false_or_eq_true (v_477 == 2) with hb | hb
   ·replace hm := bif_t hm hb
    obtain rfl := Vk.of_beq hb
    refine qpk 1 [0, 5, 6, 7, 13, 14] hs fun a hs => hK473 _ _ ?_
    clear hK473
    refine wp_block ?_
    refine Vk.unroll0 40 ?_
    refine Vk.unroll fun KL478 hKL478 => ?_
    refine qsk 1 [0, 5, 6, 7, 13, 14, 15] hs fun a hs => ?_
    refine qck hs ?_
    refine Vk.seq fun K481 hK481 => ?_
    refine wp_block ?_
    refine qsk 2 [0, 5, 6, 7, 8, 13, 14] hs fun a hs => ?_
    refine qsr fun K483 hK483 => ?_
    refine qpu 2 hs fun a hs => ?_
    refine qld 3 (C.slc A_416 ((([] : List Int) ++ ([v_411] : List Int)).length) c_417) hs rfl fun a hs => ?_
    refine qpk 2 [0, 5, 6, 7, 8, 13, 14, 19, 20, 21] hs fun a hs => hK483 _ _ ?_
    clear hK483
    refine wp_block ?_
    refine Vk.unroll0 40 ?_
    refine Vk.unroll fun KL484 hKL484 => ?_
    refine qsk 1 [0, 5, 6, 7, 8, 13, 14, 19, 20, 21, 22] hs fun a hs => ?_
    refine qck hs ?_
    refine Vk.seq fun K487 hK487 => ?_
    refine wp_block ?_
    refine qsr fun K488 hK488 => ?_
    obtain ⟨h_489, hm⟩ := ite_t hm
    obtain ⟨e_492, h_490, hm⟩ := bind_t hm
    obtain ⟨b_493, o_494, hA_495, h_491⟩ := Sl.elem (Ow.rowSl 0 (Ow.to (S' := rowp A_416 c_417 3 1 (eI .i64) (([] : List Int) ++ ([v_411] : List Int)) :: S) hs.own [7] 18 (by kernel_rfl) (by kernel_rfl)) rfl) h_490
    refine qva (.pointer (some ⟨b_493, o_494 + 0 * 1, none⟩)) (op := (.indexAddr 159 (.tmp 19) (.tmp 21))) hs (fun o ho => run_idxSlc (k := .i64) ho (cap := c_417) (len := (([] : List Int) ++ ([v_411] : List Int)).length) ((congrArg (fun A => Value.slice A ((([] : List Int) ++ ([v_411] : List Int)).length) (c_417)) hA_495) ▸ (by kernel_rfl)) (by kernel_rfl) (by kernel_rfl) (idx_ok h_489 h_490) _) fun a hs => ?_
    refine qva (vi e_492) (op := (.load 3 (.tmp 23))) hs (fun o ho => run_load1 (c := ci e_492) ho (by kernel_rfl) (by kernel_rfl) (fun w ho => h_491 w ho 0 _ rfl) _ (Ow.to (S' := rowp A_416 c_417 3 1 (eI .i64) (([] : List Int) ++ ([v_411] : List Int)) :: S) hs.own [7] 18 (by kernel_rfl) (by kernel_rfl))) fun a hs => ?_
    refine qpe 1 [(0, pp b_x0), (5, pp b_468), (6, pp b_469), (7, pp b_471), (8, vi 0), (10, vi e_492), (13, vi 2), (14, vi 0), (19, .slice A_416 ((([] : List Int) ++ ([v_411] : List Int)).length) c_417), (20, vi 1), (21, vi 0)] hs fun a hs => hK488 _ _ ?_
    clear hK488
    refine Vk.region ?_
    refine qpu 6 hs fun a hs => ?_
    obtain ⟨v_497, h_496, hm⟩ := bind_t hm
    refine qli 1 hs rfl h_496 fun a hs => ?_
    refine qpu 1 hs fun a hs => ?_
    replace hs := hs.toEx (Twire_Machine.parts b_x0 v_383.2) g_474 0 rfl
    obtain ⟨v_500, h_499, hm⟩ := bind_t hm
    refine qcl (wire_Machine_Two.ok _ _ _ _ _ _ _ h_499 _ _ _ b_x0 hs.own) hs fun w a hs => ?_
    refine qpu 2 hs fun a hs => ?_
    obtain ⟨h_501, hm⟩ := ite_t hm
    refine Vk.step (Vk.store1 (b := b_471) (ty := 3) (x := (.tmp 35)) (y := (.tmp 33)) (off := 0) (ci v_500.1) 1 hs (by kernel_rfl) (by kernel_rfl) (by kernel_rfl) (by kernel_rfl) (by kernel_rfl) (by kernel_rfl) rfl h_501 fun a w hs => ?_)
    refine qpk 0 [0, 5, 6, 7, 8, 13, 14, 19, 20, 21] hs fun a hs => hK487 _ _ ?_
    clear hK487
    refine Vk.region ?_
    refine qpk 2 [0, 5, 6, 7, 8, 13, 14, 19, 20, 21] hs fun a hs => hKL484 _ _ ?_
    clear hKL484
    refine Vk.unroll fun KL502 hKL502 => ?_
    refine qsk 1 [0, 5, 6, 7, 8, 13, 14, 19, 20, 21, 22] hs fun a hs => ?_
    refine Vk.seq fun K504 hK504 => ?_
    refine qcf hs ?_
    refine wp_exit ?_
    refine hK481 _ _ ?_
    clear hK481
    refine Vk.region ?_
    refine qpk 2 [0, 5, 6, 7, 13, 14] hs fun a hs => hKL478 _ _ ?_
    clear hKL478
    refine Vk.unroll fun KL505 hKL505 => ?_
    refine qsk 1 [0, 5, 6, 7, 13, 14, 15] hs fun a hs => ?_
    refine qck hs ?_
    refine Vk.seq fun K508 hK508 => ?_
    refine wp_block ?_
    refine qse 2 [(0, pp b_x0), (5, pp b_468), (6, pp b_469), (7, pp b_471), (8, vi 1), (13, vi 2), (14, vi 1)] hs fun a hs => ?_
    refine qsr fun K510 hK510 => ?_
    refine qpu 2 hs fun a hs => ?_
    refine qld 3 (C.slc A_447 ((([] : List Int) ++ ([v_442] : List Int)).length) c_448) hs rfl fun a hs => ?_
    refine qpk 2 [0, 5, 6, 7, 8, 13, 14, 19, 20, 21] hs fun a hs => hK510 _ _ ?_
    clear hK510
    refine wp_block ?_
    refine Vk.unroll0 40 ?_
    refine Vk.unroll fun KL511 hKL511 => ?_
    refine qsk 1 [0, 5, 6, 7, 8, 13, 14, 19, 20, 21, 22] hs fun a hs => ?_
    refine qck hs ?_
    refine Vk.seq fun K514 hK514 => ?_
    refine wp_block ?_
    refine qsr fun K515 hK515 => ?_
    obtain ⟨h_516, hm⟩ := ite_t hm
    obtain ⟨e_519, h_517, hm⟩ := bind_t hm
    obtain ⟨b_520, o_521, hA_522, h_518⟩ := Sl.elem (Ow.rowSl 0 (Ow.to (S' := rowp A_447 c_448 3 1 (eI .i64) (([] : List Int) ++ ([v_442] : List Int)) :: S) hs.own [5] 18 (by kernel_rfl) (by kernel_rfl)) rfl) h_517
    refine qva (.pointer (some ⟨b_520, o_521 + 0 * 1, none⟩)) (op := (.indexAddr 159 (.tmp 19) (.tmp 21))) hs (fun o ho => run_idxSlc (k := .i64) ho (cap := c_448) (len := (([] : List Int) ++ ([v_442] : List Int)).length) ((congrArg (fun A => Value.slice A ((([] : List Int) ++ ([v_442] : List Int)).length) (c_448)) hA_522) ▸ (by kernel_rfl)) (by kernel_rfl) (by kernel_rfl) (idx_ok h_516 h_517) _) fun a hs => ?_
    refine qva (vi e_519) (op := (.load 3 (.tmp 23))) hs (fun o ho => run_load1 (c := ci e_519) ho (by kernel_rfl) (by kernel_rfl) (fun w ho => h_518 w ho 0 _ rfl) _ (Ow.to (S' := rowp A_447 c_448 3 1 (eI .i64) (([] : List Int) ++ ([v_442] : List Int)) :: S) hs.own [5] 18 (by kernel_rfl) (by kernel_rfl))) fun a hs => ?_
    refine qpk 1 [0, 5, 6, 7, 8, 10, 13, 14, 19, 20, 21] hs fun a hs => hK515 _ _ ?_
    clear hK515
    refine Vk.region ?_
    refine qpu 6 hs fun a hs => ?_
    obtain ⟨v_524, h_523, hm⟩ := bind_t hm
    refine qli 1 hs rfl h_523 fun a hs => ?_
    refine qpu 1 hs fun a hs => ?_
    obtain ⟨v_527, h_526, hm⟩ := bind_t hm
    refine qcl (wire_Machine_Two.ok _ _ _ _ _ _ _ h_526 _ _ _ b_x0 hs.own) hs fun w a hs => ?_
    refine qpu 2 hs fun a hs => ?_
    obtain ⟨h_528, hm⟩ := ite_t hm
    refine Vk.step (Vk.store1 (b := b_471) (ty := 3) (x := (.tmp 35)) (y := (.tmp 33)) (off := 1) (ci v_527.1) 1 hs (by kernel_rfl) (by kernel_rfl) (by kernel_rfl) (by kernel_rfl) (by kernel_rfl) (by kernel_rfl) rfl h_528 fun a w hs => ?_)
    refine qpk 0 [0, 5, 6, 7, 8, 13, 14, 19, 20, 21] hs fun a hs => hK514 _ _ ?_
    clear hK514
    refine Vk.region ?_
    refine qpk 2 [0, 5, 6, 7, 8, 13, 14, 19, 20, 21] hs fun a hs => hKL511 _ _ ?_
    clear hKL511
    refine Vk.unroll fun KL529 hKL529 => ?_
    refine qse 1 [(0, pp b_x0), (5, pp b_468), (6, pp b_469), (7, pp b_471), (8, vi 1), (13, vi 2), (14, vi 1), (19, .slice A_447 ((([] : List Int) ++ ([v_442] : List Int)).length) c_448), (20, vi 1), (21, vi 1), (22, .bool false)] hs fun a hs => ?_
    refine Vk.seq fun K531 hK531 => ?_
    refine qcf hs ?_
    refine wp_exit ?_
    refine hK508 _ _ ?_
    clear hK508
    refine Vk.region ?_
    refine qpk 2 [0, 5, 6, 7, 13, 14] hs fun a hs => hKL505 _ _ ?_
    clear hKL505
    refine Vk.unroll fun KL532 hKL532 => ?_
    refine qsk 1 [0, 5, 6, 7, 13, 14, 15] hs fun a hs => ?_
    refine Vk.seq fun K534 hK534 => ?_
    refine qcf hs ?_
    refine wp_exit ?_
    refine hK472 _ _ ?_
    clear hK472
    refine qsr fun K535 hK535 => ?_
    refine qva (.agg (vals ((x1.set (0) (ci v_500.1)).set (1) (ci v_527.1)))) (op := (.load 28 (.tmp 7))) hs (fun o ho => run_loadN (cs := ((x1.set (0) (ci v_500.1)).set (1) (ci v_527.1))) ho (by kernel_rfl) (by kernel_rfl) (List.length_set.trans (List.length_set.trans h_361)) (CellsAt.all 1 rfl) _ hs.own) fun a hs => ?_
    refine Vk.step (Vk.storeA (b := b_469) (ty := 28) (x := (.tmp 6)) (y := (.tmp 38)) (sz := 3) ((x1.set (0) (ci v_500.1)).set (1) (ci v_527.1)) 2 hs (by kernel_rfl) (by kernel_rfl) (by kernel_rfl) (by kernel_rfl) (by kernel_rfl) (List.length_set.trans (List.length_set.trans h_361)) (by kernel_rfl) rfl (Eq.trans (b := 3) (List.length_set.trans (List.length_set.trans h_361)) (Eq.symm rfl)) fun a w hs => ?_)
    refine qpe 0 [(6, pp b_469)] hs fun a hs => hK535 _ _ ?_
    clear hK535
    refine wp_ret ?_
    refine hKP465 _ _ ?_
    refine hKR465 _ _ ?_
    refine Vk.retC (P := Try.prog) (fn := Try.f161) ((x1.set (0) (ci v_500.1)).set (1) (ci v_527.1)) hs rfl (by kernel_rfl) (sz := 3) (by kernel_rfl) (List.length_set.trans (List.length_set.trans h_361)) (CellsAt.all 2 rfl) ⟨_, _, _, rfl, hs.own, fun a hs => ?_⟩
    refine qal 28 [ci 0, ci 0, ci 0] 15 hs fun b_536 w a hs => ?_
    refine Vk.step (Vk.storeA (b := b_536) (ty := 28) (x := (.tmp 15)) (y := (.tmp 52)) (sz := 3) ((x1.set (0) (ci v_500.1)).set (1) (ci v_527.1)) 0 hs (by kernel_rfl) (by kernel_rfl) (by kernel_rfl) (by kernel_rfl) (by kernel_rfl) (List.length_set.trans (List.length_set.trans h_361)) (by kernel_rfl) rfl (Eq.trans (b := 3) (List.length_set.trans (List.length_set.trans h_361)) (Eq.symm rfl)) fun a w hs => ?_)
    refine qpk 0 [0, 8, 15] hs fun a hs => hK464 _ _ ?_
    clear hK464
    refine qsr fun K537 hK537 => ?_
    refine qpu 1 hs fun a hs => ?_
    obtain ⟨v_540, h_539, hm⟩ := bind_t hm
    refine qcl (wire_Machine_End.ok _ _ _ h_539 _ _ _ b_x0 hs.own.f1) hs fun w a hs => ?_
    refine qpk 0 [8, 15] hs fun a hs => hK537 _ _ ?_
    clear hK537
    refine qsr fun K541 hK541 => ?_
    refine qva (.agg (vals ((x1.set (0) (ci v_500.1)).set (1) (ci v_527.1)))) (op := (.load 28 (.tmp 15))) hs (fun o ho => run_loadN (cs := ((x1.set (0) (ci v_500.1)).set (1) (ci v_527.1))) ho (by kernel_rfl) (by kernel_rfl) (List.length_set.trans (List.length_set.trans h_361)) (CellsAt.all 1 rfl) _ hs.own) fun a hs => ?_
    refine Vk.step (Vk.storeA (b := b_370) (ty := 28) (x := (.tmp 8)) (y := (.tmp 55)) (sz := 3) ((x1.set (0) (ci v_500.1)).set (1) (ci v_527.1)) 12 hs (by kernel_rfl) (by kernel_rfl) (by kernel_rfl) (by kernel_rfl) (by kernel_rfl) (List.length_set.trans (List.length_set.trans h_361)) (by kernel_rfl) rfl (Eq.trans (b := 3) (List.length_set.trans (List.length_set.trans h_361)) (Eq.symm rfl)) fun a w hs => ?_)
    refine qpe 0 [(8, pp b_370)] hs fun a hs => hK541 _ _ ?_
    clear hK541
    refine wp_ret ?_
    refine hKP366 _ _ ?_
    refine hKR366 _ _ ?_
    refine Vk.retC (P := Try.prog) (fn := Try.f125) ((x1.set (0) (ci v_500.1)).set (1) (ci v_527.1)) hs rfl (by kernel_rfl) (sz := 3) (by kernel_rfl) (List.length_set.trans (List.length_set.trans h_361)) (CellsAt.all 12 rfl) ⟨_, _, _, rfl, hs.own, fun a hs => ?_⟩
    refine Vk.step (Vk.storeA (b := b_3) (ty := 28) (x := (.tmp 4)) (y := (.tmp 20)) (sz := 3) ((x1.set (0) (ci v_500.1)).set (1) (ci v_527.1)) 17 hs (by kernel_rfl) (by kernel_rfl) (by kernel_rfl) (by kernel_rfl) (by kernel_rfl) (List.length_set.trans (List.length_set.trans h_361)) (by kernel_rfl) rfl (Eq.trans (b := 3) (List.length_set.trans (List.length_set.trans h_361)) (Eq.symm rfl)) fun a w hs => ?_)
    refine qpe 0 [(4, pp b_3)] hs fun a hs => hK360 _ _ ?_
    clear hK360
    refine wp_ret ?_
    exact Vk.retC ((x1.set (0) (ci v_500.1)).set (1) (ci v_527.1)) hs rfl (by kernel_rfl) (sz := 3) (by kernel_rfl) (List.length_set.trans (List.length_set.trans h_361)) (CellsAt.all 17 rfl) (hRR ▸ by cases hm; exact ⟨rfl, (hs.own.too [0] 19)⟩)
   ·replace hm := bif_f hm hb
    cases hm
  ·replace hm := bif_f hm hb
   cases hm
 ·replace hm := bif_f hm hb
  rcases Bool.eq_false_or_eq_true (v_9 == 3) with hb | hb
  ·replace hm := bif_t hm hb
   obtain rfl := Vk.of_beq hb
   refine qpk 1 [0, 3, 4, 7] hs fun a hs => hK5 _ _ ?_
   refine qct hs ?_
   refine qsr fun K10 hK10 => ?_
   refine qpu 1 hs fun a hs => ?_
   obtain ⟨h_11, hm⟩ := ite_t hm
   refine qlw 2 hs rfl h_11 fun a hs => ?_
   refine Vk.step (Vk.buildOp (sz := 1) (by_ := 8) (t := 159) (e := 3) (parts := #[(0, (.const (vi 0))), (1, (.const (vi 1)))]) (zs := vals [ci 0]) ([0, 1] : List Int) (eI .i64) (some 10) hs (by kernel_rfl) (by kernel_rfl) (by kernel_rfl) (by kernel_rfl) (by decide) rfl (fun x _ => rfl) (Nat.le_of_ble_eq_true (by kernel_rfl)) (by kernel_rfl) fun A_12 w a hs => ?_)
   refine Vk.step (Vk.buildOp (sz := 1) (by_ := 8) (t := 159) (e := 3) (parts := #[(0, (.const (vi 0))), (1, (.const (vi 2)))]) (zs := vals [ci 0]) ([0, 2] : List Int) (eI .i64) (some 11) hs (by kernel_rfl) (by kernel_rfl) (by kernel_rfl) (by kernel_rfl) (by decide) rfl (fun x _ => rfl) (Nat.le_of_ble_eq_true (by kernel_rfl)) (by kernel_rfl) fun A_14 w a hs => ?_)
   refine Vk.step (Vk.buildOp (sz := 1) (by_ := 8) (t := 159) (e := 3) (parts := #[(0, (.const (vi 1))), (1, (.const (vi 2)))]) (zs := vals [ci 0]) ([1, 2] : List Int) (eI .i64) (some 12) hs (by kernel_rfl) (by kernel_rfl) (by kernel_rfl) (by kernel_rfl) (by decide) rfl (fun x _ => rfl) (Nat.le_of_ble_eq_true (by kernel_rfl)) (by kernel_rfl) fun A_16 w a hs => ?_)
   refine qpu 1 hs fun a hs => ?_
   refine Vk.step (Vk.call (some 14) 125 #[pp b_x0, .agg (vals x1), vi 3, .agg (vals ([C.slc A_12 (([0, 1] : List Int).length) 2, C.slc A_14 (([0, 2] : List Int).length) 2, C.slc A_16 (([1, 2] : List Int).length) 2]))] hs (by kernel_rfl) (by kernel_rfl) (by kernel_rfl) ?_)
   refine Vk.enterI [(0, pp b_x0), (1, .agg (vals x1)), (2, vi 3), (3, .agg (vals ([C.slc A_12 (([0, 1] : List Int).length) 2, C.slc A_14 (([0, 2] : List Int).length) 2, C.slc A_16 (([1, 2] : List Int).length) 2])))] Try.func125 rfl Try.ntmps125 (by kernel_rfl) (Nat.le_of_ble_eq_true (by kernel_rfl)) hs.own fun KR18 hKR18 hKP18 a hs => ?_
   refine qsr fun K19 hK19 => ?_
   refine qbx 1 28 x1 5 hs fun b_20 w a hs => ?_
   refine qbx 3 160 ([C.slc A_12 (([0, 1] : List Int).length) 2, C.slc A_14 (([0, 2] : List Int).length) 2, C.slc A_16 (([1, 2] : List Int).length) 2]) 7 hs fun b_21 w a hs => ?_
   refine qal 28 [ci 0, ci 0, ci 0] 8 hs fun b_22 w a hs => ?_
   refine qpk 0 [0, 2, 5, 7, 8] hs fun a hs => hK19 _ _ ?_
   clear hK19
   refine Vk.seq fun K23 hK23 => ?_
   refine qsr fun K24 hK24 => ?_
   refine qpu 1 hs fun a hs => ?_
   obtain ⟨v_27, h_26, hm⟩ := bind_t hm
   refine qcl (wire_Machine_N.ok _ _ _ h_26 _ _ _ b_x0 g_6 hs.own.f6) hs fun w a hs => ?_
   rcases Bool.eq_false_or_eq_true (v_27 == 3) with hb | hb
   ·replace hm := bif_t hm hb
    obtain rfl := Vk.of_beq hb
    refine qpk 1 [0, 2, 5, 7, 8, 18] hs fun a hs => hK24 _ _ ?_
    clear hK24
    refine qcf hs ?_
    refine wp_skip ?_
    refine hK23 _ _ ?_
    clear hK23
    refine qsr fun K28 hK28 => ?_
    refine qpu 1 hs fun a hs => ?_
    replace hs := hs.toEx (Twire_Machine.parts b_x0 x0) g_6 0 rfl
    obtain ⟨v_31, h_30, hm⟩ := bind_t hm
    refine qcl (wire_Machine_Begin.ok _ _ _ _ h_30 _ _ _ b_x0 hs.own) hs fun w a hs => ?_
    refine qpk 0 [0, 2, 5, 7, 8] hs fun a hs => hK28 _ _ ?_
    clear hK28
    refine qsr fun K32 hK32 => ?_
    refine qpu 2 hs fun a hs => ?_
    obtain ⟨v_35, h_34, hm⟩ := bind_t hm
    refine qcl (fresh_masks.ok _ _ _ _ h_34 _ _ _ b_x0 hs.own) hs fun w a hs => ?_
    refine qal 26 [ci 0, ci 0, ci 0] 9 hs fun b_36 w a hs => ?_
    obtain ⟨h_37, hm⟩ := ite_t hm
    refine qsb 0 v_35.1 hs rfl h_37 rfl fun a w hs => ?_
    refine qpk 0 [0, 5, 7, 8, 9] hs fun a hs => hK32 _ _ ?_
    clear hK32
    refine qsr fun K38 hK38 => ?_
    refine qal 160 [C.slc none 0 0, C.slc none 0 0, C.slc none 0 0] 10 hs fun b_39 w a hs => ?_
    refine qpe 0 [(0, pp b_x0), (5, pp b_20), (7, pp b_21), (8, pp b_22), (9, pp b_36), (10, pp b_39)] hs fun a hs => hK38 _ _ ?_
    clear hK38
    refine Vk.seq fun K40 hK40 => ?_
    refine qsr fun K41 hK41 => ?_
    refine qln 4 ([C.slc A_12 (([0, 1] : List Int).length) 2, C.slc A_14 (([0, 2] : List Int).length) 2, C.slc A_16 (([1, 2] : List Int).length) 2]) hs rfl fun a hs => ?_
    refine qpk 1 [0, 5, 8, 9, 10, 26, 27] hs fun a hs => hK41 _ _ ?_
    clear hK41
    refine wp_block ?_
    refine Vk.unroll0 40 ?_
    refine Vk.unroll fun KL42 hKL42 => ?_
    refine qsk 1 [0, 5, 8, 9, 10, 26, 27, 28] hs fun a hs => ?_
    refine qck hs ?_
    refine Vk.seq fun K45 hK45 => ?_
    refine wp_block ?_
    refine qsk 4 [0, 5, 8, 9, 10, 11, 12, 26, 27] hs fun a hs => ?_
    refine qsk 3 [0, 5, 8, 9, 10, 11, 26, 27, 31, 32, 33] hs fun a hs => ?_
    refine wp_block ?_
    refine Vk.unroll0 40 ?_
    refine Vk.unroll fun KL48 hKL48 => ?_
    refine qsk 1 [0, 5, 8, 9, 10, 11, 26, 27, 31, 32, 33, 34] hs fun a hs => ?_
    refine qck hs ?_
    refine Vk.seq fun K51 hK51 => ?_
    refine wp_block ?_
    refine qsr fun K52 hK52 => ?_
    obtain ⟨h_53, hm⟩ := ite_t hm
    obtain ⟨e_56, h_54, hm⟩ := bind_t hm
    obtain ⟨b_57, o_58, hA_59, h_55⟩ := Sl.elem (Ow.rowSl 0 (Ow.to (S' := rowp A_12 2 3 1 (eI .i64) ([0, 1] : List Int) :: S) hs.own [8] 11 (by kernel_rfl) (by kernel_rfl)) rfl) h_54
    refine qva (.pointer (some ⟨b_57, o_58 + 0 * 1, none⟩)) (op := (.indexAddr 159 (.tmp 31) (.tmp 33))) hs (fun o ho => run_idxSlc (k := .i64) ho (cap := 2) (len := ([0, 1] : List Int).length) ((congrArg (fun A => Value.slice A (([0, 1] : List Int).length) (2)) hA_59) ▸ (by kernel_rfl)) (by kernel_rfl) (by kernel_rfl) (idx_ok h_53 h_54) _) fun a hs => ?_
    refine qva (vi e_56) (op := (.load 3 (.tmp 35))) hs (fun o ho => run_load1 (c := ci e_56) ho (by kernel_rfl) (by kernel_rfl) (fun w ho => h_55 w ho 0 _ rfl) _ (Ow.to (S' := rowp A_12 2 3 1 (eI .i64) ([0, 1] : List Int) :: S) hs.own [8] 11 (by kernel_rfl) (by kernel_rfl))) fun a hs => ?_
    refine qpe 1 [(0, pp b_x0), (5, pp b_20), (8, pp b_22), (9, pp b_36), (10, pp b_39), (11, vi 0), (14, vi e_56), (26, .agg (vals ([C.slc A_12 (([0, 1] : List Int).length) 2, C.slc A_14 (([0, 2] : List Int).length) 2, C.slc A_16 (([1, 2] : List Int).length) 2]))), (27, vi 0), (31, .slice A_12 (([0, 1] : List Int).length) 2), (32, vi 2), (33, vi 0)] hs fun a hs => hK52 _ _ ?_
    clear hK52
    obtain ⟨C_60, hC_60⟩ := qC hs.own
    refine qdr 10 κ C_60 hs fun w hs hqC_60 => ?_
    have hcl := qO hC_60 hs.own
    refine qdp (fuel := 7) [0, 1, 2, 4] hs hcl hqC_60 fun a hs => ?_
    refine qdl 3 0 (C.slc none 0 0) hs hcl hqC_60 hC_60 rfl fun a hs => ?_
    obtain ⟨h_61, hm⟩ := ite_t hm
    refine qdx 5 b_36 0 1 hs hcl hqC_60 h_61 fun a hs => ?_
    obtain ⟨v_63, h_62, hm⟩ := bind_t hm
    refine qdi 6 1 hs hcl hqC_60 hC_60 rfl h_62 fun a hs => ?_
    refine Vk.dOnly (i := 7) (by kernel_rfl) (Vk.buildOp (sz := 1) (by_ := 8) (t := 159) (e := 3) (parts := #[(0, (.tmp 43))]) (zs := vals [ci 0]) ([v_63] : List Int) (eI .i64) (some 44) hs (by kernel_rfl) (by kernel_rfl) (by kernel_rfl) (by kernel_rfl) (by decide) rfl (fun x _ => rfl) (Nat.le_of_ble_eq_true (by kernel_rfl)) (by kernel_rfl) fun A_64 w a hs => ?_)
    replace hcl := qO hC_60 hs.own.drop
    refine ⟨fun _ => hcl, ?_⟩
    replace hs := hs.addRow none 3 1 (eI .i64)
    obtain ⟨h_67, hm⟩ := ite_t hm
    refine Vk.dOnly (i := 8) (by kernel_rfl) (Vk.appendOp (x := (.tmp 40)) (y := (.tmp 44)) (e := 3) (t := 159) (by_ := 8) (sz := 1) (enc := (eI .i64)) (A := none) (cap := 0) (xs := ([] : List Int)) (ys := ([v_63] : List Int)) (B := A_64) (c2 := 1) 0 (some 45) hs (by kernel_rfl) (by kernel_rfl) (by kernel_rfl) (by kernel_rfl) rfl (Sl.lift (fun w ho => (Ow.to (S' := rowp A_64 1 3 1 (eI .i64) ([v_63] : List Int) :: S) ho [1] 13 (by kernel_rfl) (by kernel_rfl))) (Ow.rowSl 0 (Ow.to (S' := rowp A_64 1 3 1 (eI .i64) ([v_63] : List Int) :: S) hs.own [1] 13 (by kernel_rfl) (by kernel_rfl)) rfl)) (by kernel_rfl) (by kernel_rfl) (by decide) (by decide) h_67 fun A_68 c_69 w a hs => ?_)
    replace hcl := qO hC_60 hs.own.f1.drop.drop
    refine ⟨fun _ => hcl, ?_⟩
    refine qdp (fuel := 1) [9] hs hcl hqC_60 fun a hs => ?_
    refine qsd 10 2 0 (C.slc A_68 ((([] : List Int) ++ ([v_63] : List Int)).length) c_69) hs rfl fun a w hs => ?_
    refine ⟨fun h => absurd h (by decide), ?_⟩
    replace hs := hs.pick [0, 5, 8, 9, 10, 11, 26, 27, 31, 32, 33] (L' := [(0, pp b_x0), (5, pp b_20), (8, pp b_22), (9, pp b_36), (10, pp b_39), (11, vi 0), (26, .agg (vals ([C.slc A_12 (([0, 1] : List Int).length) 2, C.slc A_14 (([0, 2] : List Int).length) 2, C.slc A_16 (([1, 2] : List Int).length) 2]))), (27, vi 0), (31, .slice A_12 (([0, 1] : List Int).length) 2), (32, vi 2), (33, vi 0)]) (by kernel_rfl)
    refine Vk.dDone (by kernel_rfl) ?_
    refine hK51 _ _ ?_
    clear hK51
    refine Vk.region ?_
    refine qpk 2 [0, 5, 8, 9, 10, 11, 26, 27, 31, 32, 33] hs fun a hs => hKL48 _ _ ?_
    clear hKL48
    refine Vk.unroll fun KL70 hKL70 => ?_
    refine qsk 1 [0, 5, 8, 9, 10, 11, 26, 27, 31, 32, 33, 34] hs fun a hs => ?_
    refine qck hs ?_
    refine Vk.seq fun K73 hK73 => ?_
    refine wp_block ?_
    refine qsr fun K74 hK74 => ?_
    obtain ⟨h_75, hm⟩ := ite_t hm
    obtain ⟨e_78, h_76, hm⟩ := bind_t hm
    obtain ⟨b_79, o_80, hA_81, h_77⟩ := Sl.elem (Ow.rowSl 0 (Ow.to (S' := rowp A_12 2 3 1 (eI .i64) ([0, 1] : List Int) :: S) hs.own [10] 13 (by kernel_rfl) (by kernel_rfl)) rfl) h_76
    refine qva (.pointer (some ⟨b_79, o_80 + 1 * 1, none⟩)) (op := (.indexAddr 159 (.tmp 31) (.tmp 33))) hs (fun o ho => run_idxSlc (k := .i64) ho (cap := 2) (len := ([0, 1] : List Int).length) ((congrArg (fun A => Value.slice A (([0, 1] : List Int).length) (2)) hA_81) ▸ (by kernel_rfl)) (by kernel_rfl) (by kernel_rfl) (idx_ok h_75 h_76) _) fun a hs => ?_
    refine qva (vi e_78) (op := (.load 3 (.tmp 35))) hs (fun o ho => run_load1 (c := ci e_78) ho (by kernel_rfl) (by kernel_rfl) (fun w ho => h_77 w ho 0 _ rfl) _ (Ow.to (S' := rowp A_12 2 3 1 (eI .i64) ([0, 1] : List Int) :: S) hs.own [10] 13 (by kernel_rfl) (by kernel_rfl))) fun a hs => ?_
    refine qpk 1 [0, 5, 8, 9, 10, 11, 14, 26, 27, 31, 32, 33] hs fun a hs => hK74 _ _ ?_
    clear hK74
    obtain ⟨C_82, hC_82⟩ := qC hs.own.drop
    refine qdr 10 κ C_82 hs fun w hs hqC_82 => ?_
    have hcl := qO hC_82 hs.own.drop
    refine qdp (fuel := 7) [0, 1, 2, 4] hs hcl hqC_82 fun a hs => ?_
    refine qdl 3 1 (C.slc A_68 ((([] : List Int) ++ ([v_63] : List Int)).length) c_69) hs hcl hqC_82 hC_82 rfl fun a hs => ?_
    obtain ⟨h_83, hm⟩ := ite_t hm
    refine qdx 5 b_36 0 1 hs hcl hqC_82 h_83 fun a hs => ?_
    obtain ⟨v_85, h_84, hm⟩ := bind_t hm
    refine qdi 6 2 hs hcl hqC_82 hC_82 rfl h_84 fun a hs => ?_
    refine Vk.dOnly (i := 7) (by kernel_rfl) (Vk.buildOp (sz := 1) (by_ := 8) (t := 159) (e := 3) (parts := #[(0, (.tmp 43))]) (zs := vals [ci 0]) ([v_85] : List Int) (eI .i64) (some 44) hs (by kernel_rfl) (by kernel_rfl) (by kernel_rfl) (by kernel_rfl) (by decide) rfl (fun x _ => rfl) (Nat.le_of_ble_eq_true (by kernel_rfl)) (by kernel_rfl) fun A_86 w a hs => ?_)
    replace hcl := qO hC_82 hs.own.f1.drop.drop
    refine ⟨fun _ => hcl, ?_⟩
    obtain ⟨h_88, hm⟩ := ite_t hm
    refine Vk.dOnly (i := 8) (by kernel_rfl) (Vk.appendOp (x := (.tmp 40)) (y := (.tmp 44)) (e := 3) (t := 159) (by_ := 8) (sz := 1) (enc := (eI .i64)) (A := A_68) (cap := c_69) (xs := ([] : List Int) ++ ([v_63] : List Int)) (ys := ([v_85] : List Int)) (B := A_86) (c2 := 1) 1 (some 45) hs (by kernel_rfl) (by kernel_rfl) (by kernel_rfl) (by kernel_rfl) rfl (Sl.lift (fun w ho => (Ow.to (S' := rowp A_86 1 3 1 (eI .i64) ([v_85] : List Int) :: S) ho [0] 14 (by kernel_rfl) (by kernel_rfl))) (Ow.rowSl 0 (Ow.to (S' := rowp A_86 1 3 1 (eI .i64) ([v_85] : List Int) :: S) hs.own [0] 14 (by kernel_rfl) (by kernel_rfl)) rfl)) (by kernel_rfl) (by kernel_rfl) (by decide) (by decide) h_88 fun A_89 c_90 w a hs => ?_)
    replace hcl := qO hC_82 hs.own.f1.drop.drop
    refine ⟨fun _ => hcl, ?_⟩
    refine qdp (fuel := 1) [9] hs hcl hqC_82 fun a hs => ?_
    refine qsd 10 3 0 (C.slc A_89 (((([] : List Int) ++ ([v_63] : List Int)) ++ ([v_85] : List Int)).length) c_90) hs rfl fun a w hs => ?_
    refine ⟨fun h => absurd h (by decide), ?_⟩
    replace hs := hs.pick [0, 5, 8, 9, 10, 11, 26, 27, 31, 32, 33] (L' := [(0, pp b_x0), (5, pp b_20), (8, pp b_22), (9, pp b_36), (10, pp b_39), (11, vi 0), (26, .agg (vals ([C.slc A_12 (([0, 1] : List Int).length) 2, C.slc A_14 (([0, 2] : List Int).length) 2, C.slc A_16 (([1, 2] : List Int).length) 2]))), (27, vi 0), (31, .slice A_12 (([0, 1] : List Int).length) 2), (32, vi 2), (33, vi 1)]) (by kernel_rfl)
    refine Vk.dDone (by kernel_rfl) ?_
    refine hK73 _ _ ?_
    clear hK73
    refine Vk.region ?_
    refine qpk 2 [0, 5, 8, 9, 10, 11, 26, 27, 31, 32, 33] hs fun a hs => hKL70 _ _ ?_
    clear hKL70
    refine Vk.unroll fun KL91 hKL91 => ?_
    refine qsk 1 [0, 5, 8, 9, 10, 11, 26, 27, 31, 32, 33, 34] hs fun a hs => ?_
    refine Vk.seq fun K93 hK93 => ?_
    refine qcf hs ?_
    refine wp_exit ?_
    refine hK45 _ _ ?_
    clear hK45
    refine Vk.region ?_
    refine qpe 2 [(0, pp b_x0), (5, pp b_20), (8, pp b_22), (9, pp b_36), (10, pp b_39), (26, .agg (vals ([C.slc A_12 (([0, 1] : List Int).length) 2, C.slc A_14 (([0, 2] : List Int).length) 2, C.slc A_16 (([1, 2] : List Int).length) 2]))), (27, vi 1)] hs fun a hs => hKL42 _ _ ?_
    clear hKL42
    refine Vk.unroll fun KL94 hKL94 => ?_
    refine qsk 1 [0, 5, 8, 9, 10, 26, 27, 28] hs fun a hs => ?_
    refine qck hs ?_
    refine Vk.seq fun K97 hK97 => ?_
    refine wp_block ?_
    refine qsk 4 [0, 5, 8, 9, 10, 11, 12, 26, 27] hs fun a hs => ?_
    refine qsk 3 [0, 5, 8, 9, 10, 11, 26, 27, 31, 32, 33] hs fun a hs => ?_
    refine wp_block ?_
    refine Vk.unroll0 40 ?_
    refine Vk.unroll fun KL100 hKL100 => ?_
    refine qsk 1 [0, 5, 8, 9, 10, 11, 26, 27, 31, 32, 33, 34] hs fun a hs => ?_
    refine qck hs ?_
    refine Vk.seq fun K103 hK103 => ?_
    refine wp_block ?_
    refine qsr fun K104 hK104 => ?_
    obtain ⟨h_105, hm⟩ := ite_t hm
    obtain ⟨e_108, h_106, hm⟩ := bind_t hm
    obtain ⟨b_109, o_110, hA_111, h_107⟩ := Sl.elem (Ow.rowSl 0 (Ow.to (S' := rowp A_14 2 3 1 (eI .i64) ([0, 2] : List Int) :: S) hs.own [10] 14 (by kernel_rfl) (by kernel_rfl)) rfl) h_106
    refine qva (.pointer (some ⟨b_109, o_110 + 0 * 1, none⟩)) (op := (.indexAddr 159 (.tmp 31) (.tmp 33))) hs (fun o ho => run_idxSlc (k := .i64) ho (cap := 2) (len := ([0, 2] : List Int).length) ((congrArg (fun A => Value.slice A (([0, 2] : List Int).length) (2)) hA_111) ▸ (by kernel_rfl)) (by kernel_rfl) (by kernel_rfl) (idx_ok h_105 h_106) _) fun a hs => ?_
    refine qva (vi e_108) (op := (.load 3 (.tmp 35))) hs (fun o ho => run_load1 (c := ci e_108) ho (by kernel_rfl) (by kernel_rfl) (fun w ho => h_107 w ho 0 _ rfl) _ (Ow.to (S' := rowp A_14 2 3 1 (eI .i64) ([0, 2] : List Int) :: S) hs.own [10] 14 (by kernel_rfl) (by kernel_rfl))) fun a hs => ?_
    refine qpk 1 [0, 5, 8, 9, 10, 11, 14, 26, 27, 31, 32, 33] hs fun a hs => hK104 _ _ ?_
    clear hK104
    obtain ⟨C_112, hC_112⟩ := qC hs.own
    refine qdr 10 κ C_112 hs fun w hs hqC_112 => ?_
    have hcl := qO hC_112 hs.own
    refine qdp (fuel := 7) [0, 1, 2, 4] hs hcl hqC_112 fun a hs => ?_
    refine qdl 3 3 (C.slc none 0 0) hs hcl hqC_112 hC_112 rfl fun a hs => ?_
    obtain ⟨h_113, hm⟩ := ite_t hm
    refine qdx 5 b_36 0 1 hs hcl hqC_112 h_113 fun a hs => ?_
    obtain ⟨v_115, h_114, hm⟩ := bind_t hm
    refine qdi 6 4 hs hcl hqC_112 hC_112 rfl h_114 fun a hs => ?_
    refine Vk.dOnly (i := 7) (by kernel_rfl) (Vk.buildOp (sz := 1) (by_ := 8) (t := 159) (e := 3) (parts := #[(0, (.tmp 43))]) (zs := vals [ci 0]) ([v_115] : List Int) (eI .i64) (some 44) hs (by kernel_rfl) (by kernel_rfl) (by kernel_rfl) (by kernel_rfl) (by decide) rfl (fun x _ => rfl) (Nat.le_of_ble_eq_true (by kernel_rfl)) (by kernel_rfl) fun A_116 w a hs => ?_)
    replace hcl := qO hC_112 hs.own.drop
    refine ⟨fun _ => hcl, ?_⟩
    replace hs := hs.addRow none 3 1 (eI .i64)
    obtain ⟨h_119, hm⟩ := ite_t hm
    refine Vk.dOnly (i := 8) (by kernel_rfl) (Vk.appendOp (x := (.tmp 40)) (y := (.tmp 44)) (e := 3) (t := 159) (by_ := 8) (sz := 1) (enc := (eI .i64)) (A := none) (cap := 0) (xs := ([] : List Int)) (ys := ([v_115] : List Int)) (B := A_116) (c2 := 1) 0 (some 45) hs (by kernel_rfl) (by kernel_rfl) (by kernel_rfl) (by kernel_rfl) rfl (Sl.lift (fun w ho => (Ow.to (S' := rowp A_116 1 3 1 (eI .i64) ([v_115] : List Int) :: S) ho [1] 16 (by kernel_rfl) (by kernel_rfl))) (Ow.rowSl 0 (Ow.to (S' := rowp A_116 1 3 1 (eI .i64) ([v_115] : List Int) :: S) hs.own [1] 16 (by kernel_rfl) (by kernel_rfl)) rfl)) (by kernel_rfl) (by kernel_rfl) (by decide) (by decide) h_119 fun A_120 c_121 w a hs => ?_)
    replace hcl := qO hC_112 hs.own.f1.drop.drop
    refine ⟨fun _ => hcl, ?_⟩
    refine qdp (fuel := 1) [9] hs hcl hqC_112 fun a hs => ?_
    refine qsd 10 5 1 (C.slc A_120 ((([] : List Int) ++ ([v_115] : List Int)).length) c_121) hs rfl fun a w hs => ?_
    refine ⟨fun h => absurd h (by decide), ?_⟩
    replace hs := hs.pick [0, 5, 8, 9, 10, 11, 26, 27, 31, 32, 33] (L' := [(0, pp b_x0), (5, pp b_20), (8, pp b_22), (9, pp b_36), (10, pp b_39), (11, vi 1), (26, .agg (vals ([C.slc A_12 (([0, 1] : List Int).length) 2, C.slc A_14 (([0, 2] : List Int).length) 2, C.slc A_16 (([1, 2] : List Int).length) 2]))), (27, vi 1), (31, .slice A_14 (([0, 2] : List Int).length) 2), (32, vi 2), (33, vi 0)]) (by kernel_rfl)
    refine Vk.dDone (by kernel_rfl) ?_
    refine hK103 _ _ ?_
    clear hK103
    refine Vk.region ?_
    refine qpe 2 [(0, pp b_x0), (5, pp b_20), (8, pp b_22), (9, pp b_36), (10, pp b_39), (11, vi 1), (26, .agg (vals ([C.slc A_12 (([0, 1] : List Int).length) 2, C.slc A_14 (([0, 2] : List Int).length) 2, C.slc A_16 (([1, 2] : List Int).length) 2]))), (27, vi 1), (31, .slice A_14 (([0, 2] : List Int).length) 2), (32, vi 2), (33, vi 1)] hs fun a hs => hKL100 _ _ ?_
    clear hKL100
    refine Vk.unroll fun KL122 hKL122 => ?_
    refine qsk 1 [0, 5, 8, 9, 10, 11, 26, 27, 31, 32, 33, 34] hs fun a hs => ?_
    refine qck hs ?_
    refine Vk.seq fun K125 hK125 => ?_
    refine wp_block ?_
    refine qsr fun K126 hK126 => ?_
    obtain ⟨h_127, hm⟩ := ite_t hm
    obtain ⟨e_130, h_128, hm⟩ := bind_t hm
    obtain ⟨b_131, o_132, hA_133, h_129⟩ := Sl.elem (Ow.rowSl 0 (Ow.to (S' := rowp A_14 2 3 1 (eI .i64) ([0, 2] : List Int) :: S) hs.own [12] 16 (by kernel_rfl) (by kernel_rfl)) rfl) h_128
    refine qva (.pointer (some ⟨b_131, o_132 + 1 * 1, none⟩)) (op := (.indexAddr 159 (.tmp 31) (.tmp 33))) hs (fun o ho => run_idxSlc (k := .i64) ho (cap := 2) (len := ([0, 2] : List Int).length) ((congrArg (fun A => Value.slice A (([0, 2] : List Int).length) (2)) hA_133) ▸ (by kernel_rfl)) (by kernel_rfl) (by kernel_rfl) (idx_ok h_127 h_128) _) fun a hs => ?_
    refine qva (vi e_130) (op := (.load 3 (.tmp 35))) hs (fun o ho => run_load1 (c := ci e_130) ho (by kernel_rfl) (by kernel_rfl) (fun w ho => h_129 w ho 0 _ rfl) _ (Ow.to (S' := rowp A_14 2 3 1 (eI .i64) ([0, 2] : List Int) :: S) hs.own [12] 16 (by kernel_rfl) (by kernel_rfl))) fun a hs => ?_
    refine qpk 1 [0, 5, 8, 9, 10, 11, 14, 26, 27, 31, 32, 33] hs fun a hs => hK126 _ _ ?_
    clear hK126
    obtain ⟨C_134, hC_134⟩ := qC hs.own.drop
    refine qdr 10 κ C_134 hs fun w hs hqC_134 => ?_
    have hcl := qO hC_134 hs.own.drop
    refine qdp (fuel := 7) [0, 1, 2, 4] hs hcl hqC_134 fun a hs => ?_
    refine qdl 3 4 (C.slc A_120 ((([] : List Int) ++ ([v_115] : List Int)).length) c_121) hs hcl hqC_134 hC_134 rfl fun a hs => ?_
    obtain ⟨h_135, hm⟩ := ite_t hm
    refine qdx 5 b_36 0 1 hs hcl hqC_134 h_135 fun a hs => ?_
    obtain ⟨v_137, h_136, hm⟩ := bind_t hm
    refine qdi 6 5 hs hcl hqC_134 hC_134 rfl h_136 fun a hs => ?_
    refine Vk.dOnly (i := 7) (by kernel_rfl) (Vk.buildOp (sz := 1) (by_ := 8) (t := 159) (e := 3) (parts := #[(0, (.tmp 43))]) (zs := vals [ci 0]) ([v_137] : List Int) (eI .i64) (some 44) hs (by kernel_rfl) (by kernel_rfl) (by kernel_rfl) (by kernel_rfl) (by decide) rfl (fun x _ => rfl) (Nat.le_of_ble_eq_true (by kernel_rfl)) (by kernel_rfl) fun A_138 w a hs => ?_)
    replace hcl := qO hC_134 hs.own.f1.drop.drop
    refine ⟨fun _ => hcl, ?_⟩
    obtain ⟨h_140, hm⟩ := ite_t hm
    refine Vk.dOnly (i := 8) (by kernel_rfl) (Vk.appendOp (x := (.tmp 40)) (y := (.tmp 44)) (e := 3) (t := 159) (by_ := 8) (sz := 1) (enc := (eI .i64)) (A := A_120) (cap := c_121) (xs := ([] : List Int) ++ ([v_115] : List Int)) (ys := ([v_137] : List Int)) (B := A_138) (c2 := 1) 1 (some 45) hs (by kernel_rfl) (by kernel_rfl) (by kernel_rfl) (by kernel_rfl) rfl (Sl.lift (fun w ho => (Ow.to (S' := rowp A_138 1 3 1 (eI .i64) ([v_137] : List Int) :: S) ho [0] 17 (by kernel_rfl) (by kernel_rfl))) (Ow.rowSl 0 (Ow.to (S' := rowp A_138 1 3 1 (eI .i64) ([v_137] : List Int) :: S) hs.own [0] 17 (by kernel_rfl) (by kernel_rfl)) rfl)) (by kernel_rfl) (by kernel_rfl) (by decide) (by decide) h_140 fun A_141 c_142 w a hs => ?_)
    replace hcl := qO hC_134 hs.own.f1.drop.drop
    refine ⟨fun _ => hcl, ?_⟩
    refine qdp (fuel := 1) [9] hs hcl hqC_134 fun a hs => ?_
    refine qsd 10 6 1 (C.slc A_141 (((([] : List Int) ++ ([v_115] : List Int)) ++ ([v_137] : List Int)).length) c_142) hs rfl fun a w hs => ?_
    refine ⟨fun h => absurd h (by decide), ?_⟩
    replace hs := hs.pick [0, 5, 8, 9, 10, 11, 26, 27, 31, 32, 33] (L' := [(0, pp b_x0), (5, pp b_20), (8, pp b_22), (9, pp b_36), (10, pp b_39), (11, vi 1), (26, .agg (vals ([C.slc A_12 (([0, 1] : List Int).length) 2, C.slc A_14 (([0, 2] : List Int).length) 2, C.slc A_16 (([1, 2] : List Int).length) 2]))), (27, vi 1), (31, .slice A_14 (([0, 2] : List Int).length) 2), (32, vi 2), (33, vi 1)]) (by kernel_rfl)
    refine Vk.dDone (by kernel_rfl) ?_
    refine hK125 _ _ ?_
    clear hK125
    refine Vk.region ?_
    refine qpk 2 [0, 5, 8, 9, 10, 11, 26, 27, 31, 32, 33] hs fun a hs => hKL122 _ _ ?_
    clear hKL122
    refine Vk.unroll fun KL143 hKL143 => ?_
    refine qsk 1 [0, 5, 8, 9, 10, 11, 26, 27, 31, 32, 33, 34] hs fun a hs => ?_
    refine Vk.seq fun K145 hK145 => ?_
    refine qcf hs ?_
    refine wp_exit ?_
    refine hK97 _ _ ?_
    clear hK97
    refine Vk.region ?_
    refine qpk 2 [0, 5, 8, 9, 10, 26, 27] hs fun a hs => hKL94 _ _ ?_
    clear hKL94
    refine Vk.unroll fun KL146 hKL146 => ?_
    refine qse 1 [(0, pp b_x0), (5, pp b_20), (8, pp b_22), (9, pp b_36), (10, pp b_39), (26, .agg (vals ([C.slc A_12 (([0, 1] : List Int).length) 2, C.slc A_14 (([0, 2] : List Int).length) 2, C.slc A_16 (([1, 2] : List Int).length) 2]))), (27, vi 2), (28, .bool true)] hs fun a hs => ?_
    refine qck hs ?_
    refine Vk.seq fun K149 hK149 => ?_
    refine wp_block ?_
    refine qsk 4 [0, 5, 8, 9, 10, 11, 12, 26, 27] hs fun a hs => ?_
    refine qsk 3 [0, 5, 8, 9, 10, 11, 26, 27, 31, 32, 33] hs fun a hs => ?_
    refine wp_block ?_
    refine Vk.unroll0 40 ?_
    refine Vk.unroll fun KL152 hKL152 => ?_
    refine qsk 1 [0, 5, 8, 9, 10, 11, 26, 27, 31, 32, 33, 34] hs fun a hs => ?_
    refine qck hs ?_
    refine Vk.seq fun K155 hK155 => ?_
    refine wp_block ?_
    refine qsr fun K156 hK156 => ?_
    obtain ⟨h_157, hm⟩ := ite_t hm
    obtain ⟨e_160, h_158, hm⟩ := bind_t hm
    obtain ⟨b_161, o_162, hA_163, h_159⟩ := Sl.elem (Ow.rowSl 0 (Ow.to (S' := rowp A_16 2 3 1 (eI .i64) ([1, 2] : List Int) :: S) hs.own [12] 17 (by kernel_rfl) (by kernel_rfl)) rfl) h_158
    refine qva (.pointer (some ⟨b_161, o_162 + 0 * 1, none⟩)) (op := (.indexAddr 159 (.tmp 31) (.tmp 33))) hs (fun o ho => run_idxSlc (k := .i64) ho (cap := 2) (len := ([1, 2] : List Int).length) ((congrArg (fun A => Value.slice A (([1, 2] : List Int).length) (2)) hA_163) ▸ (by kernel_rfl)) (by kernel_rfl) (by kernel_rfl) (idx_ok h_157 h_158) _) fun a hs => ?_
    refine qva (vi e_160) (op := (.load 3 (.tmp 35))) hs (fun o ho => run_load1 (c := ci e_160) ho (by kernel_rfl) (by kernel_rfl) (fun w ho => h_159 w ho 0 _ rfl) _ (Ow.to (S' := rowp A_16 2 3 1 (eI .i64) ([1, 2] : List Int) :: S) hs.own [12] 17 (by kernel_rfl) (by kernel_rfl))) fun a hs => ?_
    refine qpk 1 [0, 5, 8, 9, 10, 11, 14, 26, 27, 31, 32, 33] hs fun a hs => hK156 _ _ ?_
    clear hK156
    obtain ⟨C_164, hC_164⟩ := qC hs.own
    refine qdr 10 κ C_164 hs fun w hs hqC_164 => ?_
    have hcl := qO hC_164 hs.own
    refine qdp (fuel := 7) [0, 1, 2, 4] hs hcl hqC_164 fun a hs => ?_
    refine qdl 3 6 (C.slc none 0 0) hs hcl hqC_164 hC_164 rfl fun a hs => ?_
    obtain ⟨h_165, hm⟩ := ite_t hm
    refine qdx 5 b_36 0 1 hs hcl hqC_164 h_165 fun a hs => ?_
    obtain ⟨v_167, h_166, hm⟩ := bind_t hm
    refine qdi 6 7 hs hcl hqC_164 hC_164 rfl h_166 fun a hs => ?_
    refine Vk.dOnly (i := 7) (by kernel_rfl) (Vk.buildOp (sz := 1) (by_ := 8) (t := 159) (e := 3) (parts := #[(0, (.tmp 43))]) (zs := vals [ci 0]) ([v_167] : List Int) (eI .i64) (some 44) hs (by kernel_rfl) (by kernel_rfl) (by kernel_rfl) (by kernel_rfl) (by decide) rfl (fun x _ => rfl) (Nat.le_of_ble_eq_true (by kernel_rfl)) (by kernel_rfl) fun A_168 w a hs => ?_)
    replace hcl := qO hC_164 hs.own.drop
    refine ⟨fun _ => hcl, ?_⟩
    replace hs := hs.addRow none 3 1 (eI .i64)
    obtain ⟨h_171, hm⟩ := ite_t hm
    refine Vk.dOnly (i := 8) (by kernel_rfl) (Vk.appendOp (x := (.tmp 40)) (y := (.tmp 44)) (e := 3) (t := 159) (by_ := 8) (sz := 1) (enc := (eI .i64)) (A := none) (cap := 0) (xs := ([] : List Int)) (ys := ([v_167] : List Int)) (B := A_168) (c2 := 1) 0 (some 45) hs (by kernel_rfl) (by kernel_rfl) (by kernel_rfl) (by kernel_rfl) rfl (Sl.lift (fun w ho => (Ow.to (S' := rowp A_168 1 3 1 (eI .i64) ([v_167] : List Int) :: S) ho [1] 19 (by kernel_rfl) (by kernel_rfl))) (Ow.rowSl 0 (Ow.to (S' := rowp A_168 1 3 1 (eI .i64) ([v_167] : List Int) :: S) hs.own [1] 19 (by kernel_rfl) (by kernel_rfl)) rfl)) (by kernel_rfl) (by kernel_rfl) (by decide) (by decide) h_171 fun A_172 c_173 w a hs => ?_)
    replace hcl := qO hC_164 hs.own.f1.drop.drop
    refine ⟨fun _ => hcl, ?_⟩
    refine qdp (fuel := 1) [9] hs hcl hqC_164 fun a hs => ?_
    refine qsd 10 8 2 (C.slc A_172 ((([] : List Int) ++ ([v_167] : List Int)).length) c_173) hs rfl fun a w hs => ?_
    refine ⟨fun h => absurd h (by decide), ?_⟩
    replace hs := hs.pick [0, 5, 8, 9, 10, 11, 26, 27, 31, 32, 33] (L' := [(0, pp b_x0), (5, pp b_20), (8, pp b_22), (9, pp b_36), (10, pp b_39), (11, vi 2), (26, .agg (vals ([C.slc A_12 (([0, 1] : List Int).length) 2, C.slc A_14 (([0, 2] : List Int).length) 2, C.slc A_16 (([1, 2] : List Int).length) 2]))), (27, vi 2), (31, .slice A_16 (([1, 2] : List Int).length) 2), (32, vi 2), (33, vi 0)]) (by kernel_rfl)
    refine Vk.dDone (by kernel_rfl) ?_
    refine hK155 _ _ ?_
    clear hK155
    refine Vk.region ?_
    refine qpk 2 [0, 5, 8, 9, 10, 11, 26, 27, 31, 32, 33] hs fun a hs => hKL152 _ _ ?_
    clear hKL152
    refine Vk.unroll fun KL174 hKL174 => ?_
    refine qse 1 [(0, pp b_x0), (5, pp b_20), (8, pp b_22), (9, pp b_36), (10, pp b_39), (11, vi 2), (26, .agg (vals ([C.slc A_12 (([0, 1] : List Int).length) 2, C.slc A_14 (([0, 2] : List Int).length) 2, C.slc A_16 (([1, 2] : List Int).length) 2]))), (27, vi 2), (31, .slice A_16 (([1, 2] : List Int).length) 2), (32, vi 2), (33, vi 1), (34, .bool true)] hs fun a hs => ?_
    refine qck hs ?_
    refine Vk.seq fun K177 hK177 => ?_
    refine wp_block ?_
    refine qsr fun K178 hK178 => ?_
    obtain ⟨h_179, hm⟩ := ite_t hm
    obtain ⟨e_182, h_180, hm⟩ := bind_t hm
    obtain ⟨b_183, o_184, hA_185, h_181⟩ := Sl.elem (Ow.rowSl 0 (Ow.to (S' := rowp A_16 2 3 1 (eI .i64) ([1, 2] : List Int) :: S) hs.own [14] 19 (by kernel_rfl) (by kernel_rfl)) rfl) h_180
    refine qva (.pointer (some ⟨b_183, o_184 + 1 * 1, none⟩)) (op := (.indexAddr 159 (.tmp 31) (.tmp 33))) hs (fun o ho => run_idxSlc (k := .i64) ho (cap := 2) (len := ([1, 2] : List Int).length) ((congrArg (fun A => Value.slice A (([1, 2] : List Int).length) (2)) hA_185) ▸ (by kernel_rfl)) (by kernel_rfl) (by kernel_rfl) (idx_ok h_179 h_180) _) fun a hs => ?_
    refine qva (vi e_182) (op := (.load 3 (.tmp 35))) hs (fun o ho => run_load1 (c := ci e_182) ho (by kernel_rfl) (by kernel_rfl) (fun w ho => h_181 w ho 0 _ rfl) _ (Ow.to (S' := rowp A_16 2 3 1 (eI .i64) ([1, 2] : List Int) :: S) hs.own [14] 19 (by kernel_rfl) (by kernel_rfl))) fun a hs => ?_
    refine qpk 1 [0, 5, 8, 9, 10, 11, 14, 26, 27, 31, 32, 33] hs fun a hs => hK178 _ _ ?_
    clear hK178
    obtain ⟨C_186, hC_186⟩ := qC hs.own.drop
    refine qdr 10 κ C_186 hs fun w hs hqC_186 => ?_
    have hcl := qO hC_186 hs.own.drop
    refine qdp (fuel := 7) [0, 1, 2, 4] hs hcl hqC_186 fun a hs => ?_
    refine qdl 3 7 (C.slc A_172 ((([] : List Int) ++ ([v_167] : List Int)).length) c_173) hs hcl hqC_186 hC_186 rfl fun a hs => ?_
    obtain ⟨h_187, hm⟩ := ite_t hm
    refine qdx 5 b_36 0 1 hs hcl hqC_186 h_187 fun a hs => ?_
    obtain ⟨v_189, h_188, hm⟩ := bind_t hm
    refine qdi 6 8 hs hcl hqC_186 hC_186 rfl h_188 fun a hs => ?_
    refine Vk.dOnly (i := 7) (by kernel_rfl) (Vk.buildOp (sz := 1) (by_ := 8) (t := 159) (e := 3) (parts := #[(0, (.tmp 43))]) (zs := vals [ci 0]) ([v_189] : List Int) (eI .i64) (some 44) hs (by kernel_rfl) (by kernel_rfl) (by kernel_rfl) (by kernel_rfl) (by decide) rfl (fun x _ => rfl) (Nat.le_of_ble_eq_true (by kernel_rfl)) (by kernel_rfl) fun A_190 w a hs => ?_)
    replace hcl := qO hC_186 hs.own.f1.drop.drop
    refine ⟨fun _ => hcl, ?_⟩
    obtain ⟨h_192, hm⟩ := ite_t hm
    refine Vk.dOnly (i := 8) (by kernel_rfl) (Vk.appendOp (x := (.tmp 40)) (y := (.tmp 44)) (e := 3) (t := 159) (by_ := 8) (sz := 1) (enc := (eI .i64)) (A := A_172) (cap := c_173) (xs := ([] : List Int) ++ ([v_167] : List Int)) (ys := ([v_189] : List Int)) (B := A_190) (c2 := 1) 1 (some 45) hs (by kernel_rfl) (by kernel_rfl) (by kernel_rfl) (by kernel_rfl) rfl (Sl.lift (fun w ho => (Ow.to (S' := rowp A_190 1 3 1 (eI .i64) ([v_189] : List Int) :: S) ho [0] 20 (by kernel_rfl) (by kernel_rfl))) (Ow.rowSl 0 (Ow.to (S' := rowp A_190 1 3 1 (eI .i64) ([v_189] : List Int) :: S) hs.own [0] 20 (by kernel_rfl) (by kernel_rfl)) rfl)) (by kernel_rfl) (by kernel_rfl) (by decide) (by decide) h_192 fun A_193 c_194 w a hs => ?_)
    replace hcl := qO hC_186 hs.own.f1.drop.drop
    refine ⟨fun _ => hcl, ?_⟩
    refine qdp (fuel := 1) [9] hs hcl hqC_186 fun a hs => ?_
    refine qsd 10 9 2 (C.slc A_193 (((([] : List Int) ++ ([v_167] : List Int)) ++ ([v_189] : List Int)).length) c_194) hs rfl fun a w hs => ?_
    refine ⟨fun h => absurd h (by decide), ?_⟩
    replace hs := hs.pick [0, 5, 8, 9, 10, 11, 26, 27, 31, 32, 33] (L' := [(0, pp b_x0), (5, pp b_20), (8, pp b_22), (9, pp b_36), (10, pp b_39), (11, vi 2), (26, .agg (vals ([C.slc A_12 (([0, 1] : List Int).length) 2, C.slc A_14 (([0, 2] : List Int).length) 2, C.slc A_16 (([1, 2] : List Int).length) 2]))), (27, vi 2), (31, .slice A_16 (([1, 2] : List Int).length) 2), (32, vi 2), (33, vi 1)]) (by kernel_rfl)
    refine Vk.dDone (by kernel_rfl) ?_
    refine hK177 _ _ ?_
    clear hK177
    refine Vk.region ?_
    refine qpk 2 [0, 5, 8, 9, 10, 11, 26, 27, 31, 32, 33] hs fun a hs => hKL174 _ _ ?_
    clear hKL174
    refine Vk.unroll fun KL195 hKL195 => ?_
    refine qsk 1 [0, 5, 8, 9, 10, 11, 26, 27, 31, 32, 33, 34] hs fun a hs => ?_
    refine Vk.seq fun K197 hK197 => ?_
    refine qcf hs ?_
    refine wp_exit ?_
    refine hK149 _ _ ?_
    clear hK149
    refine Vk.region ?_
    refine qpk 2 [0, 5, 8, 9, 10, 26, 27] hs fun a hs => hKL146 _ _ ?_
    clear hKL146
    refine Vk.unroll fun KL198 hKL198 => ?_
    refine qsk 1 [0, 5, 8, 9, 10, 26, 27, 28] hs fun a hs => ?_
    refine Vk.seq fun K200 hK200 => ?_
    refine qcf hs ?_
    refine wp_exit ?_
    refine hK40 _ _ ?_
    clear hK40
    refine qsr fun K201 hK201 => ?_
    refine qpu 1 hs fun a hs => ?_
    refine qlw 14 hs rfl h_11 fun a hs => ?_
    refine qln 9 ([C.slc A_89 (((([] : List Int) ++ ([v_63] : List Int)) ++ ([v_85] : List Int)).length) c_90, C.slc A_141 (((([] : List Int) ++ ([v_115] : List Int)) ++ ([v_137] : List Int)).length) c_142, C.slc A_193 (((([] : List Int) ++ ([v_167] : List Int)) ++ ([v_189] : List Int)).length) c_194]) hs rfl fun a hs => ?_
    refine Vk.step (Vk.call (some 52) 161 #[pp b_x0, .agg (vals x1), .agg (vals ([C.slc A_89 (((([] : List Int) ++ ([v_63] : List Int)) ++ ([v_85] : List Int)).length) c_90, C.slc A_141 (((([] : List Int) ++ ([v_115] : List Int)) ++ ([v_137] : List Int)).length) c_142, C.slc A_193 (((([] : List Int) ++ ([v_167] : List Int)) ++ ([v_189] : List Int)).length) c_194]))] hs (by kernel_rfl) (by kernel_rfl) (by kernel_rfl) ?_)
    refine Vk.enterI [(0, pp b_x0), (1, .agg (vals x1)), (2, .agg (vals ([C.slc A_89 (((([] : List Int) ++ ([v_63] : List Int)) ++ ([v_85] : List Int)).length) c_90, C.slc A_141 (((([] : List Int) ++ ([v_115] : List Int)) ++ ([v_137] : List Int)).length) c_142, C.slc A_193 (((([] : List Int) ++ ([v_167] : List Int)) ++ ([v_189] : List Int)).length) c_194])))] Try.func161 rfl Try.ntmps161 (by kernel_rfl) (Nat.le_of_ble_eq_true (by kernel_rfl)) hs.own fun KR202 hKR202 hKP202 a hs => ?_
    refine qsr fun K203 hK203 => ?_
    refine qbx 1 28 x1 4 hs fun b_204 w a hs => ?_
    refine qbx 2 160 ([C.slc A_89 (((([] : List Int) ++ ([v_63] : List Int)) ++ ([v_85] : List Int)).length) c_90, C.slc A_141 (((([] : List Int) ++ ([v_115] : List Int)) ++ ([v_137] : List Int)).length) c_142, C.slc A_193 (((([] : List Int) ++ ([v_167] : List Int)) ++ ([v_189] : List Int)).length) c_194]) 5 hs fun b_205 w a hs => ?_
    refine qal 28 [ci 0, ci 0, ci 0] 6 hs fun b_206 w a hs => ?_
    refine qpe 0 [(0, pp b_x0), (4, pp b_204), (5, pp b_205), (6, pp b_206)] hs fun a hs => hK203 _ _ ?_
    clear hK203
    refine qsr fun K207 hK207 => ?_
    refine qlw 2 hs rfl h_11 fun a hs => ?_
    refine qal 28 [ci 0, ci 0, ci 0] 7 hs fun b_208 w a hs => ?_
    refine qsb 0 x1 hs rfl h_11 rfl fun a w hs => ?_
    refine qpe 0 [(0, pp b_x0), (5, pp b_205), (6, pp b_206), (7, pp b_208)] hs fun a hs => hK207 _ _ ?_
    clear hK207
    refine Vk.seq fun K209 hK209 => ?_
    refine qsr fun K210 hK210 => ?_
    refine qpu 1 hs fun a hs => ?_
    obtain ⟨g_211, hs⟩ := hs.unex 15 rfl
    obtain ⟨v_214, h_213, hm⟩ := bind_t hm
    refine qcl (wire_Machine_N.ok _ _ _ h_213 _ _ _ b_x0 g_211 hs.own.f15) hs fun w a hs => ?_
    rcases Bool.eq_false_or_eq_true (v_214 == 3) with hb | hb
    ·replace hm := bif_t hm hb
     obtain rfl := Vk.of_beq hb
     refine qpk 1 [0, 5, 6, 7, 13, 14] hs fun a hs => hK210 _ _ ?_
     clear hK210
     refine wp_block ?_
     refine Vk.unroll0 40 ?_
     refine Vk.unroll fun KL215 hKL215 => ?_
     refine qsk 1 [0, 5, 6, 7, 13, 14, 15] hs fun a hs => ?_
     refine qck hs ?_
     refine Vk.seq fun K218 hK218 => ?_
     refine wp_block ?_
     refine qsk 2 [0, 5, 6, 7, 8, 13, 14] hs fun a hs => ?_
     refine qsr fun K220 hK220 => ?_
     refine qpu 2 hs fun a hs => ?_
     refine qld 3 (C.slc A_89 (((([] : List Int) ++ ([v_63] : List Int)) ++ ([v_85] : List Int)).length) c_90) hs rfl fun a hs => ?_
     refine qpk 2 [0, 5, 6, 7, 8, 13, 14, 19, 20, 21] hs fun a hs => hK220 _ _ ?_
     clear hK220
     refine wp_block ?_
     refine Vk.unroll0 40 ?_
     refine Vk.unroll fun KL221 hKL221 => ?_
     refine qsk 1 [0, 5, 6, 7, 8, 13, 14, 19, 20, 21, 22] hs fun a hs => ?_
     refine qck hs ?_
     refine Vk.seq fun K224 hK224 => ?_
     refine wp_block ?_
     refine qsr fun K225 hK225 => ?_
     obtain ⟨h_226, hm⟩ := ite_t hm
     obtain ⟨e_229, h_227, hm⟩ := bind_t hm
     obtain ⟨b_230, o_231, hA_232, h_228⟩ := Sl.elem (Ow.rowSl 0 (Ow.to (S' := rowp A_89 c_90 3 1 (eI .i64) ((([] : List Int) ++ ([v_63] : List Int)) ++ ([v_85] : List Int)) :: S) hs.own [12] 24 (by kernel_rfl) (by kernel_rfl)) rfl) h_227
     refine qva (.pointer (some ⟨b_230, o_231 + 0 * 1, none⟩)) (op := (.indexAddr 159 (.tmp 19) (.tmp 21))) hs (fun o ho => run_idxSlc (k := .i64) ho (cap := c_90) (len := ((([] : List Int) ++ ([v_63] : List Int)) ++ ([v_85] : List Int)).length) ((congrArg (fun A => Value.slice A (((([] : List Int) ++ ([v_63] : List Int)) ++ ([v_85] : List Int)).length) (c_90)) hA_232) ▸ (by kernel_rfl)) (by kernel_rfl) (by kernel_rfl) (idx_ok h_226 h_227) _) fun a hs => ?_
     refine qva (vi e_229) (op := (.load 3 (.tmp 23))) hs (fun o ho => run_load1 (c := ci e_229) ho (by kernel_rfl) (by kernel_rfl) (fun w ho => h_228 w ho 0 _ rfl) _ (Ow.to (S' := rowp A_89 c_90 3 1 (eI .i64) ((([] : List Int) ++ ([v_63] : List Int)) ++ ([v_85] : List Int)) :: S) hs.own [12] 24 (by kernel_rfl) (by kernel_rfl))) fun a hs => ?_
     refine qpe 1 [(0, pp b_x0), (5, pp b_205), (6, pp b_206), (7, pp b_208), (8, vi 0), (10, vi e_229), (13, vi 3), (14, vi 0), (19, .slice A_89 (((([] : List Int) ++ ([v_63] : List Int)) ++ ([v_85] : List Int)).length) c_90), (20, vi 2), (21, vi 0)] hs fun a hs => hK225 _ _ ?_
     clear hK225
     refine Vk.region ?_
     refine qpu 6 hs fun a hs => ?_
     obtain ⟨v_234, h_233, hm⟩ := bind_t hm
     refine qli 1 hs rfl h_233 fun a hs => ?_
     refine qpu 1 hs fun a hs => ?_
     replace hs := hs.toEx (Twire_Machine.parts b_x0 v_35.2) g_211 0 rfl
     obtain ⟨v_237, h_236, hm⟩ := bind_t hm
     refine qcl (wire_Machine_Two.ok _ _ _ _ _ _ _ h_236 _ _ _ b_x0 hs.own) hs fun w a hs => ?_
     refine qpu 2 hs fun a hs => ?_
     obtain ⟨h_238, hm⟩ := ite_t hm
     refine Vk.step (Vk.store1 (b := b_208) (ty := 3) (x := (.tmp 35)) (y := (.tmp 33)) (off := 0) (ci v_237.1) 1 hs (by kernel_rfl) (by kernel_rfl) (by kernel_rfl) (by kernel_rfl) (by kernel_rfl) (by kernel_rfl) rfl h_238 fun a w hs => ?_)
     refine qpk 0 [0, 5, 6, 7, 8, 13, 14, 19, 20, 21] hs fun a hs => hK224 _ _ ?_
     clear hK224
     refine Vk.region ?_
     refine qpk 2 [0, 5, 6, 7, 8, 13, 14, 19, 20, 21] hs fun a hs => hKL221 _ _ ?_
     clear hKL221
     refine Vk.unroll fun KL239 hKL239 => ?_
     refine qsk 1 [0, 5, 6, 7, 8, 13, 14, 19, 20, 21, 22] hs fun a hs => ?_
     refine qck hs ?_
     refine Vk.seq fun K242 hK242 => ?_
     refine wp_block ?_
     refine qsr fun K243 hK243 => ?_
     obtain ⟨h_244, hm⟩ := ite_t hm
     obtain ⟨e_247, h_245, hm⟩ := bind_t hm
     obtain ⟨b_248, o_249, hA_250, h_246⟩ := Sl.elem (Ow.rowSl 0 (Ow.to (S' := rowp A_89 c_90 3 1 (eI .i64) ((([] : List Int) ++ ([v_63] : List Int)) ++ ([v_85] : List Int)) :: S) hs.own [12] 24 (by kernel_rfl) (by kernel_rfl)) rfl) h_245
     refine qva (.pointer (some ⟨b_248, o_249 + 1 * 1, none⟩)) (op := (.indexAddr 159 (.tmp 19) (.tmp 21))) hs (fun o ho => run_idxSlc (k := .i64) ho (cap := c_90) (len := ((([] : List Int) ++ ([v_63] : List Int)) ++ ([v_85] : List Int)).length) ((congrArg (fun A => Value.slice A (((([] : List Int) ++ ([v_63] : List Int)) ++ ([v_85] : List Int)).length) (c_90)) hA_250) ▸ (by kernel_rfl)) (by kernel_rfl) (by kernel_rfl) (idx_ok h_244 h_245) _) fun a hs => ?_
     refine qva (vi e_247) (op := (.load 3 (.tmp 23))) hs (fun o ho => run_load1 (c := ci e_247) ho (by kernel_rfl) (by kernel_rfl) (fun w ho => h_246 w ho 0 _ rfl) _ (Ow.to (S' := rowp A_89 c_90 3 1 (eI .i64) ((([] : List Int) ++ ([v_63] : List Int)) ++ ([v_85] : List Int)) :: S) hs.own [12] 24 (by kernel_rfl) (by kernel_rfl))) fun a hs => ?_
     refine qpk 1 [0, 5, 6, 7, 8, 10, 13, 14, 19, 20, 21] hs fun a hs => hK243 _ _ ?_
     clear hK243
     refine Vk.region ?_
     refine qpu 6 hs fun a hs => ?_
     obtain ⟨v_252, h_251, hm⟩ := bind_t hm
     refine qli 1 hs rfl h_251 fun a hs => ?_
     refine qpu 1 hs fun a hs => ?_
     obtain ⟨v_255, h_254, hm⟩ := bind_t hm
     refine qcl (wire_Machine_Two.ok _ _ _ _ _ _ _ h_254 _ _ _ b_x0 hs.own) hs fun w a hs => ?_
     refine qpu 2 hs fun a hs => ?_
     obtain ⟨h_256, hm⟩ := ite_t hm
     refine Vk.step (Vk.store1 (b := b_208) (ty := 3) (x := (.tmp 35)) (y := (.tmp 33)) (off := 0) (ci v_255.1) 1 hs (by kernel_rfl) (by kernel_rfl) (by kernel_rfl) (by kernel_rfl) (by kernel_rfl) (by kernel_rfl) rfl h_256 fun a w hs => ?_)
     refine qpk 0 [0, 5, 6, 7, 8, 13, 14, 19, 20, 21] hs fun a hs => hK242 _ _ ?_
     clear hK242
     refine Vk.region ?_
     refine qpe 2 [(0, pp b_x0), (5, pp b_205), (6, pp b_206), (7, pp b_208), (8, vi 0), (13, vi 3), (14, vi 0), (19, .slice A_89 (((([] : List Int) ++ ([v_63] : List Int)) ++ ([v_85] : List Int)).length) c_90), (20, vi 2), (21, vi 2)] hs fun a hs => hKL239 _ _ ?_
     clear hKL239
     refine Vk.unroll fun KL257 hKL257 => ?_
     refine qsk 1 [0, 5, 6, 7, 8, 13, 14, 19, 20, 21, 22] hs fun a hs => ?_
     refine Vk.seq fun K259 hK259 => ?_
     refine qcf hs ?_
     refine wp_exit ?_
     refine hK218 _ _ ?_
     clear hK218
     refine Vk.region ?_
     refine qpk 2 [0, 5, 6, 7, 13, 14] hs fun a hs => hKL215 _ _ ?_
     clear hKL215
     refine Vk.unroll fun KL260 hKL260 => ?_
     refine qsk 1 [0, 5, 6, 7, 13, 14, 15] hs fun a hs => ?_
     refine qck hs ?_
     refine Vk.seq fun K263 hK263 => ?_
     refine wp_block ?_
     refine qsk 2 [0, 5, 6, 7, 8, 13, 14] hs fun a hs => ?_
     refine qsr fun K265 hK265 => ?_
     refine qpu 2 hs fun a hs => ?_
     refine qld 3 (C.slc A_141 (((([] : List Int) ++ ([v_115] : List Int)) ++ ([v_137] : List Int)).length) c_142) hs rfl fun a hs => ?_
     refine qpk 2 [0, 5, 6, 7, 8, 13, 14, 19, 20, 21] hs fun a hs => hK265 _ _ ?_
     clear hK265
     refine wp_block ?_
     refine Vk.unroll0 40 ?_
     refine Vk.unroll fun KL266 hKL266 => ?_
     refine qse 1 [(0, pp b_x0), (5, pp b_205), (6, pp b_206), (7, pp b_208), (8, vi 1), (13, vi 3), (14, vi 1), (19, .slice A_141 (((([] : List Int) ++ ([v_115] : List Int)) ++ ([v_137] : List Int)).length) c_142), (20, vi 2), (21, vi 0), (22, .bool true)] hs fun a hs => ?_
     refine qck hs ?_
     refine Vk.seq fun K269 hK269 => ?_
     refine wp_block ?_
     refine qsr fun K270 hK270 => ?_
     obtain ⟨h_271, hm⟩ := ite_t hm
     obtain ⟨e_274, h_272, hm⟩ := bind_t hm
     obtain ⟨b_275, o_276, hA_277, h_273⟩ := Sl.elem (Ow.rowSl 0 (Ow.to (S' := rowp A_141 c_142 3 1 (eI .i64) ((([] : List Int) ++ ([v_115] : List Int)) ++ ([v_137] : List Int)) :: S) hs.own [9] 24 (by kernel_rfl) (by kernel_rfl)) rfl) h_272
     refine qva (.pointer (some ⟨b_275, o_276 + 0 * 1, none⟩)) (op := (.indexAddr 159 (.tmp 19) (.tmp 21))) hs (fun o ho => run_idxSlc (k := .i64) ho (cap := c_142) (len := ((([] : List Int) ++ ([v_115] : List Int)) ++ ([v_137] : List Int)).length) ((congrArg (fun A => Value.slice A (((([] : List Int) ++ ([v_115] : List Int)) ++ ([v_137] : List Int)).length) (c_142)) hA_277) ▸ (by kernel_rfl)) (by kernel_rfl) (by kernel_rfl) (idx_ok h_271 h_272) _) fun a hs => ?_
     refine qva (vi e_274) (op := (.load 3 (.tmp 23))) hs (fun o ho => run_load1 (c := ci e_274) ho (by kernel_rfl) (by kernel_rfl) (fun w ho => h_273 w ho 0 _ rfl) _ (Ow.to (S' := rowp A_141 c_142 3 1 (eI .i64) ((([] : List Int) ++ ([v_115] : List Int)) ++ ([v_137] : List Int)) :: S) hs.own [9] 24 (by kernel_rfl) (by kernel_rfl))) fun a hs => ?_
     refine qpk 1 [0, 5, 6, 7, 8, 10, 13, 14, 19, 20, 21] hs fun a hs => hK270 _ _ ?_
     clear hK270
     refine Vk.region ?_
     refine qpu 6 hs fun a hs => ?_
     obtain ⟨v_279, h_278, hm⟩ := bind_t hm
     refine qli 1 hs rfl h_278 fun a hs => ?_
     refine qpu 1 hs fun a hs => ?_
     obtain ⟨v_282, h_281, hm⟩ := bind_t hm
     refine qcl (wire_Machine_Two.ok _ _ _ _ _ _ _ h_281 _ _ _ b_x0 hs.own) hs fun w a hs => ?_
     refine qpu 2 hs fun a hs => ?_
     obtain ⟨h_283, hm⟩ := ite_t hm
     refine Vk.step (Vk.store1 (b := b_208) (ty := 3) (x := (.tmp 35)) (y := (.tmp 33)) (off := 1) (ci v_282.1) 1 hs (by kernel_rfl) (by kernel_rfl) (by kernel_rfl) (by kernel_rfl) (by kernel_rfl) (by kernel_rfl) rfl h_283 fun a w hs => ?_)
     refine qpk 0 [0, 5, 6, 7, 8, 13, 14, 19, 20, 21] hs fun a hs => hK269 _ _ ?_
     clear hK269
     refine Vk.region ?_
     refine qpk 2 [0, 5, 6, 7, 8, 13, 14, 19, 20, 21] hs fun a hs => hKL266 _ _ ?_
     clear hKL266
     refine Vk.unroll fun KL284 hKL284 => ?_
     refine qsk 1 [0, 5, 6, 7, 8, 13, 14, 19, 20, 21, 22] hs fun a hs => ?_
     refine qck hs ?_
     refine Vk.seq fun K287 hK287 => ?_
     refine wp_block ?_
     refine qsr fun K288 hK288 => ?_
     obtain ⟨h_289, hm⟩ := ite_t hm
     obtain ⟨e_292, h_290, hm⟩ := bind_t hm
     obtain ⟨b_293, o_294, hA_295, h_291⟩ := Sl.elem (Ow.rowSl 0 (Ow.to (S' := rowp A_141 c_142 3 1 (eI .i64) ((([] : List Int) ++ ([v_115] : List Int)) ++ ([v_137] : List Int)) :: S) hs.own [9] 24 (by kernel_rfl) (by kernel_rfl)) rfl) h_290
     refine qva (.pointer (some ⟨b_293, o_294 + 1 * 1, none⟩)) (op := (.indexAddr 159 (.tmp 19) (.tmp 21))) hs (fun o ho => run_idxSlc (k := .i64) ho (cap := c_142) (len := ((([] : List Int) ++ ([v_115] : List Int)) ++ ([v_137] : List Int)).length) ((congrArg (fun A => Value.slice A (((([] : List Int) ++ ([v_115] : List Int)) ++ ([v_137] : List Int)).length) (c_142)) hA_295) ▸ (by kernel_rfl)) (by kernel_rfl) (by kernel_rfl) (idx_ok h_289 h_290) _) fun a hs => ?_
     refine qva (vi e_292) (op := (.load 3 (.tmp 23))) hs (fun o ho => run_load1 (c := ci e_292) ho (by kernel_rfl) (by kernel_rfl) (fun w ho => h_291 w ho 0 _ rfl) _ (Ow.to (S' := rowp A_141 c_142 3 1 (eI .i64) ((([] : List Int) ++ ([v_115] : List Int)) ++ ([v_137] : List Int)) :: S) hs.own [9] 24 (by kernel_rfl) (by kernel_rfl))) fun a hs => ?_
     refine qpk 1 [0, 5, 6, 7, 8, 10, 13, 14, 19, 20, 21] hs fun a hs => hK288 _ _ ?_
     clear hK288
     refine Vk.region ?_
     refine qpu 6 hs fun a hs => ?_
     obtain ⟨v_297, h_296, hm⟩ := bind_t hm
     refine qli 1 hs rfl h_296 fun a hs => ?_
     refine qpu 1 hs fun a hs => ?_
     obtain ⟨v_300, h_299, hm⟩ := bind_t hm
     refine qcl (wire_Machine_Two.ok _ _ _ _ _ _ _ h_299 _ _ _ b_x0 hs.own) hs fun w a hs => ?_
     refine qpu 2 hs fun a hs => ?_
     obtain ⟨h_301, hm⟩ := ite_t hm
     refine Vk.step (Vk.store1 (b := b_208) (ty := 3) (x := (.tmp 35)) (y := (.tmp 33)) (off := 1) (ci v_300.1) 1 hs (by kernel_rfl) (by kernel_rfl) (by kernel_rfl) (by kernel_rfl) (by kernel_rfl) (by kernel_rfl) rfl h_301 fun a w hs => ?_)
     refine qpe 0 [(0, pp b_x0), (5, pp b_205), (6, pp b_206), (7, pp b_208), (8, vi 1), (13, vi 3), (14, vi 1), (19, .slice A_141 (((([] : List Int) ++ ([v_115] : List Int)) ++ ([v_137] : List Int)).length) c_142), (20, vi 2), (21, vi 1)] hs fun a hs => hK287 _ _ ?_
     clear hK287
     refine Vk.region ?_
     refine qpk 2 [0, 5, 6, 7, 8, 13, 14, 19, 20, 21] hs fun a hs => hKL284 _ _ ?_
     clear hKL284
     refine Vk.unroll fun KL302 hKL302 => ?_
     refine qsk 1 [0, 5, 6, 7, 8, 13, 14, 19, 20, 21, 22] hs fun a hs => ?_
     refine Vk.seq fun K304 hK304 => ?_
     refine qcf hs ?_
     refine wp_exit ?_
     refine hK263 _ _ ?_
     clear hK263
     refine Vk.region ?_
     refine qpk 2 [0, 5, 6, 7, 13, 14] hs fun a hs => hKL260 _ _ ?_
     clear hKL260
     refine Vk.unroll fun KL305 hKL305 => ?_
     refine qsk 1 [0, 5, 6, 7, 13, 14, 15] hs fun a hs => ?_
     refine qck hs ?_
     refine Vk.seq fun K308 hK308 => ?_
     refine wp_block ?_
     refine qsk 2 [0, 5, 6, 7, 8, 13, 14] hs fun a hs => ?_
     refine qsr fun K310 hK310 => ?_
     refine qpu 2 hs fun a hs => ?_
     refine qld 3 (C.slc A_193 (((([] : List Int) ++ ([v_167] : List Int)) ++ ([v_189] : List Int)).length) c_194) hs rfl fun a hs => ?_
     refine qpe 2 [(0, pp b_x0), (5, pp b_205), (6, pp b_206), (7, pp b_208), (8, vi 2), (13, vi 3), (14, vi 2), (19, .slice A_193 (((([] : List Int) ++ ([v_167] : List Int)) ++ ([v_189] : List Int)).length) c_194), (20, vi 2), (21, vi 0)] hs fun a hs => hK310 _ _ ?_
     clear hK310
     refine wp_block ?_
     refine Vk.unroll0 40 ?_
     refine Vk.unroll fun KL311 hKL311 => ?_
     refine qsk 1 [0, 5, 6, 7, 8, 13, 14, 19, 20, 21, 22] hs fun a hs => ?_
     refine qck hs ?_
     refine Vk.seq fun K314 hK314 => ?_
     refine wp_block ?_
     refine qsr fun K315 hK315 => ?_
     obtain ⟨h_316, hm⟩ := ite_t hm
     obtain ⟨e_319, h_317, hm⟩ := bind_t hm
     obtain ⟨b_320, o_321, hA_322, h_318⟩ := Sl.elem (Ow.rowSl 0 (Ow.to (S' := rowp A_193 c_194 3 1 (eI .i64) ((([] : List Int) ++ ([v_167] : List Int)) ++ ([v_189] : List Int)) :: S) hs.own [6] 24 (by kernel_rfl) (by kernel_rfl)) rfl) h_317
     refine qva (.pointer (some ⟨b_320, o_321 + 0 * 1, none⟩)) (op := (.indexAddr 159 (.tmp 19) (.tmp 21))) hs (fun o ho => run_idxSlc (k := .i64) ho (cap := c_194) (len := ((([] : List Int) ++ ([v_167] : List Int)) ++ ([v_189] : List Int)).length) ((congrArg (fun A => Value.slice A (((([] : List Int) ++ ([v_167] : List Int)) ++ ([v_189] : List Int)).length) (c_194)) hA_322) ▸ (by kernel_rfl)) (by kernel_rfl) (by kernel_rfl) (idx_ok h_316 h_317) _) fun a hs => ?_
     refine qva (vi e_319) (op := (.load 3 (.tmp 23))) hs (fun o ho => run_load1 (c := ci e_319) ho (by kernel_rfl) (by kernel_rfl) (fun w ho => h_318 w ho 0 _ rfl) _ (Ow.to (S' := rowp A_193 c_194 3 1 (eI .i64) ((([] : List Int) ++ ([v_167] : List Int)) ++ ([v_189] : List Int)) :: S) hs.own [6] 24 (by kernel_rfl) (by kernel_rfl))) fun a hs => ?_
     refine qpk 1 [0, 5, 6, 7, 8, 10, 13, 14, 19, 20, 21] hs fun a hs => hK315 _ _ ?_
     clear hK315
     refine Vk.region ?_
     refine qpu 6 hs fun a hs => ?_
     obtain ⟨v_324, h_323, hm⟩ := bind_t hm
     refine qli 1 hs rfl h_323 fun a hs => ?_
     refine qpu 1 hs fun a hs => ?_
     obtain ⟨v_327, h_326, hm⟩ := bind_t hm
     refine qcl (wire_Machine_Two.ok _ _ _ _ _ _ _ h_326 _ _ _ b_x0 hs.own) hs fun w a hs => ?_
     refine qpu 2 hs fun a hs => ?_
     obtain ⟨h_328, hm⟩ := ite_t hm
     refine Vk.step (Vk.store1 (b := b_208) (ty := 3) (x := (.tmp 35)) (y := (.tmp 33)) (off := 2) (ci v_327.1) 1 hs (by kernel_rfl) (by kernel_rfl) (by kernel_rfl) (by kernel_rfl) (by kernel_rfl) (by kernel_rfl) rfl h_328 fun a w hs => ?_)
     refine qpk 0 [0, 5, 6, 7, 8, 13, 14, 19, 20, 21] hs fun a hs => hK314 _ _ ?_
     clear hK314
     refine Vk.region ?_
     refine qpk 2 [0, 5, 6, 7, 8, 13, 14, 19, 20, 21] hs fun a hs => hKL311 _ _ ?_
     clear hKL311
     refine Vk.unroll fun KL329 hKL329 => ?_
     refine qsk 1 [0, 5, 6, 7, 8, 13, 14, 19, 20, 21, 22] hs fun a hs => ?_
     refine qck hs ?_
     refine Vk.seq fun K332 hK332 => ?_
     refine wp_block ?_
     refine qsr fun K333 hK333 => ?_
     obtain ⟨h_334, hm⟩ := ite_t hm
     obtain ⟨e_337, h_335, hm⟩ := bind_t hm
     obtain ⟨b_338, o_339, hA_340, h_336⟩ := Sl.elem (Ow.rowSl 0 (Ow.to (S' := rowp A_193 c_194 3 1 (eI .i64) ((([] : List Int) ++ ([v_167] : List Int)) ++ ([v_189] : List Int)) :: S) hs.own [6] 24 (by kernel_rfl) (by kernel_rfl)) rfl) h_335
     refine qva (.pointer (some ⟨b_338, o_339 + 1 * 1, none⟩)) (op := (.indexAddr 159 (.tmp 19) (.tmp 21))) hs (fun o ho => run_idxSlc (k := .i64) ho (cap := c_194) (len := ((([] : List Int) ++ ([v_167] : List Int)) ++ ([v_189] : List Int)).length) ((congrArg (fun A => Value.slice A (((([] : List Int) ++ ([v_167] : List Int)) ++ ([v_189] : List Int)).length) (c_194)) hA_340) ▸ (by kernel_rfl)) (by kernel_rfl) (by kernel_rfl) (idx_ok h_334 h_335) _) fun a hs => ?_
     refine qva (vi e_337) (op := (.load 3 (.tmp 23))) hs (fun o ho => run_load1 (c := ci e_337) ho (by kernel_rfl) (by kernel_rfl) (fun w ho => h_336 w ho 0 _ rfl) _ (Ow.to (S' := rowp A_193 c_194 3 1 (eI .i64) ((([] : List Int) ++ ([v_167] : List Int)) ++ ([v_189] : List Int)) :: S) hs.own [6] 24 (by kernel_rfl) (by kernel_rfl))) fun a hs => ?_
     refine qpe 1 [(0, pp b_x0), (5, pp b_205), (6, pp b_206), (7, pp b_208), (8, vi 2), (10, vi e_337), (13, vi 3), (14, vi 2), (19, .slice A_193 (((([] : List Int) ++ ([v_167] : List Int)) ++ ([v_189] : List Int)).length) c_194), (20, vi 2), (21, vi 1)] hs fun a hs => hK333 _ _ ?_
     clear hK333
     refine Vk.region ?_
     refine qpu 6 hs fun a hs => ?_
     obtain ⟨v_342, h_341, hm⟩ := bind_t hm
     refine qli 1 hs rfl h_341 fun a hs => ?_
     refine qpu 1 hs fun a hs => ?_
     obtain ⟨v_345, h_344, hm⟩ := bind_t hm
     refine qcl (wire_Machine_Two.ok _ _ _ _ _ _ _ h_344 _ _ _ b_x0 hs.own) hs fun w a hs => ?_
     refine qpu 2 hs fun a hs => ?_
     obtain ⟨h_346, hm⟩ := ite_t hm
     refine Vk.step (Vk.store1 (b := b_208) (ty := 3) (x := (.tmp 35)) (y := (.tmp 33)) (off := 2) (ci v_345.1) 1 hs (by kernel_rfl) (by kernel_rfl) (by kernel_rfl) (by kernel_rfl) (by kernel_rfl) (by kernel_rfl) rfl h_346 fun a w hs => ?_)
     refine qpk 0 [0, 5, 6, 7, 8, 13, 14, 19, 20, 21] hs fun a hs => hK332 _ _ ?_
     clear hK332
     refine Vk.region ?_
     refine qpk 2 [0, 5, 6, 7, 8, 13, 14, 19, 20, 21] hs fun a hs => hKL329 _ _ ?_
     clear hKL329
     refine Vk.unroll fun KL347 hKL347 => ?_
     refine qsk 1 [0, 5, 6, 7, 8, 13, 14, 19, 20, 21, 22] hs fun a hs => ?_
     refine Vk.seq fun K349 hK349 => ?_
     refine qcf hs ?_
     refine wp_exit ?_
     refine hK308 _ _ ?_
     clear hK308
     refine Vk.region ?_
     refine qpk 2 [0, 5, 6, 7, 13, 14] hs fun a hs => hKL305 _ _ ?_
     clear hKL305
     refine Vk.unroll fun KL350 hKL350 => ?_
     refine qsk 1 [0, 5, 6, 7, 13, 14, 15] hs fun a hs => ?_
     refine Vk.seq fun K352 hK352 => ?_
     refine qcf hs ?_
     refine wp_exit ?_
     refine hK209 _ _ ?_
     clear hK209
     refine qsr fun K353 hK353 => ?_
     refine qva (.agg (vals ((((((x1.set (0) (ci v_237.1)).set (0) (ci v_255.1)).set (1) (ci v_282.1)).set (1) (ci v_300.1)).set (2) (ci v_327.1)).set (2) (ci v_345.1)))) (op := (.load 28 (.tmp 7))) hs (fun o ho => run_loadN (cs := ((((((x1.set (0) (ci v_237.1)).set (0) (ci v_255.1)).set (1) (ci v_282.1)).set (1) (ci v_300.1)).set (2) (ci v_327.1)).set (2) (ci v_345.1))) ho (by kernel_rfl) (by kernel_rfl) (List.length_set.trans (List.length_set.trans (List.length_set.trans (List.length_set.trans (List.length_set.trans (List.length_set.trans h_11)))))) (CellsAt.all 1 rfl) _ hs.own) fun a hs => ?_
     refine Vk.step (Vk.storeA (b := b_206) (ty := 28) (x := (.tmp 6)) (y := (.tmp 38)) (sz := 3) ((((((x1.set (0) (ci v_237.1)).set (0) (ci v_255.1)).set (1) (ci v_282.1)).set (1) (ci v_300.1)).set (2) (ci v_327.1)).set (2) (ci v_345.1)) 2 hs (by kernel_rfl) (by kernel_rfl) (by kernel_rfl) (by kernel_rfl) (by kernel_rfl) (List.length_set.trans (List.length_set.trans (List.length_set.trans (List.length_set.trans (List.length_set.trans (List.length_set.trans h_11)))))) (by kernel_rfl) rfl (Eq.trans (b := 3) (List.length_set.trans (List.length_set.trans (List.length_set.trans (List.length_set.trans (List.length_set.trans (List.length_set.trans h_11)))))) (Eq.symm rfl)) fun a w hs => ?_)
     refine qpe 0 [(6, pp b_206)] hs fun a hs => hK353 _ _ ?_
     clear hK353
     refine wp_ret ?_
     refine hKP202 _ _ ?_
     refine hKR202 _ _ ?_
     refine Vk.retC (P := Try.prog) (fn := Try.f161) ((((((x1.set (0) (ci v_237.1)).set (0) (ci v_255.1)).set (1) (ci v_282.1)).set (1) (ci v_300.1)).set (2) (ci v_327.1)).set (2) (ci v_345.1)) hs rfl (by kernel_rfl) (sz := 3) (by kernel_rfl) (List.length_set.trans (List.length_set.trans (List.length_set.trans (List.length_set.trans (List.length_set.trans (List.length_set.trans h_11)))))) (CellsAt.all 2 rfl) ⟨_, _, _, rfl, hs.own, fun a hs => ?_⟩
     refine qal 28 [ci 0, ci 0, ci 0] 15 hs fun b_354 w a hs => ?_
     refine Vk.step (Vk.storeA (b := b_354) (ty := 28) (x := (.tmp 15)) (y := (.tmp 52)) (sz := 3) ((((((x1.set (0) (ci v_237.1)).set (0) (ci v_255.1)).set (1) (ci v_282.1)).set (1) (ci v_300.1)).set (2) (ci v_327.1)).set (2) (ci v_345.1)) 0 hs (by kernel_rfl) (by kernel_rfl) (by kernel_rfl) (by kernel_rfl) (by kernel_rfl) (List.length_set.trans (List.length_set.trans (List.length_set.trans (List.length_set.trans (List.length_set.trans (List.length_set.trans h_11)))))) (by kernel_rfl) rfl (Eq.trans (b := 3) (List.length_set.trans (List.length_set.trans (List.length_set.trans (List.length_set.trans (List.length_set.trans (List.length_set.trans h_11)))))) (Eq.symm rfl)) fun a w hs => ?_)
     refine qpk 0 [0, 8, 15] hs fun a hs => hK201 _ _ ?_
     clear hK201
     refine qsr fun K355 hK355 => ?_
     refine qpu 1 hs fun a hs => ?_
     obtain ⟨v_358, h_357, hm⟩ := bind_t hm
     refine qcl (wire_Machine_End.ok _ _ _ h_357 _ _ _ b_x0 hs.own.f1) hs fun w a hs => ?_
     refine qpk 0 [8, 15] hs fun a hs => hK355 _ _ ?_
     clear hK355
     refine qsr fun K359 hK359 => ?_
     refine qva (.agg (vals ((((((x1.set (0) (ci v_237.1)).set (0) (ci v_255.1)).set (1) (ci v_282.1)).set (1) (ci v_300.1)).set (2) (ci v_327.1)).set (2) (ci v_345.1)))) (op := (.load 28 (.tmp 15))) hs (fun o ho => run_loadN (cs := ((((((x1.set (0) (ci v_237.1)).set (0) (ci v_255.1)).set (1) (ci v_282.1)).set (1) (ci v_300.1)).set (2) (ci v_327.1)).set (2) (ci v_345.1))) ho (by kernel_rfl) (by kernel_rfl) (List.length_set.trans (List.length_set.trans (List.length_set.trans (List.length_set.trans (List.length_set.trans (List.length_set.trans h_11)))))) (CellsAt.all 1 rfl) _ hs.own) fun a hs => ?_
     refine Vk.step (Vk.storeA (b := b_22) (ty := 28) (x := (.tmp 8)) (y := (.tmp 55)) (sz := 3) ((((((x1.set (0) (ci v_237.1)).set (0) (ci v_255.1)).set (1) (ci v_282.1)).set (1) (ci v_300.1)).set (2) (ci v_327.1)).set (2) (ci v_345.1)) 17 hs (by kernel_rfl) (by kernel_rfl) (by kernel_rfl) (by kernel_rfl) (by kernel_rfl) (List.length_set.trans (List.length_set.trans (List.length_set.trans (List.length_set.trans (List.length_set.trans (List.length_set.trans h_11)))))) (by kernel_rfl) rfl (Eq.trans (b := 3) (List.length_set.trans (List.length_set.trans (List.length_set.trans (List.length_set.trans (List.length_set.trans (List.length_set.trans h_11)))))) (Eq.symm rfl)) fun a w hs => ?_)
     refine qpe 0 [(8, pp b_22)] hs fun a hs => hK359 _ _ ?_
     clear hK359
     refine wp_ret ?_
     refine hKP18 _ _ ?_
     refine hKR18 _ _ ?_
     refine Vk.retC (P := Try.prog) (fn := Try.f125) ((((((x1.set (0) (ci v_237.1)).set (0) (ci v_255.1)).set (1) (ci v_282.1)).set (1) (ci v_300.1)).set (2) (ci v_327.1)).set (2) (ci v_345.1)) hs rfl (by kernel_rfl) (sz := 3) (by kernel_rfl) (List.length_set.trans (List.length_set.trans (List.length_set.trans (List.length_set.trans (List.length_set.trans (List.length_set.trans h_11)))))) (CellsAt.all 17 rfl) ⟨_, _, _, rfl, hs.own, fun a hs => ?_⟩
     refine Vk.step (Vk.storeA (b := b_3) (ty := 28) (x := (.tmp 4)) (y := (.tmp 14)) (sz := 3) ((((((x1.set (0) (ci v_237.1)).set (0) (ci v_255.1)).set (1) (ci v_282.1)).set (1) (ci v_300.1)).set (2) (ci v_327.1)).set (2) (ci v_345.1)) 23 hs (by kernel_rfl) (by kernel_rfl) (by kernel_rfl) (by kernel_rfl) (by kernel_rfl) (List.length_set.trans (List.length_set.trans (List.length_set.trans (List.length_set.trans (List.length_set.trans (List.length_set.trans h_11)))))) (by kernel_rfl) rfl (Eq.trans (b := 3) (List.length_set.trans (List.length_set.trans (List.length_set.trans (List.length_set.trans (List.length_set.trans (List.length_set.trans h_11)))))) (Eq.symm rfl)) fun a w hs => ?_)
     refine qpe 0 [(4, pp b_3)] hs fun a hs => hK10 _ _ ?_
     clear hK10
     refine wp_ret ?_
     exact Vk.retC ((((((x1.set (0) (ci v_237.1)).set (0) (ci v_255.1)).set (1) (ci v_282.1)).set (1) (ci v_300.1)).set (2) (ci v_327.1)).set (2) (ci v_345.1)) hs rfl (by kernel_rfl) (sz := 3) (by kernel_rfl) (List.length_set.trans (List.length_set.trans (List.length_set.trans (List.length_set.trans (List.length_set.trans (List.length_set.trans h_11)))))) (CellsAt.all 23 rfl) (hRR ▸ by cases hm; exact ⟨rfl, (hs.own.too [0] 25)⟩)
    ·replace hm := bif_f hm hb
     cases hm
   ·replace hm := bif_f hm hb
    cases hm
  ·replace hm := bif_f hm hb
   cases hm


abbrev wire_Machine_Open.R (κ : Ctx) (S : List HP) (x0 : Twire_Machine) (x1 : Int) (x2 : Int) (x3 : Int) (b_x0 : Nat) (r : (Int × Twire_Machine)) : Ending → World → Prop := fun e w' => e = .returned (vw r.1) ∧ Ow κ w' (Twire_Machine.own b_x0 r.2 :: S)
def wire_Machine_Open.m (k : Nat) (x0 : Twire_Machine) (x1 : Int) (x2 : Int) (x3 : Int) : Option (Int × Twire_Machine) := (wire_Machine_Do.m k x0 (⟨12, (-1), x1, x2, x3, 0⟩ : Tapi_Op) 0).bind fun v_5 => (bif decide (v_5.1 < 0) then some (0, v_5.2) else (bif v_5.2.dry then some (18446744073709551615, v_5.2) else (if 0 ≤ v_5.1 then (v_5.2.values[v_5.1.toNat]?).bind fun e_19 => some (e_19, v_5.2) else none)))

set_option maxRecDepth 100000 in
set_option maxHeartbeats 4000000 in
theorem wire_Machine_Open.ok (k : Nat) (x0 : Twire_Machine) (x1 : Int) (x2 : Int) (x3 : Int) (r : (Int × Twire_Machine)) (hm : wire_Machine_Open.m k x0 x1 x2 x3 = some r) (κ : Ctx) (w : World) (S : List HP) (b_x0 : Nat) (ho : Ow κ w (Twire_Machine.own b_x0 x0 :: S)) :
  Calls Try.prog 140 #[pp b_x0, vi x1, vi x2, vi x3] w (wire_Machine_Open.R κ S x0 x1 x2 x3 b_x0 r) := by
 unfold wire_Machine_Open.m at hm
 generalize hRR : wire_Machine_Open.R κ S x0 x1 x2 x3 b_x0 r = RR
 refine qen [(0, pp b_x0), (1, vi x1), (2, vi x2), (3, vi x3)] Try.func140 Try.ntmps140 ho fun a hs => ?_
 refine qsk 1 [0, 1, 2, 3] hs fun a hs => ?_
 refine qsr fun K2 hK2 => ?_
 refine qpu 5 hs fun a hs => ?_
 obtain ⟨v_5, h_4, hm⟩ := bind_t hm
 refine qcl (wire_Machine_Do.ok _ _ _ _ _ h_4 _ _ _ b_x0 hs.own) hs fun w a hs => ?_
 refine qpk 1 [0, 9] hs fun a hs => hK2 _ _ ?_
 clear hK2
 refine Vk.seq fun K6 hK6 => ?_
 refine wp_block ?_
 refine qsk 3 [0, 9, 16] hs fun a hs => ?_
 refine qcs (decide (v_5.1 < 0)) hs (fun hb => ?_) fun hb => ?_
 ·replace hm := bif_t hm hb
  refine qse 1 [(8, vw 0)] hs fun a hs => ?_
  refine wp_ret ?_
  exact qr1 (vw 0) hs rfl hRR (by cases hm; exact ⟨rfl, hs.own⟩)
 ·replace hm := bif_f hm hb
  refine qsr fun K9 hK9 => ?_
  refine qpu 3 hs fun a hs => ?_
  obtain ⟨g_10, hs⟩ := hs.unbag 0 rfl
  refine qld 0 (C.bool v_5.2.dry) hs rfl fun a hs => ?_
  refine qpk 1 [0, 9, 19] hs fun a hs => hK9 _ _ ?_
  clear hK9
  refine qcs (v_5.2.dry) hs (fun hb => ?_) fun hb => ?_
  ·replace hm := bif_t hm hb
   refine qsk 1 [8] hs fun a hs => ?_
   refine wp_ret ?_
   replace hs := hs.bagG (l := Twire_Machine.parts b_x0 v_5.2 g_10) (S' := S) hs.own
   replace hs := hs.toEx (Twire_Machine.parts b_x0 v_5.2) g_10 0 rfl
   exact qr1 (vw 18446744073709551615) hs rfl hRR (by cases hm; exact ⟨rfl, hs.own⟩)
  ·replace hm := bif_f hm hb
   refine wp_skip ?_
   refine hK6 _ _ ?_
   clear hK6
   refine qsr fun K15 hK15 => ?_
   refine qpu 3 hs fun a hs => ?_
   refine qld 0 (C.slc g_10.2.2.2.1 v_5.2.values.length g_10.2.2.2.2.1) hs rfl fun a hs => ?_
   refine qpu 1 hs fun a hs => ?_
   obtain ⟨h_16, hm⟩ := ite_t hm
   obtain ⟨e_19, h_17, hm⟩ := bind_t hm
   obtain ⟨b_20, o_21, hA_22, h_18⟩ := Sl.elem (Ow.rowSl 0 (Ow.to (S' := rowp g_10.2.2.2.1 g_10.2.2.2.2.1 32 1 (eI .u64) v_5.2.values :: S) hs.own [3] 5 (by kernel_rfl) (by kernel_rfl)) rfl) h_17
   refine qva (.pointer (some ⟨b_20, o_21 + v_5.1.toNat * 1, none⟩)) (op := (.indexAddr 25 (.tmp 27) (.tmp 28))) hs (fun o ho => run_idxSlc (k := .i64) ho (cap := g_10.2.2.2.2.1) (len := v_5.2.values.length) ((congrArg (fun A => Value.slice A (v_5.2.values.length) (g_10.2.2.2.2.1)) hA_22) ▸ (by kernel_rfl)) (by kernel_rfl) (by kernel_rfl) (idx_ok h_16 h_17) _) fun a hs => ?_
   refine qva (vw e_19) (op := (.load 32 (.tmp 29))) hs (fun o ho => run_load1 (c := cw e_19) ho (by kernel_rfl) (by kernel_rfl) (fun w ho => h_18 w ho 0 _ rfl) _ (Ow.to (S' := rowp g_10.2.2.2.1 g_10.2.2.2.2.1 32 1 (eI .u64) v_5.2.values :: S) hs.own [3] 5 (by kernel_rfl) (by kernel_rfl))) fun a hs => ?_
   refine qpe 1 [(8, vw e_19)] hs fun a hs => hK15 _ _ ?_
   clear hK15
   refine wp_ret ?_
   replace hs := hs.bagG (l := Twire_Machine.parts b_x0 v_5.2 g_10) (S' := S) hs.own
   replace hs := hs.toEx (Twire_Machine.parts b_x0 v_5.2) g_10 0 rfl
   exact qr1 (vw e_19) hs rfl hRR (by cases hm; exact ⟨rfl, hs.own⟩)


abbrev guard_Open.R (κ : Ctx) (S : List HP) (x0 : Twire_Machine) (x1 : Cells) (b_x0 : Nat) (r : (Int × Twire_Machine)) : Ending → World → Prop := fun e w' => e = .returned (vw r.1) ∧ Ow κ w' (Twire_Machine.own b_x0 r.2 :: S)
def guard_Open.m (k : Nat) (x0 : Twire_Machine) (x1 : Cells) : Option (Int × Twire_Machine) := (if x1.length = 3 then (fresh_Full.m k x0 x1).bind fun v_7 => (if v_7.1.length = 3 then (getI .i64 v_7.1 (0)).bind fun v_12 => (getI .i64 v_7.1 (1)).bind fun v_14 => (getI .i64 v_7.1 (2)).bind fun v_16 => (wire_Machine_Open.m k v_7.2 v_12 v_14 v_16).bind fun v_19 => some (v_19.1, v_19.2) else none) else none)

set_option maxRecDepth 100000 in
set_option maxHeartbeats 4000000 in
theorem guard_Open.ok (k : Nat) (x0 : Twire_Machine) (x1 : Cells) (r : (Int × Twire_Machine)) (hm : guard_Open.m k x0 x1 = some r) (κ : Ctx) (w : World) (S : List HP) (b_x0 : Nat) (ho : Ow κ w (Twire_Machine.own b_x0 x0 :: S)) :
  Calls Try.prog 68 #[pp b_x0, .agg (vals x1)] w (guard_Open.R κ S x0 x1 b_x0 r) := by
 unfold guard_Open.m at hm
 generalize hRR : guard_Open.R κ S x0 x1 b_x0 r = RR
 refine qen [(0, pp b_x0), (1, .agg (vals x1))] Try.func68 Try.ntmps68 ho fun a hs => ?_
 refine qsr fun K1 hK1 => ?_
 refine qbx 1 28 x1 3 hs fun b_2 w a hs => ?_
 refine qpe 1 [(0, pp b_x0), (3, pp b_2)] hs fun a hs => hK1 _ _ ?_
 clear hK1
 refine qsr fun K3 hK3 => ?_
 refine qpu 1 hs fun a hs => ?_
 obtain ⟨h_4, hm⟩ := ite_t hm
 refine qlw 0 hs rfl h_4 fun a hs => ?_
 obtain ⟨v_7, h_6, hm⟩ := bind_t hm
 refine qcl (fresh_Full.ok _ _ _ _ h_6 _ _ _ b_x0 hs.own.f1) hs fun w a hs => ?_
 refine qal 28 [ci 0, ci 0, ci 0] 5 hs fun b_8 w a hs => ?_
 obtain ⟨h_9, hm⟩ := ite_t hm
 refine qsb 0 v_7.1 hs rfl h_9 rfl fun a w hs => ?_
 refine qpe 0 [(0, pp b_x0), (5, pp b_8)] hs fun a hs => hK3 _ _ ?_
 clear hK3
 refine qsr fun K10 hK10 => ?_
 refine qpu 3 hs fun a hs => ?_
 obtain ⟨v_12, h_11, hm⟩ := bind_t hm
 refine qli 0 hs rfl h_11 fun a hs => ?_
 refine qpu 2 hs fun a hs => ?_
 obtain ⟨v_14, h_13, hm⟩ := bind_t hm
 refine qli 0 hs rfl h_13 fun a hs => ?_
 refine qpu 2 hs fun a hs => ?_
 obtain ⟨v_16, h_15, hm⟩ := bind_t hm
 refine qli 0 hs rfl h_15 fun a hs => ?_
 obtain ⟨v_19, h_18, hm⟩ := bind_t hm
 refine qcl (wire_Machine_Open.ok _ _ _ _ _ _ h_18 _ _ _ b_x0 hs.own.f1) hs fun w a hs => ?_
 refine qpe 1 [(4, vw v_19.1)] hs fun a hs => hK10 _ _ ?_
 clear hK10
 refine wp_ret ?_
 exact qr1 (vw v_19.1) hs rfl hRR (by cases hm; exact ⟨rfl, hs.own.f2.drop.f1.drop⟩)


abbrev visorref19_M_Begin.R (κ : Ctx) (S : List HP) (x0 : Tvisorref19_M) (x1 : Int) (b_x0 : Nat) (r : Tvisorref19_M) : Ending → World → Prop := fun e w' => e = .returned (.tuple #[]) ∧ Ow κ w' (Tvisorref19_M.own κ b_x0 r :: S)
def visorref19_M_Begin.m (k : Nat) (x0 : Tvisorref19_M) (x1 : Int) : Option Tvisorref19_M := (bif x0.e != 0 then some x0 else (bif ((x0.kind != 0) || (decide (x1 < 1))) || (decide (x1 > 3)) then some (⟨x0.n, x0.most, x0.words, x0.draws, x0.fromF, x0.skip, x0.kind, 1, x0.ops, x0.blocks, x0.val, x0.tape, x0.dry⟩ : Tvisorref19_M) else (visorref19_M_Len.m k (⟨x0.n, x0.most, x0.words, x0.draws, x0.fromF, x0.skip, x1, x0.e, x0.ops, x0.blocks, x0.val, x0.tape, x0.dry⟩ : Tvisorref19_M)).bind fun v_16 => some (⟨x0.n, x0.most, x0.words, x0.draws, v_16, x0.skip, x1, x0.e, x0.ops, x0.blocks, x0.val, x0.tape, x0.dry⟩ : Tvisorref19_M)))

set_option maxRecDepth 100000 in
set_option maxHeartbeats 4000000 in
theorem visorref19_M_Begin.ok (k : Nat) (x0 : Tvisorref19_M) (x1 : Int) (r : Tvisorref19_M) (hm : visorref19_M_Begin.m k x0 x1 = some r) (κ : Ctx) (w : World) (S : List HP) (b_x0 : Nat) (ho : Ow κ w (Tvisorref19_M.own κ b_x0 x0 :: S)) :
  Calls Try.prog 122 #[pp b_x0, vi x1] w (visorref19_M_Begin.R κ S x0 x1 b_x0 r) := by
 unfold visorref19_M_Begin.m at hm
 generalize hRR : visorref19_M_Begin.R κ S x0 x1 b_x0 r = RR
 refine qen [(0, pp b_x0), (1, vi x1)] Try.func122 Try.ntmps122 ho fun a hs => ?_
 refine Vk.seq fun K1 hK1 => ?_
 refine qsr fun K2 hK2 => ?_
 refine qpu 3 hs fun a hs => ?_
 obtain ⟨g_3, hs⟩ := hs.unbag 0 rfl
 refine qld 0 (ci x0.e) hs rfl fun a hs => ?_
 refine qpk 1 [0, 1, 8] hs fun a hs => hK2 _ _ ?_
 clear hK2
 refine qcs (x0.e != 0) hs (fun hb => ?_) fun hb => ?_
 ·replace hm := bif_t hm hb
  refine wp_ret ?_
  replace hs := hs.bagG (l := Tvisorref19_M.parts κ b_x0 x0 g_3) (S' := S) hs.own
  replace hs := hs.toEx (Tvisorref19_M.parts κ b_x0 x0) g_3 0 rfl
  exact qr0 hs rfl hRR (by cases hm; exact ⟨rfl, hs.own⟩)
 ·replace hm := bif_f hm hb
  refine wp_skip ?_
  refine hK1 _ _ ?_
  clear hK1
  refine Vk.seq fun K8 hK8 => ?_
  refine qsr fun K9 hK9 => ?_
  refine qpu 3 hs fun a hs => ?_
  refine qld 0 (ci x0.kind) hs rfl fun a hs => ?_
  refine qpu 2 hs fun a hs => ?_
  refine qsc 14 3 hs fun a hs => ?_
  refine qpu 1 hs fun a hs => ?_
  refine qsc 18 3 hs fun a hs => ?_
  refine qpk 0 [0, 1, 21] hs fun a hs => hK9 _ _ ?_
  clear hK9
  refine qcs (((x0.kind != 0) || (decide (x1 < 1))) || (decide (x1 > 3))) hs (fun hb => ?_) fun hb => ?_
  ·replace hm := bif_t hm hb
   refine qsr fun K12 hK12 => ?_
   refine qpu 3 hs fun a hs => ?_
   refine qst 0 7 (ci 1) hs rfl fun a w hs => ?_
   refine qpe 0 [] hs fun a hs => hK12 _ _ ?_
   clear hK12
   refine wp_ret ?_
   replace hs := hs.bagG (l := Tvisorref19_M.parts κ b_x0 (⟨x0.n, x0.most, x0.words, x0.draws, x0.fromF, x0.skip, x0.kind, 1, x0.ops, x0.blocks, x0.val, x0.tape, x0.dry⟩ : Tvisorref19_M) g_3) (S' := S) hs.own
   replace hs := hs.toEx (Tvisorref19_M.parts κ b_x0 (⟨x0.n, x0.most, x0.words, x0.draws, x0.fromF, x0.skip, x0.kind, 1, x0.ops, x0.blocks, x0.val, x0.tape, x0.dry⟩ : Tvisorref19_M)) g_3 0 rfl
   exact qr0 hs rfl hRR (by cases hm; exact ⟨rfl, hs.own⟩)
  ·replace hm := bif_f hm hb
   refine wp_skip ?_
   refine hK8 _ _ ?_
   clear hK8
   refine qsr fun K13 hK13 => ?_
   refine qpu 4 hs fun a hs => ?_
   refine qst 0 6 (ci x1) hs rfl fun a w hs => ?_
   refine qpe 0 [(0, pp b_x0)] hs fun a hs => hK13 _ _ ?_
   clear hK13
   refine Vk.region ?_
   refine qpu 2 hs fun a hs => ?_
   replace hs := hs.bagG (l := Tvisorref19_M.parts κ b_x0 (⟨x0.n, x0.most, x0.words, x0.draws, x0.fromF, x0.skip, x1, x0.e, x0.ops, x0.blocks, x0.val, x0.tape, x0.dry⟩ : Tvisorref19_M) g_3) (S' := S) hs.own
   obtain ⟨v_16, h_15, hm⟩ := bind_t hm
   refine qcl (visorref19_M_Len.ok _ _ _ h_15 _ _ _ b_x0 g_3 hs.own) hs fun w a hs => ?_
   replace hs := hs.unbagAt 0 rfl
   refine qpu 2 hs fun a hs => ?_
   refine qst 0 4 (ci v_16) hs rfl fun a w hs => ?_
   refine qpe 0 [] hs fun a hs => ?_
   replace hs := hs.bagG (l := Tvisorref19_M.parts κ b_x0 (⟨x0.n, x0.most, x0.words, x0.draws, v_16, x0.skip, x1, x0.e, x0.ops, x0.blocks, x0.val, x0.tape, x0.dry⟩ : Tvisorref19_M) g_3) (S' := S) hs.own
   replace hs := hs.toEx (Tvisorref19_M.parts κ b_x0 (⟨x0.n, x0.most, x0.words, x0.draws, v_16, x0.skip, x1, x0.e, x0.ops, x0.blocks, x0.val, x0.tape, x0.dry⟩ : Tvisorref19_M)) g_3 0 rfl
   exact qe0 hs rfl hRR (by cases hm; exact ⟨rfl, hs.own⟩)


def visorref19_M_End.j1 (k : Nat) (p_26 : Tvisorref19_M) : Option (Tvisorref19_M) := some (⟨p_26.n, p_26.most, p_26.words, p_26.draws, p_26.fromF, p_26.skip, 0, p_26.e, p_26.ops, p_26.blocks, p_26.val, p_26.tape, p_26.dry⟩ : Tvisorref19_M)
abbrev visorref19_M_End.R (κ : Ctx) (S : List HP) (x0 : Tvisorref19_M) (b_x0 : Nat) (r : Tvisorref19_M) : Ending → World → Prop := fun e w' => e = .returned (.tuple #[]) ∧ Ow κ w' (Tvisorref19_M.own κ b_x0 r :: S)
def visorref19_M_End.m (k : Nat) (x0 : Tvisorref19_M) : Option Tvisorref19_M := (bif x0.e != 0 then some x0 else (bif x0.kind == 0 then some (⟨x0.n, x0.most, x0.words, x0.draws, x0.fromF, x0.skip, x0.kind, 1, x0.ops, x0.blocks, x0.val, x0.tape, x0.dry⟩ : Tvisorref19_M) else (visorref19_M_Len.m k x0).bind fun v_16 => (bif decide (v_16 > x0.fromF) then (visorref19_M_Len.m k x0).bind fun v_20 => (if (x0.blocks.length + ([(⟨x0.kind, x0.fromF, v_20⟩ : Tapi_Span)] : List Tapi_Span).length) * 24 ≤ 140737488355328 then visorref19_M_End.j1 k (⟨x0.n, x0.most, x0.words, x0.draws, x0.fromF, x0.skip, x0.kind, x0.e, x0.ops, x0.blocks ++ ([(⟨x0.kind, x0.fromF, v_20⟩ : Tapi_Span)] : List Tapi_Span), x0.val, x0.tape, x0.dry⟩ : Tvisorref19_M) else none) else visorref19_M_End.j1 k x0)))

set_option maxRecDepth 100000 in
set_option maxHeartbeats 4000000 in
theorem visorref19_M_End.ok (k : Nat) (x0 : Tvisorref19_M) (r : Tvisorref19_M) (hm : visorref19_M_End.m k x0 = some r) (κ : Ctx) (w : World) (S : List HP) (b_x0 : Nat) (ho : Ow κ w (Tvisorref19_M.own κ b_x0 x0 :: S)) :
  Calls Try.prog 124 #[pp b_x0] w (visorref19_M_End.R κ S x0 b_x0 r) := by
 unfold visorref19_M_End.m at hm
 generalize hRR : visorref19_M_End.R κ S x0 b_x0 r = RR
 refine qen [(0, pp b_x0)] Try.func124 Try.ntmps124 ho fun a hs => ?_
 refine Vk.seq fun K1 hK1 => ?_
 refine qsr fun K2 hK2 => ?_
 refine qpu 3 hs fun a hs => ?_
 obtain ⟨g_3, hs⟩ := hs.unbag 0 rfl
 refine qld 0 (ci x0.e) hs rfl fun a hs => ?_
 refine qpk 1 [0, 6] hs fun a hs => hK2 _ _ ?_
 clear hK2
 refine qcs (x0.e != 0) hs (fun hb => ?_) fun hb => ?_
 ·replace hm := bif_t hm hb
  refine wp_ret ?_
  replace hs := hs.bagG (l := Tvisorref19_M.parts κ b_x0 x0 g_3) (S' := S) hs.own
  replace hs := hs.toEx (Tvisorref19_M.parts κ b_x0 x0) g_3 0 rfl
  exact qr0 hs rfl hRR (by cases hm; exact ⟨rfl, hs.own⟩)
 ·replace hm := bif_f hm hb
  refine wp_skip ?_
  refine hK1 _ _ ?_
  clear hK1
  refine Vk.seq fun K8 hK8 => ?_
  refine qsr fun K9 hK9 => ?_
  refine qpu 3 hs fun a hs => ?_
  refine qld 0 (ci x0.kind) hs rfl fun a hs => ?_
  refine qpk 1 [0, 11] hs fun a hs => hK9 _ _ ?_
  clear hK9
  refine qcs (x0.kind == 0) hs (fun hb => ?_) fun hb => ?_
  ·replace hm := bif_t hm hb
   refine qsr fun K10 hK10 => ?_
   refine qpu 3 hs fun a hs => ?_
   refine qst 0 7 (ci 1) hs rfl fun a w hs => ?_
   refine qpe 0 [] hs fun a hs => hK10 _ _ ?_
   clear hK10
   refine wp_ret ?_
   replace hs := hs.bagG (l := Tvisorref19_M.parts κ b_x0 (⟨x0.n, x0.most, x0.words, x0.draws, x0.fromF, x0.skip, x0.kind, 1, x0.ops, x0.blocks, x0.val, x0.tape, x0.dry⟩ : Tvisorref19_M) g_3) (S' := S) hs.own
   replace hs := hs.toEx (Tvisorref19_M.parts κ b_x0 (⟨x0.n, x0.most, x0.words, x0.draws, x0.fromF, x0.skip, x0.kind, 1, x0.ops, x0.blocks, x0.val, x0.tape, x0.dry⟩ : Tvisorref19_M)) g_3 0 rfl
   exact qr0 hs rfl hRR (by cases hm; exact ⟨rfl, hs.own⟩)
  ·replace hm := bif_f hm hb
   refine wp_skip ?_
   refine hK8 _ _ ?_
   clear hK8
   refine Vk.seq fun K11 hK11 => ?_
   have hj11 : ∀ (p_26 : Tvisorref19_M), visorref19_M_End.j1 k p_26 = some r → ∀ (a : Act) (w : World), St 45 a w κ [(0, pp b_x0)] (Tvisorref19_M.own κ b_x0 p_26 :: S) → K11 a w := by
    intro p_26 hm a w hs
    unfold visorref19_M_End.j1 at hm
    refine hK11 _ _ ?_
    refine Vk.region ?_
    refine qpu 3 hs fun a hs => ?_
    obtain ⟨g_27, hs⟩ := hs.unbag 0 rfl
    refine qst 0 6 (ci 0) hs rfl fun a w hs => ?_
    refine qpe 0 [] hs fun a hs => ?_
    replace hs := hs.bagG (l := Tvisorref19_M.parts κ b_x0 (⟨p_26.n, p_26.most, p_26.words, p_26.draws, p_26.fromF, p_26.skip, 0, p_26.e, p_26.ops, p_26.blocks, p_26.val, p_26.tape, p_26.dry⟩ : Tvisorref19_M) g_27) (S' := S) hs.own
    replace hs := hs.toEx (Tvisorref19_M.parts κ b_x0 (⟨p_26.n, p_26.most, p_26.words, p_26.draws, p_26.fromF, p_26.skip, 0, p_26.e, p_26.ops, p_26.blocks, p_26.val, p_26.tape, p_26.dry⟩ : Tvisorref19_M)) g_27 0 rfl
    exact qe0 hs rfl hRR (by cases hm; exact ⟨rfl, hs.own⟩)
   refine Vk.seq fun K12 hK12 => ?_
   obtain ⟨C_13, hC_13⟩ := qC hs.own
   refine qdr 7 κ C_13 hs fun w hs hqC_13 => ?_
   have hcl := qO hC_13 hs.own
   refine qdp (fuel := 3) [0, 2, 3, 4] hs hcl hqC_13 fun a hs => ?_
   refine qdl 5 0 (ci x0.fromF) hs hcl hqC_13 hC_13 rfl fun a hs => ?_
   replace hs := hs.bagG (l := Tvisorref19_M.parts κ b_x0 x0 g_3) (S' := S) hs.own
   obtain ⟨v_16, h_15, hm⟩ := bind_t hm
   refine qdc 1 (visorref19_M_Len.ok _ _ _ h_15 _ _ _ b_x0 g_3 hs.own) hs fun w a hs => ?_
   replace hs := hs.unbagAt 0 rfl
   replace hcl := qO hC_13 hs.own
   refine ⟨fun _ => hcl, ?_⟩
   refine qdp (fuel := 0) [6] hs hcl hqC_13 fun a hs => ?_
   replace hs := hs.pick [0, 21] (L' := [(0, pp b_x0), (21, .bool (decide (v_16 > x0.fromF)))]) (by kernel_rfl)
   refine Vk.dDone (by kernel_rfl) ?_
   refine hK12 _ _ ?_
   clear hK12
   refine qcs (decide (v_16 > x0.fromF)) hs (fun hb => ?_) fun hb => ?_
   ·replace hm := bif_t hm hb
    obtain ⟨C_17, hC_17⟩ := qC hs.own.f2.drop
    refine qdr 18 κ C_17 hs fun w hs hqC_17 => ?_
    have hcl := qO hC_17 hs.own.f2.drop
    refine qdp (fuel := 10) [0, 1, 2, 3, 5, 6, 7, 9, 10, 11, 13] hs hcl hqC_17 fun a hs => ?_
    refine qdl 4 0 (C.slc g_3.2.2.1 x0.blocks.length g_3.2.2.2.1) hs hcl hqC_17 hC_17 rfl fun a hs => ?_
    refine qdl 8 0 (ci x0.kind) hs hcl hqC_17 hC_17 rfl fun a hs => ?_
    refine qdl 12 0 (ci x0.fromF) hs hcl hqC_17 hC_17 rfl fun a hs => ?_
    replace hs := hs.bagG (l := Tvisorref19_M.parts κ b_x0 x0 g_3) (S' := S) hs.own
    obtain ⟨v_20, h_19, hm⟩ := bind_t hm
    refine qdc 14 (visorref19_M_Len.ok _ _ _ h_19 _ _ _ b_x0 g_3 hs.own) hs fun w a hs => ?_
    replace hs := hs.unbagAt 0 rfl
    replace hcl := qO hC_17 hs.own.f2.drop
    refine ⟨fun _ => hcl, ?_⟩
    refine qdp (fuel := 5) [15] hs hcl hqC_17 fun a hs => ?_
    refine Vk.dOnly (i := 16) (by kernel_rfl) (Vk.buildOp (sz := 3) (by_ := 24) (t := 60) (e := 175) (parts := #[(0, (.tmp 37))]) (zs := vals [ci 0, ci 0, ci 0]) ([(⟨x0.kind, x0.fromF, v_20⟩ : Tapi_Span)] : List Tapi_Span) Tapi_Span.cells (some 38) hs (by kernel_rfl) (by kernel_rfl) (by kernel_rfl) (by kernel_rfl) (by decide) rfl (fun x _ => rfl) (Nat.le_of_ble_eq_true (by kernel_rfl)) (by kernel_rfl) fun A_21 w a hs => ?_)
    replace hcl := qO hC_17 hs.own.f3.drop.drop
    refine ⟨fun _ => hcl, ?_⟩
    obtain ⟨h_23, hm⟩ := ite_t hm
    refine Vk.dOnly (i := 17) (by kernel_rfl) (Vk.appendOp (x := (.tmp 26)) (y := (.tmp 38)) (e := 175) (t := 60) (by_ := 24) (sz := 3) (enc := Tapi_Span.cells) (A := g_3.2.2.1) (cap := g_3.2.2.2.1) (xs := x0.blocks) (ys := ([(⟨x0.kind, x0.fromF, v_20⟩ : Tapi_Span)] : List Tapi_Span)) (B := A_21) (c2 := 1) 3 (some 39) hs (by kernel_rfl) (by kernel_rfl) (by kernel_rfl) (by kernel_rfl) rfl (Sl.lift (fun w ho => (Ow.to (S' := rowp A_21 1 175 3 Tapi_Span.cells ([(⟨x0.kind, x0.fromF, v_20⟩ : Tapi_Span)] : List Tapi_Span) :: S) ho [0] 6 (by kernel_rfl) (by kernel_rfl))) (Ow.rowSl 0 (Ow.to (S' := rowp A_21 1 175 3 Tapi_Span.cells ([(⟨x0.kind, x0.fromF, v_20⟩ : Tapi_Span)] : List Tapi_Span) :: S) hs.own [0] 6 (by kernel_rfl) (by kernel_rfl)) rfl)) (by kernel_rfl) (by kernel_rfl) (by decide) (by decide) h_23 fun A_24 c_25 w a hs => ?_)
    replace hcl := qO hC_17 hs.own.f3.drop.drop
    refine ⟨fun _ => hcl, ?_⟩
    refine Vk.dOnly (i := 18) (by kernel_rfl) (Vk.dPure1 [(40, pp b_x0)] hs (by kernel_rfl) fun a hs => ?_)
    refine ⟨fun h => absurd h (by decide), ?_⟩
    refine Vk.dOnly (i := 19) (by kernel_rfl) (Vk.dPure1 [(41, .pointer (some ⟨b_x0, 9, none⟩))] hs (by kernel_rfl) fun a hs => ?_)
    refine ⟨fun h => absurd h (by decide), ?_⟩
    refine qsd 20 1 9 (C.slc A_24 ((x0.blocks ++ ([(⟨x0.kind, x0.fromF, v_20⟩ : Tapi_Span)] : List Tapi_Span)).length) c_25) hs rfl fun a w hs => ?_
    refine ⟨fun h => absurd h (by decide), ?_⟩
    replace hs := hs.pick [0] (L' := [(0, pp b_x0)]) (by kernel_rfl)
    refine Vk.dDone (by kernel_rfl) ?_
    replace hs := hs.bagG (l := Tvisorref19_M.parts κ b_x0 (⟨x0.n, x0.most, x0.words, x0.draws, x0.fromF, x0.skip, x0.kind, x0.e, x0.ops, x0.blocks ++ ([(⟨x0.kind, x0.fromF, v_20⟩ : Tapi_Span)] : List Tapi_Span), x0.val, x0.tape, x0.dry⟩ : Tvisorref19_M) (g_3.1, g_3.2.1, A_24, c_25, g_3.2.2.2.2.1, g_3.2.2.2.2.2.1, g_3.2.2.2.2.2.2.1, g_3.2.2.2.2.2.2.2)) (S' := rowp A_21 1 175 3 Tapi_Span.cells ([(⟨x0.kind, x0.fromF, v_20⟩ : Tapi_Span)] : List Tapi_Span) :: S) hs.own.f5.f5.f5.f5.f5
    replace hs := hs.toEx (Tvisorref19_M.parts κ b_x0 (⟨x0.n, x0.most, x0.words, x0.draws, x0.fromF, x0.skip, x0.kind, x0.e, x0.ops, x0.blocks ++ ([(⟨x0.kind, x0.fromF, v_20⟩ : Tapi_Span)] : List Tapi_Span), x0.val, x0.tape, x0.dry⟩ : Tvisorref19_M)) (g_3.1, g_3.2.1, A_24, c_25, g_3.2.2.2.2.1, g_3.2.2.2.2.2.1, g_3.2.2.2.2.2.2.1, g_3.2.2.2.2.2.2.2) 0 rfl
    exact hj11 (⟨x0.n, x0.most, x0.words, x0.draws, x0.fromF, x0.skip, x0.kind, x0.e, x0.ops, x0.blocks ++ ([(⟨x0.kind, x0.fromF, v_20⟩ : Tapi_Span)] : List Tapi_Span), x0.val, x0.tape, x0.dry⟩ : Tvisorref19_M) hm _ _ (hs.go [0] [0] 2 (by kernel_rfl) (by kernel_rfl) (by kernel_rfl))
   ·replace hm := bif_f hm hb
    refine wp_skip ?_
    replace hs := hs.bagG (l := Tvisorref19_M.parts κ b_x0 x0 g_3) (S' := S) hs.own
    replace hs := hs.toEx (Tvisorref19_M.parts κ b_x0 x0) g_3 0 rfl
    exact hj11 x0 hm _ _ (hs.go [0] [0] 1 (by kernel_rfl) (by kernel_rfl) (by kernel_rfl))


def visorref21_Full.j3 (k : Nat) (p_119 : Tvisorref19_M) (p_120 : Cells) : Option ((Cells × Tvisorref19_M)) := (visorref19_M_End.m k p_119).bind fun v_124 => (if p_120.length = 3 then some (p_120, v_124) else none)
def visorref21_Full.j2 (k : Nat) (x1 : Cells) (v_20 : Int × Tvisorref19_M) (p_43 : Int) (p_44 : Int) (p_71 : Tvisorref19_M) (p_72 : Cells) : Option ((Cells × Tvisorref19_M)) := (getI .i64 x1 (1)).bind fun v_75 => (visorref19_Op.m k 5 1 v_75 v_20.1 0).bind fun v_78 => (visorref19_M_Do.m k p_71 v_78 0).bind fun v_81 => (if 1 < p_72.length then (bif v_81.2.n == 3 then (getI .i64 (p_72.set (1) (ci v_81.1)) (1)).bind fun v_92 => (visorref19_Op.m k 5 1 v_92 p_44 0).bind fun v_95 => (visorref19_M_Do.m k v_81.2 v_95 0).bind fun v_98 => (if 1 < (p_72.set (1) (ci v_81.1)).length then (getI .i64 x1 (2)).bind fun v_102 => (visorref19_Op.m k 5 2 v_102 p_43 0).bind fun v_105 => (visorref19_M_Do.m k v_98.2 v_105 0).bind fun v_108 => (if 2 < ((p_72.set (1) (ci v_81.1)).set (1) (ci v_98.1)).length then (getI .i64 (((p_72.set (1) (ci v_81.1)).set (1) (ci v_98.1)).set (2) (ci v_108.1)) (2)).bind fun v_111 => (visorref19_Op.m k 5 2 v_111 p_44 0).bind fun v_114 => (visorref19_M_Do.m k v_108.2 v_114 0).bind fun v_117 => (if 2 < (((p_72.set (1) (ci v_81.1)).set (1) (ci v_98.1)).set (2) (ci v_108.1)).length then visorref21_Full.j3 k v_117.2 ((((p_72.set (1) (ci v_81.1)).set (1) (ci v_98.1)).set (2) (ci v_108.1)).set (2) (ci v_117.1)) else none) else none) else none) else visorref21_Full.j3 k v_81.2 (p_72.set (1) (ci v_81.1))) else none)
def visorref21_Full.j1 (k : Nat) (x1 : Cells) (v_7 : Cells) (v_20 : Int × Tvisorref19_M) (p_42 : Tvisorref19_M) (p_43 : Int) (p_44 : Int) : Option ((Cells × Tvisorref19_M)) := (getI .i64 x1 (0)).bind fun v_47 => (visorref19_Op.m k 5 0 v_47 v_20.1 0).bind fun v_50 => (visorref19_M_Do.m k p_42 v_50 0).bind fun v_53 => (if 0 < v_7.length then (bif v_53.2.n == 3 then (getI .i64 (v_7.set (0) (ci v_53.1)) (0)).bind fun v_63 => (visorref19_Op.m k 5 0 v_63 p_43 0).bind fun v_66 => (visorref19_M_Do.m k v_53.2 v_66 0).bind fun v_69 => (if 0 < (v_7.set (0) (ci v_53.1)).length then visorref21_Full.j2 k x1 v_20 p_43 p_44 v_69.2 ((v_7.set (0) (ci v_53.1)).set (0) (ci v_69.1)) else none) else visorref21_Full.j2 k x1 v_20 p_43 p_44 v_53.2 (v_7.set (0) (ci v_53.1))) else none)
abbrev visorref21_Full.R (κ : Ctx) (S : List HP) (x0 : Tvisorref19_M) (x1 : Cells) (b_x0 : Nat) (r : (Cells × Tvisorref19_M)) : Ending → World → Prop := fun e w' => e = .returned (.agg (vals r.1)) ∧ Ow κ w' (Tvisorref19_M.own κ b_x0 r.2 :: S)
def visorref21_Full.m (k : Nat) (x0 : Tvisorref19_M) (x1 : Cells) : Option (Cells × Tvisorref19_M) := (visorref20_None.m k).bind fun v_7 => (if v_7.length = 3 then (visorref19_M_Begin.m k x0 2).bind fun v_13 => (visorref19_Op.m k 1 (-1) (-1) (-1) 0).bind fun v_17 => (visorref19_M_Do.m k v_13 v_17 0).bind fun v_20 => (bif v_20.2.n == 3 then (visorref19_Op.m k 1 (-1) (-1) (-1) 0).bind fun v_32 => (visorref19_M_Do.m k v_20.2 v_32 0).bind fun v_35 => (visorref19_Op.m k 1 (-1) (-1) (-1) 0).bind fun v_38 => (visorref19_M_Do.m k v_35.2 v_38 0).bind fun v_41 => visorref21_Full.j1 k x1 v_7 v_20 v_41.2 v_35.1 v_41.1 else visorref21_Full.j1 k x1 v_7 v_20 v_20.2 v_20.1 v_20.1) else none)

set_option maxRecDepth 100000 in
set_option maxHeartbeats 4000000 in
theorem visorref21_Full.ok (k : Nat) (x0 : Tvisorref19_M) (x1 : Cells) (r : (Cells × Tvisorref19_M)) (hm : visorref21_Full.m k x0 x1 = some r) (κ : Ctx) (w : World) (S : List HP) (b_x0 : Nat) (ho : Ow κ w (Tvisorref19_M.own κ b_x0 x0 :: S)) :
  Calls Try.prog 50 #[pp b_x0, .agg (vals x1)] w (visorref21_Full.R κ S x0 x1 b_x0 r) := by
 unfold visorref21_Full.m at hm
 generalize hRR : visorref21_Full.R κ S x0 x1 b_x0 r = RR
 refine qen [(0, pp b_x0), (1, .agg (vals x1))] Try.func50 Try.ntmps50 ho fun a hs => ?_
 refine qsr fun K1 hK1 => ?_
 refine qbx 1 28 x1 3 hs fun b_2 w a hs => ?_
 refine qal 28 [ci 0, ci 0, ci 0] 4 hs fun b_3 w a hs => ?_
 refine qpk 0 [0, 3, 4] hs fun a hs => hK1 _ _ ?_
 clear hK1
 refine qsr fun K4 hK4 => ?_
 obtain ⟨v_7, h_6, hm⟩ := bind_t hm
 refine qcl (visorref20_None.ok _ _ h_6 _ _ (pt b_3 (blk [ci 0, ci 0, ci 0] 28) :: pt b_2 (blk x1 28) :: Tvisorref19_M.own κ b_x0 x0 :: S) hs.own) hs fun w a hs => ?_
 refine qal 28 [ci 0, ci 0, ci 0] 5 hs fun b_8 w a hs => ?_
 obtain ⟨h_9, hm⟩ := ite_t hm
 refine qsb 0 v_7 hs rfl h_9 rfl fun a w hs => ?_
 refine qpk 0 [0, 3, 4, 5] hs fun a hs => hK4 _ _ ?_
 clear hK4
 refine qsr fun K10 hK10 => ?_
 refine qpu 1 hs fun a hs => ?_
 obtain ⟨v_13, h_12, hm⟩ := bind_t hm
 refine qcl (visorref19_M_Begin.ok _ _ _ _ h_12 _ _ _ b_x0 hs.own.f3) hs fun w a hs => ?_
 refine qpk 0 [0, 3, 4, 5] hs fun a hs => hK10 _ _ ?_
 clear hK10
 refine qsr fun K14 hK14 => ?_
 refine qpu 1 hs fun a hs => ?_
 obtain ⟨v_17, h_16, hm⟩ := bind_t hm
 refine qcl (visorref19_Op.ok _ _ _ _ _ _ _ h_16 _ _ (Tvisorref19_M.own κ b_x0 v_13 :: pt b_8 (blk v_7 28) :: pt b_3 (blk [ci 0, ci 0, ci 0] 28) :: pt b_2 (blk x1 28) :: S) hs.own) hs fun w a hs => ?_
 obtain ⟨v_20, h_19, hm⟩ := bind_t hm
 refine qcl (visorref19_M_Do.ok _ _ _ _ _ h_19 _ _ _ b_x0 hs.own) hs fun w a hs => ?_
 refine qpk 1 [0, 3, 4, 5, 6] hs fun a hs => hK14 _ _ ?_
 clear hK14
 refine qsk 4 [0, 3, 4, 5, 6, 7, 8] hs fun a hs => ?_
 refine Vk.seq fun K22 hK22 => ?_
 have hj22 : ∀ (p_42 : Tvisorref19_M) (p_43 : Int) (p_44 : Int), visorref21_Full.j1 k x1 v_7 v_20 p_42 p_43 p_44 = some r → ∀ (a : Act) (w : World), St 95 a w κ [(0, pp b_x0), (3, pp b_2), (4, pp b_3), (5, pp b_8), (6, vi v_20.1), (7, vi p_43), (8, vi p_44)] (Tvisorref19_M.own κ b_x0 p_42 :: pt b_2 (blk x1 28) :: pt b_3 (blk [ci 0, ci 0, ci 0] 28) :: pt b_8 (blk v_7 28) :: S) → K22 a w := by
  intro p_42 p_43 p_44 hm a w hs
  unfold visorref21_Full.j1 at hm
  refine hK22 _ _ ?_
  refine qsr fun K45 hK45 => ?_
  refine qpu 3 hs fun a hs => ?_
  obtain ⟨v_47, h_46, hm⟩ := bind_t hm
  refine qli 1 hs rfl h_46 fun a hs => ?_
  refine qpu 1 hs fun a hs => ?_
  obtain ⟨v_50, h_49, hm⟩ := bind_t hm
  refine qcl (visorref19_Op.ok _ _ _ _ _ _ _ h_49 _ _ (Tvisorref19_M.own κ b_x0 p_42 :: pt b_2 (blk x1 28) :: pt b_3 (blk [ci 0, ci 0, ci 0] 28) :: pt b_8 (blk v_7 28) :: S) hs.own) hs fun w a hs => ?_
  obtain ⟨v_53, h_52, hm⟩ := bind_t hm
  refine qcl (visorref19_M_Do.ok _ _ _ _ _ h_52 _ _ _ b_x0 hs.own) hs fun w a hs => ?_
  refine qpu 2 hs fun a hs => ?_
  obtain ⟨h_54, hm⟩ := ite_t hm
  refine Vk.step (Vk.store1 (b := b_8) (ty := 3) (x := (.tmp 36)) (y := (.tmp 34)) (off := 0) (ci v_53.1) 3 hs (by kernel_rfl) (by kernel_rfl) (by kernel_rfl) (by kernel_rfl) (by kernel_rfl) (by kernel_rfl) rfl h_54 fun a w hs => ?_)
  refine qpe 0 [(0, pp b_x0), (3, pp b_2), (4, pp b_3), (5, pp b_8), (6, vi v_20.1), (7, vi p_43), (8, vi p_44)] hs fun a hs => hK45 _ _ ?_
  clear hK45
  refine Vk.seq fun K55 hK55 => ?_
  have hj55 : ∀ (p_71 : Tvisorref19_M) (p_72 : Cells), visorref21_Full.j2 k x1 v_20 p_43 p_44 p_71 p_72 = some r → ∀ (a : Act) (w : World), St 95 a w κ [(0, pp b_x0), (3, pp b_2), (4, pp b_3), (5, pp b_8), (6, vi v_20.1), (7, vi p_43), (8, vi p_44)] (Tvisorref19_M.own κ b_x0 p_71 :: pt b_2 (blk x1 28) :: pt b_3 (blk [ci 0, ci 0, ci 0] 28) :: pt b_8 (blk p_72 28) :: S) → K55 a w := by
   intro p_71 p_72 hm a w hs
   unfold visorref21_Full.j2 at hm
   refine hK55 _ _ ?_
   refine qsr fun K73 hK73 => ?_
   refine qpu 3 hs fun a hs => ?_
   obtain ⟨v_75, h_74, hm⟩ := bind_t hm
   refine qli 1 hs rfl h_74 fun a hs => ?_
   refine qpu 1 hs fun a hs => ?_
   obtain ⟨v_78, h_77, hm⟩ := bind_t hm
   refine qcl (visorref19_Op.ok _ _ _ _ _ _ _ h_77 _ _ (Tvisorref19_M.own κ b_x0 p_71 :: pt b_2 (blk x1 28) :: pt b_3 (blk [ci 0, ci 0, ci 0] 28) :: pt b_8 (blk p_72 28) :: S) hs.own) hs fun w a hs => ?_
   obtain ⟨v_81, h_80, hm⟩ := bind_t hm
   refine qcl (visorref19_M_Do.ok _ _ _ _ _ h_80 _ _ _ b_x0 hs.own) hs fun w a hs => ?_
   refine qpu 2 hs fun a hs => ?_
   obtain ⟨h_82, hm⟩ := ite_t hm
   refine Vk.step (Vk.store1 (b := b_8) (ty := 3) (x := (.tmp 59)) (y := (.tmp 57)) (off := 1) (ci v_81.1) 3 hs (by kernel_rfl) (by kernel_rfl) (by kernel_rfl) (by kernel_rfl) (by kernel_rfl) (by kernel_rfl) rfl h_82 fun a w hs => ?_)
   refine qpk 0 [0, 3, 4, 5, 7, 8] hs fun a hs => hK73 _ _ ?_
   clear hK73
   refine Vk.seq fun K83 hK83 => ?_
   have hj83 : ∀ (p_119 : Tvisorref19_M) (p_120 : Cells), visorref21_Full.j3 k p_119 p_120 = some r → ∀ (a : Act) (w : World), St 95 a w κ [(0, pp b_x0), (4, pp b_3), (5, pp b_8)] (Tvisorref19_M.own κ b_x0 p_119 :: pt b_3 (blk [ci 0, ci 0, ci 0] 28) :: pt b_8 (blk p_120 28) :: S) → K83 a w := by
    intro p_119 p_120 hm a w hs
    unfold visorref21_Full.j3 at hm
    refine hK83 _ _ ?_
    refine qsr fun K121 hK121 => ?_
    refine qpu 1 hs fun a hs => ?_
    obtain ⟨v_124, h_123, hm⟩ := bind_t hm
    refine qcl (visorref19_M_End.ok _ _ _ h_123 _ _ _ b_x0 hs.own) hs fun w a hs => ?_
    refine qpe 0 [(4, pp b_3), (5, pp b_8)] hs fun a hs => hK121 _ _ ?_
    clear hK121
    refine qsr fun K125 hK125 => ?_
    obtain ⟨h_126, hm⟩ := ite_t hm
    refine qlw 2 hs rfl h_126 fun a hs => ?_
    refine qsb 1 p_120 hs rfl h_126 rfl fun a w hs => ?_
    refine qpe 0 [(4, pp b_3)] hs fun a hs => hK125 _ _ ?_
    clear hK125
    refine wp_ret ?_
    exact Vk.retC p_120 hs rfl (by kernel_rfl) (sz := 3) (by kernel_rfl) h_126 (CellsAt.all 1 rfl) (hRR ▸ by cases hm; exact ⟨rfl, hs.own.f2.drop.f1.drop⟩)
   refine qsr fun K84 hK84 => ?_
   refine qpu 3 hs fun a hs => ?_
   obtain ⟨g_85, hs⟩ := hs.unbag 0 rfl
   refine qld 0 (ci v_81.2.n) hs rfl fun a hs => ?_
   refine qpk 1 [0, 3, 4, 5, 7, 8, 64] hs fun a hs => hK84 _ _ ?_
   clear hK84
   refine qcs (v_81.2.n == 3) hs (fun hb => ?_) fun hb => ?_
   ·replace hm := bif_t hm hb
    refine qsr fun K90 hK90 => ?_
    refine qpu 3 hs fun a hs => ?_
    obtain ⟨v_92, h_91, hm⟩ := bind_t hm
    refine qli 7 hs rfl h_91 fun a hs => ?_
    refine qpu 1 hs fun a hs => ?_
    obtain ⟨v_95, h_94, hm⟩ := bind_t hm
    refine qcl (visorref19_Op.ok _ _ _ _ _ _ _ h_94 _ _ (pt b_x0 (blk (Tvisorref19_M.obj v_81.2 g_85.1 g_85.2.1 g_85.2.2.1 g_85.2.2.2.1 g_85.2.2.2.2.1 g_85.2.2.2.2.2.1 g_85.2.2.2.2.2.2.1 g_85.2.2.2.2.2.2.2) 64) :: rowp g_85.1 g_85.2.1 93 6 Tapi_Op.cells v_81.2.ops :: rowp g_85.2.2.1 g_85.2.2.2.1 175 3 Tapi_Span.cells v_81.2.blocks :: rowp g_85.2.2.2.2.1 g_85.2.2.2.2.2.1 32 1 (eI .u64) v_81.2.val :: rdp κ g_85.2.2.2.2.2.2.1 g_85.2.2.2.2.2.2.2 1 (eI .u64) v_81.2.tape.l :: pt b_2 (blk x1 28) :: pt b_3 (blk [ci 0, ci 0, ci 0] 28) :: pt b_8 (blk (p_72.set (1) (ci v_81.1)) 28) :: S) hs.own) hs fun w a hs => ?_
    replace hs := hs.bagG (l := Tvisorref19_M.parts κ b_x0 v_81.2 g_85) (S' := pt b_2 (blk x1 28) :: pt b_3 (blk [ci 0, ci 0, ci 0] 28) :: pt b_8 (blk (p_72.set (1) (ci v_81.1)) 28) :: S) hs.own
    replace hs := hs.toEx (Tvisorref19_M.parts κ b_x0 v_81.2) g_85 0 rfl
    obtain ⟨v_98, h_97, hm⟩ := bind_t hm
    refine qcl (visorref19_M_Do.ok _ _ _ _ _ h_97 _ _ _ b_x0 hs.own) hs fun w a hs => ?_
    refine qpu 2 hs fun a hs => ?_
    obtain ⟨h_99, hm⟩ := ite_t hm
    refine Vk.step (Vk.store1 (b := b_8) (ty := 3) (x := (.tmp 73)) (y := (.tmp 71)) (off := 1) (ci v_98.1) 3 hs (by kernel_rfl) (by kernel_rfl) (by kernel_rfl) (by kernel_rfl) (by kernel_rfl) (by kernel_rfl) rfl h_99 fun a w hs => ?_)
    refine qpk 0 [0, 3, 4, 5, 7, 8] hs fun a hs => hK90 _ _ ?_
    clear hK90
    refine qsr fun K100 hK100 => ?_
    refine qpu 3 hs fun a hs => ?_
    obtain ⟨v_102, h_101, hm⟩ := bind_t hm
    refine qli 1 hs rfl h_101 fun a hs => ?_
    refine qpu 1 hs fun a hs => ?_
    obtain ⟨v_105, h_104, hm⟩ := bind_t hm
    refine qcl (visorref19_Op.ok _ _ _ _ _ _ _ h_104 _ _ (Tvisorref19_M.own κ b_x0 v_98.2 :: pt b_2 (blk x1 28) :: pt b_3 (blk [ci 0, ci 0, ci 0] 28) :: pt b_8 (blk ((p_72.set (1) (ci v_81.1)).set (1) (ci v_98.1)) 28) :: S) hs.own) hs fun w a hs => ?_
    obtain ⟨v_108, h_107, hm⟩ := bind_t hm
    refine qcl (visorref19_M_Do.ok _ _ _ _ _ h_107 _ _ _ b_x0 hs.own) hs fun w a hs => ?_
    refine qpu 2 hs fun a hs => ?_
    obtain ⟨h_109, hm⟩ := ite_t hm
    refine Vk.step (Vk.store1 (b := b_8) (ty := 3) (x := (.tmp 82)) (y := (.tmp 80)) (off := 2) (ci v_108.1) 3 hs (by kernel_rfl) (by kernel_rfl) (by kernel_rfl) (by kernel_rfl) (by kernel_rfl) (by kernel_rfl) rfl h_109 fun a w hs => ?_)
    refine qpk 0 [0, 4, 5, 8] hs fun a hs => hK100 _ _ ?_
    clear hK100
    refine Vk.region ?_
    refine qpu 3 hs fun a hs => ?_
    obtain ⟨v_111, h_110, hm⟩ := bind_t hm
    refine qli 3 hs rfl h_110 fun a hs => ?_
    refine qpu 1 hs fun a hs => ?_
    obtain ⟨v_114, h_113, hm⟩ := bind_t hm
    refine qcl (visorref19_Op.ok _ _ _ _ _ _ _ h_113 _ _ (Tvisorref19_M.own κ b_x0 v_108.2 :: pt b_2 (blk x1 28) :: pt b_3 (blk [ci 0, ci 0, ci 0] 28) :: pt b_8 (blk (((p_72.set (1) (ci v_81.1)).set (1) (ci v_98.1)).set (2) (ci v_108.1)) 28) :: S) hs.own) hs fun w a hs => ?_
    obtain ⟨v_117, h_116, hm⟩ := bind_t hm
    refine qcl (visorref19_M_Do.ok _ _ _ _ _ h_116 _ _ _ b_x0 hs.own) hs fun w a hs => ?_
    refine qpu 2 hs fun a hs => ?_
    obtain ⟨h_118, hm⟩ := ite_t hm
    refine Vk.step (Vk.store1 (b := b_8) (ty := 3) (x := (.tmp 91)) (y := (.tmp 89)) (off := 2) (ci v_117.1) 3 hs (by kernel_rfl) (by kernel_rfl) (by kernel_rfl) (by kernel_rfl) (by kernel_rfl) (by kernel_rfl) rfl h_118 fun a w hs => ?_)
    refine qpe 0 [(0, pp b_x0), (4, pp b_3), (5, pp b_8)] hs fun a hs => ?_
    exact hj83 v_117.2 ((((p_72.set (1) (ci v_81.1)).set (1) (ci v_98.1)).set (2) (ci v_108.1)).set (2) (ci v_117.1)) hm _ _ (hs.go [0, 4, 5] [0, 2, 3] 4 (by kernel_rfl) (by kernel_rfl) (by kernel_rfl))
   ·replace hm := bif_f hm hb
    refine wp_skip ?_
    replace hs := hs.bagG (l := Tvisorref19_M.parts κ b_x0 v_81.2 g_85) (S' := pt b_2 (blk x1 28) :: pt b_3 (blk [ci 0, ci 0, ci 0] 28) :: pt b_8 (blk (p_72.set (1) (ci v_81.1)) 28) :: S) hs.own
    replace hs := hs.toEx (Tvisorref19_M.parts κ b_x0 v_81.2) g_85 0 rfl
    exact hj83 v_81.2 (p_72.set (1) (ci v_81.1)) hm _ _ (hs.go [0, 4, 5] [0, 2, 3] 4 (by kernel_rfl) (by kernel_rfl) (by kernel_rfl))
  refine qsr fun K56 hK56 => ?_
  refine qpu 3 hs fun a hs => ?_
  obtain ⟨g_57, hs⟩ := hs.unbag 0 rfl
  refine qld 0 (ci v_53.2.n) hs rfl fun a hs => ?_
  refine qpk 1 [0, 3, 4, 5, 6, 7, 8, 41] hs fun a hs => hK56 _ _ ?_
  clear hK56
  refine qcs (v_53.2.n == 3) hs (fun hb => ?_) fun hb => ?_
  ·replace hm := bif_t hm hb
   refine Vk.region ?_
   refine qpu 3 hs fun a hs => ?_
   obtain ⟨v_63, h_62, hm⟩ := bind_t hm
   refine qli 7 hs rfl h_62 fun a hs => ?_
   refine qpu 1 hs fun a hs => ?_
   obtain ⟨v_66, h_65, hm⟩ := bind_t hm
   refine qcl (visorref19_Op.ok _ _ _ _ _ _ _ h_65 _ _ (pt b_x0 (blk (Tvisorref19_M.obj v_53.2 g_57.1 g_57.2.1 g_57.2.2.1 g_57.2.2.2.1 g_57.2.2.2.2.1 g_57.2.2.2.2.2.1 g_57.2.2.2.2.2.2.1 g_57.2.2.2.2.2.2.2) 64) :: rowp g_57.1 g_57.2.1 93 6 Tapi_Op.cells v_53.2.ops :: rowp g_57.2.2.1 g_57.2.2.2.1 175 3 Tapi_Span.cells v_53.2.blocks :: rowp g_57.2.2.2.2.1 g_57.2.2.2.2.2.1 32 1 (eI .u64) v_53.2.val :: rdp κ g_57.2.2.2.2.2.2.1 g_57.2.2.2.2.2.2.2 1 (eI .u64) v_53.2.tape.l :: pt b_2 (blk x1 28) :: pt b_3 (blk [ci 0, ci 0, ci 0] 28) :: pt b_8 (blk (v_7.set (0) (ci v_53.1)) 28) :: S) hs.own) hs fun w a hs => ?_
   replace hs := hs.bagG (l := Tvisorref19_M.parts κ b_x0 v_53.2 g_57) (S' := pt b_2 (blk x1 28) :: pt b_3 (blk [ci 0, ci 0, ci 0] 28) :: pt b_8 (blk (v_7.set (0) (ci v_53.1)) 28) :: S) hs.own
   replace hs := hs.toEx (Tvisorref19_M.parts κ b_x0 v_53.2) g_57 0 rfl
   obtain ⟨v_69, h_68, hm⟩ := bind_t hm
   refine qcl (visorref19_M_Do.ok _ _ _ _ _ h_68 _ _ _ b_x0 hs.own) hs fun w a hs => ?_
   refine qpu 2 hs fun a hs => ?_
   obtain ⟨h_70, hm⟩ := ite_t hm
   refine Vk.step (Vk.store1 (b := b_8) (ty := 3) (x := (.tmp 50)) (y := (.tmp 48)) (off := 0) (ci v_69.1) 3 hs (by kernel_rfl) (by kernel_rfl) (by kernel_rfl) (by kernel_rfl) (by kernel_rfl) (by kernel_rfl) rfl h_70 fun a w hs => ?_)
   refine qpe 0 [(0, pp b_x0), (3, pp b_2), (4, pp b_3), (5, pp b_8), (6, vi v_20.1), (7, vi p_43), (8, vi p_44)] hs fun a hs => ?_
   exact hj55 v_69.2 ((v_7.set (0) (ci v_53.1)).set (0) (ci v_69.1)) hm _ _ (hs.go [0, 3, 4, 5, 6, 7, 8] [0, 1, 2, 3] 4 (by kernel_rfl) (by kernel_rfl) (by kernel_rfl))
  ·replace hm := bif_f hm hb
   refine wp_skip ?_
   replace hs := hs.bagG (l := Tvisorref19_M.parts κ b_x0 v_53.2 g_57) (S' := pt b_2 (blk x1 28) :: pt b_3 (blk [ci 0, ci 0, ci 0] 28) :: pt b_8 (blk (v_7.set (0) (ci v_53.1)) 28) :: S) hs.own
   replace hs := hs.toEx (Tvisorref19_M.parts κ b_x0 v_53.2) g_57 0 rfl
   exact hj55 v_53.2 (v_7.set (0) (ci v_53.1)) hm _ _ (hs.go [0, 3, 4, 5, 6, 7, 8] [0, 1, 2, 3] 4 (by kernel_rfl) (by kernel_rfl) (by kernel_rfl))
 refine qsr fun K23 hK23 => ?_
 refine qpu 3 hs fun a hs => ?_
 obtain ⟨g_24, hs⟩ := hs.unbag 0 rfl
 refine qld 0 (ci v_20.2.n) hs rfl fun a hs => ?_
 refine qpk 1 [0, 3, 4, 5, 6, 7, 8, 21] hs fun a hs => hK23 _ _ ?_
 clear hK23
 refine qcs (v_20.2.n == 3) hs (fun hb => ?_) fun hb => ?_
 ·replace hm := bif_t hm hb
  refine qsr fun K29 hK29 => ?_
  refine qpu 1 hs fun a hs => ?_
  obtain ⟨v_32, h_31, hm⟩ := bind_t hm
  refine qcl (visorref19_Op.ok _ _ _ _ _ _ _ h_31 _ _ (pt b_x0 (blk (Tvisorref19_M.obj v_20.2 g_24.1 g_24.2.1 g_24.2.2.1 g_24.2.2.2.1 g_24.2.2.2.2.1 g_24.2.2.2.2.2.1 g_24.2.2.2.2.2.2.1 g_24.2.2.2.2.2.2.2) 64) :: rowp g_24.1 g_24.2.1 93 6 Tapi_Op.cells v_20.2.ops :: rowp g_24.2.2.1 g_24.2.2.2.1 175 3 Tapi_Span.cells v_20.2.blocks :: rowp g_24.2.2.2.2.1 g_24.2.2.2.2.2.1 32 1 (eI .u64) v_20.2.val :: rdp κ g_24.2.2.2.2.2.2.1 g_24.2.2.2.2.2.2.2 1 (eI .u64) v_20.2.tape.l :: pt b_8 (blk v_7 28) :: pt b_3 (blk [ci 0, ci 0, ci 0] 28) :: pt b_2 (blk x1 28) :: S) hs.own) hs fun w a hs => ?_
  replace hs := hs.bagG (l := Tvisorref19_M.parts κ b_x0 v_20.2 g_24) (S' := pt b_8 (blk v_7 28) :: pt b_3 (blk [ci 0, ci 0, ci 0] 28) :: pt b_2 (blk x1 28) :: S) hs.own
  replace hs := hs.toEx (Tvisorref19_M.parts κ b_x0 v_20.2) g_24 0 rfl
  obtain ⟨v_35, h_34, hm⟩ := bind_t hm
  refine qcl (visorref19_M_Do.ok _ _ _ _ _ h_34 _ _ _ b_x0 hs.own) hs fun w a hs => ?_
  refine qpk 1 [0, 3, 4, 5, 6, 7] hs fun a hs => hK29 _ _ ?_
  clear hK29
  refine Vk.region ?_
  refine qpu 1 hs fun a hs => ?_
  obtain ⟨v_38, h_37, hm⟩ := bind_t hm
  refine qcl (visorref19_Op.ok _ _ _ _ _ _ _ h_37 _ _ (Tvisorref19_M.own κ b_x0 v_35.2 :: pt b_8 (blk v_7 28) :: pt b_3 (blk [ci 0, ci 0, ci 0] 28) :: pt b_2 (blk x1 28) :: S) hs.own) hs fun w a hs => ?_
  obtain ⟨v_41, h_40, hm⟩ := bind_t hm
  refine qcl (visorref19_M_Do.ok _ _ _ _ _ h_40 _ _ _ b_x0 hs.own) hs fun w a hs => ?_
  refine qpe 1 [(0, pp b_x0), (3, pp b_2), (4, pp b_3), (5, pp b_8), (6, vi v_20.1), (7, vi v_35.1), (8, vi v_41.1)] hs fun a hs => ?_
  exact hj22 v_41.2 v_35.1 v_41.1 hm _ _ (hs.go [0, 3, 4, 5, 6, 7, 8] [0, 3, 2, 1] 4 (by kernel_rfl) (by kernel_rfl) (by kernel_rfl))
 ·replace hm := bif_f hm hb
  refine wp_skip ?_
  replace hs := hs.bagG (l := Tvisorref19_M.parts κ b_x0 v_20.2 g_24) (S' := pt b_8 (blk v_7 28) :: pt b_3 (blk [ci 0, ci 0, ci 0] 28) :: pt b_2 (blk x1 28) :: S) hs.own
  replace hs := hs.toEx (Tvisorref19_M.parts κ b_x0 v_20.2) g_24 0 rfl
  exact hj22 v_20.2 v_20.1 v_20.1 hm _ _ (hs.go [0, 3, 4, 5, 6, 7, 8] [0, 3, 2, 1] 4 (by kernel_rfl) (by kernel_rfl) (by kernel_rfl))


abbrev visorref24_Open.R (κ : Ctx) (S : List HP) (x0 : Tvisorref19_M) (x1 : Cells) (b_x0 : Nat) (r : (Int × Tvisorref19_M)) : Ending → World → Prop := fun e w' => e = .returned (vw r.1) ∧ Ow κ w' (Tvisorref19_M.own κ b_x0 r.2 :: S)
def visorref24_Open.m (k : Nat) (x0 : Tvisorref19_M) (x1 : Cells) : Option (Int × Tvisorref19_M) := (if x1.length = 3 then (visorref21_Full.m k x0 x1).bind fun v_7 => (if v_7.1.length = 3 then (getI .i64 v_7.1 (0)).bind fun v_12 => (getI .i64 v_7.1 (1)).bind fun v_14 => (getI .i64 v_7.1 (2)).bind fun v_16 => (visorref19_M_Do.m k v_7.2 (⟨12, (-1), v_12, v_14, v_16, 0⟩ : Tapi_Op) 0).bind fun v_19 => (bif decide (v_19.1 < 0) then some (0, v_19.2) else (if 0 ≤ v_19.1 then (v_19.2.val[v_19.1.toNat]?).bind fun e_32 => some (e_32, v_19.2) else none)) else none) else none)

set_option maxRecDepth 100000 in
set_option maxHeartbeats 4000000 in
theorem visorref24_Open.ok (k : Nat) (x0 : Tvisorref19_M) (x1 : Cells) (r : (Int × Tvisorref19_M)) (hm : visorref24_Open.m k x0 x1 = some r) (κ : Ctx) (w : World) (S : List HP) (b_x0 : Nat) (ho : Ow κ w (Tvisorref19_M.own κ b_x0 x0 :: S)) :
  Calls Try.prog 69 #[pp b_x0, .agg (vals x1)] w (visorref24_Open.R κ S x0 x1 b_x0 r) := by
 unfold visorref24_Open.m at hm
 generalize hRR : visorref24_Open.R κ S x0 x1 b_x0 r = RR
 refine qen [(0, pp b_x0), (1, .agg (vals x1))] Try.func69 Try.ntmps69 ho fun a hs => ?_
 refine qsr fun K1 hK1 => ?_
 refine qbx 1 28 x1 3 hs fun b_2 w a hs => ?_
 refine qpe 1 [(0, pp b_x0), (3, pp b_2)] hs fun a hs => hK1 _ _ ?_
 clear hK1
 refine qsr fun K3 hK3 => ?_
 refine qpu 1 hs fun a hs => ?_
 obtain ⟨h_4, hm⟩ := ite_t hm
 refine qlw 0 hs rfl h_4 fun a hs => ?_
 obtain ⟨v_7, h_6, hm⟩ := bind_t hm
 refine qcl (visorref21_Full.ok _ _ _ _ h_6 _ _ _ b_x0 hs.own.f1) hs fun w a hs => ?_
 refine qal 28 [ci 0, ci 0, ci 0] 5 hs fun b_8 w a hs => ?_
 obtain ⟨h_9, hm⟩ := ite_t hm
 refine qsb 0 v_7.1 hs rfl h_9 rfl fun a w hs => ?_
 refine qpe 0 [(0, pp b_x0), (5, pp b_8)] hs fun a hs => hK3 _ _ ?_
 clear hK3
 refine qsr fun K10 hK10 => ?_
 refine qpu 3 hs fun a hs => ?_
 obtain ⟨v_12, h_11, hm⟩ := bind_t hm
 refine qli 0 hs rfl h_11 fun a hs => ?_
 refine qpu 2 hs fun a hs => ?_
 obtain ⟨v_14, h_13, hm⟩ := bind_t hm
 refine qli 0 hs rfl h_13 fun a hs => ?_
 refine qpu 2 hs fun a hs => ?_
 obtain ⟨v_16, h_15, hm⟩ := bind_t hm
 refine qli 0 hs rfl h_15 fun a hs => ?_
 refine qpu 1 hs fun a hs => ?_
 obtain ⟨v_19, h_18, hm⟩ := bind_t hm
 refine qcl (visorref19_M_Do.ok _ _ _ _ _ h_18 _ _ _ b_x0 hs.own.f1) hs fun w a hs => ?_
 refine qpk 1 [0, 6] hs fun a hs => hK10 _ _ ?_
 clear hK10
 refine Vk.seq fun K20 hK20 => ?_
 refine qsk 2 [0, 6, 23] hs fun a hs => ?_
 refine qcs (decide (v_19.1 < 0)) hs (fun hb => ?_) fun hb => ?_
 ·replace hm := bif_t hm hb
  refine qse 1 [(4, vw 0)] hs fun a hs => ?_
  refine wp_ret ?_
  exact qr1 (vw 0) hs rfl hRR (by cases hm; exact ⟨rfl, hs.own.f2.drop.f1.drop⟩)
 ·replace hm := bif_f hm hb
  refine wp_skip ?_
  refine hK20 _ _ ?_
  clear hK20
  refine qsr fun K23 hK23 => ?_
  refine qpu 3 hs fun a hs => ?_
  obtain ⟨g_24, hs⟩ := hs.unbag 0 rfl
  refine qld 0 (C.slc g_24.2.2.2.2.1 v_19.2.val.length g_24.2.2.2.2.2.1) hs rfl fun a hs => ?_
  refine qpu 1 hs fun a hs => ?_
  obtain ⟨h_29, hm⟩ := ite_t hm
  obtain ⟨e_32, h_30, hm⟩ := bind_t hm
  obtain ⟨b_33, o_34, hA_35, h_31⟩ := Sl.elem (Ow.rowSl 0 (Ow.to (S' := rowp g_24.2.2.2.2.1 g_24.2.2.2.2.2.1 32 1 (eI .u64) v_19.2.val :: S) hs.own [3] 7 (by kernel_rfl) (by kernel_rfl)) rfl) h_30
  refine qva (.pointer (some ⟨b_33, o_34 + v_19.1.toNat * 1, none⟩)) (op := (.indexAddr 25 (.tmp 27) (.tmp 28))) hs (fun o ho => run_idxSlc (k := .i64) ho (cap := g_24.2.2.2.2.2.1) (len := v_19.2.val.length) ((congrArg (fun A => Value.slice A (v_19.2.val.length) (g_24.2.2.2.2.2.1)) hA_35) ▸ (by kernel_rfl)) (by kernel_rfl) (by kernel_rfl) (idx_ok h_29 h_30) _) fun a hs => ?_
  refine qva (vw e_32) (op := (.load 32 (.tmp 29))) hs (fun o ho => run_load1 (c := cw e_32) ho (by kernel_rfl) (by kernel_rfl) (fun w ho => h_31 w ho 0 _ rfl) _ (Ow.to (S' := rowp g_24.2.2.2.2.1 g_24.2.2.2.2.2.1 32 1 (eI .u64) v_19.2.val :: S) hs.own [3] 7 (by kernel_rfl) (by kernel_rfl))) fun a hs => ?_
  refine qpe 1 [(4, vw e_32)] hs fun a hs => hK23 _ _ ?_
  clear hK23
  refine wp_ret ?_
  replace hs := hs.bagG (l := Tvisorref19_M.parts κ b_x0 v_19.2 g_24) (S' := pt b_8 (blk v_7.1 28) :: pt b_2 (blk x1 28) :: S) hs.own
  replace hs := hs.toEx (Tvisorref19_M.parts κ b_x0 v_19.2) g_24 0 rfl
  exact qr1 (vw e_32) hs rfl hRR (by cases hm; exact ⟨rfl, hs.own.f2.drop.f1.drop⟩)


abbrev wire_Machine_One.R (κ : Ctx) (S : List HP) (x0 : Twire_Machine) (x1 : Int) (x2 : Int) (x3 : Int) (x4 : Int) (b_x0 : Nat) (r : (Int × Twire_Machine)) : Ending → World → Prop := fun e w' => e = .returned (vi r.1) ∧ Ow κ w' (Twire_Machine.own b_x0 r.2 :: S)
def wire_Machine_One.m (k : Nat) (x0 : Twire_Machine) (x1 : Int) (x2 : Int) (x3 : Int) (x4 : Int) : Option (Int × Twire_Machine) := (wire_Machine_Do.m k x0 (⟨x1, x2, x3, (-1), (-1), x4⟩ : Tapi_Op) 0).bind fun v_5 => some (v_5.1, v_5.2)

set_option maxRecDepth 100000 in
set_option maxHeartbeats 4000000 in
theorem wire_Machine_One.ok (k : Nat) (x0 : Twire_Machine) (x1 : Int) (x2 : Int) (x3 : Int) (x4 : Int) (r : (Int × Twire_Machine)) (hm : wire_Machine_One.m k x0 x1 x2 x3 x4 = some r) (κ : Ctx) (w : World) (S : List HP) (b_x0 : Nat) (ho : Ow κ w (Twire_Machine.own b_x0 x0 :: S)) :
  Calls Try.prog 155 #[pp b_x0, vi x1, vi x2, vi x3, vw x4] w (wire_Machine_One.R κ S x0 x1 x2 x3 x4 b_x0 r) := by
 unfold wire_Machine_One.m at hm
 generalize hRR : wire_Machine_One.R κ S x0 x1 x2 x3 x4 b_x0 r = RR
 refine qen [(0, pp b_x0), (1, vi x1), (2, vi x2), (3, vi x3), (4, vw x4)] Try.func155 Try.ntmps155 ho fun a hs => ?_
 refine qsk 1 [0, 1, 2, 3, 4] hs fun a hs => ?_
 refine qsr fun K2 hK2 => ?_
 refine qpu 6 hs fun a hs => ?_
 obtain ⟨v_5, h_4, hm⟩ := bind_t hm
 refine qcl (wire_Machine_Do.ok _ _ _ _ _ h_4 _ _ _ b_x0 hs.own) hs fun w a hs => ?_
 refine qpe 1 [(10, vi v_5.1)] hs fun a hs => hK2 _ _ ?_
 clear hK2
 refine wp_ret ?_
 exact qr1 (vi v_5.1) hs rfl hRR (by cases hm; exact ⟨rfl, hs.own⟩)


def share_One.l1 (x1 : Int) (x2 : Cells) (x3 : Int) (v_22 : Int) : Nat → Twire_Machine → Cells → Int → Option (Cells × Twire_Machine)
 | 0, _, _, _ => none
 | k + 1, q_24, q_25, q_26 => (bif decide (q_26 < v_22) then (if 0 ≤ q_26 ∧ q_26 < 3 then (getI .i64 x2 (0 + q_26.toNat * 1)).bind fun v_37 => (wire_Machine_One.m k q_24 x1 q_26 v_37 x3).bind fun v_40 => (if 0 ≤ q_26 ∧ q_26 < 3 then (if 0 + q_26.toNat * 1 < q_25.length then share_One.l1 x1 x2 x3 v_22 k v_40.2 (q_25.set (0 + q_26.toNat * 1) (ci v_40.1)) (IntKind.i64.wrap (q_26 + 1)) else none) else none) else none) else some (q_25, q_24))
abbrev share_One.R (κ : Ctx) (S : List HP) (x0 : Twire_Machine) (x1 : Int) (x2 : Cells) (x3 : Int) (b_x0 : Nat) (r : (Cells × Twire_Machine)) : Ending → World → Prop := fun e w' => e = .returned (.agg (vals r.1)) ∧ Ow κ w' (Twire_Machine.own b_x0 r.2 :: S)
def share_One.m (k : Nat) (x0 : Twire_Machine) (x1 : Int) (x2 : Cells) (x3 : Int) : Option (Cells × Twire_Machine) := (share_none.m k).bind fun v_14 => (if v_14.length = 3 then (wire_Machine_N.m k x0).bind fun v_22 => (share_One.l1 x1 x2 x3 v_22 k x0 v_14 0).bind fun x => match x with | (p_43, p_44) => (if p_43.length = 3 then some (p_43, p_44) else none) else none)

set_option maxRecDepth 100000 in
set_option maxHeartbeats 4000000 in
theorem share_One.ok (k : Nat) (x0 : Twire_Machine) (x1 : Int) (x2 : Cells) (x3 : Int) (r : (Cells × Twire_Machine)) (hm : share_One.m k x0 x1 x2 x3 = some r) (κ : Ctx) (w : World) (S : List HP) (b_x0 : Nat) (ho : Ow κ w (Twire_Machine.own b_x0 x0 :: S)) :
  Calls Try.prog 103 #[pp b_x0, vi x1, .agg (vals x2), vw x3] w (share_One.R κ S x0 x1 x2 x3 b_x0 r) := by
 unfold share_One.m at hm
 generalize hRR : share_One.R κ S x0 x1 x2 x3 b_x0 r = RR
 refine qen [(0, pp b_x0), (1, vi x1), (2, .agg (vals x2)), (3, vw x3)] Try.func103 Try.ntmps103 ho fun a hs => ?_
 refine qsr fun K1 hK1 => ?_
 refine qbx 0 41 [cp b_x0] 4 hs fun b_2 w a hs => ?_
 refine qbx 1 3 [ci x1] 5 hs fun b_3 w a hs => ?_
 refine qbx 2 28 x2 6 hs fun b_4 w a hs => ?_
 refine qbx 3 32 [cw x3] 7 hs fun b_5 w a hs => ?_
 refine qal 28 [ci 0, ci 0, ci 0] 8 hs fun b_6 w a hs => ?_
 refine qpk 0 [4, 5, 6, 7, 8] hs fun a hs => hK1 _ _ ?_
 clear hK1
 refine qsr fun K7 hK7 => ?_
 refine qld 4 (cp b_x0) hs rfl fun a hs => ?_
 refine qpu 1 hs fun a hs => ?_
 refine Vk.step (Vk.call (some 11) 132 #[pp b_x0, .func (.func 156) #[] #[pp b_2, pp b_3, pp b_4, pp b_5]] hs (by kernel_rfl) (by kernel_rfl) (by kernel_rfl) ?_)
 refine Vk.enterI [(0, pp b_x0), (1, .func (.func 156) #[] #[pp b_2, pp b_3, pp b_4, pp b_5])] Try.func132 rfl Try.ntmps132 (by kernel_rfl) (Nat.le_of_ble_eq_true (by kernel_rfl)) hs.own fun KR8 hKR8 hKP8 a hs => ?_
 refine qsr fun K9 hK9 => ?_
 refine qal 28 [ci 0, ci 0, ci 0] 4 hs fun b_10 w a hs => ?_
 refine qpk 0 [0, 1, 4] hs fun a hs => hK9 _ _ ?_
 clear hK9
 refine qsr fun K11 hK11 => ?_
 obtain ⟨v_14, h_13, hm⟩ := bind_t hm
 refine qcl (share_none.ok _ _ h_13 _ _ (pt b_10 (blk [ci 0, ci 0, ci 0] 28) :: pt b_6 (blk [ci 0, ci 0, ci 0] 28) :: pt b_5 (blk [cw x3] 32) :: pt b_4 (blk x2 28) :: pt b_3 (blk [ci x1] 3) :: pt b_2 (blk [cp b_x0] 41) :: Twire_Machine.own b_x0 x0 :: S) hs.own) hs fun w a hs => ?_
 refine qal 28 [ci 0, ci 0, ci 0] 5 hs fun b_15 w a hs => ?_
 obtain ⟨h_16, hm⟩ := ite_t hm
 refine qsb 0 v_14 hs rfl h_16 rfl fun a w hs => ?_
 refine qpe 0 [(0, pp b_x0), (1, .func (.func 156) #[] #[pp b_2, pp b_3, pp b_4, pp b_5]), (4, pp b_10), (5, pp b_15)] hs fun a hs => hK11 _ _ ?_
 clear hK11
 refine Vk.seq fun K17 hK17 => ?_
 refine qsr fun K18 hK18 => ?_
 refine qpu 1 hs fun a hs => ?_
 obtain ⟨g_19, hs⟩ := hs.unex 7 rfl
 obtain ⟨v_22, h_21, hm⟩ := bind_t hm
 refine qcl (wire_Machine_N.ok _ _ _ h_21 _ _ _ b_x0 g_19 hs.own.f7) hs fun w a hs => ?_
 refine qpk 1 [1, 4, 5, 9, 10] hs fun a hs => hK18 _ _ ?_
 clear hK18
 refine wp_block ?_
 replace hs := hs.toEx (Twire_Machine.parts b_x0 x0) g_19 0 rfl
 obtain ⟨r23, hl23, hm⟩ := bind_t hm
 have hx23 : ∀ (p_43 : Cells) (p_44 : Twire_Machine), r23 = (p_43, p_44) → ∀ (a : Act) (w : World), St 21 a w κ [(4, pp b_10), (5, pp b_15)] (pt b_10 (blk [ci 0, ci 0, ci 0] 28) :: pt b_15 (blk p_43 28) :: Twire_Machine.own b_x0 p_44 :: pt b_2 (blk [cp b_x0] 41) :: pt b_3 (blk [ci x1] 3) :: pt b_4 (blk x2 28) :: pt b_5 (blk [cw x3] 32) :: pt b_6 (blk [ci 0, ci 0, ci 0] 28) :: S) → K17 a w := by
  intro p_43 p_44 he a w hs
  subst r23
  refine hK17 _ _ ?_
  clear hK17
  refine qsr fun K48 hK48 => ?_
  obtain ⟨h_49, hm⟩ := ite_t hm
  refine qlw 1 hs rfl h_49 fun a hs => ?_
  refine qsb 0 p_43 hs rfl h_49 rfl fun a w hs => ?_
  refine qpe 0 [(4, pp b_10)] hs fun a hs => hK48 _ _ ?_
  clear hK48
  refine wp_ret ?_
  refine hKP8 _ _ ?_
  refine hKR8 _ _ ?_
  refine Vk.retC (P := Try.prog) (fn := Try.f132) p_43 hs rfl (by kernel_rfl) (sz := 3) (by kernel_rfl) h_49 (CellsAt.all 0 rfl) ⟨_, _, _, rfl, hs.own, fun a hs => ?_⟩
  refine qsb 7 p_43 hs rfl h_49 rfl fun a w hs => ?_
  refine qpe 0 [(8, pp b_6)] hs fun a hs => hK7 _ _ ?_
  clear hK7
  refine wp_ret ?_
  exact Vk.retC p_43 hs rfl (by kernel_rfl) (sz := 3) (by kernel_rfl) h_49 (CellsAt.all 7 rfl) (hRR ▸ by cases hm; exact ⟨rfl, (hs.own.too [2] 8)⟩)
 refine Vk.loopBy (fun k (s : Twire_Machine × Cells × Int) a w => share_One.l1 x1 x2 x3 v_22 k s.1 s.2.1 s.2.2 = some r23 ∧ St 21 a w κ [(1, .func (.func 156) #[] #[pp b_2, pp b_3, pp b_4, pp b_5]), (4, pp b_10), (5, pp b_15), (9, vi v_22), (10, vi s.2.2)] (pt b_2 (blk [cp b_x0] 41) :: Twire_Machine.own b_x0 s.1 :: pt b_3 (blk [ci x1] 3) :: pt b_4 (blk x2 28) :: pt b_5 (blk [cw x3] 32) :: pt b_10 (blk [ci 0, ci 0, ci 0] 28) :: pt b_15 (blk s.2.1 28) :: pt b_6 (blk [ci 0, ci 0, ci 0] 28) :: S)) k (x0, v_14, 0) ⟨hl23, hs.go [1, 4, 5, 9, 10] [7, 0, 6, 5, 4, 2, 1, 3] 8 (by kernel_rfl) (by kernel_rfl) (by kernel_rfl)⟩ (fun s a w h => by obtain ⟨h1, _⟩ := h; simp [share_One.l1] at h1) (fun k KL23 ih s a w h => ?_)
 obtain ⟨q_24, q_25, q_26⟩ := s
 obtain ⟨hm, hs⟩ := h
 try dsimp only at hm hs
 rw [share_One.l1] at hm
 refine qsk 1 [1, 4, 5, 9, 10, 11] hs fun a hs => ?_
 refine Vk.seq fun K28 hK28 => ?_
 refine qcs (decide (q_26 < v_22)) hs (fun hb => ?_) fun hb => ?_
 ·replace hm := bif_t hm hb
  refine wp_skip ?_
  refine hK28 _ _ ?_
  clear hK28
  refine Vk.seq fun K29 hK29 => ?_
  refine wp_block ?_
  refine qsk 2 [1, 4, 5, 6, 9, 10] hs fun a hs => ?_
  refine Vk.region ?_
  refine qpu 3 hs fun a hs => ?_
  refine Vk.step (Vk.call (some 16) 156 #[vi q_26, pp b_2, pp b_3, pp b_4, pp b_5] hs (by kernel_rfl) (by kernel_rfl) (by kernel_rfl) ?_)
  refine Vk.enterI [(0, vi q_26), (1, pp b_2), (2, pp b_3), (3, pp b_4), (4, pp b_5)] Try.func156 rfl Try.ntmps156 (by kernel_rfl) (Nat.le_of_ble_eq_true (by kernel_rfl)) hs.own fun KR31 hKR31 hKP31 a hs => ?_
  refine qsk 1 [0, 1, 2, 3, 4] hs fun a hs => ?_
  refine Vk.seq fun K33 hK33 => ?_
  obtain ⟨C_34, hC_34⟩ := qC hs.own
  refine qdr 8 κ C_34 hs fun w hs hqC_34 => ?_
  have hcl := qO hC_34 hs.own
  refine qdp (fuel := 7) [2, 3, 4] hs hcl hqC_34 fun a hs => ?_
  refine qdl 0 0 (cp b_x0) hs hcl hqC_34 hC_34 rfl fun a hs => ?_
  refine qdl 1 2 (ci x1) hs hcl hqC_34 hC_34 rfl fun a hs => ?_
  obtain ⟨h_35, hm⟩ := ite_t hm
  refine qdx 5 b_4 0 1 hs hcl hqC_34 h_35 fun a hs => ?_
  obtain ⟨v_37, h_36, hm⟩ := bind_t hm
  refine qdi 6 3 hs hcl hqC_34 hC_34 rfl h_36 fun a hs => ?_
  refine qdl 7 4 (cw x3) hs hcl hqC_34 hC_34 rfl fun a hs => ?_
  obtain ⟨v_40, h_39, hm⟩ := bind_t hm
  refine qdc 8 (wire_Machine_One.ok _ _ _ _ _ _ _ h_39 _ _ _ b_x0 hs.own.f1) hs fun w a hs => ?_
  refine ⟨fun h => absurd h (by decide), ?_⟩
  refine Vk.dOnly (i := 9) (by kernel_rfl) (Vk.dPure1 [(6, vi v_40.1)] hs (by kernel_rfl) fun a hs => ?_)
  refine ⟨fun h => absurd h (by decide), ?_⟩
  replace hs := hs.pick [6] (L' := [(6, vi v_40.1)]) (by kernel_rfl)
  refine Vk.dDone (by kernel_rfl) ?_
  refine hK33 _ _ ?_
  clear hK33
  refine wp_ret ?_
  refine hKP31 _ _ ?_
  refine hKR31 _ _ ?_
  refine Vk.ret1 (P := Try.prog) (fn := Try.f156) (vi v_40.1) hs rfl (by kernel_rfl) ⟨_, _, _, rfl, hs.own, fun a hs => ?_⟩
  refine qpu 1 hs fun a hs => ?_
  obtain ⟨h_41, hm⟩ := ite_t hm
  refine qix b_15 0 1 hs h_41 fun a hs => ?_
  obtain ⟨h_42, hm⟩ := ite_t hm
  refine Vk.step (Vk.store1 (b := b_15) (ty := 3) (x := (.tmp 18)) (y := (.tmp 16)) (off := 0 + q_26.toNat * 1) (ci v_40.1) 6 hs (by kernel_rfl) (by kernel_rfl) (by kernel_rfl) (by kernel_rfl) (by kernel_rfl) (by kernel_rfl) rfl h_42 fun a w hs => ?_)
  refine qpk 0 [1, 4, 5, 9, 10] hs fun a hs => hK29 _ _ ?_
  clear hK29
  refine Vk.region ?_
  refine qpk 2 [1, 4, 5, 9, 10] hs fun a hs => ?_
  refine ih (v_40.2, (q_25.set (0 + q_26.toNat * 1) (ci v_40.1)), (IntKind.i64.wrap (q_26 + 1))) _ _ ⟨hm, hs.go [1, 4, 5, 9, 10] [1, 0, 2, 3, 4, 5, 6, 7] 8 (by kernel_rfl) (by kernel_rfl) (by kernel_rfl)⟩
 ·replace hm := bif_f hm hb
  refine wp_exit ?_
  exact hx23 q_25 q_24 (Option.some.inj hm).symm _ _ (hs.go [4, 5] [5, 6, 1, 0, 2, 3, 4, 7] 8 (by kernel_rfl) (by kernel_rfl) (by kernel_rfl))


abbrev guard_masked.R (κ : Ctx) (S : List HP) (x0 : Twire_Machine) (x1 : Cells) (x2 : Int) (b_x0 : Nat) (r : (Int × Twire_Machine)) : Ending → World → Prop := fun e w' => e = .returned (vw r.1) ∧ Ow κ w' (Twire_Machine.own b_x0 r.2 :: S)
def guard_masked.m (k : Nat) (x0 : Twire_Machine) (x1 : Cells) (x2 : Int) : Option (Int × Twire_Machine) := (if x1.length = 3 then (share_One.m k x0 8 x1 x2).bind fun v_7 => (guard_Open.m k v_7.2 v_7.1).bind fun v_10 => some (v_10.1, v_10.2) else none)

set_option maxRecDepth 100000 in
set_option maxHeartbeats 4000000 in
theorem guard_masked.ok (k : Nat) (x0 : Twire_Machine) (x1 : Cells) (x2 : Int) (r : (Int × Twire_Machine)) (hm : guard_masked.m k x0 x1 x2 = some r) (κ : Ctx) (w : World) (S : List HP) (b_x0 : Nat) (ho : Ow κ w (Twire_Machine.own b_x0 x0 :: S)) :
  Calls Try.prog 136 #[pp b_x0, .agg (vals x1), vw x2] w (guard_masked.R κ S x0 x1 x2 b_x0 r) := by
 unfold guard_masked.m at hm
 generalize hRR : guard_masked.R κ S x0 x1 x2 b_x0 r = RR
 refine qen [(0, pp b_x0), (1, .agg (vals x1)), (2, vw x2)] Try.func136 Try.ntmps136 ho fun a hs => ?_
 refine qsr fun K1 hK1 => ?_
 refine qbx 1 28 x1 4 hs fun b_2 w a hs => ?_
 refine qpk 1 [0, 2, 4] hs fun a hs => hK1 _ _ ?_
 clear hK1
 refine qsr fun K3 hK3 => ?_
 refine qpu 2 hs fun a hs => ?_
 obtain ⟨h_4, hm⟩ := ite_t hm
 refine qlw 0 hs rfl h_4 fun a hs => ?_
 refine qpu 1 hs fun a hs => ?_
 obtain ⟨v_7, h_6, hm⟩ := bind_t hm
 refine qcl (share_One.ok _ _ _ _ _ _ h_6 _ _ _ b_x0 hs.own.f1) hs fun w a hs => ?_
 obtain ⟨v_10, h_9, hm⟩ := bind_t hm
 refine qcl (guard_Open.ok _ _ _ _ h_9 _ _ _ b_x0 hs.own) hs fun w a hs => ?_
 refine qpe 1 [(6, vw v_10.1)] hs fun a hs => hK3 _ _ ?_
 clear hK3
 refine wp_ret ?_
 exact qr1 (vw v_10.1) hs rfl hRR (by cases hm; exact ⟨rfl, hs.own.f1.drop⟩)


abbrev guard_Yes.R (κ : Ctx) (S : List HP) (x0 : Twire_Machine) (x1 : Cells) (b_x0 : Nat) (r : (Bool × Twire_Machine)) : Ending → World → Prop := fun e w' => e = .returned (.bool r.1) ∧ Ow κ w' (Twire_Machine.own b_x0 r.2 :: S)
def guard_Yes.m (k : Nat) (x0 : Twire_Machine) (x1 : Cells) : Option (Bool × Twire_Machine) := (if x1.length = 3 then (guard_masked.m k x0 x1 1).bind fun v_7 => some ((band .u64 v_7.1 1) == 1, v_7.2) else none)

set_option maxRecDepth 100000 in
set_option maxHeartbeats 4000000 in
theorem guard_Yes.ok (k : Nat) (x0 : Twire_Machine) (x1 : Cells) (r : (Bool × Twire_Machine)) (hm : guard_Yes.m k x0 x1 = some r) (κ : Ctx) (w : World) (S : List HP) (b_x0 : Nat) (ho : Ow κ w (Twire_Machine.own b_x0 x0 :: S)) :
  Calls Try.prog 70 #[pp b_x0, .agg (vals x1)] w (guard_Yes.R κ S x0 x1 b_x0 r) := by
 unfold guard_Yes.m at hm
 generalize hRR : guard_Yes.R κ S x0 x1 b_x0 r = RR
 refine qen [(0, pp b_x0), (1, .agg (vals x1))] Try.func70 Try.ntmps70 ho fun a hs => ?_
 refine qsr fun K1 hK1 => ?_
 refine qbx 1 28 x1 3 hs fun b_2 w a hs => ?_
 refine qpe 1 [(0, pp b_x0), (3, pp b_2)] hs fun a hs => hK1 _ _ ?_
 clear hK1
 refine qsr fun K3 hK3 => ?_
 refine qpu 1 hs fun a hs => ?_
 obtain ⟨h_4, hm⟩ := ite_t hm
 refine qlw 0 hs rfl h_4 fun a hs => ?_
 obtain ⟨v_7, h_6, hm⟩ := bind_t hm
 refine qcl (guard_masked.ok _ _ _ _ _ h_6 _ _ _ b_x0 hs.own.f1) hs fun w a hs => ?_
 refine qpk 3 [4] hs fun a hs => hK3 _ _ ?_
 clear hK3
 refine wp_ret ?_
 exact qr1 (.bool ((band .u64 v_7.1 1) == 1)) hs rfl hRR (by cases hm; exact ⟨rfl, hs.own.f1.drop⟩)


def visorref20_One.l1 (x1 : Int) (x2 : Cells) (x3 : Int) : Nat → Tvisorref19_M → Cells → Int → Option (Cells × Tvisorref19_M)
 | 0, _, _, _ => none
 | k + 1, q_13, q_14, q_15 => (bif decide (q_15 < q_13.n) then (if 0 ≤ q_15 ∧ q_15 < 3 then (getI .i64 x2 (0 + q_15.toNat * 1)).bind fun v_26 => (visorref19_Op.m k x1 q_15 v_26 (-1) x3).bind fun v_29 => (visorref19_M_Do.m k q_13 v_29 0).bind fun v_32 => (if 0 ≤ q_15 ∧ q_15 < 3 then (if 0 + q_15.toNat * 1 < q_14.length then visorref20_One.l1 x1 x2 x3 k v_32.2 (q_14.set (0 + q_15.toNat * 1) (ci v_32.1)) (IntKind.i64.wrap (q_15 + 1)) else none) else none) else none) else some (q_14, q_13))
abbrev visorref20_One.R (κ : Ctx) (S : List HP) (x0 : Tvisorref19_M) (x1 : Int) (x2 : Cells) (x3 : Int) (b_x0 : Nat) (r : (Cells × Tvisorref19_M)) : Ending → World → Prop := fun e w' => e = .returned (.agg (vals r.1)) ∧ Ow κ w' (Tvisorref19_M.own κ b_x0 r.2 :: S)
def visorref20_One.m (k : Nat) (x0 : Tvisorref19_M) (x1 : Int) (x2 : Cells) (x3 : Int) : Option (Cells × Tvisorref19_M) := (visorref20_None.m k).bind fun v_7 => (if v_7.length = 3 then (visorref20_One.l1 x1 x2 x3 k x0 v_7 0).bind fun x => match x with | (p_35, p_36) => (if p_35.length = 3 then some (p_35, p_36) else none) else none)

set_option maxRecDepth 100000 in
set_option maxHeartbeats 4000000 in
theorem visorref20_One.ok (k : Nat) (x0 : Tvisorref19_M) (x1 : Int) (x2 : Cells) (x3 : Int) (r : (Cells × Tvisorref19_M)) (hm : visorref20_One.m k x0 x1 x2 x3 = some r) (κ : Ctx) (w : World) (S : List HP) (b_x0 : Nat) (ho : Ow κ w (Tvisorref19_M.own κ b_x0 x0 :: S)) :
  Calls Try.prog 104 #[pp b_x0, vi x1, .agg (vals x2), vw x3] w (visorref20_One.R κ S x0 x1 x2 x3 b_x0 r) := by
 unfold visorref20_One.m at hm
 generalize hRR : visorref20_One.R κ S x0 x1 x2 x3 b_x0 r = RR
 refine qen [(0, pp b_x0), (1, vi x1), (2, .agg (vals x2)), (3, vw x3)] Try.func104 Try.ntmps104 ho fun a hs => ?_
 refine qsr fun K1 hK1 => ?_
 refine qbx 2 28 x2 6 hs fun b_2 w a hs => ?_
 refine qal 28 [ci 0, ci 0, ci 0] 8 hs fun b_3 w a hs => ?_
 refine qpk 0 [0, 1, 3, 6, 8] hs fun a hs => hK1 _ _ ?_
 clear hK1
 refine qsr fun K4 hK4 => ?_
 obtain ⟨v_7, h_6, hm⟩ := bind_t hm
 refine qcl (visorref20_None.ok _ _ h_6 _ _ (pt b_3 (blk [ci 0, ci 0, ci 0] 28) :: pt b_2 (blk x2 28) :: Tvisorref19_M.own κ b_x0 x0 :: S) hs.own) hs fun w a hs => ?_
 refine qal 28 [ci 0, ci 0, ci 0] 9 hs fun b_8 w a hs => ?_
 obtain ⟨h_9, hm⟩ := ite_t hm
 refine qsb 0 v_7 hs rfl h_9 rfl fun a w hs => ?_
 refine qpk 0 [0, 1, 3, 6, 8, 9] hs fun a hs => hK4 _ _ ?_
 clear hK4
 refine Vk.seq fun K10 hK10 => ?_
 refine qsk 1 [0, 1, 3, 6, 8, 9, 10] hs fun a hs => ?_
 refine wp_block ?_
 obtain ⟨r12, hl12, hm⟩ := bind_t hm
 have hx12 : ∀ (p_35 : Cells) (p_36 : Tvisorref19_M), r12 = (p_35, p_36) → ∀ (a : Act) (w : World), St 34 a w κ [(8, pp b_3), (9, pp b_8)] (pt b_3 (blk [ci 0, ci 0, ci 0] 28) :: pt b_8 (blk p_35 28) :: Tvisorref19_M.own κ b_x0 p_36 :: S) → K10 a w := by
  intro p_35 p_36 he a w hs
  subst r12
  refine hK10 _ _ ?_
  clear hK10
  refine qsr fun K40 hK40 => ?_
  obtain ⟨h_41, hm⟩ := ite_t hm
  refine qlw 1 hs rfl h_41 fun a hs => ?_
  refine qsb 0 p_35 hs rfl h_41 rfl fun a w hs => ?_
  refine qpe 0 [(8, pp b_3)] hs fun a hs => hK40 _ _ ?_
  clear hK40
  refine wp_ret ?_
  exact Vk.retC p_35 hs rfl (by kernel_rfl) (sz := 3) (by kernel_rfl) h_41 (CellsAt.all 0 rfl) (hRR ▸ by cases hm; exact ⟨rfl, hs.own.f1.drop.drop⟩)
 refine Vk.loopBy (fun k (s : Tvisorref19_M × Cells × Int) a w => visorref20_One.l1 x1 x2 x3 k s.1 s.2.1 s.2.2 = some r12 ∧ St 34 a w κ [(0, pp b_x0), (1, vi x1), (3, vw x3), (6, pp b_2), (8, pp b_3), (9, pp b_8), (10, vi s.2.2)] (Tvisorref19_M.own κ b_x0 s.1 :: pt b_2 (blk x2 28) :: pt b_3 (blk [ci 0, ci 0, ci 0] 28) :: pt b_8 (blk s.2.1 28) :: S)) k (x0, v_7, 0) ⟨hl12, hs.go [0, 1, 3, 6, 8, 9, 10] [3, 2, 1, 0] 4 (by kernel_rfl) (by kernel_rfl) (by kernel_rfl)⟩ (fun s a w h => by obtain ⟨h1, _⟩ := h; simp [visorref20_One.l1] at h1) (fun k KL12 ih s a w h => ?_)
 obtain ⟨q_13, q_14, q_15⟩ := s
 obtain ⟨hm, hs⟩ := h
 try dsimp only at hm hs
 rw [visorref20_One.l1] at hm
 refine Vk.seq fun K16 hK16 => ?_
 refine qsr fun K17 hK17 => ?_
 refine qpu 4 hs fun a hs => ?_
 obtain ⟨g_18, hs⟩ := hs.unbag 0 rfl
 refine qld 0 (ci q_13.n) hs rfl fun a hs => ?_
 refine qpk 1 [0, 1, 3, 6, 8, 9, 10, 17] hs fun a hs => hK17 _ _ ?_
 clear hK17
 refine qcs (decide (q_15 < q_13.n)) hs (fun hb => ?_) fun hb => ?_
 ·replace hm := bif_t hm hb
  refine wp_skip ?_
  refine hK16 _ _ ?_
  clear hK16
  refine Vk.seq fun K23 hK23 => ?_
  refine wp_block ?_
  refine Vk.region ?_
  refine qpu 6 hs fun a hs => ?_
  obtain ⟨h_24, hm⟩ := ite_t hm
  refine qix b_2 0 1 hs h_24 fun a hs => ?_
  obtain ⟨v_26, h_25, hm⟩ := bind_t hm
  refine qli 5 hs rfl h_25 fun a hs => ?_
  refine qpu 1 hs fun a hs => ?_
  obtain ⟨v_29, h_28, hm⟩ := bind_t hm
  refine qcl (visorref19_Op.ok _ _ _ _ _ _ _ h_28 _ _ (pt b_x0 (blk (Tvisorref19_M.obj q_13 g_18.1 g_18.2.1 g_18.2.2.1 g_18.2.2.2.1 g_18.2.2.2.2.1 g_18.2.2.2.2.2.1 g_18.2.2.2.2.2.2.1 g_18.2.2.2.2.2.2.2) 64) :: rowp g_18.1 g_18.2.1 93 6 Tapi_Op.cells q_13.ops :: rowp g_18.2.2.1 g_18.2.2.2.1 175 3 Tapi_Span.cells q_13.blocks :: rowp g_18.2.2.2.2.1 g_18.2.2.2.2.2.1 32 1 (eI .u64) q_13.val :: rdp κ g_18.2.2.2.2.2.2.1 g_18.2.2.2.2.2.2.2 1 (eI .u64) q_13.tape.l :: pt b_2 (blk x2 28) :: pt b_3 (blk [ci 0, ci 0, ci 0] 28) :: pt b_8 (blk q_14 28) :: S) hs.own) hs fun w a hs => ?_
  replace hs := hs.bagG (l := Tvisorref19_M.parts κ b_x0 q_13 g_18) (S' := pt b_2 (blk x2 28) :: pt b_3 (blk [ci 0, ci 0, ci 0] 28) :: pt b_8 (blk q_14 28) :: S) hs.own
  replace hs := hs.toEx (Tvisorref19_M.parts κ b_x0 q_13) g_18 0 rfl
  obtain ⟨v_32, h_31, hm⟩ := bind_t hm
  refine qcl (visorref19_M_Do.ok _ _ _ _ _ h_31 _ _ _ b_x0 hs.own) hs fun w a hs => ?_
  refine qpu 1 hs fun a hs => ?_
  obtain ⟨h_33, hm⟩ := ite_t hm
  refine qix b_8 0 1 hs h_33 fun a hs => ?_
  obtain ⟨h_34, hm⟩ := ite_t hm
  refine Vk.step (Vk.store1 (b := b_8) (ty := 3) (x := (.tmp 32)) (y := (.tmp 30)) (off := 0 + q_15.toNat * 1) (ci v_32.1) 3 hs (by kernel_rfl) (by kernel_rfl) (by kernel_rfl) (by kernel_rfl) (by kernel_rfl) (by kernel_rfl) rfl h_34 fun a w hs => ?_)
  refine qpk 0 [0, 1, 3, 6, 8, 9, 10] hs fun a hs => hK23 _ _ ?_
  clear hK23
  refine Vk.region ?_
  refine qpk 3 [0, 1, 3, 6, 8, 9, 10] hs fun a hs => ?_
  refine ih (v_32.2, (q_14.set (0 + q_15.toNat * 1) (ci v_32.1)), (IntKind.i64.wrap (q_15 + 1))) _ _ ⟨hm, hs.go [0, 1, 3, 6, 8, 9, 10] [0, 1, 2, 3] 4 (by kernel_rfl) (by kernel_rfl) (by kernel_rfl)⟩
 ·replace hm := bif_f hm hb
  refine wp_exit ?_
  replace hs := hs.bagG (l := Tvisorref19_M.parts κ b_x0 q_13 g_18) (S' := pt b_2 (blk x2 28) :: pt b_3 (blk [ci 0, ci 0, ci 0] 28) :: pt b_8 (blk q_14 28) :: S) hs.own
  replace hs := hs.toEx (Tvisorref19_M.parts κ b_x0 q_13) g_18 0 rfl
  exact hx12 q_14 q_13 (Option.some.inj hm).symm _ _ (hs.go [8, 9] [2, 3, 0] 4 (by kernel_rfl) (by kernel_rfl) (by kernel_rfl))


abbrev visorref24_Masked.R (κ : Ctx) (S : List HP) (x0 : Tvisorref19_M) (x1 : Cells) (x2 : Int) (b_x0 : Nat) (r : (Int × Tvisorref19_M)) : Ending → World → Prop := fun e w' => e = .returned (vw r.1) ∧ Ow κ w' (Tvisorref19_M.own κ b_x0 r.2 :: S)
def visorref24_Masked.m (k : Nat) (x0 : Tvisorref19_M) (x1 : Cells) (x2 : Int) : Option (Int × Tvisorref19_M) := (if x1.length = 3 then (visorref20_One.m k x0 8 x1 x2).bind fun v_7 => (visorref24_Open.m k v_7.2 v_7.1).bind fun v_10 => some (v_10.1, v_10.2) else none)

set_option maxRecDepth 100000 in
set_option maxHeartbeats 4000000 in
theorem visorref24_Masked.ok (k : Nat) (x0 : Tvisorref19_M) (x1 : Cells) (x2 : Int) (r : (Int × Tvisorref19_M)) (hm : visorref24_Masked.m k x0 x1 x2 = some r) (κ : Ctx) (w : World) (S : List HP) (b_x0 : Nat) (ho : Ow κ w (Tvisorref19_M.own κ b_x0 x0 :: S)) :
  Calls Try.prog 71 #[pp b_x0, .agg (vals x1), vw x2] w (visorref24_Masked.R κ S x0 x1 x2 b_x0 r) := by
 unfold visorref24_Masked.m at hm
 generalize hRR : visorref24_Masked.R κ S x0 x1 x2 b_x0 r = RR
 refine qen [(0, pp b_x0), (1, .agg (vals x1)), (2, vw x2)] Try.func71 Try.ntmps71 ho fun a hs => ?_
 refine qsr fun K1 hK1 => ?_
 refine qbx 1 28 x1 4 hs fun b_2 w a hs => ?_
 refine qpk 1 [0, 2, 4] hs fun a hs => hK1 _ _ ?_
 clear hK1
 refine qsr fun K3 hK3 => ?_
 refine qpu 2 hs fun a hs => ?_
 obtain ⟨h_4, hm⟩ := ite_t hm
 refine qlw 0 hs rfl h_4 fun a hs => ?_
 refine qpu 1 hs fun a hs => ?_
 obtain ⟨v_7, h_6, hm⟩ := bind_t hm
 refine qcl (visorref20_One.ok _ _ _ _ _ _ h_6 _ _ _ b_x0 hs.own.f1) hs fun w a hs => ?_
 obtain ⟨v_10, h_9, hm⟩ := bind_t hm
 refine qcl (visorref24_Open.ok _ _ _ _ h_9 _ _ _ b_x0 hs.own) hs fun w a hs => ?_
 refine qpe 1 [(6, vw v_10.1)] hs fun a hs => hK3 _ _ ?_
 clear hK3
 refine wp_ret ?_
 exact qr1 (vw v_10.1) hs rfl hRR (by cases hm; exact ⟨rfl, hs.own.f1.drop⟩)


abbrev octet_Low.R (κ : Ctx) (S : List HP) (x0 : Int) (r : Int) : Ending → World → Prop := fun e w' => e = .returned (vw r) ∧ Ow κ w' (S)
def octet_Low.m (k : Nat) (x0 : Int) : Option Int := (bif decide (x0 ≤ 0) then some 0 else (if 0 ≤ IntKind.i64.wrap (64 - (mn x0 64)) then some (shr .u64 18446744073709551615 (IntKind.i64.wrap (64 - (mn x0 64)))) else none))

set_option maxRecDepth 100000 in
set_option maxHeartbeats 4000000 in
theorem octet_Low.ok (k : Nat) (x0 : Int) (r : Int) (hm : octet_Low.m k x0 = some r) (κ : Ctx) (w : World) (S : List HP) (ho : Ow κ w (S)) :
  Calls Try.prog 137 #[vi x0] w (octet_Low.R κ S x0 r) := by
 unfold octet_Low.m at hm
 generalize hRR : octet_Low.R κ S x0 r = RR
 refine qen [(0, vi x0)] Try.func137 Try.ntmps137 ho fun a hs => ?_
 refine qse 1 [(0, vi x0)] hs fun a hs => ?_
 refine Vk.seq fun K2 hK2 => ?_
 refine qsk 2 [0, 4] hs fun a hs => ?_
 refine qcs (decide (x0 ≤ 0)) hs (fun hb => ?_) fun hb => ?_
 ·replace hm := bif_t hm hb
  refine qse 1 [(2, vw 0)] hs fun a hs => ?_
  refine wp_ret ?_
  exact qr1 (vw 0) hs rfl hRR (by cases hm; exact ⟨rfl, hs.own⟩)
 ·replace hm := bif_f hm hb
  refine wp_skip ?_
  refine hK2 _ _ ?_
  clear hK2
  refine qsr fun K5 hK5 => ?_
  refine qpu 3 hs fun a hs => ?_
  obtain ⟨h_6, hm⟩ := ite_t hm
  refine qva (vw (shr .u64 18446744073709551615 (IntKind.i64.wrap (64 - (mn x0 64))))) (op := (.binOp .shr 32 (.const (vw 18446744073709551615)) (.tmp 7) 3)) hs (fun o ho => run_shr (k' := .i64) ho (by kernel_rfl) (by kernel_rfl) h_6 _) fun a hs => ?_
  refine qpk 1 [2] hs fun a hs => hK5 _ _ ?_
  clear hK5
  refine wp_ret ?_
  exact qr1 (vw (shr .u64 18446744073709551615 (IntKind.i64.wrap (64 - (mn x0 64))))) hs rfl hRR (by cases hm; exact ⟨rfl, hs.own⟩)


def octet_Store.l1 (x0 : Int) (x1 : Int) : Nat → (List Int) → Int → Option (List Int)
 | 0, _, _ => none
 | k + 1, q_9, q_10 => (bif decide (q_10 < (((List.replicate (mx 0 (mn x1 8)).toNat 0 : List Int).length : Nat) : Int)) then (if 0 ≤ IntKind.i64.wrap (8 * q_10) then (if 0 ≤ q_10 then (q_9[q_10.toNat]?).bind fun e_19 => octet_Store.l1 x0 x1 k (q_9.set q_10.toNat (IntKind.u8.wrap (shr .u64 x0 (IntKind.i64.wrap (8 * q_10))))) (IntKind.i64.wrap (q_10 + 1)) else none) else none) else some q_9)
abbrev octet_Store.R (κ : Ctx) (S : List HP) (x0 : Int) (x1 : Int) (r : List Int) : Ending → World → Prop := fun e w' => ∃ (A_r0 : Option Addr), ∃ (c_r0 : Nat), e = .returned (.slice A_r0 r.length c_r0) ∧ Ow κ w' (rowp A_r0 c_r0 5 1 (eI .u8) r :: S)
def octet_Store.m (k : Nat) (x0 : Int) (x1 : Int) : Option (List Int) := (if (0 : Int) ≤ (mx 0 (mn x1 8)) ∧ ((mx 0 (mn x1 8)) : Int) ≤ (mx 0 (mn x1 8)) ∧ (1 : Int) * (mx 0 (mn x1 8)) ≤ 281474976710656 then (octet_Store.l1 x0 x1 k (List.replicate (mx 0 (mn x1 8)).toNat 0 : List Int) 0).bind fun p_23 => some p_23 else none)

set_option maxRecDepth 100000 in
set_option maxHeartbeats 4000000 in
theorem octet_Store.ok (k : Nat) (x0 : Int) (x1 : Int) (r : List Int) (hm : octet_Store.m k x0 x1 = some r) (κ : Ctx) (w : World) (S : List HP) (ho : Ow κ w (S)) :
  Calls Try.prog 135 #[vw x0, vi x1] w (octet_Store.R κ S x0 x1 r) := by
 unfold octet_Store.m at hm
 generalize hRR : octet_Store.R κ S x0 x1 r = RR
 refine qen [(0, vw x0), (1, vi x1)] Try.func135 Try.ntmps135 ho fun a hs => ?_
 refine qse 1 [(0, vw x0), (1, vi x1)] hs fun a hs => ?_
 refine qsr fun K2 hK2 => ?_
 refine qpu 3 hs fun a hs => ?_
 obtain ⟨h_3, hm⟩ := ite_t hm
 refine Vk.step (Vk.makeOp (x := (.tmp 9)) (y := (.tmp 9)) (kl := .i64) (kc := .i64) (enc := (eI .u8)) (sz := 1) (by_ := 1) (t := 69) (e := 5) (0) (some 10) hs (by kernel_rfl) (by kernel_rfl) (by kernel_rfl) (by kernel_rfl) (by kernel_rfl) (by kernel_rfl) rfl (by decide) h_3 (by decide) fun A_4 w a hs => ?_)
 refine qpk 1 [0, 5] hs fun a hs => hK2 _ _ ?_
 clear hK2
 refine Vk.seq fun K6 hK6 => ?_
 refine qsk 3 [0, 5, 12, 13] hs fun a hs => ?_
 refine wp_block ?_
 obtain ⟨r8, hl8, hm⟩ := bind_t hm
 have hx8 : ∀ (p_23 : List Int), r8 = p_23 → ∀ (a : Act) (w : World), St 26 a w κ [(5, .slice A_4 p_23.length ((mx 0 (mn x1 8)).toNat))] (rowp A_4 ((mx 0 (mn x1 8)).toNat) 5 1 (eI .u8) p_23 :: S) → K6 a w := by
  intro p_23 he a w hs
  subst r8
  refine hK6 _ _ ?_
  clear hK6
  refine qse 2 [(4, .slice A_4 p_23.length ((mx 0 (mn x1 8)).toNat))] hs fun a hs => ?_
  refine wp_ret ?_
  exact qr1 (.slice A_4 p_23.length ((mx 0 (mn x1 8)).toNat)) hs rfl hRR (by cases hm; exact ⟨A_4, (mx 0 (mn x1 8)).toNat, rfl, hs.own⟩)
 refine Vk.loopBy (fun k (s : List Int × Int) a w => octet_Store.l1 x0 x1 k s.1 s.2 = some r8 ∧ St 26 a w κ [(0, vw x0), (5, .slice A_4 s.1.length ((mx 0 (mn x1 8)).toNat)), (12, vi (((List.replicate (mx 0 (mn x1 8)).toNat 0 : List Int).length : Nat) : Int)), (13, vi s.2)] (rowp A_4 ((mx 0 (mn x1 8)).toNat) 5 1 (eI .u8) s.1 :: S)) k ((List.replicate (mx 0 (mn x1 8)).toNat 0 : List Int), 0) ⟨hl8, hs.go [0, 5, 12, 13] [0] 1 (by kernel_rfl) (by kernel_rfl) (by kernel_rfl)⟩ (fun s a w h => by obtain ⟨h1, _⟩ := h; simp [octet_Store.l1] at h1) (fun k KL8 ih s a w h => ?_)
 obtain ⟨q_9, q_10⟩ := s
 obtain ⟨hm, hs⟩ := h
 try dsimp only at hm hs
 rw [octet_Store.l1] at hm
 refine qsk 1 [0, 5, 12, 13, 14] hs fun a hs => ?_
 refine Vk.seq fun K12 hK12 => ?_
 refine qcs (decide (q_10 < (((List.replicate (mx 0 (mn x1 8)).toNat 0 : List Int).length : Nat) : Int))) hs (fun hb => ?_) fun hb => ?_
 ·replace hm := bif_t hm hb
  refine wp_skip ?_
  refine hK12 _ _ ?_
  clear hK12
  refine Vk.seq fun K13 hK13 => ?_
  refine wp_block ?_
  refine qse 2 [(0, vw x0), (5, .slice A_4 q_9.length ((mx 0 (mn x1 8)).toNat)), (6, vi q_10), (12, vi (((List.replicate (mx 0 (mn x1 8)).toNat 0 : List Int).length : Nat) : Int)), (13, vi q_10)] hs fun a hs => ?_
  refine Vk.region ?_
  refine qpu 5 hs fun a hs => ?_
  obtain ⟨h_15, hm⟩ := ite_t hm
  refine qva (vw (shr .u64 x0 (IntKind.i64.wrap (8 * q_10)))) (op := (.binOp .shr 32 (.tmp 18) (.tmp 20) 3)) hs (fun o ho => run_shr (k' := .i64) ho (by kernel_rfl) (by kernel_rfl) h_15 _) fun a hs => ?_
  refine qpu 1 hs fun a hs => ?_
  obtain ⟨h_16, hm⟩ := ite_t hm
  obtain ⟨e_19, h_17, hm⟩ := bind_t hm
  obtain ⟨b_20, o_21, hA_22, h_18⟩ := Sl.elem (Ow.rowSl 0 hs.own rfl) h_17
  refine qva (.pointer (some ⟨b_20, o_21 + q_10.toNat * 1, none⟩)) (op := (.indexAddr 69 (.tmp 16) (.tmp 17))) hs (fun o ho => run_idxSlc (k := .i64) ho (cap := (mx 0 (mn x1 8)).toNat) (len := q_9.length) ((congrArg (fun A => Value.slice A (q_9.length) ((mx 0 (mn x1 8)).toNat)) hA_22) ▸ (by kernel_rfl)) (by kernel_rfl) (by kernel_rfl) (idx_ok h_16 h_17) _) fun a hs => ?_
  refine Vk.step (Vk.storeRow (T := 5) (ty := 5) (x := (.tmp 23)) (y := (.tmp 22)) (o := o_21) (m := q_10.toNat) (IntKind.u8.wrap (shr .u64 x0 (IntKind.i64.wrap (8 * q_10)))) 0 hs (by kernel_rfl) (by kernel_rfl) (by kernel_rfl) hA_22 rfl (by kernel_rfl) (by kernel_rfl) rfl (by kernel_rfl) rfl (lt_of_get h_17) fun a w hs => ?_)
  replace hs : St 26 a w κ [(0, vw x0), (5, .slice A_4 q_9.length ((mx 0 (mn x1 8)).toNat)), (6, vi q_10), (12, vi (((List.replicate (mx 0 (mn x1 8)).toNat 0 : List Int).length : Nat) : Int)), (13, vi q_10), (16, .slice A_4 q_9.length ((mx 0 (mn x1 8)).toNat)), (17, vi q_10), (18, vw x0), (19, vi q_10), (20, vi (IntKind.i64.wrap (8 * q_10))), (21, vw (shr .u64 x0 (IntKind.i64.wrap (8 * q_10)))), (22, .int .u8 (IntKind.u8.wrap (shr .u64 x0 (IntKind.i64.wrap (8 * q_10))))), (23, .pointer (some ⟨b_20, o_21 + q_10.toNat * 1, none⟩))] (rowp A_4 ((mx 0 (mn x1 8)).toNat) 5 1 (eI .u8) (q_9.set q_10.toNat (IntKind.u8.wrap (shr .u64 x0 (IntKind.i64.wrap (8 * q_10))))) :: S) := hs.pick [0, 5, 6, 12, 13, 16, 17, 18, 19, 20, 21, 22, 23] (by kernel_rfl)
  replace hs := hs.conv2 (L' := [(0, vw x0), (5, .slice A_4 ((q_9.set q_10.toNat (IntKind.u8.wrap (shr .u64 x0 (IntKind.i64.wrap (8 * q_10))))).length) ((mx 0 (mn x1 8)).toNat)), (6, vi q_10), (12, vi (((List.replicate (mx 0 (mn x1 8)).toNat 0 : List Int).length : Nat) : Int)), (13, vi q_10), (16, .slice A_4 ((q_9.set q_10.toNat (IntKind.u8.wrap (shr .u64 x0 (IntKind.i64.wrap (8 * q_10))))).length) ((mx 0 (mn x1 8)).toNat)), (17, vi q_10), (18, vw x0), (19, vi q_10), (20, vi (IntKind.i64.wrap (8 * q_10))), (21, vw (shr .u64 x0 (IntKind.i64.wrap (8 * q_10)))), (22, .int .u8 (IntKind.u8.wrap (shr .u64 x0 (IntKind.i64.wrap (8 * q_10))))), (23, .pointer (some ⟨b_20, o_21 + q_10.toNat * 1, none⟩))]) (S' := rowp A_4 ((mx 0 (mn x1 8)).toNat) 5 1 (eI .u8) (q_9.set q_10.toNat (IntKind.u8.wrap (shr .u64 x0 (IntKind.i64.wrap (8 * q_10))))) :: S) (by simp only [List.length_set]) (rfl)
  refine qpk 0 [0, 5, 12, 13] hs fun a hs => hK13 _ _ ?_
  clear hK13
  refine Vk.region ?_
  refine qpk 2 [0, 5, 12, 13] hs fun a hs => ?_
  refine ih ((q_9.set q_10.toNat (IntKind.u8.wrap (shr .u64 x0 (IntKind.i64.wrap (8 * q_10))))), (IntKind.i64.wrap (q_10 + 1))) _ _ ⟨hm, hs.go [0, 5, 12, 13] [0] 1 (by kernel_rfl) (by kernel_rfl) (by kernel_rfl)⟩
 ·replace hm := bif_f hm hb
  refine wp_exit ?_
  exact hx8 q_9 (Option.some.inj hm).symm _ _ (hs.go [5] [0] 1 (by kernel_rfl) (by kernel_rfl) (by kernel_rfl))

end Go.Proofs.Ytflgefjocjpjaaa
