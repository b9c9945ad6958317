/- Of each Go function that MapsTells comes to: a model in plain Lean, and that the program's call does what the model says; no condition. -/
import Derived.Test.YtflgefjocjpjaaaProg
import Derived.Test.YtflgefjocjpjaaaVgldpnmel
import Derived.Test.YtflgefjocjpjaaaMMapsTells0
namespace Go.Proofs.Ytflgefjocjpjaaa
open Go Go.Vk
set_option linter.unusedVariables false


def visorref19_M_Do.j6 (k : Nat) (x1 : Tapi_Op) (p_84 : Int) (p_100 : Tvisorref19_M) : Option ((Int × Tvisorref19_M)) := (visorref19_M_At.m k p_100 x1.a).bind fun v_110 => (visorref19_M_At.m k p_100 x1.b).bind fun v_113 => (visorref19_M_At.m k p_100 x1.d).bind fun v_116 => (visorref17_Eval.m k x1 v_110 v_113 v_116 p_84).bind fun v_119 => (if (p_100.val.length + ([v_119] : List Int).length) * 8 ≤ 140737488355328 then (if (p_100.ops.length + ([x1] : List Tapi_Op).length) * 48 ≤ 140737488355328 then (visorref19_M_Len.m k (⟨p_100.n, p_100.most, p_100.words, p_100.draws, p_100.fromF, p_100.skip, p_100.kind, p_100.e, p_100.ops ++ ([x1] : List Tapi_Op), p_100.blocks, p_100.val ++ ([v_119] : List Int), p_100.tape, p_100.dry⟩ : Tvisorref19_M)).bind fun v_135 => some (IntKind.i64.wrap (v_135 - 1), (⟨p_100.n, p_100.most, p_100.words, p_100.draws, p_100.fromF, p_100.skip, p_100.kind, p_100.e, p_100.ops ++ ([x1] : List Tapi_Op), p_100.blocks, p_100.val ++ ([v_119] : List Int), p_100.tape, p_100.dry⟩ : Tvisorref19_M)) else none) else none)
def visorref19_M_Do.j5 (k : Nat) (x1 : Tapi_Op) (p_84 : Int) (p_92 : Tvisorref19_M) : Option ((Int × Tvisorref19_M)) := (bif x1.kind == 2 then visorref19_M_Do.j6 k x1 p_84 (⟨p_92.n, p_92.most, IntKind.i64.wrap (p_92.words + 1), p_92.draws, p_92.fromF, p_92.skip, p_92.kind, p_92.e, p_92.ops, p_92.blocks, p_92.val, p_92.tape, p_92.dry⟩ : Tvisorref19_M) else visorref19_M_Do.j6 k x1 p_84 p_92)
def visorref19_M_Do.j4 (k : Nat) (x1 : Tapi_Op) (p_83 : Tvisorref19_M) (p_84 : Int) : Option ((Int × Tvisorref19_M)) := (bif x1.kind == 1 then visorref19_M_Do.j5 k x1 p_84 (⟨p_83.n, p_83.most, p_83.words, IntKind.i64.wrap (p_83.draws + 1), p_83.fromF, p_83.skip, p_83.kind, p_83.e, p_83.ops, p_83.blocks, p_83.val, p_83.tape, p_83.dry⟩ : Tvisorref19_M) else visorref19_M_Do.j5 k x1 p_84 p_83)
def visorref19_M_Do.j3 (k : Nat) (x1 : Tapi_Op) (p_74 : Int) (p_75 : Bool) (p_76 : Tvisorref19_M) : Option ((Int × Tvisorref19_M)) := (bif !p_75 then (visorref19_M_Fails.m k p_76 2).bind fun v_82 => some (v_82.1, v_82.2) else visorref19_M_Do.j4 k x1 p_76 p_74)
def visorref19_M_Do.j2 (k : Nat) (x0 : Tvisorref19_M) (x1 : Tapi_Op) (x2 : Int) (p_36 : Bool) : Option ((Int × Tvisorref19_M)) := (bif p_36 then (visorref19_M_Fails.m k x0 3).bind fun v_40 => some (v_40.1, v_40.2) else (bif (x1.kind == 1) && (!x0.dry) then (bif (decide (x0.tape.free < 1)) || (((x0.tape.l.length : Nat) : Int) == 0) then visorref19_M_Do.j3 k x1 0 false x0 else (if 0 ≤ (0 : Int) then (x0.tape.l[0]?).bind fun e_60 => (if ((0 : Int) ≤ 1) ∧ 1 ≤ x0.tape.l.length ∧ x0.tape.l.length ≤ x0.tape.l.length then visorref19_M_Do.j3 k x1 e_60 true (⟨x0.n, x0.most, x0.words, x0.draws, x0.fromF, x0.skip, x0.kind, x0.e, x0.ops, x0.blocks, x0.val, (⟨cut x0.tape.l (1) (x0.tape.l.length), IntKind.i64.wrap (x0.tape.used + 1), IntKind.i64.wrap (x0.tape.free - 1)⟩ : Tvisorref02_T), x0.dry⟩ : Tvisorref19_M) else none) else none)) else visorref19_M_Do.j4 k x1 x0 x2))
def visorref19_M_Do.j1 (k : Nat) (x0 : Tvisorref19_M) (x1 : Tapi_Op) (x2 : Int) (p_20 : Bool) : Option ((Int × Tvisorref19_M)) := (bif p_20 then (visorref19_M_Fails.m k x0 1).bind fun v_24 => some (v_24.1, v_24.2) else (bif !x0.dry then (visorref19_M_Len.m k x0).bind fun v_35 => visorref19_M_Do.j2 k x0 x1 x2 (decide (v_35 ≥ x0.most)) else visorref19_M_Do.j2 k x0 x1 x2 false))
abbrev visorref19_M_Do.R (κ : Ctx) (S : List HP) (x0 : Tvisorref19_M) (x1 : Tapi_Op) (x2 : Int) (b_x0 : Nat) (r : (Int × Tvisorref19_M)) : Ending → World → Prop := fun e w' => e = .returned (vi r.1) ∧ Ow κ w' (Tvisorref19_M.own κ b_x0 r.2 :: S)
def visorref19_M_Do.m (k : Nat) (x0 : Tvisorref19_M) (x1 : Tapi_Op) (x2 : Int) : Option (Int × Tvisorref19_M) := (bif x0.e != 0 then some ((-1), x0) else (visorref19_M_Len.m k x0).bind fun v_16 => (visorref17_Right.m k x1 v_16 x0.n).bind fun v_19 => (bif !v_19 then visorref19_M_Do.j1 k x0 x1 x2 true else (bif x1.kind == 2 then visorref19_M_Do.j1 k x0 x1 x2 (x1.c != (IntKind.u64.wrap x0.words)) else visorref19_M_Do.j1 k x0 x1 x2 false)))

set_option maxRecDepth 100000 in
set_option maxHeartbeats 4000000 in
theorem visorref19_M_Do.ok (k : Nat) (x0 : Tvisorref19_M) (x1 : Tapi_Op) (x2 : Int) (r : (Int × Tvisorref19_M)) (hm : visorref19_M_Do.m k x0 x1 x2 = some r) (κ : Ctx) (w : World) (S : List HP) (b_x0 : Nat) (ho : Ow κ w (Tvisorref19_M.own κ b_x0 x0 :: S)) :
  Calls Try.prog 55 #[pp b_x0, .agg (vals [ci x1.kind, ci x1.dom, ci x1.a, ci x1.b, ci x1.d, cw x1.c]), vw x2] w (visorref19_M_Do.R κ S x0 x1 x2 b_x0 r) := by
 unfold visorref19_M_Do.m at hm
 generalize hRR : visorref19_M_Do.R κ S x0 x1 x2 b_x0 r = RR
 refine qen [(0, pp b_x0), (1, .agg (vals [ci x1.kind, ci x1.dom, ci x1.a, ci x1.b, ci x1.d, cw x1.c])), (2, vw x2)] Try.func55 Try.ntmps55 ho fun a hs => ?_
 refine qsr fun K1 hK1 => ?_
 refine qbx 1 93 [ci x1.kind, ci x1.dom, ci x1.a, ci x1.b, ci x1.d, cw x1.c] 4 hs fun b_2 w a hs => ?_
 refine qpe 1 [(0, pp b_x0), (2, vw x2), (4, pp b_2)] hs fun a hs => hK1 _ _ ?_
 clear hK1
 refine Vk.seq fun K3 hK3 => ?_
 refine qsr fun K4 hK4 => ?_
 refine qpu 3 hs fun a hs => ?_
 obtain ⟨g_5, hs⟩ := hs.unbag 1 rfl
 refine qld 0 (ci x0.e) hs rfl fun a hs => ?_
 refine qpk 1 [0, 2, 4, 13] hs fun a hs => hK4 _ _ ?_
 clear hK4
 refine qcs (x0.e != 0) hs (fun hb => ?_) fun hb => ?_
 ·replace hm := bif_t hm hb
  refine qse 1 [(6, vi (-1))] hs fun a hs => ?_
  refine wp_ret ?_
  replace hs := hs.bagG (l := Tvisorref19_M.parts κ b_x0 x0 g_5) (S' := pt b_2 (blk (Tapi_Op.cells x1) 93) :: S) hs.own
  replace hs := hs.toEx (Tvisorref19_M.parts κ b_x0 x0) g_5 0 rfl
  exact qr1 (vi (-1)) hs rfl hRR (by cases hm; exact ⟨rfl, hs.own.f1.drop⟩)
 ·replace hm := bif_f hm hb
  refine wp_skip ?_
  refine hK3 _ _ ?_
  clear hK3
  refine Vk.seq fun K11 hK11 => ?_
  refine Vk.seq fun K12 hK12 => ?_
  have hj12 : ∀ (p_20 : Bool), visorref19_M_Do.j1 k x0 x1 x2 p_20 = some r → ∀ (a : Act) (w : World), St 137 a w κ [(0, pp b_x0), (2, vw x2), (4, pp b_2), (37, .bool p_20)] (Tvisorref19_M.own κ b_x0 x0 :: pt b_2 (blk (Tapi_Op.cells x1) 93) :: S) → K12 a w := by
   intro p_20 hm a w hs
   unfold visorref19_M_Do.j1 at hm
   refine hK12 _ _ ?_
   refine qcs (p_20) hs (fun hb => ?_) fun hb => ?_
   ·replace hm := bif_t hm hb
    refine qsr fun K21 hK21 => ?_
    refine qpu 1 hs fun a hs => ?_
    obtain ⟨v_24, h_23, hm⟩ := bind_t hm
    refine qcl (visorref19_M_Fails.ok _ _ _ _ h_23 _ _ _ b_x0 hs.own) hs fun w a hs => ?_
    refine qpe 1 [(6, vi v_24.1)] hs fun a hs => hK21 _ _ ?_
    clear hK21
    refine wp_ret ?_
    exact qr1 (vi v_24.1) hs rfl hRR (by cases hm; exact ⟨rfl, hs.own.f1.drop⟩)
   ·replace hm := bif_f hm hb
    refine wp_skip ?_
    refine hK11 _ _ ?_
    clear hK11
    refine Vk.seq fun K25 hK25 => ?_
    refine Vk.seq fun K26 hK26 => ?_
    have hj26 : ∀ (p_36 : Bool), visorref19_M_Do.j2 k x0 x1 x2 p_36 = some r → ∀ (a : Act) (w : World), St 137 a w κ [(0, pp b_x0), (2, vw x2), (4, pp b_2), (53, .bool p_36)] (Tvisorref19_M.own κ b_x0 x0 :: pt b_2 (blk (Tapi_Op.cells x1) 93) :: S) → K26 a w := by
     intro p_36 hm a w hs
     unfold visorref19_M_Do.j2 at hm
     refine hK26 _ _ ?_
     refine qcs (p_36) hs (fun hb => ?_) fun hb => ?_
     ·replace hm := bif_t hm hb
      refine qsr fun K37 hK37 => ?_
      refine qpu 1 hs fun a hs => ?_
      obtain ⟨v_40, h_39, hm⟩ := bind_t hm
      refine qcl (visorref19_M_Fails.ok _ _ _ _ h_39 _ _ _ b_x0 hs.own) hs fun w a hs => ?_
      refine qpe 1 [(6, vi v_40.1)] hs fun a hs => hK37 _ _ ?_
      clear hK37
      refine wp_ret ?_
      exact qr1 (vi v_40.1) hs rfl hRR (by cases hm; exact ⟨rfl, hs.own.f1.drop⟩)
     ·replace hm := bif_f hm hb
      refine wp_skip ?_
      refine hK25 _ _ ?_
      clear hK25
      refine Vk.seq fun K41 hK41 => ?_
      have hj41 : ∀ (p_83 : Tvisorref19_M) (p_84 : Int), visorref19_M_Do.j4 k x1 p_83 p_84 = some r → ∀ (a : Act) (w : World), St 137 a w κ [(0, pp b_x0), (2, vw p_84), (4, pp b_2)] (Tvisorref19_M.own κ b_x0 p_83 :: pt b_2 (blk (Tapi_Op.cells x1) 93) :: S) → K41 a w := by
       intro p_83 p_84 hm a w hs
       unfold visorref19_M_Do.j4 at hm
       refine hK41 _ _ ?_
       refine Vk.seq fun K85 hK85 => ?_
       have hj85 : ∀ (p_92 : Tvisorref19_M), visorref19_M_Do.j5 k x1 p_84 p_92 = some r → ∀ (a : Act) (w : World), St 137 a w κ [(0, pp b_x0), (2, vw p_84), (4, pp b_2)] (Tvisorref19_M.own κ b_x0 p_92 :: pt b_2 (blk (Tapi_Op.cells x1) 93) :: S) → K85 a w := by
        intro p_92 hm a w hs
        unfold visorref19_M_Do.j5 at hm
        refine hK85 _ _ ?_
        refine Vk.seq fun K93 hK93 => ?_
        have hj93 : ∀ (p_100 : Tvisorref19_M), visorref19_M_Do.j6 k x1 p_84 p_100 = some r → ∀ (a : Act) (w : World), St 137 a w κ [(0, pp b_x0), (2, vw p_84), (4, pp b_2)] (Tvisorref19_M.own κ b_x0 p_100 :: pt b_2 (blk (Tapi_Op.cells x1) 93) :: S) → K93 a w := by
         intro p_100 hm a w hs
         unfold visorref19_M_Do.j6 at hm
         refine hK93 _ _ ?_
         refine Vk.seq fun K101 hK101 => ?_
         obtain ⟨g_102, hs⟩ := hs.unbag 0 rfl
         obtain ⟨C_107, hC_107⟩ := qC hs.own.f3.drop
         refine qdr 22 κ C_107 hs fun w hs hqC_107 => ?_
         have hcl := qO hC_107 hs.own.f3.drop
         refine qdp (fuel := 14) [0, 1, 2, 3, 6, 7, 10, 11, 14, 15, 18] hs hcl hqC_107 fun a hs => ?_
         refine qdl 4 0 (C.slc g_102.2.2.2.2.1 p_100.val.length g_102.2.2.2.2.2.1) hs hcl hqC_107 hC_107 rfl fun a hs => ?_
         refine qdn 5 4 ([ci x1.kind, ci x1.dom, ci x1.a, ci x1.b, ci x1.d, cw x1.c]) hs hcl hqC_107 hC_107 rfl fun a hs => ?_
         refine qdl 8 4 (ci x1.a) hs hcl hqC_107 hC_107 rfl fun a hs => ?_
         refine qdl 12 4 (ci x1.b) hs hcl hqC_107 hC_107 rfl fun a hs => ?_
         refine qdl 16 4 (ci x1.d) hs hcl hqC_107 hC_107 rfl fun a hs => ?_
         replace hs := hs.bagG (l := Tvisorref19_M.parts κ b_x0 p_100 g_102) (S' := pt b_2 (blk (Tapi_Op.cells x1) 93) :: S) hs.own
         obtain ⟨v_110, h_109, hm⟩ := bind_t hm
         refine qdc 9 (visorref19_M_At.ok _ _ _ _ h_109 _ _ _ b_x0 g_102 hs.own) hs fun w a hs => ?_
         replace hs := hs.unbagAt 0 rfl
         replace hcl := qO hC_107 hs.own.f3.drop
         refine ⟨fun _ => hcl, ?_⟩
         replace hs := hs.bagG (l := Tvisorref19_M.parts κ b_x0 p_100 g_102) (S' := pt b_2 (blk (Tapi_Op.cells x1) 93) :: S) hs.own
         obtain ⟨v_113, h_112, hm⟩ := bind_t hm
         refine qdc 13 (visorref19_M_At.ok _ _ _ _ h_112 _ _ _ b_x0 g_102 hs.own) hs fun w a hs => ?_
         replace hs := hs.unbagAt 0 rfl
         replace hcl := qO hC_107 hs.own.f3.drop
         refine ⟨fun _ => hcl, ?_⟩
         replace hs := hs.bagG (l := Tvisorref19_M.parts κ b_x0 p_100 g_102) (S' := pt b_2 (blk (Tapi_Op.cells x1) 93) :: S) hs.own
         obtain ⟨v_116, h_115, hm⟩ := bind_t hm
         refine qdc 17 (visorref19_M_At.ok _ _ _ _ h_115 _ _ _ b_x0 g_102 hs.own) hs fun w a hs => ?_
         replace hs := hs.unbagAt 0 rfl
         replace hcl := qO hC_107 hs.own.f3.drop
         refine ⟨fun _ => hcl, ?_⟩
         obtain ⟨v_119, h_118, hm⟩ := bind_t hm
         refine qdc 19 (visorref17_Eval.ok _ _ _ _ _ _ _ h_118 _ _ (pt b_x0 (blk (Tvisorref19_M.obj p_100 g_102.1 g_102.2.1 g_102.2.2.1 g_102.2.2.2.1 g_102.2.2.2.2.1 g_102.2.2.2.2.2.1 g_102.2.2.2.2.2.2.1 g_102.2.2.2.2.2.2.2) 64) :: rowp g_102.1 g_102.2.1 93 6 Tapi_Op.cells p_100.ops :: rowp g_102.2.2.1 g_102.2.2.2.1 175 3 Tapi_Span.cells p_100.blocks :: rowp g_102.2.2.2.2.1 g_102.2.2.2.2.2.1 32 1 (eI .u64) p_100.val :: rdp κ g_102.2.2.2.2.2.2.1 g_102.2.2.2.2.2.2.2 1 (eI .u64) p_100.tape.l :: pt b_2 (blk (Tapi_Op.cells x1) 93) :: S) hs.own) hs fun w a hs => ?_
         replace hcl := qO hC_107 hs.own.f3.drop
         refine ⟨fun _ => hcl, ?_⟩
         refine Vk.dOnly (i := 20) (by kernel_rfl) (Vk.buildOp (sz := 1) (by_ := 8) (t := 25) (e := 32) (parts := #[(0, (.tmp 119))]) (zs := vals [cw 0]) ([v_119] : List Int) (eI .u64) (some 120) hs (by kernel_rfl) (by kernel_rfl) (by kernel_rfl) (by kernel_rfl) (by decide) rfl (fun x _ => rfl) (Nat.le_of_ble_eq_true (by kernel_rfl)) (by kernel_rfl) fun A_120 w a hs => ?_)
         replace hcl := qO hC_107 hs.own.f4.drop.drop
         refine ⟨fun _ => hcl, ?_⟩
         obtain ⟨h_122, hm⟩ := ite_t hm
         refine Vk.dOnly (i := 21) (by kernel_rfl) (Vk.appendOp (x := (.tmp 104)) (y := (.tmp 120)) (e := 32) (t := 25) (by_ := 8) (sz := 1) (enc := (eI .u64)) (A := g_102.2.2.2.2.1) (cap := g_102.2.2.2.2.2.1) (xs := p_100.val) (ys := ([v_119] : List Int)) (B := A_120) (c2 := 1) 4 (some 121) hs (by kernel_rfl) (by kernel_rfl) (by kernel_rfl) (by kernel_rfl) rfl (Sl.lift (fun w ho => (Ow.to (S' := rowp A_120 1 32 1 (eI .u64) ([v_119] : List Int) :: S) ho [0] 7 (by kernel_rfl) (by kernel_rfl))) (Ow.rowSl 0 (Ow.to (S' := rowp A_120 1 32 1 (eI .u64) ([v_119] : List Int) :: S) hs.own [0] 7 (by kernel_rfl) (by kernel_rfl)) rfl)) (by kernel_rfl) (by kernel_rfl) (by decide) (by decide) h_122 fun A_123 c_124 w a hs => ?_)
         replace hcl := qO hC_107 hs.own.f4.drop.drop
         refine ⟨fun _ => hcl, ?_⟩
         refine Vk.dOnly (i := 22) (by kernel_rfl) (Vk.dPure1 [(122, pp b_x0)] hs (by kernel_rfl) fun a hs => ?_)
         refine ⟨fun h => absurd h (by decide), ?_⟩
         refine Vk.dOnly (i := 23) (by kernel_rfl) (Vk.dPure1 [(123, .pointer (some ⟨b_x0, 10, none⟩))] hs (by kernel_rfl) fun a hs => ?_)
         refine ⟨fun h => absurd h (by decide), ?_⟩
         refine qsd 24 1 10 (C.slc A_123 ((p_100.val ++ ([v_119] : List Int)).length) c_124) hs rfl fun a w hs => ?_
         refine ⟨fun h => absurd h (by decide), ?_⟩
         replace hs := hs.pick [0, 4] (L' := [(0, pp b_x0), (4, pp b_2)]) (by kernel_rfl)
         refine Vk.dDone (by kernel_rfl) ?_
         refine hK101 _ _ ?_
         clear hK101
         refine Vk.seq fun K125 hK125 => ?_
         obtain ⟨C_126, hC_126⟩ := qC hs.own.f2.drop
         refine qdr 8 κ C_126 hs fun w hs hqC_126 => ?_
         have hcl := qO hC_126 hs.own.f2.drop
         refine qdp (fuel := 7) [0, 1, 2, 3] hs hcl hqC_126 fun a hs => ?_
         refine qdl 4 1 (C.slc g_102.1 p_100.ops.length g_102.2.1) hs hcl hqC_126 hC_126 rfl fun a hs => ?_
         refine qdn 5 5 ([ci x1.kind, ci x1.dom, ci x1.a, ci x1.b, ci x1.d, cw x1.c]) hs hcl hqC_126 hC_126 rfl fun a hs => ?_
         refine Vk.dOnly (i := 6) (by kernel_rfl) (Vk.buildOp (sz := 6) (by_ := 48) (t := 59) (e := 93) (parts := #[(0, (.tmp 129))]) (zs := vals [ci 0, ci 0, ci 0, ci 0, ci 0, cw 0]) ([x1] : List Tapi_Op) Tapi_Op.cells (some 130) hs (by kernel_rfl) (by kernel_rfl) (by kernel_rfl) (by kernel_rfl) (by decide) rfl (fun x _ => rfl) (Nat.le_of_ble_eq_true (by kernel_rfl)) (by kernel_rfl) fun A_127 w a hs => ?_)
         replace hcl := qO hC_126 hs.own.f3.drop.drop
         refine ⟨fun _ => hcl, ?_⟩
         obtain ⟨h_129, hm⟩ := ite_t hm
         refine Vk.dOnly (i := 7) (by kernel_rfl) (Vk.appendOp (x := (.tmp 128)) (y := (.tmp 130)) (e := 93) (t := 59) (by_ := 48) (sz := 6) (enc := Tapi_Op.cells) (A := g_102.1) (cap := g_102.2.1) (xs := p_100.ops) (ys := ([x1] : List Tapi_Op)) (B := A_127) (c2 := 1) 3 (some 131) hs (by kernel_rfl) (by kernel_rfl) (by kernel_rfl) (by kernel_rfl) rfl (Sl.lift (fun w ho => (Ow.to (S' := rowp A_127 1 93 6 Tapi_Op.cells ([x1] : List Tapi_Op) :: S) ho [0] 8 (by kernel_rfl) (by kernel_rfl))) (Ow.rowSl 0 (Ow.to (S' := rowp A_127 1 93 6 Tapi_Op.cells ([x1] : List Tapi_Op) :: S) hs.own [0] 8 (by kernel_rfl) (by kernel_rfl)) rfl)) (by kernel_rfl) (by kernel_rfl) (by decide) (by decide) h_129 fun A_130 c_131 w a hs => ?_)
         replace hcl := qO hC_126 hs.own.f3.drop.drop
         refine ⟨fun _ => hcl, ?_⟩
         refine Vk.dOnly (i := 8) (by kernel_rfl) (Vk.dPure1 [(132, pp b_x0)] hs (by kernel_rfl) fun a hs => ?_)
         refine ⟨fun h => absurd h (by decide), ?_⟩
         refine Vk.dOnly (i := 9) (by kernel_rfl) (Vk.dPure1 [(133, .pointer (some ⟨b_x0, 8, none⟩))] hs (by kernel_rfl) fun a hs => ?_)
         refine ⟨fun h => absurd h (by decide), ?_⟩
         refine qsd 10 2 8 (C.slc A_130 ((p_100.ops ++ ([x1] : List Tapi_Op)).length) c_131) hs rfl fun a w hs => ?_
         refine ⟨fun h => absurd h (by decide), ?_⟩
         replace hs := hs.pick [0] (L' := [(0, pp b_x0)]) (by kernel_rfl)
         refine Vk.dDone (by kernel_rfl) ?_
         refine hK125 _ _ ?_
         clear hK125
         refine qsr fun K132 hK132 => ?_
         refine qpu 1 hs fun a hs => ?_
         replace hs := hs.bagG (l := Tvisorref19_M.parts κ b_x0 (⟨p_100.n, p_100.most, p_100.words, p_100.draws, p_100.fromF, p_100.skip, p_100.kind, p_100.e, p_100.ops ++ ([x1] : List Tapi_Op), p_100.blocks, p_100.val ++ ([v_119] : List Int), p_100.tape, p_100.dry⟩ : Tvisorref19_M) (A_130, c_131, g_102.2.2.1, g_102.2.2.2.1, A_123, c_124, g_102.2.2.2.2.2.2.1, g_102.2.2.2.2.2.2.2)) (S' := rowp A_127 1 93 6 Tapi_Op.cells ([x1] : List Tapi_Op) :: rowp A_120 1 32 1 (eI .u64) ([v_119] : List Int) :: pt b_2 (blk (Tapi_Op.cells x1) 93) :: S) hs.own.f6.f6.f6.f6.f6
         obtain ⟨v_135, h_134, hm⟩ := bind_t hm
         refine qcl (visorref19_M_Len.ok _ _ _ h_134 _ _ _ b_x0 (A_130, c_131, g_102.2.2.1, g_102.2.2.2.1, A_123, c_124, g_102.2.2.2.2.2.2.1, g_102.2.2.2.2.2.2.2) hs.own) hs fun w a hs => ?_
         replace hs := hs.unbagAt 0 rfl
         refine qpk 2 [6] hs fun a hs => hK132 _ _ ?_
         clear hK132
         refine wp_ret ?_
         replace hs := hs.bagG (l := Tvisorref19_M.parts κ b_x0 (⟨p_100.n, p_100.most, p_100.words, p_100.draws, p_100.fromF, p_100.skip, p_100.kind, p_100.e, p_100.ops ++ ([x1] : List Tapi_Op), p_100.blocks, p_100.val ++ ([v_119] : List Int), p_100.tape, p_100.dry⟩ : Tvisorref19_M) (A_130, c_131, g_102.2.2.1, g_102.2.2.2.1, A_123, c_124, g_102.2.2.2.2.2.2.1, g_102.2.2.2.2.2.2.2)) (S' := rowp A_127 1 93 6 Tapi_Op.cells ([x1] : List Tapi_Op) :: rowp A_120 1 32 1 (eI .u64) ([v_119] : List Int) :: pt b_2 (blk (Tapi_Op.cells x1) 93) :: S) hs.own
         replace hs := hs.toEx (Tvisorref19_M.parts κ b_x0 (⟨p_100.n, p_100.most, p_100.words, p_100.draws, p_100.fromF, p_100.skip, p_100.kind, p_100.e, p_100.ops ++ ([x1] : List Tapi_Op), p_100.blocks, p_100.val ++ ([v_119] : List Int), p_100.tape, p_100.dry⟩ : Tvisorref19_M)) (A_130, c_131, g_102.2.2.1, g_102.2.2.2.1, A_123, c_124, g_102.2.2.2.2.2.2.1, g_102.2.2.2.2.2.2.2) 0 rfl
         exact qr1 (vi (IntKind.i64.wrap (v_135 - 1))) hs rfl hRR (by cases hm; exact ⟨rfl, (hs.own.too [0] 4)⟩)
        refine qsr fun K94 hK94 => ?_
        refine qpu 1 hs fun a hs => ?_
        refine qld 1 (ci x1.kind) hs rfl fun a hs => ?_
        refine qpe 1 [(0, pp b_x0), (2, vw p_84), (4, pp b_2), (91, .bool (x1.kind == 2))] hs fun a hs => hK94 _ _ ?_
        clear hK94
        refine qcs (x1.kind == 2) hs (fun hb => ?_) fun hb => ?_
        ·replace hm := bif_t hm hb
         refine Vk.region ?_
         refine qpu 4 hs fun a hs => ?_
         obtain ⟨g_95, hs⟩ := hs.unbag 0 rfl
         refine qld 0 (ci p_92.words) hs rfl fun a hs => ?_
         refine qpu 3 hs fun a hs => ?_
         refine qst 0 2 (ci (IntKind.i64.wrap (p_92.words + 1))) hs rfl fun a w hs => ?_
         refine qpe 0 [(0, pp b_x0), (2, vw p_84), (4, pp b_2)] hs fun a hs => ?_
         replace hs := hs.bagG (l := Tvisorref19_M.parts κ b_x0 (⟨p_92.n, p_92.most, IntKind.i64.wrap (p_92.words + 1), p_92.draws, p_92.fromF, p_92.skip, p_92.kind, p_92.e, p_92.ops, p_92.blocks, p_92.val, p_92.tape, p_92.dry⟩ : Tvisorref19_M) g_95) (S' := pt b_2 (blk (Tapi_Op.cells x1) 93) :: S) hs.own
         replace hs := hs.toEx (Tvisorref19_M.parts κ b_x0 (⟨p_92.n, p_92.most, IntKind.i64.wrap (p_92.words + 1), p_92.draws, p_92.fromF, p_92.skip, p_92.kind, p_92.e, p_92.ops, p_92.blocks, p_92.val, p_92.tape, p_92.dry⟩ : Tvisorref19_M)) g_95 0 rfl
         exact hj93 (⟨p_92.n, p_92.most, IntKind.i64.wrap (p_92.words + 1), p_92.draws, p_92.fromF, p_92.skip, p_92.kind, p_92.e, p_92.ops, p_92.blocks, p_92.val, p_92.tape, p_92.dry⟩ : Tvisorref19_M) hm _ _ (hs.go [0, 2, 4] [0, 1] 2 (by kernel_rfl) (by kernel_rfl) (by kernel_rfl))
        ·replace hm := bif_f hm hb
         refine wp_skip ?_
         exact hj93 p_92 hm _ _ (hs.go [0, 2, 4] [0, 1] 2 (by kernel_rfl) (by kernel_rfl) (by kernel_rfl))
       refine qsr fun K86 hK86 => ?_
       refine qpu 1 hs fun a hs => ?_
       refine qld 1 (ci x1.kind) hs rfl fun a hs => ?_
       refine qpe 1 [(0, pp b_x0), (2, vw p_84), (4, pp b_2), (80, .bool (x1.kind == 1))] hs fun a hs => hK86 _ _ ?_
       clear hK86
       refine qcs (x1.kind == 1) hs (fun hb => ?_) fun hb => ?_
       ·replace hm := bif_t hm hb
        refine Vk.region ?_
        refine qpu 4 hs fun a hs => ?_
        obtain ⟨g_87, hs⟩ := hs.unbag 0 rfl
        refine qld 0 (ci p_83.draws) hs rfl fun a hs => ?_
        refine qpu 3 hs fun a hs => ?_
        refine qst 0 3 (ci (IntKind.i64.wrap (p_83.draws + 1))) hs rfl fun a w hs => ?_
        refine qpe 0 [(0, pp b_x0), (2, vw p_84), (4, pp b_2)] hs fun a hs => ?_
        replace hs := hs.bagG (l := Tvisorref19_M.parts κ b_x0 (⟨p_83.n, p_83.most, p_83.words, IntKind.i64.wrap (p_83.draws + 1), p_83.fromF, p_83.skip, p_83.kind, p_83.e, p_83.ops, p_83.blocks, p_83.val, p_83.tape, p_83.dry⟩ : Tvisorref19_M) g_87) (S' := pt b_2 (blk (Tapi_Op.cells x1) 93) :: S) hs.own
        replace hs := hs.toEx (Tvisorref19_M.parts κ b_x0 (⟨p_83.n, p_83.most, p_83.words, IntKind.i64.wrap (p_83.draws + 1), p_83.fromF, p_83.skip, p_83.kind, p_83.e, p_83.ops, p_83.blocks, p_83.val, p_83.tape, p_83.dry⟩ : Tvisorref19_M)) g_87 0 rfl
        exact hj85 (⟨p_83.n, p_83.most, p_83.words, IntKind.i64.wrap (p_83.draws + 1), p_83.fromF, p_83.skip, p_83.kind, p_83.e, p_83.ops, p_83.blocks, p_83.val, p_83.tape, p_83.dry⟩ : Tvisorref19_M) hm _ _ (hs.go [0, 2, 4] [0, 1] 2 (by kernel_rfl) (by kernel_rfl) (by kernel_rfl))
       ·replace hm := bif_f hm hb
        refine wp_skip ?_
        exact hj85 p_83 hm _ _ (hs.go [0, 2, 4] [0, 1] 2 (by kernel_rfl) (by kernel_rfl) (by kernel_rfl))
      refine qsr fun K42 hK42 => ?_
      refine qpu 1 hs fun a hs => ?_
      refine qld 1 (ci x1.kind) hs rfl fun a hs => ?_
      refine qpu 2 hs fun a hs => ?_
      obtain ⟨g_43, hs⟩ := hs.unbag 0 rfl
      suffices hj_48 : ∀ a, St 137 a w κ [(0, pp b_x0), (2, vw x2), (4, pp b_2), (53, .bool p_36), (56, pp b_2), (57, vi x1.kind), (58, .bool (x1.kind == 1)), (59, .bool (x1.kind == 1)), (65, .bool ((x1.kind == 1) && (!x0.dry)))] (pt b_x0 (blk (Tvisorref19_M.obj x0 g_43.1 g_43.2.1 g_43.2.2.1 g_43.2.2.2.1 g_43.2.2.2.2.1 g_43.2.2.2.2.2.1 g_43.2.2.2.2.2.2.1 g_43.2.2.2.2.2.2.2) 64) :: rowp g_43.1 g_43.2.1 93 6 Tapi_Op.cells x0.ops :: rowp g_43.2.2.1 g_43.2.2.2.1 175 3 Tapi_Span.cells x0.blocks :: rowp g_43.2.2.2.2.1 g_43.2.2.2.2.2.1 32 1 (eI .u64) x0.val :: rdp κ g_43.2.2.2.2.2.2.1 g_43.2.2.2.2.2.2.2 1 (eI .u64) x0.tape.l :: pt b_2 (blk (Tapi_Op.cells x1) 93) :: S) → wpFrom Try.prog _ _ 10 a w by
       rcases Bool.eq_false_or_eq_true (x1.kind == 1) with hb | hb
       ·replace hs := hs.known (t := 59) hb (by kernel_rfl)
        refine qpu 3 hs fun a hs => ?_
        refine qld 0 (C.bool x0.dry) hs rfl fun a hs => ?_
        refine qpu 2 hs fun a hs => ?_
        have hq := hs.pick [0, 2, 4, 53, 56, 57, 58, 59, 65] (L' := [(0, pp b_x0), (2, vw x2), (4, pp b_2), (53, .bool p_36), (56, pp b_2), (57, vi x1.kind), (58, .bool (x1.kind == 1)), (59, .bool true), (65, .bool (!x0.dry))]) (by kernel_rfl)
        exact hj_48 _ (hq.conv (by first | (rw [hb] <;> rfl) | rfl))
       ·replace hs := hs.known (t := 59) hb (by kernel_rfl)
        refine qpu 6 hs fun a hs => ?_
        have hq := hs.pick [0, 2, 4, 53, 56, 57, 58, 59, 65] (L' := [(0, pp b_x0), (2, vw x2), (4, pp b_2), (53, .bool p_36), (56, pp b_2), (57, vi x1.kind), (58, .bool (x1.kind == 1)), (59, .bool false), (65, .bool false)]) (by kernel_rfl)
        exact hj_48 _ (hq.conv (by first | (rw [hb] <;> rfl) | rfl))
      intro a hs
      refine qpk 0 [0, 2, 4, 65] hs fun a hs => hK42 _ _ ?_
      clear hK42
      refine qcs ((x1.kind == 1) && (!x0.dry)) hs (fun hb => ?_) fun hb => ?_
      ·replace hm := bif_t hm hb
       refine qsr fun K49 hK49 => ?_
       refine qpu 3 hs fun a hs => ?_
       refine Vk.step (Vk.call (some 70) 129 #[.pointer (some ⟨b_x0, 11, none⟩)] hs (by kernel_rfl) (by kernel_rfl) (by kernel_rfl) ?_)
       refine Vk.enterI [(0, .pointer (some ⟨b_x0, 11, none⟩))] Try.func129 rfl Try.ntmps129 (by kernel_rfl) (Nat.le_of_ble_eq_true (by kernel_rfl)) hs.own fun KR50 hKR50 hKP50 a hs => ?_
       have hj50 : ∀ (p_74 : Int) (p_75 : Bool) (p_76 : Tvisorref19_M), visorref19_M_Do.j3 k x1 p_74 p_75 p_76 = some r → ∀ (a : Act) (w : World), St 49 a w κ [(2, vw p_74), (3, .bool p_75)] (Tvisorref19_M.own κ b_x0 p_76 :: pt b_2 (blk (Tapi_Op.cells x1) 93) :: S) → KR50 a w := by
        intro p_74 p_75 p_76 hm a w hs
        unfold visorref19_M_Do.j3 at hm
        refine hKR50 _ _ ?_
        refine Vk.ret2 (P := Try.prog) (fn := Try.f129) (vw p_74) (.bool p_75) hs rfl (by kernel_rfl) (by kernel_rfl) ⟨_, _, _, rfl, hs.own, fun a hs => ?_⟩
        refine qpk 5 [0, 4, 7, 8] hs fun a hs => hK49 _ _ ?_
        clear hK49
        refine Vk.seq fun K77 hK77 => ?_
        refine qsk 2 [0, 4, 7, 74] hs fun a hs => ?_
        refine qcs (!p_75) hs (fun hb => ?_) fun hb => ?_
        ·replace hm := bif_t hm hb
         refine qsr fun K79 hK79 => ?_
         refine qpu 1 hs fun a hs => ?_
         obtain ⟨v_82, h_81, hm⟩ := bind_t hm
         refine qcl (visorref19_M_Fails.ok _ _ _ _ h_81 _ _ _ b_x0 hs.own) hs fun w a hs => ?_
         refine qpe 1 [(6, vi v_82.1)] hs fun a hs => hK79 _ _ ?_
         clear hK79
         refine wp_ret ?_
         exact qr1 (vi v_82.1) hs rfl hRR (by cases hm; exact ⟨rfl, hs.own.f1.drop⟩)
        ·replace hm := bif_f hm hb
         refine wp_skip ?_
         refine hK77 _ _ ?_
         clear hK77
         refine Vk.region ?_
         refine qpe 2 [(0, pp b_x0), (2, vw p_74), (4, pp b_2)] hs fun a hs => ?_
         exact hj41 p_76 p_74 hm _ _ (hs.go [0, 2, 4] [0, 1] 2 (by kernel_rfl) (by kernel_rfl) (by kernel_rfl))
       refine qse 2 [(0, .pointer (some ⟨b_x0, 11, none⟩))] hs fun a hs => ?_
       refine Vk.seq fun K52 hK52 => ?_
       refine qsr fun K53 hK53 => ?_
       refine qpu 3 hs fun a hs => ?_
       refine qld 0 (ci x0.tape.free) hs rfl fun a hs => ?_
       refine qpu 2 hs fun a hs => ?_
       suffices hj_54 : ∀ a, St 49 a w κ [(0, .pointer (some ⟨b_x0, 11, none⟩)), (5, .pointer (some ⟨b_x0, 11, none⟩)), (6, .pointer (some ⟨b_x0, 11, none⟩)), (7, .pointer (some ⟨b_x0, 13, none⟩)), (8, vi x0.tape.free), (9, .bool (decide (x0.tape.free < 1))), (10, .bool (decide (x0.tape.free < 1))), (17, .bool ((decide (x0.tape.free < 1)) || (((x0.tape.l.length : Nat) : Int) == 0)))] (pt b_x0 (blk (Tvisorref19_M.obj x0 g_43.1 g_43.2.1 g_43.2.2.1 g_43.2.2.2.1 g_43.2.2.2.2.1 g_43.2.2.2.2.2.1 g_43.2.2.2.2.2.2.1 g_43.2.2.2.2.2.2.2) 64) :: rowp g_43.1 g_43.2.1 93 6 Tapi_Op.cells x0.ops :: rowp g_43.2.2.1 g_43.2.2.2.1 175 3 Tapi_Span.cells x0.blocks :: rowp g_43.2.2.2.2.1 g_43.2.2.2.2.2.1 32 1 (eI .u64) x0.val :: rdp κ g_43.2.2.2.2.2.2.1 g_43.2.2.2.2.2.2.2 1 (eI .u64) x0.tape.l :: pt b_2 (blk (Tapi_Op.cells x1) 93) :: S) → wpFrom Try.prog _ _ 13 a w by
        rcases Bool.eq_false_or_eq_true (decide (x0.tape.free < 1)) with hb | hb
        ·replace hs := hs.known (t := 10) hb (by kernel_rfl)
         refine qpu 7 hs fun a hs => ?_
         have hq := hs.pick [0, 5, 6, 7, 8, 9, 10, 17] (L' := [(0, .pointer (some ⟨b_x0, 11, none⟩)), (5, .pointer (some ⟨b_x0, 11, none⟩)), (6, .pointer (some ⟨b_x0, 11, none⟩)), (7, .pointer (some ⟨b_x0, 13, none⟩)), (8, vi x0.tape.free), (9, .bool (decide (x0.tape.free < 1))), (10, .bool true), (17, .bool true)]) (by kernel_rfl)
         exact hj_54 _ (hq.conv (by first | (rw [hb] <;> rfl) | rfl))
        ·replace hs := hs.known (t := 10) hb (by kernel_rfl)
         refine qpu 3 hs fun a hs => ?_
         refine qld 0 (C.slc g_43.2.2.2.2.2.2.1 x0.tape.l.length g_43.2.2.2.2.2.2.2) hs rfl fun a hs => ?_
         refine qpu 3 hs fun a hs => ?_
         have hq := hs.pick [0, 5, 6, 7, 8, 9, 10, 17] (L' := [(0, .pointer (some ⟨b_x0, 11, none⟩)), (5, .pointer (some ⟨b_x0, 11, none⟩)), (6, .pointer (some ⟨b_x0, 11, none⟩)), (7, .pointer (some ⟨b_x0, 13, none⟩)), (8, vi x0.tape.free), (9, .bool (decide (x0.tape.free < 1))), (10, .bool false), (17, .bool (((x0.tape.l.length : Nat) : Int) == 0))]) (by kernel_rfl)
         exact hj_54 _ (hq.conv (by first | (rw [hb] <;> rfl) | rfl))
       intro a hs
       refine qpk 0 [0, 17] hs fun a hs => hK53 _ _ ?_
       clear hK53
       refine qcs ((decide (x0.tape.free < 1)) || (((x0.tape.l.length : Nat) : Int) == 0)) hs (fun hb => ?_) fun hb => ?_
       ·replace hm := bif_t hm hb
        refine qse 2 [(2, vw 0), (3, .bool false)] hs fun a hs => ?_
        refine wp_ret ?_
        refine hKP50 _ _ ?_
        replace hs := hs.bagG (l := Tvisorref19_M.parts κ b_x0 x0 g_43) (S' := pt b_2 (blk (Tapi_Op.cells x1) 93) :: S) hs.own
        replace hs := hs.toEx (Tvisorref19_M.parts κ b_x0 x0) g_43 0 rfl
        exact hj50 0 false x0 hm _ _ (hs.go [2, 3] [0, 1] 2 (by kernel_rfl) (by kernel_rfl) (by kernel_rfl))
       ·replace hm := bif_f hm hb
        refine wp_skip ?_
        refine hK52 _ _ ?_
        clear hK52
        refine qsr fun K56 hK56 => ?_
        refine qpu 3 hs fun a hs => ?_
        refine qld 0 (C.slc g_43.2.2.2.2.2.2.1 x0.tape.l.length g_43.2.2.2.2.2.2.2) hs rfl fun a hs => ?_
        obtain ⟨h_57, hm⟩ := ite_t hm
        obtain ⟨e_60, h_58, hm⟩ := bind_t hm
        obtain ⟨b_61, o_62, hA_63, h_59⟩ := Sl.elem (Ow.rdSl 0 (Ow.to (S' := rdp κ g_43.2.2.2.2.2.2.1 g_43.2.2.2.2.2.2.2 1 (eI .u64) x0.tape.l :: S) hs.own [4] 6 (by kernel_rfl) (by kernel_rfl)) rfl) h_58
        refine qva (.pointer (some ⟨b_61, o_62 + 0 * 1, none⟩)) (op := (.indexAddr 25 (.tmp 21) (.const (vi 0)))) hs (fun o ho => run_idxSlc (k := .i64) ho (cap := g_43.2.2.2.2.2.2.2) (len := x0.tape.l.length) ((congrArg (fun A => Value.slice A (x0.tape.l.length) (g_43.2.2.2.2.2.2.2)) hA_63) ▸ (by kernel_rfl)) (by kernel_rfl) (by kernel_rfl) (idx_ok h_57 h_58) _) fun a hs => ?_
        refine qva (vw e_60) (op := (.load 32 (.tmp 22))) hs (fun o ho => run_load1 (c := cw e_60) ho (by kernel_rfl) (by kernel_rfl) (fun w ho => h_59 w ho 0 _ rfl) _ (Ow.to (S' := rdp κ g_43.2.2.2.2.2.2.1 g_43.2.2.2.2.2.2.2 1 (eI .u64) x0.tape.l :: S) hs.own [4] 6 (by kernel_rfl) (by kernel_rfl))) fun a hs => ?_
        refine qpk 1 [0, 4] hs fun a hs => hK56 _ _ ?_
        clear hK56
        refine qsr fun K64 hK64 => ?_
        refine qpu 4 hs fun a hs => ?_
        refine qld 0 (C.slc g_43.2.2.2.2.2.2.1 x0.tape.l.length g_43.2.2.2.2.2.2.2) hs rfl fun a hs => ?_
        obtain ⟨h_65, hm⟩ := ite_t hm
        obtain ⟨A_66, c_67, eA_68, ec_69, hx_70⟩ := Sl.sub (Ow.rdSl 0 (Ow.to (S' := rdp κ g_43.2.2.2.2.2.2.1 g_43.2.2.2.2.2.2.2 1 (eI .u64) x0.tape.l :: S) hs.own [4] 6 (by kernel_rfl) (by kernel_rfl)) rfl) h_65.2
        refine qva (.slice A_66 ((cut x0.tape.l (1) (x0.tape.l.length)).length) c_67) (op := (.slice 25 (.tmp 28) (some (.const (vi 1))) none none)) hs (fun o ho => run_sub (sz := 1) (e := 32) h_65.2 eA_68 ec_69 (Sl.le (Ow.rdSl 0 (Ow.to (S' := rdp κ g_43.2.2.2.2.2.2.1 g_43.2.2.2.2.2.2.2 1 (eI .u64) x0.tape.l :: S) hs.own [4] 6 (by kernel_rfl) (by kernel_rfl)) rfl)) ho (by kernel_rfl) (by kernel_rfl) (by kernel_rfl) ⟨.i64, 1, by kernel_rfl, h_65.1, rfl⟩ rfl _) fun a hs => ?_
        replace hs := hs.cutRd 4 rfl h_65.2 eA_68 ec_69
        refine qpu 2 hs fun a hs => ?_
        refine qst 0 11 (C.slc A_66 ((cut x0.tape.l (1) (x0.tape.l.length)).length) c_67) hs rfl fun a w hs => ?_
        refine qpk 0 [0, 4] hs fun a hs => hK64 _ _ ?_
        clear hK64
        refine qsr fun K71 hK71 => ?_
        refine qpu 4 hs fun a hs => ?_
        refine qld 0 (ci x0.tape.free) hs rfl fun a hs => ?_
        refine qpu 3 hs fun a hs => ?_
        refine qst 0 13 (ci (IntKind.i64.wrap (x0.tape.free - 1))) hs rfl fun a w hs => ?_
        refine qpk 0 [0, 4] hs fun a hs => hK71 _ _ ?_
        clear hK71
        refine qsr fun K72 hK72 => ?_
        refine qpu 4 hs fun a hs => ?_
        refine qld 0 (ci x0.tape.used) hs rfl fun a hs => ?_
        refine qpu 3 hs fun a hs => ?_
        refine qst 0 12 (ci (IntKind.i64.wrap (x0.tape.used + 1))) hs rfl fun a w hs => ?_
        refine qpe 0 [(4, vw e_60)] hs fun a hs => hK72 _ _ ?_
        clear hK72
        refine qse 3 [(2, vw e_60), (3, .bool true)] hs fun a hs => ?_
        refine wp_ret ?_
        refine hKP50 _ _ ?_
        replace hs := hs.bagG (l := Tvisorref19_M.parts κ b_x0 (⟨x0.n, x0.most, x0.words, x0.draws, x0.fromF, x0.skip, x0.kind, x0.e, x0.ops, x0.blocks, x0.val, (⟨cut x0.tape.l (1) (x0.tape.l.length), IntKind.i64.wrap (x0.tape.used + 1), IntKind.i64.wrap (x0.tape.free - 1)⟩ : Tvisorref02_T), x0.dry⟩ : Tvisorref19_M) (g_43.1, g_43.2.1, g_43.2.2.1, g_43.2.2.2.1, g_43.2.2.2.2.1, g_43.2.2.2.2.2.1, A_66, c_67)) (S' := pt b_2 (blk (Tapi_Op.cells x1) 93) :: S) hs.own
        replace hs := hs.toEx (Tvisorref19_M.parts κ b_x0 (⟨x0.n, x0.most, x0.words, x0.draws, x0.fromF, x0.skip, x0.kind, x0.e, x0.ops, x0.blocks, x0.val, (⟨cut x0.tape.l (1) (x0.tape.l.length), IntKind.i64.wrap (x0.tape.used + 1), IntKind.i64.wrap (x0.tape.free - 1)⟩ : Tvisorref02_T), x0.dry⟩ : Tvisorref19_M)) (g_43.1, g_43.2.1, g_43.2.2.1, g_43.2.2.2.1, g_43.2.2.2.2.1, g_43.2.2.2.2.2.1, A_66, c_67) 0 rfl
        exact hj50 e_60 true (⟨x0.n, x0.most, x0.words, x0.draws, x0.fromF, x0.skip, x0.kind, x0.e, x0.ops, x0.blocks, x0.val, (⟨cut x0.tape.l (1) (x0.tape.l.length), IntKind.i64.wrap (x0.tape.used + 1), IntKind.i64.wrap (x0.tape.free - 1)⟩ : Tvisorref02_T), x0.dry⟩ : Tvisorref19_M) hm _ _ (hs.go [2, 3] [0, 1] 2 (by kernel_rfl) (by kernel_rfl) (by kernel_rfl))
      ·replace hm := bif_f hm hb
       refine wp_skip ?_
       replace hs := hs.bagG (l := Tvisorref19_M.parts κ b_x0 x0 g_43) (S' := pt b_2 (blk (Tapi_Op.cells x1) 93) :: S) hs.own
       replace hs := hs.toEx (Tvisorref19_M.parts κ b_x0 x0) g_43 0 rfl
       exact hj41 x0 x2 hm _ _ (hs.go [0, 2, 4] [0, 1] 2 (by kernel_rfl) (by kernel_rfl) (by kernel_rfl))
    obtain ⟨g_27, hs⟩ := hs.unbag 0 rfl
    obtain ⟨C_32, hC_32⟩ := qC hs.own
    refine qdr 14 κ C_32 hs fun w hs hqC_32 => ?_
    have hcl := qO hC_32 hs.own
    refine qdp (fuel := 11) [0, 1, 2] hs hcl hqC_32 fun a hs => ?_
    refine qdl 3 0 (C.bool x0.dry) hs hcl hqC_32 hC_32 rfl fun a hs => ?_
    refine qdp (fuel := 8) [4, 5] hs hcl hqC_32 fun a hs => ?_
    rcases Bool.eq_false_or_eq_true (!x0.dry) with hb | hb
    ·replace hm := bif_t hm hb
     replace hs := hs.known (t := 45) hb (by kernel_rfl)
     refine qdp (fuel := 4) [6, 8, 9, 10] hs hcl hqC_32 fun a hs => ?_
     refine qdl 11 0 (ci x0.most) hs hcl hqC_32 hC_32 rfl fun a hs => ?_
     replace hs := hs.bagG (l := Tvisorref19_M.parts κ b_x0 x0 g_27) (S' := pt b_2 (blk (Tapi_Op.cells x1) 93) :: S) hs.own
     obtain ⟨v_35, h_34, hm⟩ := bind_t hm
     refine qdc 7 (visorref19_M_Len.ok _ _ _ h_34 _ _ _ b_x0 g_27 hs.own) hs fun w a hs => ?_
     replace hs := hs.unbagAt 0 rfl
     replace hcl := qO hC_32 hs.own
     refine ⟨fun _ => hcl, ?_⟩
     refine qdp (fuel := 0) [12, 13] hs hcl hqC_32 fun a hs => ?_
     replace hs := hs.pick [0, 2, 4, 53] (L' := [(0, pp b_x0), (2, vw x2), (4, pp b_2), (53, .bool (decide (v_35 ≥ x0.most)))]) (by kernel_rfl)
     refine Vk.dDone (by kernel_rfl) ?_
     replace hs := hs.bagG (l := Tvisorref19_M.parts κ b_x0 x0 g_27) (S' := pt b_2 (blk (Tapi_Op.cells x1) 93) :: S) hs.own
     replace hs := hs.toEx (Tvisorref19_M.parts κ b_x0 x0) g_27 0 rfl
     exact hj26 (decide (v_35 ≥ x0.most)) hm _ _ (hs.go [0, 2, 4, 53] [0, 1] 2 (by kernel_rfl) (by kernel_rfl) (by kernel_rfl))
    ·replace hm := bif_f hm hb
     replace hs := hs.known (t := 45) hb (by kernel_rfl)
     refine qdp (fuel := 0) [6, 7, 8, 9, 10, 11, 12, 13] hs hcl hqC_32 fun a hs => ?_
     replace hs := hs.pick [0, 2, 4, 53] (L' := [(0, pp b_x0), (2, vw x2), (4, pp b_2), (53, .bool false)]) (by kernel_rfl)
     refine Vk.dDone (by kernel_rfl) ?_
     replace hs := hs.bagG (l := Tvisorref19_M.parts κ b_x0 x0 g_27) (S' := pt b_2 (blk (Tapi_Op.cells x1) 93) :: S) hs.own
     replace hs := hs.toEx (Tvisorref19_M.parts κ b_x0 x0) g_27 0 rfl
     exact hj26 false hm _ _ (hs.go [0, 2, 4, 53] [0, 1] 2 (by kernel_rfl) (by kernel_rfl) (by kernel_rfl))
  obtain ⟨C_13, hC_13⟩ := qC hs.own
  refine qdr 24 κ C_13 hs fun w hs hqC_13 => ?_
  have hcl := qO hC_13 hs.own
  refine qdp (fuel := 20) [1, 3, 4, 5] hs hcl hqC_13 fun a hs => ?_
  refine qdn 0 5 ([ci x1.kind, ci x1.dom, ci x1.a, ci x1.b, ci x1.d, cw x1.c]) hs hcl hqC_13 hC_13 rfl fun a hs => ?_
  refine qdl 6 0 (ci x0.n) hs hcl hqC_13 hC_13 rfl fun a hs => ?_
  replace hs := hs.bagG (l := Tvisorref19_M.parts κ b_x0 x0 g_5) (S' := pt b_2 (blk (Tapi_Op.cells x1) 93) :: S) hs.own
  obtain ⟨v_16, h_15, hm⟩ := bind_t hm
  refine qdc 2 (visorref19_M_Len.ok _ _ _ h_15 _ _ _ b_x0 g_5 hs.own) hs fun w a hs => ?_
  replace hs := hs.unbagAt 0 rfl
  replace hcl := qO hC_13 hs.own
  refine ⟨fun _ => hcl, ?_⟩
  obtain ⟨v_19, h_18, hm⟩ := bind_t hm
  refine qdc 7 (visorref17_Right.ok _ _ _ _ _ h_18 _ _ (pt b_x0 (blk (Tvisorref19_M.obj x0 g_5.1 g_5.2.1 g_5.2.2.1 g_5.2.2.2.1 g_5.2.2.2.2.1 g_5.2.2.2.2.2.1 g_5.2.2.2.2.2.2.1 g_5.2.2.2.2.2.2.2) 64) :: rowp g_5.1 g_5.2.1 93 6 Tapi_Op.cells x0.ops :: rowp g_5.2.2.1 g_5.2.2.2.1 175 3 Tapi_Span.cells x0.blocks :: rowp g_5.2.2.2.2.1 g_5.2.2.2.2.2.1 32 1 (eI .u64) x0.val :: rdp κ g_5.2.2.2.2.2.2.1 g_5.2.2.2.2.2.2.2 1 (eI .u64) x0.tape.l :: pt b_2 (blk (Tapi_Op.cells x1) 93) :: S) hs.own) hs fun w a hs => ?_
  replace hcl := qO hC_13 hs.own
  refine ⟨fun _ => hcl, ?_⟩
  refine qdp (fuel := 14) [8, 9] hs hcl hqC_13 fun a hs => ?_
  rcases Bool.eq_false_or_eq_true (!v_19) with hb | hb
  ·replace hm := bif_t hm hb
   replace hs := hs.known (t := 23) hb (by kernel_rfl)
   refine qdp (fuel := 0) [10, 11, 12, 13, 14, 15, 16, 17, 18, 19, 20, 21, 22, 23] hs hcl hqC_13 fun a hs => ?_
   replace hs := hs.pick [0, 2, 4, 37] (L' := [(0, pp b_x0), (2, vw x2), (4, pp b_2), (37, .bool true)]) (by kernel_rfl)
   refine Vk.dDone (by kernel_rfl) ?_
   replace hs := hs.bagG (l := Tvisorref19_M.parts κ b_x0 x0 g_5) (S' := pt b_2 (blk (Tapi_Op.cells x1) 93) :: S) hs.own
   replace hs := hs.toEx (Tvisorref19_M.parts κ b_x0 x0) g_5 0 rfl
   exact hj12 true hm _ _ (hs.go [0, 2, 4, 37] [0, 1] 2 (by kernel_rfl) (by kernel_rfl) (by kernel_rfl))
  ·replace hm := bif_f hm hb
   replace hs := hs.known (t := 23) hb (by kernel_rfl)
   refine qdp (fuel := 13) [10] hs hcl hqC_13 fun a hs => ?_
   refine qdl 11 5 (ci x1.kind) hs hcl hqC_13 hC_13 rfl fun a hs => ?_
   refine qdp (fuel := 10) [12, 13] hs hcl hqC_13 fun a hs => ?_
   rcases Bool.eq_false_or_eq_true (x1.kind == 2) with hb | hb
   ·replace hm := bif_t hm hb
    replace hs := hs.known (t := 27) hb (by kernel_rfl)
    refine qdp (fuel := 6) [14, 16, 17, 18] hs hcl hqC_13 fun a hs => ?_
    refine qdl 15 5 (cw x1.c) hs hcl hqC_13 hC_13 rfl fun a hs => ?_
    refine qdl 19 0 (ci x0.words) hs hcl hqC_13 hC_13 rfl fun a hs => ?_
    refine qdp (fuel := 0) [20, 21, 22, 23] hs hcl hqC_13 fun a hs => ?_
    replace hs := hs.pick [0, 2, 4, 37] (L' := [(0, pp b_x0), (2, vw x2), (4, pp b_2), (37, .bool (x1.c != (IntKind.u64.wrap x0.words)))]) (by kernel_rfl)
    refine Vk.dDone (by kernel_rfl) ?_
    replace hs := hs.bagG (l := Tvisorref19_M.parts κ b_x0 x0 g_5) (S' := pt b_2 (blk (Tapi_Op.cells x1) 93) :: S) hs.own
    replace hs := hs.toEx (Tvisorref19_M.parts κ b_x0 x0) g_5 0 rfl
    exact hj12 (x1.c != (IntKind.u64.wrap x0.words)) hm _ _ (hs.go [0, 2, 4, 37] [0, 1] 2 (by kernel_rfl) (by kernel_rfl) (by kernel_rfl))
   ·replace hm := bif_f hm hb
    replace hs := hs.known (t := 27) hb (by kernel_rfl)
    refine qdp (fuel := 0) [14, 15, 16, 17, 18, 19, 20, 21, 22, 23] hs hcl hqC_13 fun a hs => ?_
    replace hs := hs.pick [0, 2, 4, 37] (L' := [(0, pp b_x0), (2, vw x2), (4, pp b_2), (37, .bool false)]) (by kernel_rfl)
    refine Vk.dDone (by kernel_rfl) ?_
    replace hs := hs.bagG (l := Tvisorref19_M.parts κ b_x0 x0 g_5) (S' := pt b_2 (blk (Tapi_Op.cells x1) 93) :: S) hs.own
    replace hs := hs.toEx (Tvisorref19_M.parts κ b_x0 x0) g_5 0 rfl
    exact hj12 false hm _ _ (hs.go [0, 2, 4, 37] [0, 1] 2 (by kernel_rfl) (by kernel_rfl) (by kernel_rfl))


def visorref20_Const.l1 : Nat → Tvisorref19_M → Cells → Int → Option (Cells × Tvisorref19_M)
 | 0, _, _, _ => none
 | k + 1, q_20, q_21, q_22 => (bif decide (q_22 < q_20.n) then (visorref19_Op.m k 3 q_22 (-1) (-1) 0).bind fun v_33 => (visorref19_M_Do.m k q_20 v_33 0).bind fun v_36 => (if 0 ≤ q_22 ∧ q_22 < 3 then (if 0 + q_22.toNat * 1 < q_21.length then visorref20_Const.l1 k v_36.2 (q_21.set (0 + q_22.toNat * 1) (ci v_36.1)) (IntKind.i64.wrap (q_22 + 1)) else none) else none) else some (q_21, q_20))
abbrev visorref20_Const.R (κ : Ctx) (S : List HP) (x0 : Tvisorref19_M) (x1 : Int) (x2 : Int) (b_x0 : Nat) (r : (Cells × Tvisorref19_M)) : Ending → World → Prop := fun e w' => e = .returned (.agg (vals r.1)) ∧ Ow κ w' (Tvisorref19_M.own κ b_x0 r.2 :: S)
def visorref20_Const.m (k : Nat) (x0 : Tvisorref19_M) (x1 : Int) (x2 : Int) : Option (Cells × Tvisorref19_M) := (visorref20_None.m k).bind fun v_6 => (if v_6.length = 3 then (visorref19_Op.m k x1 0 (-1) (-1) x2).bind fun v_12 => (visorref19_M_Do.m k x0 v_12 0).bind fun v_15 => (if 0 < v_6.length then (visorref20_Const.l1 k v_15.2 (v_6.set (0) (ci v_15.1)) 1).bind fun x => match x with | (p_39, p_40) => (if p_39.length = 3 then some (p_39, p_40) else none) else none) else none)

set_option maxRecDepth 100000 in
set_option maxHeartbeats 4000000 in
theorem visorref20_Const.ok (k : Nat) (x0 : Tvisorref19_M) (x1 : Int) (x2 : Int) (r : (Cells × Tvisorref19_M)) (hm : visorref20_Const.m k x0 x1 x2 = some r) (κ : Ctx) (w : World) (S : List HP) (b_x0 : Nat) (ho : Ow κ w (Tvisorref19_M.own κ b_x0 x0 :: S)) :
  Calls Try.prog 67 #[pp b_x0, vi x1, vw x2] w (visorref20_Const.R κ S x0 x1 x2 b_x0 r) := by
 unfold visorref20_Const.m at hm
 generalize hRR : visorref20_Const.R κ S x0 x1 x2 b_x0 r = RR
 refine qen [(0, pp b_x0), (1, vi x1), (2, vw x2)] Try.func67 Try.ntmps67 ho fun a hs => ?_
 refine qsr fun K1 hK1 => ?_
 refine qal 28 [ci 0, ci 0, ci 0] 6 hs fun b_2 w a hs => ?_
 refine qpk 0 [0, 1, 2, 6] hs fun a hs => hK1 _ _ ?_
 clear hK1
 refine qsr fun K3 hK3 => ?_
 obtain ⟨v_6, h_5, hm⟩ := bind_t hm
 refine qcl (visorref20_None.ok _ _ h_5 _ _ (pt b_2 (blk [ci 0, ci 0, ci 0] 28) :: Tvisorref19_M.own κ b_x0 x0 :: S) hs.own) hs fun w a hs => ?_
 refine qal 28 [ci 0, ci 0, ci 0] 7 hs fun b_7 w a hs => ?_
 obtain ⟨h_8, hm⟩ := ite_t hm
 refine qsb 0 v_6 hs rfl h_8 rfl fun a w hs => ?_
 refine qpk 0 [0, 1, 2, 6, 7] hs fun a hs => hK3 _ _ ?_
 clear hK3
 refine qsr fun K9 hK9 => ?_
 refine qpu 3 hs fun a hs => ?_
 obtain ⟨v_12, h_11, hm⟩ := bind_t hm
 refine qcl (visorref19_Op.ok _ _ _ _ _ _ _ h_11 _ _ (pt b_7 (blk v_6 28) :: pt b_2 (blk [ci 0, ci 0, ci 0] 28) :: Tvisorref19_M.own κ b_x0 x0 :: S) hs.own) hs fun w a hs => ?_
 obtain ⟨v_15, h_14, hm⟩ := bind_t hm
 refine qcl (visorref19_M_Do.ok _ _ _ _ _ h_14 _ _ _ b_x0 hs.own.f2) hs fun w a hs => ?_
 refine qpu 2 hs fun a hs => ?_
 obtain ⟨h_16, hm⟩ := ite_t hm
 refine Vk.step (Vk.store1 (b := b_7) (ty := 3) (x := (.tmp 16)) (y := (.tmp 14)) (off := 0) (ci v_15.1) 1 hs (by kernel_rfl) (by kernel_rfl) (by kernel_rfl) (by kernel_rfl) (by kernel_rfl) (by kernel_rfl) rfl h_16 fun a w hs => ?_)
 refine qpk 0 [0, 6, 7] hs fun a hs => hK9 _ _ ?_
 clear hK9
 refine Vk.seq fun K17 hK17 => ?_
 refine qsk 1 [0, 6, 7, 8] hs fun a hs => ?_
 refine wp_block ?_
 obtain ⟨r19, hl19, hm⟩ := bind_t hm
 have hx19 : ∀ (p_39 : Cells) (p_40 : Tvisorref19_M), r19 = (p_39, p_40) → ∀ (a : Act) (w : World), St 33 a w κ [(6, pp b_2), (7, pp b_7)] (pt b_2 (blk [ci 0, ci 0, ci 0] 28) :: pt b_7 (blk p_39 28) :: Tvisorref19_M.own κ b_x0 p_40 :: S) → K17 a w := by
  intro p_39 p_40 he a w hs
  subst r19
  refine hK17 _ _ ?_
  clear hK17
  refine qsr fun K44 hK44 => ?_
  obtain ⟨h_45, hm⟩ := ite_t hm
  refine qlw 1 hs rfl h_45 fun a hs => ?_
  refine qsb 0 p_39 hs rfl h_45 rfl fun a w hs => ?_
  refine qpe 0 [(6, pp b_2)] hs fun a hs => hK44 _ _ ?_
  clear hK44
  refine wp_ret ?_
  exact Vk.retC p_39 hs rfl (by kernel_rfl) (sz := 3) (by kernel_rfl) h_45 (CellsAt.all 0 rfl) (hRR ▸ by cases hm; exact ⟨rfl, hs.own.f1.drop.drop⟩)
 refine Vk.loopBy (fun k (s : Tvisorref19_M × Cells × Int) a w => visorref20_Const.l1 k s.1 s.2.1 s.2.2 = some r19 ∧ St 33 a w κ [(0, pp b_x0), (6, pp b_2), (7, pp b_7), (8, vi s.2.2)] (Tvisorref19_M.own κ b_x0 s.1 :: pt b_2 (blk [ci 0, ci 0, ci 0] 28) :: pt b_7 (blk s.2.1 28) :: S)) k (v_15.2, (v_6.set (0) (ci v_15.1)), 1) ⟨hl19, hs.go [0, 6, 7, 8] [0, 2, 1] 3 (by kernel_rfl) (by kernel_rfl) (by kernel_rfl)⟩ (fun s a w h => by obtain ⟨h1, _⟩ := h; simp [visorref20_Const.l1] at h1) (fun k KL19 ih s a w h => ?_)
 obtain ⟨q_20, q_21, q_22⟩ := s
 obtain ⟨hm, hs⟩ := h
 try dsimp only at hm hs
 rw [visorref20_Const.l1] at hm
 refine Vk.seq fun K23 hK23 => ?_
 refine qsr fun K24 hK24 => ?_
 refine qpu 4 hs fun a hs => ?_
 obtain ⟨g_25, hs⟩ := hs.unbag 0 rfl
 refine qld 0 (ci q_20.n) hs rfl fun a hs => ?_
 refine qpk 1 [0, 6, 7, 8, 22] hs fun a hs => hK24 _ _ ?_
 clear hK24
 refine qcs (decide (q_22 < q_20.n)) hs (fun hb => ?_) fun hb => ?_
 ·replace hm := bif_t hm hb
  refine wp_skip ?_
  refine hK23 _ _ ?_
  clear hK23
  refine Vk.seq fun K30 hK30 => ?_
  refine wp_block ?_
  refine Vk.region ?_
  refine qpu 3 hs fun a hs => ?_
  obtain ⟨v_33, h_32, hm⟩ := bind_t hm
  refine qcl (visorref19_Op.ok _ _ _ _ _ _ _ h_32 _ _ (pt b_x0 (blk (Tvisorref19_M.obj q_20 g_25.1 g_25.2.1 g_25.2.2.1 g_25.2.2.2.1 g_25.2.2.2.2.1 g_25.2.2.2.2.2.1 g_25.2.2.2.2.2.2.1 g_25.2.2.2.2.2.2.2) 64) :: rowp g_25.1 g_25.2.1 93 6 Tapi_Op.cells q_20.ops :: rowp g_25.2.2.1 g_25.2.2.2.1 175 3 Tapi_Span.cells q_20.blocks :: rowp g_25.2.2.2.2.1 g_25.2.2.2.2.2.1 32 1 (eI .u64) q_20.val :: rdp κ g_25.2.2.2.2.2.2.1 g_25.2.2.2.2.2.2.2 1 (eI .u64) q_20.tape.l :: pt b_2 (blk [ci 0, ci 0, ci 0] 28) :: pt b_7 (blk q_21 28) :: S) hs.own) hs fun w a hs => ?_
  replace hs := hs.bagG (l := Tvisorref19_M.parts κ b_x0 q_20 g_25) (S' := pt b_2 (blk [ci 0, ci 0, ci 0] 28) :: pt b_7 (blk q_21 28) :: S) hs.own
  replace hs := hs.toEx (Tvisorref19_M.parts κ b_x0 q_20) g_25 0 rfl
  obtain ⟨v_36, h_35, hm⟩ := bind_t hm
  refine qcl (visorref19_M_Do.ok _ _ _ _ _ h_35 _ _ _ b_x0 hs.own) hs fun w a hs => ?_
  refine qpu 1 hs fun a hs => ?_
  obtain ⟨h_37, hm⟩ := ite_t hm
  refine qix b_7 0 1 hs h_37 fun a hs => ?_
  obtain ⟨h_38, hm⟩ := ite_t hm
  refine Vk.step (Vk.store1 (b := b_7) (ty := 3) (x := (.tmp 31)) (y := (.tmp 29)) (off := 0 + q_22.toNat * 1) (ci v_36.1) 2 hs (by kernel_rfl) (by kernel_rfl) (by kernel_rfl) (by kernel_rfl) (by kernel_rfl) (by kernel_rfl) rfl h_38 fun a w hs => ?_)
  refine qpk 0 [0, 6, 7, 8] hs fun a hs => hK30 _ _ ?_
  clear hK30
  refine Vk.region ?_
  refine qpk 3 [0, 6, 7, 8] hs fun a hs => ?_
  refine ih (v_36.2, (q_21.set (0 + q_22.toNat * 1) (ci v_36.1)), (IntKind.i64.wrap (q_22 + 1))) _ _ ⟨hm, hs.go [0, 6, 7, 8] [0, 1, 2] 3 (by kernel_rfl) (by kernel_rfl) (by kernel_rfl)⟩
 ·replace hm := bif_f hm hb
  refine wp_exit ?_
  replace hs := hs.bagG (l := Tvisorref19_M.parts κ b_x0 q_20 g_25) (S' := pt b_2 (blk [ci 0, ci 0, ci 0] 28) :: pt b_7 (blk q_21 28) :: S) hs.own
  replace hs := hs.toEx (Tvisorref19_M.parts κ b_x0 q_20) g_25 0 rfl
  exact hx19 q_21 q_20 (Option.some.inj hm).symm _ _ (hs.go [6, 7] [1, 2, 0] 3 (by kernel_rfl) (by kernel_rfl) (by kernel_rfl))


def visorref33_Const.l1 (x1 : Int) (v_8 : Cells) : Nat → Tvisorref19_M → Cells → Int → Option (Cells × Tvisorref19_M)
 | 0, _, _, _ => none
 | k + 1, q_14, q_15, q_16 => (bif decide (q_16 < 8) then (if 0 ≤ q_16 ∧ q_16 < 8 then (getI .u64 v_8 (0 + q_16.toNat * 1)).bind fun v_22 => (visorref20_Const.m k q_14 x1 v_22).bind fun v_25 => (if 0 ≤ q_16 ∧ q_16 < 8 then (if v_25.1.length = 3 then (if 0 + q_16.toNat * 3 + v_25.1.length ≤ q_15.length then visorref33_Const.l1 x1 v_8 k v_25.2 (splice q_15 (0 + q_16.toNat * 3) v_25.1) (IntKind.i64.wrap (q_16 + 1)) else none) else none) else none) else none) else some (q_15, q_14))
abbrev visorref33_Const.R (κ : Ctx) (S : List HP) (x0 : Tvisorref19_M) (x1 : Int) (x2 : List Int) (b_x0 : Nat) (A_x2 : Option Addr) (c_x2 : Nat) (r : (Cells × Tvisorref19_M)) : Ending → World → Prop := fun e w' => e = .returned (.agg (vals r.1)) ∧ Ow κ w' (Tvisorref19_M.own κ b_x0 r.2 :: S)
def visorref33_Const.m (k : Nat) (x0 : Tvisorref19_M) (x1 : Int) (x2 : List Int) : Option (Cells × Tvisorref19_M) := (visorref33_Cut.m k x2).bind fun v_8 => (if v_8.length = 8 then (visorref33_Const.l1 x1 v_8 k x0 [ci 0, ci 0, ci 0, ci 0, ci 0, ci 0, ci 0, ci 0, ci 0, ci 0, ci 0, ci 0, ci 0, ci 0, ci 0, ci 0, ci 0, ci 0, ci 0, ci 0, ci 0, ci 0, ci 0, ci 0] 0).bind fun x => match x with | (p_29, p_30) => (if p_29.length = 24 then some (p_29, p_30) else none) else none)

set_option maxRecDepth 100000 in
set_option maxHeartbeats 4000000 in
theorem visorref33_Const.ok (k : Nat) (x0 : Tvisorref19_M) (x1 : Int) (x2 : List Int) (r : (Cells × Tvisorref19_M)) (hm : visorref33_Const.m k x0 x1 x2 = some r) (κ : Ctx) (w : World) (S : List HP) (b_x0 : Nat) (A_x2 : Option Addr) (c_x2 : Nat) (hx_x2 : Sl κ S A_x2 c_x2 1 (eI .u8) x2) (ho : Ow κ w (Tvisorref19_M.own κ b_x0 x0 :: S)) :
  Calls Try.prog 31 #[pp b_x0, vi x1, .slice A_x2 x2.length c_x2] w (visorref33_Const.R κ S x0 x1 x2 b_x0 A_x2 c_x2 r) := by
 unfold visorref33_Const.m at hm
 generalize hRR : visorref33_Const.R κ S x0 x1 x2 b_x0 A_x2 c_x2 r = RR
 refine qen [(0, pp b_x0), (1, vi x1), (2, .slice A_x2 x2.length c_x2)] Try.func31 Try.ntmps31 ho fun a hs => ?_
 refine qsr fun K1 hK1 => ?_
 refine qal 71 [ci 0, ci 0, ci 0, ci 0, ci 0, ci 0, ci 0, ci 0, ci 0, ci 0, ci 0, ci 0, ci 0, ci 0, ci 0, ci 0, ci 0, ci 0, ci 0, ci 0, ci 0, ci 0, ci 0, ci 0] 6 hs fun b_2 w a hs => ?_
 refine qpk 0 [0, 1, 2, 6] hs fun a hs => hK1 _ _ ?_
 clear hK1
 refine qsr fun K3 hK3 => ?_
 refine qpu 1 hs fun a hs => ?_
 refine qal 71 [ci 0, ci 0, ci 0, ci 0, ci 0, ci 0, ci 0, ci 0, ci 0, ci 0, ci 0, ci 0, ci 0, ci 0, ci 0, ci 0, ci 0, ci 0, ci 0, ci 0, ci 0, ci 0, ci 0, ci 0] 7 hs fun b_4 w a hs => ?_
 refine qsa 0 [ci 0, ci 0, ci 0, ci 0, ci 0, ci 0, ci 0, ci 0, ci 0, ci 0, ci 0, ci 0, ci 0, ci 0, ci 0, ci 0, ci 0, ci 0, ci 0, ci 0, ci 0, ci 0, ci 0, ci 0] hs rfl fun a w hs => ?_
 refine qpk 0 [0, 1, 2, 6, 7] hs fun a hs => hK3 _ _ ?_
 clear hK3
 refine qsr fun K5 hK5 => ?_
 refine qpu 1 hs fun a hs => ?_
 obtain ⟨v_8, h_7, hm⟩ := bind_t hm
 refine qcl (visorref33_Cut.ok _ _ _ h_7 _ _ (pt b_4 (blk [ci 0, ci 0, ci 0, ci 0, ci 0, ci 0, ci 0, ci 0, ci 0, ci 0, ci 0, ci 0, ci 0, ci 0, ci 0, ci 0, ci 0, ci 0, ci 0, ci 0, ci 0, ci 0, ci 0, ci 0] 71) :: pt b_2 (blk [ci 0, ci 0, ci 0, ci 0, ci 0, ci 0, ci 0, ci 0, ci 0, ci 0, ci 0, ci 0, ci 0, ci 0, ci 0, ci 0, ci 0, ci 0, ci 0, ci 0, ci 0, ci 0, ci 0, ci 0] 71) :: Tvisorref19_M.own κ b_x0 x0 :: S) A_x2 c_x2 hx_x2.less.less.less hs.own) hs fun w a hs => ?_
 refine qal 80 [cw 0, cw 0, cw 0, cw 0, cw 0, cw 0, cw 0, cw 0] 8 hs fun b_9 w a hs => ?_
 obtain ⟨h_10, hm⟩ := ite_t hm
 refine qsb 0 v_8 hs rfl h_10 rfl fun a w hs => ?_
 refine qpk 0 [0, 1, 6, 7, 8] hs fun a hs => hK5 _ _ ?_
 clear hK5
 refine Vk.seq fun K11 hK11 => ?_
 refine qsk 1 [0, 1, 6, 7, 8, 9] hs fun a hs => ?_
 refine wp_block ?_
 obtain ⟨r13, hl13, hm⟩ := bind_t hm
 have hx13 : ∀ (p_29 : Cells) (p_30 : Tvisorref19_M), r13 = (p_29, p_30) → ∀ (a : Act) (w : World), St 26 a w κ [(6, pp b_2), (7, pp b_4)] (pt b_2 (blk [ci 0, ci 0, ci 0, ci 0, ci 0, ci 0, ci 0, ci 0, ci 0, ci 0, ci 0, ci 0, ci 0, ci 0, ci 0, ci 0, ci 0, ci 0, ci 0, ci 0, ci 0, ci 0, ci 0, ci 0] 71) :: pt b_4 (blk p_29 71) :: Tvisorref19_M.own κ b_x0 p_30 :: S) → K11 a w := by
  intro p_29 p_30 he a w hs
  subst r13
  refine hK11 _ _ ?_
  clear hK11
  refine qsr fun K34 hK34 => ?_
  obtain ⟨h_35, hm⟩ := ite_t hm
  refine qlw 1 hs rfl h_35 fun a hs => ?_
  refine qsb 0 p_29 hs rfl h_35 rfl fun a w hs => ?_
  refine qpe 0 [(6, pp b_2)] hs fun a hs => hK34 _ _ ?_
  clear hK34
  refine wp_ret ?_
  exact Vk.retC p_29 hs rfl (by kernel_rfl) (sz := 24) (by kernel_rfl) h_35 (CellsAt.all 0 rfl) (hRR ▸ by cases hm; exact ⟨rfl, hs.own.f1.drop.drop⟩)
 refine Vk.loopBy (fun k (s : Tvisorref19_M × Cells × Int) a w => visorref33_Const.l1 x1 v_8 k s.1 s.2.1 s.2.2 = some r13 ∧ St 26 a w κ [(0, pp b_x0), (1, vi x1), (6, pp b_2), (7, pp b_4), (8, pp b_9), (9, vi s.2.2)] (Tvisorref19_M.own κ b_x0 s.1 :: pt b_2 (blk [ci 0, ci 0, ci 0, ci 0, ci 0, ci 0, ci 0, ci 0, ci 0, ci 0, ci 0, ci 0, ci 0, ci 0, ci 0, ci 0, ci 0, ci 0, ci 0, ci 0, ci 0, ci 0, ci 0, ci 0] 71) :: pt b_4 (blk s.2.1 71) :: pt b_9 (blk v_8 80) :: S)) k (x0, [ci 0, ci 0, ci 0, ci 0, ci 0, ci 0, ci 0, ci 0, ci 0, ci 0, ci 0, ci 0, ci 0, ci 0, ci 0, ci 0, ci 0, ci 0, ci 0, ci 0, ci 0, ci 0, ci 0, ci 0], 0) ⟨hl13, hs.go [0, 1, 6, 7, 8, 9] [3, 2, 1, 0] 4 (by kernel_rfl) (by kernel_rfl) (by kernel_rfl)⟩ (fun s a w h => by obtain ⟨h1, _⟩ := h; simp [visorref33_Const.l1] at h1) (fun k KL13 ih s a w h => ?_)
 obtain ⟨q_14, q_15, q_16⟩ := s
 obtain ⟨hm, hs⟩ := h
 try dsimp only at hm hs
 rw [visorref33_Const.l1] at hm
 refine Vk.seq fun K17 hK17 => ?_
 refine qsk 2 [0, 1, 6, 7, 8, 9, 14] hs fun a hs => ?_
 refine qcs (decide (q_16 < 8)) hs (fun hb => ?_) fun hb => ?_
 ·replace hm := bif_t hm hb
  refine wp_skip ?_
  refine hK17 _ _ ?_
  clear hK17
  refine Vk.seq fun K19 hK19 => ?_
  refine wp_block ?_
  refine Vk.region ?_
  refine qpu 4 hs fun a hs => ?_
  obtain ⟨h_20, hm⟩ := ite_t hm
  refine qix b_9 0 1 hs h_20 fun a hs => ?_
  obtain ⟨v_22, h_21, hm⟩ := bind_t hm
  refine qli 3 hs rfl h_21 fun a hs => ?_
  obtain ⟨v_25, h_24, hm⟩ := bind_t hm
  refine qcl (visorref20_Const.ok _ _ _ _ _ h_24 _ _ _ b_x0 hs.own) hs fun w a hs => ?_
  obtain ⟨h_26, hm⟩ := ite_t hm
  refine qix b_4 0 3 hs h_26 fun a hs => ?_
  obtain ⟨h_27, hm⟩ := ite_t hm
  obtain ⟨h_28, hm⟩ := ite_t hm
  refine Vk.step (Vk.storeN (b := b_4) (ty := 28) (x := (.tmp 24)) (y := (.tmp 23)) (off := 0 + q_16.toNat * 3) (sz := 3) v_25.1 2 hs (by kernel_rfl) (by kernel_rfl) (by kernel_rfl) (by kernel_rfl) (by kernel_rfl) h_27 (by kernel_rfl) rfl h_28 fun a w hs => ?_)
  refine qpk 0 [0, 1, 6, 7, 8, 9] hs fun a hs => hK19 _ _ ?_
  clear hK19
  refine Vk.region ?_
  refine qpk 3 [0, 1, 6, 7, 8, 9] hs fun a hs => ?_
  refine ih (v_25.2, (splice q_15 (0 + q_16.toNat * 3) v_25.1), (IntKind.i64.wrap (q_16 + 1))) _ _ ⟨hm, hs.go [0, 1, 6, 7, 8, 9] [0, 1, 2, 3] 4 (by kernel_rfl) (by kernel_rfl) (by kernel_rfl)⟩
 ·replace hm := bif_f hm hb
  refine wp_exit ?_
  exact hx13 q_15 q_14 (Option.some.inj hm).symm _ _ (hs.go [6, 7] [1, 2, 0] 4 (by kernel_rfl) (by kernel_rfl) (by kernel_rfl))


def bits_TrailingZeros8.s1 : ByteArray := (⟨#[8, 0, 1, 0, 2, 0, 1, 0, 3, 0, 1, 0, 2, 0, 1, 0, 4, 0, 1, 0, 2, 0, 1, 0, 3, 0, 1, 0, 2, 0, 1, 0, 5, 0, 1, 0, 2, 0, 1, 0, 3, 0, 1, 0, 2, 0, 1, 0, 4, 0, 1, 0, 2, 0, 1, 0, 3, 0, 1, 0, 2, 0, 1, 0, 6, 0, 1, 0, 2, 0, 1, 0, 3, 0, 1, 0, 2, 0, 1, 0, 4, 0, 1, 0, 2, 0, 1, 0, 3, 0, 1, 0, 2, 0, 1, 0, 5, 0, 1, 0, 2, 0, 1, 0, 3, 0, 1, 0, 2, 0, 1, 0, 4, 0, 1, 0, 2, 0, 1, 0, 3, 0, 1, 0, 2, 0, 1, 0, 7, 0, 1, 0, 2, 0, 1, 0, 3, 0, 1, 0, 2, 0, 1, 0, 4, 0, 1, 0, 2, 0, 1, 0, 3, 0, 1, 0, 2, 0, 1, 0, 5, 0, 1, 0, 2, 0, 1, 0, 3, 0, 1, 0, 2, 0, 1, 0, 4, 0, 1, 0, 2, 0, 1, 0, 3, 0, 1, 0, 2, 0, 1, 0, 6, 0, 1, 0, 2, 0, 1, 0, 3, 0, 1, 0, 2, 0, 1, 0, 4, 0, 1, 0, 2, 0, 1, 0, 3, 0, 1, 0, 2, 0, 1, 0, 5, 0, 1, 0, 2, 0, 1, 0, 3, 0, 1, 0, 2, 0, 1, 0, 4, 0, 1, 0, 2, 0, 1, 0, 3, 0, 1, 0, 2, 0, 1, 0]⟩ : ByteArray)
abbrev bits_TrailingZeros8.R (κ : Ctx) (S : List HP) (x0 : Int) (r : Int) : Ending → World → Prop := fun e w' => e = .returned (vi r) ∧ Ow κ w' (S)
def bits_TrailingZeros8.m (k : Nat) (x0 : Int) : Option Int := (strAt bits_TrailingZeros8.s1 x0).bind fun e_3 => some (IntKind.i64.wrap e_3)

set_option maxRecDepth 100000 in
set_option maxHeartbeats 4000000 in
theorem bits_TrailingZeros8.ok (k : Nat) (x0 : Int) (r : Int) (hm : bits_TrailingZeros8.m k x0 = some r) (κ : Ctx) (w : World) (S : List HP) (ho : Ow κ w (S)) :
  Calls Try.prog 158 #[.int .u8 x0] w (bits_TrailingZeros8.R κ S x0 r) := by
 unfold bits_TrailingZeros8.m at hm
 generalize hRR : bits_TrailingZeros8.R κ S x0 r = RR
 refine qen [(0, .int .u8 x0)] Try.func158 Try.ntmps158 ho fun a hs => ?_
 refine qse 1 [(0, .int .u8 x0)] hs fun a hs => ?_
 refine qsr fun K2 hK2 => ?_
 refine qpu 1 hs fun a hs => ?_
 obtain ⟨e_3, h_4, hm⟩ := bind_t hm
 refine qva (.int .u8 e_3) (op := (.index 9 (.const (.string { data := #[8, 0, 1, 0, 2, 0, 1, 0, 3, 0, 1, 0, 2, 0, 1, 0, 4, 0, 1, 0, 2, 0, 1, 0, 3, 0, 1, 0, 2, 0, 1, 0, 5, 0, 1, 0, 2, 0, 1, 0, 3, 0, 1, 0, 2, 0, 1, 0, 4, 0, 1, 0, 2, 0, 1, 0, 3, 0, 1, 0, 2, 0, 1, 0, 6, 0, 1, 0, 2, 0, 1, 0, 3, 0, 1, 0, 2, 0, 1, 0, 4, 0, 1, 0, 2, 0, 1, 0, 3, 0, 1, 0, 2, 0, 1, 0, 5, 0, 1, 0, 2, 0, 1, 0, 3, 0, 1, 0, 2, 0, 1, 0, 4, 0, 1, 0, 2, 0, 1, 0, 3, 0, 1, 0, 2, 0, 1, 0, 7, 0, 1, 0, 2, 0, 1, 0, 3, 0, 1, 0, 2, 0, 1, 0, 4, 0, 1, 0, 2, 0, 1, 0, 3, 0, 1, 0, 2, 0, 1, 0, 5, 0, 1, 0, 2, 0, 1, 0, 3, 0, 1, 0, 2, 0, 1, 0, 4, 0, 1, 0, 2, 0, 1, 0, 3, 0, 1, 0, 2, 0, 1, 0, 6, 0, 1, 0, 2, 0, 1, 0, 3, 0, 1, 0, 2, 0, 1, 0, 4, 0, 1, 0, 2, 0, 1, 0, 3, 0, 1, 0, 2, 0, 1, 0, 5, 0, 1, 0, 2, 0, 1, 0, 3, 0, 1, 0, 2, 0, 1, 0, 4, 0, 1, 0, 2, 0, 1, 0, 3, 0, 1, 0, 2, 0, 1, 0] })) (.tmp 3))) hs (fun o ho => run_strIdx (k := .u8) ho (by kernel_rfl) (by kernel_rfl) (by kernel_rfl) h_4 _) fun a hs => ?_
 refine qpk 2 [2] hs fun a hs => hK2 _ _ ?_
 clear hK2
 refine wp_ret ?_
 exact qr1 (vi (IntKind.i64.wrap e_3)) hs rfl hRR (by cases hm; exact ⟨rfl, hs.own⟩)


abbrev wire_Machine_Two.R (κ : Ctx) (S : List HP) (x0 : Twire_Machine) (x1 : Int) (x2 : Int) (x3 : Int) (x4 : Int) (b_x0 : Nat) (r : (Int × Twire_Machine)) : Ending → World → Prop := fun e w' => e = .returned (vi r.1) ∧ Ow κ w' (Twire_Machine.own b_x0 r.2 :: S)
def wire_Machine_Two.m (k : Nat) (x0 : Twire_Machine) (x1 : Int) (x2 : Int) (x3 : Int) (x4 : Int) : Option (Int × Twire_Machine) := (wire_Machine_Do.m k x0 (⟨x1, x2, x3, x4, (-1), 0⟩ : Tapi_Op) 0).bind fun v_5 => some (v_5.1, v_5.2)

set_option maxRecDepth 100000 in
set_option maxHeartbeats 4000000 in
theorem wire_Machine_Two.ok (k : Nat) (x0 : Twire_Machine) (x1 : Int) (x2 : Int) (x3 : Int) (x4 : Int) (r : (Int × Twire_Machine)) (hm : wire_Machine_Two.m k x0 x1 x2 x3 x4 = some r) (κ : Ctx) (w : World) (S : List HP) (b_x0 : Nat) (ho : Ow κ w (Twire_Machine.own b_x0 x0 :: S)) :
  Calls Try.prog 150 #[pp b_x0, vi x1, vi x2, vi x3, vi x4] w (wire_Machine_Two.R κ S x0 x1 x2 x3 x4 b_x0 r) := by
 unfold wire_Machine_Two.m at hm
 generalize hRR : wire_Machine_Two.R κ S x0 x1 x2 x3 x4 b_x0 r = RR
 refine qen [(0, pp b_x0), (1, vi x1), (2, vi x2), (3, vi x3), (4, vi x4)] Try.func150 Try.ntmps150 ho fun a hs => ?_
 refine qsk 1 [0, 1, 2, 3, 4] hs fun a hs => ?_
 refine qsr fun K2 hK2 => ?_
 refine qpu 6 hs fun a hs => ?_
 obtain ⟨v_5, h_4, hm⟩ := bind_t hm
 refine qcl (wire_Machine_Do.ok _ _ _ _ _ h_4 _ _ _ b_x0 hs.own) hs fun w a hs => ?_
 refine qpe 1 [(10, vi v_5.1)] hs fun a hs => hK2 _ _ ?_
 clear hK2
 refine wp_ret ?_
 exact qr1 (vi v_5.1) hs rfl hRR (by cases hm; exact ⟨rfl, hs.own⟩)


def share_Xor.l1 (x1 : Cells) (x2 : Cells) (v_21 : Int) : Nat → Twire_Machine → Cells → Int → Option (Cells × Twire_Machine)
 | 0, _, _, _ => none
 | k + 1, q_23, q_24, q_25 => (bif decide (q_25 < v_21) then (if 0 ≤ q_25 ∧ q_25 < 3 then (getI .i64 x1 (0 + q_25.toNat * 1)).bind fun v_36 => (if 0 ≤ q_25 ∧ q_25 < 3 then (getI .i64 x2 (0 + q_25.toNat * 1)).bind fun v_39 => (wire_Machine_Two.m k q_23 5 q_25 v_36 v_39).bind fun v_42 => (if 0 ≤ q_25 ∧ q_25 < 3 then (if 0 + q_25.toNat * 1 < q_24.length then share_Xor.l1 x1 x2 v_21 k v_42.2 (q_24.set (0 + q_25.toNat * 1) (ci v_42.1)) (IntKind.i64.wrap (q_25 + 1)) else none) else none) else none) else none) else some (q_24, q_23))
abbrev share_Xor.R (κ : Ctx) (S : List HP) (x0 : Twire_Machine) (x1 : Cells) (x2 : Cells) (b_x0 : Nat) (r : (Cells × Twire_Machine)) : Ending → World → Prop := fun e w' => e = .returned (.agg (vals r.1)) ∧ Ow κ w' (Twire_Machine.own b_x0 r.2 :: S)
def share_Xor.m (k : Nat) (x0 : Twire_Machine) (x1 : Cells) (x2 : Cells) : Option (Cells × Twire_Machine) := (share_none.m k).bind fun v_13 => (if v_13.length = 3 then (wire_Machine_N.m k x0).bind fun v_21 => (share_Xor.l1 x1 x2 v_21 k x0 v_13 0).bind fun x => match x with | (p_45, p_46) => (if p_45.length = 3 then some (p_45, p_46) else none) else none)

set_option maxRecDepth 100000 in
set_option maxHeartbeats 4000000 in
theorem share_Xor.ok (k : Nat) (x0 : Twire_Machine) (x1 : Cells) (x2 : Cells) (r : (Cells × Twire_Machine)) (hm : share_Xor.m k x0 x1 x2 = some r) (κ : Ctx) (w : World) (S : List HP) (b_x0 : Nat) (ho : Ow κ w (Twire_Machine.own b_x0 x0 :: S)) :
  Calls Try.prog 99 #[pp b_x0, .agg (vals x1), .agg (vals x2)] w (share_Xor.R κ S x0 x1 x2 b_x0 r) := by
 unfold share_Xor.m at hm
 generalize hRR : share_Xor.R κ S x0 x1 x2 b_x0 r = RR
 refine qen [(0, pp b_x0), (1, .agg (vals x1)), (2, .agg (vals x2))] Try.func99 Try.ntmps99 ho fun a hs => ?_
 refine qsr fun K1 hK1 => ?_
 refine qbx 0 41 [cp b_x0] 3 hs fun b_2 w a hs => ?_
 refine qbx 1 28 x1 4 hs fun b_3 w a hs => ?_
 refine qbx 2 28 x2 5 hs fun b_4 w a hs => ?_
 refine qal 28 [ci 0, ci 0, ci 0] 6 hs fun b_5 w a hs => ?_
 refine qpk 0 [3, 4, 5, 6] hs fun a hs => hK1 _ _ ?_
 clear hK1
 refine qsr fun K6 hK6 => ?_
 refine qld 3 (cp b_x0) hs rfl fun a hs => ?_
 refine qpu 1 hs fun a hs => ?_
 refine Vk.step (Vk.call (some 9) 132 #[pp b_x0, .func (.func 154) #[] #[pp b_2, pp b_3, pp b_4]] hs (by kernel_rfl) (by kernel_rfl) (by kernel_rfl) ?_)
 refine Vk.enterI [(0, pp b_x0), (1, .func (.func 154) #[] #[pp b_2, pp b_3, pp b_4])] Try.func132 rfl Try.ntmps132 (by kernel_rfl) (Nat.le_of_ble_eq_true (by kernel_rfl)) hs.own fun KR7 hKR7 hKP7 a hs => ?_
 refine qsr fun K8 hK8 => ?_
 refine qal 28 [ci 0, ci 0, ci 0] 4 hs fun b_9 w a hs => ?_
 refine qpk 0 [0, 1, 4] hs fun a hs => hK8 _ _ ?_
 clear hK8
 refine qsr fun K10 hK10 => ?_
 obtain ⟨v_13, h_12, hm⟩ := bind_t hm
 refine qcl (share_none.ok _ _ h_12 _ _ (pt b_9 (blk [ci 0, ci 0, ci 0] 28) :: pt b_5 (blk [ci 0, ci 0, ci 0] 28) :: pt b_4 (blk x2 28) :: pt b_3 (blk x1 28) :: pt b_2 (blk [cp b_x0] 41) :: Twire_Machine.own b_x0 x0 :: S) hs.own) hs fun w a hs => ?_
 refine qal 28 [ci 0, ci 0, ci 0] 5 hs fun b_14 w a hs => ?_
 obtain ⟨h_15, hm⟩ := ite_t hm
 refine qsb 0 v_13 hs rfl h_15 rfl fun a w hs => ?_
 refine qpe 0 [(0, pp b_x0), (1, .func (.func 154) #[] #[pp b_2, pp b_3, pp b_4]), (4, pp b_9), (5, pp b_14)] hs fun a hs => hK10 _ _ ?_
 clear hK10
 refine Vk.seq fun K16 hK16 => ?_
 refine qsr fun K17 hK17 => ?_
 refine qpu 1 hs fun a hs => ?_
 obtain ⟨g_18, hs⟩ := hs.unex 6 rfl
 obtain ⟨v_21, h_20, hm⟩ := bind_t hm
 refine qcl (wire_Machine_N.ok _ _ _ h_20 _ _ _ b_x0 g_18 hs.own.f6) hs fun w a hs => ?_
 refine qpk 1 [1, 4, 5, 9, 10] hs fun a hs => hK17 _ _ ?_
 clear hK17
 refine wp_block ?_
 replace hs := hs.toEx (Twire_Machine.parts b_x0 x0) g_18 0 rfl
 obtain ⟨r22, hl22, hm⟩ := bind_t hm
 have hx22 : ∀ (p_45 : Cells) (p_46 : Twire_Machine), r22 = (p_45, p_46) → ∀ (a : Act) (w : World), St 21 a w κ [(4, pp b_9), (5, pp b_14)] (pt b_9 (blk [ci 0, ci 0, ci 0] 28) :: pt b_14 (blk p_45 28) :: Twire_Machine.own b_x0 p_46 :: pt b_2 (blk [cp b_x0] 41) :: pt b_3 (blk x1 28) :: pt b_4 (blk x2 28) :: pt b_5 (blk [ci 0, ci 0, ci 0] 28) :: S) → K16 a w := by
  intro p_45 p_46 he a w hs
  subst r22
  refine hK16 _ _ ?_
  clear hK16
  refine qsr fun K50 hK50 => ?_
  obtain ⟨h_51, hm⟩ := ite_t hm
  refine qlw 1 hs rfl h_51 fun a hs => ?_
  refine qsb 0 p_45 hs rfl h_51 rfl fun a w hs => ?_
  refine qpe 0 [(4, pp b_9)] hs fun a hs => hK50 _ _ ?_
  clear hK50
  refine wp_ret ?_
  refine hKP7 _ _ ?_
  refine hKR7 _ _ ?_
  refine Vk.retC (P := Try.prog) (fn := Try.f132) p_45 hs rfl (by kernel_rfl) (sz := 3) (by kernel_rfl) h_51 (CellsAt.all 0 rfl) ⟨_, _, _, rfl, hs.own, fun a hs => ?_⟩
  refine qsb 6 p_45 hs rfl h_51 rfl fun a w hs => ?_
  refine qpe 0 [(6, pp b_5)] hs fun a hs => hK6 _ _ ?_
  clear hK6
  refine wp_ret ?_
  exact Vk.retC p_45 hs rfl (by kernel_rfl) (sz := 3) (by kernel_rfl) h_51 (CellsAt.all 6 rfl) (hRR ▸ by cases hm; exact ⟨rfl, (hs.own.too [2] 7)⟩)
 refine Vk.loopBy (fun k (s : Twire_Machine × Cells × Int) a w => share_Xor.l1 x1 x2 v_21 k s.1 s.2.1 s.2.2 = some r22 ∧ St 21 a w κ [(1, .func (.func 154) #[] #[pp b_2, pp b_3, pp b_4]), (4, pp b_9), (5, pp b_14), (9, vi v_21), (10, vi s.2.2)] (pt b_2 (blk [cp b_x0] 41) :: Twire_Machine.own b_x0 s.1 :: pt b_3 (blk x1 28) :: pt b_4 (blk x2 28) :: pt b_9 (blk [ci 0, ci 0, ci 0] 28) :: pt b_14 (blk s.2.1 28) :: pt b_5 (blk [ci 0, ci 0, ci 0] 28) :: S)) k (x0, v_13, 0) ⟨hl22, hs.go [1, 4, 5, 9, 10] [6, 0, 5, 4, 2, 1, 3] 7 (by kernel_rfl) (by kernel_rfl) (by kernel_rfl)⟩ (fun s a w h => by obtain ⟨h1, _⟩ := h; simp [share_Xor.l1] at h1) (fun k KL22 ih s a w h => ?_)
 obtain ⟨q_23, q_24, q_25⟩ := s
 obtain ⟨hm, hs⟩ := h
 try dsimp only at hm hs
 rw [share_Xor.l1] at hm
 refine qsk 1 [1, 4, 5, 9, 10, 11] hs fun a hs => ?_
 refine Vk.seq fun K27 hK27 => ?_
 refine qcs (decide (q_25 < v_21)) hs (fun hb => ?_) fun hb => ?_
 ·replace hm := bif_t hm hb
  refine wp_skip ?_
  refine hK27 _ _ ?_
  clear hK27
  refine Vk.seq fun K28 hK28 => ?_
  refine wp_block ?_
  refine qsk 2 [1, 4, 5, 6, 9, 10] hs fun a hs => ?_
  refine Vk.region ?_
  refine qpu 3 hs fun a hs => ?_
  refine Vk.step (Vk.call (some 16) 154 #[vi q_25, pp b_2, pp b_3, pp b_4] hs (by kernel_rfl) (by kernel_rfl) (by kernel_rfl) ?_)
  refine Vk.enterI [(0, vi q_25), (1, pp b_2), (2, pp b_3), (3, pp b_4)] Try.func154 rfl Try.ntmps154 (by kernel_rfl) (Nat.le_of_ble_eq_true (by kernel_rfl)) hs.own fun KR30 hKR30 hKP30 a hs => ?_
  refine qsk 1 [0, 1, 2, 3] hs fun a hs => ?_
  refine Vk.seq fun K32 hK32 => ?_
  obtain ⟨C_33, hC_33⟩ := qC hs.own
  refine qdr 10 κ C_33 hs fun w hs hqC_33 => ?_
  have hcl := qO hC_33 hs.own
  refine qdp (fuel := 7) [1, 2, 3, 6, 7] hs hcl hqC_33 fun a hs => ?_
  refine qdl 0 0 (cp b_x0) hs hcl hqC_33 hC_33 rfl fun a hs => ?_
  obtain ⟨h_34, hm⟩ := ite_t hm
  refine qdx 4 b_3 0 1 hs hcl hqC_33 h_34 fun a hs => ?_
  obtain ⟨v_36, h_35, hm⟩ := bind_t hm
  refine qdi 5 2 hs hcl hqC_33 hC_33 rfl h_35 fun a hs => ?_
  obtain ⟨h_37, hm⟩ := ite_t hm
  refine qdx 8 b_4 0 1 hs hcl hqC_33 h_37 fun a hs => ?_
  obtain ⟨v_39, h_38, hm⟩ := bind_t hm
  refine qdi 9 3 hs hcl hqC_33 hC_33 rfl h_38 fun a hs => ?_
  obtain ⟨v_42, h_41, hm⟩ := bind_t hm
  refine qdc 10 (wire_Machine_Two.ok _ _ _ _ _ _ _ h_41 _ _ _ b_x0 hs.own.f1) hs fun w a hs => ?_
  refine ⟨fun h => absurd h (by decide), ?_⟩
  refine Vk.dOnly (i := 11) (by kernel_rfl) (Vk.dPure1 [(5, vi v_42.1)] hs (by kernel_rfl) fun a hs => ?_)
  refine ⟨fun h => absurd h (by decide), ?_⟩
  replace hs := hs.pick [5] (L' := [(5, vi v_42.1)]) (by kernel_rfl)
  refine Vk.dDone (by kernel_rfl) ?_
  refine hK32 _ _ ?_
  clear hK32
  refine wp_ret ?_
  refine hKP30 _ _ ?_
  refine hKR30 _ _ ?_
  refine Vk.ret1 (P := Try.prog) (fn := Try.f154) (vi v_42.1) hs rfl (by kernel_rfl) ⟨_, _, _, rfl, hs.own, fun a hs => ?_⟩
  refine qpu 1 hs fun a hs => ?_
  obtain ⟨h_43, hm⟩ := ite_t hm
  refine qix b_14 0 1 hs h_43 fun a hs => ?_
  obtain ⟨h_44, hm⟩ := ite_t hm
  refine Vk.step (Vk.store1 (b := b_14) (ty := 3) (x := (.tmp 18)) (y := (.tmp 16)) (off := 0 + q_25.toNat * 1) (ci v_42.1) 5 hs (by kernel_rfl) (by kernel_rfl) (by kernel_rfl) (by kernel_rfl) (by kernel_rfl) (by kernel_rfl) rfl h_44 fun a w hs => ?_)
  refine qpk 0 [1, 4, 5, 9, 10] hs fun a hs => hK28 _ _ ?_
  clear hK28
  refine Vk.region ?_
  refine qpk 2 [1, 4, 5, 9, 10] hs fun a hs => ?_
  refine ih (v_42.2, (q_24.set (0 + q_25.toNat * 1) (ci v_42.1)), (IntKind.i64.wrap (q_25 + 1))) _ _ ⟨hm, hs.go [1, 4, 5, 9, 10] [1, 0, 2, 3, 4, 5, 6] 7 (by kernel_rfl) (by kernel_rfl) (by kernel_rfl)⟩
 ·replace hm := bif_f hm hb
  refine wp_exit ?_
  exact hx22 q_24 q_23 (Option.some.inj hm).symm _ _ (hs.go [4, 5] [4, 5, 1, 0, 2, 3, 6] 7 (by kernel_rfl) (by kernel_rfl) (by kernel_rfl))


def maps_turned.j1 (k : Nat) (rec23 : Int → Twire_Machine → Cells → Bool → Option (Twire_Machine × Cells × Bool × Int)) (q_24 : Int) (p_51 : Twire_Machine) (p_52 : Cells) : Option (Twire_Machine × Cells × Bool × Int) := rec23 (band .u8 q_24 (IntKind.u8.wrap (q_24 - 1))) p_51 p_52 false
def maps_turned.l1 (x2 : Cells) : Nat → Int → Twire_Machine → Cells → Bool → Option (Twire_Machine × Cells × Bool × Int)
 | 0, _, _, _, _ => none
 | k + 1, q_24, q_25, q_26, q_27 => (bif q_24 != 0 then (bits_TrailingZeros8.m k q_24).bind fun v_34 => (bif q_27 then (if 0 ≤ v_34 ∧ v_34 < 8 then (part? x2 (0 + v_34.toNat * 3) 3).bind fun v_40 => (if q_26.length = 3 then maps_turned.j1 k (maps_turned.l1 x2 k) q_24 q_25 v_40 else none) else none) else (if q_26.length = 3 then (if 0 ≤ v_34 ∧ v_34 < 8 then (part? x2 (0 + v_34.toNat * 3) 3).bind fun v_46 => (share_Xor.m k q_25 q_26 v_46).bind fun v_49 => (if v_49.1.length = 3 then maps_turned.j1 k (maps_turned.l1 x2 k) q_24 v_49.2 v_49.1 else none) else none) else none)) else some (q_25, q_26, q_27, q_24))
abbrev maps_turned.R (κ : Ctx) (S : List HP) (x0 : Twire_Machine) (x1 : Int) (x2 : Cells) (b_x0 : Nat) (r : (Cells × Twire_Machine)) : Ending → World → Prop := fun e w' => e = .returned (.agg (vals r.1)) ∧ Ow κ w' (Twire_Machine.own b_x0 r.2 :: S)
def maps_turned.m (k : Nat) (x0 : Twire_Machine) (x1 : Int) (x2 : Cells) : Option (Cells × Twire_Machine) := (bif x1 == 0 then (share_Public.m k x0 0).bind fun v_10 => (if v_10.1.length = 3 then some (v_10.1, v_10.2) else none) else (maps_turned.l1 x2 k x1 x0 [ci 0, ci 0, ci 0] true).bind fun x => match x with | (p_53, p_54, p_55, p_56) => (if p_54.length = 3 then some (p_54, p_53) else none))

set_option maxRecDepth 100000 in
set_option maxHeartbeats 4000000 in
theorem maps_turned.ok (k : Nat) (x0 : Twire_Machine) (x1 : Int) (x2 : Cells) (r : (Cells × Twire_Machine)) (hm : maps_turned.m k x0 x1 x2 = some r) (κ : Ctx) (w : World) (S : List HP) (b_x0 : Nat) (ho : Ow κ w (Twire_Machine.own b_x0 x0 :: S)) :
  Calls Try.prog 115 #[pp b_x0, .int .u8 x1, .agg (vals x2)] w (maps_turned.R κ S x0 x1 x2 b_x0 r) := by
 unfold maps_turned.m at hm
 generalize hRR : maps_turned.R κ S x0 x1 x2 b_x0 r = RR
 refine enterM [(0, pp b_x0), (1, .int .u8 x1), (2, .agg (vals x2))] Try.func115 Try.ntmps115 ho fun a hs => ?_
 refine qsr fun K1 hK1 => ?_
 refine qbx 0 41 [cp b_x0] 3 hs fun b_2 w a hs => ?_
 refine qbx 2 71 x2 5 hs fun b_3 w a hs => ?_
 refine qal 28 [ci 0, ci 0, ci 0] 6 hs fun b_4 w a hs => ?_
 refine qpk 0 [1, 3, 5, 6] hs fun a hs => hK1 _ _ ?_
 clear hK1
 refine Vk.seq fun K5 hK5 => ?_
 refine qsk 2 [1, 3, 5, 6, 11] hs fun a hs => ?_
 refine qcs (x1 == 0) hs (fun hb => ?_) fun hb => ?_
 ·replace hm := bif_t hm hb
  refine qsr fun K7 hK7 => ?_
  refine qld 2 (cp b_x0) hs rfl fun a hs => ?_
  obtain ⟨v_10, h_9, hm⟩ := bind_t hm
  refine qcl (share_Public.ok _ _ _ _ h_9 _ _ _ b_x0 hs.own.f3) hs fun w a hs => ?_
  obtain ⟨h_11, hm⟩ := ite_t hm
  refine qsb 1 v_10.1 hs rfl h_11 rfl fun a w hs => ?_
  refine qpe 0 [(6, pp b_4)] hs fun a hs => hK7 _ _ ?_
  clear hK7
  refine wp_ret ?_
  refine leaves0 ?_
  exact Vk.retC v_10.1 hs rfl (by kernel_rfl) (sz := 3) (by kernel_rfl) h_11 (CellsAt.all 1 rfl) (hRR ▸ by cases hm; exact ⟨rfl, (hs.own.too [0] 4)⟩)
 ·replace hm := bif_f hm hb
  refine wp_skip ?_
  refine hK5 _ _ ?_
  clear hK5
  refine qsr fun K12 hK12 => ?_
  refine qal 28 [ci 0, ci 0, ci 0] 7 hs fun b_13 w a hs => ?_
  refine qpk 0 [1, 3, 5, 6, 7] hs fun a hs => hK12 _ _ ?_
  clear hK12
  refine qsr fun K14 hK14 => ?_
  refine qal 4 [C.bool false] 8 hs fun b_15 w a hs => ?_
  refine qst 0 0 (C.bool true) hs rfl fun a w hs => ?_
  refine qpk 0 [1, 3, 5, 6, 7, 8] hs fun a hs => hK14 _ _ ?_
  clear hK14
  refine Vk.seq fun K16 hK16 => ?_
  refine qsr fun K17 hK17 => ?_
  refine qpu 1 hs fun a hs => ?_
  refine Vk.step (Vk.call (some 15) 118 #[.int .u8 x1] hs (by kernel_rfl) (by kernel_rfl) (by kernel_rfl) ?_)
  refine Vk.enterI [(0, .int .u8 x1)] Try.func118 rfl Try.ntmps118 (by kernel_rfl) (Nat.le_of_ble_eq_true (by kernel_rfl)) hs.own fun KR18 hKR18 hKP18 a hs => ?_
  refine qsr fun K19 hK19 => ?_
  refine qbx 0 5 [C.int .u8 x1] 1 hs fun b_20 w a hs => ?_
  refine qpe 1 [(1, pp b_20)] hs fun a hs => hK19 _ _ ?_
  clear hK19
  refine qsk 2 [2] hs fun a hs => ?_
  refine wp_ret ?_
  refine hKP18 _ _ ?_
  refine hKR18 _ _ ?_
  refine Vk.ret1 (P := Try.prog) (fn := Try.f118) (.func (.func 157) #[] #[pp b_20]) hs rfl (by kernel_rfl) ⟨_, _, _, rfl, hs.own, fun a hs => ?_⟩
  refine qpk 0 [3, 5, 6, 7, 8, 15] hs fun a hs => hK17 _ _ ?_
  clear hK17
  refine wp_block ?_
  replace hs := hs.pick [3, 5, 6, 7, 8, 15] (L' := [(3, pp b_2), (5, pp b_3), (6, pp b_4), (7, pp b_13), (8, pp b_15), (15, .func (.func 157) #[] #[pp b_20])]) (by kernel_rfl)
  refine rangeFn (gf := 157) (caps := #[pp b_20]) hs fun lp_22 dm_22 fm_22 Tm_22 Xr_22 Yr_22 w hX_22 hY_22 hT_22 ho => ?_
  refine Vk.enterI [(0, .func (.yield lp_22) #[] #[]), (1, pp b_20)] Try.func157 rfl Try.ntmps157 (by kernel_rfl) (Nat.le_of_ble_eq_true (by kernel_rfl)) ho fun KR22 hKR22 hKP22 a hs => ?_
  refine tailK fun KN22 hKN22 => ?_
  refine wp_block ?_
  obtain ⟨r23, hl23, hm⟩ := bind_t hm
  have hx23 : ∀ (p_53 : Twire_Machine) (p_54 : Cells) (p_55 : Bool) (p_56 : Int), r23 = (p_53, p_54, p_55, p_56) → ∀ (a : Act) (w : World), St 14 a w κ [] (pt lp_22 Xr_22 :: pt dm_22 dfD :: Twire_Machine.own b_x0 p_53 :: pt b_2 (blk [cp b_x0] 41) :: pt b_3 (blk x2 71) :: pt b_4 (blk [ci 0, ci 0, ci 0] 28) :: pt b_13 (blk p_54 28) :: pt b_15 (blk [C.bool p_55] 4) :: pt b_20 (blk [C.int .u8 p_56] 5) :: S) → KN22 a w := by
   intro p_53 p_54 p_55 p_56 he a w hs
   subst r23
   refine hKN22 _ _ ?_
   refine Vk.end0 (P := Try.prog) (fn := Try.f157) hs rfl ⟨_, _, 0, ⟨_, rfl⟩, hs.own, rfl, fun a w (hs : St ⟨28, [mkD dm_22]⟩ a w κ [(3, pp b_2), (5, pp b_3), (6, pp b_4), (7, pp b_13), (8, pp b_15), (15, .func (.func 157) #[] #[pp b_20])] (pt dm_22 dfD :: Twire_Machine.own b_x0 p_53 :: pt b_2 (blk [cp b_x0] 41) :: pt b_3 (blk x2 71) :: pt b_4 (blk [ci 0, ci 0, ci 0] 28) :: pt b_13 (blk p_54 28) :: pt b_15 (blk [C.bool p_55] 4) :: pt b_20 (blk [C.int .u8 p_56] 5) :: S)) => ?_⟩
   refine hK16 _ _ ?_
   clear hK16
   refine qsr fun K61 hK61 => ?_
   obtain ⟨h_62, hm⟩ := ite_t hm
   refine qlw 5 hs rfl h_62 fun a hs => ?_
   refine qsb 4 p_54 hs rfl h_62 rfl fun a w hs => ?_
   refine qpe 0 [(6, pp b_4)] hs fun a hs => hK61 _ _ ?_
   clear hK61
   refine wp_ret ?_
   refine leaves1 0 hs rfl rfl fun a w hs => ?_
   replace hs : St 28 a w κ [(6, pp b_4)] (Twire_Machine.own b_x0 p_53 :: pt b_2 (blk [cp b_x0] 41) :: pt b_3 (blk x2 71) :: pt b_4 (blk p_54 28) :: pt b_13 (blk p_54 28) :: pt b_15 (blk [C.bool p_55] 4) :: pt b_20 (blk [C.int .u8 p_56] 5) :: S) := hs.pick [6] (by kernel_rfl)
   exact Vk.retC p_54 hs rfl (by kernel_rfl) (sz := 3) (by kernel_rfl) h_62 (CellsAt.all 3 rfl) (hRR ▸ by cases hm; exact ⟨rfl, (hs.own.too [0] 7)⟩)
  refine Vk.loopBy (fun k (s : Int × Twire_Machine × Cells × Bool) a w => maps_turned.l1 x2 k s.1 s.2.1 s.2.2.1 s.2.2.2 = some r23 ∧ St 14 a w κ [(0, .func (.yield lp_22) #[] #[]), (1, pp b_20)] (pt b_20 (blk [C.int .u8 s.1] 5) :: pt lp_22 Xr_22 :: pt dm_22 dfD :: Twire_Machine.own b_x0 s.2.1 :: pt b_2 (blk [cp b_x0] 41) :: pt b_3 (blk x2 71) :: pt b_4 (blk [ci 0, ci 0, ci 0] 28) :: pt b_13 (blk s.2.2.1 28) :: pt b_15 (blk [C.bool s.2.2.2] 4) :: S)) k (x1, x0, [ci 0, ci 0, ci 0], true) ⟨hl23, hs.go [0, 1] [2, 0, 1, 8, 7, 6, 5, 4, 3] 9 (by kernel_rfl) (by kernel_rfl) (by kernel_rfl)⟩ (fun s a w h => by obtain ⟨h1, _⟩ := h; simp [maps_turned.l1] at h1) (fun k KL23 ih s a w h => ?_)
  obtain ⟨q_24, q_25, q_26, q_27⟩ := s
  obtain ⟨hm, hs⟩ := h
  try dsimp only at hm hs
  rw [maps_turned.l1] at hm
  refine Vk.seq fun K28 hK28 => ?_
  refine qsr fun K29 hK29 => ?_
  refine qld 0 (C.int .u8 q_24) hs rfl fun a hs => ?_
  refine qpk 1 [0, 1, 4] hs fun a hs => hK29 _ _ ?_
  clear hK29
  refine qcs (q_24 != 0) hs (fun hb => ?_) fun hb => ?_
  ·replace hm := bif_t hm hb
   refine wp_skip ?_
   refine hK28 _ _ ?_
   clear hK28
   refine Vk.seq fun K30 hK30 => ?_
   refine wp_block ?_
   refine qsr fun K31 hK31 => ?_
   refine qpu 1 hs fun a hs => ?_
   refine qld 0 (C.int .u8 q_24) hs rfl fun a hs => ?_
   obtain ⟨v_34, h_33, hm⟩ := bind_t hm
   refine qcl (bits_TrailingZeros8.ok _ _ _ h_33 _ _ (pt b_20 (blk [C.int .u8 q_24] 5) :: pt lp_22 Xr_22 :: pt dm_22 dfD :: Twire_Machine.own b_x0 q_25 :: pt b_2 (blk [cp b_x0] 41) :: pt b_3 (blk x2 71) :: pt b_4 (blk [ci 0, ci 0, ci 0] 28) :: pt b_13 (blk q_26 28) :: pt b_15 (blk [C.bool q_27] 4) :: S) hs.own) hs fun w a hs => ?_
   refine yieldOp 1 #[vi v_34] hs hX_22 hY_22 hT_22 rfl fun KA35 QB35 a hqB35 hno35 hKB35 hb35 he35 hs => ?_
   replace hs := hs.pick [3, 5, 7, 8, 16] (L' := [(3, pp b_2), (5, pp b_3), (7, pp b_13), (8, pp b_15), (16, vi v_34)]) (by kernel_rfl)
   refine regionI ?_
   refine qpk 1 [3, 5, 7, 8, 9] hs fun a hs => ?_
   refine hb35 1 _ _ _ _ _ hs rfl fun w hs => ?_
   replace hs : St 28 a w κ [(3, pp b_2), (5, pp b_3), (7, pp b_13), (8, pp b_15), (9, vi v_34)] (pt b_20 (blk [C.int .u8 q_24] 5) :: pt lp_22 Yr_22 :: pt dm_22 dfD :: Twire_Machine.own b_x0 q_25 :: pt b_2 (blk [cp b_x0] 41) :: pt b_3 (blk x2 71) :: pt b_4 (blk [ci 0, ci 0, ci 0] 28) :: pt b_13 (blk q_26 28) :: pt b_15 (blk [C.bool q_27] 4) :: S) := hs.pick [3, 5, 7, 8, 9] (by kernel_rfl)
   refine blockI ?_
   refine seqI fun K36 hK36 => ?_
   have hj36 : ∀ (p_51 : Twire_Machine) (p_52 : Cells), maps_turned.j1 k (maps_turned.l1 x2 k) q_24 p_51 p_52 = some r23 → ∀ (a : Act) (w : World), St 28 a w κ [(8, pp b_15)] (pt b_15 (blk [C.bool q_27] 4) :: pt lp_22 Yr_22 :: pt dm_22 dfD :: Twire_Machine.own b_x0 p_51 :: pt b_2 (blk [cp b_x0] 41) :: pt b_3 (blk x2 71) :: pt b_4 (blk [ci 0, ci 0, ci 0] 28) :: pt b_13 (blk p_52 28) :: pt b_20 (blk [C.int .u8 q_24] 5) :: S) → K36 a w := by
    intro p_51 p_52 hm a w hs
    unfold maps_turned.j1 at hm
    refine hK36 _ _ ?_
    refine regionI ?_
    refine qst 0 0 (C.bool false) hs rfl fun a w hs => ?_
    refine qpe 0 [] hs fun a hs => ?_
    refine he35 1 _ _ _ _ _ hs rfl fun a w hs => ?_
    replace hs : St 14 a w κ [(0, .func (.yield lp_22) #[] #[]), (1, pp b_20), (4, .bool (q_24 != 0)), (9, .func (.yield lp_22) #[] #[]), (10, .int .u8 q_24), (11, vi v_34), (12, .bool true)] (pt b_15 (blk [C.bool false] 4) :: pt lp_22 Xr_22 :: pt dm_22 dfD :: Twire_Machine.own b_x0 p_51 :: pt b_2 (blk [cp b_x0] 41) :: pt b_3 (blk x2 71) :: pt b_4 (blk [ci 0, ci 0, ci 0] 28) :: pt b_13 (blk p_52 28) :: pt b_20 (blk [C.int .u8 q_24] 5) :: S) := hs.pick [0, 1, 4, 9, 10, 11, 12] (by kernel_rfl)
    refine qpk 1 [0, 1, 13] hs fun a hs => hK31 _ _ ?_
    clear hK31
    refine qcf hs ?_
    refine wp_skip ?_
    refine hK30 _ _ ?_
    clear hK30
    refine Vk.region ?_
    refine qld 8 (C.int .u8 q_24) hs rfl fun a hs => ?_
    refine qld 8 (C.int .u8 q_24) hs rfl fun a hs => ?_
    refine qpu 2 hs fun a hs => ?_
    refine qst 8 0 (C.int .u8 (band .u8 q_24 (IntKind.u8.wrap (q_24 - 1)))) hs rfl fun a w hs => ?_
    refine qpk 0 [0, 1] hs fun a hs => ?_
    refine ih ((band .u8 q_24 (IntKind.u8.wrap (q_24 - 1))), p_51, p_52, false) _ _ ⟨hm, hs.go [0, 1] [8, 1, 2, 3, 4, 5, 6, 7, 0] 9 (by kernel_rfl) (by kernel_rfl) (by kernel_rfl)⟩
   refine seqI fun K37 hK37 => ?_
   refine regionI ?_
   refine qld 8 (C.bool q_27) hs rfl fun a hs => ?_
   refine qpk 0 [3, 5, 7, 8, 9, 17] hs fun a hs => hK37 _ _ ?_
   clear hK37
   refine qcsI (q_27) hs (fun hb => ?_) fun hb => ?_
   ·replace hm := bif_t hm hb
    refine regionI ?_
    refine qpu 1 hs fun a hs => ?_
    obtain ⟨h_38, hm⟩ := ite_t hm
    refine qix b_3 0 3 hs h_38 fun a hs => ?_
    obtain ⟨v_40, h_39, hm⟩ := bind_t hm
    refine qva (.agg (vals v_40)) (op := (.load 28 (.tmp 19))) hs (fun o ho => run_loadN (cs := v_40) ho (by kernel_rfl) (by kernel_rfl) (part?_some h_39).2.2 (CellsAt.own (off := 0 + v_34.toNat * 3) 5 rfl h_39) _ hs.own) fun a hs => ?_
    obtain ⟨h_41, hm⟩ := ite_t hm
    refine Vk.step (Vk.storeA (b := b_13) (ty := 28) (x := (.tmp 7)) (y := (.tmp 20)) (sz := 3) v_40 7 hs (by kernel_rfl) (by kernel_rfl) (by kernel_rfl) (by kernel_rfl) (by kernel_rfl) (part?_some h_39).2.2 (by kernel_rfl) rfl (Eq.trans (b := 3) (part?_some h_39).2.2 (Eq.symm h_41)) fun a w hs => ?_)
    refine qpe 0 [(8, pp b_15)] hs fun a hs => ?_
    exact hj36 q_25 v_40 hm _ _ (hs.go [8] [8, 1, 2, 3, 4, 5, 6, 7, 0] 9 (by kernel_rfl) (by kernel_rfl) (by kernel_rfl))
   ·replace hm := bif_f hm hb
    obtain ⟨C_42, hC_42⟩ := qC hs.own
    refine qdrI 5 κ C_42 hs fun w hs hqC_42 => ?_
    have hcl := qO hC_42 hs.own
    refine qdp (fuel := 6) [2] hs hcl hqC_42 fun a hs => ?_
    refine qdl 0 4 (cp b_x0) hs hcl hqC_42 hC_42 rfl fun a hs => ?_
    obtain ⟨h_43, hm⟩ := ite_t hm
    refine qdw 1 7 hs hcl hqC_42 hC_42 rfl h_43 fun a hs => ?_
    obtain ⟨h_44, hm⟩ := ite_t hm
    refine qdx 3 b_3 0 3 hs hcl hqC_42 h_44 fun a hs => ?_
    obtain ⟨v_46, h_45, hm⟩ := bind_t hm
    refine qdt 4 (.agg (vals v_46)) (op := (.load 28 (.tmp 24))) hs hcl hqC_42 (fun w hw o ho => by rw [hC_42] at hw; exact run_loadN (cs := v_46) ho (by kernel_rfl) (by kernel_rfl) (part?_some h_45).2.2 (CellsAt.own (off := 0 + v_34.toNat * 3) 5 rfl h_45) _ hw) fun a hs => ?_
    obtain ⟨v_49, h_48, hm⟩ := bind_t hm
    refine qdc 5 (share_Xor.ok _ _ _ _ _ h_48 _ _ _ b_x0 hs.own.f3) hs fun w a hs => ?_
    refine ⟨fun h => absurd h (by decide), ?_⟩
    obtain ⟨h_50, hm⟩ := ite_t hm
    refine qsA 6 7 v_49.1 hs rfl h_50 h_43 fun a w hs => ?_
    refine ⟨fun h => absurd h (by decide), ?_⟩
    replace hs := hs.pick [8] (L' := [(8, pp b_15)]) (by kernel_rfl)
    refine Vk.dDone (by kernel_rfl) ?_
    exact hj36 v_49.2 v_49.1 hm _ _ (hs.go [8] [8, 2, 3, 0, 4, 5, 6, 7, 1] 9 (by kernel_rfl) (by kernel_rfl) (by kernel_rfl))
  ·replace hm := bif_f hm hb
   refine wp_exit ?_
   exact hx23 q_25 q_26 q_27 q_24 (Option.some.inj hm).symm _ _ (hs.go [] [1, 2, 3, 4, 5, 6, 7, 8, 0] 9 (by kernel_rfl) (by kernel_rfl) (by kernel_rfl))


def maps_Apply.l1 (x1 : Cells) (x2 : Cells) : Nat → Twire_Machine → Cells → Int → Option (Cells × Twire_Machine)
 | 0, _, _, _ => none
 | k + 1, q_11, q_12, q_13 => (bif decide (q_13 < 8) then (if 0 ≤ q_13 ∧ q_13 < 8 then (getI .u8 x1 q_13.toNat).bind fun v_20 => (if x2.length = 24 then (maps_turned.m k q_11 v_20 x2).bind fun v_24 => (if 0 ≤ q_13 ∧ q_13 < 8 then (if v_24.1.length = 3 then (if 0 + q_13.toNat * 3 + v_24.1.length ≤ q_12.length then maps_Apply.l1 x1 x2 k v_24.2 (splice q_12 (0 + q_13.toNat * 3) v_24.1) (IntKind.i64.wrap (q_13 + 1)) else none) else none) else none) else none) else none) else some (q_12, q_11))
abbrev maps_Apply.R (κ : Ctx) (S : List HP) (x0 : Twire_Machine) (x1 : Cells) (x2 : Cells) (b_x0 : Nat) (r : (Cells × Twire_Machine)) : Ending → World → Prop := fun e w' => e = .returned (.agg (vals r.1)) ∧ Ow κ w' (Twire_Machine.own b_x0 r.2 :: S)
def maps_Apply.m (k : Nat) (x0 : Twire_Machine) (x1 : Cells) (x2 : Cells) : Option (Cells × Twire_Machine) := (if x1.length = 8 then (maps_Apply.l1 x1 x2 k x0 [ci 0, ci 0, ci 0, ci 0, ci 0, ci 0, ci 0, ci 0, ci 0, ci 0, ci 0, ci 0, ci 0, ci 0, ci 0, ci 0, ci 0, ci 0, ci 0, ci 0, ci 0, ci 0, ci 0, ci 0] 0).bind fun x => match x with | (p_28, p_29) => (if p_28.length = 24 then some (p_28, p_29) else none) else none)

set_option maxRecDepth 100000 in
set_option maxHeartbeats 4000000 in
theorem maps_Apply.ok (k : Nat) (x0 : Twire_Machine) (x1 : Cells) (x2 : Cells) (r : (Cells × Twire_Machine)) (hm : maps_Apply.m k x0 x1 x2 = some r) (κ : Ctx) (w : World) (S : List HP) (b_x0 : Nat) (ho : Ow κ w (Twire_Machine.own b_x0 x0 :: S)) :
  Calls Try.prog 33 #[pp b_x0, .agg (vals x1), .agg (vals x2)] w (maps_Apply.R κ S x0 x1 x2 b_x0 r) := by
 unfold maps_Apply.m at hm
 generalize hRR : maps_Apply.R κ S x0 x1 x2 b_x0 r = RR
 refine qen [(0, pp b_x0), (1, .agg (vals x1)), (2, .agg (vals x2))] Try.func33 Try.ntmps33 ho fun a hs => ?_
 refine qsr fun K1 hK1 => ?_
 refine qbx 1 68 x1 4 hs fun b_2 w a hs => ?_
 refine qbx 2 71 x2 5 hs fun b_3 w a hs => ?_
 refine qal 71 [ci 0, ci 0, ci 0, ci 0, ci 0, ci 0, ci 0, ci 0, ci 0, ci 0, ci 0, ci 0, ci 0, ci 0, ci 0, ci 0, ci 0, ci 0, ci 0, ci 0, ci 0, ci 0, ci 0, ci 0] 6 hs fun b_4 w a hs => ?_
 refine qpk 0 [0, 4, 5, 6] hs fun a hs => hK1 _ _ ?_
 clear hK1
 refine qsr fun K5 hK5 => ?_
 refine qal 71 [ci 0, ci 0, ci 0, ci 0, ci 0, ci 0, ci 0, ci 0, ci 0, ci 0, ci 0, ci 0, ci 0, ci 0, ci 0, ci 0, ci 0, ci 0, ci 0, ci 0, ci 0, ci 0, ci 0, ci 0] 7 hs fun b_6 w a hs => ?_
 refine qpk 0 [0, 4, 5, 6, 7] hs fun a hs => hK5 _ _ ?_
 clear hK5
 refine Vk.seq fun K7 hK7 => ?_
 refine qsr fun K8 hK8 => ?_
 obtain ⟨h_9, hm⟩ := ite_t hm
 refine qlw 3 hs rfl h_9 fun a hs => ?_
 refine qpk 1 [0, 5, 6, 7, 10, 11] hs fun a hs => hK8 _ _ ?_
 clear hK8
 refine wp_block ?_
 obtain ⟨r10, hl10, hm⟩ := bind_t hm
 have hx10 : ∀ (p_28 : Cells) (p_29 : Twire_Machine), r10 = (p_28, p_29) → ∀ (a : Act) (w : World), St 23 a w κ [(6, pp b_4), (7, pp b_6)] (pt b_4 (blk [ci 0, ci 0, ci 0, ci 0, ci 0, ci 0, ci 0, ci 0, ci 0, ci 0, ci 0, ci 0, ci 0, ci 0, ci 0, ci 0, ci 0, ci 0, ci 0, ci 0, ci 0, ci 0, ci 0, ci 0] 71) :: pt b_6 (blk p_28 71) :: Twire_Machine.own b_x0 p_29 :: S) → K7 a w := by
  intro p_28 p_29 he a w hs
  subst r10
  refine hK7 _ _ ?_
  clear hK7
  refine qsr fun K33 hK33 => ?_
  obtain ⟨h_34, hm⟩ := ite_t hm
  refine qlw 1 hs rfl h_34 fun a hs => ?_
  refine qsb 0 p_28 hs rfl h_34 rfl fun a w hs => ?_
  refine qpe 0 [(6, pp b_4)] hs fun a hs => hK33 _ _ ?_
  clear hK33
  refine wp_ret ?_
  exact Vk.retC p_28 hs rfl (by kernel_rfl) (sz := 24) (by kernel_rfl) h_34 (CellsAt.all 0 rfl) (hRR ▸ by cases hm; exact ⟨rfl, hs.own.f1.drop.drop⟩)
 refine Vk.loopBy (fun k (s : Twire_Machine × Cells × Int) a w => maps_Apply.l1 x1 x2 k s.1 s.2.1 s.2.2 = some r10 ∧ St 23 a w κ [(0, pp b_x0), (5, pp b_3), (6, pp b_4), (7, pp b_6), (10, .agg (vals x1)), (11, vi s.2.2)] (Twire_Machine.own b_x0 s.1 :: pt b_3 (blk x2 71) :: pt b_4 (blk [ci 0, ci 0, ci 0, ci 0, ci 0, ci 0, ci 0, ci 0, ci 0, ci 0, ci 0, ci 0, ci 0, ci 0, ci 0, ci 0, ci 0, ci 0, ci 0, ci 0, ci 0, ci 0, ci 0, ci 0] 71) :: pt b_6 (blk s.2.1 71) :: S)) k (x0, [ci 0, ci 0, ci 0, ci 0, ci 0, ci 0, ci 0, ci 0, ci 0, ci 0, ci 0, ci 0, ci 0, ci 0, ci 0, ci 0, ci 0, ci 0, ci 0, ci 0, ci 0, ci 0, ci 0, ci 0], 0) ⟨hl10, hs.go [0, 5, 6, 7, 10, 11] [4, 2, 1, 0] 5 (by kernel_rfl) (by kernel_rfl) (by kernel_rfl)⟩ (fun s a w h => by obtain ⟨h1, _⟩ := h; simp [maps_Apply.l1] at h1) (fun k KL10 ih s a w h => ?_)
 obtain ⟨q_11, q_12, q_13⟩ := s
 obtain ⟨hm, hs⟩ := h
 try dsimp only at hm hs
 rw [maps_Apply.l1] at hm
 refine qsk 1 [0, 5, 6, 7, 10, 11, 12] hs fun a hs => ?_
 refine Vk.seq fun K15 hK15 => ?_
 refine qcs (decide (q_13 < 8)) hs (fun hb => ?_) fun hb => ?_
 ·replace hm := bif_t hm hb
  refine wp_skip ?_
  refine hK15 _ _ ?_
  clear hK15
  refine Vk.seq fun K16 hK16 => ?_
  refine wp_block ?_
  refine qsr fun K17 hK17 => ?_
  refine qpu 1 hs fun a hs => ?_
  obtain ⟨h_18, hm⟩ := ite_t hm
  obtain ⟨v_20, h_19, hm⟩ := bind_t hm
  refine qva (.int .u8 v_20) (op := (.index 68 (.tmp 10) (.tmp 11))) hs (fun o ho => run_idxVal (k := .i64) (cs := x1) (c := C.int .u8 v_20) ho (by kernel_rfl) (by kernel_rfl) (len := 8) (et := 5) (by kernel_rfl) (by kernel_rfl) (by kernel_rfl) (by kernel_rfl) h_18 (getI_some h_19) _) fun a hs => ?_
  refine qpk 2 [0, 5, 6, 7, 8, 9, 10, 11] hs fun a hs => hK17 _ _ ?_
  clear hK17
  refine Vk.region ?_
  refine qpu 3 hs fun a hs => ?_
  obtain ⟨h_21, hm⟩ := ite_t hm
  refine qlw 1 hs rfl h_21 fun a hs => ?_
  obtain ⟨v_24, h_23, hm⟩ := bind_t hm
  refine qcl (maps_turned.ok _ _ _ _ _ h_23 _ _ _ b_x0 hs.own) hs fun w a hs => ?_
  obtain ⟨h_25, hm⟩ := ite_t hm
  refine qix b_6 0 3 hs h_25 fun a hs => ?_
  obtain ⟨h_26, hm⟩ := ite_t hm
  obtain ⟨h_27, hm⟩ := ite_t hm
  refine Vk.step (Vk.storeN (b := b_6) (ty := 28) (x := (.tmp 20)) (y := (.tmp 19)) (off := 0 + q_13.toNat * 3) (sz := 3) v_24.1 3 hs (by kernel_rfl) (by kernel_rfl) (by kernel_rfl) (by kernel_rfl) (by kernel_rfl) h_26 (by kernel_rfl) rfl h_27 fun a w hs => ?_)
  refine qpk 0 [0, 5, 6, 7, 10, 11] hs fun a hs => hK16 _ _ ?_
  clear hK16
  refine Vk.region ?_
  refine qpk 2 [0, 5, 6, 7, 10, 11] hs fun a hs => ?_
  refine ih (v_24.2, (splice q_12 (0 + q_13.toNat * 3) v_24.1), (IntKind.i64.wrap (q_13 + 1))) _ _ ⟨hm, hs.go [0, 5, 6, 7, 10, 11] [0, 1, 2, 3] 4 (by kernel_rfl) (by kernel_rfl) (by kernel_rfl)⟩
 ·replace hm := bif_f hm hb
  refine wp_exit ?_
  exact hx10 q_12 q_11 (Option.some.inj hm).symm _ _ (hs.go [6, 7] [2, 3, 0] 4 (by kernel_rfl) (by kernel_rfl) (by kernel_rfl))


abbrev visorref05_Bit.R (κ : Ctx) (S : List HP) (x0 : Cells) (x1 : Int) (x2 : Int) (r : Bool) : Ending → World → Prop := fun e w' => e = .returned (.bool r) ∧ Ow κ w' (S)
def visorref05_Bit.m (k : Nat) (x0 : Cells) (x1 : Int) (x2 : Int) : Option Bool := (if 0 ≤ x1 ∧ x1 < 8 then (getI .u8 x0 (0 + x1.toNat * 1)).bind fun v_6 => (if 0 ≤ IntKind.u64.wrap x2 then some ((Int.tmod (shr .u8 v_6 (IntKind.u64.wrap x2)) 2) == 1) else none) else none)

set_option maxRecDepth 100000 in
set_option maxHeartbeats 4000000 in
theorem visorref05_Bit.ok (k : Nat) (x0 : Cells) (x1 : Int) (x2 : Int) (r : Bool) (hm : visorref05_Bit.m k x0 x1 x2 = some r) (κ : Ctx) (w : World) (S : List HP) (ho : Ow κ w (S)) :
  Calls Try.prog 116 #[.agg (vals x0), vi x1, vi x2] w (visorref05_Bit.R κ S x0 x1 x2 r) := by
 unfold visorref05_Bit.m at hm
 generalize hRR : visorref05_Bit.R κ S x0 x1 x2 r = RR
 refine qen [(0, .agg (vals x0)), (1, vi x1), (2, vi x2)] Try.func116 Try.ntmps116 ho fun a hs => ?_
 refine qsr fun K1 hK1 => ?_
 refine qbx 0 68 x0 3 hs fun b_2 w a hs => ?_
 refine qpk 1 [1, 2, 3] hs fun a hs => hK1 _ _ ?_
 clear hK1
 refine qsr fun K3 hK3 => ?_
 refine qpu 1 hs fun a hs => ?_
 obtain ⟨h_4, hm⟩ := ite_t hm
 refine qix b_2 0 1 hs h_4 fun a hs => ?_
 obtain ⟨v_6, h_5, hm⟩ := bind_t hm
 refine qva (.int .u8 v_6) (op := (.load 5 (.tmp 8))) hs (fun o ho => run_load1 (c := C.int .u8 v_6) ho (by kernel_rfl) (by kernel_rfl) (Cell.own 0 rfl (getI_some h_5)) _ hs.own) fun a hs => ?_
 refine qpu 2 hs fun a hs => ?_
 obtain ⟨h_7, hm⟩ := ite_t hm
 refine qva (.int .u8 (shr .u8 v_6 (IntKind.u64.wrap x2))) (op := (.binOp .shr 5 (.tmp 9) (.tmp 11) 24)) hs (fun o ho => run_shr (k' := .u64) ho (by kernel_rfl) (by kernel_rfl) h_7 _) fun a hs => ?_
 refine qpk 3 [6] hs fun a hs => hK3 _ _ ?_
 clear hK3
 refine wp_ret ?_
 exact qr1 (.bool ((Int.tmod (shr .u8 v_6 (IntKind.u64.wrap x2)) 2) == 1)) hs rfl hRR (by cases hm; exact ⟨rfl, hs.own.drop⟩)


def visorref20_Xor.l1 (x1 : Cells) (x2 : Cells) : Nat → Tvisorref19_M → Cells → Int → Option (Cells × Tvisorref19_M)
 | 0, _, _, _ => none
 | k + 1, q_14, q_15, q_16 => (bif decide (q_16 < q_14.n) then (if 0 ≤ q_16 ∧ q_16 < 3 then (getI .i64 x1 (0 + q_16.toNat * 1)).bind fun v_28 => (if 0 ≤ q_16 ∧ q_16 < 3 then (getI .i64 x2 (0 + q_16.toNat * 1)).bind fun v_31 => (visorref19_Op.m k 5 q_16 v_28 v_31 0).bind fun v_34 => (visorref19_M_Do.m k q_14 v_34 0).bind fun v_37 => (if 0 ≤ q_16 ∧ q_16 < 3 then (if 0 + q_16.toNat * 1 < q_15.length then visorref20_Xor.l1 x1 x2 k v_37.2 (q_15.set (0 + q_16.toNat * 1) (ci v_37.1)) (IntKind.i64.wrap (q_16 + 1)) else none) else none) else none) else none) else some (q_15, q_14))
abbrev visorref20_Xor.R (κ : Ctx) (S : List HP) (x0 : Tvisorref19_M) (x1 : Cells) (x2 : Cells) (b_x0 : Nat) (r : (Cells × Tvisorref19_M)) : Ending → World → Prop := fun e w' => e = .returned (.agg (vals r.1)) ∧ Ow κ w' (Tvisorref19_M.own κ b_x0 r.2 :: S)
def visorref20_Xor.m (k : Nat) (x0 : Tvisorref19_M) (x1 : Cells) (x2 : Cells) : Option (Cells × Tvisorref19_M) := (visorref20_None.m k).bind fun v_8 => (if v_8.length = 3 then (visorref20_Xor.l1 x1 x2 k x0 v_8 0).bind fun x => match x with | (p_40, p_41) => (if p_40.length = 3 then some (p_40, p_41) else none) else none)

set_option maxRecDepth 100000 in
set_option maxHeartbeats 4000000 in
theorem visorref20_Xor.ok (k : Nat) (x0 : Tvisorref19_M) (x1 : Cells) (x2 : Cells) (r : (Cells × Tvisorref19_M)) (hm : visorref20_Xor.m k x0 x1 x2 = some r) (κ : Ctx) (w : World) (S : List HP) (b_x0 : Nat) (ho : Ow κ w (Tvisorref19_M.own κ b_x0 x0 :: S)) :
  Calls Try.prog 100 #[pp b_x0, .agg (vals x1), .agg (vals x2)] w (visorref20_Xor.R κ S x0 x1 x2 b_x0 r) := by
 unfold visorref20_Xor.m at hm
 generalize hRR : visorref20_Xor.R κ S x0 x1 x2 b_x0 r = RR
 refine qen [(0, pp b_x0), (1, .agg (vals x1)), (2, .agg (vals x2))] Try.func100 Try.ntmps100 ho fun a hs => ?_
 refine qsr fun K1 hK1 => ?_
 refine qbx 1 28 x1 4 hs fun b_2 w a hs => ?_
 refine qbx 2 28 x2 5 hs fun b_3 w a hs => ?_
 refine qal 28 [ci 0, ci 0, ci 0] 6 hs fun b_4 w a hs => ?_
 refine qpk 0 [0, 4, 5, 6] hs fun a hs => hK1 _ _ ?_
 clear hK1
 refine qsr fun K5 hK5 => ?_
 obtain ⟨v_8, h_7, hm⟩ := bind_t hm
 refine qcl (visorref20_None.ok _ _ h_7 _ _ (pt b_4 (blk [ci 0, ci 0, ci 0] 28) :: pt b_3 (blk x2 28) :: pt b_2 (blk x1 28) :: Tvisorref19_M.own κ b_x0 x0 :: S) hs.own) hs fun w a hs => ?_
 refine qal 28 [ci 0, ci 0, ci 0] 7 hs fun b_9 w a hs => ?_
 obtain ⟨h_10, hm⟩ := ite_t hm
 refine qsb 0 v_8 hs rfl h_10 rfl fun a w hs => ?_
 refine qpk 0 [0, 4, 5, 6, 7] hs fun a hs => hK5 _ _ ?_
 clear hK5
 refine Vk.seq fun K11 hK11 => ?_
 refine qsk 1 [0, 4, 5, 6, 7, 8] hs fun a hs => ?_
 refine wp_block ?_
 obtain ⟨r13, hl13, hm⟩ := bind_t hm
 have hx13 : ∀ (p_40 : Cells) (p_41 : Tvisorref19_M), r13 = (p_40, p_41) → ∀ (a : Act) (w : World), St 34 a w κ [(6, pp b_4), (7, pp b_9)] (pt b_4 (blk [ci 0, ci 0, ci 0] 28) :: pt b_9 (blk p_40 28) :: Tvisorref19_M.own κ b_x0 p_41 :: S) → K11 a w := by
  intro p_40 p_41 he a w hs
  subst r13
  refine hK11 _ _ ?_
  clear hK11
  refine qsr fun K45 hK45 => ?_
  obtain ⟨h_46, hm⟩ := ite_t hm
  refine qlw 1 hs rfl h_46 fun a hs => ?_
  refine qsb 0 p_40 hs rfl h_46 rfl fun a w hs => ?_
  refine qpe 0 [(6, pp b_4)] hs fun a hs => hK45 _ _ ?_
  clear hK45
  refine wp_ret ?_
  exact Vk.retC p_40 hs rfl (by kernel_rfl) (sz := 3) (by kernel_rfl) h_46 (CellsAt.all 0 rfl) (hRR ▸ by cases hm; exact ⟨rfl, hs.own.f1.drop.drop⟩)
 refine Vk.loopBy (fun k (s : Tvisorref19_M × Cells × Int) a w => visorref20_Xor.l1 x1 x2 k s.1 s.2.1 s.2.2 = some r13 ∧ St 34 a w κ [(0, pp b_x0), (4, pp b_2), (5, pp b_3), (6, pp b_4), (7, pp b_9), (8, vi s.2.2)] (Tvisorref19_M.own κ b_x0 s.1 :: pt b_2 (blk x1 28) :: pt b_3 (blk x2 28) :: pt b_4 (blk [ci 0, ci 0, ci 0] 28) :: pt b_9 (blk s.2.1 28) :: S)) k (x0, v_8, 0) ⟨hl13, hs.go [0, 4, 5, 6, 7, 8] [4, 3, 2, 1, 0] 5 (by kernel_rfl) (by kernel_rfl) (by kernel_rfl)⟩ (fun s a w h => by obtain ⟨h1, _⟩ := h; simp [visorref20_Xor.l1] at h1) (fun k KL13 ih s a w h => ?_)
 obtain ⟨q_14, q_15, q_16⟩ := s
 obtain ⟨hm, hs⟩ := h
 try dsimp only at hm hs
 rw [visorref20_Xor.l1] at hm
 refine Vk.seq fun K17 hK17 => ?_
 refine qsr fun K18 hK18 => ?_
 refine qpu 4 hs fun a hs => ?_
 obtain ⟨g_19, hs⟩ := hs.unbag 0 rfl
 refine qld 0 (ci q_14.n) hs rfl fun a hs => ?_
 refine qpk 1 [0, 4, 5, 6, 7, 8, 15] hs fun a hs => hK18 _ _ ?_
 clear hK18
 refine qcs (decide (q_16 < q_14.n)) hs (fun hb => ?_) fun hb => ?_
 ·replace hm := bif_t hm hb
  refine wp_skip ?_
  refine hK17 _ _ ?_
  clear hK17
  refine Vk.seq fun K24 hK24 => ?_
  refine wp_block ?_
  obtain ⟨C_25, hC_25⟩ : ∃ X0 : List HP, X0 = (pt b_2 (blk x1 28) :: pt b_3 (blk x2 28) :: pt b_4 (blk [ci 0, ci 0, ci 0] 28) :: pt b_9 (blk q_15 28) :: S) := ⟨_, rfl⟩
  refine qdr 15 κ C_25 hs fun w hs hqC_25 => ?_
  have hcl : Ow κ w C_25 := by rw [hC_25]; exact (hs.own.too [5, 6, 7, 8] 9)
  refine qdp (fuel := 8) [0, 1, 2, 3, 4, 7, 8, 13] hs hcl hqC_25 fun a hs => ?_
  obtain ⟨h_26, hm⟩ := ite_t hm
  refine qdx 5 b_2 0 1 hs hcl hqC_25 h_26 fun a hs => ?_
  obtain ⟨v_28, h_27, hm⟩ := bind_t hm
  refine qdi 6 0 hs hcl hqC_25 hC_25 rfl h_27 fun a hs => ?_
  obtain ⟨h_29, hm⟩ := ite_t hm
  refine qdx 9 b_3 0 1 hs hcl hqC_25 h_29 fun a hs => ?_
  obtain ⟨v_31, h_30, hm⟩ := bind_t hm
  refine qdi 10 1 hs hcl hqC_25 hC_25 rfl h_30 fun a hs => ?_
  obtain ⟨v_34, h_33, hm⟩ := bind_t hm
  refine qdc 11 (visorref19_Op.ok _ _ _ _ _ _ _ h_33 _ _ (pt b_x0 (blk (Tvisorref19_M.obj q_14 g_19.1 g_19.2.1 g_19.2.2.1 g_19.2.2.2.1 g_19.2.2.2.2.1 g_19.2.2.2.2.2.1 g_19.2.2.2.2.2.2.1 g_19.2.2.2.2.2.2.2) 64) :: rowp g_19.1 g_19.2.1 93 6 Tapi_Op.cells q_14.ops :: rowp g_19.2.2.1 g_19.2.2.2.1 175 3 Tapi_Span.cells q_14.blocks :: rowp g_19.2.2.2.2.1 g_19.2.2.2.2.2.1 32 1 (eI .u64) q_14.val :: rdp κ g_19.2.2.2.2.2.2.1 g_19.2.2.2.2.2.2.2 1 (eI .u64) q_14.tape.l :: pt b_2 (blk x1 28) :: pt b_3 (blk x2 28) :: pt b_4 (blk [ci 0, ci 0, ci 0] 28) :: pt b_9 (blk q_15 28) :: S) hs.own) hs fun w a hs => ?_
  replace hcl : Ow κ w C_25 := by rw [hC_25]; exact (hs.own.too [5, 6, 7, 8] 9)
  refine ⟨fun _ => hcl, ?_⟩
  replace hs := hs.bagG (l := Tvisorref19_M.parts κ b_x0 q_14 g_19) (S' := pt b_2 (blk x1 28) :: pt b_3 (blk x2 28) :: pt b_4 (blk [ci 0, ci 0, ci 0] 28) :: pt b_9 (blk q_15 28) :: S) hs.own
  replace hs := hs.toEx (Tvisorref19_M.parts κ b_x0 q_14) g_19 0 rfl
  obtain ⟨v_37, h_36, hm⟩ := bind_t hm
  refine qdc 12 (visorref19_M_Do.ok _ _ _ _ _ h_36 _ _ _ b_x0 hs.own) hs fun w a hs => ?_
  replace hcl := qO hC_25 hs.own.drop
  refine ⟨fun _ => hcl, ?_⟩
  obtain ⟨h_38, hm⟩ := ite_t hm
  refine qdx 14 b_9 0 1 hs hcl hqC_25 h_38 fun a hs => ?_
  obtain ⟨h_39, hm⟩ := ite_t hm
  refine Vk.dOnly (i := 15) (by kernel_rfl) (Vk.store1 (b := b_9) (ty := 3) (x := (.tmp 32)) (y := (.tmp 30)) (off := 0 + q_16.toNat * 1) (ci v_37.1) 4 hs (by kernel_rfl) (by kernel_rfl) (by kernel_rfl) (by kernel_rfl) (by kernel_rfl) (by kernel_rfl) rfl h_39 fun a w hs => ?_)
  refine ⟨fun h => absurd h (by decide), ?_⟩
  replace hs := hs.pick [0, 4, 5, 6, 7, 8] (L' := [(0, pp b_x0), (4, pp b_2), (5, pp b_3), (6, pp b_4), (7, pp b_9), (8, vi q_16)]) (by kernel_rfl)
  refine Vk.dDone (by kernel_rfl) ?_
  refine hK24 _ _ ?_
  clear hK24
  refine Vk.region ?_
  refine qpk 3 [0, 4, 5, 6, 7, 8] hs fun a hs => ?_
  refine ih (v_37.2, (q_15.set (0 + q_16.toNat * 1) (ci v_37.1)), (IntKind.i64.wrap (q_16 + 1))) _ _ ⟨hm, hs.go [0, 4, 5, 6, 7, 8] [0, 1, 2, 3, 4] 5 (by kernel_rfl) (by kernel_rfl) (by kernel_rfl)⟩
 ·replace hm := bif_f hm hb
  refine wp_exit ?_
  replace hs := hs.bagG (l := Tvisorref19_M.parts κ b_x0 q_14 g_19) (S' := pt b_2 (blk x1 28) :: pt b_3 (blk x2 28) :: pt b_4 (blk [ci 0, ci 0, ci 0] 28) :: pt b_9 (blk q_15 28) :: S) hs.own
  replace hs := hs.toEx (Tvisorref19_M.parts κ b_x0 q_14) g_19 0 rfl
  exact hx13 q_15 q_14 (Option.some.inj hm).symm _ _ (hs.go [6, 7] [3, 4, 0] 5 (by kernel_rfl) (by kernel_rfl) (by kernel_rfl))


def visorref34_Apply.j3 (k : Nat) (rec9 : Tvisorref19_M → Cells → Int → Option (Cells × Tvisorref19_M)) (q_12 : Int) (p_72 : Tvisorref19_M) (p_73 : Cells) : Option (Cells × Tvisorref19_M) := rec9 p_72 p_73 (IntKind.i64.wrap (q_12 + 1))
def visorref34_Apply.j1 (k : Nat) (rec19 : Tvisorref19_M → Cells → Bool → Int → Option (Tvisorref19_M × Cells × Bool)) (q_23 : Int) (p_55 : Tvisorref19_M) (p_56 : Cells) (p_57 : Bool) : Option (Tvisorref19_M × Cells × Bool) := rec19 p_55 p_56 p_57 (IntKind.i64.wrap (q_23 + 1))
def visorref34_Apply.j2 (k : Nat) (rec19 : Tvisorref19_M → Cells → Bool → Int → Option (Tvisorref19_M × Cells × Bool)) (q_23 : Int) (p_53 : Tvisorref19_M) (p_54 : Cells) : Option (Tvisorref19_M × Cells × Bool) := visorref34_Apply.j1 k (rec19) q_23 p_53 p_54 true
def visorref34_Apply.l2 (x1 : Cells) (x2 : Cells) (q_12 : Int) : Nat → Tvisorref19_M → Cells → Bool → Int → Option (Tvisorref19_M × Cells × Bool)
 | 0, _, _, _, _ => none
 | k + 1, q_20, q_21, q_22, q_23 => (bif decide (q_23 < 8) then (if x1.length = 8 then (visorref05_Bit.m k x1 q_12 q_23).bind fun v_32 => (bif !v_32 then visorref34_Apply.j1 k (visorref34_Apply.l2 x1 x2 q_12 k) q_23 q_20 q_21 q_22 else (bif q_22 then (if 0 ≤ q_12 ∧ q_12 < 8 then (part? q_21 (0 + q_12.toNat * 3) 3).bind fun v_38 => (if 0 ≤ q_23 ∧ q_23 < 8 then (part? x2 (0 + q_23.toNat * 3) 3).bind fun v_41 => (visorref20_Xor.m k q_20 v_38 v_41).bind fun v_44 => (if 0 ≤ q_12 ∧ q_12 < 8 then (if v_44.1.length = 3 then (if 0 + q_12.toNat * 3 + v_44.1.length ≤ q_21.length then visorref34_Apply.j2 k (visorref34_Apply.l2 x1 x2 q_12 k) q_23 v_44.2 (splice q_21 (0 + q_12.toNat * 3) v_44.1) else none) else none) else none) else none) else none) else (if 0 ≤ q_23 ∧ q_23 < 8 then (part? x2 (0 + q_23.toNat * 3) 3).bind fun v_50 => (if 0 ≤ q_12 ∧ q_12 < 8 then (if 0 + q_12.toNat * 3 + v_50.length ≤ q_21.length then visorref34_Apply.j2 k (visorref34_Apply.l2 x1 x2 q_12 k) q_23 q_20 (splice q_21 (0 + q_12.toNat * 3) v_50) else none) else none) else none))) else none) else some (q_20, q_21, q_22))
def visorref34_Apply.l1 (x1 : Cells) (x2 : Cells) : Nat → Tvisorref19_M → Cells → Int → Option (Cells × Tvisorref19_M)
 | 0, _, _, _ => none
 | k + 1, q_10, q_11, q_12 => (bif decide (q_12 < 8) then (visorref34_Apply.l2 x1 x2 q_12 k q_10 q_11 false 0).bind fun x => match x with | (p_58, p_59, p_60) => (bif !p_60 then (visorref20_Const.m k p_58 3 0).bind fun v_68 => (if 0 ≤ q_12 ∧ q_12 < 8 then (if v_68.1.length = 3 then (if 0 + q_12.toNat * 3 + v_68.1.length ≤ p_59.length then visorref34_Apply.j3 k (visorref34_Apply.l1 x1 x2 k) q_12 v_68.2 (splice p_59 (0 + q_12.toNat * 3) v_68.1) else none) else none) else none) else visorref34_Apply.j3 k (visorref34_Apply.l1 x1 x2 k) q_12 p_58 p_59) else some (q_11, q_10))
abbrev visorref34_Apply.R (κ : Ctx) (S : List HP) (x0 : Tvisorref19_M) (x1 : Cells) (x2 : Cells) (b_x0 : Nat) (r : (Cells × Tvisorref19_M)) : Ending → World → Prop := fun e w' => e = .returned (.agg (vals r.1)) ∧ Ow κ w' (Tvisorref19_M.own κ b_x0 r.2 :: S)
def visorref34_Apply.m (k : Nat) (x0 : Tvisorref19_M) (x1 : Cells) (x2 : Cells) : Option (Cells × Tvisorref19_M) := (visorref34_Apply.l1 x1 x2 k x0 [ci 0, ci 0, ci 0, ci 0, ci 0, ci 0, ci 0, ci 0, ci 0, ci 0, ci 0, ci 0, ci 0, ci 0, ci 0, ci 0, ci 0, ci 0, ci 0, ci 0, ci 0, ci 0, ci 0, ci 0] 0).bind fun x => match x with | (p_74, p_75) => (if p_74.length = 24 then some (p_74, p_75) else none)

set_option maxRecDepth 100000 in
set_option maxHeartbeats 4000000 in
theorem visorref34_Apply.ok (k : Nat) (x0 : Tvisorref19_M) (x1 : Cells) (x2 : Cells) (r : (Cells × Tvisorref19_M)) (hm : visorref34_Apply.m k x0 x1 x2 = some r) (κ : Ctx) (w : World) (S : List HP) (b_x0 : Nat) (ho : Ow κ w (Tvisorref19_M.own κ b_x0 x0 :: S)) :
  Calls Try.prog 34 #[pp b_x0, .agg (vals x1), .agg (vals x2)] w (visorref34_Apply.R κ S x0 x1 x2 b_x0 r) := by
 unfold visorref34_Apply.m at hm
 generalize hRR : visorref34_Apply.R κ S x0 x1 x2 b_x0 r = RR
 refine qen [(0, pp b_x0), (1, .agg (vals x1)), (2, .agg (vals x2))] Try.func34 Try.ntmps34 ho fun a hs => ?_
 refine qsr fun K1 hK1 => ?_
 refine qbx 1 68 x1 4 hs fun b_2 w a hs => ?_
 refine qbx 2 71 x2 5 hs fun b_3 w a hs => ?_
 refine qal 71 [ci 0, ci 0, ci 0, ci 0, ci 0, ci 0, ci 0, ci 0, ci 0, ci 0, ci 0, ci 0, ci 0, ci 0, ci 0, ci 0, ci 0, ci 0, ci 0, ci 0, ci 0, ci 0, ci 0, ci 0] 6 hs fun b_4 w a hs => ?_
 refine qpk 0 [0, 4, 5, 6] hs fun a hs => hK1 _ _ ?_
 clear hK1
 refine qsr fun K5 hK5 => ?_
 refine qpu 1 hs fun a hs => ?_
 refine qal 71 [ci 0, ci 0, ci 0, ci 0, ci 0, ci 0, ci 0, ci 0, ci 0, ci 0, ci 0, ci 0, ci 0, ci 0, ci 0, ci 0, ci 0, ci 0, ci 0, ci 0, ci 0, ci 0, ci 0, ci 0] 7 hs fun b_6 w a hs => ?_
 refine qsa 0 [ci 0, ci 0, ci 0, ci 0, ci 0, ci 0, ci 0, ci 0, ci 0, ci 0, ci 0, ci 0, ci 0, ci 0, ci 0, ci 0, ci 0, ci 0, ci 0, ci 0, ci 0, ci 0, ci 0, ci 0] hs rfl fun a w hs => ?_
 refine qpk 0 [0, 4, 5, 6, 7] hs fun a hs => hK5 _ _ ?_
 clear hK5
 refine Vk.seq fun K7 hK7 => ?_
 refine qsk 1 [0, 4, 5, 6, 7, 8] hs fun a hs => ?_
 refine wp_block ?_
 obtain ⟨r9, hl9, hm⟩ := bind_t hm
 have hx9 : ∀ (p_74 : Cells) (p_75 : Tvisorref19_M), r9 = (p_74, p_75) → ∀ (a : Act) (w : World), St 48 a w κ [(6, pp b_4), (7, pp b_6)] (pt b_4 (blk [ci 0, ci 0, ci 0, ci 0, ci 0, ci 0, ci 0, ci 0, ci 0, ci 0, ci 0, ci 0, ci 0, ci 0, ci 0, ci 0, ci 0, ci 0, ci 0, ci 0, ci 0, ci 0, ci 0, ci 0] 71) :: pt b_6 (blk p_74 71) :: Tvisorref19_M.own κ b_x0 p_75 :: S) → K7 a w := by
  intro p_74 p_75 he a w hs
  subst r9
  refine hK7 _ _ ?_
  clear hK7
  refine qsr fun K79 hK79 => ?_
  obtain ⟨h_80, hm⟩ := ite_t hm
  refine qlw 1 hs rfl h_80 fun a hs => ?_
  refine qsb 0 p_74 hs rfl h_80 rfl fun a w hs => ?_
  refine qpe 0 [(6, pp b_4)] hs fun a hs => hK79 _ _ ?_
  clear hK79
  refine wp_ret ?_
  exact Vk.retC p_74 hs rfl (by kernel_rfl) (sz := 24) (by kernel_rfl) h_80 (CellsAt.all 0 rfl) (hRR ▸ by cases hm; exact ⟨rfl, hs.own.f1.drop.drop⟩)
 refine Vk.loopBy (fun k (s : Tvisorref19_M × Cells × Int) a w => visorref34_Apply.l1 x1 x2 k s.1 s.2.1 s.2.2 = some r9 ∧ St 48 a w κ [(0, pp b_x0), (4, pp b_2), (5, pp b_3), (6, pp b_4), (7, pp b_6), (8, vi s.2.2)] (Tvisorref19_M.own κ b_x0 s.1 :: pt b_2 (blk x1 68) :: pt b_3 (blk x2 71) :: pt b_4 (blk [ci 0, ci 0, ci 0, ci 0, ci 0, ci 0, ci 0, ci 0, ci 0, ci 0, ci 0, ci 0, ci 0, ci 0, ci 0, ci 0, ci 0, ci 0, ci 0, ci 0, ci 0, ci 0, ci 0, ci 0] 71) :: pt b_6 (blk s.2.1 71) :: S)) k (x0, [ci 0, ci 0, ci 0, ci 0, ci 0, ci 0, ci 0, ci 0, ci 0, ci 0, ci 0, ci 0, ci 0, ci 0, ci 0, ci 0, ci 0, ci 0, ci 0, ci 0, ci 0, ci 0, ci 0, ci 0], 0) ⟨hl9, hs.go [0, 4, 5, 6, 7, 8] [4, 3, 2, 1, 0] 5 (by kernel_rfl) (by kernel_rfl) (by kernel_rfl)⟩ (fun s a w h => by obtain ⟨h1, _⟩ := h; simp [visorref34_Apply.l1] at h1) (fun k KL9 ih s a w h => ?_)
 obtain ⟨q_10, q_11, q_12⟩ := s
 obtain ⟨hm, hs⟩ := h
 try dsimp only at hm hs
 rw [visorref34_Apply.l1] at hm
 refine Vk.seq fun K13 hK13 => ?_
 refine qsk 2 [0, 4, 5, 6, 7, 8, 13] hs fun a hs => ?_
 refine qcs (decide (q_12 < 8)) hs (fun hb => ?_) fun hb => ?_
 ·replace hm := bif_t hm hb
  refine wp_skip ?_
  refine hK13 _ _ ?_
  clear hK13
  refine Vk.seq fun K15 hK15 => ?_
  have hj15 : ∀ (p_72 : Tvisorref19_M) (p_73 : Cells), visorref34_Apply.j3 k (visorref34_Apply.l1 x1 x2 k) q_12 p_72 p_73 = some r9 → ∀ (a : Act) (w : World), St 48 a w κ [(0, pp b_x0), (4, pp b_2), (5, pp b_3), (6, pp b_4), (7, pp b_6), (8, vi q_12)] (Tvisorref19_M.own κ b_x0 p_72 :: pt b_2 (blk x1 68) :: pt b_3 (blk x2 71) :: pt b_4 (blk [ci 0, ci 0, ci 0, ci 0, ci 0, ci 0, ci 0, ci 0, ci 0, ci 0, ci 0, ci 0, ci 0, ci 0, ci 0, ci 0, ci 0, ci 0, ci 0, ci 0, ci 0, ci 0, ci 0, ci 0] 71) :: pt b_6 (blk p_73 71) :: S) → K15 a w := by
   intro p_72 p_73 hm a w hs
   unfold visorref34_Apply.j3 at hm
   refine hK15 _ _ ?_
   refine Vk.region ?_
   refine qpk 3 [0, 4, 5, 6, 7, 8] hs fun a hs => ?_
   refine ih (p_72, p_73, (IntKind.i64.wrap (q_12 + 1))) _ _ ⟨hm, hs.go [0, 4, 5, 6, 7, 8] [0, 1, 2, 3, 4] 5 (by kernel_rfl) (by kernel_rfl) (by kernel_rfl)⟩
  refine wp_block ?_
  refine qsk 1 [0, 4, 5, 6, 7, 8, 9] hs fun a hs => ?_
  refine Vk.seq fun K17 hK17 => ?_
  refine qsk 1 [0, 4, 5, 6, 7, 8, 9, 10] hs fun a hs => ?_
  refine wp_block ?_
  obtain ⟨r19, hl19, hm⟩ := bind_t hm
  have hx19 : ∀ (p_58 : Tvisorref19_M) (p_59 : Cells) (p_60 : Bool), r19 = (p_58, p_59, p_60) → ∀ (a : Act) (w : World), St 48 a w κ [(0, pp b_x0), (4, pp b_2), (5, pp b_3), (6, pp b_4), (7, pp b_6), (8, vi q_12), (9, .bool p_60)] (Tvisorref19_M.own κ b_x0 p_58 :: pt b_2 (blk x1 68) :: pt b_3 (blk x2 71) :: pt b_4 (blk [ci 0, ci 0, ci 0, ci 0, ci 0, ci 0, ci 0, ci 0, ci 0, ci 0, ci 0, ci 0, ci 0, ci 0, ci 0, ci 0, ci 0, ci 0, ci 0, ci 0, ci 0, ci 0, ci 0, ci 0] 71) :: pt b_6 (blk p_59 71) :: S) → K17 a w := by
   intro p_58 p_59 p_60 he a w hs
   subst r19
   refine hK17 _ _ ?_
   clear hK17
   refine qsk 2 [0, 4, 5, 6, 7, 8, 42] hs fun a hs => ?_
   refine qcs (!p_60) hs (fun hb => ?_) fun hb => ?_
   ·replace hm := bif_t hm hb
    refine Vk.region ?_
    refine qpu 2 hs fun a hs => ?_
    obtain ⟨v_68, h_67, hm⟩ := bind_t hm
    refine qcl (visorref20_Const.ok _ _ _ _ _ h_67 _ _ _ b_x0 hs.own) hs fun w a hs => ?_
    obtain ⟨h_69, hm⟩ := ite_t hm
    refine qix b_6 0 3 hs h_69 fun a hs => ?_
    obtain ⟨h_70, hm⟩ := ite_t hm
    obtain ⟨h_71, hm⟩ := ite_t hm
    refine Vk.step (Vk.storeN (b := b_6) (ty := 28) (x := (.tmp 46)) (y := (.tmp 45)) (off := 0 + q_12.toNat * 3) (sz := 3) v_68.1 4 hs (by kernel_rfl) (by kernel_rfl) (by kernel_rfl) (by kernel_rfl) (by kernel_rfl) h_70 (by kernel_rfl) rfl h_71 fun a w hs => ?_)
    refine qpe 0 [(0, pp b_x0), (4, pp b_2), (5, pp b_3), (6, pp b_4), (7, pp b_6), (8, vi q_12)] hs fun a hs => ?_
    exact hj15 v_68.2 (splice p_59 (0 + q_12.toNat * 3) v_68.1) hm _ _ (hs.go [0, 4, 5, 6, 7, 8] [0, 1, 2, 3, 4] 5 (by kernel_rfl) (by kernel_rfl) (by kernel_rfl))
   ·replace hm := bif_f hm hb
    refine wp_skip ?_
    exact hj15 p_58 p_59 hm _ _ (hs.go [0, 4, 5, 6, 7, 8] [0, 1, 2, 3, 4] 5 (by kernel_rfl) (by kernel_rfl) (by kernel_rfl))
  refine Vk.loopBy (fun k (s : Tvisorref19_M × Cells × Bool × Int) a w => visorref34_Apply.l2 x1 x2 q_12 k s.1 s.2.1 s.2.2.1 s.2.2.2 = some r19 ∧ St 48 a w κ [(0, pp b_x0), (4, pp b_2), (5, pp b_3), (6, pp b_4), (7, pp b_6), (8, vi q_12), (9, .bool s.2.2.1), (10, vi s.2.2.2)] (Tvisorref19_M.own κ b_x0 s.1 :: pt b_2 (blk x1 68) :: pt b_3 (blk x2 71) :: pt b_4 (blk [ci 0, ci 0, ci 0, ci 0, ci 0, ci 0, ci 0, ci 0, ci 0, ci 0, ci 0, ci 0, ci 0, ci 0, ci 0, ci 0, ci 0, ci 0, ci 0, ci 0, ci 0, ci 0, ci 0, ci 0] 71) :: pt b_6 (blk s.2.1 71) :: S)) k (q_10, q_11, false, 0) ⟨hl19, hs.go [0, 4, 5, 6, 7, 8, 9, 10] [0, 1, 2, 3, 4] 5 (by kernel_rfl) (by kernel_rfl) (by kernel_rfl)⟩ (fun s a w h => by obtain ⟨h1, _⟩ := h; simp [visorref34_Apply.l2] at h1) (fun k KL19 ih s a w h => ?_)
  obtain ⟨q_20, q_21, q_22, q_23⟩ := s
  obtain ⟨hm, hs⟩ := h
  try dsimp only at hm hs
  rw [visorref34_Apply.l2] at hm
  refine Vk.seq fun K24 hK24 => ?_
  refine qsk 2 [0, 4, 5, 6, 7, 8, 9, 10, 17] hs fun a hs => ?_
  refine qcs (decide (q_23 < 8)) hs (fun hb => ?_) fun hb => ?_
  ·replace hm := bif_t hm hb
   refine wp_skip ?_
   refine hK24 _ _ ?_
   clear hK24
   refine Vk.seq fun K26 hK26 => ?_
   have hj26 : ∀ (p_55 : Tvisorref19_M) (p_56 : Cells) (p_57 : Bool), visorref34_Apply.j1 k (visorref34_Apply.l2 x1 x2 q_12 k) q_23 p_55 p_56 p_57 = some r19 → ∀ (a : Act) (w : World), St 48 a w κ [(0, pp b_x0), (4, pp b_2), (5, pp b_3), (6, pp b_4), (7, pp b_6), (8, vi q_12), (9, .bool p_57), (10, vi q_23)] (Tvisorref19_M.own κ b_x0 p_55 :: pt b_2 (blk x1 68) :: pt b_3 (blk x2 71) :: pt b_4 (blk [ci 0, ci 0, ci 0, ci 0, ci 0, ci 0, ci 0, ci 0, ci 0, ci 0, ci 0, ci 0, ci 0, ci 0, ci 0, ci 0, ci 0, ci 0, ci 0, ci 0, ci 0, ci 0, ci 0, ci 0] 71) :: pt b_6 (blk p_56 71) :: S) → K26 a w := by
    intro p_55 p_56 p_57 hm a w hs
    unfold visorref34_Apply.j1 at hm
    refine hK26 _ _ ?_
    refine Vk.region ?_
    refine qpk 3 [0, 4, 5, 6, 7, 8, 9, 10] hs fun a hs => ?_
    refine ih (p_55, p_56, p_57, (IntKind.i64.wrap (q_23 + 1))) _ _ ⟨hm, hs.go [0, 4, 5, 6, 7, 8, 9, 10] [0, 1, 2, 3, 4] 5 (by kernel_rfl) (by kernel_rfl) (by kernel_rfl)⟩
   refine wp_block ?_
   refine Vk.seq fun K27 hK27 => ?_
   refine qsr fun K28 hK28 => ?_
   obtain ⟨h_29, hm⟩ := ite_t hm
   refine qlw 1 hs rfl h_29 fun a hs => ?_
   refine qpu 2 hs fun a hs => ?_
   obtain ⟨v_32, h_31, hm⟩ := bind_t hm
   refine qcl (visorref05_Bit.ok _ _ _ _ _ h_31 _ _ (Tvisorref19_M.own κ b_x0 q_20 :: pt b_2 (blk x1 68) :: pt b_3 (blk x2 71) :: pt b_4 (blk [ci 0, ci 0, ci 0, ci 0, ci 0, ci 0, ci 0, ci 0, ci 0, ci 0, ci 0, ci 0, ci 0, ci 0, ci 0, ci 0, ci 0, ci 0, ci 0, ci 0, ci 0, ci 0, ci 0, ci 0] 71) :: pt b_6 (blk q_21 71) :: S) hs.own) hs fun w a hs => ?_
   refine qpe 1 [(0, pp b_x0), (4, pp b_2), (5, pp b_3), (6, pp b_4), (7, pp b_6), (8, vi q_12), (9, .bool q_22), (10, vi q_23), (24, .bool (!v_32))] hs fun a hs => hK28 _ _ ?_
   clear hK28
   refine qcs (!v_32) hs (fun hb => ?_) fun hb => ?_
   ·replace hm := bif_t hm hb
    refine wp_exit ?_
    exact hj26 q_20 q_21 q_22 hm _ _ (hs.go [0, 4, 5, 6, 7, 8, 9, 10] [0, 1, 2, 3, 4] 5 (by kernel_rfl) (by kernel_rfl) (by kernel_rfl))
   ·replace hm := bif_f hm hb
    refine wp_skip ?_
    refine hK27 _ _ ?_
    clear hK27
    refine Vk.seq fun K33 hK33 => ?_
    have hj33 : ∀ (p_53 : Tvisorref19_M) (p_54 : Cells), visorref34_Apply.j2 k (visorref34_Apply.l2 x1 x2 q_12 k) q_23 p_53 p_54 = some r19 → ∀ (a : Act) (w : World), St 48 a w κ [(0, pp b_x0), (4, pp b_2), (5, pp b_3), (6, pp b_4), (7, pp b_6), (8, vi q_12), (10, vi q_23)] (Tvisorref19_M.own κ b_x0 p_53 :: pt b_2 (blk x1 68) :: pt b_3 (blk x2 71) :: pt b_4 (blk [ci 0, ci 0, ci 0, ci 0, ci 0, ci 0, ci 0, ci 0, ci 0, ci 0, ci 0, ci 0, ci 0, ci 0, ci 0, ci 0, ci 0, ci 0, ci 0, ci 0, ci 0, ci 0, ci 0, ci 0] 71) :: pt b_6 (blk p_54 71) :: S) → K33 a w := by
     intro p_53 p_54 hm a w hs
     unfold visorref34_Apply.j2 at hm
     refine hK33 _ _ ?_
     refine Vk.region ?_
     refine qpe 1 [(0, pp b_x0), (4, pp b_2), (5, pp b_3), (6, pp b_4), (7, pp b_6), (8, vi q_12), (9, .bool true), (10, vi q_23)] hs fun a hs => ?_
     exact hj26 p_53 p_54 true hm _ _ (hs.go [0, 4, 5, 6, 7, 8, 9, 10] [0, 1, 2, 3, 4] 5 (by kernel_rfl) (by kernel_rfl) (by kernel_rfl))
    refine qse 1 [(0, pp b_x0), (4, pp b_2), (5, pp b_3), (6, pp b_4), (7, pp b_6), (8, vi q_12), (10, vi q_23), (25, .bool q_22)] hs fun a hs => ?_
    refine qcs (q_22) hs (fun hb => ?_) fun hb => ?_
    ·replace hm := bif_t hm hb
     obtain ⟨C_35, hC_35⟩ := qC hs.own.drop
     refine qdr 10 κ C_35 hs fun w hs hqC_35 => ?_
     have hcl := qO hC_35 hs.own.drop
     refine qdp (fuel := 7) [0, 1, 2, 5] hs hcl hqC_35 fun a hs => ?_
     obtain ⟨h_36, hm⟩ := ite_t hm
     refine qdx 3 b_6 0 3 hs hcl hqC_35 h_36 fun a hs => ?_
     obtain ⟨v_38, h_37, hm⟩ := bind_t hm
     refine qdt 4 (.agg (vals v_38)) (op := (.load 28 (.tmp 29))) hs hcl hqC_35 (fun w hw o ho => by rw [hC_35] at hw; exact run_loadN (cs := v_38) ho (by kernel_rfl) (by kernel_rfl) (part?_some h_37).2.2 (CellsAt.own (off := 0 + q_12.toNat * 3) 3 rfl h_37) _ hw) fun a hs => ?_
     obtain ⟨h_39, hm⟩ := ite_t hm
     refine qdx 6 b_3 0 3 hs hcl hqC_35 h_39 fun a hs => ?_
     obtain ⟨v_41, h_40, hm⟩ := bind_t hm
     refine qdt 7 (.agg (vals v_41)) (op := (.load 28 (.tmp 32))) hs hcl hqC_35 (fun w hw o ho => by rw [hC_35] at hw; exact run_loadN (cs := v_41) ho (by kernel_rfl) (by kernel_rfl) (part?_some h_40).2.2 (CellsAt.own (off := 0 + q_23.toNat * 3) 1 rfl h_40) _ hw) fun a hs => ?_
     obtain ⟨v_44, h_43, hm⟩ := bind_t hm
     refine qdc 8 (visorref20_Xor.ok _ _ _ _ _ h_43 _ _ _ b_x0 hs.own) hs fun w a hs => ?_
     replace hcl := qO hC_35 hs.own.drop
     refine ⟨fun _ => hcl, ?_⟩
     obtain ⟨h_45, hm⟩ := ite_t hm
     refine qdx 9 b_6 0 3 hs hcl hqC_35 h_45 fun a hs => ?_
     obtain ⟨h_46, hm⟩ := ite_t hm
     obtain ⟨h_47, hm⟩ := ite_t hm
     refine Vk.dOnly (i := 10) (by kernel_rfl) (Vk.storeN (b := b_6) (ty := 28) (x := (.tmp 35)) (y := (.tmp 34)) (off := 0 + q_12.toNat * 3) (sz := 3) v_44.1 4 hs (by kernel_rfl) (by kernel_rfl) (by kernel_rfl) (by kernel_rfl) (by kernel_rfl) h_46 (by kernel_rfl) rfl h_47 fun a w hs => ?_)
     refine ⟨fun h => absurd h (by decide), ?_⟩
     replace hs := hs.pick [0, 4, 5, 6, 7, 8, 10] (L' := [(0, pp b_x0), (4, pp b_2), (5, pp b_3), (6, pp b_4), (7, pp b_6), (8, vi q_12), (10, vi q_23)]) (by kernel_rfl)
     refine Vk.dDone (by kernel_rfl) ?_
     exact hj33 v_44.2 (splice q_21 (0 + q_12.toNat * 3) v_44.1) hm _ _ (hs.go [0, 4, 5, 6, 7, 8, 10] [0, 1, 2, 3, 4] 5 (by kernel_rfl) (by kernel_rfl) (by kernel_rfl))
    ·replace hm := bif_f hm hb
     refine Vk.region ?_
     refine qpu 2 hs fun a hs => ?_
     obtain ⟨h_48, hm⟩ := ite_t hm
     refine qix b_3 0 3 hs h_48 fun a hs => ?_
     obtain ⟨v_50, h_49, hm⟩ := bind_t hm
     refine qva (.agg (vals v_50)) (op := (.load 28 (.tmp 38))) hs (fun o ho => run_loadN (cs := v_50) ho (by kernel_rfl) (by kernel_rfl) (part?_some h_49).2.2 (CellsAt.own (off := 0 + q_23.toNat * 3) 2 rfl h_49) _ hs.own) fun a hs => ?_
     obtain ⟨h_51, hm⟩ := ite_t hm
     refine qix b_6 0 3 hs h_51 fun a hs => ?_
     obtain ⟨h_52, hm⟩ := ite_t hm
     refine Vk.step (Vk.storeN (b := b_6) (ty := 28) (x := (.tmp 40)) (y := (.tmp 39)) (off := 0 + q_12.toNat * 3) (sz := 3) v_50 4 hs (by kernel_rfl) (by kernel_rfl) (by kernel_rfl) (by kernel_rfl) (by kernel_rfl) (part?_some h_49).2.2 (by kernel_rfl) rfl h_52 fun a w hs => ?_)
     refine qpe 0 [(0, pp b_x0), (4, pp b_2), (5, pp b_3), (6, pp b_4), (7, pp b_6), (8, vi q_12), (10, vi q_23)] hs fun a hs => ?_
     exact hj33 q_20 (splice q_21 (0 + q_12.toNat * 3) v_50) hm _ _ (hs.go [0, 4, 5, 6, 7, 8, 10] [0, 1, 2, 3, 4] 5 (by kernel_rfl) (by kernel_rfl) (by kernel_rfl))
  ·replace hm := bif_f hm hb
   refine wp_exit ?_
   exact hx19 q_20 q_21 q_22 (Option.some.inj hm).symm _ _ (hs.go [0, 4, 5, 6, 7, 8, 9] [0, 1, 2, 3, 4] 5 (by kernel_rfl) (by kernel_rfl) (by kernel_rfl))
 ·replace hm := bif_f hm hb
  refine wp_exit ?_
  exact hx9 q_11 q_10 (Option.some.inj hm).symm _ _ (hs.go [6, 7] [3, 4, 0] 5 (by kernel_rfl) (by kernel_rfl) (by kernel_rfl))


def visorref34_Ops.j2 (k : Nat) (rec6 : Int → Int → Option (Int)) (q_8 : Int) (p_31 : Int) : Option (Int) := rec6 p_31 (IntKind.i64.wrap (q_8 + 1))
def visorref34_Ops.j1 (k : Nat) (rec15 : Int → Int → Option (Int)) (q_17 : Int) (p_26 : Int) : Option (Int) := rec15 p_26 (IntKind.i64.wrap (q_17 + 1))
def visorref34_Ops.l2 (x0 : Cells) (q_8 : Int) : Nat → Int → Int → Option (Int)
 | 0, _, _ => none
 | k + 1, q_16, q_17 => (bif decide (q_17 < 8) then (if x0.length = 8 then (visorref05_Bit.m k x0 q_8 q_17).bind fun v_25 => (bif v_25 then visorref34_Ops.j1 k (visorref34_Ops.l2 x0 q_8 k) q_17 (IntKind.i64.wrap (q_16 + 1)) else visorref34_Ops.j1 k (visorref34_Ops.l2 x0 q_8 k) q_17 q_16) else none) else some q_16)
def visorref34_Ops.l1 (x0 : Cells) (x1 : Int) : Nat → Int → Int → Option (Int)
 | 0, _, _ => none
 | k + 1, q_7, q_8 => (bif decide (q_8 < 8) then (visorref34_Ops.l2 x0 q_8 k 0 0).bind fun p_27 => (bif p_27 == 0 then visorref34_Ops.j2 k (visorref34_Ops.l1 x0 x1 k) q_8 (IntKind.i64.wrap (q_7 + x1)) else visorref34_Ops.j2 k (visorref34_Ops.l1 x0 x1 k) q_8 (IntKind.i64.wrap (q_7 + (IntKind.i64.wrap (x1 * (IntKind.i64.wrap (p_27 - 1))))))) else some q_7)
abbrev visorref34_Ops.R (κ : Ctx) (S : List HP) (x0 : Cells) (x1 : Int) (r : Int) : Ending → World → Prop := fun e w' => e = .returned (vi r) ∧ Ow κ w' (S)
def visorref34_Ops.m (k : Nat) (x0 : Cells) (x1 : Int) : Option Int := (visorref34_Ops.l1 x0 x1 k 0 0).bind fun p_32 => some p_32

set_option maxRecDepth 100000 in
set_option maxHeartbeats 4000000 in
theorem visorref34_Ops.ok (k : Nat) (x0 : Cells) (x1 : Int) (r : Int) (hm : visorref34_Ops.m k x0 x1 = some r) (κ : Ctx) (w : World) (S : List HP) (ho : Ow κ w (S)) :
  Calls Try.prog 35 #[.agg (vals x0), vi x1] w (visorref34_Ops.R κ S x0 x1 r) := by
 unfold visorref34_Ops.m at hm
 generalize hRR : visorref34_Ops.R κ S x0 x1 r = RR
 refine qen [(0, .agg (vals x0)), (1, vi x1)] Try.func35 Try.ntmps35 ho fun a hs => ?_
 refine qsr fun K1 hK1 => ?_
 refine qbx 0 68 x0 2 hs fun b_2 w a hs => ?_
 refine qpe 1 [(1, vi x1), (2, pp b_2)] hs fun a hs => hK1 _ _ ?_
 clear hK1
 refine qsk 1 [1, 2, 5] hs fun a hs => ?_
 refine Vk.seq fun K4 hK4 => ?_
 refine qsk 1 [1, 2, 5, 6] hs fun a hs => ?_
 refine wp_block ?_
 obtain ⟨r6, hl6, hm⟩ := bind_t hm
 have hx6 : ∀ (p_32 : Int), r6 = p_32 → ∀ (a : Act) (w : World), St 35 a w κ [(5, vi p_32)] (S) → K4 a w := by
  intro p_32 he a w hs
  subst r6
  refine hK4 _ _ ?_
  clear hK4
  refine qse 2 [(4, vi p_32)] hs fun a hs => ?_
  refine wp_ret ?_
  exact qr1 (vi p_32) hs rfl hRR (by cases hm; exact ⟨rfl, hs.own⟩)
 refine Vk.loopBy (fun k (s : Int × Int) a w => visorref34_Ops.l1 x0 x1 k s.1 s.2 = some r6 ∧ St 35 a w κ [(1, vi x1), (2, pp b_2), (5, vi s.1), (6, vi s.2)] (pt b_2 (blk x0 68) :: S)) k (0, 0) ⟨hl6, hs.go [1, 2, 5, 6] [0] 1 (by kernel_rfl) (by kernel_rfl) (by kernel_rfl)⟩ (fun s a w h => by obtain ⟨h1, _⟩ := h; simp [visorref34_Ops.l1] at h1) (fun k KL6 ih s a w h => ?_)
 obtain ⟨q_7, q_8⟩ := s
 obtain ⟨hm, hs⟩ := h
 try dsimp only at hm hs
 rw [visorref34_Ops.l1] at hm
 refine Vk.seq fun K9 hK9 => ?_
 refine qsk 2 [1, 2, 5, 6, 10] hs fun a hs => ?_
 refine qcs (decide (q_8 < 8)) hs (fun hb => ?_) fun hb => ?_
 ·replace hm := bif_t hm hb
  refine wp_skip ?_
  refine hK9 _ _ ?_
  clear hK9
  refine Vk.seq fun K11 hK11 => ?_
  have hj11 : ∀ (p_31 : Int), visorref34_Ops.j2 k (visorref34_Ops.l1 x0 x1 k) q_8 p_31 = some r6 → ∀ (a : Act) (w : World), St 35 a w κ [(1, vi x1), (2, pp b_2), (5, vi p_31), (6, vi q_8)] (pt b_2 (blk x0 68) :: S) → K11 a w := by
   intro p_31 hm a w hs
   unfold visorref34_Ops.j2 at hm
   refine hK11 _ _ ?_
   refine Vk.region ?_
   refine qpk 3 [1, 2, 5, 6] hs fun a hs => ?_
   refine ih (p_31, (IntKind.i64.wrap (q_8 + 1))) _ _ ⟨hm, hs.go [1, 2, 5, 6] [0] 1 (by kernel_rfl) (by kernel_rfl) (by kernel_rfl)⟩
  refine wp_block ?_
  refine qsk 1 [1, 2, 5, 6, 7] hs fun a hs => ?_
  refine Vk.seq fun K13 hK13 => ?_
  refine qsk 1 [1, 2, 5, 6, 7, 8] hs fun a hs => ?_
  refine wp_block ?_
  obtain ⟨r15, hl15, hm⟩ := bind_t hm
  have hx15 : ∀ (p_27 : Int), r15 = p_27 → ∀ (a : Act) (w : World), St 35 a w κ [(1, vi x1), (2, pp b_2), (5, vi q_7), (6, vi q_8), (7, vi p_27)] (pt b_2 (blk x0 68) :: S) → K13 a w := by
   intro p_27 he a w hs
   subst r15
   refine hK13 _ _ ?_
   clear hK13
   refine qsk 2 [1, 2, 5, 6, 7, 24] hs fun a hs => ?_
   refine qcs (p_27 == 0) hs (fun hb => ?_) fun hb => ?_
   ·replace hm := bif_t hm hb
    refine Vk.region ?_
    refine qpe 4 [(1, vi x1), (2, pp b_2), (5, vi (IntKind.i64.wrap (q_7 + x1))), (6, vi q_8)] hs fun a hs => ?_
    exact hj11 (IntKind.i64.wrap (q_7 + x1)) hm _ _ (hs.go [1, 2, 5, 6] [0] 1 (by kernel_rfl) (by kernel_rfl) (by kernel_rfl))
   ·replace hm := bif_f hm hb
    refine Vk.region ?_
    refine qpe 7 [(1, vi x1), (2, pp b_2), (5, vi (IntKind.i64.wrap (q_7 + (IntKind.i64.wrap (x1 * (IntKind.i64.wrap (p_27 - 1))))))), (6, vi q_8)] hs fun a hs => ?_
    exact hj11 (IntKind.i64.wrap (q_7 + (IntKind.i64.wrap (x1 * (IntKind.i64.wrap (p_27 - 1)))))) hm _ _ (hs.go [1, 2, 5, 6] [0] 1 (by kernel_rfl) (by kernel_rfl) (by kernel_rfl))
  refine Vk.loopBy (fun k (s : Int × Int) a w => visorref34_Ops.l2 x0 q_8 k s.1 s.2 = some r15 ∧ St 35 a w κ [(1, vi x1), (2, pp b_2), (5, vi q_7), (6, vi q_8), (7, vi s.1), (8, vi s.2)] (pt b_2 (blk x0 68) :: S)) k (0, 0) ⟨hl15, hs.go [1, 2, 5, 6, 7, 8] [0] 1 (by kernel_rfl) (by kernel_rfl) (by kernel_rfl)⟩ (fun s a w h => by obtain ⟨h1, _⟩ := h; simp [visorref34_Ops.l2] at h1) (fun k KL15 ih s a w h => ?_)
  obtain ⟨q_16, q_17⟩ := s
  obtain ⟨hm, hs⟩ := h
  try dsimp only at hm hs
  rw [visorref34_Ops.l2] at hm
  refine Vk.seq fun K18 hK18 => ?_
  refine qsk 2 [1, 2, 5, 6, 7, 8, 14] hs fun a hs => ?_
  refine qcs (decide (q_17 < 8)) hs (fun hb => ?_) fun hb => ?_
  ·replace hm := bif_t hm hb
   refine wp_skip ?_
   refine hK18 _ _ ?_
   clear hK18
   refine Vk.seq fun K20 hK20 => ?_
   have hj20 : ∀ (p_26 : Int), visorref34_Ops.j1 k (visorref34_Ops.l2 x0 q_8 k) q_17 p_26 = some r15 → ∀ (a : Act) (w : World), St 35 a w κ [(1, vi x1), (2, pp b_2), (5, vi q_7), (6, vi q_8), (7, vi p_26), (8, vi q_17)] (pt b_2 (blk x0 68) :: S) → K20 a w := by
    intro p_26 hm a w hs
    unfold visorref34_Ops.j1 at hm
    refine hK20 _ _ ?_
    refine Vk.region ?_
    refine qpk 3 [1, 2, 5, 6, 7, 8] hs fun a hs => ?_
    refine ih (p_26, (IntKind.i64.wrap (q_17 + 1))) _ _ ⟨hm, hs.go [1, 2, 5, 6, 7, 8] [0] 1 (by kernel_rfl) (by kernel_rfl) (by kernel_rfl)⟩
   refine wp_block ?_
   refine qsr fun K21 hK21 => ?_
   obtain ⟨h_22, hm⟩ := ite_t hm
   refine qlw 0 hs rfl h_22 fun a hs => ?_
   refine qpu 2 hs fun a hs => ?_
   obtain ⟨v_25, h_24, hm⟩ := bind_t hm
   refine qcl (visorref05_Bit.ok _ _ _ _ _ h_24 _ _ (pt b_2 (blk x0 68) :: S) hs.own) hs fun w a hs => ?_
   refine qpk 0 [1, 2, 5, 6, 7, 8, 20] hs fun a hs => hK21 _ _ ?_
   clear hK21
   refine qcs (v_25) hs (fun hb => ?_) fun hb => ?_
   ·replace hm := bif_t hm hb
    refine Vk.region ?_
    refine qpe 3 [(1, vi x1), (2, pp b_2), (5, vi q_7), (6, vi q_8), (7, vi (IntKind.i64.wrap (q_16 + 1))), (8, vi q_17)] hs fun a hs => ?_
    exact hj20 (IntKind.i64.wrap (q_16 + 1)) hm _ _ (hs.go [1, 2, 5, 6, 7, 8] [0] 1 (by kernel_rfl) (by kernel_rfl) (by kernel_rfl))
   ·replace hm := bif_f hm hb
    refine wp_skip ?_
    exact hj20 q_16 hm _ _ (hs.go [1, 2, 5, 6, 7, 8] [0] 1 (by kernel_rfl) (by kernel_rfl) (by kernel_rfl))
  ·replace hm := bif_f hm hb
   refine wp_exit ?_
   exact hx15 q_16 (Option.some.inj hm).symm _ _ (hs.go [1, 2, 5, 6, 7] [0] 1 (by kernel_rfl) (by kernel_rfl) (by kernel_rfl))
 ·replace hm := bif_f hm hb
  refine wp_exit ?_
  exact hx6 q_7 (Option.some.inj hm).symm _ _ (hs.go [5] [] 1 (by kernel_rfl) (by kernel_rfl) (by kernel_rfl))


def bits_OnesCount8.s1 : ByteArray := (⟨#[0, 1, 1, 2, 1, 2, 2, 3, 1, 2, 2, 3, 2, 3, 3, 4, 1, 2, 2, 3, 2, 3, 3, 4, 2, 3, 3, 4, 3, 4, 4, 5, 1, 2, 2, 3, 2, 3, 3, 4, 2, 3, 3, 4, 3, 4, 4, 5, 2, 3, 3, 4, 3, 4, 4, 5, 3, 4, 4, 5, 4, 5, 5, 6, 1, 2, 2, 3, 2, 3, 3, 4, 2, 3, 3, 4, 3, 4, 4, 5, 2, 3, 3, 4, 3, 4, 4, 5, 3, 4, 4, 5, 4, 5, 5, 6, 2, 3, 3, 4, 3, 4, 4, 5, 3, 4, 4, 5, 4, 5, 5, 6, 3, 4, 4, 5, 4, 5, 5, 6, 4, 5, 5, 6, 5, 6, 6, 7, 1, 2, 2, 3, 2, 3, 3, 4, 2, 3, 3, 4, 3, 4, 4, 5, 2, 3, 3, 4, 3, 4, 4, 5, 3, 4, 4, 5, 4, 5, 5, 6, 2, 3, 3, 4, 3, 4, 4, 5, 3, 4, 4, 5, 4, 5, 5, 6, 3, 4, 4, 5, 4, 5, 5, 6, 4, 5, 5, 6, 5, 6, 6, 7, 2, 3, 3, 4, 3, 4, 4, 5, 3, 4, 4, 5, 4, 5, 5, 6, 3, 4, 4, 5, 4, 5, 5, 6, 4, 5, 5, 6, 5, 6, 6, 7, 3, 4, 4, 5, 4, 5, 5, 6, 4, 5, 5, 6, 5, 6, 6, 7, 4, 5, 5, 6, 5, 6, 6, 7, 5, 6, 6, 7, 6, 7, 7, 8]⟩ : ByteArray)
abbrev bits_OnesCount8.R (κ : Ctx) (S : List HP) (x0 : Int) (r : Int) : Ending → World → Prop := fun e w' => e = .returned (vi r) ∧ Ow κ w' (S)
def bits_OnesCount8.m (k : Nat) (x0 : Int) : Option Int := (strAt bits_OnesCount8.s1 x0).bind fun e_3 => some (IntKind.i64.wrap e_3)

set_option maxRecDepth 100000 in
set_option maxHeartbeats 4000000 in
theorem bits_OnesCount8.ok (k : Nat) (x0 : Int) (r : Int) (hm : bits_OnesCount8.m k x0 = some r) (κ : Ctx) (w : World) (S : List HP) (ho : Ow κ w (S)) :
  Calls Try.prog 117 #[.int .u8 x0] w (bits_OnesCount8.R κ S x0 r) := by
 unfold bits_OnesCount8.m at hm
 generalize hRR : bits_OnesCount8.R κ S x0 r = RR
 refine qen [(0, .int .u8 x0)] Try.func117 Try.ntmps117 ho fun a hs => ?_
 refine qse 1 [(0, .int .u8 x0)] hs fun a hs => ?_
 refine qsr fun K2 hK2 => ?_
 refine qpu 1 hs fun a hs => ?_
 obtain ⟨e_3, h_4, hm⟩ := bind_t hm
 refine qva (.int .u8 e_3) (op := (.index 9 (.const (.string { data := #[0, 1, 1, 2, 1, 2, 2, 3, 1, 2, 2, 3, 2, 3, 3, 4, 1, 2, 2, 3, 2, 3, 3, 4, 2, 3, 3, 4, 3, 4, 4, 5, 1, 2, 2, 3, 2, 3, 3, 4, 2, 3, 3, 4, 3, 4, 4, 5, 2, 3, 3, 4, 3, 4, 4, 5, 3, 4, 4, 5, 4, 5, 5, 6, 1, 2, 2, 3, 2, 3, 3, 4, 2, 3, 3, 4, 3, 4, 4, 5, 2, 3, 3, 4, 3, 4, 4, 5, 3, 4, 4, 5, 4, 5, 5, 6, 2, 3, 3, 4, 3, 4, 4, 5, 3, 4, 4, 5, 4, 5, 5, 6, 3, 4, 4, 5, 4, 5, 5, 6, 4, 5, 5, 6, 5, 6, 6, 7, 1, 2, 2, 3, 2, 3, 3, 4, 2, 3, 3, 4, 3, 4, 4, 5, 2, 3, 3, 4, 3, 4, 4, 5, 3, 4, 4, 5, 4, 5, 5, 6, 2, 3, 3, 4, 3, 4, 4, 5, 3, 4, 4, 5, 4, 5, 5, 6, 3, 4, 4, 5, 4, 5, 5, 6, 4, 5, 5, 6, 5, 6, 6, 7, 2, 3, 3, 4, 3, 4, 4, 5, 3, 4, 4, 5, 4, 5, 5, 6, 3, 4, 4, 5, 4, 5, 5, 6, 4, 5, 5, 6, 5, 6, 6, 7, 3, 4, 4, 5, 4, 5, 5, 6, 4, 5, 5, 6, 5, 6, 6, 7, 4, 5, 5, 6, 5, 6, 6, 7, 5, 6, 6, 7, 6, 7, 7, 8] })) (.tmp 3))) hs (fun o ho => run_strIdx (k := .u8) ho (by kernel_rfl) (by kernel_rfl) (by kernel_rfl) h_4 _) fun a hs => ?_
 refine qpk 2 [2] hs fun a hs => hK2 _ _ ?_
 clear hK2
 refine wp_ret ?_
 exact qr1 (vi (IntKind.i64.wrap e_3)) hs rfl hRR (by cases hm; exact ⟨rfl, hs.own⟩)


def maps_Ops.j1 (k : Nat) (rec7 : Int → Int → Option (Int)) (q_8 : Int) (q_9 : Int) (p_23 : Int) : Option (Int) := rec7 (IntKind.i64.wrap (q_8 + (IntKind.i64.wrap (p_23 - 1)))) (IntKind.i64.wrap (q_9 + 1))
def maps_Ops.l1 (x0 : Cells) : Nat → Int → Int → Option (Int)
 | 0, _, _ => none
 | k + 1, q_8, q_9 => (bif decide (q_9 < 8) then (if 0 ≤ q_9 ∧ q_9 < 8 then (getI .u8 x0 q_9.toNat).bind fun v_16 => (bits_OnesCount8.m k v_16).bind fun v_20 => (bif v_20 == 0 then maps_Ops.j1 k (maps_Ops.l1 x0 k) q_8 q_9 2 else maps_Ops.j1 k (maps_Ops.l1 x0 k) q_8 q_9 v_20) else none) else some q_8)
abbrev maps_Ops.R (κ : Ctx) (S : List HP) (x0 : Cells) (x1 : Int) (r : Int) : Ending → World → Prop := fun e w' => e = .returned (vi r) ∧ Ow κ w' (S)
def maps_Ops.m (k : Nat) (x0 : Cells) (x1 : Int) : Option Int := (if x0.length = 8 then (maps_Ops.l1 x0 k 0 0).bind fun p_24 => some (IntKind.i64.wrap (p_24 * x1)) else none)

set_option maxRecDepth 100000 in
set_option maxHeartbeats 4000000 in
theorem maps_Ops.ok (k : Nat) (x0 : Cells) (x1 : Int) (r : Int) (hm : maps_Ops.m k x0 x1 = some r) (κ : Ctx) (w : World) (S : List HP) (ho : Ow κ w (S)) :
  Calls Try.prog 36 #[.agg (vals x0), vi x1] w (maps_Ops.R κ S x0 x1 r) := by
 unfold maps_Ops.m at hm
 generalize hRR : maps_Ops.R κ S x0 x1 r = RR
 refine qen [(0, .agg (vals x0)), (1, vi x1)] Try.func36 Try.ntmps36 ho fun a hs => ?_
 refine qsr fun K1 hK1 => ?_
 refine qbx 0 68 x0 2 hs fun b_2 w a hs => ?_
 refine qpe 1 [(1, vi x1), (2, pp b_2)] hs fun a hs => hK1 _ _ ?_
 clear hK1
 refine qsk 1 [1, 2, 5] hs fun a hs => ?_
 refine Vk.seq fun K4 hK4 => ?_
 refine qsr fun K5 hK5 => ?_
 obtain ⟨h_6, hm⟩ := ite_t hm
 refine qlw 0 hs rfl h_6 fun a hs => ?_
 refine qpk 1 [1, 5, 9, 10] hs fun a hs => hK5 _ _ ?_
 clear hK5
 refine wp_block ?_
 obtain ⟨r7, hl7, hm⟩ := bind_t hm
 have hx7 : ∀ (p_24 : Int), r7 = p_24 → ∀ (a : Act) (w : World), St 25 a w κ [(1, vi x1), (5, vi p_24)] (S) → K4 a w := by
  intro p_24 he a w hs
  subst r7
  refine hK4 _ _ ?_
  clear hK4
  refine qse 4 [(4, vi (IntKind.i64.wrap (p_24 * x1)))] hs fun a hs => ?_
  refine wp_ret ?_
  exact qr1 (vi (IntKind.i64.wrap (p_24 * x1))) hs rfl hRR (by cases hm; exact ⟨rfl, hs.own⟩)
 refine Vk.loopBy (fun k (s : Int × Int) a w => maps_Ops.l1 x0 k s.1 s.2 = some r7 ∧ St 25 a w κ [(1, vi x1), (5, vi s.1), (9, .agg (vals x0)), (10, vi s.2)] (S)) k (0, 0) ⟨hl7, hs.go [1, 5, 9, 10] [] 1 (by kernel_rfl) (by kernel_rfl) (by kernel_rfl)⟩ (fun s a w h => by obtain ⟨h1, _⟩ := h; simp [maps_Ops.l1] at h1) (fun k KL7 ih s a w h => ?_)
 obtain ⟨q_8, q_9⟩ := s
 obtain ⟨hm, hs⟩ := h
 try dsimp only at hm hs
 rw [maps_Ops.l1] at hm
 refine qsk 1 [1, 5, 9, 10, 11] hs fun a hs => ?_
 refine Vk.seq fun K11 hK11 => ?_
 refine qcs (decide (q_9 < 8)) hs (fun hb => ?_) fun hb => ?_
 ·replace hm := bif_t hm hb
  refine wp_skip ?_
  refine hK11 _ _ ?_
  clear hK11
  refine Vk.seq fun K12 hK12 => ?_
  refine wp_block ?_
  refine qsr fun K13 hK13 => ?_
  obtain ⟨h_14, hm⟩ := ite_t hm
  obtain ⟨v_16, h_15, hm⟩ := bind_t hm
  refine qva (.int .u8 v_16) (op := (.index 68 (.tmp 9) (.tmp 10))) hs (fun o ho => run_idxVal (k := .i64) (cs := x0) (c := C.int .u8 v_16) ho (by kernel_rfl) (by kernel_rfl) (len := 8) (et := 5) (by kernel_rfl) (by kernel_rfl) (by kernel_rfl) (by kernel_rfl) h_14 (getI_some h_15) _) fun a hs => ?_
  refine qpk 1 [1, 5, 7, 9, 10] hs fun a hs => hK13 _ _ ?_
  clear hK13
  refine qsr fun K17 hK17 => ?_
  refine qpu 1 hs fun a hs => ?_
  obtain ⟨v_20, h_19, hm⟩ := bind_t hm
  refine qcl (bits_OnesCount8.ok _ _ _ h_19 _ _ (S) hs.own) hs fun w a hs => ?_
  refine qpk 1 [1, 5, 8, 9, 10] hs fun a hs => hK17 _ _ ?_
  clear hK17
  refine Vk.seq fun K21 hK21 => ?_
  have hj21 : ∀ (p_23 : Int), maps_Ops.j1 k (maps_Ops.l1 x0 k) q_8 q_9 p_23 = some r7 → ∀ (a : Act) (w : World), St 25 a w κ [(1, vi x1), (5, vi q_8), (8, vi p_23), (9, .agg (vals x0)), (10, vi q_9)] (S) → K21 a w := by
   intro p_23 hm a w hs
   unfold maps_Ops.j1 at hm
   refine hK21 _ _ ?_
   refine Vk.region ?_
   refine qpk 5 [1, 5, 9, 10] hs fun a hs => hK12 _ _ ?_
   clear hK12
   refine Vk.region ?_
   refine qpk 2 [1, 5, 9, 10] hs fun a hs => ?_
   refine ih ((IntKind.i64.wrap (q_8 + (IntKind.i64.wrap (p_23 - 1)))), (IntKind.i64.wrap (q_9 + 1))) _ _ ⟨hm, hs.go [1, 5, 9, 10] [] 0 (by kernel_rfl) (by kernel_rfl) (by kernel_rfl)⟩
  refine qse 2 [(1, vi x1), (5, vi q_8), (8, vi v_20), (9, .agg (vals x0)), (10, vi q_9), (16, .bool (v_20 == 0))] hs fun a hs => ?_
  refine qcs (v_20 == 0) hs (fun hb => ?_) fun hb => ?_
  ·replace hm := bif_t hm hb
   refine Vk.region ?_
   refine qpe 1 [(1, vi x1), (5, vi q_8), (8, vi 2), (9, .agg (vals x0)), (10, vi q_9)] hs fun a hs => ?_
   exact hj21 2 hm _ _ (hs.go [1, 5, 8, 9, 10] [] 0 (by kernel_rfl) (by kernel_rfl) (by kernel_rfl))
  ·replace hm := bif_f hm hb
   refine wp_skip ?_
   exact hj21 v_20 hm _ _ (hs.go [1, 5, 8, 9, 10] [] 0 (by kernel_rfl) (by kernel_rfl) (by kernel_rfl))
 ·replace hm := bif_f hm hb
  refine wp_exit ?_
  exact hx7 q_8 (Option.some.inj hm).symm _ _ (hs.go [1, 5] [] 0 (by kernel_rfl) (by kernel_rfl) (by kernel_rfl))


abbrev share_Add.R (κ : Ctx) (S : List HP) (x0 : Twire_Machine) (x1 : Cells) (x2 : Int) (b_x0 : Nat) (r : (Cells × Twire_Machine)) : Ending → World → Prop := fun e w' => e = .returned (.agg (vals r.1)) ∧ Ow κ w' (Twire_Machine.own b_x0 r.2 :: S)
def share_Add.m (k : Nat) (x0 : Twire_Machine) (x1 : Cells) (x2 : Int) : Option (Cells × Twire_Machine) := (wire_Machine_Const.m k x0 0 x2).bind fun v_7 => (getI .i64 x1 (0)).bind fun v_10 => (wire_Machine_Two.m k v_7.2 5 0 v_10 v_7.1).bind fun v_13 => (if 0 < x1.length then (if (x1.set (0) (ci v_13.1)).length = 3 then some ((x1.set (0) (ci v_13.1)), v_13.2) else none) else none)

set_option maxRecDepth 100000 in
set_option maxHeartbeats 4000000 in
theorem share_Add.ok (k : Nat) (x0 : Twire_Machine) (x1 : Cells) (x2 : Int) (r : (Cells × Twire_Machine)) (hm : share_Add.m k x0 x1 x2 = some r) (κ : Ctx) (w : World) (S : List HP) (b_x0 : Nat) (ho : Ow κ w (Twire_Machine.own b_x0 x0 :: S)) :
  Calls Try.prog 106 #[pp b_x0, .agg (vals x1), vw x2] w (share_Add.R κ S x0 x1 x2 b_x0 r) := by
 unfold share_Add.m at hm
 generalize hRR : share_Add.R κ S x0 x1 x2 b_x0 r = RR
 refine qen [(0, pp b_x0), (1, .agg (vals x1)), (2, vw x2)] Try.func106 Try.ntmps106 ho fun a hs => ?_
 refine qsr fun K1 hK1 => ?_
 refine qbx 1 28 x1 4 hs fun b_2 w a hs => ?_
 refine qal 28 [ci 0, ci 0, ci 0] 6 hs fun b_3 w a hs => ?_
 refine qpk 0 [0, 2, 4, 6] hs fun a hs => hK1 _ _ ?_
 clear hK1
 refine qsr fun K4 hK4 => ?_
 refine qpu 2 hs fun a hs => ?_
 obtain ⟨v_7, h_6, hm⟩ := bind_t hm
 refine qcl (wire_Machine_Const.ok _ _ _ _ _ h_6 _ _ _ b_x0 hs.own.f2) hs fun w a hs => ?_
 refine qpk 1 [0, 4, 6, 7] hs fun a hs => hK4 _ _ ?_
 clear hK4
 refine qsr fun K8 hK8 => ?_
 refine qpu 3 hs fun a hs => ?_
 obtain ⟨v_10, h_9, hm⟩ := bind_t hm
 refine qli 2 hs rfl h_9 fun a hs => ?_
 refine qpu 1 hs fun a hs => ?_
 obtain ⟨v_13, h_12, hm⟩ := bind_t hm
 refine qcl (wire_Machine_Two.ok _ _ _ _ _ _ _ h_12 _ _ _ b_x0 hs.own) hs fun w a hs => ?_
 refine qpu 2 hs fun a hs => ?_
 obtain ⟨h_14, hm⟩ := ite_t hm
 refine Vk.step (Vk.store1 (b := b_2) (ty := 3) (x := (.tmp 18)) (y := (.tmp 16)) (off := 0) (ci v_13.1) 2 hs (by kernel_rfl) (by kernel_rfl) (by kernel_rfl) (by kernel_rfl) (by kernel_rfl) (by kernel_rfl) rfl h_14 fun a w hs => ?_)
 refine qpe 0 [(4, pp b_2), (6, pp b_3)] hs fun a hs => hK8 _ _ ?_
 clear hK8
 refine qsr fun K15 hK15 => ?_
 obtain ⟨h_16, hm⟩ := ite_t hm
 refine qlw 2 hs rfl h_16 fun a hs => ?_
 refine qsb 1 (x1.set (0) (ci v_13.1)) hs rfl h_16 rfl fun a w hs => ?_
 refine qpe 0 [(6, pp b_3)] hs fun a hs => hK15 _ _ ?_
 clear hK15
 refine wp_ret ?_
 exact Vk.retC (x1.set (0) (ci v_13.1)) hs rfl (by kernel_rfl) (sz := 3) (by kernel_rfl) h_16 (CellsAt.all 1 rfl) (hRR ▸ by cases hm; exact ⟨rfl, hs.own.f2.drop.f1.drop⟩)


def maps_Mark.l1 (x3 : Int) : Nat → Int → Twire_Machine → Cells → Option (Twire_Machine × Cells × Int)
 | 0, _, _, _ => none
 | k + 1, q_14, q_15, q_16 => (bif q_14 != 0 then (bits_TrailingZeros8.m k q_14).bind fun v_23 => (if 0 ≤ v_23 ∧ v_23 < 8 then (part? q_16 (0 + v_23.toNat * 3) 3).bind fun v_28 => (share_Add.m k q_15 v_28 x3).bind fun v_31 => (if 0 ≤ v_23 ∧ v_23 < 8 then (if v_31.1.length = 3 then (if 0 + v_23.toNat * 3 + v_31.1.length ≤ q_16.length then maps_Mark.l1 x3 k (band .u8 q_14 (IntKind.u8.wrap (q_14 - 1))) v_31.2 (splice q_16 (0 + v_23.toNat * 3) v_31.1) else none) else none) else none) else none) else some (q_15, q_16, q_14))
abbrev maps_Mark.R (κ : Ctx) (S : List HP) (x0 : Twire_Machine) (x1 : Cells) (x2 : Int) (x3 : Int) (b_x0 : Nat) (r : (Cells × Twire_Machine)) : Ending → World → Prop := fun e w' => e = .returned (.agg (vals r.1)) ∧ Ow κ w' (Twire_Machine.own b_x0 r.2 :: S)
def maps_Mark.m (k : Nat) (x0 : Twire_Machine) (x1 : Cells) (x2 : Int) (x3 : Int) : Option (Cells × Twire_Machine) := (maps_Mark.l1 x3 k x2 x0 x1).bind fun x => match x with | (p_35, p_36, p_37) => (if p_36.length = 24 then some (p_36, p_35) else none)

set_option maxRecDepth 100000 in
set_option maxHeartbeats 4000000 in
theorem maps_Mark.ok (k : Nat) (x0 : Twire_Machine) (x1 : Cells) (x2 : Int) (x3 : Int) (r : (Cells × Twire_Machine)) (hm : maps_Mark.m k x0 x1 x2 x3 = some r) (κ : Ctx) (w : World) (S : List HP) (b_x0 : Nat) (ho : Ow κ w (Twire_Machine.own b_x0 x0 :: S)) :
  Calls Try.prog 37 #[pp b_x0, .agg (vals x1), .int .u8 x2, vw x3] w (maps_Mark.R κ S x0 x1 x2 x3 b_x0 r) := by
 unfold maps_Mark.m at hm
 generalize hRR : maps_Mark.R κ S x0 x1 x2 x3 b_x0 r = RR
 refine enterM [(0, pp b_x0), (1, .agg (vals x1)), (2, .int .u8 x2), (3, vw x3)] Try.func37 Try.ntmps37 ho fun a hs => ?_
 refine qsr fun K1 hK1 => ?_
 refine qbx 0 41 [cp b_x0] 4 hs fun b_2 w a hs => ?_
 refine qbx 1 71 x1 5 hs fun b_3 w a hs => ?_
 refine qbx 3 32 [cw x3] 7 hs fun b_4 w a hs => ?_
 refine qal 71 [ci 0, ci 0, ci 0, ci 0, ci 0, ci 0, ci 0, ci 0, ci 0, ci 0, ci 0, ci 0, ci 0, ci 0, ci 0, ci 0, ci 0, ci 0, ci 0, ci 0, ci 0, ci 0, ci 0, ci 0] 8 hs fun b_5 w a hs => ?_
 refine qpk 0 [2, 4, 5, 7, 8] hs fun a hs => hK1 _ _ ?_
 clear hK1
 refine Vk.seq fun K6 hK6 => ?_
 refine qsr fun K7 hK7 => ?_
 refine qpu 1 hs fun a hs => ?_
 refine Vk.step (Vk.call (some 11) 118 #[.int .u8 x2] hs (by kernel_rfl) (by kernel_rfl) (by kernel_rfl) ?_)
 refine Vk.enterI [(0, .int .u8 x2)] Try.func118 rfl Try.ntmps118 (by kernel_rfl) (Nat.le_of_ble_eq_true (by kernel_rfl)) hs.own fun KR8 hKR8 hKP8 a hs => ?_
 refine qsr fun K9 hK9 => ?_
 refine qbx 0 5 [C.int .u8 x2] 1 hs fun b_10 w a hs => ?_
 refine qpe 1 [(1, pp b_10)] hs fun a hs => hK9 _ _ ?_
 clear hK9
 refine qsk 2 [2] hs fun a hs => ?_
 refine wp_ret ?_
 refine hKP8 _ _ ?_
 refine hKR8 _ _ ?_
 refine Vk.ret1 (P := Try.prog) (fn := Try.f118) (.func (.func 157) #[] #[pp b_10]) hs rfl (by kernel_rfl) ⟨_, _, _, rfl, hs.own, fun a hs => ?_⟩
 refine qpk 0 [4, 5, 7, 8, 11] hs fun a hs => hK7 _ _ ?_
 clear hK7
 refine wp_block ?_
 replace hs := hs.pick [4, 5, 7, 8, 11] (L' := [(4, pp b_2), (5, pp b_3), (7, pp b_4), (8, pp b_5), (11, .func (.func 157) #[] #[pp b_10])]) (by kernel_rfl)
 refine rangeFn (gf := 157) (caps := #[pp b_10]) hs fun lp_12 dm_12 fm_12 Tm_12 Xr_12 Yr_12 w hX_12 hY_12 hT_12 ho => ?_
 refine Vk.enterI [(0, .func (.yield lp_12) #[] #[]), (1, pp b_10)] Try.func157 rfl Try.ntmps157 (by kernel_rfl) (Nat.le_of_ble_eq_true (by kernel_rfl)) ho fun KR12 hKR12 hKP12 a hs => ?_
 refine tailK fun KN12 hKN12 => ?_
 refine wp_block ?_
 obtain ⟨r13, hl13, hm⟩ := bind_t hm
 have hx13 : ∀ (p_35 : Twire_Machine) (p_36 : Cells) (p_37 : Int), r13 = (p_35, p_36, p_37) → ∀ (a : Act) (w : World), St 14 a w κ [] (pt lp_12 Xr_12 :: pt dm_12 dfD :: Twire_Machine.own b_x0 p_35 :: pt b_2 (blk [cp b_x0] 41) :: pt b_3 (blk p_36 71) :: pt b_4 (blk [cw x3] 32) :: pt b_5 (blk [ci 0, ci 0, ci 0, ci 0, ci 0, ci 0, ci 0, ci 0, ci 0, ci 0, ci 0, ci 0, ci 0, ci 0, ci 0, ci 0, ci 0, ci 0, ci 0, ci 0, ci 0, ci 0, ci 0, ci 0] 71) :: pt b_10 (blk [C.int .u8 p_37] 5) :: S) → KN12 a w := by
  intro p_35 p_36 p_37 he a w hs
  subst r13
  refine hKN12 _ _ ?_
  refine Vk.end0 (P := Try.prog) (fn := Try.f157) hs rfl ⟨_, _, 0, ⟨_, rfl⟩, hs.own, rfl, fun a w (hs : St ⟨22, [mkD dm_12]⟩ a w κ [(4, pp b_2), (5, pp b_3), (7, pp b_4), (8, pp b_5), (11, .func (.func 157) #[] #[pp b_10])] (pt dm_12 dfD :: Twire_Machine.own b_x0 p_35 :: pt b_2 (blk [cp b_x0] 41) :: pt b_3 (blk p_36 71) :: pt b_4 (blk [cw x3] 32) :: pt b_5 (blk [ci 0, ci 0, ci 0, ci 0, ci 0, ci 0, ci 0, ci 0, ci 0, ci 0, ci 0, ci 0, ci 0, ci 0, ci 0, ci 0, ci 0, ci 0, ci 0, ci 0, ci 0, ci 0, ci 0, ci 0] 71) :: pt b_10 (blk [C.int .u8 p_37] 5) :: S)) => ?_⟩
  refine hK6 _ _ ?_
  clear hK6
  refine qsr fun K41 hK41 => ?_
  obtain ⟨h_42, hm⟩ := ite_t hm
  refine qlw 3 hs rfl h_42 fun a hs => ?_
  refine qsb 5 p_36 hs rfl h_42 rfl fun a w hs => ?_
  refine qpe 0 [(8, pp b_5)] hs fun a hs => hK41 _ _ ?_
  clear hK41
  refine wp_ret ?_
  refine leaves1 0 hs rfl rfl fun a w hs => ?_
  replace hs : St 22 a w κ [(8, pp b_5)] (Twire_Machine.own b_x0 p_35 :: pt b_2 (blk [cp b_x0] 41) :: pt b_3 (blk p_36 71) :: pt b_4 (blk [cw x3] 32) :: pt b_5 (blk p_36 71) :: pt b_10 (blk [C.int .u8 p_37] 5) :: S) := hs.pick [8] (by kernel_rfl)
  exact Vk.retC p_36 hs rfl (by kernel_rfl) (sz := 24) (by kernel_rfl) h_42 (CellsAt.all 4 rfl) (hRR ▸ by cases hm; exact ⟨rfl, (hs.own.too [0] 6)⟩)
 refine Vk.loopBy (fun k (s : Int × Twire_Machine × Cells) a w => maps_Mark.l1 x3 k s.1 s.2.1 s.2.2 = some r13 ∧ St 14 a w κ [(0, .func (.yield lp_12) #[] #[]), (1, pp b_10)] (pt b_10 (blk [C.int .u8 s.1] 5) :: pt lp_12 Xr_12 :: pt dm_12 dfD :: Twire_Machine.own b_x0 s.2.1 :: pt b_2 (blk [cp b_x0] 41) :: pt b_3 (blk s.2.2 71) :: pt b_4 (blk [cw x3] 32) :: pt b_5 (blk [ci 0, ci 0, ci 0, ci 0, ci 0, ci 0, ci 0, ci 0, ci 0, ci 0, ci 0, ci 0, ci 0, ci 0, ci 0, ci 0, ci 0, ci 0, ci 0, ci 0, ci 0, ci 0, ci 0, ci 0] 71) :: S)) k (x2, x0, x1) ⟨hl13, hs.go [0, 1] [2, 0, 1, 7, 6, 5, 4, 3] 8 (by kernel_rfl) (by kernel_rfl) (by kernel_rfl)⟩ (fun s a w h => by obtain ⟨h1, _⟩ := h; simp [maps_Mark.l1] at h1) (fun k KL13 ih s a w h => ?_)
 obtain ⟨q_14, q_15, q_16⟩ := s
 obtain ⟨hm, hs⟩ := h
 try dsimp only at hm hs
 rw [maps_Mark.l1] at hm
 refine Vk.seq fun K17 hK17 => ?_
 refine qsr fun K18 hK18 => ?_
 refine qld 0 (C.int .u8 q_14) hs rfl fun a hs => ?_
 refine qpk 1 [0, 1, 4] hs fun a hs => hK18 _ _ ?_
 clear hK18
 refine qcs (q_14 != 0) hs (fun hb => ?_) fun hb => ?_
 ·replace hm := bif_t hm hb
  refine wp_skip ?_
  refine hK17 _ _ ?_
  clear hK17
  refine Vk.seq fun K19 hK19 => ?_
  refine wp_block ?_
  refine qsr fun K20 hK20 => ?_
  refine qpu 1 hs fun a hs => ?_
  refine qld 0 (C.int .u8 q_14) hs rfl fun a hs => ?_
  obtain ⟨v_23, h_22, hm⟩ := bind_t hm
  refine qcl (bits_TrailingZeros8.ok _ _ _ h_22 _ _ (pt b_10 (blk [C.int .u8 q_14] 5) :: pt lp_12 Xr_12 :: pt dm_12 dfD :: Twire_Machine.own b_x0 q_15 :: pt b_2 (blk [cp b_x0] 41) :: pt b_3 (blk q_16 71) :: pt b_4 (blk [cw x3] 32) :: pt b_5 (blk [ci 0, ci 0, ci 0, ci 0, ci 0, ci 0, ci 0, ci 0, ci 0, ci 0, ci 0, ci 0, ci 0, ci 0, ci 0, ci 0, ci 0, ci 0, ci 0, ci 0, ci 0, ci 0, ci 0, ci 0] 71) :: S) hs.own) hs fun w a hs => ?_
  refine yieldOp 1 #[vi v_23] hs hX_12 hY_12 hT_12 rfl fun KA24 QB24 a hqB24 hno24 hKB24 hb24 he24 hs => ?_
  replace hs := hs.pick [4, 5, 7, 12] (L' := [(4, pp b_2), (5, pp b_3), (7, pp b_4), (12, vi v_23)]) (by kernel_rfl)
  refine regionI ?_
  refine qpk 1 [4, 5, 7, 9] hs fun a hs => ?_
  refine hb24 1 _ _ _ _ _ hs rfl fun w hs => ?_
  replace hs : St 22 a w κ [(4, pp b_2), (5, pp b_3), (7, pp b_4), (9, vi v_23)] (pt b_10 (blk [C.int .u8 q_14] 5) :: pt lp_12 Yr_12 :: pt dm_12 dfD :: Twire_Machine.own b_x0 q_15 :: pt b_2 (blk [cp b_x0] 41) :: pt b_3 (blk q_16 71) :: pt b_4 (blk [cw x3] 32) :: pt b_5 (blk [ci 0, ci 0, ci 0, ci 0, ci 0, ci 0, ci 0, ci 0, ci 0, ci 0, ci 0, ci 0, ci 0, ci 0, ci 0, ci 0, ci 0, ci 0, ci 0, ci 0, ci 0, ci 0, ci 0, ci 0] 71) :: S) := hs.pick [4, 5, 7, 9] (by kernel_rfl)
  refine blockI ?_
  obtain ⟨C_25, hC_25⟩ := qC hs.own.f3.drop
  refine qdrI 8 κ C_25 hs fun w hs hqC_25 => ?_
  have hcl := qO hC_25 hs.own.f3.drop
  refine qdp (fuel := 7) [0, 2] hs hcl hqC_25 fun a hs => ?_
  refine qdl 1 3 (cp b_x0) hs hcl hqC_25 hC_25 rfl fun a hs => ?_
  obtain ⟨h_26, hm⟩ := ite_t hm
  refine qdx 3 b_3 0 3 hs hcl hqC_25 h_26 fun a hs => ?_
  obtain ⟨v_28, h_27, hm⟩ := bind_t hm
  refine qdt 4 (.agg (vals v_28)) (op := (.load 28 (.tmp 16))) hs hcl hqC_25 (fun w hw o ho => by rw [hC_25] at hw; exact run_loadN (cs := v_28) ho (by kernel_rfl) (by kernel_rfl) (part?_some h_27).2.2 (CellsAt.own (off := 0 + v_23.toNat * 3) 4 rfl h_27) _ hw) fun a hs => ?_
  refine qdl 5 5 (cw x3) hs hcl hqC_25 hC_25 rfl fun a hs => ?_
  obtain ⟨v_31, h_30, hm⟩ := bind_t hm
  refine qdc 6 (share_Add.ok _ _ _ _ _ h_30 _ _ _ b_x0 hs.own.f3) hs fun w a hs => ?_
  replace hcl := qO hC_25 hs.own.drop
  refine ⟨fun _ => hcl, ?_⟩
  obtain ⟨h_32, hm⟩ := ite_t hm
  refine qdx 7 b_3 0 3 hs hcl hqC_25 h_32 fun a hs => ?_
  obtain ⟨h_33, hm⟩ := ite_t hm
  obtain ⟨h_34, hm⟩ := ite_t hm
  refine Vk.dOnly (i := 8) (by kernel_rfl) (Vk.storeN (b := b_3) (ty := 28) (x := (.tmp 20)) (y := (.tmp 19)) (off := 0 + v_23.toNat * 3) (sz := 3) v_31.1 5 hs (by kernel_rfl) (by kernel_rfl) (by kernel_rfl) (by kernel_rfl) (by kernel_rfl) h_33 (by kernel_rfl) rfl h_34 fun a w hs => ?_)
  refine ⟨fun h => absurd h (by decide), ?_⟩
  replace hs := hs.pick [] (L' := []) (by kernel_rfl)
  refine Vk.dDone (by kernel_rfl) ?_
  refine he24 2 _ _ _ _ _ hs rfl fun a w hs => ?_
  replace hs : St 14 a w κ [(0, .func (.yield lp_12) #[] #[]), (1, pp b_10), (4, .bool (q_14 != 0)), (9, .func (.yield lp_12) #[] #[]), (10, .int .u8 q_14), (11, vi v_23), (12, .bool true)] (Twire_Machine.own b_x0 v_31.2 :: pt b_10 (blk [C.int .u8 q_14] 5) :: pt lp_12 Xr_12 :: pt dm_12 dfD :: pt b_2 (blk [cp b_x0] 41) :: pt b_3 (blk (splice q_16 (0 + v_23.toNat * 3) v_31.1) 71) :: pt b_4 (blk [cw x3] 32) :: pt b_5 (blk [ci 0, ci 0, ci 0, ci 0, ci 0, ci 0, ci 0, ci 0, ci 0, ci 0, ci 0, ci 0, ci 0, ci 0, ci 0, ci 0, ci 0, ci 0, ci 0, ci 0, ci 0, ci 0, ci 0, ci 0] 71) :: S) := hs.pick [0, 1, 4, 9, 10, 11, 12] (by kernel_rfl)
  refine qpk 1 [0, 1, 13] hs fun a hs => hK20 _ _ ?_
  clear hK20
  refine qcf hs ?_
  refine wp_skip ?_
  refine hK19 _ _ ?_
  clear hK19
  refine Vk.region ?_
  refine qld 1 (C.int .u8 q_14) hs rfl fun a hs => ?_
  refine qld 1 (C.int .u8 q_14) hs rfl fun a hs => ?_
  refine qpu 2 hs fun a hs => ?_
  refine qst 1 0 (C.int .u8 (band .u8 q_14 (IntKind.u8.wrap (q_14 - 1)))) hs rfl fun a w hs => ?_
  refine qpk 0 [0, 1] hs fun a hs => ?_
  refine ih ((band .u8 q_14 (IntKind.u8.wrap (q_14 - 1))), v_31.2, (splice q_16 (0 + v_23.toNat * 3) v_31.1)) _ _ ⟨hm, hs.go [0, 1] [1, 2, 3, 0, 4, 5, 6, 7] 8 (by kernel_rfl) (by kernel_rfl) (by kernel_rfl)⟩
 ·replace hm := bif_f hm hb
  refine wp_exit ?_
  exact hx13 q_15 q_16 q_14 (Option.some.inj hm).symm _ _ (hs.go [] [1, 2, 3, 4, 5, 6, 7, 0] 8 (by kernel_rfl) (by kernel_rfl) (by kernel_rfl))


abbrev visorref20_Add.R (κ : Ctx) (S : List HP) (x0 : Tvisorref19_M) (x1 : Int) (x2 : Cells) (x3 : Int) (b_x0 : Nat) (r : (Cells × Tvisorref19_M)) : Ending → World → Prop := fun e w' => e = .returned (.agg (vals r.1)) ∧ Ow κ w' (Tvisorref19_M.own κ b_x0 r.2 :: S)
def visorref20_Add.m (k : Nat) (x0 : Tvisorref19_M) (x1 : Int) (x2 : Cells) (x3 : Int) : Option (Cells × Tvisorref19_M) := (visorref19_Op.m k x1 0 (-1) (-1) x3).bind fun v_7 => (visorref19_M_Do.m k x0 v_7 0).bind fun v_10 => (getI .i64 x2 (0)).bind fun v_13 => (visorref19_Op.m k 5 0 v_13 v_10.1 0).bind fun v_16 => (visorref19_M_Do.m k v_10.2 v_16 0).bind fun v_19 => (if 0 < x2.length then (if (x2.set (0) (ci v_19.1)).length = 3 then some ((x2.set (0) (ci v_19.1)), v_19.2) else none) else none)

set_option maxRecDepth 100000 in
set_option maxHeartbeats 4000000 in
theorem visorref20_Add.ok (k : Nat) (x0 : Tvisorref19_M) (x1 : Int) (x2 : Cells) (x3 : Int) (r : (Cells × Tvisorref19_M)) (hm : visorref20_Add.m k x0 x1 x2 x3 = some r) (κ : Ctx) (w : World) (S : List HP) (b_x0 : Nat) (ho : Ow κ w (Tvisorref19_M.own κ b_x0 x0 :: S)) :
  Calls Try.prog 107 #[pp b_x0, vi x1, .agg (vals x2), vw x3] w (visorref20_Add.R κ S x0 x1 x2 x3 b_x0 r) := by
 unfold visorref20_Add.m at hm
 generalize hRR : visorref20_Add.R κ S x0 x1 x2 x3 b_x0 r = RR
 refine qen [(0, pp b_x0), (1, vi x1), (2, .agg (vals x2)), (3, vw x3)] Try.func107 Try.ntmps107 ho fun a hs => ?_
 refine qsr fun K1 hK1 => ?_
 refine qbx 2 28 x2 6 hs fun b_2 w a hs => ?_
 refine qal 28 [ci 0, ci 0, ci 0] 8 hs fun b_3 w a hs => ?_
 refine qpk 0 [0, 1, 3, 6, 8] hs fun a hs => hK1 _ _ ?_
 clear hK1
 refine qsr fun K4 hK4 => ?_
 refine qpu 3 hs fun a hs => ?_
 obtain ⟨v_7, h_6, hm⟩ := bind_t hm
 refine qcl (visorref19_Op.ok _ _ _ _ _ _ _ h_6 _ _ (pt b_3 (blk [ci 0, ci 0, ci 0] 28) :: pt b_2 (blk x2 28) :: Tvisorref19_M.own κ b_x0 x0 :: S) hs.own) hs fun w a hs => ?_
 obtain ⟨v_10, h_9, hm⟩ := bind_t hm
 refine qcl (visorref19_M_Do.ok _ _ _ _ _ h_9 _ _ _ b_x0 hs.own.f2) hs fun w a hs => ?_
 refine qpk 1 [0, 6, 8, 9] hs fun a hs => hK4 _ _ ?_
 clear hK4
 refine qsr fun K11 hK11 => ?_
 refine qpu 3 hs fun a hs => ?_
 obtain ⟨v_13, h_12, hm⟩ := bind_t hm
 refine qli 2 hs rfl h_12 fun a hs => ?_
 refine qpu 1 hs fun a hs => ?_
 obtain ⟨v_16, h_15, hm⟩ := bind_t hm
 refine qcl (visorref19_Op.ok _ _ _ _ _ _ _ h_15 _ _ (Tvisorref19_M.own κ b_x0 v_10.2 :: pt b_3 (blk [ci 0, ci 0, ci 0] 28) :: pt b_2 (blk x2 28) :: S) hs.own) hs fun w a hs => ?_
 obtain ⟨v_19, h_18, hm⟩ := bind_t hm
 refine qcl (visorref19_M_Do.ok _ _ _ _ _ h_18 _ _ _ b_x0 hs.own) hs fun w a hs => ?_
 refine qpu 2 hs fun a hs => ?_
 obtain ⟨h_20, hm⟩ := ite_t hm
 refine Vk.step (Vk.store1 (b := b_2) (ty := 3) (x := (.tmp 23)) (y := (.tmp 21)) (off := 0) (ci v_19.1) 2 hs (by kernel_rfl) (by kernel_rfl) (by kernel_rfl) (by kernel_rfl) (by kernel_rfl) (by kernel_rfl) rfl h_20 fun a w hs => ?_)
 refine qpe 0 [(6, pp b_2), (8, pp b_3)] hs fun a hs => hK11 _ _ ?_
 clear hK11
 refine qsr fun K21 hK21 => ?_
 obtain ⟨h_22, hm⟩ := ite_t hm
 refine qlw 2 hs rfl h_22 fun a hs => ?_
 refine qsb 1 (x2.set (0) (ci v_19.1)) hs rfl h_22 rfl fun a w hs => ?_
 refine qpe 0 [(8, pp b_3)] hs fun a hs => hK21 _ _ ?_
 clear hK21
 refine wp_ret ?_
 exact Vk.retC (x2.set (0) (ci v_19.1)) hs rfl (by kernel_rfl) (sz := 3) (by kernel_rfl) h_22 (CellsAt.all 1 rfl) (hRR ▸ by cases hm; exact ⟨rfl, hs.own.f2.drop.f1.drop⟩)


def visorref34_Mark.j1 (k : Nat) (rec6 : Tvisorref19_M → Cells → Int → Option (Cells × Tvisorref19_M)) (q_9 : Int) (p_24 : Tvisorref19_M) (p_25 : Cells) : Option (Cells × Tvisorref19_M) := rec6 p_24 p_25 (IntKind.i64.wrap (q_9 + 1))
def visorref34_Mark.l1 (x2 : Int) (x3 : Int) : Nat → Tvisorref19_M → Cells → Int → Option (Cells × Tvisorref19_M)
 | 0, _, _, _ => none
 | k + 1, q_7, q_8, q_9 => (bif decide (q_9 < 8) then (if 0 ≤ IntKind.u64.wrap q_9 then (bif (Int.tmod (shr .u8 x2 (IntKind.u64.wrap q_9)) 2) == 1 then (if 0 ≤ q_9 ∧ q_9 < 8 then (part? q_8 (0 + q_9.toNat * 3) 3).bind fun v_17 => (visorref20_Add.m k q_7 3 v_17 x3).bind fun v_20 => (if 0 ≤ q_9 ∧ q_9 < 8 then (if v_20.1.length = 3 then (if 0 + q_9.toNat * 3 + v_20.1.length ≤ q_8.length then visorref34_Mark.j1 k (visorref34_Mark.l1 x2 x3 k) q_9 v_20.2 (splice q_8 (0 + q_9.toNat * 3) v_20.1) else none) else none) else none) else none) else visorref34_Mark.j1 k (visorref34_Mark.l1 x2 x3 k) q_9 q_7 q_8) else none) else some (q_8, q_7))
abbrev visorref34_Mark.R (κ : Ctx) (S : List HP) (x0 : Tvisorref19_M) (x1 : Cells) (x2 : Int) (x3 : Int) (b_x0 : Nat) (r : (Cells × Tvisorref19_M)) : Ending → World → Prop := fun e w' => e = .returned (.agg (vals r.1)) ∧ Ow κ w' (Tvisorref19_M.own κ b_x0 r.2 :: S)
def visorref34_Mark.m (k : Nat) (x0 : Tvisorref19_M) (x1 : Cells) (x2 : Int) (x3 : Int) : Option (Cells × Tvisorref19_M) := (visorref34_Mark.l1 x2 x3 k x0 x1 0).bind fun x => match x with | (p_26, p_27) => (if p_26.length = 24 then some (p_26, p_27) else none)

set_option maxRecDepth 100000 in
set_option maxHeartbeats 4000000 in
theorem visorref34_Mark.ok (k : Nat) (x0 : Tvisorref19_M) (x1 : Cells) (x2 : Int) (x3 : Int) (r : (Cells × Tvisorref19_M)) (hm : visorref34_Mark.m k x0 x1 x2 x3 = some r) (κ : Ctx) (w : World) (S : List HP) (b_x0 : Nat) (ho : Ow κ w (Tvisorref19_M.own κ b_x0 x0 :: S)) :
  Calls Try.prog 38 #[pp b_x0, .agg (vals x1), .int .u8 x2, vw x3] w (visorref34_Mark.R κ S x0 x1 x2 x3 b_x0 r) := by
 unfold visorref34_Mark.m at hm
 generalize hRR : visorref34_Mark.R κ S x0 x1 x2 x3 b_x0 r = RR
 refine qen [(0, pp b_x0), (1, .agg (vals x1)), (2, .int .u8 x2), (3, vw x3)] Try.func38 Try.ntmps38 ho fun a hs => ?_
 refine qsr fun K1 hK1 => ?_
 refine qbx 1 71 x1 5 hs fun b_2 w a hs => ?_
 refine qal 71 [ci 0, ci 0, ci 0, ci 0, ci 0, ci 0, ci 0, ci 0, ci 0, ci 0, ci 0, ci 0, ci 0, ci 0, ci 0, ci 0, ci 0, ci 0, ci 0, ci 0, ci 0, ci 0, ci 0, ci 0] 8 hs fun b_3 w a hs => ?_
 refine qpk 0 [0, 2, 3, 5, 8] hs fun a hs => hK1 _ _ ?_
 clear hK1
 refine Vk.seq fun K4 hK4 => ?_
 refine qsk 1 [0, 2, 3, 5, 8, 9] hs fun a hs => ?_
 refine wp_block ?_
 obtain ⟨r6, hl6, hm⟩ := bind_t hm
 have hx6 : ∀ (p_26 : Cells) (p_27 : Tvisorref19_M), r6 = (p_26, p_27) → ∀ (a : Act) (w : World), St 29 a w κ [(5, pp b_2), (8, pp b_3)] (pt b_2 (blk p_26 71) :: pt b_3 (blk [ci 0, ci 0, ci 0, ci 0, ci 0, ci 0, ci 0, ci 0, ci 0, ci 0, ci 0, ci 0, ci 0, ci 0, ci 0, ci 0, ci 0, ci 0, ci 0, ci 0, ci 0, ci 0, ci 0, ci 0] 71) :: Tvisorref19_M.own κ b_x0 p_27 :: S) → K4 a w := by
  intro p_26 p_27 he a w hs
  subst r6
  refine hK4 _ _ ?_
  clear hK4
  refine qsr fun K31 hK31 => ?_
  obtain ⟨h_32, hm⟩ := ite_t hm
  refine qlw 0 hs rfl h_32 fun a hs => ?_
  refine qsb 1 p_26 hs rfl h_32 rfl fun a w hs => ?_
  refine qpe 0 [(8, pp b_3)] hs fun a hs => hK31 _ _ ?_
  clear hK31
  refine wp_ret ?_
  exact Vk.retC p_26 hs rfl (by kernel_rfl) (sz := 24) (by kernel_rfl) h_32 (CellsAt.all 1 rfl) (hRR ▸ by cases hm; exact ⟨rfl, hs.own.f1.drop.drop⟩)
 refine Vk.loopBy (fun k (s : Tvisorref19_M × Cells × Int) a w => visorref34_Mark.l1 x2 x3 k s.1 s.2.1 s.2.2 = some r6 ∧ St 29 a w κ [(0, pp b_x0), (2, .int .u8 x2), (3, vw x3), (5, pp b_2), (8, pp b_3), (9, vi s.2.2)] (Tvisorref19_M.own κ b_x0 s.1 :: pt b_2 (blk s.2.1 71) :: pt b_3 (blk [ci 0, ci 0, ci 0, ci 0, ci 0, ci 0, ci 0, ci 0, ci 0, ci 0, ci 0, ci 0, ci 0, ci 0, ci 0, ci 0, ci 0, ci 0, ci 0, ci 0, ci 0, ci 0, ci 0, ci 0] 71) :: S)) k (x0, x1, 0) ⟨hl6, hs.go [0, 2, 3, 5, 8, 9] [2, 1, 0] 3 (by kernel_rfl) (by kernel_rfl) (by kernel_rfl)⟩ (fun s a w h => by obtain ⟨h1, _⟩ := h; simp [visorref34_Mark.l1] at h1) (fun k KL6 ih s a w h => ?_)
 obtain ⟨q_7, q_8, q_9⟩ := s
 obtain ⟨hm, hs⟩ := h
 try dsimp only at hm hs
 rw [visorref34_Mark.l1] at hm
 refine Vk.seq fun K10 hK10 => ?_
 refine qsk 2 [0, 2, 3, 5, 8, 9, 11] hs fun a hs => ?_
 refine qcs (decide (q_9 < 8)) hs (fun hb => ?_) fun hb => ?_
 ·replace hm := bif_t hm hb
  refine wp_skip ?_
  refine hK10 _ _ ?_
  clear hK10
  refine Vk.seq fun K12 hK12 => ?_
  have hj12 : ∀ (p_24 : Tvisorref19_M) (p_25 : Cells), visorref34_Mark.j1 k (visorref34_Mark.l1 x2 x3 k) q_9 p_24 p_25 = some r6 → ∀ (a : Act) (w : World), St 29 a w κ [(0, pp b_x0), (2, .int .u8 x2), (3, vw x3), (5, pp b_2), (8, pp b_3), (9, vi q_9)] (Tvisorref19_M.own κ b_x0 p_24 :: pt b_2 (blk p_25 71) :: pt b_3 (blk [ci 0, ci 0, ci 0, ci 0, ci 0, ci 0, ci 0, ci 0, ci 0, ci 0, ci 0, ci 0, ci 0, ci 0, ci 0, ci 0, ci 0, ci 0, ci 0, ci 0, ci 0, ci 0, ci 0, ci 0] 71) :: S) → K12 a w := by
   intro p_24 p_25 hm a w hs
   unfold visorref34_Mark.j1 at hm
   refine hK12 _ _ ?_
   refine Vk.region ?_
   refine qpk 3 [0, 2, 3, 5, 8, 9] hs fun a hs => ?_
   refine ih (p_24, p_25, (IntKind.i64.wrap (q_9 + 1))) _ _ ⟨hm, hs.go [0, 2, 3, 5, 8, 9] [0, 1, 2] 3 (by kernel_rfl) (by kernel_rfl) (by kernel_rfl)⟩
  refine wp_block ?_
  refine qsr fun K13 hK13 => ?_
  refine qpu 3 hs fun a hs => ?_
  obtain ⟨h_14, hm⟩ := ite_t hm
  refine qva (.int .u8 (shr .u8 x2 (IntKind.u64.wrap q_9))) (op := (.binOp .shr 5 (.tmp 14) (.tmp 16) 24)) hs (fun o ho => run_shr (k' := .u64) ho (by kernel_rfl) (by kernel_rfl) h_14 _) fun a hs => ?_
  refine qpk 2 [0, 2, 3, 5, 8, 9, 19] hs fun a hs => hK13 _ _ ?_
  clear hK13
  refine qcs ((Int.tmod (shr .u8 x2 (IntKind.u64.wrap q_9)) 2) == 1) hs (fun hb => ?_) fun hb => ?_
  ·replace hm := bif_t hm hb
   refine Vk.region ?_
   refine qpu 3 hs fun a hs => ?_
   obtain ⟨h_15, hm⟩ := ite_t hm
   refine qix b_2 0 3 hs h_15 fun a hs => ?_
   obtain ⟨v_17, h_16, hm⟩ := bind_t hm
   refine qva (.agg (vals v_17)) (op := (.load 28 (.tmp 23))) hs (fun o ho => run_loadN (cs := v_17) ho (by kernel_rfl) (by kernel_rfl) (part?_some h_16).2.2 (CellsAt.own (off := 0 + q_9.toNat * 3) 1 rfl h_16) _ hs.own) fun a hs => ?_
   refine qpu 1 hs fun a hs => ?_
   obtain ⟨v_20, h_19, hm⟩ := bind_t hm
   refine qcl (visorref20_Add.ok _ _ _ _ _ _ h_19 _ _ _ b_x0 hs.own) hs fun w a hs => ?_
   obtain ⟨h_21, hm⟩ := ite_t hm
   refine qix b_2 0 3 hs h_21 fun a hs => ?_
   obtain ⟨h_22, hm⟩ := ite_t hm
   obtain ⟨h_23, hm⟩ := ite_t hm
   refine Vk.step (Vk.storeN (b := b_2) (ty := 28) (x := (.tmp 27)) (y := (.tmp 26)) (off := 0 + q_9.toNat * 3) (sz := 3) v_20.1 1 hs (by kernel_rfl) (by kernel_rfl) (by kernel_rfl) (by kernel_rfl) (by kernel_rfl) h_22 (by kernel_rfl) rfl h_23 fun a w hs => ?_)
   refine qpe 0 [(0, pp b_x0), (2, .int .u8 x2), (3, vw x3), (5, pp b_2), (8, pp b_3), (9, vi q_9)] hs fun a hs => ?_
   exact hj12 v_20.2 (splice q_8 (0 + q_9.toNat * 3) v_20.1) hm _ _ (hs.go [0, 2, 3, 5, 8, 9] [0, 1, 2] 3 (by kernel_rfl) (by kernel_rfl) (by kernel_rfl))
  ·replace hm := bif_f hm hb
   refine wp_skip ?_
   exact hj12 q_7 q_8 hm _ _ (hs.go [0, 2, 3, 5, 8, 9] [0, 1, 2] 3 (by kernel_rfl) (by kernel_rfl) (by kernel_rfl))
 ·replace hm := bif_f hm hb
  refine wp_exit ?_
  exact hx6 q_8 q_7 (Option.some.inj hm).symm _ _ (hs.go [5, 8] [1, 2, 0] 3 (by kernel_rfl) (by kernel_rfl) (by kernel_rfl))


abbrev wire_Machine_Values.R (κ : Ctx) (S : List HP) (x0 : Twire_Machine) (b_x0 : Nat) (g_x0 : Nat × Option Addr × Nat × Option Addr × Nat × Option Addr × Nat) (r : List Int) : Ending → World → Prop := fun e w' => ∃ (A_r0 : Option Addr), ∃ (c_r0 : Nat), e = .returned (.slice A_r0 r.length c_r0) ∧ Ow κ w' (rowp A_r0 c_r0 32 1 (eI .u64) r :: bagL (Twire_Machine.parts b_x0 x0 g_x0) :: S)
def wire_Machine_Values.m (k : Nat) (x0 : Twire_Machine) : Option (List Int) := (slices_Clone_uint64_uint64.m k x0.values).bind fun v_10 => some v_10

set_option maxRecDepth 100000 in
set_option maxHeartbeats 4000000 in
theorem wire_Machine_Values.ok (k : Nat) (x0 : Twire_Machine) (r : List Int) (hm : wire_Machine_Values.m k x0 = some r) (κ : Ctx) (w : World) (S : List HP) (b_x0 : Nat) (g_x0 : Nat × Option Addr × Nat × Option Addr × Nat × Option Addr × Nat) (ho : Ow κ w (bagL (Twire_Machine.parts b_x0 x0 g_x0) :: S)) :
  Calls Try.prog 22 #[pp b_x0] w (wire_Machine_Values.R κ S x0 b_x0 g_x0 r) := by
 unfold wire_Machine_Values.m at hm
 generalize hRR : wire_Machine_Values.R κ S x0 b_x0 g_x0 r = RR
 refine qen [(0, pp b_x0)] Try.func22 Try.ntmps22 ho fun a hs => ?_
 refine qse 1 [(0, pp b_x0)] hs fun a hs => ?_
 refine Vk.seq fun K2 hK2 => ?_
 refine qsk 2 [0, 4] hs fun a hs => ?_
 refine qcf hs ?_
 refine wp_skip ?_
 refine hK2 _ _ ?_
 clear hK2
 refine qsr fun K4 hK4 => ?_
 refine qpu 3 hs fun a hs => ?_
 replace hs := hs.unbagAt 0 rfl
 refine qld 0 (C.slc g_x0.2.2.2.1 x0.values.length g_x0.2.2.2.2.1) hs rfl fun a hs => ?_
 obtain ⟨v_10, h_9, hm⟩ := bind_t hm
 refine Vk.step (Vk.call (some 9) 96 #[.slice g_x0.2.2.2.1 x0.values.length g_x0.2.2.2.2.1] hs (by kernel_rfl) (by kernel_rfl) (by kernel_rfl) ?_)
 refine (slices_Clone_uint64_uint64.ok k x0.values v_10 h_9 κ w (pt b_x0 (blk (Twire_Machine.obj x0 g_x0.1 g_x0.2.1 g_x0.2.2.1 g_x0.2.2.2.1 g_x0.2.2.2.2.1 g_x0.2.2.2.2.2.1 g_x0.2.2.2.2.2.2) 139) :: opto x0.dry (Ttape_Tape.own g_x0.1 x0.tape) :: rowp g_x0.2.1 g_x0.2.2.1 93 6 Tapi_Op.cells x0.ops :: rowp g_x0.2.2.2.1 g_x0.2.2.2.2.1 32 1 (eI .u64) x0.values :: rowp g_x0.2.2.2.2.2.1 g_x0.2.2.2.2.2.2 175 3 Tapi_Span.cells x0.blocks :: S) g_x0.2.2.2.1 g_x0.2.2.2.2.1 (Sl.lift (fun w ho => (Ow.to (S' := rowp g_x0.2.2.2.1 g_x0.2.2.2.2.1 32 1 (eI .u64) x0.values :: S) ho [3] 5 (by kernel_rfl) (by kernel_rfl))) (Ow.rowSl 0 (Ow.to (S' := rowp g_x0.2.2.2.1 g_x0.2.2.2.2.1 32 1 (eI .u64) x0.values :: S) hs.own [3] 5 (by kernel_rfl) (by kernel_rfl)) rfl)) hs.own).mono ?_
 rintro _ w ⟨Ar8x0_11, cr8x0_12, rfl, how⟩
 refine ⟨_, _, _, rfl, how, fun a hs => ?_⟩
 refine qpk 1 [2] hs fun a hs => hK4 _ _ ?_
 clear hK4
 refine wp_ret ?_
 replace hs := hs.bagG (l := Twire_Machine.parts b_x0 x0 g_x0) (S' := rowp Ar8x0_11 cr8x0_12 32 1 (eI .u64) v_10 :: S) hs.own.f5.f5.f5.f5.f5
 exact qr1 (.slice Ar8x0_11 v_10.length cr8x0_12) hs rfl hRR (by cases hm; exact ⟨Ar8x0_11, cr8x0_12, rfl, hs.own.f1⟩)


abbrev wire_Machine_Err.R (κ : Ctx) (S : List HP) (x0 : Twire_Machine) (b_x0 : Nat) (g_x0 : Nat × Option Addr × Nat × Option Addr × Nat × Option Addr × Nat) (r : Int) : Ending → World → Prop := fun e w' => e = .returned (vi r) ∧ Ow κ w' (bagL (Twire_Machine.parts b_x0 x0 g_x0) :: S)
def wire_Machine_Err.m (k : Nat) (x0 : Twire_Machine) : Option Int := some x0.bad

set_option maxRecDepth 100000 in
set_option maxHeartbeats 4000000 in
theorem wire_Machine_Err.ok (k : Nat) (x0 : Twire_Machine) (r : Int) (hm : wire_Machine_Err.m k x0 = some r) (κ : Ctx) (w : World) (S : List HP) (b_x0 : Nat) (g_x0 : Nat × Option Addr × Nat × Option Addr × Nat × Option Addr × Nat) (ho : Ow κ w (bagL (Twire_Machine.parts b_x0 x0 g_x0) :: S)) :
  Calls Try.prog 23 #[pp b_x0] w (wire_Machine_Err.R κ S x0 b_x0 g_x0 r) := by
 unfold wire_Machine_Err.m at hm
 generalize hRR : wire_Machine_Err.R κ S x0 b_x0 g_x0 r = RR
 refine qen [(0, pp b_x0)] Try.func23 Try.ntmps23 ho fun a hs => ?_
 refine qse 1 [(0, pp b_x0)] hs fun a hs => ?_
 refine Vk.seq fun K2 hK2 => ?_
 refine qsk 2 [0, 4] hs fun a hs => ?_
 refine qcf hs ?_
 refine wp_skip ?_
 refine hK2 _ _ ?_
 clear hK2
 refine qsr fun K4 hK4 => ?_
 refine qpu 3 hs fun a hs => ?_
 replace hs := hs.unbagAt 0 rfl
 refine qld 0 (ci x0.bad) hs rfl fun a hs => ?_
 refine qpe 1 [(2, vi x0.bad)] hs fun a hs => hK4 _ _ ?_
 clear hK4
 refine wp_ret ?_
 replace hs := hs.bagG (l := Twire_Machine.parts b_x0 x0 g_x0) (S' := S) hs.own
 exact qr1 (vi x0.bad) hs rfl hRR (by cases hm; exact ⟨rfl, hs.own⟩)


abbrev slices_Clone_api_Op_api_Op.R (κ : Ctx) (S : List HP) (x0 : List Tapi_Op) (A_x0 : Option Addr) (c_x0 : Nat) (r : List Tapi_Op) : Ending → World → Prop := fun e w' => ∃ (A_r0 : Option Addr), ∃ (c_r0 : Nat), e = .returned (.slice A_r0 r.length c_r0) ∧ Ow κ w' (rowp A_r0 c_r0 93 6 Tapi_Op.cells r :: S)
def slices_Clone_api_Op_api_Op.m (k : Nat) (x0 : List Tapi_Op) : Option (List Tapi_Op) := (if (([] : List Tapi_Op).length + x0.length) * 48 ≤ 140737488355328 then some (([] : List Tapi_Op) ++ x0) else none)

set_option maxRecDepth 100000 in
set_option maxHeartbeats 4000000 in
theorem slices_Clone_api_Op_api_Op.ok (k : Nat) (x0 : List Tapi_Op) (r : List Tapi_Op) (hm : slices_Clone_api_Op_api_Op.m k x0 = some r) (κ : Ctx) (w : World) (S : List HP) (A_x0 : Option Addr) (c_x0 : Nat) (hx_x0 : Sl κ S A_x0 c_x0 6 Tapi_Op.cells x0) (ho : Ow κ w (S)) :
  Calls Try.prog 138 #[.slice A_x0 x0.length c_x0] w (slices_Clone_api_Op_api_Op.R κ S x0 A_x0 c_x0 r) := by
 unfold slices_Clone_api_Op_api_Op.m at hm
 rcases A_x0 with _ | p_x0
 ·obtain rfl : c_x0 = 0 := hx_x0.none rfl
  obtain rfl : x0 = [] := List.length_eq_zero_iff.1 (Nat.le_zero.1 hx_x0.le)
  replace hm : some ([] : List Tapi_Op) = some r := by simpa using hm
  refine Vk.enter [(0, .slice none 0 0)] Try.func138 rfl Try.ntmps138 (by kernel_rfl) (Nat.le_of_ble_eq_true (by kernel_rfl)) ho fun a hs => ?_
  refine Vk.seq fun K1 hK1 => ?_
  refine Vk.region ?_
  refine Vk.pures 1 [(2, .slice none 0 0)] hs (by kernel_rfl) fun a hs => ?_
  replace hs := hs.pick [0] (L' := [(0, .slice none 0 0)]) (by kernel_rfl)
  refine Vk.done (by kernel_rfl) ?_
  refine hK1 _ _ ?_
  clear hK1
  refine Vk.seq fun K2 hK2 => ?_
  refine Vk.seq fun K3 hK3 => ?_
  refine Vk.region ?_
  refine Vk.pures 2 [(4, .bool true), (3, .slice none 0 0)] hs (by kernel_rfl) fun a hs => ?_
  replace hs := hs.pick [0, 4] (L' := [(0, .slice none 0 0), (4, .bool true)]) (by kernel_rfl)
  refine Vk.done (by kernel_rfl) ?_
  refine hK3 _ _ ?_
  clear hK3
  refine Vk.condT hs (by kernel_rfl) (by kernel_rfl) ?_
  refine Vk.seq fun K4 hK4 => ?_
  refine Vk.region ?_
  refine Vk.pures 1 [(2, .slice none 0 0)] hs (by kernel_rfl) fun a hs => ?_
  replace hs := hs.pick [2] (L' := [(2, .slice none 0 0)]) (by kernel_rfl)
  refine Vk.done (by kernel_rfl) ?_
  refine hK4 _ _ ?_
  clear hK4
  refine wp_ret ?_
  replace hs := hs.addRow none 93 6 Tapi_Op.cells
  exact Vk.ret1 (P := Try.prog) (fn := Try.f138) (R := slices_Clone_api_Op_api_Op.R κ S [] none 0 r) (.slice none (([] : List Tapi_Op).length) 0) hs rfl (by kernel_rfl) (by obtain rfl := Option.some.inj hm; exact ⟨none, 0, rfl, hs.own⟩)
 ·skip
  refine Vk.enter [(0, .slice (some p_x0) x0.length c_x0)] Try.func138 rfl Try.ntmps138 (by kernel_rfl) (Nat.le_of_ble_eq_true (by kernel_rfl)) ho fun a hs => ?_
  refine Vk.seq fun K1 hK1 => ?_
  refine Vk.region ?_
  refine Vk.pures 1 [(2, .slice none 0 0)] hs (by kernel_rfl) fun a hs => ?_
  replace hs := hs.pick [0] (L' := [(0, .slice (some p_x0) x0.length c_x0)]) (by kernel_rfl)
  refine Vk.done (by kernel_rfl) ?_
  refine hK1 _ _ ?_
  clear hK1
  refine Vk.seq fun K2 hK2 => ?_
  refine Vk.seq fun K3 hK3 => ?_
  refine Vk.region ?_
  refine Vk.pures 2 [(4, .bool false), (3, .slice (some p_x0) x0.length c_x0)] hs (by kernel_rfl) fun a hs => ?_
  replace hs := hs.pick [0, 4] (L' := [(0, .slice (some p_x0) x0.length c_x0), (4, .bool false)]) (by kernel_rfl)
  refine Vk.done (by kernel_rfl) ?_
  refine hK3 _ _ ?_
  clear hK3
  refine Vk.condF hs (by kernel_rfl) (by kernel_rfl) ?_
  refine wp_skip ?_
  refine hK2 _ _ ?_
  clear hK2
  refine Vk.seq fun K4 hK4 => ?_
  refine Vk.region ?_
  refine Vk.step (Vk.buildOp (sz := 6) (by_ := 48) (t := 59) (e := 93) (parts := #[]) (zs := vals [C.int .i64 0, C.int .i64 0, C.int .i64 0, C.int .i64 0, C.int .i64 0, C.int .u64 0]) ([] : List Tapi_Op) Tapi_Op.cells (some 5) hs (by kernel_rfl) (by kernel_rfl) (by kernel_rfl) (by kernel_rfl) (by decide) rfl (fun x _ => rfl) (Nat.le_of_ble_eq_true (by kernel_rfl)) (by kernel_rfl) fun A_5 w a hs => ?_)
  refine Vk.pures 1 [(6, .slice (some p_x0) x0.length c_x0)] hs (by kernel_rfl) fun a hs => ?_
  obtain ⟨h_7, hm⟩ := ite_t hm
  refine Vk.step (Vk.appendOp (x := (.tmp 5)) (y := (.tmp 6)) (e := 93) (t := 59) (by_ := 48) (sz := 6) (enc := Tapi_Op.cells) (A := A_5) (cap := 0) (xs := ([] : List Tapi_Op)) (ys := x0) (B := (some p_x0)) (c2 := c_x0) 0 (some 7) hs (by kernel_rfl) (by kernel_rfl) (by kernel_rfl) (by kernel_rfl) rfl hx_x0.less (by kernel_rfl) (by kernel_rfl) (by decide) (by decide) h_7 fun A_8 c_9 w a hs => ?_)
  refine Vk.pures 1 [(2, .slice A_8 ((([] : List Tapi_Op) ++ x0).length) c_9)] hs (by kernel_rfl) fun a hs => ?_
  replace hs := hs.pick [2] (L' := [(2, .slice A_8 ((([] : List Tapi_Op) ++ x0).length) c_9)]) (by kernel_rfl)
  refine Vk.done (by kernel_rfl) ?_
  refine hK4 _ _ ?_
  clear hK4
  refine wp_ret ?_
  exact Vk.ret1 (P := Try.prog) (fn := Try.f138) (R := slices_Clone_api_Op_api_Op.R κ S x0 (some p_x0) c_x0 r) (.slice A_8 ((([] : List Tapi_Op) ++ x0).length) c_9) hs rfl (by kernel_rfl) (by obtain rfl := Option.some.inj hm; exact ⟨A_8, c_9, rfl, hs.own⟩)


abbrev slices_Clone_api_Span_api_Span.R (κ : Ctx) (S : List HP) (x0 : List Tapi_Span) (A_x0 : Option Addr) (c_x0 : Nat) (r : List Tapi_Span) : Ending → World → Prop := fun e w' => ∃ (A_r0 : Option Addr), ∃ (c_r0 : Nat), e = .returned (.slice A_r0 r.length c_r0) ∧ Ow κ w' (rowp A_r0 c_r0 175 3 Tapi_Span.cells r :: S)
def slices_Clone_api_Span_api_Span.m (k : Nat) (x0 : List Tapi_Span) : Option (List Tapi_Span) := (if (([] : List Tapi_Span).length + x0.length) * 24 ≤ 140737488355328 then some (([] : List Tapi_Span) ++ x0) else none)

set_option maxRecDepth 100000 in
set_option maxHeartbeats 4000000 in
theorem slices_Clone_api_Span_api_Span.ok (k : Nat) (x0 : List Tapi_Span) (r : List Tapi_Span) (hm : slices_Clone_api_Span_api_Span.m k x0 = some r) (κ : Ctx) (w : World) (S : List HP) (A_x0 : Option Addr) (c_x0 : Nat) (hx_x0 : Sl κ S A_x0 c_x0 3 Tapi_Span.cells x0) (ho : Ow κ w (S)) :
  Calls Try.prog 139 #[.slice A_x0 x0.length c_x0] w (slices_Clone_api_Span_api_Span.R κ S x0 A_x0 c_x0 r) := by
 unfold slices_Clone_api_Span_api_Span.m at hm
 rcases A_x0 with _ | p_x0
 ·obtain rfl : c_x0 = 0 := hx_x0.none rfl
  obtain rfl : x0 = [] := List.length_eq_zero_iff.1 (Nat.le_zero.1 hx_x0.le)
  replace hm : some ([] : List Tapi_Span) = some r := by simpa using hm
  refine Vk.enter [(0, .slice none 0 0)] Try.func139 rfl Try.ntmps139 (by kernel_rfl) (Nat.le_of_ble_eq_true (by kernel_rfl)) ho fun a hs => ?_
  refine Vk.seq fun K1 hK1 => ?_
  refine Vk.region ?_
  refine Vk.pures 1 [(2, .slice none 0 0)] hs (by kernel_rfl) fun a hs => ?_
  replace hs := hs.pick [0] (L' := [(0, .slice none 0 0)]) (by kernel_rfl)
  refine Vk.done (by kernel_rfl) ?_
  refine hK1 _ _ ?_
  clear hK1
  refine Vk.seq fun K2 hK2 => ?_
  refine Vk.seq fun K3 hK3 => ?_
  refine Vk.region ?_
  refine Vk.pures 2 [(4, .bool true), (3, .slice none 0 0)] hs (by kernel_rfl) fun a hs => ?_
  replace hs := hs.pick [0, 4] (L' := [(0, .slice none 0 0), (4, .bool true)]) (by kernel_rfl)
  refine Vk.done (by kernel_rfl) ?_
  refine hK3 _ _ ?_
  clear hK3
  refine Vk.condT hs (by kernel_rfl) (by kernel_rfl) ?_
  refine Vk.seq fun K4 hK4 => ?_
  refine Vk.region ?_
  refine Vk.pures 1 [(2, .slice none 0 0)] hs (by kernel_rfl) fun a hs => ?_
  replace hs := hs.pick [2] (L' := [(2, .slice none 0 0)]) (by kernel_rfl)
  refine Vk.done (by kernel_rfl) ?_
  refine hK4 _ _ ?_
  clear hK4
  refine wp_ret ?_
  replace hs := hs.addRow none 175 3 Tapi_Span.cells
  exact Vk.ret1 (P := Try.prog) (fn := Try.f139) (R := slices_Clone_api_Span_api_Span.R κ S [] none 0 r) (.slice none (([] : List Tapi_Span).length) 0) hs rfl (by kernel_rfl) (by obtain rfl := Option.some.inj hm; exact ⟨none, 0, rfl, hs.own⟩)
 ·skip
  refine Vk.enter [(0, .slice (some p_x0) x0.length c_x0)] Try.func139 rfl Try.ntmps139 (by kernel_rfl) (Nat.le_of_ble_eq_true (by kernel_rfl)) ho fun a hs => ?_
  refine Vk.seq fun K1 hK1 => ?_
  refine Vk.region ?_
  refine Vk.pures 1 [(2, .slice none 0 0)] hs (by kernel_rfl) fun a hs => ?_
  replace hs := hs.pick [0] (L' := [(0, .slice (some p_x0) x0.length c_x0)]) (by kernel_rfl)
  refine Vk.done (by kernel_rfl) ?_
  refine hK1 _ _ ?_
  clear hK1
  refine Vk.seq fun K2 hK2 => ?_
  refine Vk.seq fun K3 hK3 => ?_
  refine Vk.region ?_
  refine Vk.pures 2 [(4, .bool false), (3, .slice (some p_x0) x0.length c_x0)] hs (by kernel_rfl) fun a hs => ?_
  replace hs := hs.pick [0, 4] (L' := [(0, .slice (some p_x0) x0.length c_x0), (4, .bool false)]) (by kernel_rfl)
  refine Vk.done (by kernel_rfl) ?_
  refine hK3 _ _ ?_
  clear hK3
  refine Vk.condF hs (by kernel_rfl) (by kernel_rfl) ?_
  refine wp_skip ?_
  refine hK2 _ _ ?_
  clear hK2
  refine Vk.seq fun K4 hK4 => ?_
  refine Vk.region ?_
  refine Vk.step (Vk.buildOp (sz := 3) (by_ := 24) (t := 60) (e := 175) (parts := #[]) (zs := vals [C.int .i64 0, C.int .i64 0, C.int .i64 0]) ([] : List Tapi_Span) Tapi_Span.cells (some 5) hs (by kernel_rfl) (by kernel_rfl) (by kernel_rfl) (by kernel_rfl) (by decide) rfl (fun x _ => rfl) (Nat.le_of_ble_eq_true (by kernel_rfl)) (by kernel_rfl) fun A_5 w a hs => ?_)
  refine Vk.pures 1 [(6, .slice (some p_x0) x0.length c_x0)] hs (by kernel_rfl) fun a hs => ?_
  obtain ⟨h_7, hm⟩ := ite_t hm
  refine Vk.step (Vk.appendOp (x := (.tmp 5)) (y := (.tmp 6)) (e := 175) (t := 60) (by_ := 24) (sz := 3) (enc := Tapi_Span.cells) (A := A_5) (cap := 0) (xs := ([] : List Tapi_Span)) (ys := x0) (B := (some p_x0)) (c2 := c_x0) 0 (some 7) hs (by kernel_rfl) (by kernel_rfl) (by kernel_rfl) (by kernel_rfl) rfl hx_x0.less (by kernel_rfl) (by kernel_rfl) (by decide) (by decide) h_7 fun A_8 c_9 w a hs => ?_)
  refine Vk.pures 1 [(2, .slice A_8 ((([] : List Tapi_Span) ++ x0).length) c_9)] hs (by kernel_rfl) fun a hs => ?_
  replace hs := hs.pick [2] (L' := [(2, .slice A_8 ((([] : List Tapi_Span) ++ x0).length) c_9)]) (by kernel_rfl)
  refine Vk.done (by kernel_rfl) ?_
  refine hK4 _ _ ?_
  clear hK4
  refine wp_ret ?_
  exact Vk.ret1 (P := Try.prog) (fn := Try.f139) (R := slices_Clone_api_Span_api_Span.R κ S x0 (some p_x0) c_x0 r) (.slice A_8 ((([] : List Tapi_Span) ++ x0).length) c_9) hs rfl (by kernel_rfl) (by obtain rfl := Option.some.inj hm; exact ⟨A_8, c_9, rfl, hs.own⟩)

structure Tapi_Trace where
 n : Int
 ops : List Tapi_Op
 blocks : List Tapi_Span
 deriving Inhabited
def Tapi_Trace.obj (x : Tapi_Trace) (Aops : Option Addr) (cops : Nat) (Ablocks : Option Addr) (cblocks : Nat) : Cells := [C.int .i64 x.n, C.slc Aops x.ops.length cops, C.slc Ablocks x.blocks.length cblocks]

abbrev wire_Machine_Trace.R (κ : Ctx) (S : List HP) (x0 : Twire_Machine) (b_x0 : Nat) (g_x0 : Nat × Option Addr × Nat × Option Addr × Nat × Option Addr × Nat) (r : Tapi_Trace) : Ending → World → Prop := fun e w' => ∃ (A_r0ops : Option Addr), ∃ (c_r0ops : Nat), ∃ (A_r0blocks : Option Addr), ∃ (c_r0blocks : Nat), e = .returned (.agg (vals [ci r.n, C.slc A_r0ops r.ops.length c_r0ops, C.slc A_r0blocks r.blocks.length c_r0blocks])) ∧ Ow κ w' (rowp A_r0ops c_r0ops 93 6 Tapi_Op.cells r.ops :: rowp A_r0blocks c_r0blocks 175 3 Tapi_Span.cells r.blocks :: bagL (Twire_Machine.parts b_x0 x0 g_x0) :: S)
def wire_Machine_Trace.m (k : Nat) (x0 : Twire_Machine) : Option Tapi_Trace := (slices_Clone_api_Op_api_Op.m k x0.ops).bind fun v_12 => (slices_Clone_api_Span_api_Span.m k x0.blocks).bind fun v_17 => some (⟨x0.n, v_12, v_17⟩ : Tapi_Trace)

set_option maxRecDepth 100000 in
set_option maxHeartbeats 4000000 in
theorem wire_Machine_Trace.ok (k : Nat) (x0 : Twire_Machine) (r : Tapi_Trace) (hm : wire_Machine_Trace.m k x0 = some r) (κ : Ctx) (w : World) (S : List HP) (b_x0 : Nat) (g_x0 : Nat × Option Addr × Nat × Option Addr × Nat × Option Addr × Nat) (ho : Ow κ w (bagL (Twire_Machine.parts b_x0 x0 g_x0) :: S)) :
  Calls Try.prog 62 #[pp b_x0] w (wire_Machine_Trace.R κ S x0 b_x0 g_x0 r) := by
 unfold wire_Machine_Trace.m at hm
 generalize hRR : wire_Machine_Trace.R κ S x0 b_x0 g_x0 r = RR
 refine qen [(0, pp b_x0)] Try.func62 Try.ntmps62 ho fun a hs => ?_
 refine qsr fun K1 hK1 => ?_
 refine qal 102 [ci 0, C.slc none 0 0, C.slc none 0 0] 2 hs fun b_2 w a hs => ?_
 refine qpe 0 [(0, pp b_x0), (2, pp b_2)] hs fun a hs => hK1 _ _ ?_
 clear hK1
 refine Vk.seq fun K3 hK3 => ?_
 refine qsk 2 [0, 2, 4] hs fun a hs => ?_
 refine qcf hs ?_
 refine wp_skip ?_
 refine hK3 _ _ ?_
 clear hK3
 refine Vk.seq fun K5 hK5 => ?_
 replace hs := hs.unbagAt 1 rfl
 obtain ⟨C_9, hC_9⟩ := qC hs.own
 refine qdr 15 κ C_9 hs fun w hs hqC_9 => ?_
 have hcl := qO hC_9 hs.own
 refine qdp (fuel := 7) [0, 1, 2, 4, 5, 6, 9, 10, 11] hs hcl hqC_9 fun a hs => ?_
 refine qdl 3 0 (ci x0.n) hs hcl hqC_9 hC_9 rfl fun a hs => ?_
 refine qdl 7 0 (C.slc g_x0.2.1 x0.ops.length g_x0.2.2.1) hs hcl hqC_9 hC_9 rfl fun a hs => ?_
 refine qdl 12 0 (C.slc g_x0.2.2.2.2.2.1 x0.blocks.length g_x0.2.2.2.2.2.2) hs hcl hqC_9 hC_9 rfl fun a hs => ?_
 obtain ⟨v_12, h_11, hm⟩ := bind_t hm
 refine Vk.dOnly (i := 8) (by kernel_rfl) (Vk.call (some 14) 138 #[.slice g_x0.2.1 x0.ops.length g_x0.2.2.1] hs (by kernel_rfl) (by kernel_rfl) (by kernel_rfl) ?_)
 refine (slices_Clone_api_Op_api_Op.ok k x0.ops v_12 h_11 κ w (pt b_x0 (blk (Twire_Machine.obj x0 g_x0.1 g_x0.2.1 g_x0.2.2.1 g_x0.2.2.2.1 g_x0.2.2.2.2.1 g_x0.2.2.2.2.2.1 g_x0.2.2.2.2.2.2) 139) :: opto x0.dry (Ttape_Tape.own g_x0.1 x0.tape) :: rowp g_x0.2.1 g_x0.2.2.1 93 6 Tapi_Op.cells x0.ops :: rowp g_x0.2.2.2.1 g_x0.2.2.2.2.1 32 1 (eI .u64) x0.values :: rowp g_x0.2.2.2.2.2.1 g_x0.2.2.2.2.2.2 175 3 Tapi_Span.cells x0.blocks :: pt b_2 (blk [ci 0, C.slc none 0 0, C.slc none 0 0] 102) :: S) g_x0.2.1 g_x0.2.2.1 (Sl.lift (fun w ho => (Ow.to (S' := rowp g_x0.2.1 g_x0.2.2.1 93 6 Tapi_Op.cells x0.ops :: S) ho [2] 6 (by kernel_rfl) (by kernel_rfl))) (Ow.rowSl 0 (Ow.to (S' := rowp g_x0.2.1 g_x0.2.2.1 93 6 Tapi_Op.cells x0.ops :: S) hs.own [2] 6 (by kernel_rfl) (by kernel_rfl)) rfl)) hs.own).mono ?_
 rintro _ w ⟨Ar10x0_13, cr10x0_14, rfl, how⟩
 refine ⟨_, _, _, rfl, how, fun a hs => ?_⟩
 replace hcl := qO hC_9 hs.own.drop
 refine ⟨fun _ => hcl, ?_⟩
 obtain ⟨v_17, h_16, hm⟩ := bind_t hm
 refine Vk.dOnly (i := 13) (by kernel_rfl) (Vk.call (some 19) 139 #[.slice g_x0.2.2.2.2.2.1 x0.blocks.length g_x0.2.2.2.2.2.2] hs (by kernel_rfl) (by kernel_rfl) (by kernel_rfl) ?_)
 refine (slices_Clone_api_Span_api_Span.ok k x0.blocks v_17 h_16 κ w (rowp Ar10x0_13 cr10x0_14 93 6 Tapi_Op.cells v_12 :: pt b_x0 (blk (Twire_Machine.obj x0 g_x0.1 g_x0.2.1 g_x0.2.2.1 g_x0.2.2.2.1 g_x0.2.2.2.2.1 g_x0.2.2.2.2.2.1 g_x0.2.2.2.2.2.2) 139) :: opto x0.dry (Ttape_Tape.own g_x0.1 x0.tape) :: rowp g_x0.2.1 g_x0.2.2.1 93 6 Tapi_Op.cells x0.ops :: rowp g_x0.2.2.2.1 g_x0.2.2.2.2.1 32 1 (eI .u64) x0.values :: rowp g_x0.2.2.2.2.2.1 g_x0.2.2.2.2.2.2 175 3 Tapi_Span.cells x0.blocks :: pt b_2 (blk [ci 0, C.slc none 0 0, C.slc none 0 0] 102) :: S) g_x0.2.2.2.2.2.1 g_x0.2.2.2.2.2.2 (Sl.lift (fun w ho => (Ow.to (S' := rowp g_x0.2.2.2.2.2.1 g_x0.2.2.2.2.2.2 175 3 Tapi_Span.cells x0.blocks :: S) ho [5] 7 (by kernel_rfl) (by kernel_rfl))) (Ow.rowSl 0 (Ow.to (S' := rowp g_x0.2.2.2.2.2.1 g_x0.2.2.2.2.2.2 175 3 Tapi_Span.cells x0.blocks :: S) hs.own [5] 7 (by kernel_rfl) (by kernel_rfl)) rfl)) hs.own).mono ?_
 rintro _ w ⟨Ar15x0_18, cr15x0_19, rfl, how⟩
 refine ⟨_, _, _, rfl, how, fun a hs => ?_⟩
 replace hcl := qO hC_9 hs.own.f1.drop.drop
 refine ⟨fun _ => hcl, ?_⟩
 refine qdp (fuel := 1) [14] hs hcl hqC_9 fun a hs => ?_
 refine qsA 15 7 [ci x0.n, C.slc Ar10x0_13 v_12.length cr10x0_14, C.slc Ar15x0_18 v_17.length cr15x0_19] hs rfl rfl rfl fun a w hs => ?_
 refine ⟨fun h => absurd h (by decide), ?_⟩
 replace hs := hs.pick [2] (L' := [(2, pp b_2)]) (by kernel_rfl)
 refine Vk.dDone (by kernel_rfl) ?_
 refine hK5 _ _ ?_
 clear hK5
 refine wp_ret ?_
 replace hs := hs.bagG (l := Twire_Machine.parts b_x0 x0 g_x0) (S' := rowp Ar15x0_18 cr15x0_19 175 3 Tapi_Span.cells v_17 :: rowp Ar10x0_13 cr10x0_14 93 6 Tapi_Op.cells v_12 :: pt b_2 (blk [ci x0.n, C.slc Ar10x0_13 v_12.length cr10x0_14, C.slc Ar15x0_18 v_17.length cr15x0_19] 102) :: S) hs.own.f6.f6.f6.f6.f6
 exact Vk.retC [ci x0.n, C.slc Ar10x0_13 v_12.length cr10x0_14, C.slc Ar15x0_18 v_17.length cr15x0_19] hs rfl (by kernel_rfl) (sz := 3) (by kernel_rfl) rfl (CellsAt.all 3 rfl) (hRR ▸ by cases hm; exact ⟨Ar10x0_13, cr10x0_14, Ar15x0_18, cr15x0_19, rfl, hs.own.f3.drop.f1.f2⟩)


def visorref18_Same.j2 (k : Nat) (rec36 : Int → Option (Sum (Bool) (Unit))) (q_37 : Int) (p_62 : Tapi_Op) (p_66 : Tapi_Op) : Option (Sum (Bool) (Unit)) := (bif !(((p_66.kind == p_62.kind) && ((p_66.dom == p_62.dom) && ((p_66.a == p_62.a) && ((p_66.b == p_62.b) && ((p_66.d == p_62.d) && ((p_66.c == p_62.c) && true))))))) then some (.inl false) else rec36 (IntKind.i64.wrap (q_37 + 1)))
def visorref18_Same.j1 (k : Nat) (rec36 : Int → Option (Sum (Bool) (Unit))) (q_37 : Int) (p_60 : Tapi_Op) (p_62 : Tapi_Op) : Option (Sum (Bool) (Unit)) := (bif (p_60.kind == 4) && (p_62.kind == 4) then visorref18_Same.j2 k (rec36) q_37 p_62 (⟨p_60.kind, p_60.dom, p_60.a, p_60.b, p_60.d, p_62.c⟩ : Tapi_Op) else visorref18_Same.j2 k (rec36) q_37 p_62 p_60)
def visorref18_Same.l2 (x0 : Tapi_Trace) (x1 : Tapi_Trace) : Nat → Int → Option (Sum (Bool) (Unit))
 | 0, _ => none
 | k + 1, q_37 => (bif decide (q_37 < ((x0.ops.length : Nat) : Int)) then (if 0 ≤ q_37 then (x0.ops[q_37.toNat]?).bind fun e_46 => (if 0 ≤ q_37 then (x1.ops[q_37.toNat]?).bind fun e_53 => visorref18_Same.j1 k (visorref18_Same.l2 x0 x1 k) q_37 e_46 e_53 else none) else none) else some (.inr ()))
def visorref18_Same.l1 (x0 : Tapi_Trace) (x1 : Tapi_Trace) : Nat → Int → Option (Sum (Bool) (Unit))
 | 0, _ => none
 | k + 1, q_12 => (bif decide (q_12 < ((x0.blocks.length : Nat) : Int)) then (if 0 ≤ q_12 then (x0.blocks[q_12.toNat]?).bind fun e_21 => (if 0 ≤ q_12 then (x1.blocks[q_12.toNat]?).bind fun e_28 => (bif !(((e_21.kind == e_28.kind) && ((e_21.fromF == e_28.fromF) && ((e_21.to == e_28.to) && true)))) then some (.inl false) else visorref18_Same.l1 x0 x1 k (IntKind.i64.wrap (q_12 + 1))) else none) else none) else some (.inr ()))
abbrev visorref18_Same.R (κ : Ctx) (S : List HP) (x0 : Tapi_Trace) (x1 : Tapi_Trace) (A_x0ops : Option Addr) (c_x0ops : Nat) (A_x0blocks : Option Addr) (c_x0blocks : Nat) (A_x1ops : Option Addr) (c_x1ops : Nat) (A_x1blocks : Option Addr) (c_x1blocks : Nat) (r : Bool) : Ending → World → Prop := fun e w' => e = .returned (.bool r) ∧ Ow κ w' (S)
def visorref18_Same.m (k : Nat) (x0 : Tapi_Trace) (x1 : Tapi_Trace) : Option Bool := (bif ((x0.n != x1.n) || (((x0.ops.length : Nat) : Int) != ((x1.ops.length : Nat) : Int))) || (((x0.blocks.length : Nat) : Int) != ((x1.blocks.length : Nat) : Int)) then some false else (visorref18_Same.l1 x0 x1 k 0).bind fun x => match x with | .inl v => some v | .inr () => (visorref18_Same.l2 x0 x1 k 0).bind fun x => match x with | .inl v => some v | .inr () => some true)

set_option maxRecDepth 100000 in
set_option maxHeartbeats 4000000 in
theorem visorref18_Same.ok (k : Nat) (x0 : Tapi_Trace) (x1 : Tapi_Trace) (r : Bool) (hm : visorref18_Same.m k x0 x1 = some r) (κ : Ctx) (w : World) (S : List HP) (A_x0ops : Option Addr) (c_x0ops : Nat) (hx_x0ops : Sl κ S A_x0ops c_x0ops 6 Tapi_Op.cells x0.ops) (A_x0blocks : Option Addr) (c_x0blocks : Nat) (hx_x0blocks : Sl κ S A_x0blocks c_x0blocks 3 Tapi_Span.cells x0.blocks) (A_x1ops : Option Addr) (c_x1ops : Nat) (hx_x1ops : Sl κ S A_x1ops c_x1ops 6 Tapi_Op.cells x1.ops) (A_x1blocks : Option Addr) (c_x1blocks : Nat) (hx_x1blocks : Sl κ S A_x1blocks c_x1blocks 3 Tapi_Span.cells x1.blocks) (ho : Ow κ w (S)) :
  Calls Try.prog 109 #[.agg (vals [ci x0.n, C.slc A_x0ops x0.ops.length c_x0ops, C.slc A_x0blocks x0.blocks.length c_x0blocks]), .agg (vals [ci x1.n, C.slc A_x1ops x1.ops.length c_x1ops, C.slc A_x1blocks x1.blocks.length c_x1blocks])] w (visorref18_Same.R κ S x0 x1 A_x0ops c_x0ops A_x0blocks c_x0blocks A_x1ops c_x1ops A_x1blocks c_x1blocks r) := by
 unfold visorref18_Same.m at hm
 generalize hRR : visorref18_Same.R κ S x0 x1 A_x0ops c_x0ops A_x0blocks c_x0blocks A_x1ops c_x1ops A_x1blocks c_x1blocks r = RR
 refine qen [(0, .agg (vals [ci x0.n, C.slc A_x0ops x0.ops.length c_x0ops, C.slc A_x0blocks x0.blocks.length c_x0blocks])), (1, .agg (vals [ci x1.n, C.slc A_x1ops x1.ops.length c_x1ops, C.slc A_x1blocks x1.blocks.length c_x1blocks]))] Try.func109 Try.ntmps109 ho fun a hs => ?_
 refine qsr fun K1 hK1 => ?_
 refine qbx 0 102 [ci x0.n, C.slc A_x0ops x0.ops.length c_x0ops, C.slc A_x0blocks x0.blocks.length c_x0blocks] 2 hs fun b_2 w a hs => ?_
 refine qbx 1 102 [ci x1.n, C.slc A_x1ops x1.ops.length c_x1ops, C.slc A_x1blocks x1.blocks.length c_x1blocks] 3 hs fun b_3 w a hs => ?_
 refine qpe 1 [(2, pp b_2), (3, pp b_3)] hs fun a hs => hK1 _ _ ?_
 clear hK1
 refine Vk.seq fun K4 hK4 => ?_
 refine qsr fun K5 hK5 => ?_
 refine qpu 1 hs fun a hs => ?_
 refine qld 1 (ci x0.n) hs rfl fun a hs => ?_
 refine qpu 1 hs fun a hs => ?_
 refine qld 0 (ci x1.n) hs rfl fun a hs => ?_
 refine qpu 2 hs fun a hs => ?_
 suffices hj_6 : ∀ a, St 81 a w κ [(2, pp b_2), (3, pp b_3), (9, pp b_2), (10, vi x0.n), (11, pp b_3), (12, vi x1.n), (13, .bool (x0.n != x1.n)), (14, .bool (x0.n != x1.n)), (22, .bool ((x0.n != x1.n) || (((x0.ops.length : Nat) : Int) != ((x1.ops.length : Nat) : Int))))] (pt b_3 (blk (Tapi_Trace.obj x1 A_x1ops c_x1ops A_x1blocks c_x1blocks) 102) :: pt b_2 (blk (Tapi_Trace.obj x0 A_x0ops c_x0ops A_x0blocks c_x0blocks) 102) :: S) → wpFrom Try.prog _ _ 14 a w by
  rcases Bool.eq_false_or_eq_true (x0.n != x1.n) with hb | hb
  ·replace hs := hs.known (t := 14) hb (by kernel_rfl)
   refine qpu 8 hs fun a hs => ?_
   have hq := hs.pick [2, 3, 9, 10, 11, 12, 13, 14, 22] (L' := [(2, pp b_2), (3, pp b_3), (9, pp b_2), (10, vi x0.n), (11, pp b_3), (12, vi x1.n), (13, .bool (x0.n != x1.n)), (14, .bool true), (22, .bool true)]) (by kernel_rfl)
   exact hj_6 _ (hq.conv (by first | (rw [hb] <;> rfl) | rfl))
  ·replace hs := hs.known (t := 14) hb (by kernel_rfl)
   refine qpu 1 hs fun a hs => ?_
   refine qld 1 (C.slc A_x0ops x0.ops.length c_x0ops) hs rfl fun a hs => ?_
   refine qpu 2 hs fun a hs => ?_
   refine qld 0 (C.slc A_x1ops x1.ops.length c_x1ops) hs rfl fun a hs => ?_
   refine qpu 3 hs fun a hs => ?_
   have hq := hs.pick [2, 3, 9, 10, 11, 12, 13, 14, 22] (L' := [(2, pp b_2), (3, pp b_3), (9, pp b_2), (10, vi x0.n), (11, pp b_3), (12, vi x1.n), (13, .bool (x0.n != x1.n)), (14, .bool false), (22, .bool (((x0.ops.length : Nat) : Int) != ((x1.ops.length : Nat) : Int)))]) (by kernel_rfl)
   exact hj_6 _ (hq.conv (by first | (rw [hb] <;> rfl) | rfl))
 intro a hs
 refine qpu 1 hs fun a hs => ?_
 suffices hj_7 : ∀ a, St 81 a w κ [(2, pp b_2), (3, pp b_3), (9, pp b_2), (10, vi x0.n), (11, pp b_3), (12, vi x1.n), (13, .bool (x0.n != x1.n)), (14, .bool (x0.n != x1.n)), (22, .bool ((x0.n != x1.n) || (((x0.ops.length : Nat) : Int) != ((x1.ops.length : Nat) : Int)))), (23, .bool ((x0.n != x1.n) || (((x0.ops.length : Nat) : Int) != ((x1.ops.length : Nat) : Int)))), (31, .bool (((x0.n != x1.n) || (((x0.ops.length : Nat) : Int) != ((x1.ops.length : Nat) : Int))) || (((x0.blocks.length : Nat) : Int) != ((x1.blocks.length : Nat) : Int))))] (pt b_3 (blk (Tapi_Trace.obj x1 A_x1ops c_x1ops A_x1blocks c_x1blocks) 102) :: pt b_2 (blk (Tapi_Trace.obj x0 A_x0ops c_x0ops A_x0blocks c_x0blocks) 102) :: S) → wpFrom Try.prog _ _ 23 a w by
  rcases Bool.eq_false_or_eq_true ((x0.n != x1.n) || (((x0.ops.length : Nat) : Int) != ((x1.ops.length : Nat) : Int))) with hb | hb
  ·replace hs := hs.known (t := 23) hb (by kernel_rfl)
   refine qpu 8 hs fun a hs => ?_
   have hq := hs.pick [2, 3, 9, 10, 11, 12, 13, 14, 22, 23, 31] (L' := [(2, pp b_2), (3, pp b_3), (9, pp b_2), (10, vi x0.n), (11, pp b_3), (12, vi x1.n), (13, .bool (x0.n != x1.n)), (14, .bool (x0.n != x1.n)), (22, .bool ((x0.n != x1.n) || (((x0.ops.length : Nat) : Int) != ((x1.ops.length : Nat) : Int)))), (23, .bool true), (31, .bool true)]) (by kernel_rfl)
   exact hj_7 _ (hq.conv (by first | (rw [hb] <;> rfl) | rfl))
  ·replace hs := hs.known (t := 23) hb (by kernel_rfl)
   refine qpu 1 hs fun a hs => ?_
   refine qld 1 (C.slc A_x0blocks x0.blocks.length c_x0blocks) hs rfl fun a hs => ?_
   refine qpu 2 hs fun a hs => ?_
   refine qld 0 (C.slc A_x1blocks x1.blocks.length c_x1blocks) hs rfl fun a hs => ?_
   refine qpu 3 hs fun a hs => ?_
   have hq := hs.pick [2, 3, 9, 10, 11, 12, 13, 14, 22, 23, 31] (L' := [(2, pp b_2), (3, pp b_3), (9, pp b_2), (10, vi x0.n), (11, pp b_3), (12, vi x1.n), (13, .bool (x0.n != x1.n)), (14, .bool (x0.n != x1.n)), (22, .bool ((x0.n != x1.n) || (((x0.ops.length : Nat) : Int) != ((x1.ops.length : Nat) : Int)))), (23, .bool false), (31, .bool (((x0.blocks.length : Nat) : Int) != ((x1.blocks.length : Nat) : Int)))]) (by kernel_rfl)
   exact hj_7 _ (hq.conv (by first | (rw [hb] <;> rfl) | rfl))
 intro a hs
 refine qpk 0 [2, 3, 31] hs fun a hs => hK5 _ _ ?_
 clear hK5
 refine qcs (((x0.n != x1.n) || (((x0.ops.length : Nat) : Int) != ((x1.ops.length : Nat) : Int))) || (((x0.blocks.length : Nat) : Int) != ((x1.blocks.length : Nat) : Int))) hs (fun hb => ?_) fun hb => ?_
 ·replace hm := bif_t hm hb
  refine qse 1 [(4, .bool false)] hs fun a hs => ?_
  refine wp_ret ?_
  exact qr1 (.bool false) hs rfl hRR (by cases hm; exact ⟨rfl, hs.own.f1.drop.drop⟩)
 ·replace hm := bif_f hm hb
  refine wp_skip ?_
  refine hK4 _ _ ?_
  clear hK4
  refine Vk.seq fun K9 hK9 => ?_
  refine qsk 1 [2, 3, 5] hs fun a hs => ?_
  refine wp_block ?_
  obtain ⟨r11, hl11, hm⟩ := bind_t hm
  have hx11 : r11 = Sum.inr () → ∀ (a : Act) (w : World), St 81 a w κ [(2, pp b_2), (3, pp b_3)] (pt b_2 (blk (Tapi_Trace.obj x0 A_x0ops c_x0ops A_x0blocks c_x0blocks) 102) :: pt b_3 (blk (Tapi_Trace.obj x1 A_x1ops c_x1ops A_x1blocks c_x1blocks) 102) :: S) → K9 a w := by
   intro he a w hs
   subst r11
   refine hK9 _ _ ?_
   clear hK9
   refine Vk.seq fun K34 hK34 => ?_
   refine qsk 1 [2, 3, 6] hs fun a hs => ?_
   refine wp_block ?_
   obtain ⟨r36, hl36, hm⟩ := bind_t hm
   have hx36 : r36 = Sum.inr () → ∀ (a : Act) (w : World), St 81 a w κ [] (S) → K34 a w := by
    intro he a w hs
    subst r36
    refine hK34 _ _ ?_
    clear hK34
    refine qse 1 [(4, .bool true)] hs fun a hs => ?_
    refine wp_ret ?_
    exact qr1 (.bool true) hs rfl hRR (by cases hm; exact ⟨rfl, hs.own⟩)
   have hret36 : ∀ v, r36 = Sum.inl v → v = r := by intro v he; subst r36; exact Option.some.inj hm
   refine Vk.loopBy (fun k (s : Int) a w => visorref18_Same.l2 x0 x1 k s = some r36 ∧ St 81 a w κ [(2, pp b_2), (3, pp b_3), (6, vi s)] (pt b_2 (blk (Tapi_Trace.obj x0 A_x0ops c_x0ops A_x0blocks c_x0blocks) 102) :: pt b_3 (blk (Tapi_Trace.obj x1 A_x1ops c_x1ops A_x1blocks c_x1blocks) 102) :: S)) k 0 ⟨hl36, hs.go [2, 3, 6] [0, 1] 2 (by kernel_rfl) (by kernel_rfl) (by kernel_rfl)⟩ (fun s a w h => by obtain ⟨h1, _⟩ := h; simp [visorref18_Same.l2] at h1) (fun k KL36 ih q_37 a w h => ?_)
   obtain ⟨hm, hs⟩ := h
   try dsimp only at hm hs
   rw [visorref18_Same.l2] at hm
   refine Vk.seq fun K38 hK38 => ?_
   refine qsr fun K39 hK39 => ?_
   refine qpu 2 hs fun a hs => ?_
   refine qld 0 (C.slc A_x0ops x0.ops.length c_x0ops) hs rfl fun a hs => ?_
   refine qpk 2 [2, 3, 6, 54] hs fun a hs => hK39 _ _ ?_
   clear hK39
   refine qcs (decide (q_37 < ((x0.ops.length : Nat) : Int))) hs (fun hb => ?_) fun hb => ?_
   ·replace hm := bif_t hm hb
    refine wp_skip ?_
    refine hK38 _ _ ?_
    clear hK38
    refine Vk.seq fun K40 hK40 => ?_
    refine wp_block ?_
    refine Vk.seq fun K41 hK41 => ?_
    have hj41 : ∀ (p_60 : Tapi_Op) (p_62 : Tapi_Op), visorref18_Same.j1 k (visorref18_Same.l2 x0 x1 k) q_37 p_60 p_62 = some r36 → ∀ (b_59 : Nat) (b_61 : Nat) (a : Act) (w : World), St 81 a w κ [(2, pp b_2), (3, pp b_3), (6, vi q_37), (7, pp b_59), (8, pp b_61)] (pt b_2 (blk (Tapi_Trace.obj x0 A_x0ops c_x0ops A_x0blocks c_x0blocks) 102) :: pt b_3 (blk (Tapi_Trace.obj x1 A_x1ops c_x1ops A_x1blocks c_x1blocks) 102) :: pt b_59 (blk (Tapi_Op.cells p_60) 93) :: pt b_61 (blk (Tapi_Op.cells p_62) 93) :: S) → K41 a w := by
     intro p_60 p_62 hm b_59 b_61 a w hs
     unfold visorref18_Same.j1 at hm
     refine hK41 _ _ ?_
     refine Vk.seq fun K63 hK63 => ?_
     have hj63 : ∀ (p_66 : Tapi_Op), visorref18_Same.j2 k (visorref18_Same.l2 x0 x1 k) q_37 p_62 p_66 = some r36 → ∀ (a : Act) (w : World), St 81 a w κ [(2, pp b_2), (3, pp b_3), (6, vi q_37), (7, pp b_59), (8, pp b_61)] (pt b_2 (blk (Tapi_Trace.obj x0 A_x0ops c_x0ops A_x0blocks c_x0blocks) 102) :: pt b_3 (blk (Tapi_Trace.obj x1 A_x1ops c_x1ops A_x1blocks c_x1blocks) 102) :: pt b_59 (blk (Tapi_Op.cells p_66) 93) :: pt b_61 (blk (Tapi_Op.cells p_62) 93) :: S) → K63 a w := by
      intro p_66 hm a w hs
      unfold visorref18_Same.j2 at hm
      refine hK63 _ _ ?_
      refine qsr fun K67 hK67 => ?_
      refine qln 2 ([ci p_66.kind, ci p_66.dom, ci p_66.a, ci p_66.b, ci p_66.d, cw p_66.c]) hs rfl fun a hs => ?_
      refine qln 3 ([ci p_62.kind, ci p_62.dom, ci p_62.a, ci p_62.b, ci p_62.d, cw p_62.c]) hs rfl fun a hs => ?_
      refine qva (.bool (!(((p_66.kind == p_62.kind) && ((p_66.dom == p_62.dom) && ((p_66.a == p_62.a) && ((p_66.b == p_62.b) && ((p_66.d == p_62.d) && ((p_66.c == p_62.c) && true))))))))) (op := (.binOp .neq 93 (.tmp 78) (.tmp 79) 93)) hs (fun o ho => run_neqV (ks := ([LK.int .i64] ++ [LK.int .i64] ++ [LK.int .i64] ++ [LK.int .i64] ++ [LK.int .i64] ++ [LK.int .u64])) (cs := [ci p_66.kind, ci p_66.dom, ci p_66.a, ci p_66.b, ci p_66.d, cw p_66.c]) (us := [ci p_62.kind, ci p_62.dom, ci p_62.a, ci p_62.b, ci p_62.d, cw p_62.c]) ho (by kernel_rfl) (by kernel_rfl) (by kernel_rfl) rfl rfl _) fun a hs => ?_
      refine qpk 0 [2, 3, 6, 80] hs fun a hs => hK67 _ _ ?_
      clear hK67
      refine qcs (!(((p_66.kind == p_62.kind) && ((p_66.dom == p_62.dom) && ((p_66.a == p_62.a) && ((p_66.b == p_62.b) && ((p_66.d == p_62.d) && ((p_66.c == p_62.c) && true)))))))) hs (fun hb => ?_) fun hb => ?_
      ·replace hm := bif_t hm hb
       refine qse 1 [(4, .bool false)] hs fun a hs => ?_
       refine wp_ret ?_
       exact Vk.ret1 (P := Try.prog) (fn := Try.f109) (R := RR) (.bool false) hs rfl (by kernel_rfl) (by obtain rfl := hret36 _ ((Option.some.inj hm).symm); subst hRR; exact ⟨rfl, (hs.own.too [] 4)⟩)
      ·replace hm := bif_f hm hb
       refine wp_skip ?_
       refine hK40 _ _ ?_
       clear hK40
       refine Vk.region ?_
       refine qpe 3 [(2, pp b_2), (3, pp b_3), (6, vi (IntKind.i64.wrap (q_37 + 1)))] hs fun a hs => ?_
       refine ih (IntKind.i64.wrap (q_37 + 1)) _ _ ⟨hm, hs.go [2, 3, 6] [0, 1] 4 (by kernel_rfl) (by kernel_rfl) (by kernel_rfl)⟩
     refine qsr fun K64 hK64 => ?_
     refine qpu 1 hs fun a hs => ?_
     refine qld 2 (ci p_60.kind) hs rfl fun a hs => ?_
     refine qpu 2 hs fun a hs => ?_
     suffices hj_65 : ∀ a, St 81 a w κ [(2, pp b_2), (3, pp b_3), (6, vi q_37), (7, pp b_59), (8, pp b_61), (67, pp b_59), (68, vi p_60.kind), (69, .bool (p_60.kind == 4)), (70, .bool (p_60.kind == 4)), (74, .bool ((p_60.kind == 4) && (p_62.kind == 4)))] (pt b_2 (blk (Tapi_Trace.obj x0 A_x0ops c_x0ops A_x0blocks c_x0blocks) 102) :: pt b_3 (blk (Tapi_Trace.obj x1 A_x1ops c_x1ops A_x1blocks c_x1blocks) 102) :: pt b_59 (blk (Tapi_Op.cells p_60) 93) :: pt b_61 (blk (Tapi_Op.cells p_62) 93) :: S) → wpFrom Try.prog _ _ 8 a w by
      rcases Bool.eq_false_or_eq_true (p_60.kind == 4) with hb | hb
      ·replace hs := hs.known (t := 70) hb (by kernel_rfl)
       refine qpu 1 hs fun a hs => ?_
       refine qld 3 (ci p_62.kind) hs rfl fun a hs => ?_
       refine qpu 2 hs fun a hs => ?_
       have hq := hs.pick [2, 3, 6, 7, 8, 67, 68, 69, 70, 74] (L' := [(2, pp b_2), (3, pp b_3), (6, vi q_37), (7, pp b_59), (8, pp b_61), (67, pp b_59), (68, vi p_60.kind), (69, .bool (p_60.kind == 4)), (70, .bool true), (74, .bool (p_62.kind == 4))]) (by kernel_rfl)
       exact hj_65 _ (hq.conv (by first | (rw [hb] <;> rfl) | rfl))
      ·replace hs := hs.known (t := 70) hb (by kernel_rfl)
       refine qpu 4 hs fun a hs => ?_
       have hq := hs.pick [2, 3, 6, 7, 8, 67, 68, 69, 70, 74] (L' := [(2, pp b_2), (3, pp b_3), (6, vi q_37), (7, pp b_59), (8, pp b_61), (67, pp b_59), (68, vi p_60.kind), (69, .bool (p_60.kind == 4)), (70, .bool false), (74, .bool false)]) (by kernel_rfl)
       exact hj_65 _ (hq.conv (by first | (rw [hb] <;> rfl) | rfl))
     intro a hs
     refine qpk 0 [2, 3, 6, 7, 8, 74] hs fun a hs => hK64 _ _ ?_
     clear hK64
     refine qcs ((p_60.kind == 4) && (p_62.kind == 4)) hs (fun hb => ?_) fun hb => ?_
     ·replace hm := bif_t hm hb
      refine Vk.region ?_
      refine qpu 1 hs fun a hs => ?_
      refine qld 3 (cw p_62.c) hs rfl fun a hs => ?_
      refine qpu 1 hs fun a hs => ?_
      refine qst 2 5 (cw p_62.c) hs rfl fun a w hs => ?_
      refine qpe 0 [(2, pp b_2), (3, pp b_3), (6, vi q_37), (7, pp b_59), (8, pp b_61)] hs fun a hs => ?_
      exact hj63 (⟨p_60.kind, p_60.dom, p_60.a, p_60.b, p_60.d, p_62.c⟩ : Tapi_Op) hm _ _ (hs.go [2, 3, 6, 7, 8] [0, 1, 2, 3] 4 (by kernel_rfl) (by kernel_rfl) (by kernel_rfl))
     ·replace hm := bif_f hm hb
      refine wp_skip ?_
      exact hj63 p_60 hm _ _ (hs.go [2, 3, 6, 7, 8] [0, 1, 2, 3] 4 (by kernel_rfl) (by kernel_rfl) (by kernel_rfl))
    obtain ⟨C_42, hC_42⟩ := qC hs.own
    refine qdr 13 κ C_42 hs fun w hs hqC_42 => ?_
    have hcl := qO hC_42 hs.own
    refine qdp (fuel := 10) [0, 2, 5, 7] hs hcl hqC_42 fun a hs => ?_
    refine qdl 1 0 (C.slc A_x0ops x0.ops.length c_x0ops) hs hcl hqC_42 hC_42 rfl fun a hs => ?_
    obtain ⟨h_43, hm⟩ := ite_t hm
    obtain ⟨e_46, h_44, hm⟩ := bind_t hm
    obtain ⟨b_47, o_48, hA_49, h_45⟩ := Sl.elem hx_x0ops h_44
    refine qdt 3 (.pointer (some ⟨b_47, o_48 + q_37.toNat * 6, none⟩)) (op := (.indexAddr 59 (.tmp 58) (.tmp 59))) hs hcl hqC_42 (fun w hw o ho => by rw [hC_42] at hw; exact run_idxSlc (k := .i64) ho (cap := c_x0ops) (len := x0.ops.length) ((congrArg (fun A => Value.slice A (x0.ops.length) (c_x0ops)) hA_49) ▸ (by kernel_rfl)) (by kernel_rfl) (by kernel_rfl) (idx_ok h_43 h_44) _) fun a hs => ?_
    refine qdt 4 (.agg (vals [ci e_46.kind, ci e_46.dom, ci e_46.a, ci e_46.b, ci e_46.d, cw e_46.c])) (op := (.load 93 (.tmp 60))) hs hcl hqC_42 (fun w hw o ho => by rw [hC_42] at hw; exact run_loadN (cs := [ci e_46.kind, ci e_46.dom, ci e_46.a, ci e_46.b, ci e_46.d, cw e_46.c]) ho (by kernel_rfl) (by kernel_rfl) rfl h_45 _ hw.drop.drop) fun a hs => ?_
    refine qdl 6 1 (C.slc A_x1ops x1.ops.length c_x1ops) hs hcl hqC_42 hC_42 rfl fun a hs => ?_
    obtain ⟨h_50, hm⟩ := ite_t hm
    obtain ⟨e_53, h_51, hm⟩ := bind_t hm
    obtain ⟨b_54, o_55, hA_56, h_52⟩ := Sl.elem hx_x1ops h_51
    refine qdt 8 (.pointer (some ⟨b_54, o_55 + q_37.toNat * 6, none⟩)) (op := (.indexAddr 59 (.tmp 63) (.tmp 64))) hs hcl hqC_42 (fun w hw o ho => by rw [hC_42] at hw; exact run_idxSlc (k := .i64) ho (cap := c_x1ops) (len := x1.ops.length) ((congrArg (fun A => Value.slice A (x1.ops.length) (c_x1ops)) hA_56) ▸ (by kernel_rfl)) (by kernel_rfl) (by kernel_rfl) (idx_ok h_50 h_51) _) fun a hs => ?_
    refine qdt 9 (.agg (vals [ci e_53.kind, ci e_53.dom, ci e_53.a, ci e_53.b, ci e_53.d, cw e_53.c])) (op := (.load 93 (.tmp 65))) hs hcl hqC_42 (fun w hw o ho => by rw [hC_42] at hw; exact run_loadN (cs := [ci e_53.kind, ci e_53.dom, ci e_53.a, ci e_53.b, ci e_53.d, cw e_53.c]) ho (by kernel_rfl) (by kernel_rfl) rfl h_52 _ hw.drop.drop) fun a hs => ?_
    refine Vk.dMany2 (i0 := 10) (i1 := 11) (by kernel_rfl) ?_ ?_
    ·refine Vk.alloc 7 93 [ci 0, ci 0, ci 0, ci 0, ci 0, cw 0] hs (by kernel_rfl) (by kernel_rfl) (by kernel_rfl) fun b_57 w a hs => ?_
     replace hcl := qO hC_42 hs.own.drop
     refine ⟨fun _ => hcl, ?_⟩
     refine Vk.dOnly (i := 11) (by kernel_rfl) (Vk.alloc 8 93 [ci 0, ci 0, ci 0, ci 0, ci 0, cw 0] hs (by kernel_rfl) (by kernel_rfl) (by kernel_rfl) fun b_58 w a hs => ?_)
     replace hcl := qO hC_42 hs.own.f1.drop.drop
     refine ⟨fun _ => hcl, ?_⟩
     refine qsA 12 1 [ci e_46.kind, ci e_46.dom, ci e_46.a, ci e_46.b, ci e_46.d, cw e_46.c] hs rfl rfl rfl fun a w hs => ?_
     replace hcl := qO hC_42 hs.own.f1.drop.drop
     refine ⟨fun _ => hcl, ?_⟩
     refine qsA 13 0 [ci e_53.kind, ci e_53.dom, ci e_53.a, ci e_53.b, ci e_53.d, cw e_53.c] hs rfl rfl rfl fun a w hs => ?_
     refine ⟨fun h => absurd h (by decide), ?_⟩
     replace hs := hs.pick [2, 3, 6, 7, 8] (L' := [(2, pp b_2), (3, pp b_3), (6, vi q_37), (7, pp b_57), (8, pp b_58)]) (by kernel_rfl)
     refine Vk.dDone (by kernel_rfl) ?_
     exact hj41 e_46 e_53 hm b_57 b_58 _ _ (hs.go [2, 3, 6, 7, 8] [2, 3, 1, 0] 4 (by kernel_rfl) (by kernel_rfl) (by kernel_rfl))
    ·refine Vk.alloc 8 93 [ci 0, ci 0, ci 0, ci 0, ci 0, cw 0] hs (by kernel_rfl) (by kernel_rfl) (by kernel_rfl) fun b_57 w a hs => ?_
     replace hcl := qO hC_42 hs.own.drop
     refine ⟨fun _ => hcl, ?_⟩
     refine Vk.dOnly (i := 10) (by kernel_rfl) (Vk.alloc 7 93 [ci 0, ci 0, ci 0, ci 0, ci 0, cw 0] hs (by kernel_rfl) (by kernel_rfl) (by kernel_rfl) fun b_58 w a hs => ?_)
     replace hcl := qO hC_42 hs.own.f1.drop.drop
     refine ⟨fun _ => hcl, ?_⟩
     refine qsA 12 0 [ci e_46.kind, ci e_46.dom, ci e_46.a, ci e_46.b, ci e_46.d, cw e_46.c] hs rfl rfl rfl fun a w hs => ?_
     replace hcl := qO hC_42 hs.own.f1.drop.drop
     refine ⟨fun _ => hcl, ?_⟩
     refine qsA 13 1 [ci e_53.kind, ci e_53.dom, ci e_53.a, ci e_53.b, ci e_53.d, cw e_53.c] hs rfl rfl rfl fun a w hs => ?_
     refine ⟨fun h => absurd h (by decide), ?_⟩
     replace hs := hs.pick [2, 3, 6, 7, 8] (L' := [(2, pp b_2), (3, pp b_3), (6, vi q_37), (7, pp b_58), (8, pp b_57)]) (by kernel_rfl)
     refine Vk.dDone (by kernel_rfl) ?_
     exact hj41 e_46 e_53 hm b_58 b_57 _ _ (hs.go [2, 3, 6, 7, 8] [2, 3, 0, 1] 4 (by kernel_rfl) (by kernel_rfl) (by kernel_rfl))
   ·replace hm := bif_f hm hb
    refine wp_exit ?_
    exact hx36 (Option.some.inj hm).symm _ _ (hs.go [] [] 2 (by kernel_rfl) (by kernel_rfl) (by kernel_rfl))
  have hret11 : ∀ v, r11 = Sum.inl v → v = r := by intro v he; subst r11; exact Option.some.inj hm
  refine Vk.loopBy (fun k (s : Int) a w => visorref18_Same.l1 x0 x1 k s = some r11 ∧ St 81 a w κ [(2, pp b_2), (3, pp b_3), (5, vi s)] (pt b_2 (blk (Tapi_Trace.obj x0 A_x0ops c_x0ops A_x0blocks c_x0blocks) 102) :: pt b_3 (blk (Tapi_Trace.obj x1 A_x1ops c_x1ops A_x1blocks c_x1blocks) 102) :: S)) k 0 ⟨hl11, hs.go [2, 3, 5] [1, 0] 2 (by kernel_rfl) (by kernel_rfl) (by kernel_rfl)⟩ (fun s a w h => by obtain ⟨h1, _⟩ := h; simp [visorref18_Same.l1] at h1) (fun k KL11 ih q_12 a w h => ?_)
  obtain ⟨hm, hs⟩ := h
  try dsimp only at hm hs
  rw [visorref18_Same.l1] at hm
  refine Vk.seq fun K13 hK13 => ?_
  refine qsr fun K14 hK14 => ?_
  refine qpu 2 hs fun a hs => ?_
  refine qld 0 (C.slc A_x0blocks x0.blocks.length c_x0blocks) hs rfl fun a hs => ?_
  refine qpk 2 [2, 3, 5, 36] hs fun a hs => hK14 _ _ ?_
  clear hK14
  refine qcs (decide (q_12 < ((x0.blocks.length : Nat) : Int))) hs (fun hb => ?_) fun hb => ?_
  ·replace hm := bif_t hm hb
   refine wp_skip ?_
   refine hK13 _ _ ?_
   clear hK13
   refine Vk.seq fun K15 hK15 => ?_
   refine wp_block ?_
   refine Vk.seq fun K16 hK16 => ?_
   obtain ⟨C_17, hC_17⟩ := qC hs.own
   refine qdr 11 κ C_17 hs fun w hs hqC_17 => ?_
   have hcl := qO hC_17 hs.own
   refine qdp (fuel := 7) [0, 2, 5, 7] hs hcl hqC_17 fun a hs => ?_
   refine qdl 1 0 (C.slc A_x0blocks x0.blocks.length c_x0blocks) hs hcl hqC_17 hC_17 rfl fun a hs => ?_
   obtain ⟨h_18, hm⟩ := ite_t hm
   obtain ⟨e_21, h_19, hm⟩ := bind_t hm
   obtain ⟨b_22, o_23, hA_24, h_20⟩ := Sl.elem hx_x0blocks h_19
   refine qdt 3 (.pointer (some ⟨b_22, o_23 + q_12.toNat * 3, none⟩)) (op := (.indexAddr 60 (.tmp 40) (.tmp 41))) hs hcl hqC_17 (fun w hw o ho => by rw [hC_17] at hw; exact run_idxSlc (k := .i64) ho (cap := c_x0blocks) (len := x0.blocks.length) ((congrArg (fun A => Value.slice A (x0.blocks.length) (c_x0blocks)) hA_24) ▸ (by kernel_rfl)) (by kernel_rfl) (by kernel_rfl) (idx_ok h_18 h_19) _) fun a hs => ?_
   refine qdt 4 (.agg (vals [ci e_21.kind, ci e_21.fromF, ci e_21.to])) (op := (.load 175 (.tmp 42))) hs hcl hqC_17 (fun w hw o ho => by rw [hC_17] at hw; exact run_loadN (cs := [ci e_21.kind, ci e_21.fromF, ci e_21.to]) ho (by kernel_rfl) (by kernel_rfl) rfl h_20 _ hw.drop.drop) fun a hs => ?_
   refine qdl 6 1 (C.slc A_x1blocks x1.blocks.length c_x1blocks) hs hcl hqC_17 hC_17 rfl fun a hs => ?_
   obtain ⟨h_25, hm⟩ := ite_t hm
   obtain ⟨e_28, h_26, hm⟩ := bind_t hm
   obtain ⟨b_29, o_30, hA_31, h_27⟩ := Sl.elem hx_x1blocks h_26
   refine qdt 8 (.pointer (some ⟨b_29, o_30 + q_12.toNat * 3, none⟩)) (op := (.indexAddr 60 (.tmp 45) (.tmp 46))) hs hcl hqC_17 (fun w hw o ho => by rw [hC_17] at hw; exact run_idxSlc (k := .i64) ho (cap := c_x1blocks) (len := x1.blocks.length) ((congrArg (fun A => Value.slice A (x1.blocks.length) (c_x1blocks)) hA_31) ▸ (by kernel_rfl)) (by kernel_rfl) (by kernel_rfl) (idx_ok h_25 h_26) _) fun a hs => ?_
   refine qdt 9 (.agg (vals [ci e_28.kind, ci e_28.fromF, ci e_28.to])) (op := (.load 175 (.tmp 47))) hs hcl hqC_17 (fun w hw o ho => by rw [hC_17] at hw; exact run_loadN (cs := [ci e_28.kind, ci e_28.fromF, ci e_28.to]) ho (by kernel_rfl) (by kernel_rfl) rfl h_27 _ hw.drop.drop) fun a hs => ?_
   refine qdt 10 (.bool (!(((e_21.kind == e_28.kind) && ((e_21.fromF == e_28.fromF) && ((e_21.to == e_28.to) && true)))))) (op := (.binOp .neq 175 (.tmp 43) (.tmp 48) 175)) hs hcl hqC_17 (fun w hw o ho => by rw [hC_17] at hw; exact run_neqV (ks := ([LK.int .i64] ++ [LK.int .i64] ++ [LK.int .i64])) (cs := [ci e_21.kind, ci e_21.fromF, ci e_21.to]) (us := [ci e_28.kind, ci e_28.fromF, ci e_28.to]) ho (by kernel_rfl) (by kernel_rfl) (by kernel_rfl) rfl rfl _) fun a hs => ?_
   replace hs := hs.pick [2, 3, 5, 49] (L' := [(2, pp b_2), (3, pp b_3), (5, vi q_12), (49, .bool (!(((e_21.kind == e_28.kind) && ((e_21.fromF == e_28.fromF) && ((e_21.to == e_28.to) && true))))))]) (by kernel_rfl)
   refine Vk.dDone (by kernel_rfl) ?_
   refine hK16 _ _ ?_
   clear hK16
   refine qcs (!(((e_21.kind == e_28.kind) && ((e_21.fromF == e_28.fromF) && ((e_21.to == e_28.to) && true))))) hs (fun hb => ?_) fun hb => ?_
   ·replace hm := bif_t hm hb
    refine qse 1 [(4, .bool false)] hs fun a hs => ?_
    refine wp_ret ?_
    exact Vk.ret1 (P := Try.prog) (fn := Try.f109) (R := RR) (.bool false) hs rfl (by kernel_rfl) (by obtain rfl := hret11 _ ((Option.some.inj hm).symm); subst hRR; exact ⟨rfl, hs.own.f1.drop.drop⟩)
   ·replace hm := bif_f hm hb
    refine wp_skip ?_
    refine hK15 _ _ ?_
    clear hK15
    refine Vk.region ?_
    refine qpk 3 [2, 3, 5] hs fun a hs => ?_
    refine ih (IntKind.i64.wrap (q_12 + 1)) _ _ ⟨hm, hs.go [2, 3, 5] [0, 1] 2 (by kernel_rfl) (by kernel_rfl) (by kernel_rfl)⟩
  ·replace hm := bif_f hm hb
   refine wp_exit ?_
   exact hx11 (Option.some.inj hm).symm _ _ (hs.go [2, 3] [0, 1] 2 (by kernel_rfl) (by kernel_rfl) (by kernel_rfl))

structure Tvisorlaw20_Pair where
 m : Twire_Machine
 x : Tvisorref19_M
 l : List Cells
 v : List Int
 deriving Inhabited
def Tvisorlaw20_Pair.obj (x : Tvisorlaw20_Pair) (bm : Nat) (bx : Nat) (Al : Option Addr) (cl : Nat) (Av : Option Addr) (cv : Nat) : Cells := [C.ptr (some ⟨bm, 0, none⟩), C.ptr (some ⟨bx, 0, none⟩), C.slc Al x.l.length cl, C.slc Av x.v.length cv]

def visorlaw20_Pair_Like.l1 (x0 : Tvisorlaw20_Pair) (v_6 : List Int) : Nat → Int → Option (Sum (Bool) (Unit))
 | 0, _ => none
 | k + 1, q_39 => (bif decide (q_39 < ((v_6.length : Nat) : Int)) then (if 0 ≤ q_39 then (v_6[q_39.toNat]?).bind fun e_52 => (if 0 ≤ q_39 then (x0.x.val[q_39.toNat]?).bind fun e_59 => (bif e_52 != e_59 then some (.inl false) else visorlaw20_Pair_Like.l1 x0 v_6 k (IntKind.i64.wrap (q_39 + 1))) else none) else none) else some (.inr ()))
def visorlaw20_Pair_Like.j1 (k : Nat) (x0 : Tvisorlaw20_Pair) (v_6 : List Int) (p_34 : Bool) : Option (Bool) := (bif p_34 then some false else (visorlaw20_Pair_Like.l1 x0 v_6 k 0).bind fun x => match x with | .inl v => some v | .inr () => some true)
abbrev visorlaw20_Pair_Like.R (κ : Ctx) (S : List HP) (x0 : Tvisorlaw20_Pair) (b_x0m : Nat) (g_x0m : Nat × Option Addr × Nat × Option Addr × Nat × Option Addr × Nat) (b_x0x : Nat) (g_x0x : Option Addr × Nat × Option Addr × Nat × Option Addr × Nat × Option Addr × Nat) (A_x0l : Option Addr) (c_x0l : Nat) (A_x0v : Option Addr) (c_x0v : Nat) (r : Bool) : Ending → World → Prop := fun e w' => e = .returned (.bool r) ∧ Ow κ w' (bagL (Twire_Machine.parts b_x0m x0.m g_x0m) :: bagL (Tvisorref19_M.parts κ b_x0x x0.x g_x0x) :: S)
def visorlaw20_Pair_Like.m (k : Nat) (x0 : Tvisorlaw20_Pair) : Option Bool := (wire_Machine_Values.m k x0.m).bind fun v_6 => (bif ((v_6.length : Nat) : Int) != ((x0.x.val.length : Nat) : Int) then visorlaw20_Pair_Like.j1 k x0 v_6 true else (wire_Machine_Err.m k x0.m).bind fun v_18 => (bif v_18 != x0.x.e then visorlaw20_Pair_Like.j1 k x0 v_6 true else (wire_Machine_Trace.m k x0.m).bind fun v_21 => (visorref18_Same.m k v_21 (⟨x0.x.n, x0.x.ops, x0.x.blocks⟩ : Tapi_Trace)).bind fun v_33 => visorlaw20_Pair_Like.j1 k x0 v_6 (!v_33)))

set_option maxRecDepth 100000 in
set_option maxHeartbeats 4000000 in
theorem visorlaw20_Pair_Like.ok (k : Nat) (x0 : Tvisorlaw20_Pair) (r : Bool) (hm : visorlaw20_Pair_Like.m k x0 = some r) (κ : Ctx) (w : World) (S : List HP) (b_x0m : Nat) (g_x0m : Nat × Option Addr × Nat × Option Addr × Nat × Option Addr × Nat) (b_x0x : Nat) (g_x0x : Option Addr × Nat × Option Addr × Nat × Option Addr × Nat × Option Addr × Nat) (A_x0l : Option Addr) (c_x0l : Nat) (hx_x0l : Sl κ S A_x0l c_x0l 3 eC x0.l) (A_x0v : Option Addr) (c_x0v : Nat) (hx_x0v : Sl κ S A_x0v c_x0v 1 (eI .u64) x0.v) (ho : Ow κ w (bagL (Twire_Machine.parts b_x0m x0.m g_x0m) :: bagL (Tvisorref19_M.parts κ b_x0x x0.x g_x0x) :: S)) :
  Calls Try.prog 26 #[.agg (vals [cp b_x0m, cp b_x0x, C.slc A_x0l x0.l.length c_x0l, C.slc A_x0v x0.v.length c_x0v])] w (visorlaw20_Pair_Like.R κ S x0 b_x0m g_x0m b_x0x g_x0x A_x0l c_x0l A_x0v c_x0v r) := by
 unfold visorlaw20_Pair_Like.m at hm
 generalize hRR : visorlaw20_Pair_Like.R κ S x0 b_x0m g_x0m b_x0x g_x0x A_x0l c_x0l A_x0v c_x0v r = RR
 refine qen [(0, .agg (vals [cp b_x0m, cp b_x0x, C.slc A_x0l x0.l.length c_x0l, C.slc A_x0v x0.v.length c_x0v]))] Try.func26 Try.ntmps26 ho fun a hs => ?_
 refine qsr fun K1 hK1 => ?_
 refine qbx 0 45 [cp b_x0m, cp b_x0x, C.slc A_x0l x0.l.length c_x0l, C.slc A_x0v x0.v.length c_x0v] 1 hs fun b_2 w a hs => ?_
 refine qpe 1 [(1, pp b_2)] hs fun a hs => hK1 _ _ ?_
 clear hK1
 refine qsr fun K3 hK3 => ?_
 refine qpu 1 hs fun a hs => ?_
 refine qld 0 (cp b_x0m) hs rfl fun a hs => ?_
 obtain ⟨v_6, h_5, hm⟩ := bind_t hm
 refine Vk.step (Vk.call (some 7) 22 #[pp b_x0m] hs (by kernel_rfl) (by kernel_rfl) (by kernel_rfl) ?_)
 refine (wire_Machine_Values.ok k x0.m v_6 h_5 κ w (pt b_2 (blk (Tvisorlaw20_Pair.obj x0 b_x0m b_x0x A_x0l c_x0l A_x0v c_x0v) 45) :: bagL (Tvisorref19_M.parts κ b_x0x x0.x g_x0x) :: S) b_x0m g_x0m hs.own.f1).mono ?_
 rintro _ w ⟨Ar4x0_7, cr4x0_8, rfl, how⟩
 refine ⟨_, _, _, rfl, how, fun a hs => ?_⟩
 refine qpk 1 [1, 3] hs fun a hs => hK3 _ _ ?_
 clear hK3
 refine Vk.seq fun K9 hK9 => ?_
 refine Vk.seq fun K10 hK10 => ?_
 have hj10 : ∀ (p_34 : Bool), visorlaw20_Pair_Like.j1 k x0 v_6 p_34 = some r → ∀ (a : Act) (w : World), St 57 a w κ [(1, pp b_2), (3, .slice Ar4x0_7 v_6.length cr4x0_8), (37, .bool p_34)] (pt b_2 (blk (Tvisorlaw20_Pair.obj x0 b_x0m b_x0x A_x0l c_x0l A_x0v c_x0v) 45) :: bagL (Twire_Machine.parts b_x0m x0.m g_x0m) :: bagL (Tvisorref19_M.parts κ b_x0x x0.x g_x0x) :: rowp Ar4x0_7 cr4x0_8 32 1 (eI .u64) v_6 :: S) → K10 a w := by
  intro p_34 hm a w hs
  unfold visorlaw20_Pair_Like.j1 at hm
  refine hK10 _ _ ?_
  refine qcs (p_34) hs (fun hb => ?_) fun hb => ?_
  ·replace hm := bif_t hm hb
   refine qse 1 [(2, .bool false)] hs fun a hs => ?_
   refine wp_ret ?_
   exact qr1 (.bool false) hs rfl hRR (by cases hm; exact ⟨rfl, hs.own.f3.drop.drop⟩)
  ·replace hm := bif_f hm hb
   refine wp_skip ?_
   refine hK9 _ _ ?_
   clear hK9
   refine Vk.seq fun K36 hK36 => ?_
   refine qsk 1 [1, 3, 4] hs fun a hs => ?_
   refine wp_block ?_
   obtain ⟨r38, hl38, hm⟩ := bind_t hm
   have hx38 : r38 = Sum.inr () → ∀ (a : Act) (w : World), St 57 a w κ [] (bagL (Twire_Machine.parts b_x0m x0.m g_x0m) :: bagL (Tvisorref19_M.parts κ b_x0x x0.x g_x0x) :: S) → K36 a w := by
    intro he a w hs
    subst r38
    refine hK36 _ _ ?_
    clear hK36
    refine qse 1 [(2, .bool true)] hs fun a hs => ?_
    refine wp_ret ?_
    exact qr1 (.bool true) hs rfl hRR (by cases hm; exact ⟨rfl, hs.own⟩)
   have hret38 : ∀ v, r38 = Sum.inl v → v = r := by intro v he; subst r38; exact Option.some.inj hm
   refine Vk.loopBy (fun k (s : Int) a w => visorlaw20_Pair_Like.l1 x0 v_6 k s = some r38 ∧ St 57 a w κ [(1, pp b_2), (3, .slice Ar4x0_7 v_6.length cr4x0_8), (4, vi s)] (pt b_2 (blk (Tvisorlaw20_Pair.obj x0 b_x0m b_x0x A_x0l c_x0l A_x0v c_x0v) 45) :: bagL (Twire_Machine.parts b_x0m x0.m g_x0m) :: bagL (Tvisorref19_M.parts κ b_x0x x0.x g_x0x) :: rowp Ar4x0_7 cr4x0_8 32 1 (eI .u64) v_6 :: S)) k 0 ⟨hl38, hs.go [1, 3, 4] [0, 1, 2, 3] 4 (by kernel_rfl) (by kernel_rfl) (by kernel_rfl)⟩ (fun s a w h => by obtain ⟨h1, _⟩ := h; simp [visorlaw20_Pair_Like.l1] at h1) (fun k KL38 ih q_39 a w h => ?_)
   obtain ⟨hm, hs⟩ := h
   try dsimp only at hm hs
   rw [visorlaw20_Pair_Like.l1] at hm
   refine Vk.seq fun K40 hK40 => ?_
   refine qsk 4 [1, 3, 4, 41] hs fun a hs => ?_
   refine qcs (decide (q_39 < ((v_6.length : Nat) : Int))) hs (fun hb => ?_) fun hb => ?_
   ·replace hm := bif_t hm hb
    refine wp_skip ?_
    refine hK40 _ _ ?_
    clear hK40
    refine Vk.seq fun K42 hK42 => ?_
    refine wp_block ?_
    refine Vk.seq fun K43 hK43 => ?_
    replace hs := hs.unbagAt 2 rfl
    obtain ⟨C_48, hC_48⟩ : ∃ X0 : List HP, X0 = (pt b_x0x (blk (Tvisorref19_M.obj x0.x g_x0x.1 g_x0x.2.1 g_x0x.2.2.1 g_x0x.2.2.2.1 g_x0x.2.2.2.2.1 g_x0x.2.2.2.2.2.1 g_x0x.2.2.2.2.2.2.1 g_x0x.2.2.2.2.2.2.2) 64) :: rowp g_x0x.1 g_x0x.2.1 93 6 Tapi_Op.cells x0.x.ops :: rowp g_x0x.2.2.1 g_x0x.2.2.2.1 175 3 Tapi_Span.cells x0.x.blocks :: rowp g_x0x.2.2.2.2.1 g_x0x.2.2.2.2.2.1 32 1 (eI .u64) x0.x.val :: rdp κ g_x0x.2.2.2.2.2.2.1 g_x0x.2.2.2.2.2.2.2 1 (eI .u64) x0.x.tape.l :: pt b_2 (blk (Tvisorlaw20_Pair.obj x0 b_x0m b_x0x A_x0l c_x0l A_x0v c_x0v) 45) :: bagL (Twire_Machine.parts b_x0m x0.m g_x0m) :: rowp Ar4x0_7 cr4x0_8 32 1 (eI .u64) v_6 :: S) := ⟨_, rfl⟩
    refine qdr 13 κ C_48 hs fun w hs hqC_48 => ?_
    have hcz : Ow κ w (pt b_x0x (blk (Tvisorref19_M.obj x0.x g_x0x.1 g_x0x.2.1 g_x0x.2.2.1 g_x0x.2.2.2.1 g_x0x.2.2.2.2.1 g_x0x.2.2.2.2.2.1 g_x0x.2.2.2.2.2.2.1 g_x0x.2.2.2.2.2.2.2) 64) :: rowp g_x0x.1 g_x0x.2.1 93 6 Tapi_Op.cells x0.x.ops :: rowp g_x0x.2.2.1 g_x0x.2.2.2.1 175 3 Tapi_Span.cells x0.x.blocks :: rowp g_x0x.2.2.2.2.1 g_x0x.2.2.2.2.2.1 32 1 (eI .u64) x0.x.val :: rdp κ g_x0x.2.2.2.2.2.2.1 g_x0x.2.2.2.2.2.2.2 1 (eI .u64) x0.x.tape.l :: pt b_2 (blk (Tvisorlaw20_Pair.obj x0 b_x0m b_x0x A_x0l c_x0l A_x0v c_x0v) 45) :: bagL (Twire_Machine.parts b_x0m x0.m g_x0m) :: rowp Ar4x0_7 cr4x0_8 32 1 (eI .u64) v_6 :: S) := hs.own
    have hcl : Ow κ w C_48 := by rw [hC_48]; exact hcz
    refine qdp (fuel := 9) [0, 1, 4, 9] hs hcl hqC_48 fun a hs => ?_
    obtain ⟨h_49, hm⟩ := ite_t hm
    obtain ⟨e_52, h_50, hm⟩ := bind_t hm
    obtain ⟨b_53, o_54, hA_55, h_51⟩ := Sl.elem (Ow.rowSl 0 hcz.drop.drop.drop.drop.drop.drop.drop rfl) h_50
    refine qdt 2 (.pointer (some ⟨b_53, o_54 + q_39.toNat * 1, none⟩)) (op := (.indexAddr 25 (.tmp 44) (.tmp 45))) hs hcl hqC_48 (fun w hw o ho => by rw [hC_48] at hw; exact run_idxSlc (k := .i64) ho (cap := cr4x0_8) (len := v_6.length) ((congrArg (fun A => Value.slice A (v_6.length) (cr4x0_8)) hA_55) ▸ (by kernel_rfl)) (by kernel_rfl) (by kernel_rfl) (idx_ok h_49 h_50) _) fun a hs => ?_
    refine qdt 3 (vw e_52) (op := (.load 32 (.tmp 46))) hs hcl hqC_48 (fun w hw o ho => by rw [hC_48] at hw; exact run_load1 (c := cw e_52) ho (by kernel_rfl) (by kernel_rfl) (fun w ho => h_51 w ho 0 _ rfl) _ hw.drop.drop.drop.drop.drop.drop.drop) fun a hs => ?_
    refine qdl 5 5 (cp b_x0x) hs hcl hqC_48 hC_48 rfl fun a hs => ?_
    refine qdp (fuel := 4) [6, 7] hs hcl hqC_48 fun a hs => ?_
    refine qdl 8 0 (C.slc g_x0x.2.2.2.2.1 x0.x.val.length g_x0x.2.2.2.2.2.1) hs hcl hqC_48 hC_48 rfl fun a hs => ?_
    obtain ⟨h_56, hm⟩ := ite_t hm
    obtain ⟨e_59, h_57, hm⟩ := bind_t hm
    obtain ⟨b_60, o_61, hA_62, h_58⟩ := Sl.elem (Ow.rowSl 0 (Ow.to (S' := rowp g_x0x.2.2.2.2.1 g_x0x.2.2.2.2.2.1 32 1 (eI .u64) x0.x.val :: S) hcz [3] 8 (by kernel_rfl) (by kernel_rfl)) rfl) h_57
    refine qdt 10 (.pointer (some ⟨b_60, o_61 + q_39.toNat * 1, none⟩)) (op := (.indexAddr 25 (.tmp 52) (.tmp 53))) hs hcl hqC_48 (fun w hw o ho => by rw [hC_48] at hw; exact run_idxSlc (k := .i64) ho (cap := g_x0x.2.2.2.2.2.1) (len := x0.x.val.length) ((congrArg (fun A => Value.slice A (x0.x.val.length) (g_x0x.2.2.2.2.2.1)) hA_62) ▸ (by kernel_rfl)) (by kernel_rfl) (by kernel_rfl) (idx_ok h_56 h_57) _) fun a hs => ?_
    refine qdt 11 (vw e_59) (op := (.load 32 (.tmp 54))) hs hcl hqC_48 (fun w hw o ho => by rw [hC_48] at hw; exact run_load1 (c := cw e_59) ho (by kernel_rfl) (by kernel_rfl) (fun w ho => h_58 w ho 0 _ rfl) _ (Ow.to (S' := rowp g_x0x.2.2.2.2.1 g_x0x.2.2.2.2.2.1 32 1 (eI .u64) x0.x.val :: S) hw [3] 8 (by kernel_rfl) (by kernel_rfl))) fun a hs => ?_
    refine qdp (fuel := 0) [12] hs hcl hqC_48 fun a hs => ?_
    replace hs := hs.pick [1, 3, 4, 56] (L' := [(1, pp b_2), (3, .slice Ar4x0_7 v_6.length cr4x0_8), (4, vi q_39), (56, .bool (e_52 != e_59))]) (by kernel_rfl)
    refine Vk.dDone (by kernel_rfl) ?_
    refine hK43 _ _ ?_
    clear hK43
    refine qcs (e_52 != e_59) hs (fun hb => ?_) fun hb => ?_
    ·replace hm := bif_t hm hb
     refine qse 1 [(2, .bool false)] hs fun a hs => ?_
     refine wp_ret ?_
     replace hs := hs.bagG (l := Tvisorref19_M.parts κ b_x0x x0.x g_x0x) (S' := pt b_2 (blk (Tvisorlaw20_Pair.obj x0 b_x0m b_x0x A_x0l c_x0l A_x0v c_x0v) 45) :: bagL (Twire_Machine.parts b_x0m x0.m g_x0m) :: rowp Ar4x0_7 cr4x0_8 32 1 (eI .u64) v_6 :: S) hs.own
     exact Vk.ret1 (P := Try.prog) (fn := Try.f26) (R := RR) (.bool false) hs rfl (by kernel_rfl) (by obtain rfl := hret38 _ ((Option.some.inj hm).symm); subst hRR; exact ⟨rfl, hs.own.f3.drop.f1.drop.f1⟩)
    ·replace hm := bif_f hm hb
     refine wp_skip ?_
     refine hK42 _ _ ?_
     clear hK42
     refine Vk.region ?_
     refine qpe 3 [(1, pp b_2), (3, .slice Ar4x0_7 v_6.length cr4x0_8), (4, vi (IntKind.i64.wrap (q_39 + 1)))] hs fun a hs => ?_
     replace hs := hs.bagG (l := Tvisorref19_M.parts κ b_x0x x0.x g_x0x) (S' := pt b_2 (blk (Tvisorlaw20_Pair.obj x0 b_x0m b_x0x A_x0l c_x0l A_x0v c_x0v) 45) :: bagL (Twire_Machine.parts b_x0m x0.m g_x0m) :: rowp Ar4x0_7 cr4x0_8 32 1 (eI .u64) v_6 :: S) hs.own
     refine ih (IntKind.i64.wrap (q_39 + 1)) _ _ ⟨hm, hs.go [1, 3, 4] [1, 2, 0, 3] 4 (by kernel_rfl) (by kernel_rfl) (by kernel_rfl)⟩
   ·replace hm := bif_f hm hb
    refine wp_exit ?_
    exact hx38 (Option.some.inj hm).symm _ _ (hs.go [] [1, 2] 4 (by kernel_rfl) (by kernel_rfl) (by kernel_rfl))
 replace hs := hs.unbagAt 3 rfl
 obtain ⟨C_15, hC_15⟩ := qC hs.own
 refine qdr 30 κ C_15 hs fun w hs hqC_15 => ?_
 have hcl := qO hC_15 hs.own
 refine qdp (fuel := 27) [0, 1, 2] hs hcl hqC_15 fun a hs => ?_
 refine qdl 3 7 (cp b_x0x) hs hcl hqC_15 hC_15 rfl fun a hs => ?_
 refine qdp (fuel := 24) [4, 5] hs hcl hqC_15 fun a hs => ?_
 refine qdl 6 0 (C.slc g_x0x.2.2.2.2.1 x0.x.val.length g_x0x.2.2.2.2.2.1) hs hcl hqC_15 hC_15 rfl fun a hs => ?_
 refine qdp (fuel := 20) [7, 8, 9] hs hcl hqC_15 fun a hs => ?_
 rcases Bool.eq_false_or_eq_true (((v_6.length : Nat) : Int) != ((x0.x.val.length : Nat) : Int)) with hb | hb
 ·replace hm := bif_t hm hb
  replace hs := hs.known (t := 17) hb (by kernel_rfl)
  refine qdp (fuel := 0) [10, 11, 12, 13, 14, 15, 16, 17, 18, 19, 20, 21, 22, 23, 24, 25, 26, 27, 28, 29] hs hcl hqC_15 fun a hs => ?_
  replace hs := hs.pick [1, 3, 37] (L' := [(1, pp b_2), (3, .slice Ar4x0_7 v_6.length cr4x0_8), (37, .bool true)]) (by kernel_rfl)
  refine Vk.dDone (by kernel_rfl) ?_
  replace hs := hs.bagG (l := Tvisorref19_M.parts κ b_x0x x0.x g_x0x) (S' := rowp Ar4x0_7 cr4x0_8 32 1 (eI .u64) v_6 :: bagL (Twire_Machine.parts b_x0m x0.m g_x0m) :: pt b_2 (blk (Tvisorlaw20_Pair.obj x0 b_x0m b_x0x A_x0l c_x0l A_x0v c_x0v) 45) :: S) hs.own
  exact hj10 true hm _ _ (hs.go [1, 3, 37] [3, 2, 0, 1] 4 (by kernel_rfl) (by kernel_rfl) (by kernel_rfl))
 ·replace hm := bif_f hm hb
  replace hs := hs.known (t := 17) hb (by kernel_rfl)
  refine qdp (fuel := 18) [10, 13] hs hcl hqC_15 fun a hs => ?_
  refine qdl 11 7 (cp b_x0m) hs hcl hqC_15 hC_15 rfl fun a hs => ?_
  refine qdl 14 7 (cp b_x0x) hs hcl hqC_15 hC_15 rfl fun a hs => ?_
  refine qdp (fuel := 14) [15, 16] hs hcl hqC_15 fun a hs => ?_
  refine qdl 17 0 (ci x0.x.e) hs hcl hqC_15 hC_15 rfl fun a hs => ?_
  obtain ⟨v_18, h_17, hm⟩ := bind_t hm
  refine qdc 12 (wire_Machine_Err.ok _ _ _ h_17 _ _ _ b_x0m g_x0m hs.own.f6) hs fun w a hs => ?_
  replace hcl : Ow κ w C_15 := by rw [hC_15]; exact (hs.own.too [1, 2, 3, 4, 5, 6, 0, 7] 8)
  refine ⟨fun _ => hcl, ?_⟩
  refine qdp (fuel := 9) [18, 19, 20] hs hcl hqC_15 fun a hs => ?_
  rcases Bool.eq_false_or_eq_true (v_18 != x0.x.e) with hb | hb
  ·replace hm := bif_t hm hb
   replace hs := hs.known (t := 28) hb (by kernel_rfl)
   refine qdp (fuel := 0) [21, 22, 23, 24, 25, 26, 27, 28, 29] hs hcl hqC_15 fun a hs => ?_
   replace hs := hs.pick [1, 3, 37] (L' := [(1, pp b_2), (3, .slice Ar4x0_7 v_6.length cr4x0_8), (37, .bool true)]) (by kernel_rfl)
   refine Vk.dDone (by kernel_rfl) ?_
   replace hs := hs.bagG (l := Tvisorref19_M.parts κ b_x0x x0.x g_x0x) (S' := bagL (Twire_Machine.parts b_x0m x0.m g_x0m) :: rowp Ar4x0_7 cr4x0_8 32 1 (eI .u64) v_6 :: pt b_2 (blk (Tvisorlaw20_Pair.obj x0 b_x0m b_x0x A_x0l c_x0l A_x0v c_x0v) 45) :: S) hs.own.f5.f5.f5.f5.f5
   exact hj10 true hm _ _ (hs.go [1, 3, 37] [3, 1, 0, 2] 4 (by kernel_rfl) (by kernel_rfl) (by kernel_rfl))
  ·replace hm := bif_f hm hb
   replace hs := hs.known (t := 28) hb (by kernel_rfl)
   refine qdp (fuel := 7) [21, 24] hs hcl hqC_15 fun a hs => ?_
   refine qdl 22 7 (cp b_x0m) hs hcl hqC_15 hC_15 rfl fun a hs => ?_
   refine qdl 25 7 (cp b_x0x) hs hcl hqC_15 hC_15 rfl fun a hs => ?_
   obtain ⟨v_21, h_20, hm⟩ := bind_t hm
   refine Vk.dOnly (i := 23) (by kernel_rfl) (Vk.call (some 31) 62 #[pp b_x0m] hs (by kernel_rfl) (by kernel_rfl) (by kernel_rfl) ?_)
   refine (wire_Machine_Trace.ok k x0.m v_21 h_20 κ w (pt b_x0x (blk (Tvisorref19_M.obj x0.x g_x0x.1 g_x0x.2.1 g_x0x.2.2.1 g_x0x.2.2.2.1 g_x0x.2.2.2.2.1 g_x0x.2.2.2.2.2.1 g_x0x.2.2.2.2.2.2.1 g_x0x.2.2.2.2.2.2.2) 64) :: rowp g_x0x.1 g_x0x.2.1 93 6 Tapi_Op.cells x0.x.ops :: rowp g_x0x.2.2.1 g_x0x.2.2.2.1 175 3 Tapi_Span.cells x0.x.blocks :: rowp g_x0x.2.2.2.2.1 g_x0x.2.2.2.2.2.1 32 1 (eI .u64) x0.x.val :: rdp κ g_x0x.2.2.2.2.2.2.1 g_x0x.2.2.2.2.2.2.2 1 (eI .u64) x0.x.tape.l :: rowp Ar4x0_7 cr4x0_8 32 1 (eI .u64) v_6 :: pt b_2 (blk (Tvisorlaw20_Pair.obj x0 b_x0m b_x0x A_x0l c_x0l A_x0v c_x0v) 45) :: S) b_x0m g_x0m hs.own).mono ?_
   rintro _ w ⟨Ar19x0ops_22, cr19x0ops_23, Ar19x0blocks_24, cr19x0blocks_25, rfl, how⟩
   refine ⟨_, _, _, rfl, how, fun a hs => ?_⟩
   replace hcl : Ow κ w C_15 := by rw [hC_15]; exact (hs.own.too [3, 4, 5, 6, 7, 8, 2, 9] 10)
   refine ⟨fun _ => hcl, ?_⟩
   refine Vk.dOnly (i := 26) (by kernel_rfl) (Vk.call (some 34) 110 #[pp b_x0x] hs (by kernel_rfl) (by kernel_rfl) (by kernel_rfl) ?_)
   refine Vk.enterI [(0, pp b_x0x)] Try.func110 rfl Try.ntmps110 (by kernel_rfl) (Nat.le_of_ble_eq_true (by kernel_rfl)) hs.own fun KR26 hKR26 hKP26 a hs => ?_
   refine qsr fun K27 hK27 => ?_
   refine qal 102 [ci 0, C.slc none 0 0, C.slc none 0 0] 2 hs fun b_28 w a hs => ?_
   refine qpe 0 [(0, pp b_x0x), (2, pp b_28)] hs fun a hs => hK27 _ _ ?_
   clear hK27
   refine Vk.seq fun K29 hK29 => ?_
   obtain ⟨C_30, hC_30⟩ := qC hs.own
   refine qdr 13 κ C_30 hs fun w hs hqC_30 => ?_
   have hcl := qO hC_30 hs.own
   refine qdp (fuel := 5) [0, 1, 2, 4, 5, 6, 8, 9, 10] hs hcl hqC_30 fun a hs => ?_
   refine qdl 3 4 (ci x0.x.n) hs hcl hqC_30 hC_30 rfl fun a hs => ?_
   refine qdl 7 4 (C.slc g_x0x.1 x0.x.ops.length g_x0x.2.1) hs hcl hqC_30 hC_30 rfl fun a hs => ?_
   refine qdl 11 4 (C.slc g_x0x.2.2.1 x0.x.blocks.length g_x0x.2.2.2.1) hs hcl hqC_30 hC_30 rfl fun a hs => ?_
   refine qdp (fuel := 1) [12] hs hcl hqC_30 fun a hs => ?_
   refine qsA 13 0 [ci x0.x.n, C.slc g_x0x.1 x0.x.ops.length g_x0x.2.1, C.slc g_x0x.2.2.1 x0.x.blocks.length g_x0x.2.2.2.1] hs rfl rfl rfl fun a w hs => ?_
   refine ⟨fun h => absurd h (by decide), ?_⟩
   replace hs := hs.pick [2] (L' := [(2, pp b_28)]) (by kernel_rfl)
   refine Vk.dDone (by kernel_rfl) ?_
   refine hK29 _ _ ?_
   clear hK29
   refine wp_ret ?_
   refine hKP26 _ _ ?_
   refine hKR26 _ _ ?_
   refine Vk.retC (P := Try.prog) (fn := Try.f110) [ci x0.x.n, C.slc g_x0x.1 x0.x.ops.length g_x0x.2.1, C.slc g_x0x.2.2.1 x0.x.blocks.length g_x0x.2.2.2.1] hs rfl (by kernel_rfl) (sz := 3) (by kernel_rfl) rfl (CellsAt.all 0 rfl) ⟨_, _, _, rfl, hs.own, fun a hs => ?_⟩
   replace hcl : Ow κ w C_15 := by rw [hC_15]; exact (hs.own.too [4, 5, 6, 7, 8, 9, 3, 10] 11)
   refine ⟨fun _ => hcl, ?_⟩
   obtain ⟨v_33, h_32, hm⟩ := bind_t hm
   refine qdc 27 (visorref18_Same.ok _ _ _ _ h_32 _ _ (pt b_28 (blk [ci x0.x.n, C.slc g_x0x.1 x0.x.ops.length g_x0x.2.1, C.slc g_x0x.2.2.1 x0.x.blocks.length g_x0x.2.2.2.1] 102) :: rowp Ar19x0ops_22 cr19x0ops_23 93 6 Tapi_Op.cells v_21.ops :: rowp Ar19x0blocks_24 cr19x0blocks_25 175 3 Tapi_Span.cells v_21.blocks :: bagL (Twire_Machine.parts b_x0m x0.m g_x0m) :: pt b_x0x (blk (Tvisorref19_M.obj x0.x g_x0x.1 g_x0x.2.1 g_x0x.2.2.1 g_x0x.2.2.2.1 g_x0x.2.2.2.2.1 g_x0x.2.2.2.2.2.1 g_x0x.2.2.2.2.2.2.1 g_x0x.2.2.2.2.2.2.2) 64) :: rowp g_x0x.1 g_x0x.2.1 93 6 Tapi_Op.cells x0.x.ops :: rowp g_x0x.2.2.1 g_x0x.2.2.2.1 175 3 Tapi_Span.cells x0.x.blocks :: rowp g_x0x.2.2.2.2.1 g_x0x.2.2.2.2.2.1 32 1 (eI .u64) x0.x.val :: rdp κ g_x0x.2.2.2.2.2.2.1 g_x0x.2.2.2.2.2.2.2 1 (eI .u64) x0.x.tape.l :: rowp Ar4x0_7 cr4x0_8 32 1 (eI .u64) v_6 :: pt b_2 (blk (Tvisorlaw20_Pair.obj x0 b_x0m b_x0x A_x0l c_x0l A_x0v c_x0v) 45) :: S) Ar19x0ops_22 cr19x0ops_23 (Sl.lift (fun w ho => (Ow.to (S' := rowp Ar19x0ops_22 cr19x0ops_23 93 6 Tapi_Op.cells v_21.ops :: S) ho [1] 11 (by kernel_rfl) (by kernel_rfl))) (Ow.rowSl 0 (Ow.to (S' := rowp Ar19x0ops_22 cr19x0ops_23 93 6 Tapi_Op.cells v_21.ops :: S) hs.own [1] 11 (by kernel_rfl) (by kernel_rfl)) rfl)) Ar19x0blocks_24 cr19x0blocks_25 (Sl.lift (fun w ho => (Ow.to (S' := rowp Ar19x0blocks_24 cr19x0blocks_25 175 3 Tapi_Span.cells v_21.blocks :: S) ho [2] 11 (by kernel_rfl) (by kernel_rfl))) (Ow.rowSl 0 (Ow.to (S' := rowp Ar19x0blocks_24 cr19x0blocks_25 175 3 Tapi_Span.cells v_21.blocks :: S) hs.own [2] 11 (by kernel_rfl) (by kernel_rfl)) rfl)) g_x0x.1 g_x0x.2.1 (Sl.lift (fun w ho => (Ow.to (S' := rowp g_x0x.1 g_x0x.2.1 93 6 Tapi_Op.cells x0.x.ops :: S) ho [5] 11 (by kernel_rfl) (by kernel_rfl))) (Ow.rowSl 0 (Ow.to (S' := rowp g_x0x.1 g_x0x.2.1 93 6 Tapi_Op.cells x0.x.ops :: S) hs.own [5] 11 (by kernel_rfl) (by kernel_rfl)) rfl)) g_x0x.2.2.1 g_x0x.2.2.2.1 (Sl.lift (fun w ho => (Ow.to (S' := rowp g_x0x.2.2.1 g_x0x.2.2.2.1 175 3 Tapi_Span.cells x0.x.blocks :: S) ho [6] 11 (by kernel_rfl) (by kernel_rfl))) (Ow.rowSl 0 (Ow.to (S' := rowp g_x0x.2.2.1 g_x0x.2.2.2.1 175 3 Tapi_Span.cells x0.x.blocks :: S) hs.own [6] 11 (by kernel_rfl) (by kernel_rfl)) rfl)) hs.own) hs fun w a hs => ?_
   replace hcl : Ow κ w C_15 := by rw [hC_15]; exact (hs.own.too [4, 5, 6, 7, 8, 9, 3, 10] 11)
   refine ⟨fun _ => hcl, ?_⟩
   refine qdp (fuel := 0) [28, 29] hs hcl hqC_15 fun a hs => ?_
   replace hs := hs.pick [1, 3, 37] (L' := [(1, pp b_2), (3, .slice Ar4x0_7 v_6.length cr4x0_8), (37, .bool (!v_33))]) (by kernel_rfl)
   refine Vk.dDone (by kernel_rfl) ?_
   replace hs := hs.bagG (l := Tvisorref19_M.parts κ b_x0x x0.x g_x0x) (S' := pt b_28 (blk [ci x0.x.n, C.slc g_x0x.1 x0.x.ops.length g_x0x.2.1, C.slc g_x0x.2.2.1 x0.x.blocks.length g_x0x.2.2.2.1] 102) :: rowp Ar19x0ops_22 cr19x0ops_23 93 6 Tapi_Op.cells v_21.ops :: rowp Ar19x0blocks_24 cr19x0blocks_25 175 3 Tapi_Span.cells v_21.blocks :: bagL (Twire_Machine.parts b_x0m x0.m g_x0m) :: rowp Ar4x0_7 cr4x0_8 32 1 (eI .u64) v_6 :: pt b_2 (blk (Tvisorlaw20_Pair.obj x0 b_x0m b_x0x A_x0l c_x0l A_x0v c_x0v) 45) :: S) hs.own.f8.f8.f8.f8.f8
   exact hj10 (!v_33) hm _ _ (hs.go [1, 3, 37] [6, 4, 0, 5] 7 (by kernel_rfl) (by kernel_rfl) (by kernel_rfl))


def share_Value.j1 (k : Nat) (rec7 : Int → Int → Option (Int)) (q_9 : Int) (p_26 : Int) : Option (Int) := rec7 p_26 (IntKind.i64.wrap (q_9 + 1))
def share_Value.l1 (x0 : List Int) (x1 : Cells) : Nat → Int → Int → Option (Int)
 | 0, _, _ => none
 | k + 1, q_8, q_9 => (bif decide (q_9 < 3) then (if 0 ≤ q_9 ∧ q_9 < 3 then (getI .i64 x1 q_9.toNat).bind fun v_16 => (bif (decide (v_16 ≥ 0)) && (decide (v_16 < ((x0.length : Nat) : Int))) then (if 0 ≤ v_16 then (x0[v_16.toNat]?).bind fun e_22 => share_Value.j1 k (share_Value.l1 x0 x1 k) q_9 (bxor .u64 q_8 e_22) else none) else share_Value.j1 k (share_Value.l1 x0 x1 k) q_9 q_8) else none) else some q_8)
abbrev share_Value.R (κ : Ctx) (S : List HP) (x0 : List Int) (x1 : Cells) (A_x0 : Option Addr) (c_x0 : Nat) (r : Int) : Ending → World → Prop := fun e w' => e = .returned (vw r) ∧ Ow κ w' (S)
def share_Value.m (k : Nat) (x0 : List Int) (x1 : Cells) : Option Int := (if x1.length = 3 then (share_Value.l1 x0 x1 k 0 0).bind fun p_27 => some p_27 else none)

set_option maxRecDepth 100000 in
set_option maxHeartbeats 4000000 in
theorem share_Value.ok (k : Nat) (x0 : List Int) (x1 : Cells) (r : Int) (hm : share_Value.m k x0 x1 = some r) (κ : Ctx) (w : World) (S : List HP) (A_x0 : Option Addr) (c_x0 : Nat) (hx_x0 : Sl κ S A_x0 c_x0 1 (eI .u64) x0) (ho : Ow κ w (S)) :
  Calls Try.prog 28 #[.slice A_x0 x0.length c_x0, .agg (vals x1)] w (share_Value.R κ S x0 x1 A_x0 c_x0 r) := by
 unfold share_Value.m at hm
 generalize hRR : share_Value.R κ S x0 x1 A_x0 c_x0 r = RR
 refine qen [(0, .slice A_x0 x0.length c_x0), (1, .agg (vals x1))] Try.func28 Try.ntmps28 ho fun a hs => ?_
 refine qsr fun K1 hK1 => ?_
 refine qbx 1 28 x1 3 hs fun b_2 w a hs => ?_
 refine qpk 1 [0, 3] hs fun a hs => hK1 _ _ ?_
 clear hK1
 refine qsk 1 [0, 3, 5] hs fun a hs => ?_
 refine Vk.seq fun K4 hK4 => ?_
 refine qsr fun K5 hK5 => ?_
 refine qpu 1 hs fun a hs => ?_
 obtain ⟨h_6, hm⟩ := ite_t hm
 refine qlw 0 hs rfl h_6 fun a hs => ?_
 refine qpk 1 [0, 5, 9, 10] hs fun a hs => hK5 _ _ ?_
 clear hK5
 refine wp_block ?_
 obtain ⟨r7, hl7, hm⟩ := bind_t hm
 have hx7 : ∀ (p_27 : Int), r7 = p_27 → ∀ (a : Act) (w : World), St 29 a w κ [(5, vw p_27)] (S) → K4 a w := by
  intro p_27 he a w hs
  subst r7
  refine hK4 _ _ ?_
  clear hK4
  refine qse 2 [(4, vw p_27)] hs fun a hs => ?_
  refine wp_ret ?_
  exact qr1 (vw p_27) hs rfl hRR (by cases hm; exact ⟨rfl, hs.own⟩)
 refine Vk.loopBy (fun k (s : Int × Int) a w => share_Value.l1 x0 x1 k s.1 s.2 = some r7 ∧ St 29 a w κ [(0, .slice A_x0 x0.length c_x0), (5, vw s.1), (9, .agg (vals x1)), (10, vi s.2)] (S)) k (0, 0) ⟨hl7, hs.go [0, 5, 9, 10] [] 1 (by kernel_rfl) (by kernel_rfl) (by kernel_rfl)⟩ (fun s a w h => by obtain ⟨h1, _⟩ := h; simp [share_Value.l1] at h1) (fun k KL7 ih s a w h => ?_)
 obtain ⟨q_8, q_9⟩ := s
 obtain ⟨hm, hs⟩ := h
 try dsimp only at hm hs
 rw [share_Value.l1] at hm
 refine qsk 1 [0, 5, 9, 10, 11] hs fun a hs => ?_
 refine Vk.seq fun K11 hK11 => ?_
 refine qcs (decide (q_9 < 3)) hs (fun hb => ?_) fun hb => ?_
 ·replace hm := bif_t hm hb
  refine wp_skip ?_
  refine hK11 _ _ ?_
  clear hK11
  refine Vk.seq fun K12 hK12 => ?_
  have hj12 : ∀ (p_26 : Int), share_Value.j1 k (share_Value.l1 x0 x1 k) q_9 p_26 = some r7 → ∀ (a : Act) (w : World), St 29 a w κ [(0, .slice A_x0 x0.length c_x0), (5, vw p_26), (9, .agg (vals x1)), (10, vi q_9)] (S) → K12 a w := by
   intro p_26 hm a w hs
   unfold share_Value.j1 at hm
   refine hK12 _ _ ?_
   refine Vk.region ?_
   refine qpk 2 [0, 5, 9, 10] hs fun a hs => ?_
   refine ih (p_26, (IntKind.i64.wrap (q_9 + 1))) _ _ ⟨hm, hs.go [0, 5, 9, 10] [] 0 (by kernel_rfl) (by kernel_rfl) (by kernel_rfl)⟩
  refine wp_block ?_
  refine qsr fun K13 hK13 => ?_
  obtain ⟨h_14, hm⟩ := ite_t hm
  obtain ⟨v_16, h_15, hm⟩ := bind_t hm
  refine qva (vi v_16) (op := (.index 26 (.tmp 9) (.tmp 10))) hs (fun o ho => run_idxVal (k := .i64) (cs := x1) (c := ci v_16) ho (by kernel_rfl) (by kernel_rfl) (len := 3) (et := 3) (by kernel_rfl) (by kernel_rfl) (by kernel_rfl) (by kernel_rfl) h_14 (getI_some h_15) _) fun a hs => ?_
  refine qpk 1 [0, 5, 7, 9, 10] hs fun a hs => hK13 _ _ ?_
  clear hK13
  refine qsr fun K17 hK17 => ?_
  refine qpu 3 hs fun a hs => ?_
  refine qsc 15 5 hs fun a hs => ?_
  refine qpk 0 [0, 5, 7, 9, 10, 20] hs fun a hs => hK17 _ _ ?_
  clear hK17
  refine qcs ((decide (v_16 ≥ 0)) && (decide (v_16 < ((x0.length : Nat) : Int)))) hs (fun hb => ?_) fun hb => ?_
  ·replace hm := bif_t hm hb
   refine Vk.region ?_
   refine qpu 3 hs fun a hs => ?_
   obtain ⟨h_19, hm⟩ := ite_t hm
   obtain ⟨e_22, h_20, hm⟩ := bind_t hm
   obtain ⟨b_23, o_24, hA_25, h_21⟩ := Sl.elem hx_x0 h_20
   refine qva (.pointer (some ⟨b_23, o_24 + v_16.toNat * 1, none⟩)) (op := (.indexAddr 25 (.tmp 22) (.tmp 23))) hs (fun o ho => run_idxSlc (k := .i64) ho (cap := c_x0) (len := x0.length) ((congrArg (fun A => Value.slice A (x0.length) (c_x0)) hA_25) ▸ (by kernel_rfl)) (by kernel_rfl) (by kernel_rfl) (idx_ok h_19 h_20) _) fun a hs => ?_
   refine qva (vw e_22) (op := (.load 32 (.tmp 24))) hs (fun o ho => run_load1 (c := cw e_22) ho (by kernel_rfl) (by kernel_rfl) (fun w ho => h_21 w ho 0 _ rfl) _ hs.own) fun a hs => ?_
   refine qpe 2 [(0, .slice A_x0 x0.length c_x0), (5, vw (bxor .u64 q_8 e_22)), (9, .agg (vals x1)), (10, vi q_9)] hs fun a hs => ?_
   exact hj12 (bxor .u64 q_8 e_22) hm _ _ (hs.go [0, 5, 9, 10] [] 0 (by kernel_rfl) (by kernel_rfl) (by kernel_rfl))
  ·replace hm := bif_f hm hb
   refine wp_skip ?_
   exact hj12 q_8 hm _ _ (hs.go [0, 5, 9, 10] [] 0 (by kernel_rfl) (by kernel_rfl) (by kernel_rfl))
 ·replace hm := bif_f hm hb
  refine wp_exit ?_
  exact hx7 q_8 (Option.some.inj hm).symm _ _ (hs.go [5] [] 0 (by kernel_rfl) (by kernel_rfl) (by kernel_rfl))


def slice_Value.l1 (x0 : List Int) (x1 : Cells) : Nat → Cells → Int → Option (Cells)
 | 0, _, _ => none
 | k + 1, q_10, q_11 => (bif decide (q_11 < 8) then (if 0 ≤ q_11 ∧ q_11 < 8 then (part? x1 (q_11.toNat * 3) 3).bind fun v_18 => (share_Value.m k x0 v_18).bind fun v_22 => (if 0 ≤ q_11 ∧ q_11 < 8 then (if 0 + q_11.toNat * 1 < q_10.length then slice_Value.l1 x0 x1 k (q_10.set (0 + q_11.toNat * 1) (cw v_22)) (IntKind.i64.wrap (q_11 + 1)) else none) else none) else none) else some q_10)
abbrev slice_Value.R (κ : Ctx) (S : List HP) (x0 : List Int) (x1 : Cells) (A_x0 : Option Addr) (c_x0 : Nat) (r : Cells) : Ending → World → Prop := fun e w' => e = .returned (.agg (vals r)) ∧ Ow κ w' (S)
def slice_Value.m (k : Nat) (x0 : List Int) (x1 : Cells) : Option Cells := (if x1.length = 24 then (slice_Value.l1 x0 x1 k [cw 0, cw 0, cw 0, cw 0, cw 0, cw 0, cw 0, cw 0] 0).bind fun p_25 => (if p_25.length = 8 then some p_25 else none) else none)

set_option maxRecDepth 100000 in
set_option maxHeartbeats 4000000 in
theorem slice_Value.ok (k : Nat) (x0 : List Int) (x1 : Cells) (r : Cells) (hm : slice_Value.m k x0 x1 = some r) (κ : Ctx) (w : World) (S : List HP) (A_x0 : Option Addr) (c_x0 : Nat) (hx_x0 : Sl κ S A_x0 c_x0 1 (eI .u64) x0) (ho : Ow κ w (S)) :
  Calls Try.prog 40 #[.slice A_x0 x0.length c_x0, .agg (vals x1)] w (slice_Value.R κ S x0 x1 A_x0 c_x0 r) := by
 unfold slice_Value.m at hm
 generalize hRR : slice_Value.R κ S x0 x1 A_x0 c_x0 r = RR
 refine qen [(0, .slice A_x0 x0.length c_x0), (1, .agg (vals x1))] Try.func40 Try.ntmps40 ho fun a hs => ?_
 refine qsr fun K1 hK1 => ?_
 refine qbx 1 71 x1 3 hs fun b_2 w a hs => ?_
 refine qal 80 [cw 0, cw 0, cw 0, cw 0, cw 0, cw 0, cw 0, cw 0] 4 hs fun b_3 w a hs => ?_
 refine qpk 0 [0, 3, 4] hs fun a hs => hK1 _ _ ?_
 clear hK1
 refine qsr fun K4 hK4 => ?_
 refine qal 80 [cw 0, cw 0, cw 0, cw 0, cw 0, cw 0, cw 0, cw 0] 5 hs fun b_5 w a hs => ?_
 refine qpk 0 [0, 3, 4, 5] hs fun a hs => hK4 _ _ ?_
 clear hK4
 refine Vk.seq fun K6 hK6 => ?_
 refine qsr fun K7 hK7 => ?_
 obtain ⟨h_8, hm⟩ := ite_t hm
 refine qlw 2 hs rfl h_8 fun a hs => ?_
 refine qpk 1 [0, 4, 5, 8, 9] hs fun a hs => hK7 _ _ ?_
 clear hK7
 refine wp_block ?_
 obtain ⟨r9, hl9, hm⟩ := bind_t hm
 have hx9 : ∀ (p_25 : Cells), r9 = p_25 → ∀ (a : Act) (w : World), St 20 a w κ [(4, pp b_3), (5, pp b_5)] (pt b_3 (blk [cw 0, cw 0, cw 0, cw 0, cw 0, cw 0, cw 0, cw 0] 80) :: pt b_5 (blk p_25 80) :: S) → K6 a w := by
  intro p_25 he a w hs
  subst r9
  refine hK6 _ _ ?_
  clear hK6
  refine qsr fun K28 hK28 => ?_
  obtain ⟨h_29, hm⟩ := ite_t hm
  refine qlw 1 hs rfl h_29 fun a hs => ?_
  refine qsb 0 p_25 hs rfl h_29 rfl fun a w hs => ?_
  refine qpe 0 [(4, pp b_3)] hs fun a hs => hK28 _ _ ?_
  clear hK28
  refine wp_ret ?_
  exact Vk.retC p_25 hs rfl (by kernel_rfl) (sz := 8) (by kernel_rfl) h_29 (CellsAt.all 0 rfl) (hRR ▸ by cases hm; exact ⟨rfl, hs.own.f1.drop.drop⟩)
 refine Vk.loopBy (fun k (s : Cells × Int) a w => slice_Value.l1 x0 x1 k s.1 s.2 = some r9 ∧ St 20 a w κ [(0, .slice A_x0 x0.length c_x0), (4, pp b_3), (5, pp b_5), (8, .agg (vals x1)), (9, vi s.2)] (pt b_3 (blk [cw 0, cw 0, cw 0, cw 0, cw 0, cw 0, cw 0, cw 0] 80) :: pt b_5 (blk s.1 80) :: S)) k ([cw 0, cw 0, cw 0, cw 0, cw 0, cw 0, cw 0, cw 0], 0) ⟨hl9, hs.go [0, 4, 5, 8, 9] [1, 0] 3 (by kernel_rfl) (by kernel_rfl) (by kernel_rfl)⟩ (fun s a w h => by obtain ⟨h1, _⟩ := h; simp [slice_Value.l1] at h1) (fun k KL9 ih s a w h => ?_)
 obtain ⟨q_10, q_11⟩ := s
 obtain ⟨hm, hs⟩ := h
 try dsimp only at hm hs
 rw [slice_Value.l1] at hm
 refine qsk 1 [0, 4, 5, 8, 9, 10] hs fun a hs => ?_
 refine Vk.seq fun K13 hK13 => ?_
 refine qcs (decide (q_11 < 8)) hs (fun hb => ?_) fun hb => ?_
 ·replace hm := bif_t hm hb
  refine wp_skip ?_
  refine hK13 _ _ ?_
  clear hK13
  refine Vk.seq fun K14 hK14 => ?_
  refine wp_block ?_
  refine qsr fun K15 hK15 => ?_
  refine qpu 1 hs fun a hs => ?_
  obtain ⟨h_16, hm⟩ := ite_t hm
  obtain ⟨v_18, h_17, hm⟩ := bind_t hm
  refine qva (.agg (vals v_18)) (op := (.index 71 (.tmp 8) (.tmp 9))) hs (fun o ho => run_idxValN (k := .i64) (cs := x1) ho (by kernel_rfl) (by kernel_rfl) (len := 8) (et := 28) (by kernel_rfl) (sz := 3) (by kernel_rfl) h_16 h_17 _) fun a hs => ?_
  refine qal 28 [ci 0, ci 0, ci 0] 7 hs fun b_19 w a hs => ?_
  refine qpu 1 hs fun a hs => ?_
  refine Vk.step (Vk.storeA (b := b_19) (ty := 28) (x := (.tmp 7)) (y := (.tmp 12)) (sz := 3) v_18 0 hs (by kernel_rfl) (by kernel_rfl) (by kernel_rfl) (by kernel_rfl) (by kernel_rfl) (part?_some h_17).2.2 (by kernel_rfl) rfl (Eq.trans (b := 3) (part?_some h_17).2.2 (Eq.symm rfl)) fun a w hs => ?_)
  refine qpk 0 [0, 4, 5, 6, 7, 8, 9] hs fun a hs => hK15 _ _ ?_
  clear hK15
  refine Vk.region ?_
  refine qpu 2 hs fun a hs => ?_
  refine qva (.agg (vals v_18)) (op := (.load 28 (.tmp 7))) hs (fun o ho => run_loadN (cs := v_18) ho (by kernel_rfl) (by kernel_rfl) (part?_some h_17).2.2 (CellsAt.all 0 rfl) _ hs.own) fun a hs => ?_
  obtain ⟨v_22, h_21, hm⟩ := bind_t hm
  refine qcl (share_Value.ok _ _ _ _ h_21 _ _ (pt b_19 (blk v_18 28) :: pt b_3 (blk [cw 0, cw 0, cw 0, cw 0, cw 0, cw 0, cw 0, cw 0] 80) :: pt b_5 (blk q_10 80) :: S) A_x0 c_x0 hx_x0.less.less.less hs.own) hs fun w a hs => ?_
  obtain ⟨h_23, hm⟩ := ite_t hm
  refine qix b_5 0 1 hs h_23 fun a hs => ?_
  obtain ⟨h_24, hm⟩ := ite_t hm
  refine Vk.step (Vk.store1 (b := b_5) (ty := 32) (x := (.tmp 17)) (y := (.tmp 16)) (off := 0 + q_11.toNat * 1) (cw v_22) 2 hs (by kernel_rfl) (by kernel_rfl) (by kernel_rfl) (by kernel_rfl) (by kernel_rfl) (by kernel_rfl) rfl h_24 fun a w hs => ?_)
  refine qpk 0 [0, 4, 5, 8, 9] hs fun a hs => hK14 _ _ ?_
  clear hK14
  refine Vk.region ?_
  refine qpk 2 [0, 4, 5, 8, 9] hs fun a hs => ?_
  refine ih ((q_10.set (0 + q_11.toNat * 1) (cw v_22)), (IntKind.i64.wrap (q_11 + 1))) _ _ ⟨hm, hs.go [0, 4, 5, 8, 9] [1, 2] 3 (by kernel_rfl) (by kernel_rfl) (by kernel_rfl)⟩
 ·replace hm := bif_f hm hb
  refine wp_exit ?_
  exact hx9 q_10 (Option.some.inj hm).symm _ _ (hs.go [4, 5] [0, 1] 2 (by kernel_rfl) (by kernel_rfl) (by kernel_rfl))


def visorref33_Join.l2 (x0 : Cells) (q_12 : Int) : Nat → Int → Int → Option (Int)
 | 0, _, _ => none
 | k + 1, q_21, q_22 => (bif decide (q_22 < 8) then (if 0 ≤ q_22 ∧ q_22 < 8 then (getI .u64 x0 (0 + q_22.toNat * 1)).bind fun v_28 => (if 0 ≤ IntKind.u64.wrap q_12 then (if 0 ≤ IntKind.u64.wrap q_22 then visorref33_Join.l2 x0 q_12 k (IntKind.u8.wrap (q_21 + (shl .u8 (IntKind.u8.wrap (Int.tmod (shr .u64 v_28 (IntKind.u64.wrap q_12)) 2)) (IntKind.u64.wrap q_22)))) (IntKind.i64.wrap (q_22 + 1)) else none) else none) else none) else some q_21)
def visorref33_Join.l1 (x0 : Cells) (x1 : Int) : Nat → (List Int) → Int → Option (List Int)
 | 0, _, _ => none
 | k + 1, q_11, q_12 => (bif (decide (q_12 < x1)) && (decide (q_12 < 64)) then (visorref33_Join.l2 x0 q_12 k 0 0).bind fun p_31 => (if (q_11.length + ([p_31] : List Int).length) * 1 ≤ 140737488355328 then visorref33_Join.l1 x0 x1 k (q_11 ++ ([p_31] : List Int)) (IntKind.i64.wrap (q_12 + 1)) else none) else some q_11)
abbrev visorref33_Join.R (κ : Ctx) (S : List HP) (x0 : Cells) (x1 : Int) (r : List Int) : Ending → World → Prop := fun e w' => ∃ (A_r0 : Option Addr), ∃ (c_r0 : Nat), e = .returned (.slice A_r0 r.length c_r0) ∧ Ow κ w' (rowp A_r0 c_r0 5 1 (eI .u8) r :: S)
def visorref33_Join.m (k : Nat) (x0 : Cells) (x1 : Int) : Option (List Int) := (visorref33_Join.l1 x0 x1 k ([] : List Int) 0).bind fun p_41 => some p_41

set_option maxRecDepth 100000 in
set_option maxHeartbeats 4000000 in
theorem visorref33_Join.ok (k : Nat) (x0 : Cells) (x1 : Int) (r : List Int) (hm : visorref33_Join.m k x0 x1 = some r) (κ : Ctx) (w : World) (S : List HP) (ho : Ow κ w (S)) :
  Calls Try.prog 39 #[.agg (vals x0), vi x1] w (visorref33_Join.R κ S x0 x1 r) := by
 unfold visorref33_Join.m at hm
 generalize hRR : visorref33_Join.R κ S x0 x1 r = RR
 refine qen [(0, .agg (vals x0)), (1, vi x1)] Try.func39 Try.ntmps39 ho fun a hs => ?_
 refine qsr fun K1 hK1 => ?_
 refine qbx 0 80 x0 2 hs fun b_2 w a hs => ?_
 refine qpe 1 [(1, vi x1), (2, pp b_2)] hs fun a hs => hK1 _ _ ?_
 clear hK1
 refine qsr fun K3 hK3 => ?_
 refine Vk.step (Vk.buildOp (sz := 1) (by_ := 1) (t := 69) (e := 5) (parts := #[]) (zs := vals [C.int .u8 0]) ([] : List Int) (eI .u8) (some 9) hs (by kernel_rfl) (by kernel_rfl) (by kernel_rfl) (by kernel_rfl) (by decide) rfl (fun x _ => rfl) (Nat.le_of_ble_eq_true (by kernel_rfl)) (by kernel_rfl) fun A_4 w a hs => ?_)
 refine qpk 1 [1, 2, 5] hs fun a hs => hK3 _ _ ?_
 clear hK3
 refine Vk.seq fun K6 hK6 => ?_
 refine qsk 1 [1, 2, 5, 6] hs fun a hs => ?_
 refine wp_block ?_
 obtain ⟨r8, hl8, hm⟩ := bind_t hm
 have hx8 : ∀ (p_41 : List Int), r8 = p_41 → ∀ (A_39 : Option Addr) (c_40 : Nat) (a : Act) (w : World), St 41 a w κ [(5, .slice A_39 p_41.length c_40)] (rowp A_39 c_40 5 1 (eI .u8) p_41 :: S) → K6 a w := by
  intro p_41 he A_39 c_40 a w hs
  subst r8
  refine hK6 _ _ ?_
  clear hK6
  refine qse 2 [(4, .slice A_39 p_41.length c_40)] hs fun a hs => ?_
  refine wp_ret ?_
  exact qr1 (.slice A_39 p_41.length c_40) hs rfl hRR (by cases hm; exact ⟨A_39, c_40, rfl, hs.own⟩)
 refine Vk.loopBy (fun k (s : List Int × Int) a w => ∃ (A_9 : Option Addr), ∃ (c_10 : Nat), visorref33_Join.l1 x0 x1 k s.1 s.2 = some r8 ∧ St 41 a w κ [(1, vi x1), (2, pp b_2), (5, .slice A_9 s.1.length c_10), (6, vi s.2)] (pt b_2 (blk x0 80) :: rowp A_9 c_10 5 1 (eI .u8) s.1 :: S)) k (([] : List Int), 0) ⟨A_4, 0, hl8, hs.go [1, 2, 5, 6] [1, 0] 2 (by kernel_rfl) (by kernel_rfl) (by kernel_rfl)⟩ (fun s a w h => by obtain ⟨_, _, h1, _⟩ := h; simp [visorref33_Join.l1] at h1) (fun k KL8 ih s a w h => ?_)
 obtain ⟨q_11, q_12⟩ := s
 obtain ⟨A_9, c_10, hm, hs⟩ := h
 try dsimp only at hm hs
 rw [visorref33_Join.l1] at hm
 refine Vk.seq fun K13 hK13 => ?_
 refine qsr fun K14 hK14 => ?_
 refine qpu 4 hs fun a hs => ?_
 refine qsc 13 3 hs fun a hs => ?_
 refine qpk 0 [1, 2, 5, 6, 16] hs fun a hs => hK14 _ _ ?_
 clear hK14
 refine qcs ((decide (q_12 < x1)) && (decide (q_12 < 64))) hs (fun hb => ?_) fun hb => ?_
 ·replace hm := bif_t hm hb
  refine wp_skip ?_
  refine hK13 _ _ ?_
  clear hK13
  refine Vk.seq fun K16 hK16 => ?_
  refine wp_block ?_
  refine qsk 1 [1, 2, 5, 6, 7] hs fun a hs => ?_
  refine Vk.seq fun K18 hK18 => ?_
  refine qsk 1 [1, 2, 5, 6, 7, 8] hs fun a hs => ?_
  refine wp_block ?_
  obtain ⟨r20, hl20, hm⟩ := bind_t hm
  have hx20 : ∀ (p_31 : Int), r20 = p_31 → ∀ (a : Act) (w : World), St 41 a w κ [(1, vi x1), (2, pp b_2), (5, .slice A_9 q_11.length c_10), (6, vi q_12), (7, .int .u8 p_31)] (pt b_2 (blk x0 80) :: rowp A_9 c_10 5 1 (eI .u8) q_11 :: S) → K18 a w := by
   intro p_31 he a w hs
   subst r20
   refine hK18 _ _ ?_
   clear hK18
   refine Vk.region ?_
   refine qpu 2 hs fun a hs => ?_
   refine Vk.step (Vk.buildOp (sz := 1) (by_ := 1) (t := 69) (e := 5) (parts := #[(0, (.tmp 37))]) (zs := vals [C.int .u8 0]) ([p_31] : List Int) (eI .u8) (some 38) hs (by kernel_rfl) (by kernel_rfl) (by kernel_rfl) (by kernel_rfl) (by decide) rfl (fun x _ => rfl) (Nat.le_of_ble_eq_true (by kernel_rfl)) (by kernel_rfl) fun A_34 w a hs => ?_)
   obtain ⟨h_36, hm⟩ := ite_t hm
   refine Vk.step (Vk.appendOp (x := (.tmp 36)) (y := (.tmp 38)) (e := 5) (t := 69) (by_ := 1) (sz := 1) (enc := (eI .u8)) (A := A_9) (cap := c_10) (xs := q_11) (ys := ([p_31] : List Int)) (B := A_34) (c2 := 1) 2 (some 39) hs (by kernel_rfl) (by kernel_rfl) (by kernel_rfl) (by kernel_rfl) rfl (Sl.lift (fun w ho => (Ow.to (S' := rowp A_34 1 5 1 (eI .u8) ([p_31] : List Int) :: S) ho [0] 3 (by kernel_rfl) (by kernel_rfl))) (Ow.rowSl 0 (Ow.to (S' := rowp A_34 1 5 1 (eI .u8) ([p_31] : List Int) :: S) hs.own [0] 3 (by kernel_rfl) (by kernel_rfl)) rfl)) (by kernel_rfl) (by kernel_rfl) (by decide) (by decide) h_36 fun A_37 c_38 w a hs => ?_)
   refine qpk 1 [1, 2, 5, 6] hs fun a hs => hK16 _ _ ?_
   clear hK16
   refine Vk.region ?_
   refine qpe 3 [(1, vi x1), (2, pp b_2), (5, .slice A_37 ((q_11 ++ ([p_31] : List Int)).length) c_38), (6, vi (IntKind.i64.wrap (q_12 + 1)))] hs fun a hs => ?_
   refine ih ((q_11 ++ ([p_31] : List Int)), (IntKind.i64.wrap (q_12 + 1))) _ _ ⟨A_37, c_38, hm, hs.go [1, 2, 5, 6] [1, 2] 3 (by kernel_rfl) (by kernel_rfl) (by kernel_rfl)⟩
  refine Vk.loopBy (fun k (s : Int × Int) a w => visorref33_Join.l2 x0 q_12 k s.1 s.2 = some r20 ∧ St 41 a w κ [(1, vi x1), (2, pp b_2), (5, .slice A_9 q_11.length c_10), (6, vi q_12), (7, .int .u8 s.1), (8, vi s.2)] (pt b_2 (blk x0 80) :: rowp A_9 c_10 5 1 (eI .u8) q_11 :: S)) k (0, 0) ⟨hl20, hs.go [1, 2, 5, 6, 7, 8] [0, 1] 2 (by kernel_rfl) (by kernel_rfl) (by kernel_rfl)⟩ (fun s a w h => by obtain ⟨h1, _⟩ := h; simp [visorref33_Join.l2] at h1) (fun k KL20 ih s a w h => ?_)
  obtain ⟨q_21, q_22⟩ := s
  obtain ⟨hm, hs⟩ := h
  try dsimp only at hm hs
  rw [visorref33_Join.l2] at hm
  refine Vk.seq fun K23 hK23 => ?_
  refine qsk 2 [1, 2, 5, 6, 7, 8, 20] hs fun a hs => ?_
  refine qcs (decide (q_22 < 8)) hs (fun hb => ?_) fun hb => ?_
  ·replace hm := bif_t hm hb
   refine wp_skip ?_
   refine hK23 _ _ ?_
   clear hK23
   refine Vk.seq fun K25 hK25 => ?_
   refine wp_block ?_
   refine Vk.region ?_
   refine qpu 2 hs fun a hs => ?_
   obtain ⟨h_26, hm⟩ := ite_t hm
   refine qix b_2 0 1 hs h_26 fun a hs => ?_
   obtain ⟨v_28, h_27, hm⟩ := bind_t hm
   refine qli 0 hs rfl h_27 fun a hs => ?_
   refine qpu 2 hs fun a hs => ?_
   obtain ⟨h_29, hm⟩ := ite_t hm
   refine qva (vw (shr .u64 v_28 (IntKind.u64.wrap q_12))) (op := (.binOp .shr 32 (.tmp 26) (.tmp 28) 24)) hs (fun o ho => run_shr (k' := .u64) ho (by kernel_rfl) (by kernel_rfl) h_29 _) fun a hs => ?_
   refine qpu 4 hs fun a hs => ?_
   obtain ⟨h_30, hm⟩ := ite_t hm
   refine qva (.int .u8 (shl .u8 (IntKind.u8.wrap (Int.tmod (shr .u64 v_28 (IntKind.u64.wrap q_12)) 2)) (IntKind.u64.wrap q_22))) (op := (.binOp .shl 5 (.tmp 31) (.tmp 33) 24)) hs (fun o ho => run_shl (k' := .u64) ho (by kernel_rfl) (by kernel_rfl) h_30 _) fun a hs => ?_
   refine qpk 2 [1, 2, 5, 6, 7, 8] hs fun a hs => hK25 _ _ ?_
   clear hK25
   refine Vk.region ?_
   refine qpk 3 [1, 2, 5, 6, 7, 8] hs fun a hs => ?_
   refine ih ((IntKind.u8.wrap (q_21 + (shl .u8 (IntKind.u8.wrap (Int.tmod (shr .u64 v_28 (IntKind.u64.wrap q_12)) 2)) (IntKind.u64.wrap q_22)))), (IntKind.i64.wrap (q_22 + 1))) _ _ ⟨hm, hs.go [1, 2, 5, 6, 7, 8] [0, 1] 2 (by kernel_rfl) (by kernel_rfl) (by kernel_rfl)⟩
  ·replace hm := bif_f hm hb
   refine wp_exit ?_
   exact hx20 q_21 (Option.some.inj hm).symm _ _ (hs.go [1, 2, 5, 6, 7] [0, 1] 2 (by kernel_rfl) (by kernel_rfl) (by kernel_rfl))
 ·replace hm := bif_f hm hb
  refine wp_exit ?_
  exact hx8 q_11 (Option.some.inj hm).symm A_9 c_10 _ _ (hs.go [5] [1] 2 (by kernel_rfl) (by kernel_rfl) (by kernel_rfl))

end Go.Proofs.Ytflgefjocjpjaaa
