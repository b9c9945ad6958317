/- Of each Go function that SlicePlays comes to: a model in plain Lean, and that the program's call does what the model says; no condition. -/
import Derived.Test.YtflgefjocjpjaaaGreatProg
import Derived.Test.YtflgefjocjpjaaaGreatVokkakgfh
import Derived.Test.YtflgefjocjpjaaaGreatMSlicePlays0
namespace Go.Proofs.YtflgefjocjpjaaaGreat
open Go Go.Vk
set_option linter.unusedVariables false


def visorref19_M_Do.j6 (k : Nat) (x1 : Tapi_Op) (p_84 : Int) (p_100 : Tvisorref19_M) : Option ((Int × Tvisorref19_M)) := (visorref19_M_At.m k p_100 x1.a).bind fun v_110 => (visorref19_M_At.m k p_100 x1.b).bind fun v_113 => (visorref19_M_At.m k p_100 x1.d).bind fun v_116 => (visorref17_Eval.m k x1 v_110 v_113 v_116 p_84).bind fun v_119 => (if (p_100.val.length + ([v_119] : List Int).length) * 8 ≤ 140737488355328 then (if (p_100.ops.length + ([x1] : List Tapi_Op).length) * 48 ≤ 140737488355328 then (visorref19_M_Len.m k (⟨p_100.n, p_100.most, p_100.words, p_100.draws, p_100.fromF, p_100.skip, p_100.kind, p_100.e, p_100.ops ++ ([x1] : List Tapi_Op), p_100.blocks, p_100.val ++ ([v_119] : List Int), p_100.tape, p_100.dry⟩ : Tvisorref19_M)).bind fun v_135 => some (IntKind.i64.wrap (v_135 - 1), (⟨p_100.n, p_100.most, p_100.words, p_100.draws, p_100.fromF, p_100.skip, p_100.kind, p_100.e, p_100.ops ++ ([x1] : List Tapi_Op), p_100.blocks, p_100.val ++ ([v_119] : List Int), p_100.tape, p_100.dry⟩ : Tvisorref19_M)) else none) else none)
def visorref19_M_Do.j5 (k : Nat) (x1 : Tapi_Op) (p_84 : Int) (p_92 : Tvisorref19_M) : Option ((Int × Tvisorref19_M)) := (bif x1.kind == 2 then visorref19_M_Do.j6 k x1 p_84 (⟨p_92.n, p_92.most, IntKind.i64.wrap (p_92.words + 1), p_92.draws, p_92.fromF, p_92.skip, p_92.kind, p_92.e, p_92.ops, p_92.blocks, p_92.val, p_92.tape, p_92.dry⟩ : Tvisorref19_M) else visorref19_M_Do.j6 k x1 p_84 p_92)
def visorref19_M_Do.j4 (k : Nat) (x1 : Tapi_Op) (p_83 : Tvisorref19_M) (p_84 : Int) : Option ((Int × Tvisorref19_M)) := (bif x1.kind == 1 then visorref19_M_Do.j5 k x1 p_84 (⟨p_83.n, p_83.most, p_83.words, IntKind.i64.wrap (p_83.draws + 1), p_83.fromF, p_83.skip, p_83.kind, p_83.e, p_83.ops, p_83.blocks, p_83.val, p_83.tape, p_83.dry⟩ : Tvisorref19_M) else visorref19_M_Do.j5 k x1 p_84 p_83)
def visorref19_M_Do.j3 (k : Nat) (x1 : Tapi_Op) (p_74 : Int) (p_75 : Bool) (p_76 : Tvisorref19_M) : Option ((Int × Tvisorref19_M)) := (bif !p_75 then (visorref19_M_Fails.m k p_76 2).bind fun v_82 => some (v_82.1, v_82.2) else visorref19_M_Do.j4 k x1 p_76 p_74)
def visorref19_M_Do.j2 (k : Nat) (x0 : Tvisorref19_M) (x1 : Tapi_Op) (x2 : Int) (p_36 : Bool) : Option ((Int × Tvisorref19_M)) := (bif p_36 then (visorref19_M_Fails.m k x0 3).bind fun v_40 => some (v_40.1, v_40.2) else (bif (x1.kind == 1) && (!x0.dry) then (bif (decide (x0.tape.free < 1)) || (((x0.tape.l.length : Nat) : Int) == 0) then visorref19_M_Do.j3 k x1 0 false x0 else (if 0 ≤ (0 : Int) then (x0.tape.l[0]?).bind fun e_60 => (if ((0 : Int) ≤ 1) ∧ 1 ≤ x0.tape.l.length ∧ x0.tape.l.length ≤ x0.tape.l.length then visorref19_M_Do.j3 k x1 e_60 true (⟨x0.n, x0.most, x0.words, x0.draws, x0.fromF, x0.skip, x0.kind, x0.e, x0.ops, x0.blocks, x0.val, (⟨cut x0.tape.l (1) (x0.tape.l.length), IntKind.i64.wrap (x0.tape.used + 1), IntKind.i64.wrap (x0.tape.free - 1)⟩ : Tvisorref02_T), x0.dry⟩ : Tvisorref19_M) else none) else none)) else visorref19_M_Do.j4 k x1 x0 x2))
def visorref19_M_Do.j1 (k : Nat) (x0 : Tvisorref19_M) (x1 : Tapi_Op) (x2 : Int) (p_20 : Bool) : Option ((Int × Tvisorref19_M)) := (bif p_20 then (visorref19_M_Fails.m k x0 1).bind fun v_24 => some (v_24.1, v_24.2) else (bif !x0.dry then (visorref19_M_Len.m k x0).bind fun v_35 => visorref19_M_Do.j2 k x0 x1 x2 (decide (v_35 ≥ x0.most)) else visorref19_M_Do.j2 k x0 x1 x2 false))
abbrev visorref19_M_Do.R (κ : Ctx) (S : List HP) (x0 : Tvisorref19_M) (x1 : Tapi_Op) (x2 : Int) (b_x0 : Nat) (r : (Int × Tvisorref19_M)) : Ending → World → Prop := fun e w' => e = .returned (vi r.1) ∧ Ow κ w' (Tvisorref19_M.own κ b_x0 r.2 :: S)
def visorref19_M_Do.m (k : Nat) (x0 : Tvisorref19_M) (x1 : Tapi_Op) (x2 : Int) : Option (Int × Tvisorref19_M) := (bif x0.e != 0 then some ((-1), x0) else (visorref19_M_Len.m k x0).bind fun v_16 => (visorref17_Right.m k x1 v_16 x0.n).bind fun v_19 => (bif !v_19 then visorref19_M_Do.j1 k x0 x1 x2 true else (bif x1.kind == 2 then visorref19_M_Do.j1 k x0 x1 x2 (x1.c != (IntKind.u64.wrap x0.words)) else visorref19_M_Do.j1 k x0 x1 x2 false)))

set_option maxRecDepth 100000 in
set_option maxHeartbeats 4000000 in
theorem visorref19_M_Do.ok (k : Nat) (x0 : Tvisorref19_M) (x1 : Tapi_Op) (x2 : Int) (r : (Int × Tvisorref19_M)) (hm : visorref19_M_Do.m k x0 x1 x2 = some r) (κ : Ctx) (w : World) (S : List HP) (b_x0 : Nat) (ho : Ow κ w (Tvisorref19_M.own κ b_x0 x0 :: S)) :
  Calls Tryz.prog 82 #[pp b_x0, .agg (vals [ci x1.kind, ci x1.dom, ci x1.a, ci x1.b, ci x1.d, cw x1.c]), vw x2] w (visorref19_M_Do.R κ S x0 x1 x2 b_x0 r) := by
 unfold visorref19_M_Do.m at hm
 generalize hRR : visorref19_M_Do.R κ S x0 x1 x2 b_x0 r = RR
 refine qen [(0, pp b_x0), (1, .agg (vals [ci x1.kind, ci x1.dom, ci x1.a, ci x1.b, ci x1.d, cw x1.c])), (2, vw x2)] Tryz.func82 Tryz.ntmps82 ho fun a hs => ?_
 refine qsr fun K1 hK1 => ?_
 refine qbx 1 103 [ci x1.kind, ci x1.dom, ci x1.a, ci x1.b, ci x1.d, cw x1.c] 4 hs fun b_2 w a hs => ?_
 refine qpe 1 [(0, pp b_x0), (2, vw x2), (4, pp b_2)] hs fun a hs => hK1 _ _ ?_
 clear hK1
 refine Vk.seq fun K3 hK3 => ?_
 refine qsr fun K4 hK4 => ?_
 refine qpu 3 hs fun a hs => ?_
 obtain ⟨g_5, hs⟩ := hs.unbag 1 rfl
 refine qld 0 (ci x0.e) hs rfl fun a hs => ?_
 refine qpk 1 [0, 2, 4, 13] hs fun a hs => hK4 _ _ ?_
 clear hK4
 refine qcs (x0.e != 0) hs (fun hb => ?_) fun hb => ?_
 ·replace hm := bif_t hm hb
  refine qse 1 [(6, vi (-1))] hs fun a hs => ?_
  refine wp_ret ?_
  replace hs := hs.bagG (l := Tvisorref19_M.parts κ b_x0 x0 g_5) (S' := pt b_2 (blk (Tapi_Op.cells x1) 103) :: S) hs.own
  replace hs := hs.toEx (Tvisorref19_M.parts κ b_x0 x0) g_5 0 rfl
  exact qr1 (vi (-1)) hs rfl hRR (by cases hm; exact ⟨rfl, hs.own.f1.drop⟩)
 ·replace hm := bif_f hm hb
  refine wp_skip ?_
  refine hK3 _ _ ?_
  clear hK3
  refine Vk.seq fun K11 hK11 => ?_
  refine Vk.seq fun K12 hK12 => ?_
  have hj12 : ∀ (p_20 : Bool), visorref19_M_Do.j1 k x0 x1 x2 p_20 = some r → ∀ (a : Act) (w : World), St 137 a w κ [(0, pp b_x0), (2, vw x2), (4, pp b_2), (37, .bool p_20)] (Tvisorref19_M.own κ b_x0 x0 :: pt b_2 (blk (Tapi_Op.cells x1) 103) :: S) → K12 a w := by
   intro p_20 hm a w hs
   unfold visorref19_M_Do.j1 at hm
   refine hK12 _ _ ?_
   refine qcs (p_20) hs (fun hb => ?_) fun hb => ?_
   ·replace hm := bif_t hm hb
    refine qsr fun K21 hK21 => ?_
    refine qpu 1 hs fun a hs => ?_
    obtain ⟨v_24, h_23, hm⟩ := bind_t hm
    refine qcl (visorref19_M_Fails.ok _ _ _ _ h_23 _ _ _ b_x0 hs.own) hs fun w a hs => ?_
    refine qpe 1 [(6, vi v_24.1)] hs fun a hs => hK21 _ _ ?_
    clear hK21
    refine wp_ret ?_
    exact qr1 (vi v_24.1) hs rfl hRR (by cases hm; exact ⟨rfl, hs.own.f1.drop⟩)
   ·replace hm := bif_f hm hb
    refine wp_skip ?_
    refine hK11 _ _ ?_
    clear hK11
    refine Vk.seq fun K25 hK25 => ?_
    refine Vk.seq fun K26 hK26 => ?_
    have hj26 : ∀ (p_36 : Bool), visorref19_M_Do.j2 k x0 x1 x2 p_36 = some r → ∀ (a : Act) (w : World), St 137 a w κ [(0, pp b_x0), (2, vw x2), (4, pp b_2), (53, .bool p_36)] (Tvisorref19_M.own κ b_x0 x0 :: pt b_2 (blk (Tapi_Op.cells x1) 103) :: S) → K26 a w := by
     intro p_36 hm a w hs
     unfold visorref19_M_Do.j2 at hm
     refine hK26 _ _ ?_
     refine qcs (p_36) hs (fun hb => ?_) fun hb => ?_
     ·replace hm := bif_t hm hb
      refine qsr fun K37 hK37 => ?_
      refine qpu 1 hs fun a hs => ?_
      obtain ⟨v_40, h_39, hm⟩ := bind_t hm
      refine qcl (visorref19_M_Fails.ok _ _ _ _ h_39 _ _ _ b_x0 hs.own) hs fun w a hs => ?_
      refine qpe 1 [(6, vi v_40.1)] hs fun a hs => hK37 _ _ ?_
      clear hK37
      refine wp_ret ?_
      exact qr1 (vi v_40.1) hs rfl hRR (by cases hm; exact ⟨rfl, hs.own.f1.drop⟩)
     ·replace hm := bif_f hm hb
      refine wp_skip ?_
      refine hK25 _ _ ?_
      clear hK25
      refine Vk.seq fun K41 hK41 => ?_
      have hj41 : ∀ (p_83 : Tvisorref19_M) (p_84 : Int), visorref19_M_Do.j4 k x1 p_83 p_84 = some r → ∀ (a : Act) (w : World), St 137 a w κ [(0, pp b_x0), (2, vw p_84), (4, pp b_2)] (Tvisorref19_M.own κ b_x0 p_83 :: pt b_2 (blk (Tapi_Op.cells x1) 103) :: S) → K41 a w := by
       intro p_83 p_84 hm a w hs
       unfold visorref19_M_Do.j4 at hm
       refine hK41 _ _ ?_
       refine Vk.seq fun K85 hK85 => ?_
       have hj85 : ∀ (p_92 : Tvisorref19_M), visorref19_M_Do.j5 k x1 p_84 p_92 = some r → ∀ (a : Act) (w : World), St 137 a w κ [(0, pp b_x0), (2, vw p_84), (4, pp b_2)] (Tvisorref19_M.own κ b_x0 p_92 :: pt b_2 (blk (Tapi_Op.cells x1) 103) :: S) → K85 a w := by
        intro p_92 hm a w hs
        unfold visorref19_M_Do.j5 at hm
        refine hK85 _ _ ?_
        refine Vk.seq fun K93 hK93 => ?_
        have hj93 : ∀ (p_100 : Tvisorref19_M), visorref19_M_Do.j6 k x1 p_84 p_100 = some r → ∀ (a : Act) (w : World), St 137 a w κ [(0, pp b_x0), (2, vw p_84), (4, pp b_2)] (Tvisorref19_M.own κ b_x0 p_100 :: pt b_2 (blk (Tapi_Op.cells x1) 103) :: S) → K93 a w := by
         intro p_100 hm a w hs
         unfold visorref19_M_Do.j6 at hm
         refine hK93 _ _ ?_
         refine Vk.seq fun K101 hK101 => ?_
         obtain ⟨g_102, hs⟩ := hs.unbag 0 rfl
         obtain ⟨C_107, hC_107⟩ := qC hs.own.f3.drop
         refine qdr 22 κ C_107 hs fun w hs hqC_107 => ?_
         have hcl := qO hC_107 hs.own.f3.drop
         refine qdp (fuel := 14) [0, 1, 2, 3, 6, 7, 10, 11, 14, 15, 18] hs hcl hqC_107 fun a hs => ?_
         refine qdl 4 0 (C.slc g_102.2.2.2.2.1 p_100.val.length g_102.2.2.2.2.2.1) hs hcl hqC_107 hC_107 rfl fun a hs => ?_
         refine qdn 5 4 ([ci x1.kind, ci x1.dom, ci x1.a, ci x1.b, ci x1.d, cw x1.c]) hs hcl hqC_107 hC_107 rfl fun a hs => ?_
         refine qdl 8 4 (ci x1.a) hs hcl hqC_107 hC_107 rfl fun a hs => ?_
         refine qdl 12 4 (ci x1.b) hs hcl hqC_107 hC_107 rfl fun a hs => ?_
         refine qdl 16 4 (ci x1.d) hs hcl hqC_107 hC_107 rfl fun a hs => ?_
         replace hs := hs.bagG (l := Tvisorref19_M.parts κ b_x0 p_100 g_102) (S' := pt b_2 (blk (Tapi_Op.cells x1) 103) :: S) hs.own
         obtain ⟨v_110, h_109, hm⟩ := bind_t hm
         refine qdc 9 (visorref19_M_At.ok _ _ _ _ h_109 _ _ _ b_x0 g_102 hs.own) hs fun w a hs => ?_
         replace hs := hs.unbagAt 0 rfl
         replace hcl := qO hC_107 hs.own.f3.drop
         refine ⟨fun _ => hcl, ?_⟩
         replace hs := hs.bagG (l := Tvisorref19_M.parts κ b_x0 p_100 g_102) (S' := pt b_2 (blk (Tapi_Op.cells x1) 103) :: S) hs.own
         obtain ⟨v_113, h_112, hm⟩ := bind_t hm
         refine qdc 13 (visorref19_M_At.ok _ _ _ _ h_112 _ _ _ b_x0 g_102 hs.own) hs fun w a hs => ?_
         replace hs := hs.unbagAt 0 rfl
         replace hcl := qO hC_107 hs.own.f3.drop
         refine ⟨fun _ => hcl, ?_⟩
         replace hs := hs.bagG (l := Tvisorref19_M.parts κ b_x0 p_100 g_102) (S' := pt b_2 (blk (Tapi_Op.cells x1) 103) :: S) hs.own
         obtain ⟨v_116, h_115, hm⟩ := bind_t hm
         refine qdc 17 (visorref19_M_At.ok _ _ _ _ h_115 _ _ _ b_x0 g_102 hs.own) hs fun w a hs => ?_
         replace hs := hs.unbagAt 0 rfl
         replace hcl := qO hC_107 hs.own.f3.drop
         refine ⟨fun _ => hcl, ?_⟩
         obtain ⟨v_119, h_118, hm⟩ := bind_t hm
         refine qdc 19 (visorref17_Eval.ok _ _ _ _ _ _ _ h_118 _ _ (pt b_x0 (blk (Tvisorref19_M.obj p_100 g_102.1 g_102.2.1 g_102.2.2.1 g_102.2.2.2.1 g_102.2.2.2.2.1 g_102.2.2.2.2.2.1 g_102.2.2.2.2.2.2.1 g_102.2.2.2.2.2.2.2) 54) :: rowp g_102.1 g_102.2.1 103 6 Tapi_Op.cells p_100.ops :: rowp g_102.2.2.1 g_102.2.2.2.1 119 3 Tapi_Span.cells p_100.blocks :: rowp g_102.2.2.2.2.1 g_102.2.2.2.2.2.1 23 1 (eI .u64) p_100.val :: rdp κ g_102.2.2.2.2.2.2.1 g_102.2.2.2.2.2.2.2 1 (eI .u64) p_100.tape.l :: pt b_2 (blk (Tapi_Op.cells x1) 103) :: S) hs.own) hs fun w a hs => ?_
         replace hcl := qO hC_107 hs.own.f3.drop
         refine ⟨fun _ => hcl, ?_⟩
         refine Vk.dOnly (i := 20) (by kernel_rfl) (Vk.buildOp (sz := 1) (by_ := 8) (t := 24) (e := 23) (parts := #[(0, (.tmp 119))]) (zs := vals [cw 0]) ([v_119] : List Int) (eI .u64) (some 120) hs (by kernel_rfl) (by kernel_rfl) (by kernel_rfl) (by kernel_rfl) (by decide) rfl (fun x _ => rfl) (Nat.le_of_ble_eq_true (by kernel_rfl)) (by kernel_rfl) fun A_120 w a hs => ?_)
         replace hcl := qO hC_107 hs.own.f4.drop.drop
         refine ⟨fun _ => hcl, ?_⟩
         obtain ⟨h_122, hm⟩ := ite_t hm
         refine Vk.dOnly (i := 21) (by kernel_rfl) (Vk.appendOp (x := (.tmp 104)) (y := (.tmp 120)) (e := 23) (t := 24) (by_ := 8) (sz := 1) (enc := (eI .u64)) (A := g_102.2.2.2.2.1) (cap := g_102.2.2.2.2.2.1) (xs := p_100.val) (ys := ([v_119] : List Int)) (B := A_120) (c2 := 1) 4 (some 121) hs (by kernel_rfl) (by kernel_rfl) (by kernel_rfl) (by kernel_rfl) rfl (Sl.lift (fun w ho => (Ow.to (S' := rowp A_120 1 23 1 (eI .u64) ([v_119] : List Int) :: S) ho [0] 7 (by kernel_rfl) (by kernel_rfl))) (Ow.rowSl 0 (Ow.to (S' := rowp A_120 1 23 1 (eI .u64) ([v_119] : List Int) :: S) hs.own [0] 7 (by kernel_rfl) (by kernel_rfl)) rfl)) (by kernel_rfl) (by kernel_rfl) (by decide) (by decide) h_122 fun A_123 c_124 w a hs => ?_)
         replace hcl := qO hC_107 hs.own.f4.drop.drop
         refine ⟨fun _ => hcl, ?_⟩
         refine Vk.dOnly (i := 22) (by kernel_rfl) (Vk.dPure1 [(122, pp b_x0)] hs (by kernel_rfl) fun a hs => ?_)
         refine ⟨fun h => absurd h (by decide), ?_⟩
         refine Vk.dOnly (i := 23) (by kernel_rfl) (Vk.dPure1 [(123, .pointer (some ⟨b_x0, 10, none⟩))] hs (by kernel_rfl) fun a hs => ?_)
         refine ⟨fun h => absurd h (by decide), ?_⟩
         refine qsd 24 1 10 (C.slc A_123 ((p_100.val ++ ([v_119] : List Int)).length) c_124) hs rfl fun a w hs => ?_
         refine ⟨fun h => absurd h (by decide), ?_⟩
         replace hs := hs.pick [0, 4] (L' := [(0, pp b_x0), (4, pp b_2)]) (by kernel_rfl)
         refine Vk.dDone (by kernel_rfl) ?_
         refine hK101 _ _ ?_
         clear hK101
         refine Vk.seq fun K125 hK125 => ?_
         obtain ⟨C_126, hC_126⟩ := qC hs.own.f2.drop
         refine qdr 8 κ C_126 hs fun w hs hqC_126 => ?_
         have hcl := qO hC_126 hs.own.f2.drop
         refine qdp (fuel := 7) [0, 1, 2, 3] hs hcl hqC_126 fun a hs => ?_
         refine qdl 4 1 (C.slc g_102.1 p_100.ops.length g_102.2.1) hs hcl hqC_126 hC_126 rfl fun a hs => ?_
         refine qdn 5 5 ([ci x1.kind, ci x1.dom, ci x1.a, ci x1.b, ci x1.d, cw x1.c]) hs hcl hqC_126 hC_126 rfl fun a hs => ?_
         refine Vk.dOnly (i := 6) (by kernel_rfl) (Vk.buildOp (sz := 6) (by_ := 48) (t := 49) (e := 103) (parts := #[(0, (.tmp 129))]) (zs := vals [ci 0, ci 0, ci 0, ci 0, ci 0, cw 0]) ([x1] : List Tapi_Op) Tapi_Op.cells (some 130) hs (by kernel_rfl) (by kernel_rfl) (by kernel_rfl) (by kernel_rfl) (by decide) rfl (fun x _ => rfl) (Nat.le_of_ble_eq_true (by kernel_rfl)) (by kernel_rfl) fun A_127 w a hs => ?_)
         replace hcl := qO hC_126 hs.own.f3.drop.drop
         refine ⟨fun _ => hcl, ?_⟩
         obtain ⟨h_129, hm⟩ := ite_t hm
         refine Vk.dOnly (i := 7) (by kernel_rfl) (Vk.appendOp (x := (.tmp 128)) (y := (.tmp 130)) (e := 103) (t := 49) (by_ := 48) (sz := 6) (enc := Tapi_Op.cells) (A := g_102.1) (cap := g_102.2.1) (xs := p_100.ops) (ys := ([x1] : List Tapi_Op)) (B := A_127) (c2 := 1) 3 (some 131) hs (by kernel_rfl) (by kernel_rfl) (by kernel_rfl) (by kernel_rfl) rfl (Sl.lift (fun w ho => (Ow.to (S' := rowp A_127 1 103 6 Tapi_Op.cells ([x1] : List Tapi_Op) :: S) ho [0] 8 (by kernel_rfl) (by kernel_rfl))) (Ow.rowSl 0 (Ow.to (S' := rowp A_127 1 103 6 Tapi_Op.cells ([x1] : List Tapi_Op) :: S) hs.own [0] 8 (by kernel_rfl) (by kernel_rfl)) rfl)) (by kernel_rfl) (by kernel_rfl) (by decide) (by decide) h_129 fun A_130 c_131 w a hs => ?_)
         replace hcl := qO hC_126 hs.own.f3.drop.drop
         refine ⟨fun _ => hcl, ?_⟩
         refine Vk.dOnly (i := 8) (by kernel_rfl) (Vk.dPure1 [(132, pp b_x0)] hs (by kernel_rfl) fun a hs => ?_)
         refine ⟨fun h => absurd h (by decide), ?_⟩
         refine Vk.dOnly (i := 9) (by kernel_rfl) (Vk.dPure1 [(133, .pointer (some ⟨b_x0, 8, none⟩))] hs (by kernel_rfl) fun a hs => ?_)
         refine ⟨fun h => absurd h (by decide), ?_⟩
         refine qsd 10 2 8 (C.slc A_130 ((p_100.ops ++ ([x1] : List Tapi_Op)).length) c_131) hs rfl fun a w hs => ?_
         refine ⟨fun h => absurd h (by decide), ?_⟩
         replace hs := hs.pick [0] (L' := [(0, pp b_x0)]) (by kernel_rfl)
         refine Vk.dDone (by kernel_rfl) ?_
         refine hK125 _ _ ?_
         clear hK125
         refine qsr fun K132 hK132 => ?_
         refine qpu 1 hs fun a hs => ?_
         replace hs := hs.bagG (l := Tvisorref19_M.parts κ b_x0 (⟨p_100.n, p_100.most, p_100.words, p_100.draws, p_100.fromF, p_100.skip, p_100.kind, p_100.e, p_100.ops ++ ([x1] : List Tapi_Op), p_100.blocks, p_100.val ++ ([v_119] : List Int), p_100.tape, p_100.dry⟩ : Tvisorref19_M) (A_130, c_131, g_102.2.2.1, g_102.2.2.2.1, A_123, c_124, g_102.2.2.2.2.2.2.1, g_102.2.2.2.2.2.2.2)) (S' := rowp A_127 1 103 6 Tapi_Op.cells ([x1] : List Tapi_Op) :: rowp A_120 1 23 1 (eI .u64) ([v_119] : List Int) :: pt b_2 (blk (Tapi_Op.cells x1) 103) :: S) hs.own.f6.f6.f6.f6.f6
         obtain ⟨v_135, h_134, hm⟩ := bind_t hm
         refine qcl (visorref19_M_Len.ok _ _ _ h_134 _ _ _ b_x0 (A_130, c_131, g_102.2.2.1, g_102.2.2.2.1, A_123, c_124, g_102.2.2.2.2.2.2.1, g_102.2.2.2.2.2.2.2) hs.own) hs fun w a hs => ?_
         replace hs := hs.unbagAt 0 rfl
         refine qpk 2 [6] hs fun a hs => hK132 _ _ ?_
         clear hK132
         refine wp_ret ?_
         replace hs := hs.bagG (l := Tvisorref19_M.parts κ b_x0 (⟨p_100.n, p_100.most, p_100.words, p_100.draws, p_100.fromF, p_100.skip, p_100.kind, p_100.e, p_100.ops ++ ([x1] : List Tapi_Op), p_100.blocks, p_100.val ++ ([v_119] : List Int), p_100.tape, p_100.dry⟩ : Tvisorref19_M) (A_130, c_131, g_102.2.2.1, g_102.2.2.2.1, A_123, c_124, g_102.2.2.2.2.2.2.1, g_102.2.2.2.2.2.2.2)) (S' := rowp A_127 1 103 6 Tapi_Op.cells ([x1] : List Tapi_Op) :: rowp A_120 1 23 1 (eI .u64) ([v_119] : List Int) :: pt b_2 (blk (Tapi_Op.cells x1) 103) :: S) hs.own
         replace hs := hs.toEx (Tvisorref19_M.parts κ b_x0 (⟨p_100.n, p_100.most, p_100.words, p_100.draws, p_100.fromF, p_100.skip, p_100.kind, p_100.e, p_100.ops ++ ([x1] : List Tapi_Op), p_100.blocks, p_100.val ++ ([v_119] : List Int), p_100.tape, p_100.dry⟩ : Tvisorref19_M)) (A_130, c_131, g_102.2.2.1, g_102.2.2.2.1, A_123, c_124, g_102.2.2.2.2.2.2.1, g_102.2.2.2.2.2.2.2) 0 rfl
         exact qr1 (vi (IntKind.i64.wrap (v_135 - 1))) hs rfl hRR (by cases hm; exact ⟨rfl, (hs.own.too [0] 4)⟩)
        refine qsr fun K94 hK94 => ?_
        refine qpu 1 hs fun a hs => ?_
        refine qld 1 (ci x1.kind) hs rfl fun a hs => ?_
        refine qpe 1 [(0, pp b_x0), (2, vw p_84), (4, pp b_2), (91, .bool (x1.kind == 2))] hs fun a hs => hK94 _ _ ?_
        clear hK94
        refine qcs (x1.kind == 2) hs (fun hb => ?_) fun hb => ?_
        ·replace hm := bif_t hm hb
         refine Vk.region ?_
         refine qpu 4 hs fun a hs => ?_
         obtain ⟨g_95, hs⟩ := hs.unbag 0 rfl
         refine qld 0 (ci p_92.words) hs rfl fun a hs => ?_
         refine qpu 3 hs fun a hs => ?_
         refine qst 0 2 (ci (IntKind.i64.wrap (p_92.words + 1))) hs rfl fun a w hs => ?_
         refine qpe 0 [(0, pp b_x0), (2, vw p_84), (4, pp b_2)] hs fun a hs => ?_
         replace hs := hs.bagG (l := Tvisorref19_M.parts κ b_x0 (⟨p_92.n, p_92.most, IntKind.i64.wrap (p_92.words + 1), p_92.draws, p_92.fromF, p_92.skip, p_92.kind, p_92.e, p_92.ops, p_92.blocks, p_92.val, p_92.tape, p_92.dry⟩ : Tvisorref19_M) g_95) (S' := pt b_2 (blk (Tapi_Op.cells x1) 103) :: S) hs.own
         replace hs := hs.toEx (Tvisorref19_M.parts κ b_x0 (⟨p_92.n, p_92.most, IntKind.i64.wrap (p_92.words + 1), p_92.draws, p_92.fromF, p_92.skip, p_92.kind, p_92.e, p_92.ops, p_92.blocks, p_92.val, p_92.tape, p_92.dry⟩ : Tvisorref19_M)) g_95 0 rfl
         exact hj93 (⟨p_92.n, p_92.most, IntKind.i64.wrap (p_92.words + 1), p_92.draws, p_92.fromF, p_92.skip, p_92.kind, p_92.e, p_92.ops, p_92.blocks, p_92.val, p_92.tape, p_92.dry⟩ : Tvisorref19_M) hm _ _ (hs.go [0, 2, 4] [0, 1] 2 (by kernel_rfl) (by kernel_rfl) (by kernel_rfl))
        ·replace hm := bif_f hm hb
         refine wp_skip ?_
         exact hj93 p_92 hm _ _ (hs.go [0, 2, 4] [0, 1] 2 (by kernel_rfl) (by kernel_rfl) (by kernel_rfl))
       refine qsr fun K86 hK86 => ?_
       refine qpu 1 hs fun a hs => ?_
       refine qld 1 (ci x1.kind) hs rfl fun a hs => ?_
       refine qpe 1 [(0, pp b_x0), (2, vw p_84), (4, pp b_2), (80, .bool (x1.kind == 1))] hs fun a hs => hK86 _ _ ?_
       clear hK86
       refine qcs (x1.kind == 1) hs (fun hb => ?_) fun hb => ?_
       ·replace hm := bif_t hm hb
        refine Vk.region ?_
        refine qpu 4 hs fun a hs => ?_
        obtain ⟨g_87, hs⟩ := hs.unbag 0 rfl
        refine qld 0 (ci p_83.draws) hs rfl fun a hs => ?_
        refine qpu 3 hs fun a hs => ?_
        refine qst 0 3 (ci (IntKind.i64.wrap (p_83.draws + 1))) hs rfl fun a w hs => ?_
        refine qpe 0 [(0, pp b_x0), (2, vw p_84), (4, pp b_2)] hs fun a hs => ?_
        replace hs := hs.bagG (l := Tvisorref19_M.parts κ b_x0 (⟨p_83.n, p_83.most, p_83.words, IntKind.i64.wrap (p_83.draws + 1), p_83.fromF, p_83.skip, p_83.kind, p_83.e, p_83.ops, p_83.blocks, p_83.val, p_83.tape, p_83.dry⟩ : Tvisorref19_M) g_87) (S' := pt b_2 (blk (Tapi_Op.cells x1) 103) :: S) hs.own
        replace hs := hs.toEx (Tvisorref19_M.parts κ b_x0 (⟨p_83.n, p_83.most, p_83.words, IntKind.i64.wrap (p_83.draws + 1), p_83.fromF, p_83.skip, p_83.kind, p_83.e, p_83.ops, p_83.blocks, p_83.val, p_83.tape, p_83.dry⟩ : Tvisorref19_M)) g_87 0 rfl
        exact hj85 (⟨p_83.n, p_83.most, p_83.words, IntKind.i64.wrap (p_83.draws + 1), p_83.fromF, p_83.skip, p_83.kind, p_83.e, p_83.ops, p_83.blocks, p_83.val, p_83.tape, p_83.dry⟩ : Tvisorref19_M) hm _ _ (hs.go [0, 2, 4] [0, 1] 2 (by kernel_rfl) (by kernel_rfl) (by kernel_rfl))
       ·replace hm := bif_f hm hb
        refine wp_skip ?_
        exact hj85 p_83 hm _ _ (hs.go [0, 2, 4] [0, 1] 2 (by kernel_rfl) (by kernel_rfl) (by kernel_rfl))
      refine qsr fun K42 hK42 => ?_
      refine qpu 1 hs fun a hs => ?_
      refine qld 1 (ci x1.kind) hs rfl fun a hs => ?_
      refine qpu 2 hs fun a hs => ?_
      obtain ⟨g_43, hs⟩ := hs.unbag 0 rfl
      suffices hj_48 : ∀ a, St 137 a w κ [(0, pp b_x0), (2, vw x2), (4, pp b_2), (53, .bool p_36), (56, pp b_2), (57, vi x1.kind), (58, .bool (x1.kind == 1)), (59, .bool (x1.kind == 1)), (65, .bool ((x1.kind == 1) && (!x0.dry)))] (pt b_x0 (blk (Tvisorref19_M.obj x0 g_43.1 g_43.2.1 g_43.2.2.1 g_43.2.2.2.1 g_43.2.2.2.2.1 g_43.2.2.2.2.2.1 g_43.2.2.2.2.2.2.1 g_43.2.2.2.2.2.2.2) 54) :: rowp g_43.1 g_43.2.1 103 6 Tapi_Op.cells x0.ops :: rowp g_43.2.2.1 g_43.2.2.2.1 119 3 Tapi_Span.cells x0.blocks :: rowp g_43.2.2.2.2.1 g_43.2.2.2.2.2.1 23 1 (eI .u64) x0.val :: rdp κ g_43.2.2.2.2.2.2.1 g_43.2.2.2.2.2.2.2 1 (eI .u64) x0.tape.l :: pt b_2 (blk (Tapi_Op.cells x1) 103) :: S) → wpFrom Tryz.prog _ _ 10 a w by
       rcases Bool.eq_false_or_eq_true (x1.kind == 1) with hb | hb
       ·replace hs := hs.known (t := 59) hb (by kernel_rfl)
        refine qpu 3 hs fun a hs => ?_
        refine qld 0 (C.bool x0.dry) hs rfl fun a hs => ?_
        refine qpu 2 hs fun a hs => ?_
        have hq := hs.pick [0, 2, 4, 53, 56, 57, 58, 59, 65] (L' := [(0, pp b_x0), (2, vw x2), (4, pp b_2), (53, .bool p_36), (56, pp b_2), (57, vi x1.kind), (58, .bool (x1.kind == 1)), (59, .bool true), (65, .bool (!x0.dry))]) (by kernel_rfl)
        exact hj_48 _ (hq.conv (by first | (rw [hb] <;> rfl) | rfl))
       ·replace hs := hs.known (t := 59) hb (by kernel_rfl)
        refine qpu 6 hs fun a hs => ?_
        have hq := hs.pick [0, 2, 4, 53, 56, 57, 58, 59, 65] (L' := [(0, pp b_x0), (2, vw x2), (4, pp b_2), (53, .bool p_36), (56, pp b_2), (57, vi x1.kind), (58, .bool (x1.kind == 1)), (59, .bool false), (65, .bool false)]) (by kernel_rfl)
        exact hj_48 _ (hq.conv (by first | (rw [hb] <;> rfl) | rfl))
      intro a hs
      refine qpk 0 [0, 2, 4, 65] hs fun a hs => hK42 _ _ ?_
      clear hK42
      refine qcs ((x1.kind == 1) && (!x0.dry)) hs (fun hb => ?_) fun hb => ?_
      ·replace hm := bif_t hm hb
       refine qsr fun K49 hK49 => ?_
       refine qpu 3 hs fun a hs => ?_
       refine Vk.step (Vk.call (some 70) 111 #[.pointer (some ⟨b_x0, 11, none⟩)] hs (by kernel_rfl) (by kernel_rfl) (by kernel_rfl) ?_)
       refine Vk.enterI [(0, .pointer (some ⟨b_x0, 11, none⟩))] Tryz.func111 rfl Tryz.ntmps111 (by kernel_rfl) (Nat.le_of_ble_eq_true (by kernel_rfl)) hs.own fun KR50 hKR50 hKP50 a hs => ?_
       have hj50 : ∀ (p_74 : Int) (p_75 : Bool) (p_76 : Tvisorref19_M), visorref19_M_Do.j3 k x1 p_74 p_75 p_76 = some r → ∀ (a : Act) (w : World), St 49 a w κ [(2, vw p_74), (3, .bool p_75)] (Tvisorref19_M.own κ b_x0 p_76 :: pt b_2 (blk (Tapi_Op.cells x1) 103) :: S) → KR50 a w := by
        intro p_74 p_75 p_76 hm a w hs
        unfold visorref19_M_Do.j3 at hm
        refine hKR50 _ _ ?_
        refine Vk.ret2 (P := Tryz.prog) (fn := Tryz.f111) (vw p_74) (.bool p_75) hs rfl (by kernel_rfl) (by kernel_rfl) ⟨_, _, _, rfl, hs.own, fun a hs => ?_⟩
        refine qpk 5 [0, 4, 7, 8] hs fun a hs => hK49 _ _ ?_
        clear hK49
        refine Vk.seq fun K77 hK77 => ?_
        refine qsk 2 [0, 4, 7, 74] hs fun a hs => ?_
        refine qcs (!p_75) hs (fun hb => ?_) fun hb => ?_
        ·replace hm := bif_t hm hb
         refine qsr fun K79 hK79 => ?_
         refine qpu 1 hs fun a hs => ?_
         obtain ⟨v_82, h_81, hm⟩ := bind_t hm
         refine qcl (visorref19_M_Fails.ok _ _ _ _ h_81 _ _ _ b_x0 hs.own) hs fun w a hs => ?_
         refine qpe 1 [(6, vi v_82.1)] hs fun a hs => hK79 _ _ ?_
         clear hK79
         refine wp_ret ?_
         exact qr1 (vi v_82.1) hs rfl hRR (by cases hm; exact ⟨rfl, hs.own.f1.drop⟩)
        ·replace hm := bif_f hm hb
         refine wp_skip ?_
         refine hK77 _ _ ?_
         clear hK77
         refine Vk.region ?_
         refine qpe 2 [(0, pp b_x0), (2, vw p_74), (4, pp b_2)] hs fun a hs => ?_
         exact hj41 p_76 p_74 hm _ _ (hs.go [0, 2, 4] [0, 1] 2 (by kernel_rfl) (by kernel_rfl) (by kernel_rfl))
       refine qse 2 [(0, .pointer (some ⟨b_x0, 11, none⟩))] hs fun a hs => ?_
       refine Vk.seq fun K52 hK52 => ?_
       refine qsr fun K53 hK53 => ?_
       refine qpu 3 hs fun a hs => ?_
       refine qld 0 (ci x0.tape.free) hs rfl fun a hs => ?_
       refine qpu 2 hs fun a hs => ?_
       suffices hj_54 : ∀ a, St 49 a w κ [(0, .pointer (some ⟨b_x0, 11, none⟩)), (5, .pointer (some ⟨b_x0, 11, none⟩)), (6, .pointer (some ⟨b_x0, 11, none⟩)), (7, .pointer (some ⟨b_x0, 13, none⟩)), (8, vi x0.tape.free), (9, .bool (decide (x0.tape.free < 1))), (10, .bool (decide (x0.tape.free < 1))), (17, .bool ((decide (x0.tape.free < 1)) || (((x0.tape.l.length : Nat) : Int) == 0)))] (pt b_x0 (blk (Tvisorref19_M.obj x0 g_43.1 g_43.2.1 g_43.2.2.1 g_43.2.2.2.1 g_43.2.2.2.2.1 g_43.2.2.2.2.2.1 g_43.2.2.2.2.2.2.1 g_43.2.2.2.2.2.2.2) 54) :: rowp g_43.1 g_43.2.1 103 6 Tapi_Op.cells x0.ops :: rowp g_43.2.2.1 g_43.2.2.2.1 119 3 Tapi_Span.cells x0.blocks :: rowp g_43.2.2.2.2.1 g_43.2.2.2.2.2.1 23 1 (eI .u64) x0.val :: rdp κ g_43.2.2.2.2.2.2.1 g_43.2.2.2.2.2.2.2 1 (eI .u64) x0.tape.l :: pt b_2 (blk (Tapi_Op.cells x1) 103) :: S) → wpFrom Tryz.prog _ _ 13 a w by
        rcases Bool.eq_false_or_eq_true (decide (x0.tape.free < 1)) with hb | hb
        ·replace hs := hs.known (t := 10) hb (by kernel_rfl)
         refine qpu 7 hs fun a hs => ?_
         have hq := hs.pick [0, 5, 6, 7, 8, 9, 10, 17] (L' := [(0, .pointer (some ⟨b_x0, 11, none⟩)), (5, .pointer (some ⟨b_x0, 11, none⟩)), (6, .pointer (some ⟨b_x0, 11, none⟩)), (7, .pointer (some ⟨b_x0, 13, none⟩)), (8, vi x0.tape.free), (9, .bool (decide (x0.tape.free < 1))), (10, .bool true), (17, .bool true)]) (by kernel_rfl)
         exact hj_54 _ (hq.conv (by first | (rw [hb] <;> rfl) | rfl))
        ·replace hs := hs.known (t := 10) hb (by kernel_rfl)
         refine qpu 3 hs fun a hs => ?_
         refine qld 0 (C.slc g_43.2.2.2.2.2.2.1 x0.tape.l.length g_43.2.2.2.2.2.2.2) hs rfl fun a hs => ?_
         refine qpu 3 hs fun a hs => ?_
         have hq := hs.pick [0, 5, 6, 7, 8, 9, 10, 17] (L' := [(0, .pointer (some ⟨b_x0, 11, none⟩)), (5, .pointer (some ⟨b_x0, 11, none⟩)), (6, .pointer (some ⟨b_x0, 11, none⟩)), (7, .pointer (some ⟨b_x0, 13, none⟩)), (8, vi x0.tape.free), (9, .bool (decide (x0.tape.free < 1))), (10, .bool false), (17, .bool (((x0.tape.l.length : Nat) : Int) == 0))]) (by kernel_rfl)
         exact hj_54 _ (hq.conv (by first | (rw [hb] <;> rfl) | rfl))
       intro a hs
       refine qpk 0 [0, 17] hs fun a hs => hK53 _ _ ?_
       clear hK53
       refine qcs ((decide (x0.tape.free < 1)) || (((x0.tape.l.length : Nat) : Int) == 0)) hs (fun hb => ?_) fun hb => ?_
       ·replace hm := bif_t hm hb
        refine qse 2 [(2, vw 0), (3, .bool false)] hs fun a hs => ?_
        refine wp_ret ?_
        refine hKP50 _ _ ?_
        replace hs := hs.bagG (l := Tvisorref19_M.parts κ b_x0 x0 g_43) (S' := pt b_2 (blk (Tapi_Op.cells x1) 103) :: S) hs.own
        replace hs := hs.toEx (Tvisorref19_M.parts κ b_x0 x0) g_43 0 rfl
        exact hj50 0 false x0 hm _ _ (hs.go [2, 3] [0, 1] 2 (by kernel_rfl) (by kernel_rfl) (by kernel_rfl))
       ·replace hm := bif_f hm hb
        refine wp_skip ?_
        refine hK52 _ _ ?_
        clear hK52
        refine qsr fun K56 hK56 => ?_
        refine qpu 3 hs fun a hs => ?_
        refine qld 0 (C.slc g_43.2.2.2.2.2.2.1 x0.tape.l.length g_43.2.2.2.2.2.2.2) hs rfl fun a hs => ?_
        obtain ⟨h_57, hm⟩ := ite_t hm
        obtain ⟨e_60, h_58, hm⟩ := bind_t hm
        obtain ⟨b_61, o_62, hA_63, h_59⟩ := Sl.elem (Ow.rdSl 0 (Ow.to (S' := rdp κ g_43.2.2.2.2.2.2.1 g_43.2.2.2.2.2.2.2 1 (eI .u64) x0.tape.l :: S) hs.own [4] 6 (by kernel_rfl) (by kernel_rfl)) rfl) h_58
        refine qva (.pointer (some ⟨b_61, o_62 + 0 * 1, none⟩)) (op := (.indexAddr 24 (.tmp 21) (.const (vi 0)))) hs (fun o ho => run_idxSlc (k := .i64) ho (cap := g_43.2.2.2.2.2.2.2) (len := x0.tape.l.length) ((congrArg (fun A => Value.slice A (x0.tape.l.length) (g_43.2.2.2.2.2.2.2)) hA_63) ▸ (by kernel_rfl)) (by kernel_rfl) (by kernel_rfl) (idx_ok h_57 h_58) _) fun a hs => ?_
        refine qva (vw e_60) (op := (.load 23 (.tmp 22))) hs (fun o ho => run_load1 (c := cw e_60) ho (by kernel_rfl) (by kernel_rfl) (fun w ho => h_59 w ho 0 _ rfl) _ (Ow.to (S' := rdp κ g_43.2.2.2.2.2.2.1 g_43.2.2.2.2.2.2.2 1 (eI .u64) x0.tape.l :: S) hs.own [4] 6 (by kernel_rfl) (by kernel_rfl))) fun a hs => ?_
        refine qpk 1 [0, 4] hs fun a hs => hK56 _ _ ?_
        clear hK56
        refine qsr fun K64 hK64 => ?_
        refine qpu 4 hs fun a hs => ?_
        refine qld 0 (C.slc g_43.2.2.2.2.2.2.1 x0.tape.l.length g_43.2.2.2.2.2.2.2) hs rfl fun a hs => ?_
        obtain ⟨h_65, hm⟩ := ite_t hm
        obtain ⟨A_66, c_67, eA_68, ec_69, hx_70⟩ := Sl.sub (Ow.rdSl 0 (Ow.to (S' := rdp κ g_43.2.2.2.2.2.2.1 g_43.2.2.2.2.2.2.2 1 (eI .u64) x0.tape.l :: S) hs.own [4] 6 (by kernel_rfl) (by kernel_rfl)) rfl) h_65.2
        refine qva (.slice A_66 ((cut x0.tape.l (1) (x0.tape.l.length)).length) c_67) (op := (.slice 24 (.tmp 28) (some (.const (vi 1))) none none)) hs (fun o ho => run_sub (sz := 1) (e := 23) h_65.2 eA_68 ec_69 (Sl.le (Ow.rdSl 0 (Ow.to (S' := rdp κ g_43.2.2.2.2.2.2.1 g_43.2.2.2.2.2.2.2 1 (eI .u64) x0.tape.l :: S) hs.own [4] 6 (by kernel_rfl) (by kernel_rfl)) rfl)) ho (by kernel_rfl) (by kernel_rfl) (by kernel_rfl) ⟨.i64, 1, by kernel_rfl, h_65.1, rfl⟩ rfl _) fun a hs => ?_
        replace hs := hs.cutRd 4 rfl h_65.2 eA_68 ec_69
        refine qpu 2 hs fun a hs => ?_
        refine qst 0 11 (C.slc A_66 ((cut x0.tape.l (1) (x0.tape.l.length)).length) c_67) hs rfl fun a w hs => ?_
        refine qpk 0 [0, 4] hs fun a hs => hK64 _ _ ?_
        clear hK64
        refine qsr fun K71 hK71 => ?_
        refine qpu 4 hs fun a hs => ?_
        refine qld 0 (ci x0.tape.free) hs rfl fun a hs => ?_
        refine qpu 3 hs fun a hs => ?_
        refine qst 0 13 (ci (IntKind.i64.wrap (x0.tape.free - 1))) hs rfl fun a w hs => ?_
        refine qpk 0 [0, 4] hs fun a hs => hK71 _ _ ?_
        clear hK71
        refine qsr fun K72 hK72 => ?_
        refine qpu 4 hs fun a hs => ?_
        refine qld 0 (ci x0.tape.used) hs rfl fun a hs => ?_
        refine qpu 3 hs fun a hs => ?_
        refine qst 0 12 (ci (IntKind.i64.wrap (x0.tape.used + 1))) hs rfl fun a w hs => ?_
        refine qpe 0 [(4, vw e_60)] hs fun a hs => hK72 _ _ ?_
        clear hK72
        refine qse 3 [(2, vw e_60), (3, .bool true)] hs fun a hs => ?_
        refine wp_ret ?_
        refine hKP50 _ _ ?_
        replace hs := hs.bagG (l := Tvisorref19_M.parts κ b_x0 (⟨x0.n, x0.most, x0.words, x0.draws, x0.fromF, x0.skip, x0.kind, x0.e, x0.ops, x0.blocks, x0.val, (⟨cut x0.tape.l (1) (x0.tape.l.length), IntKind.i64.wrap (x0.tape.used + 1), IntKind.i64.wrap (x0.tape.free - 1)⟩ : Tvisorref02_T), x0.dry⟩ : Tvisorref19_M) (g_43.1, g_43.2.1, g_43.2.2.1, g_43.2.2.2.1, g_43.2.2.2.2.1, g_43.2.2.2.2.2.1, A_66, c_67)) (S' := pt b_2 (blk (Tapi_Op.cells x1) 103) :: S) hs.own
        replace hs := hs.toEx (Tvisorref19_M.parts κ b_x0 (⟨x0.n, x0.most, x0.words, x0.draws, x0.fromF, x0.skip, x0.kind, x0.e, x0.ops, x0.blocks, x0.val, (⟨cut x0.tape.l (1) (x0.tape.l.length), IntKind.i64.wrap (x0.tape.used + 1), IntKind.i64.wrap (x0.tape.free - 1)⟩ : Tvisorref02_T), x0.dry⟩ : Tvisorref19_M)) (g_43.1, g_43.2.1, g_43.2.2.1, g_43.2.2.2.1, g_43.2.2.2.2.1, g_43.2.2.2.2.2.1, A_66, c_67) 0 rfl
        exact hj50 e_60 true (⟨x0.n, x0.most, x0.words, x0.draws, x0.fromF, x0.skip, x0.kind, x0.e, x0.ops, x0.blocks, x0.val, (⟨cut x0.tape.l (1) (x0.tape.l.length), IntKind.i64.wrap (x0.tape.used + 1), IntKind.i64.wrap (x0.tape.free - 1)⟩ : Tvisorref02_T), x0.dry⟩ : Tvisorref19_M) hm _ _ (hs.go [2, 3] [0, 1] 2 (by kernel_rfl) (by kernel_rfl) (by kernel_rfl))
      ·replace hm := bif_f hm hb
       refine wp_skip ?_
       replace hs := hs.bagG (l := Tvisorref19_M.parts κ b_x0 x0 g_43) (S' := pt b_2 (blk (Tapi_Op.cells x1) 103) :: S) hs.own
       replace hs := hs.toEx (Tvisorref19_M.parts κ b_x0 x0) g_43 0 rfl
       exact hj41 x0 x2 hm _ _ (hs.go [0, 2, 4] [0, 1] 2 (by kernel_rfl) (by kernel_rfl) (by kernel_rfl))
    obtain ⟨g_27, hs⟩ := hs.unbag 0 rfl
    obtain ⟨C_32, hC_32⟩ := qC hs.own
    refine qdr 14 κ C_32 hs fun w hs hqC_32 => ?_
    have hcl := qO hC_32 hs.own
    refine qdp (fuel := 11) [0, 1, 2] hs hcl hqC_32 fun a hs => ?_
    refine qdl 3 0 (C.bool x0.dry) hs hcl hqC_32 hC_32 rfl fun a hs => ?_
    refine qdp (fuel := 8) [4, 5] hs hcl hqC_32 fun a hs => ?_
    rcases Bool.eq_false_or_eq_true (!x0.dry) with hb | hb
    ·replace hm := bif_t hm hb
     replace hs := hs.known (t := 45) hb (by kernel_rfl)
     refine qdp (fuel := 4) [6, 8, 9, 10] hs hcl hqC_32 fun a hs => ?_
     refine qdl 11 0 (ci x0.most) hs hcl hqC_32 hC_32 rfl fun a hs => ?_
     replace hs := hs.bagG (l := Tvisorref19_M.parts κ b_x0 x0 g_27) (S' := pt b_2 (blk (Tapi_Op.cells x1) 103) :: S) hs.own
     obtain ⟨v_35, h_34, hm⟩ := bind_t hm
     refine qdc 7 (visorref19_M_Len.ok _ _ _ h_34 _ _ _ b_x0 g_27 hs.own) hs fun w a hs => ?_
     replace hs := hs.unbagAt 0 rfl
     replace hcl := qO hC_32 hs.own
     refine ⟨fun _ => hcl, ?_⟩
     refine qdp (fuel := 0) [12, 13] hs hcl hqC_32 fun a hs => ?_
     replace hs := hs.pick [0, 2, 4, 53] (L' := [(0, pp b_x0), (2, vw x2), (4, pp b_2), (53, .bool (decide (v_35 ≥ x0.most)))]) (by kernel_rfl)
     refine Vk.dDone (by kernel_rfl) ?_
     replace hs := hs.bagG (l := Tvisorref19_M.parts κ b_x0 x0 g_27) (S' := pt b_2 (blk (Tapi_Op.cells x1) 103) :: S) hs.own
     replace hs := hs.toEx (Tvisorref19_M.parts κ b_x0 x0) g_27 0 rfl
     exact hj26 (decide (v_35 ≥ x0.most)) hm _ _ (hs.go [0, 2, 4, 53] [0, 1] 2 (by kernel_rfl) (by kernel_rfl) (by kernel_rfl))
    ·replace hm := bif_f hm hb
     replace hs := hs.known (t := 45) hb (by kernel_rfl)
     refine qdp (fuel := 0) [6, 7, 8, 9, 10, 11, 12, 13] hs hcl hqC_32 fun a hs => ?_
     replace hs := hs.pick [0, 2, 4, 53] (L' := [(0, pp b_x0), (2, vw x2), (4, pp b_2), (53, .bool false)]) (by kernel_rfl)
     refine Vk.dDone (by kernel_rfl) ?_
     replace hs := hs.bagG (l := Tvisorref19_M.parts κ b_x0 x0 g_27) (S' := pt b_2 (blk (Tapi_Op.cells x1) 103) :: S) hs.own
     replace hs := hs.toEx (Tvisorref19_M.parts κ b_x0 x0) g_27 0 rfl
     exact hj26 false hm _ _ (hs.go [0, 2, 4, 53] [0, 1] 2 (by kernel_rfl) (by kernel_rfl) (by kernel_rfl))
  obtain ⟨C_13, hC_13⟩ := qC hs.own
  refine qdr 24 κ C_13 hs fun w hs hqC_13 => ?_
  have hcl := qO hC_13 hs.own
  refine qdp (fuel := 20) [1, 3, 4, 5] hs hcl hqC_13 fun a hs => ?_
  refine qdn 0 5 ([ci x1.kind, ci x1.dom, ci x1.a, ci x1.b, ci x1.d, cw x1.c]) hs hcl hqC_13 hC_13 rfl fun a hs => ?_
  refine qdl 6 0 (ci x0.n) hs hcl hqC_13 hC_13 rfl fun a hs => ?_
  replace hs := hs.bagG (l := Tvisorref19_M.parts κ b_x0 x0 g_5) (S' := pt b_2 (blk (Tapi_Op.cells x1) 103) :: S) hs.own
  obtain ⟨v_16, h_15, hm⟩ := bind_t hm
  refine qdc 2 (visorref19_M_Len.ok _ _ _ h_15 _ _ _ b_x0 g_5 hs.own) hs fun w a hs => ?_
  replace hs := hs.unbagAt 0 rfl
  replace hcl := qO hC_13 hs.own
  refine ⟨fun _ => hcl, ?_⟩
  obtain ⟨v_19, h_18, hm⟩ := bind_t hm
  refine qdc 7 (visorref17_Right.ok _ _ _ _ _ h_18 _ _ (pt b_x0 (blk (Tvisorref19_M.obj x0 g_5.1 g_5.2.1 g_5.2.2.1 g_5.2.2.2.1 g_5.2.2.2.2.1 g_5.2.2.2.2.2.1 g_5.2.2.2.2.2.2.1 g_5.2.2.2.2.2.2.2) 54) :: rowp g_5.1 g_5.2.1 103 6 Tapi_Op.cells x0.ops :: rowp g_5.2.2.1 g_5.2.2.2.1 119 3 Tapi_Span.cells x0.blocks :: rowp g_5.2.2.2.2.1 g_5.2.2.2.2.2.1 23 1 (eI .u64) x0.val :: rdp κ g_5.2.2.2.2.2.2.1 g_5.2.2.2.2.2.2.2 1 (eI .u64) x0.tape.l :: pt b_2 (blk (Tapi_Op.cells x1) 103) :: S) hs.own) hs fun w a hs => ?_
  replace hcl := qO hC_13 hs.own
  refine ⟨fun _ => hcl, ?_⟩
  refine qdp (fuel := 14) [8, 9] hs hcl hqC_13 fun a hs => ?_
  rcases Bool.eq_false_or_eq_true (!v_19) with hb | hb
  ·replace hm := bif_t hm hb
   replace hs := hs.known (t := 23) hb (by kernel_rfl)
   refine qdp (fuel := 0) [10, 11, 12, 13, 14, 15, 16, 17, 18, 19, 20, 21, 22, 23] hs hcl hqC_13 fun a hs => ?_
   replace hs := hs.pick [0, 2, 4, 37] (L' := [(0, pp b_x0), (2, vw x2), (4, pp b_2), (37, .bool true)]) (by kernel_rfl)
   refine Vk.dDone (by kernel_rfl) ?_
   replace hs := hs.bagG (l := Tvisorref19_M.parts κ b_x0 x0 g_5) (S' := pt b_2 (blk (Tapi_Op.cells x1) 103) :: S) hs.own
   replace hs := hs.toEx (Tvisorref19_M.parts κ b_x0 x0) g_5 0 rfl
   exact hj12 true hm _ _ (hs.go [0, 2, 4, 37] [0, 1] 2 (by kernel_rfl) (by kernel_rfl) (by kernel_rfl))
  ·replace hm := bif_f hm hb
   replace hs := hs.known (t := 23) hb (by kernel_rfl)
   refine qdp (fuel := 13) [10] hs hcl hqC_13 fun a hs => ?_
   refine qdl 11 5 (ci x1.kind) hs hcl hqC_13 hC_13 rfl fun a hs => ?_
   refine qdp (fuel := 10) [12, 13] hs hcl hqC_13 fun a hs => ?_
   rcases Bool.eq_false_or_eq_true (x1.kind == 2) with hb | hb
   ·replace hm := bif_t hm hb
    replace hs := hs.known (t := 27) hb (by kernel_rfl)
    refine qdp (fuel := 6) [14, 16, 17, 18] hs hcl hqC_13 fun a hs => ?_
    refine qdl 15 5 (cw x1.c) hs hcl hqC_13 hC_13 rfl fun a hs => ?_
    refine qdl 19 0 (ci x0.words) hs hcl hqC_13 hC_13 rfl fun a hs => ?_
    refine qdp (fuel := 0) [20, 21, 22, 23] hs hcl hqC_13 fun a hs => ?_
    replace hs := hs.pick [0, 2, 4, 37] (L' := [(0, pp b_x0), (2, vw x2), (4, pp b_2), (37, .bool (x1.c != (IntKind.u64.wrap x0.words)))]) (by kernel_rfl)
    refine Vk.dDone (by kernel_rfl) ?_
    replace hs := hs.bagG (l := Tvisorref19_M.parts κ b_x0 x0 g_5) (S' := pt b_2 (blk (Tapi_Op.cells x1) 103) :: S) hs.own
    replace hs := hs.toEx (Tvisorref19_M.parts κ b_x0 x0) g_5 0 rfl
    exact hj12 (x1.c != (IntKind.u64.wrap x0.words)) hm _ _ (hs.go [0, 2, 4, 37] [0, 1] 2 (by kernel_rfl) (by kernel_rfl) (by kernel_rfl))
   ·replace hm := bif_f hm hb
    replace hs := hs.known (t := 27) hb (by kernel_rfl)
    refine qdp (fuel := 0) [14, 15, 16, 17, 18, 19, 20, 21, 22, 23] hs hcl hqC_13 fun a hs => ?_
    replace hs := hs.pick [0, 2, 4, 37] (L' := [(0, pp b_x0), (2, vw x2), (4, pp b_2), (37, .bool false)]) (by kernel_rfl)
    refine Vk.dDone (by kernel_rfl) ?_
    replace hs := hs.bagG (l := Tvisorref19_M.parts κ b_x0 x0 g_5) (S' := pt b_2 (blk (Tapi_Op.cells x1) 103) :: S) hs.own
    replace hs := hs.toEx (Tvisorref19_M.parts κ b_x0 x0) g_5 0 rfl
    exact hj12 false hm _ _ (hs.go [0, 2, 4, 37] [0, 1] 2 (by kernel_rfl) (by kernel_rfl) (by kernel_rfl))


def visorref20_Const.l1 : Nat → Tvisorref19_M → Cells → Int → Option (Cells × Tvisorref19_M)
 | 0, _, _, _ => none
 | k + 1, q_20, q_21, q_22 => (bif decide (q_22 < q_20.n) then (visorref19_Op.m k 3 q_22 (-1) (-1) 0).bind fun v_33 => (visorref19_M_Do.m k q_20 v_33 0).bind fun v_36 => (if 0 ≤ q_22 ∧ q_22 < 3 then (if 0 + q_22.toNat * 1 < q_21.length then visorref20_Const.l1 k v_36.2 (q_21.set (0 + q_22.toNat * 1) (ci v_36.1)) (IntKind.i64.wrap (q_22 + 1)) else none) else none) else some (q_21, q_20))
abbrev visorref20_Const.R (κ : Ctx) (S : List HP) (x0 : Tvisorref19_M) (x1 : Int) (x2 : Int) (b_x0 : Nat) (r : (Cells × Tvisorref19_M)) : Ending → World → Prop := fun e w' => e = .returned (.agg (vals r.1)) ∧ Ow κ w' (Tvisorref19_M.own κ b_x0 r.2 :: S)
def visorref20_Const.m (k : Nat) (x0 : Tvisorref19_M) (x1 : Int) (x2 : Int) : Option (Cells × Tvisorref19_M) := (visorref20_None.m k).bind fun v_6 => (if v_6.length = 3 then (visorref19_Op.m k x1 0 (-1) (-1) x2).bind fun v_12 => (visorref19_M_Do.m k x0 v_12 0).bind fun v_15 => (if 0 < v_6.length then (visorref20_Const.l1 k v_15.2 (v_6.set (0) (ci v_15.1)) 1).bind fun x => match x with | (p_39, p_40) => (if p_39.length = 3 then some (p_39, p_40) else none) else none) else none)

set_option maxRecDepth 100000 in
set_option maxHeartbeats 4000000 in
theorem visorref20_Const.ok (k : Nat) (x0 : Tvisorref19_M) (x1 : Int) (x2 : Int) (r : (Cells × Tvisorref19_M)) (hm : visorref20_Const.m k x0 x1 x2 = some r) (κ : Ctx) (w : World) (S : List HP) (b_x0 : Nat) (ho : Ow κ w (Tvisorref19_M.own κ b_x0 x0 :: S)) :
  Calls Tryz.prog 30 #[pp b_x0, vi x1, vw x2] w (visorref20_Const.R κ S x0 x1 x2 b_x0 r) := by
 unfold visorref20_Const.m at hm
 generalize hRR : visorref20_Const.R κ S x0 x1 x2 b_x0 r = RR
 refine qen [(0, pp b_x0), (1, vi x1), (2, vw x2)] Tryz.func30 Tryz.ntmps30 ho fun a hs => ?_
 refine qsr fun K1 hK1 => ?_
 refine qal 35 [ci 0, ci 0, ci 0] 6 hs fun b_2 w a hs => ?_
 refine qpk 0 [0, 1, 2, 6] hs fun a hs => hK1 _ _ ?_
 clear hK1
 refine qsr fun K3 hK3 => ?_
 obtain ⟨v_6, h_5, hm⟩ := bind_t hm
 refine qcl (visorref20_None.ok _ _ h_5 _ _ (pt b_2 (blk [ci 0, ci 0, ci 0] 35) :: Tvisorref19_M.own κ b_x0 x0 :: S) hs.own) hs fun w a hs => ?_
 refine qal 35 [ci 0, ci 0, ci 0] 7 hs fun b_7 w a hs => ?_
 obtain ⟨h_8, hm⟩ := ite_t hm
 refine qsb 0 v_6 hs rfl h_8 rfl fun a w hs => ?_
 refine qpk 0 [0, 1, 2, 6, 7] hs fun a hs => hK3 _ _ ?_
 clear hK3
 refine qsr fun K9 hK9 => ?_
 refine qpu 3 hs fun a hs => ?_
 obtain ⟨v_12, h_11, hm⟩ := bind_t hm
 refine qcl (visorref19_Op.ok _ _ _ _ _ _ _ h_11 _ _ (pt b_7 (blk v_6 35) :: pt b_2 (blk [ci 0, ci 0, ci 0] 35) :: Tvisorref19_M.own κ b_x0 x0 :: S) hs.own) hs fun w a hs => ?_
 obtain ⟨v_15, h_14, hm⟩ := bind_t hm
 refine qcl (visorref19_M_Do.ok _ _ _ _ _ h_14 _ _ _ b_x0 hs.own.f2) hs fun w a hs => ?_
 refine qpu 2 hs fun a hs => ?_
 obtain ⟨h_16, hm⟩ := ite_t hm
 refine Vk.step (Vk.store1 (b := b_7) (ty := 3) (x := (.tmp 16)) (y := (.tmp 14)) (off := 0) (ci v_15.1) 1 hs (by kernel_rfl) (by kernel_rfl) (by kernel_rfl) (by kernel_rfl) (by kernel_rfl) (by kernel_rfl) rfl h_16 fun a w hs => ?_)
 refine qpk 0 [0, 6, 7] hs fun a hs => hK9 _ _ ?_
 clear hK9
 refine Vk.seq fun K17 hK17 => ?_
 refine qsk 1 [0, 6, 7, 8] hs fun a hs => ?_
 refine wp_block ?_
 obtain ⟨r19, hl19, hm⟩ := bind_t hm
 have hx19 : ∀ (p_39 : Cells) (p_40 : Tvisorref19_M), r19 = (p_39, p_40) → ∀ (a : Act) (w : World), St 33 a w κ [(6, pp b_2), (7, pp b_7)] (pt b_2 (blk [ci 0, ci 0, ci 0] 35) :: pt b_7 (blk p_39 35) :: Tvisorref19_M.own κ b_x0 p_40 :: S) → K17 a w := by
  intro p_39 p_40 he a w hs
  subst r19
  refine hK17 _ _ ?_
  clear hK17
  refine qsr fun K44 hK44 => ?_
  obtain ⟨h_45, hm⟩ := ite_t hm
  refine qlw 1 hs rfl h_45 fun a hs => ?_
  refine qsb 0 p_39 hs rfl h_45 rfl fun a w hs => ?_
  refine qpe 0 [(6, pp b_2)] hs fun a hs => hK44 _ _ ?_
  clear hK44
  refine wp_ret ?_
  exact Vk.retC p_39 hs rfl (by kernel_rfl) (sz := 3) (by kernel_rfl) h_45 (CellsAt.all 0 rfl) (hRR ▸ by cases hm; exact ⟨rfl, hs.own.f1.drop.drop⟩)
 refine Vk.loopBy (fun k (s : Tvisorref19_M × Cells × Int) a w => visorref20_Const.l1 k s.1 s.2.1 s.2.2 = some r19 ∧ St 33 a w κ [(0, pp b_x0), (6, pp b_2), (7, pp b_7), (8, vi s.2.2)] (Tvisorref19_M.own κ b_x0 s.1 :: pt b_2 (blk [ci 0, ci 0, ci 0] 35) :: pt b_7 (blk s.2.1 35) :: S)) k (v_15.2, (v_6.set (0) (ci v_15.1)), 1) ⟨hl19, hs.go [0, 6, 7, 8] [0, 2, 1] 3 (by kernel_rfl) (by kernel_rfl) (by kernel_rfl)⟩ (fun s a w h => by obtain ⟨h1, _⟩ := h; simp [visorref20_Const.l1] at h1) (fun k KL19 ih s a w h => ?_)
 obtain ⟨q_20, q_21, q_22⟩ := s
 obtain ⟨hm, hs⟩ := h
 try dsimp only at hm hs
 rw [visorref20_Const.l1] at hm
 refine Vk.seq fun K23 hK23 => ?_
 refine qsr fun K24 hK24 => ?_
 refine qpu 4 hs fun a hs => ?_
 obtain ⟨g_25, hs⟩ := hs.unbag 0 rfl
 refine qld 0 (ci q_20.n) hs rfl fun a hs => ?_
 refine qpk 1 [0, 6, 7, 8, 22] hs fun a hs => hK24 _ _ ?_
 clear hK24
 refine qcs (decide (q_22 < q_20.n)) hs (fun hb => ?_) fun hb => ?_
 ·replace hm := bif_t hm hb
  refine wp_skip ?_
  refine hK23 _ _ ?_
  clear hK23
  refine Vk.seq fun K30 hK30 => ?_
  refine wp_block ?_
  refine Vk.region ?_
  refine qpu 3 hs fun a hs => ?_
  obtain ⟨v_33, h_32, hm⟩ := bind_t hm
  refine qcl (visorref19_Op.ok _ _ _ _ _ _ _ h_32 _ _ (pt b_x0 (blk (Tvisorref19_M.obj q_20 g_25.1 g_25.2.1 g_25.2.2.1 g_25.2.2.2.1 g_25.2.2.2.2.1 g_25.2.2.2.2.2.1 g_25.2.2.2.2.2.2.1 g_25.2.2.2.2.2.2.2) 54) :: rowp g_25.1 g_25.2.1 103 6 Tapi_Op.cells q_20.ops :: rowp g_25.2.2.1 g_25.2.2.2.1 119 3 Tapi_Span.cells q_20.blocks :: rowp g_25.2.2.2.2.1 g_25.2.2.2.2.2.1 23 1 (eI .u64) q_20.val :: rdp κ g_25.2.2.2.2.2.2.1 g_25.2.2.2.2.2.2.2 1 (eI .u64) q_20.tape.l :: pt b_2 (blk [ci 0, ci 0, ci 0] 35) :: pt b_7 (blk q_21 35) :: S) hs.own) hs fun w a hs => ?_
  replace hs := hs.bagG (l := Tvisorref19_M.parts κ b_x0 q_20 g_25) (S' := pt b_2 (blk [ci 0, ci 0, ci 0] 35) :: pt b_7 (blk q_21 35) :: S) hs.own
  replace hs := hs.toEx (Tvisorref19_M.parts κ b_x0 q_20) g_25 0 rfl
  obtain ⟨v_36, h_35, hm⟩ := bind_t hm
  refine qcl (visorref19_M_Do.ok _ _ _ _ _ h_35 _ _ _ b_x0 hs.own) hs fun w a hs => ?_
  refine qpu 1 hs fun a hs => ?_
  obtain ⟨h_37, hm⟩ := ite_t hm
  refine qix b_7 0 1 hs h_37 fun a hs => ?_
  obtain ⟨h_38, hm⟩ := ite_t hm
  refine Vk.step (Vk.store1 (b := b_7) (ty := 3) (x := (.tmp 31)) (y := (.tmp 29)) (off := 0 + q_22.toNat * 1) (ci v_36.1) 2 hs (by kernel_rfl) (by kernel_rfl) (by kernel_rfl) (by kernel_rfl) (by kernel_rfl) (by kernel_rfl) rfl h_38 fun a w hs => ?_)
  refine qpk 0 [0, 6, 7, 8] hs fun a hs => hK30 _ _ ?_
  clear hK30
  refine Vk.region ?_
  refine qpk 3 [0, 6, 7, 8] hs fun a hs => ?_
  refine ih (v_36.2, (q_21.set (0 + q_22.toNat * 1) (ci v_36.1)), (IntKind.i64.wrap (q_22 + 1))) _ _ ⟨hm, hs.go [0, 6, 7, 8] [0, 1, 2] 3 (by kernel_rfl) (by kernel_rfl) (by kernel_rfl)⟩
 ·replace hm := bif_f hm hb
  refine wp_exit ?_
  replace hs := hs.bagG (l := Tvisorref19_M.parts κ b_x0 q_20 g_25) (S' := pt b_2 (blk [ci 0, ci 0, ci 0] 35) :: pt b_7 (blk q_21 35) :: S) hs.own
  replace hs := hs.toEx (Tvisorref19_M.parts κ b_x0 q_20) g_25 0 rfl
  exact hx19 q_21 q_20 (Option.some.inj hm).symm _ _ (hs.go [6, 7] [1, 2, 0] 3 (by kernel_rfl) (by kernel_rfl) (by kernel_rfl))


def visorref33_Const.l1 (x1 : Int) (v_8 : Cells) : Nat → Tvisorref19_M → Cells → Int → Option (Cells × Tvisorref19_M)
 | 0, _, _, _ => none
 | k + 1, q_14, q_15, q_16 => (bif decide (q_16 < 8) then (if 0 ≤ q_16 ∧ q_16 < 8 then (getI .u64 v_8 (0 + q_16.toNat * 1)).bind fun v_22 => (visorref20_Const.m k q_14 x1 v_22).bind fun v_25 => (if 0 ≤ q_16 ∧ q_16 < 8 then (if v_25.1.length = 3 then (if 0 + q_16.toNat * 3 + v_25.1.length ≤ q_15.length then visorref33_Const.l1 x1 v_8 k v_25.2 (splice q_15 (0 + q_16.toNat * 3) v_25.1) (IntKind.i64.wrap (q_16 + 1)) else none) else none) else none) else none) else some (q_15, q_14))
abbrev visorref33_Const.R (κ : Ctx) (S : List HP) (x0 : Tvisorref19_M) (x1 : Int) (x2 : List Int) (b_x0 : Nat) (A_x2 : Option Addr) (c_x2 : Nat) (r : (Cells × Tvisorref19_M)) : Ending → World → Prop := fun e w' => e = .returned (.agg (vals r.1)) ∧ Ow κ w' (Tvisorref19_M.own κ b_x0 r.2 :: S)
def visorref33_Const.m (k : Nat) (x0 : Tvisorref19_M) (x1 : Int) (x2 : List Int) : Option (Cells × Tvisorref19_M) := (visorref33_Cut.m k x2).bind fun v_8 => (if v_8.length = 8 then (visorref33_Const.l1 x1 v_8 k x0 [ci 0, ci 0, ci 0, ci 0, ci 0, ci 0, ci 0, ci 0, ci 0, ci 0, ci 0, ci 0, ci 0, ci 0, ci 0, ci 0, ci 0, ci 0, ci 0, ci 0, ci 0, ci 0, ci 0, ci 0] 0).bind fun x => match x with | (p_29, p_30) => (if p_29.length = 24 then some (p_29, p_30) else none) else none)

set_option maxRecDepth 100000 in
set_option maxHeartbeats 4000000 in
theorem visorref33_Const.ok (k : Nat) (x0 : Tvisorref19_M) (x1 : Int) (x2 : List Int) (r : (Cells × Tvisorref19_M)) (hm : visorref33_Const.m k x0 x1 x2 = some r) (κ : Ctx) (w : World) (S : List HP) (b_x0 : Nat) (A_x2 : Option Addr) (c_x2 : Nat) (hx_x2 : Sl κ S A_x2 c_x2 1 (eI .u8) x2) (ho : Ow κ w (Tvisorref19_M.own κ b_x0 x0 :: S)) :
  Calls Tryz.prog 8 #[pp b_x0, vi x1, .slice A_x2 x2.length c_x2] w (visorref33_Const.R κ S x0 x1 x2 b_x0 A_x2 c_x2 r) := by
 unfold visorref33_Const.m at hm
 generalize hRR : visorref33_Const.R κ S x0 x1 x2 b_x0 A_x2 c_x2 r = RR
 refine qen [(0, pp b_x0), (1, vi x1), (2, .slice A_x2 x2.length c_x2)] Tryz.func8 Tryz.ntmps8 ho fun a hs => ?_
 refine qsr fun K1 hK1 => ?_
 refine qal 37 [ci 0, ci 0, ci 0, ci 0, ci 0, ci 0, ci 0, ci 0, ci 0, ci 0, ci 0, ci 0, ci 0, ci 0, ci 0, ci 0, ci 0, ci 0, ci 0, ci 0, ci 0, ci 0, ci 0, ci 0] 6 hs fun b_2 w a hs => ?_
 refine qpk 0 [0, 1, 2, 6] hs fun a hs => hK1 _ _ ?_
 clear hK1
 refine qsr fun K3 hK3 => ?_
 refine qpu 1 hs fun a hs => ?_
 refine qal 37 [ci 0, ci 0, ci 0, ci 0, ci 0, ci 0, ci 0, ci 0, ci 0, ci 0, ci 0, ci 0, ci 0, ci 0, ci 0, ci 0, ci 0, ci 0, ci 0, ci 0, ci 0, ci 0, ci 0, ci 0] 7 hs fun b_4 w a hs => ?_
 refine qsa 0 [ci 0, ci 0, ci 0, ci 0, ci 0, ci 0, ci 0, ci 0, ci 0, ci 0, ci 0, ci 0, ci 0, ci 0, ci 0, ci 0, ci 0, ci 0, ci 0, ci 0, ci 0, ci 0, ci 0, ci 0] hs rfl fun a w hs => ?_
 refine qpk 0 [0, 1, 2, 6, 7] hs fun a hs => hK3 _ _ ?_
 clear hK3
 refine qsr fun K5 hK5 => ?_
 refine qpu 1 hs fun a hs => ?_
 obtain ⟨v_8, h_7, hm⟩ := bind_t hm
 refine qcl (visorref33_Cut.ok _ _ _ h_7 _ _ (pt b_4 (blk [ci 0, ci 0, ci 0, ci 0, ci 0, ci 0, ci 0, ci 0, ci 0, ci 0, ci 0, ci 0, ci 0, ci 0, ci 0, ci 0, ci 0, ci 0, ci 0, ci 0, ci 0, ci 0, ci 0, ci 0] 37) :: pt b_2 (blk [ci 0, ci 0, ci 0, ci 0, ci 0, ci 0, ci 0, ci 0, ci 0, ci 0, ci 0, ci 0, ci 0, ci 0, ci 0, ci 0, ci 0, ci 0, ci 0, ci 0, ci 0, ci 0, ci 0, ci 0] 37) :: Tvisorref19_M.own κ b_x0 x0 :: S) A_x2 c_x2 hx_x2.less.less.less hs.own) hs fun w a hs => ?_
 refine qal 55 [cw 0, cw 0, cw 0, cw 0, cw 0, cw 0, cw 0, cw 0] 8 hs fun b_9 w a hs => ?_
 obtain ⟨h_10, hm⟩ := ite_t hm
 refine qsb 0 v_8 hs rfl h_10 rfl fun a w hs => ?_
 refine qpk 0 [0, 1, 6, 7, 8] hs fun a hs => hK5 _ _ ?_
 clear hK5
 refine Vk.seq fun K11 hK11 => ?_
 refine qsk 1 [0, 1, 6, 7, 8, 9] hs fun a hs => ?_
 refine wp_block ?_
 obtain ⟨r13, hl13, hm⟩ := bind_t hm
 have hx13 : ∀ (p_29 : Cells) (p_30 : Tvisorref19_M), r13 = (p_29, p_30) → ∀ (a : Act) (w : World), St 26 a w κ [(6, pp b_2), (7, pp b_4)] (pt b_2 (blk [ci 0, ci 0, ci 0, ci 0, ci 0, ci 0, ci 0, ci 0, ci 0, ci 0, ci 0, ci 0, ci 0, ci 0, ci 0, ci 0, ci 0, ci 0, ci 0, ci 0, ci 0, ci 0, ci 0, ci 0] 37) :: pt b_4 (blk p_29 37) :: Tvisorref19_M.own κ b_x0 p_30 :: S) → K11 a w := by
  intro p_29 p_30 he a w hs
  subst r13
  refine hK11 _ _ ?_
  clear hK11
  refine qsr fun K34 hK34 => ?_
  obtain ⟨h_35, hm⟩ := ite_t hm
  refine qlw 1 hs rfl h_35 fun a hs => ?_
  refine qsb 0 p_29 hs rfl h_35 rfl fun a w hs => ?_
  refine qpe 0 [(6, pp b_2)] hs fun a hs => hK34 _ _ ?_
  clear hK34
  refine wp_ret ?_
  exact Vk.retC p_29 hs rfl (by kernel_rfl) (sz := 24) (by kernel_rfl) h_35 (CellsAt.all 0 rfl) (hRR ▸ by cases hm; exact ⟨rfl, hs.own.f1.drop.drop⟩)
 refine Vk.loopBy (fun k (s : Tvisorref19_M × Cells × Int) a w => visorref33_Const.l1 x1 v_8 k s.1 s.2.1 s.2.2 = some r13 ∧ St 26 a w κ [(0, pp b_x0), (1, vi x1), (6, pp b_2), (7, pp b_4), (8, pp b_9), (9, vi s.2.2)] (Tvisorref19_M.own κ b_x0 s.1 :: pt b_2 (blk [ci 0, ci 0, ci 0, ci 0, ci 0, ci 0, ci 0, ci 0, ci 0, ci 0, ci 0, ci 0, ci 0, ci 0, ci 0, ci 0, ci 0, ci 0, ci 0, ci 0, ci 0, ci 0, ci 0, ci 0] 37) :: pt b_4 (blk s.2.1 37) :: pt b_9 (blk v_8 55) :: S)) k (x0, [ci 0, ci 0, ci 0, ci 0, ci 0, ci 0, ci 0, ci 0, ci 0, ci 0, ci 0, ci 0, ci 0, ci 0, ci 0, ci 0, ci 0, ci 0, ci 0, ci 0, ci 0, ci 0, ci 0, ci 0], 0) ⟨hl13, hs.go [0, 1, 6, 7, 8, 9] [3, 2, 1, 0] 4 (by kernel_rfl) (by kernel_rfl) (by kernel_rfl)⟩ (fun s a w h => by obtain ⟨h1, _⟩ := h; simp [visorref33_Const.l1] at h1) (fun k KL13 ih s a w h => ?_)
 obtain ⟨q_14, q_15, q_16⟩ := s
 obtain ⟨hm, hs⟩ := h
 try dsimp only at hm hs
 rw [visorref33_Const.l1] at hm
 refine Vk.seq fun K17 hK17 => ?_
 refine qsk 2 [0, 1, 6, 7, 8, 9, 14] hs fun a hs => ?_
 refine qcs (decide (q_16 < 8)) hs (fun hb => ?_) fun hb => ?_
 ·replace hm := bif_t hm hb
  refine wp_skip ?_
  refine hK17 _ _ ?_
  clear hK17
  refine Vk.seq fun K19 hK19 => ?_
  refine wp_block ?_
  refine Vk.region ?_
  refine qpu 4 hs fun a hs => ?_
  obtain ⟨h_20, hm⟩ := ite_t hm
  refine qix b_9 0 1 hs h_20 fun a hs => ?_
  obtain ⟨v_22, h_21, hm⟩ := bind_t hm
  refine qli 3 hs rfl h_21 fun a hs => ?_
  obtain ⟨v_25, h_24, hm⟩ := bind_t hm
  refine qcl (visorref20_Const.ok _ _ _ _ _ h_24 _ _ _ b_x0 hs.own) hs fun w a hs => ?_
  obtain ⟨h_26, hm⟩ := ite_t hm
  refine qix b_4 0 3 hs h_26 fun a hs => ?_
  obtain ⟨h_27, hm⟩ := ite_t hm
  obtain ⟨h_28, hm⟩ := ite_t hm
  refine Vk.step (Vk.storeN (b := b_4) (ty := 35) (x := (.tmp 24)) (y := (.tmp 23)) (off := 0 + q_16.toNat * 3) (sz := 3) v_25.1 2 hs (by kernel_rfl) (by kernel_rfl) (by kernel_rfl) (by kernel_rfl) (by kernel_rfl) h_27 (by kernel_rfl) rfl h_28 fun a w hs => ?_)
  refine qpk 0 [0, 1, 6, 7, 8, 9] hs fun a hs => hK19 _ _ ?_
  clear hK19
  refine Vk.region ?_
  refine qpk 3 [0, 1, 6, 7, 8, 9] hs fun a hs => ?_
  refine ih (v_25.2, (splice q_15 (0 + q_16.toNat * 3) v_25.1), (IntKind.i64.wrap (q_16 + 1))) _ _ ⟨hm, hs.go [0, 1, 6, 7, 8, 9] [0, 1, 2, 3] 4 (by kernel_rfl) (by kernel_rfl) (by kernel_rfl)⟩
 ·replace hm := bif_f hm hb
  refine wp_exit ?_
  exact hx13 q_15 q_14 (Option.some.inj hm).symm _ _ (hs.go [6, 7] [1, 2, 0] 4 (by kernel_rfl) (by kernel_rfl) (by kernel_rfl))


abbrev wire_Machine_Told.R (κ : Ctx) (S : List HP) (x0 : Twire_Machine) (x1 : Int) (x2 : Int) (b_x0 : Nat) (r : (Int × Twire_Machine)) : Ending → World → Prop := fun e w' => e = .returned (vi r.1) ∧ Ow κ w' (Twire_Machine.own b_x0 r.2 :: S)
def wire_Machine_Told.m (k : Nat) (x0 : Twire_Machine) (x1 : Int) (x2 : Int) : Option (Int × Twire_Machine) := (wire_Machine_Do.m k x0 (⟨4, x1, (-1), (-1), (-1), x2⟩ : Tapi_Op) 0).bind fun v_5 => some (v_5.1, v_5.2)

set_option maxRecDepth 100000 in
set_option maxHeartbeats 4000000 in
theorem wire_Machine_Told.ok (k : Nat) (x0 : Twire_Machine) (x1 : Int) (x2 : Int) (r : (Int × Twire_Machine)) (hm : wire_Machine_Told.m k x0 x1 x2 = some r) (κ : Ctx) (w : World) (S : List HP) (b_x0 : Nat) (ho : Ow κ w (Twire_Machine.own b_x0 x0 :: S)) :
  Calls Tryz.prog 92 #[pp b_x0, vi x1, vw x2] w (wire_Machine_Told.R κ S x0 x1 x2 b_x0 r) := by
 unfold wire_Machine_Told.m at hm
 generalize hRR : wire_Machine_Told.R κ S x0 x1 x2 b_x0 r = RR
 refine qen [(0, pp b_x0), (1, vi x1), (2, vw x2)] Tryz.func92 Tryz.ntmps92 ho fun a hs => ?_
 refine qsk 1 [0, 1, 2] hs fun a hs => ?_
 refine qsr fun K2 hK2 => ?_
 refine qpu 4 hs fun a hs => ?_
 obtain ⟨v_5, h_4, hm⟩ := bind_t hm
 refine qcl (wire_Machine_Do.ok _ _ _ _ _ h_4 _ _ _ b_x0 hs.own) hs fun w a hs => ?_
 refine qpe 1 [(6, vi v_5.1)] hs fun a hs => hK2 _ _ ?_
 clear hK2
 refine wp_ret ?_
 exact qr1 (vi v_5.1) hs rfl hRR (by cases hm; exact ⟨rfl, hs.own⟩)


def share_Told.j1 (k : Nat) (rec21 : Twire_Machine → Cells → Int → Option (Cells × Twire_Machine)) (q_23 : Cells) (q_24 : Int) (p_41 : Int) (p_42 : Twire_Machine) : Option (Cells × Twire_Machine) := (if 0 ≤ q_24 ∧ q_24 < 3 then (if 0 + q_24.toNat * 1 < q_23.length then rec21 p_42 (q_23.set (0 + q_24.toNat * 1) (ci p_41)) (IntKind.i64.wrap (q_24 + 1)) else none) else none)
def share_Told.l1 (x1 : Int) (v_20 : Int) : Nat → Twire_Machine → Cells → Int → Option (Cells × Twire_Machine)
 | 0, _, _, _ => none
 | k + 1, q_22, q_23, q_24 => (bif decide (q_24 < v_20) then (bif decide (q_24 > 0) then (wire_Machine_Const.m k q_22 q_24 0).bind fun v_36 => share_Told.j1 k (share_Told.l1 x1 v_20 k) q_23 q_24 v_36.1 v_36.2 else (wire_Machine_Told.m k q_22 q_24 x1).bind fun v_40 => share_Told.j1 k (share_Told.l1 x1 v_20 k) q_23 q_24 v_40.1 v_40.2) else some (q_23, q_22))
abbrev share_Told.R (κ : Ctx) (S : List HP) (x0 : Twire_Machine) (x1 : Int) (b_x0 : Nat) (r : (Cells × Twire_Machine)) : Ending → World → Prop := fun e w' => e = .returned (.agg (vals r.1)) ∧ Ow κ w' (Twire_Machine.own b_x0 r.2 :: S)
def share_Told.m (k : Nat) (x0 : Twire_Machine) (x1 : Int) : Option (Cells × Twire_Machine) := (share_none.m k).bind fun v_12 => (if v_12.length = 3 then (wire_Machine_N.m k x0).bind fun v_20 => (share_Told.l1 x1 v_20 k x0 v_12 0).bind fun x => match x with | (p_45, p_46) => (if p_45.length = 3 then some (p_45, p_46) else none) else none)

set_option maxRecDepth 100000 in
set_option maxHeartbeats 4000000 in
theorem share_Told.ok (k : Nat) (x0 : Twire_Machine) (x1 : Int) (r : (Cells × Twire_Machine)) (hm : share_Told.m k x0 x1 = some r) (κ : Ctx) (w : World) (S : List HP) (b_x0 : Nat) (ho : Ow κ w (Twire_Machine.own b_x0 x0 :: S)) :
  Calls Tryz.prog 52 #[pp b_x0, vw x1] w (share_Told.R κ S x0 x1 b_x0 r) := by
 unfold share_Told.m at hm
 generalize hRR : share_Told.R κ S x0 x1 b_x0 r = RR
 refine qen [(0, pp b_x0), (1, vw x1)] Tryz.func52 Tryz.ntmps52 ho fun a hs => ?_
 refine qsr fun K1 hK1 => ?_
 refine qbx 0 26 [cp b_x0] 2 hs fun b_2 w a hs => ?_
 refine qbx 1 23 [cw x1] 3 hs fun b_3 w a hs => ?_
 refine qal 35 [ci 0, ci 0, ci 0] 4 hs fun b_4 w a hs => ?_
 refine qpk 0 [2, 3, 4] hs fun a hs => hK1 _ _ ?_
 clear hK1
 refine qsr fun K5 hK5 => ?_
 refine qld 2 (cp b_x0) hs rfl fun a hs => ?_
 refine qpu 1 hs fun a hs => ?_
 refine Vk.step (Vk.call (some 7) 78 #[pp b_x0, .func (.func 91) #[] #[pp b_2, pp b_3]] hs (by kernel_rfl) (by kernel_rfl) (by kernel_rfl) ?_)
 refine Vk.enterI [(0, pp b_x0), (1, .func (.func 91) #[] #[pp b_2, pp b_3])] Tryz.func78 rfl Tryz.ntmps78 (by kernel_rfl) (Nat.le_of_ble_eq_true (by kernel_rfl)) hs.own fun KR6 hKR6 hKP6 a hs => ?_
 refine qsr fun K7 hK7 => ?_
 refine qal 35 [ci 0, ci 0, ci 0] 4 hs fun b_8 w a hs => ?_
 refine qpk 0 [0, 1, 4] hs fun a hs => hK7 _ _ ?_
 clear hK7
 refine qsr fun K9 hK9 => ?_
 obtain ⟨v_12, h_11, hm⟩ := bind_t hm
 refine qcl (share_none.ok _ _ h_11 _ _ (pt b_8 (blk [ci 0, ci 0, ci 0] 35) :: pt b_4 (blk [ci 0, ci 0, ci 0] 35) :: pt b_3 (blk [cw x1] 23) :: pt b_2 (blk [cp b_x0] 26) :: Twire_Machine.own b_x0 x0 :: S) hs.own) hs fun w a hs => ?_
 refine qal 35 [ci 0, ci 0, ci 0] 5 hs fun b_13 w a hs => ?_
 obtain ⟨h_14, hm⟩ := ite_t hm
 refine qsb 0 v_12 hs rfl h_14 rfl fun a w hs => ?_
 refine qpe 0 [(0, pp b_x0), (1, .func (.func 91) #[] #[pp b_2, pp b_3]), (4, pp b_8), (5, pp b_13)] hs fun a hs => hK9 _ _ ?_
 clear hK9
 refine Vk.seq fun K15 hK15 => ?_
 refine qsr fun K16 hK16 => ?_
 refine qpu 1 hs fun a hs => ?_
 obtain ⟨g_17, hs⟩ := hs.unex 5 rfl
 obtain ⟨v_20, h_19, hm⟩ := bind_t hm
 refine qcl (wire_Machine_N.ok _ _ _ h_19 _ _ _ b_x0 g_17 hs.own.f5) hs fun w a hs => ?_
 refine qpk 1 [1, 4, 5, 9, 10] hs fun a hs => hK16 _ _ ?_
 clear hK16
 refine wp_block ?_
 replace hs := hs.toEx (Twire_Machine.parts b_x0 x0) g_17 0 rfl
 obtain ⟨r21, hl21, hm⟩ := bind_t hm
 have hx21 : ∀ (p_45 : Cells) (p_46 : Twire_Machine), r21 = (p_45, p_46) → ∀ (a : Act) (w : World), St 21 a w κ [(4, pp b_8), (5, pp b_13)] (pt b_8 (blk [ci 0, ci 0, ci 0] 35) :: pt b_13 (blk p_45 35) :: Twire_Machine.own b_x0 p_46 :: pt b_2 (blk [cp b_x0] 26) :: pt b_3 (blk [cw x1] 23) :: pt b_4 (blk [ci 0, ci 0, ci 0] 35) :: S) → K15 a w := by
  intro p_45 p_46 he a w hs
  subst r21
  refine hK15 _ _ ?_
  clear hK15
  refine qsr fun K50 hK50 => ?_
  obtain ⟨h_51, hm⟩ := ite_t hm
  refine qlw 1 hs rfl h_51 fun a hs => ?_
  refine qsb 0 p_45 hs rfl h_51 rfl fun a w hs => ?_
  refine qpe 0 [(4, pp b_8)] hs fun a hs => hK50 _ _ ?_
  clear hK50
  refine wp_ret ?_
  refine hKP6 _ _ ?_
  refine hKR6 _ _ ?_
  refine Vk.retC (P := Tryz.prog) (fn := Tryz.f78) p_45 hs rfl (by kernel_rfl) (sz := 3) (by kernel_rfl) h_51 (CellsAt.all 0 rfl) ⟨_, _, _, rfl, hs.own, fun a hs => ?_⟩
  refine qsb 5 p_45 hs rfl h_51 rfl fun a w hs => ?_
  refine qpe 0 [(4, pp b_4)] hs fun a hs => hK5 _ _ ?_
  clear hK5
  refine wp_ret ?_
  exact Vk.retC p_45 hs rfl (by kernel_rfl) (sz := 3) (by kernel_rfl) h_51 (CellsAt.all 5 rfl) (hRR ▸ by cases hm; exact ⟨rfl, (hs.own.too [2] 6)⟩)
 refine Vk.loopBy (fun k (s : Twire_Machine × Cells × Int) a w => share_Told.l1 x1 v_20 k s.1 s.2.1 s.2.2 = some r21 ∧ St 21 a w κ [(1, .func (.func 91) #[] #[pp b_2, pp b_3]), (4, pp b_8), (5, pp b_13), (9, vi v_20), (10, vi s.2.2)] (pt b_2 (blk [cp b_x0] 26) :: Twire_Machine.own b_x0 s.1 :: pt b_3 (blk [cw x1] 23) :: pt b_8 (blk [ci 0, ci 0, ci 0] 35) :: pt b_13 (blk s.2.1 35) :: pt b_4 (blk [ci 0, ci 0, ci 0] 35) :: S)) k (x0, v_12, 0) ⟨hl21, hs.go [1, 4, 5, 9, 10] [5, 0, 4, 2, 1, 3] 6 (by kernel_rfl) (by kernel_rfl) (by kernel_rfl)⟩ (fun s a w h => by obtain ⟨h1, _⟩ := h; simp [share_Told.l1] at h1) (fun k KL21 ih s a w h => ?_)
 obtain ⟨q_22, q_23, q_24⟩ := s
 obtain ⟨hm, hs⟩ := h
 try dsimp only at hm hs
 rw [share_Told.l1] at hm
 refine qsk 1 [1, 4, 5, 9, 10, 11] hs fun a hs => ?_
 refine Vk.seq fun K26 hK26 => ?_
 refine qcs (decide (q_24 < v_20)) hs (fun hb => ?_) fun hb => ?_
 ·replace hm := bif_t hm hb
  refine wp_skip ?_
  refine hK26 _ _ ?_
  clear hK26
  refine Vk.seq fun K27 hK27 => ?_
  refine wp_block ?_
  refine qsk 2 [1, 4, 5, 6, 9, 10] hs fun a hs => ?_
  refine Vk.region ?_
  refine qpu 3 hs fun a hs => ?_
  refine Vk.step (Vk.call (some 16) 91 #[vi q_24, pp b_2, pp b_3] hs (by kernel_rfl) (by kernel_rfl) (by kernel_rfl) ?_)
  refine Vk.enterI [(0, vi q_24), (1, pp b_2), (2, pp b_3)] Tryz.func91 rfl Tryz.ntmps91 (by kernel_rfl) (Nat.le_of_ble_eq_true (by kernel_rfl)) hs.own fun KR29 hKR29 hKP29 a hs => ?_
  have hj29 : ∀ (p_41 : Int) (p_42 : Twire_Machine), share_Told.j1 k (share_Told.l1 x1 v_20 k) q_23 q_24 p_41 p_42 = some r21 → ∀ (a : Act) (w : World), St 14 a w κ [(4, vi p_41)] (Twire_Machine.own b_x0 p_42 :: pt b_2 (blk [cp b_x0] 26) :: pt b_3 (blk [cw x1] 23) :: pt b_4 (blk [ci 0, ci 0, ci 0] 35) :: pt b_8 (blk [ci 0, ci 0, ci 0] 35) :: pt b_13 (blk q_23 35) :: S) → KR29 a w := by
   intro p_41 p_42 hm a w hs
   unfold share_Told.j1 at hm
   refine hKR29 _ _ ?_
   refine Vk.ret1 (P := Tryz.prog) (fn := Tryz.f91) (vi p_41) hs rfl (by kernel_rfl) ⟨_, _, _, rfl, hs.own, fun a hs => ?_⟩
   refine qpu 1 hs fun a hs => ?_
   obtain ⟨h_43, hm⟩ := ite_t hm
   refine qix b_13 0 1 hs h_43 fun a hs => ?_
   obtain ⟨h_44, hm⟩ := ite_t hm
   refine Vk.step (Vk.store1 (b := b_13) (ty := 3) (x := (.tmp 18)) (y := (.tmp 16)) (off := 0 + q_24.toNat * 1) (ci p_41) 5 hs (by kernel_rfl) (by kernel_rfl) (by kernel_rfl) (by kernel_rfl) (by kernel_rfl) (by kernel_rfl) rfl h_44 fun a w hs => ?_)
   refine qpk 0 [1, 4, 5, 9, 10] hs fun a hs => hK27 _ _ ?_
   clear hK27
   refine Vk.region ?_
   refine qpk 2 [1, 4, 5, 9, 10] hs fun a hs => ?_
   refine ih (p_42, (q_23.set (0 + q_24.toNat * 1) (ci p_41)), (IntKind.i64.wrap (q_24 + 1))) _ _ ⟨hm, hs.go [1, 4, 5, 9, 10] [1, 0, 2, 4, 5, 3] 6 (by kernel_rfl) (by kernel_rfl) (by kernel_rfl)⟩
  refine qsk 1 [0, 1, 2] hs fun a hs => ?_
  refine Vk.seq fun K31 hK31 => ?_
  refine qse 2 [(0, vi q_24), (1, pp b_2), (2, pp b_3), (6, .bool (decide (q_24 > 0)))] hs fun a hs => ?_
  refine qcs (decide (q_24 > 0)) hs (fun hb => ?_) fun hb => ?_
  ·replace hm := bif_t hm hb
   refine qsr fun K33 hK33 => ?_
   refine qld 0 (cp b_x0) hs rfl fun a hs => ?_
   refine qpu 1 hs fun a hs => ?_
   obtain ⟨v_36, h_35, hm⟩ := bind_t hm
   refine qcl (wire_Machine_Const.ok _ _ _ _ _ h_35 _ _ _ b_x0 hs.own.f1) hs fun w a hs => ?_
   refine qpe 1 [(4, vi v_36.1)] hs fun a hs => hK33 _ _ ?_
   clear hK33
   refine wp_ret ?_
   refine hKP29 _ _ ?_
   exact hj29 v_36.1 v_36.2 hm _ _ (hs.go [4] [0, 1, 2, 5, 3, 4] 6 (by kernel_rfl) (by kernel_rfl) (by kernel_rfl))
  ·replace hm := bif_f hm hb
   refine wp_skip ?_
   refine hK31 _ _ ?_
   clear hK31
   refine qsr fun K37 hK37 => ?_
   refine qld 0 (cp b_x0) hs rfl fun a hs => ?_
   refine qpu 1 hs fun a hs => ?_
   refine qld 2 (cw x1) hs rfl fun a hs => ?_
   obtain ⟨v_40, h_39, hm⟩ := bind_t hm
   refine qcl (wire_Machine_Told.ok _ _ _ _ _ h_39 _ _ _ b_x0 hs.own.f1) hs fun w a hs => ?_
   refine qpe 1 [(4, vi v_40.1)] hs fun a hs => hK37 _ _ ?_
   clear hK37
   refine wp_ret ?_
   refine hKP29 _ _ ?_
   exact hj29 v_40.1 v_40.2 hm _ _ (hs.go [4] [0, 1, 2, 5, 3, 4] 6 (by kernel_rfl) (by kernel_rfl) (by kernel_rfl))
 ·replace hm := bif_f hm hb
  refine wp_exit ?_
  exact hx21 q_23 q_22 (Option.some.inj hm).symm _ _ (hs.go [4, 5] [3, 4, 1, 0, 2, 5] 6 (by kernel_rfl) (by kernel_rfl) (by kernel_rfl))


def slice_Told.l1 (v_7 : Cells) : Nat → Twire_Machine → Cells → Int → Option (Cells × Twire_Machine)
 | 0, _, _, _ => none
 | k + 1, q_19, q_20, q_21 => (bif decide (q_21 < 8) then (if 0 ≤ q_21 ∧ q_21 < 8 then (getI .u64 v_7 (0 + q_21.toNat * 1)).bind fun v_33 => (share_Told.m k q_19 v_33).bind fun v_36 => (if v_36.1.length = 3 then (if 0 ≤ q_21 ∧ q_21 < 8 then (if 0 + q_21.toNat * 3 + v_36.1.length ≤ q_20.length then slice_Told.l1 v_7 k v_36.2 (splice q_20 (0 + q_21.toNat * 3) v_36.1) (IntKind.i64.wrap (q_21 + 1)) else none) else none) else none) else none) else some (q_20, q_19))
abbrev slice_Told.R (κ : Ctx) (S : List HP) (x0 : Twire_Machine) (x1 : List Int) (b_x0 : Nat) (A_x1 : Option Addr) (c_x1 : Nat) (r : (Cells × Twire_Machine)) : Ending → World → Prop := fun e w' => e = .returned (.agg (vals r.1)) ∧ Ow κ w' (Twire_Machine.own b_x0 r.2 :: S)
def slice_Told.m (k : Nat) (x0 : Twire_Machine) (x1 : List Int) : Option (Cells × Twire_Machine) := (slice_Cut.m k x1).bind fun v_7 => (if v_7.length = 8 then (slice_Told.l1 v_7 k x0 [ci 0, ci 0, ci 0, ci 0, ci 0, ci 0, ci 0, ci 0, ci 0, ci 0, ci 0, ci 0, ci 0, ci 0, ci 0, ci 0, ci 0, ci 0, ci 0, ci 0, ci 0, ci 0, ci 0, ci 0] 0).bind fun x => match x with | (p_40, p_41) => (if p_40.length = 24 then some (p_40, p_41) else none) else none)

set_option maxRecDepth 100000 in
set_option maxHeartbeats 4000000 in
theorem slice_Told.ok (k : Nat) (x0 : Twire_Machine) (x1 : List Int) (r : (Cells × Twire_Machine)) (hm : slice_Told.m k x0 x1 = some r) (κ : Ctx) (w : World) (S : List HP) (b_x0 : Nat) (A_x1 : Option Addr) (c_x1 : Nat) (hx_x1 : Sl κ S A_x1 c_x1 1 (eI .u8) x1) (ho : Ow κ w (Twire_Machine.own b_x0 x0 :: S)) :
  Calls Tryz.prog 9 #[pp b_x0, .slice A_x1 x1.length c_x1] w (slice_Told.R κ S x0 x1 b_x0 A_x1 c_x1 r) := by
 unfold slice_Told.m at hm
 generalize hRR : slice_Told.R κ S x0 x1 b_x0 A_x1 c_x1 r = RR
 refine qen [(0, pp b_x0), (1, .slice A_x1 x1.length c_x1)] Tryz.func9 Tryz.ntmps9 ho fun a hs => ?_
 refine qsr fun K1 hK1 => ?_
 refine qbx 0 26 [cp b_x0] 2 hs fun b_2 w a hs => ?_
 refine qal 37 [ci 0, ci 0, ci 0, ci 0, ci 0, ci 0, ci 0, ci 0, ci 0, ci 0, ci 0, ci 0, ci 0, ci 0, ci 0, ci 0, ci 0, ci 0, ci 0, ci 0, ci 0, ci 0, ci 0, ci 0] 4 hs fun b_3 w a hs => ?_
 refine qpk 0 [1, 2, 4] hs fun a hs => hK1 _ _ ?_
 clear hK1
 refine qsr fun K4 hK4 => ?_
 refine qpu 1 hs fun a hs => ?_
 obtain ⟨v_7, h_6, hm⟩ := bind_t hm
 refine qcl (slice_Cut.ok _ _ _ h_6 _ _ (pt b_3 (blk [ci 0, ci 0, ci 0, ci 0, ci 0, ci 0, ci 0, ci 0, ci 0, ci 0, ci 0, ci 0, ci 0, ci 0, ci 0, ci 0, ci 0, ci 0, ci 0, ci 0, ci 0, ci 0, ci 0, ci 0] 37) :: pt b_2 (blk [cp b_x0] 26) :: Twire_Machine.own b_x0 x0 :: S) A_x1 c_x1 hx_x1.less.less.less hs.own) hs fun w a hs => ?_
 refine qal 55 [cw 0, cw 0, cw 0, cw 0, cw 0, cw 0, cw 0, cw 0] 5 hs fun b_8 w a hs => ?_
 obtain ⟨h_9, hm⟩ := ite_t hm
 refine qsb 0 v_7 hs rfl h_9 rfl fun a w hs => ?_
 refine qpk 0 [2, 4, 5] hs fun a hs => hK4 _ _ ?_
 clear hK4
 refine qsr fun K10 hK10 => ?_
 refine qpu 1 hs fun a hs => ?_
 refine Vk.step (Vk.call (some 9) 49 #[.func (.func 51) #[] #[pp b_2, pp b_8]] hs (by kernel_rfl) (by kernel_rfl) (by kernel_rfl) ?_)
 refine Vk.enterI [(0, .func (.func 51) #[] #[pp b_2, pp b_8])] Tryz.func49 rfl Tryz.ntmps49 (by kernel_rfl) (Nat.le_of_ble_eq_true (by kernel_rfl)) hs.own fun KR11 hKR11 hKP11 a hs => ?_
 refine qsr fun K12 hK12 => ?_
 refine qal 37 [ci 0, ci 0, ci 0, ci 0, ci 0, ci 0, ci 0, ci 0, ci 0, ci 0, ci 0, ci 0, ci 0, ci 0, ci 0, ci 0, ci 0, ci 0, ci 0, ci 0, ci 0, ci 0, ci 0, ci 0] 2 hs fun b_13 w a hs => ?_
 refine qpk 0 [0, 2] hs fun a hs => hK12 _ _ ?_
 clear hK12
 refine qsr fun K14 hK14 => ?_
 refine qal 37 [ci 0, ci 0, ci 0, ci 0, ci 0, ci 0, ci 0, ci 0, ci 0, ci 0, ci 0, ci 0, ci 0, ci 0, ci 0, ci 0, ci 0, ci 0, ci 0, ci 0, ci 0, ci 0, ci 0, ci 0] 3 hs fun b_15 w a hs => ?_
 refine qpk 0 [0, 2, 3] hs fun a hs => hK14 _ _ ?_
 clear hK14
 refine Vk.seq fun K16 hK16 => ?_
 refine qsk 1 [0, 2, 3, 5] hs fun a hs => ?_
 refine wp_block ?_
 obtain ⟨r18, hl18, hm⟩ := bind_t hm
 have hx18 : ∀ (p_40 : Cells) (p_41 : Twire_Machine), r18 = (p_40, p_41) → ∀ (a : Act) (w : World), St 15 a w κ [(2, pp b_13), (3, pp b_15)] (pt b_13 (blk [ci 0, ci 0, ci 0, ci 0, ci 0, ci 0, ci 0, ci 0, ci 0, ci 0, ci 0, ci 0, ci 0, ci 0, ci 0, ci 0, ci 0, ci 0, ci 0, ci 0, ci 0, ci 0, ci 0, ci 0] 37) :: pt b_15 (blk p_40 37) :: Twire_Machine.own b_x0 p_41 :: pt b_2 (blk [cp b_x0] 26) :: pt b_3 (blk [ci 0, ci 0, ci 0, ci 0, ci 0, ci 0, ci 0, ci 0, ci 0, ci 0, ci 0, ci 0, ci 0, ci 0, ci 0, ci 0, ci 0, ci 0, ci 0, ci 0, ci 0, ci 0, ci 0, ci 0] 37) :: pt b_8 (blk v_7 55) :: S) → K16 a w := by
  intro p_40 p_41 he a w hs
  subst r18
  refine hK16 _ _ ?_
  clear hK16
  refine qsr fun K45 hK45 => ?_
  obtain ⟨h_46, hm⟩ := ite_t hm
  refine qlw 1 hs rfl h_46 fun a hs => ?_
  refine qsb 0 p_40 hs rfl h_46 rfl fun a w hs => ?_
  refine qpe 0 [(2, pp b_13)] hs fun a hs => hK45 _ _ ?_
  clear hK45
  refine wp_ret ?_
  refine hKP11 _ _ ?_
  refine hKR11 _ _ ?_
  refine Vk.retC (P := Tryz.prog) (fn := Tryz.f49) p_40 hs rfl (by kernel_rfl) (sz := 24) (by kernel_rfl) h_46 (CellsAt.all 0 rfl) ⟨_, _, _, rfl, hs.own, fun a hs => ?_⟩
  refine qsb 4 p_40 hs rfl h_46 rfl fun a w hs => ?_
  refine qpe 0 [(4, pp b_3)] hs fun a hs => hK10 _ _ ?_
  clear hK10
  refine wp_ret ?_
  exact Vk.retC p_40 hs rfl (by kernel_rfl) (sz := 24) (by kernel_rfl) h_46 (CellsAt.all 4 rfl) (hRR ▸ by cases hm; exact ⟨rfl, (hs.own.too [2] 6)⟩)
 refine Vk.loopBy (fun k (s : Twire_Machine × Cells × Int) a w => slice_Told.l1 v_7 k s.1 s.2.1 s.2.2 = some r18 ∧ St 15 a w κ [(0, .func (.func 51) #[] #[pp b_2, pp b_8]), (2, pp b_13), (3, pp b_15), (5, vi s.2.2)] (pt b_2 (blk [cp b_x0] 26) :: Twire_Machine.own b_x0 s.1 :: pt b_8 (blk v_7 55) :: pt b_13 (blk [ci 0, ci 0, ci 0, ci 0, ci 0, ci 0, ci 0, ci 0, ci 0, ci 0, ci 0, ci 0, ci 0, ci 0, ci 0, ci 0, ci 0, ci 0, ci 0, ci 0, ci 0, ci 0, ci 0, ci 0] 37) :: pt b_15 (blk s.2.1 37) :: pt b_3 (blk [ci 0, ci 0, ci 0, ci 0, ci 0, ci 0, ci 0, ci 0, ci 0, ci 0, ci 0, ci 0, ci 0, ci 0, ci 0, ci 0, ci 0, ci 0, ci 0, ci 0, ci 0, ci 0, ci 0, ci 0] 37) :: S)) k (x0, [ci 0, ci 0, ci 0, ci 0, ci 0, ci 0, ci 0, ci 0, ci 0, ci 0, ci 0, ci 0, ci 0, ci 0, ci 0, ci 0, ci 0, ci 0, ci 0, ci 0, ci 0, ci 0, ci 0, ci 0], 0) ⟨hl18, hs.go [0, 2, 3, 5] [4, 5, 2, 1, 0, 3] 6 (by kernel_rfl) (by kernel_rfl) (by kernel_rfl)⟩ (fun s a w h => by obtain ⟨h1, _⟩ := h; simp [slice_Told.l1] at h1) (fun k KL18 ih s a w h => ?_)
 obtain ⟨q_19, q_20, q_21⟩ := s
 obtain ⟨hm, hs⟩ := h
 try dsimp only at hm hs
 rw [slice_Told.l1] at hm
 refine qsk 1 [0, 2, 3, 5, 6] hs fun a hs => ?_
 refine Vk.seq fun K23 hK23 => ?_
 refine qcs (decide (q_21 < 8)) hs (fun hb => ?_) fun hb => ?_
 ·replace hm := bif_t hm hb
  refine wp_skip ?_
  refine hK23 _ _ ?_
  clear hK23
  refine Vk.seq fun K24 hK24 => ?_
  refine wp_block ?_
  refine qsk 2 [0, 2, 3, 4, 5] hs fun a hs => ?_
  refine Vk.region ?_
  refine qpu 3 hs fun a hs => ?_
  refine Vk.step (Vk.call (some 11) 51 #[vi q_21, pp b_2, pp b_8] hs (by kernel_rfl) (by kernel_rfl) (by kernel_rfl) ?_)
  refine Vk.enterI [(0, vi q_21), (1, pp b_2), (2, pp b_8)] Tryz.func51 rfl Tryz.ntmps51 (by kernel_rfl) (Nat.le_of_ble_eq_true (by kernel_rfl)) hs.own fun KR26 hKR26 hKP26 a hs => ?_
  refine qsr fun K27 hK27 => ?_
  refine qal 35 [ci 0, ci 0, ci 0] 4 hs fun b_28 w a hs => ?_
  refine qpk 0 [0, 1, 2, 4] hs fun a hs => hK27 _ _ ?_
  clear hK27
  refine Vk.seq fun K29 hK29 => ?_
  obtain ⟨C_30, hC_30⟩ := qC hs.own
  refine qdr 4 κ C_30 hs fun w hs hqC_30 => ?_
  have hcl := qO hC_30 hs.own
  refine qdp (fuel := 5) [1] hs hcl hqC_30 fun a hs => ?_
  refine qdl 0 1 (cp b_x0) hs hcl hqC_30 hC_30 rfl fun a hs => ?_
  obtain ⟨h_31, hm⟩ := ite_t hm
  refine qdx 2 b_8 0 1 hs hcl hqC_30 h_31 fun a hs => ?_
  obtain ⟨v_33, h_32, hm⟩ := bind_t hm
  refine qdi 3 3 hs hcl hqC_30 hC_30 rfl h_32 fun a hs => ?_
  obtain ⟨v_36, h_35, hm⟩ := bind_t hm
  refine qdc 4 (share_Told.ok _ _ _ _ h_35 _ _ _ b_x0 hs.own.f2) hs fun w a hs => ?_
  refine ⟨fun h => absurd h (by decide), ?_⟩
  obtain ⟨h_37, hm⟩ := ite_t hm
  refine qsA 5 1 v_36.1 hs rfl h_37 rfl fun a w hs => ?_
  refine ⟨fun h => absurd h (by decide), ?_⟩
  replace hs := hs.pick [4] (L' := [(4, pp b_28)]) (by kernel_rfl)
  refine Vk.dDone (by kernel_rfl) ?_
  refine hK29 _ _ ?_
  clear hK29
  refine wp_ret ?_
  refine hKP26 _ _ ?_
  refine hKR26 _ _ ?_
  refine Vk.retC (P := Tryz.prog) (fn := Tryz.f51) v_36.1 hs rfl (by kernel_rfl) (sz := 3) (by kernel_rfl) h_37 (CellsAt.all 1 rfl) ⟨_, _, _, rfl, hs.own, fun a hs => ?_⟩
  obtain ⟨h_38, hm⟩ := ite_t hm
  refine qix b_15 0 3 hs h_38 fun a hs => ?_
  obtain ⟨h_39, hm⟩ := ite_t hm
  refine Vk.step (Vk.storeN (b := b_15) (ty := 35) (x := (.tmp 12)) (y := (.tmp 11)) (off := 0 + q_21.toNat * 3) (sz := 3) v_36.1 5 hs (by kernel_rfl) (by kernel_rfl) (by kernel_rfl) (by kernel_rfl) (by kernel_rfl) h_37 (by kernel_rfl) rfl h_39 fun a w hs => ?_)
  refine qpk 0 [0, 2, 3, 5] hs fun a hs => hK24 _ _ ?_
  clear hK24
  refine Vk.region ?_
  refine qpk 2 [0, 2, 3, 5] hs fun a hs => ?_
  refine ih (v_36.2, (splice q_20 (0 + q_21.toNat * 3) v_36.1), (IntKind.i64.wrap (q_21 + 1))) _ _ ⟨hm, hs.go [0, 2, 3, 5] [2, 0, 3, 4, 5, 6] 7 (by kernel_rfl) (by kernel_rfl) (by kernel_rfl)⟩
 ·replace hm := bif_f hm hb
  refine wp_exit ?_
  exact hx18 q_20 q_19 (Option.some.inj hm).symm _ _ (hs.go [2, 3] [3, 4, 1, 0, 5, 2] 6 (by kernel_rfl) (by kernel_rfl) (by kernel_rfl))


abbrev wire_Machine_Begin.R (κ : Ctx) (S : List HP) (x0 : Twire_Machine) (x1 : Int) (b_x0 : Nat) (r : Twire_Machine) : Ending → World → Prop := fun e w' => e = .returned (.tuple #[]) ∧ Ow κ w' (Twire_Machine.own b_x0 r :: S)
def wire_Machine_Begin.m (k : Nat) (x0 : Twire_Machine) (x1 : Int) : Option Twire_Machine := (bif x0.bad != 0 then some x0 else (bif ((x0.openF != 0) || (decide (x1 < 1))) || (decide (x1 > 3)) then (wire_Machine_fail.m k x0 1).bind fun v_13 => some v_13.2 else (wire_Machine_Len.m k x0).bind fun v_16 => some (⟨x0.n, x0.most, x0.base, x0.words, x0.draws, x0.dry, x1, v_16, x0.bad, x0.tape, x0.ops, x0.values, x0.blocks⟩ : Twire_Machine)))

set_option maxRecDepth 100000 in
set_option maxHeartbeats 4000000 in
theorem wire_Machine_Begin.ok (k : Nat) (x0 : Twire_Machine) (x1 : Int) (r : Twire_Machine) (hm : wire_Machine_Begin.m k x0 x1 = some r) (κ : Ctx) (w : World) (S : List HP) (b_x0 : Nat) (ho : Ow κ w (Twire_Machine.own b_x0 x0 :: S)) :
  Calls Tryz.prog 94 #[pp b_x0, vi x1] w (wire_Machine_Begin.R κ S x0 x1 b_x0 r) := by
 unfold wire_Machine_Begin.m at hm
 generalize hRR : wire_Machine_Begin.R κ S x0 x1 b_x0 r = RR
 refine qen [(0, pp b_x0), (1, vi x1)] Tryz.func94 Tryz.ntmps94 ho fun a hs => ?_
 refine Vk.seq fun K1 hK1 => ?_
 refine wp_block ?_
 refine qsr fun K2 hK2 => ?_
 refine qpu 6 hs fun a hs => ?_
 obtain ⟨g_3, hs⟩ := hs.unbag 0 rfl
 refine qld 0 (ci x0.bad) hs rfl fun a hs => ?_
 refine qpk 3 [0, 1, 4] hs fun a hs => hK2 _ _ ?_
 clear hK2
 refine qcs (x0.bad != 0) hs (fun hb => ?_) fun hb => ?_
 ·replace hm := bif_t hm hb
  refine wp_ret ?_
  replace hs := hs.bagG (l := Twire_Machine.parts b_x0 x0 g_3) (S' := S) hs.own
  replace hs := hs.toEx (Twire_Machine.parts b_x0 x0) g_3 0 rfl
  exact qr0 hs rfl hRR (by cases hm; exact ⟨rfl, hs.own⟩)
 ·replace hm := bif_f hm hb
  refine qsr fun K7 hK7 => ?_
  refine qpu 3 hs fun a hs => ?_
  refine qld 0 (ci x0.openF) hs rfl fun a hs => ?_
  refine qpu 2 hs fun a hs => ?_
  refine qsc 20 3 hs fun a hs => ?_
  refine qpu 1 hs fun a hs => ?_
  refine qsc 24 3 hs fun a hs => ?_
  refine qpk 1 [0, 1, 14] hs fun a hs => hK7 _ _ ?_
  clear hK7
  refine qcs (((x0.openF != 0) || (decide (x1 < 1))) || (decide (x1 > 3))) hs (fun hb => ?_) fun hb => ?_
  ·replace hm := bif_t hm hb
   refine qsr fun K10 hK10 => ?_
   refine qpu 1 hs fun a hs => ?_
   replace hs := hs.bagG (l := Twire_Machine.parts b_x0 x0 g_3) (S' := S) hs.own
   replace hs := hs.toEx (Twire_Machine.parts b_x0 x0) g_3 0 rfl
   obtain ⟨v_13, h_12, hm⟩ := bind_t hm
   refine qcl (wire_Machine_fail.ok _ _ _ _ h_12 _ _ _ b_x0 hs.own) hs fun w a hs => ?_
   refine qpe 0 [] hs fun a hs => hK10 _ _ ?_
   clear hK10
   refine wp_ret ?_
   exact qr0 hs rfl hRR (by cases hm; exact ⟨rfl, hs.own⟩)
  ·replace hm := bif_f hm hb
   refine wp_skip ?_
   refine hK1 _ _ ?_
   clear hK1
   refine Vk.region ?_
   refine qpu 4 hs fun a hs => ?_
   replace hs := hs.bagG (l := Twire_Machine.parts b_x0 x0 g_3) (S' := S) hs.own
   obtain ⟨v_16, h_15, hm⟩ := bind_t hm
   refine qcl (wire_Machine_Len.ok _ _ _ h_15 _ _ _ b_x0 g_3 hs.own) hs fun w a hs => ?_
   replace hs := hs.unbagAt 0 rfl
   refine qpu 2 hs fun a hs => ?_
   refine qst 0 6 (ci x1) hs rfl fun a w hs => ?_
   refine qpu 2 hs fun a hs => ?_
   refine qst 0 7 (ci v_16) hs rfl fun a w hs => ?_
   refine qpe 0 [] hs fun a hs => ?_
   replace hs := hs.bagG (l := Twire_Machine.parts b_x0 (⟨x0.n, x0.most, x0.base, x0.words, x0.draws, x0.dry, x1, v_16, x0.bad, x0.tape, x0.ops, x0.values, x0.blocks⟩ : Twire_Machine) g_3) (S' := S) hs.own
   replace hs := hs.toEx (Twire_Machine.parts b_x0 (⟨x0.n, x0.most, x0.base, x0.words, x0.draws, x0.dry, x1, v_16, x0.bad, x0.tape, x0.ops, x0.values, x0.blocks⟩ : Twire_Machine)) g_3 0 rfl
   exact qe0 hs rfl hRR (by cases hm; exact ⟨rfl, hs.own⟩)


abbrev wire_Machine_Rand.R (κ : Ctx) (S : List HP) (x0 : Twire_Machine) (x1 : Int) (b_x0 : Nat) (r : (Int × Twire_Machine)) : Ending → World → Prop := fun e w' => e = .returned (vi r.1) ∧ Ow κ w' (Twire_Machine.own b_x0 r.2 :: S)
def wire_Machine_Rand.m (k : Nat) (x0 : Twire_Machine) (x1 : Int) : Option (Int × Twire_Machine) := (wire_Machine_Do.m k x0 (⟨1, x1, (-1), (-1), (-1), 0⟩ : Tapi_Op) 0).bind fun v_5 => some (v_5.1, v_5.2)

set_option maxRecDepth 100000 in
set_option maxHeartbeats 4000000 in
theorem wire_Machine_Rand.ok (k : Nat) (x0 : Twire_Machine) (x1 : Int) (r : (Int × Twire_Machine)) (hm : wire_Machine_Rand.m k x0 x1 = some r) (κ : Ctx) (w : World) (S : List HP) (b_x0 : Nat) (ho : Ow κ w (Twire_Machine.own b_x0 x0 :: S)) :
  Calls Tryz.prog 96 #[pp b_x0, vi x1] w (wire_Machine_Rand.R κ S x0 x1 b_x0 r) := by
 unfold wire_Machine_Rand.m at hm
 generalize hRR : wire_Machine_Rand.R κ S x0 x1 b_x0 r = RR
 refine qen [(0, pp b_x0), (1, vi x1)] Tryz.func96 Tryz.ntmps96 ho fun a hs => ?_
 refine qse 1 [(0, pp b_x0), (1, vi x1)] hs fun a hs => ?_
 refine qsr fun K2 hK2 => ?_
 refine qpu 3 hs fun a hs => ?_
 obtain ⟨v_5, h_4, hm⟩ := bind_t hm
 refine qcl (wire_Machine_Do.ok _ _ _ _ _ h_4 _ _ _ b_x0 hs.own) hs fun w a hs => ?_
 refine qpe 1 [(4, vi v_5.1)] hs fun a hs => hK2 _ _ ?_
 clear hK2
 refine wp_ret ?_
 exact qr1 (vi v_5.1) hs rfl hRR (by cases hm; exact ⟨rfl, hs.own⟩)


abbrev wire_Machine_next.R (κ : Ctx) (S : List HP) (x0 : Twire_Machine) (b_x0 : Nat) (g_x0 : Nat × Option Addr × Nat × Option Addr × Nat × Option Addr × Nat) (r : Int) : Ending → World → Prop := fun e w' => e = .returned (vw r) ∧ Ow κ w' (bagL (Twire_Machine.parts b_x0 x0 g_x0) :: S)
def wire_Machine_next.m (k : Nat) (x0 : Twire_Machine) : Option Int := some (IntKind.u64.wrap x0.words)

set_option maxRecDepth 100000 in
set_option maxHeartbeats 4000000 in
theorem wire_Machine_next.ok (k : Nat) (x0 : Twire_Machine) (r : Int) (hm : wire_Machine_next.m k x0 = some r) (κ : Ctx) (w : World) (S : List HP) (b_x0 : Nat) (g_x0 : Nat × Option Addr × Nat × Option Addr × Nat × Option Addr × Nat) (ho : Ow κ w (bagL (Twire_Machine.parts b_x0 x0 g_x0) :: S)) :
  Calls Tryz.prog 120 #[pp b_x0] w (wire_Machine_next.R κ S x0 b_x0 g_x0 r) := by
 unfold wire_Machine_next.m at hm
 generalize hRR : wire_Machine_next.R κ S x0 b_x0 g_x0 r = RR
 refine qen [(0, pp b_x0)] Tryz.func120 Tryz.ntmps120 ho fun a hs => ?_
 refine qse 1 [(0, pp b_x0)] hs fun a hs => ?_
 refine Vk.seq fun K2 hK2 => ?_
 refine qsk 2 [0, 4] hs fun a hs => ?_
 refine qcf hs ?_
 refine wp_skip ?_
 refine hK2 _ _ ?_
 clear hK2
 refine qsr fun K4 hK4 => ?_
 refine qpu 3 hs fun a hs => ?_
 replace hs := hs.unbagAt 0 rfl
 refine qld 0 (ci x0.words) hs rfl fun a hs => ?_
 refine qpk 2 [2] hs fun a hs => hK4 _ _ ?_
 clear hK4
 refine wp_ret ?_
 replace hs := hs.bagG (l := Twire_Machine.parts b_x0 x0 g_x0) (S' := S) hs.own
 exact qr1 (vw (IntKind.u64.wrap x0.words)) hs rfl hRR (by cases hm; exact ⟨rfl, hs.own⟩)


abbrev wire_Machine_Key.R (κ : Ctx) (S : List HP) (x0 : Twire_Machine) (x1 : Int) (x2 : Int) (x3 : Int) (b_x0 : Nat) (r : (Int × Twire_Machine)) : Ending → World → Prop := fun e w' => e = .returned (vi r.1) ∧ Ow κ w' (Twire_Machine.own b_x0 r.2 :: S)
def wire_Machine_Key.m (k : Nat) (x0 : Twire_Machine) (x1 : Int) (x2 : Int) (x3 : Int) : Option (Int × Twire_Machine) := (wire_Machine_next.m k x0).bind fun v_6 => (wire_Machine_Do.m k x0 (⟨2, 0, x2, x3, (-1), v_6⟩ : Tapi_Op) x1).bind fun v_9 => some (v_9.1, v_9.2)

set_option maxRecDepth 100000 in
set_option maxHeartbeats 4000000 in
theorem wire_Machine_Key.ok (k : Nat) (x0 : Twire_Machine) (x1 : Int) (x2 : Int) (x3 : Int) (r : (Int × Twire_Machine)) (hm : wire_Machine_Key.m k x0 x1 x2 x3 = some r) (κ : Ctx) (w : World) (S : List HP) (b_x0 : Nat) (ho : Ow κ w (Twire_Machine.own b_x0 x0 :: S)) :
  Calls Tryz.prog 97 #[pp b_x0, vw x1, vi x2, vi x3] w (wire_Machine_Key.R κ S x0 x1 x2 x3 b_x0 r) := by
 unfold wire_Machine_Key.m at hm
 generalize hRR : wire_Machine_Key.R κ S x0 x1 x2 x3 b_x0 r = RR
 refine qen [(0, pp b_x0), (1, vw x1), (2, vi x2), (3, vi x3)] Tryz.func97 Tryz.ntmps97 ho fun a hs => ?_
 refine qse 1 [(0, pp b_x0), (1, vw x1), (2, vi x2), (3, vi x3)] hs fun a hs => ?_
 refine qsr fun K2 hK2 => ?_
 refine qpu 4 hs fun a hs => ?_
 obtain ⟨g_3, hs⟩ := hs.unex 0 rfl
 obtain ⟨v_6, h_5, hm⟩ := bind_t hm
 refine qcl (wire_Machine_next.ok _ _ _ h_5 _ _ _ b_x0 g_3 hs.own) hs fun w a hs => ?_
 refine qpu 2 hs fun a hs => ?_
 replace hs := hs.toEx (Twire_Machine.parts b_x0 x0) g_3 0 rfl
 obtain ⟨v_9, h_8, hm⟩ := bind_t hm
 refine qcl (wire_Machine_Do.ok _ _ _ _ _ h_8 _ _ _ b_x0 hs.own) hs fun w a hs => ?_
 refine qpe 1 [(8, vi v_9.1)] hs fun a hs => hK2 _ _ ?_
 clear hK2
 refine wp_ret ?_
 exact qr1 (vi v_9.1) hs rfl hRR (by cases hm; exact ⟨rfl, hs.own⟩)


def wire_Machine_End.j2 (k : Nat) (p_32 : Twire_Machine) : Option (Twire_Machine) := some (⟨p_32.n, p_32.most, p_32.base, p_32.words, p_32.draws, p_32.dry, 0, p_32.fromF, p_32.bad, p_32.tape, p_32.ops, p_32.values, p_32.blocks⟩ : Twire_Machine)
def wire_Machine_End.j1 (k : Nat) (x0 : Twire_Machine) (p_18 : Bool) : Option (Twire_Machine) := (bif p_18 then (wire_Machine_Len.m k x0).bind fun v_26 => (if (x0.blocks.length + ([(⟨x0.openF, x0.fromF, v_26⟩ : Tapi_Span)] : List Tapi_Span).length) * 24 ≤ 140737488355328 then wire_Machine_End.j2 k (⟨x0.n, x0.most, x0.base, x0.words, x0.draws, x0.dry, x0.openF, x0.fromF, x0.bad, x0.tape, x0.ops, x0.values, x0.blocks ++ ([(⟨x0.openF, x0.fromF, v_26⟩ : Tapi_Span)] : List Tapi_Span)⟩ : Twire_Machine) else none) else wire_Machine_End.j2 k x0)
abbrev wire_Machine_End.R (κ : Ctx) (S : List HP) (x0 : Twire_Machine) (b_x0 : Nat) (r : Twire_Machine) : Ending → World → Prop := fun e w' => e = .returned (.tuple #[]) ∧ Ow κ w' (Twire_Machine.own b_x0 r :: S)
def wire_Machine_End.m (k : Nat) (x0 : Twire_Machine) : Option Twire_Machine := (bif x0.bad != 0 then some x0 else (bif x0.openF == 0 then (wire_Machine_fail.m k x0 1).bind fun v_11 => some v_11.2 else (wire_Machine_Len.m k x0).bind fun v_17 => (bif decide (v_17 > x0.fromF) then wire_Machine_End.j1 k x0 (!x0.dry) else wire_Machine_End.j1 k x0 false)))

set_option maxRecDepth 100000 in
set_option maxHeartbeats 4000000 in
theorem wire_Machine_End.ok (k : Nat) (x0 : Twire_Machine) (r : Twire_Machine) (hm : wire_Machine_End.m k x0 = some r) (κ : Ctx) (w : World) (S : List HP) (b_x0 : Nat) (ho : Ow κ w (Twire_Machine.own b_x0 x0 :: S)) :
  Calls Tryz.prog 98 #[pp b_x0] w (wire_Machine_End.R κ S x0 b_x0 r) := by
 unfold wire_Machine_End.m at hm
 generalize hRR : wire_Machine_End.R κ S x0 b_x0 r = RR
 refine qen [(0, pp b_x0)] Tryz.func98 Tryz.ntmps98 ho fun a hs => ?_
 refine Vk.seq fun K1 hK1 => ?_
 refine wp_block ?_
 refine qsr fun K2 hK2 => ?_
 refine qpu 6 hs fun a hs => ?_
 obtain ⟨g_3, hs⟩ := hs.unbag 0 rfl
 refine qld 0 (ci x0.bad) hs rfl fun a hs => ?_
 refine qpk 3 [0, 2] hs fun a hs => hK2 _ _ ?_
 clear hK2
 refine qcs (x0.bad != 0) hs (fun hb => ?_) fun hb => ?_
 ·replace hm := bif_t hm hb
  refine wp_ret ?_
  replace hs := hs.bagG (l := Twire_Machine.parts b_x0 x0 g_3) (S' := S) hs.own
  replace hs := hs.toEx (Twire_Machine.parts b_x0 x0) g_3 0 rfl
  exact qr0 hs rfl hRR (by cases hm; exact ⟨rfl, hs.own⟩)
 ·replace hm := bif_f hm hb
  refine qsr fun K7 hK7 => ?_
  refine qpu 3 hs fun a hs => ?_
  refine qld 0 (ci x0.openF) hs rfl fun a hs => ?_
  refine qpk 2 [0, 12] hs fun a hs => hK7 _ _ ?_
  clear hK7
  refine qcs (x0.openF == 0) hs (fun hb => ?_) fun hb => ?_
  ·replace hm := bif_t hm hb
   refine qsr fun K8 hK8 => ?_
   refine qpu 1 hs fun a hs => ?_
   replace hs := hs.bagG (l := Twire_Machine.parts b_x0 x0 g_3) (S' := S) hs.own
   replace hs := hs.toEx (Twire_Machine.parts b_x0 x0) g_3 0 rfl
   obtain ⟨v_11, h_10, hm⟩ := bind_t hm
   refine qcl (wire_Machine_fail.ok _ _ _ _ h_10 _ _ _ b_x0 hs.own) hs fun w a hs => ?_
   refine qpe 0 [] hs fun a hs => hK8 _ _ ?_
   clear hK8
   refine wp_ret ?_
   exact qr0 hs rfl hRR (by cases hm; exact ⟨rfl, hs.own⟩)
  ·replace hm := bif_f hm hb
   refine wp_skip ?_
   refine hK1 _ _ ?_
   clear hK1
   refine Vk.seq fun K12 hK12 => ?_
   have hj12 : ∀ (p_32 : Twire_Machine), wire_Machine_End.j2 k p_32 = some r → ∀ (a : Act) (w : World), St 57 a w κ [(0, pp b_x0)] (Twire_Machine.own b_x0 p_32 :: S) → K12 a w := by
    intro p_32 hm a w hs
    unfold wire_Machine_End.j2 at hm
    refine hK12 _ _ ?_
    refine Vk.region ?_
    refine qpu 3 hs fun a hs => ?_
    obtain ⟨g_33, hs⟩ := hs.unbag 0 rfl
    refine qst 0 6 (ci 0) hs rfl fun a w hs => ?_
    refine qpe 0 [] hs fun a hs => ?_
    replace hs := hs.bagG (l := Twire_Machine.parts b_x0 (⟨p_32.n, p_32.most, p_32.base, p_32.words, p_32.draws, p_32.dry, 0, p_32.fromF, p_32.bad, p_32.tape, p_32.ops, p_32.values, p_32.blocks⟩ : Twire_Machine) g_33) (S' := S) hs.own
    replace hs := hs.toEx (Twire_Machine.parts b_x0 (⟨p_32.n, p_32.most, p_32.base, p_32.words, p_32.draws, p_32.dry, 0, p_32.fromF, p_32.bad, p_32.tape, p_32.ops, p_32.values, p_32.blocks⟩ : Twire_Machine)) g_33 0 rfl
    exact qe0 hs rfl hRR (by cases hm; exact ⟨rfl, hs.own⟩)
   refine Vk.seq fun K13 hK13 => ?_
   have hj13 : ∀ (p_18 : Bool), wire_Machine_End.j1 k x0 p_18 = some r → ∀ (a : Act) (w : World), St 57 a w κ [(0, pp b_x0), (33, .bool p_18)] (Twire_Machine.own b_x0 x0 :: S) → K13 a w := by
    intro p_18 hm a w hs
    unfold wire_Machine_End.j1 at hm
    refine hK13 _ _ ?_
    refine qcs (p_18) hs (fun hb => ?_) fun hb => ?_
    ·replace hm := bif_t hm hb
     obtain ⟨g_19, hs⟩ := hs.unbag 0 rfl
     obtain ⟨C_23, hC_23⟩ := qC hs.own.f4.drop
     refine qdr 18 κ C_23 hs fun w hs hqC_23 => ?_
     have hcl := qO hC_23 hs.own.f4.drop
     refine qdp (fuel := 10) [0, 1, 2, 3, 5, 6, 7, 9, 10, 11, 13] hs hcl hqC_23 fun a hs => ?_
     refine qdl 4 0 (C.slc g_19.2.2.2.2.2.1 x0.blocks.length g_19.2.2.2.2.2.2) hs hcl hqC_23 hC_23 rfl fun a hs => ?_
     refine qdl 8 0 (ci x0.openF) hs hcl hqC_23 hC_23 rfl fun a hs => ?_
     refine qdl 12 0 (ci x0.fromF) hs hcl hqC_23 hC_23 rfl fun a hs => ?_
     replace hs := hs.bagG (l := Twire_Machine.parts b_x0 x0 g_19) (S' := S) hs.own
     obtain ⟨v_26, h_25, hm⟩ := bind_t hm
     refine qdc 14 (wire_Machine_Len.ok _ _ _ h_25 _ _ _ b_x0 g_19 hs.own) hs fun w a hs => ?_
     replace hs := hs.unbagAt 0 rfl
     replace hcl := qO hC_23 hs.own.f4.drop
     refine ⟨fun _ => hcl, ?_⟩
     refine qdp (fuel := 5) [15] hs hcl hqC_23 fun a hs => ?_
     refine Vk.dOnly (i := 16) (by kernel_rfl) (Vk.buildOp (sz := 3) (by_ := 24) (t := 50) (e := 119) (parts := #[(0, (.tmp 49))]) (zs := vals [ci 0, ci 0, ci 0]) ([(⟨x0.openF, x0.fromF, v_26⟩ : Tapi_Span)] : List Tapi_Span) Tapi_Span.cells (some 50) hs (by kernel_rfl) (by kernel_rfl) (by kernel_rfl) (by kernel_rfl) (by decide) rfl (fun x _ => rfl) (Nat.le_of_ble_eq_true (by kernel_rfl)) (by kernel_rfl) fun A_27 w a hs => ?_)
     replace hcl := qO hC_23 hs.own.f5.drop.drop
     refine ⟨fun _ => hcl, ?_⟩
     obtain ⟨h_29, hm⟩ := ite_t hm
     refine Vk.dOnly (i := 17) (by kernel_rfl) (Vk.appendOp (x := (.tmp 38)) (y := (.tmp 50)) (e := 119) (t := 50) (by_ := 24) (sz := 3) (enc := Tapi_Span.cells) (A := g_19.2.2.2.2.2.1) (cap := g_19.2.2.2.2.2.2) (xs := x0.blocks) (ys := ([(⟨x0.openF, x0.fromF, v_26⟩ : Tapi_Span)] : List Tapi_Span)) (B := A_27) (c2 := 1) 5 (some 51) hs (by kernel_rfl) (by kernel_rfl) (by kernel_rfl) (by kernel_rfl) rfl (Sl.lift (fun w ho => (Ow.to (S' := rowp A_27 1 119 3 Tapi_Span.cells ([(⟨x0.openF, x0.fromF, v_26⟩ : Tapi_Span)] : List Tapi_Span) :: S) ho [0] 6 (by kernel_rfl) (by kernel_rfl))) (Ow.rowSl 0 (Ow.to (S' := rowp A_27 1 119 3 Tapi_Span.cells ([(⟨x0.openF, x0.fromF, v_26⟩ : Tapi_Span)] : List Tapi_Span) :: S) hs.own [0] 6 (by kernel_rfl) (by kernel_rfl)) rfl)) (by kernel_rfl) (by kernel_rfl) (by decide) (by decide) h_29 fun A_30 c_31 w a hs => ?_)
     replace hcl := qO hC_23 hs.own.f5.drop.drop
     refine ⟨fun _ => hcl, ?_⟩
     refine Vk.dOnly (i := 18) (by kernel_rfl) (Vk.dPure1 [(52, pp b_x0)] hs (by kernel_rfl) fun a hs => ?_)
     refine ⟨fun h => absurd h (by decide), ?_⟩
     refine Vk.dOnly (i := 19) (by kernel_rfl) (Vk.dPure1 [(53, .pointer (some ⟨b_x0, 12, none⟩))] hs (by kernel_rfl) fun a hs => ?_)
     refine ⟨fun h => absurd h (by decide), ?_⟩
     refine qsd 20 1 12 (C.slc A_30 ((x0.blocks ++ ([(⟨x0.openF, x0.fromF, v_26⟩ : Tapi_Span)] : List Tapi_Span)).length) c_31) hs rfl fun a w hs => ?_
     refine ⟨fun h => absurd h (by decide), ?_⟩
     replace hs := hs.pick [0] (L' := [(0, pp b_x0)]) (by kernel_rfl)
     refine Vk.dDone (by kernel_rfl) ?_
     replace hs := hs.bagG (l := Twire_Machine.parts b_x0 (⟨x0.n, x0.most, x0.base, x0.words, x0.draws, x0.dry, x0.openF, x0.fromF, x0.bad, x0.tape, x0.ops, x0.values, x0.blocks ++ ([(⟨x0.openF, x0.fromF, v_26⟩ : Tapi_Span)] : List Tapi_Span)⟩ : Twire_Machine) (g_19.1, g_19.2.1, g_19.2.2.1, g_19.2.2.2.1, g_19.2.2.2.2.1, A_30, c_31)) (S' := rowp A_27 1 119 3 Tapi_Span.cells ([(⟨x0.openF, x0.fromF, v_26⟩ : Tapi_Span)] : List Tapi_Span) :: S) hs.own.f5.f5.f5.f5.f5
     replace hs := hs.toEx (Twire_Machine.parts b_x0 (⟨x0.n, x0.most, x0.base, x0.words, x0.draws, x0.dry, x0.openF, x0.fromF, x0.bad, x0.tape, x0.ops, x0.values, x0.blocks ++ ([(⟨x0.openF, x0.fromF, v_26⟩ : Tapi_Span)] : List Tapi_Span)⟩ : Twire_Machine)) (g_19.1, g_19.2.1, g_19.2.2.1, g_19.2.2.2.1, g_19.2.2.2.2.1, A_30, c_31) 0 rfl
     exact hj12 (⟨x0.n, x0.most, x0.base, x0.words, x0.draws, x0.dry, x0.openF, x0.fromF, x0.bad, x0.tape, x0.ops, x0.values, x0.blocks ++ ([(⟨x0.openF, x0.fromF, v_26⟩ : Tapi_Span)] : List Tapi_Span)⟩ : Twire_Machine) hm _ _ (hs.go [0] [0] 2 (by kernel_rfl) (by kernel_rfl) (by kernel_rfl))
    ·replace hm := bif_f hm hb
     refine wp_skip ?_
     exact hj12 x0 hm _ _ (hs.go [0] [0] 1 (by kernel_rfl) (by kernel_rfl) (by kernel_rfl))
   obtain ⟨C_14, hC_14⟩ := qC hs.own
   refine qdr 14 κ C_14 hs fun w hs hqC_14 => ?_
   have hcl := qO hC_14 hs.own
   refine qdp (fuel := 10) [0, 2, 3, 4] hs hcl hqC_14 fun a hs => ?_
   refine qdl 5 0 (ci x0.fromF) hs hcl hqC_14 hC_14 rfl fun a hs => ?_
   replace hs := hs.bagG (l := Twire_Machine.parts b_x0 x0 g_3) (S' := S) hs.own
   obtain ⟨v_17, h_16, hm⟩ := bind_t hm
   refine qdc 1 (wire_Machine_Len.ok _ _ _ h_16 _ _ _ b_x0 g_3 hs.own) hs fun w a hs => ?_
   replace hs := hs.unbagAt 0 rfl
   replace hcl := qO hC_14 hs.own
   refine ⟨fun _ => hcl, ?_⟩
   refine qdp (fuel := 6) [6, 7] hs hcl hqC_14 fun a hs => ?_
   rcases Bool.eq_false_or_eq_true (decide (v_17 > x0.fromF)) with hb | hb
   ·replace hm := bif_t hm hb
    replace hs := hs.known (t := 27) hb (by kernel_rfl)
    refine qdp (fuel := 3) [8, 9, 10] hs hcl hqC_14 fun a hs => ?_
    refine qdl 11 0 (C.bool x0.dry) hs hcl hqC_14 hC_14 rfl fun a hs => ?_
    refine qdp (fuel := 0) [12, 13] hs hcl hqC_14 fun a hs => ?_
    replace hs := hs.pick [0, 33] (L' := [(0, pp b_x0), (33, .bool (!x0.dry))]) (by kernel_rfl)
    refine Vk.dDone (by kernel_rfl) ?_
    replace hs := hs.bagG (l := Twire_Machine.parts b_x0 x0 g_3) (S' := S) hs.own
    replace hs := hs.toEx (Twire_Machine.parts b_x0 x0) g_3 0 rfl
    exact hj13 (!x0.dry) hm _ _ (hs.go [0, 33] [0] 1 (by kernel_rfl) (by kernel_rfl) (by kernel_rfl))
   ·replace hm := bif_f hm hb
    replace hs := hs.known (t := 27) hb (by kernel_rfl)
    refine qdp (fuel := 0) [8, 9, 10, 11, 12, 13] hs hcl hqC_14 fun a hs => ?_
    replace hs := hs.pick [0, 33] (L' := [(0, pp b_x0), (33, .bool false)]) (by kernel_rfl)
    refine Vk.dDone (by kernel_rfl) ?_
    replace hs := hs.bagG (l := Twire_Machine.parts b_x0 x0 g_3) (S' := S) hs.own
    replace hs := hs.toEx (Twire_Machine.parts b_x0 x0) g_3 0 rfl
    exact hj13 false hm _ _ (hs.go [0, 33] [0] 1 (by kernel_rfl) (by kernel_rfl) (by kernel_rfl))


def share_Encode.l1 : Nat → Twire_Machine → Cells → Int → Option (Twire_Machine × Cells)
 | 0, _, _, _ => none
 | k + 1, q_16, q_17, q_18 => (wire_Machine_N.m k q_16).bind fun v_24 => (bif decide (q_18 < v_24) then (wire_Machine_Rand.m k q_16 q_18).bind fun v_28 => (if 0 ≤ q_18 ∧ q_18 < 3 then (if 0 + q_18.toNat * 1 < q_17.length then share_Encode.l1 k v_28.2 (q_17.set (0 + q_18.toNat * 1) (ci v_28.1)) (IntKind.i64.wrap (q_18 + 1)) else none) else none) else some (q_16, q_17))
abbrev share_Encode.R (κ : Ctx) (S : List HP) (x0 : Twire_Machine) (x1 : Int) (b_x0 : Nat) (r : (Cells × Twire_Machine)) : Ending → World → Prop := fun e w' => e = .returned (.agg (vals r.1)) ∧ Ow κ w' (Twire_Machine.own b_x0 r.2 :: S)
def share_Encode.m (k : Nat) (x0 : Twire_Machine) (x1 : Int) : Option (Cells × Twire_Machine) := (share_none.m k).bind fun v_6 => (if v_6.length = 3 then (wire_Machine_Begin.m k x0 1).bind fun v_12 => (share_Encode.l1 k v_12 v_6 1).bind fun x => match x with | (p_31, p_32) => (getI .i64 p_32 (1)).bind fun v_38 => (getI .i64 p_32 (2)).bind fun v_40 => (wire_Machine_Key.m k p_31 x1 v_38 v_40).bind fun v_43 => (if 0 < p_32.length then (wire_Machine_End.m k v_43.2).bind fun v_48 => (if (p_32.set (0) (ci v_43.1)).length = 3 then some ((p_32.set (0) (ci v_43.1)), v_48) else none) else none) else none)

set_option maxRecDepth 100000 in
set_option maxHeartbeats 4000000 in
theorem share_Encode.ok (k : Nat) (x0 : Twire_Machine) (x1 : Int) (r : (Cells × Twire_Machine)) (hm : share_Encode.m k x0 x1 = some r) (κ : Ctx) (w : World) (S : List HP) (b_x0 : Nat) (ho : Ow κ w (Twire_Machine.own b_x0 x0 :: S)) :
  Calls Tryz.prog 54 #[pp b_x0, vw x1] w (share_Encode.R κ S x0 x1 b_x0 r) := by
 unfold share_Encode.m at hm
 generalize hRR : share_Encode.R κ S x0 x1 b_x0 r = RR
 refine qen [(0, pp b_x0), (1, vw x1)] Tryz.func54 Tryz.ntmps54 ho fun a hs => ?_
 refine qsr fun K1 hK1 => ?_
 refine qal 35 [ci 0, ci 0, ci 0] 4 hs fun b_2 w a hs => ?_
 refine qpk 0 [0, 1, 4] hs fun a hs => hK1 _ _ ?_
 clear hK1
 refine qsr fun K3 hK3 => ?_
 obtain ⟨v_6, h_5, hm⟩ := bind_t hm
 refine qcl (share_none.ok _ _ h_5 _ _ (pt b_2 (blk [ci 0, ci 0, ci 0] 35) :: Twire_Machine.own b_x0 x0 :: S) hs.own) hs fun w a hs => ?_
 refine qal 35 [ci 0, ci 0, ci 0] 5 hs fun b_7 w a hs => ?_
 obtain ⟨h_8, hm⟩ := ite_t hm
 refine qsb 0 v_6 hs rfl h_8 rfl fun a w hs => ?_
 refine qpk 0 [0, 1, 4, 5] hs fun a hs => hK3 _ _ ?_
 clear hK3
 refine qsr fun K9 hK9 => ?_
 refine qpu 1 hs fun a hs => ?_
 obtain ⟨v_12, h_11, hm⟩ := bind_t hm
 refine qcl (wire_Machine_Begin.ok _ _ _ _ h_11 _ _ _ b_x0 hs.own.f2) hs fun w a hs => ?_
 refine qpk 0 [0, 1, 4, 5] hs fun a hs => hK9 _ _ ?_
 clear hK9
 refine Vk.seq fun K13 hK13 => ?_
 refine qsk 1 [0, 1, 4, 5, 6] hs fun a hs => ?_
 refine wp_block ?_
 obtain ⟨r15, hl15, hm⟩ := bind_t hm
 have hx15 : ∀ (p_31 : Twire_Machine) (p_32 : Cells), r15 = (p_31, p_32) → ∀ (a : Act) (w : World), St 36 a w κ [(0, pp b_x0), (1, vw x1), (4, pp b_2), (5, pp b_7)] (Twire_Machine.own b_x0 p_31 :: pt b_2 (blk [ci 0, ci 0, ci 0] 35) :: pt b_7 (blk p_32 35) :: S) → K13 a w := by
  intro p_31 p_32 he a w hs
  subst r15
  refine hK13 _ _ ?_
  clear hK13
  refine qsr fun K36 hK36 => ?_
  refine qpu 4 hs fun a hs => ?_
  obtain ⟨v_38, h_37, hm⟩ := bind_t hm
  refine qli 2 hs rfl h_37 fun a hs => ?_
  refine qpu 2 hs fun a hs => ?_
  obtain ⟨v_40, h_39, hm⟩ := bind_t hm
  refine qli 2 hs rfl h_39 fun a hs => ?_
  obtain ⟨v_43, h_42, hm⟩ := bind_t hm
  refine qcl (wire_Machine_Key.ok _ _ _ _ _ _ h_42 _ _ _ b_x0 hs.own) hs fun w a hs => ?_
  refine qpu 2 hs fun a hs => ?_
  obtain ⟨h_44, hm⟩ := ite_t hm
  refine Vk.step (Vk.store1 (b := b_7) (ty := 3) (x := (.tmp 32)) (y := (.tmp 30)) (off := 0) (ci v_43.1) 2 hs (by kernel_rfl) (by kernel_rfl) (by kernel_rfl) (by kernel_rfl) (by kernel_rfl) (by kernel_rfl) rfl h_44 fun a w hs => ?_)
  refine qpk 0 [0, 4, 5] hs fun a hs => hK36 _ _ ?_
  clear hK36
  refine qsr fun K45 hK45 => ?_
  refine qpu 1 hs fun a hs => ?_
  obtain ⟨v_48, h_47, hm⟩ := bind_t hm
  refine qcl (wire_Machine_End.ok _ _ _ h_47 _ _ _ b_x0 hs.own) hs fun w a hs => ?_
  refine qpe 0 [(4, pp b_2), (5, pp b_7)] hs fun a hs => hK45 _ _ ?_
  clear hK45
  refine qsr fun K49 hK49 => ?_
  obtain ⟨h_50, hm⟩ := ite_t hm
  refine qlw 2 hs rfl h_50 fun a hs => ?_
  refine qsb 1 (p_32.set (0) (ci v_43.1)) hs rfl h_50 rfl fun a w hs => ?_
  refine qpe 0 [(4, pp b_2)] hs fun a hs => hK49 _ _ ?_
  clear hK49
  refine wp_ret ?_
  exact Vk.retC (p_32.set (0) (ci v_43.1)) hs rfl (by kernel_rfl) (sz := 3) (by kernel_rfl) h_50 (CellsAt.all 1 rfl) (hRR ▸ by cases hm; exact ⟨rfl, hs.own.f2.drop.f1.drop⟩)
 refine Vk.loopBy (fun k (s : Twire_Machine × Cells × Int) a w => share_Encode.l1 k s.1 s.2.1 s.2.2 = some r15 ∧ St 36 a w κ [(0, pp b_x0), (1, vw x1), (4, pp b_2), (5, pp b_7), (6, vi s.2.2)] (Twire_Machine.own b_x0 s.1 :: pt b_2 (blk [ci 0, ci 0, ci 0] 35) :: pt b_7 (blk s.2.1 35) :: S)) k (v_12, v_6, 1) ⟨hl15, hs.go [0, 1, 4, 5, 6] [0, 2, 1] 3 (by kernel_rfl) (by kernel_rfl) (by kernel_rfl)⟩ (fun s a w h => by obtain ⟨h1, _⟩ := h; simp [share_Encode.l1] at h1) (fun k KL15 ih s a w h => ?_)
 obtain ⟨q_16, q_17, q_18⟩ := s
 obtain ⟨hm, hs⟩ := h
 try dsimp only at hm hs
 rw [share_Encode.l1] at hm
 refine Vk.seq fun K19 hK19 => ?_
 refine qsr fun K20 hK20 => ?_
 refine qpu 2 hs fun a hs => ?_
 obtain ⟨g_21, hs⟩ := hs.unex 0 rfl
 obtain ⟨v_24, h_23, hm⟩ := bind_t hm
 refine qcl (wire_Machine_N.ok _ _ _ h_23 _ _ _ b_x0 g_21 hs.own) hs fun w a hs => ?_
 refine qpk 1 [0, 1, 4, 5, 6, 13] hs fun a hs => hK20 _ _ ?_
 clear hK20
 refine qcs (decide (q_18 < v_24)) hs (fun hb => ?_) fun hb => ?_
 ·replace hm := bif_t hm hb
  refine wp_skip ?_
  refine hK19 _ _ ?_
  clear hK19
  refine Vk.seq fun K25 hK25 => ?_
  refine wp_block ?_
  refine Vk.region ?_
  refine qpu 3 hs fun a hs => ?_
  replace hs := hs.toEx (Twire_Machine.parts b_x0 q_16) g_21 0 rfl
  obtain ⟨v_28, h_27, hm⟩ := bind_t hm
  refine qcl (wire_Machine_Rand.ok _ _ _ _ h_27 _ _ _ b_x0 hs.own) hs fun w a hs => ?_
  refine qpu 1 hs fun a hs => ?_
  obtain ⟨h_29, hm⟩ := ite_t hm
  refine qix b_7 0 1 hs h_29 fun a hs => ?_
  obtain ⟨h_30, hm⟩ := ite_t hm
  refine Vk.step (Vk.store1 (b := b_7) (ty := 3) (x := (.tmp 21)) (y := (.tmp 19)) (off := 0 + q_18.toNat * 1) (ci v_28.1) 2 hs (by kernel_rfl) (by kernel_rfl) (by kernel_rfl) (by kernel_rfl) (by kernel_rfl) (by kernel_rfl) rfl h_30 fun a w hs => ?_)
  refine qpk 0 [0, 1, 4, 5, 6] hs fun a hs => hK25 _ _ ?_
  clear hK25
  refine Vk.region ?_
  refine qpk 3 [0, 1, 4, 5, 6] hs fun a hs => ?_
  refine ih (v_28.2, (q_17.set (0 + q_18.toNat * 1) (ci v_28.1)), (IntKind.i64.wrap (q_18 + 1))) _ _ ⟨hm, hs.go [0, 1, 4, 5, 6] [0, 1, 2] 3 (by kernel_rfl) (by kernel_rfl) (by kernel_rfl)⟩
 ·replace hm := bif_f hm hb
  refine wp_exit ?_
  replace hs := hs.toEx (Twire_Machine.parts b_x0 q_16) g_21 0 rfl
  exact hx15 q_16 q_17 (Option.some.inj hm).symm _ _ (hs.go [0, 1, 4, 5] [0, 1, 2] 3 (by kernel_rfl) (by kernel_rfl) (by kernel_rfl))


def slice_Encode.l1 (v_7 : Cells) : Nat → Twire_Machine → Cells → Int → Option (Cells × Twire_Machine)
 | 0, _, _, _ => none
 | k + 1, q_19, q_20, q_21 => (bif decide (q_21 < 8) then (if 0 ≤ q_21 ∧ q_21 < 8 then (getI .u64 v_7 (0 + q_21.toNat * 1)).bind fun v_33 => (share_Encode.m k q_19 v_33).bind fun v_36 => (if v_36.1.length = 3 then (if 0 ≤ q_21 ∧ q_21 < 8 then (if 0 + q_21.toNat * 3 + v_36.1.length ≤ q_20.length then slice_Encode.l1 v_7 k v_36.2 (splice q_20 (0 + q_21.toNat * 3) v_36.1) (IntKind.i64.wrap (q_21 + 1)) else none) else none) else none) else none) else some (q_20, q_19))
abbrev slice_Encode.R (κ : Ctx) (S : List HP) (x0 : Twire_Machine) (x1 : List Int) (b_x0 : Nat) (A_x1 : Option Addr) (c_x1 : Nat) (r : (Cells × Twire_Machine)) : Ending → World → Prop := fun e w' => e = .returned (.agg (vals r.1)) ∧ Ow κ w' (Twire_Machine.own b_x0 r.2 :: S)
def slice_Encode.m (k : Nat) (x0 : Twire_Machine) (x1 : List Int) : Option (Cells × Twire_Machine) := (slice_Cut.m k x1).bind fun v_7 => (if v_7.length = 8 then (slice_Encode.l1 v_7 k x0 [ci 0, ci 0, ci 0, ci 0, ci 0, ci 0, ci 0, ci 0, ci 0, ci 0, ci 0, ci 0, ci 0, ci 0, ci 0, ci 0, ci 0, ci 0, ci 0, ci 0, ci 0, ci 0, ci 0, ci 0] 0).bind fun x => match x with | (p_40, p_41) => (if p_40.length = 24 then some (p_40, p_41) else none) else none)

set_option maxRecDepth 100000 in
set_option maxHeartbeats 4000000 in
theorem slice_Encode.ok (k : Nat) (x0 : Twire_Machine) (x1 : List Int) (r : (Cells × Twire_Machine)) (hm : slice_Encode.m k x0 x1 = some r) (κ : Ctx) (w : World) (S : List HP) (b_x0 : Nat) (A_x1 : Option Addr) (c_x1 : Nat) (hx_x1 : Sl κ S A_x1 c_x1 1 (eI .u8) x1) (ho : Ow κ w (Twire_Machine.own b_x0 x0 :: S)) :
  Calls Tryz.prog 10 #[pp b_x0, .slice A_x1 x1.length c_x1] w (slice_Encode.R κ S x0 x1 b_x0 A_x1 c_x1 r) := by
 unfold slice_Encode.m at hm
 generalize hRR : slice_Encode.R κ S x0 x1 b_x0 A_x1 c_x1 r = RR
 refine qen [(0, pp b_x0), (1, .slice A_x1 x1.length c_x1)] Tryz.func10 Tryz.ntmps10 ho fun a hs => ?_
 refine qsr fun K1 hK1 => ?_
 refine qbx 0 26 [cp b_x0] 2 hs fun b_2 w a hs => ?_
 refine qal 37 [ci 0, ci 0, ci 0, ci 0, ci 0, ci 0, ci 0, ci 0, ci 0, ci 0, ci 0, ci 0, ci 0, ci 0, ci 0, ci 0, ci 0, ci 0, ci 0, ci 0, ci 0, ci 0, ci 0, ci 0] 4 hs fun b_3 w a hs => ?_
 refine qpk 0 [1, 2, 4] hs fun a hs => hK1 _ _ ?_
 clear hK1
 refine qsr fun K4 hK4 => ?_
 refine qpu 1 hs fun a hs => ?_
 obtain ⟨v_7, h_6, hm⟩ := bind_t hm
 refine qcl (slice_Cut.ok _ _ _ h_6 _ _ (pt b_3 (blk [ci 0, ci 0, ci 0, ci 0, ci 0, ci 0, ci 0, ci 0, ci 0, ci 0, ci 0, ci 0, ci 0, ci 0, ci 0, ci 0, ci 0, ci 0, ci 0, ci 0, ci 0, ci 0, ci 0, ci 0] 37) :: pt b_2 (blk [cp b_x0] 26) :: Twire_Machine.own b_x0 x0 :: S) A_x1 c_x1 hx_x1.less.less.less hs.own) hs fun w a hs => ?_
 refine qal 55 [cw 0, cw 0, cw 0, cw 0, cw 0, cw 0, cw 0, cw 0] 5 hs fun b_8 w a hs => ?_
 obtain ⟨h_9, hm⟩ := ite_t hm
 refine qsb 0 v_7 hs rfl h_9 rfl fun a w hs => ?_
 refine qpk 0 [2, 4, 5] hs fun a hs => hK4 _ _ ?_
 clear hK4
 refine qsr fun K10 hK10 => ?_
 refine qpu 1 hs fun a hs => ?_
 refine Vk.step (Vk.call (some 9) 49 #[.func (.func 53) #[] #[pp b_2, pp b_8]] hs (by kernel_rfl) (by kernel_rfl) (by kernel_rfl) ?_)
 refine Vk.enterI [(0, .func (.func 53) #[] #[pp b_2, pp b_8])] Tryz.func49 rfl Tryz.ntmps49 (by kernel_rfl) (Nat.le_of_ble_eq_true (by kernel_rfl)) hs.own fun KR11 hKR11 hKP11 a hs => ?_
 refine qsr fun K12 hK12 => ?_
 refine qal 37 [ci 0, ci 0, ci 0, ci 0, ci 0, ci 0, ci 0, ci 0, ci 0, ci 0, ci 0, ci 0, ci 0, ci 0, ci 0, ci 0, ci 0, ci 0, ci 0, ci 0, ci 0, ci 0, ci 0, ci 0] 2 hs fun b_13 w a hs => ?_
 refine qpk 0 [0, 2] hs fun a hs => hK12 _ _ ?_
 clear hK12
 refine qsr fun K14 hK14 => ?_
 refine qal 37 [ci 0, ci 0, ci 0, ci 0, ci 0, ci 0, ci 0, ci 0, ci 0, ci 0, ci 0, ci 0, ci 0, ci 0, ci 0, ci 0, ci 0, ci 0, ci 0, ci 0, ci 0, ci 0, ci 0, ci 0] 3 hs fun b_15 w a hs => ?_
 refine qpk 0 [0, 2, 3] hs fun a hs => hK14 _ _ ?_
 clear hK14
 refine Vk.seq fun K16 hK16 => ?_
 refine qsk 1 [0, 2, 3, 5] hs fun a hs => ?_
 refine wp_block ?_
 obtain ⟨r18, hl18, hm⟩ := bind_t hm
 have hx18 : ∀ (p_40 : Cells) (p_41 : Twire_Machine), r18 = (p_40, p_41) → ∀ (a : Act) (w : World), St 15 a w κ [(2, pp b_13), (3, pp b_15)] (pt b_13 (blk [ci 0, ci 0, ci 0, ci 0, ci 0, ci 0, ci 0, ci 0, ci 0, ci 0, ci 0, ci 0, ci 0, ci 0, ci 0, ci 0, ci 0, ci 0, ci 0, ci 0, ci 0, ci 0, ci 0, ci 0] 37) :: pt b_15 (blk p_40 37) :: Twire_Machine.own b_x0 p_41 :: pt b_2 (blk [cp b_x0] 26) :: pt b_3 (blk [ci 0, ci 0, ci 0, ci 0, ci 0, ci 0, ci 0, ci 0, ci 0, ci 0, ci 0, ci 0, ci 0, ci 0, ci 0, ci 0, ci 0, ci 0, ci 0, ci 0, ci 0, ci 0, ci 0, ci 0] 37) :: pt b_8 (blk v_7 55) :: S) → K16 a w := by
  intro p_40 p_41 he a w hs
  subst r18
  refine hK16 _ _ ?_
  clear hK16
  refine qsr fun K45 hK45 => ?_
  obtain ⟨h_46, hm⟩ := ite_t hm
  refine qlw 1 hs rfl h_46 fun a hs => ?_
  refine qsb 0 p_40 hs rfl h_46 rfl fun a w hs => ?_
  refine qpe 0 [(2, pp b_13)] hs fun a hs => hK45 _ _ ?_
  clear hK45
  refine wp_ret ?_
  refine hKP11 _ _ ?_
  refine hKR11 _ _ ?_
  refine Vk.retC (P := Tryz.prog) (fn := Tryz.f49) p_40 hs rfl (by kernel_rfl) (sz := 24) (by kernel_rfl) h_46 (CellsAt.all 0 rfl) ⟨_, _, _, rfl, hs.own, fun a hs => ?_⟩
  refine qsb 4 p_40 hs rfl h_46 rfl fun a w hs => ?_
  refine qpe 0 [(4, pp b_3)] hs fun a hs => hK10 _ _ ?_
  clear hK10
  refine wp_ret ?_
  exact Vk.retC p_40 hs rfl (by kernel_rfl) (sz := 24) (by kernel_rfl) h_46 (CellsAt.all 4 rfl) (hRR ▸ by cases hm; exact ⟨rfl, (hs.own.too [2] 6)⟩)
 refine Vk.loopBy (fun k (s : Twire_Machine × Cells × Int) a w => slice_Encode.l1 v_7 k s.1 s.2.1 s.2.2 = some r18 ∧ St 15 a w κ [(0, .func (.func 53) #[] #[pp b_2, pp b_8]), (2, pp b_13), (3, pp b_15), (5, vi s.2.2)] (pt b_2 (blk [cp b_x0] 26) :: Twire_Machine.own b_x0 s.1 :: pt b_8 (blk v_7 55) :: pt b_13 (blk [ci 0, ci 0, ci 0, ci 0, ci 0, ci 0, ci 0, ci 0, ci 0, ci 0, ci 0, ci 0, ci 0, ci 0, ci 0, ci 0, ci 0, ci 0, ci 0, ci 0, ci 0, ci 0, ci 0, ci 0] 37) :: pt b_15 (blk s.2.1 37) :: pt b_3 (blk [ci 0, ci 0, ci 0, ci 0, ci 0, ci 0, ci 0, ci 0, ci 0, ci 0, ci 0, ci 0, ci 0, ci 0, ci 0, ci 0, ci 0, ci 0, ci 0, ci 0, ci 0, ci 0, ci 0, ci 0] 37) :: S)) k (x0, [ci 0, ci 0, ci 0, ci 0, ci 0, ci 0, ci 0, ci 0, ci 0, ci 0, ci 0, ci 0, ci 0, ci 0, ci 0, ci 0, ci 0, ci 0, ci 0, ci 0, ci 0, ci 0, ci 0, ci 0], 0) ⟨hl18, hs.go [0, 2, 3, 5] [4, 5, 2, 1, 0, 3] 6 (by kernel_rfl) (by kernel_rfl) (by kernel_rfl)⟩ (fun s a w h => by obtain ⟨h1, _⟩ := h; simp [slice_Encode.l1] at h1) (fun k KL18 ih s a w h => ?_)
 obtain ⟨q_19, q_20, q_21⟩ := s
 obtain ⟨hm, hs⟩ := h
 try dsimp only at hm hs
 rw [slice_Encode.l1] at hm
 refine qsk 1 [0, 2, 3, 5, 6] hs fun a hs => ?_
 refine Vk.seq fun K23 hK23 => ?_
 refine qcs (decide (q_21 < 8)) hs (fun hb => ?_) fun hb => ?_
 ·replace hm := bif_t hm hb
  refine wp_skip ?_
  refine hK23 _ _ ?_
  clear hK23
  refine Vk.seq fun K24 hK24 => ?_
  refine wp_block ?_
  refine qsk 2 [0, 2, 3, 4, 5] hs fun a hs => ?_
  refine Vk.region ?_
  refine qpu 3 hs fun a hs => ?_
  refine Vk.step (Vk.call (some 11) 53 #[vi q_21, pp b_2, pp b_8] hs (by kernel_rfl) (by kernel_rfl) (by kernel_rfl) ?_)
  refine Vk.enterI [(0, vi q_21), (1, pp b_2), (2, pp b_8)] Tryz.func53 rfl Tryz.ntmps53 (by kernel_rfl) (Nat.le_of_ble_eq_true (by kernel_rfl)) hs.own fun KR26 hKR26 hKP26 a hs => ?_
  refine qsr fun K27 hK27 => ?_
  refine qal 35 [ci 0, ci 0, ci 0] 4 hs fun b_28 w a hs => ?_
  refine qpk 0 [0, 1, 2, 4] hs fun a hs => hK27 _ _ ?_
  clear hK27
  refine Vk.seq fun K29 hK29 => ?_
  obtain ⟨C_30, hC_30⟩ := qC hs.own
  refine qdr 4 κ C_30 hs fun w hs hqC_30 => ?_
  have hcl := qO hC_30 hs.own
  refine qdp (fuel := 5) [1] hs hcl hqC_30 fun a hs => ?_
  refine qdl 0 1 (cp b_x0) hs hcl hqC_30 hC_30 rfl fun a hs => ?_
  obtain ⟨h_31, hm⟩ := ite_t hm
  refine qdx 2 b_8 0 1 hs hcl hqC_30 h_31 fun a hs => ?_
  obtain ⟨v_33, h_32, hm⟩ := bind_t hm
  refine qdi 3 3 hs hcl hqC_30 hC_30 rfl h_32 fun a hs => ?_
  obtain ⟨v_36, h_35, hm⟩ := bind_t hm
  refine qdc 4 (share_Encode.ok _ _ _ _ h_35 _ _ _ b_x0 hs.own.f2) hs fun w a hs => ?_
  refine ⟨fun h => absurd h (by decide), ?_⟩
  obtain ⟨h_37, hm⟩ := ite_t hm
  refine qsA 5 1 v_36.1 hs rfl h_37 rfl fun a w hs => ?_
  refine ⟨fun h => absurd h (by decide), ?_⟩
  replace hs := hs.pick [4] (L' := [(4, pp b_28)]) (by kernel_rfl)
  refine Vk.dDone (by kernel_rfl) ?_
  refine hK29 _ _ ?_
  clear hK29
  refine wp_ret ?_
  refine hKP26 _ _ ?_
  refine hKR26 _ _ ?_
  refine Vk.retC (P := Tryz.prog) (fn := Tryz.f53) v_36.1 hs rfl (by kernel_rfl) (sz := 3) (by kernel_rfl) h_37 (CellsAt.all 1 rfl) ⟨_, _, _, rfl, hs.own, fun a hs => ?_⟩
  obtain ⟨h_38, hm⟩ := ite_t hm
  refine qix b_15 0 3 hs h_38 fun a hs => ?_
  obtain ⟨h_39, hm⟩ := ite_t hm
  refine Vk.step (Vk.storeN (b := b_15) (ty := 35) (x := (.tmp 12)) (y := (.tmp 11)) (off := 0 + q_21.toNat * 3) (sz := 3) v_36.1 5 hs (by kernel_rfl) (by kernel_rfl) (by kernel_rfl) (by kernel_rfl) (by kernel_rfl) h_37 (by kernel_rfl) rfl h_39 fun a w hs => ?_)
  refine qpk 0 [0, 2, 3, 5] hs fun a hs => hK24 _ _ ?_
  clear hK24
  refine Vk.region ?_
  refine qpk 2 [0, 2, 3, 5] hs fun a hs => ?_
  refine ih (v_36.2, (splice q_20 (0 + q_21.toNat * 3) v_36.1), (IntKind.i64.wrap (q_21 + 1))) _ _ ⟨hm, hs.go [0, 2, 3, 5] [2, 0, 3, 4, 5, 6] 7 (by kernel_rfl) (by kernel_rfl) (by kernel_rfl)⟩
 ·replace hm := bif_f hm hb
  refine wp_exit ?_
  exact hx18 q_20 q_19 (Option.some.inj hm).symm _ _ (hs.go [2, 3] [3, 4, 1, 0, 5, 2] 6 (by kernel_rfl) (by kernel_rfl) (by kernel_rfl))


abbrev visorref19_M_Begin.R (κ : Ctx) (S : List HP) (x0 : Tvisorref19_M) (x1 : Int) (b_x0 : Nat) (r : Tvisorref19_M) : Ending → World → Prop := fun e w' => e = .returned (.tuple #[]) ∧ Ow κ w' (Tvisorref19_M.own κ b_x0 r :: S)
def visorref19_M_Begin.m (k : Nat) (x0 : Tvisorref19_M) (x1 : Int) : Option Tvisorref19_M := (bif x0.e != 0 then some x0 else (bif ((x0.kind != 0) || (decide (x1 < 1))) || (decide (x1 > 3)) then some (⟨x0.n, x0.most, x0.words, x0.draws, x0.fromF, x0.skip, x0.kind, 1, x0.ops, x0.blocks, x0.val, x0.tape, x0.dry⟩ : Tvisorref19_M) else (visorref19_M_Len.m k (⟨x0.n, x0.most, x0.words, x0.draws, x0.fromF, x0.skip, x1, x0.e, x0.ops, x0.blocks, x0.val, x0.tape, x0.dry⟩ : Tvisorref19_M)).bind fun v_16 => some (⟨x0.n, x0.most, x0.words, x0.draws, v_16, x0.skip, x1, x0.e, x0.ops, x0.blocks, x0.val, x0.tape, x0.dry⟩ : Tvisorref19_M)))

set_option maxRecDepth 100000 in
set_option maxHeartbeats 4000000 in
theorem visorref19_M_Begin.ok (k : Nat) (x0 : Tvisorref19_M) (x1 : Int) (r : Tvisorref19_M) (hm : visorref19_M_Begin.m k x0 x1 = some r) (κ : Ctx) (w : World) (S : List HP) (b_x0 : Nat) (ho : Ow κ w (Tvisorref19_M.own κ b_x0 x0 :: S)) :
  Calls Tryz.prog 99 #[pp b_x0, vi x1] w (visorref19_M_Begin.R κ S x0 x1 b_x0 r) := by
 unfold visorref19_M_Begin.m at hm
 generalize hRR : visorref19_M_Begin.R κ S x0 x1 b_x0 r = RR
 refine qen [(0, pp b_x0), (1, vi x1)] Tryz.func99 Tryz.ntmps99 ho fun a hs => ?_
 refine Vk.seq fun K1 hK1 => ?_
 refine qsr fun K2 hK2 => ?_
 refine qpu 3 hs fun a hs => ?_
 obtain ⟨g_3, hs⟩ := hs.unbag 0 rfl
 refine qld 0 (ci x0.e) hs rfl fun a hs => ?_
 refine qpk 1 [0, 1, 8] hs fun a hs => hK2 _ _ ?_
 clear hK2
 refine qcs (x0.e != 0) hs (fun hb => ?_) fun hb => ?_
 ·replace hm := bif_t hm hb
  refine wp_ret ?_
  replace hs := hs.bagG (l := Tvisorref19_M.parts κ b_x0 x0 g_3) (S' := S) hs.own
  replace hs := hs.toEx (Tvisorref19_M.parts κ b_x0 x0) g_3 0 rfl
  exact qr0 hs rfl hRR (by cases hm; exact ⟨rfl, hs.own⟩)
 ·replace hm := bif_f hm hb
  refine wp_skip ?_
  refine hK1 _ _ ?_
  clear hK1
  refine Vk.seq fun K8 hK8 => ?_
  refine qsr fun K9 hK9 => ?_
  refine qpu 3 hs fun a hs => ?_
  refine qld 0 (ci x0.kind) hs rfl fun a hs => ?_
  refine qpu 2 hs fun a hs => ?_
  refine qsc 14 3 hs fun a hs => ?_
  refine qpu 1 hs fun a hs => ?_
  refine qsc 18 3 hs fun a hs => ?_
  refine qpk 0 [0, 1, 21] hs fun a hs => hK9 _ _ ?_
  clear hK9
  refine qcs (((x0.kind != 0) || (decide (x1 < 1))) || (decide (x1 > 3))) hs (fun hb => ?_) fun hb => ?_
  ·replace hm := bif_t hm hb
   refine qsr fun K12 hK12 => ?_
   refine qpu 3 hs fun a hs => ?_
   refine qst 0 7 (ci 1) hs rfl fun a w hs => ?_
   refine qpe 0 [] hs fun a hs => hK12 _ _ ?_
   clear hK12
   refine wp_ret ?_
   replace hs := hs.bagG (l := Tvisorref19_M.parts κ b_x0 (⟨x0.n, x0.most, x0.words, x0.draws, x0.fromF, x0.skip, x0.kind, 1, x0.ops, x0.blocks, x0.val, x0.tape, x0.dry⟩ : Tvisorref19_M) g_3) (S' := S) hs.own
   replace hs := hs.toEx (Tvisorref19_M.parts κ b_x0 (⟨x0.n, x0.most, x0.words, x0.draws, x0.fromF, x0.skip, x0.kind, 1, x0.ops, x0.blocks, x0.val, x0.tape, x0.dry⟩ : Tvisorref19_M)) g_3 0 rfl
   exact qr0 hs rfl hRR (by cases hm; exact ⟨rfl, hs.own⟩)
  ·replace hm := bif_f hm hb
   refine wp_skip ?_
   refine hK8 _ _ ?_
   clear hK8
   refine qsr fun K13 hK13 => ?_
   refine qpu 4 hs fun a hs => ?_
   refine qst 0 6 (ci x1) hs rfl fun a w hs => ?_
   refine qpe 0 [(0, pp b_x0)] hs fun a hs => hK13 _ _ ?_
   clear hK13
   refine Vk.region ?_
   refine qpu 2 hs fun a hs => ?_
   replace hs := hs.bagG (l := Tvisorref19_M.parts κ b_x0 (⟨x0.n, x0.most, x0.words, x0.draws, x0.fromF, x0.skip, x1, x0.e, x0.ops, x0.blocks, x0.val, x0.tape, x0.dry⟩ : Tvisorref19_M) g_3) (S' := S) hs.own
   obtain ⟨v_16, h_15, hm⟩ := bind_t hm
   refine qcl (visorref19_M_Len.ok _ _ _ h_15 _ _ _ b_x0 g_3 hs.own) hs fun w a hs => ?_
   replace hs := hs.unbagAt 0 rfl
   refine qpu 2 hs fun a hs => ?_
   refine qst 0 4 (ci v_16) hs rfl fun a w hs => ?_
   refine qpe 0 [] hs fun a hs => ?_
   replace hs := hs.bagG (l := Tvisorref19_M.parts κ b_x0 (⟨x0.n, x0.most, x0.words, x0.draws, v_16, x0.skip, x1, x0.e, x0.ops, x0.blocks, x0.val, x0.tape, x0.dry⟩ : Tvisorref19_M) g_3) (S' := S) hs.own
   replace hs := hs.toEx (Tvisorref19_M.parts κ b_x0 (⟨x0.n, x0.most, x0.words, x0.draws, v_16, x0.skip, x1, x0.e, x0.ops, x0.blocks, x0.val, x0.tape, x0.dry⟩ : Tvisorref19_M)) g_3 0 rfl
   exact qe0 hs rfl hRR (by cases hm; exact ⟨rfl, hs.own⟩)


def visorref19_M_End.j1 (k : Nat) (p_26 : Tvisorref19_M) : Option (Tvisorref19_M) := some (⟨p_26.n, p_26.most, p_26.words, p_26.draws, p_26.fromF, p_26.skip, 0, p_26.e, p_26.ops, p_26.blocks, p_26.val, p_26.tape, p_26.dry⟩ : Tvisorref19_M)
abbrev visorref19_M_End.R (κ : Ctx) (S : List HP) (x0 : Tvisorref19_M) (b_x0 : Nat) (r : Tvisorref19_M) : Ending → World → Prop := fun e w' => e = .returned (.tuple #[]) ∧ Ow κ w' (Tvisorref19_M.own κ b_x0 r :: S)
def visorref19_M_End.m (k : Nat) (x0 : Tvisorref19_M) : Option Tvisorref19_M := (bif x0.e != 0 then some x0 else (bif x0.kind == 0 then some (⟨x0.n, x0.most, x0.words, x0.draws, x0.fromF, x0.skip, x0.kind, 1, x0.ops, x0.blocks, x0.val, x0.tape, x0.dry⟩ : Tvisorref19_M) else (visorref19_M_Len.m k x0).bind fun v_16 => (bif decide (v_16 > x0.fromF) then (visorref19_M_Len.m k x0).bind fun v_20 => (if (x0.blocks.length + ([(⟨x0.kind, x0.fromF, v_20⟩ : Tapi_Span)] : List Tapi_Span).length) * 24 ≤ 140737488355328 then visorref19_M_End.j1 k (⟨x0.n, x0.most, x0.words, x0.draws, x0.fromF, x0.skip, x0.kind, x0.e, x0.ops, x0.blocks ++ ([(⟨x0.kind, x0.fromF, v_20⟩ : Tapi_Span)] : List Tapi_Span), x0.val, x0.tape, x0.dry⟩ : Tvisorref19_M) else none) else visorref19_M_End.j1 k x0)))

set_option maxRecDepth 100000 in
set_option maxHeartbeats 4000000 in
theorem visorref19_M_End.ok (k : Nat) (x0 : Tvisorref19_M) (r : Tvisorref19_M) (hm : visorref19_M_End.m k x0 = some r) (κ : Ctx) (w : World) (S : List HP) (b_x0 : Nat) (ho : Ow κ w (Tvisorref19_M.own κ b_x0 x0 :: S)) :
  Calls Tryz.prog 100 #[pp b_x0] w (visorref19_M_End.R κ S x0 b_x0 r) := by
 unfold visorref19_M_End.m at hm
 generalize hRR : visorref19_M_End.R κ S x0 b_x0 r = RR
 refine qen [(0, pp b_x0)] Tryz.func100 Tryz.ntmps100 ho fun a hs => ?_
 refine Vk.seq fun K1 hK1 => ?_
 refine qsr fun K2 hK2 => ?_
 refine qpu 3 hs fun a hs => ?_
 obtain ⟨g_3, hs⟩ := hs.unbag 0 rfl
 refine qld 0 (ci x0.e) hs rfl fun a hs => ?_
 refine qpk 1 [0, 6] hs fun a hs => hK2 _ _ ?_
 clear hK2
 refine qcs (x0.e != 0) hs (fun hb => ?_) fun hb => ?_
 ·replace hm := bif_t hm hb
  refine wp_ret ?_
  replace hs := hs.bagG (l := Tvisorref19_M.parts κ b_x0 x0 g_3) (S' := S) hs.own
  replace hs := hs.toEx (Tvisorref19_M.parts κ b_x0 x0) g_3 0 rfl
  exact qr0 hs rfl hRR (by cases hm; exact ⟨rfl, hs.own⟩)
 ·replace hm := bif_f hm hb
  refine wp_skip ?_
  refine hK1 _ _ ?_
  clear hK1
  refine Vk.seq fun K8 hK8 => ?_
  refine qsr fun K9 hK9 => ?_
  refine qpu 3 hs fun a hs => ?_
  refine qld 0 (ci x0.kind) hs rfl fun a hs => ?_
  refine qpk 1 [0, 11] hs fun a hs => hK9 _ _ ?_
  clear hK9
  refine qcs (x0.kind == 0) hs (fun hb => ?_) fun hb => ?_
  ·replace hm := bif_t hm hb
   refine qsr fun K10 hK10 => ?_
   refine qpu 3 hs fun a hs => ?_
   refine qst 0 7 (ci 1) hs rfl fun a w hs => ?_
   refine qpe 0 [] hs fun a hs => hK10 _ _ ?_
   clear hK10
   refine wp_ret ?_
   replace hs := hs.bagG (l := Tvisorref19_M.parts κ b_x0 (⟨x0.n, x0.most, x0.words, x0.draws, x0.fromF, x0.skip, x0.kind, 1, x0.ops, x0.blocks, x0.val, x0.tape, x0.dry⟩ : Tvisorref19_M) g_3) (S' := S) hs.own
   replace hs := hs.toEx (Tvisorref19_M.parts κ b_x0 (⟨x0.n, x0.most, x0.words, x0.draws, x0.fromF, x0.skip, x0.kind, 1, x0.ops, x0.blocks, x0.val, x0.tape, x0.dry⟩ : Tvisorref19_M)) g_3 0 rfl
   exact qr0 hs rfl hRR (by cases hm; exact ⟨rfl, hs.own⟩)
  ·replace hm := bif_f hm hb
   refine wp_skip ?_
   refine hK8 _ _ ?_
   clear hK8
   refine Vk.seq fun K11 hK11 => ?_
   have hj11 : ∀ (p_26 : Tvisorref19_M), visorref19_M_End.j1 k p_26 = some r → ∀ (a : Act) (w : World), St 45 a w κ [(0, pp b_x0)] (Tvisorref19_M.own κ b_x0 p_26 :: S) → K11 a w := by
    intro p_26 hm a w hs
    unfold visorref19_M_End.j1 at hm
    refine hK11 _ _ ?_
    refine Vk.region ?_
    refine qpu 3 hs fun a hs => ?_
    obtain ⟨g_27, hs⟩ := hs.unbag 0 rfl
    refine qst 0 6 (ci 0) hs rfl fun a w hs => ?_
    refine qpe 0 [] hs fun a hs => ?_
    replace hs := hs.bagG (l := Tvisorref19_M.parts κ b_x0 (⟨p_26.n, p_26.most, p_26.words, p_26.draws, p_26.fromF, p_26.skip, 0, p_26.e, p_26.ops, p_26.blocks, p_26.val, p_26.tape, p_26.dry⟩ : Tvisorref19_M) g_27) (S' := S) hs.own
    replace hs := hs.toEx (Tvisorref19_M.parts κ b_x0 (⟨p_26.n, p_26.most, p_26.words, p_26.draws, p_26.fromF, p_26.skip, 0, p_26.e, p_26.ops, p_26.blocks, p_26.val, p_26.tape, p_26.dry⟩ : Tvisorref19_M)) g_27 0 rfl
    exact qe0 hs rfl hRR (by cases hm; exact ⟨rfl, hs.own⟩)
   refine Vk.seq fun K12 hK12 => ?_
   obtain ⟨C_13, hC_13⟩ := qC hs.own
   refine qdr 7 κ C_13 hs fun w hs hqC_13 => ?_
   have hcl := qO hC_13 hs.own
   refine qdp (fuel := 3) [0, 2, 3, 4] hs hcl hqC_13 fun a hs => ?_
   refine qdl 5 0 (ci x0.fromF) hs hcl hqC_13 hC_13 rfl fun a hs => ?_
   replace hs := hs.bagG (l := Tvisorref19_M.parts κ b_x0 x0 g_3) (S' := S) hs.own
   obtain ⟨v_16, h_15, hm⟩ := bind_t hm
   refine qdc 1 (visorref19_M_Len.ok _ _ _ h_15 _ _ _ b_x0 g_3 hs.own) hs fun w a hs => ?_
   replace hs := hs.unbagAt 0 rfl
   replace hcl := qO hC_13 hs.own
   refine ⟨fun _ => hcl, ?_⟩
   refine qdp (fuel := 0) [6] hs hcl hqC_13 fun a hs => ?_
   replace hs := hs.pick [0, 21] (L' := [(0, pp b_x0), (21, .bool (decide (v_16 > x0.fromF)))]) (by kernel_rfl)
   refine Vk.dDone (by kernel_rfl) ?_
   refine hK12 _ _ ?_
   clear hK12
   refine qcs (decide (v_16 > x0.fromF)) hs (fun hb => ?_) fun hb => ?_
   ·replace hm := bif_t hm hb
    obtain ⟨C_17, hC_17⟩ := qC hs.own.f2.drop
    refine qdr 18 κ C_17 hs fun w hs hqC_17 => ?_
    have hcl := qO hC_17 hs.own.f2.drop
    refine qdp (fuel := 10) [0, 1, 2, 3, 5, 6, 7, 9, 10, 11, 13] hs hcl hqC_17 fun a hs => ?_
    refine qdl 4 0 (C.slc g_3.2.2.1 x0.blocks.length g_3.2.2.2.1) hs hcl hqC_17 hC_17 rfl fun a hs => ?_
    refine qdl 8 0 (ci x0.kind) hs hcl hqC_17 hC_17 rfl fun a hs => ?_
    refine qdl 12 0 (ci x0.fromF) hs hcl hqC_17 hC_17 rfl fun a hs => ?_
    replace hs := hs.bagG (l := Tvisorref19_M.parts κ b_x0 x0 g_3) (S' := S) hs.own
    obtain ⟨v_20, h_19, hm⟩ := bind_t hm
    refine qdc 14 (visorref19_M_Len.ok _ _ _ h_19 _ _ _ b_x0 g_3 hs.own) hs fun w a hs => ?_
    replace hs := hs.unbagAt 0 rfl
    replace hcl := qO hC_17 hs.own.f2.drop
    refine ⟨fun _ => hcl, ?_⟩
    refine qdp (fuel := 5) [15] hs hcl hqC_17 fun a hs => ?_
    refine Vk.dOnly (i := 16) (by kernel_rfl) (Vk.buildOp (sz := 3) (by_ := 24) (t := 50) (e := 119) (parts := #[(0, (.tmp 37))]) (zs := vals [ci 0, ci 0, ci 0]) ([(⟨x0.kind, x0.fromF, v_20⟩ : Tapi_Span)] : List Tapi_Span) Tapi_Span.cells (some 38) hs (by kernel_rfl) (by kernel_rfl) (by kernel_rfl) (by kernel_rfl) (by decide) rfl (fun x _ => rfl) (Nat.le_of_ble_eq_true (by kernel_rfl)) (by kernel_rfl) fun A_21 w a hs => ?_)
    replace hcl := qO hC_17 hs.own.f3.drop.drop
    refine ⟨fun _ => hcl, ?_⟩
    obtain ⟨h_23, hm⟩ := ite_t hm
    refine Vk.dOnly (i := 17) (by kernel_rfl) (Vk.appendOp (x := (.tmp 26)) (y := (.tmp 38)) (e := 119) (t := 50) (by_ := 24) (sz := 3) (enc := Tapi_Span.cells) (A := g_3.2.2.1) (cap := g_3.2.2.2.1) (xs := x0.blocks) (ys := ([(⟨x0.kind, x0.fromF, v_20⟩ : Tapi_Span)] : List Tapi_Span)) (B := A_21) (c2 := 1) 3 (some 39) hs (by kernel_rfl) (by kernel_rfl) (by kernel_rfl) (by kernel_rfl) rfl (Sl.lift (fun w ho => (Ow.to (S' := rowp A_21 1 119 3 Tapi_Span.cells ([(⟨x0.kind, x0.fromF, v_20⟩ : Tapi_Span)] : List Tapi_Span) :: S) ho [0] 6 (by kernel_rfl) (by kernel_rfl))) (Ow.rowSl 0 (Ow.to (S' := rowp A_21 1 119 3 Tapi_Span.cells ([(⟨x0.kind, x0.fromF, v_20⟩ : Tapi_Span)] : List Tapi_Span) :: S) hs.own [0] 6 (by kernel_rfl) (by kernel_rfl)) rfl)) (by kernel_rfl) (by kernel_rfl) (by decide) (by decide) h_23 fun A_24 c_25 w a hs => ?_)
    replace hcl := qO hC_17 hs.own.f3.drop.drop
    refine ⟨fun _ => hcl, ?_⟩
    refine Vk.dOnly (i := 18) (by kernel_rfl) (Vk.dPure1 [(40, pp b_x0)] hs (by kernel_rfl) fun a hs => ?_)
    refine ⟨fun h => absurd h (by decide), ?_⟩
    refine Vk.dOnly (i := 19) (by kernel_rfl) (Vk.dPure1 [(41, .pointer (some ⟨b_x0, 9, none⟩))] hs (by kernel_rfl) fun a hs => ?_)
    refine ⟨fun h => absurd h (by decide), ?_⟩
    refine qsd 20 1 9 (C.slc A_24 ((x0.blocks ++ ([(⟨x0.kind, x0.fromF, v_20⟩ : Tapi_Span)] : List Tapi_Span)).length) c_25) hs rfl fun a w hs => ?_
    refine ⟨fun h => absurd h (by decide), ?_⟩
    replace hs := hs.pick [0] (L' := [(0, pp b_x0)]) (by kernel_rfl)
    refine Vk.dDone (by kernel_rfl) ?_
    replace hs := hs.bagG (l := Tvisorref19_M.parts κ b_x0 (⟨x0.n, x0.most, x0.words, x0.draws, x0.fromF, x0.skip, x0.kind, x0.e, x0.ops, x0.blocks ++ ([(⟨x0.kind, x0.fromF, v_20⟩ : Tapi_Span)] : List Tapi_Span), x0.val, x0.tape, x0.dry⟩ : Tvisorref19_M) (g_3.1, g_3.2.1, A_24, c_25, g_3.2.2.2.2.1, g_3.2.2.2.2.2.1, g_3.2.2.2.2.2.2.1, g_3.2.2.2.2.2.2.2)) (S' := rowp A_21 1 119 3 Tapi_Span.cells ([(⟨x0.kind, x0.fromF, v_20⟩ : Tapi_Span)] : List Tapi_Span) :: S) hs.own.f5.f5.f5.f5.f5
    replace hs := hs.toEx (Tvisorref19_M.parts κ b_x0 (⟨x0.n, x0.most, x0.words, x0.draws, x0.fromF, x0.skip, x0.kind, x0.e, x0.ops, x0.blocks ++ ([(⟨x0.kind, x0.fromF, v_20⟩ : Tapi_Span)] : List Tapi_Span), x0.val, x0.tape, x0.dry⟩ : Tvisorref19_M)) (g_3.1, g_3.2.1, A_24, c_25, g_3.2.2.2.2.1, g_3.2.2.2.2.2.1, g_3.2.2.2.2.2.2.1, g_3.2.2.2.2.2.2.2) 0 rfl
    exact hj11 (⟨x0.n, x0.most, x0.words, x0.draws, x0.fromF, x0.skip, x0.kind, x0.e, x0.ops, x0.blocks ++ ([(⟨x0.kind, x0.fromF, v_20⟩ : Tapi_Span)] : List Tapi_Span), x0.val, x0.tape, x0.dry⟩ : Tvisorref19_M) hm _ _ (hs.go [0] [0] 2 (by kernel_rfl) (by kernel_rfl) (by kernel_rfl))
   ·replace hm := bif_f hm hb
    refine wp_skip ?_
    replace hs := hs.bagG (l := Tvisorref19_M.parts κ b_x0 x0 g_3) (S' := S) hs.own
    replace hs := hs.toEx (Tvisorref19_M.parts κ b_x0 x0) g_3 0 rfl
    exact hj11 x0 hm _ _ (hs.go [0] [0] 1 (by kernel_rfl) (by kernel_rfl) (by kernel_rfl))


def visorref20_Encode.l1 : Nat → Tvisorref19_M → Cells → Int → Option (Tvisorref19_M × Cells)
 | 0, _, _, _ => none
 | k + 1, q_16, q_17, q_18 => (bif decide (q_18 < q_16.n) then (visorref19_Op.m k 1 q_18 (-1) (-1) 0).bind fun v_29 => (visorref19_M_Do.m k q_16 v_29 0).bind fun v_32 => (if 0 ≤ q_18 ∧ q_18 < 3 then (if 0 + q_18.toNat * 1 < q_17.length then visorref20_Encode.l1 k v_32.2 (q_17.set (0 + q_18.toNat * 1) (ci v_32.1)) (IntKind.i64.wrap (q_18 + 1)) else none) else none) else some (q_16, q_17))
abbrev visorref20_Encode.R (κ : Ctx) (S : List HP) (x0 : Tvisorref19_M) (x1 : Int) (b_x0 : Nat) (r : (Cells × Tvisorref19_M)) : Ending → World → Prop := fun e w' => e = .returned (.agg (vals r.1)) ∧ Ow κ w' (Tvisorref19_M.own κ b_x0 r.2 :: S)
def visorref20_Encode.m (k : Nat) (x0 : Tvisorref19_M) (x1 : Int) : Option (Cells × Tvisorref19_M) := (visorref20_None.m k).bind fun v_6 => (if v_6.length = 3 then (visorref19_M_Begin.m k x0 1).bind fun v_12 => (visorref20_Encode.l1 k v_12 v_6 1).bind fun x => match x with | (p_35, p_36) => (getI .i64 p_36 (1)).bind fun v_48 => (getI .i64 p_36 (2)).bind fun v_50 => (visorref19_Op.m k 2 0 v_48 v_50 (IntKind.u64.wrap p_35.words)).bind fun v_53 => (visorref19_M_Do.m k p_35 v_53 x1).bind fun v_56 => (if 0 < p_36.length then (visorref19_M_End.m k v_56.2).bind fun v_61 => (if (p_36.set (0) (ci v_56.1)).length = 3 then some ((p_36.set (0) (ci v_56.1)), v_61) else none) else none) else none)

set_option maxRecDepth 100000 in
set_option maxHeartbeats 4000000 in
theorem visorref20_Encode.ok (k : Nat) (x0 : Tvisorref19_M) (x1 : Int) (r : (Cells × Tvisorref19_M)) (hm : visorref20_Encode.m k x0 x1 = some r) (κ : Ctx) (w : World) (S : List HP) (b_x0 : Nat) (ho : Ow κ w (Tvisorref19_M.own κ b_x0 x0 :: S)) :
  Calls Tryz.prog 55 #[pp b_x0, vw x1] w (visorref20_Encode.R κ S x0 x1 b_x0 r) := by
 unfold visorref20_Encode.m at hm
 generalize hRR : visorref20_Encode.R κ S x0 x1 b_x0 r = RR
 refine qen [(0, pp b_x0), (1, vw x1)] Tryz.func55 Tryz.ntmps55 ho fun a hs => ?_
 refine qsr fun K1 hK1 => ?_
 refine qal 35 [ci 0, ci 0, ci 0] 4 hs fun b_2 w a hs => ?_
 refine qpk 0 [0, 1, 4] hs fun a hs => hK1 _ _ ?_
 clear hK1
 refine qsr fun K3 hK3 => ?_
 obtain ⟨v_6, h_5, hm⟩ := bind_t hm
 refine qcl (visorref20_None.ok _ _ h_5 _ _ (pt b_2 (blk [ci 0, ci 0, ci 0] 35) :: Tvisorref19_M.own κ b_x0 x0 :: S) hs.own) hs fun w a hs => ?_
 refine qal 35 [ci 0, ci 0, ci 0] 5 hs fun b_7 w a hs => ?_
 obtain ⟨h_8, hm⟩ := ite_t hm
 refine qsb 0 v_6 hs rfl h_8 rfl fun a w hs => ?_
 refine qpk 0 [0, 1, 4, 5] hs fun a hs => hK3 _ _ ?_
 clear hK3
 refine qsr fun K9 hK9 => ?_
 refine qpu 1 hs fun a hs => ?_
 obtain ⟨v_12, h_11, hm⟩ := bind_t hm
 refine qcl (visorref19_M_Begin.ok _ _ _ _ h_11 _ _ _ b_x0 hs.own.f2) hs fun w a hs => ?_
 refine qpk 0 [0, 1, 4, 5] hs fun a hs => hK9 _ _ ?_
 clear hK9
 refine Vk.seq fun K13 hK13 => ?_
 refine qse 1 [(0, pp b_x0), (1, vw x1), (4, pp b_2), (5, pp b_7), (6, vi 1)] hs fun a hs => ?_
 refine wp_block ?_
 obtain ⟨r15, hl15, hm⟩ := bind_t hm
 have hx15 : ∀ (p_35 : Tvisorref19_M) (p_36 : Cells), r15 = (p_35, p_36) → ∀ (a : Act) (w : World), St 45 a w κ [(0, pp b_x0), (1, vw x1), (4, pp b_2), (5, pp b_7)] (Tvisorref19_M.own κ b_x0 p_35 :: pt b_2 (blk [ci 0, ci 0, ci 0] 35) :: pt b_7 (blk p_36 35) :: S) → K13 a w := by
  intro p_35 p_36 he a w hs
  subst r15
  refine hK13 _ _ ?_
  clear hK13
  refine Vk.seq fun K40 hK40 => ?_
  obtain ⟨g_41, hs⟩ := hs.unbag 0 rfl
  obtain ⟨C_46, hC_46⟩ : ∃ X0 : List HP, X0 = (pt b_2 (blk [ci 0, ci 0, ci 0] 35) :: pt b_7 (blk p_36 35) :: S) := ⟨_, rfl⟩
  refine qdr 17 κ C_46 hs fun w hs hqC_46 => ?_
  have hcl : Ow κ w C_46 := by rw [hC_46]; exact (hs.own.too [5, 6] 7)
  refine qdp (fuel := 8) [0, 1, 2, 4, 5, 7, 8, 9, 13, 15] hs hcl hqC_46 fun a hs => ?_
  obtain ⟨v_48, h_47, hm⟩ := bind_t hm
  refine qdi 3 1 hs hcl hqC_46 hC_46 rfl h_47 fun a hs => ?_
  obtain ⟨v_50, h_49, hm⟩ := bind_t hm
  refine qdi 6 1 hs hcl hqC_46 hC_46 rfl h_49 fun a hs => ?_
  refine Vk.dOnly (i := 10) (by kernel_rfl) (Vk.value (some 35) (vi p_35.words) hs (by kernel_rfl) (op := (.load 3 (.tmp 34))) (by kernel_rfl) (fun o ho => run_load1 (b := b_x0) (off := 2) (c := ci p_35.words) ho (by kernel_rfl) (by kernel_rfl) (Cell.own 0 rfl (by kernel_rfl)) _ hs.own) fun a hs => ?_)
  replace hcl : Ow κ w C_46 := by rw [hC_46]; exact (hs.own.too [5, 6] 7)
  refine ⟨fun _ => hcl, ?_⟩
  refine qdp (fuel := 4) [11] hs hcl hqC_46 fun a hs => ?_
  obtain ⟨v_53, h_52, hm⟩ := bind_t hm
  refine qdc 12 (visorref19_Op.ok _ _ _ _ _ _ _ h_52 _ _ (pt b_x0 (blk (Tvisorref19_M.obj p_35 g_41.1 g_41.2.1 g_41.2.2.1 g_41.2.2.2.1 g_41.2.2.2.2.1 g_41.2.2.2.2.2.1 g_41.2.2.2.2.2.2.1 g_41.2.2.2.2.2.2.2) 54) :: rowp g_41.1 g_41.2.1 103 6 Tapi_Op.cells p_35.ops :: rowp g_41.2.2.1 g_41.2.2.2.1 119 3 Tapi_Span.cells p_35.blocks :: rowp g_41.2.2.2.2.1 g_41.2.2.2.2.2.1 23 1 (eI .u64) p_35.val :: rdp κ g_41.2.2.2.2.2.2.1 g_41.2.2.2.2.2.2.2 1 (eI .u64) p_35.tape.l :: pt b_2 (blk [ci 0, ci 0, ci 0] 35) :: pt b_7 (blk p_36 35) :: S) hs.own) hs fun w a hs => ?_
  replace hcl : Ow κ w C_46 := by rw [hC_46]; exact (hs.own.too [5, 6] 7)
  refine ⟨fun _ => hcl, ?_⟩
  replace hs := hs.bagG (l := Tvisorref19_M.parts κ b_x0 p_35 g_41) (S' := pt b_2 (blk [ci 0, ci 0, ci 0] 35) :: pt b_7 (blk p_36 35) :: S) hs.own
  replace hs := hs.toEx (Tvisorref19_M.parts κ b_x0 p_35) g_41 0 rfl
  obtain ⟨v_56, h_55, hm⟩ := bind_t hm
  refine qdc 14 (visorref19_M_Do.ok _ _ _ _ _ h_55 _ _ _ b_x0 hs.own) hs fun w a hs => ?_
  replace hcl := qO hC_46 hs.own.drop
  refine ⟨fun _ => hcl, ?_⟩
  refine qdp (fuel := 1) [16] hs hcl hqC_46 fun a hs => ?_
  obtain ⟨h_57, hm⟩ := ite_t hm
  refine Vk.dOnly (i := 17) (by kernel_rfl) (Vk.store1 (b := b_7) (ty := 3) (x := (.tmp 41)) (y := (.tmp 39)) (off := 0) (ci v_56.1) 2 hs (by kernel_rfl) (by kernel_rfl) (by kernel_rfl) (by kernel_rfl) (by kernel_rfl) (by kernel_rfl) rfl h_57 fun a w hs => ?_)
  refine ⟨fun h => absurd h (by decide), ?_⟩
  replace hs := hs.pick [0, 4, 5] (L' := [(0, pp b_x0), (4, pp b_2), (5, pp b_7)]) (by kernel_rfl)
  refine Vk.dDone (by kernel_rfl) ?_
  refine hK40 _ _ ?_
  clear hK40
  refine qsr fun K58 hK58 => ?_
  refine qpu 1 hs fun a hs => ?_
  obtain ⟨v_61, h_60, hm⟩ := bind_t hm
  refine qcl (visorref19_M_End.ok _ _ _ h_60 _ _ _ b_x0 hs.own) hs fun w a hs => ?_
  refine qpe 0 [(4, pp b_2), (5, pp b_7)] hs fun a hs => hK58 _ _ ?_
  clear hK58
  refine qsr fun K62 hK62 => ?_
  obtain ⟨h_63, hm⟩ := ite_t hm
  refine qlw 2 hs rfl h_63 fun a hs => ?_
  refine qsb 1 (p_36.set (0) (ci v_56.1)) hs rfl h_63 rfl fun a w hs => ?_
  refine qpe 0 [(4, pp b_2)] hs fun a hs => hK62 _ _ ?_
  clear hK62
  refine wp_ret ?_
  exact Vk.retC (p_36.set (0) (ci v_56.1)) hs rfl (by kernel_rfl) (sz := 3) (by kernel_rfl) h_63 (CellsAt.all 1 rfl) (hRR ▸ by cases hm; exact ⟨rfl, hs.own.f2.drop.f1.drop⟩)
 refine Vk.loopBy (fun k (s : Tvisorref19_M × Cells × Int) a w => visorref20_Encode.l1 k s.1 s.2.1 s.2.2 = some r15 ∧ St 45 a w κ [(0, pp b_x0), (1, vw x1), (4, pp b_2), (5, pp b_7), (6, vi s.2.2)] (Tvisorref19_M.own κ b_x0 s.1 :: pt b_2 (blk [ci 0, ci 0, ci 0] 35) :: pt b_7 (blk s.2.1 35) :: S)) k (v_12, v_6, 1) ⟨hl15, hs.go [0, 1, 4, 5, 6] [0, 2, 1] 3 (by kernel_rfl) (by kernel_rfl) (by kernel_rfl)⟩ (fun s a w h => by obtain ⟨h1, _⟩ := h; simp [visorref20_Encode.l1] at h1) (fun k KL15 ih s a w h => ?_)
 obtain ⟨q_16, q_17, q_18⟩ := s
 obtain ⟨hm, hs⟩ := h
 try dsimp only at hm hs
 rw [visorref20_Encode.l1] at hm
 refine Vk.seq fun K19 hK19 => ?_
 refine qsr fun K20 hK20 => ?_
 refine qpu 4 hs fun a hs => ?_
 obtain ⟨g_21, hs⟩ := hs.unbag 0 rfl
 refine qld 0 (ci q_16.n) hs rfl fun a hs => ?_
 refine qpk 1 [0, 1, 4, 5, 6, 15] hs fun a hs => hK20 _ _ ?_
 clear hK20
 refine qcs (decide (q_18 < q_16.n)) hs (fun hb => ?_) fun hb => ?_
 ·replace hm := bif_t hm hb
  refine wp_skip ?_
  refine hK19 _ _ ?_
  clear hK19
  refine Vk.seq fun K26 hK26 => ?_
  refine wp_block ?_
  refine Vk.region ?_
  refine qpu 3 hs fun a hs => ?_
  obtain ⟨v_29, h_28, hm⟩ := bind_t hm
  refine qcl (visorref19_Op.ok _ _ _ _ _ _ _ h_28 _ _ (pt b_x0 (blk (Tvisorref19_M.obj q_16 g_21.1 g_21.2.1 g_21.2.2.1 g_21.2.2.2.1 g_21.2.2.2.2.1 g_21.2.2.2.2.2.1 g_21.2.2.2.2.2.2.1 g_21.2.2.2.2.2.2.2) 54) :: rowp g_21.1 g_21.2.1 103 6 Tapi_Op.cells q_16.ops :: rowp g_21.2.2.1 g_21.2.2.2.1 119 3 Tapi_Span.cells q_16.blocks :: rowp g_21.2.2.2.2.1 g_21.2.2.2.2.2.1 23 1 (eI .u64) q_16.val :: rdp κ g_21.2.2.2.2.2.2.1 g_21.2.2.2.2.2.2.2 1 (eI .u64) q_16.tape.l :: pt b_2 (blk [ci 0, ci 0, ci 0] 35) :: pt b_7 (blk q_17 35) :: S) hs.own) hs fun w a hs => ?_
  replace hs := hs.bagG (l := Tvisorref19_M.parts κ b_x0 q_16 g_21) (S' := pt b_2 (blk [ci 0, ci 0, ci 0] 35) :: pt b_7 (blk q_17 35) :: S) hs.own
  replace hs := hs.toEx (Tvisorref19_M.parts κ b_x0 q_16) g_21 0 rfl
  obtain ⟨v_32, h_31, hm⟩ := bind_t hm
  refine qcl (visorref19_M_Do.ok _ _ _ _ _ h_31 _ _ _ b_x0 hs.own) hs fun w a hs => ?_
  refine qpu 1 hs fun a hs => ?_
  obtain ⟨h_33, hm⟩ := ite_t hm
  refine qix b_7 0 1 hs h_33 fun a hs => ?_
  obtain ⟨h_34, hm⟩ := ite_t hm
  refine Vk.step (Vk.store1 (b := b_7) (ty := 3) (x := (.tmp 24)) (y := (.tmp 22)) (off := 0 + q_18.toNat * 1) (ci v_32.1) 2 hs (by kernel_rfl) (by kernel_rfl) (by kernel_rfl) (by kernel_rfl) (by kernel_rfl) (by kernel_rfl) rfl h_34 fun a w hs => ?_)
  refine qpk 0 [0, 1, 4, 5, 6] hs fun a hs => hK26 _ _ ?_
  clear hK26
  refine Vk.region ?_
  refine qpk 3 [0, 1, 4, 5, 6] hs fun a hs => ?_
  refine ih (v_32.2, (q_17.set (0 + q_18.toNat * 1) (ci v_32.1)), (IntKind.i64.wrap (q_18 + 1))) _ _ ⟨hm, hs.go [0, 1, 4, 5, 6] [0, 1, 2] 3 (by kernel_rfl) (by kernel_rfl) (by kernel_rfl)⟩
 ·replace hm := bif_f hm hb
  refine wp_exit ?_
  replace hs := hs.bagG (l := Tvisorref19_M.parts κ b_x0 q_16 g_21) (S' := pt b_2 (blk [ci 0, ci 0, ci 0] 35) :: pt b_7 (blk q_17 35) :: S) hs.own
  replace hs := hs.toEx (Tvisorref19_M.parts κ b_x0 q_16) g_21 0 rfl
  exact hx15 q_16 q_17 (Option.some.inj hm).symm _ _ (hs.go [0, 1, 4, 5] [0, 1, 2] 3 (by kernel_rfl) (by kernel_rfl) (by kernel_rfl))


def visorref33_Encode.l1 (v_8 : Cells) : Nat → Tvisorref19_M → Cells → Int → Option (Cells × Tvisorref19_M)
 | 0, _, _, _ => none
 | k + 1, q_14, q_15, q_16 => (bif decide (q_16 < 8) then (if 0 ≤ q_16 ∧ q_16 < 8 then (getI .u64 v_8 (0 + q_16.toNat * 1)).bind fun v_22 => (visorref20_Encode.m k q_14 v_22).bind fun v_25 => (if 0 ≤ q_16 ∧ q_16 < 8 then (if v_25.1.length = 3 then (if 0 + q_16.toNat * 3 + v_25.1.length ≤ q_15.length then visorref33_Encode.l1 v_8 k v_25.2 (splice q_15 (0 + q_16.toNat * 3) v_25.1) (IntKind.i64.wrap (q_16 + 1)) else none) else none) else none) else none) else some (q_15, q_14))
abbrev visorref33_Encode.R (κ : Ctx) (S : List HP) (x0 : Tvisorref19_M) (x1 : List Int) (b_x0 : Nat) (A_x1 : Option Addr) (c_x1 : Nat) (r : (Cells × Tvisorref19_M)) : Ending → World → Prop := fun e w' => e = .returned (.agg (vals r.1)) ∧ Ow κ w' (Tvisorref19_M.own κ b_x0 r.2 :: S)
def visorref33_Encode.m (k : Nat) (x0 : Tvisorref19_M) (x1 : List Int) : Option (Cells × Tvisorref19_M) := (visorref33_Cut.m k x1).bind fun v_8 => (if v_8.length = 8 then (visorref33_Encode.l1 v_8 k x0 [ci 0, ci 0, ci 0, ci 0, ci 0, ci 0, ci 0, ci 0, ci 0, ci 0, ci 0, ci 0, ci 0, ci 0, ci 0, ci 0, ci 0, ci 0, ci 0, ci 0, ci 0, ci 0, ci 0, ci 0] 0).bind fun x => match x with | (p_29, p_30) => (if p_29.length = 24 then some (p_29, p_30) else none) else none)

set_option maxRecDepth 100000 in
set_option maxHeartbeats 4000000 in
theorem visorref33_Encode.ok (k : Nat) (x0 : Tvisorref19_M) (x1 : List Int) (r : (Cells × Tvisorref19_M)) (hm : visorref33_Encode.m k x0 x1 = some r) (κ : Ctx) (w : World) (S : List HP) (b_x0 : Nat) (A_x1 : Option Addr) (c_x1 : Nat) (hx_x1 : Sl κ S A_x1 c_x1 1 (eI .u8) x1) (ho : Ow κ w (Tvisorref19_M.own κ b_x0 x0 :: S)) :
  Calls Tryz.prog 11 #[pp b_x0, .slice A_x1 x1.length c_x1] w (visorref33_Encode.R κ S x0 x1 b_x0 A_x1 c_x1 r) := by
 unfold visorref33_Encode.m at hm
 generalize hRR : visorref33_Encode.R κ S x0 x1 b_x0 A_x1 c_x1 r = RR
 refine qen [(0, pp b_x0), (1, .slice A_x1 x1.length c_x1)] Tryz.func11 Tryz.ntmps11 ho fun a hs => ?_
 refine qsr fun K1 hK1 => ?_
 refine qal 37 [ci 0, ci 0, ci 0, ci 0, ci 0, ci 0, ci 0, ci 0, ci 0, ci 0, ci 0, ci 0, ci 0, ci 0, ci 0, ci 0, ci 0, ci 0, ci 0, ci 0, ci 0, ci 0, ci 0, ci 0] 4 hs fun b_2 w a hs => ?_
 refine qpk 0 [0, 1, 4] hs fun a hs => hK1 _ _ ?_
 clear hK1
 refine qsr fun K3 hK3 => ?_
 refine qpu 1 hs fun a hs => ?_
 refine qal 37 [ci 0, ci 0, ci 0, ci 0, ci 0, ci 0, ci 0, ci 0, ci 0, ci 0, ci 0, ci 0, ci 0, ci 0, ci 0, ci 0, ci 0, ci 0, ci 0, ci 0, ci 0, ci 0, ci 0, ci 0] 5 hs fun b_4 w a hs => ?_
 refine qsa 0 [ci 0, ci 0, ci 0, ci 0, ci 0, ci 0, ci 0, ci 0, ci 0, ci 0, ci 0, ci 0, ci 0, ci 0, ci 0, ci 0, ci 0, ci 0, ci 0, ci 0, ci 0, ci 0, ci 0, ci 0] hs rfl fun a w hs => ?_
 refine qpk 0 [0, 1, 4, 5] hs fun a hs => hK3 _ _ ?_
 clear hK3
 refine qsr fun K5 hK5 => ?_
 refine qpu 1 hs fun a hs => ?_
 obtain ⟨v_8, h_7, hm⟩ := bind_t hm
 refine qcl (visorref33_Cut.ok _ _ _ h_7 _ _ (pt b_4 (blk [ci 0, ci 0, ci 0, ci 0, ci 0, ci 0, ci 0, ci 0, ci 0, ci 0, ci 0, ci 0, ci 0, ci 0, ci 0, ci 0, ci 0, ci 0, ci 0, ci 0, ci 0, ci 0, ci 0, ci 0] 37) :: pt b_2 (blk [ci 0, ci 0, ci 0, ci 0, ci 0, ci 0, ci 0, ci 0, ci 0, ci 0, ci 0, ci 0, ci 0, ci 0, ci 0, ci 0, ci 0, ci 0, ci 0, ci 0, ci 0, ci 0, ci 0, ci 0] 37) :: Tvisorref19_M.own κ b_x0 x0 :: S) A_x1 c_x1 hx_x1.less.less.less hs.own) hs fun w a hs => ?_
 refine qal 55 [cw 0, cw 0, cw 0, cw 0, cw 0, cw 0, cw 0, cw 0] 6 hs fun b_9 w a hs => ?_
 obtain ⟨h_10, hm⟩ := ite_t hm
 refine qsb 0 v_8 hs rfl h_10 rfl fun a w hs => ?_
 refine qpk 0 [0, 4, 5, 6] hs fun a hs => hK5 _ _ ?_
 clear hK5
 refine Vk.seq fun K11 hK11 => ?_
 refine qsk 1 [0, 4, 5, 6, 7] hs fun a hs => ?_
 refine wp_block ?_
 obtain ⟨r13, hl13, hm⟩ := bind_t hm
 have hx13 : ∀ (p_29 : Cells) (p_30 : Tvisorref19_M), r13 = (p_29, p_30) → ∀ (a : Act) (w : World), St 23 a w κ [(4, pp b_2), (5, pp b_4)] (pt b_2 (blk [ci 0, ci 0, ci 0, ci 0, ci 0, ci 0, ci 0, ci 0, ci 0, ci 0, ci 0, ci 0, ci 0, ci 0, ci 0, ci 0, ci 0, ci 0, ci 0, ci 0, ci 0, ci 0, ci 0, ci 0] 37) :: pt b_4 (blk p_29 37) :: Tvisorref19_M.own κ b_x0 p_30 :: S) → K11 a w := by
  intro p_29 p_30 he a w hs
  subst r13
  refine hK11 _ _ ?_
  clear hK11
  refine qsr fun K34 hK34 => ?_
  obtain ⟨h_35, hm⟩ := ite_t hm
  refine qlw 1 hs rfl h_35 fun a hs => ?_
  refine qsb 0 p_29 hs rfl h_35 rfl fun a w hs => ?_
  refine qpe 0 [(4, pp b_2)] hs fun a hs => hK34 _ _ ?_
  clear hK34
  refine wp_ret ?_
  exact Vk.retC p_29 hs rfl (by kernel_rfl) (sz := 24) (by kernel_rfl) h_35 (CellsAt.all 0 rfl) (hRR ▸ by cases hm; exact ⟨rfl, hs.own.f1.drop.drop⟩)
 refine Vk.loopBy (fun k (s : Tvisorref19_M × Cells × Int) a w => visorref33_Encode.l1 v_8 k s.1 s.2.1 s.2.2 = some r13 ∧ St 23 a w κ [(0, pp b_x0), (4, pp b_2), (5, pp b_4), (6, pp b_9), (7, vi s.2.2)] (Tvisorref19_M.own κ b_x0 s.1 :: pt b_2 (blk [ci 0, ci 0, ci 0, ci 0, ci 0, ci 0, ci 0, ci 0, ci 0, ci 0, ci 0, ci 0, ci 0, ci 0, ci 0, ci 0, ci 0, ci 0, ci 0, ci 0, ci 0, ci 0, ci 0, ci 0] 37) :: pt b_4 (blk s.2.1 37) :: pt b_9 (blk v_8 55) :: S)) k (x0, [ci 0, ci 0, ci 0, ci 0, ci 0, ci 0, ci 0, ci 0, ci 0, ci 0, ci 0, ci 0, ci 0, ci 0, ci 0, ci 0, ci 0, ci 0, ci 0, ci 0, ci 0, ci 0, ci 0, ci 0], 0) ⟨hl13, hs.go [0, 4, 5, 6, 7] [3, 2, 1, 0] 4 (by kernel_rfl) (by kernel_rfl) (by kernel_rfl)⟩ (fun s a w h => by obtain ⟨h1, _⟩ := h; simp [visorref33_Encode.l1] at h1) (fun k KL13 ih s a w h => ?_)
 obtain ⟨q_14, q_15, q_16⟩ := s
 obtain ⟨hm, hs⟩ := h
 try dsimp only at hm hs
 rw [visorref33_Encode.l1] at hm
 refine Vk.seq fun K17 hK17 => ?_
 refine qsk 2 [0, 4, 5, 6, 7, 12] hs fun a hs => ?_
 refine qcs (decide (q_16 < 8)) hs (fun hb => ?_) fun hb => ?_
 ·replace hm := bif_t hm hb
  refine wp_skip ?_
  refine hK17 _ _ ?_
  clear hK17
  refine Vk.seq fun K19 hK19 => ?_
  refine wp_block ?_
  refine Vk.region ?_
  refine qpu 3 hs fun a hs => ?_
  obtain ⟨h_20, hm⟩ := ite_t hm
  refine qix b_9 0 1 hs h_20 fun a hs => ?_
  obtain ⟨v_22, h_21, hm⟩ := bind_t hm
  refine qli 3 hs rfl h_21 fun a hs => ?_
  obtain ⟨v_25, h_24, hm⟩ := bind_t hm
  refine qcl (visorref20_Encode.ok _ _ _ _ h_24 _ _ _ b_x0 hs.own) hs fun w a hs => ?_
  obtain ⟨h_26, hm⟩ := ite_t hm
  refine qix b_4 0 3 hs h_26 fun a hs => ?_
  obtain ⟨h_27, hm⟩ := ite_t hm
  obtain ⟨h_28, hm⟩ := ite_t hm
  refine Vk.step (Vk.storeN (b := b_4) (ty := 35) (x := (.tmp 21)) (y := (.tmp 20)) (off := 0 + q_16.toNat * 3) (sz := 3) v_25.1 2 hs (by kernel_rfl) (by kernel_rfl) (by kernel_rfl) (by kernel_rfl) (by kernel_rfl) h_27 (by kernel_rfl) rfl h_28 fun a w hs => ?_)
  refine qpk 0 [0, 4, 5, 6, 7] hs fun a hs => hK19 _ _ ?_
  clear hK19
  refine Vk.region ?_
  refine qpk 3 [0, 4, 5, 6, 7] hs fun a hs => ?_
  refine ih (v_25.2, (splice q_15 (0 + q_16.toNat * 3) v_25.1), (IntKind.i64.wrap (q_16 + 1))) _ _ ⟨hm, hs.go [0, 4, 5, 6, 7] [0, 1, 2, 3] 4 (by kernel_rfl) (by kernel_rfl) (by kernel_rfl)⟩
 ·replace hm := bif_f hm hb
  refine wp_exit ?_
  exact hx13 q_15 q_14 (Option.some.inj hm).symm _ _ (hs.go [4, 5] [1, 2, 0] 4 (by kernel_rfl) (by kernel_rfl) (by kernel_rfl))


abbrev wire_Machine_Two.R (κ : Ctx) (S : List HP) (x0 : Twire_Machine) (x1 : Int) (x2 : Int) (x3 : Int) (x4 : Int) (b_x0 : Nat) (r : (Int × Twire_Machine)) : Ending → World → Prop := fun e w' => e = .returned (vi r.1) ∧ Ow κ w' (Twire_Machine.own b_x0 r.2 :: S)
def wire_Machine_Two.m (k : Nat) (x0 : Twire_Machine) (x1 : Int) (x2 : Int) (x3 : Int) (x4 : Int) : Option (Int × Twire_Machine) := (wire_Machine_Do.m k x0 (⟨x1, x2, x3, x4, (-1), 0⟩ : Tapi_Op) 0).bind fun v_5 => some (v_5.1, v_5.2)

set_option maxRecDepth 100000 in
set_option maxHeartbeats 4000000 in
theorem wire_Machine_Two.ok (k : Nat) (x0 : Twire_Machine) (x1 : Int) (x2 : Int) (x3 : Int) (x4 : Int) (r : (Int × Twire_Machine)) (hm : wire_Machine_Two.m k x0 x1 x2 x3 x4 = some r) (κ : Ctx) (w : World) (S : List HP) (b_x0 : Nat) (ho : Ow κ w (Twire_Machine.own b_x0 x0 :: S)) :
  Calls Tryz.prog 102 #[pp b_x0, vi x1, vi x2, vi x3, vi x4] w (wire_Machine_Two.R κ S x0 x1 x2 x3 x4 b_x0 r) := by
 unfold wire_Machine_Two.m at hm
 generalize hRR : wire_Machine_Two.R κ S x0 x1 x2 x3 x4 b_x0 r = RR
 refine qen [(0, pp b_x0), (1, vi x1), (2, vi x2), (3, vi x3), (4, vi x4)] Tryz.func102 Tryz.ntmps102 ho fun a hs => ?_
 refine qsk 1 [0, 1, 2, 3, 4] hs fun a hs => ?_
 refine qsr fun K2 hK2 => ?_
 refine qpu 6 hs fun a hs => ?_
 obtain ⟨v_5, h_4, hm⟩ := bind_t hm
 refine qcl (wire_Machine_Do.ok _ _ _ _ _ h_4 _ _ _ b_x0 hs.own) hs fun w a hs => ?_
 refine qpe 1 [(10, vi v_5.1)] hs fun a hs => hK2 _ _ ?_
 clear hK2
 refine wp_ret ?_
 exact qr1 (vi v_5.1) hs rfl hRR (by cases hm; exact ⟨rfl, hs.own⟩)


def share_Xor.l1 (x1 : Cells) (x2 : Cells) (v_21 : Int) : Nat → Twire_Machine → Cells → Int → Option (Cells × Twire_Machine)
 | 0, _, _, _ => none
 | k + 1, q_23, q_24, q_25 => (bif decide (q_25 < v_21) then (if 0 ≤ q_25 ∧ q_25 < 3 then (getI .i64 x1 (0 + q_25.toNat * 1)).bind fun v_36 => (if 0 ≤ q_25 ∧ q_25 < 3 then (getI .i64 x2 (0 + q_25.toNat * 1)).bind fun v_39 => (wire_Machine_Two.m k q_23 5 q_25 v_36 v_39).bind fun v_42 => (if 0 ≤ q_25 ∧ q_25 < 3 then (if 0 + q_25.toNat * 1 < q_24.length then share_Xor.l1 x1 x2 v_21 k v_42.2 (q_24.set (0 + q_25.toNat * 1) (ci v_42.1)) (IntKind.i64.wrap (q_25 + 1)) else none) else none) else none) else none) else some (q_24, q_23))
abbrev share_Xor.R (κ : Ctx) (S : List HP) (x0 : Twire_Machine) (x1 : Cells) (x2 : Cells) (b_x0 : Nat) (r : (Cells × Twire_Machine)) : Ending → World → Prop := fun e w' => e = .returned (.agg (vals r.1)) ∧ Ow κ w' (Twire_Machine.own b_x0 r.2 :: S)
def share_Xor.m (k : Nat) (x0 : Twire_Machine) (x1 : Cells) (x2 : Cells) : Option (Cells × Twire_Machine) := (share_none.m k).bind fun v_13 => (if v_13.length = 3 then (wire_Machine_N.m k x0).bind fun v_21 => (share_Xor.l1 x1 x2 v_21 k x0 v_13 0).bind fun x => match x with | (p_45, p_46) => (if p_45.length = 3 then some (p_45, p_46) else none) else none)

set_option maxRecDepth 100000 in
set_option maxHeartbeats 4000000 in
theorem share_Xor.ok (k : Nat) (x0 : Twire_Machine) (x1 : Cells) (x2 : Cells) (r : (Cells × Twire_Machine)) (hm : share_Xor.m k x0 x1 x2 = some r) (κ : Ctx) (w : World) (S : List HP) (b_x0 : Nat) (ho : Ow κ w (Twire_Machine.own b_x0 x0 :: S)) :
  Calls Tryz.prog 57 #[pp b_x0, .agg (vals x1), .agg (vals x2)] w (share_Xor.R κ S x0 x1 x2 b_x0 r) := by
 unfold share_Xor.m at hm
 generalize hRR : share_Xor.R κ S x0 x1 x2 b_x0 r = RR
 refine qen [(0, pp b_x0), (1, .agg (vals x1)), (2, .agg (vals x2))] Tryz.func57 Tryz.ntmps57 ho fun a hs => ?_
 refine qsr fun K1 hK1 => ?_
 refine qbx 0 26 [cp b_x0] 3 hs fun b_2 w a hs => ?_
 refine qbx 1 35 x1 4 hs fun b_3 w a hs => ?_
 refine qbx 2 35 x2 5 hs fun b_4 w a hs => ?_
 refine qal 35 [ci 0, ci 0, ci 0] 6 hs fun b_5 w a hs => ?_
 refine qpk 0 [3, 4, 5, 6] hs fun a hs => hK1 _ _ ?_
 clear hK1
 refine qsr fun K6 hK6 => ?_
 refine qld 3 (cp b_x0) hs rfl fun a hs => ?_
 refine qpu 1 hs fun a hs => ?_
 refine Vk.step (Vk.call (some 9) 78 #[pp b_x0, .func (.func 101) #[] #[pp b_2, pp b_3, pp b_4]] hs (by kernel_rfl) (by kernel_rfl) (by kernel_rfl) ?_)
 refine Vk.enterI [(0, pp b_x0), (1, .func (.func 101) #[] #[pp b_2, pp b_3, pp b_4])] Tryz.func78 rfl Tryz.ntmps78 (by kernel_rfl) (Nat.le_of_ble_eq_true (by kernel_rfl)) hs.own fun KR7 hKR7 hKP7 a hs => ?_
 refine qsr fun K8 hK8 => ?_
 refine qal 35 [ci 0, ci 0, ci 0] 4 hs fun b_9 w a hs => ?_
 refine qpk 0 [0, 1, 4] hs fun a hs => hK8 _ _ ?_
 clear hK8
 refine qsr fun K10 hK10 => ?_
 obtain ⟨v_13, h_12, hm⟩ := bind_t hm
 refine qcl (share_none.ok _ _ h_12 _ _ (pt b_9 (blk [ci 0, ci 0, ci 0] 35) :: pt b_5 (blk [ci 0, ci 0, ci 0] 35) :: pt b_4 (blk x2 35) :: pt b_3 (blk x1 35) :: pt b_2 (blk [cp b_x0] 26) :: Twire_Machine.own b_x0 x0 :: S) hs.own) hs fun w a hs => ?_
 refine qal 35 [ci 0, ci 0, ci 0] 5 hs fun b_14 w a hs => ?_
 obtain ⟨h_15, hm⟩ := ite_t hm
 refine qsb 0 v_13 hs rfl h_15 rfl fun a w hs => ?_
 refine qpe 0 [(0, pp b_x0), (1, .func (.func 101) #[] #[pp b_2, pp b_3, pp b_4]), (4, pp b_9), (5, pp b_14)] hs fun a hs => hK10 _ _ ?_
 clear hK10
 refine Vk.seq fun K16 hK16 => ?_
 refine qsr fun K17 hK17 => ?_
 refine qpu 1 hs fun a hs => ?_
 obtain ⟨g_18, hs⟩ := hs.unex 6 rfl
 obtain ⟨v_21, h_20, hm⟩ := bind_t hm
 refine qcl (wire_Machine_N.ok _ _ _ h_20 _ _ _ b_x0 g_18 hs.own.f6) hs fun w a hs => ?_
 refine qpk 1 [1, 4, 5, 9, 10] hs fun a hs => hK17 _ _ ?_
 clear hK17
 refine wp_block ?_
 replace hs := hs.toEx (Twire_Machine.parts b_x0 x0) g_18 0 rfl
 obtain ⟨r22, hl22, hm⟩ := bind_t hm
 have hx22 : ∀ (p_45 : Cells) (p_46 : Twire_Machine), r22 = (p_45, p_46) → ∀ (a : Act) (w : World), St 21 a w κ [(4, pp b_9), (5, pp b_14)] (pt b_9 (blk [ci 0, ci 0, ci 0] 35) :: pt b_14 (blk p_45 35) :: Twire_Machine.own b_x0 p_46 :: pt b_2 (blk [cp b_x0] 26) :: pt b_3 (blk x1 35) :: pt b_4 (blk x2 35) :: pt b_5 (blk [ci 0, ci 0, ci 0] 35) :: S) → K16 a w := by
  intro p_45 p_46 he a w hs
  subst r22
  refine hK16 _ _ ?_
  clear hK16
  refine qsr fun K50 hK50 => ?_
  obtain ⟨h_51, hm⟩ := ite_t hm
  refine qlw 1 hs rfl h_51 fun a hs => ?_
  refine qsb 0 p_45 hs rfl h_51 rfl fun a w hs => ?_
  refine qpe 0 [(4, pp b_9)] hs fun a hs => hK50 _ _ ?_
  clear hK50
  refine wp_ret ?_
  refine hKP7 _ _ ?_
  refine hKR7 _ _ ?_
  refine Vk.retC (P := Tryz.prog) (fn := Tryz.f78) p_45 hs rfl (by kernel_rfl) (sz := 3) (by kernel_rfl) h_51 (CellsAt.all 0 rfl) ⟨_, _, _, rfl, hs.own, fun a hs => ?_⟩
  refine qsb 6 p_45 hs rfl h_51 rfl fun a w hs => ?_
  refine qpe 0 [(6, pp b_5)] hs fun a hs => hK6 _ _ ?_
  clear hK6
  refine wp_ret ?_
  exact Vk.retC p_45 hs rfl (by kernel_rfl) (sz := 3) (by kernel_rfl) h_51 (CellsAt.all 6 rfl) (hRR ▸ by cases hm; exact ⟨rfl, (hs.own.too [2] 7)⟩)
 refine Vk.loopBy (fun k (s : Twire_Machine × Cells × Int) a w => share_Xor.l1 x1 x2 v_21 k s.1 s.2.1 s.2.2 = some r22 ∧ St 21 a w κ [(1, .func (.func 101) #[] #[pp b_2, pp b_3, pp b_4]), (4, pp b_9), (5, pp b_14), (9, vi v_21), (10, vi s.2.2)] (pt b_2 (blk [cp b_x0] 26) :: Twire_Machine.own b_x0 s.1 :: pt b_3 (blk x1 35) :: pt b_4 (blk x2 35) :: pt b_9 (blk [ci 0, ci 0, ci 0] 35) :: pt b_14 (blk s.2.1 35) :: pt b_5 (blk [ci 0, ci 0, ci 0] 35) :: S)) k (x0, v_13, 0) ⟨hl22, hs.go [1, 4, 5, 9, 10] [6, 0, 5, 4, 2, 1, 3] 7 (by kernel_rfl) (by kernel_rfl) (by kernel_rfl)⟩ (fun s a w h => by obtain ⟨h1, _⟩ := h; simp [share_Xor.l1] at h1) (fun k KL22 ih s a w h => ?_)
 obtain ⟨q_23, q_24, q_25⟩ := s
 obtain ⟨hm, hs⟩ := h
 try dsimp only at hm hs
 rw [share_Xor.l1] at hm
 refine qsk 1 [1, 4, 5, 9, 10, 11] hs fun a hs => ?_
 refine Vk.seq fun K27 hK27 => ?_
 refine qcs (decide (q_25 < v_21)) hs (fun hb => ?_) fun hb => ?_
 ·replace hm := bif_t hm hb
  refine wp_skip ?_
  refine hK27 _ _ ?_
  clear hK27
  refine Vk.seq fun K28 hK28 => ?_
  refine wp_block ?_
  refine qsk 2 [1, 4, 5, 6, 9, 10] hs fun a hs => ?_
  refine Vk.region ?_
  refine qpu 3 hs fun a hs => ?_
  refine Vk.step (Vk.call (some 16) 101 #[vi q_25, pp b_2, pp b_3, pp b_4] hs (by kernel_rfl) (by kernel_rfl) (by kernel_rfl) ?_)
  refine Vk.enterI [(0, vi q_25), (1, pp b_2), (2, pp b_3), (3, pp b_4)] Tryz.func101 rfl Tryz.ntmps101 (by kernel_rfl) (Nat.le_of_ble_eq_true (by kernel_rfl)) hs.own fun KR30 hKR30 hKP30 a hs => ?_
  refine qsk 1 [0, 1, 2, 3] hs fun a hs => ?_
  refine Vk.seq fun K32 hK32 => ?_
  obtain ⟨C_33, hC_33⟩ := qC hs.own
  refine qdr 10 κ C_33 hs fun w hs hqC_33 => ?_
  have hcl := qO hC_33 hs.own
  refine qdp (fuel := 7) [1, 2, 3, 6, 7] hs hcl hqC_33 fun a hs => ?_
  refine qdl 0 0 (cp b_x0) hs hcl hqC_33 hC_33 rfl fun a hs => ?_
  obtain ⟨h_34, hm⟩ := ite_t hm
  refine qdx 4 b_3 0 1 hs hcl hqC_33 h_34 fun a hs => ?_
  obtain ⟨v_36, h_35, hm⟩ := bind_t hm
  refine qdi 5 2 hs hcl hqC_33 hC_33 rfl h_35 fun a hs => ?_
  obtain ⟨h_37, hm⟩ := ite_t hm
  refine qdx 8 b_4 0 1 hs hcl hqC_33 h_37 fun a hs => ?_
  obtain ⟨v_39, h_38, hm⟩ := bind_t hm
  refine qdi 9 3 hs hcl hqC_33 hC_33 rfl h_38 fun a hs => ?_
  obtain ⟨v_42, h_41, hm⟩ := bind_t hm
  refine qdc 10 (wire_Machine_Two.ok _ _ _ _ _ _ _ h_41 _ _ _ b_x0 hs.own.f1) hs fun w a hs => ?_
  refine ⟨fun h => absurd h (by decide), ?_⟩
  refine Vk.dOnly (i := 11) (by kernel_rfl) (Vk.dPure1 [(5, vi v_42.1)] hs (by kernel_rfl) fun a hs => ?_)
  refine ⟨fun h => absurd h (by decide), ?_⟩
  replace hs := hs.pick [5] (L' := [(5, vi v_42.1)]) (by kernel_rfl)
  refine Vk.dDone (by kernel_rfl) ?_
  refine hK32 _ _ ?_
  clear hK32
  refine wp_ret ?_
  refine hKP30 _ _ ?_
  refine hKR30 _ _ ?_
  refine Vk.ret1 (P := Tryz.prog) (fn := Tryz.f101) (vi v_42.1) hs rfl (by kernel_rfl) ⟨_, _, _, rfl, hs.own, fun a hs => ?_⟩
  refine qpu 1 hs fun a hs => ?_
  obtain ⟨h_43, hm⟩ := ite_t hm
  refine qix b_14 0 1 hs h_43 fun a hs => ?_
  obtain ⟨h_44, hm⟩ := ite_t hm
  refine Vk.step (Vk.store1 (b := b_14) (ty := 3) (x := (.tmp 18)) (y := (.tmp 16)) (off := 0 + q_25.toNat * 1) (ci v_42.1) 5 hs (by kernel_rfl) (by kernel_rfl) (by kernel_rfl) (by kernel_rfl) (by kernel_rfl) (by kernel_rfl) rfl h_44 fun a w hs => ?_)
  refine qpk 0 [1, 4, 5, 9, 10] hs fun a hs => hK28 _ _ ?_
  clear hK28
  refine Vk.region ?_
  refine qpk 2 [1, 4, 5, 9, 10] hs fun a hs => ?_
  refine ih (v_42.2, (q_24.set (0 + q_25.toNat * 1) (ci v_42.1)), (IntKind.i64.wrap (q_25 + 1))) _ _ ⟨hm, hs.go [1, 4, 5, 9, 10] [1, 0, 2, 3, 4, 5, 6] 7 (by kernel_rfl) (by kernel_rfl) (by kernel_rfl)⟩
 ·replace hm := bif_f hm hb
  refine wp_exit ?_
  exact hx22 q_24 q_23 (Option.some.inj hm).symm _ _ (hs.go [4, 5] [4, 5, 1, 0, 2, 3, 6] 7 (by kernel_rfl) (by kernel_rfl) (by kernel_rfl))


def slice_Xor.l1 (x1 : Cells) (x2 : Cells) : Nat → Twire_Machine → Cells → Int → Option (Cells × Twire_Machine)
 | 0, _, _, _ => none
 | k + 1, q_15, q_16, q_17 => (bif decide (q_17 < 8) then (if 0 ≤ q_17 ∧ q_17 < 8 then (part? x1 (0 + q_17.toNat * 3) 3).bind fun v_29 => (if 0 ≤ q_17 ∧ q_17 < 8 then (part? x2 (0 + q_17.toNat * 3) 3).bind fun v_32 => (share_Xor.m k q_15 v_29 v_32).bind fun v_35 => (if v_35.1.length = 3 then (if 0 ≤ q_17 ∧ q_17 < 8 then (if 0 + q_17.toNat * 3 + v_35.1.length ≤ q_16.length then slice_Xor.l1 x1 x2 k v_35.2 (splice q_16 (0 + q_17.toNat * 3) v_35.1) (IntKind.i64.wrap (q_17 + 1)) else none) else none) else none) else none) else none) else some (q_16, q_15))
abbrev slice_Xor.R (κ : Ctx) (S : List HP) (x0 : Twire_Machine) (x1 : Cells) (x2 : Cells) (b_x0 : Nat) (r : (Cells × Twire_Machine)) : Ending → World → Prop := fun e w' => e = .returned (.agg (vals r.1)) ∧ Ow κ w' (Twire_Machine.own b_x0 r.2 :: S)
def slice_Xor.m (k : Nat) (x0 : Twire_Machine) (x1 : Cells) (x2 : Cells) : Option (Cells × Twire_Machine) := (slice_Xor.l1 x1 x2 k x0 [ci 0, ci 0, ci 0, ci 0, ci 0, ci 0, ci 0, ci 0, ci 0, ci 0, ci 0, ci 0, ci 0, ci 0, ci 0, ci 0, ci 0, ci 0, ci 0, ci 0, ci 0, ci 0, ci 0, ci 0] 0).bind fun x => match x with | (p_39, p_40) => (if p_39.length = 24 then some (p_39, p_40) else none)

set_option maxRecDepth 100000 in
set_option maxHeartbeats 4000000 in
theorem slice_Xor.ok (k : Nat) (x0 : Twire_Machine) (x1 : Cells) (x2 : Cells) (r : (Cells × Twire_Machine)) (hm : slice_Xor.m k x0 x1 x2 = some r) (κ : Ctx) (w : World) (S : List HP) (b_x0 : Nat) (ho : Ow κ w (Twire_Machine.own b_x0 x0 :: S)) :
  Calls Tryz.prog 12 #[pp b_x0, .agg (vals x1), .agg (vals x2)] w (slice_Xor.R κ S x0 x1 x2 b_x0 r) := by
 unfold slice_Xor.m at hm
 generalize hRR : slice_Xor.R κ S x0 x1 x2 b_x0 r = RR
 refine qen [(0, pp b_x0), (1, .agg (vals x1)), (2, .agg (vals x2))] Tryz.func12 Tryz.ntmps12 ho fun a hs => ?_
 refine qsr fun K1 hK1 => ?_
 refine qbx 0 26 [cp b_x0] 3 hs fun b_2 w a hs => ?_
 refine qbx 1 37 x1 4 hs fun b_3 w a hs => ?_
 refine qbx 2 37 x2 5 hs fun b_4 w a hs => ?_
 refine qal 37 [ci 0, ci 0, ci 0, ci 0, ci 0, ci 0, ci 0, ci 0, ci 0, ci 0, ci 0, ci 0, ci 0, ci 0, ci 0, ci 0, ci 0, ci 0, ci 0, ci 0, ci 0, ci 0, ci 0, ci 0] 6 hs fun b_5 w a hs => ?_
 refine qpk 0 [3, 4, 5, 6] hs fun a hs => hK1 _ _ ?_
 clear hK1
 refine qsr fun K6 hK6 => ?_
 refine qpu 1 hs fun a hs => ?_
 refine Vk.step (Vk.call (some 8) 49 #[.func (.func 56) #[] #[pp b_2, pp b_3, pp b_4]] hs (by kernel_rfl) (by kernel_rfl) (by kernel_rfl) ?_)
 refine Vk.enterI [(0, .func (.func 56) #[] #[pp b_2, pp b_3, pp b_4])] Tryz.func49 rfl Tryz.ntmps49 (by kernel_rfl) (Nat.le_of_ble_eq_true (by kernel_rfl)) hs.own fun KR7 hKR7 hKP7 a hs => ?_
 refine qsr fun K8 hK8 => ?_
 refine qal 37 [ci 0, ci 0, ci 0, ci 0, ci 0, ci 0, ci 0, ci 0, ci 0, ci 0, ci 0, ci 0, ci 0, ci 0, ci 0, ci 0, ci 0, ci 0, ci 0, ci 0, ci 0, ci 0, ci 0, ci 0] 2 hs fun b_9 w a hs => ?_
 refine qpk 0 [0, 2] hs fun a hs => hK8 _ _ ?_
 clear hK8
 refine qsr fun K10 hK10 => ?_
 refine qal 37 [ci 0, ci 0, ci 0, ci 0, ci 0, ci 0, ci 0, ci 0, ci 0, ci 0, ci 0, ci 0, ci 0, ci 0, ci 0, ci 0, ci 0, ci 0, ci 0, ci 0, ci 0, ci 0, ci 0, ci 0] 3 hs fun b_11 w a hs => ?_
 refine qpk 0 [0, 2, 3] hs fun a hs => hK10 _ _ ?_
 clear hK10
 refine Vk.seq fun K12 hK12 => ?_
 refine qsk 1 [0, 2, 3, 5] hs fun a hs => ?_
 refine wp_block ?_
 obtain ⟨r14, hl14, hm⟩ := bind_t hm
 have hx14 : ∀ (p_39 : Cells) (p_40 : Twire_Machine), r14 = (p_39, p_40) → ∀ (a : Act) (w : World), St 15 a w κ [(2, pp b_9), (3, pp b_11)] (pt b_9 (blk [ci 0, ci 0, ci 0, ci 0, ci 0, ci 0, ci 0, ci 0, ci 0, ci 0, ci 0, ci 0, ci 0, ci 0, ci 0, ci 0, ci 0, ci 0, ci 0, ci 0, ci 0, ci 0, ci 0, ci 0] 37) :: pt b_11 (blk p_39 37) :: Twire_Machine.own b_x0 p_40 :: pt b_2 (blk [cp b_x0] 26) :: pt b_3 (blk x1 37) :: pt b_4 (blk x2 37) :: pt b_5 (blk [ci 0, ci 0, ci 0, ci 0, ci 0, ci 0, ci 0, ci 0, ci 0, ci 0, ci 0, ci 0, ci 0, ci 0, ci 0, ci 0, ci 0, ci 0, ci 0, ci 0, ci 0, ci 0, ci 0, ci 0] 37) :: S) → K12 a w := by
  intro p_39 p_40 he a w hs
  subst r14
  refine hK12 _ _ ?_
  clear hK12
  refine qsr fun K44 hK44 => ?_
  obtain ⟨h_45, hm⟩ := ite_t hm
  refine qlw 1 hs rfl h_45 fun a hs => ?_
  refine qsb 0 p_39 hs rfl h_45 rfl fun a w hs => ?_
  refine qpe 0 [(2, pp b_9)] hs fun a hs => hK44 _ _ ?_
  clear hK44
  refine wp_ret ?_
  refine hKP7 _ _ ?_
  refine hKR7 _ _ ?_
  refine Vk.retC (P := Tryz.prog) (fn := Tryz.f49) p_39 hs rfl (by kernel_rfl) (sz := 24) (by kernel_rfl) h_45 (CellsAt.all 0 rfl) ⟨_, _, _, rfl, hs.own, fun a hs => ?_⟩
  refine qsb 6 p_39 hs rfl h_45 rfl fun a w hs => ?_
  refine qpe 0 [(6, pp b_5)] hs fun a hs => hK6 _ _ ?_
  clear hK6
  refine wp_ret ?_
  exact Vk.retC p_39 hs rfl (by kernel_rfl) (sz := 24) (by kernel_rfl) h_45 (CellsAt.all 6 rfl) (hRR ▸ by cases hm; exact ⟨rfl, (hs.own.too [2] 7)⟩)
 refine Vk.loopBy (fun k (s : Twire_Machine × Cells × Int) a w => slice_Xor.l1 x1 x2 k s.1 s.2.1 s.2.2 = some r14 ∧ St 15 a w κ [(0, .func (.func 56) #[] #[pp b_2, pp b_3, pp b_4]), (2, pp b_9), (3, pp b_11), (5, vi s.2.2)] (pt b_2 (blk [cp b_x0] 26) :: Twire_Machine.own b_x0 s.1 :: pt b_3 (blk x1 37) :: pt b_4 (blk x2 37) :: pt b_9 (blk [ci 0, ci 0, ci 0, ci 0, ci 0, ci 0, ci 0, ci 0, ci 0, ci 0, ci 0, ci 0, ci 0, ci 0, ci 0, ci 0, ci 0, ci 0, ci 0, ci 0, ci 0, ci 0, ci 0, ci 0] 37) :: pt b_11 (blk s.2.1 37) :: pt b_5 (blk [ci 0, ci 0, ci 0, ci 0, ci 0, ci 0, ci 0, ci 0, ci 0, ci 0, ci 0, ci 0, ci 0, ci 0, ci 0, ci 0, ci 0, ci 0, ci 0, ci 0, ci 0, ci 0, ci 0, ci 0] 37) :: S)) k (x0, [ci 0, ci 0, ci 0, ci 0, ci 0, ci 0, ci 0, ci 0, ci 0, ci 0, ci 0, ci 0, ci 0, ci 0, ci 0, ci 0, ci 0, ci 0, ci 0, ci 0, ci 0, ci 0, ci 0, ci 0], 0) ⟨hl14, hs.go [0, 2, 3, 5] [5, 6, 4, 3, 1, 0, 2] 7 (by kernel_rfl) (by kernel_rfl) (by kernel_rfl)⟩ (fun s a w h => by obtain ⟨h1, _⟩ := h; simp [slice_Xor.l1] at h1) (fun k KL14 ih s a w h => ?_)
 obtain ⟨q_15, q_16, q_17⟩ := s
 obtain ⟨hm, hs⟩ := h
 try dsimp only at hm hs
 rw [slice_Xor.l1] at hm
 refine qsk 1 [0, 2, 3, 5, 6] hs fun a hs => ?_
 refine Vk.seq fun K19 hK19 => ?_
 refine qcs (decide (q_17 < 8)) hs (fun hb => ?_) fun hb => ?_
 ·replace hm := bif_t hm hb
  refine wp_skip ?_
  refine hK19 _ _ ?_
  clear hK19
  refine Vk.seq fun K20 hK20 => ?_
  refine wp_block ?_
  refine qsk 2 [0, 2, 3, 4, 5] hs fun a hs => ?_
  refine Vk.region ?_
  refine qpu 3 hs fun a hs => ?_
  refine Vk.step (Vk.call (some 11) 56 #[vi q_17, pp b_2, pp b_3, pp b_4] hs (by kernel_rfl) (by kernel_rfl) (by kernel_rfl) ?_)
  refine Vk.enterI [(0, vi q_17), (1, pp b_2), (2, pp b_3), (3, pp b_4)] Tryz.func56 rfl Tryz.ntmps56 (by kernel_rfl) (Nat.le_of_ble_eq_true (by kernel_rfl)) hs.own fun KR22 hKR22 hKP22 a hs => ?_
  refine qsr fun K23 hK23 => ?_
  refine qal 35 [ci 0, ci 0, ci 0] 5 hs fun b_24 w a hs => ?_
  refine qpk 0 [0, 1, 2, 3, 5] hs fun a hs => hK23 _ _ ?_
  clear hK23
  refine Vk.seq fun K25 hK25 => ?_
  obtain ⟨C_26, hC_26⟩ := qC hs.own
  refine qdr 7 κ C_26 hs fun w hs hqC_26 => ?_
  have hcl := qO hC_26 hs.own
  refine qdp (fuel := 7) [1, 4] hs hcl hqC_26 fun a hs => ?_
  refine qdl 0 1 (cp b_x0) hs hcl hqC_26 hC_26 rfl fun a hs => ?_
  obtain ⟨h_27, hm⟩ := ite_t hm
  refine qdx 2 b_3 0 3 hs hcl hqC_26 h_27 fun a hs => ?_
  obtain ⟨v_29, h_28, hm⟩ := bind_t hm
  refine qdt 3 (.agg (vals v_29)) (op := (.load 35 (.tmp 8))) hs hcl hqC_26 (fun w hw o ho => by rw [hC_26] at hw; exact run_loadN (cs := v_29) ho (by kernel_rfl) (by kernel_rfl) (part?_some h_28).2.2 (CellsAt.own (off := 0 + q_17.toNat * 3) 3 rfl h_28) _ hw) fun a hs => ?_
  obtain ⟨h_30, hm⟩ := ite_t hm
  refine qdx 5 b_4 0 3 hs hcl hqC_26 h_30 fun a hs => ?_
  obtain ⟨v_32, h_31, hm⟩ := bind_t hm
  refine qdt 6 (.agg (vals v_32)) (op := (.load 35 (.tmp 11))) hs hcl hqC_26 (fun w hw o ho => by rw [hC_26] at hw; exact run_loadN (cs := v_32) ho (by kernel_rfl) (by kernel_rfl) (part?_some h_31).2.2 (CellsAt.own (off := 0 + q_17.toNat * 3) 4 rfl h_31) _ hw) fun a hs => ?_
  obtain ⟨v_35, h_34, hm⟩ := bind_t hm
  refine qdc 7 (share_Xor.ok _ _ _ _ _ h_34 _ _ _ b_x0 hs.own.f2) hs fun w a hs => ?_
  refine ⟨fun h => absurd h (by decide), ?_⟩
  obtain ⟨h_36, hm⟩ := ite_t hm
  refine qsA 8 1 v_35.1 hs rfl h_36 rfl fun a w hs => ?_
  refine ⟨fun h => absurd h (by decide), ?_⟩
  replace hs := hs.pick [5] (L' := [(5, pp b_24)]) (by kernel_rfl)
  refine Vk.dDone (by kernel_rfl) ?_
  refine hK25 _ _ ?_
  clear hK25
  refine wp_ret ?_
  refine hKP22 _ _ ?_
  refine hKR22 _ _ ?_
  refine Vk.retC (P := Tryz.prog) (fn := Tryz.f56) v_35.1 hs rfl (by kernel_rfl) (sz := 3) (by kernel_rfl) h_36 (CellsAt.all 1 rfl) ⟨_, _, _, rfl, hs.own, fun a hs => ?_⟩
  obtain ⟨h_37, hm⟩ := ite_t hm
  refine qix b_11 0 3 hs h_37 fun a hs => ?_
  obtain ⟨h_38, hm⟩ := ite_t hm
  refine Vk.step (Vk.storeN (b := b_11) (ty := 35) (x := (.tmp 12)) (y := (.tmp 11)) (off := 0 + q_17.toNat * 3) (sz := 3) v_35.1 6 hs (by kernel_rfl) (by kernel_rfl) (by kernel_rfl) (by kernel_rfl) (by kernel_rfl) h_36 (by kernel_rfl) rfl h_38 fun a w hs => ?_)
  refine qpk 0 [0, 2, 3, 5] hs fun a hs => hK20 _ _ ?_
  clear hK20
  refine Vk.region ?_
  refine qpk 2 [0, 2, 3, 5] hs fun a hs => ?_
  refine ih (v_35.2, (splice q_16 (0 + q_17.toNat * 3) v_35.1), (IntKind.i64.wrap (q_17 + 1))) _ _ ⟨hm, hs.go [0, 2, 3, 5] [2, 0, 3, 4, 5, 6, 7] 8 (by kernel_rfl) (by kernel_rfl) (by kernel_rfl)⟩
 ·replace hm := bif_f hm hb
  refine wp_exit ?_
  exact hx14 q_16 q_15 (Option.some.inj hm).symm _ _ (hs.go [2, 3] [4, 5, 1, 0, 2, 3, 6] 7 (by kernel_rfl) (by kernel_rfl) (by kernel_rfl))


def visorref20_Xor.l1 (x1 : Cells) (x2 : Cells) : Nat → Tvisorref19_M → Cells → Int → Option (Cells × Tvisorref19_M)
 | 0, _, _, _ => none
 | k + 1, q_14, q_15, q_16 => (bif decide (q_16 < q_14.n) then (if 0 ≤ q_16 ∧ q_16 < 3 then (getI .i64 x1 (0 + q_16.toNat * 1)).bind fun v_28 => (if 0 ≤ q_16 ∧ q_16 < 3 then (getI .i64 x2 (0 + q_16.toNat * 1)).bind fun v_31 => (visorref19_Op.m k 5 q_16 v_28 v_31 0).bind fun v_34 => (visorref19_M_Do.m k q_14 v_34 0).bind fun v_37 => (if 0 ≤ q_16 ∧ q_16 < 3 then (if 0 + q_16.toNat * 1 < q_15.length then visorref20_Xor.l1 x1 x2 k v_37.2 (q_15.set (0 + q_16.toNat * 1) (ci v_37.1)) (IntKind.i64.wrap (q_16 + 1)) else none) else none) else none) else none) else some (q_15, q_14))
abbrev visorref20_Xor.R (κ : Ctx) (S : List HP) (x0 : Tvisorref19_M) (x1 : Cells) (x2 : Cells) (b_x0 : Nat) (r : (Cells × Tvisorref19_M)) : Ending → World → Prop := fun e w' => e = .returned (.agg (vals r.1)) ∧ Ow κ w' (Tvisorref19_M.own κ b_x0 r.2 :: S)
def visorref20_Xor.m (k : Nat) (x0 : Tvisorref19_M) (x1 : Cells) (x2 : Cells) : Option (Cells × Tvisorref19_M) := (visorref20_None.m k).bind fun v_8 => (if v_8.length = 3 then (visorref20_Xor.l1 x1 x2 k x0 v_8 0).bind fun x => match x with | (p_40, p_41) => (if p_40.length = 3 then some (p_40, p_41) else none) else none)

set_option maxRecDepth 100000 in
set_option maxHeartbeats 4000000 in
theorem visorref20_Xor.ok (k : Nat) (x0 : Tvisorref19_M) (x1 : Cells) (x2 : Cells) (r : (Cells × Tvisorref19_M)) (hm : visorref20_Xor.m k x0 x1 x2 = some r) (κ : Ctx) (w : World) (S : List HP) (b_x0 : Nat) (ho : Ow κ w (Tvisorref19_M.own κ b_x0 x0 :: S)) :
  Calls Tryz.prog 58 #[pp b_x0, .agg (vals x1), .agg (vals x2)] w (visorref20_Xor.R κ S x0 x1 x2 b_x0 r) := by
 unfold visorref20_Xor.m at hm
 generalize hRR : visorref20_Xor.R κ S x0 x1 x2 b_x0 r = RR
 refine qen [(0, pp b_x0), (1, .agg (vals x1)), (2, .agg (vals x2))] Tryz.func58 Tryz.ntmps58 ho fun a hs => ?_
 refine qsr fun K1 hK1 => ?_
 refine qbx 1 35 x1 4 hs fun b_2 w a hs => ?_
 refine qbx 2 35 x2 5 hs fun b_3 w a hs => ?_
 refine qal 35 [ci 0, ci 0, ci 0] 6 hs fun b_4 w a hs => ?_
 refine qpk 0 [0, 4, 5, 6] hs fun a hs => hK1 _ _ ?_
 clear hK1
 refine qsr fun K5 hK5 => ?_
 obtain ⟨v_8, h_7, hm⟩ := bind_t hm
 refine qcl (visorref20_None.ok _ _ h_7 _ _ (pt b_4 (blk [ci 0, ci 0, ci 0] 35) :: pt b_3 (blk x2 35) :: pt b_2 (blk x1 35) :: Tvisorref19_M.own κ b_x0 x0 :: S) hs.own) hs fun w a hs => ?_
 refine qal 35 [ci 0, ci 0, ci 0] 7 hs fun b_9 w a hs => ?_
 obtain ⟨h_10, hm⟩ := ite_t hm
 refine qsb 0 v_8 hs rfl h_10 rfl fun a w hs => ?_
 refine qpk 0 [0, 4, 5, 6, 7] hs fun a hs => hK5 _ _ ?_
 clear hK5
 refine Vk.seq fun K11 hK11 => ?_
 refine qsk 1 [0, 4, 5, 6, 7, 8] hs fun a hs => ?_
 refine wp_block ?_
 obtain ⟨r13, hl13, hm⟩ := bind_t hm
 have hx13 : ∀ (p_40 : Cells) (p_41 : Tvisorref19_M), r13 = (p_40, p_41) → ∀ (a : Act) (w : World), St 34 a w κ [(6, pp b_4), (7, pp b_9)] (pt b_4 (blk [ci 0, ci 0, ci 0] 35) :: pt b_9 (blk p_40 35) :: Tvisorref19_M.own κ b_x0 p_41 :: S) → K11 a w := by
  intro p_40 p_41 he a w hs
  subst r13
  refine hK11 _ _ ?_
  clear hK11
  refine qsr fun K45 hK45 => ?_
  obtain ⟨h_46, hm⟩ := ite_t hm
  refine qlw 1 hs rfl h_46 fun a hs => ?_
  refine qsb 0 p_40 hs rfl h_46 rfl fun a w hs => ?_
  refine qpe 0 [(6, pp b_4)] hs fun a hs => hK45 _ _ ?_
  clear hK45
  refine wp_ret ?_
  exact Vk.retC p_40 hs rfl (by kernel_rfl) (sz := 3) (by kernel_rfl) h_46 (CellsAt.all 0 rfl) (hRR ▸ by cases hm; exact ⟨rfl, hs.own.f1.drop.drop⟩)
 refine Vk.loopBy (fun k (s : Tvisorref19_M × Cells × Int) a w => visorref20_Xor.l1 x1 x2 k s.1 s.2.1 s.2.2 = some r13 ∧ St 34 a w κ [(0, pp b_x0), (4, pp b_2), (5, pp b_3), (6, pp b_4), (7, pp b_9), (8, vi s.2.2)] (Tvisorref19_M.own κ b_x0 s.1 :: pt b_2 (blk x1 35) :: pt b_3 (blk x2 35) :: pt b_4 (blk [ci 0, ci 0, ci 0] 35) :: pt b_9 (blk s.2.1 35) :: S)) k (x0, v_8, 0) ⟨hl13, hs.go [0, 4, 5, 6, 7, 8] [4, 3, 2, 1, 0] 5 (by kernel_rfl) (by kernel_rfl) (by kernel_rfl)⟩ (fun s a w h => by obtain ⟨h1, _⟩ := h; simp [visorref20_Xor.l1] at h1) (fun k KL13 ih s a w h => ?_)
 obtain ⟨q_14, q_15, q_16⟩ := s
 obtain ⟨hm, hs⟩ := h
 try dsimp only at hm hs
 rw [visorref20_Xor.l1] at hm
 refine Vk.seq fun K17 hK17 => ?_
 refine qsr fun K18 hK18 => ?_
 refine qpu 4 hs fun a hs => ?_
 obtain ⟨g_19, hs⟩ := hs.unbag 0 rfl
 refine qld 0 (ci q_14.n) hs rfl fun a hs => ?_
 refine qpk 1 [0, 4, 5, 6, 7, 8, 15] hs fun a hs => hK18 _ _ ?_
 clear hK18
 refine qcs (decide (q_16 < q_14.n)) hs (fun hb => ?_) fun hb => ?_
 ·replace hm := bif_t hm hb
  refine wp_skip ?_
  refine hK17 _ _ ?_
  clear hK17
  refine Vk.seq fun K24 hK24 => ?_
  refine wp_block ?_
  obtain ⟨C_25, hC_25⟩ : ∃ X0 : List HP, X0 = (pt b_2 (blk x1 35) :: pt b_3 (blk x2 35) :: pt b_4 (blk [ci 0, ci 0, ci 0] 35) :: pt b_9 (blk q_15 35) :: S) := ⟨_, rfl⟩
  refine qdr 15 κ C_25 hs fun w hs hqC_25 => ?_
  have hcl : Ow κ w C_25 := by rw [hC_25]; exact (hs.own.too [5, 6, 7, 8] 9)
  refine qdp (fuel := 8) [0, 1, 2, 3, 4, 7, 8, 13] hs hcl hqC_25 fun a hs => ?_
  obtain ⟨h_26, hm⟩ := ite_t hm
  refine qdx 5 b_2 0 1 hs hcl hqC_25 h_26 fun a hs => ?_
  obtain ⟨v_28, h_27, hm⟩ := bind_t hm
  refine qdi 6 0 hs hcl hqC_25 hC_25 rfl h_27 fun a hs => ?_
  obtain ⟨h_29, hm⟩ := ite_t hm
  refine qdx 9 b_3 0 1 hs hcl hqC_25 h_29 fun a hs => ?_
  obtain ⟨v_31, h_30, hm⟩ := bind_t hm
  refine qdi 10 1 hs hcl hqC_25 hC_25 rfl h_30 fun a hs => ?_
  obtain ⟨v_34, h_33, hm⟩ := bind_t hm
  refine qdc 11 (visorref19_Op.ok _ _ _ _ _ _ _ h_33 _ _ (pt b_x0 (blk (Tvisorref19_M.obj q_14 g_19.1 g_19.2.1 g_19.2.2.1 g_19.2.2.2.1 g_19.2.2.2.2.1 g_19.2.2.2.2.2.1 g_19.2.2.2.2.2.2.1 g_19.2.2.2.2.2.2.2) 54) :: rowp g_19.1 g_19.2.1 103 6 Tapi_Op.cells q_14.ops :: rowp g_19.2.2.1 g_19.2.2.2.1 119 3 Tapi_Span.cells q_14.blocks :: rowp g_19.2.2.2.2.1 g_19.2.2.2.2.2.1 23 1 (eI .u64) q_14.val :: rdp κ g_19.2.2.2.2.2.2.1 g_19.2.2.2.2.2.2.2 1 (eI .u64) q_14.tape.l :: pt b_2 (blk x1 35) :: pt b_3 (blk x2 35) :: pt b_4 (blk [ci 0, ci 0, ci 0] 35) :: pt b_9 (blk q_15 35) :: S) hs.own) hs fun w a hs => ?_
  replace hcl : Ow κ w C_25 := by rw [hC_25]; exact (hs.own.too [5, 6, 7, 8] 9)
  refine ⟨fun _ => hcl, ?_⟩
  replace hs := hs.bagG (l := Tvisorref19_M.parts κ b_x0 q_14 g_19) (S' := pt b_2 (blk x1 35) :: pt b_3 (blk x2 35) :: pt b_4 (blk [ci 0, ci 0, ci 0] 35) :: pt b_9 (blk q_15 35) :: S) hs.own
  replace hs := hs.toEx (Tvisorref19_M.parts κ b_x0 q_14) g_19 0 rfl
  obtain ⟨v_37, h_36, hm⟩ := bind_t hm
  refine qdc 12 (visorref19_M_Do.ok _ _ _ _ _ h_36 _ _ _ b_x0 hs.own) hs fun w a hs => ?_
  replace hcl := qO hC_25 hs.own.drop
  refine ⟨fun _ => hcl, ?_⟩
  obtain ⟨h_38, hm⟩ := ite_t hm
  refine qdx 14 b_9 0 1 hs hcl hqC_25 h_38 fun a hs => ?_
  obtain ⟨h_39, hm⟩ := ite_t hm
  refine Vk.dOnly (i := 15) (by kernel_rfl) (Vk.store1 (b := b_9) (ty := 3) (x := (.tmp 32)) (y := (.tmp 30)) (off := 0 + q_16.toNat * 1) (ci v_37.1) 4 hs (by kernel_rfl) (by kernel_rfl) (by kernel_rfl) (by kernel_rfl) (by kernel_rfl) (by kernel_rfl) rfl h_39 fun a w hs => ?_)
  refine ⟨fun h => absurd h (by decide), ?_⟩
  replace hs := hs.pick [0, 4, 5, 6, 7, 8] (L' := [(0, pp b_x0), (4, pp b_2), (5, pp b_3), (6, pp b_4), (7, pp b_9), (8, vi q_16)]) (by kernel_rfl)
  refine Vk.dDone (by kernel_rfl) ?_
  refine hK24 _ _ ?_
  clear hK24
  refine Vk.region ?_
  refine qpk 3 [0, 4, 5, 6, 7, 8] hs fun a hs => ?_
  refine ih (v_37.2, (q_15.set (0 + q_16.toNat * 1) (ci v_37.1)), (IntKind.i64.wrap (q_16 + 1))) _ _ ⟨hm, hs.go [0, 4, 5, 6, 7, 8] [0, 1, 2, 3, 4] 5 (by kernel_rfl) (by kernel_rfl) (by kernel_rfl)⟩
 ·replace hm := bif_f hm hb
  refine wp_exit ?_
  replace hs := hs.bagG (l := Tvisorref19_M.parts κ b_x0 q_14 g_19) (S' := pt b_2 (blk x1 35) :: pt b_3 (blk x2 35) :: pt b_4 (blk [ci 0, ci 0, ci 0] 35) :: pt b_9 (blk q_15 35) :: S) hs.own
  replace hs := hs.toEx (Tvisorref19_M.parts κ b_x0 q_14) g_19 0 rfl
  exact hx13 q_15 q_14 (Option.some.inj hm).symm _ _ (hs.go [6, 7] [3, 4, 0] 5 (by kernel_rfl) (by kernel_rfl) (by kernel_rfl))


def visorref33_Xor.l1 (x2 : Cells) : Nat → Tvisorref19_M → Cells → Int → Option (Cells × Tvisorref19_M)
 | 0, _, _, _ => none
 | k + 1, q_8, q_9, q_10 => (bif decide (q_10 < 8) then (if 0 ≤ q_10 ∧ q_10 < 8 then (part? q_9 (0 + q_10.toNat * 3) 3).bind fun v_17 => (if 0 ≤ q_10 ∧ q_10 < 8 then (part? x2 (0 + q_10.toNat * 3) 3).bind fun v_20 => (visorref20_Xor.m k q_8 v_17 v_20).bind fun v_23 => (if 0 ≤ q_10 ∧ q_10 < 8 then (if v_23.1.length = 3 then (if 0 + q_10.toNat * 3 + v_23.1.length ≤ q_9.length then visorref33_Xor.l1 x2 k v_23.2 (splice q_9 (0 + q_10.toNat * 3) v_23.1) (IntKind.i64.wrap (q_10 + 1)) else none) else none) else none) else none) else none) else some (q_9, q_8))
abbrev visorref33_Xor.R (κ : Ctx) (S : List HP) (x0 : Tvisorref19_M) (x1 : Cells) (x2 : Cells) (b_x0 : Nat) (r : (Cells × Tvisorref19_M)) : Ending → World → Prop := fun e w' => e = .returned (.agg (vals r.1)) ∧ Ow κ w' (Tvisorref19_M.own κ b_x0 r.2 :: S)
def visorref33_Xor.m (k : Nat) (x0 : Tvisorref19_M) (x1 : Cells) (x2 : Cells) : Option (Cells × Tvisorref19_M) := (visorref33_Xor.l1 x2 k x0 x1 0).bind fun x => match x with | (p_27, p_28) => (if p_27.length = 24 then some (p_27, p_28) else none)

set_option maxRecDepth 100000 in
set_option maxHeartbeats 4000000 in
theorem visorref33_Xor.ok (k : Nat) (x0 : Tvisorref19_M) (x1 : Cells) (x2 : Cells) (r : (Cells × Tvisorref19_M)) (hm : visorref33_Xor.m k x0 x1 x2 = some r) (κ : Ctx) (w : World) (S : List HP) (b_x0 : Nat) (ho : Ow κ w (Tvisorref19_M.own κ b_x0 x0 :: S)) :
  Calls Tryz.prog 13 #[pp b_x0, .agg (vals x1), .agg (vals x2)] w (visorref33_Xor.R κ S x0 x1 x2 b_x0 r) := by
 unfold visorref33_Xor.m at hm
 generalize hRR : visorref33_Xor.R κ S x0 x1 x2 b_x0 r = RR
 refine qen [(0, pp b_x0), (1, .agg (vals x1)), (2, .agg (vals x2))] Tryz.func13 Tryz.ntmps13 ho fun a hs => ?_
 refine qsr fun K1 hK1 => ?_
 refine qbx 1 37 x1 4 hs fun b_2 w a hs => ?_
 refine qbx 2 37 x2 5 hs fun b_3 w a hs => ?_
 refine qal 37 [ci 0, ci 0, ci 0, ci 0, ci 0, ci 0, ci 0, ci 0, ci 0, ci 0, ci 0, ci 0, ci 0, ci 0, ci 0, ci 0, ci 0, ci 0, ci 0, ci 0, ci 0, ci 0, ci 0, ci 0] 6 hs fun b_4 w a hs => ?_
 refine qpk 0 [0, 4, 5, 6] hs fun a hs => hK1 _ _ ?_
 clear hK1
 refine Vk.seq fun K5 hK5 => ?_
 refine qsk 1 [0, 4, 5, 6, 7] hs fun a hs => ?_
 refine wp_block ?_
 obtain ⟨r7, hl7, hm⟩ := bind_t hm
 have hx7 : ∀ (p_27 : Cells) (p_28 : Tvisorref19_M), r7 = (p_27, p_28) → ∀ (a : Act) (w : World), St 23 a w κ [(4, pp b_2), (6, pp b_4)] (pt b_2 (blk p_27 37) :: pt b_4 (blk [ci 0, ci 0, ci 0, ci 0, ci 0, ci 0, ci 0, ci 0, ci 0, ci 0, ci 0, ci 0, ci 0, ci 0, ci 0, ci 0, ci 0, ci 0, ci 0, ci 0, ci 0, ci 0, ci 0, ci 0] 37) :: Tvisorref19_M.own κ b_x0 p_28 :: S) → K5 a w := by
  intro p_27 p_28 he a w hs
  subst r7
  refine hK5 _ _ ?_
  clear hK5
  refine qsr fun K32 hK32 => ?_
  obtain ⟨h_33, hm⟩ := ite_t hm
  refine qlw 0 hs rfl h_33 fun a hs => ?_
  refine qsb 1 p_27 hs rfl h_33 rfl fun a w hs => ?_
  refine qpe 0 [(6, pp b_4)] hs fun a hs => hK32 _ _ ?_
  clear hK32
  refine wp_ret ?_
  exact Vk.retC p_27 hs rfl (by kernel_rfl) (sz := 24) (by kernel_rfl) h_33 (CellsAt.all 1 rfl) (hRR ▸ by cases hm; exact ⟨rfl, hs.own.f1.drop.drop⟩)
 refine Vk.loopBy (fun k (s : Tvisorref19_M × Cells × Int) a w => visorref33_Xor.l1 x2 k s.1 s.2.1 s.2.2 = some r7 ∧ St 23 a w κ [(0, pp b_x0), (4, pp b_2), (5, pp b_3), (6, pp b_4), (7, vi s.2.2)] (Tvisorref19_M.own κ b_x0 s.1 :: pt b_2 (blk s.2.1 37) :: pt b_3 (blk x2 37) :: pt b_4 (blk [ci 0, ci 0, ci 0, ci 0, ci 0, ci 0, ci 0, ci 0, ci 0, ci 0, ci 0, ci 0, ci 0, ci 0, ci 0, ci 0, ci 0, ci 0, ci 0, ci 0, ci 0, ci 0, ci 0, ci 0] 37) :: S)) k (x0, x1, 0) ⟨hl7, hs.go [0, 4, 5, 6, 7] [3, 2, 1, 0] 4 (by kernel_rfl) (by kernel_rfl) (by kernel_rfl)⟩ (fun s a w h => by obtain ⟨h1, _⟩ := h; simp [visorref33_Xor.l1] at h1) (fun k KL7 ih s a w h => ?_)
 obtain ⟨q_8, q_9, q_10⟩ := s
 obtain ⟨hm, hs⟩ := h
 try dsimp only at hm hs
 rw [visorref33_Xor.l1] at hm
 refine Vk.seq fun K11 hK11 => ?_
 refine qsk 2 [0, 4, 5, 6, 7, 9] hs fun a hs => ?_
 refine qcs (decide (q_10 < 8)) hs (fun hb => ?_) fun hb => ?_
 ·replace hm := bif_t hm hb
  refine wp_skip ?_
  refine hK11 _ _ ?_
  clear hK11
  refine Vk.seq fun K13 hK13 => ?_
  refine wp_block ?_
  obtain ⟨C_14, hC_14⟩ := qC hs.own.drop
  refine qdr 10 κ C_14 hs fun w hs hqC_14 => ?_
  have hcl := qO hC_14 hs.own.drop
  refine qdp (fuel := 7) [0, 1, 2, 5] hs hcl hqC_14 fun a hs => ?_
  obtain ⟨h_15, hm⟩ := ite_t hm
  refine qdx 3 b_2 0 3 hs hcl hqC_14 h_15 fun a hs => ?_
  obtain ⟨v_17, h_16, hm⟩ := bind_t hm
  refine qdt 4 (.agg (vals v_17)) (op := (.load 35 (.tmp 15))) hs hcl hqC_14 (fun w hw o ho => by rw [hC_14] at hw; exact run_loadN (cs := v_17) ho (by kernel_rfl) (by kernel_rfl) (part?_some h_16).2.2 (CellsAt.own (off := 0 + q_10.toNat * 3) 0 rfl h_16) _ hw) fun a hs => ?_
  obtain ⟨h_18, hm⟩ := ite_t hm
  refine qdx 6 b_3 0 3 hs hcl hqC_14 h_18 fun a hs => ?_
  obtain ⟨v_20, h_19, hm⟩ := bind_t hm
  refine qdt 7 (.agg (vals v_20)) (op := (.load 35 (.tmp 18))) hs hcl hqC_14 (fun w hw o ho => by rw [hC_14] at hw; exact run_loadN (cs := v_20) ho (by kernel_rfl) (by kernel_rfl) (part?_some h_19).2.2 (CellsAt.own (off := 0 + q_10.toNat * 3) 1 rfl h_19) _ hw) fun a hs => ?_
  obtain ⟨v_23, h_22, hm⟩ := bind_t hm
  refine qdc 8 (visorref20_Xor.ok _ _ _ _ _ h_22 _ _ _ b_x0 hs.own) hs fun w a hs => ?_
  replace hcl := qO hC_14 hs.own.drop
  refine ⟨fun _ => hcl, ?_⟩
  obtain ⟨h_24, hm⟩ := ite_t hm
  refine qdx 9 b_2 0 3 hs hcl hqC_14 h_24 fun a hs => ?_
  obtain ⟨h_25, hm⟩ := ite_t hm
  obtain ⟨h_26, hm⟩ := ite_t hm
  refine Vk.dOnly (i := 10) (by kernel_rfl) (Vk.storeN (b := b_2) (ty := 35) (x := (.tmp 21)) (y := (.tmp 20)) (off := 0 + q_10.toNat * 3) (sz := 3) v_23.1 1 hs (by kernel_rfl) (by kernel_rfl) (by kernel_rfl) (by kernel_rfl) (by kernel_rfl) h_25 (by kernel_rfl) rfl h_26 fun a w hs => ?_)
  refine ⟨fun h => absurd h (by decide), ?_⟩
  replace hs := hs.pick [0, 4, 5, 6, 7] (L' := [(0, pp b_x0), (4, pp b_2), (5, pp b_3), (6, pp b_4), (7, vi q_10)]) (by kernel_rfl)
  refine Vk.dDone (by kernel_rfl) ?_
  refine hK13 _ _ ?_
  clear hK13
  refine Vk.region ?_
  refine qpk 3 [0, 4, 5, 6, 7] hs fun a hs => ?_
  refine ih (v_23.2, (splice q_9 (0 + q_10.toNat * 3) v_23.1), (IntKind.i64.wrap (q_10 + 1))) _ _ ⟨hm, hs.go [0, 4, 5, 6, 7] [0, 1, 2, 3] 4 (by kernel_rfl) (by kernel_rfl) (by kernel_rfl)⟩
 ·replace hm := bif_f hm hb
  refine wp_exit ?_
  exact hx7 q_9 q_8 (Option.some.inj hm).symm _ _ (hs.go [4, 6] [1, 3, 0] 4 (by kernel_rfl) (by kernel_rfl) (by kernel_rfl))


abbrev share_Add.R (κ : Ctx) (S : List HP) (x0 : Twire_Machine) (x1 : Cells) (x2 : Int) (b_x0 : Nat) (r : (Cells × Twire_Machine)) : Ending → World → Prop := fun e w' => e = .returned (.agg (vals r.1)) ∧ Ow κ w' (Twire_Machine.own b_x0 r.2 :: S)
def share_Add.m (k : Nat) (x0 : Twire_Machine) (x1 : Cells) (x2 : Int) : Option (Cells × Twire_Machine) := (wire_Machine_Const.m k x0 0 x2).bind fun v_7 => (getI .i64 x1 (0)).bind fun v_10 => (wire_Machine_Two.m k v_7.2 5 0 v_10 v_7.1).bind fun v_13 => (if 0 < x1.length then (if (x1.set (0) (ci v_13.1)).length = 3 then some ((x1.set (0) (ci v_13.1)), v_13.2) else none) else none)

set_option maxRecDepth 100000 in
set_option maxHeartbeats 4000000 in
theorem share_Add.ok (k : Nat) (x0 : Twire_Machine) (x1 : Cells) (x2 : Int) (r : (Cells × Twire_Machine)) (hm : share_Add.m k x0 x1 x2 = some r) (κ : Ctx) (w : World) (S : List HP) (b_x0 : Nat) (ho : Ow κ w (Twire_Machine.own b_x0 x0 :: S)) :
  Calls Tryz.prog 60 #[pp b_x0, .agg (vals x1), vw x2] w (share_Add.R κ S x0 x1 x2 b_x0 r) := by
 unfold share_Add.m at hm
 generalize hRR : share_Add.R κ S x0 x1 x2 b_x0 r = RR
 refine qen [(0, pp b_x0), (1, .agg (vals x1)), (2, vw x2)] Tryz.func60 Tryz.ntmps60 ho fun a hs => ?_
 refine qsr fun K1 hK1 => ?_
 refine qbx 1 35 x1 4 hs fun b_2 w a hs => ?_
 refine qal 35 [ci 0, ci 0, ci 0] 6 hs fun b_3 w a hs => ?_
 refine qpk 0 [0, 2, 4, 6] hs fun a hs => hK1 _ _ ?_
 clear hK1
 refine qsr fun K4 hK4 => ?_
 refine qpu 2 hs fun a hs => ?_
 obtain ⟨v_7, h_6, hm⟩ := bind_t hm
 refine qcl (wire_Machine_Const.ok _ _ _ _ _ h_6 _ _ _ b_x0 hs.own.f2) hs fun w a hs => ?_
 refine qpk 1 [0, 4, 6, 7] hs fun a hs => hK4 _ _ ?_
 clear hK4
 refine qsr fun K8 hK8 => ?_
 refine qpu 3 hs fun a hs => ?_
 obtain ⟨v_10, h_9, hm⟩ := bind_t hm
 refine qli 2 hs rfl h_9 fun a hs => ?_
 refine qpu 1 hs fun a hs => ?_
 obtain ⟨v_13, h_12, hm⟩ := bind_t hm
 refine qcl (wire_Machine_Two.ok _ _ _ _ _ _ _ h_12 _ _ _ b_x0 hs.own) hs fun w a hs => ?_
 refine qpu 2 hs fun a hs => ?_
 obtain ⟨h_14, hm⟩ := ite_t hm
 refine Vk.step (Vk.store1 (b := b_2) (ty := 3) (x := (.tmp 18)) (y := (.tmp 16)) (off := 0) (ci v_13.1) 2 hs (by kernel_rfl) (by kernel_rfl) (by kernel_rfl) (by kernel_rfl) (by kernel_rfl) (by kernel_rfl) rfl h_14 fun a w hs => ?_)
 refine qpe 0 [(4, pp b_2), (6, pp b_3)] hs fun a hs => hK8 _ _ ?_
 clear hK8
 refine qsr fun K15 hK15 => ?_
 obtain ⟨h_16, hm⟩ := ite_t hm
 refine qlw 2 hs rfl h_16 fun a hs => ?_
 refine qsb 1 (x1.set (0) (ci v_13.1)) hs rfl h_16 rfl fun a w hs => ?_
 refine qpe 0 [(6, pp b_3)] hs fun a hs => hK15 _ _ ?_
 clear hK15
 refine wp_ret ?_
 exact Vk.retC (x1.set (0) (ci v_13.1)) hs rfl (by kernel_rfl) (sz := 3) (by kernel_rfl) h_16 (CellsAt.all 1 rfl) (hRR ▸ by cases hm; exact ⟨rfl, hs.own.f2.drop.f1.drop⟩)


def slice_Add.l1 (x1 : Cells) (v_8 : Cells) : Nat → Twire_Machine → Cells → Int → Option (Cells × Twire_Machine)
 | 0, _, _, _ => none
 | k + 1, q_20, q_21, q_22 => (bif decide (q_22 < 8) then (if 0 ≤ q_22 ∧ q_22 < 8 then (part? x1 (0 + q_22.toNat * 3) 3).bind fun v_34 => (if 0 ≤ q_22 ∧ q_22 < 8 then (getI .u64 v_8 (0 + q_22.toNat * 1)).bind fun v_37 => (share_Add.m k q_20 v_34 v_37).bind fun v_40 => (if v_40.1.length = 3 then (if 0 ≤ q_22 ∧ q_22 < 8 then (if 0 + q_22.toNat * 3 + v_40.1.length ≤ q_21.length then slice_Add.l1 x1 v_8 k v_40.2 (splice q_21 (0 + q_22.toNat * 3) v_40.1) (IntKind.i64.wrap (q_22 + 1)) else none) else none) else none) else none) else none) else some (q_21, q_20))
abbrev slice_Add.R (κ : Ctx) (S : List HP) (x0 : Twire_Machine) (x1 : Cells) (x2 : List Int) (b_x0 : Nat) (A_x2 : Option Addr) (c_x2 : Nat) (r : (Cells × Twire_Machine)) : Ending → World → Prop := fun e w' => e = .returned (.agg (vals r.1)) ∧ Ow κ w' (Twire_Machine.own b_x0 r.2 :: S)
def slice_Add.m (k : Nat) (x0 : Twire_Machine) (x1 : Cells) (x2 : List Int) : Option (Cells × Twire_Machine) := (slice_Cut.m k x2).bind fun v_8 => (if v_8.length = 8 then (slice_Add.l1 x1 v_8 k x0 [ci 0, ci 0, ci 0, ci 0, ci 0, ci 0, ci 0, ci 0, ci 0, ci 0, ci 0, ci 0, ci 0, ci 0, ci 0, ci 0, ci 0, ci 0, ci 0, ci 0, ci 0, ci 0, ci 0, ci 0] 0).bind fun x => match x with | (p_44, p_45) => (if p_44.length = 24 then some (p_44, p_45) else none) else none)

set_option maxRecDepth 100000 in
set_option maxHeartbeats 4000000 in
theorem slice_Add.ok (k : Nat) (x0 : Twire_Machine) (x1 : Cells) (x2 : List Int) (r : (Cells × Twire_Machine)) (hm : slice_Add.m k x0 x1 x2 = some r) (κ : Ctx) (w : World) (S : List HP) (b_x0 : Nat) (A_x2 : Option Addr) (c_x2 : Nat) (hx_x2 : Sl κ S A_x2 c_x2 1 (eI .u8) x2) (ho : Ow κ w (Twire_Machine.own b_x0 x0 :: S)) :
  Calls Tryz.prog 14 #[pp b_x0, .agg (vals x1), .slice A_x2 x2.length c_x2] w (slice_Add.R κ S x0 x1 x2 b_x0 A_x2 c_x2 r) := by
 unfold slice_Add.m at hm
 generalize hRR : slice_Add.R κ S x0 x1 x2 b_x0 A_x2 c_x2 r = RR
 refine qen [(0, pp b_x0), (1, .agg (vals x1)), (2, .slice A_x2 x2.length c_x2)] Tryz.func14 Tryz.ntmps14 ho fun a hs => ?_
 refine qsr fun K1 hK1 => ?_
 refine qbx 0 26 [cp b_x0] 3 hs fun b_2 w a hs => ?_
 refine qbx 1 37 x1 4 hs fun b_3 w a hs => ?_
 refine qal 37 [ci 0, ci 0, ci 0, ci 0, ci 0, ci 0, ci 0, ci 0, ci 0, ci 0, ci 0, ci 0, ci 0, ci 0, ci 0, ci 0, ci 0, ci 0, ci 0, ci 0, ci 0, ci 0, ci 0, ci 0] 6 hs fun b_4 w a hs => ?_
 refine qpk 0 [2, 3, 4, 6] hs fun a hs => hK1 _ _ ?_
 clear hK1
 refine qsr fun K5 hK5 => ?_
 refine qpu 1 hs fun a hs => ?_
 obtain ⟨v_8, h_7, hm⟩ := bind_t hm
 refine qcl (slice_Cut.ok _ _ _ h_7 _ _ (pt b_4 (blk [ci 0, ci 0, ci 0, ci 0, ci 0, ci 0, ci 0, ci 0, ci 0, ci 0, ci 0, ci 0, ci 0, ci 0, ci 0, ci 0, ci 0, ci 0, ci 0, ci 0, ci 0, ci 0, ci 0, ci 0] 37) :: pt b_3 (blk x1 37) :: pt b_2 (blk [cp b_x0] 26) :: Twire_Machine.own b_x0 x0 :: S) A_x2 c_x2 hx_x2.less.less.less.less hs.own) hs fun w a hs => ?_
 refine qal 55 [cw 0, cw 0, cw 0, cw 0, cw 0, cw 0, cw 0, cw 0] 7 hs fun b_9 w a hs => ?_
 obtain ⟨h_10, hm⟩ := ite_t hm
 refine qsb 0 v_8 hs rfl h_10 rfl fun a w hs => ?_
 refine qpk 0 [3, 4, 6, 7] hs fun a hs => hK5 _ _ ?_
 clear hK5
 refine qsr fun K11 hK11 => ?_
 refine qpu 1 hs fun a hs => ?_
 refine Vk.step (Vk.call (some 11) 49 #[.func (.func 59) #[] #[pp b_2, pp b_3, pp b_9]] hs (by kernel_rfl) (by kernel_rfl) (by kernel_rfl) ?_)
 refine Vk.enterI [(0, .func (.func 59) #[] #[pp b_2, pp b_3, pp b_9])] Tryz.func49 rfl Tryz.ntmps49 (by kernel_rfl) (Nat.le_of_ble_eq_true (by kernel_rfl)) hs.own fun KR12 hKR12 hKP12 a hs => ?_
 refine qsr fun K13 hK13 => ?_
 refine qal 37 [ci 0, ci 0, ci 0, ci 0, ci 0, ci 0, ci 0, ci 0, ci 0, ci 0, ci 0, ci 0, ci 0, ci 0, ci 0, ci 0, ci 0, ci 0, ci 0, ci 0, ci 0, ci 0, ci 0, ci 0] 2 hs fun b_14 w a hs => ?_
 refine qpk 0 [0, 2] hs fun a hs => hK13 _ _ ?_
 clear hK13
 refine qsr fun K15 hK15 => ?_
 refine qal 37 [ci 0, ci 0, ci 0, ci 0, ci 0, ci 0, ci 0, ci 0, ci 0, ci 0, ci 0, ci 0, ci 0, ci 0, ci 0, ci 0, ci 0, ci 0, ci 0, ci 0, ci 0, ci 0, ci 0, ci 0] 3 hs fun b_16 w a hs => ?_
 refine qpk 0 [0, 2, 3] hs fun a hs => hK15 _ _ ?_
 clear hK15
 refine Vk.seq fun K17 hK17 => ?_
 refine qsk 1 [0, 2, 3, 5] hs fun a hs => ?_
 refine wp_block ?_
 obtain ⟨r19, hl19, hm⟩ := bind_t hm
 have hx19 : ∀ (p_44 : Cells) (p_45 : Twire_Machine), r19 = (p_44, p_45) → ∀ (a : Act) (w : World), St 15 a w κ [(2, pp b_14), (3, pp b_16)] (pt b_14 (blk [ci 0, ci 0, ci 0, ci 0, ci 0, ci 0, ci 0, ci 0, ci 0, ci 0, ci 0, ci 0, ci 0, ci 0, ci 0, ci 0, ci 0, ci 0, ci 0, ci 0, ci 0, ci 0, ci 0, ci 0] 37) :: pt b_16 (blk p_44 37) :: Twire_Machine.own b_x0 p_45 :: pt b_2 (blk [cp b_x0] 26) :: pt b_3 (blk x1 37) :: pt b_4 (blk [ci 0, ci 0, ci 0, ci 0, ci 0, ci 0, ci 0, ci 0, ci 0, ci 0, ci 0, ci 0, ci 0, ci 0, ci 0, ci 0, ci 0, ci 0, ci 0, ci 0, ci 0, ci 0, ci 0, ci 0] 37) :: pt b_9 (blk v_8 55) :: S) → K17 a w := by
  intro p_44 p_45 he a w hs
  subst r19
  refine hK17 _ _ ?_
  clear hK17
  refine qsr fun K49 hK49 => ?_
  obtain ⟨h_50, hm⟩ := ite_t hm
  refine qlw 1 hs rfl h_50 fun a hs => ?_
  refine qsb 0 p_44 hs rfl h_50 rfl fun a w hs => ?_
  refine qpe 0 [(2, pp b_14)] hs fun a hs => hK49 _ _ ?_
  clear hK49
  refine wp_ret ?_
  refine hKP12 _ _ ?_
  refine hKR12 _ _ ?_
  refine Vk.retC (P := Tryz.prog) (fn := Tryz.f49) p_44 hs rfl (by kernel_rfl) (sz := 24) (by kernel_rfl) h_50 (CellsAt.all 0 rfl) ⟨_, _, _, rfl, hs.own, fun a hs => ?_⟩
  refine qsb 5 p_44 hs rfl h_50 rfl fun a w hs => ?_
  refine qpe 0 [(6, pp b_4)] hs fun a hs => hK11 _ _ ?_
  clear hK11
  refine wp_ret ?_
  exact Vk.retC p_44 hs rfl (by kernel_rfl) (sz := 24) (by kernel_rfl) h_50 (CellsAt.all 5 rfl) (hRR ▸ by cases hm; exact ⟨rfl, (hs.own.too [2] 7)⟩)
 refine Vk.loopBy (fun k (s : Twire_Machine × Cells × Int) a w => slice_Add.l1 x1 v_8 k s.1 s.2.1 s.2.2 = some r19 ∧ St 15 a w κ [(0, .func (.func 59) #[] #[pp b_2, pp b_3, pp b_9]), (2, pp b_14), (3, pp b_16), (5, vi s.2.2)] (pt b_2 (blk [cp b_x0] 26) :: Twire_Machine.own b_x0 s.1 :: pt b_3 (blk x1 37) :: pt b_9 (blk v_8 55) :: pt b_14 (blk [ci 0, ci 0, ci 0, ci 0, ci 0, ci 0, ci 0, ci 0, ci 0, ci 0, ci 0, ci 0, ci 0, ci 0, ci 0, ci 0, ci 0, ci 0, ci 0, ci 0, ci 0, ci 0, ci 0, ci 0] 37) :: pt b_16 (blk s.2.1 37) :: pt b_4 (blk [ci 0, ci 0, ci 0, ci 0, ci 0, ci 0, ci 0, ci 0, ci 0, ci 0, ci 0, ci 0, ci 0, ci 0, ci 0, ci 0, ci 0, ci 0, ci 0, ci 0, ci 0, ci 0, ci 0, ci 0] 37) :: S)) k (x0, [ci 0, ci 0, ci 0, ci 0, ci 0, ci 0, ci 0, ci 0, ci 0, ci 0, ci 0, ci 0, ci 0, ci 0, ci 0, ci 0, ci 0, ci 0, ci 0, ci 0, ci 0, ci 0, ci 0, ci 0], 0) ⟨hl19, hs.go [0, 2, 3, 5] [5, 6, 4, 2, 1, 0, 3] 7 (by kernel_rfl) (by kernel_rfl) (by kernel_rfl)⟩ (fun s a w h => by obtain ⟨h1, _⟩ := h; simp [slice_Add.l1] at h1) (fun k KL19 ih s a w h => ?_)
 obtain ⟨q_20, q_21, q_22⟩ := s
 obtain ⟨hm, hs⟩ := h
 try dsimp only at hm hs
 rw [slice_Add.l1] at hm
 refine qsk 1 [0, 2, 3, 5, 6] hs fun a hs => ?_
 refine Vk.seq fun K24 hK24 => ?_
 refine qcs (decide (q_22 < 8)) hs (fun hb => ?_) fun hb => ?_
 ·replace hm := bif_t hm hb
  refine wp_skip ?_
  refine hK24 _ _ ?_
  clear hK24
  refine Vk.seq fun K25 hK25 => ?_
  refine wp_block ?_
  refine qsk 2 [0, 2, 3, 4, 5] hs fun a hs => ?_
  refine Vk.region ?_
  refine qpu 3 hs fun a hs => ?_
  refine Vk.step (Vk.call (some 11) 59 #[vi q_22, pp b_2, pp b_3, pp b_9] hs (by kernel_rfl) (by kernel_rfl) (by kernel_rfl) ?_)
  refine Vk.enterI [(0, vi q_22), (1, pp b_2), (2, pp b_3), (3, pp b_9)] Tryz.func59 rfl Tryz.ntmps59 (by kernel_rfl) (Nat.le_of_ble_eq_true (by kernel_rfl)) hs.own fun KR27 hKR27 hKP27 a hs => ?_
  refine qsr fun K28 hK28 => ?_
  refine qal 35 [ci 0, ci 0, ci 0] 5 hs fun b_29 w a hs => ?_
  refine qpk 0 [0, 1, 2, 3, 5] hs fun a hs => hK28 _ _ ?_
  clear hK28
  refine Vk.seq fun K30 hK30 => ?_
  obtain ⟨C_31, hC_31⟩ := qC hs.own
  refine qdr 7 κ C_31 hs fun w hs hqC_31 => ?_
  have hcl := qO hC_31 hs.own
  refine qdp (fuel := 7) [1, 4] hs hcl hqC_31 fun a hs => ?_
  refine qdl 0 1 (cp b_x0) hs hcl hqC_31 hC_31 rfl fun a hs => ?_
  obtain ⟨h_32, hm⟩ := ite_t hm
  refine qdx 2 b_3 0 3 hs hcl hqC_31 h_32 fun a hs => ?_
  obtain ⟨v_34, h_33, hm⟩ := bind_t hm
  refine qdt 3 (.agg (vals v_34)) (op := (.load 35 (.tmp 8))) hs hcl hqC_31 (fun w hw o ho => by rw [hC_31] at hw; exact run_loadN (cs := v_34) ho (by kernel_rfl) (by kernel_rfl) (part?_some h_33).2.2 (CellsAt.own (off := 0 + q_22.toNat * 3) 3 rfl h_33) _ hw) fun a hs => ?_
  obtain ⟨h_35, hm⟩ := ite_t hm
  refine qdx 5 b_9 0 1 hs hcl hqC_31 h_35 fun a hs => ?_
  obtain ⟨v_37, h_36, hm⟩ := bind_t hm
  refine qdi 6 4 hs hcl hqC_31 hC_31 rfl h_36 fun a hs => ?_
  obtain ⟨v_40, h_39, hm⟩ := bind_t hm
  refine qdc 7 (share_Add.ok _ _ _ _ _ h_39 _ _ _ b_x0 hs.own.f2) hs fun w a hs => ?_
  refine ⟨fun h => absurd h (by decide), ?_⟩
  obtain ⟨h_41, hm⟩ := ite_t hm
  refine qsA 8 1 v_40.1 hs rfl h_41 rfl fun a w hs => ?_
  refine ⟨fun h => absurd h (by decide), ?_⟩
  replace hs := hs.pick [5] (L' := [(5, pp b_29)]) (by kernel_rfl)
  refine Vk.dDone (by kernel_rfl) ?_
  refine hK30 _ _ ?_
  clear hK30
  refine wp_ret ?_
  refine hKP27 _ _ ?_
  refine hKR27 _ _ ?_
  refine Vk.retC (P := Tryz.prog) (fn := Tryz.f59) v_40.1 hs rfl (by kernel_rfl) (sz := 3) (by kernel_rfl) h_41 (CellsAt.all 1 rfl) ⟨_, _, _, rfl, hs.own, fun a hs => ?_⟩
  obtain ⟨h_42, hm⟩ := ite_t hm
  refine qix b_16 0 3 hs h_42 fun a hs => ?_
  obtain ⟨h_43, hm⟩ := ite_t hm
  refine Vk.step (Vk.storeN (b := b_16) (ty := 35) (x := (.tmp 12)) (y := (.tmp 11)) (off := 0 + q_22.toNat * 3) (sz := 3) v_40.1 6 hs (by kernel_rfl) (by kernel_rfl) (by kernel_rfl) (by kernel_rfl) (by kernel_rfl) h_41 (by kernel_rfl) rfl h_43 fun a w hs => ?_)
  refine qpk 0 [0, 2, 3, 5] hs fun a hs => hK25 _ _ ?_
  clear hK25
  refine Vk.region ?_
  refine qpk 2 [0, 2, 3, 5] hs fun a hs => ?_
  refine ih (v_40.2, (splice q_21 (0 + q_22.toNat * 3) v_40.1), (IntKind.i64.wrap (q_22 + 1))) _ _ ⟨hm, hs.go [0, 2, 3, 5] [2, 0, 3, 4, 5, 6, 7] 8 (by kernel_rfl) (by kernel_rfl) (by kernel_rfl)⟩
 ·replace hm := bif_f hm hb
  refine wp_exit ?_
  exact hx19 q_21 q_20 (Option.some.inj hm).symm _ _ (hs.go [2, 3] [4, 5, 1, 0, 2, 6, 3] 7 (by kernel_rfl) (by kernel_rfl) (by kernel_rfl))


abbrev visorref20_Add.R (κ : Ctx) (S : List HP) (x0 : Tvisorref19_M) (x1 : Int) (x2 : Cells) (x3 : Int) (b_x0 : Nat) (r : (Cells × Tvisorref19_M)) : Ending → World → Prop := fun e w' => e = .returned (.agg (vals r.1)) ∧ Ow κ w' (Tvisorref19_M.own κ b_x0 r.2 :: S)
def visorref20_Add.m (k : Nat) (x0 : Tvisorref19_M) (x1 : Int) (x2 : Cells) (x3 : Int) : Option (Cells × Tvisorref19_M) := (visorref19_Op.m k x1 0 (-1) (-1) x3).bind fun v_7 => (visorref19_M_Do.m k x0 v_7 0).bind fun v_10 => (getI .i64 x2 (0)).bind fun v_13 => (visorref19_Op.m k 5 0 v_13 v_10.1 0).bind fun v_16 => (visorref19_M_Do.m k v_10.2 v_16 0).bind fun v_19 => (if 0 < x2.length then (if (x2.set (0) (ci v_19.1)).length = 3 then some ((x2.set (0) (ci v_19.1)), v_19.2) else none) else none)

set_option maxRecDepth 100000 in
set_option maxHeartbeats 4000000 in
theorem visorref20_Add.ok (k : Nat) (x0 : Tvisorref19_M) (x1 : Int) (x2 : Cells) (x3 : Int) (r : (Cells × Tvisorref19_M)) (hm : visorref20_Add.m k x0 x1 x2 x3 = some r) (κ : Ctx) (w : World) (S : List HP) (b_x0 : Nat) (ho : Ow κ w (Tvisorref19_M.own κ b_x0 x0 :: S)) :
  Calls Tryz.prog 61 #[pp b_x0, vi x1, .agg (vals x2), vw x3] w (visorref20_Add.R κ S x0 x1 x2 x3 b_x0 r) := by
 unfold visorref20_Add.m at hm
 generalize hRR : visorref20_Add.R κ S x0 x1 x2 x3 b_x0 r = RR
 refine qen [(0, pp b_x0), (1, vi x1), (2, .agg (vals x2)), (3, vw x3)] Tryz.func61 Tryz.ntmps61 ho fun a hs => ?_
 refine qsr fun K1 hK1 => ?_
 refine qbx 2 35 x2 6 hs fun b_2 w a hs => ?_
 refine qal 35 [ci 0, ci 0, ci 0] 8 hs fun b_3 w a hs => ?_
 refine qpk 0 [0, 1, 3, 6, 8] hs fun a hs => hK1 _ _ ?_
 clear hK1
 refine qsr fun K4 hK4 => ?_
 refine qpu 3 hs fun a hs => ?_
 obtain ⟨v_7, h_6, hm⟩ := bind_t hm
 refine qcl (visorref19_Op.ok _ _ _ _ _ _ _ h_6 _ _ (pt b_3 (blk [ci 0, ci 0, ci 0] 35) :: pt b_2 (blk x2 35) :: Tvisorref19_M.own κ b_x0 x0 :: S) hs.own) hs fun w a hs => ?_
 obtain ⟨v_10, h_9, hm⟩ := bind_t hm
 refine qcl (visorref19_M_Do.ok _ _ _ _ _ h_9 _ _ _ b_x0 hs.own.f2) hs fun w a hs => ?_
 refine qpk 1 [0, 6, 8, 9] hs fun a hs => hK4 _ _ ?_
 clear hK4
 refine qsr fun K11 hK11 => ?_
 refine qpu 3 hs fun a hs => ?_
 obtain ⟨v_13, h_12, hm⟩ := bind_t hm
 refine qli 2 hs rfl h_12 fun a hs => ?_
 refine qpu 1 hs fun a hs => ?_
 obtain ⟨v_16, h_15, hm⟩ := bind_t hm
 refine qcl (visorref19_Op.ok _ _ _ _ _ _ _ h_15 _ _ (Tvisorref19_M.own κ b_x0 v_10.2 :: pt b_3 (blk [ci 0, ci 0, ci 0] 35) :: pt b_2 (blk x2 35) :: S) hs.own) hs fun w a hs => ?_
 obtain ⟨v_19, h_18, hm⟩ := bind_t hm
 refine qcl (visorref19_M_Do.ok _ _ _ _ _ h_18 _ _ _ b_x0 hs.own) hs fun w a hs => ?_
 refine qpu 2 hs fun a hs => ?_
 obtain ⟨h_20, hm⟩ := ite_t hm
 refine Vk.step (Vk.store1 (b := b_2) (ty := 3) (x := (.tmp 23)) (y := (.tmp 21)) (off := 0) (ci v_19.1) 2 hs (by kernel_rfl) (by kernel_rfl) (by kernel_rfl) (by kernel_rfl) (by kernel_rfl) (by kernel_rfl) rfl h_20 fun a w hs => ?_)
 refine qpe 0 [(6, pp b_2), (8, pp b_3)] hs fun a hs => hK11 _ _ ?_
 clear hK11
 refine qsr fun K21 hK21 => ?_
 obtain ⟨h_22, hm⟩ := ite_t hm
 refine qlw 2 hs rfl h_22 fun a hs => ?_
 refine qsb 1 (x2.set (0) (ci v_19.1)) hs rfl h_22 rfl fun a w hs => ?_
 refine qpe 0 [(8, pp b_3)] hs fun a hs => hK21 _ _ ?_
 clear hK21
 refine wp_ret ?_
 exact Vk.retC (x2.set (0) (ci v_19.1)) hs rfl (by kernel_rfl) (sz := 3) (by kernel_rfl) h_22 (CellsAt.all 1 rfl) (hRR ▸ by cases hm; exact ⟨rfl, hs.own.f2.drop.f1.drop⟩)


def visorref33_Add.l1 (x1 : Int) (v_7 : Cells) : Nat → Tvisorref19_M → Cells → Int → Option (Cells × Tvisorref19_M)
 | 0, _, _, _ => none
 | k + 1, q_13, q_14, q_15 => (bif decide (q_15 < 8) then (if 0 ≤ q_15 ∧ q_15 < 8 then (part? q_14 (0 + q_15.toNat * 3) 3).bind fun v_22 => (if 0 ≤ q_15 ∧ q_15 < 8 then (getI .u64 v_7 (0 + q_15.toNat * 1)).bind fun v_25 => (visorref20_Add.m k q_13 x1 v_22 v_25).bind fun v_28 => (if 0 ≤ q_15 ∧ q_15 < 8 then (if v_28.1.length = 3 then (if 0 + q_15.toNat * 3 + v_28.1.length ≤ q_14.length then visorref33_Add.l1 x1 v_7 k v_28.2 (splice q_14 (0 + q_15.toNat * 3) v_28.1) (IntKind.i64.wrap (q_15 + 1)) else none) else none) else none) else none) else none) else some (q_14, q_13))
abbrev visorref33_Add.R (κ : Ctx) (S : List HP) (x0 : Tvisorref19_M) (x1 : Int) (x2 : Cells) (x3 : List Int) (b_x0 : Nat) (A_x3 : Option Addr) (c_x3 : Nat) (r : (Cells × Tvisorref19_M)) : Ending → World → Prop := fun e w' => e = .returned (.agg (vals r.1)) ∧ Ow κ w' (Tvisorref19_M.own κ b_x0 r.2 :: S)
def visorref33_Add.m (k : Nat) (x0 : Tvisorref19_M) (x1 : Int) (x2 : Cells) (x3 : List Int) : Option (Cells × Tvisorref19_M) := (visorref33_Cut.m k x3).bind fun v_7 => (if v_7.length = 8 then (visorref33_Add.l1 x1 v_7 k x0 x2 0).bind fun x => match x with | (p_32, p_33) => (if p_32.length = 24 then some (p_32, p_33) else none) else none)

set_option maxRecDepth 100000 in
set_option maxHeartbeats 4000000 in
theorem visorref33_Add.ok (k : Nat) (x0 : Tvisorref19_M) (x1 : Int) (x2 : Cells) (x3 : List Int) (r : (Cells × Tvisorref19_M)) (hm : visorref33_Add.m k x0 x1 x2 x3 = some r) (κ : Ctx) (w : World) (S : List HP) (b_x0 : Nat) (A_x3 : Option Addr) (c_x3 : Nat) (hx_x3 : Sl κ S A_x3 c_x3 1 (eI .u8) x3) (ho : Ow κ w (Tvisorref19_M.own κ b_x0 x0 :: S)) :
  Calls Tryz.prog 15 #[pp b_x0, vi x1, .agg (vals x2), .slice A_x3 x3.length c_x3] w (visorref33_Add.R κ S x0 x1 x2 x3 b_x0 A_x3 c_x3 r) := by
 unfold visorref33_Add.m at hm
 generalize hRR : visorref33_Add.R κ S x0 x1 x2 x3 b_x0 A_x3 c_x3 r = RR
 refine qen [(0, pp b_x0), (1, vi x1), (2, .agg (vals x2)), (3, .slice A_x3 x3.length c_x3)] Tryz.func15 Tryz.ntmps15 ho fun a hs => ?_
 refine qsr fun K1 hK1 => ?_
 refine qbx 2 37 x2 6 hs fun b_2 w a hs => ?_
 refine qal 37 [ci 0, ci 0, ci 0, ci 0, ci 0, ci 0, ci 0, ci 0, ci 0, ci 0, ci 0, ci 0, ci 0, ci 0, ci 0, ci 0, ci 0, ci 0, ci 0, ci 0, ci 0, ci 0, ci 0, ci 0] 8 hs fun b_3 w a hs => ?_
 refine qpk 0 [0, 1, 3, 6, 8] hs fun a hs => hK1 _ _ ?_
 clear hK1
 refine qsr fun K4 hK4 => ?_
 refine qpu 1 hs fun a hs => ?_
 obtain ⟨v_7, h_6, hm⟩ := bind_t hm
 refine qcl (visorref33_Cut.ok _ _ _ h_6 _ _ (pt b_3 (blk [ci 0, ci 0, ci 0, ci 0, ci 0, ci 0, ci 0, ci 0, ci 0, ci 0, ci 0, ci 0, ci 0, ci 0, ci 0, ci 0, ci 0, ci 0, ci 0, ci 0, ci 0, ci 0, ci 0, ci 0] 37) :: pt b_2 (blk x2 37) :: Tvisorref19_M.own κ b_x0 x0 :: S) A_x3 c_x3 hx_x3.less.less.less hs.own) hs fun w a hs => ?_
 refine qal 55 [cw 0, cw 0, cw 0, cw 0, cw 0, cw 0, cw 0, cw 0] 9 hs fun b_8 w a hs => ?_
 obtain ⟨h_9, hm⟩ := ite_t hm
 refine qsb 0 v_7 hs rfl h_9 rfl fun a w hs => ?_
 refine qpk 0 [0, 1, 6, 8, 9] hs fun a hs => hK4 _ _ ?_
 clear hK4
 refine Vk.seq fun K10 hK10 => ?_
 refine qsk 1 [0, 1, 6, 8, 9, 10] hs fun a hs => ?_
 refine wp_block ?_
 obtain ⟨r12, hl12, hm⟩ := bind_t hm
 have hx12 : ∀ (p_32 : Cells) (p_33 : Tvisorref19_M), r12 = (p_32, p_33) → ∀ (a : Act) (w : World), St 29 a w κ [(6, pp b_2), (8, pp b_3)] (pt b_2 (blk p_32 37) :: pt b_3 (blk [ci 0, ci 0, ci 0, ci 0, ci 0, ci 0, ci 0, ci 0, ci 0, ci 0, ci 0, ci 0, ci 0, ci 0, ci 0, ci 0, ci 0, ci 0, ci 0, ci 0, ci 0, ci 0, ci 0, ci 0] 37) :: Tvisorref19_M.own κ b_x0 p_33 :: S) → K10 a w := by
  intro p_32 p_33 he a w hs
  subst r12
  refine hK10 _ _ ?_
  clear hK10
  refine qsr fun K37 hK37 => ?_
  obtain ⟨h_38, hm⟩ := ite_t hm
  refine qlw 0 hs rfl h_38 fun a hs => ?_
  refine qsb 1 p_32 hs rfl h_38 rfl fun a w hs => ?_
  refine qpe 0 [(8, pp b_3)] hs fun a hs => hK37 _ _ ?_
  clear hK37
  refine wp_ret ?_
  exact Vk.retC p_32 hs rfl (by kernel_rfl) (sz := 24) (by kernel_rfl) h_38 (CellsAt.all 1 rfl) (hRR ▸ by cases hm; exact ⟨rfl, hs.own.f1.drop.drop⟩)
 refine Vk.loopBy (fun k (s : Tvisorref19_M × Cells × Int) a w => visorref33_Add.l1 x1 v_7 k s.1 s.2.1 s.2.2 = some r12 ∧ St 29 a w κ [(0, pp b_x0), (1, vi x1), (6, pp b_2), (8, pp b_3), (9, pp b_8), (10, vi s.2.2)] (Tvisorref19_M.own κ b_x0 s.1 :: pt b_2 (blk s.2.1 37) :: pt b_3 (blk [ci 0, ci 0, ci 0, ci 0, ci 0, ci 0, ci 0, ci 0, ci 0, ci 0, ci 0, ci 0, ci 0, ci 0, ci 0, ci 0, ci 0, ci 0, ci 0, ci 0, ci 0, ci 0, ci 0, ci 0] 37) :: pt b_8 (blk v_7 55) :: S)) k (x0, x2, 0) ⟨hl12, hs.go [0, 1, 6, 8, 9, 10] [3, 2, 1, 0] 4 (by kernel_rfl) (by kernel_rfl) (by kernel_rfl)⟩ (fun s a w h => by obtain ⟨h1, _⟩ := h; simp [visorref33_Add.l1] at h1) (fun k KL12 ih s a w h => ?_)
 obtain ⟨q_13, q_14, q_15⟩ := s
 obtain ⟨hm, hs⟩ := h
 try dsimp only at hm hs
 rw [visorref33_Add.l1] at hm
 refine Vk.seq fun K16 hK16 => ?_
 refine qsk 2 [0, 1, 6, 8, 9, 10, 14] hs fun a hs => ?_
 refine qcs (decide (q_15 < 8)) hs (fun hb => ?_) fun hb => ?_
 ·replace hm := bif_t hm hb
  refine wp_skip ?_
  refine hK16 _ _ ?_
  clear hK16
  refine Vk.seq fun K18 hK18 => ?_
  refine wp_block ?_
  obtain ⟨C_19, hC_19⟩ := qC hs.own.drop
  refine qdr 11 κ C_19 hs fun w hs hqC_19 => ?_
  have hcl := qO hC_19 hs.own.drop
  refine qdp (fuel := 7) [0, 1, 2, 3, 6] hs hcl hqC_19 fun a hs => ?_
  obtain ⟨h_20, hm⟩ := ite_t hm
  refine qdx 4 b_2 0 3 hs hcl hqC_19 h_20 fun a hs => ?_
  obtain ⟨v_22, h_21, hm⟩ := bind_t hm
  refine qdt 5 (.agg (vals v_22)) (op := (.load 35 (.tmp 21))) hs hcl hqC_19 (fun w hw o ho => by rw [hC_19] at hw; exact run_loadN (cs := v_22) ho (by kernel_rfl) (by kernel_rfl) (part?_some h_21).2.2 (CellsAt.own (off := 0 + q_15.toNat * 3) 0 rfl h_21) _ hw) fun a hs => ?_
  obtain ⟨h_23, hm⟩ := ite_t hm
  refine qdx 7 b_8 0 1 hs hcl hqC_19 h_23 fun a hs => ?_
  obtain ⟨v_25, h_24, hm⟩ := bind_t hm
  refine qdi 8 2 hs hcl hqC_19 hC_19 rfl h_24 fun a hs => ?_
  obtain ⟨v_28, h_27, hm⟩ := bind_t hm
  refine qdc 9 (visorref20_Add.ok _ _ _ _ _ _ h_27 _ _ _ b_x0 hs.own) hs fun w a hs => ?_
  replace hcl := qO hC_19 hs.own.drop
  refine ⟨fun _ => hcl, ?_⟩
  obtain ⟨h_29, hm⟩ := ite_t hm
  refine qdx 10 b_2 0 3 hs hcl hqC_19 h_29 fun a hs => ?_
  obtain ⟨h_30, hm⟩ := ite_t hm
  obtain ⟨h_31, hm⟩ := ite_t hm
  refine Vk.dOnly (i := 11) (by kernel_rfl) (Vk.storeN (b := b_2) (ty := 35) (x := (.tmp 27)) (y := (.tmp 26)) (off := 0 + q_15.toNat * 3) (sz := 3) v_28.1 1 hs (by kernel_rfl) (by kernel_rfl) (by kernel_rfl) (by kernel_rfl) (by kernel_rfl) h_30 (by kernel_rfl) rfl h_31 fun a w hs => ?_)
  refine ⟨fun h => absurd h (by decide), ?_⟩
  replace hs := hs.pick [0, 1, 6, 8, 9, 10] (L' := [(0, pp b_x0), (1, vi x1), (6, pp b_2), (8, pp b_3), (9, pp b_8), (10, vi q_15)]) (by kernel_rfl)
  refine Vk.dDone (by kernel_rfl) ?_
  refine hK18 _ _ ?_
  clear hK18
  refine Vk.region ?_
  refine qpk 3 [0, 1, 6, 8, 9, 10] hs fun a hs => ?_
  refine ih (v_28.2, (splice q_14 (0 + q_15.toNat * 3) v_28.1), (IntKind.i64.wrap (q_15 + 1))) _ _ ⟨hm, hs.go [0, 1, 6, 8, 9, 10] [0, 1, 2, 3] 4 (by kernel_rfl) (by kernel_rfl) (by kernel_rfl)⟩
 ·replace hm := bif_f hm hb
  refine wp_exit ?_
  exact hx12 q_14 q_13 (Option.some.inj hm).symm _ _ (hs.go [6, 8] [1, 2, 0] 4 (by kernel_rfl) (by kernel_rfl) (by kernel_rfl))


abbrev share_AddTold.R (κ : Ctx) (S : List HP) (x0 : Twire_Machine) (x1 : Cells) (x2 : Int) (b_x0 : Nat) (r : (Cells × Twire_Machine)) : Ending → World → Prop := fun e w' => e = .returned (.agg (vals r.1)) ∧ Ow κ w' (Twire_Machine.own b_x0 r.2 :: S)
def share_AddTold.m (k : Nat) (x0 : Twire_Machine) (x1 : Cells) (x2 : Int) : Option (Cells × Twire_Machine) := (wire_Machine_Told.m k x0 0 x2).bind fun v_7 => (getI .i64 x1 (0)).bind fun v_10 => (wire_Machine_Two.m k v_7.2 5 0 v_10 v_7.1).bind fun v_13 => (if 0 < x1.length then (if (x1.set (0) (ci v_13.1)).length = 3 then some ((x1.set (0) (ci v_13.1)), v_13.2) else none) else none)

set_option maxRecDepth 100000 in
set_option maxHeartbeats 4000000 in
theorem share_AddTold.ok (k : Nat) (x0 : Twire_Machine) (x1 : Cells) (x2 : Int) (r : (Cells × Twire_Machine)) (hm : share_AddTold.m k x0 x1 x2 = some r) (κ : Ctx) (w : World) (S : List HP) (b_x0 : Nat) (ho : Ow κ w (Twire_Machine.own b_x0 x0 :: S)) :
  Calls Tryz.prog 63 #[pp b_x0, .agg (vals x1), vw x2] w (share_AddTold.R κ S x0 x1 x2 b_x0 r) := by
 unfold share_AddTold.m at hm
 generalize hRR : share_AddTold.R κ S x0 x1 x2 b_x0 r = RR
 refine qen [(0, pp b_x0), (1, .agg (vals x1)), (2, vw x2)] Tryz.func63 Tryz.ntmps63 ho fun a hs => ?_
 refine qsr fun K1 hK1 => ?_
 refine qbx 1 35 x1 4 hs fun b_2 w a hs => ?_
 refine qal 35 [ci 0, ci 0, ci 0] 6 hs fun b_3 w a hs => ?_
 refine qpk 0 [0, 2, 4, 6] hs fun a hs => hK1 _ _ ?_
 clear hK1
 refine qsr fun K4 hK4 => ?_
 refine qpu 2 hs fun a hs => ?_
 obtain ⟨v_7, h_6, hm⟩ := bind_t hm
 refine qcl (wire_Machine_Told.ok _ _ _ _ _ h_6 _ _ _ b_x0 hs.own.f2) hs fun w a hs => ?_
 refine qpk 1 [0, 4, 6, 7] hs fun a hs => hK4 _ _ ?_
 clear hK4
 refine qsr fun K8 hK8 => ?_
 refine qpu 3 hs fun a hs => ?_
 obtain ⟨v_10, h_9, hm⟩ := bind_t hm
 refine qli 2 hs rfl h_9 fun a hs => ?_
 refine qpu 1 hs fun a hs => ?_
 obtain ⟨v_13, h_12, hm⟩ := bind_t hm
 refine qcl (wire_Machine_Two.ok _ _ _ _ _ _ _ h_12 _ _ _ b_x0 hs.own) hs fun w a hs => ?_
 refine qpu 2 hs fun a hs => ?_
 obtain ⟨h_14, hm⟩ := ite_t hm
 refine Vk.step (Vk.store1 (b := b_2) (ty := 3) (x := (.tmp 18)) (y := (.tmp 16)) (off := 0) (ci v_13.1) 2 hs (by kernel_rfl) (by kernel_rfl) (by kernel_rfl) (by kernel_rfl) (by kernel_rfl) (by kernel_rfl) rfl h_14 fun a w hs => ?_)
 refine qpe 0 [(4, pp b_2), (6, pp b_3)] hs fun a hs => hK8 _ _ ?_
 clear hK8
 refine qsr fun K15 hK15 => ?_
 obtain ⟨h_16, hm⟩ := ite_t hm
 refine qlw 2 hs rfl h_16 fun a hs => ?_
 refine qsb 1 (x1.set (0) (ci v_13.1)) hs rfl h_16 rfl fun a w hs => ?_
 refine qpe 0 [(6, pp b_3)] hs fun a hs => hK15 _ _ ?_
 clear hK15
 refine wp_ret ?_
 exact Vk.retC (x1.set (0) (ci v_13.1)) hs rfl (by kernel_rfl) (sz := 3) (by kernel_rfl) h_16 (CellsAt.all 1 rfl) (hRR ▸ by cases hm; exact ⟨rfl, hs.own.f2.drop.f1.drop⟩)


def slice_AddTold.l1 (x1 : Cells) (v_8 : Cells) : Nat → Twire_Machine → Cells → Int → Option (Cells × Twire_Machine)
 | 0, _, _, _ => none
 | k + 1, q_20, q_21, q_22 => (bif decide (q_22 < 8) then (if 0 ≤ q_22 ∧ q_22 < 8 then (part? x1 (0 + q_22.toNat * 3) 3).bind fun v_34 => (if 0 ≤ q_22 ∧ q_22 < 8 then (getI .u64 v_8 (0 + q_22.toNat * 1)).bind fun v_37 => (share_AddTold.m k q_20 v_34 v_37).bind fun v_40 => (if v_40.1.length = 3 then (if 0 ≤ q_22 ∧ q_22 < 8 then (if 0 + q_22.toNat * 3 + v_40.1.length ≤ q_21.length then slice_AddTold.l1 x1 v_8 k v_40.2 (splice q_21 (0 + q_22.toNat * 3) v_40.1) (IntKind.i64.wrap (q_22 + 1)) else none) else none) else none) else none) else none) else some (q_21, q_20))
abbrev slice_AddTold.R (κ : Ctx) (S : List HP) (x0 : Twire_Machine) (x1 : Cells) (x2 : List Int) (b_x0 : Nat) (A_x2 : Option Addr) (c_x2 : Nat) (r : (Cells × Twire_Machine)) : Ending → World → Prop := fun e w' => e = .returned (.agg (vals r.1)) ∧ Ow κ w' (Twire_Machine.own b_x0 r.2 :: S)
def slice_AddTold.m (k : Nat) (x0 : Twire_Machine) (x1 : Cells) (x2 : List Int) : Option (Cells × Twire_Machine) := (slice_Cut.m k x2).bind fun v_8 => (if v_8.length = 8 then (slice_AddTold.l1 x1 v_8 k x0 [ci 0, ci 0, ci 0, ci 0, ci 0, ci 0, ci 0, ci 0, ci 0, ci 0, ci 0, ci 0, ci 0, ci 0, ci 0, ci 0, ci 0, ci 0, ci 0, ci 0, ci 0, ci 0, ci 0, ci 0] 0).bind fun x => match x with | (p_44, p_45) => (if p_44.length = 24 then some (p_44, p_45) else none) else none)

set_option maxRecDepth 100000 in
set_option maxHeartbeats 4000000 in
theorem slice_AddTold.ok (k : Nat) (x0 : Twire_Machine) (x1 : Cells) (x2 : List Int) (r : (Cells × Twire_Machine)) (hm : slice_AddTold.m k x0 x1 x2 = some r) (κ : Ctx) (w : World) (S : List HP) (b_x0 : Nat) (A_x2 : Option Addr) (c_x2 : Nat) (hx_x2 : Sl κ S A_x2 c_x2 1 (eI .u8) x2) (ho : Ow κ w (Twire_Machine.own b_x0 x0 :: S)) :
  Calls Tryz.prog 16 #[pp b_x0, .agg (vals x1), .slice A_x2 x2.length c_x2] w (slice_AddTold.R κ S x0 x1 x2 b_x0 A_x2 c_x2 r) := by
 unfold slice_AddTold.m at hm
 generalize hRR : slice_AddTold.R κ S x0 x1 x2 b_x0 A_x2 c_x2 r = RR
 refine qen [(0, pp b_x0), (1, .agg (vals x1)), (2, .slice A_x2 x2.length c_x2)] Tryz.func16 Tryz.ntmps16 ho fun a hs => ?_
 refine qsr fun K1 hK1 => ?_
 refine qbx 0 26 [cp b_x0] 3 hs fun b_2 w a hs => ?_
 refine qbx 1 37 x1 4 hs fun b_3 w a hs => ?_
 refine qal 37 [ci 0, ci 0, ci 0, ci 0, ci 0, ci 0, ci 0, ci 0, ci 0, ci 0, ci 0, ci 0, ci 0, ci 0, ci 0, ci 0, ci 0, ci 0, ci 0, ci 0, ci 0, ci 0, ci 0, ci 0] 6 hs fun b_4 w a hs => ?_
 refine qpk 0 [2, 3, 4, 6] hs fun a hs => hK1 _ _ ?_
 clear hK1
 refine qsr fun K5 hK5 => ?_
 refine qpu 1 hs fun a hs => ?_
 obtain ⟨v_8, h_7, hm⟩ := bind_t hm
 refine qcl (slice_Cut.ok _ _ _ h_7 _ _ (pt b_4 (blk [ci 0, ci 0, ci 0, ci 0, ci 0, ci 0, ci 0, ci 0, ci 0, ci 0, ci 0, ci 0, ci 0, ci 0, ci 0, ci 0, ci 0, ci 0, ci 0, ci 0, ci 0, ci 0, ci 0, ci 0] 37) :: pt b_3 (blk x1 37) :: pt b_2 (blk [cp b_x0] 26) :: Twire_Machine.own b_x0 x0 :: S) A_x2 c_x2 hx_x2.less.less.less.less hs.own) hs fun w a hs => ?_
 refine qal 55 [cw 0, cw 0, cw 0, cw 0, cw 0, cw 0, cw 0, cw 0] 7 hs fun b_9 w a hs => ?_
 obtain ⟨h_10, hm⟩ := ite_t hm
 refine qsb 0 v_8 hs rfl h_10 rfl fun a w hs => ?_
 refine qpk 0 [3, 4, 6, 7] hs fun a hs => hK5 _ _ ?_
 clear hK5
 refine qsr fun K11 hK11 => ?_
 refine qpu 1 hs fun a hs => ?_
 refine Vk.step (Vk.call (some 11) 49 #[.func (.func 62) #[] #[pp b_2, pp b_3, pp b_9]] hs (by kernel_rfl) (by kernel_rfl) (by kernel_rfl) ?_)
 refine Vk.enterI [(0, .func (.func 62) #[] #[pp b_2, pp b_3, pp b_9])] Tryz.func49 rfl Tryz.ntmps49 (by kernel_rfl) (Nat.le_of_ble_eq_true (by kernel_rfl)) hs.own fun KR12 hKR12 hKP12 a hs => ?_
 refine qsr fun K13 hK13 => ?_
 refine qal 37 [ci 0, ci 0, ci 0, ci 0, ci 0, ci 0, ci 0, ci 0, ci 0, ci 0, ci 0, ci 0, ci 0, ci 0, ci 0, ci 0, ci 0, ci 0, ci 0, ci 0, ci 0, ci 0, ci 0, ci 0] 2 hs fun b_14 w a hs => ?_
 refine qpk 0 [0, 2] hs fun a hs => hK13 _ _ ?_
 clear hK13
 refine qsr fun K15 hK15 => ?_
 refine qal 37 [ci 0, ci 0, ci 0, ci 0, ci 0, ci 0, ci 0, ci 0, ci 0, ci 0, ci 0, ci 0, ci 0, ci 0, ci 0, ci 0, ci 0, ci 0, ci 0, ci 0, ci 0, ci 0, ci 0, ci 0] 3 hs fun b_16 w a hs => ?_
 refine qpk 0 [0, 2, 3] hs fun a hs => hK15 _ _ ?_
 clear hK15
 refine Vk.seq fun K17 hK17 => ?_
 refine qsk 1 [0, 2, 3, 5] hs fun a hs => ?_
 refine wp_block ?_
 obtain ⟨r19, hl19, hm⟩ := bind_t hm
 have hx19 : ∀ (p_44 : Cells) (p_45 : Twire_Machine), r19 = (p_44, p_45) → ∀ (a : Act) (w : World), St 15 a w κ [(2, pp b_14), (3, pp b_16)] (pt b_14 (blk [ci 0, ci 0, ci 0, ci 0, ci 0, ci 0, ci 0, ci 0, ci 0, ci 0, ci 0, ci 0, ci 0, ci 0, ci 0, ci 0, ci 0, ci 0, ci 0, ci 0, ci 0, ci 0, ci 0, ci 0] 37) :: pt b_16 (blk p_44 37) :: Twire_Machine.own b_x0 p_45 :: pt b_2 (blk [cp b_x0] 26) :: pt b_3 (blk x1 37) :: pt b_4 (blk [ci 0, ci 0, ci 0, ci 0, ci 0, ci 0, ci 0, ci 0, ci 0, ci 0, ci 0, ci 0, ci 0, ci 0, ci 0, ci 0, ci 0, ci 0, ci 0, ci 0, ci 0, ci 0, ci 0, ci 0] 37) :: pt b_9 (blk v_8 55) :: S) → K17 a w := by
  intro p_44 p_45 he a w hs
  subst r19
  refine hK17 _ _ ?_
  clear hK17
  refine qsr fun K49 hK49 => ?_
  obtain ⟨h_50, hm⟩ := ite_t hm
  refine qlw 1 hs rfl h_50 fun a hs => ?_
  refine qsb 0 p_44 hs rfl h_50 rfl fun a w hs => ?_
  refine qpe 0 [(2, pp b_14)] hs fun a hs => hK49 _ _ ?_
  clear hK49
  refine wp_ret ?_
  refine hKP12 _ _ ?_
  refine hKR12 _ _ ?_
  refine Vk.retC (P := Tryz.prog) (fn := Tryz.f49) p_44 hs rfl (by kernel_rfl) (sz := 24) (by kernel_rfl) h_50 (CellsAt.all 0 rfl) ⟨_, _, _, rfl, hs.own, fun a hs => ?_⟩
  refine qsb 5 p_44 hs rfl h_50 rfl fun a w hs => ?_
  refine qpe 0 [(6, pp b_4)] hs fun a hs => hK11 _ _ ?_
  clear hK11
  refine wp_ret ?_
  exact Vk.retC p_44 hs rfl (by kernel_rfl) (sz := 24) (by kernel_rfl) h_50 (CellsAt.all 5 rfl) (hRR ▸ by cases hm; exact ⟨rfl, (hs.own.too [2] 7)⟩)
 refine Vk.loopBy (fun k (s : Twire_Machine × Cells × Int) a w => slice_AddTold.l1 x1 v_8 k s.1 s.2.1 s.2.2 = some r19 ∧ St 15 a w κ [(0, .func (.func 62) #[] #[pp b_2, pp b_3, pp b_9]), (2, pp b_14), (3, pp b_16), (5, vi s.2.2)] (pt b_2 (blk [cp b_x0] 26) :: Twire_Machine.own b_x0 s.1 :: pt b_3 (blk x1 37) :: pt b_9 (blk v_8 55) :: pt b_14 (blk [ci 0, ci 0, ci 0, ci 0, ci 0, ci 0, ci 0, ci 0, ci 0, ci 0, ci 0, ci 0, ci 0, ci 0, ci 0, ci 0, ci 0, ci 0, ci 0, ci 0, ci 0, ci 0, ci 0, ci 0] 37) :: pt b_16 (blk s.2.1 37) :: pt b_4 (blk [ci 0, ci 0, ci 0, ci 0, ci 0, ci 0, ci 0, ci 0, ci 0, ci 0, ci 0, ci 0, ci 0, ci 0, ci 0, ci 0, ci 0, ci 0, ci 0, ci 0, ci 0, ci 0, ci 0, ci 0] 37) :: S)) k (x0, [ci 0, ci 0, ci 0, ci 0, ci 0, ci 0, ci 0, ci 0, ci 0, ci 0, ci 0, ci 0, ci 0, ci 0, ci 0, ci 0, ci 0, ci 0, ci 0, ci 0, ci 0, ci 0, ci 0, ci 0], 0) ⟨hl19, hs.go [0, 2, 3, 5] [5, 6, 4, 2, 1, 0, 3] 7 (by kernel_rfl) (by kernel_rfl) (by kernel_rfl)⟩ (fun s a w h => by obtain ⟨h1, _⟩ := h; simp [slice_AddTold.l1] at h1) (fun k KL19 ih s a w h => ?_)
 obtain ⟨q_20, q_21, q_22⟩ := s
 obtain ⟨hm, hs⟩ := h
 try dsimp only at hm hs
 rw [slice_AddTold.l1] at hm
 refine qsk 1 [0, 2, 3, 5, 6] hs fun a hs => ?_
 refine Vk.seq fun K24 hK24 => ?_
 refine qcs (decide (q_22 < 8)) hs (fun hb => ?_) fun hb => ?_
 ·replace hm := bif_t hm hb
  refine wp_skip ?_
  refine hK24 _ _ ?_
  clear hK24
  refine Vk.seq fun K25 hK25 => ?_
  refine wp_block ?_
  refine qsk 2 [0, 2, 3, 4, 5] hs fun a hs => ?_
  refine Vk.region ?_
  refine qpu 3 hs fun a hs => ?_
  refine Vk.step (Vk.call (some 11) 62 #[vi q_22, pp b_2, pp b_3, pp b_9] hs (by kernel_rfl) (by kernel_rfl) (by kernel_rfl) ?_)
  refine Vk.enterI [(0, vi q_22), (1, pp b_2), (2, pp b_3), (3, pp b_9)] Tryz.func62 rfl Tryz.ntmps62 (by kernel_rfl) (Nat.le_of_ble_eq_true (by kernel_rfl)) hs.own fun KR27 hKR27 hKP27 a hs => ?_
  refine qsr fun K28 hK28 => ?_
  refine qal 35 [ci 0, ci 0, ci 0] 5 hs fun b_29 w a hs => ?_
  refine qpk 0 [0, 1, 2, 3, 5] hs fun a hs => hK28 _ _ ?_
  clear hK28
  refine Vk.seq fun K30 hK30 => ?_
  obtain ⟨C_31, hC_31⟩ := qC hs.own
  refine qdr 7 κ C_31 hs fun w hs hqC_31 => ?_
  have hcl := qO hC_31 hs.own
  refine qdp (fuel := 7) [1, 4] hs hcl hqC_31 fun a hs => ?_
  refine qdl 0 1 (cp b_x0) hs hcl hqC_31 hC_31 rfl fun a hs => ?_
  obtain ⟨h_32, hm⟩ := ite_t hm
  refine qdx 2 b_3 0 3 hs hcl hqC_31 h_32 fun a hs => ?_
  obtain ⟨v_34, h_33, hm⟩ := bind_t hm
  refine qdt 3 (.agg (vals v_34)) (op := (.load 35 (.tmp 8))) hs hcl hqC_31 (fun w hw o ho => by rw [hC_31] at hw; exact run_loadN (cs := v_34) ho (by kernel_rfl) (by kernel_rfl) (part?_some h_33).2.2 (CellsAt.own (off := 0 + q_22.toNat * 3) 3 rfl h_33) _ hw) fun a hs => ?_
  obtain ⟨h_35, hm⟩ := ite_t hm
  refine qdx 5 b_9 0 1 hs hcl hqC_31 h_35 fun a hs => ?_
  obtain ⟨v_37, h_36, hm⟩ := bind_t hm
  refine qdi 6 4 hs hcl hqC_31 hC_31 rfl h_36 fun a hs => ?_
  obtain ⟨v_40, h_39, hm⟩ := bind_t hm
  refine qdc 7 (share_AddTold.ok _ _ _ _ _ h_39 _ _ _ b_x0 hs.own.f2) hs fun w a hs => ?_
  refine ⟨fun h => absurd h (by decide), ?_⟩
  obtain ⟨h_41, hm⟩ := ite_t hm
  refine qsA 8 1 v_40.1 hs rfl h_41 rfl fun a w hs => ?_
  refine ⟨fun h => absurd h (by decide), ?_⟩
  replace hs := hs.pick [5] (L' := [(5, pp b_29)]) (by kernel_rfl)
  refine Vk.dDone (by kernel_rfl) ?_
  refine hK30 _ _ ?_
  clear hK30
  refine wp_ret ?_
  refine hKP27 _ _ ?_
  refine hKR27 _ _ ?_
  refine Vk.retC (P := Tryz.prog) (fn := Tryz.f62) v_40.1 hs rfl (by kernel_rfl) (sz := 3) (by kernel_rfl) h_41 (CellsAt.all 1 rfl) ⟨_, _, _, rfl, hs.own, fun a hs => ?_⟩
  obtain ⟨h_42, hm⟩ := ite_t hm
  refine qix b_16 0 3 hs h_42 fun a hs => ?_
  obtain ⟨h_43, hm⟩ := ite_t hm
  refine Vk.step (Vk.storeN (b := b_16) (ty := 35) (x := (.tmp 12)) (y := (.tmp 11)) (off := 0 + q_22.toNat * 3) (sz := 3) v_40.1 6 hs (by kernel_rfl) (by kernel_rfl) (by kernel_rfl) (by kernel_rfl) (by kernel_rfl) h_41 (by kernel_rfl) rfl h_43 fun a w hs => ?_)
  refine qpk 0 [0, 2, 3, 5] hs fun a hs => hK25 _ _ ?_
  clear hK25
  refine Vk.region ?_
  refine qpk 2 [0, 2, 3, 5] hs fun a hs => ?_
  refine ih (v_40.2, (splice q_21 (0 + q_22.toNat * 3) v_40.1), (IntKind.i64.wrap (q_22 + 1))) _ _ ⟨hm, hs.go [0, 2, 3, 5] [2, 0, 3, 4, 5, 6, 7] 8 (by kernel_rfl) (by kernel_rfl) (by kernel_rfl)⟩
 ·replace hm := bif_f hm hb
  refine wp_exit ?_
  exact hx19 q_21 q_20 (Option.some.inj hm).symm _ _ (hs.go [2, 3] [4, 5, 1, 0, 2, 6, 3] 7 (by kernel_rfl) (by kernel_rfl) (by kernel_rfl))


abbrev wire_Machine_One.R (κ : Ctx) (S : List HP) (x0 : Twire_Machine) (x1 : Int) (x2 : Int) (x3 : Int) (x4 : Int) (b_x0 : Nat) (r : (Int × Twire_Machine)) : Ending → World → Prop := fun e w' => e = .returned (vi r.1) ∧ Ow κ w' (Twire_Machine.own b_x0 r.2 :: S)
def wire_Machine_One.m (k : Nat) (x0 : Twire_Machine) (x1 : Int) (x2 : Int) (x3 : Int) (x4 : Int) : Option (Int × Twire_Machine) := (wire_Machine_Do.m k x0 (⟨x1, x2, x3, (-1), (-1), x4⟩ : Tapi_Op) 0).bind fun v_5 => some (v_5.1, v_5.2)

set_option maxRecDepth 100000 in
set_option maxHeartbeats 4000000 in
theorem wire_Machine_One.ok (k : Nat) (x0 : Twire_Machine) (x1 : Int) (x2 : Int) (x3 : Int) (x4 : Int) (r : (Int × Twire_Machine)) (hm : wire_Machine_One.m k x0 x1 x2 x3 x4 = some r) (κ : Ctx) (w : World) (S : List HP) (b_x0 : Nat) (ho : Ow κ w (Twire_Machine.own b_x0 x0 :: S)) :
  Calls Tryz.prog 104 #[pp b_x0, vi x1, vi x2, vi x3, vw x4] w (wire_Machine_One.R κ S x0 x1 x2 x3 x4 b_x0 r) := by
 unfold wire_Machine_One.m at hm
 generalize hRR : wire_Machine_One.R κ S x0 x1 x2 x3 x4 b_x0 r = RR
 refine qen [(0, pp b_x0), (1, vi x1), (2, vi x2), (3, vi x3), (4, vw x4)] Tryz.func104 Tryz.ntmps104 ho fun a hs => ?_
 refine qsk 1 [0, 1, 2, 3, 4] hs fun a hs => ?_
 refine qsr fun K2 hK2 => ?_
 refine qpu 6 hs fun a hs => ?_
 obtain ⟨v_5, h_4, hm⟩ := bind_t hm
 refine qcl (wire_Machine_Do.ok _ _ _ _ _ h_4 _ _ _ b_x0 hs.own) hs fun w a hs => ?_
 refine qpe 1 [(10, vi v_5.1)] hs fun a hs => hK2 _ _ ?_
 clear hK2
 refine wp_ret ?_
 exact qr1 (vi v_5.1) hs rfl hRR (by cases hm; exact ⟨rfl, hs.own⟩)


def share_One.l1 (x1 : Int) (x2 : Cells) (x3 : Int) (v_22 : Int) : Nat → Twire_Machine → Cells → Int → Option (Cells × Twire_Machine)
 | 0, _, _, _ => none
 | k + 1, q_24, q_25, q_26 => (bif decide (q_26 < v_22) then (if 0 ≤ q_26 ∧ q_26 < 3 then (getI .i64 x2 (0 + q_26.toNat * 1)).bind fun v_37 => (wire_Machine_One.m k q_24 x1 q_26 v_37 x3).bind fun v_40 => (if 0 ≤ q_26 ∧ q_26 < 3 then (if 0 + q_26.toNat * 1 < q_25.length then share_One.l1 x1 x2 x3 v_22 k v_40.2 (q_25.set (0 + q_26.toNat * 1) (ci v_40.1)) (IntKind.i64.wrap (q_26 + 1)) else none) else none) else none) else some (q_25, q_24))
abbrev share_One.R (κ : Ctx) (S : List HP) (x0 : Twire_Machine) (x1 : Int) (x2 : Cells) (x3 : Int) (b_x0 : Nat) (r : (Cells × Twire_Machine)) : Ending → World → Prop := fun e w' => e = .returned (.agg (vals r.1)) ∧ Ow κ w' (Twire_Machine.own b_x0 r.2 :: S)
def share_One.m (k : Nat) (x0 : Twire_Machine) (x1 : Int) (x2 : Cells) (x3 : Int) : Option (Cells × Twire_Machine) := (share_none.m k).bind fun v_14 => (if v_14.length = 3 then (wire_Machine_N.m k x0).bind fun v_22 => (share_One.l1 x1 x2 x3 v_22 k x0 v_14 0).bind fun x => match x with | (p_43, p_44) => (if p_43.length = 3 then some (p_43, p_44) else none) else none)

set_option maxRecDepth 100000 in
set_option maxHeartbeats 4000000 in
theorem share_One.ok (k : Nat) (x0 : Twire_Machine) (x1 : Int) (x2 : Cells) (x3 : Int) (r : (Cells × Twire_Machine)) (hm : share_One.m k x0 x1 x2 x3 = some r) (κ : Ctx) (w : World) (S : List HP) (b_x0 : Nat) (ho : Ow κ w (Twire_Machine.own b_x0 x0 :: S)) :
  Calls Tryz.prog 65 #[pp b_x0, vi x1, .agg (vals x2), vw x3] w (share_One.R κ S x0 x1 x2 x3 b_x0 r) := by
 unfold share_One.m at hm
 generalize hRR : share_One.R κ S x0 x1 x2 x3 b_x0 r = RR
 refine qen [(0, pp b_x0), (1, vi x1), (2, .agg (vals x2)), (3, vw x3)] Tryz.func65 Tryz.ntmps65 ho fun a hs => ?_
 refine qsr fun K1 hK1 => ?_
 refine qbx 0 26 [cp b_x0] 4 hs fun b_2 w a hs => ?_
 refine qbx 1 3 [ci x1] 5 hs fun b_3 w a hs => ?_
 refine qbx 2 35 x2 6 hs fun b_4 w a hs => ?_
 refine qbx 3 23 [cw x3] 7 hs fun b_5 w a hs => ?_
 refine qal 35 [ci 0, ci 0, ci 0] 8 hs fun b_6 w a hs => ?_
 refine qpk 0 [4, 5, 6, 7, 8] hs fun a hs => hK1 _ _ ?_
 clear hK1
 refine qsr fun K7 hK7 => ?_
 refine qld 4 (cp b_x0) hs rfl fun a hs => ?_
 refine qpu 1 hs fun a hs => ?_
 refine Vk.step (Vk.call (some 11) 78 #[pp b_x0, .func (.func 103) #[] #[pp b_2, pp b_3, pp b_4, pp b_5]] hs (by kernel_rfl) (by kernel_rfl) (by kernel_rfl) ?_)
 refine Vk.enterI [(0, pp b_x0), (1, .func (.func 103) #[] #[pp b_2, pp b_3, pp b_4, pp b_5])] Tryz.func78 rfl Tryz.ntmps78 (by kernel_rfl) (Nat.le_of_ble_eq_true (by kernel_rfl)) hs.own fun KR8 hKR8 hKP8 a hs => ?_
 refine qsr fun K9 hK9 => ?_
 refine qal 35 [ci 0, ci 0, ci 0] 4 hs fun b_10 w a hs => ?_
 refine qpk 0 [0, 1, 4] hs fun a hs => hK9 _ _ ?_
 clear hK9
 refine qsr fun K11 hK11 => ?_
 obtain ⟨v_14, h_13, hm⟩ := bind_t hm
 refine qcl (share_none.ok _ _ h_13 _ _ (pt b_10 (blk [ci 0, ci 0, ci 0] 35) :: pt b_6 (blk [ci 0, ci 0, ci 0] 35) :: pt b_5 (blk [cw x3] 23) :: pt b_4 (blk x2 35) :: pt b_3 (blk [ci x1] 3) :: pt b_2 (blk [cp b_x0] 26) :: Twire_Machine.own b_x0 x0 :: S) hs.own) hs fun w a hs => ?_
 refine qal 35 [ci 0, ci 0, ci 0] 5 hs fun b_15 w a hs => ?_
 obtain ⟨h_16, hm⟩ := ite_t hm
 refine qsb 0 v_14 hs rfl h_16 rfl fun a w hs => ?_
 refine qpe 0 [(0, pp b_x0), (1, .func (.func 103) #[] #[pp b_2, pp b_3, pp b_4, pp b_5]), (4, pp b_10), (5, pp b_15)] hs fun a hs => hK11 _ _ ?_
 clear hK11
 refine Vk.seq fun K17 hK17 => ?_
 refine qsr fun K18 hK18 => ?_
 refine qpu 1 hs fun a hs => ?_
 obtain ⟨g_19, hs⟩ := hs.unex 7 rfl
 obtain ⟨v_22, h_21, hm⟩ := bind_t hm
 refine qcl (wire_Machine_N.ok _ _ _ h_21 _ _ _ b_x0 g_19 hs.own.f7) hs fun w a hs => ?_
 refine qpk 1 [1, 4, 5, 9, 10] hs fun a hs => hK18 _ _ ?_
 clear hK18
 refine wp_block ?_
 replace hs := hs.toEx (Twire_Machine.parts b_x0 x0) g_19 0 rfl
 obtain ⟨r23, hl23, hm⟩ := bind_t hm
 have hx23 : ∀ (p_43 : Cells) (p_44 : Twire_Machine), r23 = (p_43, p_44) → ∀ (a : Act) (w : World), St 21 a w κ [(4, pp b_10), (5, pp b_15)] (pt b_10 (blk [ci 0, ci 0, ci 0] 35) :: pt b_15 (blk p_43 35) :: Twire_Machine.own b_x0 p_44 :: pt b_2 (blk [cp b_x0] 26) :: pt b_3 (blk [ci x1] 3) :: pt b_4 (blk x2 35) :: pt b_5 (blk [cw x3] 23) :: pt b_6 (blk [ci 0, ci 0, ci 0] 35) :: S) → K17 a w := by
  intro p_43 p_44 he a w hs
  subst r23
  refine hK17 _ _ ?_
  clear hK17
  refine qsr fun K48 hK48 => ?_
  obtain ⟨h_49, hm⟩ := ite_t hm
  refine qlw 1 hs rfl h_49 fun a hs => ?_
  refine qsb 0 p_43 hs rfl h_49 rfl fun a w hs => ?_
  refine qpe 0 [(4, pp b_10)] hs fun a hs => hK48 _ _ ?_
  clear hK48
  refine wp_ret ?_
  refine hKP8 _ _ ?_
  refine hKR8 _ _ ?_
  refine Vk.retC (P := Tryz.prog) (fn := Tryz.f78) p_43 hs rfl (by kernel_rfl) (sz := 3) (by kernel_rfl) h_49 (CellsAt.all 0 rfl) ⟨_, _, _, rfl, hs.own, fun a hs => ?_⟩
  refine qsb 7 p_43 hs rfl h_49 rfl fun a w hs => ?_
  refine qpe 0 [(8, pp b_6)] hs fun a hs => hK7 _ _ ?_
  clear hK7
  refine wp_ret ?_
  exact Vk.retC p_43 hs rfl (by kernel_rfl) (sz := 3) (by kernel_rfl) h_49 (CellsAt.all 7 rfl) (hRR ▸ by cases hm; exact ⟨rfl, (hs.own.too [2] 8)⟩)
 refine Vk.loopBy (fun k (s : Twire_Machine × Cells × Int) a w => share_One.l1 x1 x2 x3 v_22 k s.1 s.2.1 s.2.2 = some r23 ∧ St 21 a w κ [(1, .func (.func 103) #[] #[pp b_2, pp b_3, pp b_4, pp b_5]), (4, pp b_10), (5, pp b_15), (9, vi v_22), (10, vi s.2.2)] (pt b_2 (blk [cp b_x0] 26) :: Twire_Machine.own b_x0 s.1 :: pt b_3 (blk [ci x1] 3) :: pt b_4 (blk x2 35) :: pt b_5 (blk [cw x3] 23) :: pt b_10 (blk [ci 0, ci 0, ci 0] 35) :: pt b_15 (blk s.2.1 35) :: pt b_6 (blk [ci 0, ci 0, ci 0] 35) :: S)) k (x0, v_14, 0) ⟨hl23, hs.go [1, 4, 5, 9, 10] [7, 0, 6, 5, 4, 2, 1, 3] 8 (by kernel_rfl) (by kernel_rfl) (by kernel_rfl)⟩ (fun s a w h => by obtain ⟨h1, _⟩ := h; simp [share_One.l1] at h1) (fun k KL23 ih s a w h => ?_)
 obtain ⟨q_24, q_25, q_26⟩ := s
 obtain ⟨hm, hs⟩ := h
 try dsimp only at hm hs
 rw [share_One.l1] at hm
 refine qsk 1 [1, 4, 5, 9, 10, 11] hs fun a hs => ?_
 refine Vk.seq fun K28 hK28 => ?_
 refine qcs (decide (q_26 < v_22)) hs (fun hb => ?_) fun hb => ?_
 ·replace hm := bif_t hm hb
  refine wp_skip ?_
  refine hK28 _ _ ?_
  clear hK28
  refine Vk.seq fun K29 hK29 => ?_
  refine wp_block ?_
  refine qsk 2 [1, 4, 5, 6, 9, 10] hs fun a hs => ?_
  refine Vk.region ?_
  refine qpu 3 hs fun a hs => ?_
  refine Vk.step (Vk.call (some 16) 103 #[vi q_26, pp b_2, pp b_3, pp b_4, pp b_5] hs (by kernel_rfl) (by kernel_rfl) (by kernel_rfl) ?_)
  refine Vk.enterI [(0, vi q_26), (1, pp b_2), (2, pp b_3), (3, pp b_4), (4, pp b_5)] Tryz.func103 rfl Tryz.ntmps103 (by kernel_rfl) (Nat.le_of_ble_eq_true (by kernel_rfl)) hs.own fun KR31 hKR31 hKP31 a hs => ?_
  refine qsk 1 [0, 1, 2, 3, 4] hs fun a hs => ?_
  refine Vk.seq fun K33 hK33 => ?_
  obtain ⟨C_34, hC_34⟩ := qC hs.own
  refine qdr 8 κ C_34 hs fun w hs hqC_34 => ?_
  have hcl := qO hC_34 hs.own
  refine qdp (fuel := 7) [2, 3, 4] hs hcl hqC_34 fun a hs => ?_
  refine qdl 0 0 (cp b_x0) hs hcl hqC_34 hC_34 rfl fun a hs => ?_
  refine qdl 1 2 (ci x1) hs hcl hqC_34 hC_34 rfl fun a hs => ?_
  obtain ⟨h_35, hm⟩ := ite_t hm
  refine qdx 5 b_4 0 1 hs hcl hqC_34 h_35 fun a hs => ?_
  obtain ⟨v_37, h_36, hm⟩ := bind_t hm
  refine qdi 6 3 hs hcl hqC_34 hC_34 rfl h_36 fun a hs => ?_
  refine qdl 7 4 (cw x3) hs hcl hqC_34 hC_34 rfl fun a hs => ?_
  obtain ⟨v_40, h_39, hm⟩ := bind_t hm
  refine qdc 8 (wire_Machine_One.ok _ _ _ _ _ _ _ h_39 _ _ _ b_x0 hs.own.f1) hs fun w a hs => ?_
  refine ⟨fun h => absurd h (by decide), ?_⟩
  refine Vk.dOnly (i := 9) (by kernel_rfl) (Vk.dPure1 [(6, vi v_40.1)] hs (by kernel_rfl) fun a hs => ?_)
  refine ⟨fun h => absurd h (by decide), ?_⟩
  replace hs := hs.pick [6] (L' := [(6, vi v_40.1)]) (by kernel_rfl)
  refine Vk.dDone (by kernel_rfl) ?_
  refine hK33 _ _ ?_
  clear hK33
  refine wp_ret ?_
  refine hKP31 _ _ ?_
  refine hKR31 _ _ ?_
  refine Vk.ret1 (P := Tryz.prog) (fn := Tryz.f103) (vi v_40.1) hs rfl (by kernel_rfl) ⟨_, _, _, rfl, hs.own, fun a hs => ?_⟩
  refine qpu 1 hs fun a hs => ?_
  obtain ⟨h_41, hm⟩ := ite_t hm
  refine qix b_15 0 1 hs h_41 fun a hs => ?_
  obtain ⟨h_42, hm⟩ := ite_t hm
  refine Vk.step (Vk.store1 (b := b_15) (ty := 3) (x := (.tmp 18)) (y := (.tmp 16)) (off := 0 + q_26.toNat * 1) (ci v_40.1) 6 hs (by kernel_rfl) (by kernel_rfl) (by kernel_rfl) (by kernel_rfl) (by kernel_rfl) (by kernel_rfl) rfl h_42 fun a w hs => ?_)
  refine qpk 0 [1, 4, 5, 9, 10] hs fun a hs => hK29 _ _ ?_
  clear hK29
  refine Vk.region ?_
  refine qpk 2 [1, 4, 5, 9, 10] hs fun a hs => ?_
  refine ih (v_40.2, (q_25.set (0 + q_26.toNat * 1) (ci v_40.1)), (IntKind.i64.wrap (q_26 + 1))) _ _ ⟨hm, hs.go [1, 4, 5, 9, 10] [1, 0, 2, 3, 4, 5, 6, 7] 8 (by kernel_rfl) (by kernel_rfl) (by kernel_rfl)⟩
 ·replace hm := bif_f hm hb
  refine wp_exit ?_
  exact hx23 q_25 q_24 (Option.some.inj hm).symm _ _ (hs.go [4, 5] [5, 6, 1, 0, 2, 3, 4, 7] 8 (by kernel_rfl) (by kernel_rfl) (by kernel_rfl))


def slice_One.l1 (x1 : Int) (x2 : Cells) (x3 : Int) : Nat → Twire_Machine → Cells → Int → Option (Cells × Twire_Machine)
 | 0, _, _, _ => none
 | k + 1, q_16, q_17, q_18 => (bif decide (q_18 < 8) then (if 0 ≤ q_18 ∧ q_18 < 8 then (part? x2 (0 + q_18.toNat * 3) 3).bind fun v_30 => (share_One.m k q_16 x1 v_30 x3).bind fun v_33 => (if v_33.1.length = 3 then (if 0 ≤ q_18 ∧ q_18 < 8 then (if 0 + q_18.toNat * 3 + v_33.1.length ≤ q_17.length then slice_One.l1 x1 x2 x3 k v_33.2 (splice q_17 (0 + q_18.toNat * 3) v_33.1) (IntKind.i64.wrap (q_18 + 1)) else none) else none) else none) else none) else some (q_17, q_16))
abbrev slice_One.R (κ : Ctx) (S : List HP) (x0 : Twire_Machine) (x1 : Int) (x2 : Cells) (x3 : Int) (b_x0 : Nat) (r : (Cells × Twire_Machine)) : Ending → World → Prop := fun e w' => e = .returned (.agg (vals r.1)) ∧ Ow κ w' (Twire_Machine.own b_x0 r.2 :: S)
def slice_One.m (k : Nat) (x0 : Twire_Machine) (x1 : Int) (x2 : Cells) (x3 : Int) : Option (Cells × Twire_Machine) := (slice_One.l1 x1 x2 x3 k x0 [ci 0, ci 0, ci 0, ci 0, ci 0, ci 0, ci 0, ci 0, ci 0, ci 0, ci 0, ci 0, ci 0, ci 0, ci 0, ci 0, ci 0, ci 0, ci 0, ci 0, ci 0, ci 0, ci 0, ci 0] 0).bind fun x => match x with | (p_37, p_38) => (if p_37.length = 24 then some (p_37, p_38) else none)

set_option maxRecDepth 100000 in
set_option maxHeartbeats 4000000 in
theorem slice_One.ok (k : Nat) (x0 : Twire_Machine) (x1 : Int) (x2 : Cells) (x3 : Int) (r : (Cells × Twire_Machine)) (hm : slice_One.m k x0 x1 x2 x3 = some r) (κ : Ctx) (w : World) (S : List HP) (b_x0 : Nat) (ho : Ow κ w (Twire_Machine.own b_x0 x0 :: S)) :
  Calls Tryz.prog 17 #[pp b_x0, vi x1, .agg (vals x2), vw x3] w (slice_One.R κ S x0 x1 x2 x3 b_x0 r) := by
 unfold slice_One.m at hm
 generalize hRR : slice_One.R κ S x0 x1 x2 x3 b_x0 r = RR
 refine qen [(0, pp b_x0), (1, vi x1), (2, .agg (vals x2)), (3, vw x3)] Tryz.func17 Tryz.ntmps17 ho fun a hs => ?_
 refine qsr fun K1 hK1 => ?_
 refine qbx 0 26 [cp b_x0] 4 hs fun b_2 w a hs => ?_
 refine qbx 1 3 [ci x1] 5 hs fun b_3 w a hs => ?_
 refine qbx 2 37 x2 6 hs fun b_4 w a hs => ?_
 refine qbx 3 23 [cw x3] 7 hs fun b_5 w a hs => ?_
 refine qal 37 [ci 0, ci 0, ci 0, ci 0, ci 0, ci 0, ci 0, ci 0, ci 0, ci 0, ci 0, ci 0, ci 0, ci 0, ci 0, ci 0, ci 0, ci 0, ci 0, ci 0, ci 0, ci 0, ci 0, ci 0] 8 hs fun b_6 w a hs => ?_
 refine qpk 0 [4, 5, 6, 7, 8] hs fun a hs => hK1 _ _ ?_
 clear hK1
 refine qsr fun K7 hK7 => ?_
 refine qpu 1 hs fun a hs => ?_
 refine Vk.step (Vk.call (some 10) 49 #[.func (.func 64) #[] #[pp b_2, pp b_3, pp b_4, pp b_5]] hs (by kernel_rfl) (by kernel_rfl) (by kernel_rfl) ?_)
 refine Vk.enterI [(0, .func (.func 64) #[] #[pp b_2, pp b_3, pp b_4, pp b_5])] Tryz.func49 rfl Tryz.ntmps49 (by kernel_rfl) (Nat.le_of_ble_eq_true (by kernel_rfl)) hs.own fun KR8 hKR8 hKP8 a hs => ?_
 refine qsr fun K9 hK9 => ?_
 refine qal 37 [ci 0, ci 0, ci 0, ci 0, ci 0, ci 0, ci 0, ci 0, ci 0, ci 0, ci 0, ci 0, ci 0, ci 0, ci 0, ci 0, ci 0, ci 0, ci 0, ci 0, ci 0, ci 0, ci 0, ci 0] 2 hs fun b_10 w a hs => ?_
 refine qpk 0 [0, 2] hs fun a hs => hK9 _ _ ?_
 clear hK9
 refine qsr fun K11 hK11 => ?_
 refine qal 37 [ci 0, ci 0, ci 0, ci 0, ci 0, ci 0, ci 0, ci 0, ci 0, ci 0, ci 0, ci 0, ci 0, ci 0, ci 0, ci 0, ci 0, ci 0, ci 0, ci 0, ci 0, ci 0, ci 0, ci 0] 3 hs fun b_12 w a hs => ?_
 refine qpk 0 [0, 2, 3] hs fun a hs => hK11 _ _ ?_
 clear hK11
 refine Vk.seq fun K13 hK13 => ?_
 refine qsk 1 [0, 2, 3, 5] hs fun a hs => ?_
 refine wp_block ?_
 obtain ⟨r15, hl15, hm⟩ := bind_t hm
 have hx15 : ∀ (p_37 : Cells) (p_38 : Twire_Machine), r15 = (p_37, p_38) → ∀ (a : Act) (w : World), St 15 a w κ [(2, pp b_10), (3, pp b_12)] (pt b_10 (blk [ci 0, ci 0, ci 0, ci 0, ci 0, ci 0, ci 0, ci 0, ci 0, ci 0, ci 0, ci 0, ci 0, ci 0, ci 0, ci 0, ci 0, ci 0, ci 0, ci 0, ci 0, ci 0, ci 0, ci 0] 37) :: pt b_12 (blk p_37 37) :: Twire_Machine.own b_x0 p_38 :: pt b_2 (blk [cp b_x0] 26) :: pt b_3 (blk [ci x1] 3) :: pt b_4 (blk x2 37) :: pt b_5 (blk [cw x3] 23) :: pt b_6 (blk [ci 0, ci 0, ci 0, ci 0, ci 0, ci 0, ci 0, ci 0, ci 0, ci 0, ci 0, ci 0, ci 0, ci 0, ci 0, ci 0, ci 0, ci 0, ci 0, ci 0, ci 0, ci 0, ci 0, ci 0] 37) :: S) → K13 a w := by
  intro p_37 p_38 he a w hs
  subst r15
  refine hK13 _ _ ?_
  clear hK13
  refine qsr fun K42 hK42 => ?_
  obtain ⟨h_43, hm⟩ := ite_t hm
  refine qlw 1 hs rfl h_43 fun a hs => ?_
  refine qsb 0 p_37 hs rfl h_43 rfl fun a w hs => ?_
  refine qpe 0 [(2, pp b_10)] hs fun a hs => hK42 _ _ ?_
  clear hK42
  refine wp_ret ?_
  refine hKP8 _ _ ?_
  refine hKR8 _ _ ?_
  refine Vk.retC (P := Tryz.prog) (fn := Tryz.f49) p_37 hs rfl (by kernel_rfl) (sz := 24) (by kernel_rfl) h_43 (CellsAt.all 0 rfl) ⟨_, _, _, rfl, hs.own, fun a hs => ?_⟩
  refine qsb 7 p_37 hs rfl h_43 rfl fun a w hs => ?_
  refine qpe 0 [(8, pp b_6)] hs fun a hs => hK7 _ _ ?_
  clear hK7
  refine wp_ret ?_
  exact Vk.retC p_37 hs rfl (by kernel_rfl) (sz := 24) (by kernel_rfl) h_43 (CellsAt.all 7 rfl) (hRR ▸ by cases hm; exact ⟨rfl, (hs.own.too [2] 8)⟩)
 refine Vk.loopBy (fun k (s : Twire_Machine × Cells × Int) a w => slice_One.l1 x1 x2 x3 k s.1 s.2.1 s.2.2 = some r15 ∧ St 15 a w κ [(0, .func (.func 64) #[] #[pp b_2, pp b_3, pp b_4, pp b_5]), (2, pp b_10), (3, pp b_12), (5, vi s.2.2)] (pt b_2 (blk [cp b_x0] 26) :: Twire_Machine.own b_x0 s.1 :: pt b_3 (blk [ci x1] 3) :: pt b_4 (blk x2 37) :: pt b_5 (blk [cw x3] 23) :: pt b_10 (blk [ci 0, ci 0, ci 0, ci 0, ci 0, ci 0, ci 0, ci 0, ci 0, ci 0, ci 0, ci 0, ci 0, ci 0, ci 0, ci 0, ci 0, ci 0, ci 0, ci 0, ci 0, ci 0, ci 0, ci 0] 37) :: pt b_12 (blk s.2.1 37) :: pt b_6 (blk [ci 0, ci 0, ci 0, ci 0, ci 0, ci 0, ci 0, ci 0, ci 0, ci 0, ci 0, ci 0, ci 0, ci 0, ci 0, ci 0, ci 0, ci 0, ci 0, ci 0, ci 0, ci 0, ci 0, ci 0] 37) :: S)) k (x0, [ci 0, ci 0, ci 0, ci 0, ci 0, ci 0, ci 0, ci 0, ci 0, ci 0, ci 0, ci 0, ci 0, ci 0, ci 0, ci 0, ci 0, ci 0, ci 0, ci 0, ci 0, ci 0, ci 0, ci 0], 0) ⟨hl15, hs.go [0, 2, 3, 5] [6, 7, 5, 4, 3, 1, 0, 2] 8 (by kernel_rfl) (by kernel_rfl) (by kernel_rfl)⟩ (fun s a w h => by obtain ⟨h1, _⟩ := h; simp [slice_One.l1] at h1) (fun k KL15 ih s a w h => ?_)
 obtain ⟨q_16, q_17, q_18⟩ := s
 obtain ⟨hm, hs⟩ := h
 try dsimp only at hm hs
 rw [slice_One.l1] at hm
 refine qsk 1 [0, 2, 3, 5, 6] hs fun a hs => ?_
 refine Vk.seq fun K20 hK20 => ?_
 refine qcs (decide (q_18 < 8)) hs (fun hb => ?_) fun hb => ?_
 ·replace hm := bif_t hm hb
  refine wp_skip ?_
  refine hK20 _ _ ?_
  clear hK20
  refine Vk.seq fun K21 hK21 => ?_
  refine wp_block ?_
  refine qsk 2 [0, 2, 3, 4, 5] hs fun a hs => ?_
  refine Vk.region ?_
  refine qpu 3 hs fun a hs => ?_
  refine Vk.step (Vk.call (some 11) 64 #[vi q_18, pp b_2, pp b_3, pp b_4, pp b_5] hs (by kernel_rfl) (by kernel_rfl) (by kernel_rfl) ?_)
  refine Vk.enterI [(0, vi q_18), (1, pp b_2), (2, pp b_3), (3, pp b_4), (4, pp b_5)] Tryz.func64 rfl Tryz.ntmps64 (by kernel_rfl) (Nat.le_of_ble_eq_true (by kernel_rfl)) hs.own fun KR23 hKR23 hKP23 a hs => ?_
  refine qsr fun K24 hK24 => ?_
  refine qal 35 [ci 0, ci 0, ci 0] 6 hs fun b_25 w a hs => ?_
  refine qpk 0 [0, 1, 2, 3, 4, 6] hs fun a hs => hK24 _ _ ?_
  clear hK24
  refine Vk.seq fun K26 hK26 => ?_
  obtain ⟨C_27, hC_27⟩ := qC hs.own
  refine qdr 6 κ C_27 hs fun w hs hqC_27 => ?_
  have hcl := qO hC_27 hs.own
  refine qdp (fuel := 7) [2] hs hcl hqC_27 fun a hs => ?_
  refine qdl 0 1 (cp b_x0) hs hcl hqC_27 hC_27 rfl fun a hs => ?_
  refine qdl 1 3 (ci x1) hs hcl hqC_27 hC_27 rfl fun a hs => ?_
  obtain ⟨h_28, hm⟩ := ite_t hm
  refine qdx 3 b_4 0 3 hs hcl hqC_27 h_28 fun a hs => ?_
  obtain ⟨v_30, h_29, hm⟩ := bind_t hm
  refine qdt 4 (.agg (vals v_30)) (op := (.load 35 (.tmp 10))) hs hcl hqC_27 (fun w hw o ho => by rw [hC_27] at hw; exact run_loadN (cs := v_30) ho (by kernel_rfl) (by kernel_rfl) (part?_some h_29).2.2 (CellsAt.own (off := 0 + q_18.toNat * 3) 4 rfl h_29) _ hw) fun a hs => ?_
  refine qdl 5 5 (cw x3) hs hcl hqC_27 hC_27 rfl fun a hs => ?_
  obtain ⟨v_33, h_32, hm⟩ := bind_t hm
  refine qdc 6 (share_One.ok _ _ _ _ _ _ h_32 _ _ _ b_x0 hs.own.f2) hs fun w a hs => ?_
  refine ⟨fun h => absurd h (by decide), ?_⟩
  obtain ⟨h_34, hm⟩ := ite_t hm
  refine qsA 7 1 v_33.1 hs rfl h_34 rfl fun a w hs => ?_
  refine ⟨fun h => absurd h (by decide), ?_⟩
  replace hs := hs.pick [6] (L' := [(6, pp b_25)]) (by kernel_rfl)
  refine Vk.dDone (by kernel_rfl) ?_
  refine hK26 _ _ ?_
  clear hK26
  refine wp_ret ?_
  refine hKP23 _ _ ?_
  refine hKR23 _ _ ?_
  refine Vk.retC (P := Tryz.prog) (fn := Tryz.f64) v_33.1 hs rfl (by kernel_rfl) (sz := 3) (by kernel_rfl) h_34 (CellsAt.all 1 rfl) ⟨_, _, _, rfl, hs.own, fun a hs => ?_⟩
  obtain ⟨h_35, hm⟩ := ite_t hm
  refine qix b_12 0 3 hs h_35 fun a hs => ?_
  obtain ⟨h_36, hm⟩ := ite_t hm
  refine Vk.step (Vk.storeN (b := b_12) (ty := 35) (x := (.tmp 12)) (y := (.tmp 11)) (off := 0 + q_18.toNat * 3) (sz := 3) v_33.1 7 hs (by kernel_rfl) (by kernel_rfl) (by kernel_rfl) (by kernel_rfl) (by kernel_rfl) h_34 (by kernel_rfl) rfl h_36 fun a w hs => ?_)
  refine qpk 0 [0, 2, 3, 5] hs fun a hs => hK21 _ _ ?_
  clear hK21
  refine Vk.region ?_
  refine qpk 2 [0, 2, 3, 5] hs fun a hs => ?_
  refine ih (v_33.2, (splice q_17 (0 + q_18.toNat * 3) v_33.1), (IntKind.i64.wrap (q_18 + 1))) _ _ ⟨hm, hs.go [0, 2, 3, 5] [2, 0, 3, 4, 5, 6, 7, 8] 9 (by kernel_rfl) (by kernel_rfl) (by kernel_rfl)⟩
 ·replace hm := bif_f hm hb
  refine wp_exit ?_
  exact hx15 q_17 q_16 (Option.some.inj hm).symm _ _ (hs.go [2, 3] [5, 6, 1, 0, 2, 3, 4, 7] 8 (by kernel_rfl) (by kernel_rfl) (by kernel_rfl))


def visorref20_One.l1 (x1 : Int) (x2 : Cells) (x3 : Int) : Nat → Tvisorref19_M → Cells → Int → Option (Cells × Tvisorref19_M)
 | 0, _, _, _ => none
 | k + 1, q_13, q_14, q_15 => (bif decide (q_15 < q_13.n) then (if 0 ≤ q_15 ∧ q_15 < 3 then (getI .i64 x2 (0 + q_15.toNat * 1)).bind fun v_26 => (visorref19_Op.m k x1 q_15 v_26 (-1) x3).bind fun v_29 => (visorref19_M_Do.m k q_13 v_29 0).bind fun v_32 => (if 0 ≤ q_15 ∧ q_15 < 3 then (if 0 + q_15.toNat * 1 < q_14.length then visorref20_One.l1 x1 x2 x3 k v_32.2 (q_14.set (0 + q_15.toNat * 1) (ci v_32.1)) (IntKind.i64.wrap (q_15 + 1)) else none) else none) else none) else some (q_14, q_13))
abbrev visorref20_One.R (κ : Ctx) (S : List HP) (x0 : Tvisorref19_M) (x1 : Int) (x2 : Cells) (x3 : Int) (b_x0 : Nat) (r : (Cells × Tvisorref19_M)) : Ending → World → Prop := fun e w' => e = .returned (.agg (vals r.1)) ∧ Ow κ w' (Tvisorref19_M.own κ b_x0 r.2 :: S)
def visorref20_One.m (k : Nat) (x0 : Tvisorref19_M) (x1 : Int) (x2 : Cells) (x3 : Int) : Option (Cells × Tvisorref19_M) := (visorref20_None.m k).bind fun v_7 => (if v_7.length = 3 then (visorref20_One.l1 x1 x2 x3 k x0 v_7 0).bind fun x => match x with | (p_35, p_36) => (if p_35.length = 3 then some (p_35, p_36) else none) else none)

set_option maxRecDepth 100000 in
set_option maxHeartbeats 4000000 in
theorem visorref20_One.ok (k : Nat) (x0 : Tvisorref19_M) (x1 : Int) (x2 : Cells) (x3 : Int) (r : (Cells × Tvisorref19_M)) (hm : visorref20_One.m k x0 x1 x2 x3 = some r) (κ : Ctx) (w : World) (S : List HP) (b_x0 : Nat) (ho : Ow κ w (Tvisorref19_M.own κ b_x0 x0 :: S)) :
  Calls Tryz.prog 66 #[pp b_x0, vi x1, .agg (vals x2), vw x3] w (visorref20_One.R κ S x0 x1 x2 x3 b_x0 r) := by
 unfold visorref20_One.m at hm
 generalize hRR : visorref20_One.R κ S x0 x1 x2 x3 b_x0 r = RR
 refine qen [(0, pp b_x0), (1, vi x1), (2, .agg (vals x2)), (3, vw x3)] Tryz.func66 Tryz.ntmps66 ho fun a hs => ?_
 refine qsr fun K1 hK1 => ?_
 refine qbx 2 35 x2 6 hs fun b_2 w a hs => ?_
 refine qal 35 [ci 0, ci 0, ci 0] 8 hs fun b_3 w a hs => ?_
 refine qpk 0 [0, 1, 3, 6, 8] hs fun a hs => hK1 _ _ ?_
 clear hK1
 refine qsr fun K4 hK4 => ?_
 obtain ⟨v_7, h_6, hm⟩ := bind_t hm
 refine qcl (visorref20_None.ok _ _ h_6 _ _ (pt b_3 (blk [ci 0, ci 0, ci 0] 35) :: pt b_2 (blk x2 35) :: Tvisorref19_M.own κ b_x0 x0 :: S) hs.own) hs fun w a hs => ?_
 refine qal 35 [ci 0, ci 0, ci 0] 9 hs fun b_8 w a hs => ?_
 obtain ⟨h_9, hm⟩ := ite_t hm
 refine qsb 0 v_7 hs rfl h_9 rfl fun a w hs => ?_
 refine qpk 0 [0, 1, 3, 6, 8, 9] hs fun a hs => hK4 _ _ ?_
 clear hK4
 refine Vk.seq fun K10 hK10 => ?_
 refine qsk 1 [0, 1, 3, 6, 8, 9, 10] hs fun a hs => ?_
 refine wp_block ?_
 obtain ⟨r12, hl12, hm⟩ := bind_t hm
 have hx12 : ∀ (p_35 : Cells) (p_36 : Tvisorref19_M), r12 = (p_35, p_36) → ∀ (a : Act) (w : World), St 34 a w κ [(8, pp b_3), (9, pp b_8)] (pt b_3 (blk [ci 0, ci 0, ci 0] 35) :: pt b_8 (blk p_35 35) :: Tvisorref19_M.own κ b_x0 p_36 :: S) → K10 a w := by
  intro p_35 p_36 he a w hs
  subst r12
  refine hK10 _ _ ?_
  clear hK10
  refine qsr fun K40 hK40 => ?_
  obtain ⟨h_41, hm⟩ := ite_t hm
  refine qlw 1 hs rfl h_41 fun a hs => ?_
  refine qsb 0 p_35 hs rfl h_41 rfl fun a w hs => ?_
  refine qpe 0 [(8, pp b_3)] hs fun a hs => hK40 _ _ ?_
  clear hK40
  refine wp_ret ?_
  exact Vk.retC p_35 hs rfl (by kernel_rfl) (sz := 3) (by kernel_rfl) h_41 (CellsAt.all 0 rfl) (hRR ▸ by cases hm; exact ⟨rfl, hs.own.f1.drop.drop⟩)
 refine Vk.loopBy (fun k (s : Tvisorref19_M × Cells × Int) a w => visorref20_One.l1 x1 x2 x3 k s.1 s.2.1 s.2.2 = some r12 ∧ St 34 a w κ [(0, pp b_x0), (1, vi x1), (3, vw x3), (6, pp b_2), (8, pp b_3), (9, pp b_8), (10, vi s.2.2)] (Tvisorref19_M.own κ b_x0 s.1 :: pt b_2 (blk x2 35) :: pt b_3 (blk [ci 0, ci 0, ci 0] 35) :: pt b_8 (blk s.2.1 35) :: S)) k (x0, v_7, 0) ⟨hl12, hs.go [0, 1, 3, 6, 8, 9, 10] [3, 2, 1, 0] 4 (by kernel_rfl) (by kernel_rfl) (by kernel_rfl)⟩ (fun s a w h => by obtain ⟨h1, _⟩ := h; simp [visorref20_One.l1] at h1) (fun k KL12 ih s a w h => ?_)
 obtain ⟨q_13, q_14, q_15⟩ := s
 obtain ⟨hm, hs⟩ := h
 try dsimp only at hm hs
 rw [visorref20_One.l1] at hm
 refine Vk.seq fun K16 hK16 => ?_
 refine qsr fun K17 hK17 => ?_
 refine qpu 4 hs fun a hs => ?_
 obtain ⟨g_18, hs⟩ := hs.unbag 0 rfl
 refine qld 0 (ci q_13.n) hs rfl fun a hs => ?_
 refine qpk 1 [0, 1, 3, 6, 8, 9, 10, 17] hs fun a hs => hK17 _ _ ?_
 clear hK17
 refine qcs (decide (q_15 < q_13.n)) hs (fun hb => ?_) fun hb => ?_
 ·replace hm := bif_t hm hb
  refine wp_skip ?_
  refine hK16 _ _ ?_
  clear hK16
  refine Vk.seq fun K23 hK23 => ?_
  refine wp_block ?_
  refine Vk.region ?_
  refine qpu 6 hs fun a hs => ?_
  obtain ⟨h_24, hm⟩ := ite_t hm
  refine qix b_2 0 1 hs h_24 fun a hs => ?_
  obtain ⟨v_26, h_25, hm⟩ := bind_t hm
  refine qli 5 hs rfl h_25 fun a hs => ?_
  refine qpu 1 hs fun a hs => ?_
  obtain ⟨v_29, h_28, hm⟩ := bind_t hm
  refine qcl (visorref19_Op.ok _ _ _ _ _ _ _ h_28 _ _ (pt b_x0 (blk (Tvisorref19_M.obj q_13 g_18.1 g_18.2.1 g_18.2.2.1 g_18.2.2.2.1 g_18.2.2.2.2.1 g_18.2.2.2.2.2.1 g_18.2.2.2.2.2.2.1 g_18.2.2.2.2.2.2.2) 54) :: rowp g_18.1 g_18.2.1 103 6 Tapi_Op.cells q_13.ops :: rowp g_18.2.2.1 g_18.2.2.2.1 119 3 Tapi_Span.cells q_13.blocks :: rowp g_18.2.2.2.2.1 g_18.2.2.2.2.2.1 23 1 (eI .u64) q_13.val :: rdp κ g_18.2.2.2.2.2.2.1 g_18.2.2.2.2.2.2.2 1 (eI .u64) q_13.tape.l :: pt b_2 (blk x2 35) :: pt b_3 (blk [ci 0, ci 0, ci 0] 35) :: pt b_8 (blk q_14 35) :: S) hs.own) hs fun w a hs => ?_
  replace hs := hs.bagG (l := Tvisorref19_M.parts κ b_x0 q_13 g_18) (S' := pt b_2 (blk x2 35) :: pt b_3 (blk [ci 0, ci 0, ci 0] 35) :: pt b_8 (blk q_14 35) :: S) hs.own
  replace hs := hs.toEx (Tvisorref19_M.parts κ b_x0 q_13) g_18 0 rfl
  obtain ⟨v_32, h_31, hm⟩ := bind_t hm
  refine qcl (visorref19_M_Do.ok _ _ _ _ _ h_31 _ _ _ b_x0 hs.own) hs fun w a hs => ?_
  refine qpu 1 hs fun a hs => ?_
  obtain ⟨h_33, hm⟩ := ite_t hm
  refine qix b_8 0 1 hs h_33 fun a hs => ?_
  obtain ⟨h_34, hm⟩ := ite_t hm
  refine Vk.step (Vk.store1 (b := b_8) (ty := 3) (x := (.tmp 32)) (y := (.tmp 30)) (off := 0 + q_15.toNat * 1) (ci v_32.1) 3 hs (by kernel_rfl) (by kernel_rfl) (by kernel_rfl) (by kernel_rfl) (by kernel_rfl) (by kernel_rfl) rfl h_34 fun a w hs => ?_)
  refine qpk 0 [0, 1, 3, 6, 8, 9, 10] hs fun a hs => hK23 _ _ ?_
  clear hK23
  refine Vk.region ?_
  refine qpk 3 [0, 1, 3, 6, 8, 9, 10] hs fun a hs => ?_
  refine ih (v_32.2, (q_14.set (0 + q_15.toNat * 1) (ci v_32.1)), (IntKind.i64.wrap (q_15 + 1))) _ _ ⟨hm, hs.go [0, 1, 3, 6, 8, 9, 10] [0, 1, 2, 3] 4 (by kernel_rfl) (by kernel_rfl) (by kernel_rfl)⟩
 ·replace hm := bif_f hm hb
  refine wp_exit ?_
  replace hs := hs.bagG (l := Tvisorref19_M.parts κ b_x0 q_13 g_18) (S' := pt b_2 (blk x2 35) :: pt b_3 (blk [ci 0, ci 0, ci 0] 35) :: pt b_8 (blk q_14 35) :: S) hs.own
  replace hs := hs.toEx (Tvisorref19_M.parts κ b_x0 q_13) g_18 0 rfl
  exact hx12 q_14 q_13 (Option.some.inj hm).symm _ _ (hs.go [8, 9] [2, 3, 0] 4 (by kernel_rfl) (by kernel_rfl) (by kernel_rfl))

end Go.Proofs.YtflgefjocjpjaaaGreat
