/- Of each Go function that TimesTells comes to: a model in plain Lean, and that the program's call does what the model says; no condition. -/
import Derived.Test.YtflgefjocjpjaaaProg
import Derived.Test.YtflgefjocjpjaaaVaepjpifb
import Derived.Test.YtflgefjocjpjaaaMTimesTells0
namespace Go.Proofs.Ytflgefjocjpjaaa
open Go Go.Vk
set_option linter.unusedVariables false


def visorref19_M_Do.j6 (k : Nat) (x1 : Tapi_Op) (p_84 : Int) (p_100 : Tvisorref19_M) : Option ((Int × Tvisorref19_M)) := (visorref19_M_At.m k p_100 x1.a).bind fun v_110 => (visorref19_M_At.m k p_100 x1.b).bind fun v_113 => (visorref19_M_At.m k p_100 x1.d).bind fun v_116 => (visorref17_Eval.m k x1 v_110 v_113 v_116 p_84).bind fun v_119 => (if (p_100.val.length + ([v_119] : List Int).length) * 8 ≤ 140737488355328 then (if (p_100.ops.length + ([x1] : List Tapi_Op).length) * 48 ≤ 140737488355328 then (visorref19_M_Len.m k (⟨p_100.n, p_100.most, p_100.words, p_100.draws, p_100.fromF, p_100.skip, p_100.kind, p_100.e, p_100.ops ++ ([x1] : List Tapi_Op), p_100.blocks, p_100.val ++ ([v_119] : List Int), p_100.tape, p_100.dry⟩ : Tvisorref19_M)).bind fun v_135 => some (IntKind.i64.wrap (v_135 - 1), (⟨p_100.n, p_100.most, p_100.words, p_100.draws, p_100.fromF, p_100.skip, p_100.kind, p_100.e, p_100.ops ++ ([x1] : List Tapi_Op), p_100.blocks, p_100.val ++ ([v_119] : List Int), p_100.tape, p_100.dry⟩ : Tvisorref19_M)) else none) else none)
def visorref19_M_Do.j5 (k : Nat) (x1 : Tapi_Op) (p_84 : Int) (p_92 : Tvisorref19_M) : Option ((Int × Tvisorref19_M)) := (bif x1.kind == 2 then visorref19_M_Do.j6 k x1 p_84 (⟨p_92.n, p_92.most, IntKind.i64.wrap (p_92.words + 1), p_92.draws, p_92.fromF, p_92.skip, p_92.kind, p_92.e, p_92.ops, p_92.blocks, p_92.val, p_92.tape, p_92.dry⟩ : Tvisorref19_M) else visorref19_M_Do.j6 k x1 p_84 p_92)
def visorref19_M_Do.j4 (k : Nat) (x1 : Tapi_Op) (p_83 : Tvisorref19_M) (p_84 : Int) : Option ((Int × Tvisorref19_M)) := (bif x1.kind == 1 then visorref19_M_Do.j5 k x1 p_84 (⟨p_83.n, p_83.most, p_83.words, IntKind.i64.wrap (p_83.draws + 1), p_83.fromF, p_83.skip, p_83.kind, p_83.e, p_83.ops, p_83.blocks, p_83.val, p_83.tape, p_83.dry⟩ : Tvisorref19_M) else visorref19_M_Do.j5 k x1 p_84 p_83)
def visorref19_M_Do.j3 (k : Nat) (x1 : Tapi_Op) (p_74 : Int) (p_75 : Bool) (p_76 : Tvisorref19_M) : Option ((Int × Tvisorref19_M)) := (bif !p_75 then (visorref19_M_Fails.m k p_76 2).bind fun v_82 => some (v_82.1, v_82.2) else visorref19_M_Do.j4 k x1 p_76 p_74)
def visorref19_M_Do.j2 (k : Nat) (x0 : Tvisorref19_M) (x1 : Tapi_Op) (x2 : Int) (p_36 : Bool) : Option ((Int × Tvisorref19_M)) := (bif p_36 then (visorref19_M_Fails.m k x0 3).bind fun v_40 => some (v_40.1, v_40.2) else (bif (x1.kind == 1) && (!x0.dry) then (bif (decide (x0.tape.free < 1)) || (((x0.tape.l.length : Nat) : Int) == 0) then visorref19_M_Do.j3 k x1 0 false x0 else (if 0 ≤ (0 : Int) then (x0.tape.l[0]?).bind fun e_60 => (if ((0 : Int) ≤ 1) ∧ 1 ≤ x0.tape.l.length ∧ x0.tape.l.length ≤ x0.tape.l.length then visorref19_M_Do.j3 k x1 e_60 true (⟨x0.n, x0.most, x0.words, x0.draws, x0.fromF, x0.skip, x0.kind, x0.e, x0.ops, x0.blocks, x0.val, (⟨cut x0.tape.l (1) (x0.tape.l.length), IntKind.i64.wrap (x0.tape.used + 1), IntKind.i64.wrap (x0.tape.free - 1)⟩ : Tvisorref02_T), x0.dry⟩ : Tvisorref19_M) else none) else none)) else visorref19_M_Do.j4 k x1 x0 x2))
def visorref19_M_Do.j1 (k : Nat) (x0 : Tvisorref19_M) (x1 : Tapi_Op) (x2 : Int) (p_20 : Bool) : Option ((Int × Tvisorref19_M)) := (bif p_20 then (visorref19_M_Fails.m k x0 1).bind fun v_24 => some (v_24.1, v_24.2) else (bif !x0.dry then (visorref19_M_Len.m k x0).bind fun v_35 => visorref19_M_Do.j2 k x0 x1 x2 (decide (v_35 ≥ x0.most)) else visorref19_M_Do.j2 k x0 x1 x2 false))
abbrev visorref19_M_Do.R (κ : Ctx) (S : List HP) (x0 : Tvisorref19_M) (x1 : Tapi_Op) (x2 : Int) (b_x0 : Nat) (r : (Int × Tvisorref19_M)) : Ending → World → Prop := fun e w' => e = .returned (vi r.1) ∧ Own κ w' (Tvisorref19_M.own κ b_x0 r.2 :: S)
def visorref19_M_Do.m (k : Nat) (x0 : Tvisorref19_M) (x1 : Tapi_Op) (x2 : Int) : Option (Int × Tvisorref19_M) := (bif x0.e != 0 then some ((-1), x0) else (visorref19_M_Len.m k x0).bind fun v_16 => (visorref17_Right.m k x1 v_16 x0.n).bind fun v_19 => (bif !v_19 then visorref19_M_Do.j1 k x0 x1 x2 true else (bif x1.kind == 2 then visorref19_M_Do.j1 k x0 x1 x2 (x1.c != (IntKind.u64.wrap x0.words)) else visorref19_M_Do.j1 k x0 x1 x2 false)))

set_option maxRecDepth 100000 in
set_option maxHeartbeats 4000000 in
theorem visorref19_M_Do.ok (k : Nat) (x0 : Tvisorref19_M) (x1 : Tapi_Op) (x2 : Int) (r : (Int × Tvisorref19_M)) (hm : visorref19_M_Do.m k x0 x1 x2 = some r) (κ : Ctx) (w : World) (S : List HP) (b_x0 : Nat) (ho : Own κ w (Tvisorref19_M.own κ b_x0 x0 :: S)) :
  Calls Try.prog 55 #[pp b_x0, .agg (vals [ci x1.kind, ci x1.dom, ci x1.a, ci x1.b, ci x1.d, cw x1.c]), vw x2] w (visorref19_M_Do.R κ S x0 x1 x2 b_x0 r) := by
 unfold visorref19_M_Do.m at hm
 generalize hRR : visorref19_M_Do.R κ S x0 x1 x2 b_x0 r = RR
 refine qen [(0, pp b_x0), (1, .agg (vals [ci x1.kind, ci x1.dom, ci x1.a, ci x1.b, ci x1.d, cw x1.c])), (2, vw x2)] Try.func55 Try.ntmps55 ho fun a hs => ?_
 refine qsr fun K1 hK1 => ?_
 refine qbx 1 93 [ci x1.kind, ci x1.dom, ci x1.a, ci x1.b, ci x1.d, cw x1.c] 4 hs fun b_2 w a hs => ?_
 refine qpe 1 [(0, pp b_x0), (2, vw x2), (4, pp b_2)] hs fun a hs => hK1 _ _ ?_
 clear hK1
 refine Vk.seq fun K3 hK3 => ?_
 refine qsr fun K4 hK4 => ?_
 refine qpu 3 hs fun a hs => ?_
 obtain ⟨g_5, hs⟩ := hs.unbag 1 rfl
 refine qld 0 (ci x0.e) hs rfl fun a hs => ?_
 refine qpk 1 [0, 2, 4, 13] hs fun a hs => hK4 _ _ ?_
 clear hK4
 refine qcs (x0.e != 0) hs (fun hb => ?_) fun hb => ?_
 ·replace hm := bif_t hm hb
  refine qse 1 [(6, vi (-1))] hs fun a hs => ?_
  refine wp_ret ?_
  replace hs := hs.bagG (l := Tvisorref19_M.parts κ b_x0 x0 g_5) (S' := pt b_2 (blk (Tapi_Op.cells x1) 93) :: S) hs.own
  replace hs := hs.toEx (Tvisorref19_M.parts κ b_x0 x0) g_5 0 rfl
  exact qr1 (vi (-1)) hs rfl hRR (by cases hm; exact ⟨rfl, hs.own.f1.drop⟩)
 ·replace hm := bif_f hm hb
  refine wp_skip ?_
  refine hK3 _ _ ?_
  clear hK3
  refine Vk.seq fun K11 hK11 => ?_
  refine Vk.seq fun K12 hK12 => ?_
  have hj12 : ∀ (p_20 : Bool), visorref19_M_Do.j1 k x0 x1 x2 p_20 = some r → ∀ (a : Act) (w : World), St 137 a w κ [(0, pp b_x0), (2, vw x2), (4, pp b_2), (37, .bool p_20)] (Tvisorref19_M.own κ b_x0 x0 :: pt b_2 (blk (Tapi_Op.cells x1) 93) :: S) → K12 a w := by
   intro p_20 hm a w hs
   unfold visorref19_M_Do.j1 at hm
   refine hK12 _ _ ?_
   refine qcs (p_20) hs (fun hb => ?_) fun hb => ?_
   ·replace hm := bif_t hm hb
    refine qsr fun K21 hK21 => ?_
    refine qpu 1 hs fun a hs => ?_
    obtain ⟨v_24, h_23, hm⟩ := bind_t hm
    refine qcl (visorref19_M_Fails.ok _ _ _ _ h_23 _ _ _ b_x0 hs.own) hs fun w a hs => ?_
    refine qpe 1 [(6, vi v_24.1)] hs fun a hs => hK21 _ _ ?_
    clear hK21
    refine wp_ret ?_
    exact qr1 (vi v_24.1) hs rfl hRR (by cases hm; exact ⟨rfl, hs.own.f1.drop⟩)
   ·replace hm := bif_f hm hb
    refine wp_skip ?_
    refine hK11 _ _ ?_
    clear hK11
    refine Vk.seq fun K25 hK25 => ?_
    refine Vk.seq fun K26 hK26 => ?_
    have hj26 : ∀ (p_36 : Bool), visorref19_M_Do.j2 k x0 x1 x2 p_36 = some r → ∀ (a : Act) (w : World), St 137 a w κ [(0, pp b_x0), (2, vw x2), (4, pp b_2), (53, .bool p_36)] (Tvisorref19_M.own κ b_x0 x0 :: pt b_2 (blk (Tapi_Op.cells x1) 93) :: S) → K26 a w := by
     intro p_36 hm a w hs
     unfold visorref19_M_Do.j2 at hm
     refine hK26 _ _ ?_
     refine qcs (p_36) hs (fun hb => ?_) fun hb => ?_
     ·replace hm := bif_t hm hb
      refine qsr fun K37 hK37 => ?_
      refine qpu 1 hs fun a hs => ?_
      obtain ⟨v_40, h_39, hm⟩ := bind_t hm
      refine qcl (visorref19_M_Fails.ok _ _ _ _ h_39 _ _ _ b_x0 hs.own) hs fun w a hs => ?_
      refine qpe 1 [(6, vi v_40.1)] hs fun a hs => hK37 _ _ ?_
      clear hK37
      refine wp_ret ?_
      exact qr1 (vi v_40.1) hs rfl hRR (by cases hm; exact ⟨rfl, hs.own.f1.drop⟩)
     ·replace hm := bif_f hm hb
      refine wp_skip ?_
      refine hK25 _ _ ?_
      clear hK25
      refine Vk.seq fun K41 hK41 => ?_
      have hj41 : ∀ (p_83 : Tvisorref19_M) (p_84 : Int), visorref19_M_Do.j4 k x1 p_83 p_84 = some r → ∀ (a : Act) (w : World), St 137 a w κ [(0, pp b_x0), (2, vw p_84), (4, pp b_2)] (Tvisorref19_M.own κ b_x0 p_83 :: pt b_2 (blk (Tapi_Op.cells x1) 93) :: S) → K41 a w := by
       intro p_83 p_84 hm a w hs
       unfold visorref19_M_Do.j4 at hm
       refine hK41 _ _ ?_
       refine Vk.seq fun K85 hK85 => ?_
       have hj85 : ∀ (p_92 : Tvisorref19_M), visorref19_M_Do.j5 k x1 p_84 p_92 = some r → ∀ (a : Act) (w : World), St 137 a w κ [(0, pp b_x0), (2, vw p_84), (4, pp b_2)] (Tvisorref19_M.own κ b_x0 p_92 :: pt b_2 (blk (Tapi_Op.cells x1) 93) :: S) → K85 a w := by
        intro p_92 hm a w hs
        unfold visorref19_M_Do.j5 at hm
        refine hK85 _ _ ?_
        refine Vk.seq fun K93 hK93 => ?_
        have hj93 : ∀ (p_100 : Tvisorref19_M), visorref19_M_Do.j6 k x1 p_84 p_100 = some r → ∀ (a : Act) (w : World), St 137 a w κ [(0, pp b_x0), (2, vw p_84), (4, pp b_2)] (Tvisorref19_M.own κ b_x0 p_100 :: pt b_2 (blk (Tapi_Op.cells x1) 93) :: S) → K93 a w := by
         intro p_100 hm a w hs
         unfold visorref19_M_Do.j6 at hm
         refine hK93 _ _ ?_
         refine Vk.seq fun K101 hK101 => ?_
         obtain ⟨g_102, hs⟩ := hs.unbag 0 rfl
         obtain ⟨C_107, hC_107⟩ := qC hs.own.f3.drop
         refine qdr 22 κ C_107 hs fun w hs hqC_107 => ?_
         have hcl := qO hC_107 hs.own.f3.drop
         refine qdp (fuel := 14) [0, 1, 2, 3, 6, 7, 10, 11, 14, 15, 18] hs hcl hqC_107 fun a hs => ?_
         refine qdl 4 0 (C.slc g_102.2.2.2.2.1 p_100.val.length g_102.2.2.2.2.2.1) hs hcl hqC_107 hC_107 rfl fun a hs => ?_
         refine qdn 5 4 ([ci x1.kind, ci x1.dom, ci x1.a, ci x1.b, ci x1.d, cw x1.c]) hs hcl hqC_107 hC_107 rfl fun a hs => ?_
         refine qdl 8 4 (ci x1.a) hs hcl hqC_107 hC_107 rfl fun a hs => ?_
         refine qdl 12 4 (ci x1.b) hs hcl hqC_107 hC_107 rfl fun a hs => ?_
         refine qdl 16 4 (ci x1.d) hs hcl hqC_107 hC_107 rfl fun a hs => ?_
         replace hs := hs.bagG (l := Tvisorref19_M.parts κ b_x0 p_100 g_102) (S' := pt b_2 (blk (Tapi_Op.cells x1) 93) :: S) hs.own
         obtain ⟨v_110, h_109, hm⟩ := bind_t hm
         refine qdc 9 (visorref19_M_At.ok _ _ _ _ h_109 _ _ _ b_x0 g_102 hs.own) hs fun w a hs => ?_
         replace hs := hs.unbagAt 0 rfl
         replace hcl := qO hC_107 hs.own.f3.drop
         refine ⟨fun _ => hcl, ?_⟩
         replace hs := hs.bagG (l := Tvisorref19_M.parts κ b_x0 p_100 g_102) (S' := pt b_2 (blk (Tapi_Op.cells x1) 93) :: S) hs.own
         obtain ⟨v_113, h_112, hm⟩ := bind_t hm
         refine qdc 13 (visorref19_M_At.ok _ _ _ _ h_112 _ _ _ b_x0 g_102 hs.own) hs fun w a hs => ?_
         replace hs := hs.unbagAt 0 rfl
         replace hcl := qO hC_107 hs.own.f3.drop
         refine ⟨fun _ => hcl, ?_⟩
         replace hs := hs.bagG (l := Tvisorref19_M.parts κ b_x0 p_100 g_102) (S' := pt b_2 (blk (Tapi_Op.cells x1) 93) :: S) hs.own
         obtain ⟨v_116, h_115, hm⟩ := bind_t hm
         refine qdc 17 (visorref19_M_At.ok _ _ _ _ h_115 _ _ _ b_x0 g_102 hs.own) hs fun w a hs => ?_
         replace hs := hs.unbagAt 0 rfl
         replace hcl := qO hC_107 hs.own.f3.drop
         refine ⟨fun _ => hcl, ?_⟩
         obtain ⟨v_119, h_118, hm⟩ := bind_t hm
         refine qdc 19 (visorref17_Eval.ok _ _ _ _ _ _ _ h_118 _ _ (pt b_x0 (blk (Tvisorref19_M.obj p_100 g_102.1 g_102.2.1 g_102.2.2.1 g_102.2.2.2.1 g_102.2.2.2.2.1 g_102.2.2.2.2.2.1 g_102.2.2.2.2.2.2.1 g_102.2.2.2.2.2.2.2) 64) :: rowp g_102.1 g_102.2.1 93 6 Tapi_Op.cells p_100.ops :: rowp g_102.2.2.1 g_102.2.2.2.1 175 3 Tapi_Span.cells p_100.blocks :: rowp g_102.2.2.2.2.1 g_102.2.2.2.2.2.1 32 1 (eI .u64) p_100.val :: rdp κ g_102.2.2.2.2.2.2.1 g_102.2.2.2.2.2.2.2 1 (eI .u64) p_100.tape.l :: pt b_2 (blk (Tapi_Op.cells x1) 93) :: S) hs.own) hs fun w a hs => ?_
         replace hcl := qO hC_107 hs.own.f3.drop
         refine ⟨fun _ => hcl, ?_⟩
         refine Vk.dOnly (i := 20) (by kernel_rfl) (Vk.buildOp (sz := 1) (by_ := 8) (t := 25) (e := 32) (parts := #[(0, (.tmp 119))]) (zs := vals [cw 0]) ([v_119] : List Int) (eI .u64) (some 120) hs (by kernel_rfl) (by kernel_rfl) (by kernel_rfl) (by kernel_rfl) (by decide) rfl (fun x _ => rfl) (Nat.le_of_ble_eq_true (by kernel_rfl)) (by kernel_rfl) fun A_120 w a hs => ?_)
         replace hcl := qO hC_107 hs.own.f4.drop.drop
         refine ⟨fun _ => hcl, ?_⟩
         obtain ⟨h_122, hm⟩ := ite_t hm
         refine Vk.dOnly (i := 21) (by kernel_rfl) (Vk.appendOp (x := (.tmp 104)) (y := (.tmp 120)) (e := 32) (t := 25) (by_ := 8) (sz := 1) (enc := (eI .u64)) (A := g_102.2.2.2.2.1) (cap := g_102.2.2.2.2.2.1) (xs := p_100.val) (ys := ([v_119] : List Int)) (B := A_120) (c2 := 1) 4 (some 121) hs (by kernel_rfl) (by kernel_rfl) (by kernel_rfl) (by kernel_rfl) rfl (Sl.lift (fun w ho => (Own.to (S' := rowp A_120 1 32 1 (eI .u64) ([v_119] : List Int) :: S) ho [0] 7 (by kernel_rfl) (by kernel_rfl))) (Own.rowSl 0 (Own.to (S' := rowp A_120 1 32 1 (eI .u64) ([v_119] : List Int) :: S) hs.own [0] 7 (by kernel_rfl) (by kernel_rfl)) rfl)) (by kernel_rfl) (by kernel_rfl) (by decide) (by decide) h_122 fun A_123 c_124 w a hs => ?_)
         replace hcl := qO hC_107 hs.own.f4.drop.drop
         refine ⟨fun _ => hcl, ?_⟩
         refine Vk.dOnly (i := 22) (by kernel_rfl) (Vk.dPure1 [(122, pp b_x0)] hs (by kernel_rfl) fun a hs => ?_)
         refine ⟨fun h => absurd h (by decide), ?_⟩
         refine Vk.dOnly (i := 23) (by kernel_rfl) (Vk.dPure1 [(123, .pointer (some ⟨b_x0, 10, none⟩))] hs (by kernel_rfl) fun a hs => ?_)
         refine ⟨fun h => absurd h (by decide), ?_⟩
         refine Vk.dOnly (i := 24) (by kernel_rfl) (Vk.store1 (b := b_x0) (ty := 25) (x := (.tmp 123)) (y := (.tmp 121)) (off := 10) (C.slc A_123 ((p_100.val ++ ([v_119] : List Int)).length) c_124) 1 hs (by kernel_rfl) (by kernel_rfl) (by kernel_rfl) (by kernel_rfl) (by kernel_rfl) (by kernel_rfl) rfl (Nat.le_of_ble_eq_true (by kernel_rfl)) fun a w hs => ?_)
         refine ⟨fun h => absurd h (by decide), ?_⟩
         replace hs := hs.pick [0, 4] (L' := [(0, pp b_x0), (4, pp b_2)]) (by kernel_rfl)
         refine Vk.dDone (by kernel_rfl) ?_
         refine hK101 _ _ ?_
         clear hK101
         refine Vk.seq fun K125 hK125 => ?_
         obtain ⟨C_126, hC_126⟩ := qC hs.own.f2.drop
         refine qdr 8 κ C_126 hs fun w hs hqC_126 => ?_
         have hcl := qO hC_126 hs.own.f2.drop
         refine qdp (fuel := 7) [0, 1, 2, 3] hs hcl hqC_126 fun a hs => ?_
         refine qdl 4 1 (C.slc g_102.1 p_100.ops.length g_102.2.1) hs hcl hqC_126 hC_126 rfl fun a hs => ?_
         refine qdn 5 5 ([ci x1.kind, ci x1.dom, ci x1.a, ci x1.b, ci x1.d, cw x1.c]) hs hcl hqC_126 hC_126 rfl fun a hs => ?_
         refine Vk.dOnly (i := 6) (by kernel_rfl) (Vk.buildOp (sz := 6) (by_ := 48) (t := 59) (e := 93) (parts := #[(0, (.tmp 129))]) (zs := vals [ci 0, ci 0, ci 0, ci 0, ci 0, cw 0]) ([x1] : List Tapi_Op) Tapi_Op.cells (some 130) hs (by kernel_rfl) (by kernel_rfl) (by kernel_rfl) (by kernel_rfl) (by decide) rfl (fun x _ => rfl) (Nat.le_of_ble_eq_true (by kernel_rfl)) (by kernel_rfl) fun A_127 w a hs => ?_)
         replace hcl := qO hC_126 hs.own.f3.drop.drop
         refine ⟨fun _ => hcl, ?_⟩
         obtain ⟨h_129, hm⟩ := ite_t hm
         refine Vk.dOnly (i := 7) (by kernel_rfl) (Vk.appendOp (x := (.tmp 128)) (y := (.tmp 130)) (e := 93) (t := 59) (by_ := 48) (sz := 6) (enc := Tapi_Op.cells) (A := g_102.1) (cap := g_102.2.1) (xs := p_100.ops) (ys := ([x1] : List Tapi_Op)) (B := A_127) (c2 := 1) 3 (some 131) hs (by kernel_rfl) (by kernel_rfl) (by kernel_rfl) (by kernel_rfl) rfl (Sl.lift (fun w ho => (Own.to (S' := rowp A_127 1 93 6 Tapi_Op.cells ([x1] : List Tapi_Op) :: S) ho [0] 8 (by kernel_rfl) (by kernel_rfl))) (Own.rowSl 0 (Own.to (S' := rowp A_127 1 93 6 Tapi_Op.cells ([x1] : List Tapi_Op) :: S) hs.own [0] 8 (by kernel_rfl) (by kernel_rfl)) rfl)) (by kernel_rfl) (by kernel_rfl) (by decide) (by decide) h_129 fun A_130 c_131 w a hs => ?_)
         replace hcl := qO hC_126 hs.own.f3.drop.drop
         refine ⟨fun _ => hcl, ?_⟩
         refine Vk.dOnly (i := 8) (by kernel_rfl) (Vk.dPure1 [(132, pp b_x0)] hs (by kernel_rfl) fun a hs => ?_)
         refine ⟨fun h => absurd h (by decide), ?_⟩
         refine Vk.dOnly (i := 9) (by kernel_rfl) (Vk.dPure1 [(133, .pointer (some ⟨b_x0, 8, none⟩))] hs (by kernel_rfl) fun a hs => ?_)
         refine ⟨fun h => absurd h (by decide), ?_⟩
         refine Vk.dOnly (i := 10) (by kernel_rfl) (Vk.store1 (b := b_x0) (ty := 59) (x := (.tmp 133)) (y := (.tmp 131)) (off := 8) (C.slc A_130 ((p_100.ops ++ ([x1] : List Tapi_Op)).length) c_131) 2 hs (by kernel_rfl) (by kernel_rfl) (by kernel_rfl) (by kernel_rfl) (by kernel_rfl) (by kernel_rfl) rfl (Nat.le_of_ble_eq_true (by kernel_rfl)) fun a w hs => ?_)
         refine ⟨fun h => absurd h (by decide), ?_⟩
         replace hs := hs.pick [0] (L' := [(0, pp b_x0)]) (by kernel_rfl)
         refine Vk.dDone (by kernel_rfl) ?_
         refine hK125 _ _ ?_
         clear hK125
         refine qsr fun K132 hK132 => ?_
         refine qpu 1 hs fun a hs => ?_
         replace hs := hs.bagG (l := Tvisorref19_M.parts κ b_x0 (⟨p_100.n, p_100.most, p_100.words, p_100.draws, p_100.fromF, p_100.skip, p_100.kind, p_100.e, p_100.ops ++ ([x1] : List Tapi_Op), p_100.blocks, p_100.val ++ ([v_119] : List Int), p_100.tape, p_100.dry⟩ : Tvisorref19_M) (A_130, c_131, g_102.2.2.1, g_102.2.2.2.1, A_123, c_124, g_102.2.2.2.2.2.2.1, g_102.2.2.2.2.2.2.2)) (S' := rowp A_127 1 93 6 Tapi_Op.cells ([x1] : List Tapi_Op) :: rowp A_120 1 32 1 (eI .u64) ([v_119] : List Int) :: pt b_2 (blk (Tapi_Op.cells x1) 93) :: S) hs.own.f6.f6.f6.f6.f6
         obtain ⟨v_135, h_134, hm⟩ := bind_t hm
         refine qcl (visorref19_M_Len.ok _ _ _ h_134 _ _ _ b_x0 (A_130, c_131, g_102.2.2.1, g_102.2.2.2.1, A_123, c_124, g_102.2.2.2.2.2.2.1, g_102.2.2.2.2.2.2.2) hs.own) hs fun w a hs => ?_
         replace hs := hs.unbagAt 0 rfl
         refine qpk 2 [6] hs fun a hs => hK132 _ _ ?_
         clear hK132
         refine wp_ret ?_
         replace hs := hs.bagG (l := Tvisorref19_M.parts κ b_x0 (⟨p_100.n, p_100.most, p_100.words, p_100.draws, p_100.fromF, p_100.skip, p_100.kind, p_100.e, p_100.ops ++ ([x1] : List Tapi_Op), p_100.blocks, p_100.val ++ ([v_119] : List Int), p_100.tape, p_100.dry⟩ : Tvisorref19_M) (A_130, c_131, g_102.2.2.1, g_102.2.2.2.1, A_123, c_124, g_102.2.2.2.2.2.2.1, g_102.2.2.2.2.2.2.2)) (S' := rowp A_127 1 93 6 Tapi_Op.cells ([x1] : List Tapi_Op) :: rowp A_120 1 32 1 (eI .u64) ([v_119] : List Int) :: pt b_2 (blk (Tapi_Op.cells x1) 93) :: S) hs.own
         replace hs := hs.toEx (Tvisorref19_M.parts κ b_x0 (⟨p_100.n, p_100.most, p_100.words, p_100.draws, p_100.fromF, p_100.skip, p_100.kind, p_100.e, p_100.ops ++ ([x1] : List Tapi_Op), p_100.blocks, p_100.val ++ ([v_119] : List Int), p_100.tape, p_100.dry⟩ : Tvisorref19_M)) (A_130, c_131, g_102.2.2.1, g_102.2.2.2.1, A_123, c_124, g_102.2.2.2.2.2.2.1, g_102.2.2.2.2.2.2.2) 0 rfl
         exact qr1 (vi (IntKind.i64.wrap (v_135 - 1))) hs rfl hRR (by cases hm; exact ⟨rfl, (hs.own.too [0] 4)⟩)
        refine qsr fun K94 hK94 => ?_
        refine qpu 1 hs fun a hs => ?_
        refine qld 1 (ci x1.kind) hs rfl fun a hs => ?_
        refine qpe 1 [(0, pp b_x0), (2, vw p_84), (4, pp b_2), (91, .bool (x1.kind == 2))] hs fun a hs => hK94 _ _ ?_
        clear hK94
        refine qcs (x1.kind == 2) hs (fun hb => ?_) fun hb => ?_
        ·replace hm := bif_t hm hb
         refine Vk.region ?_
         refine qpu 4 hs fun a hs => ?_
         obtain ⟨g_95, hs⟩ := hs.unbag 0 rfl
         refine qld 0 (ci p_92.words) hs rfl fun a hs => ?_
         refine qpu 3 hs fun a hs => ?_
         refine qst 0 2 (ci (IntKind.i64.wrap (p_92.words + 1))) hs rfl fun a w hs => ?_
         refine qpe 0 [(0, pp b_x0), (2, vw p_84), (4, pp b_2)] hs fun a hs => ?_
         replace hs := hs.bagG (l := Tvisorref19_M.parts κ b_x0 (⟨p_92.n, p_92.most, IntKind.i64.wrap (p_92.words + 1), p_92.draws, p_92.fromF, p_92.skip, p_92.kind, p_92.e, p_92.ops, p_92.blocks, p_92.val, p_92.tape, p_92.dry⟩ : Tvisorref19_M) g_95) (S' := pt b_2 (blk (Tapi_Op.cells x1) 93) :: S) hs.own
         replace hs := hs.toEx (Tvisorref19_M.parts κ b_x0 (⟨p_92.n, p_92.most, IntKind.i64.wrap (p_92.words + 1), p_92.draws, p_92.fromF, p_92.skip, p_92.kind, p_92.e, p_92.ops, p_92.blocks, p_92.val, p_92.tape, p_92.dry⟩ : Tvisorref19_M)) g_95 0 rfl
         exact hj93 (⟨p_92.n, p_92.most, IntKind.i64.wrap (p_92.words + 1), p_92.draws, p_92.fromF, p_92.skip, p_92.kind, p_92.e, p_92.ops, p_92.blocks, p_92.val, p_92.tape, p_92.dry⟩ : Tvisorref19_M) hm _ _ (hs.go [0, 2, 4] [0, 1] 2 (by kernel_rfl) (by kernel_rfl) (by kernel_rfl))
        ·replace hm := bif_f hm hb
         refine wp_skip ?_
         exact hj93 p_92 hm _ _ (hs.go [0, 2, 4] [0, 1] 2 (by kernel_rfl) (by kernel_rfl) (by kernel_rfl))
       refine qsr fun K86 hK86 => ?_
       refine qpu 1 hs fun a hs => ?_
       refine qld 1 (ci x1.kind) hs rfl fun a hs => ?_
       refine qpe 1 [(0, pp b_x0), (2, vw p_84), (4, pp b_2), (80, .bool (x1.kind == 1))] hs fun a hs => hK86 _ _ ?_
       clear hK86
       refine qcs (x1.kind == 1) hs (fun hb => ?_) fun hb => ?_
       ·replace hm := bif_t hm hb
        refine Vk.region ?_
        refine qpu 4 hs fun a hs => ?_
        obtain ⟨g_87, hs⟩ := hs.unbag 0 rfl
        refine qld 0 (ci p_83.draws) hs rfl fun a hs => ?_
        refine qpu 3 hs fun a hs => ?_
        refine qst 0 3 (ci (IntKind.i64.wrap (p_83.draws + 1))) hs rfl fun a w hs => ?_
        refine qpe 0 [(0, pp b_x0), (2, vw p_84), (4, pp b_2)] hs fun a hs => ?_
        replace hs := hs.bagG (l := Tvisorref19_M.parts κ b_x0 (⟨p_83.n, p_83.most, p_83.words, IntKind.i64.wrap (p_83.draws + 1), p_83.fromF, p_83.skip, p_83.kind, p_83.e, p_83.ops, p_83.blocks, p_83.val, p_83.tape, p_83.dry⟩ : Tvisorref19_M) g_87) (S' := pt b_2 (blk (Tapi_Op.cells x1) 93) :: S) hs.own
        replace hs := hs.toEx (Tvisorref19_M.parts κ b_x0 (⟨p_83.n, p_83.most, p_83.words, IntKind.i64.wrap (p_83.draws + 1), p_83.fromF, p_83.skip, p_83.kind, p_83.e, p_83.ops, p_83.blocks, p_83.val, p_83.tape, p_83.dry⟩ : Tvisorref19_M)) g_87 0 rfl
        exact hj85 (⟨p_83.n, p_83.most, p_83.words, IntKind.i64.wrap (p_83.draws + 1), p_83.fromF, p_83.skip, p_83.kind, p_83.e, p_83.ops, p_83.blocks, p_83.val, p_83.tape, p_83.dry⟩ : Tvisorref19_M) hm _ _ (hs.go [0, 2, 4] [0, 1] 2 (by kernel_rfl) (by kernel_rfl) (by kernel_rfl))
       ·replace hm := bif_f hm hb
        refine wp_skip ?_
        exact hj85 p_83 hm _ _ (hs.go [0, 2, 4] [0, 1] 2 (by kernel_rfl) (by kernel_rfl) (by kernel_rfl))
      refine qsr fun K42 hK42 => ?_
      refine qpu 1 hs fun a hs => ?_
      refine qld 1 (ci x1.kind) hs rfl fun a hs => ?_
      refine qpu 2 hs fun a hs => ?_
      obtain ⟨g_43, hs⟩ := hs.unbag 0 rfl
      suffices hj_48 : ∀ a, St 137 a w κ [(0, pp b_x0), (2, vw x2), (4, pp b_2), (53, .bool p_36), (56, pp b_2), (57, vi x1.kind), (58, .bool (x1.kind == 1)), (59, .bool (x1.kind == 1)), (65, .bool ((x1.kind == 1) && (!x0.dry)))] (pt b_x0 (blk (Tvisorref19_M.obj x0 g_43.1 g_43.2.1 g_43.2.2.1 g_43.2.2.2.1 g_43.2.2.2.2.1 g_43.2.2.2.2.2.1 g_43.2.2.2.2.2.2.1 g_43.2.2.2.2.2.2.2) 64) :: rowp g_43.1 g_43.2.1 93 6 Tapi_Op.cells x0.ops :: rowp g_43.2.2.1 g_43.2.2.2.1 175 3 Tapi_Span.cells x0.blocks :: rowp g_43.2.2.2.2.1 g_43.2.2.2.2.2.1 32 1 (eI .u64) x0.val :: rdp κ g_43.2.2.2.2.2.2.1 g_43.2.2.2.2.2.2.2 1 (eI .u64) x0.tape.l :: pt b_2 (blk (Tapi_Op.cells x1) 93) :: S) → wpFrom Try.prog _ _ 10 a w by
       rcases Bool.eq_false_or_eq_true (x1.kind == 1) with hb | hb
       ·replace hs := hs.known (t := 59) hb (by kernel_rfl)
        refine qpu 3 hs fun a hs => ?_
        refine qld 0 (C.bool x0.dry) hs rfl fun a hs => ?_
        refine qpu 2 hs fun a hs => ?_
        have hq := hs.pick [0, 2, 4, 53, 56, 57, 58, 59, 65] (L' := [(0, pp b_x0), (2, vw x2), (4, pp b_2), (53, .bool p_36), (56, pp b_2), (57, vi x1.kind), (58, .bool (x1.kind == 1)), (59, .bool true), (65, .bool (!x0.dry))]) (by kernel_rfl)
        exact hj_48 _ (hq.conv (by first | (rw [hb] <;> rfl) | rfl))
       ·replace hs := hs.known (t := 59) hb (by kernel_rfl)
        refine qpu 6 hs fun a hs => ?_
        have hq := hs.pick [0, 2, 4, 53, 56, 57, 58, 59, 65] (L' := [(0, pp b_x0), (2, vw x2), (4, pp b_2), (53, .bool p_36), (56, pp b_2), (57, vi x1.kind), (58, .bool (x1.kind == 1)), (59, .bool false), (65, .bool false)]) (by kernel_rfl)
        exact hj_48 _ (hq.conv (by first | (rw [hb] <;> rfl) | rfl))
      intro a hs
      refine qpk 0 [0, 2, 4, 65] hs fun a hs => hK42 _ _ ?_
      clear hK42
      refine qcs ((x1.kind == 1) && (!x0.dry)) hs (fun hb => ?_) fun hb => ?_
      ·replace hm := bif_t hm hb
       refine qsr fun K49 hK49 => ?_
       refine qpu 3 hs fun a hs => ?_
       refine Vk.step (Vk.call (some 70) 129 #[.pointer (some ⟨b_x0, 11, none⟩)] hs (by kernel_rfl) (by kernel_rfl) (by kernel_rfl) ?_)
       refine Vk.enterI [(0, .pointer (some ⟨b_x0, 11, none⟩))] Try.func129 rfl Try.ntmps129 (by kernel_rfl) (Nat.le_of_ble_eq_true (by kernel_rfl)) hs.own fun KR50 hKR50 hKP50 a hs => ?_
       have hj50 : ∀ (p_74 : Int) (p_75 : Bool) (p_76 : Tvisorref19_M), visorref19_M_Do.j3 k x1 p_74 p_75 p_76 = some r → ∀ (a : Act) (w : World), St 49 a w κ [(2, vw p_74), (3, .bool p_75)] (Tvisorref19_M.own κ b_x0 p_76 :: pt b_2 (blk (Tapi_Op.cells x1) 93) :: S) → KR50 a w := by
        intro p_74 p_75 p_76 hm a w hs
        unfold visorref19_M_Do.j3 at hm
        refine hKR50 _ _ ?_
        refine Vk.ret2 (P := Try.prog) (fn := Try.f129) (vw p_74) (.bool p_75) hs rfl (by kernel_rfl) (by kernel_rfl) ⟨_, _, _, rfl, hs.own, fun a hs => ?_⟩
        refine qpk 5 [0, 4, 7, 8] hs fun a hs => hK49 _ _ ?_
        clear hK49
        refine Vk.seq fun K77 hK77 => ?_
        refine qsk 2 [0, 4, 7, 74] hs fun a hs => ?_
        refine qcs (!p_75) hs (fun hb => ?_) fun hb => ?_
        ·replace hm := bif_t hm hb
         refine qsr fun K79 hK79 => ?_
         refine qpu 1 hs fun a hs => ?_
         obtain ⟨v_82, h_81, hm⟩ := bind_t hm
         refine qcl (visorref19_M_Fails.ok _ _ _ _ h_81 _ _ _ b_x0 hs.own) hs fun w a hs => ?_
         refine qpe 1 [(6, vi v_82.1)] hs fun a hs => hK79 _ _ ?_
         clear hK79
         refine wp_ret ?_
         exact qr1 (vi v_82.1) hs rfl hRR (by cases hm; exact ⟨rfl, hs.own.f1.drop⟩)
        ·replace hm := bif_f hm hb
         refine wp_skip ?_
         refine hK77 _ _ ?_
         clear hK77
         refine Vk.region ?_
         refine qpe 2 [(0, pp b_x0), (2, vw p_74), (4, pp b_2)] hs fun a hs => ?_
         exact hj41 p_76 p_74 hm _ _ (hs.go [0, 2, 4] [0, 1] 2 (by kernel_rfl) (by kernel_rfl) (by kernel_rfl))
       refine qse 2 [(0, .pointer (some ⟨b_x0, 11, none⟩))] hs fun a hs => ?_
       refine Vk.seq fun K52 hK52 => ?_
       refine qsr fun K53 hK53 => ?_
       refine qpu 3 hs fun a hs => ?_
       refine qld 0 (ci x0.tape.free) hs rfl fun a hs => ?_
       refine qpu 2 hs fun a hs => ?_
       suffices hj_54 : ∀ a, St 49 a w κ [(0, .pointer (some ⟨b_x0, 11, none⟩)), (5, .pointer (some ⟨b_x0, 11, none⟩)), (6, .pointer (some ⟨b_x0, 11, none⟩)), (7, .pointer (some ⟨b_x0, 13, none⟩)), (8, vi x0.tape.free), (9, .bool (decide (x0.tape.free < 1))), (10, .bool (decide (x0.tape.free < 1))), (17, .bool ((decide (x0.tape.free < 1)) || (((x0.tape.l.length : Nat) : Int) == 0)))] (pt b_x0 (blk (Tvisorref19_M.obj x0 g_43.1 g_43.2.1 g_43.2.2.1 g_43.2.2.2.1 g_43.2.2.2.2.1 g_43.2.2.2.2.2.1 g_43.2.2.2.2.2.2.1 g_43.2.2.2.2.2.2.2) 64) :: rowp g_43.1 g_43.2.1 93 6 Tapi_Op.cells x0.ops :: rowp g_43.2.2.1 g_43.2.2.2.1 175 3 Tapi_Span.cells x0.blocks :: rowp g_43.2.2.2.2.1 g_43.2.2.2.2.2.1 32 1 (eI .u64) x0.val :: rdp κ g_43.2.2.2.2.2.2.1 g_43.2.2.2.2.2.2.2 1 (eI .u64) x0.tape.l :: pt b_2 (blk (Tapi_Op.cells x1) 93) :: S) → wpFrom Try.prog _ _ 13 a w by
        rcases Bool.eq_false_or_eq_true (decide (x0.tape.free < 1)) with hb | hb
        ·replace hs := hs.known (t := 10) hb (by kernel_rfl)
         refine qpu 7 hs fun a hs => ?_
         have hq := hs.pick [0, 5, 6, 7, 8, 9, 10, 17] (L' := [(0, .pointer (some ⟨b_x0, 11, none⟩)), (5, .pointer (some ⟨b_x0, 11, none⟩)), (6, .pointer (some ⟨b_x0, 11, none⟩)), (7, .pointer (some ⟨b_x0, 13, none⟩)), (8, vi x0.tape.free), (9, .bool (decide (x0.tape.free < 1))), (10, .bool true), (17, .bool true)]) (by kernel_rfl)
         exact hj_54 _ (hq.conv (by first | (rw [hb] <;> rfl) | rfl))
        ·replace hs := hs.known (t := 10) hb (by kernel_rfl)
         refine qpu 3 hs fun a hs => ?_
         refine qld 0 (C.slc g_43.2.2.2.2.2.2.1 x0.tape.l.length g_43.2.2.2.2.2.2.2) hs rfl fun a hs => ?_
         refine qpu 3 hs fun a hs => ?_
         have hq := hs.pick [0, 5, 6, 7, 8, 9, 10, 17] (L' := [(0, .pointer (some ⟨b_x0, 11, none⟩)), (5, .pointer (some ⟨b_x0, 11, none⟩)), (6, .pointer (some ⟨b_x0, 11, none⟩)), (7, .pointer (some ⟨b_x0, 13, none⟩)), (8, vi x0.tape.free), (9, .bool (decide (x0.tape.free < 1))), (10, .bool false), (17, .bool (((x0.tape.l.length : Nat) : Int) == 0))]) (by kernel_rfl)
         exact hj_54 _ (hq.conv (by first | (rw [hb] <;> rfl) | rfl))
       intro a hs
       refine qpk 0 [0, 17] hs fun a hs => hK53 _ _ ?_
       clear hK53
       refine qcs ((decide (x0.tape.free < 1)) || (((x0.tape.l.length : Nat) : Int) == 0)) hs (fun hb => ?_) fun hb => ?_
       ·replace hm := bif_t hm hb
        refine qse 2 [(2, vw 0), (3, .bool false)] hs fun a hs => ?_
        refine wp_ret ?_
        refine hKP50 _ _ ?_
        replace hs := hs.bagG (l := Tvisorref19_M.parts κ b_x0 x0 g_43) (S' := pt b_2 (blk (Tapi_Op.cells x1) 93) :: S) hs.own
        replace hs := hs.toEx (Tvisorref19_M.parts κ b_x0 x0) g_43 0 rfl
        exact hj50 0 false x0 hm _ _ (hs.go [2, 3] [0, 1] 2 (by kernel_rfl) (by kernel_rfl) (by kernel_rfl))
       ·replace hm := bif_f hm hb
        refine wp_skip ?_
        refine hK52 _ _ ?_
        clear hK52
        refine qsr fun K56 hK56 => ?_
        refine qpu 3 hs fun a hs => ?_
        refine qld 0 (C.slc g_43.2.2.2.2.2.2.1 x0.tape.l.length g_43.2.2.2.2.2.2.2) hs rfl fun a hs => ?_
        obtain ⟨h_57, hm⟩ := ite_t hm
        obtain ⟨e_60, h_58, hm⟩ := bind_t hm
        obtain ⟨b_61, o_62, hA_63, h_59⟩ := Sl.elem (Own.rdSl 0 (Own.to (S' := rdp κ g_43.2.2.2.2.2.2.1 g_43.2.2.2.2.2.2.2 1 (eI .u64) x0.tape.l :: S) hs.own [4] 6 (by kernel_rfl) (by kernel_rfl)) rfl) h_58
        refine Vk.step (Vk.value (some 22) (.pointer (some ⟨b_61, o_62 + 0 * 1, none⟩)) hs (by kernel_rfl) (op := (.indexAddr 25 (.tmp 21) (.const (vi 0)))) (by kernel_rfl) (fun o ho => run_idxSlc (k := .i64) ho (cap := g_43.2.2.2.2.2.2.2) (len := x0.tape.l.length) ((congrArg (fun A => Value.slice A (x0.tape.l.length) (g_43.2.2.2.2.2.2.2)) hA_63) ▸ (by kernel_rfl)) (by kernel_rfl) (by kernel_rfl) (idx_ok h_57 h_58) _) fun a hs => ?_)
        refine Vk.step (Vk.value (some 23) (vw e_60) hs (by kernel_rfl) (op := (.load 32 (.tmp 22))) (by kernel_rfl) (fun o ho => run_load1 (c := cw e_60) ho (by kernel_rfl) (by kernel_rfl) (fun w ho => h_59 w ho 0 _ rfl) _ (Own.to (S' := rdp κ g_43.2.2.2.2.2.2.1 g_43.2.2.2.2.2.2.2 1 (eI .u64) x0.tape.l :: S) hs.own [4] 6 (by kernel_rfl) (by kernel_rfl))) fun a hs => ?_)
        refine qpk 1 [0, 4] hs fun a hs => hK56 _ _ ?_
        clear hK56
        refine qsr fun K64 hK64 => ?_
        refine qpu 4 hs fun a hs => ?_
        refine qld 0 (C.slc g_43.2.2.2.2.2.2.1 x0.tape.l.length g_43.2.2.2.2.2.2.2) hs rfl fun a hs => ?_
        obtain ⟨h_65, hm⟩ := ite_t hm
        obtain ⟨A_66, c_67, eA_68, ec_69, hx_70⟩ := Sl.sub (Own.rdSl 0 (Own.to (S' := rdp κ g_43.2.2.2.2.2.2.1 g_43.2.2.2.2.2.2.2 1 (eI .u64) x0.tape.l :: S) hs.own [4] 6 (by kernel_rfl) (by kernel_rfl)) rfl) h_65.2
        refine Vk.step (Vk.value (some 29) (.slice A_66 ((cut x0.tape.l (1) (x0.tape.l.length)).length) c_67) hs (by kernel_rfl) (op := (.slice 25 (.tmp 28) (some (.const (vi 1))) none none)) (by kernel_rfl) (fun o ho => run_sub (sz := 1) (e := 32) h_65.2 eA_68 ec_69 (Sl.le (Own.rdSl 0 (Own.to (S' := rdp κ g_43.2.2.2.2.2.2.1 g_43.2.2.2.2.2.2.2 1 (eI .u64) x0.tape.l :: S) hs.own [4] 6 (by kernel_rfl) (by kernel_rfl)) rfl)) ho (by kernel_rfl) (by kernel_rfl) (by kernel_rfl) ⟨.i64, 1, by kernel_rfl, h_65.1, rfl⟩ rfl _) fun a hs => ?_)
        replace hs := hs.cutRd 4 rfl h_65.2 eA_68 ec_69
        refine qpu 2 hs fun a hs => ?_
        refine qst 0 11 (C.slc A_66 ((cut x0.tape.l (1) (x0.tape.l.length)).length) c_67) hs rfl fun a w hs => ?_
        refine qpk 0 [0, 4] hs fun a hs => hK64 _ _ ?_
        clear hK64
        refine qsr fun K71 hK71 => ?_
        refine qpu 4 hs fun a hs => ?_
        refine qld 0 (ci x0.tape.free) hs rfl fun a hs => ?_
        refine qpu 3 hs fun a hs => ?_
        refine qst 0 13 (ci (IntKind.i64.wrap (x0.tape.free - 1))) hs rfl fun a w hs => ?_
        refine qpk 0 [0, 4] hs fun a hs => hK71 _ _ ?_
        clear hK71
        refine qsr fun K72 hK72 => ?_
        refine qpu 4 hs fun a hs => ?_
        refine qld 0 (ci x0.tape.used) hs rfl fun a hs => ?_
        refine qpu 3 hs fun a hs => ?_
        refine qst 0 12 (ci (IntKind.i64.wrap (x0.tape.used + 1))) hs rfl fun a w hs => ?_
        refine qpe 0 [(4, vw e_60)] hs fun a hs => hK72 _ _ ?_
        clear hK72
        refine qse 3 [(2, vw e_60), (3, .bool true)] hs fun a hs => ?_
        refine wp_ret ?_
        refine hKP50 _ _ ?_
        replace hs := hs.bagG (l := Tvisorref19_M.parts κ b_x0 (⟨x0.n, x0.most, x0.words, x0.draws, x0.fromF, x0.skip, x0.kind, x0.e, x0.ops, x0.blocks, x0.val, (⟨cut x0.tape.l (1) (x0.tape.l.length), IntKind.i64.wrap (x0.tape.used + 1), IntKind.i64.wrap (x0.tape.free - 1)⟩ : Tvisorref02_T), x0.dry⟩ : Tvisorref19_M) (g_43.1, g_43.2.1, g_43.2.2.1, g_43.2.2.2.1, g_43.2.2.2.2.1, g_43.2.2.2.2.2.1, A_66, c_67)) (S' := pt b_2 (blk (Tapi_Op.cells x1) 93) :: S) hs.own
        replace hs := hs.toEx (Tvisorref19_M.parts κ b_x0 (⟨x0.n, x0.most, x0.words, x0.draws, x0.fromF, x0.skip, x0.kind, x0.e, x0.ops, x0.blocks, x0.val, (⟨cut x0.tape.l (1) (x0.tape.l.length), IntKind.i64.wrap (x0.tape.used + 1), IntKind.i64.wrap (x0.tape.free - 1)⟩ : Tvisorref02_T), x0.dry⟩ : Tvisorref19_M)) (g_43.1, g_43.2.1, g_43.2.2.1, g_43.2.2.2.1, g_43.2.2.2.2.1, g_43.2.2.2.2.2.1, A_66, c_67) 0 rfl
        exact hj50 e_60 true (⟨x0.n, x0.most, x0.words, x0.draws, x0.fromF, x0.skip, x0.kind, x0.e, x0.ops, x0.blocks, x0.val, (⟨cut x0.tape.l (1) (x0.tape.l.length), IntKind.i64.wrap (x0.tape.used + 1), IntKind.i64.wrap (x0.tape.free - 1)⟩ : Tvisorref02_T), x0.dry⟩ : Tvisorref19_M) hm _ _ (hs.go [2, 3] [0, 1] 2 (by kernel_rfl) (by kernel_rfl) (by kernel_rfl))
      ·replace hm := bif_f hm hb
       refine wp_skip ?_
       replace hs := hs.bagG (l := Tvisorref19_M.parts κ b_x0 x0 g_43) (S' := pt b_2 (blk (Tapi_Op.cells x1) 93) :: S) hs.own
       replace hs := hs.toEx (Tvisorref19_M.parts κ b_x0 x0) g_43 0 rfl
       exact hj41 x0 x2 hm _ _ (hs.go [0, 2, 4] [0, 1] 2 (by kernel_rfl) (by kernel_rfl) (by kernel_rfl))
    obtain ⟨g_27, hs⟩ := hs.unbag 0 rfl
    obtain ⟨C_32, hC_32⟩ := qC hs.own
    refine qdr 14 κ C_32 hs fun w hs hqC_32 => ?_
    have hcl := qO hC_32 hs.own
    refine qdp (fuel := 11) [0, 1, 2] hs hcl hqC_32 fun a hs => ?_
    refine qdl 3 0 (C.bool x0.dry) hs hcl hqC_32 hC_32 rfl fun a hs => ?_
    refine qdp (fuel := 8) [4, 5] hs hcl hqC_32 fun a hs => ?_
    rcases Bool.eq_false_or_eq_true (!x0.dry) with hb | hb
    ·replace hm := bif_t hm hb
     replace hs := hs.known (t := 45) hb (by kernel_rfl)
     refine qdp (fuel := 4) [6, 8, 9, 10] hs hcl hqC_32 fun a hs => ?_
     refine qdl 11 0 (ci x0.most) hs hcl hqC_32 hC_32 rfl fun a hs => ?_
     replace hs := hs.bagG (l := Tvisorref19_M.parts κ b_x0 x0 g_27) (S' := pt b_2 (blk (Tapi_Op.cells x1) 93) :: S) hs.own
     obtain ⟨v_35, h_34, hm⟩ := bind_t hm
     refine qdc 7 (visorref19_M_Len.ok _ _ _ h_34 _ _ _ b_x0 g_27 hs.own) hs fun w a hs => ?_
     replace hs := hs.unbagAt 0 rfl
     replace hcl := qO hC_32 hs.own
     refine ⟨fun _ => hcl, ?_⟩
     refine qdp (fuel := 0) [12, 13] hs hcl hqC_32 fun a hs => ?_
     replace hs := hs.pick [0, 2, 4, 53] (L' := [(0, pp b_x0), (2, vw x2), (4, pp b_2), (53, .bool (decide (v_35 ≥ x0.most)))]) (by kernel_rfl)
     refine Vk.dDone (by kernel_rfl) ?_
     replace hs := hs.bagG (l := Tvisorref19_M.parts κ b_x0 x0 g_27) (S' := pt b_2 (blk (Tapi_Op.cells x1) 93) :: S) hs.own
     replace hs := hs.toEx (Tvisorref19_M.parts κ b_x0 x0) g_27 0 rfl
     exact hj26 (decide (v_35 ≥ x0.most)) hm _ _ (hs.go [0, 2, 4, 53] [0, 1] 2 (by kernel_rfl) (by kernel_rfl) (by kernel_rfl))
    ·replace hm := bif_f hm hb
     replace hs := hs.known (t := 45) hb (by kernel_rfl)
     refine qdp (fuel := 0) [6, 7, 8, 9, 10, 11, 12, 13] hs hcl hqC_32 fun a hs => ?_
     replace hs := hs.pick [0, 2, 4, 53] (L' := [(0, pp b_x0), (2, vw x2), (4, pp b_2), (53, .bool false)]) (by kernel_rfl)
     refine Vk.dDone (by kernel_rfl) ?_
     replace hs := hs.bagG (l := Tvisorref19_M.parts κ b_x0 x0 g_27) (S' := pt b_2 (blk (Tapi_Op.cells x1) 93) :: S) hs.own
     replace hs := hs.toEx (Tvisorref19_M.parts κ b_x0 x0) g_27 0 rfl
     exact hj26 false hm _ _ (hs.go [0, 2, 4, 53] [0, 1] 2 (by kernel_rfl) (by kernel_rfl) (by kernel_rfl))
  obtain ⟨C_13, hC_13⟩ := qC hs.own
  refine qdr 24 κ C_13 hs fun w hs hqC_13 => ?_
  have hcl := qO hC_13 hs.own
  refine qdp (fuel := 20) [1, 3, 4, 5] hs hcl hqC_13 fun a hs => ?_
  refine qdn 0 5 ([ci x1.kind, ci x1.dom, ci x1.a, ci x1.b, ci x1.d, cw x1.c]) hs hcl hqC_13 hC_13 rfl fun a hs => ?_
  refine qdl 6 0 (ci x0.n) hs hcl hqC_13 hC_13 rfl fun a hs => ?_
  replace hs := hs.bagG (l := Tvisorref19_M.parts κ b_x0 x0 g_5) (S' := pt b_2 (blk (Tapi_Op.cells x1) 93) :: S) hs.own
  obtain ⟨v_16, h_15, hm⟩ := bind_t hm
  refine qdc 2 (visorref19_M_Len.ok _ _ _ h_15 _ _ _ b_x0 g_5 hs.own) hs fun w a hs => ?_
  replace hs := hs.unbagAt 0 rfl
  replace hcl := qO hC_13 hs.own
  refine ⟨fun _ => hcl, ?_⟩
  obtain ⟨v_19, h_18, hm⟩ := bind_t hm
  refine qdc 7 (visorref17_Right.ok _ _ _ _ _ h_18 _ _ (pt b_x0 (blk (Tvisorref19_M.obj x0 g_5.1 g_5.2.1 g_5.2.2.1 g_5.2.2.2.1 g_5.2.2.2.2.1 g_5.2.2.2.2.2.1 g_5.2.2.2.2.2.2.1 g_5.2.2.2.2.2.2.2) 64) :: rowp g_5.1 g_5.2.1 93 6 Tapi_Op.cells x0.ops :: rowp g_5.2.2.1 g_5.2.2.2.1 175 3 Tapi_Span.cells x0.blocks :: rowp g_5.2.2.2.2.1 g_5.2.2.2.2.2.1 32 1 (eI .u64) x0.val :: rdp κ g_5.2.2.2.2.2.2.1 g_5.2.2.2.2.2.2.2 1 (eI .u64) x0.tape.l :: pt b_2 (blk (Tapi_Op.cells x1) 93) :: S) hs.own) hs fun w a hs => ?_
  replace hcl := qO hC_13 hs.own
  refine ⟨fun _ => hcl, ?_⟩
  refine qdp (fuel := 14) [8, 9] hs hcl hqC_13 fun a hs => ?_
  rcases Bool.eq_false_or_eq_true (!v_19) with hb | hb
  ·replace hm := bif_t hm hb
   replace hs := hs.known (t := 23) hb (by kernel_rfl)
   refine qdp (fuel := 0) [10, 11, 12, 13, 14, 15, 16, 17, 18, 19, 20, 21, 22, 23] hs hcl hqC_13 fun a hs => ?_
   replace hs := hs.pick [0, 2, 4, 37] (L' := [(0, pp b_x0), (2, vw x2), (4, pp b_2), (37, .bool true)]) (by kernel_rfl)
   refine Vk.dDone (by kernel_rfl) ?_
   replace hs := hs.bagG (l := Tvisorref19_M.parts κ b_x0 x0 g_5) (S' := pt b_2 (blk (Tapi_Op.cells x1) 93) :: S) hs.own
   replace hs := hs.toEx (Tvisorref19_M.parts κ b_x0 x0) g_5 0 rfl
   exact hj12 true hm _ _ (hs.go [0, 2, 4, 37] [0, 1] 2 (by kernel_rfl) (by kernel_rfl) (by kernel_rfl))
  ·replace hm := bif_f hm hb
   replace hs := hs.known (t := 23) hb (by kernel_rfl)
   refine qdp (fuel := 13) [10] hs hcl hqC_13 fun a hs => ?_
   refine qdl 11 5 (ci x1.kind) hs hcl hqC_13 hC_13 rfl fun a hs => ?_
   refine qdp (fuel := 10) [12, 13] hs hcl hqC_13 fun a hs => ?_
   rcases Bool.eq_false_or_eq_true (x1.kind == 2) with hb | hb
   ·replace hm := bif_t hm hb
    replace hs := hs.known (t := 27) hb (by kernel_rfl)
    refine qdp (fuel := 6) [14, 16, 17, 18] hs hcl hqC_13 fun a hs => ?_
    refine qdl 15 5 (cw x1.c) hs hcl hqC_13 hC_13 rfl fun a hs => ?_
    refine qdl 19 0 (ci x0.words) hs hcl hqC_13 hC_13 rfl fun a hs => ?_
    refine qdp (fuel := 0) [20, 21, 22, 23] hs hcl hqC_13 fun a hs => ?_
    replace hs := hs.pick [0, 2, 4, 37] (L' := [(0, pp b_x0), (2, vw x2), (4, pp b_2), (37, .bool (x1.c != (IntKind.u64.wrap x0.words)))]) (by kernel_rfl)
    refine Vk.dDone (by kernel_rfl) ?_
    replace hs := hs.bagG (l := Tvisorref19_M.parts κ b_x0 x0 g_5) (S' := pt b_2 (blk (Tapi_Op.cells x1) 93) :: S) hs.own
    replace hs := hs.toEx (Tvisorref19_M.parts κ b_x0 x0) g_5 0 rfl
    exact hj12 (x1.c != (IntKind.u64.wrap x0.words)) hm _ _ (hs.go [0, 2, 4, 37] [0, 1] 2 (by kernel_rfl) (by kernel_rfl) (by kernel_rfl))
   ·replace hm := bif_f hm hb
    replace hs := hs.known (t := 27) hb (by kernel_rfl)
    refine qdp (fuel := 0) [14, 15, 16, 17, 18, 19, 20, 21, 22, 23] hs hcl hqC_13 fun a hs => ?_
    replace hs := hs.pick [0, 2, 4, 37] (L' := [(0, pp b_x0), (2, vw x2), (4, pp b_2), (37, .bool false)]) (by kernel_rfl)
    refine Vk.dDone (by kernel_rfl) ?_
    replace hs := hs.bagG (l := Tvisorref19_M.parts κ b_x0 x0 g_5) (S' := pt b_2 (blk (Tapi_Op.cells x1) 93) :: S) hs.own
    replace hs := hs.toEx (Tvisorref19_M.parts κ b_x0 x0) g_5 0 rfl
    exact hj12 false hm _ _ (hs.go [0, 2, 4, 37] [0, 1] 2 (by kernel_rfl) (by kernel_rfl) (by kernel_rfl))


abbrev wire_Machine_N.R (κ : Ctx) (S : List HP) (x0 : Twire_Machine) (b_x0 : Nat) (g_x0 : Nat × Option Addr × Nat × Option Addr × Nat × Option Addr × Nat) (r : Int) : Ending → World → Prop := fun e w' => e = .returned (vi r) ∧ Own κ w' (bagL (Twire_Machine.parts b_x0 x0 g_x0) :: S)
def wire_Machine_N.m (k : Nat) (x0 : Twire_Machine) : Option Int := some x0.n

set_option maxRecDepth 100000 in
set_option maxHeartbeats 4000000 in
theorem wire_Machine_N.ok (k : Nat) (x0 : Twire_Machine) (r : Int) (hm : wire_Machine_N.m k x0 = some r) (κ : Ctx) (w : World) (S : List HP) (b_x0 : Nat) (g_x0 : Nat × Option Addr × Nat × Option Addr × Nat × Option Addr × Nat) (ho : Own κ w (bagL (Twire_Machine.parts b_x0 x0 g_x0) :: S)) :
  Calls Try.prog 89 #[pp b_x0] w (wire_Machine_N.R κ S x0 b_x0 g_x0 r) := by
 unfold wire_Machine_N.m at hm
 generalize hRR : wire_Machine_N.R κ S x0 b_x0 g_x0 r = RR
 refine qen [(0, pp b_x0)] Try.func89 Try.ntmps89 ho fun a hs => ?_
 refine qse 1 [(0, pp b_x0)] hs fun a hs => ?_
 refine Vk.seq fun K2 hK2 => ?_
 refine qsk 2 [0, 4] hs fun a hs => ?_
 refine qcf hs ?_
 refine wp_skip ?_
 refine hK2 _ _ ?_
 clear hK2
 refine qsr fun K4 hK4 => ?_
 refine qpu 3 hs fun a hs => ?_
 replace hs := hs.unbagAt 0 rfl
 refine qld 0 (ci x0.n) hs rfl fun a hs => ?_
 refine qpe 1 [(2, vi x0.n)] hs fun a hs => hK4 _ _ ?_
 clear hK4
 refine wp_ret ?_
 replace hs := hs.bagG (l := Twire_Machine.parts b_x0 x0 g_x0) (S' := S) hs.own
 exact qr1 (vi x0.n) hs rfl hRR (by cases hm; exact ⟨rfl, hs.own⟩)


abbrev share_none.R (κ : Ctx) (S : List HP) (r : Cells) : Ending → World → Prop := fun e w' => e = .returned (.agg (vals r)) ∧ Own κ w' (S)
def share_none.m (k : Nat) : Option Cells := some [ci (-1), ci (-1), ci (-1)]

set_option maxRecDepth 100000 in
set_option maxHeartbeats 4000000 in
theorem share_none.ok (k : Nat) (r : Cells) (hm : share_none.m k = some r) (κ : Ctx) (w : World) (S : List HP) (ho : Own κ w (S)) :
  Calls Try.prog 119 #[] w (share_none.R κ S r) := by
 unfold share_none.m at hm
 generalize hRR : share_none.R κ S r = RR
 refine qen [] Try.func119 Try.ntmps119 ho fun a hs => ?_
 refine qsr fun K1 hK1 => ?_
 refine qal 28 [ci 0, ci 0, ci 0] 0 hs fun b_2 w a hs => ?_
 refine qpe 0 [(0, pp b_2)] hs fun a hs => hK1 _ _ ?_
 clear hK1
 refine qsr fun K3 hK3 => ?_
 refine qpu 2 hs fun a hs => ?_
 refine qsa 0 [ci (-1), ci (-1), ci (-1)] hs rfl fun a w hs => ?_
 refine qpe 0 [(0, pp b_2)] hs fun a hs => hK3 _ _ ?_
 clear hK3
 refine wp_ret ?_
 exact Vk.retC (P := Try.prog) (fn := Try.f119) (R := RR) [ci (-1), ci (-1), ci (-1)] hs rfl (by kernel_rfl) (sz := 3) (by kernel_rfl) rfl (CellsAt.all 0 rfl) (by obtain rfl := Option.some.inj hm; subst hRR; exact ⟨rfl, hs.own.drop⟩)


def share_Public.j1 (k : Nat) (rec21 : Twire_Machine → Cells → Int → Option (Cells × Twire_Machine)) (q_23 : Cells) (q_24 : Int) (p_41 : Int) (p_42 : Twire_Machine) : Option (Cells × Twire_Machine) := (if 0 ≤ q_24 ∧ q_24 < 3 then (if 0 + q_24.toNat * 1 < q_23.length then rec21 p_42 (q_23.set (0 + q_24.toNat * 1) (ci p_41)) (IntKind.i64.wrap (q_24 + 1)) else none) else none)
def share_Public.l1 (x1 : Int) (v_20 : Int) : Nat → Twire_Machine → Cells → Int → Option (Cells × Twire_Machine)
 | 0, _, _, _ => none
 | k + 1, q_22, q_23, q_24 => (bif decide (q_24 < v_20) then (bif decide (q_24 > 0) then (wire_Machine_Const.m k q_22 q_24 0).bind fun v_36 => share_Public.j1 k (share_Public.l1 x1 v_20 k) q_23 q_24 v_36.1 v_36.2 else (wire_Machine_Const.m k q_22 q_24 x1).bind fun v_40 => share_Public.j1 k (share_Public.l1 x1 v_20 k) q_23 q_24 v_40.1 v_40.2) else some (q_23, q_22))
abbrev share_Public.R (κ : Ctx) (S : List HP) (x0 : Twire_Machine) (x1 : Int) (b_x0 : Nat) (r : (Cells × Twire_Machine)) : Ending → World → Prop := fun e w' => e = .returned (.agg (vals r.1)) ∧ Own κ w' (Twire_Machine.own b_x0 r.2 :: S)
def share_Public.m (k : Nat) (x0 : Twire_Machine) (x1 : Int) : Option (Cells × Twire_Machine) := (share_none.m k).bind fun v_12 => (if v_12.length = 3 then (wire_Machine_N.m k x0).bind fun v_20 => (share_Public.l1 x1 v_20 k x0 v_12 0).bind fun x => match x with | (p_45, p_46) => (if p_45.length = 3 then some (p_45, p_46) else none) else none)

set_option maxRecDepth 100000 in
set_option maxHeartbeats 4000000 in
theorem share_Public.ok (k : Nat) (x0 : Twire_Machine) (x1 : Int) (r : (Cells × Twire_Machine)) (hm : share_Public.m k x0 x1 = some r) (κ : Ctx) (w : World) (S : List HP) (b_x0 : Nat) (ho : Own κ w (Twire_Machine.own b_x0 x0 :: S)) :
  Calls Try.prog 59 #[pp b_x0, vw x1] w (share_Public.R κ S x0 x1 b_x0 r) := by
 unfold share_Public.m at hm
 generalize hRR : share_Public.R κ S x0 x1 b_x0 r = RR
 refine qen [(0, pp b_x0), (1, vw x1)] Try.func59 Try.ntmps59 ho fun a hs => ?_
 refine qsr fun K1 hK1 => ?_
 refine qbx 0 41 [cp b_x0] 2 hs fun b_2 w a hs => ?_
 refine qbx 1 32 [cw x1] 3 hs fun b_3 w a hs => ?_
 refine qal 28 [ci 0, ci 0, ci 0] 4 hs fun b_4 w a hs => ?_
 refine qpk 0 [2, 3, 4] hs fun a hs => hK1 _ _ ?_
 clear hK1
 refine qsr fun K5 hK5 => ?_
 refine qld 2 (cp b_x0) hs rfl fun a hs => ?_
 refine qpu 1 hs fun a hs => ?_
 refine Vk.step (Vk.call (some 7) 132 #[pp b_x0, .func (.func 133) #[] #[pp b_2, pp b_3]] hs (by kernel_rfl) (by kernel_rfl) (by kernel_rfl) ?_)
 refine Vk.enterI [(0, pp b_x0), (1, .func (.func 133) #[] #[pp b_2, pp b_3])] Try.func132 rfl Try.ntmps132 (by kernel_rfl) (Nat.le_of_ble_eq_true (by kernel_rfl)) hs.own fun KR6 hKR6 hKP6 a hs => ?_
 refine qsr fun K7 hK7 => ?_
 refine qal 28 [ci 0, ci 0, ci 0] 4 hs fun b_8 w a hs => ?_
 refine qpk 0 [0, 1, 4] hs fun a hs => hK7 _ _ ?_
 clear hK7
 refine qsr fun K9 hK9 => ?_
 obtain ⟨v_12, h_11, hm⟩ := bind_t hm
 refine qcl (share_none.ok _ _ h_11 _ _ (pt b_8 (blk [ci 0, ci 0, ci 0] 28) :: pt b_4 (blk [ci 0, ci 0, ci 0] 28) :: pt b_3 (blk [cw x1] 32) :: pt b_2 (blk [cp b_x0] 41) :: Twire_Machine.own b_x0 x0 :: S) hs.own) hs fun w a hs => ?_
 refine qal 28 [ci 0, ci 0, ci 0] 5 hs fun b_13 w a hs => ?_
 obtain ⟨h_14, hm⟩ := ite_t hm
 refine Vk.step (Vk.storeA (b := b_13) (ty := 28) (x := (.tmp 5)) (y := (.tmp 7)) (sz := 3) v_12 0 hs (by kernel_rfl) (by kernel_rfl) (by kernel_rfl) (by kernel_rfl) (by kernel_rfl) h_14 (by kernel_rfl) rfl (Eq.trans (b := 3) h_14 (Eq.symm rfl)) fun a w hs => ?_)
 refine qpe 0 [(0, pp b_x0), (1, .func (.func 133) #[] #[pp b_2, pp b_3]), (4, pp b_8), (5, pp b_13)] hs fun a hs => hK9 _ _ ?_
 clear hK9
 refine Vk.seq fun K15 hK15 => ?_
 refine qsr fun K16 hK16 => ?_
 refine qpu 1 hs fun a hs => ?_
 obtain ⟨g_17, hs⟩ := hs.unex 5 rfl
 obtain ⟨v_20, h_19, hm⟩ := bind_t hm
 refine qcl (wire_Machine_N.ok _ _ _ h_19 _ _ _ b_x0 g_17 hs.own.f5) hs fun w a hs => ?_
 refine qpk 1 [1, 4, 5, 9, 10] hs fun a hs => hK16 _ _ ?_
 clear hK16
 refine wp_block ?_
 replace hs := hs.toEx (Twire_Machine.parts b_x0 x0) g_17 0 rfl
 obtain ⟨r21, hl21, hm⟩ := bind_t hm
 have hx21 : ∀ (p_45 : Cells) (p_46 : Twire_Machine), r21 = (p_45, p_46) → ∀ (a : Act) (w : World), St 21 a w κ [(4, pp b_8), (5, pp b_13)] (pt b_8 (blk [ci 0, ci 0, ci 0] 28) :: pt b_13 (blk p_45 28) :: Twire_Machine.own b_x0 p_46 :: pt b_2 (blk [cp b_x0] 41) :: pt b_3 (blk [cw x1] 32) :: pt b_4 (blk [ci 0, ci 0, ci 0] 28) :: S) → K15 a w := by
  intro p_45 p_46 he a w hs
  subst r21
  refine hK15 _ _ ?_
  clear hK15
  refine qsr fun K50 hK50 => ?_
  obtain ⟨h_51, hm⟩ := ite_t hm
  refine Vk.step (Vk.value (some 20) (.agg (vals p_45)) hs (by kernel_rfl) (op := (.load 28 (.tmp 5))) (by kernel_rfl) (fun o ho => run_loadN (cs := p_45) ho (by kernel_rfl) (by kernel_rfl) h_51 (CellsAt.all 1 rfl) _ hs.own) fun a hs => ?_)
  refine Vk.step (Vk.storeA (b := b_8) (ty := 28) (x := (.tmp 4)) (y := (.tmp 20)) (sz := 3) p_45 0 hs (by kernel_rfl) (by kernel_rfl) (by kernel_rfl) (by kernel_rfl) (by kernel_rfl) h_51 (by kernel_rfl) rfl (Eq.trans (b := 3) h_51 (Eq.symm rfl)) fun a w hs => ?_)
  refine qpe 0 [(4, pp b_8)] hs fun a hs => hK50 _ _ ?_
  clear hK50
  refine wp_ret ?_
  refine hKP6 _ _ ?_
  refine hKR6 _ _ ?_
  refine Vk.retC (P := Try.prog) (fn := Try.f132) p_45 hs rfl (by kernel_rfl) (sz := 3) (by kernel_rfl) h_51 (CellsAt.all 0 rfl) ⟨_, _, _, rfl, hs.own, fun a hs => ?_⟩
  refine Vk.step (Vk.storeA (b := b_4) (ty := 28) (x := (.tmp 4)) (y := (.tmp 7)) (sz := 3) p_45 5 hs (by kernel_rfl) (by kernel_rfl) (by kernel_rfl) (by kernel_rfl) (by kernel_rfl) h_51 (by kernel_rfl) rfl (Eq.trans (b := 3) h_51 (Eq.symm rfl)) fun a w hs => ?_)
  refine qpe 0 [(4, pp b_4)] hs fun a hs => hK5 _ _ ?_
  clear hK5
  refine wp_ret ?_
  exact Vk.retC (P := Try.prog) (fn := Try.f59) (R := RR) p_45 hs rfl (by kernel_rfl) (sz := 3) (by kernel_rfl) h_51 (CellsAt.all 5 rfl) (by obtain rfl := Option.some.inj hm; subst hRR; exact ⟨rfl, (hs.own.too [2] 6)⟩)
 refine Vk.loopBy (fun k (s : Twire_Machine × Cells × Int) a w => share_Public.l1 x1 v_20 k s.1 s.2.1 s.2.2 = some r21 ∧ St 21 a w κ [(1, .func (.func 133) #[] #[pp b_2, pp b_3]), (4, pp b_8), (5, pp b_13), (9, vi v_20), (10, vi s.2.2)] (pt b_2 (blk [cp b_x0] 41) :: Twire_Machine.own b_x0 s.1 :: pt b_3 (blk [cw x1] 32) :: pt b_8 (blk [ci 0, ci 0, ci 0] 28) :: pt b_13 (blk s.2.1 28) :: pt b_4 (blk [ci 0, ci 0, ci 0] 28) :: S)) k (x0, v_12, 0) ⟨hl21, hs.go [1, 4, 5, 9, 10] [5, 0, 4, 2, 1, 3] 6 (by kernel_rfl) (by kernel_rfl) (by kernel_rfl)⟩ (fun s a w h => by obtain ⟨h1, _⟩ := h; simp [share_Public.l1] at h1) (fun k KL21 ih s a w h => ?_)
 obtain ⟨q_22, q_23, q_24⟩ := s
 obtain ⟨hm, hs⟩ := h
 try dsimp only at hm hs
 rw [share_Public.l1] at hm
 refine qsk 1 [1, 4, 5, 9, 10, 11] hs fun a hs => ?_
 refine Vk.seq fun K26 hK26 => ?_
 refine qcs (decide (q_24 < v_20)) hs (fun hb => ?_) fun hb => ?_
 ·replace hm := bif_t hm hb
  refine wp_skip ?_
  refine hK26 _ _ ?_
  clear hK26
  refine Vk.seq fun K27 hK27 => ?_
  refine wp_block ?_
  refine qsk 2 [1, 4, 5, 6, 9, 10] hs fun a hs => ?_
  refine Vk.region ?_
  refine qpu 3 hs fun a hs => ?_
  refine Vk.step (Vk.call (some 16) 133 #[vi q_24, pp b_2, pp b_3] hs (by kernel_rfl) (by kernel_rfl) (by kernel_rfl) ?_)
  refine Vk.enterI [(0, vi q_24), (1, pp b_2), (2, pp b_3)] Try.func133 rfl Try.ntmps133 (by kernel_rfl) (Nat.le_of_ble_eq_true (by kernel_rfl)) hs.own fun KR29 hKR29 hKP29 a hs => ?_
  have hj29 : ∀ (p_41 : Int) (p_42 : Twire_Machine), share_Public.j1 k (share_Public.l1 x1 v_20 k) q_23 q_24 p_41 p_42 = some r21 → ∀ (a : Act) (w : World), St 14 a w κ [(4, vi p_41)] (Twire_Machine.own b_x0 p_42 :: pt b_2 (blk [cp b_x0] 41) :: pt b_3 (blk [cw x1] 32) :: pt b_4 (blk [ci 0, ci 0, ci 0] 28) :: pt b_8 (blk [ci 0, ci 0, ci 0] 28) :: pt b_13 (blk q_23 28) :: S) → KR29 a w := by
   intro p_41 p_42 hm a w hs
   unfold share_Public.j1 at hm
   refine hKR29 _ _ ?_
   refine Vk.ret1 (P := Try.prog) (fn := Try.f133) (vi p_41) hs rfl (by kernel_rfl) ⟨_, _, _, rfl, hs.own, fun a hs => ?_⟩
   refine qpu 1 hs fun a hs => ?_
   obtain ⟨h_43, hm⟩ := ite_t hm
   refine Vk.step (Vk.value (some 18) (.pointer (some ⟨b_13, 0 + q_24.toNat * 1, none⟩)) hs (by kernel_rfl) (op := (.indexAddr 26 (.tmp 17) (.tmp 13))) (by kernel_rfl) (fun o ho => run_idxArr (k := .i64) ho (by kernel_rfl) (by kernel_rfl) (by kernel_rfl) h_43 _) fun a hs => ?_)
   obtain ⟨h_44, hm⟩ := ite_t hm
   refine Vk.step (Vk.store1 (b := b_13) (ty := 3) (x := (.tmp 18)) (y := (.tmp 16)) (off := 0 + q_24.toNat * 1) (ci p_41) 5 hs (by kernel_rfl) (by kernel_rfl) (by kernel_rfl) (by kernel_rfl) (by kernel_rfl) (by kernel_rfl) rfl h_44 fun a w hs => ?_)
   refine qpk 0 [1, 4, 5, 9, 10] hs fun a hs => hK27 _ _ ?_
   clear hK27
   refine Vk.region ?_
   refine qpk 2 [1, 4, 5, 9, 10] hs fun a hs => ?_
   refine ih (p_42, (q_23.set (0 + q_24.toNat * 1) (ci p_41)), (IntKind.i64.wrap (q_24 + 1))) _ _ ⟨hm, hs.go [1, 4, 5, 9, 10] [1, 0, 2, 4, 5, 3] 6 (by kernel_rfl) (by kernel_rfl) (by kernel_rfl)⟩
  refine qsk 1 [0, 1, 2] hs fun a hs => ?_
  refine Vk.seq fun K31 hK31 => ?_
  refine qse 2 [(0, vi q_24), (1, pp b_2), (2, pp b_3), (6, .bool (decide (q_24 > 0)))] hs fun a hs => ?_
  refine qcs (decide (q_24 > 0)) hs (fun hb => ?_) fun hb => ?_
  ·replace hm := bif_t hm hb
   refine qsr fun K33 hK33 => ?_
   refine qld 0 (cp b_x0) hs rfl fun a hs => ?_
   refine qpu 1 hs fun a hs => ?_
   obtain ⟨v_36, h_35, hm⟩ := bind_t hm
   refine qcl (wire_Machine_Const.ok _ _ _ _ _ h_35 _ _ _ b_x0 hs.own.f1) hs fun w a hs => ?_
   refine qpe 1 [(4, vi v_36.1)] hs fun a hs => hK33 _ _ ?_
   clear hK33
   refine wp_ret ?_
   refine hKP29 _ _ ?_
   exact hj29 v_36.1 v_36.2 hm _ _ (hs.go [4] [0, 1, 2, 5, 3, 4] 6 (by kernel_rfl) (by kernel_rfl) (by kernel_rfl))
  ·replace hm := bif_f hm hb
   refine wp_skip ?_
   refine hK31 _ _ ?_
   clear hK31
   refine qsr fun K37 hK37 => ?_
   refine qld 0 (cp b_x0) hs rfl fun a hs => ?_
   refine qpu 1 hs fun a hs => ?_
   refine qld 2 (cw x1) hs rfl fun a hs => ?_
   obtain ⟨v_40, h_39, hm⟩ := bind_t hm
   refine qcl (wire_Machine_Const.ok _ _ _ _ _ h_39 _ _ _ b_x0 hs.own.f1) hs fun w a hs => ?_
   refine qpe 1 [(4, vi v_40.1)] hs fun a hs => hK37 _ _ ?_
   clear hK37
   refine wp_ret ?_
   refine hKP29 _ _ ?_
   exact hj29 v_40.1 v_40.2 hm _ _ (hs.go [4] [0, 1, 2, 5, 3, 4] 6 (by kernel_rfl) (by kernel_rfl) (by kernel_rfl))
 ·replace hm := bif_f hm hb
  refine wp_exit ?_
  exact hx21 q_23 q_22 (Option.some.inj hm).symm _ _ (hs.go [4, 5] [3, 4, 1, 0, 2, 5] 6 (by kernel_rfl) (by kernel_rfl) (by kernel_rfl))


abbrev wire_Machine_Begin.R (κ : Ctx) (S : List HP) (x0 : Twire_Machine) (x1 : Int) (b_x0 : Nat) (r : Twire_Machine) : Ending → World → Prop := fun e w' => e = .returned (.tuple #[]) ∧ Own κ w' (Twire_Machine.own b_x0 r :: S)
def wire_Machine_Begin.m (k : Nat) (x0 : Twire_Machine) (x1 : Int) : Option Twire_Machine := (bif x0.bad != 0 then some x0 else (bif ((x0.openF != 0) || (decide (x1 < 1))) || (decide (x1 > 3)) then (wire_Machine_fail.m k x0 1).bind fun v_13 => some v_13.2 else (wire_Machine_Len.m k x0).bind fun v_16 => some (⟨x0.n, x0.most, x0.base, x0.words, x0.draws, x0.dry, x1, v_16, x0.bad, x0.tape, x0.ops, x0.values, x0.blocks⟩ : Twire_Machine)))

set_option maxRecDepth 100000 in
set_option maxHeartbeats 4000000 in
theorem wire_Machine_Begin.ok (k : Nat) (x0 : Twire_Machine) (x1 : Int) (r : Twire_Machine) (hm : wire_Machine_Begin.m k x0 x1 = some r) (κ : Ctx) (w : World) (S : List HP) (b_x0 : Nat) (ho : Own κ w (Twire_Machine.own b_x0 x0 :: S)) :
  Calls Try.prog 90 #[pp b_x0, vi x1] w (wire_Machine_Begin.R κ S x0 x1 b_x0 r) := by
 unfold wire_Machine_Begin.m at hm
 generalize hRR : wire_Machine_Begin.R κ S x0 x1 b_x0 r = RR
 refine qen [(0, pp b_x0), (1, vi x1)] Try.func90 Try.ntmps90 ho fun a hs => ?_
 refine Vk.seq fun K1 hK1 => ?_
 refine wp_block ?_
 refine qsr fun K2 hK2 => ?_
 refine qpu 6 hs fun a hs => ?_
 obtain ⟨g_3, hs⟩ := hs.unbag 0 rfl
 refine qld 0 (ci x0.bad) hs rfl fun a hs => ?_
 refine qpe 3 [(0, pp b_x0), (1, vi x1), (4, .bool (x0.bad != 0))] hs fun a hs => hK2 _ _ ?_
 clear hK2
 refine qcs (x0.bad != 0) hs (fun hb => ?_) fun hb => ?_
 ·replace hm := bif_t hm hb
  refine wp_ret ?_
  replace hs := hs.bagG (l := Twire_Machine.parts b_x0 x0 g_3) (S' := S) hs.own
  replace hs := hs.toEx (Twire_Machine.parts b_x0 x0) g_3 0 rfl
  exact qr0 hs rfl hRR (by cases hm; exact ⟨rfl, hs.own⟩)
 ·replace hm := bif_f hm hb
  refine qsr fun K7 hK7 => ?_
  refine qpu 3 hs fun a hs => ?_
  refine qld 0 (ci x0.openF) hs rfl fun a hs => ?_
  refine qpu 2 hs fun a hs => ?_
  suffices hj_8 : ∀ a, St 39 a w κ [(0, pp b_x0), (1, vi x1), (4, .bool (x0.bad != 0)), (15, pp b_x0), (16, pp b_x0), (17, .pointer (some ⟨b_x0, 6, none⟩)), (18, vi x0.openF), (19, .bool (x0.openF != 0)), (20, .bool (x0.openF != 0)), (23, .bool ((x0.openF != 0) || (decide (x1 < 1))))] (pt b_x0 (blk (Twire_Machine.obj x0 g_3.1 g_3.2.1 g_3.2.2.1 g_3.2.2.2.1 g_3.2.2.2.2.1 g_3.2.2.2.2.2.1 g_3.2.2.2.2.2.2) 139) :: opto x0.dry (Ttape_Tape.own g_3.1 x0.tape) :: rowp g_3.2.1 g_3.2.2.1 93 6 Tapi_Op.cells x0.ops :: rowp g_3.2.2.2.1 g_3.2.2.2.2.1 32 1 (eI .u64) x0.values :: rowp g_3.2.2.2.2.2.1 g_3.2.2.2.2.2.2 175 3 Tapi_Span.cells x0.blocks :: S) → wpFrom Try.prog _ _ 9 a w by
   rcases Bool.eq_false_or_eq_true (x0.openF != 0) with hb | hb
   ·replace hs := hs.known (t := 20) hb (by kernel_rfl)
    refine qpu 3 hs fun a hs => ?_
    have hq := hs.pick [0, 1, 4, 15, 16, 17, 18, 19, 20, 23] (L' := [(0, pp b_x0), (1, vi x1), (4, .bool (x0.bad != 0)), (15, pp b_x0), (16, pp b_x0), (17, .pointer (some ⟨b_x0, 6, none⟩)), (18, vi x0.openF), (19, .bool (x0.openF != 0)), (20, .bool true), (23, .bool true)]) (by kernel_rfl)
    exact hj_8 _ (hq.conv (by first | (rw [hb] <;> rfl) | rfl))
   ·replace hs := hs.known (t := 20) hb (by kernel_rfl)
    refine qpu 3 hs fun a hs => ?_
    have hq := hs.pick [0, 1, 4, 15, 16, 17, 18, 19, 20, 23] (L' := [(0, pp b_x0), (1, vi x1), (4, .bool (x0.bad != 0)), (15, pp b_x0), (16, pp b_x0), (17, .pointer (some ⟨b_x0, 6, none⟩)), (18, vi x0.openF), (19, .bool (x0.openF != 0)), (20, .bool false), (23, .bool (decide (x1 < 1)))]) (by kernel_rfl)
    exact hj_8 _ (hq.conv (by first | (rw [hb] <;> rfl) | rfl))
  intro a hs
  refine qpu 1 hs fun a hs => ?_
  suffices hj_9 : ∀ a, St 39 a w κ [(0, pp b_x0), (1, vi x1), (4, .bool (x0.bad != 0)), (15, pp b_x0), (16, pp b_x0), (17, .pointer (some ⟨b_x0, 6, none⟩)), (18, vi x0.openF), (19, .bool (x0.openF != 0)), (20, .bool (x0.openF != 0)), (23, .bool ((x0.openF != 0) || (decide (x1 < 1)))), (24, .bool ((x0.openF != 0) || (decide (x1 < 1)))), (27, .bool (((x0.openF != 0) || (decide (x1 < 1))) || (decide (x1 > 3))))] (pt b_x0 (blk (Twire_Machine.obj x0 g_3.1 g_3.2.1 g_3.2.2.1 g_3.2.2.2.1 g_3.2.2.2.2.1 g_3.2.2.2.2.2.1 g_3.2.2.2.2.2.2) 139) :: opto x0.dry (Ttape_Tape.own g_3.1 x0.tape) :: rowp g_3.2.1 g_3.2.2.1 93 6 Tapi_Op.cells x0.ops :: rowp g_3.2.2.2.1 g_3.2.2.2.2.1 32 1 (eI .u64) x0.values :: rowp g_3.2.2.2.2.2.1 g_3.2.2.2.2.2.2 175 3 Tapi_Span.cells x0.blocks :: S) → wpFrom Try.prog _ _ 13 a w by
   rcases Bool.eq_false_or_eq_true ((x0.openF != 0) || (decide (x1 < 1))) with hb | hb
   ·replace hs := hs.known (t := 24) hb (by kernel_rfl)
    refine qpu 3 hs fun a hs => ?_
    have hq := hs.pick [0, 1, 4, 15, 16, 17, 18, 19, 20, 23, 24, 27] (L' := [(0, pp b_x0), (1, vi x1), (4, .bool (x0.bad != 0)), (15, pp b_x0), (16, pp b_x0), (17, .pointer (some ⟨b_x0, 6, none⟩)), (18, vi x0.openF), (19, .bool (x0.openF != 0)), (20, .bool (x0.openF != 0)), (23, .bool ((x0.openF != 0) || (decide (x1 < 1)))), (24, .bool true), (27, .bool true)]) (by kernel_rfl)
    exact hj_9 _ (hq.conv (by first | (rw [hb] <;> rfl) | rfl))
   ·replace hs := hs.known (t := 24) hb (by kernel_rfl)
    refine qpu 3 hs fun a hs => ?_
    have hq := hs.pick [0, 1, 4, 15, 16, 17, 18, 19, 20, 23, 24, 27] (L' := [(0, pp b_x0), (1, vi x1), (4, .bool (x0.bad != 0)), (15, pp b_x0), (16, pp b_x0), (17, .pointer (some ⟨b_x0, 6, none⟩)), (18, vi x0.openF), (19, .bool (x0.openF != 0)), (20, .bool (x0.openF != 0)), (23, .bool ((x0.openF != 0) || (decide (x1 < 1)))), (24, .bool false), (27, .bool (decide (x1 > 3)))]) (by kernel_rfl)
    exact hj_9 _ (hq.conv (by first | (rw [hb] <;> rfl) | rfl))
  intro a hs
  refine qpk 1 [0, 1, 14] hs fun a hs => hK7 _ _ ?_
  clear hK7
  refine qcs (((x0.openF != 0) || (decide (x1 < 1))) || (decide (x1 > 3))) hs (fun hb => ?_) fun hb => ?_
  ·replace hm := bif_t hm hb
   refine qsr fun K10 hK10 => ?_
   refine qpu 1 hs fun a hs => ?_
   replace hs := hs.bagG (l := Twire_Machine.parts b_x0 x0 g_3) (S' := S) hs.own
   replace hs := hs.toEx (Twire_Machine.parts b_x0 x0) g_3 0 rfl
   obtain ⟨v_13, h_12, hm⟩ := bind_t hm
   refine qcl (wire_Machine_fail.ok _ _ _ _ h_12 _ _ _ b_x0 hs.own) hs fun w a hs => ?_
   refine qpe 0 [] hs fun a hs => hK10 _ _ ?_
   clear hK10
   refine wp_ret ?_
   exact qr0 hs rfl hRR (by cases hm; exact ⟨rfl, hs.own⟩)
  ·replace hm := bif_f hm hb
   refine wp_skip ?_
   refine hK1 _ _ ?_
   clear hK1
   refine Vk.region ?_
   refine qpu 4 hs fun a hs => ?_
   replace hs := hs.bagG (l := Twire_Machine.parts b_x0 x0 g_3) (S' := S) hs.own
   obtain ⟨v_16, h_15, hm⟩ := bind_t hm
   refine qcl (wire_Machine_Len.ok _ _ _ h_15 _ _ _ b_x0 g_3 hs.own) hs fun w a hs => ?_
   replace hs := hs.unbagAt 0 rfl
   refine qpu 2 hs fun a hs => ?_
   refine qst 0 6 (ci x1) hs rfl fun a w hs => ?_
   refine qpu 2 hs fun a hs => ?_
   refine qst 0 7 (ci v_16) hs rfl fun a w hs => ?_
   refine qpe 0 [] hs fun a hs => ?_
   replace hs := hs.bagG (l := Twire_Machine.parts b_x0 (⟨x0.n, x0.most, x0.base, x0.words, x0.draws, x0.dry, x1, v_16, x0.bad, x0.tape, x0.ops, x0.values, x0.blocks⟩ : Twire_Machine) g_3) (S' := S) hs.own
   replace hs := hs.toEx (Twire_Machine.parts b_x0 (⟨x0.n, x0.most, x0.base, x0.words, x0.draws, x0.dry, x1, v_16, x0.bad, x0.tape, x0.ops, x0.values, x0.blocks⟩ : Twire_Machine)) g_3 0 rfl
   exact qe0 hs rfl hRR (by cases hm; exact ⟨rfl, hs.own⟩)


abbrev wire_Machine_Rand.R (κ : Ctx) (S : List HP) (x0 : Twire_Machine) (x1 : Int) (b_x0 : Nat) (r : (Int × Twire_Machine)) : Ending → World → Prop := fun e w' => e = .returned (vi r.1) ∧ Own κ w' (Twire_Machine.own b_x0 r.2 :: S)
def wire_Machine_Rand.m (k : Nat) (x0 : Twire_Machine) (x1 : Int) : Option (Int × Twire_Machine) := (wire_Machine_Do.m k x0 (⟨1, x1, (-1), (-1), (-1), 0⟩ : Tapi_Op) 0).bind fun v_5 => some (v_5.1, v_5.2)

set_option maxRecDepth 100000 in
set_option maxHeartbeats 4000000 in
theorem wire_Machine_Rand.ok (k : Nat) (x0 : Twire_Machine) (x1 : Int) (r : (Int × Twire_Machine)) (hm : wire_Machine_Rand.m k x0 x1 = some r) (κ : Ctx) (w : World) (S : List HP) (b_x0 : Nat) (ho : Own κ w (Twire_Machine.own b_x0 x0 :: S)) :
  Calls Try.prog 120 #[pp b_x0, vi x1] w (wire_Machine_Rand.R κ S x0 x1 b_x0 r) := by
 unfold wire_Machine_Rand.m at hm
 generalize hRR : wire_Machine_Rand.R κ S x0 x1 b_x0 r = RR
 refine qen [(0, pp b_x0), (1, vi x1)] Try.func120 Try.ntmps120 ho fun a hs => ?_
 refine qse 1 [(0, pp b_x0), (1, vi x1)] hs fun a hs => ?_
 refine qsr fun K2 hK2 => ?_
 refine qpu 3 hs fun a hs => ?_
 obtain ⟨v_5, h_4, hm⟩ := bind_t hm
 refine qcl (wire_Machine_Do.ok _ _ _ _ _ h_4 _ _ _ b_x0 hs.own) hs fun w a hs => ?_
 refine qpe 1 [(4, vi v_5.1)] hs fun a hs => hK2 _ _ ?_
 clear hK2
 refine wp_ret ?_
 exact qr1 (vi v_5.1) hs rfl hRR (by cases hm; exact ⟨rfl, hs.own⟩)


abbrev wire_Machine_Two.R (κ : Ctx) (S : List HP) (x0 : Twire_Machine) (x1 : Int) (x2 : Int) (x3 : Int) (x4 : Int) (b_x0 : Nat) (r : (Int × Twire_Machine)) : Ending → World → Prop := fun e w' => e = .returned (vi r.1) ∧ Own κ w' (Twire_Machine.own b_x0 r.2 :: S)
def wire_Machine_Two.m (k : Nat) (x0 : Twire_Machine) (x1 : Int) (x2 : Int) (x3 : Int) (x4 : Int) : Option (Int × Twire_Machine) := (wire_Machine_Do.m k x0 (⟨x1, x2, x3, x4, (-1), 0⟩ : Tapi_Op) 0).bind fun v_5 => some (v_5.1, v_5.2)

set_option maxRecDepth 100000 in
set_option maxHeartbeats 4000000 in
theorem wire_Machine_Two.ok (k : Nat) (x0 : Twire_Machine) (x1 : Int) (x2 : Int) (x3 : Int) (x4 : Int) (r : (Int × Twire_Machine)) (hm : wire_Machine_Two.m k x0 x1 x2 x3 x4 = some r) (κ : Ctx) (w : World) (S : List HP) (b_x0 : Nat) (ho : Own κ w (Twire_Machine.own b_x0 x0 :: S)) :
  Calls Try.prog 150 #[pp b_x0, vi x1, vi x2, vi x3, vi x4] w (wire_Machine_Two.R κ S x0 x1 x2 x3 x4 b_x0 r) := by
 unfold wire_Machine_Two.m at hm
 generalize hRR : wire_Machine_Two.R κ S x0 x1 x2 x3 x4 b_x0 r = RR
 refine qen [(0, pp b_x0), (1, vi x1), (2, vi x2), (3, vi x3), (4, vi x4)] Try.func150 Try.ntmps150 ho fun a hs => ?_
 refine qsk 1 [0, 1, 2, 3, 4] hs fun a hs => ?_
 refine qsr fun K2 hK2 => ?_
 refine qpu 6 hs fun a hs => ?_
 obtain ⟨v_5, h_4, hm⟩ := bind_t hm
 refine qcl (wire_Machine_Do.ok _ _ _ _ _ h_4 _ _ _ b_x0 hs.own) hs fun w a hs => ?_
 refine qpe 1 [(10, vi v_5.1)] hs fun a hs => hK2 _ _ ?_
 clear hK2
 refine wp_ret ?_
 exact qr1 (vi v_5.1) hs rfl hRR (by cases hm; exact ⟨rfl, hs.own⟩)


def wire_Machine_End.j2 (k : Nat) (p_32 : Twire_Machine) : Option (Twire_Machine) := some (⟨p_32.n, p_32.most, p_32.base, p_32.words, p_32.draws, p_32.dry, 0, p_32.fromF, p_32.bad, p_32.tape, p_32.ops, p_32.values, p_32.blocks⟩ : Twire_Machine)
def wire_Machine_End.j1 (k : Nat) (x0 : Twire_Machine) (p_18 : Bool) : Option (Twire_Machine) := (bif p_18 then (wire_Machine_Len.m k x0).bind fun v_26 => (if (x0.blocks.length + ([(⟨x0.openF, x0.fromF, v_26⟩ : Tapi_Span)] : List Tapi_Span).length) * 24 ≤ 140737488355328 then wire_Machine_End.j2 k (⟨x0.n, x0.most, x0.base, x0.words, x0.draws, x0.dry, x0.openF, x0.fromF, x0.bad, x0.tape, x0.ops, x0.values, x0.blocks ++ ([(⟨x0.openF, x0.fromF, v_26⟩ : Tapi_Span)] : List Tapi_Span)⟩ : Twire_Machine) else none) else wire_Machine_End.j2 k x0)
abbrev wire_Machine_End.R (κ : Ctx) (S : List HP) (x0 : Twire_Machine) (b_x0 : Nat) (r : Twire_Machine) : Ending → World → Prop := fun e w' => e = .returned (.tuple #[]) ∧ Own κ w' (Twire_Machine.own b_x0 r :: S)
def wire_Machine_End.m (k : Nat) (x0 : Twire_Machine) : Option Twire_Machine := (bif x0.bad != 0 then some x0 else (bif x0.openF == 0 then (wire_Machine_fail.m k x0 1).bind fun v_11 => some v_11.2 else (wire_Machine_Len.m k x0).bind fun v_17 => (bif decide (v_17 > x0.fromF) then wire_Machine_End.j1 k x0 (!x0.dry) else wire_Machine_End.j1 k x0 false)))

set_option maxRecDepth 100000 in
set_option maxHeartbeats 4000000 in
theorem wire_Machine_End.ok (k : Nat) (x0 : Twire_Machine) (r : Twire_Machine) (hm : wire_Machine_End.m k x0 = some r) (κ : Ctx) (w : World) (S : List HP) (b_x0 : Nat) (ho : Own κ w (Twire_Machine.own b_x0 x0 :: S)) :
  Calls Try.prog 94 #[pp b_x0] w (wire_Machine_End.R κ S x0 b_x0 r) := by
 unfold wire_Machine_End.m at hm
 generalize hRR : wire_Machine_End.R κ S x0 b_x0 r = RR
 refine qen [(0, pp b_x0)] Try.func94 Try.ntmps94 ho fun a hs => ?_
 refine Vk.seq fun K1 hK1 => ?_
 refine wp_block ?_
 refine qsr fun K2 hK2 => ?_
 refine qpu 6 hs fun a hs => ?_
 obtain ⟨g_3, hs⟩ := hs.unbag 0 rfl
 refine qld 0 (ci x0.bad) hs rfl fun a hs => ?_
 refine qpk 3 [0, 2] hs fun a hs => hK2 _ _ ?_
 clear hK2
 refine qcs (x0.bad != 0) hs (fun hb => ?_) fun hb => ?_
 ·replace hm := bif_t hm hb
  refine wp_ret ?_
  replace hs := hs.bagG (l := Twire_Machine.parts b_x0 x0 g_3) (S' := S) hs.own
  replace hs := hs.toEx (Twire_Machine.parts b_x0 x0) g_3 0 rfl
  exact qr0 hs rfl hRR (by cases hm; exact ⟨rfl, hs.own⟩)
 ·replace hm := bif_f hm hb
  refine qsr fun K7 hK7 => ?_
  refine qpu 3 hs fun a hs => ?_
  refine qld 0 (ci x0.openF) hs rfl fun a hs => ?_
  refine qpk 2 [0, 12] hs fun a hs => hK7 _ _ ?_
  clear hK7
  refine qcs (x0.openF == 0) hs (fun hb => ?_) fun hb => ?_
  ·replace hm := bif_t hm hb
   refine qsr fun K8 hK8 => ?_
   refine qpu 1 hs fun a hs => ?_
   replace hs := hs.bagG (l := Twire_Machine.parts b_x0 x0 g_3) (S' := S) hs.own
   replace hs := hs.toEx (Twire_Machine.parts b_x0 x0) g_3 0 rfl
   obtain ⟨v_11, h_10, hm⟩ := bind_t hm
   refine qcl (wire_Machine_fail.ok _ _ _ _ h_10 _ _ _ b_x0 hs.own) hs fun w a hs => ?_
   refine qpe 0 [] hs fun a hs => hK8 _ _ ?_
   clear hK8
   refine wp_ret ?_
   exact qr0 hs rfl hRR (by cases hm; exact ⟨rfl, hs.own⟩)
  ·replace hm := bif_f hm hb
   refine wp_skip ?_
   refine hK1 _ _ ?_
   clear hK1
   refine Vk.seq fun K12 hK12 => ?_
   have hj12 : ∀ (p_32 : Twire_Machine), wire_Machine_End.j2 k p_32 = some r → ∀ (a : Act) (w : World), St 57 a w κ [(0, pp b_x0)] (Twire_Machine.own b_x0 p_32 :: S) → K12 a w := by
    intro p_32 hm a w hs
    unfold wire_Machine_End.j2 at hm
    refine hK12 _ _ ?_
    refine Vk.region ?_
    refine qpu 3 hs fun a hs => ?_
    obtain ⟨g_33, hs⟩ := hs.unbag 0 rfl
    refine qst 0 6 (ci 0) hs rfl fun a w hs => ?_
    refine qpe 0 [] hs fun a hs => ?_
    replace hs := hs.bagG (l := Twire_Machine.parts b_x0 (⟨p_32.n, p_32.most, p_32.base, p_32.words, p_32.draws, p_32.dry, 0, p_32.fromF, p_32.bad, p_32.tape, p_32.ops, p_32.values, p_32.blocks⟩ : Twire_Machine) g_33) (S' := S) hs.own
    replace hs := hs.toEx (Twire_Machine.parts b_x0 (⟨p_32.n, p_32.most, p_32.base, p_32.words, p_32.draws, p_32.dry, 0, p_32.fromF, p_32.bad, p_32.tape, p_32.ops, p_32.values, p_32.blocks⟩ : Twire_Machine)) g_33 0 rfl
    exact qe0 hs rfl hRR (by cases hm; exact ⟨rfl, hs.own⟩)
   refine Vk.seq fun K13 hK13 => ?_
   have hj13 : ∀ (p_18 : Bool), wire_Machine_End.j1 k x0 p_18 = some r → ∀ (a : Act) (w : World), St 57 a w κ [(0, pp b_x0), (33, .bool p_18)] (Twire_Machine.own b_x0 x0 :: S) → K13 a w := by
    intro p_18 hm a w hs
    unfold wire_Machine_End.j1 at hm
    refine hK13 _ _ ?_
    refine qcs (p_18) hs (fun hb => ?_) fun hb => ?_
    ·replace hm := bif_t hm hb
     obtain ⟨g_19, hs⟩ := hs.unbag 0 rfl
     obtain ⟨C_23, hC_23⟩ := qC hs.own.f4.drop
     refine qdr 18 κ C_23 hs fun w hs hqC_23 => ?_
     have hcl := qO hC_23 hs.own.f4.drop
     refine qdp (fuel := 10) [0, 1, 2, 3, 5, 6, 7, 9, 10, 11, 13] hs hcl hqC_23 fun a hs => ?_
     refine qdl 4 0 (C.slc g_19.2.2.2.2.2.1 x0.blocks.length g_19.2.2.2.2.2.2) hs hcl hqC_23 hC_23 rfl fun a hs => ?_
     refine qdl 8 0 (ci x0.openF) hs hcl hqC_23 hC_23 rfl fun a hs => ?_
     refine qdl 12 0 (ci x0.fromF) hs hcl hqC_23 hC_23 rfl fun a hs => ?_
     replace hs := hs.bagG (l := Twire_Machine.parts b_x0 x0 g_19) (S' := S) hs.own
     obtain ⟨v_26, h_25, hm⟩ := bind_t hm
     refine qdc 14 (wire_Machine_Len.ok _ _ _ h_25 _ _ _ b_x0 g_19 hs.own) hs fun w a hs => ?_
     replace hs := hs.unbagAt 0 rfl
     replace hcl := qO hC_23 hs.own.f4.drop
     refine ⟨fun _ => hcl, ?_⟩
     refine qdp (fuel := 5) [15] hs hcl hqC_23 fun a hs => ?_
     refine Vk.dOnly (i := 16) (by kernel_rfl) (Vk.buildOp (sz := 3) (by_ := 24) (t := 60) (e := 175) (parts := #[(0, (.tmp 49))]) (zs := vals [ci 0, ci 0, ci 0]) ([(⟨x0.openF, x0.fromF, v_26⟩ : Tapi_Span)] : List Tapi_Span) Tapi_Span.cells (some 50) hs (by kernel_rfl) (by kernel_rfl) (by kernel_rfl) (by kernel_rfl) (by decide) rfl (fun x _ => rfl) (Nat.le_of_ble_eq_true (by kernel_rfl)) (by kernel_rfl) fun A_27 w a hs => ?_)
     replace hcl := qO hC_23 hs.own.f5.drop.drop
     refine ⟨fun _ => hcl, ?_⟩
     obtain ⟨h_29, hm⟩ := ite_t hm
     refine Vk.dOnly (i := 17) (by kernel_rfl) (Vk.appendOp (x := (.tmp 38)) (y := (.tmp 50)) (e := 175) (t := 60) (by_ := 24) (sz := 3) (enc := Tapi_Span.cells) (A := g_19.2.2.2.2.2.1) (cap := g_19.2.2.2.2.2.2) (xs := x0.blocks) (ys := ([(⟨x0.openF, x0.fromF, v_26⟩ : Tapi_Span)] : List Tapi_Span)) (B := A_27) (c2 := 1) 5 (some 51) hs (by kernel_rfl) (by kernel_rfl) (by kernel_rfl) (by kernel_rfl) rfl (Sl.lift (fun w ho => (Own.to (S' := rowp A_27 1 175 3 Tapi_Span.cells ([(⟨x0.openF, x0.fromF, v_26⟩ : Tapi_Span)] : List Tapi_Span) :: S) ho [0] 6 (by kernel_rfl) (by kernel_rfl))) (Own.rowSl 0 (Own.to (S' := rowp A_27 1 175 3 Tapi_Span.cells ([(⟨x0.openF, x0.fromF, v_26⟩ : Tapi_Span)] : List Tapi_Span) :: S) hs.own [0] 6 (by kernel_rfl) (by kernel_rfl)) rfl)) (by kernel_rfl) (by kernel_rfl) (by decide) (by decide) h_29 fun A_30 c_31 w a hs => ?_)
     replace hcl := qO hC_23 hs.own.f5.drop.drop
     refine ⟨fun _ => hcl, ?_⟩
     refine Vk.dOnly (i := 18) (by kernel_rfl) (Vk.dPure1 [(52, pp b_x0)] hs (by kernel_rfl) fun a hs => ?_)
     refine ⟨fun h => absurd h (by decide), ?_⟩
     refine Vk.dOnly (i := 19) (by kernel_rfl) (Vk.dPure1 [(53, .pointer (some ⟨b_x0, 12, none⟩))] hs (by kernel_rfl) fun a hs => ?_)
     refine ⟨fun h => absurd h (by decide), ?_⟩
     refine Vk.dOnly (i := 20) (by kernel_rfl) (Vk.store1 (b := b_x0) (ty := 60) (x := (.tmp 53)) (y := (.tmp 51)) (off := 12) (C.slc A_30 ((x0.blocks ++ ([(⟨x0.openF, x0.fromF, v_26⟩ : Tapi_Span)] : List Tapi_Span)).length) c_31) 1 hs (by kernel_rfl) (by kernel_rfl) (by kernel_rfl) (by kernel_rfl) (by kernel_rfl) (by kernel_rfl) rfl (Nat.le_of_ble_eq_true (by kernel_rfl)) fun a w hs => ?_)
     refine ⟨fun h => absurd h (by decide), ?_⟩
     replace hs := hs.pick [0] (L' := [(0, pp b_x0)]) (by kernel_rfl)
     refine Vk.dDone (by kernel_rfl) ?_
     replace hs := hs.bagG (l := Twire_Machine.parts b_x0 (⟨x0.n, x0.most, x0.base, x0.words, x0.draws, x0.dry, x0.openF, x0.fromF, x0.bad, x0.tape, x0.ops, x0.values, x0.blocks ++ ([(⟨x0.openF, x0.fromF, v_26⟩ : Tapi_Span)] : List Tapi_Span)⟩ : Twire_Machine) (g_19.1, g_19.2.1, g_19.2.2.1, g_19.2.2.2.1, g_19.2.2.2.2.1, A_30, c_31)) (S' := rowp A_27 1 175 3 Tapi_Span.cells ([(⟨x0.openF, x0.fromF, v_26⟩ : Tapi_Span)] : List Tapi_Span) :: S) hs.own.f5.f5.f5.f5.f5
     replace hs := hs.toEx (Twire_Machine.parts b_x0 (⟨x0.n, x0.most, x0.base, x0.words, x0.draws, x0.dry, x0.openF, x0.fromF, x0.bad, x0.tape, x0.ops, x0.values, x0.blocks ++ ([(⟨x0.openF, x0.fromF, v_26⟩ : Tapi_Span)] : List Tapi_Span)⟩ : Twire_Machine)) (g_19.1, g_19.2.1, g_19.2.2.1, g_19.2.2.2.1, g_19.2.2.2.2.1, A_30, c_31) 0 rfl
     exact hj12 (⟨x0.n, x0.most, x0.base, x0.words, x0.draws, x0.dry, x0.openF, x0.fromF, x0.bad, x0.tape, x0.ops, x0.values, x0.blocks ++ ([(⟨x0.openF, x0.fromF, v_26⟩ : Tapi_Span)] : List Tapi_Span)⟩ : Twire_Machine) hm _ _ (hs.go [0] [0] 2 (by kernel_rfl) (by kernel_rfl) (by kernel_rfl))
    ·replace hm := bif_f hm hb
     refine wp_skip ?_
     exact hj12 x0 hm _ _ (hs.go [0] [0] 1 (by kernel_rfl) (by kernel_rfl) (by kernel_rfl))
   obtain ⟨C_14, hC_14⟩ := qC hs.own
   refine qdr 14 κ C_14 hs fun w hs hqC_14 => ?_
   have hcl := qO hC_14 hs.own
   refine qdp (fuel := 10) [0, 2, 3, 4] hs hcl hqC_14 fun a hs => ?_
   refine qdl 5 0 (ci x0.fromF) hs hcl hqC_14 hC_14 rfl fun a hs => ?_
   replace hs := hs.bagG (l := Twire_Machine.parts b_x0 x0 g_3) (S' := S) hs.own
   obtain ⟨v_17, h_16, hm⟩ := bind_t hm
   refine qdc 1 (wire_Machine_Len.ok _ _ _ h_16 _ _ _ b_x0 g_3 hs.own) hs fun w a hs => ?_
   replace hs := hs.unbagAt 0 rfl
   replace hcl := qO hC_14 hs.own
   refine ⟨fun _ => hcl, ?_⟩
   refine qdp (fuel := 6) [6, 7] hs hcl hqC_14 fun a hs => ?_
   rcases Bool.eq_false_or_eq_true (decide (v_17 > x0.fromF)) with hb | hb
   ·replace hm := bif_t hm hb
    replace hs := hs.known (t := 27) hb (by kernel_rfl)
    refine qdp (fuel := 3) [8, 9, 10] hs hcl hqC_14 fun a hs => ?_
    refine qdl 11 0 (C.bool x0.dry) hs hcl hqC_14 hC_14 rfl fun a hs => ?_
    refine qdp (fuel := 0) [12, 13] hs hcl hqC_14 fun a hs => ?_
    replace hs := hs.pick [0, 33] (L' := [(0, pp b_x0), (33, .bool (!x0.dry))]) (by kernel_rfl)
    refine Vk.dDone (by kernel_rfl) ?_
    replace hs := hs.bagG (l := Twire_Machine.parts b_x0 x0 g_3) (S' := S) hs.own
    replace hs := hs.toEx (Twire_Machine.parts b_x0 x0) g_3 0 rfl
    exact hj13 (!x0.dry) hm _ _ (hs.go [0, 33] [0] 1 (by kernel_rfl) (by kernel_rfl) (by kernel_rfl))
   ·replace hm := bif_f hm hb
    replace hs := hs.known (t := 27) hb (by kernel_rfl)
    refine qdp (fuel := 0) [8, 9, 10, 11, 12, 13] hs hcl hqC_14 fun a hs => ?_
    replace hs := hs.pick [0, 33] (L' := [(0, pp b_x0), (33, .bool false)]) (by kernel_rfl)
    refine Vk.dDone (by kernel_rfl) ?_
    replace hs := hs.bagG (l := Twire_Machine.parts b_x0 x0 g_3) (S' := S) hs.own
    replace hs := hs.toEx (Twire_Machine.parts b_x0 x0) g_3 0 rfl
    exact hj13 false hm _ _ (hs.go [0, 33] [0] 1 (by kernel_rfl) (by kernel_rfl) (by kernel_rfl))


abbrev times_Dom.R (κ : Ctx) (S : List HP) (x0 : Twire_Machine) (x1 : Cells) (x2 : Cells) (b_x0 : Nat) (r : (Cells × Twire_Machine)) : Ending → World → Prop := fun e w' => e = .returned (.agg (vals r.1)) ∧ Own κ w' (Twire_Machine.own b_x0 r.2 :: S)
def times_Dom.m (k : Nat) (x0 : Twire_Machine) (x1 : Cells) (x2 : Cells) : Option (Cells × Twire_Machine) := (wire_Machine_N.m k x0).bind fun v_10 => (bif v_10 == 2 then (wire_Machine_Begin.m k x0 3).bind fun v_14 => (if x1.length = 3 then (if x2.length = 3 then (wire_Machine_N.m k v_14).bind fun v_29 => (bif v_29 == 2 then (wire_Machine_Rand.m k v_14 (-1)).bind fun v_45 => (getI .i64 x1 (0)).bind fun v_76 => (getI .i64 x2 (0)).bind fun v_78 => (wire_Machine_Two.m k v_45.2 7 0 v_76 v_78).bind fun v_81 => (getI .i64 x1 (0)).bind fun v_89 => (getI .i64 x2 (1)).bind fun v_91 => (wire_Machine_Two.m k v_81.2 7 0 v_89 v_91).bind fun v_94 => (getI .i64 x1 (1)).bind fun v_111 => (getI .i64 x2 (0)).bind fun v_113 => (wire_Machine_Two.m k v_94.2 7 1 v_111 v_113).bind fun v_116 => (getI .i64 x1 (1)).bind fun v_124 => (getI .i64 x2 (1)).bind fun v_126 => (wire_Machine_Two.m k v_116.2 7 1 v_124 v_126).bind fun v_129 => (wire_Machine_N.m k v_129.2).bind fun v_147 => (bif v_147 == 2 then (wire_Machine_Two.m k v_129.2 5 0 v_94.1 v_45.1).bind fun v_179 => (wire_Machine_Two.m k v_179.2 5 0 v_81.1 v_179.1).bind fun v_182 => (wire_Machine_Two.m k v_182.2 5 1 v_116.1 v_45.1).bind fun v_209 => (wire_Machine_Two.m k v_209.2 5 1 v_129.1 v_209.1).bind fun v_212 => (wire_Machine_End.m k v_212.2).bind fun v_230 => some ([ci v_182.1, ci v_212.1, ci (-1)], v_230) else none) else none) else none) else none) else (bif v_10 == 3 then (wire_Machine_Begin.m k x0 3).bind fun v_235 => (if x1.length = 3 then (if x2.length = 3 then (wire_Machine_N.m k v_235).bind fun v_250 => (bif v_250 == 3 then (wire_Machine_Rand.m k v_235 (-1)).bind fun v_266 => (wire_Machine_Rand.m k v_266.2 (-1)).bind fun v_274 => (wire_Machine_Rand.m k v_274.2 (-1)).bind fun v_291 => (getI .i64 x1 (0)).bind fun v_322 => (getI .i64 x2 (0)).bind fun v_324 => (wire_Machine_Two.m k v_291.2 7 0 v_322 v_324).bind fun v_327 => (getI .i64 x1 (0)).bind fun v_335 => (getI .i64 x2 (1)).bind fun v_337 => (wire_Machine_Two.m k v_327.2 7 0 v_335 v_337).bind fun v_340 => (getI .i64 x1 (0)).bind fun v_348 => (getI .i64 x2 (2)).bind fun v_350 => (wire_Machine_Two.m k v_340.2 7 0 v_348 v_350).bind fun v_353 => (getI .i64 x1 (1)).bind fun v_370 => (getI .i64 x2 (0)).bind fun v_372 => (wire_Machine_Two.m k v_353.2 7 1 v_370 v_372).bind fun v_375 => (getI .i64 x1 (1)).bind fun v_383 => (getI .i64 x2 (1)).bind fun v_385 => (wire_Machine_Two.m k v_375.2 7 1 v_383 v_385).bind fun v_388 => (getI .i64 x1 (1)).bind fun v_396 => (getI .i64 x2 (2)).bind fun v_398 => (wire_Machine_Two.m k v_388.2 7 1 v_396 v_398).bind fun v_401 => (getI .i64 x1 (2)).bind fun v_418 => (getI .i64 x2 (0)).bind fun v_420 => (wire_Machine_Two.m k v_401.2 7 2 v_418 v_420).bind fun v_423 => (getI .i64 x1 (2)).bind fun v_431 => (getI .i64 x2 (1)).bind fun v_433 => (wire_Machine_Two.m k v_423.2 7 2 v_431 v_433).bind fun v_436 => (getI .i64 x1 (2)).bind fun v_444 => (getI .i64 x2 (2)).bind fun v_446 => (wire_Machine_Two.m k v_436.2 7 2 v_444 v_446).bind fun v_449 => (wire_Machine_N.m k v_449.2).bind fun v_467 => (bif v_467 == 3 then (wire_Machine_Two.m k v_449.2 5 0 v_340.1 v_266.1).bind fun v_499 => (wire_Machine_Two.m k v_499.2 5 0 v_327.1 v_499.1).bind fun v_502 => (wire_Machine_Two.m k v_502.2 5 0 v_353.1 v_274.1).bind fun v_519 => (wire_Machine_Two.m k v_519.2 5 0 v_502.1 v_519.1).bind fun v_522 => (wire_Machine_Two.m k v_522.2 5 1 v_375.1 v_266.1).bind fun v_549 => (wire_Machine_Two.m k v_549.2 5 1 v_388.1 v_549.1).bind fun v_552 => (wire_Machine_Two.m k v_552.2 5 1 v_401.1 v_291.1).bind fun v_575 => (wire_Machine_Two.m k v_575.2 5 1 v_552.1 v_575.1).bind fun v_578 => (wire_Machine_Two.m k v_578.2 5 2 v_423.1 v_274.1).bind fun v_605 => (wire_Machine_Two.m k v_605.2 5 2 v_449.1 v_605.1).bind fun v_608 => (wire_Machine_Two.m k v_608.2 5 2 v_436.1 v_291.1).bind fun v_625 => (wire_Machine_Two.m k v_625.2 5 2 v_608.1 v_625.1).bind fun v_628 => (wire_Machine_End.m k v_628.2).bind fun v_646 => some ([ci v_522.1, ci v_578.1, ci v_628.1], v_646) else none) else none) else none) else none) else none))

set_option maxRecDepth 100000 in
set_option maxHeartbeats 4000000 in
theorem times_Dom.ok (k : Nat) (x0 : Twire_Machine) (x1 : Cells) (x2 : Cells) (r : (Cells × Twire_Machine)) (hm : times_Dom.m k x0 x1 x2 = some r) (κ : Ctx) (w : World) (S : List HP) (b_x0 : Nat) (ho : Own κ w (Twire_Machine.own b_x0 x0 :: S)) :
  Calls Try.prog 20 #[pp b_x0, .agg (vals x1), .agg (vals x2)] w (times_Dom.R κ S x0 x1 x2 b_x0 r) := by
 unfold times_Dom.m at hm
 generalize hRR : times_Dom.R κ S x0 x1 x2 b_x0 r = RR
 refine qen [(0, pp b_x0), (1, .agg (vals x1)), (2, .agg (vals x2))] Try.func20 Try.ntmps20 ho fun a hs => ?_
 refine qsr fun K1 hK1 => ?_
 refine qbx 1 28 x1 4 hs fun b_2 w a hs => ?_
 refine qbx 2 28 x2 5 hs fun b_3 w a hs => ?_
 refine qal 28 [ci 0, ci 0, ci 0] 6 hs fun b_4 w a hs => ?_
 refine qpe 0 [(0, pp b_x0), (4, pp b_2), (5, pp b_3), (6, pp b_4)] hs fun a hs => hK1 _ _ ?_
 clear hK1
 refine Vk.seq fun K5 hK5 => ?_
 refine qsr fun K6 hK6 => ?_
 refine qpu 1 hs fun a hs => ?_
 obtain ⟨g_7, hs⟩ := hs.unex 3 rfl
 obtain ⟨v_10, h_9, hm⟩ := bind_t hm
 refine qcl (wire_Machine_N.ok _ _ _ h_9 _ _ _ b_x0 g_7 hs.own.f3) hs fun w a hs => ?_
 rcases Bool.eq_false_or_eq_true (v_10 == 2) with hb | hb
 ·replace hm := bif_t hm hb
  obtain rfl := Vk.of_beq hb
  refine qpk 1 [0, 4, 5, 6, 11] hs fun a hs => hK6 _ _ ?_
  refine qcf hs ?_
  refine wp_skip ?_
  refine hK5 _ _ ?_
  refine qsr fun K11 hK11 => ?_
  refine qpu 1 hs fun a hs => ?_
  replace hs := hs.toEx (Twire_Machine.parts b_x0 x0) g_7 0 rfl
  obtain ⟨v_14, h_13, hm⟩ := bind_t hm
  refine qcl (wire_Machine_Begin.ok _ _ _ _ h_13 _ _ _ b_x0 hs.own) hs fun w a hs => ?_
  refine qpk 0 [0, 4, 5, 6] hs fun a hs => hK11 _ _ ?_
  clear hK11
  refine qsr fun K15 hK15 => ?_
  refine qpu 1 hs fun a hs => ?_
  obtain ⟨h_16, hm⟩ := ite_t hm
  refine Vk.step (Vk.value (some 17) (.agg (vals x1)) hs (by kernel_rfl) (op := (.load 28 (.tmp 4))) (by kernel_rfl) (fun o ho => run_loadN (cs := x1) ho (by kernel_rfl) (by kernel_rfl) h_16 (CellsAt.all 3 rfl) _ hs.own) fun a hs => ?_)
  obtain ⟨h_17, hm⟩ := ite_t hm
  refine Vk.step (Vk.value (some 18) (.agg (vals x2)) hs (by kernel_rfl) (op := (.load 28 (.tmp 5))) (by kernel_rfl) (fun o ho => run_loadN (cs := x2) ho (by kernel_rfl) (by kernel_rfl) h_17 (CellsAt.all 2 rfl) _ hs.own) fun a hs => ?_)
  refine Vk.step (Vk.call (some 19) 91 #[pp b_x0, .agg (vals x1), .agg (vals x2)] hs (by kernel_rfl) (by kernel_rfl) (by kernel_rfl) ?_)
  refine Vk.enterI [(0, pp b_x0), (1, .agg (vals x1)), (2, .agg (vals x2))] Try.func91 rfl Try.ntmps91 (by kernel_rfl) (Nat.le_of_ble_eq_true (by kernel_rfl)) hs.own fun KR18 hKR18 hKP18 a hs => ?_
  refine qsr fun K19 hK19 => ?_
  refine qbx 1 28 x1 4 hs fun b_20 w a hs => ?_
  refine qbx 2 28 x2 5 hs fun b_21 w a hs => ?_
  refine qpk 1 [0, 4, 5] hs fun a hs => hK19 _ _ ?_
  clear hK19
  refine qsr fun K22 hK22 => ?_
  refine qpu 1 hs fun a hs => ?_
  refine Vk.step (Vk.mapOp 14 186 hs (by kernel_rfl) (by kernel_rfl) fun b_23 w a hs => ?_)
  refine qpu 1 hs fun a hs => ?_
  refine qbx 15 188 [cp b_x0, C.map (some b_23), ci 0, ci 0, ci 0, ci 0, ci 0, ci 0, ci 0, ci 0, ci 0] 16 hs fun b_24 w a hs => ?_
  refine qpe 1 [(0, pp b_x0), (4, pp b_20), (5, pp b_21), (7, pp b_24)] hs fun a hs => hK22 _ _ ?_
  clear hK22
  refine qsr fun K25 hK25 => ?_
  refine qpu 1 hs fun a hs => ?_
  obtain ⟨g_26, hs⟩ := hs.unex 4 rfl
  obtain ⟨v_29, h_28, hm⟩ := bind_t hm
  refine qcl (wire_Machine_N.ok _ _ _ h_28 _ _ _ b_x0 g_26 hs.own.f4) hs fun w a hs => ?_
  rcases Bool.eq_false_or_eq_true (v_29 == 2) with hb | hb
  ·replace hm := bif_t hm hb
   obtain rfl := Vk.of_beq hb
   refine qpk 1 [0, 4, 5, 7, 8] hs fun a hs => hK25 _ _ ?_
   clear hK25
   refine Vk.seq fun K30 hK30 => ?_
   refine qsk 2 [0, 4, 5, 7, 8, 19, 20] hs fun a hs => ?_
   refine wp_block ?_
   refine Vk.unroll0 40 ?_
   refine Vk.unroll fun KL32 hKL32 => ?_
   refine qsk 1 [0, 4, 5, 7, 8, 19, 20, 21] hs fun a hs => ?_
   refine qck hs ?_
   refine Vk.seq fun K35 hK35 => ?_
   refine wp_block ?_
   refine qsk 2 [0, 4, 5, 7, 8, 9, 19, 20] hs fun a hs => ?_
   refine qsk 3 [0, 4, 5, 7, 8, 9, 10, 19, 20] hs fun a hs => ?_
   refine wp_block ?_
   refine Vk.unroll0 40 ?_
   refine Vk.unroll fun KL38 hKL38 => ?_
   refine Vk.seq fun K39 hK39 => ?_
   refine qse 3 [(0, pp b_x0), (4, pp b_20), (5, pp b_21), (7, pp b_24), (8, vi 2), (9, vi 0), (10, vi 1), (19, vi 2), (20, vi 0), (27, .bool true)] hs fun a hs => ?_
   refine qct hs ?_
   refine wp_skip ?_
   refine hK39 _ _ ?_
   clear hK39
   refine Vk.seq fun K41 hK41 => ?_
   refine wp_block ?_
   obtain ⟨C_42, hC_42⟩ := qC hs.own.drop
   refine qdr 9 κ C_42 hs fun w hs hqC_42 => ?_
   have hcl := qO hC_42 hs.own.drop
   refine qdp (fuel := 3) [0, 1, 2, 4, 5, 6, 7] hs hcl hqC_42 fun a hs => ?_
   refine qdl 3 0 (C.map (some b_23)) hs hcl hqC_42 hC_42 rfl fun a hs => ?_
   replace hs := hs.toEx (Twire_Machine.parts b_x0 v_14) g_26 0 rfl
   obtain ⟨v_45, h_44, hm⟩ := bind_t hm
   refine qdc 8 (wire_Machine_Rand.ok _ _ _ _ h_44 _ _ _ b_x0 hs.own) hs fun w a hs => ?_
   replace hcl := qO hC_42 hs.own.drop
   refine ⟨fun _ => hcl, ?_⟩
   refine Vk.dOnly (i := 9) (by kernel_rfl) (Vk.updateOp (t := 186) (xm := (.tmp 33)) (xk := (.tmp 36)) (xv := (.tmp 38)) (b := b_23) (es' := #[⟨.agg (vals [ci 0, ci 1]), vi v_45.1, 0⟩]) (clock' := 1) (.agg (vals [ci 0, ci 1])) (vi v_45.1) 2 hs (by kernel_rfl) (by kernel_rfl) (by kernel_rfl) (by kernel_rfl) (by kernel_rfl) rfl (by kernel_rfl) fun a w hs => ?_)
   refine ⟨fun h => absurd h (by decide), ?_⟩
   replace hs := hs.pick [0, 4, 5, 7, 8, 9, 10, 19, 20] (L' := [(0, pp b_x0), (4, pp b_20), (5, pp b_21), (7, pp b_24), (8, vi 2), (9, vi 0), (10, vi 1), (19, vi 2), (20, vi 0)]) (by kernel_rfl)
   refine Vk.dDone (by kernel_rfl) ?_
   refine hK41 _ _ ?_
   clear hK41
   refine Vk.region ?_
   refine qpk 3 [0, 4, 5, 7, 8, 9, 10, 19, 20] hs fun a hs => hKL38 _ _ ?_
   clear hKL38
   refine Vk.unroll fun KL46 hKL46 => ?_
   refine Vk.seq fun K47 hK47 => ?_
   refine qsk 3 [0, 4, 5, 7, 8, 9, 10, 19, 20, 27] hs fun a hs => ?_
   refine qcf hs ?_
   refine wp_exit ?_
   refine hK35 _ _ ?_
   clear hK35
   refine Vk.region ?_
   refine qpk 2 [0, 4, 5, 7, 8, 19, 20] hs fun a hs => hKL32 _ _ ?_
   clear hKL32
   refine Vk.unroll fun KL49 hKL49 => ?_
   refine qsk 1 [0, 4, 5, 7, 8, 19, 20, 21] hs fun a hs => ?_
   refine qck hs ?_
   refine Vk.seq fun K52 hK52 => ?_
   refine wp_block ?_
   refine qsk 2 [0, 4, 5, 7, 8, 9, 19, 20] hs fun a hs => ?_
   refine qse 3 [(0, pp b_x0), (4, pp b_20), (5, pp b_21), (7, pp b_24), (8, vi 2), (9, vi 1), (10, vi 2), (19, vi 2), (20, vi 1)] hs fun a hs => ?_
   refine wp_block ?_
   refine Vk.unroll0 40 ?_
   refine Vk.unroll fun KL55 hKL55 => ?_
   refine Vk.seq fun K56 hK56 => ?_
   refine qsk 3 [0, 4, 5, 7, 8, 9, 10, 19, 20, 27] hs fun a hs => ?_
   refine qcf hs ?_
   refine wp_exit ?_
   refine hK52 _ _ ?_
   clear hK52
   refine Vk.region ?_
   refine qpk 2 [0, 4, 5, 7, 8, 19, 20] hs fun a hs => hKL49 _ _ ?_
   clear hKL49
   refine Vk.unroll fun KL58 hKL58 => ?_
   refine qsk 1 [0, 4, 5, 7, 8, 19, 20, 21] hs fun a hs => ?_
   refine Vk.seq fun K60 hK60 => ?_
   refine qcf hs ?_
   refine wp_exit ?_
   refine hK30 _ _ ?_
   clear hK30
   refine Vk.seq fun K61 hK61 => ?_
   refine qsk 2 [0, 4, 5, 7, 8, 40, 41] hs fun a hs => ?_
   refine wp_block ?_
   refine Vk.unroll0 40 ?_
   refine Vk.unroll fun KL63 hKL63 => ?_
   refine qsk 1 [0, 4, 5, 7, 8, 40, 41, 42] hs fun a hs => ?_
   refine qck hs ?_
   refine Vk.seq fun K66 hK66 => ?_
   refine wp_block ?_
   refine qse 2 [(0, pp b_x0), (4, pp b_20), (5, pp b_21), (7, pp b_24), (8, vi 2), (11, vi 0), (40, vi 2), (41, vi 0)] hs fun a hs => ?_
   refine qsk 2 [0, 4, 5, 7, 8, 11, 40, 41, 44, 45] hs fun a hs => ?_
   refine wp_block ?_
   refine Vk.unroll0 40 ?_
   refine Vk.unroll fun KL69 hKL69 => ?_
   refine qsk 1 [0, 4, 5, 7, 8, 11, 40, 41, 44, 45, 46] hs fun a hs => ?_
   refine qck hs ?_
   refine Vk.seq fun K72 hK72 => ?_
   refine wp_block ?_
   refine qsk 2 [0, 4, 5, 7, 8, 11, 12, 40, 41, 44, 45] hs fun a hs => ?_
   obtain ⟨C_74, hC_74⟩ := qC hs.own.drop
   refine qdr 18 κ C_74 hs fun w hs hqC_74 => ?_
   have hcl := qO hC_74 hs.own.drop
   refine qdp (fuel := 5) [0, 1, 2, 3, 4, 5, 6, 7, 9, 10, 11, 14, 15, 16] hs hcl hqC_74 fun a hs => ?_
   obtain ⟨v_76, h_75, hm⟩ := bind_t hm
   refine Vk.dTakeT (i := 8) (some 56) (vi v_76) hs (by kernel_rfl) hqC_74 hcl (by kernel_rfl) (by kernel_rfl) (op := (.load 3 (.tmp 55))) (by kernel_rfl) (by kernel_rfl) (fun w hw o ho => by rw [hC_74] at hw; exact run_load1 (c := ci v_76) ho (by kernel_rfl) (by kernel_rfl) (Cell.own 3 rfl (getI_some h_75)) _ hw) fun a hs => ?_
   obtain ⟨v_78, h_77, hm⟩ := bind_t hm
   refine Vk.dTakeT (i := 12) (some 60) (vi v_78) hs (by kernel_rfl) hqC_74 hcl (by kernel_rfl) (by kernel_rfl) (op := (.load 3 (.tmp 59))) (by kernel_rfl) (by kernel_rfl) (fun w hw o ho => by rw [hC_74] at hw; exact run_load1 (c := ci v_78) ho (by kernel_rfl) (by kernel_rfl) (Cell.own 2 rfl (getI_some h_77)) _ hw) fun a hs => ?_
   obtain ⟨v_81, h_80, hm⟩ := bind_t hm
   refine qdc 13 (wire_Machine_Two.ok _ _ _ _ _ _ _ h_80 _ _ _ b_x0 hs.own) hs fun w a hs => ?_
   replace hcl := qO hC_74 hs.own.drop
   refine ⟨fun _ => hcl, ?_⟩
   refine qdp (fuel := 1) [17] hs hcl hqC_74 fun a hs => ?_
   refine Vk.dOnly (i := 18) (by kernel_rfl) (Vk.store1 (b := b_24) (ty := 3) (x := (.tmp 65)) (y := (.tmp 61)) (off := 2) (ci v_81.1) 1 hs (by kernel_rfl) (by kernel_rfl) (by kernel_rfl) (by kernel_rfl) (by kernel_rfl) (by kernel_rfl) rfl (Nat.le_of_ble_eq_true (by kernel_rfl)) fun a w hs => ?_)
   refine ⟨fun h => absurd h (by decide), ?_⟩
   replace hs := hs.pick [0, 4, 5, 7, 8, 11, 40, 41, 44, 45] (L' := [(0, pp b_x0), (4, pp b_20), (5, pp b_21), (7, pp b_24), (8, vi 2), (11, vi 0), (40, vi 2), (41, vi 0), (44, vi 2), (45, vi 0)]) (by kernel_rfl)
   refine Vk.dDone (by kernel_rfl) ?_
   refine hK72 _ _ ?_
   clear hK72
   refine Vk.region ?_
   refine qpk 2 [0, 4, 5, 7, 8, 11, 40, 41, 44, 45] hs fun a hs => hKL69 _ _ ?_
   clear hKL69
   refine Vk.unroll fun KL82 hKL82 => ?_
   refine qsk 1 [0, 4, 5, 7, 8, 11, 40, 41, 44, 45, 46] hs fun a hs => ?_
   refine qck hs ?_
   refine Vk.seq fun K85 hK85 => ?_
   refine wp_block ?_
   refine qse 2 [(0, pp b_x0), (4, pp b_20), (5, pp b_21), (7, pp b_24), (8, vi 2), (11, vi 0), (12, vi 1), (40, vi 2), (41, vi 0), (44, vi 2), (45, vi 1)] hs fun a hs => ?_
   obtain ⟨C_87, hC_87⟩ := qC hs.own.drop
   refine qdr 18 κ C_87 hs fun w hs hqC_87 => ?_
   have hcl := qO hC_87 hs.own.drop
   refine qdp (fuel := 5) [0, 1, 2, 3, 4, 5, 6, 7, 9, 10, 11, 14, 15, 16] hs hcl hqC_87 fun a hs => ?_
   obtain ⟨v_89, h_88, hm⟩ := bind_t hm
   refine Vk.dTakeT (i := 8) (some 56) (vi v_89) hs (by kernel_rfl) hqC_87 hcl (by kernel_rfl) (by kernel_rfl) (op := (.load 3 (.tmp 55))) (by kernel_rfl) (by kernel_rfl) (fun w hw o ho => by rw [hC_87] at hw; exact run_load1 (c := ci v_89) ho (by kernel_rfl) (by kernel_rfl) (Cell.own 3 rfl (getI_some h_88)) _ hw) fun a hs => ?_
   obtain ⟨v_91, h_90, hm⟩ := bind_t hm
   refine Vk.dTakeT (i := 12) (some 60) (vi v_91) hs (by kernel_rfl) hqC_87 hcl (by kernel_rfl) (by kernel_rfl) (op := (.load 3 (.tmp 59))) (by kernel_rfl) (by kernel_rfl) (fun w hw o ho => by rw [hC_87] at hw; exact run_load1 (c := ci v_91) ho (by kernel_rfl) (by kernel_rfl) (Cell.own 2 rfl (getI_some h_90)) _ hw) fun a hs => ?_
   obtain ⟨v_94, h_93, hm⟩ := bind_t hm
   refine qdc 13 (wire_Machine_Two.ok _ _ _ _ _ _ _ h_93 _ _ _ b_x0 hs.own) hs fun w a hs => ?_
   replace hcl := qO hC_87 hs.own.drop
   refine ⟨fun _ => hcl, ?_⟩
   refine qdp (fuel := 1) [17] hs hcl hqC_87 fun a hs => ?_
   refine Vk.dOnly (i := 18) (by kernel_rfl) (Vk.store1 (b := b_24) (ty := 3) (x := (.tmp 65)) (y := (.tmp 61)) (off := 3) (ci v_94.1) 1 hs (by kernel_rfl) (by kernel_rfl) (by kernel_rfl) (by kernel_rfl) (by kernel_rfl) (by kernel_rfl) rfl (Nat.le_of_ble_eq_true (by kernel_rfl)) fun a w hs => ?_)
   refine ⟨fun h => absurd h (by decide), ?_⟩
   replace hs := hs.pick [0, 4, 5, 7, 8, 11, 40, 41, 44, 45] (L' := [(0, pp b_x0), (4, pp b_20), (5, pp b_21), (7, pp b_24), (8, vi 2), (11, vi 0), (40, vi 2), (41, vi 0), (44, vi 2), (45, vi 1)]) (by kernel_rfl)
   refine Vk.dDone (by kernel_rfl) ?_
   refine hK85 _ _ ?_
   clear hK85
   refine Vk.region ?_
   refine qpk 2 [0, 4, 5, 7, 8, 11, 40, 41, 44, 45] hs fun a hs => hKL82 _ _ ?_
   clear hKL82
   refine Vk.unroll fun KL95 hKL95 => ?_
   refine qsk 1 [0, 4, 5, 7, 8, 11, 40, 41, 44, 45, 46] hs fun a hs => ?_
   refine Vk.seq fun K97 hK97 => ?_
   refine qcf hs ?_
   refine wp_exit ?_
   refine hK66 _ _ ?_
   clear hK66
   refine Vk.region ?_
   refine qpk 2 [0, 4, 5, 7, 8, 40, 41] hs fun a hs => hKL63 _ _ ?_
   clear hKL63
   refine Vk.unroll fun KL98 hKL98 => ?_
   refine qsk 1 [0, 4, 5, 7, 8, 40, 41, 42] hs fun a hs => ?_
   refine qck hs ?_
   refine Vk.seq fun K101 hK101 => ?_
   refine wp_block ?_
   refine qsk 2 [0, 4, 5, 7, 8, 11, 40, 41] hs fun a hs => ?_
   refine qse 2 [(0, pp b_x0), (4, pp b_20), (5, pp b_21), (7, pp b_24), (8, vi 2), (11, vi 1), (40, vi 2), (41, vi 1), (44, vi 2), (45, vi 0)] hs fun a hs => ?_
   refine wp_block ?_
   refine Vk.unroll0 40 ?_
   refine Vk.unroll fun KL104 hKL104 => ?_
   refine qsk 1 [0, 4, 5, 7, 8, 11, 40, 41, 44, 45, 46] hs fun a hs => ?_
   refine qck hs ?_
   refine Vk.seq fun K107 hK107 => ?_
   refine wp_block ?_
   refine qsk 2 [0, 4, 5, 7, 8, 11, 12, 40, 41, 44, 45] hs fun a hs => ?_
   obtain ⟨C_109, hC_109⟩ := qC hs.own.drop
   refine qdr 18 κ C_109 hs fun w hs hqC_109 => ?_
   have hcl := qO hC_109 hs.own.drop
   refine qdp (fuel := 5) [0, 1, 2, 3, 4, 5, 6, 7, 9, 10, 11, 14, 15, 16] hs hcl hqC_109 fun a hs => ?_
   obtain ⟨v_111, h_110, hm⟩ := bind_t hm
   refine Vk.dTakeT (i := 8) (some 56) (vi v_111) hs (by kernel_rfl) hqC_109 hcl (by kernel_rfl) (by kernel_rfl) (op := (.load 3 (.tmp 55))) (by kernel_rfl) (by kernel_rfl) (fun w hw o ho => by rw [hC_109] at hw; exact run_load1 (c := ci v_111) ho (by kernel_rfl) (by kernel_rfl) (Cell.own 3 rfl (getI_some h_110)) _ hw) fun a hs => ?_
   obtain ⟨v_113, h_112, hm⟩ := bind_t hm
   refine Vk.dTakeT (i := 12) (some 60) (vi v_113) hs (by kernel_rfl) hqC_109 hcl (by kernel_rfl) (by kernel_rfl) (op := (.load 3 (.tmp 59))) (by kernel_rfl) (by kernel_rfl) (fun w hw o ho => by rw [hC_109] at hw; exact run_load1 (c := ci v_113) ho (by kernel_rfl) (by kernel_rfl) (Cell.own 2 rfl (getI_some h_112)) _ hw) fun a hs => ?_
   obtain ⟨v_116, h_115, hm⟩ := bind_t hm
   refine qdc 13 (wire_Machine_Two.ok _ _ _ _ _ _ _ h_115 _ _ _ b_x0 hs.own) hs fun w a hs => ?_
   replace hcl := qO hC_109 hs.own.drop
   refine ⟨fun _ => hcl, ?_⟩
   refine qdp (fuel := 1) [17] hs hcl hqC_109 fun a hs => ?_
   refine Vk.dOnly (i := 18) (by kernel_rfl) (Vk.store1 (b := b_24) (ty := 3) (x := (.tmp 65)) (y := (.tmp 61)) (off := 5) (ci v_116.1) 1 hs (by kernel_rfl) (by kernel_rfl) (by kernel_rfl) (by kernel_rfl) (by kernel_rfl) (by kernel_rfl) rfl (Nat.le_of_ble_eq_true (by kernel_rfl)) fun a w hs => ?_)
   refine ⟨fun h => absurd h (by decide), ?_⟩
   replace hs := hs.pick [0, 4, 5, 7, 8, 11, 40, 41, 44, 45] (L' := [(0, pp b_x0), (4, pp b_20), (5, pp b_21), (7, pp b_24), (8, vi 2), (11, vi 1), (40, vi 2), (41, vi 1), (44, vi 2), (45, vi 0)]) (by kernel_rfl)
   refine Vk.dDone (by kernel_rfl) ?_
   refine hK107 _ _ ?_
   clear hK107
   refine Vk.region ?_
   refine qpk 2 [0, 4, 5, 7, 8, 11, 40, 41, 44, 45] hs fun a hs => hKL104 _ _ ?_
   clear hKL104
   refine Vk.unroll fun KL117 hKL117 => ?_
   refine qsk 1 [0, 4, 5, 7, 8, 11, 40, 41, 44, 45, 46] hs fun a hs => ?_
   refine qck hs ?_
   refine Vk.seq fun K120 hK120 => ?_
   refine wp_block ?_
   refine qsk 2 [0, 4, 5, 7, 8, 11, 12, 40, 41, 44, 45] hs fun a hs => ?_
   obtain ⟨C_122, hC_122⟩ := qC hs.own.drop
   refine qdr 18 κ C_122 hs fun w hs hqC_122 => ?_
   have hcl := qO hC_122 hs.own.drop
   refine qdp (fuel := 5) [0, 1, 2, 3, 4, 5, 6, 7, 9, 10, 11, 14, 15, 16] hs hcl hqC_122 fun a hs => ?_
   obtain ⟨v_124, h_123, hm⟩ := bind_t hm
   refine Vk.dTakeT (i := 8) (some 56) (vi v_124) hs (by kernel_rfl) hqC_122 hcl (by kernel_rfl) (by kernel_rfl) (op := (.load 3 (.tmp 55))) (by kernel_rfl) (by kernel_rfl) (fun w hw o ho => by rw [hC_122] at hw; exact run_load1 (c := ci v_124) ho (by kernel_rfl) (by kernel_rfl) (Cell.own 3 rfl (getI_some h_123)) _ hw) fun a hs => ?_
   obtain ⟨v_126, h_125, hm⟩ := bind_t hm
   refine Vk.dTakeT (i := 12) (some 60) (vi v_126) hs (by kernel_rfl) hqC_122 hcl (by kernel_rfl) (by kernel_rfl) (op := (.load 3 (.tmp 59))) (by kernel_rfl) (by kernel_rfl) (fun w hw o ho => by rw [hC_122] at hw; exact run_load1 (c := ci v_126) ho (by kernel_rfl) (by kernel_rfl) (Cell.own 2 rfl (getI_some h_125)) _ hw) fun a hs => ?_
   obtain ⟨v_129, h_128, hm⟩ := bind_t hm
   refine qdc 13 (wire_Machine_Two.ok _ _ _ _ _ _ _ h_128 _ _ _ b_x0 hs.own) hs fun w a hs => ?_
   replace hcl := qO hC_122 hs.own.drop
   refine ⟨fun _ => hcl, ?_⟩
   refine qdp (fuel := 1) [17] hs hcl hqC_122 fun a hs => ?_
   refine Vk.dOnly (i := 18) (by kernel_rfl) (Vk.store1 (b := b_24) (ty := 3) (x := (.tmp 65)) (y := (.tmp 61)) (off := 6) (ci v_129.1) 1 hs (by kernel_rfl) (by kernel_rfl) (by kernel_rfl) (by kernel_rfl) (by kernel_rfl) (by kernel_rfl) rfl (Nat.le_of_ble_eq_true (by kernel_rfl)) fun a w hs => ?_)
   refine ⟨fun h => absurd h (by decide), ?_⟩
   replace hs := hs.pick [0, 4, 5, 7, 8, 11, 40, 41, 44, 45] (L' := [(0, pp b_x0), (4, pp b_20), (5, pp b_21), (7, pp b_24), (8, vi 2), (11, vi 1), (40, vi 2), (41, vi 1), (44, vi 2), (45, vi 1)]) (by kernel_rfl)
   refine Vk.dDone (by kernel_rfl) ?_
   refine hK120 _ _ ?_
   clear hK120
   refine Vk.region ?_
   refine qpe 2 [(0, pp b_x0), (4, pp b_20), (5, pp b_21), (7, pp b_24), (8, vi 2), (11, vi 1), (40, vi 2), (41, vi 1), (44, vi 2), (45, vi 2)] hs fun a hs => hKL117 _ _ ?_
   clear hKL117
   refine Vk.unroll fun KL130 hKL130 => ?_
   refine qsk 1 [0, 4, 5, 7, 8, 11, 40, 41, 44, 45, 46] hs fun a hs => ?_
   refine Vk.seq fun K132 hK132 => ?_
   refine qcf hs ?_
   refine wp_exit ?_
   refine hK101 _ _ ?_
   clear hK101
   refine Vk.region ?_
   refine qpk 2 [0, 4, 5, 7, 8, 40, 41] hs fun a hs => hKL98 _ _ ?_
   clear hKL98
   refine Vk.unroll fun KL133 hKL133 => ?_
   refine qsk 1 [0, 4, 5, 7, 8, 40, 41, 42] hs fun a hs => ?_
   refine Vk.seq fun K135 hK135 => ?_
   refine qcf hs ?_
   refine wp_exit ?_
   refine hK61 _ _ ?_
   clear hK61
   refine qse 2 [(6, pp b_24)] hs fun a hs => ?_
   refine wp_ret ?_
   refine hKP18 _ _ ?_
   refine hKR18 _ _ ?_
   refine Vk.ret1 (P := Try.prog) (fn := Try.f91) (pp b_24) hs rfl (by kernel_rfl) ⟨_, _, _, rfl, hs.own, fun a hs => ?_⟩
   refine qpk 1 [0, 6, 7] hs fun a hs => hK15 _ _ ?_
   clear hK15
   refine qsr fun K137 hK137 => ?_
   refine qpu 3 hs fun a hs => ?_
   refine Vk.step (Vk.call (some 23) 92 #[pp b_24, .func (.func 93) #[pp b_24] #[]] hs (by kernel_rfl) (by kernel_rfl) (by kernel_rfl) ?_)
   refine Vk.enterI [(0, pp b_24), (1, .func (.func 93) #[pp b_24] #[])] Try.func92 rfl Try.ntmps92 (by kernel_rfl) (Nat.le_of_ble_eq_true (by kernel_rfl)) hs.own fun KR138 hKR138 hKP138 a hs => ?_
   refine qsr fun K139 hK139 => ?_
   refine qal 28 [ci 0, ci 0, ci 0] 4 hs fun b_140 w a hs => ?_
   refine qpk 0 [0, 1, 4] hs fun a hs => hK139 _ _ ?_
   clear hK139
   refine qsr fun K141 hK141 => ?_
   refine qpu 2 hs fun a hs => ?_
   refine qal 28 [ci 0, ci 0, ci 0] 5 hs fun b_142 w a hs => ?_
   refine qsa 0 [ci (-1), ci (-1), ci (-1)] hs rfl fun a w hs => ?_
   refine qpe 0 [(0, pp b_24), (1, .func (.func 93) #[pp b_24] #[]), (4, pp b_140), (5, pp b_142)] hs fun a hs => hK141 _ _ ?_
   clear hK141
   refine qsr fun K143 hK143 => ?_
   refine qpu 3 hs fun a hs => ?_
   refine qld 3 (cp b_x0) hs rfl fun a hs => ?_
   obtain ⟨g_144, hs⟩ := hs.unex 2 rfl
   obtain ⟨v_147, h_146, hm⟩ := bind_t hm
   refine qcl (wire_Machine_N.ok _ _ _ h_146 _ _ _ b_x0 g_144 hs.own.f2) hs fun w a hs => ?_
   rcases Bool.eq_false_or_eq_true (v_147 == 2) with hb | hb
   ·replace hm := bif_t hm hb
    obtain rfl := Vk.of_beq hb
    refine qpk 1 [0, 1, 4, 5, 6] hs fun a hs => hK143 _ _ ?_
    clear hK143
    refine Vk.seq fun K148 hK148 => ?_
    refine qsk 2 [0, 1, 4, 5, 6, 16, 17] hs fun a hs => ?_
    refine wp_block ?_
    refine Vk.unroll0 40 ?_
    refine Vk.unroll fun KL150 hKL150 => ?_
    refine qsk 1 [0, 1, 4, 5, 6, 16, 17, 18] hs fun a hs => ?_
    refine qck hs ?_
    refine Vk.seq fun K153 hK153 => ?_
    refine wp_block ?_
    refine qsk 2 [0, 1, 4, 5, 6, 7, 16, 17] hs fun a hs => ?_
    refine qsr fun K155 hK155 => ?_
    refine qpu 8 hs fun a hs => ?_
    refine qld 3 (ci v_81.1) hs rfl fun a hs => ?_
    refine qpu 2 hs fun a hs => ?_
    refine qst 1 0 (ci v_81.1) hs rfl fun a w hs => ?_
    refine qpk 0 [0, 1, 4, 5, 6, 7, 16, 17] hs fun a hs => hK155 _ _ ?_
    clear hK155
    refine qse 2 [(0, pp b_24), (1, .func (.func 93) #[pp b_24] #[]), (4, pp b_140), (5, pp b_142), (6, vi 2), (7, vi 0), (16, vi 2), (17, vi 0), (31, vi 2), (32, vi 0)] hs fun a hs => ?_
    refine wp_block ?_
    refine Vk.unroll0 40 ?_
    refine Vk.unroll fun KL157 hKL157 => ?_
    refine qsk 1 [0, 1, 4, 5, 6, 7, 16, 17, 31, 32, 33] hs fun a hs => ?_
    refine qck hs ?_
    refine Vk.seq fun K160 hK160 => ?_
    refine wp_block ?_
    refine qsk 2 [0, 1, 4, 5, 6, 7, 8, 16, 17, 31, 32] hs fun a hs => ?_
    refine qsk 3 [0, 1, 4, 5, 6, 7, 8, 16, 17, 31, 32, 37] hs fun a hs => ?_
    refine qcf hs ?_
    refine wp_skip ?_
    refine hK160 _ _ ?_
    clear hK160
    refine Vk.region ?_
    refine qpk 2 [0, 1, 4, 5, 6, 7, 16, 17, 31, 32] hs fun a hs => hKL157 _ _ ?_
    clear hKL157
    refine Vk.unroll fun KL163 hKL163 => ?_
    refine qsk 1 [0, 1, 4, 5, 6, 7, 16, 17, 31, 32, 33] hs fun a hs => ?_
    refine qck hs ?_
    refine Vk.seq fun K166 hK166 => ?_
    refine wp_block ?_
    refine qse 2 [(0, pp b_24), (1, .func (.func 93) #[pp b_24] #[]), (4, pp b_140), (5, pp b_142), (6, vi 2), (7, vi 0), (8, vi 1), (16, vi 2), (17, vi 0), (31, vi 2), (32, vi 1)] hs fun a hs => ?_
    refine qsk 3 [0, 1, 4, 5, 6, 7, 8, 16, 17, 31, 32, 37] hs fun a hs => ?_
    refine qct hs ?_
    obtain ⟨C_169, hC_169⟩ := qC hs.own.drop
    refine qdr 17 κ C_169 hs fun w hs hqC_169 => ?_
    have hcl := qO hC_169 hs.own.drop
    refine qdp (fuel := 6) [0, 1, 2, 3, 5, 6, 7, 8, 10, 11, 12, 15] hs hcl hqC_169 fun a hs => ?_
    refine qdl 4 2 (cp b_x0) hs hcl hqC_169 hC_169 rfl fun a hs => ?_
    refine qdl 9 0 (ci v_81.1) hs hcl hqC_169 hC_169 rfl fun a hs => ?_
    refine Vk.dOnly (i := 13) (by kernel_rfl) (Vk.call (some 51) 93 #[pp b_24, vi 0, vi 1] hs (by kernel_rfl) (by kernel_rfl) (by kernel_rfl) ?_)
    refine Vk.enterI [(0, pp b_24), (1, vi 0), (2, vi 1)] Try.func93 rfl Try.ntmps93 (by kernel_rfl) (Nat.le_of_ble_eq_true (by kernel_rfl)) hs.own fun KR170 hKR170 hKP170 a hs => ?_
    refine qsk 1 [0, 1, 2] hs fun a hs => ?_
    refine Vk.seq fun K172 hK172 => ?_
    obtain ⟨C_173, hC_173⟩ := qC hs.own
    refine qdr 17 κ C_173 hs fun w hs hqC_173 => ?_
    have hcl := qO hC_173 hs.own
    refine qdp (fuel := 5) [0, 1, 2, 4, 5, 6, 7, 8, 9, 10, 11, 13, 14, 15] hs hcl hqC_173 fun a hs => ?_
    refine qdl 3 3 (cp b_x0) hs hcl hqC_173 hC_173 rfl fun a hs => ?_
    refine qdl 12 3 (ci v_94.1) hs hcl hqC_173 hC_173 rfl fun a hs => ?_
    refine Vk.dOnly (i := 16) (by kernel_rfl) (Vk.call (some 23) 151 #[pp b_24, vi 0, vi 1] hs (by kernel_rfl) (by kernel_rfl) (by kernel_rfl) ?_)
    refine Vk.enterI [(0, pp b_24), (1, vi 0), (2, vi 1)] Try.func151 rfl Try.ntmps151 (by kernel_rfl) (Nat.le_of_ble_eq_true (by kernel_rfl)) hs.own fun KR174 hKR174 hKP174 a hs => ?_
    refine qsk 1 [0, 1, 2] hs fun a hs => ?_
    refine qsr fun K176 hK176 => ?_
    refine qpu 3 hs fun a hs => ?_
    refine qld 3 (C.map (some b_23)) hs rfl fun a hs => ?_
    refine qpu 7 hs fun a hs => ?_
    refine Vk.step (Vk.value (some 18) (vi v_45.1) hs (by kernel_rfl) (op := (.lookup 186 (.tmp 10) (.tmp 17) false)) (by kernel_rfl) (fun o ho => run_lookup (b := b_23) (key := .agg (vals [ci 0, ci 1])) 4 rfl ho (by kernel_rfl) (by kernel_rfl) (by kernel_rfl) _ hs.own) fun a hs => ?_)
    refine qpe 1 [(6, vi v_45.1)] hs fun a hs => hK176 _ _ ?_
    clear hK176
    refine wp_ret ?_
    refine hKP174 _ _ ?_
    refine hKR174 _ _ ?_
    refine Vk.ret1 (P := Try.prog) (fn := Try.f151) (vi v_45.1) hs rfl (by kernel_rfl) ⟨_, _, _, rfl, hs.own, fun a hs => ?_⟩
    replace hcl := qO hC_173 hs.own
    refine ⟨fun _ => hcl, ?_⟩
    replace hs := hs.toEx (Twire_Machine.parts b_x0 v_129.2) g_144 0 rfl
    obtain ⟨v_179, h_178, hm⟩ := bind_t hm
    refine qdc 17 (wire_Machine_Two.ok _ _ _ _ _ _ _ h_178 _ _ _ b_x0 hs.own) hs fun w a hs => ?_
    refine ⟨fun h => absurd h (by decide), ?_⟩
    refine Vk.dOnly (i := 18) (by kernel_rfl) (Vk.dPure1 [(6, vi v_179.1)] hs (by kernel_rfl) fun a hs => ?_)
    refine ⟨fun h => absurd h (by decide), ?_⟩
    replace hs := hs.pick [6] (L' := [(6, vi v_179.1)]) (by kernel_rfl)
    refine Vk.dDone (by kernel_rfl) ?_
    refine hK172 _ _ ?_
    clear hK172
    refine wp_ret ?_
    refine hKP170 _ _ ?_
    refine hKR170 _ _ ?_
    refine Vk.ret1 (P := Try.prog) (fn := Try.f93) (vi v_179.1) hs rfl (by kernel_rfl) ⟨_, _, _, rfl, hs.own, fun a hs => ?_⟩
    replace hcl := qO hC_169 hs.own.drop
    refine ⟨fun _ => hcl, ?_⟩
    obtain ⟨v_182, h_181, hm⟩ := bind_t hm
    refine qdc 14 (wire_Machine_Two.ok _ _ _ _ _ _ _ h_181 _ _ _ b_x0 hs.own) hs fun w a hs => ?_
    replace hcl := qO hC_169 hs.own.drop
    refine ⟨fun _ => hcl, ?_⟩
    refine qdp (fuel := 1) [16] hs hcl hqC_169 fun a hs => ?_
    refine Vk.dOnly (i := 17) (by kernel_rfl) (Vk.store1 (b := b_142) (ty := 3) (x := (.tmp 54)) (y := (.tmp 52)) (off := 0) (ci v_182.1) 1 hs (by kernel_rfl) (by kernel_rfl) (by kernel_rfl) (by kernel_rfl) (by kernel_rfl) (by kernel_rfl) rfl (Nat.le_of_ble_eq_true (by kernel_rfl)) fun a w hs => ?_)
    refine ⟨fun h => absurd h (by decide), ?_⟩
    replace hs := hs.pick [0, 1, 4, 5, 6, 7, 16, 17, 31, 32] (L' := [(0, pp b_24), (1, .func (.func 93) #[pp b_24] #[]), (4, pp b_140), (5, pp b_142), (6, vi 2), (7, vi 0), (16, vi 2), (17, vi 0), (31, vi 2), (32, vi 1)]) (by kernel_rfl)
    refine Vk.dDone (by kernel_rfl) ?_
    refine hK166 _ _ ?_
    clear hK166
    refine Vk.region ?_
    refine qpk 2 [0, 1, 4, 5, 6, 7, 16, 17, 31, 32] hs fun a hs => hKL163 _ _ ?_
    clear hKL163
    refine Vk.unroll fun KL183 hKL183 => ?_
    refine qsk 1 [0, 1, 4, 5, 6, 7, 16, 17, 31, 32, 33] hs fun a hs => ?_
    refine Vk.seq fun K185 hK185 => ?_
    refine qcf hs ?_
    refine wp_exit ?_
    refine hK153 _ _ ?_
    clear hK153
    refine Vk.region ?_
    refine qpk 2 [0, 1, 4, 5, 6, 16, 17] hs fun a hs => hKL150 _ _ ?_
    clear hKL150
    refine Vk.unroll fun KL186 hKL186 => ?_
    refine qsk 1 [0, 1, 4, 5, 6, 16, 17, 18] hs fun a hs => ?_
    refine qck hs ?_
    refine Vk.seq fun K189 hK189 => ?_
    refine wp_block ?_
    refine qsk 2 [0, 1, 4, 5, 6, 7, 16, 17] hs fun a hs => ?_
    refine qsr fun K191 hK191 => ?_
    refine qpu 8 hs fun a hs => ?_
    refine qld 3 (ci v_129.1) hs rfl fun a hs => ?_
    refine qpu 2 hs fun a hs => ?_
    refine qst 1 1 (ci v_129.1) hs rfl fun a w hs => ?_
    refine qpe 0 [(0, pp b_24), (1, .func (.func 93) #[pp b_24] #[]), (4, pp b_140), (5, pp b_142), (6, vi 2), (7, vi 1), (16, vi 2), (17, vi 1)] hs fun a hs => hK191 _ _ ?_
    clear hK191
    refine qsk 2 [0, 1, 4, 5, 6, 7, 16, 17, 31, 32] hs fun a hs => ?_
    refine wp_block ?_
    refine Vk.unroll0 40 ?_
    refine Vk.unroll fun KL193 hKL193 => ?_
    refine qsk 1 [0, 1, 4, 5, 6, 7, 16, 17, 31, 32, 33] hs fun a hs => ?_
    refine qck hs ?_
    refine Vk.seq fun K196 hK196 => ?_
    refine wp_block ?_
    refine qsk 2 [0, 1, 4, 5, 6, 7, 8, 16, 17, 31, 32] hs fun a hs => ?_
    refine qsk 3 [0, 1, 4, 5, 6, 7, 8, 16, 17, 31, 32, 37] hs fun a hs => ?_
    refine qct hs ?_
    obtain ⟨C_199, hC_199⟩ := qC hs.own.drop
    refine qdr 17 κ C_199 hs fun w hs hqC_199 => ?_
    have hcl := qO hC_199 hs.own.drop
    refine qdp (fuel := 6) [0, 1, 2, 3, 5, 6, 7, 8, 10, 11, 12, 15] hs hcl hqC_199 fun a hs => ?_
    refine qdl 4 2 (cp b_x0) hs hcl hqC_199 hC_199 rfl fun a hs => ?_
    refine qdl 9 0 (ci v_129.1) hs hcl hqC_199 hC_199 rfl fun a hs => ?_
    refine Vk.dOnly (i := 13) (by kernel_rfl) (Vk.call (some 51) 93 #[pp b_24, vi 1, vi 0] hs (by kernel_rfl) (by kernel_rfl) (by kernel_rfl) ?_)
    refine Vk.enterI [(0, pp b_24), (1, vi 1), (2, vi 0)] Try.func93 rfl Try.ntmps93 (by kernel_rfl) (Nat.le_of_ble_eq_true (by kernel_rfl)) hs.own fun KR200 hKR200 hKP200 a hs => ?_
    refine qsk 1 [0, 1, 2] hs fun a hs => ?_
    refine Vk.seq fun K202 hK202 => ?_
    obtain ⟨C_203, hC_203⟩ := qC hs.own
    refine qdr 17 κ C_203 hs fun w hs hqC_203 => ?_
    have hcl := qO hC_203 hs.own
    refine qdp (fuel := 5) [0, 1, 2, 4, 5, 6, 7, 8, 9, 10, 11, 13, 14, 15] hs hcl hqC_203 fun a hs => ?_
    refine qdl 3 3 (cp b_x0) hs hcl hqC_203 hC_203 rfl fun a hs => ?_
    refine qdl 12 3 (ci v_116.1) hs hcl hqC_203 hC_203 rfl fun a hs => ?_
    refine Vk.dOnly (i := 16) (by kernel_rfl) (Vk.call (some 23) 151 #[pp b_24, vi 1, vi 0] hs (by kernel_rfl) (by kernel_rfl) (by kernel_rfl) ?_)
    refine Vk.enterI [(0, pp b_24), (1, vi 1), (2, vi 0)] Try.func151 rfl Try.ntmps151 (by kernel_rfl) (Nat.le_of_ble_eq_true (by kernel_rfl)) hs.own fun KR204 hKR204 hKP204 a hs => ?_
    refine qse 1 [(0, pp b_24), (1, vi 1), (2, vi 0)] hs fun a hs => ?_
    refine qsr fun K206 hK206 => ?_
    refine qpu 3 hs fun a hs => ?_
    refine qld 3 (C.map (some b_23)) hs rfl fun a hs => ?_
    refine qpu 7 hs fun a hs => ?_
    refine Vk.step (Vk.value (some 18) (vi v_45.1) hs (by kernel_rfl) (op := (.lookup 186 (.tmp 10) (.tmp 17) false)) (by kernel_rfl) (fun o ho => run_lookup (b := b_23) (key := .agg (vals [ci 0, ci 1])) 4 rfl ho (by kernel_rfl) (by kernel_rfl) (by kernel_rfl) _ hs.own) fun a hs => ?_)
    refine qpe 1 [(6, vi v_45.1)] hs fun a hs => hK206 _ _ ?_
    clear hK206
    refine wp_ret ?_
    refine hKP204 _ _ ?_
    refine hKR204 _ _ ?_
    refine Vk.ret1 (P := Try.prog) (fn := Try.f151) (vi v_45.1) hs rfl (by kernel_rfl) ⟨_, _, _, rfl, hs.own, fun a hs => ?_⟩
    replace hcl := qO hC_203 hs.own
    refine ⟨fun _ => hcl, ?_⟩
    obtain ⟨v_209, h_208, hm⟩ := bind_t hm
    refine qdc 17 (wire_Machine_Two.ok _ _ _ _ _ _ _ h_208 _ _ _ b_x0 hs.own) hs fun w a hs => ?_
    refine ⟨fun h => absurd h (by decide), ?_⟩
    refine Vk.dOnly (i := 18) (by kernel_rfl) (Vk.dPure1 [(6, vi v_209.1)] hs (by kernel_rfl) fun a hs => ?_)
    refine ⟨fun h => absurd h (by decide), ?_⟩
    replace hs := hs.pick [6] (L' := [(6, vi v_209.1)]) (by kernel_rfl)
    refine Vk.dDone (by kernel_rfl) ?_
    refine hK202 _ _ ?_
    clear hK202
    refine wp_ret ?_
    refine hKP200 _ _ ?_
    refine hKR200 _ _ ?_
    refine Vk.ret1 (P := Try.prog) (fn := Try.f93) (vi v_209.1) hs rfl (by kernel_rfl) ⟨_, _, _, rfl, hs.own, fun a hs => ?_⟩
    replace hcl := qO hC_199 hs.own.drop
    refine ⟨fun _ => hcl, ?_⟩
    obtain ⟨v_212, h_211, hm⟩ := bind_t hm
    refine qdc 14 (wire_Machine_Two.ok _ _ _ _ _ _ _ h_211 _ _ _ b_x0 hs.own) hs fun w a hs => ?_
    replace hcl := qO hC_199 hs.own.drop
    refine ⟨fun _ => hcl, ?_⟩
    refine qdp (fuel := 1) [16] hs hcl hqC_199 fun a hs => ?_
    refine Vk.dOnly (i := 17) (by kernel_rfl) (Vk.store1 (b := b_142) (ty := 3) (x := (.tmp 54)) (y := (.tmp 52)) (off := 1) (ci v_212.1) 1 hs (by kernel_rfl) (by kernel_rfl) (by kernel_rfl) (by kernel_rfl) (by kernel_rfl) (by kernel_rfl) rfl (Nat.le_of_ble_eq_true (by kernel_rfl)) fun a w hs => ?_)
    refine ⟨fun h => absurd h (by decide), ?_⟩
    replace hs := hs.pick [0, 1, 4, 5, 6, 7, 16, 17, 31, 32] (L' := [(0, pp b_24), (1, .func (.func 93) #[pp b_24] #[]), (4, pp b_140), (5, pp b_142), (6, vi 2), (7, vi 1), (16, vi 2), (17, vi 1), (31, vi 2), (32, vi 0)]) (by kernel_rfl)
    refine Vk.dDone (by kernel_rfl) ?_
    refine hK196 _ _ ?_
    clear hK196
    refine Vk.region ?_
    refine qpk 2 [0, 1, 4, 5, 6, 7, 16, 17, 31, 32] hs fun a hs => hKL193 _ _ ?_
    clear hKL193
    refine Vk.unroll fun KL213 hKL213 => ?_
    refine qsk 1 [0, 1, 4, 5, 6, 7, 16, 17, 31, 32, 33] hs fun a hs => ?_
    refine qck hs ?_
    refine Vk.seq fun K216 hK216 => ?_
    refine wp_block ?_
    refine qsk 2 [0, 1, 4, 5, 6, 7, 8, 16, 17, 31, 32] hs fun a hs => ?_
    refine qsk 3 [0, 1, 4, 5, 6, 7, 8, 16, 17, 31, 32, 37] hs fun a hs => ?_
    refine qcf hs ?_
    refine wp_skip ?_
    refine hK216 _ _ ?_
    clear hK216
    refine Vk.region ?_
    refine qpk 2 [0, 1, 4, 5, 6, 7, 16, 17, 31, 32] hs fun a hs => hKL213 _ _ ?_
    clear hKL213
    refine Vk.unroll fun KL219 hKL219 => ?_
    refine qse 1 [(0, pp b_24), (1, .func (.func 93) #[pp b_24] #[]), (4, pp b_140), (5, pp b_142), (6, vi 2), (7, vi 1), (16, vi 2), (17, vi 1), (31, vi 2), (32, vi 2), (33, .bool false)] hs fun a hs => ?_
    refine Vk.seq fun K221 hK221 => ?_
    refine qcf hs ?_
    refine wp_exit ?_
    refine hK189 _ _ ?_
    clear hK189
    refine Vk.region ?_
    refine qpk 2 [0, 1, 4, 5, 6, 16, 17] hs fun a hs => hKL186 _ _ ?_
    clear hKL186
    refine Vk.unroll fun KL222 hKL222 => ?_
    refine qsk 1 [0, 1, 4, 5, 6, 16, 17, 18] hs fun a hs => ?_
    refine Vk.seq fun K224 hK224 => ?_
    refine qcf hs ?_
    refine wp_exit ?_
    refine hK148 _ _ ?_
    clear hK148
    refine qsr fun K225 hK225 => ?_
    refine qln 1 ([ci v_182.1, ci v_212.1, ci (-1)]) hs rfl fun a hs => ?_
    refine qsa 2 [ci v_182.1, ci v_212.1, ci (-1)] hs rfl fun a w hs => ?_
    refine qpe 0 [(4, pp b_140)] hs fun a hs => hK225 _ _ ?_
    clear hK225
    refine wp_ret ?_
    refine hKP138 _ _ ?_
    refine hKR138 _ _ ?_
    refine Vk.retC (P := Try.prog) (fn := Try.f92) [ci v_182.1, ci v_212.1, ci (-1)] hs rfl (by kernel_rfl) (sz := 3) (by kernel_rfl) rfl (CellsAt.all 2 rfl) ⟨_, _, _, rfl, hs.own, fun a hs => ?_⟩
    refine qal 28 [ci 0, ci 0, ci 0] 8 hs fun b_226 w a hs => ?_
    refine qsa 0 [ci v_182.1, ci v_212.1, ci (-1)] hs rfl fun a w hs => ?_
    refine qpk 0 [0, 6, 8] hs fun a hs => hK137 _ _ ?_
    clear hK137
    refine qsr fun K227 hK227 => ?_
    refine qpu 1 hs fun a hs => ?_
    obtain ⟨v_230, h_229, hm⟩ := bind_t hm
    refine qcl (wire_Machine_End.ok _ _ _ h_229 _ _ _ b_x0 hs.own.f1) hs fun w a hs => ?_
    refine qpe 0 [(6, pp b_4), (8, pp b_226)] hs fun a hs => hK227 _ _ ?_
    clear hK227
    refine qsr fun K231 hK231 => ?_
    refine qln 1 ([ci v_182.1, ci v_212.1, ci (-1)]) hs rfl fun a hs => ?_
    refine qsa 8 [ci v_182.1, ci v_212.1, ci (-1)] hs rfl fun a w hs => ?_
    refine qpe 0 [(6, pp b_4)] hs fun a hs => hK231 _ _ ?_
    clear hK231
    refine wp_ret ?_
    exact Vk.retC (P := Try.prog) (fn := Try.f20) (R := RR) [ci v_182.1, ci v_212.1, ci (-1)] hs rfl (by kernel_rfl) (sz := 3) (by kernel_rfl) rfl (CellsAt.all 8 rfl) (by obtain rfl := Option.some.inj hm; subst hRR; exact ⟨rfl, (hs.own.too [0] 11)⟩)
   ·replace hm := bif_f hm hb
    cases hm
  ·replace hm := bif_f hm hb
   cases hm
 ·replace hm := bif_f hm hb
  rcases Bool.eq_false_or_eq_true (v_10 == 3) with hb | hb
  ·replace hm := bif_t hm hb
   obtain rfl := Vk.of_beq hb
   refine qpk 1 [0, 4, 5, 6, 11] hs fun a hs => hK6 _ _ ?_
   refine qcf hs ?_
   refine wp_skip ?_
   refine hK5 _ _ ?_
   refine qsr fun K232 hK232 => ?_
   refine qpu 1 hs fun a hs => ?_
   replace hs := hs.toEx (Twire_Machine.parts b_x0 x0) g_7 0 rfl
   obtain ⟨v_235, h_234, hm⟩ := bind_t hm
   refine qcl (wire_Machine_Begin.ok _ _ _ _ h_234 _ _ _ b_x0 hs.own) hs fun w a hs => ?_
   refine qpk 0 [0, 4, 5, 6] hs fun a hs => hK232 _ _ ?_
   clear hK232
   refine qsr fun K236 hK236 => ?_
   refine qpu 1 hs fun a hs => ?_
   obtain ⟨h_237, hm⟩ := ite_t hm
   refine Vk.step (Vk.value (some 17) (.agg (vals x1)) hs (by kernel_rfl) (op := (.load 28 (.tmp 4))) (by kernel_rfl) (fun o ho => run_loadN (cs := x1) ho (by kernel_rfl) (by kernel_rfl) h_237 (CellsAt.all 3 rfl) _ hs.own) fun a hs => ?_)
   obtain ⟨h_238, hm⟩ := ite_t hm
   refine Vk.step (Vk.value (some 18) (.agg (vals x2)) hs (by kernel_rfl) (op := (.load 28 (.tmp 5))) (by kernel_rfl) (fun o ho => run_loadN (cs := x2) ho (by kernel_rfl) (by kernel_rfl) h_238 (CellsAt.all 2 rfl) _ hs.own) fun a hs => ?_)
   refine Vk.step (Vk.call (some 19) 91 #[pp b_x0, .agg (vals x1), .agg (vals x2)] hs (by kernel_rfl) (by kernel_rfl) (by kernel_rfl) ?_)
   refine Vk.enterI [(0, pp b_x0), (1, .agg (vals x1)), (2, .agg (vals x2))] Try.func91 rfl Try.ntmps91 (by kernel_rfl) (Nat.le_of_ble_eq_true (by kernel_rfl)) hs.own fun KR239 hKR239 hKP239 a hs => ?_
   refine qsr fun K240 hK240 => ?_
   refine qbx 1 28 x1 4 hs fun b_241 w a hs => ?_
   refine qbx 2 28 x2 5 hs fun b_242 w a hs => ?_
   refine qpk 1 [0, 4, 5] hs fun a hs => hK240 _ _ ?_
   clear hK240
   refine qsr fun K243 hK243 => ?_
   refine qpu 1 hs fun a hs => ?_
   refine Vk.step (Vk.mapOp 14 186 hs (by kernel_rfl) (by kernel_rfl) fun b_244 w a hs => ?_)
   refine qpu 1 hs fun a hs => ?_
   refine qbx 15 188 [cp b_x0, C.map (some b_244), ci 0, ci 0, ci 0, ci 0, ci 0, ci 0, ci 0, ci 0, ci 0] 16 hs fun b_245 w a hs => ?_
   refine qpe 1 [(0, pp b_x0), (4, pp b_241), (5, pp b_242), (7, pp b_245)] hs fun a hs => hK243 _ _ ?_
   clear hK243
   refine qsr fun K246 hK246 => ?_
   refine qpu 1 hs fun a hs => ?_
   obtain ⟨g_247, hs⟩ := hs.unex 4 rfl
   obtain ⟨v_250, h_249, hm⟩ := bind_t hm
   refine qcl (wire_Machine_N.ok _ _ _ h_249 _ _ _ b_x0 g_247 hs.own.f4) hs fun w a hs => ?_
   rcases Bool.eq_false_or_eq_true (v_250 == 3) with hb | hb
   ·replace hm := bif_t hm hb
    obtain rfl := Vk.of_beq hb
    refine qpk 1 [0, 4, 5, 7, 8] hs fun a hs => hK246 _ _ ?_
    clear hK246
    refine Vk.seq fun K251 hK251 => ?_
    refine qsk 2 [0, 4, 5, 7, 8, 19, 20] hs fun a hs => ?_
    refine wp_block ?_
    refine Vk.unroll0 40 ?_
    refine Vk.unroll fun KL253 hKL253 => ?_
    refine qsk 1 [0, 4, 5, 7, 8, 19, 20, 21] hs fun a hs => ?_
    refine qck hs ?_
    refine Vk.seq fun K256 hK256 => ?_
    refine wp_block ?_
    refine qsk 2 [0, 4, 5, 7, 8, 9, 19, 20] hs fun a hs => ?_
    refine qsk 3 [0, 4, 5, 7, 8, 9, 10, 19, 20] hs fun a hs => ?_
    refine wp_block ?_
    refine Vk.unroll0 40 ?_
    refine Vk.unroll fun KL259 hKL259 => ?_
    refine Vk.seq fun K260 hK260 => ?_
    refine qse 3 [(0, pp b_x0), (4, pp b_241), (5, pp b_242), (7, pp b_245), (8, vi 3), (9, vi 0), (10, vi 1), (19, vi 3), (20, vi 0), (27, .bool true)] hs fun a hs => ?_
    refine qct hs ?_
    refine wp_skip ?_
    refine hK260 _ _ ?_
    clear hK260
    refine Vk.seq fun K262 hK262 => ?_
    refine wp_block ?_
    obtain ⟨C_263, hC_263⟩ := qC hs.own.drop
    refine qdr 9 κ C_263 hs fun w hs hqC_263 => ?_
    have hcl := qO hC_263 hs.own.drop
    refine qdp (fuel := 3) [0, 1, 2, 4, 5, 6, 7] hs hcl hqC_263 fun a hs => ?_
    refine qdl 3 0 (C.map (some b_244)) hs hcl hqC_263 hC_263 rfl fun a hs => ?_
    replace hs := hs.toEx (Twire_Machine.parts b_x0 v_235) g_247 0 rfl
    obtain ⟨v_266, h_265, hm⟩ := bind_t hm
    refine qdc 8 (wire_Machine_Rand.ok _ _ _ _ h_265 _ _ _ b_x0 hs.own) hs fun w a hs => ?_
    replace hcl := qO hC_263 hs.own.drop
    refine ⟨fun _ => hcl, ?_⟩
    refine Vk.dOnly (i := 9) (by kernel_rfl) (Vk.updateOp (t := 186) (xm := (.tmp 33)) (xk := (.tmp 36)) (xv := (.tmp 38)) (b := b_244) (es' := #[⟨.agg (vals [ci 0, ci 1]), vi v_266.1, 0⟩]) (clock' := 1) (.agg (vals [ci 0, ci 1])) (vi v_266.1) 2 hs (by kernel_rfl) (by kernel_rfl) (by kernel_rfl) (by kernel_rfl) (by kernel_rfl) rfl (by kernel_rfl) fun a w hs => ?_)
    refine ⟨fun h => absurd h (by decide), ?_⟩
    replace hs := hs.pick [0, 4, 5, 7, 8, 9, 10, 19, 20] (L' := [(0, pp b_x0), (4, pp b_241), (5, pp b_242), (7, pp b_245), (8, vi 3), (9, vi 0), (10, vi 1), (19, vi 3), (20, vi 0)]) (by kernel_rfl)
    refine Vk.dDone (by kernel_rfl) ?_
    refine hK262 _ _ ?_
    clear hK262
    refine Vk.region ?_
    refine qpk 3 [0, 4, 5, 7, 8, 9, 10, 19, 20] hs fun a hs => hKL259 _ _ ?_
    clear hKL259
    refine Vk.unroll fun KL267 hKL267 => ?_
    refine Vk.seq fun K268 hK268 => ?_
    refine qsk 3 [0, 4, 5, 7, 8, 9, 10, 19, 20, 27] hs fun a hs => ?_
    refine qct hs ?_
    refine wp_skip ?_
    refine hK268 _ _ ?_
    clear hK268
    refine Vk.seq fun K270 hK270 => ?_
    refine wp_block ?_
    obtain ⟨C_271, hC_271⟩ := qC hs.own.drop
    refine qdr 9 κ C_271 hs fun w hs hqC_271 => ?_
    have hcl := qO hC_271 hs.own.drop
    refine qdp (fuel := 3) [0, 1, 2, 4, 5, 6, 7] hs hcl hqC_271 fun a hs => ?_
    refine qdl 3 0 (C.map (some b_244)) hs hcl hqC_271 hC_271 rfl fun a hs => ?_
    obtain ⟨v_274, h_273, hm⟩ := bind_t hm
    refine qdc 8 (wire_Machine_Rand.ok _ _ _ _ h_273 _ _ _ b_x0 hs.own) hs fun w a hs => ?_
    replace hcl := qO hC_271 hs.own.drop
    refine ⟨fun _ => hcl, ?_⟩
    refine Vk.dOnly (i := 9) (by kernel_rfl) (Vk.updateOp (t := 186) (xm := (.tmp 33)) (xk := (.tmp 36)) (xv := (.tmp 38)) (b := b_244) (es' := #[⟨.agg (vals [ci 0, ci 1]), vi v_266.1, 0⟩, ⟨.agg (vals [ci 0, ci 2]), vi v_274.1, 1⟩]) (clock' := 2) (.agg (vals [ci 0, ci 2])) (vi v_274.1) 2 hs (by kernel_rfl) (by kernel_rfl) (by kernel_rfl) (by kernel_rfl) (by kernel_rfl) rfl (by kernel_rfl) fun a w hs => ?_)
    refine ⟨fun h => absurd h (by decide), ?_⟩
    replace hs := hs.pick [0, 4, 5, 7, 8, 9, 10, 19, 20] (L' := [(0, pp b_x0), (4, pp b_241), (5, pp b_242), (7, pp b_245), (8, vi 3), (9, vi 0), (10, vi 2), (19, vi 3), (20, vi 0)]) (by kernel_rfl)
    refine Vk.dDone (by kernel_rfl) ?_
    refine hK270 _ _ ?_
    clear hK270
    refine Vk.region ?_
    refine qpk 3 [0, 4, 5, 7, 8, 9, 10, 19, 20] hs fun a hs => hKL267 _ _ ?_
    clear hKL267
    refine Vk.unroll fun KL275 hKL275 => ?_
    refine Vk.seq fun K276 hK276 => ?_
    refine qsk 3 [0, 4, 5, 7, 8, 9, 10, 19, 20, 27] hs fun a hs => ?_
    refine qcf hs ?_
    refine wp_exit ?_
    refine hK256 _ _ ?_
    clear hK256
    refine Vk.region ?_
    refine qpk 2 [0, 4, 5, 7, 8, 19, 20] hs fun a hs => hKL253 _ _ ?_
    clear hKL253
    refine Vk.unroll fun KL278 hKL278 => ?_
    refine qse 1 [(0, pp b_x0), (4, pp b_241), (5, pp b_242), (7, pp b_245), (8, vi 3), (19, vi 3), (20, vi 1), (21, .bool true)] hs fun a hs => ?_
    refine qck hs ?_
    refine Vk.seq fun K281 hK281 => ?_
    refine wp_block ?_
    refine qsk 2 [0, 4, 5, 7, 8, 9, 19, 20] hs fun a hs => ?_
    refine qsk 3 [0, 4, 5, 7, 8, 9, 10, 19, 20] hs fun a hs => ?_
    refine wp_block ?_
    refine Vk.unroll0 40 ?_
    refine Vk.unroll fun KL284 hKL284 => ?_
    refine Vk.seq fun K285 hK285 => ?_
    refine qsk 3 [0, 4, 5, 7, 8, 9, 10, 19, 20, 27] hs fun a hs => ?_
    refine qct hs ?_
    refine wp_skip ?_
    refine hK285 _ _ ?_
    clear hK285
    refine Vk.seq fun K287 hK287 => ?_
    refine wp_block ?_
    obtain ⟨C_288, hC_288⟩ := qC hs.own.drop
    refine qdr 9 κ C_288 hs fun w hs hqC_288 => ?_
    have hcl := qO hC_288 hs.own.drop
    refine qdp (fuel := 3) [0, 1, 2, 4, 5, 6, 7] hs hcl hqC_288 fun a hs => ?_
    refine qdl 3 0 (C.map (some b_244)) hs hcl hqC_288 hC_288 rfl fun a hs => ?_
    obtain ⟨v_291, h_290, hm⟩ := bind_t hm
    refine qdc 8 (wire_Machine_Rand.ok _ _ _ _ h_290 _ _ _ b_x0 hs.own) hs fun w a hs => ?_
    replace hcl := qO hC_288 hs.own.drop
    refine ⟨fun _ => hcl, ?_⟩
    refine Vk.dOnly (i := 9) (by kernel_rfl) (Vk.updateOp (t := 186) (xm := (.tmp 33)) (xk := (.tmp 36)) (xv := (.tmp 38)) (b := b_244) (es' := #[⟨.agg (vals [ci 0, ci 1]), vi v_266.1, 0⟩, ⟨.agg (vals [ci 0, ci 2]), vi v_274.1, 1⟩, ⟨.agg (vals [ci 1, ci 2]), vi v_291.1, 2⟩]) (clock' := 3) (.agg (vals [ci 1, ci 2])) (vi v_291.1) 2 hs (by kernel_rfl) (by kernel_rfl) (by kernel_rfl) (by kernel_rfl) (by kernel_rfl) rfl (by kernel_rfl) fun a w hs => ?_)
    refine ⟨fun h => absurd h (by decide), ?_⟩
    replace hs := hs.pick [0, 4, 5, 7, 8, 9, 10, 19, 20] (L' := [(0, pp b_x0), (4, pp b_241), (5, pp b_242), (7, pp b_245), (8, vi 3), (9, vi 1), (10, vi 2), (19, vi 3), (20, vi 1)]) (by kernel_rfl)
    refine Vk.dDone (by kernel_rfl) ?_
    refine hK287 _ _ ?_
    clear hK287
    refine Vk.region ?_
    refine qpk 3 [0, 4, 5, 7, 8, 9, 10, 19, 20] hs fun a hs => hKL284 _ _ ?_
    clear hKL284
    refine Vk.unroll fun KL292 hKL292 => ?_
    refine Vk.seq fun K293 hK293 => ?_
    refine qsk 3 [0, 4, 5, 7, 8, 9, 10, 19, 20, 27] hs fun a hs => ?_
    refine qcf hs ?_
    refine wp_exit ?_
    refine hK281 _ _ ?_
    clear hK281
    refine Vk.region ?_
    refine qpe 2 [(0, pp b_x0), (4, pp b_241), (5, pp b_242), (7, pp b_245), (8, vi 3), (19, vi 3), (20, vi 2)] hs fun a hs => hKL278 _ _ ?_
    clear hKL278
    refine Vk.unroll fun KL295 hKL295 => ?_
    refine qsk 1 [0, 4, 5, 7, 8, 19, 20, 21] hs fun a hs => ?_
    refine qck hs ?_
    refine Vk.seq fun K298 hK298 => ?_
    refine wp_block ?_
    refine qsk 2 [0, 4, 5, 7, 8, 9, 19, 20] hs fun a hs => ?_
    refine qsk 3 [0, 4, 5, 7, 8, 9, 10, 19, 20] hs fun a hs => ?_
    refine wp_block ?_
    refine Vk.unroll0 40 ?_
    refine Vk.unroll fun KL301 hKL301 => ?_
    refine Vk.seq fun K302 hK302 => ?_
    refine qsk 3 [0, 4, 5, 7, 8, 9, 10, 19, 20, 27] hs fun a hs => ?_
    refine qcf hs ?_
    refine wp_exit ?_
    refine hK298 _ _ ?_
    clear hK298
    refine Vk.region ?_
    refine qpk 2 [0, 4, 5, 7, 8, 19, 20] hs fun a hs => hKL295 _ _ ?_
    clear hKL295
    refine Vk.unroll fun KL304 hKL304 => ?_
    refine qse 1 [(0, pp b_x0), (4, pp b_241), (5, pp b_242), (7, pp b_245), (8, vi 3), (19, vi 3), (20, vi 3), (21, .bool false)] hs fun a hs => ?_
    refine Vk.seq fun K306 hK306 => ?_
    refine qcf hs ?_
    refine wp_exit ?_
    refine hK251 _ _ ?_
    clear hK251
    refine Vk.seq fun K307 hK307 => ?_
    refine qsk 2 [0, 4, 5, 7, 8, 40, 41] hs fun a hs => ?_
    refine wp_block ?_
    refine Vk.unroll0 40 ?_
    refine Vk.unroll fun KL309 hKL309 => ?_
    refine qsk 1 [0, 4, 5, 7, 8, 40, 41, 42] hs fun a hs => ?_
    refine qck hs ?_
    refine Vk.seq fun K312 hK312 => ?_
    refine wp_block ?_
    refine qsk 2 [0, 4, 5, 7, 8, 11, 40, 41] hs fun a hs => ?_
    refine qsk 2 [0, 4, 5, 7, 8, 11, 40, 41, 44, 45] hs fun a hs => ?_
    refine wp_block ?_
    refine Vk.unroll0 40 ?_
    refine Vk.unroll fun KL315 hKL315 => ?_
    refine qsk 1 [0, 4, 5, 7, 8, 11, 40, 41, 44, 45, 46] hs fun a hs => ?_
    refine qck hs ?_
    refine Vk.seq fun K318 hK318 => ?_
    refine wp_block ?_
    refine qse 2 [(0, pp b_x0), (4, pp b_241), (5, pp b_242), (7, pp b_245), (8, vi 3), (11, vi 0), (12, vi 0), (40, vi 3), (41, vi 0), (44, vi 3), (45, vi 0)] hs fun a hs => ?_
    obtain ⟨C_320, hC_320⟩ := qC hs.own.drop
    refine qdr 18 κ C_320 hs fun w hs hqC_320 => ?_
    have hcl := qO hC_320 hs.own.drop
    refine qdp (fuel := 5) [0, 1, 2, 3, 4, 5, 6, 7, 9, 10, 11, 14, 15, 16] hs hcl hqC_320 fun a hs => ?_
    obtain ⟨v_322, h_321, hm⟩ := bind_t hm
    refine Vk.dTakeT (i := 8) (some 56) (vi v_322) hs (by kernel_rfl) hqC_320 hcl (by kernel_rfl) (by kernel_rfl) (op := (.load 3 (.tmp 55))) (by kernel_rfl) (by kernel_rfl) (fun w hw o ho => by rw [hC_320] at hw; exact run_load1 (c := ci v_322) ho (by kernel_rfl) (by kernel_rfl) (Cell.own 3 rfl (getI_some h_321)) _ hw) fun a hs => ?_
    obtain ⟨v_324, h_323, hm⟩ := bind_t hm
    refine Vk.dTakeT (i := 12) (some 60) (vi v_324) hs (by kernel_rfl) hqC_320 hcl (by kernel_rfl) (by kernel_rfl) (op := (.load 3 (.tmp 59))) (by kernel_rfl) (by kernel_rfl) (fun w hw o ho => by rw [hC_320] at hw; exact run_load1 (c := ci v_324) ho (by kernel_rfl) (by kernel_rfl) (Cell.own 2 rfl (getI_some h_323)) _ hw) fun a hs => ?_
    obtain ⟨v_327, h_326, hm⟩ := bind_t hm
    refine qdc 13 (wire_Machine_Two.ok _ _ _ _ _ _ _ h_326 _ _ _ b_x0 hs.own) hs fun w a hs => ?_
    replace hcl := qO hC_320 hs.own.drop
    refine ⟨fun _ => hcl, ?_⟩
    refine qdp (fuel := 1) [17] hs hcl hqC_320 fun a hs => ?_
    refine Vk.dOnly (i := 18) (by kernel_rfl) (Vk.store1 (b := b_245) (ty := 3) (x := (.tmp 65)) (y := (.tmp 61)) (off := 2) (ci v_327.1) 1 hs (by kernel_rfl) (by kernel_rfl) (by kernel_rfl) (by kernel_rfl) (by kernel_rfl) (by kernel_rfl) rfl (Nat.le_of_ble_eq_true (by kernel_rfl)) fun a w hs => ?_)
    refine ⟨fun h => absurd h (by decide), ?_⟩
    replace hs := hs.pick [0, 4, 5, 7, 8, 11, 40, 41, 44, 45] (L' := [(0, pp b_x0), (4, pp b_241), (5, pp b_242), (7, pp b_245), (8, vi 3), (11, vi 0), (40, vi 3), (41, vi 0), (44, vi 3), (45, vi 0)]) (by kernel_rfl)
    refine Vk.dDone (by kernel_rfl) ?_
    refine hK318 _ _ ?_
    clear hK318
    refine Vk.region ?_
    refine qpk 2 [0, 4, 5, 7, 8, 11, 40, 41, 44, 45] hs fun a hs => hKL315 _ _ ?_
    clear hKL315
    refine Vk.unroll fun KL328 hKL328 => ?_
    refine qsk 1 [0, 4, 5, 7, 8, 11, 40, 41, 44, 45, 46] hs fun a hs => ?_
    refine qck hs ?_
    refine Vk.seq fun K331 hK331 => ?_
    refine wp_block ?_
    refine qsk 2 [0, 4, 5, 7, 8, 11, 12, 40, 41, 44, 45] hs fun a hs => ?_
    obtain ⟨C_333, hC_333⟩ := qC hs.own.drop
    refine qdr 18 κ C_333 hs fun w hs hqC_333 => ?_
    have hcl := qO hC_333 hs.own.drop
    refine qdp (fuel := 5) [0, 1, 2, 3, 4, 5, 6, 7, 9, 10, 11, 14, 15, 16] hs hcl hqC_333 fun a hs => ?_
    obtain ⟨v_335, h_334, hm⟩ := bind_t hm
    refine Vk.dTakeT (i := 8) (some 56) (vi v_335) hs (by kernel_rfl) hqC_333 hcl (by kernel_rfl) (by kernel_rfl) (op := (.load 3 (.tmp 55))) (by kernel_rfl) (by kernel_rfl) (fun w hw o ho => by rw [hC_333] at hw; exact run_load1 (c := ci v_335) ho (by kernel_rfl) (by kernel_rfl) (Cell.own 3 rfl (getI_some h_334)) _ hw) fun a hs => ?_
    obtain ⟨v_337, h_336, hm⟩ := bind_t hm
    refine Vk.dTakeT (i := 12) (some 60) (vi v_337) hs (by kernel_rfl) hqC_333 hcl (by kernel_rfl) (by kernel_rfl) (op := (.load 3 (.tmp 59))) (by kernel_rfl) (by kernel_rfl) (fun w hw o ho => by rw [hC_333] at hw; exact run_load1 (c := ci v_337) ho (by kernel_rfl) (by kernel_rfl) (Cell.own 2 rfl (getI_some h_336)) _ hw) fun a hs => ?_
    obtain ⟨v_340, h_339, hm⟩ := bind_t hm
    refine qdc 13 (wire_Machine_Two.ok _ _ _ _ _ _ _ h_339 _ _ _ b_x0 hs.own) hs fun w a hs => ?_
    replace hcl := qO hC_333 hs.own.drop
    refine ⟨fun _ => hcl, ?_⟩
    refine qdp (fuel := 1) [17] hs hcl hqC_333 fun a hs => ?_
    refine Vk.dOnly (i := 18) (by kernel_rfl) (Vk.store1 (b := b_245) (ty := 3) (x := (.tmp 65)) (y := (.tmp 61)) (off := 3) (ci v_340.1) 1 hs (by kernel_rfl) (by kernel_rfl) (by kernel_rfl) (by kernel_rfl) (by kernel_rfl) (by kernel_rfl) rfl (Nat.le_of_ble_eq_true (by kernel_rfl)) fun a w hs => ?_)
    refine ⟨fun h => absurd h (by decide), ?_⟩
    replace hs := hs.pick [0, 4, 5, 7, 8, 11, 40, 41, 44, 45] (L' := [(0, pp b_x0), (4, pp b_241), (5, pp b_242), (7, pp b_245), (8, vi 3), (11, vi 0), (40, vi 3), (41, vi 0), (44, vi 3), (45, vi 1)]) (by kernel_rfl)
    refine Vk.dDone (by kernel_rfl) ?_
    refine hK331 _ _ ?_
    clear hK331
    refine Vk.region ?_
    refine qpk 2 [0, 4, 5, 7, 8, 11, 40, 41, 44, 45] hs fun a hs => hKL328 _ _ ?_
    clear hKL328
    refine Vk.unroll fun KL341 hKL341 => ?_
    refine qsk 1 [0, 4, 5, 7, 8, 11, 40, 41, 44, 45, 46] hs fun a hs => ?_
    refine qck hs ?_
    refine Vk.seq fun K344 hK344 => ?_
    refine wp_block ?_
    refine qse 2 [(0, pp b_x0), (4, pp b_241), (5, pp b_242), (7, pp b_245), (8, vi 3), (11, vi 0), (12, vi 2), (40, vi 3), (41, vi 0), (44, vi 3), (45, vi 2)] hs fun a hs => ?_
    obtain ⟨C_346, hC_346⟩ := qC hs.own.drop
    refine qdr 18 κ C_346 hs fun w hs hqC_346 => ?_
    have hcl := qO hC_346 hs.own.drop
    refine qdp (fuel := 5) [0, 1, 2, 3, 4, 5, 6, 7, 9, 10, 11, 14, 15, 16] hs hcl hqC_346 fun a hs => ?_
    obtain ⟨v_348, h_347, hm⟩ := bind_t hm
    refine Vk.dTakeT (i := 8) (some 56) (vi v_348) hs (by kernel_rfl) hqC_346 hcl (by kernel_rfl) (by kernel_rfl) (op := (.load 3 (.tmp 55))) (by kernel_rfl) (by kernel_rfl) (fun w hw o ho => by rw [hC_346] at hw; exact run_load1 (c := ci v_348) ho (by kernel_rfl) (by kernel_rfl) (Cell.own 3 rfl (getI_some h_347)) _ hw) fun a hs => ?_
    obtain ⟨v_350, h_349, hm⟩ := bind_t hm
    refine Vk.dTakeT (i := 12) (some 60) (vi v_350) hs (by kernel_rfl) hqC_346 hcl (by kernel_rfl) (by kernel_rfl) (op := (.load 3 (.tmp 59))) (by kernel_rfl) (by kernel_rfl) (fun w hw o ho => by rw [hC_346] at hw; exact run_load1 (c := ci v_350) ho (by kernel_rfl) (by kernel_rfl) (Cell.own 2 rfl (getI_some h_349)) _ hw) fun a hs => ?_
    obtain ⟨v_353, h_352, hm⟩ := bind_t hm
    refine qdc 13 (wire_Machine_Two.ok _ _ _ _ _ _ _ h_352 _ _ _ b_x0 hs.own) hs fun w a hs => ?_
    replace hcl := qO hC_346 hs.own.drop
    refine ⟨fun _ => hcl, ?_⟩
    refine qdp (fuel := 1) [17] hs hcl hqC_346 fun a hs => ?_
    refine Vk.dOnly (i := 18) (by kernel_rfl) (Vk.store1 (b := b_245) (ty := 3) (x := (.tmp 65)) (y := (.tmp 61)) (off := 4) (ci v_353.1) 1 hs (by kernel_rfl) (by kernel_rfl) (by kernel_rfl) (by kernel_rfl) (by kernel_rfl) (by kernel_rfl) rfl (Nat.le_of_ble_eq_true (by kernel_rfl)) fun a w hs => ?_)
    refine ⟨fun h => absurd h (by decide), ?_⟩
    replace hs := hs.pick [0, 4, 5, 7, 8, 11, 40, 41, 44, 45] (L' := [(0, pp b_x0), (4, pp b_241), (5, pp b_242), (7, pp b_245), (8, vi 3), (11, vi 0), (40, vi 3), (41, vi 0), (44, vi 3), (45, vi 2)]) (by kernel_rfl)
    refine Vk.dDone (by kernel_rfl) ?_
    refine hK344 _ _ ?_
    clear hK344
    refine Vk.region ?_
    refine qpk 2 [0, 4, 5, 7, 8, 11, 40, 41, 44, 45] hs fun a hs => hKL341 _ _ ?_
    clear hKL341
    refine Vk.unroll fun KL354 hKL354 => ?_
    refine qsk 1 [0, 4, 5, 7, 8, 11, 40, 41, 44, 45, 46] hs fun a hs => ?_
    refine Vk.seq fun K356 hK356 => ?_
    refine qcf hs ?_
    refine wp_exit ?_
    refine hK312 _ _ ?_
    clear hK312
    refine Vk.region ?_
    refine qpk 2 [0, 4, 5, 7, 8, 40, 41] hs fun a hs => hKL309 _ _ ?_
    clear hKL309
    refine Vk.unroll fun KL357 hKL357 => ?_
    refine qsk 1 [0, 4, 5, 7, 8, 40, 41, 42] hs fun a hs => ?_
    refine qck hs ?_
    refine Vk.seq fun K360 hK360 => ?_
    refine wp_block ?_
    refine qsk 2 [0, 4, 5, 7, 8, 11, 40, 41] hs fun a hs => ?_
    refine qse 2 [(0, pp b_x0), (4, pp b_241), (5, pp b_242), (7, pp b_245), (8, vi 3), (11, vi 1), (40, vi 3), (41, vi 1), (44, vi 3), (45, vi 0)] hs fun a hs => ?_
    refine wp_block ?_
    refine Vk.unroll0 40 ?_
    refine Vk.unroll fun KL363 hKL363 => ?_
    refine qsk 1 [0, 4, 5, 7, 8, 11, 40, 41, 44, 45, 46] hs fun a hs => ?_
    refine qck hs ?_
    refine Vk.seq fun K366 hK366 => ?_
    refine wp_block ?_
    refine qsk 2 [0, 4, 5, 7, 8, 11, 12, 40, 41, 44, 45] hs fun a hs => ?_
    obtain ⟨C_368, hC_368⟩ := qC hs.own.drop
    refine qdr 18 κ C_368 hs fun w hs hqC_368 => ?_
    have hcl := qO hC_368 hs.own.drop
    refine qdp (fuel := 5) [0, 1, 2, 3, 4, 5, 6, 7, 9, 10, 11, 14, 15, 16] hs hcl hqC_368 fun a hs => ?_
    obtain ⟨v_370, h_369, hm⟩ := bind_t hm
    refine Vk.dTakeT (i := 8) (some 56) (vi v_370) hs (by kernel_rfl) hqC_368 hcl (by kernel_rfl) (by kernel_rfl) (op := (.load 3 (.tmp 55))) (by kernel_rfl) (by kernel_rfl) (fun w hw o ho => by rw [hC_368] at hw; exact run_load1 (c := ci v_370) ho (by kernel_rfl) (by kernel_rfl) (Cell.own 3 rfl (getI_some h_369)) _ hw) fun a hs => ?_
    obtain ⟨v_372, h_371, hm⟩ := bind_t hm
    refine Vk.dTakeT (i := 12) (some 60) (vi v_372) hs (by kernel_rfl) hqC_368 hcl (by kernel_rfl) (by kernel_rfl) (op := (.load 3 (.tmp 59))) (by kernel_rfl) (by kernel_rfl) (fun w hw o ho => by rw [hC_368] at hw; exact run_load1 (c := ci v_372) ho (by kernel_rfl) (by kernel_rfl) (Cell.own 2 rfl (getI_some h_371)) _ hw) fun a hs => ?_
    obtain ⟨v_375, h_374, hm⟩ := bind_t hm
    refine qdc 13 (wire_Machine_Two.ok _ _ _ _ _ _ _ h_374 _ _ _ b_x0 hs.own) hs fun w a hs => ?_
    replace hcl := qO hC_368 hs.own.drop
    refine ⟨fun _ => hcl, ?_⟩
    refine qdp (fuel := 1) [17] hs hcl hqC_368 fun a hs => ?_
    refine Vk.dOnly (i := 18) (by kernel_rfl) (Vk.store1 (b := b_245) (ty := 3) (x := (.tmp 65)) (y := (.tmp 61)) (off := 5) (ci v_375.1) 1 hs (by kernel_rfl) (by kernel_rfl) (by kernel_rfl) (by kernel_rfl) (by kernel_rfl) (by kernel_rfl) rfl (Nat.le_of_ble_eq_true (by kernel_rfl)) fun a w hs => ?_)
    refine ⟨fun h => absurd h (by decide), ?_⟩
    replace hs := hs.pick [0, 4, 5, 7, 8, 11, 40, 41, 44, 45] (L' := [(0, pp b_x0), (4, pp b_241), (5, pp b_242), (7, pp b_245), (8, vi 3), (11, vi 1), (40, vi 3), (41, vi 1), (44, vi 3), (45, vi 0)]) (by kernel_rfl)
    refine Vk.dDone (by kernel_rfl) ?_
    refine hK366 _ _ ?_
    clear hK366
    refine Vk.region ?_
    refine qpk 2 [0, 4, 5, 7, 8, 11, 40, 41, 44, 45] hs fun a hs => hKL363 _ _ ?_
    clear hKL363
    refine Vk.unroll fun KL376 hKL376 => ?_
    refine qsk 1 [0, 4, 5, 7, 8, 11, 40, 41, 44, 45, 46] hs fun a hs => ?_
    refine qck hs ?_
    refine Vk.seq fun K379 hK379 => ?_
    refine wp_block ?_
    refine qsk 2 [0, 4, 5, 7, 8, 11, 12, 40, 41, 44, 45] hs fun a hs => ?_
    obtain ⟨C_381, hC_381⟩ := qC hs.own.drop
    refine qdr 18 κ C_381 hs fun w hs hqC_381 => ?_
    have hcl := qO hC_381 hs.own.drop
    refine qdp (fuel := 5) [0, 1, 2, 3, 4, 5, 6, 7, 9, 10, 11, 14, 15, 16] hs hcl hqC_381 fun a hs => ?_
    obtain ⟨v_383, h_382, hm⟩ := bind_t hm
    refine Vk.dTakeT (i := 8) (some 56) (vi v_383) hs (by kernel_rfl) hqC_381 hcl (by kernel_rfl) (by kernel_rfl) (op := (.load 3 (.tmp 55))) (by kernel_rfl) (by kernel_rfl) (fun w hw o ho => by rw [hC_381] at hw; exact run_load1 (c := ci v_383) ho (by kernel_rfl) (by kernel_rfl) (Cell.own 3 rfl (getI_some h_382)) _ hw) fun a hs => ?_
    obtain ⟨v_385, h_384, hm⟩ := bind_t hm
    refine Vk.dTakeT (i := 12) (some 60) (vi v_385) hs (by kernel_rfl) hqC_381 hcl (by kernel_rfl) (by kernel_rfl) (op := (.load 3 (.tmp 59))) (by kernel_rfl) (by kernel_rfl) (fun w hw o ho => by rw [hC_381] at hw; exact run_load1 (c := ci v_385) ho (by kernel_rfl) (by kernel_rfl) (Cell.own 2 rfl (getI_some h_384)) _ hw) fun a hs => ?_
    obtain ⟨v_388, h_387, hm⟩ := bind_t hm
    refine qdc 13 (wire_Machine_Two.ok _ _ _ _ _ _ _ h_387 _ _ _ b_x0 hs.own) hs fun w a hs => ?_
    replace hcl := qO hC_381 hs.own.drop
    refine ⟨fun _ => hcl, ?_⟩
    refine qdp (fuel := 1) [17] hs hcl hqC_381 fun a hs => ?_
    refine Vk.dOnly (i := 18) (by kernel_rfl) (Vk.store1 (b := b_245) (ty := 3) (x := (.tmp 65)) (y := (.tmp 61)) (off := 6) (ci v_388.1) 1 hs (by kernel_rfl) (by kernel_rfl) (by kernel_rfl) (by kernel_rfl) (by kernel_rfl) (by kernel_rfl) rfl (Nat.le_of_ble_eq_true (by kernel_rfl)) fun a w hs => ?_)
    refine ⟨fun h => absurd h (by decide), ?_⟩
    replace hs := hs.pick [0, 4, 5, 7, 8, 11, 40, 41, 44, 45] (L' := [(0, pp b_x0), (4, pp b_241), (5, pp b_242), (7, pp b_245), (8, vi 3), (11, vi 1), (40, vi 3), (41, vi 1), (44, vi 3), (45, vi 1)]) (by kernel_rfl)
    refine Vk.dDone (by kernel_rfl) ?_
    refine hK379 _ _ ?_
    clear hK379
    refine Vk.region ?_
    refine qpe 2 [(0, pp b_x0), (4, pp b_241), (5, pp b_242), (7, pp b_245), (8, vi 3), (11, vi 1), (40, vi 3), (41, vi 1), (44, vi 3), (45, vi 2)] hs fun a hs => hKL376 _ _ ?_
    clear hKL376
    refine Vk.unroll fun KL389 hKL389 => ?_
    refine qsk 1 [0, 4, 5, 7, 8, 11, 40, 41, 44, 45, 46] hs fun a hs => ?_
    refine qck hs ?_
    refine Vk.seq fun K392 hK392 => ?_
    refine wp_block ?_
    refine qsk 2 [0, 4, 5, 7, 8, 11, 12, 40, 41, 44, 45] hs fun a hs => ?_
    obtain ⟨C_394, hC_394⟩ := qC hs.own.drop
    refine qdr 18 κ C_394 hs fun w hs hqC_394 => ?_
    have hcl := qO hC_394 hs.own.drop
    refine qdp (fuel := 5) [0, 1, 2, 3, 4, 5, 6, 7, 9, 10, 11, 14, 15, 16] hs hcl hqC_394 fun a hs => ?_
    obtain ⟨v_396, h_395, hm⟩ := bind_t hm
    refine Vk.dTakeT (i := 8) (some 56) (vi v_396) hs (by kernel_rfl) hqC_394 hcl (by kernel_rfl) (by kernel_rfl) (op := (.load 3 (.tmp 55))) (by kernel_rfl) (by kernel_rfl) (fun w hw o ho => by rw [hC_394] at hw; exact run_load1 (c := ci v_396) ho (by kernel_rfl) (by kernel_rfl) (Cell.own 3 rfl (getI_some h_395)) _ hw) fun a hs => ?_
    obtain ⟨v_398, h_397, hm⟩ := bind_t hm
    refine Vk.dTakeT (i := 12) (some 60) (vi v_398) hs (by kernel_rfl) hqC_394 hcl (by kernel_rfl) (by kernel_rfl) (op := (.load 3 (.tmp 59))) (by kernel_rfl) (by kernel_rfl) (fun w hw o ho => by rw [hC_394] at hw; exact run_load1 (c := ci v_398) ho (by kernel_rfl) (by kernel_rfl) (Cell.own 2 rfl (getI_some h_397)) _ hw) fun a hs => ?_
    obtain ⟨v_401, h_400, hm⟩ := bind_t hm
    refine qdc 13 (wire_Machine_Two.ok _ _ _ _ _ _ _ h_400 _ _ _ b_x0 hs.own) hs fun w a hs => ?_
    replace hcl := qO hC_394 hs.own.drop
    refine ⟨fun _ => hcl, ?_⟩
    refine qdp (fuel := 1) [17] hs hcl hqC_394 fun a hs => ?_
    refine Vk.dOnly (i := 18) (by kernel_rfl) (Vk.store1 (b := b_245) (ty := 3) (x := (.tmp 65)) (y := (.tmp 61)) (off := 7) (ci v_401.1) 1 hs (by kernel_rfl) (by kernel_rfl) (by kernel_rfl) (by kernel_rfl) (by kernel_rfl) (by kernel_rfl) rfl (Nat.le_of_ble_eq_true (by kernel_rfl)) fun a w hs => ?_)
    refine ⟨fun h => absurd h (by decide), ?_⟩
    replace hs := hs.pick [0, 4, 5, 7, 8, 11, 40, 41, 44, 45] (L' := [(0, pp b_x0), (4, pp b_241), (5, pp b_242), (7, pp b_245), (8, vi 3), (11, vi 1), (40, vi 3), (41, vi 1), (44, vi 3), (45, vi 2)]) (by kernel_rfl)
    refine Vk.dDone (by kernel_rfl) ?_
    refine hK392 _ _ ?_
    clear hK392
    refine Vk.region ?_
    refine qpk 2 [0, 4, 5, 7, 8, 11, 40, 41, 44, 45] hs fun a hs => hKL389 _ _ ?_
    clear hKL389
    refine Vk.unroll fun KL402 hKL402 => ?_
    refine qsk 1 [0, 4, 5, 7, 8, 11, 40, 41, 44, 45, 46] hs fun a hs => ?_
    refine Vk.seq fun K404 hK404 => ?_
    refine qcf hs ?_
    refine wp_exit ?_
    refine hK360 _ _ ?_
    clear hK360
    refine Vk.region ?_
    refine qpk 2 [0, 4, 5, 7, 8, 40, 41] hs fun a hs => hKL357 _ _ ?_
    clear hKL357
    refine Vk.unroll fun KL405 hKL405 => ?_
    refine qse 1 [(0, pp b_x0), (4, pp b_241), (5, pp b_242), (7, pp b_245), (8, vi 3), (40, vi 3), (41, vi 2), (42, .bool true)] hs fun a hs => ?_
    refine qck hs ?_
    refine Vk.seq fun K408 hK408 => ?_
    refine wp_block ?_
    refine qsk 2 [0, 4, 5, 7, 8, 11, 40, 41] hs fun a hs => ?_
    refine qsk 2 [0, 4, 5, 7, 8, 11, 40, 41, 44, 45] hs fun a hs => ?_
    refine wp_block ?_
    refine Vk.unroll0 40 ?_
    refine Vk.unroll fun KL411 hKL411 => ?_
    refine qsk 1 [0, 4, 5, 7, 8, 11, 40, 41, 44, 45, 46] hs fun a hs => ?_
    refine qck hs ?_
    refine Vk.seq fun K414 hK414 => ?_
    refine wp_block ?_
    refine qsk 2 [0, 4, 5, 7, 8, 11, 12, 40, 41, 44, 45] hs fun a hs => ?_
    obtain ⟨C_416, hC_416⟩ := qC hs.own.drop
    refine qdr 18 κ C_416 hs fun w hs hqC_416 => ?_
    have hcl := qO hC_416 hs.own.drop
    refine qdp (fuel := 5) [0, 1, 2, 3, 4, 5, 6, 7, 9, 10, 11, 14, 15, 16] hs hcl hqC_416 fun a hs => ?_
    obtain ⟨v_418, h_417, hm⟩ := bind_t hm
    refine Vk.dTakeT (i := 8) (some 56) (vi v_418) hs (by kernel_rfl) hqC_416 hcl (by kernel_rfl) (by kernel_rfl) (op := (.load 3 (.tmp 55))) (by kernel_rfl) (by kernel_rfl) (fun w hw o ho => by rw [hC_416] at hw; exact run_load1 (c := ci v_418) ho (by kernel_rfl) (by kernel_rfl) (Cell.own 3 rfl (getI_some h_417)) _ hw) fun a hs => ?_
    obtain ⟨v_420, h_419, hm⟩ := bind_t hm
    refine Vk.dTakeT (i := 12) (some 60) (vi v_420) hs (by kernel_rfl) hqC_416 hcl (by kernel_rfl) (by kernel_rfl) (op := (.load 3 (.tmp 59))) (by kernel_rfl) (by kernel_rfl) (fun w hw o ho => by rw [hC_416] at hw; exact run_load1 (c := ci v_420) ho (by kernel_rfl) (by kernel_rfl) (Cell.own 2 rfl (getI_some h_419)) _ hw) fun a hs => ?_
    obtain ⟨v_423, h_422, hm⟩ := bind_t hm
    refine qdc 13 (wire_Machine_Two.ok _ _ _ _ _ _ _ h_422 _ _ _ b_x0 hs.own) hs fun w a hs => ?_
    replace hcl := qO hC_416 hs.own.drop
    refine ⟨fun _ => hcl, ?_⟩
    refine qdp (fuel := 1) [17] hs hcl hqC_416 fun a hs => ?_
    refine Vk.dOnly (i := 18) (by kernel_rfl) (Vk.store1 (b := b_245) (ty := 3) (x := (.tmp 65)) (y := (.tmp 61)) (off := 8) (ci v_423.1) 1 hs (by kernel_rfl) (by kernel_rfl) (by kernel_rfl) (by kernel_rfl) (by kernel_rfl) (by kernel_rfl) rfl (Nat.le_of_ble_eq_true (by kernel_rfl)) fun a w hs => ?_)
    refine ⟨fun h => absurd h (by decide), ?_⟩
    replace hs := hs.pick [0, 4, 5, 7, 8, 11, 40, 41, 44, 45] (L' := [(0, pp b_x0), (4, pp b_241), (5, pp b_242), (7, pp b_245), (8, vi 3), (11, vi 2), (40, vi 3), (41, vi 2), (44, vi 3), (45, vi 0)]) (by kernel_rfl)
    refine Vk.dDone (by kernel_rfl) ?_
    refine hK414 _ _ ?_
    clear hK414
    refine Vk.region ?_
    refine qpk 2 [0, 4, 5, 7, 8, 11, 40, 41, 44, 45] hs fun a hs => hKL411 _ _ ?_
    clear hKL411
    refine Vk.unroll fun KL424 hKL424 => ?_
    refine qse 1 [(0, pp b_x0), (4, pp b_241), (5, pp b_242), (7, pp b_245), (8, vi 3), (11, vi 2), (40, vi 3), (41, vi 2), (44, vi 3), (45, vi 1), (46, .bool true)] hs fun a hs => ?_
    refine qck hs ?_
    refine Vk.seq fun K427 hK427 => ?_
    refine wp_block ?_
    refine qsk 2 [0, 4, 5, 7, 8, 11, 12, 40, 41, 44, 45] hs fun a hs => ?_
    obtain ⟨C_429, hC_429⟩ := qC hs.own.drop
    refine qdr 18 κ C_429 hs fun w hs hqC_429 => ?_
    have hcl := qO hC_429 hs.own.drop
    refine qdp (fuel := 5) [0, 1, 2, 3, 4, 5, 6, 7, 9, 10, 11, 14, 15, 16] hs hcl hqC_429 fun a hs => ?_
    obtain ⟨v_431, h_430, hm⟩ := bind_t hm
    refine Vk.dTakeT (i := 8) (some 56) (vi v_431) hs (by kernel_rfl) hqC_429 hcl (by kernel_rfl) (by kernel_rfl) (op := (.load 3 (.tmp 55))) (by kernel_rfl) (by kernel_rfl) (fun w hw o ho => by rw [hC_429] at hw; exact run_load1 (c := ci v_431) ho (by kernel_rfl) (by kernel_rfl) (Cell.own 3 rfl (getI_some h_430)) _ hw) fun a hs => ?_
    obtain ⟨v_433, h_432, hm⟩ := bind_t hm
    refine Vk.dTakeT (i := 12) (some 60) (vi v_433) hs (by kernel_rfl) hqC_429 hcl (by kernel_rfl) (by kernel_rfl) (op := (.load 3 (.tmp 59))) (by kernel_rfl) (by kernel_rfl) (fun w hw o ho => by rw [hC_429] at hw; exact run_load1 (c := ci v_433) ho (by kernel_rfl) (by kernel_rfl) (Cell.own 2 rfl (getI_some h_432)) _ hw) fun a hs => ?_
    obtain ⟨v_436, h_435, hm⟩ := bind_t hm
    refine qdc 13 (wire_Machine_Two.ok _ _ _ _ _ _ _ h_435 _ _ _ b_x0 hs.own) hs fun w a hs => ?_
    replace hcl := qO hC_429 hs.own.drop
    refine ⟨fun _ => hcl, ?_⟩
    refine qdp (fuel := 1) [17] hs hcl hqC_429 fun a hs => ?_
    refine Vk.dOnly (i := 18) (by kernel_rfl) (Vk.store1 (b := b_245) (ty := 3) (x := (.tmp 65)) (y := (.tmp 61)) (off := 9) (ci v_436.1) 1 hs (by kernel_rfl) (by kernel_rfl) (by kernel_rfl) (by kernel_rfl) (by kernel_rfl) (by kernel_rfl) rfl (Nat.le_of_ble_eq_true (by kernel_rfl)) fun a w hs => ?_)
    refine ⟨fun h => absurd h (by decide), ?_⟩
    replace hs := hs.pick [0, 4, 5, 7, 8, 11, 40, 41, 44, 45] (L' := [(0, pp b_x0), (4, pp b_241), (5, pp b_242), (7, pp b_245), (8, vi 3), (11, vi 2), (40, vi 3), (41, vi 2), (44, vi 3), (45, vi 1)]) (by kernel_rfl)
    refine Vk.dDone (by kernel_rfl) ?_
    refine hK427 _ _ ?_
    clear hK427
    refine Vk.region ?_
    refine qpk 2 [0, 4, 5, 7, 8, 11, 40, 41, 44, 45] hs fun a hs => hKL424 _ _ ?_
    clear hKL424
    refine Vk.unroll fun KL437 hKL437 => ?_
    refine qsk 1 [0, 4, 5, 7, 8, 11, 40, 41, 44, 45, 46] hs fun a hs => ?_
    refine qck hs ?_
    refine Vk.seq fun K440 hK440 => ?_
    refine wp_block ?_
    refine qsk 2 [0, 4, 5, 7, 8, 11, 12, 40, 41, 44, 45] hs fun a hs => ?_
    obtain ⟨C_442, hC_442⟩ := qC hs.own.drop
    refine qdr 18 κ C_442 hs fun w hs hqC_442 => ?_
    have hcl := qO hC_442 hs.own.drop
    refine qdp (fuel := 5) [0, 1, 2, 3, 4, 5, 6, 7, 9, 10, 11, 14, 15, 16] hs hcl hqC_442 fun a hs => ?_
    obtain ⟨v_444, h_443, hm⟩ := bind_t hm
    refine Vk.dTakeT (i := 8) (some 56) (vi v_444) hs (by kernel_rfl) hqC_442 hcl (by kernel_rfl) (by kernel_rfl) (op := (.load 3 (.tmp 55))) (by kernel_rfl) (by kernel_rfl) (fun w hw o ho => by rw [hC_442] at hw; exact run_load1 (c := ci v_444) ho (by kernel_rfl) (by kernel_rfl) (Cell.own 3 rfl (getI_some h_443)) _ hw) fun a hs => ?_
    obtain ⟨v_446, h_445, hm⟩ := bind_t hm
    refine Vk.dTakeT (i := 12) (some 60) (vi v_446) hs (by kernel_rfl) hqC_442 hcl (by kernel_rfl) (by kernel_rfl) (op := (.load 3 (.tmp 59))) (by kernel_rfl) (by kernel_rfl) (fun w hw o ho => by rw [hC_442] at hw; exact run_load1 (c := ci v_446) ho (by kernel_rfl) (by kernel_rfl) (Cell.own 2 rfl (getI_some h_445)) _ hw) fun a hs => ?_
    obtain ⟨v_449, h_448, hm⟩ := bind_t hm
    refine qdc 13 (wire_Machine_Two.ok _ _ _ _ _ _ _ h_448 _ _ _ b_x0 hs.own) hs fun w a hs => ?_
    replace hcl := qO hC_442 hs.own.drop
    refine ⟨fun _ => hcl, ?_⟩
    refine qdp (fuel := 1) [17] hs hcl hqC_442 fun a hs => ?_
    refine Vk.dOnly (i := 18) (by kernel_rfl) (Vk.store1 (b := b_245) (ty := 3) (x := (.tmp 65)) (y := (.tmp 61)) (off := 10) (ci v_449.1) 1 hs (by kernel_rfl) (by kernel_rfl) (by kernel_rfl) (by kernel_rfl) (by kernel_rfl) (by kernel_rfl) rfl (Nat.le_of_ble_eq_true (by kernel_rfl)) fun a w hs => ?_)
    refine ⟨fun h => absurd h (by decide), ?_⟩
    replace hs := hs.pick [0, 4, 5, 7, 8, 11, 40, 41, 44, 45] (L' := [(0, pp b_x0), (4, pp b_241), (5, pp b_242), (7, pp b_245), (8, vi 3), (11, vi 2), (40, vi 3), (41, vi 2), (44, vi 3), (45, vi 2)]) (by kernel_rfl)
    refine Vk.dDone (by kernel_rfl) ?_
    refine hK440 _ _ ?_
    clear hK440
    refine Vk.region ?_
    refine qpk 2 [0, 4, 5, 7, 8, 11, 40, 41, 44, 45] hs fun a hs => hKL437 _ _ ?_
    clear hKL437
    refine Vk.unroll fun KL450 hKL450 => ?_
    refine qse 1 [(0, pp b_x0), (4, pp b_241), (5, pp b_242), (7, pp b_245), (8, vi 3), (11, vi 2), (40, vi 3), (41, vi 2), (44, vi 3), (45, vi 3), (46, .bool false)] hs fun a hs => ?_
    refine Vk.seq fun K452 hK452 => ?_
    refine qcf hs ?_
    refine wp_exit ?_
    refine hK408 _ _ ?_
    clear hK408
    refine Vk.region ?_
    refine qpk 2 [0, 4, 5, 7, 8, 40, 41] hs fun a hs => hKL405 _ _ ?_
    clear hKL405
    refine Vk.unroll fun KL453 hKL453 => ?_
    refine qsk 1 [0, 4, 5, 7, 8, 40, 41, 42] hs fun a hs => ?_
    refine Vk.seq fun K455 hK455 => ?_
    refine qcf hs ?_
    refine wp_exit ?_
    refine hK307 _ _ ?_
    clear hK307
    refine qse 2 [(6, pp b_245)] hs fun a hs => ?_
    refine wp_ret ?_
    refine hKP239 _ _ ?_
    refine hKR239 _ _ ?_
    refine Vk.ret1 (P := Try.prog) (fn := Try.f91) (pp b_245) hs rfl (by kernel_rfl) ⟨_, _, _, rfl, hs.own, fun a hs => ?_⟩
    refine qpk 1 [0, 6, 7] hs fun a hs => hK236 _ _ ?_
    clear hK236
    refine qsr fun K457 hK457 => ?_
    refine qpu 3 hs fun a hs => ?_
    refine Vk.step (Vk.call (some 23) 92 #[pp b_245, .func (.func 93) #[pp b_245] #[]] hs (by kernel_rfl) (by kernel_rfl) (by kernel_rfl) ?_)
    refine Vk.enterI [(0, pp b_245), (1, .func (.func 93) #[pp b_245] #[])] Try.func92 rfl Try.ntmps92 (by kernel_rfl) (Nat.le_of_ble_eq_true (by kernel_rfl)) hs.own fun KR458 hKR458 hKP458 a hs => ?_
    refine qsr fun K459 hK459 => ?_
    refine qal 28 [ci 0, ci 0, ci 0] 4 hs fun b_460 w a hs => ?_
    refine qpk 0 [0, 1, 4] hs fun a hs => hK459 _ _ ?_
    clear hK459
    refine qsr fun K461 hK461 => ?_
    refine qpu 2 hs fun a hs => ?_
    refine qal 28 [ci 0, ci 0, ci 0] 5 hs fun b_462 w a hs => ?_
    refine qsa 0 [ci (-1), ci (-1), ci (-1)] hs rfl fun a w hs => ?_
    refine qpe 0 [(0, pp b_245), (1, .func (.func 93) #[pp b_245] #[]), (4, pp b_460), (5, pp b_462)] hs fun a hs => hK461 _ _ ?_
    clear hK461
    refine qsr fun K463 hK463 => ?_
    refine qpu 3 hs fun a hs => ?_
    refine qld 3 (cp b_x0) hs rfl fun a hs => ?_
    obtain ⟨g_464, hs⟩ := hs.unex 2 rfl
    obtain ⟨v_467, h_466, hm⟩ := bind_t hm
    refine qcl (wire_Machine_N.ok _ _ _ h_466 _ _ _ b_x0 g_464 hs.own.f2) hs fun w a hs => ?_
    rcases Bool.eq_false_or_eq_true (v_467 == 3) with hb | hb
    ·replace hm := bif_t hm hb
     obtain rfl := Vk.of_beq hb
     refine qpk 1 [0, 1, 4, 5, 6] hs fun a hs => hK463 _ _ ?_
     clear hK463
     refine Vk.seq fun K468 hK468 => ?_
     refine qsk 2 [0, 1, 4, 5, 6, 16, 17] hs fun a hs => ?_
     refine wp_block ?_
     refine Vk.unroll0 40 ?_
     refine Vk.unroll fun KL470 hKL470 => ?_
     refine qsk 1 [0, 1, 4, 5, 6, 16, 17, 18] hs fun a hs => ?_
     refine qck hs ?_
     refine Vk.seq fun K473 hK473 => ?_
     refine wp_block ?_
     refine qsk 2 [0, 1, 4, 5, 6, 7, 16, 17] hs fun a hs => ?_
     refine qsr fun K475 hK475 => ?_
     refine qpu 8 hs fun a hs => ?_
     refine qld 3 (ci v_327.1) hs rfl fun a hs => ?_
     refine qpu 2 hs fun a hs => ?_
     refine qst 1 0 (ci v_327.1) hs rfl fun a w hs => ?_
     refine qpk 0 [0, 1, 4, 5, 6, 7, 16, 17] hs fun a hs => hK475 _ _ ?_
     clear hK475
     refine qse 2 [(0, pp b_245), (1, .func (.func 93) #[pp b_245] #[]), (4, pp b_460), (5, pp b_462), (6, vi 3), (7, vi 0), (16, vi 3), (17, vi 0), (31, vi 3), (32, vi 0)] hs fun a hs => ?_
     refine wp_block ?_
     refine Vk.unroll0 40 ?_
     refine Vk.unroll fun KL477 hKL477 => ?_
     refine qsk 1 [0, 1, 4, 5, 6, 7, 16, 17, 31, 32, 33] hs fun a hs => ?_
     refine qck hs ?_
     refine Vk.seq fun K480 hK480 => ?_
     refine wp_block ?_
     refine qsk 2 [0, 1, 4, 5, 6, 7, 8, 16, 17, 31, 32] hs fun a hs => ?_
     refine qsk 3 [0, 1, 4, 5, 6, 7, 8, 16, 17, 31, 32, 37] hs fun a hs => ?_
     refine qcf hs ?_
     refine wp_skip ?_
     refine hK480 _ _ ?_
     clear hK480
     refine Vk.region ?_
     refine qpk 2 [0, 1, 4, 5, 6, 7, 16, 17, 31, 32] hs fun a hs => hKL477 _ _ ?_
     clear hKL477
     refine Vk.unroll fun KL483 hKL483 => ?_
     refine qsk 1 [0, 1, 4, 5, 6, 7, 16, 17, 31, 32, 33] hs fun a hs => ?_
     refine qck hs ?_
     refine Vk.seq fun K486 hK486 => ?_
     refine wp_block ?_
     refine qse 2 [(0, pp b_245), (1, .func (.func 93) #[pp b_245] #[]), (4, pp b_460), (5, pp b_462), (6, vi 3), (7, vi 0), (8, vi 1), (16, vi 3), (17, vi 0), (31, vi 3), (32, vi 1)] hs fun a hs => ?_
     refine qsk 3 [0, 1, 4, 5, 6, 7, 8, 16, 17, 31, 32, 37] hs fun a hs => ?_
     refine qct hs ?_
     obtain ⟨C_489, hC_489⟩ := qC hs.own.drop
     refine qdr 17 κ C_489 hs fun w hs hqC_489 => ?_
     have hcl := qO hC_489 hs.own.drop
     refine qdp (fuel := 6) [0, 1, 2, 3, 5, 6, 7, 8, 10, 11, 12, 15] hs hcl hqC_489 fun a hs => ?_
     refine qdl 4 2 (cp b_x0) hs hcl hqC_489 hC_489 rfl fun a hs => ?_
     refine qdl 9 0 (ci v_327.1) hs hcl hqC_489 hC_489 rfl fun a hs => ?_
     refine Vk.dOnly (i := 13) (by kernel_rfl) (Vk.call (some 51) 93 #[pp b_245, vi 0, vi 1] hs (by kernel_rfl) (by kernel_rfl) (by kernel_rfl) ?_)
     refine Vk.enterI [(0, pp b_245), (1, vi 0), (2, vi 1)] Try.func93 rfl Try.ntmps93 (by kernel_rfl) (Nat.le_of_ble_eq_true (by kernel_rfl)) hs.own fun KR490 hKR490 hKP490 a hs => ?_
     refine qsk 1 [0, 1, 2] hs fun a hs => ?_
     refine Vk.seq fun K492 hK492 => ?_
     obtain ⟨C_493, hC_493⟩ := qC hs.own
     refine qdr 17 κ C_493 hs fun w hs hqC_493 => ?_
     have hcl := qO hC_493 hs.own
     refine qdp (fuel := 5) [0, 1, 2, 4, 5, 6, 7, 8, 9, 10, 11, 13, 14, 15] hs hcl hqC_493 fun a hs => ?_
     refine qdl 3 3 (cp b_x0) hs hcl hqC_493 hC_493 rfl fun a hs => ?_
     refine qdl 12 3 (ci v_340.1) hs hcl hqC_493 hC_493 rfl fun a hs => ?_
     refine Vk.dOnly (i := 16) (by kernel_rfl) (Vk.call (some 23) 151 #[pp b_245, vi 0, vi 1] hs (by kernel_rfl) (by kernel_rfl) (by kernel_rfl) ?_)
     refine Vk.enterI [(0, pp b_245), (1, vi 0), (2, vi 1)] Try.func151 rfl Try.ntmps151 (by kernel_rfl) (Nat.le_of_ble_eq_true (by kernel_rfl)) hs.own fun KR494 hKR494 hKP494 a hs => ?_
     refine qsk 1 [0, 1, 2] hs fun a hs => ?_
     refine qsr fun K496 hK496 => ?_
     refine qpu 3 hs fun a hs => ?_
     refine qld 3 (C.map (some b_244)) hs rfl fun a hs => ?_
     refine qpu 7 hs fun a hs => ?_
     refine Vk.step (Vk.value (some 18) (vi v_266.1) hs (by kernel_rfl) (op := (.lookup 186 (.tmp 10) (.tmp 17) false)) (by kernel_rfl) (fun o ho => run_lookup (b := b_244) (key := .agg (vals [ci 0, ci 1])) 4 rfl ho (by kernel_rfl) (by kernel_rfl) (by kernel_rfl) _ hs.own) fun a hs => ?_)
     refine qpe 1 [(6, vi v_266.1)] hs fun a hs => hK496 _ _ ?_
     clear hK496
     refine wp_ret ?_
     refine hKP494 _ _ ?_
     refine hKR494 _ _ ?_
     refine Vk.ret1 (P := Try.prog) (fn := Try.f151) (vi v_266.1) hs rfl (by kernel_rfl) ⟨_, _, _, rfl, hs.own, fun a hs => ?_⟩
     replace hcl := qO hC_493 hs.own
     refine ⟨fun _ => hcl, ?_⟩
     replace hs := hs.toEx (Twire_Machine.parts b_x0 v_449.2) g_464 0 rfl
     obtain ⟨v_499, h_498, hm⟩ := bind_t hm
     refine qdc 17 (wire_Machine_Two.ok _ _ _ _ _ _ _ h_498 _ _ _ b_x0 hs.own) hs fun w a hs => ?_
     refine ⟨fun h => absurd h (by decide), ?_⟩
     refine Vk.dOnly (i := 18) (by kernel_rfl) (Vk.dPure1 [(6, vi v_499.1)] hs (by kernel_rfl) fun a hs => ?_)
     refine ⟨fun h => absurd h (by decide), ?_⟩
     replace hs := hs.pick [6] (L' := [(6, vi v_499.1)]) (by kernel_rfl)
     refine Vk.dDone (by kernel_rfl) ?_
     refine hK492 _ _ ?_
     clear hK492
     refine wp_ret ?_
     refine hKP490 _ _ ?_
     refine hKR490 _ _ ?_
     refine Vk.ret1 (P := Try.prog) (fn := Try.f93) (vi v_499.1) hs rfl (by kernel_rfl) ⟨_, _, _, rfl, hs.own, fun a hs => ?_⟩
     replace hcl := qO hC_489 hs.own.drop
     refine ⟨fun _ => hcl, ?_⟩
     obtain ⟨v_502, h_501, hm⟩ := bind_t hm
     refine qdc 14 (wire_Machine_Two.ok _ _ _ _ _ _ _ h_501 _ _ _ b_x0 hs.own) hs fun w a hs => ?_
     replace hcl := qO hC_489 hs.own.drop
     refine ⟨fun _ => hcl, ?_⟩
     refine qdp (fuel := 1) [16] hs hcl hqC_489 fun a hs => ?_
     refine Vk.dOnly (i := 17) (by kernel_rfl) (Vk.store1 (b := b_462) (ty := 3) (x := (.tmp 54)) (y := (.tmp 52)) (off := 0) (ci v_502.1) 1 hs (by kernel_rfl) (by kernel_rfl) (by kernel_rfl) (by kernel_rfl) (by kernel_rfl) (by kernel_rfl) rfl (Nat.le_of_ble_eq_true (by kernel_rfl)) fun a w hs => ?_)
     refine ⟨fun h => absurd h (by decide), ?_⟩
     replace hs := hs.pick [0, 1, 4, 5, 6, 7, 16, 17, 31, 32] (L' := [(0, pp b_245), (1, .func (.func 93) #[pp b_245] #[]), (4, pp b_460), (5, pp b_462), (6, vi 3), (7, vi 0), (16, vi 3), (17, vi 0), (31, vi 3), (32, vi 1)]) (by kernel_rfl)
     refine Vk.dDone (by kernel_rfl) ?_
     refine hK486 _ _ ?_
     clear hK486
     refine Vk.region ?_
     refine qpk 2 [0, 1, 4, 5, 6, 7, 16, 17, 31, 32] hs fun a hs => hKL483 _ _ ?_
     clear hKL483
     refine Vk.unroll fun KL503 hKL503 => ?_
     refine qsk 1 [0, 1, 4, 5, 6, 7, 16, 17, 31, 32, 33] hs fun a hs => ?_
     refine qck hs ?_
     refine Vk.seq fun K506 hK506 => ?_
     refine wp_block ?_
     refine qsk 2 [0, 1, 4, 5, 6, 7, 8, 16, 17, 31, 32] hs fun a hs => ?_
     refine qsk 3 [0, 1, 4, 5, 6, 7, 8, 16, 17, 31, 32, 37] hs fun a hs => ?_
     refine qct hs ?_
     obtain ⟨C_509, hC_509⟩ := qC hs.own.drop
     refine qdr 17 κ C_509 hs fun w hs hqC_509 => ?_
     have hcl := qO hC_509 hs.own.drop
     refine qdp (fuel := 6) [0, 1, 2, 3, 5, 6, 7, 8, 10, 11, 12, 15] hs hcl hqC_509 fun a hs => ?_
     refine qdl 4 2 (cp b_x0) hs hcl hqC_509 hC_509 rfl fun a hs => ?_
     refine qdl 9 0 (ci v_502.1) hs hcl hqC_509 hC_509 rfl fun a hs => ?_
     refine Vk.dOnly (i := 13) (by kernel_rfl) (Vk.call (some 51) 93 #[pp b_245, vi 0, vi 2] hs (by kernel_rfl) (by kernel_rfl) (by kernel_rfl) ?_)
     refine Vk.enterI [(0, pp b_245), (1, vi 0), (2, vi 2)] Try.func93 rfl Try.ntmps93 (by kernel_rfl) (Nat.le_of_ble_eq_true (by kernel_rfl)) hs.own fun KR510 hKR510 hKP510 a hs => ?_
     refine qsk 1 [0, 1, 2] hs fun a hs => ?_
     refine Vk.seq fun K512 hK512 => ?_
     obtain ⟨C_513, hC_513⟩ := qC hs.own
     refine qdr 17 κ C_513 hs fun w hs hqC_513 => ?_
     have hcl := qO hC_513 hs.own
     refine qdp (fuel := 5) [0, 1, 2, 4, 5, 6, 7, 8, 9, 10, 11, 13, 14, 15] hs hcl hqC_513 fun a hs => ?_
     refine qdl 3 3 (cp b_x0) hs hcl hqC_513 hC_513 rfl fun a hs => ?_
     refine qdl 12 3 (ci v_353.1) hs hcl hqC_513 hC_513 rfl fun a hs => ?_
     refine Vk.dOnly (i := 16) (by kernel_rfl) (Vk.call (some 23) 151 #[pp b_245, vi 0, vi 2] hs (by kernel_rfl) (by kernel_rfl) (by kernel_rfl) ?_)
     refine Vk.enterI [(0, pp b_245), (1, vi 0), (2, vi 2)] Try.func151 rfl Try.ntmps151 (by kernel_rfl) (Nat.le_of_ble_eq_true (by kernel_rfl)) hs.own fun KR514 hKR514 hKP514 a hs => ?_
     refine qse 1 [(0, pp b_245), (1, vi 0), (2, vi 2)] hs fun a hs => ?_
     refine qsr fun K516 hK516 => ?_
     refine qpu 3 hs fun a hs => ?_
     refine qld 3 (C.map (some b_244)) hs rfl fun a hs => ?_
     refine qpu 7 hs fun a hs => ?_
     refine Vk.step (Vk.value (some 18) (vi v_274.1) hs (by kernel_rfl) (op := (.lookup 186 (.tmp 10) (.tmp 17) false)) (by kernel_rfl) (fun o ho => run_lookup (b := b_244) (key := .agg (vals [ci 0, ci 2])) 4 rfl ho (by kernel_rfl) (by kernel_rfl) (by kernel_rfl) _ hs.own) fun a hs => ?_)
     refine qpe 1 [(6, vi v_274.1)] hs fun a hs => hK516 _ _ ?_
     clear hK516
     refine wp_ret ?_
     refine hKP514 _ _ ?_
     refine hKR514 _ _ ?_
     refine Vk.ret1 (P := Try.prog) (fn := Try.f151) (vi v_274.1) hs rfl (by kernel_rfl) ⟨_, _, _, rfl, hs.own, fun a hs => ?_⟩
     replace hcl := qO hC_513 hs.own
     refine ⟨fun _ => hcl, ?_⟩
     obtain ⟨v_519, h_518, hm⟩ := bind_t hm
     refine qdc 17 (wire_Machine_Two.ok _ _ _ _ _ _ _ h_518 _ _ _ b_x0 hs.own) hs fun w a hs => ?_
     refine ⟨fun h => absurd h (by decide), ?_⟩
     refine Vk.dOnly (i := 18) (by kernel_rfl) (Vk.dPure1 [(6, vi v_519.1)] hs (by kernel_rfl) fun a hs => ?_)
     refine ⟨fun h => absurd h (by decide), ?_⟩
     replace hs := hs.pick [6] (L' := [(6, vi v_519.1)]) (by kernel_rfl)
     refine Vk.dDone (by kernel_rfl) ?_
     refine hK512 _ _ ?_
     clear hK512
     refine wp_ret ?_
     refine hKP510 _ _ ?_
     refine hKR510 _ _ ?_
     refine Vk.ret1 (P := Try.prog) (fn := Try.f93) (vi v_519.1) hs rfl (by kernel_rfl) ⟨_, _, _, rfl, hs.own, fun a hs => ?_⟩
     replace hcl := qO hC_509 hs.own.drop
     refine ⟨fun _ => hcl, ?_⟩
     obtain ⟨v_522, h_521, hm⟩ := bind_t hm
     refine qdc 14 (wire_Machine_Two.ok _ _ _ _ _ _ _ h_521 _ _ _ b_x0 hs.own) hs fun w a hs => ?_
     replace hcl := qO hC_509 hs.own.drop
     refine ⟨fun _ => hcl, ?_⟩
     refine qdp (fuel := 1) [16] hs hcl hqC_509 fun a hs => ?_
     refine Vk.dOnly (i := 17) (by kernel_rfl) (Vk.store1 (b := b_462) (ty := 3) (x := (.tmp 54)) (y := (.tmp 52)) (off := 0) (ci v_522.1) 1 hs (by kernel_rfl) (by kernel_rfl) (by kernel_rfl) (by kernel_rfl) (by kernel_rfl) (by kernel_rfl) rfl (Nat.le_of_ble_eq_true (by kernel_rfl)) fun a w hs => ?_)
     refine ⟨fun h => absurd h (by decide), ?_⟩
     replace hs := hs.pick [0, 1, 4, 5, 6, 7, 16, 17, 31, 32] (L' := [(0, pp b_245), (1, .func (.func 93) #[pp b_245] #[]), (4, pp b_460), (5, pp b_462), (6, vi 3), (7, vi 0), (16, vi 3), (17, vi 0), (31, vi 3), (32, vi 2)]) (by kernel_rfl)
     refine Vk.dDone (by kernel_rfl) ?_
     refine hK506 _ _ ?_
     clear hK506
     refine Vk.region ?_
     refine qpk 2 [0, 1, 4, 5, 6, 7, 16, 17, 31, 32] hs fun a hs => hKL503 _ _ ?_
     clear hKL503
     refine Vk.unroll fun KL523 hKL523 => ?_
     refine qsk 1 [0, 1, 4, 5, 6, 7, 16, 17, 31, 32, 33] hs fun a hs => ?_
     refine Vk.seq fun K525 hK525 => ?_
     refine qcf hs ?_
     refine wp_exit ?_
     refine hK473 _ _ ?_
     clear hK473
     refine Vk.region ?_
     refine qpk 2 [0, 1, 4, 5, 6, 16, 17] hs fun a hs => hKL470 _ _ ?_
     clear hKL470
     refine Vk.unroll fun KL526 hKL526 => ?_
     refine qsk 1 [0, 1, 4, 5, 6, 16, 17, 18] hs fun a hs => ?_
     refine qck hs ?_
     refine Vk.seq fun K529 hK529 => ?_
     refine wp_block ?_
     refine qsk 2 [0, 1, 4, 5, 6, 7, 16, 17] hs fun a hs => ?_
     refine qsr fun K531 hK531 => ?_
     refine qpu 8 hs fun a hs => ?_
     refine qld 3 (ci v_388.1) hs rfl fun a hs => ?_
     refine qpu 2 hs fun a hs => ?_
     refine qst 1 1 (ci v_388.1) hs rfl fun a w hs => ?_
     refine qpe 0 [(0, pp b_245), (1, .func (.func 93) #[pp b_245] #[]), (4, pp b_460), (5, pp b_462), (6, vi 3), (7, vi 1), (16, vi 3), (17, vi 1)] hs fun a hs => hK531 _ _ ?_
     clear hK531
     refine qsk 2 [0, 1, 4, 5, 6, 7, 16, 17, 31, 32] hs fun a hs => ?_
     refine wp_block ?_
     refine Vk.unroll0 40 ?_
     refine Vk.unroll fun KL533 hKL533 => ?_
     refine qsk 1 [0, 1, 4, 5, 6, 7, 16, 17, 31, 32, 33] hs fun a hs => ?_
     refine qck hs ?_
     refine Vk.seq fun K536 hK536 => ?_
     refine wp_block ?_
     refine qsk 2 [0, 1, 4, 5, 6, 7, 8, 16, 17, 31, 32] hs fun a hs => ?_
     refine qsk 3 [0, 1, 4, 5, 6, 7, 8, 16, 17, 31, 32, 37] hs fun a hs => ?_
     refine qct hs ?_
     obtain ⟨C_539, hC_539⟩ := qC hs.own.drop
     refine qdr 17 κ C_539 hs fun w hs hqC_539 => ?_
     have hcl := qO hC_539 hs.own.drop
     refine qdp (fuel := 6) [0, 1, 2, 3, 5, 6, 7, 8, 10, 11, 12, 15] hs hcl hqC_539 fun a hs => ?_
     refine qdl 4 2 (cp b_x0) hs hcl hqC_539 hC_539 rfl fun a hs => ?_
     refine qdl 9 0 (ci v_388.1) hs hcl hqC_539 hC_539 rfl fun a hs => ?_
     refine Vk.dOnly (i := 13) (by kernel_rfl) (Vk.call (some 51) 93 #[pp b_245, vi 1, vi 0] hs (by kernel_rfl) (by kernel_rfl) (by kernel_rfl) ?_)
     refine Vk.enterI [(0, pp b_245), (1, vi 1), (2, vi 0)] Try.func93 rfl Try.ntmps93 (by kernel_rfl) (Nat.le_of_ble_eq_true (by kernel_rfl)) hs.own fun KR540 hKR540 hKP540 a hs => ?_
     refine qsk 1 [0, 1, 2] hs fun a hs => ?_
     refine Vk.seq fun K542 hK542 => ?_
     obtain ⟨C_543, hC_543⟩ := qC hs.own
     refine qdr 17 κ C_543 hs fun w hs hqC_543 => ?_
     have hcl := qO hC_543 hs.own
     refine qdp (fuel := 5) [0, 1, 2, 4, 5, 6, 7, 8, 9, 10, 11, 13, 14, 15] hs hcl hqC_543 fun a hs => ?_
     refine qdl 3 3 (cp b_x0) hs hcl hqC_543 hC_543 rfl fun a hs => ?_
     refine qdl 12 3 (ci v_375.1) hs hcl hqC_543 hC_543 rfl fun a hs => ?_
     refine Vk.dOnly (i := 16) (by kernel_rfl) (Vk.call (some 23) 151 #[pp b_245, vi 1, vi 0] hs (by kernel_rfl) (by kernel_rfl) (by kernel_rfl) ?_)
     refine Vk.enterI [(0, pp b_245), (1, vi 1), (2, vi 0)] Try.func151 rfl Try.ntmps151 (by kernel_rfl) (Nat.le_of_ble_eq_true (by kernel_rfl)) hs.own fun KR544 hKR544 hKP544 a hs => ?_
     refine qse 1 [(0, pp b_245), (1, vi 1), (2, vi 0)] hs fun a hs => ?_
     refine qsr fun K546 hK546 => ?_
     refine qpu 3 hs fun a hs => ?_
     refine qld 3 (C.map (some b_244)) hs rfl fun a hs => ?_
     refine qpu 7 hs fun a hs => ?_
     refine Vk.step (Vk.value (some 18) (vi v_266.1) hs (by kernel_rfl) (op := (.lookup 186 (.tmp 10) (.tmp 17) false)) (by kernel_rfl) (fun o ho => run_lookup (b := b_244) (key := .agg (vals [ci 0, ci 1])) 4 rfl ho (by kernel_rfl) (by kernel_rfl) (by kernel_rfl) _ hs.own) fun a hs => ?_)
     refine qpe 1 [(6, vi v_266.1)] hs fun a hs => hK546 _ _ ?_
     clear hK546
     refine wp_ret ?_
     refine hKP544 _ _ ?_
     refine hKR544 _ _ ?_
     refine Vk.ret1 (P := Try.prog) (fn := Try.f151) (vi v_266.1) hs rfl (by kernel_rfl) ⟨_, _, _, rfl, hs.own, fun a hs => ?_⟩
     replace hcl := qO hC_543 hs.own
     refine ⟨fun _ => hcl, ?_⟩
     obtain ⟨v_549, h_548, hm⟩ := bind_t hm
     refine qdc 17 (wire_Machine_Two.ok _ _ _ _ _ _ _ h_548 _ _ _ b_x0 hs.own) hs fun w a hs => ?_
     refine ⟨fun h => absurd h (by decide), ?_⟩
     refine Vk.dOnly (i := 18) (by kernel_rfl) (Vk.dPure1 [(6, vi v_549.1)] hs (by kernel_rfl) fun a hs => ?_)
     refine ⟨fun h => absurd h (by decide), ?_⟩
     replace hs := hs.pick [6] (L' := [(6, vi v_549.1)]) (by kernel_rfl)
     refine Vk.dDone (by kernel_rfl) ?_
     refine hK542 _ _ ?_
     clear hK542
     refine wp_ret ?_
     refine hKP540 _ _ ?_
     refine hKR540 _ _ ?_
     refine Vk.ret1 (P := Try.prog) (fn := Try.f93) (vi v_549.1) hs rfl (by kernel_rfl) ⟨_, _, _, rfl, hs.own, fun a hs => ?_⟩
     replace hcl := qO hC_539 hs.own.drop
     refine ⟨fun _ => hcl, ?_⟩
     obtain ⟨v_552, h_551, hm⟩ := bind_t hm
     refine qdc 14 (wire_Machine_Two.ok _ _ _ _ _ _ _ h_551 _ _ _ b_x0 hs.own) hs fun w a hs => ?_
     replace hcl := qO hC_539 hs.own.drop
     refine ⟨fun _ => hcl, ?_⟩
     refine qdp (fuel := 1) [16] hs hcl hqC_539 fun a hs => ?_
     refine Vk.dOnly (i := 17) (by kernel_rfl) (Vk.store1 (b := b_462) (ty := 3) (x := (.tmp 54)) (y := (.tmp 52)) (off := 1) (ci v_552.1) 1 hs (by kernel_rfl) (by kernel_rfl) (by kernel_rfl) (by kernel_rfl) (by kernel_rfl) (by kernel_rfl) rfl (Nat.le_of_ble_eq_true (by kernel_rfl)) fun a w hs => ?_)
     refine ⟨fun h => absurd h (by decide), ?_⟩
     replace hs := hs.pick [0, 1, 4, 5, 6, 7, 16, 17, 31, 32] (L' := [(0, pp b_245), (1, .func (.func 93) #[pp b_245] #[]), (4, pp b_460), (5, pp b_462), (6, vi 3), (7, vi 1), (16, vi 3), (17, vi 1), (31, vi 3), (32, vi 0)]) (by kernel_rfl)
     refine Vk.dDone (by kernel_rfl) ?_
     refine hK536 _ _ ?_
     clear hK536
     refine Vk.region ?_
     refine qpk 2 [0, 1, 4, 5, 6, 7, 16, 17, 31, 32] hs fun a hs => hKL533 _ _ ?_
     clear hKL533
     refine Vk.unroll fun KL553 hKL553 => ?_
     refine qsk 1 [0, 1, 4, 5, 6, 7, 16, 17, 31, 32, 33] hs fun a hs => ?_
     refine qck hs ?_
     refine Vk.seq fun K556 hK556 => ?_
     refine wp_block ?_
     refine qsk 2 [0, 1, 4, 5, 6, 7, 8, 16, 17, 31, 32] hs fun a hs => ?_
     refine qsk 3 [0, 1, 4, 5, 6, 7, 8, 16, 17, 31, 32, 37] hs fun a hs => ?_
     refine qcf hs ?_
     refine wp_skip ?_
     refine hK556 _ _ ?_
     clear hK556
     refine Vk.region ?_
     refine qpk 2 [0, 1, 4, 5, 6, 7, 16, 17, 31, 32] hs fun a hs => hKL553 _ _ ?_
     clear hKL553
     refine Vk.unroll fun KL559 hKL559 => ?_
     refine qse 1 [(0, pp b_245), (1, .func (.func 93) #[pp b_245] #[]), (4, pp b_460), (5, pp b_462), (6, vi 3), (7, vi 1), (16, vi 3), (17, vi 1), (31, vi 3), (32, vi 2), (33, .bool true)] hs fun a hs => ?_
     refine qck hs ?_
     refine Vk.seq fun K562 hK562 => ?_
     refine wp_block ?_
     refine qsk 2 [0, 1, 4, 5, 6, 7, 8, 16, 17, 31, 32] hs fun a hs => ?_
     refine qsk 3 [0, 1, 4, 5, 6, 7, 8, 16, 17, 31, 32, 37] hs fun a hs => ?_
     refine qct hs ?_
     obtain ⟨C_565, hC_565⟩ := qC hs.own.drop
     refine qdr 17 κ C_565 hs fun w hs hqC_565 => ?_
     have hcl := qO hC_565 hs.own.drop
     refine qdp (fuel := 6) [0, 1, 2, 3, 5, 6, 7, 8, 10, 11, 12, 15] hs hcl hqC_565 fun a hs => ?_
     refine qdl 4 2 (cp b_x0) hs hcl hqC_565 hC_565 rfl fun a hs => ?_
     refine qdl 9 0 (ci v_552.1) hs hcl hqC_565 hC_565 rfl fun a hs => ?_
     refine Vk.dOnly (i := 13) (by kernel_rfl) (Vk.call (some 51) 93 #[pp b_245, vi 1, vi 2] hs (by kernel_rfl) (by kernel_rfl) (by kernel_rfl) ?_)
     refine Vk.enterI [(0, pp b_245), (1, vi 1), (2, vi 2)] Try.func93 rfl Try.ntmps93 (by kernel_rfl) (Nat.le_of_ble_eq_true (by kernel_rfl)) hs.own fun KR566 hKR566 hKP566 a hs => ?_
     refine qsk 1 [0, 1, 2] hs fun a hs => ?_
     refine Vk.seq fun K568 hK568 => ?_
     obtain ⟨C_569, hC_569⟩ := qC hs.own
     refine qdr 17 κ C_569 hs fun w hs hqC_569 => ?_
     have hcl := qO hC_569 hs.own
     refine qdp (fuel := 5) [0, 1, 2, 4, 5, 6, 7, 8, 9, 10, 11, 13, 14, 15] hs hcl hqC_569 fun a hs => ?_
     refine qdl 3 3 (cp b_x0) hs hcl hqC_569 hC_569 rfl fun a hs => ?_
     refine qdl 12 3 (ci v_401.1) hs hcl hqC_569 hC_569 rfl fun a hs => ?_
     refine Vk.dOnly (i := 16) (by kernel_rfl) (Vk.call (some 23) 151 #[pp b_245, vi 1, vi 2] hs (by kernel_rfl) (by kernel_rfl) (by kernel_rfl) ?_)
     refine Vk.enterI [(0, pp b_245), (1, vi 1), (2, vi 2)] Try.func151 rfl Try.ntmps151 (by kernel_rfl) (Nat.le_of_ble_eq_true (by kernel_rfl)) hs.own fun KR570 hKR570 hKP570 a hs => ?_
     refine qsk 1 [0, 1, 2] hs fun a hs => ?_
     refine qsr fun K572 hK572 => ?_
     refine qpu 3 hs fun a hs => ?_
     refine qld 3 (C.map (some b_244)) hs rfl fun a hs => ?_
     refine qpu 7 hs fun a hs => ?_
     refine Vk.step (Vk.value (some 18) (vi v_291.1) hs (by kernel_rfl) (op := (.lookup 186 (.tmp 10) (.tmp 17) false)) (by kernel_rfl) (fun o ho => run_lookup (b := b_244) (key := .agg (vals [ci 1, ci 2])) 4 rfl ho (by kernel_rfl) (by kernel_rfl) (by kernel_rfl) _ hs.own) fun a hs => ?_)
     refine qpe 1 [(6, vi v_291.1)] hs fun a hs => hK572 _ _ ?_
     clear hK572
     refine wp_ret ?_
     refine hKP570 _ _ ?_
     refine hKR570 _ _ ?_
     refine Vk.ret1 (P := Try.prog) (fn := Try.f151) (vi v_291.1) hs rfl (by kernel_rfl) ⟨_, _, _, rfl, hs.own, fun a hs => ?_⟩
     replace hcl := qO hC_569 hs.own
     refine ⟨fun _ => hcl, ?_⟩
     obtain ⟨v_575, h_574, hm⟩ := bind_t hm
     refine qdc 17 (wire_Machine_Two.ok _ _ _ _ _ _ _ h_574 _ _ _ b_x0 hs.own) hs fun w a hs => ?_
     refine ⟨fun h => absurd h (by decide), ?_⟩
     refine Vk.dOnly (i := 18) (by kernel_rfl) (Vk.dPure1 [(6, vi v_575.1)] hs (by kernel_rfl) fun a hs => ?_)
     refine ⟨fun h => absurd h (by decide), ?_⟩
     replace hs := hs.pick [6] (L' := [(6, vi v_575.1)]) (by kernel_rfl)
     refine Vk.dDone (by kernel_rfl) ?_
     refine hK568 _ _ ?_
     clear hK568
     refine wp_ret ?_
     refine hKP566 _ _ ?_
     refine hKR566 _ _ ?_
     refine Vk.ret1 (P := Try.prog) (fn := Try.f93) (vi v_575.1) hs rfl (by kernel_rfl) ⟨_, _, _, rfl, hs.own, fun a hs => ?_⟩
     replace hcl := qO hC_565 hs.own.drop
     refine ⟨fun _ => hcl, ?_⟩
     obtain ⟨v_578, h_577, hm⟩ := bind_t hm
     refine qdc 14 (wire_Machine_Two.ok _ _ _ _ _ _ _ h_577 _ _ _ b_x0 hs.own) hs fun w a hs => ?_
     replace hcl := qO hC_565 hs.own.drop
     refine ⟨fun _ => hcl, ?_⟩
     refine qdp (fuel := 1) [16] hs hcl hqC_565 fun a hs => ?_
     refine Vk.dOnly (i := 17) (by kernel_rfl) (Vk.store1 (b := b_462) (ty := 3) (x := (.tmp 54)) (y := (.tmp 52)) (off := 1) (ci v_578.1) 1 hs (by kernel_rfl) (by kernel_rfl) (by kernel_rfl) (by kernel_rfl) (by kernel_rfl) (by kernel_rfl) rfl (Nat.le_of_ble_eq_true (by kernel_rfl)) fun a w hs => ?_)
     refine ⟨fun h => absurd h (by decide), ?_⟩
     replace hs := hs.pick [0, 1, 4, 5, 6, 7, 16, 17, 31, 32] (L' := [(0, pp b_245), (1, .func (.func 93) #[pp b_245] #[]), (4, pp b_460), (5, pp b_462), (6, vi 3), (7, vi 1), (16, vi 3), (17, vi 1), (31, vi 3), (32, vi 2)]) (by kernel_rfl)
     refine Vk.dDone (by kernel_rfl) ?_
     refine hK562 _ _ ?_
     clear hK562
     refine Vk.region ?_
     refine qpk 2 [0, 1, 4, 5, 6, 7, 16, 17, 31, 32] hs fun a hs => hKL559 _ _ ?_
     clear hKL559
     refine Vk.unroll fun KL579 hKL579 => ?_
     refine qsk 1 [0, 1, 4, 5, 6, 7, 16, 17, 31, 32, 33] hs fun a hs => ?_
     refine Vk.seq fun K581 hK581 => ?_
     refine qcf hs ?_
     refine wp_exit ?_
     refine hK529 _ _ ?_
     clear hK529
     refine Vk.region ?_
     refine qpk 2 [0, 1, 4, 5, 6, 16, 17] hs fun a hs => hKL526 _ _ ?_
     clear hKL526
     refine Vk.unroll fun KL582 hKL582 => ?_
     refine qsk 1 [0, 1, 4, 5, 6, 16, 17, 18] hs fun a hs => ?_
     refine qck hs ?_
     refine Vk.seq fun K585 hK585 => ?_
     refine wp_block ?_
     refine qsk 2 [0, 1, 4, 5, 6, 7, 16, 17] hs fun a hs => ?_
     refine qsr fun K587 hK587 => ?_
     refine qpu 8 hs fun a hs => ?_
     refine qld 3 (ci v_449.1) hs rfl fun a hs => ?_
     refine qpu 2 hs fun a hs => ?_
     refine qst 1 2 (ci v_449.1) hs rfl fun a w hs => ?_
     refine qpe 0 [(0, pp b_245), (1, .func (.func 93) #[pp b_245] #[]), (4, pp b_460), (5, pp b_462), (6, vi 3), (7, vi 2), (16, vi 3), (17, vi 2)] hs fun a hs => hK587 _ _ ?_
     clear hK587
     refine qsk 2 [0, 1, 4, 5, 6, 7, 16, 17, 31, 32] hs fun a hs => ?_
     refine wp_block ?_
     refine Vk.unroll0 40 ?_
     refine Vk.unroll fun KL589 hKL589 => ?_
     refine qsk 1 [0, 1, 4, 5, 6, 7, 16, 17, 31, 32, 33] hs fun a hs => ?_
     refine qck hs ?_
     refine Vk.seq fun K592 hK592 => ?_
     refine wp_block ?_
     refine qsk 2 [0, 1, 4, 5, 6, 7, 8, 16, 17, 31, 32] hs fun a hs => ?_
     refine qsk 3 [0, 1, 4, 5, 6, 7, 8, 16, 17, 31, 32, 37] hs fun a hs => ?_
     refine qct hs ?_
     obtain ⟨C_595, hC_595⟩ := qC hs.own.drop
     refine qdr 17 κ C_595 hs fun w hs hqC_595 => ?_
     have hcl := qO hC_595 hs.own.drop
     refine qdp (fuel := 6) [0, 1, 2, 3, 5, 6, 7, 8, 10, 11, 12, 15] hs hcl hqC_595 fun a hs => ?_
     refine qdl 4 2 (cp b_x0) hs hcl hqC_595 hC_595 rfl fun a hs => ?_
     refine qdl 9 0 (ci v_449.1) hs hcl hqC_595 hC_595 rfl fun a hs => ?_
     refine Vk.dOnly (i := 13) (by kernel_rfl) (Vk.call (some 51) 93 #[pp b_245, vi 2, vi 0] hs (by kernel_rfl) (by kernel_rfl) (by kernel_rfl) ?_)
     refine Vk.enterI [(0, pp b_245), (1, vi 2), (2, vi 0)] Try.func93 rfl Try.ntmps93 (by kernel_rfl) (Nat.le_of_ble_eq_true (by kernel_rfl)) hs.own fun KR596 hKR596 hKP596 a hs => ?_
     refine qsk 1 [0, 1, 2] hs fun a hs => ?_
     refine Vk.seq fun K598 hK598 => ?_
     obtain ⟨C_599, hC_599⟩ := qC hs.own
     refine qdr 17 κ C_599 hs fun w hs hqC_599 => ?_
     have hcl := qO hC_599 hs.own
     refine qdp (fuel := 5) [0, 1, 2, 4, 5, 6, 7, 8, 9, 10, 11, 13, 14, 15] hs hcl hqC_599 fun a hs => ?_
     refine qdl 3 3 (cp b_x0) hs hcl hqC_599 hC_599 rfl fun a hs => ?_
     refine qdl 12 3 (ci v_423.1) hs hcl hqC_599 hC_599 rfl fun a hs => ?_
     refine Vk.dOnly (i := 16) (by kernel_rfl) (Vk.call (some 23) 151 #[pp b_245, vi 2, vi 0] hs (by kernel_rfl) (by kernel_rfl) (by kernel_rfl) ?_)
     refine Vk.enterI [(0, pp b_245), (1, vi 2), (2, vi 0)] Try.func151 rfl Try.ntmps151 (by kernel_rfl) (Nat.le_of_ble_eq_true (by kernel_rfl)) hs.own fun KR600 hKR600 hKP600 a hs => ?_
     refine qse 1 [(0, pp b_245), (1, vi 2), (2, vi 0)] hs fun a hs => ?_
     refine qsr fun K602 hK602 => ?_
     refine qpu 3 hs fun a hs => ?_
     refine qld 3 (C.map (some b_244)) hs rfl fun a hs => ?_
     refine qpu 7 hs fun a hs => ?_
     refine Vk.step (Vk.value (some 18) (vi v_274.1) hs (by kernel_rfl) (op := (.lookup 186 (.tmp 10) (.tmp 17) false)) (by kernel_rfl) (fun o ho => run_lookup (b := b_244) (key := .agg (vals [ci 0, ci 2])) 4 rfl ho (by kernel_rfl) (by kernel_rfl) (by kernel_rfl) _ hs.own) fun a hs => ?_)
     refine qpe 1 [(6, vi v_274.1)] hs fun a hs => hK602 _ _ ?_
     clear hK602
     refine wp_ret ?_
     refine hKP600 _ _ ?_
     refine hKR600 _ _ ?_
     refine Vk.ret1 (P := Try.prog) (fn := Try.f151) (vi v_274.1) hs rfl (by kernel_rfl) ⟨_, _, _, rfl, hs.own, fun a hs => ?_⟩
     replace hcl := qO hC_599 hs.own
     refine ⟨fun _ => hcl, ?_⟩
     obtain ⟨v_605, h_604, hm⟩ := bind_t hm
     refine qdc 17 (wire_Machine_Two.ok _ _ _ _ _ _ _ h_604 _ _ _ b_x0 hs.own) hs fun w a hs => ?_
     refine ⟨fun h => absurd h (by decide), ?_⟩
     refine Vk.dOnly (i := 18) (by kernel_rfl) (Vk.dPure1 [(6, vi v_605.1)] hs (by kernel_rfl) fun a hs => ?_)
     refine ⟨fun h => absurd h (by decide), ?_⟩
     replace hs := hs.pick [6] (L' := [(6, vi v_605.1)]) (by kernel_rfl)
     refine Vk.dDone (by kernel_rfl) ?_
     refine hK598 _ _ ?_
     clear hK598
     refine wp_ret ?_
     refine hKP596 _ _ ?_
     refine hKR596 _ _ ?_
     refine Vk.ret1 (P := Try.prog) (fn := Try.f93) (vi v_605.1) hs rfl (by kernel_rfl) ⟨_, _, _, rfl, hs.own, fun a hs => ?_⟩
     replace hcl := qO hC_595 hs.own.drop
     refine ⟨fun _ => hcl, ?_⟩
     obtain ⟨v_608, h_607, hm⟩ := bind_t hm
     refine qdc 14 (wire_Machine_Two.ok _ _ _ _ _ _ _ h_607 _ _ _ b_x0 hs.own) hs fun w a hs => ?_
     replace hcl := qO hC_595 hs.own.drop
     refine ⟨fun _ => hcl, ?_⟩
     refine qdp (fuel := 1) [16] hs hcl hqC_595 fun a hs => ?_
     refine Vk.dOnly (i := 17) (by kernel_rfl) (Vk.store1 (b := b_462) (ty := 3) (x := (.tmp 54)) (y := (.tmp 52)) (off := 2) (ci v_608.1) 1 hs (by kernel_rfl) (by kernel_rfl) (by kernel_rfl) (by kernel_rfl) (by kernel_rfl) (by kernel_rfl) rfl (Nat.le_of_ble_eq_true (by kernel_rfl)) fun a w hs => ?_)
     refine ⟨fun h => absurd h (by decide), ?_⟩
     replace hs := hs.pick [0, 1, 4, 5, 6, 7, 16, 17, 31, 32] (L' := [(0, pp b_245), (1, .func (.func 93) #[pp b_245] #[]), (4, pp b_460), (5, pp b_462), (6, vi 3), (7, vi 2), (16, vi 3), (17, vi 2), (31, vi 3), (32, vi 0)]) (by kernel_rfl)
     refine Vk.dDone (by kernel_rfl) ?_
     refine hK592 _ _ ?_
     clear hK592
     refine Vk.region ?_
     refine qpk 2 [0, 1, 4, 5, 6, 7, 16, 17, 31, 32] hs fun a hs => hKL589 _ _ ?_
     clear hKL589
     refine Vk.unroll fun KL609 hKL609 => ?_
     refine qsk 1 [0, 1, 4, 5, 6, 7, 16, 17, 31, 32, 33] hs fun a hs => ?_
     refine qck hs ?_
     refine Vk.seq fun K612 hK612 => ?_
     refine wp_block ?_
     refine qsk 2 [0, 1, 4, 5, 6, 7, 8, 16, 17, 31, 32] hs fun a hs => ?_
     refine qsk 3 [0, 1, 4, 5, 6, 7, 8, 16, 17, 31, 32, 37] hs fun a hs => ?_
     refine qct hs ?_
     obtain ⟨C_615, hC_615⟩ := qC hs.own.drop
     refine qdr 17 κ C_615 hs fun w hs hqC_615 => ?_
     have hcl := qO hC_615 hs.own.drop
     refine qdp (fuel := 6) [0, 1, 2, 3, 5, 6, 7, 8, 10, 11, 12, 15] hs hcl hqC_615 fun a hs => ?_
     refine qdl 4 2 (cp b_x0) hs hcl hqC_615 hC_615 rfl fun a hs => ?_
     refine qdl 9 0 (ci v_608.1) hs hcl hqC_615 hC_615 rfl fun a hs => ?_
     refine Vk.dOnly (i := 13) (by kernel_rfl) (Vk.call (some 51) 93 #[pp b_245, vi 2, vi 1] hs (by kernel_rfl) (by kernel_rfl) (by kernel_rfl) ?_)
     refine Vk.enterI [(0, pp b_245), (1, vi 2), (2, vi 1)] Try.func93 rfl Try.ntmps93 (by kernel_rfl) (Nat.le_of_ble_eq_true (by kernel_rfl)) hs.own fun KR616 hKR616 hKP616 a hs => ?_
     refine qsk 1 [0, 1, 2] hs fun a hs => ?_
     refine Vk.seq fun K618 hK618 => ?_
     obtain ⟨C_619, hC_619⟩ := qC hs.own
     refine qdr 17 κ C_619 hs fun w hs hqC_619 => ?_
     have hcl := qO hC_619 hs.own
     refine qdp (fuel := 5) [0, 1, 2, 4, 5, 6, 7, 8, 9, 10, 11, 13, 14, 15] hs hcl hqC_619 fun a hs => ?_
     refine qdl 3 3 (cp b_x0) hs hcl hqC_619 hC_619 rfl fun a hs => ?_
     refine qdl 12 3 (ci v_436.1) hs hcl hqC_619 hC_619 rfl fun a hs => ?_
     refine Vk.dOnly (i := 16) (by kernel_rfl) (Vk.call (some 23) 151 #[pp b_245, vi 2, vi 1] hs (by kernel_rfl) (by kernel_rfl) (by kernel_rfl) ?_)
     refine Vk.enterI [(0, pp b_245), (1, vi 2), (2, vi 1)] Try.func151 rfl Try.ntmps151 (by kernel_rfl) (Nat.le_of_ble_eq_true (by kernel_rfl)) hs.own fun KR620 hKR620 hKP620 a hs => ?_
     refine qse 1 [(0, pp b_245), (1, vi 2), (2, vi 1)] hs fun a hs => ?_
     refine qsr fun K622 hK622 => ?_
     refine qpu 3 hs fun a hs => ?_
     refine qld 3 (C.map (some b_244)) hs rfl fun a hs => ?_
     refine qpu 7 hs fun a hs => ?_
     refine Vk.step (Vk.value (some 18) (vi v_291.1) hs (by kernel_rfl) (op := (.lookup 186 (.tmp 10) (.tmp 17) false)) (by kernel_rfl) (fun o ho => run_lookup (b := b_244) (key := .agg (vals [ci 1, ci 2])) 4 rfl ho (by kernel_rfl) (by kernel_rfl) (by kernel_rfl) _ hs.own) fun a hs => ?_)
     refine qpe 1 [(6, vi v_291.1)] hs fun a hs => hK622 _ _ ?_
     clear hK622
     refine wp_ret ?_
     refine hKP620 _ _ ?_
     refine hKR620 _ _ ?_
     refine Vk.ret1 (P := Try.prog) (fn := Try.f151) (vi v_291.1) hs rfl (by kernel_rfl) ⟨_, _, _, rfl, hs.own, fun a hs => ?_⟩
     replace hcl := qO hC_619 hs.own
     refine ⟨fun _ => hcl, ?_⟩
     obtain ⟨v_625, h_624, hm⟩ := bind_t hm
     refine qdc 17 (wire_Machine_Two.ok _ _ _ _ _ _ _ h_624 _ _ _ b_x0 hs.own) hs fun w a hs => ?_
     refine ⟨fun h => absurd h (by decide), ?_⟩
     refine Vk.dOnly (i := 18) (by kernel_rfl) (Vk.dPure1 [(6, vi v_625.1)] hs (by kernel_rfl) fun a hs => ?_)
     refine ⟨fun h => absurd h (by decide), ?_⟩
     replace hs := hs.pick [6] (L' := [(6, vi v_625.1)]) (by kernel_rfl)
     refine Vk.dDone (by kernel_rfl) ?_
     refine hK618 _ _ ?_
     clear hK618
     refine wp_ret ?_
     refine hKP616 _ _ ?_
     refine hKR616 _ _ ?_
     refine Vk.ret1 (P := Try.prog) (fn := Try.f93) (vi v_625.1) hs rfl (by kernel_rfl) ⟨_, _, _, rfl, hs.own, fun a hs => ?_⟩
     replace hcl := qO hC_615 hs.own.drop
     refine ⟨fun _ => hcl, ?_⟩
     obtain ⟨v_628, h_627, hm⟩ := bind_t hm
     refine qdc 14 (wire_Machine_Two.ok _ _ _ _ _ _ _ h_627 _ _ _ b_x0 hs.own) hs fun w a hs => ?_
     replace hcl := qO hC_615 hs.own.drop
     refine ⟨fun _ => hcl, ?_⟩
     refine qdp (fuel := 1) [16] hs hcl hqC_615 fun a hs => ?_
     refine Vk.dOnly (i := 17) (by kernel_rfl) (Vk.store1 (b := b_462) (ty := 3) (x := (.tmp 54)) (y := (.tmp 52)) (off := 2) (ci v_628.1) 1 hs (by kernel_rfl) (by kernel_rfl) (by kernel_rfl) (by kernel_rfl) (by kernel_rfl) (by kernel_rfl) rfl (Nat.le_of_ble_eq_true (by kernel_rfl)) fun a w hs => ?_)
     refine ⟨fun h => absurd h (by decide), ?_⟩
     replace hs := hs.pick [0, 1, 4, 5, 6, 7, 16, 17, 31, 32] (L' := [(0, pp b_245), (1, .func (.func 93) #[pp b_245] #[]), (4, pp b_460), (5, pp b_462), (6, vi 3), (7, vi 2), (16, vi 3), (17, vi 2), (31, vi 3), (32, vi 1)]) (by kernel_rfl)
     refine Vk.dDone (by kernel_rfl) ?_
     refine hK612 _ _ ?_
     clear hK612
     refine Vk.region ?_
     refine qpk 2 [0, 1, 4, 5, 6, 7, 16, 17, 31, 32] hs fun a hs => hKL609 _ _ ?_
     clear hKL609
     refine Vk.unroll fun KL629 hKL629 => ?_
     refine qsk 1 [0, 1, 4, 5, 6, 7, 16, 17, 31, 32, 33] hs fun a hs => ?_
     refine qck hs ?_
     refine Vk.seq fun K632 hK632 => ?_
     refine wp_block ?_
     refine qsk 2 [0, 1, 4, 5, 6, 7, 8, 16, 17, 31, 32] hs fun a hs => ?_
     refine qsk 3 [0, 1, 4, 5, 6, 7, 8, 16, 17, 31, 32, 37] hs fun a hs => ?_
     refine qcf hs ?_
     refine wp_skip ?_
     refine hK632 _ _ ?_
     clear hK632
     refine Vk.region ?_
     refine qpk 2 [0, 1, 4, 5, 6, 7, 16, 17, 31, 32] hs fun a hs => hKL629 _ _ ?_
     clear hKL629
     refine Vk.unroll fun KL635 hKL635 => ?_
     refine qse 1 [(0, pp b_245), (1, .func (.func 93) #[pp b_245] #[]), (4, pp b_460), (5, pp b_462), (6, vi 3), (7, vi 2), (16, vi 3), (17, vi 2), (31, vi 3), (32, vi 3), (33, .bool false)] hs fun a hs => ?_
     refine Vk.seq fun K637 hK637 => ?_
     refine qcf hs ?_
     refine wp_exit ?_
     refine hK585 _ _ ?_
     clear hK585
     refine Vk.region ?_
     refine qpk 2 [0, 1, 4, 5, 6, 16, 17] hs fun a hs => hKL582 _ _ ?_
     clear hKL582
     refine Vk.unroll fun KL638 hKL638 => ?_
     refine qsk 1 [0, 1, 4, 5, 6, 16, 17, 18] hs fun a hs => ?_
     refine Vk.seq fun K640 hK640 => ?_
     refine qcf hs ?_
     refine wp_exit ?_
     refine hK468 _ _ ?_
     clear hK468
     refine qsr fun K641 hK641 => ?_
     refine qln 1 ([ci v_522.1, ci v_578.1, ci v_628.1]) hs rfl fun a hs => ?_
     refine qsa 2 [ci v_522.1, ci v_578.1, ci v_628.1] hs rfl fun a w hs => ?_
     refine qpe 0 [(4, pp b_460)] hs fun a hs => hK641 _ _ ?_
     clear hK641
     refine wp_ret ?_
     refine hKP458 _ _ ?_
     refine hKR458 _ _ ?_
     refine Vk.retC (P := Try.prog) (fn := Try.f92) [ci v_522.1, ci v_578.1, ci v_628.1] hs rfl (by kernel_rfl) (sz := 3) (by kernel_rfl) rfl (CellsAt.all 2 rfl) ⟨_, _, _, rfl, hs.own, fun a hs => ?_⟩
     refine qal 28 [ci 0, ci 0, ci 0] 8 hs fun b_642 w a hs => ?_
     refine qsa 0 [ci v_522.1, ci v_578.1, ci v_628.1] hs rfl fun a w hs => ?_
     refine qpk 0 [0, 6, 8] hs fun a hs => hK457 _ _ ?_
     clear hK457
     refine qsr fun K643 hK643 => ?_
     refine qpu 1 hs fun a hs => ?_
     obtain ⟨v_646, h_645, hm⟩ := bind_t hm
     refine qcl (wire_Machine_End.ok _ _ _ h_645 _ _ _ b_x0 hs.own.f1) hs fun w a hs => ?_
     refine qpe 0 [(6, pp b_4), (8, pp b_642)] hs fun a hs => hK643 _ _ ?_
     clear hK643
     refine qsr fun K647 hK647 => ?_
     refine qln 1 ([ci v_522.1, ci v_578.1, ci v_628.1]) hs rfl fun a hs => ?_
     refine qsa 8 [ci v_522.1, ci v_578.1, ci v_628.1] hs rfl fun a w hs => ?_
     refine qpe 0 [(6, pp b_4)] hs fun a hs => hK647 _ _ ?_
     clear hK647
     refine wp_ret ?_
     exact Vk.retC (P := Try.prog) (fn := Try.f20) (R := RR) [ci v_522.1, ci v_578.1, ci v_628.1] hs rfl (by kernel_rfl) (sz := 3) (by kernel_rfl) rfl (CellsAt.all 8 rfl) (by obtain rfl := Option.some.inj hm; subst hRR; exact ⟨rfl, (hs.own.too [0] 11)⟩)
    ·replace hm := bif_f hm hb
     cases hm
   ·replace hm := bif_f hm hb
    cases hm
  ·replace hm := bif_f hm hb
   cases hm

end Go.Proofs.Ytflgefjocjpjaaa
