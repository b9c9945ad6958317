/- Of each Go function that TimesTells comes to: a model in plain Lean, and that the program's call does what the model says; no condition. -/
import Derived.Test.YtflgefjocjpjaaaProg
import Derived.Test.YtflgefjocjpjaaaVaepjpifb
import Derived.Test.YtflgefjocjpjaaaMTimesTells2
namespace Go.Proofs.Ytflgefjocjpjaaa
open Go Go.Vk
set_option linter.unusedVariables false

structure Tvisorlaw20_Pair where
 m : Twire_Machine
 x : Tvisorref19_M
 l : List Cells
 v : List Int
 deriving Inhabited
def Tvisorlaw20_Pair.obj (x : Tvisorlaw20_Pair) (bm : Nat) (bx : Nat) (Al : Option Addr) (cl : Nat) (Av : Option Addr) (cv : Nat) : Cells := [C.ptr (some ⟨bm, 0, none⟩), C.ptr (some ⟨bx, 0, none⟩), C.slc Al x.l.length cl, C.slc Av x.v.length cv]

def visorlaw20_Pair_Like.l1 (x0 : Tvisorlaw20_Pair) (v_6 : List Int) : Nat → Int → Option (Sum (Bool) (Unit))
 | 0, _ => none
 | k + 1, q_39 => (bif decide (q_39 < ((v_6.length : Nat) : Int)) then (if 0 ≤ q_39 then (v_6[q_39.toNat]?).bind fun e_52 => (if 0 ≤ q_39 then (x0.x.val[q_39.toNat]?).bind fun e_59 => (bif e_52 != e_59 then some (.inl false) else visorlaw20_Pair_Like.l1 x0 v_6 k (IntKind.i64.wrap (q_39 + 1))) else none) else none) else some (.inr ()))
def visorlaw20_Pair_Like.j1 (k : Nat) (x0 : Tvisorlaw20_Pair) (v_6 : List Int) (p_34 : Bool) : Option (Bool) := (bif p_34 then some false else (visorlaw20_Pair_Like.l1 x0 v_6 k 0).bind fun x => match x with | .inl v => some v | .inr () => some true)
abbrev visorlaw20_Pair_Like.R (κ : Ctx) (S : List HP) (x0 : Tvisorlaw20_Pair) (b_x0m : Nat) (g_x0m : Nat × Option Addr × Nat × Option Addr × Nat × Option Addr × Nat) (b_x0x : Nat) (g_x0x : Option Addr × Nat × Option Addr × Nat × Option Addr × Nat × Option Addr × Nat) (A_x0l : Option Addr) (c_x0l : Nat) (A_x0v : Option Addr) (c_x0v : Nat) (r : Bool) : Ending → World → Prop := fun e w' => e = .returned (.bool r) ∧ Own κ w' (bagL (Twire_Machine.parts b_x0m x0.m g_x0m) :: bagL (Tvisorref19_M.parts κ b_x0x x0.x g_x0x) :: S)
def visorlaw20_Pair_Like.m (k : Nat) (x0 : Tvisorlaw20_Pair) : Option Bool := (wire_Machine_Values.m k x0.m).bind fun v_6 => (bif ((v_6.length : Nat) : Int) != ((x0.x.val.length : Nat) : Int) then visorlaw20_Pair_Like.j1 k x0 v_6 true else (wire_Machine_Err.m k x0.m).bind fun v_18 => (bif v_18 != x0.x.e then visorlaw20_Pair_Like.j1 k x0 v_6 true else (wire_Machine_Trace.m k x0.m).bind fun v_21 => (visorref18_Same.m k v_21 (⟨x0.x.n, x0.x.ops, x0.x.blocks⟩ : Tapi_Trace)).bind fun v_33 => visorlaw20_Pair_Like.j1 k x0 v_6 (!v_33)))

set_option maxRecDepth 100000 in
set_option maxHeartbeats 4000000 in
theorem visorlaw20_Pair_Like.ok (k : Nat) (x0 : Tvisorlaw20_Pair) (r : Bool) (hm : visorlaw20_Pair_Like.m k x0 = some r) (κ : Ctx) (w : World) (S : List HP) (b_x0m : Nat) (g_x0m : Nat × Option Addr × Nat × Option Addr × Nat × Option Addr × Nat) (b_x0x : Nat) (g_x0x : Option Addr × Nat × Option Addr × Nat × Option Addr × Nat × Option Addr × Nat) (A_x0l : Option Addr) (c_x0l : Nat) (hx_x0l : Sl κ S A_x0l c_x0l 3 eC x0.l) (A_x0v : Option Addr) (c_x0v : Nat) (hx_x0v : Sl κ S A_x0v c_x0v 1 (eI .u64) x0.v) (ho : Own κ w (bagL (Twire_Machine.parts b_x0m x0.m g_x0m) :: bagL (Tvisorref19_M.parts κ b_x0x x0.x g_x0x) :: S)) :
  Calls Try.prog 26 #[.agg (vals [cp b_x0m, cp b_x0x, C.slc A_x0l x0.l.length c_x0l, C.slc A_x0v x0.v.length c_x0v])] w (visorlaw20_Pair_Like.R κ S x0 b_x0m g_x0m b_x0x g_x0x A_x0l c_x0l A_x0v c_x0v r) := by
 unfold visorlaw20_Pair_Like.m at hm
 generalize hRR : visorlaw20_Pair_Like.R κ S x0 b_x0m g_x0m b_x0x g_x0x A_x0l c_x0l A_x0v c_x0v r = RR
 refine qen [(0, .agg (vals [cp b_x0m, cp b_x0x, C.slc A_x0l x0.l.length c_x0l, C.slc A_x0v x0.v.length c_x0v]))] Try.func26 Try.ntmps26 ho fun a hs => ?_
 refine qsr fun K1 hK1 => ?_
 refine qbx 0 45 [cp b_x0m, cp b_x0x, C.slc A_x0l x0.l.length c_x0l, C.slc A_x0v x0.v.length c_x0v] 1 hs fun b_2 w a hs => ?_
 refine qpe 1 [(1, pp b_2)] hs fun a hs => hK1 _ _ ?_
 clear hK1
 refine qsr fun K3 hK3 => ?_
 refine qpu 1 hs fun a hs => ?_
 refine qld 0 (cp b_x0m) hs rfl fun a hs => ?_
 obtain ⟨v_6, h_5, hm⟩ := bind_t hm
 refine Vk.step (Vk.call (some 7) 22 #[pp b_x0m] hs (by kernel_rfl) (by kernel_rfl) (by kernel_rfl) ?_)
 refine (wire_Machine_Values.ok k x0.m v_6 h_5 κ w (pt b_2 (blk (Tvisorlaw20_Pair.obj x0 b_x0m b_x0x A_x0l c_x0l A_x0v c_x0v) 45) :: bagL (Tvisorref19_M.parts κ b_x0x x0.x g_x0x) :: S) b_x0m g_x0m hs.own.f1).mono ?_
 rintro _ w ⟨Ar4x0_7, cr4x0_8, rfl, how⟩
 refine ⟨_, _, _, rfl, how, fun a hs => ?_⟩
 refine qpk 1 [1, 3] hs fun a hs => hK3 _ _ ?_
 clear hK3
 refine Vk.seq fun K9 hK9 => ?_
 refine Vk.seq fun K10 hK10 => ?_
 have hj10 : ∀ (p_34 : Bool), visorlaw20_Pair_Like.j1 k x0 v_6 p_34 = some r → ∀ (a : Act) (w : World), St 57 a w κ [(1, pp b_2), (3, .slice Ar4x0_7 v_6.length cr4x0_8), (37, .bool p_34)] (pt b_2 (blk (Tvisorlaw20_Pair.obj x0 b_x0m b_x0x A_x0l c_x0l A_x0v c_x0v) 45) :: bagL (Twire_Machine.parts b_x0m x0.m g_x0m) :: bagL (Tvisorref19_M.parts κ b_x0x x0.x g_x0x) :: rowp Ar4x0_7 cr4x0_8 32 1 (eI .u64) v_6 :: S) → K10 a w := by
  intro p_34 hm a w hs
  unfold visorlaw20_Pair_Like.j1 at hm
  refine hK10 _ _ ?_
  refine qcs (p_34) hs (fun hb => ?_) fun hb => ?_
  ·replace hm := bif_t hm hb
   refine qse 1 [(2, .bool false)] hs fun a hs => ?_
   refine wp_ret ?_
   exact qr1 (.bool false) hs rfl hRR (by cases hm; exact ⟨rfl, hs.own.f3.drop.drop⟩)
  ·replace hm := bif_f hm hb
   refine wp_skip ?_
   refine hK9 _ _ ?_
   clear hK9
   refine Vk.seq fun K36 hK36 => ?_
   refine qsk 1 [1, 3, 4] hs fun a hs => ?_
   refine wp_block ?_
   obtain ⟨r38, hl38, hm⟩ := bind_t hm
   have hx38 : r38 = Sum.inr () → ∀ (a : Act) (w : World), St 57 a w κ [] (bagL (Twire_Machine.parts b_x0m x0.m g_x0m) :: bagL (Tvisorref19_M.parts κ b_x0x x0.x g_x0x) :: S) → K36 a w := by
    intro he a w hs
    subst r38
    refine hK36 _ _ ?_
    clear hK36
    refine qse 1 [(2, .bool true)] hs fun a hs => ?_
    refine wp_ret ?_
    exact qr1 (.bool true) hs rfl hRR (by cases hm; exact ⟨rfl, hs.own⟩)
   have hret38 : ∀ v, r38 = Sum.inl v → v = r := by intro v he; subst r38; exact Option.some.inj hm
   refine Vk.loopBy (fun k (s : Int) a w => visorlaw20_Pair_Like.l1 x0 v_6 k s = some r38 ∧ St 57 a w κ [(1, pp b_2), (3, .slice Ar4x0_7 v_6.length cr4x0_8), (4, vi s)] (pt b_2 (blk (Tvisorlaw20_Pair.obj x0 b_x0m b_x0x A_x0l c_x0l A_x0v c_x0v) 45) :: bagL (Twire_Machine.parts b_x0m x0.m g_x0m) :: bagL (Tvisorref19_M.parts κ b_x0x x0.x g_x0x) :: rowp Ar4x0_7 cr4x0_8 32 1 (eI .u64) v_6 :: S)) k 0 ⟨hl38, hs.go [1, 3, 4] [0, 1, 2, 3] 4 (by kernel_rfl) (by kernel_rfl) (by kernel_rfl)⟩ (fun s a w h => by obtain ⟨h1, _⟩ := h; simp [visorlaw20_Pair_Like.l1] at h1) (fun k KL38 ih q_39 a w h => ?_)
   obtain ⟨hm, hs⟩ := h
   try dsimp only at hm hs
   rw [visorlaw20_Pair_Like.l1] at hm
   refine Vk.seq fun K40 hK40 => ?_
   refine qsk 4 [1, 3, 4, 41] hs fun a hs => ?_
   refine qcs (decide (q_39 < ((v_6.length : Nat) : Int))) hs (fun hb => ?_) fun hb => ?_
   ·replace hm := bif_t hm hb
    refine wp_skip ?_
    refine hK40 _ _ ?_
    clear hK40
    refine Vk.seq fun K42 hK42 => ?_
    refine wp_block ?_
    refine Vk.seq fun K43 hK43 => ?_
    replace hs := hs.unbagAt 2 rfl
    obtain ⟨C_48, hC_48⟩ : ∃ X0 : List HP, X0 = (pt b_x0x (blk (Tvisorref19_M.obj x0.x g_x0x.1 g_x0x.2.1 g_x0x.2.2.1 g_x0x.2.2.2.1 g_x0x.2.2.2.2.1 g_x0x.2.2.2.2.2.1 g_x0x.2.2.2.2.2.2.1 g_x0x.2.2.2.2.2.2.2) 64) :: rowp g_x0x.1 g_x0x.2.1 93 6 Tapi_Op.cells x0.x.ops :: rowp g_x0x.2.2.1 g_x0x.2.2.2.1 175 3 Tapi_Span.cells x0.x.blocks :: rowp g_x0x.2.2.2.2.1 g_x0x.2.2.2.2.2.1 32 1 (eI .u64) x0.x.val :: rdp κ g_x0x.2.2.2.2.2.2.1 g_x0x.2.2.2.2.2.2.2 1 (eI .u64) x0.x.tape.l :: pt b_2 (blk (Tvisorlaw20_Pair.obj x0 b_x0m b_x0x A_x0l c_x0l A_x0v c_x0v) 45) :: bagL (Twire_Machine.parts b_x0m x0.m g_x0m) :: rowp Ar4x0_7 cr4x0_8 32 1 (eI .u64) v_6 :: S) := ⟨_, rfl⟩
    refine qdr 13 κ C_48 hs fun w hs hqC_48 => ?_
    have hcz : Own κ w (pt b_x0x (blk (Tvisorref19_M.obj x0.x g_x0x.1 g_x0x.2.1 g_x0x.2.2.1 g_x0x.2.2.2.1 g_x0x.2.2.2.2.1 g_x0x.2.2.2.2.2.1 g_x0x.2.2.2.2.2.2.1 g_x0x.2.2.2.2.2.2.2) 64) :: rowp g_x0x.1 g_x0x.2.1 93 6 Tapi_Op.cells x0.x.ops :: rowp g_x0x.2.2.1 g_x0x.2.2.2.1 175 3 Tapi_Span.cells x0.x.blocks :: rowp g_x0x.2.2.2.2.1 g_x0x.2.2.2.2.2.1 32 1 (eI .u64) x0.x.val :: rdp κ g_x0x.2.2.2.2.2.2.1 g_x0x.2.2.2.2.2.2.2 1 (eI .u64) x0.x.tape.l :: pt b_2 (blk (Tvisorlaw20_Pair.obj x0 b_x0m b_x0x A_x0l c_x0l A_x0v c_x0v) 45) :: bagL (Twire_Machine.parts b_x0m x0.m g_x0m) :: rowp Ar4x0_7 cr4x0_8 32 1 (eI .u64) v_6 :: S) := hs.own
    have hcl : Own κ w C_48 := by rw [hC_48]; exact hcz
    refine qdp (fuel := 9) [0, 1, 4, 9] hs hcl hqC_48 fun a hs => ?_
    obtain ⟨h_49, hm⟩ := ite_t hm
    obtain ⟨e_52, h_50, hm⟩ := bind_t hm
    obtain ⟨b_53, o_54, hA_55, h_51⟩ := Sl.elem (Own.rowSl 0 hcz.drop.drop.drop.drop.drop.drop.drop rfl) h_50
    refine Vk.dTakeT (i := 2) (some 46) (.pointer (some ⟨b_53, o_54 + q_39.toNat * 1, none⟩)) hs (by kernel_rfl) hqC_48 hcl (by kernel_rfl) (by kernel_rfl) (op := (.indexAddr 25 (.tmp 44) (.tmp 45))) (by kernel_rfl) (by kernel_rfl) (fun w hw o ho => by rw [hC_48] at hw; exact run_idxSlc (k := .i64) ho (cap := cr4x0_8) (len := v_6.length) ((congrArg (fun A => Value.slice A (v_6.length) (cr4x0_8)) hA_55) ▸ (by kernel_rfl)) (by kernel_rfl) (by kernel_rfl) (idx_ok h_49 h_50) _) fun a hs => ?_
    refine Vk.dTakeT (i := 3) (some 47) (vw e_52) hs (by kernel_rfl) hqC_48 hcl (by kernel_rfl) (by kernel_rfl) (op := (.load 32 (.tmp 46))) (by kernel_rfl) (by kernel_rfl) (fun w hw o ho => by rw [hC_48] at hw; exact run_load1 (c := cw e_52) ho (by kernel_rfl) (by kernel_rfl) (fun w ho => h_51 w ho 0 _ rfl) _ hw.drop.drop.drop.drop.drop.drop.drop) fun a hs => ?_
    refine qdl 5 5 (cp b_x0x) hs hcl hqC_48 hC_48 rfl fun a hs => ?_
    refine qdp (fuel := 4) [6, 7] hs hcl hqC_48 fun a hs => ?_
    refine qdl 8 0 (C.slc g_x0x.2.2.2.2.1 x0.x.val.length g_x0x.2.2.2.2.2.1) hs hcl hqC_48 hC_48 rfl fun a hs => ?_
    obtain ⟨h_56, hm⟩ := ite_t hm
    obtain ⟨e_59, h_57, hm⟩ := bind_t hm
    obtain ⟨b_60, o_61, hA_62, h_58⟩ := Sl.elem (Own.rowSl 0 (Own.to (S' := rowp g_x0x.2.2.2.2.1 g_x0x.2.2.2.2.2.1 32 1 (eI .u64) x0.x.val :: S) hcz [3] 8 (by kernel_rfl) (by kernel_rfl)) rfl) h_57
    refine Vk.dTakeT (i := 10) (some 54) (.pointer (some ⟨b_60, o_61 + q_39.toNat * 1, none⟩)) hs (by kernel_rfl) hqC_48 hcl (by kernel_rfl) (by kernel_rfl) (op := (.indexAddr 25 (.tmp 52) (.tmp 53))) (by kernel_rfl) (by kernel_rfl) (fun w hw o ho => by rw [hC_48] at hw; exact run_idxSlc (k := .i64) ho (cap := g_x0x.2.2.2.2.2.1) (len := x0.x.val.length) ((congrArg (fun A => Value.slice A (x0.x.val.length) (g_x0x.2.2.2.2.2.1)) hA_62) ▸ (by kernel_rfl)) (by kernel_rfl) (by kernel_rfl) (idx_ok h_56 h_57) _) fun a hs => ?_
    refine Vk.dTakeT (i := 11) (some 55) (vw e_59) hs (by kernel_rfl) hqC_48 hcl (by kernel_rfl) (by kernel_rfl) (op := (.load 32 (.tmp 54))) (by kernel_rfl) (by kernel_rfl) (fun w hw o ho => by rw [hC_48] at hw; exact run_load1 (c := cw e_59) ho (by kernel_rfl) (by kernel_rfl) (fun w ho => h_58 w ho 0 _ rfl) _ (Own.to (S' := rowp g_x0x.2.2.2.2.1 g_x0x.2.2.2.2.2.1 32 1 (eI .u64) x0.x.val :: S) hw [3] 8 (by kernel_rfl) (by kernel_rfl))) fun a hs => ?_
    refine qdp (fuel := 0) [12] hs hcl hqC_48 fun a hs => ?_
    replace hs := hs.pick [1, 3, 4, 56] (L' := [(1, pp b_2), (3, .slice Ar4x0_7 v_6.length cr4x0_8), (4, vi q_39), (56, .bool (e_52 != e_59))]) (by kernel_rfl)
    refine Vk.dDone (by kernel_rfl) ?_
    refine hK43 _ _ ?_
    clear hK43
    refine qcs (e_52 != e_59) hs (fun hb => ?_) fun hb => ?_
    ·replace hm := bif_t hm hb
     refine qse 1 [(2, .bool false)] hs fun a hs => ?_
     refine wp_ret ?_
     replace hs := hs.bagG (l := Tvisorref19_M.parts κ b_x0x x0.x g_x0x) (S' := pt b_2 (blk (Tvisorlaw20_Pair.obj x0 b_x0m b_x0x A_x0l c_x0l A_x0v c_x0v) 45) :: bagL (Twire_Machine.parts b_x0m x0.m g_x0m) :: rowp Ar4x0_7 cr4x0_8 32 1 (eI .u64) v_6 :: S) hs.own
     exact Vk.ret1 (P := Try.prog) (fn := Try.f26) (R := RR) (.bool false) hs rfl (by kernel_rfl) (by obtain rfl := hret38 _ ((Option.some.inj hm).symm); subst hRR; exact ⟨rfl, hs.own.f3.drop.f1.drop.f1⟩)
    ·replace hm := bif_f hm hb
     refine wp_skip ?_
     refine hK42 _ _ ?_
     clear hK42
     refine Vk.region ?_
     refine qpe 3 [(1, pp b_2), (3, .slice Ar4x0_7 v_6.length cr4x0_8), (4, vi (IntKind.i64.wrap (q_39 + 1)))] hs fun a hs => ?_
     replace hs := hs.bagG (l := Tvisorref19_M.parts κ b_x0x x0.x g_x0x) (S' := pt b_2 (blk (Tvisorlaw20_Pair.obj x0 b_x0m b_x0x A_x0l c_x0l A_x0v c_x0v) 45) :: bagL (Twire_Machine.parts b_x0m x0.m g_x0m) :: rowp Ar4x0_7 cr4x0_8 32 1 (eI .u64) v_6 :: S) hs.own
     refine ih (IntKind.i64.wrap (q_39 + 1)) _ _ ⟨hm, hs.go [1, 3, 4] [1, 2, 0, 3] 4 (by kernel_rfl) (by kernel_rfl) (by kernel_rfl)⟩
   ·replace hm := bif_f hm hb
    refine wp_exit ?_
    exact hx38 (Option.some.inj hm).symm _ _ (hs.go [] [1, 2] 4 (by kernel_rfl) (by kernel_rfl) (by kernel_rfl))
 replace hs := hs.unbagAt 3 rfl
 obtain ⟨C_15, hC_15⟩ := qC hs.own
 refine qdr 30 κ C_15 hs fun w hs hqC_15 => ?_
 have hcl := qO hC_15 hs.own
 refine qdp (fuel := 27) [0, 1, 2] hs hcl hqC_15 fun a hs => ?_
 refine qdl 3 7 (cp b_x0x) hs hcl hqC_15 hC_15 rfl fun a hs => ?_
 refine qdp (fuel := 24) [4, 5] hs hcl hqC_15 fun a hs => ?_
 refine qdl 6 0 (C.slc g_x0x.2.2.2.2.1 x0.x.val.length g_x0x.2.2.2.2.2.1) hs hcl hqC_15 hC_15 rfl fun a hs => ?_
 refine qdp (fuel := 20) [7, 8, 9] hs hcl hqC_15 fun a hs => ?_
 rcases Bool.eq_false_or_eq_true (((v_6.length : Nat) : Int) != ((x0.x.val.length : Nat) : Int)) with hb | hb
 ·replace hm := bif_t hm hb
  replace hs := hs.known (t := 17) hb (by kernel_rfl)
  refine qdp (fuel := 0) [10, 11, 12, 13, 14, 15, 16, 17, 18, 19, 20, 21, 22, 23, 24, 25, 26, 27, 28, 29] hs hcl hqC_15 fun a hs => ?_
  replace hs := hs.pick [1, 3, 37] (L' := [(1, pp b_2), (3, .slice Ar4x0_7 v_6.length cr4x0_8), (37, .bool true)]) (by kernel_rfl)
  refine Vk.dDone (by kernel_rfl) ?_
  replace hs := hs.bagG (l := Tvisorref19_M.parts κ b_x0x x0.x g_x0x) (S' := rowp Ar4x0_7 cr4x0_8 32 1 (eI .u64) v_6 :: bagL (Twire_Machine.parts b_x0m x0.m g_x0m) :: pt b_2 (blk (Tvisorlaw20_Pair.obj x0 b_x0m b_x0x A_x0l c_x0l A_x0v c_x0v) 45) :: S) hs.own
  exact hj10 true hm _ _ (hs.go [1, 3, 37] [3, 2, 0, 1] 4 (by kernel_rfl) (by kernel_rfl) (by kernel_rfl))
 ·replace hm := bif_f hm hb
  replace hs := hs.known (t := 17) hb (by kernel_rfl)
  refine qdp (fuel := 18) [10, 13] hs hcl hqC_15 fun a hs => ?_
  refine qdl 11 7 (cp b_x0m) hs hcl hqC_15 hC_15 rfl fun a hs => ?_
  refine qdl 14 7 (cp b_x0x) hs hcl hqC_15 hC_15 rfl fun a hs => ?_
  refine qdp (fuel := 14) [15, 16] hs hcl hqC_15 fun a hs => ?_
  refine qdl 17 0 (ci x0.x.e) hs hcl hqC_15 hC_15 rfl fun a hs => ?_
  obtain ⟨v_18, h_17, hm⟩ := bind_t hm
  refine qdc 12 (wire_Machine_Err.ok _ _ _ h_17 _ _ _ b_x0m g_x0m hs.own.f6) hs fun w a hs => ?_
  replace hcl : Own κ w C_15 := by rw [hC_15]; exact (hs.own.too [1, 2, 3, 4, 5, 6, 0, 7] 8)
  refine ⟨fun _ => hcl, ?_⟩
  refine qdp (fuel := 9) [18, 19, 20] hs hcl hqC_15 fun a hs => ?_
  rcases Bool.eq_false_or_eq_true (v_18 != x0.x.e) with hb | hb
  ·replace hm := bif_t hm hb
   replace hs := hs.known (t := 28) hb (by kernel_rfl)
   refine qdp (fuel := 0) [21, 22, 23, 24, 25, 26, 27, 28, 29] hs hcl hqC_15 fun a hs => ?_
   replace hs := hs.pick [1, 3, 37] (L' := [(1, pp b_2), (3, .slice Ar4x0_7 v_6.length cr4x0_8), (37, .bool true)]) (by kernel_rfl)
   refine Vk.dDone (by kernel_rfl) ?_
   replace hs := hs.bagG (l := Tvisorref19_M.parts κ b_x0x x0.x g_x0x) (S' := bagL (Twire_Machine.parts b_x0m x0.m g_x0m) :: rowp Ar4x0_7 cr4x0_8 32 1 (eI .u64) v_6 :: pt b_2 (blk (Tvisorlaw20_Pair.obj x0 b_x0m b_x0x A_x0l c_x0l A_x0v c_x0v) 45) :: S) hs.own.f5.f5.f5.f5.f5
   exact hj10 true hm _ _ (hs.go [1, 3, 37] [3, 1, 0, 2] 4 (by kernel_rfl) (by kernel_rfl) (by kernel_rfl))
  ·replace hm := bif_f hm hb
   replace hs := hs.known (t := 28) hb (by kernel_rfl)
   refine qdp (fuel := 7) [21, 24] hs hcl hqC_15 fun a hs => ?_
   refine qdl 22 7 (cp b_x0m) hs hcl hqC_15 hC_15 rfl fun a hs => ?_
   refine qdl 25 7 (cp b_x0x) hs hcl hqC_15 hC_15 rfl fun a hs => ?_
   obtain ⟨v_21, h_20, hm⟩ := bind_t hm
   refine Vk.dOnly (i := 23) (by kernel_rfl) (Vk.call (some 31) 62 #[pp b_x0m] hs (by kernel_rfl) (by kernel_rfl) (by kernel_rfl) ?_)
   refine (wire_Machine_Trace.ok k x0.m v_21 h_20 κ w (pt b_x0x (blk (Tvisorref19_M.obj x0.x g_x0x.1 g_x0x.2.1 g_x0x.2.2.1 g_x0x.2.2.2.1 g_x0x.2.2.2.2.1 g_x0x.2.2.2.2.2.1 g_x0x.2.2.2.2.2.2.1 g_x0x.2.2.2.2.2.2.2) 64) :: rowp g_x0x.1 g_x0x.2.1 93 6 Tapi_Op.cells x0.x.ops :: rowp g_x0x.2.2.1 g_x0x.2.2.2.1 175 3 Tapi_Span.cells x0.x.blocks :: rowp g_x0x.2.2.2.2.1 g_x0x.2.2.2.2.2.1 32 1 (eI .u64) x0.x.val :: rdp κ g_x0x.2.2.2.2.2.2.1 g_x0x.2.2.2.2.2.2.2 1 (eI .u64) x0.x.tape.l :: rowp Ar4x0_7 cr4x0_8 32 1 (eI .u64) v_6 :: pt b_2 (blk (Tvisorlaw20_Pair.obj x0 b_x0m b_x0x A_x0l c_x0l A_x0v c_x0v) 45) :: S) b_x0m g_x0m hs.own).mono ?_
   rintro _ w ⟨Ar19x0ops_22, cr19x0ops_23, Ar19x0blocks_24, cr19x0blocks_25, rfl, how⟩
   refine ⟨_, _, _, rfl, how, fun a hs => ?_⟩
   replace hcl : Own κ w C_15 := by rw [hC_15]; exact (hs.own.too [3, 4, 5, 6, 7, 8, 2, 9] 10)
   refine ⟨fun _ => hcl, ?_⟩
   refine Vk.dOnly (i := 26) (by kernel_rfl) (Vk.call (some 34) 110 #[pp b_x0x] hs (by kernel_rfl) (by kernel_rfl) (by kernel_rfl) ?_)
   refine Vk.enterI [(0, pp b_x0x)] Try.func110 rfl Try.ntmps110 (by kernel_rfl) (Nat.le_of_ble_eq_true (by kernel_rfl)) hs.own fun KR26 hKR26 hKP26 a hs => ?_
   refine qsr fun K27 hK27 => ?_
   refine qal 102 [ci 0, C.slc none 0 0, C.slc none 0 0] 2 hs fun b_28 w a hs => ?_
   refine qpe 0 [(0, pp b_x0x), (2, pp b_28)] hs fun a hs => hK27 _ _ ?_
   clear hK27
   refine Vk.seq fun K29 hK29 => ?_
   obtain ⟨C_30, hC_30⟩ := qC hs.own
   refine qdr 13 κ C_30 hs fun w hs hqC_30 => ?_
   have hcl := qO hC_30 hs.own
   refine qdp (fuel := 5) [0, 1, 2, 4, 5, 6, 8, 9, 10] hs hcl hqC_30 fun a hs => ?_
   refine qdl 3 4 (ci x0.x.n) hs hcl hqC_30 hC_30 rfl fun a hs => ?_
   refine qdl 7 4 (C.slc g_x0x.1 x0.x.ops.length g_x0x.2.1) hs hcl hqC_30 hC_30 rfl fun a hs => ?_
   refine qdl 11 4 (C.slc g_x0x.2.2.1 x0.x.blocks.length g_x0x.2.2.2.1) hs hcl hqC_30 hC_30 rfl fun a hs => ?_
   refine qdp (fuel := 1) [12] hs hcl hqC_30 fun a hs => ?_
   refine Vk.dOnly (i := 13) (by kernel_rfl) (Vk.storeA (b := b_28) (ty := 102) (x := (.tmp 2)) (y := (.tmp 15)) (sz := 3) [ci x0.x.n, C.slc g_x0x.1 x0.x.ops.length g_x0x.2.1, C.slc g_x0x.2.2.1 x0.x.blocks.length g_x0x.2.2.2.1] 0 hs (by kernel_rfl) (by kernel_rfl) (by kernel_rfl) (by kernel_rfl) (by kernel_rfl) rfl (by kernel_rfl) rfl (Eq.trans (b := 3) rfl (Eq.symm rfl)) fun a w hs => ?_)
   refine ⟨fun h => absurd h (by decide), ?_⟩
   replace hs := hs.pick [2] (L' := [(2, pp b_28)]) (by kernel_rfl)
   refine Vk.dDone (by kernel_rfl) ?_
   refine hK29 _ _ ?_
   clear hK29
   refine wp_ret ?_
   refine hKP26 _ _ ?_
   refine hKR26 _ _ ?_
   refine Vk.retC (P := Try.prog) (fn := Try.f110) [ci x0.x.n, C.slc g_x0x.1 x0.x.ops.length g_x0x.2.1, C.slc g_x0x.2.2.1 x0.x.blocks.length g_x0x.2.2.2.1] hs rfl (by kernel_rfl) (sz := 3) (by kernel_rfl) rfl (CellsAt.all 0 rfl) ⟨_, _, _, rfl, hs.own, fun a hs => ?_⟩
   replace hcl : Own κ w C_15 := by rw [hC_15]; exact (hs.own.too [4, 5, 6, 7, 8, 9, 3, 10] 11)
   refine ⟨fun _ => hcl, ?_⟩
   obtain ⟨v_33, h_32, hm⟩ := bind_t hm
   refine qdc 27 (visorref18_Same.ok _ _ _ _ h_32 _ _ (pt b_28 (blk [ci x0.x.n, C.slc g_x0x.1 x0.x.ops.length g_x0x.2.1, C.slc g_x0x.2.2.1 x0.x.blocks.length g_x0x.2.2.2.1] 102) :: rowp Ar19x0ops_22 cr19x0ops_23 93 6 Tapi_Op.cells v_21.ops :: rowp Ar19x0blocks_24 cr19x0blocks_25 175 3 Tapi_Span.cells v_21.blocks :: bagL (Twire_Machine.parts b_x0m x0.m g_x0m) :: pt b_x0x (blk (Tvisorref19_M.obj x0.x g_x0x.1 g_x0x.2.1 g_x0x.2.2.1 g_x0x.2.2.2.1 g_x0x.2.2.2.2.1 g_x0x.2.2.2.2.2.1 g_x0x.2.2.2.2.2.2.1 g_x0x.2.2.2.2.2.2.2) 64) :: rowp g_x0x.1 g_x0x.2.1 93 6 Tapi_Op.cells x0.x.ops :: rowp g_x0x.2.2.1 g_x0x.2.2.2.1 175 3 Tapi_Span.cells x0.x.blocks :: rowp g_x0x.2.2.2.2.1 g_x0x.2.2.2.2.2.1 32 1 (eI .u64) x0.x.val :: rdp κ g_x0x.2.2.2.2.2.2.1 g_x0x.2.2.2.2.2.2.2 1 (eI .u64) x0.x.tape.l :: rowp Ar4x0_7 cr4x0_8 32 1 (eI .u64) v_6 :: pt b_2 (blk (Tvisorlaw20_Pair.obj x0 b_x0m b_x0x A_x0l c_x0l A_x0v c_x0v) 45) :: S) Ar19x0ops_22 cr19x0ops_23 (Sl.lift (fun w ho => (Own.to (S' := rowp Ar19x0ops_22 cr19x0ops_23 93 6 Tapi_Op.cells v_21.ops :: S) ho [1] 11 (by kernel_rfl) (by kernel_rfl))) (Own.rowSl 0 (Own.to (S' := rowp Ar19x0ops_22 cr19x0ops_23 93 6 Tapi_Op.cells v_21.ops :: S) hs.own [1] 11 (by kernel_rfl) (by kernel_rfl)) rfl)) Ar19x0blocks_24 cr19x0blocks_25 (Sl.lift (fun w ho => (Own.to (S' := rowp Ar19x0blocks_24 cr19x0blocks_25 175 3 Tapi_Span.cells v_21.blocks :: S) ho [2] 11 (by kernel_rfl) (by kernel_rfl))) (Own.rowSl 0 (Own.to (S' := rowp Ar19x0blocks_24 cr19x0blocks_25 175 3 Tapi_Span.cells v_21.blocks :: S) hs.own [2] 11 (by kernel_rfl) (by kernel_rfl)) rfl)) g_x0x.1 g_x0x.2.1 (Sl.lift (fun w ho => (Own.to (S' := rowp g_x0x.1 g_x0x.2.1 93 6 Tapi_Op.cells x0.x.ops :: S) ho [5] 11 (by kernel_rfl) (by kernel_rfl))) (Own.rowSl 0 (Own.to (S' := rowp g_x0x.1 g_x0x.2.1 93 6 Tapi_Op.cells x0.x.ops :: S) hs.own [5] 11 (by kernel_rfl) (by kernel_rfl)) rfl)) g_x0x.2.2.1 g_x0x.2.2.2.1 (Sl.lift (fun w ho => (Own.to (S' := rowp g_x0x.2.2.1 g_x0x.2.2.2.1 175 3 Tapi_Span.cells x0.x.blocks :: S) ho [6] 11 (by kernel_rfl) (by kernel_rfl))) (Own.rowSl 0 (Own.to (S' := rowp g_x0x.2.2.1 g_x0x.2.2.2.1 175 3 Tapi_Span.cells x0.x.blocks :: S) hs.own [6] 11 (by kernel_rfl) (by kernel_rfl)) rfl)) hs.own) hs fun w a hs => ?_
   replace hcl : Own κ w C_15 := by rw [hC_15]; exact (hs.own.too [4, 5, 6, 7, 8, 9, 3, 10] 11)
   refine ⟨fun _ => hcl, ?_⟩
   refine qdp (fuel := 0) [28, 29] hs hcl hqC_15 fun a hs => ?_
   replace hs := hs.pick [1, 3, 37] (L' := [(1, pp b_2), (3, .slice Ar4x0_7 v_6.length cr4x0_8), (37, .bool (!v_33))]) (by kernel_rfl)
   refine Vk.dDone (by kernel_rfl) ?_
   replace hs := hs.bagG (l := Tvisorref19_M.parts κ b_x0x x0.x g_x0x) (S' := pt b_28 (blk [ci x0.x.n, C.slc g_x0x.1 x0.x.ops.length g_x0x.2.1, C.slc g_x0x.2.2.1 x0.x.blocks.length g_x0x.2.2.2.1] 102) :: rowp Ar19x0ops_22 cr19x0ops_23 93 6 Tapi_Op.cells v_21.ops :: rowp Ar19x0blocks_24 cr19x0blocks_25 175 3 Tapi_Span.cells v_21.blocks :: bagL (Twire_Machine.parts b_x0m x0.m g_x0m) :: rowp Ar4x0_7 cr4x0_8 32 1 (eI .u64) v_6 :: pt b_2 (blk (Tvisorlaw20_Pair.obj x0 b_x0m b_x0x A_x0l c_x0l A_x0v c_x0v) 45) :: S) hs.own.f8.f8.f8.f8.f8
   exact hj10 (!v_33) hm _ _ (hs.go [1, 3, 37] [6, 4, 0, 5] 7 (by kernel_rfl) (by kernel_rfl) (by kernel_rfl))


def share_Value.j1 (k : Nat) (rec7 : Int → Int → Option (Int)) (q_9 : Int) (p_26 : Int) : Option (Int) := rec7 p_26 (IntKind.i64.wrap (q_9 + 1))
def share_Value.l1 (x0 : List Int) (x1 : Cells) : Nat → Int → Int → Option (Int)
 | 0, _, _ => none
 | k + 1, q_8, q_9 => (bif decide (q_9 < 3) then (if 0 ≤ q_9 ∧ q_9 < 3 then (getI .i64 x1 q_9.toNat).bind fun v_16 => (bif (decide (v_16 ≥ 0)) && (decide (v_16 < ((x0.length : Nat) : Int))) then (if 0 ≤ v_16 then (x0[v_16.toNat]?).bind fun e_22 => share_Value.j1 k (share_Value.l1 x0 x1 k) q_9 (bxor .u64 q_8 e_22) else none) else share_Value.j1 k (share_Value.l1 x0 x1 k) q_9 q_8) else none) else some q_8)
abbrev share_Value.R (κ : Ctx) (S : List HP) (x0 : List Int) (x1 : Cells) (A_x0 : Option Addr) (c_x0 : Nat) (r : Int) : Ending → World → Prop := fun e w' => e = .returned (vw r) ∧ Own κ w' (S)
def share_Value.m (k : Nat) (x0 : List Int) (x1 : Cells) : Option Int := (if x1.length = 3 then (share_Value.l1 x0 x1 k 0 0).bind fun p_27 => some p_27 else none)

set_option maxRecDepth 100000 in
set_option maxHeartbeats 4000000 in
theorem share_Value.ok (k : Nat) (x0 : List Int) (x1 : Cells) (r : Int) (hm : share_Value.m k x0 x1 = some r) (κ : Ctx) (w : World) (S : List HP) (A_x0 : Option Addr) (c_x0 : Nat) (hx_x0 : Sl κ S A_x0 c_x0 1 (eI .u64) x0) (ho : Own κ w (S)) :
  Calls Try.prog 28 #[.slice A_x0 x0.length c_x0, .agg (vals x1)] w (share_Value.R κ S x0 x1 A_x0 c_x0 r) := by
 unfold share_Value.m at hm
 generalize hRR : share_Value.R κ S x0 x1 A_x0 c_x0 r = RR
 refine qen [(0, .slice A_x0 x0.length c_x0), (1, .agg (vals x1))] Try.func28 Try.ntmps28 ho fun a hs => ?_
 refine qsr fun K1 hK1 => ?_
 refine qbx 1 28 x1 3 hs fun b_2 w a hs => ?_
 refine qpk 1 [0, 3] hs fun a hs => hK1 _ _ ?_
 clear hK1
 refine qsk 1 [0, 3, 5] hs fun a hs => ?_
 refine Vk.seq fun K4 hK4 => ?_
 refine qsr fun K5 hK5 => ?_
 refine qpu 1 hs fun a hs => ?_
 obtain ⟨h_6, hm⟩ := ite_t hm
 refine Vk.step (Vk.value (some 9) (.agg (vals x1)) hs (by kernel_rfl) (op := (.load 26 (.tmp 8))) (by kernel_rfl) (fun o ho => run_loadN (cs := x1) ho (by kernel_rfl) (by kernel_rfl) h_6 (CellsAt.all 0 rfl) _ hs.own) fun a hs => ?_)
 refine qpk 1 [0, 5, 9, 10] hs fun a hs => hK5 _ _ ?_
 clear hK5
 refine wp_block ?_
 obtain ⟨r7, hl7, hm⟩ := bind_t hm
 have hx7 : ∀ (p_27 : Int), r7 = p_27 → ∀ (a : Act) (w : World), St 29 a w κ [(5, vw p_27)] (S) → K4 a w := by
  intro p_27 he a w hs
  subst r7
  refine hK4 _ _ ?_
  clear hK4
  refine qse 2 [(4, vw p_27)] hs fun a hs => ?_
  refine wp_ret ?_
  exact qr1 (vw p_27) hs rfl hRR (by cases hm; exact ⟨rfl, hs.own⟩)
 refine Vk.loopBy (fun k (s : Int × Int) a w => share_Value.l1 x0 x1 k s.1 s.2 = some r7 ∧ St 29 a w κ [(0, .slice A_x0 x0.length c_x0), (5, vw s.1), (9, .agg (vals x1)), (10, vi s.2)] (S)) k (0, 0) ⟨hl7, hs.go [0, 5, 9, 10] [] 1 (by kernel_rfl) (by kernel_rfl) (by kernel_rfl)⟩ (fun s a w h => by obtain ⟨h1, _⟩ := h; simp [share_Value.l1] at h1) (fun k KL7 ih s a w h => ?_)
 obtain ⟨q_8, q_9⟩ := s
 obtain ⟨hm, hs⟩ := h
 try dsimp only at hm hs
 rw [share_Value.l1] at hm
 refine qsk 1 [0, 5, 9, 10, 11] hs fun a hs => ?_
 refine Vk.seq fun K11 hK11 => ?_
 refine qcs (decide (q_9 < 3)) hs (fun hb => ?_) fun hb => ?_
 ·replace hm := bif_t hm hb
  refine wp_skip ?_
  refine hK11 _ _ ?_
  clear hK11
  refine Vk.seq fun K12 hK12 => ?_
  have hj12 : ∀ (p_26 : Int), share_Value.j1 k (share_Value.l1 x0 x1 k) q_9 p_26 = some r7 → ∀ (a : Act) (w : World), St 29 a w κ [(0, .slice A_x0 x0.length c_x0), (5, vw p_26), (9, .agg (vals x1)), (10, vi q_9)] (S) → K12 a w := by
   intro p_26 hm a w hs
   unfold share_Value.j1 at hm
   refine hK12 _ _ ?_
   refine Vk.region ?_
   refine qpk 2 [0, 5, 9, 10] hs fun a hs => ?_
   refine ih (p_26, (IntKind.i64.wrap (q_9 + 1))) _ _ ⟨hm, hs.go [0, 5, 9, 10] [] 0 (by kernel_rfl) (by kernel_rfl) (by kernel_rfl)⟩
  refine wp_block ?_
  refine qsr fun K13 hK13 => ?_
  obtain ⟨h_14, hm⟩ := ite_t hm
  obtain ⟨v_16, h_15, hm⟩ := bind_t hm
  refine Vk.step (Vk.value (some 12) (vi v_16) hs (by kernel_rfl) (op := (.index 26 (.tmp 9) (.tmp 10))) (by kernel_rfl) (fun o ho => run_idxVal (k := .i64) (cs := x1) (c := ci v_16) ho (by kernel_rfl) (by kernel_rfl) (len := 3) (et := 3) (by kernel_rfl) (by kernel_rfl) (by kernel_rfl) (by kernel_rfl) h_14 (getI_some h_15) _) fun a hs => ?_)
  refine qpe 1 [(0, .slice A_x0 x0.length c_x0), (5, vw q_8), (7, vi v_16), (9, .agg (vals x1)), (10, vi q_9)] hs fun a hs => hK13 _ _ ?_
  clear hK13
  refine qsr fun K17 hK17 => ?_
  refine qpu 3 hs fun a hs => ?_
  suffices hj_18 : ∀ a, St 29 a w κ [(0, .slice A_x0 x0.length c_x0), (5, vw q_8), (7, vi v_16), (9, .agg (vals x1)), (10, vi q_9), (13, vi v_16), (14, .bool (decide (v_16 ≥ 0))), (15, .bool (decide (v_16 ≥ 0))), (20, .bool ((decide (v_16 ≥ 0)) && (decide (v_16 < ((x0.length : Nat) : Int)))))] (S) → wpFrom Try.prog _ _ 8 a w by
   rcases Bool.eq_false_or_eq_true (decide (v_16 ≥ 0)) with hb | hb
   ·replace hs := hs.known (t := 15) hb (by kernel_rfl)
    refine qpu 5 hs fun a hs => ?_
    have hq := hs.pick [0, 5, 7, 9, 10, 13, 14, 15, 20] (L' := [(0, .slice A_x0 x0.length c_x0), (5, vw q_8), (7, vi v_16), (9, .agg (vals x1)), (10, vi q_9), (13, vi v_16), (14, .bool (decide (v_16 ≥ 0))), (15, .bool true), (20, .bool (decide (v_16 < ((x0.length : Nat) : Int))))]) (by kernel_rfl)
    exact hj_18 _ (hq.conv (by first | (rw [hb] <;> rfl) | rfl))
   ·replace hs := hs.known (t := 15) hb (by kernel_rfl)
    refine qpu 5 hs fun a hs => ?_
    have hq := hs.pick [0, 5, 7, 9, 10, 13, 14, 15, 20] (L' := [(0, .slice A_x0 x0.length c_x0), (5, vw q_8), (7, vi v_16), (9, .agg (vals x1)), (10, vi q_9), (13, vi v_16), (14, .bool (decide (v_16 ≥ 0))), (15, .bool false), (20, .bool false)]) (by kernel_rfl)
    exact hj_18 _ (hq.conv (by first | (rw [hb] <;> rfl) | rfl))
  intro a hs
  refine qpk 0 [0, 5, 7, 9, 10, 20] hs fun a hs => hK17 _ _ ?_
  clear hK17
  refine qcs ((decide (v_16 ≥ 0)) && (decide (v_16 < ((x0.length : Nat) : Int)))) hs (fun hb => ?_) fun hb => ?_
  ·replace hm := bif_t hm hb
   refine Vk.region ?_
   refine qpu 3 hs fun a hs => ?_
   obtain ⟨h_19, hm⟩ := ite_t hm
   obtain ⟨e_22, h_20, hm⟩ := bind_t hm
   obtain ⟨b_23, o_24, hA_25, h_21⟩ := Sl.elem hx_x0 h_20
   refine Vk.step (Vk.value (some 24) (.pointer (some ⟨b_23, o_24 + v_16.toNat * 1, none⟩)) hs (by kernel_rfl) (op := (.indexAddr 25 (.tmp 22) (.tmp 23))) (by kernel_rfl) (fun o ho => run_idxSlc (k := .i64) ho (cap := c_x0) (len := x0.length) ((congrArg (fun A => Value.slice A (x0.length) (c_x0)) hA_25) ▸ (by kernel_rfl)) (by kernel_rfl) (by kernel_rfl) (idx_ok h_19 h_20) _) fun a hs => ?_)
   refine Vk.step (Vk.value (some 25) (vw e_22) hs (by kernel_rfl) (op := (.load 32 (.tmp 24))) (by kernel_rfl) (fun o ho => run_load1 (c := cw e_22) ho (by kernel_rfl) (by kernel_rfl) (fun w ho => h_21 w ho 0 _ rfl) _ hs.own) fun a hs => ?_)
   refine qpe 2 [(0, .slice A_x0 x0.length c_x0), (5, vw (bxor .u64 q_8 e_22)), (9, .agg (vals x1)), (10, vi q_9)] hs fun a hs => ?_
   exact hj12 (bxor .u64 q_8 e_22) hm _ _ (hs.go [0, 5, 9, 10] [] 0 (by kernel_rfl) (by kernel_rfl) (by kernel_rfl))
  ·replace hm := bif_f hm hb
   refine wp_skip ?_
   exact hj12 q_8 hm _ _ (hs.go [0, 5, 9, 10] [] 0 (by kernel_rfl) (by kernel_rfl) (by kernel_rfl))
 ·replace hm := bif_f hm hb
  refine wp_exit ?_
  exact hx7 q_8 (Option.some.inj hm).symm _ _ (hs.go [5] [] 0 (by kernel_rfl) (by kernel_rfl) (by kernel_rfl))


def visorlaw22_awake.j1 (k : Nat) (p_42 : Twire_Machine) (p_44 : Cells) : Option (Bool) := (if p_44.length = 3 then (wire_Machine_Values.m k p_42).bind fun v_51 => (share_Value.m k v_51 p_44).bind fun v_56 => some (v_56 == 2) else none)
abbrev visorlaw22_awake.R (κ : Ctx) (S : List HP) (r : Bool) : Ending → World → Prop := fun e w' => e = .returned (.bool r) ∧ Own κ w' (S)
def visorlaw22_awake.m (k : Nat) : Option Bool := ((visorlaw20_Begins.m k 2 ([9] : List Int) 40).bind fun v => match v with | (.inl v_8) => some false | (.inr v_15) => (bif !v_15.2.2.2.2 then some false else (visorlaw22_laid.m k v_15.1 2 [cw 5, cw 3, cw 0]).bind fun v_33 => (visorlaw22_laid.m k v_33.2 2 [cw 1, cw 2, cw 0]).bind fun v_36 => (times_Dom.m k v_36.2 v_33.1 v_36.1).bind fun v_39 => (if v_39.1.length = 3 then visorlaw22_awake.j1 k v_39.2 v_39.1 else none)))

set_option maxRecDepth 100000 in
set_option maxHeartbeats 4000000 in
theorem visorlaw22_awake.ok (k : Nat) (r : Bool) (hm : visorlaw22_awake.m k = some r) (κ : Ctx) (w : World) (S : List HP) (ho : Own κ w (S)) :
  Calls Try.prog 24 #[] w (visorlaw22_awake.R κ S r) := by
 unfold visorlaw22_awake.m at hm
 generalize hRR : visorlaw22_awake.R κ S r = RR
 refine qen [] Try.func24 Try.ntmps24 ho fun a hs => ?_
 refine qse 1 [] hs fun a hs => ?_
 refine qsr fun K2 hK2 => ?_
 refine Vk.step (Vk.buildOp (sz := 1) (by_ := 8) (t := 25) (e := 32) (parts := #[(0, (.const (vw 9)))]) (zs := vals [cw 0]) ([9] : List Int) (eI .u64) (some 5) hs (by kernel_rfl) (by kernel_rfl) (by kernel_rfl) (by kernel_rfl) (by decide) rfl (fun x _ => rfl) (Nat.le_of_ble_eq_true (by kernel_rfl)) (by kernel_rfl) fun A_3 w a hs => ?_)
 replace hs := hs.toRd 0 rfl
 obtain ⟨v_7, h_6, hm⟩ := bind_t hm
 refine Vk.step (Vk.call (some 6) 18 #[vi 2, .slice A_3 (([9] : List Int).length) 1, vi 40] hs (by kernel_rfl) (by kernel_rfl) (by kernel_rfl) ?_)
 refine (visorlaw20_Begins.ok k 2 ([9] : List Int) 40 v_7 h_6 κ w (S) A_3 1 hs.own).mono ?_
 rintro _ w (⟨v_8, rfl, br5x0x_9, Ar5x0l_10, cr5x0l_11, Ar5x0v_12, cr5x0v_13, rfl, how⟩ | ⟨v_15, rfl, br5x0m_16, br5x0x_17, Ar5x0l_18, cr5x0l_19, Ar5x0v_20, cr5x0v_21, rfl, how⟩)
 ·dsimp only at hm
  refine ⟨_, _, _, rfl, how, fun a hs => ?_⟩
  refine qpu 3 hs fun a hs => ?_
  refine qal 45 [C.ptr none, C.ptr none, C.slc none 0 0, C.slc none 0 0] 1 hs fun b_14 w a hs => ?_
  refine qsa 0 [C.ptr none, cp br5x0x_9, C.slc Ar5x0l_10 v_8.2.1.length cr5x0l_11, C.slc Ar5x0v_12 v_8.2.2.length cr5x0v_13] hs rfl fun a w hs => ?_
  refine qpk 1 [1, 2] hs fun a hs => hK2 _ _ ?_
  refine Vk.seq fun K23 hK23 => ?_
  refine qsk 2 [1, 10] hs fun a hs => ?_
  refine qct hs ?_
  refine qse 1 [(0, .bool false)] hs fun a hs => ?_
  refine wp_ret ?_
  exact qr1 (.bool false) hs rfl hRR (by cases hm; exact ⟨rfl, (hs.own.too [] 4)⟩)
 ·dsimp only at hm
  refine ⟨_, _, _, rfl, how, fun a hs => ?_⟩
  refine qpu 3 hs fun a hs => ?_
  refine qal 45 [C.ptr none, C.ptr none, C.slc none 0 0, C.slc none 0 0] 1 hs fun b_22 w a hs => ?_
  refine qsa 0 [cp br5x0m_16, cp br5x0x_17, C.slc Ar5x0l_18 v_15.2.2.1.length cr5x0l_19, C.slc Ar5x0v_20 v_15.2.2.2.1.length cr5x0v_21] hs rfl fun a w hs => ?_
  refine qpk 1 [1, 2] hs fun a hs => hK2 _ _ ?_
  refine Vk.seq fun K26 hK26 => ?_
  refine qsk 2 [1, 10] hs fun a hs => ?_
  refine qcs (!v_15.2.2.2.2) hs (fun hb => ?_) fun hb => ?_
  ·replace hm := bif_t hm hb
   refine qse 1 [(0, .bool false)] hs fun a hs => ?_
   refine wp_ret ?_
   exact qr1 (.bool false) hs rfl hRR (by cases hm; exact ⟨rfl, (hs.own.too [] 5)⟩)
  ·replace hm := bif_f hm hb
   refine wp_skip ?_
   refine hK26 _ _ ?_
   clear hK26
   refine Vk.seq fun K29 hK29 => ?_
   have hj29 : ∀ (p_42 : Twire_Machine) (p_44 : Cells), visorlaw22_awake.j1 k p_42 p_44 = some r → ∀ (b_43 : Nat) (a : Act) (w : World), St 28 a w κ [(1, pp b_22), (3, pp b_43)] (pt b_22 (blk [cp br5x0m_16, cp br5x0x_17, C.slc Ar5x0l_18 v_15.2.2.1.length cr5x0l_19, C.slc Ar5x0v_20 v_15.2.2.2.1.length cr5x0v_21] 45) :: Twire_Machine.own br5x0m_16 p_42 :: Tvisorref19_M.own κ br5x0x_17 v_15.2.1 :: rowp Ar5x0l_18 cr5x0l_19 28 3 eC v_15.2.2.1 :: rowp Ar5x0v_20 cr5x0v_21 32 1 (eI .u64) v_15.2.2.2.1 :: pt b_43 (blk p_44 28) :: S) → K29 a w := by
    intro p_42 p_44 hm b_43 a w hs
    unfold visorlaw22_awake.j1 at hm
    refine hK29 _ _ ?_
    refine Vk.seq fun K45 hK45 => ?_
    obtain ⟨C_46, hC_46⟩ := qC hs.own.f1.drop
    refine qdr 7 κ C_46 hs fun w hs hqC_46 => ?_
    have hcl := qO hC_46 hs.own.f1.drop
    refine qdp (fuel := 6) [0] hs hcl hqC_46 fun a hs => ?_
    refine qdl 1 0 (cp br5x0m_16) hs hcl hqC_46 hC_46 rfl fun a hs => ?_
    obtain ⟨h_47, hm⟩ := ite_t hm
    refine Vk.dTakeT (i := 3) (some 25) (.agg (vals p_44)) hs (by kernel_rfl) hqC_46 hcl (by kernel_rfl) (by kernel_rfl) (op := (.load 28 (.tmp 3))) (by kernel_rfl) (by kernel_rfl) (fun w hw o ho => by rw [hC_46] at hw; exact run_loadN (cs := p_44) ho (by kernel_rfl) (by kernel_rfl) h_47 (CellsAt.all 4 rfl) _ hw) fun a hs => ?_
    obtain ⟨g_48, hs⟩ := hs.unex 1 rfl
    obtain ⟨v_51, h_50, hm⟩ := bind_t hm
    refine Vk.dOnly (i := 2) (by kernel_rfl) (Vk.call (some 24) 22 #[pp br5x0m_16] hs (by kernel_rfl) (by kernel_rfl) (by kernel_rfl) ?_)
    refine (wire_Machine_Values.ok k p_42 v_51 h_50 κ w (pt b_22 (blk [cp br5x0m_16, cp br5x0x_17, C.slc Ar5x0l_18 v_15.2.2.1.length cr5x0l_19, C.slc Ar5x0v_20 v_15.2.2.2.1.length cr5x0v_21] 45) :: Tvisorref19_M.own κ br5x0x_17 v_15.2.1 :: rowp Ar5x0l_18 cr5x0l_19 28 3 eC v_15.2.2.1 :: rowp Ar5x0v_20 cr5x0v_21 32 1 (eI .u64) v_15.2.2.2.1 :: pt b_43 (blk p_44 28) :: S) br5x0m_16 g_48 hs.own.f1).mono ?_
    rintro _ w ⟨Ar49x0_52, cr49x0_53, rfl, how⟩
    refine ⟨_, _, _, rfl, how, fun a hs => ?_⟩
    replace hcl := qO hC_46 hs.own.f1.drop.drop
    refine ⟨fun _ => hcl, ?_⟩
    obtain ⟨v_56, h_55, hm⟩ := bind_t hm
    refine qdc 4 (share_Value.ok _ _ _ _ h_55 _ _ (rowp Ar49x0_52 cr49x0_53 32 1 (eI .u64) v_51 :: bagL (Twire_Machine.parts br5x0m_16 p_42 g_48) :: pt b_22 (blk [cp br5x0m_16, cp br5x0x_17, C.slc Ar5x0l_18 v_15.2.2.1.length cr5x0l_19, C.slc Ar5x0v_20 v_15.2.2.2.1.length cr5x0v_21] 45) :: Tvisorref19_M.own κ br5x0x_17 v_15.2.1 :: rowp Ar5x0l_18 cr5x0l_19 28 3 eC v_15.2.2.1 :: rowp Ar5x0v_20 cr5x0v_21 32 1 (eI .u64) v_15.2.2.2.1 :: pt b_43 (blk p_44 28) :: S) Ar49x0_52 cr49x0_53 (Sl.lift (fun w ho => (Own.to (S' := rowp Ar49x0_52 cr49x0_53 32 1 (eI .u64) v_51 :: S) ho [0] 7 (by kernel_rfl) (by kernel_rfl))) (Own.rowSl 0 (Own.to (S' := rowp Ar49x0_52 cr49x0_53 32 1 (eI .u64) v_51 :: S) hs.own [0] 7 (by kernel_rfl) (by kernel_rfl)) rfl)) hs.own) hs fun w a hs => ?_
    replace hcl := qO hC_46 hs.own.f1.drop.drop
    refine ⟨fun _ => hcl, ?_⟩
    refine qdp (fuel := 0) [5, 6] hs hcl hqC_46 fun a hs => ?_
    replace hs := hs.pick [0] (L' := [(0, .bool (v_56 == 2))]) (by kernel_rfl)
    refine Vk.dDone (by kernel_rfl) ?_
    refine hK45 _ _ ?_
    clear hK45
    refine wp_ret ?_
    replace hs := hs.toEx (Twire_Machine.parts br5x0m_16 p_42) g_48 1 rfl
    exact qr1 (.bool (v_56 == 2)) hs rfl hRR (by cases hm; exact ⟨rfl, (hs.own.too [] 7)⟩)
   obtain ⟨C_30, hC_30⟩ := qC hs.own.f1.drop
   refine qdr 12 κ C_30 hs fun w hs hqC_30 => ?_
   have hcl := qO hC_30 hs.own.f1.drop
   refine qdp (fuel := 8) [0, 2, 4, 6, 8] hs hcl hqC_30 fun a hs => ?_
   refine qdl 1 0 (cp br5x0m_16) hs hcl hqC_30 hC_30 rfl fun a hs => ?_
   refine qdl 3 0 (cp br5x0m_16) hs hcl hqC_30 hC_30 rfl fun a hs => ?_
   refine qdl 7 0 (cp br5x0m_16) hs hcl hqC_30 hC_30 rfl fun a hs => ?_
   refine Vk.dMany2 (i0 := 5) (i1 := 11) (by kernel_rfl) ?_ ?_
   ·obtain ⟨v_33, h_32, hm⟩ := bind_t hm
    refine qco (visorlaw22_laid.ok _ _ _ _ _ h_32 _ _ _ br5x0m_16 hs.own.f1) hs fun w a hs => ?_
    replace hcl := qO hC_30 hs.own.drop
    refine ⟨fun _ => hcl, ?_⟩
    refine Vk.dMany2 (i0 := 9) (i1 := 11) (by kernel_rfl) ?_ ?_
    ·obtain ⟨v_36, h_35, hm⟩ := bind_t hm
     refine qco (visorlaw22_laid.ok _ _ _ _ _ h_35 _ _ _ br5x0m_16 hs.own) hs fun w a hs => ?_
     replace hcl := qO hC_30 hs.own.drop
     refine ⟨fun _ => hcl, ?_⟩
     refine Vk.dMany2 (i0 := 10) (i1 := 11) (by kernel_rfl) ?_ ?_
     ·obtain ⟨v_39, h_38, hm⟩ := bind_t hm
      refine qco (times_Dom.ok _ _ _ _ _ h_38 _ _ _ br5x0m_16 hs.own) hs fun w a hs => ?_
      replace hcl := qO hC_30 hs.own.drop
      refine ⟨fun _ => hcl, ?_⟩
      refine Vk.dOnly (i := 11) (by kernel_rfl) (Vk.alloc 3 28 [ci 0, ci 0, ci 0] hs (by kernel_rfl) (by kernel_rfl) (by kernel_rfl) fun b_40 w a hs => ?_)
      replace hcl := qO hC_30 hs.own.f1.drop.drop
      refine ⟨fun _ => hcl, ?_⟩
      obtain ⟨h_41, hm⟩ := ite_t hm
      refine Vk.dOnly (i := 12) (by kernel_rfl) (Vk.storeA (b := b_40) (ty := 28) (x := (.tmp 3)) (y := (.tmp 21)) (sz := 3) v_39.1 0 hs (by kernel_rfl) (by kernel_rfl) (by kernel_rfl) (by kernel_rfl) (by kernel_rfl) h_41 (by kernel_rfl) rfl (Eq.trans (b := 3) h_41 (Eq.symm rfl)) fun a w hs => ?_)
      refine ⟨fun h => absurd h (by decide), ?_⟩
      replace hs := hs.pick [1, 3] (L' := [(1, pp b_22), (3, pp b_40)]) (by kernel_rfl)
      refine Vk.dDone (by kernel_rfl) ?_
      exact hj29 v_39.2 v_39.1 hm b_40 _ _ (hs.go [1, 3] [2, 1, 3, 4, 5, 0] 6 (by kernel_rfl) (by kernel_rfl) (by kernel_rfl))
     ·refine Vk.alloc 3 28 [ci 0, ci 0, ci 0] hs (by kernel_rfl) (by kernel_rfl) (by kernel_rfl) fun b_37 w a hs => ?_
      replace hcl := qO hC_30 hs.own.f1.drop.drop
      refine ⟨fun _ => hcl, ?_⟩
      obtain ⟨v_40, h_39, hm⟩ := bind_t hm
      refine qdc 10 (times_Dom.ok _ _ _ _ _ h_39 _ _ _ br5x0m_16 hs.own.f1) hs fun w a hs => ?_
      replace hcl := qO hC_30 hs.own.f1.drop.drop
      refine ⟨fun _ => hcl, ?_⟩
      obtain ⟨h_41, hm⟩ := ite_t hm
      refine Vk.dOnly (i := 12) (by kernel_rfl) (Vk.storeA (b := b_37) (ty := 28) (x := (.tmp 3)) (y := (.tmp 21)) (sz := 3) v_40.1 1 hs (by kernel_rfl) (by kernel_rfl) (by kernel_rfl) (by kernel_rfl) (by kernel_rfl) h_41 (by kernel_rfl) rfl (Eq.trans (b := 3) h_41 (Eq.symm rfl)) fun a w hs => ?_)
      refine ⟨fun h => absurd h (by decide), ?_⟩
      replace hs := hs.pick [1, 3] (L' := [(1, pp b_22), (3, pp b_37)]) (by kernel_rfl)
      refine Vk.dDone (by kernel_rfl) ?_
      exact hj29 v_40.2 v_40.1 hm b_37 _ _ (hs.go [1, 3] [2, 0, 3, 4, 5, 1] 6 (by kernel_rfl) (by kernel_rfl) (by kernel_rfl))
    ·refine Vk.alloc 3 28 [ci 0, ci 0, ci 0] hs (by kernel_rfl) (by kernel_rfl) (by kernel_rfl) fun b_34 w a hs => ?_
     replace hcl := qO hC_30 hs.own.f1.drop.drop
     refine ⟨fun _ => hcl, ?_⟩
     obtain ⟨v_37, h_36, hm⟩ := bind_t hm
     refine qdc 9 (visorlaw22_laid.ok _ _ _ _ _ h_36 _ _ _ br5x0m_16 hs.own.f1) hs fun w a hs => ?_
     replace hcl := qO hC_30 hs.own.f1.drop.drop
     refine ⟨fun _ => hcl, ?_⟩
     obtain ⟨v_40, h_39, hm⟩ := bind_t hm
     refine qdc 10 (times_Dom.ok _ _ _ _ _ h_39 _ _ _ br5x0m_16 hs.own) hs fun w a hs => ?_
     replace hcl := qO hC_30 hs.own.f1.drop.drop
     refine ⟨fun _ => hcl, ?_⟩
     obtain ⟨h_41, hm⟩ := ite_t hm
     refine Vk.dOnly (i := 12) (by kernel_rfl) (Vk.storeA (b := b_34) (ty := 28) (x := (.tmp 3)) (y := (.tmp 21)) (sz := 3) v_40.1 1 hs (by kernel_rfl) (by kernel_rfl) (by kernel_rfl) (by kernel_rfl) (by kernel_rfl) h_41 (by kernel_rfl) rfl (Eq.trans (b := 3) h_41 (Eq.symm rfl)) fun a w hs => ?_)
     refine ⟨fun h => absurd h (by decide), ?_⟩
     replace hs := hs.pick [1, 3] (L' := [(1, pp b_22), (3, pp b_34)]) (by kernel_rfl)
     refine Vk.dDone (by kernel_rfl) ?_
     exact hj29 v_40.2 v_40.1 hm b_34 _ _ (hs.go [1, 3] [2, 0, 3, 4, 5, 1] 6 (by kernel_rfl) (by kernel_rfl) (by kernel_rfl))
   ·refine Vk.alloc 3 28 [ci 0, ci 0, ci 0] hs (by kernel_rfl) (by kernel_rfl) (by kernel_rfl) fun b_31 w a hs => ?_
    replace hcl := qO hC_30 hs.own.f2.drop.drop
    refine ⟨fun _ => hcl, ?_⟩
    obtain ⟨v_34, h_33, hm⟩ := bind_t hm
    refine qdc 5 (visorlaw22_laid.ok _ _ _ _ _ h_33 _ _ _ br5x0m_16 hs.own.f2) hs fun w a hs => ?_
    replace hcl := qO hC_30 hs.own.f1.drop.drop
    refine ⟨fun _ => hcl, ?_⟩
    obtain ⟨v_37, h_36, hm⟩ := bind_t hm
    refine qdc 9 (visorlaw22_laid.ok _ _ _ _ _ h_36 _ _ _ br5x0m_16 hs.own) hs fun w a hs => ?_
    replace hcl := qO hC_30 hs.own.f1.drop.drop
    refine ⟨fun _ => hcl, ?_⟩
    obtain ⟨v_40, h_39, hm⟩ := bind_t hm
    refine qdc 10 (times_Dom.ok _ _ _ _ _ h_39 _ _ _ br5x0m_16 hs.own) hs fun w a hs => ?_
    replace hcl := qO hC_30 hs.own.f1.drop.drop
    refine ⟨fun _ => hcl, ?_⟩
    obtain ⟨h_41, hm⟩ := ite_t hm
    refine Vk.dOnly (i := 12) (by kernel_rfl) (Vk.storeA (b := b_31) (ty := 28) (x := (.tmp 3)) (y := (.tmp 21)) (sz := 3) v_40.1 1 hs (by kernel_rfl) (by kernel_rfl) (by kernel_rfl) (by kernel_rfl) (by kernel_rfl) h_41 (by kernel_rfl) rfl (Eq.trans (b := 3) h_41 (Eq.symm rfl)) fun a w hs => ?_)
    refine ⟨fun h => absurd h (by decide), ?_⟩
    replace hs := hs.pick [1, 3] (L' := [(1, pp b_22), (3, pp b_31)]) (by kernel_rfl)
    refine Vk.dDone (by kernel_rfl) ?_
    exact hj29 v_40.2 v_40.1 hm b_31 _ _ (hs.go [1, 3] [2, 0, 3, 4, 5, 1] 6 (by kernel_rfl) (by kernel_rfl) (by kernel_rfl))


def visorlaw22_total.l1 (x0 : Int) (x1 : Cells) : Nat → Int → Int → Option (Int)
 | 0, _, _ => none
 | k + 1, q_7, q_8 => (bif decide (q_8 < x0) then (if 0 ≤ q_8 ∧ q_8 < 3 then (getI .u64 x1 (0 + q_8.toNat * 1)).bind fun v_14 => visorlaw22_total.l1 x0 x1 k (bxor .u64 q_7 v_14) (IntKind.i64.wrap (q_8 + 1)) else none) else some q_7)
abbrev visorlaw22_total.R (κ : Ctx) (S : List HP) (x0 : Int) (x1 : Cells) (r : Int) : Ending → World → Prop := fun e w' => e = .returned (vw r) ∧ Own κ w' (S)
def visorlaw22_total.m (k : Nat) (x0 : Int) (x1 : Cells) : Option Int := (visorlaw22_total.l1 x0 x1 k 0 0).bind fun p_15 => some p_15

set_option maxRecDepth 100000 in
set_option maxHeartbeats 4000000 in
theorem visorlaw22_total.ok (k : Nat) (x0 : Int) (x1 : Cells) (r : Int) (hm : visorlaw22_total.m k x0 x1 = some r) (κ : Ctx) (w : World) (S : List HP) (ho : Own κ w (S)) :
  Calls Try.prog 58 #[vi x0, .agg (vals x1)] w (visorlaw22_total.R κ S x0 x1 r) := by
 unfold visorlaw22_total.m at hm
 generalize hRR : visorlaw22_total.R κ S x0 x1 r = RR
 refine qen [(0, vi x0), (1, .agg (vals x1))] Try.func58 Try.ntmps58 ho fun a hs => ?_
 refine qsr fun K1 hK1 => ?_
 refine qbx 1 36 x1 3 hs fun b_2 w a hs => ?_
 refine qpe 1 [(0, vi x0), (3, pp b_2)] hs fun a hs => hK1 _ _ ?_
 clear hK1
 refine qsk 1 [0, 3, 5] hs fun a hs => ?_
 refine Vk.seq fun K4 hK4 => ?_
 refine qsk 1 [0, 3, 5, 6] hs fun a hs => ?_
 refine wp_block ?_
 obtain ⟨r6, hl6, hm⟩ := bind_t hm
 have hx6 : ∀ (p_15 : Int), r6 = p_15 → ∀ (a : Act) (w : World), St 18 a w κ [(5, vw p_15)] (S) → K4 a w := by
  intro p_15 he a w hs
  subst r6
  refine hK4 _ _ ?_
  clear hK4
  refine qse 2 [(4, vw p_15)] hs fun a hs => ?_
  refine wp_ret ?_
  exact qr1 (vw p_15) hs rfl hRR (by cases hm; exact ⟨rfl, hs.own⟩)
 refine Vk.loopBy (fun k (s : Int × Int) a w => visorlaw22_total.l1 x0 x1 k s.1 s.2 = some r6 ∧ St 18 a w κ [(0, vi x0), (3, pp b_2), (5, vw s.1), (6, vi s.2)] (pt b_2 (blk x1 36) :: S)) k (0, 0) ⟨hl6, hs.go [0, 3, 5, 6] [0] 1 (by kernel_rfl) (by kernel_rfl) (by kernel_rfl)⟩ (fun s a w h => by obtain ⟨h1, _⟩ := h; simp [visorlaw22_total.l1] at h1) (fun k KL6 ih s a w h => ?_)
 obtain ⟨q_7, q_8⟩ := s
 obtain ⟨hm, hs⟩ := h
 try dsimp only at hm hs
 rw [visorlaw22_total.l1] at hm
 refine Vk.seq fun K9 hK9 => ?_
 refine qsk 3 [0, 3, 5, 6, 9] hs fun a hs => ?_
 refine qcs (decide (q_8 < x0)) hs (fun hb => ?_) fun hb => ?_
 ·replace hm := bif_t hm hb
  refine wp_skip ?_
  refine hK9 _ _ ?_
  clear hK9
  refine Vk.seq fun K11 hK11 => ?_
  refine wp_block ?_
  refine Vk.region ?_
  refine qpu 2 hs fun a hs => ?_
  obtain ⟨h_12, hm⟩ := ite_t hm
  refine Vk.step (Vk.value (some 14) (.pointer (some ⟨b_2, 0 + q_8.toNat * 1, none⟩)) hs (by kernel_rfl) (op := (.indexAddr 36 (.tmp 3) (.tmp 13))) (by kernel_rfl) (fun o ho => run_idxArr (k := .i64) ho (by kernel_rfl) (by kernel_rfl) (by kernel_rfl) h_12 _) fun a hs => ?_)
  obtain ⟨v_14, h_13, hm⟩ := bind_t hm
  refine Vk.step (Vk.value (some 15) (vw v_14) hs (by kernel_rfl) (op := (.load 32 (.tmp 14))) (by kernel_rfl) (fun o ho => run_load1 (c := cw v_14) ho (by kernel_rfl) (by kernel_rfl) (Cell.own 0 rfl (getI_some h_13)) _ hs.own) fun a hs => ?_)
  refine qpk 2 [0, 3, 5, 6] hs fun a hs => hK11 _ _ ?_
  clear hK11
  refine Vk.region ?_
  refine qpk 3 [0, 3, 5, 6] hs fun a hs => ?_
  refine ih ((bxor .u64 q_7 v_14), (IntKind.i64.wrap (q_8 + 1))) _ _ ⟨hm, hs.go [0, 3, 5, 6] [0] 1 (by kernel_rfl) (by kernel_rfl) (by kernel_rfl)⟩
 ·replace hm := bif_f hm hb
  refine wp_exit ?_
  exact hx6 q_7 (Option.some.inj hm).symm _ _ (hs.go [5] [] 1 (by kernel_rfl) (by kernel_rfl) (by kernel_rfl))


def visorlaw22_TimesTells.j5 (k : Nat) (p_172 : Bool) : Option (Bool) := some p_172
def visorlaw22_TimesTells.j4 (k : Nat) (x0 : Tvisorlaw22_Asked) (v_6 : Int) (v_109 : Int) (v_115 : Cells × Twire_Machine) (v_121 : Cells × Tvisorref19_M) (p_133 : Bool) : Option (Bool) := (bif p_133 then some false else (bif v_121.2.e != 0 then (visorlaw22_awake.m k).bind fun v_145 => some v_145 else (wire_Machine_Len.m k v_115.2).bind fun v_151 => (visorref22_Ops.m k 1 v_6).bind fun v_154 => (bif (IntKind.i64.wrap (v_151 - v_109)) == v_154 then (wire_Machine_Values.m k v_115.2).bind fun v_157 => (share_Value.m k v_157 v_115.1).bind fun v_162 => (visorlaw22_total.m k v_6 [cw x0.a0, cw x0.a1, cw x0.a2]).bind fun v_165 => (visorlaw22_total.m k v_6 [cw x0.b0, cw x0.b1, cw x0.b2]).bind fun v_168 => (bif v_162 == (band .u64 v_165 v_168) then (visorlaw22_awake.m k).bind fun v_171 => visorlaw22_TimesTells.j5 k v_171 else visorlaw22_TimesTells.j5 k false) else visorlaw22_TimesTells.j5 k false)))
def visorlaw22_TimesTells.j3 (k : Nat) (rec79 : Tvisorref19_M → Int → Option (Tvisorref19_M)) (v_6 : Int) (q_80 : Tvisorref19_M) (q_81 : Int) (p_96 : Int) : Option (Tvisorref19_M) := (if v_6 ≠ 0 then (visorref19_M_Do.m k q_80 (⟨3, Int.tmod q_81 v_6, (-1), (-1), (-1), p_96⟩ : Tapi_Op) 0).bind fun v_101 => rec79 v_101.2 (IntKind.i64.wrap (q_81 + 1)) else none)
def visorlaw22_TimesTells.l1 (x0 : Tvisorlaw22_Asked) (v_6 : Int) : Nat → Tvisorref19_M → Int → Option (Tvisorref19_M)
 | 0, _, _ => none
 | k + 1, q_80, q_81 => (bif decide (q_81 < (IntKind.i64.wrap (2 * v_6))) then (if v_6 ≠ 0 then (if 0 ≤ Int.tmod q_81 v_6 ∧ Int.tmod q_81 v_6 < 3 then (getI .u64 [C.bool x0.three, ci x0.kind, cw x0.a0, cw x0.a1, cw x0.a2, cw x0.b0, cw x0.b1, cw x0.b2, C.bool false] (2 + (Int.tmod q_81 v_6).toNat * 1)).bind fun v_89 => (bif decide (q_81 ≥ v_6) then (if v_6 ≠ 0 then (if 0 ≤ Int.tmod q_81 v_6 ∧ Int.tmod q_81 v_6 < 3 then (getI .u64 [C.bool x0.three, ci x0.kind, cw x0.a0, cw x0.a1, cw x0.a2, cw x0.b0, cw x0.b1, cw x0.b2, C.bool false] (5 + (Int.tmod q_81 v_6).toNat * 1)).bind fun v_95 => visorlaw22_TimesTells.j3 k (visorlaw22_TimesTells.l1 x0 v_6 k) v_6 q_80 q_81 v_95 else none) else none) else visorlaw22_TimesTells.j3 k (visorlaw22_TimesTells.l1 x0 v_6 k) v_6 q_80 q_81 v_89) else none) else none) else some q_80)
def visorlaw22_TimesTells.j2 (k : Nat) (x0 : Tvisorlaw22_Asked) (v_6 : Int) (v_19 : Twire_Machine × Tvisorref19_M × List Cells × List Int × Bool) (p_72 : Twire_Machine) (p_74 : Cells) (p_76 : Cells) : Option (Bool) := (visorlaw22_TimesTells.l1 x0 v_6 k v_19.2.1 0).bind fun p_102 => (wire_Machine_Len.m k p_72).bind fun v_109 => (if p_74.length = 3 then (if p_76.length = 3 then (times_By.m k p_72 x0.kind p_74 p_76).bind fun v_115 => (if v_115.1.length = 3 then (visorref22_By.m k p_102 x0.kind p_74 p_76).bind fun v_121 => (if v_121.1.length = 3 then (if Kinds ((List.replicate 3 [LK.int .i64]).flatten) v_115.1 then (if Kinds ((List.replicate 3 [LK.int .i64]).flatten) v_121.1 then (bif !(ceq v_115.1 v_121.1) then visorlaw22_TimesTells.j4 k x0 v_6 v_109 v_115 v_121 true else (visorlaw20_Pair_Like.m k (⟨v_115.2, v_121.2, v_19.2.2.1, v_19.2.2.2.1⟩ : Tvisorlaw20_Pair)).bind fun v_132 => visorlaw22_TimesTells.j4 k x0 v_6 v_109 v_115 v_121 (!v_132)) else none) else none) else none) else none) else none) else none)
def visorlaw22_TimesTells.j1 (k : Nat) (x0 : Tvisorlaw22_Asked) (v_6 : Int) (v_19 : Twire_Machine × Tvisorref19_M × List Cells × List Int × Bool) (p_58 : Bool) : Option (Bool) := (bif p_58 then some false else (visorlaw22_laid.m k v_19.1 v_6 [cw x0.a0, cw x0.a1, cw x0.a2]).bind fun v_64 => (visorlaw22_laid.m k v_64.2 v_6 [cw x0.b0, cw x0.b1, cw x0.b2]).bind fun v_67 => (if v_64.1.length = 3 then (if v_67.1.length = 3 then visorlaw22_TimesTells.j2 k x0 v_6 v_19 v_67.2 v_64.1 v_67.1 else none) else none))
abbrev visorlaw22_TimesTells.R (κ : Ctx) (S : List HP) (x0 : Tvisorlaw22_Asked) (A_x0masks : Option Addr) (c_x0masks : Nat) (r : Bool) : Ending → World → Prop := fun e w' => e = .returned (.bool r) ∧ Own κ w' (S)
def visorlaw22_TimesTells.m (k : Nat) (x0 : Tvisorlaw22_Asked) : Option Bool := (visorlaw22_Asked_n.m k x0).bind fun v_6 => ((visorlaw20_Begins.m k v_6 x0.masks 60).bind fun v => match v with | (.inl v_12) => some false | (.inr v_19) => (bif !v_19.2.2.2.2 then visorlaw22_TimesTells.j1 k x0 v_6 v_19 true else (times_Draws.m k v_6).bind fun v_36 => (visorref22_Draws.m k v_6).bind fun v_39 => (bif v_36 != v_39 then visorlaw22_TimesTells.j1 k x0 v_6 v_19 true else (times_Draws.m k x0.kind).bind fun v_42 => (visorref22_Draws.m k x0.kind).bind fun v_45 => (bif v_42 != v_45 then visorlaw22_TimesTells.j1 k x0 v_6 v_19 true else (times_Ops.m k x0.kind v_6).bind fun v_48 => (visorref22_Ops.m k x0.kind v_6).bind fun v_51 => (bif v_48 != v_51 then visorlaw22_TimesTells.j1 k x0 v_6 v_19 true else (times_Ops.m k 1 x0.kind).bind fun v_54 => (visorref22_Ops.m k 1 x0.kind).bind fun v_57 => visorlaw22_TimesTells.j1 k x0 v_6 v_19 (v_54 != v_57))))))

set_option maxRecDepth 100000 in
set_option maxHeartbeats 4000000 in
theorem visorlaw22_TimesTells.ok (k : Nat) (x0 : Tvisorlaw22_Asked) (r : Bool) (hm : visorlaw22_TimesTells.m k x0 = some r) (κ : Ctx) (w : World) (S : List HP) (A_x0masks : Option Addr) (c_x0masks : Nat) (hx_x0masks : Sl κ [] A_x0masks c_x0masks 1 (eI .u64) x0.masks) (ho : Own κ w (S)) :
  Calls Try.prog 8 #[.agg (vals [C.bool x0.three, ci x0.kind, cw x0.a0, cw x0.a1, cw x0.a2, cw x0.b0, cw x0.b1, cw x0.b2, C.slc A_x0masks x0.masks.length c_x0masks])] w (visorlaw22_TimesTells.R κ S x0 A_x0masks c_x0masks r) := by
 have ht_x0masks := hx_x0masks
 generalize hRR : visorlaw22_TimesTells.R κ S x0 A_x0masks c_x0masks r = RR
 replace hx_x0masks := Sl.top (S := S) hx_x0masks
 unfold visorlaw22_TimesTells.m at hm
 refine qen [(0, .agg (vals [C.bool x0.three, ci x0.kind, cw x0.a0, cw x0.a1, cw x0.a2, cw x0.b0, cw x0.b1, cw x0.b2, C.slc A_x0masks x0.masks.length c_x0masks]))] Try.func8 Try.ntmps8 ho fun a hs => ?_
 refine qsr fun K1 hK1 => ?_
 refine qbx 0 38 [C.bool x0.three, ci x0.kind, cw x0.a0, cw x0.a1, cw x0.a2, cw x0.b0, cw x0.b1, cw x0.b2, C.slc A_x0masks x0.masks.length c_x0masks] 1 hs fun b_2 w a hs => ?_
 refine qpe 1 [(1, pp b_2)] hs fun a hs => hK1 _ _ ?_
 clear hK1
 refine qsr fun K3 hK3 => ?_
 refine qln 0 ([C.bool x0.three, ci x0.kind, cw x0.a0, cw x0.a1, cw x0.a2, cw x0.b0, cw x0.b1, cw x0.b2, C.slc A_x0masks x0.masks.length c_x0masks]) hs rfl fun a hs => ?_
 obtain ⟨v_6, h_5, hm⟩ := bind_t hm
 refine qcl (visorlaw22_Asked_n.ok _ _ _ h_5 _ _ (pt b_2 (blk (Tvisorlaw22_Asked.obj x0 A_x0masks c_x0masks) 38) :: S) A_x0masks c_x0masks hx_x0masks.less hs.own) hs fun w a hs => ?_
 refine qpe 1 [(1, pp b_2), (3, vi v_6)] hs fun a hs => hK3 _ _ ?_
 clear hK3
 refine qsr fun K7 hK7 => ?_
 refine qpu 2 hs fun a hs => ?_
 refine qld 0 (C.slc A_x0masks x0.masks.length c_x0masks) hs rfl fun a hs => ?_
 replace hs := hs.addRd ht_x0masks
 obtain ⟨v_11, h_10, hm⟩ := bind_t hm
 refine Vk.step (Vk.call (some 19) 18 #[vi v_6, .slice A_x0masks x0.masks.length c_x0masks, vi 60] hs (by kernel_rfl) (by kernel_rfl) (by kernel_rfl) ?_)
 refine (visorlaw20_Begins.ok k v_6 x0.masks 60 v_11 h_10 κ w (pt b_2 (blk (Tvisorlaw22_Asked.obj x0 A_x0masks c_x0masks) 38) :: S) A_x0masks c_x0masks hs.own).mono ?_
 rintro _ w (⟨v_12, rfl, br9x0x_13, Ar9x0l_14, cr9x0l_15, Ar9x0v_16, cr9x0v_17, rfl, how⟩ | ⟨v_19, rfl, br9x0m_20, br9x0x_21, Ar9x0l_22, cr9x0l_23, Ar9x0v_24, cr9x0v_25, rfl, how⟩)
 ·dsimp only at hm
  refine ⟨_, _, _, rfl, how, fun a hs => ?_⟩
  refine qpu 3 hs fun a hs => ?_
  refine qal 45 [C.ptr none, C.ptr none, C.slc none 0 0, C.slc none 0 0] 4 hs fun b_18 w a hs => ?_
  refine qsa 0 [C.ptr none, cp br9x0x_13, C.slc Ar9x0l_14 v_12.2.1.length cr9x0l_15, C.slc Ar9x0v_16 v_12.2.2.length cr9x0v_17] hs rfl fun a w hs => ?_
  refine qpk 1 [1, 3, 4, 5] hs fun a hs => hK7 _ _ ?_
  refine Vk.seq fun K27 hK27 => ?_
  refine Vk.seq fun K28 hK28 => ?_
  obtain ⟨C_29, hC_29⟩ := qC hs.own
  refine qdr 38 κ C_29 hs fun w hs hqC_29 => ?_
  have hcl := qO hC_29 hs.own
  refine qdp (fuel := 0) [0, 1, 2, 3, 4, 5, 6, 7, 8, 9, 10, 11, 12, 13, 14, 15, 16, 17, 18, 19, 20, 21, 22, 23, 24, 25, 26, 27, 28, 29, 30, 31, 32, 33, 34, 35, 36, 37] hs hcl hqC_29 fun a hs => ?_
  replace hs := hs.pick [1, 3, 4, 59] (L' := [(1, pp b_2), (3, vi v_6), (4, pp b_18), (59, .bool true)]) (by kernel_rfl)
  refine Vk.dDone (by kernel_rfl) ?_
  refine hK28 _ _ ?_
  clear hK28
  refine qct hs ?_
  refine qse 1 [(2, .bool false)] hs fun a hs => ?_
  refine wp_ret ?_
  exact qr1 (.bool false) hs rfl hRR (by cases hm; exact ⟨rfl, (hs.own.too [] 5)⟩)
 ·dsimp only at hm
  refine ⟨_, _, _, rfl, how, fun a hs => ?_⟩
  refine qpu 3 hs fun a hs => ?_
  refine qal 45 [C.ptr none, C.ptr none, C.slc none 0 0, C.slc none 0 0] 4 hs fun b_26 w a hs => ?_
  refine qsa 0 [cp br9x0m_20, cp br9x0x_21, C.slc Ar9x0l_22 v_19.2.2.1.length cr9x0l_23, C.slc Ar9x0v_24 v_19.2.2.2.1.length cr9x0v_25] hs rfl fun a w hs => ?_
  refine qpk 1 [1, 3, 4, 5] hs fun a hs => hK7 _ _ ?_
  refine Vk.seq fun K31 hK31 => ?_
  refine Vk.seq fun K32 hK32 => ?_
  have hj32 : ∀ (p_58 : Bool), visorlaw22_TimesTells.j1 k x0 v_6 v_19 p_58 = some r → ∀ (a : Act) (w : World), St 161 a w κ [(1, pp b_2), (3, vi v_6), (4, pp b_26), (59, .bool p_58)] (pt b_2 (blk (Tvisorlaw22_Asked.obj x0 A_x0masks c_x0masks) 38) :: pt b_26 (blk [cp br9x0m_20, cp br9x0x_21, C.slc Ar9x0l_22 v_19.2.2.1.length cr9x0l_23, C.slc Ar9x0v_24 v_19.2.2.2.1.length cr9x0v_25] 45) :: Twire_Machine.own br9x0m_20 v_19.1 :: Tvisorref19_M.own κ br9x0x_21 v_19.2.1 :: rowp Ar9x0l_22 cr9x0l_23 28 3 eC v_19.2.2.1 :: rowp Ar9x0v_24 cr9x0v_25 32 1 (eI .u64) v_19.2.2.2.1 :: S) → K32 a w := by
   intro p_58 hm a w hs
   unfold visorlaw22_TimesTells.j1 at hm
   refine hK32 _ _ ?_
   refine qcs (p_58) hs (fun hb => ?_) fun hb => ?_
   ·replace hm := bif_t hm hb
    refine qse 1 [(2, .bool false)] hs fun a hs => ?_
    refine wp_ret ?_
    exact qr1 (.bool false) hs rfl hRR (by cases hm; exact ⟨rfl, (hs.own.too [] 6)⟩)
   ·replace hm := bif_f hm hb
    refine wp_skip ?_
    refine hK31 _ _ ?_
    clear hK31
    refine Vk.seq fun K60 hK60 => ?_
    have hj60 : ∀ (p_72 : Twire_Machine) (p_74 : Cells) (p_76 : Cells), visorlaw22_TimesTells.j2 k x0 v_6 v_19 p_72 p_74 p_76 = some r → ∀ (b_73 : Nat) (b_75 : Nat) (a : Act) (w : World), St 161 a w κ [(1, pp b_2), (3, vi v_6), (4, pp b_26), (6, pp b_73), (7, pp b_75)] (pt b_2 (blk (Tvisorlaw22_Asked.obj x0 A_x0masks c_x0masks) 38) :: pt b_26 (blk [cp br9x0m_20, cp br9x0x_21, C.slc Ar9x0l_22 v_19.2.2.1.length cr9x0l_23, C.slc Ar9x0v_24 v_19.2.2.2.1.length cr9x0v_25] 45) :: Twire_Machine.own br9x0m_20 p_72 :: Tvisorref19_M.own κ br9x0x_21 v_19.2.1 :: rowp Ar9x0l_22 cr9x0l_23 28 3 eC v_19.2.2.1 :: rowp Ar9x0v_24 cr9x0v_25 32 1 (eI .u64) v_19.2.2.2.1 :: pt b_73 (blk p_74 28) :: pt b_75 (blk p_76 28) :: S) → K60 a w := by
     intro p_72 p_74 p_76 hm b_73 b_75 a w hs
     unfold visorlaw22_TimesTells.j2 at hm
     refine hK60 _ _ ?_
     refine Vk.seq fun K77 hK77 => ?_
     refine qse 1 [(1, pp b_2), (3, vi v_6), (4, pp b_26), (6, pp b_73), (7, pp b_75), (8, vi 0)] hs fun a hs => ?_
     refine wp_block ?_
     obtain ⟨r79, hl79, hm⟩ := bind_t hm
     have hx79 : ∀ (p_102 : Tvisorref19_M), r79 = p_102 → ∀ (a : Act) (w : World), St 161 a w κ [(1, pp b_2), (3, vi v_6), (4, pp b_26), (6, pp b_73), (7, pp b_75)] (pt b_2 (blk (Tvisorlaw22_Asked.obj x0 A_x0masks c_x0masks) 38) :: pt b_26 (blk [cp br9x0m_20, cp br9x0x_21, C.slc Ar9x0l_22 v_19.2.2.1.length cr9x0l_23, C.slc Ar9x0v_24 v_19.2.2.2.1.length cr9x0v_25] 45) :: Twire_Machine.own br9x0m_20 p_72 :: Tvisorref19_M.own κ br9x0x_21 p_102 :: rowp Ar9x0l_22 cr9x0l_23 28 3 eC v_19.2.2.1 :: rowp Ar9x0v_24 cr9x0v_25 32 1 (eI .u64) v_19.2.2.2.1 :: pt b_73 (blk p_74 28) :: pt b_75 (blk p_76 28) :: S) → K77 a w := by
      intro p_102 he a w hs
      subst r79
      refine hK77 _ _ ?_
      clear hK77
      refine qsr fun K105 hK105 => ?_
      refine qpu 1 hs fun a hs => ?_
      refine qld 1 (cp br9x0m_20) hs rfl fun a hs => ?_
      obtain ⟨g_106, hs⟩ := hs.unex 2 rfl
      obtain ⟨v_109, h_108, hm⟩ := bind_t hm
      refine qcl (wire_Machine_Len.ok _ _ _ h_108 _ _ _ br9x0m_20 g_106 hs.own.f2) hs fun w a hs => ?_
      refine qpk 1 [1, 3, 4, 6, 7, 10] hs fun a hs => hK105 _ _ ?_
      clear hK105
      refine qsr fun K110 hK110 => ?_
      refine qpu 1 hs fun a hs => ?_
      refine qld 2 (cp br9x0m_20) hs rfl fun a hs => ?_
      refine qpu 1 hs fun a hs => ?_
      refine qld 1 (ci x0.kind) hs rfl fun a hs => ?_
      obtain ⟨h_111, hm⟩ := ite_t hm
      refine Vk.step (Vk.value (some 108) (.agg (vals p_74)) hs (by kernel_rfl) (op := (.load 28 (.tmp 6))) (by kernel_rfl) (fun o ho => run_loadN (cs := p_74) ho (by kernel_rfl) (by kernel_rfl) h_111 (CellsAt.all 6 rfl) _ hs.own) fun a hs => ?_)
      obtain ⟨h_112, hm⟩ := ite_t hm
      refine Vk.step (Vk.value (some 109) (.agg (vals p_76)) hs (by kernel_rfl) (op := (.load 28 (.tmp 7))) (by kernel_rfl) (fun o ho => run_loadN (cs := p_76) ho (by kernel_rfl) (by kernel_rfl) h_112 (CellsAt.all 7 rfl) _ hs.own) fun a hs => ?_)
      replace hs := hs.toEx (Twire_Machine.parts br9x0m_20 p_72) g_106 0 rfl
      obtain ⟨v_115, h_114, hm⟩ := bind_t hm
      refine qcl (times_By.ok _ _ _ _ _ _ h_114 _ _ _ br9x0m_20 hs.own) hs fun w a hs => ?_
      refine qal 28 [ci 0, ci 0, ci 0] 11 hs fun b_116 w a hs => ?_
      obtain ⟨h_117, hm⟩ := ite_t hm
      refine Vk.step (Vk.storeA (b := b_116) (ty := 28) (x := (.tmp 11)) (y := (.tmp 110)) (sz := 3) v_115.1 0 hs (by kernel_rfl) (by kernel_rfl) (by kernel_rfl) (by kernel_rfl) (by kernel_rfl) h_117 (by kernel_rfl) rfl (Eq.trans (b := 3) h_117 (Eq.symm rfl)) fun a w hs => ?_)
      refine qpk 0 [1, 3, 4, 6, 7, 10, 11] hs fun a hs => hK110 _ _ ?_
      clear hK110
      refine qsr fun K118 hK118 => ?_
      refine qpu 1 hs fun a hs => ?_
      refine qld 3 (cp br9x0x_21) hs rfl fun a hs => ?_
      refine qpu 1 hs fun a hs => ?_
      refine qld 2 (ci x0.kind) hs rfl fun a hs => ?_
      refine Vk.step (Vk.value (some 115) (.agg (vals p_74)) hs (by kernel_rfl) (op := (.load 28 (.tmp 6))) (by kernel_rfl) (fun o ho => run_loadN (cs := p_74) ho (by kernel_rfl) (by kernel_rfl) h_111 (CellsAt.all 7 rfl) _ hs.own) fun a hs => ?_)
      refine Vk.step (Vk.value (some 116) (.agg (vals p_76)) hs (by kernel_rfl) (op := (.load 28 (.tmp 7))) (by kernel_rfl) (fun o ho => run_loadN (cs := p_76) ho (by kernel_rfl) (by kernel_rfl) h_112 (CellsAt.all 8 rfl) _ hs.own) fun a hs => ?_)
      obtain ⟨v_121, h_120, hm⟩ := bind_t hm
      refine qcl (visorref22_By.ok _ _ _ _ _ _ h_120 _ _ _ br9x0x_21 hs.own.f4) hs fun w a hs => ?_
      refine qal 28 [ci 0, ci 0, ci 0] 12 hs fun b_122 w a hs => ?_
      obtain ⟨h_123, hm⟩ := ite_t hm
      refine Vk.step (Vk.storeA (b := b_122) (ty := 28) (x := (.tmp 12)) (y := (.tmp 117)) (sz := 3) v_121.1 0 hs (by kernel_rfl) (by kernel_rfl) (by kernel_rfl) (by kernel_rfl) (by kernel_rfl) h_123 (by kernel_rfl) rfl (Eq.trans (b := 3) h_123 (Eq.symm rfl)) fun a w hs => ?_)
      refine qpk 0 [1, 3, 4, 10, 11, 12] hs fun a hs => hK118 _ _ ?_
      clear hK118
      refine Vk.seq fun K124 hK124 => ?_
      refine Vk.seq fun K125 hK125 => ?_
      have hj125 : ∀ (p_133 : Bool), visorlaw22_TimesTells.j4 k x0 v_6 v_109 v_115 v_121 p_133 = some r → ∀ (a : Act) (w : World), St 161 a w κ [(1, pp b_2), (3, vi v_6), (4, pp b_26), (10, vi v_109), (11, pp b_116), (125, .bool p_133)] (pt b_2 (blk (Tvisorlaw22_Asked.obj x0 A_x0masks c_x0masks) 38) :: pt b_26 (blk [cp br9x0m_20, cp br9x0x_21, C.slc Ar9x0l_22 v_19.2.2.1.length cr9x0l_23, C.slc Ar9x0v_24 v_19.2.2.2.1.length cr9x0v_25] 45) :: Twire_Machine.own br9x0m_20 v_115.2 :: Tvisorref19_M.own κ br9x0x_21 v_121.2 :: rowp Ar9x0l_22 cr9x0l_23 28 3 eC v_19.2.2.1 :: rowp Ar9x0v_24 cr9x0v_25 32 1 (eI .u64) v_19.2.2.2.1 :: pt b_116 (blk v_115.1 28) :: S) → K125 a w := by
       intro p_133 hm a w hs
       unfold visorlaw22_TimesTells.j4 at hm
       refine hK125 _ _ ?_
       refine qcs (p_133) hs (fun hb => ?_) fun hb => ?_
       ·replace hm := bif_t hm hb
        refine qse 1 [(2, .bool false)] hs fun a hs => ?_
        refine wp_ret ?_
        exact qr1 (.bool false) hs rfl hRR (by cases hm; exact ⟨rfl, (hs.own.too [] 7)⟩)
       ·replace hm := bif_f hm hb
        refine wp_skip ?_
        refine hK124 _ _ ?_
        clear hK124
        refine Vk.seq fun K135 hK135 => ?_
        refine qsr fun K136 hK136 => ?_
        refine qpu 1 hs fun a hs => ?_
        refine qld 1 (cp br9x0x_21) hs rfl fun a hs => ?_
        refine qpu 2 hs fun a hs => ?_
        obtain ⟨g_137, hs⟩ := hs.unbag 3 rfl
        refine qld 0 (ci v_121.2.e) hs rfl fun a hs => ?_
        refine qpk 1 [1, 3, 4, 10, 11, 131] hs fun a hs => hK136 _ _ ?_
        clear hK136
        refine qcs (v_121.2.e != 0) hs (fun hb => ?_) fun hb => ?_
        ·replace hm := bif_t hm hb
         refine qsr fun K142 hK142 => ?_
         obtain ⟨v_145, h_144, hm⟩ := bind_t hm
         refine qcl (visorlaw22_awake.ok _ _ h_144 _ _ (pt br9x0x_21 (blk (Tvisorref19_M.obj v_121.2 g_137.1 g_137.2.1 g_137.2.2.1 g_137.2.2.2.1 g_137.2.2.2.2.1 g_137.2.2.2.2.2.1 g_137.2.2.2.2.2.2.1 g_137.2.2.2.2.2.2.2) 64) :: rowp g_137.1 g_137.2.1 93 6 Tapi_Op.cells v_121.2.ops :: rowp g_137.2.2.1 g_137.2.2.2.1 175 3 Tapi_Span.cells v_121.2.blocks :: rowp g_137.2.2.2.2.1 g_137.2.2.2.2.2.1 32 1 (eI .u64) v_121.2.val :: rdp κ g_137.2.2.2.2.2.2.1 g_137.2.2.2.2.2.2.2 1 (eI .u64) v_121.2.tape.l :: pt b_2 (blk (Tvisorlaw22_Asked.obj x0 A_x0masks c_x0masks) 38) :: pt b_26 (blk [cp br9x0m_20, cp br9x0x_21, C.slc Ar9x0l_22 v_19.2.2.1.length cr9x0l_23, C.slc Ar9x0v_24 v_19.2.2.2.1.length cr9x0v_25] 45) :: Twire_Machine.own br9x0m_20 v_115.2 :: rowp Ar9x0l_22 cr9x0l_23 28 3 eC v_19.2.2.1 :: rowp Ar9x0v_24 cr9x0v_25 32 1 (eI .u64) v_19.2.2.2.1 :: pt b_116 (blk v_115.1 28) :: S) hs.own) hs fun w a hs => ?_
         refine qpe 1 [(2, .bool v_145)] hs fun a hs => hK142 _ _ ?_
         clear hK142
         refine wp_ret ?_
         exact qr1 (.bool v_145) hs rfl hRR (by cases hm; exact ⟨rfl, (hs.own.too [] 11)⟩)
        ·replace hm := bif_f hm hb
         refine wp_skip ?_
         refine hK135 _ _ ?_
         clear hK135
         refine Vk.seq fun K146 hK146 => ?_
         have hj146 : ∀ (p_172 : Bool), visorlaw22_TimesTells.j5 k p_172 = some r → ∀ (a : Act) (w : World), St 161 a w κ [(2, .bool p_172)] (S) → K146 a w := by
          intro p_172 hm a w hs
          unfold visorlaw22_TimesTells.j5 at hm
          refine hK146 _ _ ?_
          refine wp_ret ?_
          exact qr1 (.bool p_172) hs rfl hRR (by cases hm; exact ⟨rfl, hs.own⟩)
         obtain ⟨C_147, hC_147⟩ := qC hs.own.f7.drop
         refine qdr 29 κ C_147 hs fun w hs hqC_147 => ?_
         have hcl := qO hC_147 hs.own.f7.drop
         refine qdp (fuel := 26) [0, 3, 5] hs hcl hqC_147 fun a hs => ?_
         refine qdl 1 6 (cp br9x0m_20) hs hcl hqC_147 hC_147 rfl fun a hs => ?_
         obtain ⟨g_148, hs⟩ := hs.unex 7 rfl
         obtain ⟨v_151, h_150, hm⟩ := bind_t hm
         refine qdc 2 (wire_Machine_Len.ok _ _ _ h_150 _ _ _ br9x0m_20 g_148 hs.own.f7) hs fun w a hs => ?_
         replace hcl := qO hC_147 hs.own.drop
         refine ⟨fun _ => hcl, ?_⟩
         refine qdp (fuel := 23) [4] hs hcl hqC_147 fun a hs => ?_
         obtain ⟨v_154, h_153, hm⟩ := bind_t hm
         refine qdc 6 (visorref22_Ops.ok _ _ _ _ h_153 _ _ (bagL (Twire_Machine.parts br9x0m_20 v_115.2 g_148) :: pt br9x0x_21 (blk (Tvisorref19_M.obj v_121.2 g_137.1 g_137.2.1 g_137.2.2.1 g_137.2.2.2.1 g_137.2.2.2.2.1 g_137.2.2.2.2.2.1 g_137.2.2.2.2.2.2.1 g_137.2.2.2.2.2.2.2) 64) :: rowp g_137.1 g_137.2.1 93 6 Tapi_Op.cells v_121.2.ops :: rowp g_137.2.2.1 g_137.2.2.2.1 175 3 Tapi_Span.cells v_121.2.blocks :: rowp g_137.2.2.2.2.1 g_137.2.2.2.2.2.1 32 1 (eI .u64) v_121.2.val :: rdp κ g_137.2.2.2.2.2.2.1 g_137.2.2.2.2.2.2.2 1 (eI .u64) v_121.2.tape.l :: pt b_2 (blk (Tvisorlaw22_Asked.obj x0 A_x0masks c_x0masks) 38) :: pt b_26 (blk [cp br9x0m_20, cp br9x0x_21, C.slc Ar9x0l_22 v_19.2.2.1.length cr9x0l_23, C.slc Ar9x0v_24 v_19.2.2.2.1.length cr9x0v_25] 45) :: rowp Ar9x0l_22 cr9x0l_23 28 3 eC v_19.2.2.1 :: rowp Ar9x0v_24 cr9x0v_25 32 1 (eI .u64) v_19.2.2.2.1 :: pt b_116 (blk v_115.1 28) :: S) hs.own) hs fun w a hs => ?_
         replace hcl := qO hC_147 hs.own.drop
         refine ⟨fun _ => hcl, ?_⟩
         refine qdp (fuel := 20) [7, 8] hs hcl hqC_147 fun a hs => ?_
         rcases Bool.eq_false_or_eq_true ((IntKind.i64.wrap (v_151 - v_109)) == v_154) with hb | hb
         ·replace hm := bif_t hm hb
          replace hs := hs.known (t := 141) hb (by kernel_rfl)
          refine qdp (fuel := 15) [9, 14, 15, 18, 19] hs hcl hqC_147 fun a hs => ?_
          refine qdl 10 6 (cp br9x0m_20) hs hcl hqC_147 hC_147 rfl fun a hs => ?_
          refine Vk.dTakeT (i := 12) (some 145) (.agg (vals v_115.1)) hs (by kernel_rfl) hqC_147 hcl (by kernel_rfl) (by kernel_rfl) (op := (.load 28 (.tmp 11))) (by kernel_rfl) (by kernel_rfl) (fun w hw o ho => by rw [hC_147] at hw; exact run_loadN (cs := v_115.1) ho (by kernel_rfl) (by kernel_rfl) h_117 (CellsAt.all 9 rfl) _ hw) fun a hs => ?_
          refine qdn 16 5 ([cw x0.a0, cw x0.a1, cw x0.a2]) hs hcl hqC_147 hC_147 rfl fun a hs => ?_
          refine qdn 20 5 ([cw x0.b0, cw x0.b1, cw x0.b2]) hs hcl hqC_147 hC_147 rfl fun a hs => ?_
          obtain ⟨v_157, h_156, hm⟩ := bind_t hm
          refine Vk.dOnly (i := 11) (by kernel_rfl) (Vk.call (some 144) 22 #[pp br9x0m_20] hs (by kernel_rfl) (by kernel_rfl) (by kernel_rfl) ?_)
          refine (wire_Machine_Values.ok k v_115.2 v_157 h_156 κ w (pt br9x0x_21 (blk (Tvisorref19_M.obj v_121.2 g_137.1 g_137.2.1 g_137.2.2.1 g_137.2.2.2.1 g_137.2.2.2.2.1 g_137.2.2.2.2.2.1 g_137.2.2.2.2.2.2.1 g_137.2.2.2.2.2.2.2) 64) :: rowp g_137.1 g_137.2.1 93 6 Tapi_Op.cells v_121.2.ops :: rowp g_137.2.2.1 g_137.2.2.2.1 175 3 Tapi_Span.cells v_121.2.blocks :: rowp g_137.2.2.2.2.1 g_137.2.2.2.2.2.1 32 1 (eI .u64) v_121.2.val :: rdp κ g_137.2.2.2.2.2.2.1 g_137.2.2.2.2.2.2.2 1 (eI .u64) v_121.2.tape.l :: pt b_2 (blk (Tvisorlaw22_Asked.obj x0 A_x0masks c_x0masks) 38) :: pt b_26 (blk [cp br9x0m_20, cp br9x0x_21, C.slc Ar9x0l_22 v_19.2.2.1.length cr9x0l_23, C.slc Ar9x0v_24 v_19.2.2.2.1.length cr9x0v_25] 45) :: rowp Ar9x0l_22 cr9x0l_23 28 3 eC v_19.2.2.1 :: rowp Ar9x0v_24 cr9x0v_25 32 1 (eI .u64) v_19.2.2.2.1 :: pt b_116 (blk v_115.1 28) :: S) br9x0m_20 g_148 hs.own).mono ?_
          rintro _ w ⟨Ar155x0_158, cr155x0_159, rfl, how⟩
          refine ⟨_, _, _, rfl, how, fun a hs => ?_⟩
          replace hcl := qO hC_147 hs.own.f1.drop.drop
          refine ⟨fun _ => hcl, ?_⟩
          obtain ⟨v_162, h_161, hm⟩ := bind_t hm
          refine qdc 13 (share_Value.ok _ _ _ _ h_161 _ _ (rowp Ar155x0_158 cr155x0_159 32 1 (eI .u64) v_157 :: bagL (Twire_Machine.parts br9x0m_20 v_115.2 g_148) :: pt br9x0x_21 (blk (Tvisorref19_M.obj v_121.2 g_137.1 g_137.2.1 g_137.2.2.1 g_137.2.2.2.1 g_137.2.2.2.2.1 g_137.2.2.2.2.2.1 g_137.2.2.2.2.2.2.1 g_137.2.2.2.2.2.2.2) 64) :: rowp g_137.1 g_137.2.1 93 6 Tapi_Op.cells v_121.2.ops :: rowp g_137.2.2.1 g_137.2.2.2.1 175 3 Tapi_Span.cells v_121.2.blocks :: rowp g_137.2.2.2.2.1 g_137.2.2.2.2.2.1 32 1 (eI .u64) v_121.2.val :: rdp κ g_137.2.2.2.2.2.2.1 g_137.2.2.2.2.2.2.2 1 (eI .u64) v_121.2.tape.l :: pt b_2 (blk (Tvisorlaw22_Asked.obj x0 A_x0masks c_x0masks) 38) :: pt b_26 (blk [cp br9x0m_20, cp br9x0x_21, C.slc Ar9x0l_22 v_19.2.2.1.length cr9x0l_23, C.slc Ar9x0v_24 v_19.2.2.2.1.length cr9x0v_25] 45) :: rowp Ar9x0l_22 cr9x0l_23 28 3 eC v_19.2.2.1 :: rowp Ar9x0v_24 cr9x0v_25 32 1 (eI .u64) v_19.2.2.2.1 :: pt b_116 (blk v_115.1 28) :: S) Ar155x0_158 cr155x0_159 (Sl.lift (fun w ho => (Own.to (S' := rowp Ar155x0_158 cr155x0_159 32 1 (eI .u64) v_157 :: S) ho [0] 12 (by kernel_rfl) (by kernel_rfl))) (Own.rowSl 0 (Own.to (S' := rowp Ar155x0_158 cr155x0_159 32 1 (eI .u64) v_157 :: S) hs.own [0] 12 (by kernel_rfl) (by kernel_rfl)) rfl)) hs.own) hs fun w a hs => ?_
          replace hcl := qO hC_147 hs.own.f1.drop.drop
          refine ⟨fun _ => hcl, ?_⟩
          obtain ⟨v_165, h_164, hm⟩ := bind_t hm
          refine qdc 17 (visorlaw22_total.ok _ _ _ _ h_164 _ _ (rowp Ar155x0_158 cr155x0_159 32 1 (eI .u64) v_157 :: bagL (Twire_Machine.parts br9x0m_20 v_115.2 g_148) :: pt br9x0x_21 (blk (Tvisorref19_M.obj v_121.2 g_137.1 g_137.2.1 g_137.2.2.1 g_137.2.2.2.1 g_137.2.2.2.2.1 g_137.2.2.2.2.2.1 g_137.2.2.2.2.2.2.1 g_137.2.2.2.2.2.2.2) 64) :: rowp g_137.1 g_137.2.1 93 6 Tapi_Op.cells v_121.2.ops :: rowp g_137.2.2.1 g_137.2.2.2.1 175 3 Tapi_Span.cells v_121.2.blocks :: rowp g_137.2.2.2.2.1 g_137.2.2.2.2.2.1 32 1 (eI .u64) v_121.2.val :: rdp κ g_137.2.2.2.2.2.2.1 g_137.2.2.2.2.2.2.2 1 (eI .u64) v_121.2.tape.l :: pt b_2 (blk (Tvisorlaw22_Asked.obj x0 A_x0masks c_x0masks) 38) :: pt b_26 (blk [cp br9x0m_20, cp br9x0x_21, C.slc Ar9x0l_22 v_19.2.2.1.length cr9x0l_23, C.slc Ar9x0v_24 v_19.2.2.2.1.length cr9x0v_25] 45) :: rowp Ar9x0l_22 cr9x0l_23 28 3 eC v_19.2.2.1 :: rowp Ar9x0v_24 cr9x0v_25 32 1 (eI .u64) v_19.2.2.2.1 :: pt b_116 (blk v_115.1 28) :: S) hs.own) hs fun w a hs => ?_
          replace hcl := qO hC_147 hs.own.f1.drop.drop
          refine ⟨fun _ => hcl, ?_⟩
          obtain ⟨v_168, h_167, hm⟩ := bind_t hm
          refine qdc 21 (visorlaw22_total.ok _ _ _ _ h_167 _ _ (rowp Ar155x0_158 cr155x0_159 32 1 (eI .u64) v_157 :: bagL (Twire_Machine.parts br9x0m_20 v_115.2 g_148) :: pt br9x0x_21 (blk (Tvisorref19_M.obj v_121.2 g_137.1 g_137.2.1 g_137.2.2.1 g_137.2.2.2.1 g_137.2.2.2.2.1 g_137.2.2.2.2.2.1 g_137.2.2.2.2.2.2.1 g_137.2.2.2.2.2.2.2) 64) :: rowp g_137.1 g_137.2.1 93 6 Tapi_Op.cells v_121.2.ops :: rowp g_137.2.2.1 g_137.2.2.2.1 175 3 Tapi_Span.cells v_121.2.blocks :: rowp g_137.2.2.2.2.1 g_137.2.2.2.2.2.1 32 1 (eI .u64) v_121.2.val :: rdp κ g_137.2.2.2.2.2.2.1 g_137.2.2.2.2.2.2.2 1 (eI .u64) v_121.2.tape.l :: pt b_2 (blk (Tvisorlaw22_Asked.obj x0 A_x0masks c_x0masks) 38) :: pt b_26 (blk [cp br9x0m_20, cp br9x0x_21, C.slc Ar9x0l_22 v_19.2.2.1.length cr9x0l_23, C.slc Ar9x0v_24 v_19.2.2.2.1.length cr9x0v_25] 45) :: rowp Ar9x0l_22 cr9x0l_23 28 3 eC v_19.2.2.1 :: rowp Ar9x0v_24 cr9x0v_25 32 1 (eI .u64) v_19.2.2.2.1 :: pt b_116 (blk v_115.1 28) :: S) hs.own) hs fun w a hs => ?_
          replace hcl := qO hC_147 hs.own.f1.drop.drop
          refine ⟨fun _ => hcl, ?_⟩
          refine qdp (fuel := 3) [22, 23, 24, 25] hs hcl hqC_147 fun a hs => ?_
          rcases Bool.eq_false_or_eq_true (v_162 == (band .u64 v_165 v_168)) with hb | hb
          ·replace hm := bif_t hm hb
           replace hs := hs.known (t := 158) hb (by kernel_rfl)
           obtain ⟨v_171, h_170, hm⟩ := bind_t hm
           refine qdc 26 (visorlaw22_awake.ok _ _ h_170 _ _ (rowp Ar155x0_158 cr155x0_159 32 1 (eI .u64) v_157 :: bagL (Twire_Machine.parts br9x0m_20 v_115.2 g_148) :: pt br9x0x_21 (blk (Tvisorref19_M.obj v_121.2 g_137.1 g_137.2.1 g_137.2.2.1 g_137.2.2.2.1 g_137.2.2.2.2.1 g_137.2.2.2.2.2.1 g_137.2.2.2.2.2.2.1 g_137.2.2.2.2.2.2.2) 64) :: rowp g_137.1 g_137.2.1 93 6 Tapi_Op.cells v_121.2.ops :: rowp g_137.2.2.1 g_137.2.2.2.1 175 3 Tapi_Span.cells v_121.2.blocks :: rowp g_137.2.2.2.2.1 g_137.2.2.2.2.2.1 32 1 (eI .u64) v_121.2.val :: rdp κ g_137.2.2.2.2.2.2.1 g_137.2.2.2.2.2.2.2 1 (eI .u64) v_121.2.tape.l :: pt b_2 (blk (Tvisorlaw22_Asked.obj x0 A_x0masks c_x0masks) 38) :: pt b_26 (blk [cp br9x0m_20, cp br9x0x_21, C.slc Ar9x0l_22 v_19.2.2.1.length cr9x0l_23, C.slc Ar9x0v_24 v_19.2.2.2.1.length cr9x0v_25] 45) :: rowp Ar9x0l_22 cr9x0l_23 28 3 eC v_19.2.2.1 :: rowp Ar9x0v_24 cr9x0v_25 32 1 (eI .u64) v_19.2.2.2.1 :: pt b_116 (blk v_115.1 28) :: S) hs.own) hs fun w a hs => ?_
           replace hcl := qO hC_147 hs.own.f1.drop.drop
           refine ⟨fun _ => hcl, ?_⟩
           refine qdp (fuel := 0) [27, 28] hs hcl hqC_147 fun a hs => ?_
           replace hs := hs.pick [2] (L' := [(2, .bool v_171)]) (by kernel_rfl)
           refine Vk.dDone (by kernel_rfl) ?_
           replace hs := hs.bagG (l := Tvisorref19_M.parts κ br9x0x_21 v_121.2 g_137) (S' := rowp Ar155x0_158 cr155x0_159 32 1 (eI .u64) v_157 :: bagL (Twire_Machine.parts br9x0m_20 v_115.2 g_148) :: pt b_2 (blk (Tvisorlaw22_Asked.obj x0 A_x0masks c_x0masks) 38) :: pt b_26 (blk [cp br9x0m_20, cp br9x0x_21, C.slc Ar9x0l_22 v_19.2.2.1.length cr9x0l_23, C.slc Ar9x0v_24 v_19.2.2.2.1.length cr9x0v_25] 45) :: rowp Ar9x0l_22 cr9x0l_23 28 3 eC v_19.2.2.1 :: rowp Ar9x0v_24 cr9x0v_25 32 1 (eI .u64) v_19.2.2.2.1 :: pt b_116 (blk v_115.1 28) :: S) hs.own.f6.f6.f6.f6.f6
           replace hs := hs.toEx (Tvisorref19_M.parts κ br9x0x_21 v_121.2) g_137 0 rfl
           replace hs := hs.toEx (Twire_Machine.parts br9x0m_20 v_115.2) g_148 2 rfl
           exact hj146 v_171 hm _ _ (hs.go [2] [] 8 (by kernel_rfl) (by kernel_rfl) (by kernel_rfl))
          ·replace hm := bif_f hm hb
           replace hs := hs.known (t := 158) hb (by kernel_rfl)
           refine qdp (fuel := 0) [26, 27, 28] hs hcl hqC_147 fun a hs => ?_
           replace hs := hs.pick [2] (L' := [(2, .bool false)]) (by kernel_rfl)
           refine Vk.dDone (by kernel_rfl) ?_
           replace hs := hs.bagG (l := Tvisorref19_M.parts κ br9x0x_21 v_121.2 g_137) (S' := rowp Ar155x0_158 cr155x0_159 32 1 (eI .u64) v_157 :: bagL (Twire_Machine.parts br9x0m_20 v_115.2 g_148) :: pt b_2 (blk (Tvisorlaw22_Asked.obj x0 A_x0masks c_x0masks) 38) :: pt b_26 (blk [cp br9x0m_20, cp br9x0x_21, C.slc Ar9x0l_22 v_19.2.2.1.length cr9x0l_23, C.slc Ar9x0v_24 v_19.2.2.2.1.length cr9x0v_25] 45) :: rowp Ar9x0l_22 cr9x0l_23 28 3 eC v_19.2.2.1 :: rowp Ar9x0v_24 cr9x0v_25 32 1 (eI .u64) v_19.2.2.2.1 :: pt b_116 (blk v_115.1 28) :: S) hs.own.f6.f6.f6.f6.f6
           replace hs := hs.toEx (Tvisorref19_M.parts κ br9x0x_21 v_121.2) g_137 0 rfl
           replace hs := hs.toEx (Twire_Machine.parts br9x0m_20 v_115.2) g_148 2 rfl
           exact hj146 false hm _ _ (hs.go [2] [] 8 (by kernel_rfl) (by kernel_rfl) (by kernel_rfl))
         ·replace hm := bif_f hm hb
          replace hs := hs.known (t := 141) hb (by kernel_rfl)
          refine qdp (fuel := 0) [9, 10, 11, 12, 13, 14, 15, 16, 17, 18, 19, 20, 21, 22, 23, 24, 25, 26, 27, 28] hs hcl hqC_147 fun a hs => ?_
          replace hs := hs.pick [2] (L' := [(2, .bool false)]) (by kernel_rfl)
          refine Vk.dDone (by kernel_rfl) ?_
          replace hs := hs.bagG (l := Tvisorref19_M.parts κ br9x0x_21 v_121.2 g_137) (S' := bagL (Twire_Machine.parts br9x0m_20 v_115.2 g_148) :: pt b_2 (blk (Tvisorlaw22_Asked.obj x0 A_x0masks c_x0masks) 38) :: pt b_26 (blk [cp br9x0m_20, cp br9x0x_21, C.slc Ar9x0l_22 v_19.2.2.1.length cr9x0l_23, C.slc Ar9x0v_24 v_19.2.2.2.1.length cr9x0v_25] 45) :: rowp Ar9x0l_22 cr9x0l_23 28 3 eC v_19.2.2.1 :: rowp Ar9x0v_24 cr9x0v_25 32 1 (eI .u64) v_19.2.2.2.1 :: pt b_116 (blk v_115.1 28) :: S) hs.own.f5.f5.f5.f5.f5
          replace hs := hs.toEx (Tvisorref19_M.parts κ br9x0x_21 v_121.2) g_137 0 rfl
          replace hs := hs.toEx (Twire_Machine.parts br9x0m_20 v_115.2) g_148 1 rfl
          exact hj146 false hm _ _ (hs.go [2] [] 7 (by kernel_rfl) (by kernel_rfl) (by kernel_rfl))
      refine Vk.region ?_
      refine Vk.step (Vk.value (some 118) (.agg (vals v_115.1)) hs (by kernel_rfl) (op := (.load 28 (.tmp 11))) (by kernel_rfl) (fun o ho => run_loadN (cs := v_115.1) ho (by kernel_rfl) (by kernel_rfl) h_117 (CellsAt.all 2 rfl) _ hs.own) fun a hs => ?_)
      refine Vk.step (Vk.value (some 119) (.agg (vals v_121.1)) hs (by kernel_rfl) (op := (.load 28 (.tmp 12))) (by kernel_rfl) (fun o ho => run_loadN (cs := v_121.1) ho (by kernel_rfl) (by kernel_rfl) h_123 (CellsAt.all 0 rfl) _ hs.own) fun a hs => ?_)
      obtain ⟨h_126, hm⟩ := ite_t hm
      obtain ⟨h_127, hm⟩ := ite_t hm
      refine Vk.step (Vk.value (some 120) (.bool (!(ceq v_115.1 v_121.1))) hs (by kernel_rfl) (op := (.binOp .neq 28 (.tmp 118) (.tmp 119) 28)) (by kernel_rfl) (fun o ho => run_neqV (ks := ((List.replicate 3 [LK.int .i64]).flatten)) (cs := v_115.1) (us := v_121.1) ho (by kernel_rfl) (by kernel_rfl) (by kernel_rfl) h_126 h_127 _) fun a hs => ?_)
      refine qpu 1 hs fun a hs => ?_
      rcases Bool.eq_false_or_eq_true (!(ceq v_115.1 v_121.1)) with hb | hb
      ·replace hm := bif_t hm hb
       replace hs := hs.known (t := 121) hb (by kernel_rfl)
       refine qpe 4 [(1, pp b_2), (3, vi v_6), (4, pp b_26), (10, vi v_109), (11, pp b_116), (125, .bool true)] hs fun a hs => ?_
       exact hj125 true hm _ _ (hs.go [1, 3, 4, 10, 11, 125] [4, 5, 3, 1, 6, 7, 2] 10 (by kernel_rfl) (by kernel_rfl) (by kernel_rfl))
      ·replace hm := bif_f hm hb
       replace hs := hs.known (t := 121) hb (by kernel_rfl)
       refine qln 5 ([cp br9x0m_20, cp br9x0x_21, C.slc Ar9x0l_22 v_19.2.2.1.length cr9x0l_23, C.slc Ar9x0v_24 v_19.2.2.2.1.length cr9x0v_25]) hs rfl fun a hs => ?_
       obtain ⟨g_128, hs⟩ := hs.unex 3 rfl
       obtain ⟨g_129, hs⟩ := hs.unex 1 rfl
       obtain ⟨v_132, h_131, hm⟩ := bind_t hm
       refine qcl (visorlaw20_Pair_Like.ok _ _ _ h_131 _ _ _ br9x0m_20 g_128 br9x0x_21 g_129 Ar9x0l_22 cr9x0l_23 (Sl.lift (fun w ho => (Own.to (S' := rowp Ar9x0l_22 cr9x0l_23 28 3 eC v_19.2.2.1 :: S) ho [4] 8 (by kernel_rfl) (by kernel_rfl))) (Own.rowSl 0 (Own.to (S' := rowp Ar9x0l_22 cr9x0l_23 28 3 eC v_19.2.2.1 :: S) hs.own [6] 10 (by kernel_rfl) (by kernel_rfl)) rfl)) Ar9x0v_24 cr9x0v_25 (Sl.lift (fun w ho => (Own.to (S' := rowp Ar9x0v_24 cr9x0v_25 32 1 (eI .u64) v_19.2.2.2.1 :: S) ho [5] 8 (by kernel_rfl) (by kernel_rfl))) (Own.rowSl 0 (Own.to (S' := rowp Ar9x0v_24 cr9x0v_25 32 1 (eI .u64) v_19.2.2.2.1 :: S) hs.own [7] 10 (by kernel_rfl) (by kernel_rfl)) rfl)) hs.own.f1.f3) hs fun w a hs => ?_
       refine qpe 2 [(1, pp b_2), (3, vi v_6), (4, pp b_26), (10, vi v_109), (11, pp b_116), (125, .bool (!v_132))] hs fun a hs => ?_
       replace hs := hs.toEx (Twire_Machine.parts br9x0m_20 v_115.2) g_128 0 rfl
       replace hs := hs.toEx (Tvisorref19_M.parts κ br9x0x_21 v_121.2) g_129 1 rfl
       exact hj125 (!v_132) hm _ _ (hs.go [1, 3, 4, 10, 11, 125] [4, 5, 0, 1, 6, 7, 3] 10 (by kernel_rfl) (by kernel_rfl) (by kernel_rfl))
     refine Vk.loopBy (fun k (s : Tvisorref19_M × Int) a w => visorlaw22_TimesTells.l1 x0 v_6 k s.1 s.2 = some r79 ∧ St 161 a w κ [(1, pp b_2), (3, vi v_6), (4, pp b_26), (6, pp b_73), (7, pp b_75), (8, vi s.2)] (pt b_2 (blk (Tvisorlaw22_Asked.obj x0 A_x0masks c_x0masks) 38) :: pt b_26 (blk [cp br9x0m_20, cp br9x0x_21, C.slc Ar9x0l_22 v_19.2.2.1.length cr9x0l_23, C.slc Ar9x0v_24 v_19.2.2.2.1.length cr9x0v_25] 45) :: Twire_Machine.own br9x0m_20 p_72 :: Tvisorref19_M.own κ br9x0x_21 s.1 :: rowp Ar9x0l_22 cr9x0l_23 28 3 eC v_19.2.2.1 :: rowp Ar9x0v_24 cr9x0v_25 32 1 (eI .u64) v_19.2.2.2.1 :: pt b_73 (blk p_74 28) :: pt b_75 (blk p_76 28) :: S)) k (v_19.2.1, 0) ⟨hl79, hs.go [1, 3, 4, 6, 7, 8] [0, 1, 2, 3, 4, 5, 6, 7] 8 (by kernel_rfl) (by kernel_rfl) (by kernel_rfl)⟩ (fun s a w h => by obtain ⟨h1, _⟩ := h; simp [visorlaw22_TimesTells.l1] at h1) (fun k KL79 ih s a w h => ?_)
     obtain ⟨q_80, q_81⟩ := s
     obtain ⟨hm, hs⟩ := h
     try dsimp only at hm hs
     rw [visorlaw22_TimesTells.l1] at hm
     refine Vk.seq fun K82 hK82 => ?_
     refine qsk 4 [1, 3, 4, 6, 7, 8, 75] hs fun a hs => ?_
     refine qcs (decide (q_81 < (IntKind.i64.wrap (2 * v_6)))) hs (fun hb => ?_) fun hb => ?_
     ·replace hm := bif_t hm hb
      refine wp_skip ?_
      refine hK82 _ _ ?_
      clear hK82
      refine Vk.seq fun K84 hK84 => ?_
      refine wp_block ?_
      refine qsr fun K85 hK85 => ?_
      refine qpu 2 hs fun a hs => ?_
      obtain ⟨h_86, hm⟩ := ite_t hm
      refine Vk.step (Vk.value (some 80) (vi (Int.tmod q_81 v_6)) hs (by kernel_rfl) (op := (.binOp .rem 3 (.tmp 78) (.tmp 79) 3)) (by kernel_rfl) (fun o ho => run_rem ho (by kernel_rfl) (by kernel_rfl) h_86 _) fun a hs => ?_)
      refine qpu 1 hs fun a hs => ?_
      obtain ⟨h_87, hm⟩ := ite_t hm
      refine Vk.step (Vk.value (some 82) (.pointer (some ⟨b_2, 2 + (Int.tmod q_81 v_6).toNat * 1, none⟩)) hs (by kernel_rfl) (op := (.indexAddr 36 (.tmp 81) (.tmp 80))) (by kernel_rfl) (fun o ho => run_idxArr (k := .i64) ho (by kernel_rfl) (by kernel_rfl) (by kernel_rfl) h_87 _) fun a hs => ?_)
      obtain ⟨v_89, h_88, hm⟩ := bind_t hm
      refine Vk.step (Vk.value (some 83) (vw v_89) hs (by kernel_rfl) (op := (.load 32 (.tmp 82))) (by kernel_rfl) (fun o ho => run_load1 (c := cw v_89) ho (by kernel_rfl) (by kernel_rfl) (Cell.own 0 rfl (getI_some (getI_unslc (cs := [C.bool x0.three, ci x0.kind, cw x0.a0, cw x0.a1, cw x0.a2, cw x0.b0, cw x0.b1, cw x0.b2, C.slc A_x0masks x0.masks.length c_x0masks]) h_88))) _ hs.own) fun a hs => ?_)
      refine qpk 1 [1, 3, 4, 6, 7, 8, 9] hs fun a hs => hK85 _ _ ?_
      clear hK85
      refine Vk.seq fun K90 hK90 => ?_
      have hj90 : ∀ (p_96 : Int), visorlaw22_TimesTells.j3 k (visorlaw22_TimesTells.l1 x0 v_6 k) v_6 q_80 q_81 p_96 = some r79 → ∀ (a : Act) (w : World), St 161 a w κ [(1, pp b_2), (3, vi v_6), (4, pp b_26), (6, pp b_73), (7, pp b_75), (8, vi q_81), (9, vw p_96)] (pt b_2 (blk (Tvisorlaw22_Asked.obj x0 A_x0masks c_x0masks) 38) :: pt b_26 (blk [cp br9x0m_20, cp br9x0x_21, C.slc Ar9x0l_22 v_19.2.2.1.length cr9x0l_23, C.slc Ar9x0v_24 v_19.2.2.2.1.length cr9x0v_25] 45) :: Twire_Machine.own br9x0m_20 p_72 :: Tvisorref19_M.own κ br9x0x_21 q_80 :: rowp Ar9x0l_22 cr9x0l_23 28 3 eC v_19.2.2.1 :: rowp Ar9x0v_24 cr9x0v_25 32 1 (eI .u64) v_19.2.2.2.1 :: pt b_73 (blk p_74 28) :: pt b_75 (blk p_76 28) :: S) → K90 a w := by
       intro p_96 hm a w hs
       unfold visorlaw22_TimesTells.j3 at hm
       refine hK90 _ _ ?_
       obtain ⟨C_97, hC_97⟩ := qC hs.own
       refine qdr 7 κ C_97 hs fun w hs hqC_97 => ?_
       have hcl := qO hC_97 hs.own
       refine qdp (fuel := 4) [0, 2, 3, 5] hs hcl hqC_97 fun a hs => ?_
       refine qdl 1 1 (cp br9x0x_21) hs hcl hqC_97 hC_97 rfl fun a hs => ?_
       obtain ⟨h_98, hm⟩ := ite_t hm
       refine Vk.dTakeT (i := 4) (some 97) (vi (Int.tmod q_81 v_6)) hs (by kernel_rfl) hqC_97 hcl (by kernel_rfl) (by kernel_rfl) (op := (.binOp .rem 3 (.tmp 95) (.tmp 96) 3)) (by kernel_rfl) (by kernel_rfl) (fun w hw o ho => by rw [hC_97] at hw; exact run_rem ho (by kernel_rfl) (by kernel_rfl) h_98 _) fun a hs => ?_
       refine qdp (fuel := 1) [6] hs hcl hqC_97 fun a hs => ?_
       obtain ⟨v_101, h_100, hm⟩ := bind_t hm
       refine qdc 7 (visorref19_M_Do.ok _ _ _ _ _ h_100 _ _ _ br9x0x_21 hs.own.f3) hs fun w a hs => ?_
       refine ⟨fun h => absurd h (by decide), ?_⟩
       replace hs := hs.pick [1, 3, 4, 6, 7, 8] (L' := [(1, pp b_2), (3, vi v_6), (4, pp b_26), (6, pp b_73), (7, pp b_75), (8, vi q_81)]) (by kernel_rfl)
       refine Vk.dDone (by kernel_rfl) ?_
       refine hK84 _ _ ?_
       clear hK84
       refine Vk.region ?_
       refine qpk 3 [1, 3, 4, 6, 7, 8] hs fun a hs => ?_
       refine ih (v_101.2, (IntKind.i64.wrap (q_81 + 1))) _ _ ⟨hm, hs.go [1, 3, 4, 6, 7, 8] [1, 2, 3, 0, 4, 5, 6, 7] 8 (by kernel_rfl) (by kernel_rfl) (by kernel_rfl)⟩
      refine qsk 3 [1, 3, 4, 6, 7, 8, 9, 86] hs fun a hs => ?_
      refine qcs (decide (q_81 ≥ v_6)) hs (fun hb => ?_) fun hb => ?_
      ·replace hm := bif_t hm hb
       refine Vk.region ?_
       refine qpu 2 hs fun a hs => ?_
       obtain ⟨h_92, hm⟩ := ite_t hm
       refine Vk.step (Vk.value (some 89) (vi (Int.tmod q_81 v_6)) hs (by kernel_rfl) (op := (.binOp .rem 3 (.tmp 87) (.tmp 88) 3)) (by kernel_rfl) (fun o ho => run_rem ho (by kernel_rfl) (by kernel_rfl) h_92 _) fun a hs => ?_)
       refine qpu 1 hs fun a hs => ?_
       obtain ⟨h_93, hm⟩ := ite_t hm
       refine Vk.step (Vk.value (some 91) (.pointer (some ⟨b_2, 5 + (Int.tmod q_81 v_6).toNat * 1, none⟩)) hs (by kernel_rfl) (op := (.indexAddr 36 (.tmp 90) (.tmp 89))) (by kernel_rfl) (fun o ho => run_idxArr (k := .i64) ho (by kernel_rfl) (by kernel_rfl) (by kernel_rfl) h_93 _) fun a hs => ?_)
       obtain ⟨v_95, h_94, hm⟩ := bind_t hm
       refine Vk.step (Vk.value (some 92) (vw v_95) hs (by kernel_rfl) (op := (.load 32 (.tmp 91))) (by kernel_rfl) (fun o ho => run_load1 (c := cw v_95) ho (by kernel_rfl) (by kernel_rfl) (Cell.own 0 rfl (getI_some (getI_unslc (cs := [C.bool x0.three, ci x0.kind, cw x0.a0, cw x0.a1, cw x0.a2, cw x0.b0, cw x0.b1, cw x0.b2, C.slc A_x0masks x0.masks.length c_x0masks]) h_94))) _ hs.own) fun a hs => ?_)
       refine qpe 1 [(1, pp b_2), (3, vi v_6), (4, pp b_26), (6, pp b_73), (7, pp b_75), (8, vi q_81), (9, vw v_95)] hs fun a hs => ?_
       exact hj90 v_95 hm _ _ (hs.go [1, 3, 4, 6, 7, 8, 9] [0, 1, 2, 3, 4, 5, 6, 7] 8 (by kernel_rfl) (by kernel_rfl) (by kernel_rfl))
      ·replace hm := bif_f hm hb
       refine wp_skip ?_
       exact hj90 v_89 hm _ _ (hs.go [1, 3, 4, 6, 7, 8, 9] [0, 1, 2, 3, 4, 5, 6, 7] 8 (by kernel_rfl) (by kernel_rfl) (by kernel_rfl))
     ·replace hm := bif_f hm hb
      refine wp_exit ?_
      exact hx79 q_80 (Option.some.inj hm).symm _ _ (hs.go [1, 3, 4, 6, 7] [0, 1, 2, 3, 4, 5, 6, 7] 8 (by kernel_rfl) (by kernel_rfl) (by kernel_rfl))
    obtain ⟨C_61, hC_61⟩ := qC hs.own.f2.drop
    refine qdr 15 κ C_61 hs fun w hs hqC_61 => ?_
    have hcl := qO hC_61 hs.own.f2.drop
    refine qdp (fuel := 10) [0, 2, 3, 6, 8, 9] hs hcl hqC_61 fun a hs => ?_
    refine qdl 1 1 (cp br9x0m_20) hs hcl hqC_61 hC_61 rfl fun a hs => ?_
    refine qdn 4 0 ([cw x0.a0, cw x0.a1, cw x0.a2]) hs hcl hqC_61 hC_61 rfl fun a hs => ?_
    refine qdl 7 1 (cp br9x0m_20) hs hcl hqC_61 hC_61 rfl fun a hs => ?_
    refine qdn 10 0 ([cw x0.b0, cw x0.b1, cw x0.b2]) hs hcl hqC_61 hC_61 rfl fun a hs => ?_
    refine Vk.dMany3 (i0 := 5) (i1 := 12) (i2 := 13) (by kernel_rfl) ?_ ?_ ?_
    ·obtain ⟨v_64, h_63, hm⟩ := bind_t hm
     refine qco (visorlaw22_laid.ok _ _ _ _ _ h_63 _ _ _ br9x0m_20 hs.own.f2) hs fun w a hs => ?_
     replace hcl := qO hC_61 hs.own.drop
     refine ⟨fun _ => hcl, ?_⟩
     refine Vk.dMany3 (i0 := 11) (i1 := 12) (i2 := 13) (by kernel_rfl) ?_ ?_ ?_
     ·obtain ⟨v_67, h_66, hm⟩ := bind_t hm
      refine qco (visorlaw22_laid.ok _ _ _ _ _ h_66 _ _ _ br9x0m_20 hs.own) hs fun w a hs => ?_
      replace hcl := qO hC_61 hs.own.drop
      refine ⟨fun _ => hcl, ?_⟩
      refine Vk.dMany2 (i0 := 12) (i1 := 13) (by kernel_rfl) ?_ ?_
      ·refine Vk.alloc 6 28 [ci 0, ci 0, ci 0] hs (by kernel_rfl) (by kernel_rfl) (by kernel_rfl) fun b_68 w a hs => ?_
       replace hcl := qO hC_61 hs.own.f1.drop.drop
       refine ⟨fun _ => hcl, ?_⟩
       refine Vk.dOnly (i := 13) (by kernel_rfl) (Vk.alloc 7 28 [ci 0, ci 0, ci 0] hs (by kernel_rfl) (by kernel_rfl) (by kernel_rfl) fun b_69 w a hs => ?_)
       replace hcl := qO hC_61 hs.own.f2.drop.f1.drop.drop
       refine ⟨fun _ => hcl, ?_⟩
       obtain ⟨h_70, hm⟩ := ite_t hm
       refine Vk.dOnly (i := 14) (by kernel_rfl) (Vk.storeA (b := b_68) (ty := 28) (x := (.tmp 6)) (y := (.tmp 65)) (sz := 3) v_64.1 1 hs (by kernel_rfl) (by kernel_rfl) (by kernel_rfl) (by kernel_rfl) (by kernel_rfl) h_70 (by kernel_rfl) rfl (Eq.trans (b := 3) h_70 (Eq.symm rfl)) fun a w hs => ?_)
       replace hcl := qO hC_61 hs.own.f2.drop.f1.drop.drop
       refine ⟨fun _ => hcl, ?_⟩
       obtain ⟨h_71, hm⟩ := ite_t hm
       refine Vk.dOnly (i := 15) (by kernel_rfl) (Vk.storeA (b := b_69) (ty := 28) (x := (.tmp 7)) (y := (.tmp 71)) (sz := 3) v_67.1 0 hs (by kernel_rfl) (by kernel_rfl) (by kernel_rfl) (by kernel_rfl) (by kernel_rfl) h_71 (by kernel_rfl) rfl (Eq.trans (b := 3) h_71 (Eq.symm rfl)) fun a w hs => ?_)
       refine ⟨fun h => absurd h (by decide), ?_⟩
       replace hs := hs.pick [1, 3, 4, 6, 7] (L' := [(1, pp b_2), (3, vi v_6), (4, pp b_26), (6, pp b_68), (7, pp b_69)]) (by kernel_rfl)
       refine Vk.dDone (by kernel_rfl) ?_
       exact hj60 v_67.2 v_64.1 v_67.1 hm b_68 b_69 _ _ (hs.go [1, 3, 4, 6, 7] [3, 4, 2, 5, 6, 7, 1, 0] 8 (by kernel_rfl) (by kernel_rfl) (by kernel_rfl))
      ·refine Vk.alloc 7 28 [ci 0, ci 0, ci 0] hs (by kernel_rfl) (by kernel_rfl) (by kernel_rfl) fun b_68 w a hs => ?_
       replace hcl := qO hC_61 hs.own.f1.drop.drop
       refine ⟨fun _ => hcl, ?_⟩
       refine Vk.dOnly (i := 12) (by kernel_rfl) (Vk.alloc 6 28 [ci 0, ci 0, ci 0] hs (by kernel_rfl) (by kernel_rfl) (by kernel_rfl) fun b_69 w a hs => ?_)
       replace hcl := qO hC_61 hs.own.f2.drop.f1.drop.drop
       refine ⟨fun _ => hcl, ?_⟩
       obtain ⟨h_70, hm⟩ := ite_t hm
       refine Vk.dOnly (i := 14) (by kernel_rfl) (Vk.storeA (b := b_69) (ty := 28) (x := (.tmp 6)) (y := (.tmp 65)) (sz := 3) v_64.1 0 hs (by kernel_rfl) (by kernel_rfl) (by kernel_rfl) (by kernel_rfl) (by kernel_rfl) h_70 (by kernel_rfl) rfl (Eq.trans (b := 3) h_70 (Eq.symm rfl)) fun a w hs => ?_)
       replace hcl := qO hC_61 hs.own.f2.drop.f1.drop.drop
       refine ⟨fun _ => hcl, ?_⟩
       obtain ⟨h_71, hm⟩ := ite_t hm
       refine Vk.dOnly (i := 15) (by kernel_rfl) (Vk.storeA (b := b_68) (ty := 28) (x := (.tmp 7)) (y := (.tmp 71)) (sz := 3) v_67.1 1 hs (by kernel_rfl) (by kernel_rfl) (by kernel_rfl) (by kernel_rfl) (by kernel_rfl) h_71 (by kernel_rfl) rfl (Eq.trans (b := 3) h_71 (Eq.symm rfl)) fun a w hs => ?_)
       refine ⟨fun h => absurd h (by decide), ?_⟩
       replace hs := hs.pick [1, 3, 4, 6, 7] (L' := [(1, pp b_2), (3, vi v_6), (4, pp b_26), (6, pp b_69), (7, pp b_68)]) (by kernel_rfl)
       refine Vk.dDone (by kernel_rfl) ?_
       exact hj60 v_67.2 v_64.1 v_67.1 hm b_69 b_68 _ _ (hs.go [1, 3, 4, 6, 7] [3, 4, 2, 5, 6, 7, 0, 1] 8 (by kernel_rfl) (by kernel_rfl) (by kernel_rfl))
     ·refine Vk.alloc 6 28 [ci 0, ci 0, ci 0] hs (by kernel_rfl) (by kernel_rfl) (by kernel_rfl) fun b_65 w a hs => ?_
      replace hcl := qO hC_61 hs.own.f1.drop.drop
      refine ⟨fun _ => hcl, ?_⟩
      refine Vk.dMany2 (i0 := 11) (i1 := 13) (by kernel_rfl) ?_ ?_
      ·obtain ⟨v_68, h_67, hm⟩ := bind_t hm
       refine qco (visorlaw22_laid.ok _ _ _ _ _ h_67 _ _ _ br9x0m_20 hs.own.f1) hs fun w a hs => ?_
       replace hcl := qO hC_61 hs.own.f1.drop.drop
       refine ⟨fun _ => hcl, ?_⟩
       refine Vk.dOnly (i := 13) (by kernel_rfl) (Vk.alloc 7 28 [ci 0, ci 0, ci 0] hs (by kernel_rfl) (by kernel_rfl) (by kernel_rfl) fun b_69 w a hs => ?_)
       replace hcl := qO hC_61 hs.own.f2.drop.f1.drop.drop
       refine ⟨fun _ => hcl, ?_⟩
       obtain ⟨h_70, hm⟩ := ite_t hm
       refine Vk.dOnly (i := 14) (by kernel_rfl) (Vk.storeA (b := b_65) (ty := 28) (x := (.tmp 6)) (y := (.tmp 65)) (sz := 3) v_64.1 2 hs (by kernel_rfl) (by kernel_rfl) (by kernel_rfl) (by kernel_rfl) (by kernel_rfl) h_70 (by kernel_rfl) rfl (Eq.trans (b := 3) h_70 (Eq.symm rfl)) fun a w hs => ?_)
       replace hcl := qO hC_61 hs.own.f2.drop.f1.drop.drop
       refine ⟨fun _ => hcl, ?_⟩
       obtain ⟨h_71, hm⟩ := ite_t hm
       refine Vk.dOnly (i := 15) (by kernel_rfl) (Vk.storeA (b := b_69) (ty := 28) (x := (.tmp 7)) (y := (.tmp 71)) (sz := 3) v_68.1 0 hs (by kernel_rfl) (by kernel_rfl) (by kernel_rfl) (by kernel_rfl) (by kernel_rfl) h_71 (by kernel_rfl) rfl (Eq.trans (b := 3) h_71 (Eq.symm rfl)) fun a w hs => ?_)
       refine ⟨fun h => absurd h (by decide), ?_⟩
       replace hs := hs.pick [1, 3, 4, 6, 7] (L' := [(1, pp b_2), (3, vi v_6), (4, pp b_26), (6, pp b_65), (7, pp b_69)]) (by kernel_rfl)
       refine Vk.dDone (by kernel_rfl) ?_
       exact hj60 v_68.2 v_64.1 v_68.1 hm b_65 b_69 _ _ (hs.go [1, 3, 4, 6, 7] [3, 4, 1, 5, 6, 7, 2, 0] 8 (by kernel_rfl) (by kernel_rfl) (by kernel_rfl))
      ·refine Vk.alloc 7 28 [ci 0, ci 0, ci 0] hs (by kernel_rfl) (by kernel_rfl) (by kernel_rfl) fun b_66 w a hs => ?_
       replace hcl := qO hC_61 hs.own.f2.drop.f1.drop.drop
       refine ⟨fun _ => hcl, ?_⟩
       obtain ⟨v_69, h_68, hm⟩ := bind_t hm
       refine qdc 11 (visorlaw22_laid.ok _ _ _ _ _ h_68 _ _ _ br9x0m_20 hs.own.f2) hs fun w a hs => ?_
       replace hcl := qO hC_61 hs.own.f2.drop.f1.drop.drop
       refine ⟨fun _ => hcl, ?_⟩
       obtain ⟨h_70, hm⟩ := ite_t hm
       refine Vk.dOnly (i := 14) (by kernel_rfl) (Vk.storeA (b := b_65) (ty := 28) (x := (.tmp 6)) (y := (.tmp 65)) (sz := 3) v_64.1 2 hs (by kernel_rfl) (by kernel_rfl) (by kernel_rfl) (by kernel_rfl) (by kernel_rfl) h_70 (by kernel_rfl) rfl (Eq.trans (b := 3) h_70 (Eq.symm rfl)) fun a w hs => ?_)
       replace hcl := qO hC_61 hs.own.f2.drop.f1.drop.drop
       refine ⟨fun _ => hcl, ?_⟩
       obtain ⟨h_71, hm⟩ := ite_t hm
       refine Vk.dOnly (i := 15) (by kernel_rfl) (Vk.storeA (b := b_66) (ty := 28) (x := (.tmp 7)) (y := (.tmp 71)) (sz := 3) v_69.1 1 hs (by kernel_rfl) (by kernel_rfl) (by kernel_rfl) (by kernel_rfl) (by kernel_rfl) h_71 (by kernel_rfl) rfl (Eq.trans (b := 3) h_71 (Eq.symm rfl)) fun a w hs => ?_)
       refine ⟨fun h => absurd h (by decide), ?_⟩
       replace hs := hs.pick [1, 3, 4, 6, 7] (L' := [(1, pp b_2), (3, vi v_6), (4, pp b_26), (6, pp b_65), (7, pp b_66)]) (by kernel_rfl)
       refine Vk.dDone (by kernel_rfl) ?_
       exact hj60 v_69.2 v_64.1 v_69.1 hm b_65 b_66 _ _ (hs.go [1, 3, 4, 6, 7] [3, 4, 0, 5, 6, 7, 2, 1] 8 (by kernel_rfl) (by kernel_rfl) (by kernel_rfl))
     ·refine Vk.alloc 7 28 [ci 0, ci 0, ci 0] hs (by kernel_rfl) (by kernel_rfl) (by kernel_rfl) fun b_65 w a hs => ?_
      replace hcl := qO hC_61 hs.own.f1.drop.drop
      refine ⟨fun _ => hcl, ?_⟩
      refine Vk.dMany2 (i0 := 11) (i1 := 12) (by kernel_rfl) ?_ ?_
      ·obtain ⟨v_68, h_67, hm⟩ := bind_t hm
       refine qco (visorlaw22_laid.ok _ _ _ _ _ h_67 _ _ _ br9x0m_20 hs.own.f1) hs fun w a hs => ?_
       replace hcl := qO hC_61 hs.own.f1.drop.drop
       refine ⟨fun _ => hcl, ?_⟩
       refine Vk.dOnly (i := 12) (by kernel_rfl) (Vk.alloc 6 28 [ci 0, ci 0, ci 0] hs (by kernel_rfl) (by kernel_rfl) (by kernel_rfl) fun b_69 w a hs => ?_)
       replace hcl := qO hC_61 hs.own.f2.drop.f1.drop.drop
       refine ⟨fun _ => hcl, ?_⟩
       obtain ⟨h_70, hm⟩ := ite_t hm
       refine Vk.dOnly (i := 14) (by kernel_rfl) (Vk.storeA (b := b_69) (ty := 28) (x := (.tmp 6)) (y := (.tmp 65)) (sz := 3) v_64.1 0 hs (by kernel_rfl) (by kernel_rfl) (by kernel_rfl) (by kernel_rfl) (by kernel_rfl) h_70 (by kernel_rfl) rfl (Eq.trans (b := 3) h_70 (Eq.symm rfl)) fun a w hs => ?_)
       replace hcl := qO hC_61 hs.own.f2.drop.f1.drop.drop
       refine ⟨fun _ => hcl, ?_⟩
       obtain ⟨h_71, hm⟩ := ite_t hm
       refine Vk.dOnly (i := 15) (by kernel_rfl) (Vk.storeA (b := b_65) (ty := 28) (x := (.tmp 7)) (y := (.tmp 71)) (sz := 3) v_68.1 2 hs (by kernel_rfl) (by kernel_rfl) (by kernel_rfl) (by kernel_rfl) (by kernel_rfl) h_71 (by kernel_rfl) rfl (Eq.trans (b := 3) h_71 (Eq.symm rfl)) fun a w hs => ?_)
       refine ⟨fun h => absurd h (by decide), ?_⟩
       replace hs := hs.pick [1, 3, 4, 6, 7] (L' := [(1, pp b_2), (3, vi v_6), (4, pp b_26), (6, pp b_69), (7, pp b_65)]) (by kernel_rfl)
       refine Vk.dDone (by kernel_rfl) ?_
       exact hj60 v_68.2 v_64.1 v_68.1 hm b_69 b_65 _ _ (hs.go [1, 3, 4, 6, 7] [3, 4, 1, 5, 6, 7, 0, 2] 8 (by kernel_rfl) (by kernel_rfl) (by kernel_rfl))
      ·refine Vk.alloc 6 28 [ci 0, ci 0, ci 0] hs (by kernel_rfl) (by kernel_rfl) (by kernel_rfl) fun b_66 w a hs => ?_
       replace hcl := qO hC_61 hs.own.f2.drop.f1.drop.drop
       refine ⟨fun _ => hcl, ?_⟩
       obtain ⟨v_69, h_68, hm⟩ := bind_t hm
       refine qdc 11 (visorlaw22_laid.ok _ _ _ _ _ h_68 _ _ _ br9x0m_20 hs.own.f2) hs fun w a hs => ?_
       replace hcl := qO hC_61 hs.own.f2.drop.f1.drop.drop
       refine ⟨fun _ => hcl, ?_⟩
       obtain ⟨h_70, hm⟩ := ite_t hm
       refine Vk.dOnly (i := 14) (by kernel_rfl) (Vk.storeA (b := b_66) (ty := 28) (x := (.tmp 6)) (y := (.tmp 65)) (sz := 3) v_64.1 1 hs (by kernel_rfl) (by kernel_rfl) (by kernel_rfl) (by kernel_rfl) (by kernel_rfl) h_70 (by kernel_rfl) rfl (Eq.trans (b := 3) h_70 (Eq.symm rfl)) fun a w hs => ?_)
       replace hcl := qO hC_61 hs.own.f2.drop.f1.drop.drop
       refine ⟨fun _ => hcl, ?_⟩
       obtain ⟨h_71, hm⟩ := ite_t hm
       refine Vk.dOnly (i := 15) (by kernel_rfl) (Vk.storeA (b := b_65) (ty := 28) (x := (.tmp 7)) (y := (.tmp 71)) (sz := 3) v_69.1 2 hs (by kernel_rfl) (by kernel_rfl) (by kernel_rfl) (by kernel_rfl) (by kernel_rfl) h_71 (by kernel_rfl) rfl (Eq.trans (b := 3) h_71 (Eq.symm rfl)) fun a w hs => ?_)
       refine ⟨fun h => absurd h (by decide), ?_⟩
       replace hs := hs.pick [1, 3, 4, 6, 7] (L' := [(1, pp b_2), (3, vi v_6), (4, pp b_26), (6, pp b_66), (7, pp b_65)]) (by kernel_rfl)
       refine Vk.dDone (by kernel_rfl) ?_
       exact hj60 v_69.2 v_64.1 v_69.1 hm b_66 b_65 _ _ (hs.go [1, 3, 4, 6, 7] [3, 4, 0, 5, 6, 7, 1, 2] 8 (by kernel_rfl) (by kernel_rfl) (by kernel_rfl))
    ·refine Vk.alloc 6 28 [ci 0, ci 0, ci 0] hs (by kernel_rfl) (by kernel_rfl) (by kernel_rfl) fun b_62 w a hs => ?_
     replace hcl := qO hC_61 hs.own.f3.drop.drop
     refine ⟨fun _ => hcl, ?_⟩
     refine Vk.dMany2 (i0 := 5) (i1 := 13) (by kernel_rfl) ?_ ?_
     ·obtain ⟨v_65, h_64, hm⟩ := bind_t hm
      refine qco (visorlaw22_laid.ok _ _ _ _ _ h_64 _ _ _ br9x0m_20 hs.own.f3) hs fun w a hs => ?_
      replace hcl := qO hC_61 hs.own.f1.drop.drop
      refine ⟨fun _ => hcl, ?_⟩
      refine Vk.dMany2 (i0 := 11) (i1 := 13) (by kernel_rfl) ?_ ?_
      ·obtain ⟨v_68, h_67, hm⟩ := bind_t hm
       refine qco (visorlaw22_laid.ok _ _ _ _ _ h_67 _ _ _ br9x0m_20 hs.own) hs fun w a hs => ?_
       replace hcl := qO hC_61 hs.own.f1.drop.drop
       refine ⟨fun _ => hcl, ?_⟩
       refine Vk.dOnly (i := 13) (by kernel_rfl) (Vk.alloc 7 28 [ci 0, ci 0, ci 0] hs (by kernel_rfl) (by kernel_rfl) (by kernel_rfl) fun b_69 w a hs => ?_)
       replace hcl := qO hC_61 hs.own.f2.drop.f1.drop.drop
       refine ⟨fun _ => hcl, ?_⟩
       obtain ⟨h_70, hm⟩ := ite_t hm
       refine Vk.dOnly (i := 14) (by kernel_rfl) (Vk.storeA (b := b_62) (ty := 28) (x := (.tmp 6)) (y := (.tmp 65)) (sz := 3) v_65.1 2 hs (by kernel_rfl) (by kernel_rfl) (by kernel_rfl) (by kernel_rfl) (by kernel_rfl) h_70 (by kernel_rfl) rfl (Eq.trans (b := 3) h_70 (Eq.symm rfl)) fun a w hs => ?_)
       replace hcl := qO hC_61 hs.own.f2.drop.f1.drop.drop
       refine ⟨fun _ => hcl, ?_⟩
       obtain ⟨h_71, hm⟩ := ite_t hm
       refine Vk.dOnly (i := 15) (by kernel_rfl) (Vk.storeA (b := b_69) (ty := 28) (x := (.tmp 7)) (y := (.tmp 71)) (sz := 3) v_68.1 0 hs (by kernel_rfl) (by kernel_rfl) (by kernel_rfl) (by kernel_rfl) (by kernel_rfl) h_71 (by kernel_rfl) rfl (Eq.trans (b := 3) h_71 (Eq.symm rfl)) fun a w hs => ?_)
       refine ⟨fun h => absurd h (by decide), ?_⟩
       replace hs := hs.pick [1, 3, 4, 6, 7] (L' := [(1, pp b_2), (3, vi v_6), (4, pp b_26), (6, pp b_62), (7, pp b_69)]) (by kernel_rfl)
       refine Vk.dDone (by kernel_rfl) ?_
       exact hj60 v_68.2 v_65.1 v_68.1 hm b_62 b_69 _ _ (hs.go [1, 3, 4, 6, 7] [3, 4, 1, 5, 6, 7, 2, 0] 8 (by kernel_rfl) (by kernel_rfl) (by kernel_rfl))
      ·refine Vk.alloc 7 28 [ci 0, ci 0, ci 0] hs (by kernel_rfl) (by kernel_rfl) (by kernel_rfl) fun b_66 w a hs => ?_
       replace hcl := qO hC_61 hs.own.f2.drop.f1.drop.drop
       refine ⟨fun _ => hcl, ?_⟩
       obtain ⟨v_69, h_68, hm⟩ := bind_t hm
       refine qdc 11 (visorlaw22_laid.ok _ _ _ _ _ h_68 _ _ _ br9x0m_20 hs.own.f1) hs fun w a hs => ?_
       replace hcl := qO hC_61 hs.own.f2.drop.f1.drop.drop
       refine ⟨fun _ => hcl, ?_⟩
       obtain ⟨h_70, hm⟩ := ite_t hm
       refine Vk.dOnly (i := 14) (by kernel_rfl) (Vk.storeA (b := b_62) (ty := 28) (x := (.tmp 6)) (y := (.tmp 65)) (sz := 3) v_65.1 2 hs (by kernel_rfl) (by kernel_rfl) (by kernel_rfl) (by kernel_rfl) (by kernel_rfl) h_70 (by kernel_rfl) rfl (Eq.trans (b := 3) h_70 (Eq.symm rfl)) fun a w hs => ?_)
       replace hcl := qO hC_61 hs.own.f2.drop.f1.drop.drop
       refine ⟨fun _ => hcl, ?_⟩
       obtain ⟨h_71, hm⟩ := ite_t hm
       refine Vk.dOnly (i := 15) (by kernel_rfl) (Vk.storeA (b := b_66) (ty := 28) (x := (.tmp 7)) (y := (.tmp 71)) (sz := 3) v_69.1 1 hs (by kernel_rfl) (by kernel_rfl) (by kernel_rfl) (by kernel_rfl) (by kernel_rfl) h_71 (by kernel_rfl) rfl (Eq.trans (b := 3) h_71 (Eq.symm rfl)) fun a w hs => ?_)
       refine ⟨fun h => absurd h (by decide), ?_⟩
       replace hs := hs.pick [1, 3, 4, 6, 7] (L' := [(1, pp b_2), (3, vi v_6), (4, pp b_26), (6, pp b_62), (7, pp b_66)]) (by kernel_rfl)
       refine Vk.dDone (by kernel_rfl) ?_
       exact hj60 v_69.2 v_65.1 v_69.1 hm b_62 b_66 _ _ (hs.go [1, 3, 4, 6, 7] [3, 4, 0, 5, 6, 7, 2, 1] 8 (by kernel_rfl) (by kernel_rfl) (by kernel_rfl))
     ·refine Vk.alloc 7 28 [ci 0, ci 0, ci 0] hs (by kernel_rfl) (by kernel_rfl) (by kernel_rfl) fun b_63 w a hs => ?_
      replace hcl := qO hC_61 hs.own.f4.drop.f1.drop.drop
      refine ⟨fun _ => hcl, ?_⟩
      obtain ⟨v_66, h_65, hm⟩ := bind_t hm
      refine qdc 5 (visorlaw22_laid.ok _ _ _ _ _ h_65 _ _ _ br9x0m_20 hs.own.f4) hs fun w a hs => ?_
      replace hcl := qO hC_61 hs.own.f2.drop.f1.drop.drop
      refine ⟨fun _ => hcl, ?_⟩
      obtain ⟨v_69, h_68, hm⟩ := bind_t hm
      refine qdc 11 (visorlaw22_laid.ok _ _ _ _ _ h_68 _ _ _ br9x0m_20 hs.own) hs fun w a hs => ?_
      replace hcl := qO hC_61 hs.own.f2.drop.f1.drop.drop
      refine ⟨fun _ => hcl, ?_⟩
      obtain ⟨h_70, hm⟩ := ite_t hm
      refine Vk.dOnly (i := 14) (by kernel_rfl) (Vk.storeA (b := b_62) (ty := 28) (x := (.tmp 6)) (y := (.tmp 65)) (sz := 3) v_66.1 2 hs (by kernel_rfl) (by kernel_rfl) (by kernel_rfl) (by kernel_rfl) (by kernel_rfl) h_70 (by kernel_rfl) rfl (Eq.trans (b := 3) h_70 (Eq.symm rfl)) fun a w hs => ?_)
      replace hcl := qO hC_61 hs.own.f2.drop.f1.drop.drop
      refine ⟨fun _ => hcl, ?_⟩
      obtain ⟨h_71, hm⟩ := ite_t hm
      refine Vk.dOnly (i := 15) (by kernel_rfl) (Vk.storeA (b := b_63) (ty := 28) (x := (.tmp 7)) (y := (.tmp 71)) (sz := 3) v_69.1 1 hs (by kernel_rfl) (by kernel_rfl) (by kernel_rfl) (by kernel_rfl) (by kernel_rfl) h_71 (by kernel_rfl) rfl (Eq.trans (b := 3) h_71 (Eq.symm rfl)) fun a w hs => ?_)
      refine ⟨fun h => absurd h (by decide), ?_⟩
      replace hs := hs.pick [1, 3, 4, 6, 7] (L' := [(1, pp b_2), (3, vi v_6), (4, pp b_26), (6, pp b_62), (7, pp b_63)]) (by kernel_rfl)
      refine Vk.dDone (by kernel_rfl) ?_
      exact hj60 v_69.2 v_66.1 v_69.1 hm b_62 b_63 _ _ (hs.go [1, 3, 4, 6, 7] [3, 4, 0, 5, 6, 7, 2, 1] 8 (by kernel_rfl) (by kernel_rfl) (by kernel_rfl))
    ·refine Vk.alloc 7 28 [ci 0, ci 0, ci 0] hs (by kernel_rfl) (by kernel_rfl) (by kernel_rfl) fun b_62 w a hs => ?_
     replace hcl := qO hC_61 hs.own.f3.drop.drop
     refine ⟨fun _ => hcl, ?_⟩
     refine Vk.dMany2 (i0 := 5) (i1 := 12) (by kernel_rfl) ?_ ?_
     ·obtain ⟨v_65, h_64, hm⟩ := bind_t hm
      refine qco (visorlaw22_laid.ok _ _ _ _ _ h_64 _ _ _ br9x0m_20 hs.own.f3) hs fun w a hs => ?_
      replace hcl := qO hC_61 hs.own.f1.drop.drop
      refine ⟨fun _ => hcl, ?_⟩
      refine Vk.dMany2 (i0 := 11) (i1 := 12) (by kernel_rfl) ?_ ?_
      ·obtain ⟨v_68, h_67, hm⟩ := bind_t hm
       refine qco (visorlaw22_laid.ok _ _ _ _ _ h_67 _ _ _ br9x0m_20 hs.own) hs fun w a hs => ?_
       replace hcl := qO hC_61 hs.own.f1.drop.drop
       refine ⟨fun _ => hcl, ?_⟩
       refine Vk.dOnly (i := 12) (by kernel_rfl) (Vk.alloc 6 28 [ci 0, ci 0, ci 0] hs (by kernel_rfl) (by kernel_rfl) (by kernel_rfl) fun b_69 w a hs => ?_)
       replace hcl := qO hC_61 hs.own.f2.drop.f1.drop.drop
       refine ⟨fun _ => hcl, ?_⟩
       obtain ⟨h_70, hm⟩ := ite_t hm
       refine Vk.dOnly (i := 14) (by kernel_rfl) (Vk.storeA (b := b_69) (ty := 28) (x := (.tmp 6)) (y := (.tmp 65)) (sz := 3) v_65.1 0 hs (by kernel_rfl) (by kernel_rfl) (by kernel_rfl) (by kernel_rfl) (by kernel_rfl) h_70 (by kernel_rfl) rfl (Eq.trans (b := 3) h_70 (Eq.symm rfl)) fun a w hs => ?_)
       replace hcl := qO hC_61 hs.own.f2.drop.f1.drop.drop
       refine ⟨fun _ => hcl, ?_⟩
       obtain ⟨h_71, hm⟩ := ite_t hm
       refine Vk.dOnly (i := 15) (by kernel_rfl) (Vk.storeA (b := b_62) (ty := 28) (x := (.tmp 7)) (y := (.tmp 71)) (sz := 3) v_68.1 2 hs (by kernel_rfl) (by kernel_rfl) (by kernel_rfl) (by kernel_rfl) (by kernel_rfl) h_71 (by kernel_rfl) rfl (Eq.trans (b := 3) h_71 (Eq.symm rfl)) fun a w hs => ?_)
       refine ⟨fun h => absurd h (by decide), ?_⟩
       replace hs := hs.pick [1, 3, 4, 6, 7] (L' := [(1, pp b_2), (3, vi v_6), (4, pp b_26), (6, pp b_69), (7, pp b_62)]) (by kernel_rfl)
       refine Vk.dDone (by kernel_rfl) ?_
       exact hj60 v_68.2 v_65.1 v_68.1 hm b_69 b_62 _ _ (hs.go [1, 3, 4, 6, 7] [3, 4, 1, 5, 6, 7, 0, 2] 8 (by kernel_rfl) (by kernel_rfl) (by kernel_rfl))
      ·refine Vk.alloc 6 28 [ci 0, ci 0, ci 0] hs (by kernel_rfl) (by kernel_rfl) (by kernel_rfl) fun b_66 w a hs => ?_
       replace hcl := qO hC_61 hs.own.f2.drop.f1.drop.drop
       refine ⟨fun _ => hcl, ?_⟩
       obtain ⟨v_69, h_68, hm⟩ := bind_t hm
       refine qdc 11 (visorlaw22_laid.ok _ _ _ _ _ h_68 _ _ _ br9x0m_20 hs.own.f1) hs fun w a hs => ?_
       replace hcl := qO hC_61 hs.own.f2.drop.f1.drop.drop
       refine ⟨fun _ => hcl, ?_⟩
       obtain ⟨h_70, hm⟩ := ite_t hm
       refine Vk.dOnly (i := 14) (by kernel_rfl) (Vk.storeA (b := b_66) (ty := 28) (x := (.tmp 6)) (y := (.tmp 65)) (sz := 3) v_65.1 1 hs (by kernel_rfl) (by kernel_rfl) (by kernel_rfl) (by kernel_rfl) (by kernel_rfl) h_70 (by kernel_rfl) rfl (Eq.trans (b := 3) h_70 (Eq.symm rfl)) fun a w hs => ?_)
       replace hcl := qO hC_61 hs.own.f2.drop.f1.drop.drop
       refine ⟨fun _ => hcl, ?_⟩
       obtain ⟨h_71, hm⟩ := ite_t hm
       refine Vk.dOnly (i := 15) (by kernel_rfl) (Vk.storeA (b := b_62) (ty := 28) (x := (.tmp 7)) (y := (.tmp 71)) (sz := 3) v_69.1 2 hs (by kernel_rfl) (by kernel_rfl) (by kernel_rfl) (by kernel_rfl) (by kernel_rfl) h_71 (by kernel_rfl) rfl (Eq.trans (b := 3) h_71 (Eq.symm rfl)) fun a w hs => ?_)
       refine ⟨fun h => absurd h (by decide), ?_⟩
       replace hs := hs.pick [1, 3, 4, 6, 7] (L' := [(1, pp b_2), (3, vi v_6), (4, pp b_26), (6, pp b_66), (7, pp b_62)]) (by kernel_rfl)
       refine Vk.dDone (by kernel_rfl) ?_
       exact hj60 v_69.2 v_65.1 v_69.1 hm b_66 b_62 _ _ (hs.go [1, 3, 4, 6, 7] [3, 4, 0, 5, 6, 7, 1, 2] 8 (by kernel_rfl) (by kernel_rfl) (by kernel_rfl))
     ·refine Vk.alloc 6 28 [ci 0, ci 0, ci 0] hs (by kernel_rfl) (by kernel_rfl) (by kernel_rfl) fun b_63 w a hs => ?_
      replace hcl := qO hC_61 hs.own.f4.drop.f1.drop.drop
      refine ⟨fun _ => hcl, ?_⟩
      obtain ⟨v_66, h_65, hm⟩ := bind_t hm
      refine qdc 5 (visorlaw22_laid.ok _ _ _ _ _ h_65 _ _ _ br9x0m_20 hs.own.f4) hs fun w a hs => ?_
      replace hcl := qO hC_61 hs.own.f2.drop.f1.drop.drop
      refine ⟨fun _ => hcl, ?_⟩
      obtain ⟨v_69, h_68, hm⟩ := bind_t hm
      refine qdc 11 (visorlaw22_laid.ok _ _ _ _ _ h_68 _ _ _ br9x0m_20 hs.own) hs fun w a hs => ?_
      replace hcl := qO hC_61 hs.own.f2.drop.f1.drop.drop
      refine ⟨fun _ => hcl, ?_⟩
      obtain ⟨h_70, hm⟩ := ite_t hm
      refine Vk.dOnly (i := 14) (by kernel_rfl) (Vk.storeA (b := b_63) (ty := 28) (x := (.tmp 6)) (y := (.tmp 65)) (sz := 3) v_66.1 1 hs (by kernel_rfl) (by kernel_rfl) (by kernel_rfl) (by kernel_rfl) (by kernel_rfl) h_70 (by kernel_rfl) rfl (Eq.trans (b := 3) h_70 (Eq.symm rfl)) fun a w hs => ?_)
      replace hcl := qO hC_61 hs.own.f2.drop.f1.drop.drop
      refine ⟨fun _ => hcl, ?_⟩
      obtain ⟨h_71, hm⟩ := ite_t hm
      refine Vk.dOnly (i := 15) (by kernel_rfl) (Vk.storeA (b := b_62) (ty := 28) (x := (.tmp 7)) (y := (.tmp 71)) (sz := 3) v_69.1 2 hs (by kernel_rfl) (by kernel_rfl) (by kernel_rfl) (by kernel_rfl) (by kernel_rfl) h_71 (by kernel_rfl) rfl (Eq.trans (b := 3) h_71 (Eq.symm rfl)) fun a w hs => ?_)
      refine ⟨fun h => absurd h (by decide), ?_⟩
      replace hs := hs.pick [1, 3, 4, 6, 7] (L' := [(1, pp b_2), (3, vi v_6), (4, pp b_26), (6, pp b_63), (7, pp b_62)]) (by kernel_rfl)
      refine Vk.dDone (by kernel_rfl) ?_
      exact hj60 v_69.2 v_66.1 v_69.1 hm b_63 b_62 _ _ (hs.go [1, 3, 4, 6, 7] [3, 4, 0, 5, 6, 7, 1, 2] 8 (by kernel_rfl) (by kernel_rfl) (by kernel_rfl))
  obtain ⟨C_33, hC_33⟩ := qC hs.own
  refine qdr 38 κ C_33 hs fun w hs hqC_33 => ?_
  have hcl := qO hC_33 hs.own
  refine qdp (fuel := 35) [0, 1, 2] hs hcl hqC_33 fun a hs => ?_
  rcases Bool.eq_false_or_eq_true (!v_19.2.2.2.2) with hb | hb
  ·replace hm := bif_t hm hb
   replace hs := hs.known (t := 24) hb (by kernel_rfl)
   refine qdp (fuel := 0) [3, 4, 5, 6, 7, 8, 9, 10, 11, 12, 13, 14, 15, 16, 17, 18, 19, 20, 21, 22, 23, 24, 25, 26, 27, 28, 29, 30, 31, 32, 33, 34, 35, 36, 37] hs hcl hqC_33 fun a hs => ?_
   replace hs := hs.pick [1, 3, 4, 59] (L' := [(1, pp b_2), (3, vi v_6), (4, pp b_26), (59, .bool true)]) (by kernel_rfl)
   refine Vk.dDone (by kernel_rfl) ?_
   exact hj32 true hm _ _ (hs.go [1, 3, 4, 59] [5, 0, 1, 2, 3, 4] 6 (by kernel_rfl) (by kernel_rfl) (by kernel_rfl))
  ·replace hm := bif_f hm hb
   replace hs := hs.known (t := 24) hb (by kernel_rfl)
   refine qdp (fuel := 33) [3, 5] hs hcl hqC_33 fun a hs => ?_
   obtain ⟨v_36, h_35, hm⟩ := bind_t hm
   refine qdc 4 (times_Draws.ok _ _ _ h_35 _ _ (pt b_26 (blk [cp br9x0m_20, cp br9x0x_21, C.slc Ar9x0l_22 v_19.2.2.1.length cr9x0l_23, C.slc Ar9x0v_24 v_19.2.2.2.1.length cr9x0v_25] 45) :: Twire_Machine.own br9x0m_20 v_19.1 :: Tvisorref19_M.own κ br9x0x_21 v_19.2.1 :: rowp Ar9x0l_22 cr9x0l_23 28 3 eC v_19.2.2.1 :: rowp Ar9x0v_24 cr9x0v_25 32 1 (eI .u64) v_19.2.2.2.1 :: pt b_2 (blk (Tvisorlaw22_Asked.obj x0 A_x0masks c_x0masks) 38) :: S) hs.own) hs fun w a hs => ?_
   replace hcl := qO hC_33 hs.own
   refine ⟨fun _ => hcl, ?_⟩
   obtain ⟨v_39, h_38, hm⟩ := bind_t hm
   refine qdc 6 (visorref22_Draws.ok _ _ _ h_38 _ _ (pt b_26 (blk [cp br9x0m_20, cp br9x0x_21, C.slc Ar9x0l_22 v_19.2.2.1.length cr9x0l_23, C.slc Ar9x0v_24 v_19.2.2.2.1.length cr9x0v_25] 45) :: Twire_Machine.own br9x0m_20 v_19.1 :: Tvisorref19_M.own κ br9x0x_21 v_19.2.1 :: rowp Ar9x0l_22 cr9x0l_23 28 3 eC v_19.2.2.1 :: rowp Ar9x0v_24 cr9x0v_25 32 1 (eI .u64) v_19.2.2.2.1 :: pt b_2 (blk (Tvisorlaw22_Asked.obj x0 A_x0masks c_x0masks) 38) :: S) hs.own) hs fun w a hs => ?_
   replace hcl := qO hC_33 hs.own
   refine ⟨fun _ => hcl, ?_⟩
   refine qdp (fuel := 28) [7, 8, 9] hs hcl hqC_33 fun a hs => ?_
   rcases Bool.eq_false_or_eq_true (v_36 != v_39) with hb | hb
   ·replace hm := bif_t hm hb
    replace hs := hs.known (t := 31) hb (by kernel_rfl)
    refine qdp (fuel := 0) [10, 11, 12, 13, 14, 15, 16, 17, 18, 19, 20, 21, 22, 23, 24, 25, 26, 27, 28, 29, 30, 31, 32, 33, 34, 35, 36, 37] hs hcl hqC_33 fun a hs => ?_
    replace hs := hs.pick [1, 3, 4, 59] (L' := [(1, pp b_2), (3, vi v_6), (4, pp b_26), (59, .bool true)]) (by kernel_rfl)
    refine Vk.dDone (by kernel_rfl) ?_
    exact hj32 true hm _ _ (hs.go [1, 3, 4, 59] [5, 0, 1, 2, 3, 4] 6 (by kernel_rfl) (by kernel_rfl) (by kernel_rfl))
   ·replace hm := bif_f hm hb
    replace hs := hs.known (t := 31) hb (by kernel_rfl)
    refine qdp (fuel := 26) [10, 13] hs hcl hqC_33 fun a hs => ?_
    refine qdl 11 5 (ci x0.kind) hs hcl hqC_33 hC_33 rfl fun a hs => ?_
    refine qdl 14 5 (ci x0.kind) hs hcl hqC_33 hC_33 rfl fun a hs => ?_
    obtain ⟨v_42, h_41, hm⟩ := bind_t hm
    refine qdc 12 (times_Draws.ok _ _ _ h_41 _ _ (pt b_26 (blk [cp br9x0m_20, cp br9x0x_21, C.slc Ar9x0l_22 v_19.2.2.1.length cr9x0l_23, C.slc Ar9x0v_24 v_19.2.2.2.1.length cr9x0v_25] 45) :: Twire_Machine.own br9x0m_20 v_19.1 :: Tvisorref19_M.own κ br9x0x_21 v_19.2.1 :: rowp Ar9x0l_22 cr9x0l_23 28 3 eC v_19.2.2.1 :: rowp Ar9x0v_24 cr9x0v_25 32 1 (eI .u64) v_19.2.2.2.1 :: pt b_2 (blk (Tvisorlaw22_Asked.obj x0 A_x0masks c_x0masks) 38) :: S) hs.own) hs fun w a hs => ?_
    replace hcl := qO hC_33 hs.own
    refine ⟨fun _ => hcl, ?_⟩
    obtain ⟨v_45, h_44, hm⟩ := bind_t hm
    refine qdc 15 (visorref22_Draws.ok _ _ _ h_44 _ _ (pt b_26 (blk [cp br9x0m_20, cp br9x0x_21, C.slc Ar9x0l_22 v_19.2.2.1.length cr9x0l_23, C.slc Ar9x0v_24 v_19.2.2.2.1.length cr9x0v_25] 45) :: Twire_Machine.own br9x0m_20 v_19.1 :: Tvisorref19_M.own κ br9x0x_21 v_19.2.1 :: rowp Ar9x0l_22 cr9x0l_23 28 3 eC v_19.2.2.1 :: rowp Ar9x0v_24 cr9x0v_25 32 1 (eI .u64) v_19.2.2.2.1 :: pt b_2 (blk (Tvisorlaw22_Asked.obj x0 A_x0masks c_x0masks) 38) :: S) hs.own) hs fun w a hs => ?_
    replace hcl := qO hC_33 hs.own
    refine ⟨fun _ => hcl, ?_⟩
    refine qdp (fuel := 19) [16, 17, 18] hs hcl hqC_33 fun a hs => ?_
    rcases Bool.eq_false_or_eq_true (v_42 != v_45) with hb | hb
    ·replace hm := bif_t hm hb
     replace hs := hs.known (t := 40) hb (by kernel_rfl)
     refine qdp (fuel := 0) [19, 20, 21, 22, 23, 24, 25, 26, 27, 28, 29, 30, 31, 32, 33, 34, 35, 36, 37] hs hcl hqC_33 fun a hs => ?_
     replace hs := hs.pick [1, 3, 4, 59] (L' := [(1, pp b_2), (3, vi v_6), (4, pp b_26), (59, .bool true)]) (by kernel_rfl)
     refine Vk.dDone (by kernel_rfl) ?_
     exact hj32 true hm _ _ (hs.go [1, 3, 4, 59] [5, 0, 1, 2, 3, 4] 6 (by kernel_rfl) (by kernel_rfl) (by kernel_rfl))
    ·replace hm := bif_f hm hb
     replace hs := hs.known (t := 40) hb (by kernel_rfl)
     refine qdp (fuel := 15) [19, 21, 23, 25] hs hcl hqC_33 fun a hs => ?_
     refine qdl 20 5 (ci x0.kind) hs hcl hqC_33 hC_33 rfl fun a hs => ?_
     refine qdl 24 5 (ci x0.kind) hs hcl hqC_33 hC_33 rfl fun a hs => ?_
     obtain ⟨v_48, h_47, hm⟩ := bind_t hm
     refine qdc 22 (times_Ops.ok _ _ _ _ h_47 _ _ (pt b_26 (blk [cp br9x0m_20, cp br9x0x_21, C.slc Ar9x0l_22 v_19.2.2.1.length cr9x0l_23, C.slc Ar9x0v_24 v_19.2.2.2.1.length cr9x0v_25] 45) :: Twire_Machine.own br9x0m_20 v_19.1 :: Tvisorref19_M.own κ br9x0x_21 v_19.2.1 :: rowp Ar9x0l_22 cr9x0l_23 28 3 eC v_19.2.2.1 :: rowp Ar9x0v_24 cr9x0v_25 32 1 (eI .u64) v_19.2.2.2.1 :: pt b_2 (blk (Tvisorlaw22_Asked.obj x0 A_x0masks c_x0masks) 38) :: S) hs.own) hs fun w a hs => ?_
     replace hcl := qO hC_33 hs.own
     refine ⟨fun _ => hcl, ?_⟩
     obtain ⟨v_51, h_50, hm⟩ := bind_t hm
     refine qdc 26 (visorref22_Ops.ok _ _ _ _ h_50 _ _ (pt b_26 (blk [cp br9x0m_20, cp br9x0x_21, C.slc Ar9x0l_22 v_19.2.2.1.length cr9x0l_23, C.slc Ar9x0v_24 v_19.2.2.2.1.length cr9x0v_25] 45) :: Twire_Machine.own br9x0m_20 v_19.1 :: Tvisorref19_M.own κ br9x0x_21 v_19.2.1 :: rowp Ar9x0l_22 cr9x0l_23 28 3 eC v_19.2.2.1 :: rowp Ar9x0v_24 cr9x0v_25 32 1 (eI .u64) v_19.2.2.2.1 :: pt b_2 (blk (Tvisorlaw22_Asked.obj x0 A_x0masks c_x0masks) 38) :: S) hs.own) hs fun w a hs => ?_
     replace hcl := qO hC_33 hs.own
     refine ⟨fun _ => hcl, ?_⟩
     refine qdp (fuel := 8) [27, 28, 29] hs hcl hqC_33 fun a hs => ?_
     rcases Bool.eq_false_or_eq_true (v_48 != v_51) with hb | hb
     ·replace hm := bif_t hm hb
      replace hs := hs.known (t := 51) hb (by kernel_rfl)
      refine qdp (fuel := 0) [30, 31, 32, 33, 34, 35, 36, 37] hs hcl hqC_33 fun a hs => ?_
      replace hs := hs.pick [1, 3, 4, 59] (L' := [(1, pp b_2), (3, vi v_6), (4, pp b_26), (59, .bool true)]) (by kernel_rfl)
      refine Vk.dDone (by kernel_rfl) ?_
      exact hj32 true hm _ _ (hs.go [1, 3, 4, 59] [5, 0, 1, 2, 3, 4] 6 (by kernel_rfl) (by kernel_rfl) (by kernel_rfl))
     ·replace hm := bif_f hm hb
      replace hs := hs.known (t := 51) hb (by kernel_rfl)
      refine qdp (fuel := 6) [30, 33] hs hcl hqC_33 fun a hs => ?_
      refine qdl 31 5 (ci x0.kind) hs hcl hqC_33 hC_33 rfl fun a hs => ?_
      refine qdl 34 5 (ci x0.kind) hs hcl hqC_33 hC_33 rfl fun a hs => ?_
      obtain ⟨v_54, h_53, hm⟩ := bind_t hm
      refine qdc 32 (times_Ops.ok _ _ _ _ h_53 _ _ (pt b_26 (blk [cp br9x0m_20, cp br9x0x_21, C.slc Ar9x0l_22 v_19.2.2.1.length cr9x0l_23, C.slc Ar9x0v_24 v_19.2.2.2.1.length cr9x0v_25] 45) :: Twire_Machine.own br9x0m_20 v_19.1 :: Tvisorref19_M.own κ br9x0x_21 v_19.2.1 :: rowp Ar9x0l_22 cr9x0l_23 28 3 eC v_19.2.2.1 :: rowp Ar9x0v_24 cr9x0v_25 32 1 (eI .u64) v_19.2.2.2.1 :: pt b_2 (blk (Tvisorlaw22_Asked.obj x0 A_x0masks c_x0masks) 38) :: S) hs.own) hs fun w a hs => ?_
      replace hcl := qO hC_33 hs.own
      refine ⟨fun _ => hcl, ?_⟩
      obtain ⟨v_57, h_56, hm⟩ := bind_t hm
      refine qdc 35 (visorref22_Ops.ok _ _ _ _ h_56 _ _ (pt b_26 (blk [cp br9x0m_20, cp br9x0x_21, C.slc Ar9x0l_22 v_19.2.2.1.length cr9x0l_23, C.slc Ar9x0v_24 v_19.2.2.2.1.length cr9x0v_25] 45) :: Twire_Machine.own br9x0m_20 v_19.1 :: Tvisorref19_M.own κ br9x0x_21 v_19.2.1 :: rowp Ar9x0l_22 cr9x0l_23 28 3 eC v_19.2.2.1 :: rowp Ar9x0v_24 cr9x0v_25 32 1 (eI .u64) v_19.2.2.2.1 :: pt b_2 (blk (Tvisorlaw22_Asked.obj x0 A_x0masks c_x0masks) 38) :: S) hs.own) hs fun w a hs => ?_
      replace hcl := qO hC_33 hs.own
      refine ⟨fun _ => hcl, ?_⟩
      refine qdp (fuel := 0) [36, 37] hs hcl hqC_33 fun a hs => ?_
      replace hs := hs.pick [1, 3, 4, 59] (L' := [(1, pp b_2), (3, vi v_6), (4, pp b_26), (59, .bool (v_54 != v_57))]) (by kernel_rfl)
      refine Vk.dDone (by kernel_rfl) ?_
      exact hj32 (v_54 != v_57) hm _ _ (hs.go [1, 3, 4, 59] [5, 0, 1, 2, 3, 4] 6 (by kernel_rfl) (by kernel_rfl) (by kernel_rfl))

end Go.Proofs.Ytflgefjocjpjaaa
