/- Of each Go function that GuardTells comes to: a model in plain Lean, and that the program's call does what the model says; no condition. -/
import Derived.Test.YtflgefjocjpjaaaProg
import Derived.Test.YtflgefjocjpjaaaVaidcpedm
import Derived.Test.YtflgefjocjpjaaaMGuardTells1
namespace Go.Proofs.Ytflgefjocjpjaaa
open Go Go.Vk
set_option linter.unusedVariables false


def guard_Bytes.j1 (k : Nat) (p_73 : List Int) (p_75 : Twire_Machine) : Option ((List Int × Twire_Machine)) := some (p_73, p_75)
def guard_Bytes.l1 (x1 : List Cells) : Nat → Int → Int → Twire_Machine → (List Int) → Option (Sum (Twire_Machine × List Int × Int) (Twire_Machine × List Int × Int))
 | 0, _, _, _, _ => none
 | k + 1, q_16, q_17, q_18, q_21 => (bif decide (q_17 < ((x1.length : Nat) : Int)) then (if 0 ≤ q_17 then (x1[q_17.toNat]?).bind fun e_29 => (if e_29.length = 3 then (bif decide (q_16 < 1) then some (.inl (q_18, q_21, q_16)) else (octet_Low.m k (IntKind.i64.wrap (8 * (mn q_16 8)))).bind fun v_43 => (guard_masked.m k q_18 e_29 v_43).bind fun v_46 => (octet_Store.m k v_46.1 (mn q_16 8)).bind fun v_49 => (if (q_21.length + v_49.length) * 1 ≤ 140737488355328 then guard_Bytes.l1 x1 k (IntKind.i64.wrap (q_16 - 8)) (IntKind.i64.wrap (q_17 + 1)) v_46.2 (q_21 ++ v_49) else none)) else none) else none) else some (.inr (q_18, q_21, q_16)))
abbrev guard_Bytes.R (κ : Ctx) (S : List HP) (x0 : Twire_Machine) (x1 : List Cells) (x2 : Int) (b_x0 : Nat) (A_x1 : Option Addr) (c_x1 : Nat) (r : (List Int × Twire_Machine)) : Ending → World → Prop := fun e w' => ∃ (A_r0 : Option Addr), ∃ (c_r0 : Nat), e = .returned (.slice A_r0 r.1.length c_r0) ∧ Ow κ w' (rowp A_r0 c_r0 5 1 (eI .u8) r.1 :: Twire_Machine.own b_x0 r.2 :: S)
def guard_Bytes.m (k : Nat) (x0 : Twire_Machine) (x1 : List Cells) (x2 : Int) : Option (List Int × Twire_Machine) := (guard_Bytes.l1 x1 k x2 0 x0 ([] : List Int)).bind fun x => match x with | .inl (p_55, p_58, p_59) => guard_Bytes.j1 k p_58 p_55 | .inr (p_60, p_63, p_64) => guard_Bytes.j1 k p_63 p_60

set_option maxRecDepth 100000 in
set_option maxHeartbeats 4000000 in
theorem guard_Bytes.ok (k : Nat) (x0 : Twire_Machine) (x1 : List Cells) (x2 : Int) (r : (List Int × Twire_Machine)) (hm : guard_Bytes.m k x0 x1 x2 = some r) (κ : Ctx) (w : World) (S : List HP) (b_x0 : Nat) (A_x1 : Option Addr) (c_x1 : Nat) (hx_x1 : Sl κ S A_x1 c_x1 3 eC x1) (ho : Ow κ w (Twire_Machine.own b_x0 x0 :: S)) :
  Calls Try.prog 61 #[pp b_x0, .slice A_x1 x1.length c_x1, vi x2] w (guard_Bytes.R κ S x0 x1 x2 b_x0 A_x1 c_x1 r) := by
 unfold guard_Bytes.m at hm
 generalize hRR : guard_Bytes.R κ S x0 x1 x2 b_x0 A_x1 c_x1 r = RR
 refine enterM [(0, pp b_x0), (1, .slice A_x1 x1.length c_x1), (2, vi x2)] Try.func61 Try.ntmps61 ho fun a hs => ?_
 refine qsr fun K1 hK1 => ?_
 refine qbx 0 41 [cp b_x0] 3 hs fun b_2 w a hs => ?_
 refine qpk 1 [1, 2, 3] hs fun a hs => hK1 _ _ ?_
 clear hK1
 refine qsr fun K3 hK3 => ?_
 refine qal 69 [C.slc none 0 0] 7 hs fun b_4 w a hs => ?_
 refine qpk 0 [1, 2, 3, 7] hs fun a hs => hK3 _ _ ?_
 clear hK3
 refine Vk.seq fun K5 hK5 => ?_
 have hj5 : ∀ (p_73 : List Int) (p_75 : Twire_Machine), guard_Bytes.j1 k p_73 p_75 = some r → ∀ (A_71 : Option Addr) (c_72 : Nat) (dm_74 : Nat) (a : Act) (w : World), St ⟨26, [mkD dm_74]⟩ a w κ [(7, pp b_4)] (pt b_4 (blk [C.slc A_71 p_73.length c_72] 69) :: rowp A_71 c_72 5 1 (eI .u8) p_73 :: pt dm_74 dfD :: Twire_Machine.own b_x0 p_75 :: S) → K5 a w := by
  intro p_73 p_75 hm A_71 c_72 dm_74 a w hs
  unfold guard_Bytes.j1 at hm
  refine hK5 _ _ ?_
  refine qsr fun K76 hK76 => ?_
  refine qld 0 (C.slc A_71 p_73.length c_72) hs rfl fun a hs => ?_
  refine qpk 1 [6] hs fun a hs => hK76 _ _ ?_
  clear hK76
  refine wp_ret ?_
  refine leaves1 2 hs rfl rfl fun a w hs => ?_
  replace hs : St 26 a w κ [(6, .slice A_71 p_73.length c_72)] (pt b_4 (blk [C.slc A_71 p_73.length c_72] 69) :: rowp A_71 c_72 5 1 (eI .u8) p_73 :: Twire_Machine.own b_x0 p_75 :: S) := hs.pick [6] (by kernel_rfl)
  exact qr1 (.slice A_71 p_73.length c_72) hs rfl hRR (by cases hm; exact ⟨A_71, c_72, rfl, hs.own.drop⟩)
 refine qsr fun K6 hK6 => ?_
 refine qpu 2 hs fun a hs => ?_
 refine Vk.step (Vk.call (some 12) 134 #[.slice A_x1 x1.length c_x1, vi x2] hs (by kernel_rfl) (by kernel_rfl) (by kernel_rfl) ?_)
 refine Vk.enterI [(0, .slice A_x1 x1.length c_x1), (1, vi x2)] Try.func134 rfl Try.ntmps134 (by kernel_rfl) (Nat.le_of_ble_eq_true (by kernel_rfl)) hs.own fun KR7 hKR7 hKP7 a hs => ?_
 refine qsr fun K8 hK8 => ?_
 refine qbx 0 43 [C.slc A_x1 x1.length c_x1] 2 hs fun b_9 w a hs => ?_
 refine qbx 1 3 [ci x2] 3 hs fun b_10 w a hs => ?_
 refine qpe 1 [(2, pp b_9), (3, pp b_10)] hs fun a hs => hK8 _ _ ?_
 clear hK8
 refine qsk 2 [4] hs fun a hs => ?_
 refine wp_ret ?_
 refine hKP7 _ _ ?_
 refine hKR7 _ _ ?_
 refine Vk.ret1 (P := Try.prog) (fn := Try.f134) (.func (.func 164) #[] #[pp b_9, pp b_10]) hs rfl (by kernel_rfl) ⟨_, _, _, rfl, hs.own, fun a hs => ?_⟩
 refine qpk 0 [3, 7, 12] hs fun a hs => hK6 _ _ ?_
 clear hK6
 refine wp_block ?_
 replace hs := hs.pick [3, 7, 12] (L' := [(3, pp b_2), (7, pp b_4), (12, .func (.func 164) #[] #[pp b_9, pp b_10])]) (by kernel_rfl)
 refine rangeFn (gf := 164) (caps := #[pp b_9, pp b_10]) hs fun lp_12 dm_12 fm_12 Tm_12 Xr_12 Yr_12 w hX_12 hY_12 hT_12 ho => ?_
 refine Vk.enterI [(0, .func (.yield lp_12) #[] #[]), (1, pp b_9), (2, pp b_10)] Try.func164 rfl Try.ntmps164 (by kernel_rfl) (Nat.le_of_ble_eq_true (by kernel_rfl)) ho fun KR12 hKR12 hKP12 a hs => ?_
 refine tailK fun KN12 hKN12 => ?_
 refine qsr fun K13 hK13 => ?_
 refine qld 3 (C.slc A_x1 x1.length c_x1) hs rfl fun a hs => ?_
 refine qpe 2 [(0, .func (.yield lp_12) #[] #[]), (2, pp b_10), (6, .slice A_x1 x1.length c_x1), (7, vi ((x1.length : Nat) : Int)), (8, vi 0)] hs fun a hs => hK13 _ _ ?_
 clear hK13
 refine wp_block ?_
 replace hs := hs.addRow none 5 1 (eI .u8)
 obtain ⟨r15, hl15, hm⟩ := bind_t hm
 have hx15_0 : ∀ (p_55 : Twire_Machine) (p_58 : List Int) (p_59 : Int), r15 = Sum.inl (p_55, p_58, p_59) → ∀ (A_56 : Option Addr) (c_57 : Nat) (a : Act) (w : World), St 25 a w κ [] (pt lp_12 Xr_12 :: pt dm_12 dfD :: Twire_Machine.own b_x0 p_55 :: pt b_2 (blk [cp b_x0] 41) :: pt b_4 (blk [C.slc A_56 p_58.length c_57] 69) :: rowp A_56 c_57 5 1 (eI .u8) p_58 :: pt b_9 (blk [C.slc A_x1 x1.length c_x1] 43) :: pt b_10 (blk [ci p_59] 3) :: S) → KR12 a w := by
  intro p_55 p_58 p_59 he A_56 c_57 a w hs
  subst r15
  refine hKR12 _ _ ?_
  refine Vk.ret0 (P := Try.prog) (fn := Try.f164) hs rfl ⟨_, _, 0, ⟨_, rfl⟩, hs.own, rfl, fun a w (hs : St ⟨26, [mkD dm_12]⟩ a w κ [(3, pp b_2), (7, pp b_4), (12, .func (.func 164) #[] #[pp b_9, pp b_10])] (pt dm_12 dfD :: Twire_Machine.own b_x0 p_55 :: pt b_2 (blk [cp b_x0] 41) :: pt b_4 (blk [C.slc A_56 p_58.length c_57] 69) :: rowp A_56 c_57 5 1 (eI .u8) p_58 :: pt b_9 (blk [C.slc A_x1 x1.length c_x1] 43) :: pt b_10 (blk [ci p_59] 3) :: S)) => ?_⟩
  exact hj5 p_58 p_55 hm A_56 c_57 dm_12 _ _ (hs.go [7] [3, 4, 0, 1] 7 (by kernel_rfl) (by kernel_rfl) (by kernel_rfl))
 have hx15_1 : ∀ (p_60 : Twire_Machine) (p_63 : List Int) (p_64 : Int), r15 = Sum.inr (p_60, p_63, p_64) → ∀ (A_61 : Option Addr) (c_62 : Nat) (a : Act) (w : World), St 25 a w κ [] (pt lp_12 Xr_12 :: pt dm_12 dfD :: Twire_Machine.own b_x0 p_60 :: pt b_2 (blk [cp b_x0] 41) :: pt b_4 (blk [C.slc A_61 p_63.length c_62] 69) :: rowp A_61 c_62 5 1 (eI .u8) p_63 :: pt b_9 (blk [C.slc A_x1 x1.length c_x1] 43) :: pt b_10 (blk [ci p_64] 3) :: S) → KN12 a w := by
  intro p_60 p_63 p_64 he A_61 c_62 a w hs
  subst r15
  refine hKN12 _ _ ?_
  refine Vk.end0 (P := Try.prog) (fn := Try.f164) hs rfl ⟨_, _, 0, ⟨_, rfl⟩, hs.own, rfl, fun a w (hs : St ⟨26, [mkD dm_12]⟩ a w κ [(3, pp b_2), (7, pp b_4), (12, .func (.func 164) #[] #[pp b_9, pp b_10])] (pt dm_12 dfD :: Twire_Machine.own b_x0 p_60 :: pt b_2 (blk [cp b_x0] 41) :: pt b_4 (blk [C.slc A_61 p_63.length c_62] 69) :: rowp A_61 c_62 5 1 (eI .u8) p_63 :: pt b_9 (blk [C.slc A_x1 x1.length c_x1] 43) :: pt b_10 (blk [ci p_64] 3) :: S)) => ?_⟩
  exact hj5 p_63 p_60 hm A_61 c_62 dm_12 _ _ (hs.go [7] [3, 4, 0, 1] 7 (by kernel_rfl) (by kernel_rfl) (by kernel_rfl))
 refine Vk.loopBy (fun k (s : Int × Int × Twire_Machine × List Int) a w => ∃ (A_19 : Option Addr), ∃ (c_20 : Nat), guard_Bytes.l1 x1 k s.1 s.2.1 s.2.2.1 s.2.2.2 = some r15 ∧ St 25 a w κ [(0, .func (.yield lp_12) #[] #[]), (2, pp b_10), (6, .slice A_x1 x1.length c_x1), (7, vi ((x1.length : Nat) : Int)), (8, vi s.2.1)] (pt b_10 (blk [ci s.1] 3) :: pt lp_12 Xr_12 :: pt dm_12 dfD :: Twire_Machine.own b_x0 s.2.2.1 :: pt b_2 (blk [cp b_x0] 41) :: pt b_4 (blk [C.slc A_19 s.2.2.2.length c_20] 69) :: rowp A_19 c_20 5 1 (eI .u8) s.2.2.2 :: pt b_9 (blk [C.slc A_x1 x1.length c_x1] 43) :: S)) k (x2, 0, x0, ([] : List Int)) ⟨none, 0, hl15, hs.go [0, 2, 6, 7, 8] [3, 1, 2, 7, 6, 5, 0, 4] 8 (by kernel_rfl) (by kernel_rfl) (by kernel_rfl)⟩ (fun s a w h => by obtain ⟨_, _, h1, _⟩ := h; simp [guard_Bytes.l1] at h1) (fun k KL15 ih s a w h => ?_)
 obtain ⟨q_16, q_17, q_18, q_21⟩ := s
 obtain ⟨A_19, c_20, hm, hs⟩ := h
 try dsimp only at hm hs
 rw [guard_Bytes.l1] at hm
 refine qsk 1 [0, 2, 6, 7, 8, 9] hs fun a hs => ?_
 refine Vk.seq fun K23 hK23 => ?_
 refine qcs (decide (q_17 < ((x1.length : Nat) : Int))) hs (fun hb => ?_) fun hb => ?_
 ·replace hm := bif_t hm hb
  refine wp_skip ?_
  refine hK23 _ _ ?_
  clear hK23
  refine Vk.seq fun K24 hK24 => ?_
  refine wp_block ?_
  refine qsr fun K25 hK25 => ?_
  obtain ⟨h_26, hm⟩ := ite_t hm
  obtain ⟨e_29, h_27, hm⟩ := bind_t hm
  obtain ⟨b_30, o_31, hA_32, h_28⟩ := Sl.elem hx_x1 h_27
  refine qva (.pointer (some ⟨b_30, o_31 + q_17.toNat * 3, none⟩)) (op := (.indexAddr 43 (.tmp 6) (.tmp 8))) hs (fun o ho => run_idxSlc (k := .i64) ho (cap := c_x1) (len := x1.length) ((congrArg (fun A => Value.slice A (x1.length) (c_x1)) hA_32) ▸ (by kernel_rfl)) (by kernel_rfl) (by kernel_rfl) (idx_ok h_26 h_27) _) fun a hs => ?_
  obtain ⟨h_33, hm⟩ := ite_t hm
  refine qva (.agg (vals e_29)) (op := (.load 28 (.tmp 10))) hs (fun o ho => run_loadN (cs := e_29) ho (by kernel_rfl) (by kernel_rfl) h_33 h_28 _ hs.own.drop.drop.drop.drop.drop.drop.drop.drop) fun a hs => ?_
  refine qal 28 [ci 0, ci 0, ci 0] 5 hs fun b_34 w a hs => ?_
  refine qsb 0 e_29 hs rfl h_33 rfl fun a w hs => ?_
  refine qpk 0 [0, 2, 5, 6, 7, 8] hs fun a hs => hK25 _ _ ?_
  clear hK25
  refine Vk.seq fun K35 hK35 => ?_
  refine qsr fun K36 hK36 => ?_
  refine qld 1 (ci q_16) hs rfl fun a hs => ?_
  refine qpu 2 hs fun a hs => ?_
  rcases Bool.eq_false_or_eq_true (decide (q_16 < 1)) with hb | hb
  ·replace hm := bif_t hm hb
   replace hs := hs.known (t := 14) hb (by kernel_rfl)
   refine qpk 7 [0, 2, 6, 7, 8, 21] hs fun a hs => hK36 _ _ ?_
   refine qct hs ?_
   refine wp_ret ?_
   refine hKP12 _ _ ?_
   exact hx15_0 q_18 q_21 q_16 (Option.some.inj hm).symm A_19 c_20 _ _ (hs.go [] [2, 3, 4, 5, 6, 7, 8, 1] 9 (by kernel_rfl) (by kernel_rfl) (by kernel_rfl))
  ·replace hm := bif_f hm hb
   replace hs := hs.known (t := 14) hb (by kernel_rfl)
   refine qpu 1 hs fun a hs => ?_
   refine qlw 0 hs rfl h_33 fun a hs => ?_
   refine qld 1 (ci q_16) hs rfl fun a hs => ?_
   refine qpu 1 hs fun a hs => ?_
   refine yieldOp 2 #[.agg (vals e_29), vi (mn q_16 8)] hs hX_12 hY_12 hT_12 rfl fun KA37 QB37 a hqB37 hno37 hKB37 hb37 he37 hs => ?_
   replace hs := hs.pick [3, 7, 13, 14] (L' := [(3, pp b_2), (7, pp b_4), (13, .agg (vals e_29)), (14, vi (mn q_16 8))]) (by kernel_rfl)
   refine seqI fun K38 hK38 => ?_
   refine regionI ?_
   refine qal 28 [ci 0, ci 0, ci 0] 8 hs fun b_39 w a hs => ?_
   refine qsb 0 e_29 hs rfl h_33 rfl fun a w hs => ?_
   refine qpk 0 [3, 7, 8, 14] hs fun a hs => hK38 _ _ ?_
   clear hK38
   refine regionI ?_
   refine qpk 1 [3, 7, 8, 9] hs fun a hs => ?_
   refine hb37 3 _ _ _ _ _ hs rfl fun w hs => ?_
   replace hs : St 26 a w κ [(3, pp b_2), (7, pp b_4), (8, pp b_39), (9, vi (mn q_16 8))] (pt b_39 (blk e_29 28) :: pt b_34 (blk e_29 28) :: pt b_10 (blk [ci q_16] 3) :: pt lp_12 Yr_12 :: pt dm_12 dfD :: Twire_Machine.own b_x0 q_18 :: pt b_2 (blk [cp b_x0] 41) :: pt b_4 (blk [C.slc A_19 q_21.length c_20] 69) :: rowp A_19 c_20 5 1 (eI .u8) q_21 :: pt b_9 (blk [C.slc A_x1 x1.length c_x1] 43) :: S) := hs.pick [3, 7, 8, 9] (by kernel_rfl)
   refine blockI ?_
   obtain ⟨C_40, hC_40⟩ := qC hs.own.f5.drop
   refine qdrI 9 κ C_40 hs fun w hs hqC_40 => ?_
   have hcl := qO hC_40 hs.own.f5.drop
   refine qdp (fuel := 8) [3, 4, 7] hs hcl hqC_40 fun a hs => ?_
   refine qdl 0 6 (C.slc A_19 q_21.length c_20) hs hcl hqC_40 hC_40 rfl fun a hs => ?_
   refine qdl 1 5 (cp b_x0) hs hcl hqC_40 hC_40 rfl fun a hs => ?_
   refine qdw 2 0 hs hcl hqC_40 hC_40 rfl h_33 fun a hs => ?_
   obtain ⟨v_43, h_42, hm⟩ := bind_t hm
   refine qdc 5 (octet_Low.ok _ _ _ h_42 _ _ (pt b_39 (blk e_29 28) :: pt b_34 (blk e_29 28) :: pt b_10 (blk [ci q_16] 3) :: pt lp_12 Yr_12 :: pt dm_12 dfD :: Twire_Machine.own b_x0 q_18 :: pt b_2 (blk [cp b_x0] 41) :: pt b_4 (blk [C.slc A_19 q_21.length c_20] 69) :: rowp A_19 c_20 5 1 (eI .u8) q_21 :: pt b_9 (blk [C.slc A_x1 x1.length c_x1] 43) :: S) hs.own) hs fun w a hs => ?_
   replace hcl := qO hC_40 hs.own.f5.drop
   refine ⟨fun _ => hcl, ?_⟩
   obtain ⟨v_46, h_45, hm⟩ := bind_t hm
   refine qdc 6 (guard_masked.ok _ _ _ _ _ h_45 _ _ _ b_x0 hs.own.f5) hs fun w a hs => ?_
   replace hcl := qO hC_40 hs.own.drop
   refine ⟨fun _ => hcl, ?_⟩
   obtain ⟨v_49, h_48, hm⟩ := bind_t hm
   refine Vk.dOnly (i := 8) (by kernel_rfl) (Vk.call (some 23) 135 #[vw v_46.1, vi (mn q_16 8)] hs (by kernel_rfl) (by kernel_rfl) (by kernel_rfl) ?_)
   refine (octet_Store.ok k v_46.1 (mn q_16 8) v_49 h_48 κ w (Twire_Machine.own b_x0 v_46.2 :: pt b_39 (blk e_29 28) :: pt b_34 (blk e_29 28) :: pt b_10 (blk [ci q_16] 3) :: pt lp_12 Yr_12 :: pt dm_12 dfD :: pt b_2 (blk [cp b_x0] 41) :: pt b_4 (blk [C.slc A_19 q_21.length c_20] 69) :: rowp A_19 c_20 5 1 (eI .u8) q_21 :: pt b_9 (blk [C.slc A_x1 x1.length c_x1] 43) :: S) hs.own).mono ?_
   rintro _ w ⟨Ar47x0_50, cr47x0_51, rfl, how⟩
   refine ⟨_, _, _, rfl, how, fun a hs => ?_⟩
   replace hcl := qO hC_40 hs.own.f1.drop.drop
   refine ⟨fun _ => hcl, ?_⟩
   obtain ⟨h_52, hm⟩ := ite_t hm
   refine Vk.dOnly (i := 9) (by kernel_rfl) (Vk.appendOp (x := (.tmp 15)) (y := (.tmp 23)) (e := 5) (t := 69) (by_ := 1) (sz := 1) (enc := (eI .u8)) (A := A_19) (cap := c_20) (xs := q_21) (ys := v_49) (B := Ar47x0_50) (c2 := cr47x0_51) 9 (some 24) hs (by kernel_rfl) (by kernel_rfl) (by kernel_rfl) (by kernel_rfl) rfl (Sl.lift (fun w ho => (Ow.to (S' := rowp Ar47x0_50 cr47x0_51 5 1 (eI .u8) v_49 :: S) ho [0] 11 (by kernel_rfl) (by kernel_rfl))) (Ow.rowSl 0 (Ow.to (S' := rowp Ar47x0_50 cr47x0_51 5 1 (eI .u8) v_49 :: S) hs.own [0] 11 (by kernel_rfl) (by kernel_rfl)) rfl)) (by kernel_rfl) (by kernel_rfl) (by decide) (by decide) h_52 fun A_53 c_54 w a hs => ?_)
   refine ⟨fun h => absurd h (by decide), ?_⟩
   refine qsd 10 8 0 (C.slc A_53 ((q_21 ++ v_49).length) c_54) hs rfl fun a w hs => ?_
   refine ⟨fun h => absurd h (by decide), ?_⟩
   replace hs := hs.pick [] (L' := []) (by kernel_rfl)
   refine Vk.dDone (by kernel_rfl) ?_
   refine he37 5 _ _ _ _ _ hs rfl fun a w hs => ?_
   replace hs : St 25 a w κ [(0, .func (.yield lp_12) #[] #[]), (2, pp b_10), (5, pp b_34), (6, .slice A_x1 x1.length c_x1), (7, vi ((x1.length : Nat) : Int)), (8, vi q_17), (12, vi q_16), (13, .bool (decide (q_16 < 1))), (14, .bool false), (15, .func (.yield lp_12) #[] #[]), (16, .agg (vals e_29)), (17, vi q_16), (18, vi (mn q_16 8)), (19, .bool true)] (rowp Ar47x0_50 cr47x0_51 5 1 (eI .u8) v_49 :: Twire_Machine.own b_x0 v_46.2 :: pt b_39 (blk e_29 28) :: pt b_34 (blk e_29 28) :: pt b_10 (blk [ci q_16] 3) :: pt lp_12 Xr_12 :: pt dm_12 dfD :: pt b_2 (blk [cp b_x0] 41) :: pt b_4 (blk [C.slc A_53 ((q_21 ++ v_49).length) c_54] 69) :: rowp A_53 c_54 5 1 (eI .u8) (q_21 ++ v_49) :: pt b_9 (blk [C.slc A_x1 x1.length c_x1] 43) :: S) := hs.pick [0, 2, 5, 6, 7, 8, 12, 13, 14, 15, 16, 17, 18, 19] (by kernel_rfl)
   refine qpe 2 [(0, .func (.yield lp_12) #[] #[]), (2, pp b_10), (6, .slice A_x1 x1.length c_x1), (7, vi ((x1.length : Nat) : Int)), (8, vi q_17), (15, .func (.yield lp_12) #[] #[]), (16, .agg (vals e_29)), (17, vi q_16), (18, vi (mn q_16 8)), (19, .bool true), (20, .bool false), (21, .bool false)] hs fun a hs => hK36 _ _ ?_
   refine qcf hs ?_
   refine wp_skip ?_
   refine hK35 _ _ ?_
   clear hK35
   refine Vk.region ?_
   refine qld 4 (ci q_16) hs rfl fun a hs => ?_
   refine qpu 1 hs fun a hs => ?_
   refine qst 4 0 (ci (IntKind.i64.wrap (q_16 - 8))) hs rfl fun a w hs => ?_
   refine qpk 0 [0, 2, 6, 7, 8, 15, 16, 17, 18, 19, 20] hs fun a hs => hK24 _ _ ?_
   clear hK24
   refine Vk.region ?_
   refine qpk 2 [0, 2, 6, 7, 8, 15, 16, 17, 18, 19, 20] hs fun a hs => ?_
   refine ih ((IntKind.i64.wrap (q_16 - 8)), (IntKind.i64.wrap (q_17 + 1)), v_46.2, (q_21 ++ v_49)) _ _ ⟨A_53, c_54, hm, hs.go [0, 2, 6, 7, 8] [4, 5, 6, 1, 7, 8, 9, 10] 11 (by kernel_rfl) (by kernel_rfl) (by kernel_rfl)⟩
 ·replace hm := bif_f hm hb
  refine wp_exit ?_
  exact hx15_1 q_18 q_21 q_16 (Option.some.inj hm).symm A_19 c_20 _ _ (hs.go [] [1, 2, 3, 4, 5, 6, 7, 0] 8 (by kernel_rfl) (by kernel_rfl) (by kernel_rfl))


def visorref01_Store.l1 (x1 : Int) : Nat → Int → (List Int) → Int → Option (List Int)
 | 0, _, _, _ => none
 | k + 1, q_8, q_11, q_12 => (bif (decide (q_12 < x1)) && (decide (q_12 < 8)) then (if (q_11.length + ([IntKind.u8.wrap (Int.tmod q_8 256)] : List Int).length) * 1 ≤ 140737488355328 then visorref01_Store.l1 x1 k (IntKind.u64.wrap (Int.tdiv q_8 256)) (q_11 ++ ([IntKind.u8.wrap (Int.tmod q_8 256)] : List Int)) (IntKind.i64.wrap (q_12 + 1)) else none) else some q_11)
abbrev visorref01_Store.R (κ : Ctx) (S : List HP) (x0 : Int) (x1 : Int) (r : List Int) : Ending → World → Prop := fun e w' => ∃ (A_r0 : Option Addr), ∃ (c_r0 : Nat), e = .returned (.slice A_r0 r.length c_r0) ∧ Ow κ w' (rowp A_r0 c_r0 5 1 (eI .u8) r :: S)
def visorref01_Store.m (k : Nat) (x0 : Int) (x1 : Int) : Option (List Int) := (visorref01_Store.l1 x1 k x0 ([] : List Int) 0).bind fun p_25 => some p_25

set_option maxRecDepth 100000 in
set_option maxHeartbeats 4000000 in
theorem visorref01_Store.ok (k : Nat) (x0 : Int) (x1 : Int) (r : List Int) (hm : visorref01_Store.m k x0 x1 = some r) (κ : Ctx) (w : World) (S : List HP) (ho : Ow κ w (S)) :
  Calls Try.prog 60 #[vw x0, vi x1] w (visorref01_Store.R κ S x0 x1 r) := by
 unfold visorref01_Store.m at hm
 generalize hRR : visorref01_Store.R κ S x0 x1 r = RR
 refine qen [(0, vw x0), (1, vi x1)] Try.func60 Try.ntmps60 ho fun a hs => ?_
 refine qse 1 [(0, vw x0), (1, vi x1)] hs fun a hs => ?_
 refine qsr fun K2 hK2 => ?_
 refine Vk.step (Vk.buildOp (sz := 1) (by_ := 1) (t := 69) (e := 5) (parts := #[]) (zs := vals [C.int .u8 0]) ([] : List Int) (eI .u8) (some 7) hs (by kernel_rfl) (by kernel_rfl) (by kernel_rfl) (by kernel_rfl) (by decide) rfl (fun x _ => rfl) (Nat.le_of_ble_eq_true (by kernel_rfl)) (by kernel_rfl) fun A_3 w a hs => ?_)
 refine qpk 1 [0, 1, 5] hs fun a hs => hK2 _ _ ?_
 clear hK2
 refine Vk.seq fun K5 hK5 => ?_
 refine qsk 1 [0, 1, 5, 6] hs fun a hs => ?_
 refine wp_block ?_
 obtain ⟨r7, hl7, hm⟩ := bind_t hm
 have hx7 : ∀ (p_25 : List Int), r7 = p_25 → ∀ (A_23 : Option Addr) (c_24 : Nat) (a : Act) (w : World), St 26 a w κ [(5, .slice A_23 p_25.length c_24)] (rowp A_23 c_24 5 1 (eI .u8) p_25 :: S) → K5 a w := by
  intro p_25 he A_23 c_24 a w hs
  subst r7
  refine hK5 _ _ ?_
  clear hK5
  refine qse 2 [(4, .slice A_23 p_25.length c_24)] hs fun a hs => ?_
  refine wp_ret ?_
  exact qr1 (.slice A_23 p_25.length c_24) hs rfl hRR (by cases hm; exact ⟨A_23, c_24, rfl, hs.own⟩)
 refine Vk.loopBy (fun k (s : Int × List Int × Int) a w => ∃ (A_9 : Option Addr), ∃ (c_10 : Nat), visorref01_Store.l1 x1 k s.1 s.2.1 s.2.2 = some r7 ∧ St 26 a w κ [(0, vw s.1), (1, vi x1), (5, .slice A_9 s.2.1.length c_10), (6, vi s.2.2)] (rowp A_9 c_10 5 1 (eI .u8) s.2.1 :: S)) k (x0, ([] : List Int), 0) ⟨A_3, 0, hl7, hs.go [0, 1, 5, 6] [0] 1 (by kernel_rfl) (by kernel_rfl) (by kernel_rfl)⟩ (fun s a w h => by obtain ⟨_, _, h1, _⟩ := h; simp [visorref01_Store.l1] at h1) (fun k KL7 ih s a w h => ?_)
 obtain ⟨q_8, q_11, q_12⟩ := s
 obtain ⟨A_9, c_10, hm, hs⟩ := h
 try dsimp only at hm hs
 rw [visorref01_Store.l1] at hm
 refine Vk.seq fun K13 hK13 => ?_
 refine qsr fun K14 hK14 => ?_
 refine qpu 4 hs fun a hs => ?_
 refine qsc 11 3 hs fun a hs => ?_
 refine qpk 0 [0, 1, 5, 6, 14] hs fun a hs => hK14 _ _ ?_
 clear hK14
 refine qcs ((decide (q_12 < x1)) && (decide (q_12 < 8))) hs (fun hb => ?_) fun hb => ?_
 ·replace hm := bif_t hm hb
  refine wp_skip ?_
  refine hK13 _ _ ?_
  clear hK13
  refine Vk.seq fun K16 hK16 => ?_
  refine wp_block ?_
  refine qsr fun K17 hK17 => ?_
  refine qpu 4 hs fun a hs => ?_
  refine Vk.step (Vk.buildOp (sz := 1) (by_ := 1) (t := 69) (e := 5) (parts := #[(0, (.tmp 20))]) (zs := vals [C.int .u8 0]) ([IntKind.u8.wrap (Int.tmod q_8 256)] : List Int) (eI .u8) (some 21) hs (by kernel_rfl) (by kernel_rfl) (by kernel_rfl) (by kernel_rfl) (by decide) rfl (fun x _ => rfl) (Nat.le_of_ble_eq_true (by kernel_rfl)) (by kernel_rfl) fun A_18 w a hs => ?_)
  obtain ⟨h_20, hm⟩ := ite_t hm
  refine Vk.step (Vk.appendOp (x := (.tmp 17)) (y := (.tmp 21)) (e := 5) (t := 69) (by_ := 1) (sz := 1) (enc := (eI .u8)) (A := A_9) (cap := c_10) (xs := q_11) (ys := ([IntKind.u8.wrap (Int.tmod q_8 256)] : List Int)) (B := A_18) (c2 := 1) 1 (some 22) hs (by kernel_rfl) (by kernel_rfl) (by kernel_rfl) (by kernel_rfl) rfl (Sl.lift (fun w ho => (Ow.to (S' := rowp A_18 1 5 1 (eI .u8) ([IntKind.u8.wrap (Int.tmod q_8 256)] : List Int) :: S) ho [0] 2 (by kernel_rfl) (by kernel_rfl))) (Ow.rowSl 0 (Ow.to (S' := rowp A_18 1 5 1 (eI .u8) ([IntKind.u8.wrap (Int.tmod q_8 256)] : List Int) :: S) hs.own [0] 2 (by kernel_rfl) (by kernel_rfl)) rfl)) (by kernel_rfl) (by kernel_rfl) (by decide) (by decide) h_20 fun A_21 c_22 w a hs => ?_)
  refine qpk 1 [0, 1, 5, 6] hs fun a hs => hK17 _ _ ?_
  clear hK17
  refine Vk.region ?_
  refine qpk 3 [0, 1, 5, 6] hs fun a hs => hK16 _ _ ?_
  clear hK16
  refine Vk.region ?_
  refine qpk 3 [0, 1, 5, 6] hs fun a hs => ?_
  refine ih ((IntKind.u64.wrap (Int.tdiv q_8 256)), (q_11 ++ ([IntKind.u8.wrap (Int.tmod q_8 256)] : List Int)), (IntKind.i64.wrap (q_12 + 1))) _ _ ⟨A_21, c_22, hm, hs.go [0, 1, 5, 6] [1] 2 (by kernel_rfl) (by kernel_rfl) (by kernel_rfl)⟩
 ·replace hm := bif_f hm hb
  refine wp_exit ?_
  exact hx7 q_11 (Option.some.inj hm).symm A_9 c_10 _ _ (hs.go [5] [0] 1 (by kernel_rfl) (by kernel_rfl) (by kernel_rfl))


def visorref24_Bytes.j1 (k : Nat) (rec7 : Tvisorref19_M → (List Int) → Int → Option (List Int × Tvisorref19_M)) (x1 : List Cells) (q_8 : Tvisorref19_M) (q_11 : List Int) (q_12 : Int) (p_20 : Int) : Option (List Int × Tvisorref19_M) := (if 0 ≤ q_12 then (x1[q_12.toNat]?).bind fun e_25 => (if e_25.length = 3 then (visorref01_Low.m k (IntKind.i64.wrap (8 * p_20))).bind fun v_32 => (visorref24_Masked.m k q_8 e_25 v_32).bind fun v_35 => (visorref01_Store.m k v_35.1 p_20).bind fun v_38 => (if (q_11.length + v_38.length) * 1 ≤ 140737488355328 then rec7 v_35.2 (q_11 ++ v_38) (IntKind.i64.wrap (q_12 + 1)) else none) else none) else none)
def visorref24_Bytes.l1 (x1 : List Cells) (x2 : Int) : Nat → Tvisorref19_M → (List Int) → Int → Option (List Int × Tvisorref19_M)
 | 0, _, _, _ => none
 | k + 1, q_8, q_11, q_12 => (bif (decide (q_12 < ((x1.length : Nat) : Int))) && (decide ((IntKind.i64.wrap (8 * q_12)) < x2)) then (bif decide ((IntKind.i64.wrap (x2 - (IntKind.i64.wrap (8 * q_12)))) > 8) then visorref24_Bytes.j1 k (visorref24_Bytes.l1 x1 x2 k) x1 q_8 q_11 q_12 8 else visorref24_Bytes.j1 k (visorref24_Bytes.l1 x1 x2 k) x1 q_8 q_11 q_12 (IntKind.i64.wrap (x2 - (IntKind.i64.wrap (8 * q_12))))) else some (q_11, q_8))
abbrev visorref24_Bytes.R (κ : Ctx) (S : List HP) (x0 : Tvisorref19_M) (x1 : List Cells) (x2 : Int) (b_x0 : Nat) (A_x1 : Option Addr) (c_x1 : Nat) (r : (List Int × Tvisorref19_M)) : Ending → World → Prop := fun e w' => ∃ (A_r0 : Option Addr), ∃ (c_r0 : Nat), e = .returned (.slice A_r0 r.1.length c_r0) ∧ Ow κ w' (rowp A_r0 c_r0 5 1 (eI .u8) r.1 :: Tvisorref19_M.own κ b_x0 r.2 :: S)
def visorref24_Bytes.m (k : Nat) (x0 : Tvisorref19_M) (x1 : List Cells) (x2 : Int) : Option (List Int × Tvisorref19_M) := (visorref24_Bytes.l1 x1 x2 k x0 ([] : List Int) 0).bind fun x => match x with | (p_46, p_47) => some (p_46, p_47)

set_option maxRecDepth 100000 in
set_option maxHeartbeats 4000000 in
theorem visorref24_Bytes.ok (k : Nat) (x0 : Tvisorref19_M) (x1 : List Cells) (x2 : Int) (r : (List Int × Tvisorref19_M)) (hm : visorref24_Bytes.m k x0 x1 x2 = some r) (κ : Ctx) (w : World) (S : List HP) (b_x0 : Nat) (A_x1 : Option Addr) (c_x1 : Nat) (hx_x1 : Sl κ S A_x1 c_x1 3 eC x1) (ho : Ow κ w (Tvisorref19_M.own κ b_x0 x0 :: S)) :
  Calls Try.prog 72 #[pp b_x0, .slice A_x1 x1.length c_x1, vi x2] w (visorref24_Bytes.R κ S x0 x1 x2 b_x0 A_x1 c_x1 r) := by
 unfold visorref24_Bytes.m at hm
 generalize hRR : visorref24_Bytes.R κ S x0 x1 x2 b_x0 A_x1 c_x1 r = RR
 refine qen [(0, pp b_x0), (1, .slice A_x1 x1.length c_x1), (2, vi x2)] Try.func72 Try.ntmps72 ho fun a hs => ?_
 refine qsk 1 [0, 1, 2] hs fun a hs => ?_
 refine qsr fun K2 hK2 => ?_
 refine Vk.step (Vk.buildOp (sz := 1) (by_ := 1) (t := 69) (e := 5) (parts := #[]) (zs := vals [C.int .u8 0]) ([] : List Int) (eI .u8) (some 10) hs (by kernel_rfl) (by kernel_rfl) (by kernel_rfl) (by kernel_rfl) (by decide) rfl (fun x _ => rfl) (Nat.le_of_ble_eq_true (by kernel_rfl)) (by kernel_rfl) fun A_3 w a hs => ?_)
 refine qpk 1 [0, 1, 2, 7] hs fun a hs => hK2 _ _ ?_
 clear hK2
 refine Vk.seq fun K5 hK5 => ?_
 refine qsk 1 [0, 1, 2, 7, 8] hs fun a hs => ?_
 refine wp_block ?_
 obtain ⟨r7, hl7, hm⟩ := bind_t hm
 have hx7 : ∀ (p_46 : List Int) (p_47 : Tvisorref19_M), r7 = (p_46, p_47) → ∀ (A_44 : Option Addr) (c_45 : Nat) (a : Act) (w : World), St 43 a w κ [(7, .slice A_44 p_46.length c_45)] (rowp A_44 c_45 5 1 (eI .u8) p_46 :: Tvisorref19_M.own κ b_x0 p_47 :: S) → K5 a w := by
  intro p_46 p_47 he A_44 c_45 a w hs
  subst r7
  refine hK5 _ _ ?_
  clear hK5
  refine qse 2 [(6, .slice A_44 p_46.length c_45)] hs fun a hs => ?_
  refine wp_ret ?_
  exact qr1 (.slice A_44 p_46.length c_45) hs rfl hRR (by cases hm; exact ⟨A_44, c_45, rfl, hs.own⟩)
 refine Vk.loopBy (fun k (s : Tvisorref19_M × List Int × Int) a w => ∃ (A_9 : Option Addr), ∃ (c_10 : Nat), visorref24_Bytes.l1 x1 x2 k s.1 s.2.1 s.2.2 = some r7 ∧ St 43 a w κ [(0, pp b_x0), (1, .slice A_x1 x1.length c_x1), (2, vi x2), (7, .slice A_9 s.2.1.length c_10), (8, vi s.2.2)] (Tvisorref19_M.own κ b_x0 s.1 :: rowp A_9 c_10 5 1 (eI .u8) s.2.1 :: S)) k (x0, ([] : List Int), 0) ⟨A_3, 0, hl7, hs.go [0, 1, 2, 7, 8] [1, 0] 2 (by kernel_rfl) (by kernel_rfl) (by kernel_rfl)⟩ (fun s a w h => by obtain ⟨_, _, h1, _⟩ := h; simp [visorref24_Bytes.l1] at h1) (fun k KL7 ih s a w h => ?_)
 obtain ⟨q_8, q_11, q_12⟩ := s
 obtain ⟨A_9, c_10, hm, hs⟩ := h
 try dsimp only at hm hs
 rw [visorref24_Bytes.l1] at hm
 refine Vk.seq fun K13 hK13 => ?_
 refine qsr fun K14 hK14 => ?_
 refine qpu 5 hs fun a hs => ?_
 refine qsc 15 5 hs fun a hs => ?_
 refine qpk 0 [0, 1, 2, 7, 8, 20] hs fun a hs => hK14 _ _ ?_
 clear hK14
 refine qcs ((decide (q_12 < ((x1.length : Nat) : Int))) && (decide ((IntKind.i64.wrap (8 * q_12)) < x2))) hs (fun hb => ?_) fun hb => ?_
 ·replace hm := bif_t hm hb
  refine wp_skip ?_
  refine hK13 _ _ ?_
  clear hK13
  refine Vk.seq fun K16 hK16 => ?_
  refine wp_block ?_
  refine qsk 5 [0, 1, 2, 7, 8, 9] hs fun a hs => ?_
  refine Vk.seq fun K18 hK18 => ?_
  have hj18 : ∀ (p_20 : Int), visorref24_Bytes.j1 k (visorref24_Bytes.l1 x1 x2 k) x1 q_8 q_11 q_12 p_20 = some r7 → ∀ (a : Act) (w : World), St 43 a w κ [(0, pp b_x0), (1, .slice A_x1 x1.length c_x1), (2, vi x2), (7, .slice A_9 q_11.length c_10), (8, vi q_12), (9, vi p_20)] (Tvisorref19_M.own κ b_x0 q_8 :: rowp A_9 c_10 5 1 (eI .u8) q_11 :: S) → K18 a w := by
   intro p_20 hm a w hs
   unfold visorref24_Bytes.j1 at hm
   refine hK18 _ _ ?_
   obtain ⟨C_21, hC_21⟩ := qC hs.own.drop
   refine qdr 12 κ C_21 hs fun w hs hqC_21 => ?_
   have hcl := qO hC_21 hs.own.drop
   refine qdp (fuel := 7) [0, 1, 2, 3, 6, 7, 10] hs hcl hqC_21 fun a hs => ?_
   obtain ⟨h_22, hm⟩ := ite_t hm
   obtain ⟨e_25, h_23, hm⟩ := bind_t hm
   obtain ⟨b_26, o_27, hA_28, h_24⟩ := Sl.elem hx_x1 h_23
   refine qdt 4 (.pointer (some ⟨b_26, o_27 + q_12.toNat * 3, none⟩)) (op := (.indexAddr 43 (.tmp 31) (.tmp 32))) hs hcl hqC_21 (fun w hw o ho => by rw [hC_21] at hw; exact run_idxSlc (k := .i64) ho (cap := c_x1) (len := x1.length) ((congrArg (fun A => Value.slice A (x1.length) (c_x1)) hA_28) ▸ (by kernel_rfl)) (by kernel_rfl) (by kernel_rfl) (idx_ok h_22 h_23) _) fun a hs => ?_
   obtain ⟨h_29, hm⟩ := ite_t hm
   refine qdt 5 (.agg (vals e_25)) (op := (.load 28 (.tmp 33))) hs hcl hqC_21 (fun w hw o ho => by rw [hC_21] at hw; exact run_loadN (cs := e_25) ho (by kernel_rfl) (by kernel_rfl) h_29 h_24 _ hw.drop) fun a hs => ?_
   obtain ⟨v_32, h_31, hm⟩ := bind_t hm
   refine qdc 8 (visorref01_Low.ok _ _ _ h_31 _ _ (Tvisorref19_M.own κ b_x0 q_8 :: rowp A_9 c_10 5 1 (eI .u8) q_11 :: S) hs.own) hs fun w a hs => ?_
   replace hcl := qO hC_21 hs.own.drop
   refine ⟨fun _ => hcl, ?_⟩
   obtain ⟨v_35, h_34, hm⟩ := bind_t hm
   refine qdc 9 (visorref24_Masked.ok _ _ _ _ _ h_34 _ _ _ b_x0 hs.own) hs fun w a hs => ?_
   replace hcl := qO hC_21 hs.own.drop
   refine ⟨fun _ => hcl, ?_⟩
   obtain ⟨v_38, h_37, hm⟩ := bind_t hm
   refine Vk.dOnly (i := 11) (by kernel_rfl) (Vk.call (some 40) 60 #[vw v_35.1, vi p_20] hs (by kernel_rfl) (by kernel_rfl) (by kernel_rfl) ?_)
   refine (visorref01_Store.ok k v_35.1 p_20 v_38 h_37 κ w (Tvisorref19_M.own κ b_x0 v_35.2 :: rowp A_9 c_10 5 1 (eI .u8) q_11 :: S) hs.own).mono ?_
   rintro _ w ⟨Ar36x0_39, cr36x0_40, rfl, how⟩
   refine ⟨_, _, _, rfl, how, fun a hs => ?_⟩
   replace hcl := qO hC_21 hs.own.f1.drop.drop
   refine ⟨fun _ => hcl, ?_⟩
   obtain ⟨h_41, hm⟩ := ite_t hm
   refine Vk.dOnly (i := 12) (by kernel_rfl) (Vk.appendOp (x := (.tmp 29)) (y := (.tmp 40)) (e := 5) (t := 69) (by_ := 1) (sz := 1) (enc := (eI .u8)) (A := A_9) (cap := c_10) (xs := q_11) (ys := v_38) (B := Ar36x0_39) (c2 := cr36x0_40) 2 (some 41) hs (by kernel_rfl) (by kernel_rfl) (by kernel_rfl) (by kernel_rfl) rfl (Sl.lift (fun w ho => (Ow.to (S' := rowp Ar36x0_39 cr36x0_40 5 1 (eI .u8) v_38 :: S) ho [0] 3 (by kernel_rfl) (by kernel_rfl))) (Ow.rowSl 0 (Ow.to (S' := rowp Ar36x0_39 cr36x0_40 5 1 (eI .u8) v_38 :: S) hs.own [0] 3 (by kernel_rfl) (by kernel_rfl)) rfl)) (by kernel_rfl) (by kernel_rfl) (by decide) (by decide) h_41 fun A_42 c_43 w a hs => ?_)
   refine ⟨fun h => absurd h (by decide), ?_⟩
   refine Vk.dOnly (i := 13) (by kernel_rfl) (Vk.dPure1 [(7, .slice A_42 ((q_11 ++ v_38).length) c_43)] hs (by kernel_rfl) fun a hs => ?_)
   refine ⟨fun h => absurd h (by decide), ?_⟩
   replace hs := hs.pick [0, 1, 2, 7, 8] (L' := [(0, pp b_x0), (1, .slice A_x1 x1.length c_x1), (2, vi x2), (7, .slice A_42 ((q_11 ++ v_38).length) c_43), (8, vi q_12)]) (by kernel_rfl)
   refine Vk.dDone (by kernel_rfl) ?_
   refine hK16 _ _ ?_
   clear hK16
   refine Vk.region ?_
   refine qpk 3 [0, 1, 2, 7, 8] hs fun a hs => ?_
   refine ih (v_35.2, (q_11 ++ v_38), (IntKind.i64.wrap (q_12 + 1))) _ _ ⟨A_42, c_43, hm, hs.go [0, 1, 2, 7, 8] [1, 2] 3 (by kernel_rfl) (by kernel_rfl) (by kernel_rfl)⟩
  refine qsk 2 [0, 1, 2, 7, 8, 9, 28] hs fun a hs => ?_
  refine qcs (decide ((IntKind.i64.wrap (x2 - (IntKind.i64.wrap (8 * q_12)))) > 8)) hs (fun hb => ?_) fun hb => ?_
  ·replace hm := bif_t hm hb
   refine Vk.region ?_
   refine qpe 1 [(0, pp b_x0), (1, .slice A_x1 x1.length c_x1), (2, vi x2), (7, .slice A_9 q_11.length c_10), (8, vi q_12), (9, vi 8)] hs fun a hs => ?_
   exact hj18 8 hm _ _ (hs.go [0, 1, 2, 7, 8, 9] [0, 1] 2 (by kernel_rfl) (by kernel_rfl) (by kernel_rfl))
  ·replace hm := bif_f hm hb
   refine wp_skip ?_
   exact hj18 (IntKind.i64.wrap (x2 - (IntKind.i64.wrap (8 * q_12)))) hm _ _ (hs.go [0, 1, 2, 7, 8, 9] [0, 1] 2 (by kernel_rfl) (by kernel_rfl) (by kernel_rfl))
 ·replace hm := bif_f hm hb
  refine wp_exit ?_
  exact hx7 q_11 q_8 (Option.some.inj hm).symm A_9 c_10 _ _ (hs.go [7] [1, 0] 2 (by kernel_rfl) (by kernel_rfl) (by kernel_rfl))


abbrev visorref01_Same.R (κ : Ctx) (S : List HP) (x0 : List Int) (x1 : List Int) (A_x0 : Option Addr) (c_x0 : Nat) (A_x1 : Option Addr) (c_x1 : Nat) (r : Bool) : Ending → World → Prop := fun e w' => e = .returned (.bool r) ∧ Ow κ w' (S)
def visorref01_Same.m (k : Nat) (x0 : List Int) (x1 : List Int) : Option Bool := some ((strOfNums x0).toList == (strOfNums x1).toList)

set_option maxRecDepth 100000 in
set_option maxHeartbeats 4000000 in
theorem visorref01_Same.ok (k : Nat) (x0 : List Int) (x1 : List Int) (r : Bool) (hm : visorref01_Same.m k x0 x1 = some r) (κ : Ctx) (w : World) (S : List HP) (A_x0 : Option Addr) (c_x0 : Nat) (hx_x0 : Sl κ S A_x0 c_x0 1 (eI .u8) x0) (A_x1 : Option Addr) (c_x1 : Nat) (hx_x1 : Sl κ S A_x1 c_x1 1 (eI .u8) x1) (ho : Ow κ w (S)) :
  Calls Try.prog 63 #[.slice A_x0 x0.length c_x0, .slice A_x1 x1.length c_x1] w (visorref01_Same.R κ S x0 x1 A_x0 c_x0 A_x1 c_x1 r) := by
 unfold visorref01_Same.m at hm
 generalize hRR : visorref01_Same.R κ S x0 x1 A_x0 c_x0 A_x1 c_x1 r = RR
 refine qen [(0, .slice A_x0 x0.length c_x0), (1, .slice A_x1 x1.length c_x1)] Try.func63 Try.ntmps63 ho fun a hs => ?_
 refine qse 1 [(0, .slice A_x0 x0.length c_x0), (1, .slice A_x1 x1.length c_x1)] hs fun a hs => ?_
 refine qsr fun K2 hK2 => ?_
 refine qpu 1 hs fun a hs => ?_
 refine qva (.string (strOfNums x0)) (op := (.convert 69 9 (.tmp 5))) hs (fun o ho => run_toStr (e := 5) (cap := c_x0) hx_x0 ho (by kernel_rfl) (by kernel_rfl) (by kernel_rfl) (by kernel_rfl) _ hs.own) fun a hs => ?_
 refine qpu 1 hs fun a hs => ?_
 refine qva (.string (strOfNums x1)) (op := (.convert 69 9 (.tmp 7))) hs (fun o ho => run_toStr (e := 5) (cap := c_x1) hx_x1 ho (by kernel_rfl) (by kernel_rfl) (by kernel_rfl) (by kernel_rfl) _ hs.own) fun a hs => ?_
 refine qpk 2 [4] hs fun a hs => hK2 _ _ ?_
 clear hK2
 refine wp_ret ?_
 exact qr1 (.bool ((strOfNums x0).toList == (strOfNums x1).toList)) hs rfl hRR (by cases hm; exact ⟨rfl, hs.own⟩)


def guard_Planes.l2 (q_16 : List Int) (q_17 : Int) (v_33 : Int × Twire_Machine) : Nat → (List Int) → Int → Option (List Int)
 | 0, _, _ => none
 | k + 1, q_36, q_37 => (bif decide (q_37 < ((q_16.length : Nat) : Int)) then (if 0 ≤ q_37 then (q_36[q_37.toNat]?).bind fun e_46 => (if 0 ≤ q_37 then (if 0 ≤ q_17 then (if 0 ≤ q_37 then (q_36[q_37.toNat]?).bind fun e_55 => guard_Planes.l2 q_16 q_17 v_33 k (q_36.set q_37.toNat (bor .u8 e_46 (shl .u8 (IntKind.u8.wrap (band .u64 (shr .u64 v_33.1 q_37) 1)) q_17))) (IntKind.i64.wrap (q_37 + 1)) else none) else none) else none) else none) else some q_36)
def guard_Planes.l1 (x1 : Cells) (x2 : Int) : Nat → Twire_Machine → (List Int) → Int → Option (List Int × Twire_Machine)
 | 0, _, _, _ => none
 | k + 1, q_15, q_16, q_17 => (bif decide (q_17 < 8) then (if 0 ≤ q_17 ∧ q_17 < 8 then (part? x1 (q_17.toNat * 3) 3).bind fun v_24 => (octet_Low.m k (mn x2 64)).bind fun v_30 => (guard_masked.m k q_15 v_24 v_30).bind fun v_33 => (guard_Planes.l2 q_16 q_17 v_33 k q_16 0).bind fun p_59 => guard_Planes.l1 x1 x2 k v_33.2 p_59 (IntKind.i64.wrap (q_17 + 1)) else none) else some (q_16, q_15))
abbrev guard_Planes.R (κ : Ctx) (S : List HP) (x0 : Twire_Machine) (x1 : Cells) (x2 : Int) (b_x0 : Nat) (r : (List Int × Twire_Machine)) : Ending → World → Prop := fun e w' => ∃ (A_r0 : Option Addr), ∃ (c_r0 : Nat), e = .returned (.slice A_r0 r.1.length c_r0) ∧ Ow κ w' (rowp A_r0 c_r0 5 1 (eI .u8) r.1 :: Twire_Machine.own b_x0 r.2 :: S)
def guard_Planes.m (k : Nat) (x0 : Twire_Machine) (x1 : Cells) (x2 : Int) : Option (List Int × Twire_Machine) := (bif decide ((mn x2 64) < 1) then some (([] : List Int), x0) else (if (0 : Int) ≤ (mn x2 64) ∧ ((mn x2 64) : Int) ≤ (mn x2 64) ∧ (1 : Int) * (mn x2 64) ≤ 281474976710656 then (if x1.length = 24 then (guard_Planes.l1 x1 x2 k x0 (List.replicate (mn x2 64).toNat 0 : List Int) 0).bind fun x => match x with | (p_62, p_63) => some (p_62, p_63) else none) else none))

set_option maxRecDepth 100000 in
set_option maxHeartbeats 4000000 in
theorem guard_Planes.ok (k : Nat) (x0 : Twire_Machine) (x1 : Cells) (x2 : Int) (r : (List Int × Twire_Machine)) (hm : guard_Planes.m k x0 x1 x2 = some r) (κ : Ctx) (w : World) (S : List HP) (b_x0 : Nat) (ho : Ow κ w (Twire_Machine.own b_x0 x0 :: S)) :
  Calls Try.prog 73 #[pp b_x0, .agg (vals x1), vi x2] w (guard_Planes.R κ S x0 x1 x2 b_x0 r) := by
 unfold guard_Planes.m at hm
 generalize hRR : guard_Planes.R κ S x0 x1 x2 b_x0 r = RR
 refine qen [(0, pp b_x0), (1, .agg (vals x1)), (2, vi x2)] Try.func73 Try.ntmps73 ho fun a hs => ?_
 refine qsr fun K1 hK1 => ?_
 refine qbx 1 71 x1 4 hs fun b_2 w a hs => ?_
 refine qpk 1 [0, 2, 4] hs fun a hs => hK1 _ _ ?_
 clear hK1
 refine qsk 3 [0, 2, 4] hs fun a hs => ?_
 refine Vk.seq fun K4 hK4 => ?_
 refine qsk 2 [0, 2, 4, 15] hs fun a hs => ?_
 refine qcs (decide ((mn x2 64) < 1)) hs (fun hb => ?_) fun hb => ?_
 ·replace hm := bif_t hm hb
  refine qse 1 [(6, .slice none 0 0)] hs fun a hs => ?_
  refine wp_ret ?_
  replace hs := hs.addRow none 5 1 (eI .u8)
  exact qr1 (.slice none (([] : List Int).length) 0) hs rfl hRR (by cases hm; exact ⟨none, 0, rfl, hs.own.f1.drop⟩)
 ·replace hm := bif_f hm hb
  refine wp_skip ?_
  refine hK4 _ _ ?_
  clear hK4
  refine qsr fun K7 hK7 => ?_
  refine qpu 1 hs fun a hs => ?_
  obtain ⟨h_8, hm⟩ := ite_t hm
  refine Vk.step (Vk.makeOp (x := (.tmp 16)) (y := (.tmp 16)) (kl := .i64) (kc := .i64) (enc := (eI .u8)) (sz := 1) (by_ := 1) (t := 69) (e := 5) (0) (some 17) hs (by kernel_rfl) (by kernel_rfl) (by kernel_rfl) (by kernel_rfl) (by kernel_rfl) (by kernel_rfl) rfl (by decide) h_8 (by decide) fun A_9 w a hs => ?_)
  refine qpk 1 [0, 2, 4, 7] hs fun a hs => hK7 _ _ ?_
  clear hK7
  refine Vk.seq fun K11 hK11 => ?_
  refine qsr fun K12 hK12 => ?_
  obtain ⟨h_13, hm⟩ := ite_t hm
  refine qlw 1 hs rfl h_13 fun a hs => ?_
  refine qpk 1 [0, 2, 7, 18, 19] hs fun a hs => hK12 _ _ ?_
  clear hK12
  refine wp_block ?_
  obtain ⟨r14, hl14, hm⟩ := bind_t hm
  have hx14 : ∀ (p_62 : List Int) (p_63 : Twire_Machine), r14 = (p_62, p_63) → ∀ (a : Act) (w : World), St 49 a w κ [(7, .slice A_9 p_62.length ((mn x2 64).toNat))] (rowp A_9 ((mn x2 64).toNat) 5 1 (eI .u8) p_62 :: Twire_Machine.own b_x0 p_63 :: S) → K11 a w := by
   intro p_62 p_63 he a w hs
   subst r14
   refine hK11 _ _ ?_
   clear hK11
   refine qse 2 [(6, .slice A_9 p_62.length ((mn x2 64).toNat))] hs fun a hs => ?_
   refine wp_ret ?_
   exact qr1 (.slice A_9 p_62.length ((mn x2 64).toNat)) hs rfl hRR (by cases hm; exact ⟨A_9, (mn x2 64).toNat, rfl, hs.own⟩)
  refine Vk.loopBy (fun k (s : Twire_Machine × List Int × Int) a w => guard_Planes.l1 x1 x2 k s.1 s.2.1 s.2.2 = some r14 ∧ St 49 a w κ [(0, pp b_x0), (2, vi (mn x2 64)), (7, .slice A_9 s.2.1.length ((mn x2 64).toNat)), (18, .agg (vals x1)), (19, vi s.2.2)] (Twire_Machine.own b_x0 s.1 :: rowp A_9 ((mn x2 64).toNat) 5 1 (eI .u8) s.2.1 :: S)) k (x0, (List.replicate (mn x2 64).toNat 0 : List Int), 0) ⟨hl14, hs.go [0, 2, 7, 18, 19] [2, 0] 3 (by kernel_rfl) (by kernel_rfl) (by kernel_rfl)⟩ (fun s a w h => by obtain ⟨h1, _⟩ := h; simp [guard_Planes.l1] at h1) (fun k KL14 ih s a w h => ?_)
  obtain ⟨q_15, q_16, q_17⟩ := s
  obtain ⟨hm, hs⟩ := h
  try dsimp only at hm hs
  rw [guard_Planes.l1] at hm
  refine qsk 1 [0, 2, 7, 18, 19, 20] hs fun a hs => ?_
  refine Vk.seq fun K19 hK19 => ?_
  refine qcs (decide (q_17 < 8)) hs (fun hb => ?_) fun hb => ?_
  ·replace hm := bif_t hm hb
   refine wp_skip ?_
   refine hK19 _ _ ?_
   clear hK19
   refine Vk.seq fun K20 hK20 => ?_
   refine wp_block ?_
   refine qsr fun K21 hK21 => ?_
   refine qpu 1 hs fun a hs => ?_
   obtain ⟨h_22, hm⟩ := ite_t hm
   obtain ⟨v_24, h_23, hm⟩ := bind_t hm
   refine qva (.agg (vals v_24)) (op := (.index 71 (.tmp 18) (.tmp 19))) hs (fun o ho => run_idxValN (k := .i64) (cs := x1) ho (by kernel_rfl) (by kernel_rfl) (len := 8) (et := 28) (by kernel_rfl) (sz := 3) (by kernel_rfl) h_22 h_23 _) fun a hs => ?_
   refine qal 28 [ci 0, ci 0, ci 0] 9 hs fun b_25 w a hs => ?_
   refine qpu 1 hs fun a hs => ?_
   refine Vk.step (Vk.storeA (b := b_25) (ty := 28) (x := (.tmp 9)) (y := (.tmp 22)) (sz := 3) v_24 0 hs (by kernel_rfl) (by kernel_rfl) (by kernel_rfl) (by kernel_rfl) (by kernel_rfl) (part?_some h_23).2.2 (by kernel_rfl) rfl (Eq.trans (b := 3) (part?_some h_23).2.2 (Eq.symm rfl)) fun a w hs => ?_)
   refine qpk 0 [0, 2, 7, 8, 9, 18, 19] hs fun a hs => hK21 _ _ ?_
   clear hK21
   refine Vk.seq fun K26 hK26 => ?_
   obtain ⟨C_27, hC_27⟩ := qC hs.own
   refine qdr 4 κ C_27 hs fun w hs hqC_27 => ?_
   have hcl := qO hC_27 hs.own
   refine qdp (fuel := 4) [0, 2] hs hcl hqC_27 fun a hs => ?_
   refine qdt 1 (.agg (vals v_24)) (op := (.load 28 (.tmp 9))) hs hcl hqC_27 (fun w hw o ho => by rw [hC_27] at hw; exact run_loadN (cs := v_24) ho (by kernel_rfl) (by kernel_rfl) (part?_some h_23).2.2 (CellsAt.all 0 rfl) _ hw) fun a hs => ?_
   obtain ⟨v_30, h_29, hm⟩ := bind_t hm
   refine qdc 3 (octet_Low.ok _ _ _ h_29 _ _ (pt b_25 (blk v_24 28) :: Twire_Machine.own b_x0 q_15 :: rowp A_9 ((mn x2 64).toNat) 5 1 (eI .u8) q_16 :: S) hs.own) hs fun w a hs => ?_
   replace hcl := qO hC_27 hs.own
   refine ⟨fun _ => hcl, ?_⟩
   obtain ⟨v_33, h_32, hm⟩ := bind_t hm
   refine qdc 4 (guard_masked.ok _ _ _ _ _ h_32 _ _ _ b_x0 hs.own.f1) hs fun w a hs => ?_
   refine ⟨fun h => absurd h (by decide), ?_⟩
   refine Vk.dOnly (i := 5) (by kernel_rfl) (Vk.dPure1 [(10, vw v_33.1)] hs (by kernel_rfl) fun a hs => ?_)
   refine ⟨fun h => absurd h (by decide), ?_⟩
   replace hs := hs.pick [0, 2, 7, 8, 10, 18, 19] (L' := [(0, pp b_x0), (2, vi (mn x2 64)), (7, .slice A_9 q_16.length ((mn x2 64).toNat)), (8, vi q_17), (10, vw v_33.1), (18, .agg (vals x1)), (19, vi q_17)]) (by kernel_rfl)
   refine Vk.dDone (by kernel_rfl) ?_
   refine hK26 _ _ ?_
   clear hK26
   refine qsk 3 [0, 2, 7, 8, 10, 18, 19, 29, 30] hs fun a hs => ?_
   refine wp_block ?_
   obtain ⟨r35, hl35, hm⟩ := bind_t hm
   have hx35 : ∀ (p_59 : List Int), r35 = p_59 → ∀ (a : Act) (w : World), St 49 a w κ [(0, pp b_x0), (2, vi (mn x2 64)), (7, .slice A_9 p_59.length ((mn x2 64).toNat)), (18, .agg (vals x1)), (19, vi q_17)] (Twire_Machine.own b_x0 v_33.2 :: rowp A_9 ((mn x2 64).toNat) 5 1 (eI .u8) p_59 :: S) → K20 a w := by
    intro p_59 he a w hs
    subst r35
    refine hK20 _ _ ?_
    clear hK20
    refine Vk.region ?_
    refine qpe 2 [(0, pp b_x0), (2, vi (mn x2 64)), (7, .slice A_9 p_59.length ((mn x2 64).toNat)), (18, .agg (vals x1)), (19, vi (IntKind.i64.wrap (q_17 + 1)))] hs fun a hs => ?_
    refine ih (v_33.2, p_59, (IntKind.i64.wrap (q_17 + 1))) _ _ ⟨hm, hs.go [0, 2, 7, 18, 19] [0, 1] 2 (by kernel_rfl) (by kernel_rfl) (by kernel_rfl)⟩
   refine Vk.loopBy (fun k (s : List Int × Int) a w => guard_Planes.l2 q_16 q_17 v_33 k s.1 s.2 = some r35 ∧ St 49 a w κ [(0, pp b_x0), (2, vi (mn x2 64)), (7, .slice A_9 s.1.length ((mn x2 64).toNat)), (8, vi q_17), (10, vw v_33.1), (18, .agg (vals x1)), (19, vi q_17), (29, vi ((q_16.length : Nat) : Int)), (30, vi s.2)] (Twire_Machine.own b_x0 v_33.2 :: rowp A_9 ((mn x2 64).toNat) 5 1 (eI .u8) s.1 :: S)) k (q_16, 0) ⟨hl35, hs.go [0, 2, 7, 8, 10, 18, 19, 29, 30] [0, 2] 3 (by kernel_rfl) (by kernel_rfl) (by kernel_rfl)⟩ (fun s a w h => by obtain ⟨h1, _⟩ := h; simp [guard_Planes.l2] at h1) (fun k KL35 ih s a w h => ?_)
   obtain ⟨q_36, q_37⟩ := s
   obtain ⟨hm, hs⟩ := h
   try dsimp only at hm hs
   rw [guard_Planes.l2] at hm
   refine qsk 1 [0, 2, 7, 8, 10, 18, 19, 29, 30, 31] hs fun a hs => ?_
   refine Vk.seq fun K39 hK39 => ?_
   refine qcs (decide (q_37 < ((q_16.length : Nat) : Int))) hs (fun hb => ?_) fun hb => ?_
   ·replace hm := bif_t hm hb
    refine wp_skip ?_
    refine hK39 _ _ ?_
    clear hK39
    refine Vk.seq fun K40 hK40 => ?_
    refine wp_block ?_
    refine qse 2 [(0, pp b_x0), (2, vi (mn x2 64)), (7, .slice A_9 q_36.length ((mn x2 64).toNat)), (8, vi q_17), (10, vw v_33.1), (11, vi q_37), (18, .agg (vals x1)), (19, vi q_17), (29, vi ((q_16.length : Nat) : Int)), (30, vi q_37)] hs fun a hs => ?_
    obtain ⟨C_42, hC_42⟩ : ∃ X0 : List HP, X0 = (Twire_Machine.own b_x0 v_33.2 :: rowp A_9 ((mn x2 64).toNat) 5 1 (eI .u8) q_36 :: S) := ⟨_, rfl⟩
    refine qdr 13 κ C_42 hs fun w hs hqC_42 => ?_
    have hcz : Ow κ w (Twire_Machine.own b_x0 v_33.2 :: rowp A_9 ((mn x2 64).toNat) 5 1 (eI .u8) q_36 :: S) := hs.own
    have hcl : Ow κ w C_42 := by rw [hC_42]; exact hcz
    refine qdp (fuel := 9) [0, 1, 4, 5, 9] hs hcl hqC_42 fun a hs => ?_
    obtain ⟨h_43, hm⟩ := ite_t hm
    obtain ⟨e_46, h_44, hm⟩ := bind_t hm
    obtain ⟨b_47, o_48, hA_49, h_45⟩ := Sl.elem (Ow.rowSl 0 hcz.drop rfl) h_44
    refine qdt 2 (.pointer (some ⟨b_47, o_48 + q_37.toNat * 1, none⟩)) (op := (.indexAddr 69 (.tmp 33) (.tmp 34))) hs hcl hqC_42 (fun w hw o ho => by rw [hC_42] at hw; exact run_idxSlc (k := .i64) ho (cap := (mn x2 64).toNat) (len := q_36.length) ((congrArg (fun A => Value.slice A (q_36.length) ((mn x2 64).toNat)) hA_49) ▸ (by kernel_rfl)) (by kernel_rfl) (by kernel_rfl) (idx_ok h_43 h_44) _) fun a hs => ?_
    refine qdt 3 (.int .u8 e_46) (op := (.load 5 (.tmp 35))) hs hcl hqC_42 (fun w hw o ho => by rw [hC_42] at hw; exact run_load1 (c := C.int .u8 e_46) ho (by kernel_rfl) (by kernel_rfl) (fun w ho => h_45 w ho 0 _ rfl) _ hw.drop) fun a hs => ?_
    obtain ⟨h_50, hm⟩ := ite_t hm
    refine qdt 6 (vw (shr .u64 v_33.1 q_37)) (op := (.binOp .shr 32 (.tmp 37) (.tmp 38) 3)) hs hcl hqC_42 (fun w hw o ho => by rw [hC_42] at hw; exact run_shr (k' := .i64) ho (by kernel_rfl) (by kernel_rfl) h_50 _) fun a hs => ?_
    refine qdp (fuel := 4) [7, 8] hs hcl hqC_42 fun a hs => ?_
    obtain ⟨h_51, hm⟩ := ite_t hm
    refine qdt 10 (.int .u8 (shl .u8 (IntKind.u8.wrap (band .u64 (shr .u64 v_33.1 q_37) 1)) q_17)) (op := (.binOp .shl 5 (.tmp 41) (.tmp 42) 3)) hs hcl hqC_42 (fun w hw o ho => by rw [hC_42] at hw; exact run_shl (k' := .i64) ho (by kernel_rfl) (by kernel_rfl) h_51 _) fun a hs => ?_
    refine qdp (fuel := 2) [11] hs hcl hqC_42 fun a hs => ?_
    obtain ⟨h_52, hm⟩ := ite_t hm
    obtain ⟨e_55, h_53, hm⟩ := bind_t hm
    obtain ⟨b_56, o_57, hA_58, h_54⟩ := Sl.elem (Ow.rowSl 0 hcz.drop rfl) h_53
    refine qdt 12 (.pointer (some ⟨b_56, o_57 + q_37.toNat * 1, none⟩)) (op := (.indexAddr 69 (.tmp 33) (.tmp 34))) hs hcl hqC_42 (fun w hw o ho => by rw [hC_42] at hw; exact run_idxSlc (k := .i64) ho (cap := (mn x2 64).toNat) (len := q_36.length) ((congrArg (fun A => Value.slice A (q_36.length) ((mn x2 64).toNat)) hA_58) ▸ (by kernel_rfl)) (by kernel_rfl) (by kernel_rfl) (idx_ok h_52 h_53) _) fun a hs => ?_
    refine Vk.dOnly (i := 13) (by kernel_rfl) (Vk.storeRow (T := 5) (ty := 5) (x := (.tmp 45)) (y := (.tmp 44)) (o := o_57) (m := q_37.toNat) (bor .u8 e_46 (shl .u8 (IntKind.u8.wrap (band .u64 (shr .u64 v_33.1 q_37) 1)) q_17)) 1 hs (by kernel_rfl) (by kernel_rfl) (by kernel_rfl) hA_58 rfl (by kernel_rfl) (by kernel_rfl) rfl (by kernel_rfl) rfl (lt_of_get h_53) fun a w hs => ?_)
    replace hs : St 49 a w κ [(0, pp b_x0), (2, vi (mn x2 64)), (7, .slice A_9 q_36.length ((mn x2 64).toNat)), (8, vi q_17), (10, vw v_33.1), (11, vi q_37), (18, .agg (vals x1)), (19, vi q_17), (29, vi ((q_16.length : Nat) : Int)), (30, vi q_37), (33, .slice A_9 q_36.length ((mn x2 64).toNat)), (34, vi q_37), (35, .pointer (some ⟨b_47, o_48 + q_37.toNat * 1, none⟩)), (36, .int .u8 e_46), (37, vw v_33.1), (38, vi q_37), (39, vw (shr .u64 v_33.1 q_37)), (40, vw (band .u64 (shr .u64 v_33.1 q_37) 1)), (41, .int .u8 (IntKind.u8.wrap (band .u64 (shr .u64 v_33.1 q_37) 1))), (42, vi q_17), (43, .int .u8 (shl .u8 (IntKind.u8.wrap (band .u64 (shr .u64 v_33.1 q_37) 1)) q_17)), (44, .int .u8 (bor .u8 e_46 (shl .u8 (IntKind.u8.wrap (band .u64 (shr .u64 v_33.1 q_37) 1)) q_17))), (45, .pointer (some ⟨b_56, o_57 + q_37.toNat * 1, none⟩))] (Twire_Machine.own b_x0 v_33.2 :: rowp A_9 ((mn x2 64).toNat) 5 1 (eI .u8) (q_36.set q_37.toNat (bor .u8 e_46 (shl .u8 (IntKind.u8.wrap (band .u64 (shr .u64 v_33.1 q_37) 1)) q_17))) :: S) := hs.pick [0, 2, 7, 8, 10, 11, 18, 19, 29, 30, 33, 34, 35, 36, 37, 38, 39, 40, 41, 42, 43, 44, 45] (by kernel_rfl)
    replace hs := hs.conv2 (L' := [(0, pp b_x0), (2, vi (mn x2 64)), (7, .slice A_9 ((q_36.set q_37.toNat (bor .u8 e_46 (shl .u8 (IntKind.u8.wrap (band .u64 (shr .u64 v_33.1 q_37) 1)) q_17))).length) ((mn x2 64).toNat)), (8, vi q_17), (10, vw v_33.1), (11, vi q_37), (18, .agg (vals x1)), (19, vi q_17), (29, vi ((q_16.length : Nat) : Int)), (30, vi q_37), (33, .slice A_9 ((q_36.set q_37.toNat (bor .u8 e_46 (shl .u8 (IntKind.u8.wrap (band .u64 (shr .u64 v_33.1 q_37) 1)) q_17))).length) ((mn x2 64).toNat)), (34, vi q_37), (35, .pointer (some ⟨b_47, o_48 + q_37.toNat * 1, none⟩)), (36, .int .u8 e_46), (37, vw v_33.1), (38, vi q_37), (39, vw (shr .u64 v_33.1 q_37)), (40, vw (band .u64 (shr .u64 v_33.1 q_37) 1)), (41, .int .u8 (IntKind.u8.wrap (band .u64 (shr .u64 v_33.1 q_37) 1))), (42, vi q_17), (43, .int .u8 (shl .u8 (IntKind.u8.wrap (band .u64 (shr .u64 v_33.1 q_37) 1)) q_17)), (44, .int .u8 (bor .u8 e_46 (shl .u8 (IntKind.u8.wrap (band .u64 (shr .u64 v_33.1 q_37) 1)) q_17))), (45, .pointer (some ⟨b_56, o_57 + q_37.toNat * 1, none⟩))]) (S' := Twire_Machine.own b_x0 v_33.2 :: rowp A_9 ((mn x2 64).toNat) 5 1 (eI .u8) (q_36.set q_37.toNat (bor .u8 e_46 (shl .u8 (IntKind.u8.wrap (band .u64 (shr .u64 v_33.1 q_37) 1)) q_17))) :: S) (by simp only [List.length_set]) (rfl)
    refine ⟨fun h => absurd h (by decide), ?_⟩
    replace hs := hs.pick [0, 2, 7, 8, 10, 18, 19, 29, 30] (L' := [(0, pp b_x0), (2, vi (mn x2 64)), (7, .slice A_9 ((q_36.set q_37.toNat (bor .u8 e_46 (shl .u8 (IntKind.u8.wrap (band .u64 (shr .u64 v_33.1 q_37) 1)) q_17))).length) ((mn x2 64).toNat)), (8, vi q_17), (10, vw v_33.1), (18, .agg (vals x1)), (19, vi q_17), (29, vi ((q_16.length : Nat) : Int)), (30, vi q_37)]) (by kernel_rfl)
    refine Vk.dDone (by kernel_rfl) ?_
    refine hK40 _ _ ?_
    clear hK40
    refine Vk.region ?_
    refine qpk 2 [0, 2, 7, 8, 10, 18, 19, 29, 30] hs fun a hs => ?_
    refine ih ((q_36.set q_37.toNat (bor .u8 e_46 (shl .u8 (IntKind.u8.wrap (band .u64 (shr .u64 v_33.1 q_37) 1)) q_17))), (IntKind.i64.wrap (q_37 + 1))) _ _ ⟨hm, hs.go [0, 2, 7, 8, 10, 18, 19, 29, 30] [0, 1] 2 (by kernel_rfl) (by kernel_rfl) (by kernel_rfl)⟩
   ·replace hm := bif_f hm hb
    refine wp_exit ?_
    exact hx35 q_36 (Option.some.inj hm).symm _ _ (hs.go [0, 2, 7, 18, 19] [0, 1] 2 (by kernel_rfl) (by kernel_rfl) (by kernel_rfl))
  ·replace hm := bif_f hm hb
   refine wp_exit ?_
   exact hx14 q_16 q_15 (Option.some.inj hm).symm _ _ (hs.go [7] [1, 0] 2 (by kernel_rfl) (by kernel_rfl) (by kernel_rfl))


def visorref24_Planes.l2 (p_5 : Int) (q_18 : Int) : Nat → (List Int) → Int → Int → Option (List Int)
 | 0, _, _, _ => none
 | k + 1, q_35, q_36, q_37 => (bif decide (q_37 < p_5) then (if 0 ≤ q_37 then (q_35[q_37.toNat]?).bind fun e_45 => (if 0 ≤ IntKind.u64.wrap q_18 then (if 0 ≤ q_37 then (q_35[q_37.toNat]?).bind fun e_53 => visorref24_Planes.l2 p_5 q_18 k (q_35.set q_37.toNat (IntKind.u8.wrap (e_45 + (shl .u8 (IntKind.u8.wrap (Int.tmod q_36 2)) (IntKind.u64.wrap q_18))))) (IntKind.u64.wrap (Int.tdiv q_36 2)) (IntKind.i64.wrap (q_37 + 1)) else none) else none) else none) else some q_35)
def visorref24_Planes.l1 (x1 : Cells) (p_5 : Int) : Nat → Tvisorref19_M → (List Int) → Int → Option (List Int × Tvisorref19_M)
 | 0, _, _, _ => none
 | k + 1, q_16, q_17, q_18 => (bif decide (q_18 < 8) then (if 0 ≤ q_18 ∧ q_18 < 8 then (part? x1 (0 + q_18.toNat * 3) 3).bind fun v_26 => (visorref01_Low.m k p_5).bind fun v_29 => (visorref24_Masked.m k q_16 v_26 v_29).bind fun v_32 => (visorref24_Planes.l2 p_5 q_18 k q_17 v_32.1 0).bind fun p_57 => visorref24_Planes.l1 x1 p_5 k v_32.2 p_57 (IntKind.i64.wrap (q_18 + 1)) else none) else some (q_17, q_16))
def visorref24_Planes.j1 (k : Nat) (x0 : Tvisorref19_M) (x1 : Cells) (p_5 : Int) : Option ((List Int × Tvisorref19_M)) := (bif decide (p_5 < 1) then some (([] : List Int), x0) else (if (0 : Int) ≤ p_5 ∧ (p_5 : Int) ≤ p_5 ∧ (1 : Int) * p_5 ≤ 281474976710656 then (visorref24_Planes.l1 x1 p_5 k x0 (List.replicate p_5.toNat 0 : List Int) 0).bind fun x => match x with | (p_61, p_62) => some (p_61, p_62) else none))
abbrev visorref24_Planes.R (κ : Ctx) (S : List HP) (x0 : Tvisorref19_M) (x1 : Cells) (x2 : Int) (b_x0 : Nat) (r : (List Int × Tvisorref19_M)) : Ending → World → Prop := fun e w' => ∃ (A_r0 : Option Addr), ∃ (c_r0 : Nat), e = .returned (.slice A_r0 r.1.length c_r0) ∧ Ow κ w' (rowp A_r0 c_r0 5 1 (eI .u8) r.1 :: Tvisorref19_M.own κ b_x0 r.2 :: S)
def visorref24_Planes.m (k : Nat) (x0 : Tvisorref19_M) (x1 : Cells) (x2 : Int) : Option (List Int × Tvisorref19_M) := (bif decide (x2 > 64) then visorref24_Planes.j1 k x0 x1 64 else visorref24_Planes.j1 k x0 x1 x2)

set_option maxRecDepth 100000 in
set_option maxHeartbeats 4000000 in
theorem visorref24_Planes.ok (k : Nat) (x0 : Tvisorref19_M) (x1 : Cells) (x2 : Int) (r : (List Int × Tvisorref19_M)) (hm : visorref24_Planes.m k x0 x1 x2 = some r) (κ : Ctx) (w : World) (S : List HP) (b_x0 : Nat) (ho : Ow κ w (Tvisorref19_M.own κ b_x0 x0 :: S)) :
  Calls Try.prog 74 #[pp b_x0, .agg (vals x1), vi x2] w (visorref24_Planes.R κ S x0 x1 x2 b_x0 r) := by
 unfold visorref24_Planes.m at hm
 generalize hRR : visorref24_Planes.R κ S x0 x1 x2 b_x0 r = RR
 refine qen [(0, pp b_x0), (1, .agg (vals x1)), (2, vi x2)] Try.func74 Try.ntmps74 ho fun a hs => ?_
 refine qsr fun K1 hK1 => ?_
 refine qbx 1 71 x1 4 hs fun b_2 w a hs => ?_
 refine qpk 1 [0, 2, 4] hs fun a hs => hK1 _ _ ?_
 clear hK1
 refine Vk.seq fun K3 hK3 => ?_
 have hj3 : ∀ (p_5 : Int), visorref24_Planes.j1 k x0 x1 p_5 = some r → ∀ (a : Act) (w : World), St 50 a w κ [(0, pp b_x0), (2, vi p_5), (4, pp b_2)] (Tvisorref19_M.own κ b_x0 x0 :: pt b_2 (blk x1 71) :: S) → K3 a w := by
  intro p_5 hm a w hs
  unfold visorref24_Planes.j1 at hm
  refine hK3 _ _ ?_
  refine Vk.seq fun K6 hK6 => ?_
  refine qsk 2 [0, 2, 4, 14] hs fun a hs => ?_
  refine qcs (decide (p_5 < 1)) hs (fun hb => ?_) fun hb => ?_
  ·replace hm := bif_t hm hb
   refine qse 1 [(6, .slice none 0 0)] hs fun a hs => ?_
   refine wp_ret ?_
   replace hs := hs.addRow none 5 1 (eI .u8)
   exact qr1 (.slice none (([] : List Int).length) 0) hs rfl hRR (by cases hm; exact ⟨none, 0, rfl, hs.own.f2.drop⟩)
  ·replace hm := bif_f hm hb
   refine wp_skip ?_
   refine hK6 _ _ ?_
   clear hK6
   refine qsr fun K9 hK9 => ?_
   refine qpu 1 hs fun a hs => ?_
   obtain ⟨h_10, hm⟩ := ite_t hm
   refine Vk.step (Vk.makeOp (x := (.tmp 15)) (y := (.tmp 15)) (kl := .i64) (kc := .i64) (enc := (eI .u8)) (sz := 1) (by_ := 1) (t := 69) (e := 5) (0) (some 16) hs (by kernel_rfl) (by kernel_rfl) (by kernel_rfl) (by kernel_rfl) (by kernel_rfl) (by kernel_rfl) rfl (by decide) h_10 (by decide) fun A_11 w a hs => ?_)
   refine qpk 1 [0, 2, 4, 7] hs fun a hs => hK9 _ _ ?_
   clear hK9
   refine Vk.seq fun K13 hK13 => ?_
   refine qsk 1 [0, 2, 4, 7, 8] hs fun a hs => ?_
   refine wp_block ?_
   obtain ⟨r15, hl15, hm⟩ := bind_t hm
   have hx15 : ∀ (p_61 : List Int) (p_62 : Tvisorref19_M), r15 = (p_61, p_62) → ∀ (a : Act) (w : World), St 50 a w κ [(7, .slice A_11 p_61.length p_5.toNat)] (rowp A_11 p_5.toNat 5 1 (eI .u8) p_61 :: Tvisorref19_M.own κ b_x0 p_62 :: S) → K13 a w := by
    intro p_61 p_62 he a w hs
    subst r15
    refine hK13 _ _ ?_
    clear hK13
    refine qse 2 [(6, .slice A_11 p_61.length p_5.toNat)] hs fun a hs => ?_
    refine wp_ret ?_
    exact qr1 (.slice A_11 p_61.length p_5.toNat) hs rfl hRR (by cases hm; exact ⟨A_11, p_5.toNat, rfl, hs.own⟩)
   refine Vk.loopBy (fun k (s : Tvisorref19_M × List Int × Int) a w => visorref24_Planes.l1 x1 p_5 k s.1 s.2.1 s.2.2 = some r15 ∧ St 50 a w κ [(0, pp b_x0), (2, vi p_5), (4, pp b_2), (7, .slice A_11 s.2.1.length p_5.toNat), (8, vi s.2.2)] (Tvisorref19_M.own κ b_x0 s.1 :: pt b_2 (blk x1 71) :: rowp A_11 p_5.toNat 5 1 (eI .u8) s.2.1 :: S)) k (x0, (List.replicate p_5.toNat 0 : List Int), 0) ⟨hl15, hs.go [0, 2, 4, 7, 8] [1, 2, 0] 3 (by kernel_rfl) (by kernel_rfl) (by kernel_rfl)⟩ (fun s a w h => by obtain ⟨h1, _⟩ := h; simp [visorref24_Planes.l1] at h1) (fun k KL15 ih s a w h => ?_)
   obtain ⟨q_16, q_17, q_18⟩ := s
   obtain ⟨hm, hs⟩ := h
   try dsimp only at hm hs
   rw [visorref24_Planes.l1] at hm
   refine Vk.seq fun K19 hK19 => ?_
   refine qsk 2 [0, 2, 4, 7, 8, 18] hs fun a hs => ?_
   refine qcs (decide (q_18 < 8)) hs (fun hb => ?_) fun hb => ?_
   ·replace hm := bif_t hm hb
    refine wp_skip ?_
    refine hK19 _ _ ?_
    clear hK19
    refine Vk.seq fun K21 hK21 => ?_
    refine wp_block ?_
    refine Vk.seq fun K22 hK22 => ?_
    obtain ⟨C_23, hC_23⟩ := qC hs.own
    refine qdr 6 κ C_23 hs fun w hs hqC_23 => ?_
    have hcl := qO hC_23 hs.own
    refine qdp (fuel := 5) [0, 1, 4] hs hcl hqC_23 fun a hs => ?_
    obtain ⟨h_24, hm⟩ := ite_t hm
    refine qdx 2 b_2 0 3 hs hcl hqC_23 h_24 fun a hs => ?_
    obtain ⟨v_26, h_25, hm⟩ := bind_t hm
    refine qdt 3 (.agg (vals v_26)) (op := (.load 28 (.tmp 23))) hs hcl hqC_23 (fun w hw o ho => by rw [hC_23] at hw; exact run_loadN (cs := v_26) ho (by kernel_rfl) (by kernel_rfl) (part?_some h_25).2.2 (CellsAt.own (off := 0 + q_18.toNat * 3) 1 rfl h_25) _ hw) fun a hs => ?_
    obtain ⟨v_29, h_28, hm⟩ := bind_t hm
    refine qdc 5 (visorref01_Low.ok _ _ _ h_28 _ _ (Tvisorref19_M.own κ b_x0 q_16 :: pt b_2 (blk x1 71) :: rowp A_11 p_5.toNat 5 1 (eI .u8) q_17 :: S) hs.own) hs fun w a hs => ?_
    replace hcl := qO hC_23 hs.own
    refine ⟨fun _ => hcl, ?_⟩
    obtain ⟨v_32, h_31, hm⟩ := bind_t hm
    refine qdc 6 (visorref24_Masked.ok _ _ _ _ _ h_31 _ _ _ b_x0 hs.own) hs fun w a hs => ?_
    refine ⟨fun h => absurd h (by decide), ?_⟩
    refine Vk.dOnly (i := 7) (by kernel_rfl) (Vk.dPure1 [(9, vw v_32.1)] hs (by kernel_rfl) fun a hs => ?_)
    refine ⟨fun h => absurd h (by decide), ?_⟩
    replace hs := hs.pick [0, 2, 4, 7, 8, 9] (L' := [(0, pp b_x0), (2, vi p_5), (4, pp b_2), (7, .slice A_11 q_17.length p_5.toNat), (8, vi q_18), (9, vw v_32.1)]) (by kernel_rfl)
    refine Vk.dDone (by kernel_rfl) ?_
    refine hK22 _ _ ?_
    clear hK22
    refine qsk 1 [0, 2, 4, 7, 8, 9, 10] hs fun a hs => ?_
    refine wp_block ?_
    obtain ⟨r34, hl34, hm⟩ := bind_t hm
    have hx34 : ∀ (p_57 : List Int), r34 = p_57 → ∀ (a : Act) (w : World), St 50 a w κ [(0, pp b_x0), (2, vi p_5), (4, pp b_2), (7, .slice A_11 p_57.length p_5.toNat), (8, vi q_18)] (Tvisorref19_M.own κ b_x0 v_32.2 :: pt b_2 (blk x1 71) :: rowp A_11 p_5.toNat 5 1 (eI .u8) p_57 :: S) → K21 a w := by
     intro p_57 he a w hs
     subst r34
     refine hK21 _ _ ?_
     clear hK21
     refine Vk.region ?_
     refine qpe 3 [(0, pp b_x0), (2, vi p_5), (4, pp b_2), (7, .slice A_11 p_57.length p_5.toNat), (8, vi (IntKind.i64.wrap (q_18 + 1)))] hs fun a hs => ?_
     refine ih (v_32.2, p_57, (IntKind.i64.wrap (q_18 + 1))) _ _ ⟨hm, hs.go [0, 2, 4, 7, 8] [0, 1, 2] 3 (by kernel_rfl) (by kernel_rfl) (by kernel_rfl)⟩
    refine Vk.loopBy (fun k (s : List Int × Int × Int) a w => visorref24_Planes.l2 p_5 q_18 k s.1 s.2.1 s.2.2 = some r34 ∧ St 50 a w κ [(0, pp b_x0), (2, vi p_5), (4, pp b_2), (7, .slice A_11 s.1.length p_5.toNat), (8, vi q_18), (9, vw s.2.1), (10, vi s.2.2)] (Tvisorref19_M.own κ b_x0 v_32.2 :: pt b_2 (blk x1 71) :: rowp A_11 p_5.toNat 5 1 (eI .u8) s.1 :: S)) k (q_17, v_32.1, 0) ⟨hl34, hs.go [0, 2, 4, 7, 8, 9, 10] [0, 1, 2] 3 (by kernel_rfl) (by kernel_rfl) (by kernel_rfl)⟩ (fun s a w h => by obtain ⟨h1, _⟩ := h; simp [visorref24_Planes.l2] at h1) (fun k KL34 ih s a w h => ?_)
    obtain ⟨q_35, q_36, q_37⟩ := s
    obtain ⟨hm, hs⟩ := h
    try dsimp only at hm hs
    rw [visorref24_Planes.l2] at hm
    refine Vk.seq fun K38 hK38 => ?_
    refine qse 3 [(0, pp b_x0), (2, vi p_5), (4, pp b_2), (7, .slice A_11 q_35.length p_5.toNat), (8, vi q_18), (9, vw q_36), (10, vi q_37), (30, .bool (decide (q_37 < p_5)))] hs fun a hs => ?_
    refine qcs (decide (q_37 < p_5)) hs (fun hb => ?_) fun hb => ?_
    ·replace hm := bif_t hm hb
     refine wp_skip ?_
     refine hK38 _ _ ?_
     clear hK38
     refine Vk.seq fun K40 hK40 => ?_
     refine wp_block ?_
     refine qsr fun K41 hK41 => ?_
     refine qpu 4 hs fun a hs => ?_
     obtain ⟨h_42, hm⟩ := ite_t hm
     obtain ⟨e_45, h_43, hm⟩ := bind_t hm
     obtain ⟨b_46, o_47, hA_48, h_44⟩ := Sl.elem (Ow.rowSl 0 hs.own.drop.drop rfl) h_43
     refine qva (.pointer (some ⟨b_46, o_47 + q_37.toNat * 1, none⟩)) (op := (.indexAddr 69 (.tmp 35) (.tmp 36))) hs (fun o ho => run_idxSlc (k := .i64) ho (cap := p_5.toNat) (len := q_35.length) ((congrArg (fun A => Value.slice A (q_35.length) (p_5.toNat)) hA_48) ▸ (by kernel_rfl)) (by kernel_rfl) (by kernel_rfl) (idx_ok h_42 h_43) _) fun a hs => ?_
     refine qva (.int .u8 e_45) (op := (.load 5 (.tmp 37))) hs (fun o ho => run_load1 (c := C.int .u8 e_45) ho (by kernel_rfl) (by kernel_rfl) (fun w ho => h_44 w ho 0 _ rfl) _ hs.own.drop.drop) fun a hs => ?_
     refine qpu 5 hs fun a hs => ?_
     obtain ⟨h_49, hm⟩ := ite_t hm
     refine qva (.int .u8 (shl .u8 (IntKind.u8.wrap (Int.tmod q_36 2)) (IntKind.u64.wrap q_18))) (op := (.binOp .shl 5 (.tmp 41) (.tmp 43) 24)) hs (fun o ho => run_shl (k' := .u64) ho (by kernel_rfl) (by kernel_rfl) h_49 _) fun a hs => ?_
     refine qpu 1 hs fun a hs => ?_
     obtain ⟨h_50, hm⟩ := ite_t hm
     obtain ⟨e_53, h_51, hm⟩ := bind_t hm
     obtain ⟨b_54, o_55, hA_56, h_52⟩ := Sl.elem (Ow.rowSl 0 hs.own.drop.drop rfl) h_51
     refine qva (.pointer (some ⟨b_54, o_55 + q_37.toNat * 1, none⟩)) (op := (.indexAddr 69 (.tmp 33) (.tmp 34))) hs (fun o ho => run_idxSlc (k := .i64) ho (cap := p_5.toNat) (len := q_35.length) ((congrArg (fun A => Value.slice A (q_35.length) (p_5.toNat)) hA_56) ▸ (by kernel_rfl)) (by kernel_rfl) (by kernel_rfl) (idx_ok h_50 h_51) _) fun a hs => ?_
     refine Vk.step (Vk.storeRow (T := 5) (ty := 5) (x := (.tmp 46)) (y := (.tmp 45)) (o := o_55) (m := q_37.toNat) (IntKind.u8.wrap (e_45 + (shl .u8 (IntKind.u8.wrap (Int.tmod q_36 2)) (IntKind.u64.wrap q_18)))) 2 hs (by kernel_rfl) (by kernel_rfl) (by kernel_rfl) hA_56 rfl (by kernel_rfl) (by kernel_rfl) rfl (by kernel_rfl) rfl (lt_of_get h_51) fun a w hs => ?_)
     replace hs : St 50 a w κ [(0, pp b_x0), (2, vi p_5), (4, pp b_2), (7, .slice A_11 q_35.length p_5.toNat), (8, vi q_18), (9, vw q_36), (10, vi q_37), (30, .bool (decide (q_37 < p_5))), (33, .slice A_11 q_35.length p_5.toNat), (34, vi q_37), (35, .slice A_11 q_35.length p_5.toNat), (36, vi q_37), (37, .pointer (some ⟨b_46, o_47 + q_37.toNat * 1, none⟩)), (38, .int .u8 e_45), (39, vw q_36), (40, vw (Int.tmod q_36 2)), (41, .int .u8 (IntKind.u8.wrap (Int.tmod q_36 2))), (42, vi q_18), (43, vw (IntKind.u64.wrap q_18)), (44, .int .u8 (shl .u8 (IntKind.u8.wrap (Int.tmod q_36 2)) (IntKind.u64.wrap q_18))), (45, .int .u8 (IntKind.u8.wrap (e_45 + (shl .u8 (IntKind.u8.wrap (Int.tmod q_36 2)) (IntKind.u64.wrap q_18))))), (46, .pointer (some ⟨b_54, o_55 + q_37.toNat * 1, none⟩))] (Tvisorref19_M.own κ b_x0 v_32.2 :: pt b_2 (blk x1 71) :: rowp A_11 p_5.toNat 5 1 (eI .u8) (q_35.set q_37.toNat (IntKind.u8.wrap (e_45 + (shl .u8 (IntKind.u8.wrap (Int.tmod q_36 2)) (IntKind.u64.wrap q_18))))) :: S) := hs.pick [0, 2, 4, 7, 8, 9, 10, 30, 33, 34, 35, 36, 37, 38, 39, 40, 41, 42, 43, 44, 45, 46] (by kernel_rfl)
     replace hs := hs.conv2 (L' := [(0, pp b_x0), (2, vi p_5), (4, pp b_2), (7, .slice A_11 ((q_35.set q_37.toNat (IntKind.u8.wrap (e_45 + (shl .u8 (IntKind.u8.wrap (Int.tmod q_36 2)) (IntKind.u64.wrap q_18))))).length) p_5.toNat), (8, vi q_18), (9, vw q_36), (10, vi q_37), (30, .bool (decide (q_37 < p_5))), (33, .slice A_11 ((q_35.set q_37.toNat (IntKind.u8.wrap (e_45 + (shl .u8 (IntKind.u8.wrap (Int.tmod q_36 2)) (IntKind.u64.wrap q_18))))).length) p_5.toNat), (34, vi q_37), (35, .slice A_11 ((q_35.set q_37.toNat (IntKind.u8.wrap (e_45 + (shl .u8 (IntKind.u8.wrap (Int.tmod q_36 2)) (IntKind.u64.wrap q_18))))).length) p_5.toNat), (36, vi q_37), (37, .pointer (some ⟨b_46, o_47 + q_37.toNat * 1, none⟩)), (38, .int .u8 e_45), (39, vw q_36), (40, vw (Int.tmod q_36 2)), (41, .int .u8 (IntKind.u8.wrap (Int.tmod q_36 2))), (42, vi q_18), (43, vw (IntKind.u64.wrap q_18)), (44, .int .u8 (shl .u8 (IntKind.u8.wrap (Int.tmod q_36 2)) (IntKind.u64.wrap q_18))), (45, .int .u8 (IntKind.u8.wrap (e_45 + (shl .u8 (IntKind.u8.wrap (Int.tmod q_36 2)) (IntKind.u64.wrap q_18))))), (46, .pointer (some ⟨b_54, o_55 + q_37.toNat * 1, none⟩))]) (S' := Tvisorref19_M.own κ b_x0 v_32.2 :: pt b_2 (blk x1 71) :: rowp A_11 p_5.toNat 5 1 (eI .u8) (q_35.set q_37.toNat (IntKind.u8.wrap (e_45 + (shl .u8 (IntKind.u8.wrap (Int.tmod q_36 2)) (IntKind.u64.wrap q_18))))) :: S) (by simp only [List.length_set]) (rfl)
     refine qpk 0 [0, 2, 4, 7, 8, 9, 10] hs fun a hs => hK41 _ _ ?_
     clear hK41
     refine Vk.region ?_
     refine qpk 3 [0, 2, 4, 7, 8, 9, 10] hs fun a hs => hK40 _ _ ?_
     clear hK40
     refine Vk.region ?_
     refine qpk 3 [0, 2, 4, 7, 8, 9, 10] hs fun a hs => ?_
     refine ih ((q_35.set q_37.toNat (IntKind.u8.wrap (e_45 + (shl .u8 (IntKind.u8.wrap (Int.tmod q_36 2)) (IntKind.u64.wrap q_18))))), (IntKind.u64.wrap (Int.tdiv q_36 2)), (IntKind.i64.wrap (q_37 + 1))) _ _ ⟨hm, hs.go [0, 2, 4, 7, 8, 9, 10] [0, 1, 2] 3 (by kernel_rfl) (by kernel_rfl) (by kernel_rfl)⟩
    ·replace hm := bif_f hm hb
     refine wp_exit ?_
     exact hx34 q_35 (Option.some.inj hm).symm _ _ (hs.go [0, 2, 4, 7, 8] [0, 1, 2] 3 (by kernel_rfl) (by kernel_rfl) (by kernel_rfl))
   ·replace hm := bif_f hm hb
    refine wp_exit ?_
    exact hx15 q_17 q_16 (Option.some.inj hm).symm _ _ (hs.go [7] [2, 0] 3 (by kernel_rfl) (by kernel_rfl) (by kernel_rfl))
 refine qsk 2 [0, 2, 4, 12] hs fun a hs => ?_
 refine qcs (decide (x2 > 64)) hs (fun hb => ?_) fun hb => ?_
 ·replace hm := bif_t hm hb
  refine Vk.region ?_
  refine qpe 1 [(0, pp b_x0), (2, vi 64), (4, pp b_2)] hs fun a hs => ?_
  exact hj3 64 hm _ _ (hs.go [0, 2, 4] [1, 0] 2 (by kernel_rfl) (by kernel_rfl) (by kernel_rfl))
 ·replace hm := bif_f hm hb
  refine wp_skip ?_
  exact hj3 x2 hm _ _ (hs.go [0, 2, 4] [1, 0] 2 (by kernel_rfl) (by kernel_rfl) (by kernel_rfl))


abbrev wire_Machine_Values.R (κ : Ctx) (S : List HP) (x0 : Twire_Machine) (b_x0 : Nat) (g_x0 : Nat × Option Addr × Nat × Option Addr × Nat × Option Addr × Nat) (r : List Int) : Ending → World → Prop := fun e w' => ∃ (A_r0 : Option Addr), ∃ (c_r0 : Nat), e = .returned (.slice A_r0 r.length c_r0) ∧ Ow κ w' (rowp A_r0 c_r0 32 1 (eI .u64) r :: bagL (Twire_Machine.parts b_x0 x0 g_x0) :: S)
def wire_Machine_Values.m (k : Nat) (x0 : Twire_Machine) : Option (List Int) := (slices_Clone_uint64_uint64.m k x0.values).bind fun v_10 => some v_10

set_option maxRecDepth 100000 in
set_option maxHeartbeats 4000000 in
theorem wire_Machine_Values.ok (k : Nat) (x0 : Twire_Machine) (r : List Int) (hm : wire_Machine_Values.m k x0 = some r) (κ : Ctx) (w : World) (S : List HP) (b_x0 : Nat) (g_x0 : Nat × Option Addr × Nat × Option Addr × Nat × Option Addr × Nat) (ho : Ow κ w (bagL (Twire_Machine.parts b_x0 x0 g_x0) :: S)) :
  Calls Try.prog 22 #[pp b_x0] w (wire_Machine_Values.R κ S x0 b_x0 g_x0 r) := by
 unfold wire_Machine_Values.m at hm
 generalize hRR : wire_Machine_Values.R κ S x0 b_x0 g_x0 r = RR
 refine qen [(0, pp b_x0)] Try.func22 Try.ntmps22 ho fun a hs => ?_
 refine qse 1 [(0, pp b_x0)] hs fun a hs => ?_
 refine Vk.seq fun K2 hK2 => ?_
 refine qsk 2 [0, 4] hs fun a hs => ?_
 refine qcf hs ?_
 refine wp_skip ?_
 refine hK2 _ _ ?_
 clear hK2
 refine qsr fun K4 hK4 => ?_
 refine qpu 3 hs fun a hs => ?_
 replace hs := hs.unbagAt 0 rfl
 refine qld 0 (C.slc g_x0.2.2.2.1 x0.values.length g_x0.2.2.2.2.1) hs rfl fun a hs => ?_
 obtain ⟨v_10, h_9, hm⟩ := bind_t hm
 refine Vk.step (Vk.call (some 9) 96 #[.slice g_x0.2.2.2.1 x0.values.length g_x0.2.2.2.2.1] hs (by kernel_rfl) (by kernel_rfl) (by kernel_rfl) ?_)
 refine (slices_Clone_uint64_uint64.ok k x0.values v_10 h_9 κ w (pt b_x0 (blk (Twire_Machine.obj x0 g_x0.1 g_x0.2.1 g_x0.2.2.1 g_x0.2.2.2.1 g_x0.2.2.2.2.1 g_x0.2.2.2.2.2.1 g_x0.2.2.2.2.2.2) 139) :: opto x0.dry (Ttape_Tape.own g_x0.1 x0.tape) :: rowp g_x0.2.1 g_x0.2.2.1 93 6 Tapi_Op.cells x0.ops :: rowp g_x0.2.2.2.1 g_x0.2.2.2.2.1 32 1 (eI .u64) x0.values :: rowp g_x0.2.2.2.2.2.1 g_x0.2.2.2.2.2.2 175 3 Tapi_Span.cells x0.blocks :: S) g_x0.2.2.2.1 g_x0.2.2.2.2.1 (Sl.lift (fun w ho => (Ow.to (S' := rowp g_x0.2.2.2.1 g_x0.2.2.2.2.1 32 1 (eI .u64) x0.values :: S) ho [3] 5 (by kernel_rfl) (by kernel_rfl))) (Ow.rowSl 0 (Ow.to (S' := rowp g_x0.2.2.2.1 g_x0.2.2.2.2.1 32 1 (eI .u64) x0.values :: S) hs.own [3] 5 (by kernel_rfl) (by kernel_rfl)) rfl)) hs.own).mono ?_
 rintro _ w ⟨Ar8x0_11, cr8x0_12, rfl, how⟩
 refine ⟨_, _, _, rfl, how, fun a hs => ?_⟩
 refine qpk 1 [2] hs fun a hs => hK4 _ _ ?_
 clear hK4
 refine wp_ret ?_
 replace hs := hs.bagG (l := Twire_Machine.parts b_x0 x0 g_x0) (S' := rowp Ar8x0_11 cr8x0_12 32 1 (eI .u64) v_10 :: S) hs.own.f5.f5.f5.f5.f5
 exact qr1 (.slice Ar8x0_11 v_10.length cr8x0_12) hs rfl hRR (by cases hm; exact ⟨Ar8x0_11, cr8x0_12, rfl, hs.own.f1⟩)


abbrev wire_Machine_Err.R (κ : Ctx) (S : List HP) (x0 : Twire_Machine) (b_x0 : Nat) (g_x0 : Nat × Option Addr × Nat × Option Addr × Nat × Option Addr × Nat) (r : Int) : Ending → World → Prop := fun e w' => e = .returned (vi r) ∧ Ow κ w' (bagL (Twire_Machine.parts b_x0 x0 g_x0) :: S)
def wire_Machine_Err.m (k : Nat) (x0 : Twire_Machine) : Option Int := some x0.bad

set_option maxRecDepth 100000 in
set_option maxHeartbeats 4000000 in
theorem wire_Machine_Err.ok (k : Nat) (x0 : Twire_Machine) (r : Int) (hm : wire_Machine_Err.m k x0 = some r) (κ : Ctx) (w : World) (S : List HP) (b_x0 : Nat) (g_x0 : Nat × Option Addr × Nat × Option Addr × Nat × Option Addr × Nat) (ho : Ow κ w (bagL (Twire_Machine.parts b_x0 x0 g_x0) :: S)) :
  Calls Try.prog 23 #[pp b_x0] w (wire_Machine_Err.R κ S x0 b_x0 g_x0 r) := by
 unfold wire_Machine_Err.m at hm
 generalize hRR : wire_Machine_Err.R κ S x0 b_x0 g_x0 r = RR
 refine qen [(0, pp b_x0)] Try.func23 Try.ntmps23 ho fun a hs => ?_
 refine qse 1 [(0, pp b_x0)] hs fun a hs => ?_
 refine Vk.seq fun K2 hK2 => ?_
 refine qsk 2 [0, 4] hs fun a hs => ?_
 refine qcf hs ?_
 refine wp_skip ?_
 refine hK2 _ _ ?_
 clear hK2
 refine qsr fun K4 hK4 => ?_
 refine qpu 3 hs fun a hs => ?_
 replace hs := hs.unbagAt 0 rfl
 refine qld 0 (ci x0.bad) hs rfl fun a hs => ?_
 refine qpe 1 [(2, vi x0.bad)] hs fun a hs => hK4 _ _ ?_
 clear hK4
 refine wp_ret ?_
 replace hs := hs.bagG (l := Twire_Machine.parts b_x0 x0 g_x0) (S' := S) hs.own
 exact qr1 (vi x0.bad) hs rfl hRR (by cases hm; exact ⟨rfl, hs.own⟩)


abbrev slices_Clone_api_Op_api_Op.R (κ : Ctx) (S : List HP) (x0 : List Tapi_Op) (A_x0 : Option Addr) (c_x0 : Nat) (r : List Tapi_Op) : Ending → World → Prop := fun e w' => ∃ (A_r0 : Option Addr), ∃ (c_r0 : Nat), e = .returned (.slice A_r0 r.length c_r0) ∧ Ow κ w' (rowp A_r0 c_r0 93 6 Tapi_Op.cells r :: S)
def slices_Clone_api_Op_api_Op.m (k : Nat) (x0 : List Tapi_Op) : Option (List Tapi_Op) := (if (([] : List Tapi_Op).length + x0.length) * 48 ≤ 140737488355328 then some (([] : List Tapi_Op) ++ x0) else none)

set_option maxRecDepth 100000 in
set_option maxHeartbeats 4000000 in
theorem slices_Clone_api_Op_api_Op.ok (k : Nat) (x0 : List Tapi_Op) (r : List Tapi_Op) (hm : slices_Clone_api_Op_api_Op.m k x0 = some r) (κ : Ctx) (w : World) (S : List HP) (A_x0 : Option Addr) (c_x0 : Nat) (hx_x0 : Sl κ S A_x0 c_x0 6 Tapi_Op.cells x0) (ho : Ow κ w (S)) :
  Calls Try.prog 138 #[.slice A_x0 x0.length c_x0] w (slices_Clone_api_Op_api_Op.R κ S x0 A_x0 c_x0 r) := by
 unfold slices_Clone_api_Op_api_Op.m at hm
 rcases A_x0 with _ | p_x0
 ·obtain rfl : c_x0 = 0 := hx_x0.none rfl
  obtain rfl : x0 = [] := List.length_eq_zero_iff.1 (Nat.le_zero.1 hx_x0.le)
  replace hm : some ([] : List Tapi_Op) = some r := by simpa using hm
  refine Vk.enter [(0, .slice none 0 0)] Try.func138 rfl Try.ntmps138 (by kernel_rfl) (Nat.le_of_ble_eq_true (by kernel_rfl)) ho fun a hs => ?_
  refine Vk.seq fun K1 hK1 => ?_
  refine Vk.region ?_
  refine Vk.pures 1 [(2, .slice none 0 0)] hs (by kernel_rfl) fun a hs => ?_
  replace hs := hs.pick [0] (L' := [(0, .slice none 0 0)]) (by kernel_rfl)
  refine Vk.done (by kernel_rfl) ?_
  refine hK1 _ _ ?_
  clear hK1
  refine Vk.seq fun K2 hK2 => ?_
  refine Vk.seq fun K3 hK3 => ?_
  refine Vk.region ?_
  refine Vk.pures 2 [(4, .bool true), (3, .slice none 0 0)] hs (by kernel_rfl) fun a hs => ?_
  replace hs := hs.pick [0, 4] (L' := [(0, .slice none 0 0), (4, .bool true)]) (by kernel_rfl)
  refine Vk.done (by kernel_rfl) ?_
  refine hK3 _ _ ?_
  clear hK3
  refine Vk.condT hs (by kernel_rfl) (by kernel_rfl) ?_
  refine Vk.seq fun K4 hK4 => ?_
  refine Vk.region ?_
  refine Vk.pures 1 [(2, .slice none 0 0)] hs (by kernel_rfl) fun a hs => ?_
  replace hs := hs.pick [2] (L' := [(2, .slice none 0 0)]) (by kernel_rfl)
  refine Vk.done (by kernel_rfl) ?_
  refine hK4 _ _ ?_
  clear hK4
  refine wp_ret ?_
  replace hs := hs.addRow none 93 6 Tapi_Op.cells
  exact Vk.ret1 (P := Try.prog) (fn := Try.f138) (R := slices_Clone_api_Op_api_Op.R κ S [] none 0 r) (.slice none (([] : List Tapi_Op).length) 0) hs rfl (by kernel_rfl) (by obtain rfl := Option.some.inj hm; exact ⟨none, 0, rfl, hs.own⟩)
 ·skip
  refine Vk.enter [(0, .slice (some p_x0) x0.length c_x0)] Try.func138 rfl Try.ntmps138 (by kernel_rfl) (Nat.le_of_ble_eq_true (by kernel_rfl)) ho fun a hs => ?_
  refine Vk.seq fun K1 hK1 => ?_
  refine Vk.region ?_
  refine Vk.pures 1 [(2, .slice none 0 0)] hs (by kernel_rfl) fun a hs => ?_
  replace hs := hs.pick [0] (L' := [(0, .slice (some p_x0) x0.length c_x0)]) (by kernel_rfl)
  refine Vk.done (by kernel_rfl) ?_
  refine hK1 _ _ ?_
  clear hK1
  refine Vk.seq fun K2 hK2 => ?_
  refine Vk.seq fun K3 hK3 => ?_
  refine Vk.region ?_
  refine Vk.pures 2 [(4, .bool false), (3, .slice (some p_x0) x0.length c_x0)] hs (by kernel_rfl) fun a hs => ?_
  replace hs := hs.pick [0, 4] (L' := [(0, .slice (some p_x0) x0.length c_x0), (4, .bool false)]) (by kernel_rfl)
  refine Vk.done (by kernel_rfl) ?_
  refine hK3 _ _ ?_
  clear hK3
  refine Vk.condF hs (by kernel_rfl) (by kernel_rfl) ?_
  refine wp_skip ?_
  refine hK2 _ _ ?_
  clear hK2
  refine Vk.seq fun K4 hK4 => ?_
  refine Vk.region ?_
  refine Vk.step (Vk.buildOp (sz := 6) (by_ := 48) (t := 59) (e := 93) (parts := #[]) (zs := vals [C.int .i64 0, C.int .i64 0, C.int .i64 0, C.int .i64 0, C.int .i64 0, C.int .u64 0]) ([] : List Tapi_Op) Tapi_Op.cells (some 5) hs (by kernel_rfl) (by kernel_rfl) (by kernel_rfl) (by kernel_rfl) (by decide) rfl (fun x _ => rfl) (Nat.le_of_ble_eq_true (by kernel_rfl)) (by kernel_rfl) fun A_5 w a hs => ?_)
  refine Vk.pures 1 [(6, .slice (some p_x0) x0.length c_x0)] hs (by kernel_rfl) fun a hs => ?_
  obtain ⟨h_7, hm⟩ := ite_t hm
  refine Vk.step (Vk.appendOp (x := (.tmp 5)) (y := (.tmp 6)) (e := 93) (t := 59) (by_ := 48) (sz := 6) (enc := Tapi_Op.cells) (A := A_5) (cap := 0) (xs := ([] : List Tapi_Op)) (ys := x0) (B := (some p_x0)) (c2 := c_x0) 0 (some 7) hs (by kernel_rfl) (by kernel_rfl) (by kernel_rfl) (by kernel_rfl) rfl hx_x0.less (by kernel_rfl) (by kernel_rfl) (by decide) (by decide) h_7 fun A_8 c_9 w a hs => ?_)
  refine Vk.pures 1 [(2, .slice A_8 ((([] : List Tapi_Op) ++ x0).length) c_9)] hs (by kernel_rfl) fun a hs => ?_
  replace hs := hs.pick [2] (L' := [(2, .slice A_8 ((([] : List Tapi_Op) ++ x0).length) c_9)]) (by kernel_rfl)
  refine Vk.done (by kernel_rfl) ?_
  refine hK4 _ _ ?_
  clear hK4
  refine wp_ret ?_
  exact Vk.ret1 (P := Try.prog) (fn := Try.f138) (R := slices_Clone_api_Op_api_Op.R κ S x0 (some p_x0) c_x0 r) (.slice A_8 ((([] : List Tapi_Op) ++ x0).length) c_9) hs rfl (by kernel_rfl) (by obtain rfl := Option.some.inj hm; exact ⟨A_8, c_9, rfl, hs.own⟩)


abbrev slices_Clone_api_Span_api_Span.R (κ : Ctx) (S : List HP) (x0 : List Tapi_Span) (A_x0 : Option Addr) (c_x0 : Nat) (r : List Tapi_Span) : Ending → World → Prop := fun e w' => ∃ (A_r0 : Option Addr), ∃ (c_r0 : Nat), e = .returned (.slice A_r0 r.length c_r0) ∧ Ow κ w' (rowp A_r0 c_r0 175 3 Tapi_Span.cells r :: S)
def slices_Clone_api_Span_api_Span.m (k : Nat) (x0 : List Tapi_Span) : Option (List Tapi_Span) := (if (([] : List Tapi_Span).length + x0.length) * 24 ≤ 140737488355328 then some (([] : List Tapi_Span) ++ x0) else none)

set_option maxRecDepth 100000 in
set_option maxHeartbeats 4000000 in
theorem slices_Clone_api_Span_api_Span.ok (k : Nat) (x0 : List Tapi_Span) (r : List Tapi_Span) (hm : slices_Clone_api_Span_api_Span.m k x0 = some r) (κ : Ctx) (w : World) (S : List HP) (A_x0 : Option Addr) (c_x0 : Nat) (hx_x0 : Sl κ S A_x0 c_x0 3 Tapi_Span.cells x0) (ho : Ow κ w (S)) :
  Calls Try.prog 139 #[.slice A_x0 x0.length c_x0] w (slices_Clone_api_Span_api_Span.R κ S x0 A_x0 c_x0 r) := by
 unfold slices_Clone_api_Span_api_Span.m at hm
 rcases A_x0 with _ | p_x0
 ·obtain rfl : c_x0 = 0 := hx_x0.none rfl
  obtain rfl : x0 = [] := List.length_eq_zero_iff.1 (Nat.le_zero.1 hx_x0.le)
  replace hm : some ([] : List Tapi_Span) = some r := by simpa using hm
  refine Vk.enter [(0, .slice none 0 0)] Try.func139 rfl Try.ntmps139 (by kernel_rfl) (Nat.le_of_ble_eq_true (by kernel_rfl)) ho fun a hs => ?_
  refine Vk.seq fun K1 hK1 => ?_
  refine Vk.region ?_
  refine Vk.pures 1 [(2, .slice none 0 0)] hs (by kernel_rfl) fun a hs => ?_
  replace hs := hs.pick [0] (L' := [(0, .slice none 0 0)]) (by kernel_rfl)
  refine Vk.done (by kernel_rfl) ?_
  refine hK1 _ _ ?_
  clear hK1
  refine Vk.seq fun K2 hK2 => ?_
  refine Vk.seq fun K3 hK3 => ?_
  refine Vk.region ?_
  refine Vk.pures 2 [(4, .bool true), (3, .slice none 0 0)] hs (by kernel_rfl) fun a hs => ?_
  replace hs := hs.pick [0, 4] (L' := [(0, .slice none 0 0), (4, .bool true)]) (by kernel_rfl)
  refine Vk.done (by kernel_rfl) ?_
  refine hK3 _ _ ?_
  clear hK3
  refine Vk.condT hs (by kernel_rfl) (by kernel_rfl) ?_
  refine Vk.seq fun K4 hK4 => ?_
  refine Vk.region ?_
  refine Vk.pures 1 [(2, .slice none 0 0)] hs (by kernel_rfl) fun a hs => ?_
  replace hs := hs.pick [2] (L' := [(2, .slice none 0 0)]) (by kernel_rfl)
  refine Vk.done (by kernel_rfl) ?_
  refine hK4 _ _ ?_
  clear hK4
  refine wp_ret ?_
  replace hs := hs.addRow none 175 3 Tapi_Span.cells
  exact Vk.ret1 (P := Try.prog) (fn := Try.f139) (R := slices_Clone_api_Span_api_Span.R κ S [] none 0 r) (.slice none (([] : List Tapi_Span).length) 0) hs rfl (by kernel_rfl) (by obtain rfl := Option.some.inj hm; exact ⟨none, 0, rfl, hs.own⟩)
 ·skip
  refine Vk.enter [(0, .slice (some p_x0) x0.length c_x0)] Try.func139 rfl Try.ntmps139 (by kernel_rfl) (Nat.le_of_ble_eq_true (by kernel_rfl)) ho fun a hs => ?_
  refine Vk.seq fun K1 hK1 => ?_
  refine Vk.region ?_
  refine Vk.pures 1 [(2, .slice none 0 0)] hs (by kernel_rfl) fun a hs => ?_
  replace hs := hs.pick [0] (L' := [(0, .slice (some p_x0) x0.length c_x0)]) (by kernel_rfl)
  refine Vk.done (by kernel_rfl) ?_
  refine hK1 _ _ ?_
  clear hK1
  refine Vk.seq fun K2 hK2 => ?_
  refine Vk.seq fun K3 hK3 => ?_
  refine Vk.region ?_
  refine Vk.pures 2 [(4, .bool false), (3, .slice (some p_x0) x0.length c_x0)] hs (by kernel_rfl) fun a hs => ?_
  replace hs := hs.pick [0, 4] (L' := [(0, .slice (some p_x0) x0.length c_x0), (4, .bool false)]) (by kernel_rfl)
  refine Vk.done (by kernel_rfl) ?_
  refine hK3 _ _ ?_
  clear hK3
  refine Vk.condF hs (by kernel_rfl) (by kernel_rfl) ?_
  refine wp_skip ?_
  refine hK2 _ _ ?_
  clear hK2
  refine Vk.seq fun K4 hK4 => ?_
  refine Vk.region ?_
  refine Vk.step (Vk.buildOp (sz := 3) (by_ := 24) (t := 60) (e := 175) (parts := #[]) (zs := vals [C.int .i64 0, C.int .i64 0, C.int .i64 0]) ([] : List Tapi_Span) Tapi_Span.cells (some 5) hs (by kernel_rfl) (by kernel_rfl) (by kernel_rfl) (by kernel_rfl) (by decide) rfl (fun x _ => rfl) (Nat.le_of_ble_eq_true (by kernel_rfl)) (by kernel_rfl) fun A_5 w a hs => ?_)
  refine Vk.pures 1 [(6, .slice (some p_x0) x0.length c_x0)] hs (by kernel_rfl) fun a hs => ?_
  obtain ⟨h_7, hm⟩ := ite_t hm
  refine Vk.step (Vk.appendOp (x := (.tmp 5)) (y := (.tmp 6)) (e := 175) (t := 60) (by_ := 24) (sz := 3) (enc := Tapi_Span.cells) (A := A_5) (cap := 0) (xs := ([] : List Tapi_Span)) (ys := x0) (B := (some p_x0)) (c2 := c_x0) 0 (some 7) hs (by kernel_rfl) (by kernel_rfl) (by kernel_rfl) (by kernel_rfl) rfl hx_x0.less (by kernel_rfl) (by kernel_rfl) (by decide) (by decide) h_7 fun A_8 c_9 w a hs => ?_)
  refine Vk.pures 1 [(2, .slice A_8 ((([] : List Tapi_Span) ++ x0).length) c_9)] hs (by kernel_rfl) fun a hs => ?_
  replace hs := hs.pick [2] (L' := [(2, .slice A_8 ((([] : List Tapi_Span) ++ x0).length) c_9)]) (by kernel_rfl)
  refine Vk.done (by kernel_rfl) ?_
  refine hK4 _ _ ?_
  clear hK4
  refine wp_ret ?_
  exact Vk.ret1 (P := Try.prog) (fn := Try.f139) (R := slices_Clone_api_Span_api_Span.R κ S x0 (some p_x0) c_x0 r) (.slice A_8 ((([] : List Tapi_Span) ++ x0).length) c_9) hs rfl (by kernel_rfl) (by obtain rfl := Option.some.inj hm; exact ⟨A_8, c_9, rfl, hs.own⟩)

structure Tapi_Trace where
 n : Int
 ops : List Tapi_Op
 blocks : List Tapi_Span
 deriving Inhabited
def Tapi_Trace.obj (x : Tapi_Trace) (Aops : Option Addr) (cops : Nat) (Ablocks : Option Addr) (cblocks : Nat) : Cells := [C.int .i64 x.n, C.slc Aops x.ops.length cops, C.slc Ablocks x.blocks.length cblocks]

abbrev wire_Machine_Trace.R (κ : Ctx) (S : List HP) (x0 : Twire_Machine) (b_x0 : Nat) (g_x0 : Nat × Option Addr × Nat × Option Addr × Nat × Option Addr × Nat) (r : Tapi_Trace) : Ending → World → Prop := fun e w' => ∃ (A_r0ops : Option Addr), ∃ (c_r0ops : Nat), ∃ (A_r0blocks : Option Addr), ∃ (c_r0blocks : Nat), e = .returned (.agg (vals [ci r.n, C.slc A_r0ops r.ops.length c_r0ops, C.slc A_r0blocks r.blocks.length c_r0blocks])) ∧ Ow κ w' (rowp A_r0ops c_r0ops 93 6 Tapi_Op.cells r.ops :: rowp A_r0blocks c_r0blocks 175 3 Tapi_Span.cells r.blocks :: bagL (Twire_Machine.parts b_x0 x0 g_x0) :: S)
def wire_Machine_Trace.m (k : Nat) (x0 : Twire_Machine) : Option Tapi_Trace := (slices_Clone_api_Op_api_Op.m k x0.ops).bind fun v_12 => (slices_Clone_api_Span_api_Span.m k x0.blocks).bind fun v_17 => some (⟨x0.n, v_12, v_17⟩ : Tapi_Trace)

set_option maxRecDepth 100000 in
set_option maxHeartbeats 4000000 in
theorem wire_Machine_Trace.ok (k : Nat) (x0 : Twire_Machine) (r : Tapi_Trace) (hm : wire_Machine_Trace.m k x0 = some r) (κ : Ctx) (w : World) (S : List HP) (b_x0 : Nat) (g_x0 : Nat × Option Addr × Nat × Option Addr × Nat × Option Addr × Nat) (ho : Ow κ w (bagL (Twire_Machine.parts b_x0 x0 g_x0) :: S)) :
  Calls Try.prog 62 #[pp b_x0] w (wire_Machine_Trace.R κ S x0 b_x0 g_x0 r) := by
 unfold wire_Machine_Trace.m at hm
 generalize hRR : wire_Machine_Trace.R κ S x0 b_x0 g_x0 r = RR
 refine qen [(0, pp b_x0)] Try.func62 Try.ntmps62 ho fun a hs => ?_
 refine qsr fun K1 hK1 => ?_
 refine qal 102 [ci 0, C.slc none 0 0, C.slc none 0 0] 2 hs fun b_2 w a hs => ?_
 refine qpe 0 [(0, pp b_x0), (2, pp b_2)] hs fun a hs => hK1 _ _ ?_
 clear hK1
 refine Vk.seq fun K3 hK3 => ?_
 refine qsk 2 [0, 2, 4] hs fun a hs => ?_
 refine qcf hs ?_
 refine wp_skip ?_
 refine hK3 _ _ ?_
 clear hK3
 refine Vk.seq fun K5 hK5 => ?_
 replace hs := hs.unbagAt 1 rfl
 obtain ⟨C_9, hC_9⟩ := qC hs.own
 refine qdr 15 κ C_9 hs fun w hs hqC_9 => ?_
 have hcl := qO hC_9 hs.own
 refine qdp (fuel := 7) [0, 1, 2, 4, 5, 6, 9, 10, 11] hs hcl hqC_9 fun a hs => ?_
 refine qdl 3 0 (ci x0.n) hs hcl hqC_9 hC_9 rfl fun a hs => ?_
 refine qdl 7 0 (C.slc g_x0.2.1 x0.ops.length g_x0.2.2.1) hs hcl hqC_9 hC_9 rfl fun a hs => ?_
 refine qdl 12 0 (C.slc g_x0.2.2.2.2.2.1 x0.blocks.length g_x0.2.2.2.2.2.2) hs hcl hqC_9 hC_9 rfl fun a hs => ?_
 obtain ⟨v_12, h_11, hm⟩ := bind_t hm
 refine Vk.dOnly (i := 8) (by kernel_rfl) (Vk.call (some 14) 138 #[.slice g_x0.2.1 x0.ops.length g_x0.2.2.1] hs (by kernel_rfl) (by kernel_rfl) (by kernel_rfl) ?_)
 refine (slices_Clone_api_Op_api_Op.ok k x0.ops v_12 h_11 κ w (pt b_x0 (blk (Twire_Machine.obj x0 g_x0.1 g_x0.2.1 g_x0.2.2.1 g_x0.2.2.2.1 g_x0.2.2.2.2.1 g_x0.2.2.2.2.2.1 g_x0.2.2.2.2.2.2) 139) :: opto x0.dry (Ttape_Tape.own g_x0.1 x0.tape) :: rowp g_x0.2.1 g_x0.2.2.1 93 6 Tapi_Op.cells x0.ops :: rowp g_x0.2.2.2.1 g_x0.2.2.2.2.1 32 1 (eI .u64) x0.values :: rowp g_x0.2.2.2.2.2.1 g_x0.2.2.2.2.2.2 175 3 Tapi_Span.cells x0.blocks :: pt b_2 (blk [ci 0, C.slc none 0 0, C.slc none 0 0] 102) :: S) g_x0.2.1 g_x0.2.2.1 (Sl.lift (fun w ho => (Ow.to (S' := rowp g_x0.2.1 g_x0.2.2.1 93 6 Tapi_Op.cells x0.ops :: S) ho [2] 6 (by kernel_rfl) (by kernel_rfl))) (Ow.rowSl 0 (Ow.to (S' := rowp g_x0.2.1 g_x0.2.2.1 93 6 Tapi_Op.cells x0.ops :: S) hs.own [2] 6 (by kernel_rfl) (by kernel_rfl)) rfl)) hs.own).mono ?_
 rintro _ w ⟨Ar10x0_13, cr10x0_14, rfl, how⟩
 refine ⟨_, _, _, rfl, how, fun a hs => ?_⟩
 replace hcl := qO hC_9 hs.own.drop
 refine ⟨fun _ => hcl, ?_⟩
 obtain ⟨v_17, h_16, hm⟩ := bind_t hm
 refine Vk.dOnly (i := 13) (by kernel_rfl) (Vk.call (some 19) 139 #[.slice g_x0.2.2.2.2.2.1 x0.blocks.length g_x0.2.2.2.2.2.2] hs (by kernel_rfl) (by kernel_rfl) (by kernel_rfl) ?_)
 refine (slices_Clone_api_Span_api_Span.ok k x0.blocks v_17 h_16 κ w (rowp Ar10x0_13 cr10x0_14 93 6 Tapi_Op.cells v_12 :: pt b_x0 (blk (Twire_Machine.obj x0 g_x0.1 g_x0.2.1 g_x0.2.2.1 g_x0.2.2.2.1 g_x0.2.2.2.2.1 g_x0.2.2.2.2.2.1 g_x0.2.2.2.2.2.2) 139) :: opto x0.dry (Ttape_Tape.own g_x0.1 x0.tape) :: rowp g_x0.2.1 g_x0.2.2.1 93 6 Tapi_Op.cells x0.ops :: rowp g_x0.2.2.2.1 g_x0.2.2.2.2.1 32 1 (eI .u64) x0.values :: rowp g_x0.2.2.2.2.2.1 g_x0.2.2.2.2.2.2 175 3 Tapi_Span.cells x0.blocks :: pt b_2 (blk [ci 0, C.slc none 0 0, C.slc none 0 0] 102) :: S) g_x0.2.2.2.2.2.1 g_x0.2.2.2.2.2.2 (Sl.lift (fun w ho => (Ow.to (S' := rowp g_x0.2.2.2.2.2.1 g_x0.2.2.2.2.2.2 175 3 Tapi_Span.cells x0.blocks :: S) ho [5] 7 (by kernel_rfl) (by kernel_rfl))) (Ow.rowSl 0 (Ow.to (S' := rowp g_x0.2.2.2.2.2.1 g_x0.2.2.2.2.2.2 175 3 Tapi_Span.cells x0.blocks :: S) hs.own [5] 7 (by kernel_rfl) (by kernel_rfl)) rfl)) hs.own).mono ?_
 rintro _ w ⟨Ar15x0_18, cr15x0_19, rfl, how⟩
 refine ⟨_, _, _, rfl, how, fun a hs => ?_⟩
 replace hcl := qO hC_9 hs.own.f1.drop.drop
 refine ⟨fun _ => hcl, ?_⟩
 refine qdp (fuel := 1) [14] hs hcl hqC_9 fun a hs => ?_
 refine qsA 15 7 [ci x0.n, C.slc Ar10x0_13 v_12.length cr10x0_14, C.slc Ar15x0_18 v_17.length cr15x0_19] hs rfl rfl rfl fun a w hs => ?_
 refine ⟨fun h => absurd h (by decide), ?_⟩
 replace hs := hs.pick [2] (L' := [(2, pp b_2)]) (by kernel_rfl)
 refine Vk.dDone (by kernel_rfl) ?_
 refine hK5 _ _ ?_
 clear hK5
 refine wp_ret ?_
 replace hs := hs.bagG (l := Twire_Machine.parts b_x0 x0 g_x0) (S' := rowp Ar15x0_18 cr15x0_19 175 3 Tapi_Span.cells v_17 :: rowp Ar10x0_13 cr10x0_14 93 6 Tapi_Op.cells v_12 :: pt b_2 (blk [ci x0.n, C.slc Ar10x0_13 v_12.length cr10x0_14, C.slc Ar15x0_18 v_17.length cr15x0_19] 102) :: S) hs.own.f6.f6.f6.f6.f6
 exact Vk.retC [ci x0.n, C.slc Ar10x0_13 v_12.length cr10x0_14, C.slc Ar15x0_18 v_17.length cr15x0_19] hs rfl (by kernel_rfl) (sz := 3) (by kernel_rfl) rfl (CellsAt.all 3 rfl) (hRR ▸ by cases hm; exact ⟨Ar10x0_13, cr10x0_14, Ar15x0_18, cr15x0_19, rfl, hs.own.f3.drop.f1.f2⟩)


def visorref18_Same.j2 (k : Nat) (rec36 : Int → Option (Sum (Bool) (Unit))) (q_37 : Int) (p_62 : Tapi_Op) (p_66 : Tapi_Op) : Option (Sum (Bool) (Unit)) := (bif !(((p_66.kind == p_62.kind) && ((p_66.dom == p_62.dom) && ((p_66.a == p_62.a) && ((p_66.b == p_62.b) && ((p_66.d == p_62.d) && ((p_66.c == p_62.c) && true))))))) then some (.inl false) else rec36 (IntKind.i64.wrap (q_37 + 1)))
def visorref18_Same.j1 (k : Nat) (rec36 : Int → Option (Sum (Bool) (Unit))) (q_37 : Int) (p_60 : Tapi_Op) (p_62 : Tapi_Op) : Option (Sum (Bool) (Unit)) := (bif (p_60.kind == 4) && (p_62.kind == 4) then visorref18_Same.j2 k (rec36) q_37 p_62 (⟨p_60.kind, p_60.dom, p_60.a, p_60.b, p_60.d, p_62.c⟩ : Tapi_Op) else visorref18_Same.j2 k (rec36) q_37 p_62 p_60)
def visorref18_Same.l2 (x0 : Tapi_Trace) (x1 : Tapi_Trace) : Nat → Int → Option (Sum (Bool) (Unit))
 | 0, _ => none
 | k + 1, q_37 => (bif decide (q_37 < ((x0.ops.length : Nat) : Int)) then (if 0 ≤ q_37 then (x0.ops[q_37.toNat]?).bind fun e_46 => (if 0 ≤ q_37 then (x1.ops[q_37.toNat]?).bind fun e_53 => visorref18_Same.j1 k (visorref18_Same.l2 x0 x1 k) q_37 e_46 e_53 else none) else none) else some (.inr ()))
def visorref18_Same.l1 (x0 : Tapi_Trace) (x1 : Tapi_Trace) : Nat → Int → Option (Sum (Bool) (Unit))
 | 0, _ => none
 | k + 1, q_12 => (bif decide (q_12 < ((x0.blocks.length : Nat) : Int)) then (if 0 ≤ q_12 then (x0.blocks[q_12.toNat]?).bind fun e_21 => (if 0 ≤ q_12 then (x1.blocks[q_12.toNat]?).bind fun e_28 => (bif !(((e_21.kind == e_28.kind) && ((e_21.fromF == e_28.fromF) && ((e_21.to == e_28.to) && true)))) then some (.inl false) else visorref18_Same.l1 x0 x1 k (IntKind.i64.wrap (q_12 + 1))) else none) else none) else some (.inr ()))
abbrev visorref18_Same.R (κ : Ctx) (S : List HP) (x0 : Tapi_Trace) (x1 : Tapi_Trace) (A_x0ops : Option Addr) (c_x0ops : Nat) (A_x0blocks : Option Addr) (c_x0blocks : Nat) (A_x1ops : Option Addr) (c_x1ops : Nat) (A_x1blocks : Option Addr) (c_x1blocks : Nat) (r : Bool) : Ending → World → Prop := fun e w' => e = .returned (.bool r) ∧ Ow κ w' (S)
def visorref18_Same.m (k : Nat) (x0 : Tapi_Trace) (x1 : Tapi_Trace) : Option Bool := (bif ((x0.n != x1.n) || (((x0.ops.length : Nat) : Int) != ((x1.ops.length : Nat) : Int))) || (((x0.blocks.length : Nat) : Int) != ((x1.blocks.length : Nat) : Int)) then some false else (visorref18_Same.l1 x0 x1 k 0).bind fun x => match x with | .inl v => some v | .inr () => (visorref18_Same.l2 x0 x1 k 0).bind fun x => match x with | .inl v => some v | .inr () => some true)

set_option maxRecDepth 100000 in
set_option maxHeartbeats 4000000 in
theorem visorref18_Same.ok (k : Nat) (x0 : Tapi_Trace) (x1 : Tapi_Trace) (r : Bool) (hm : visorref18_Same.m k x0 x1 = some r) (κ : Ctx) (w : World) (S : List HP) (A_x0ops : Option Addr) (c_x0ops : Nat) (hx_x0ops : Sl κ S A_x0ops c_x0ops 6 Tapi_Op.cells x0.ops) (A_x0blocks : Option Addr) (c_x0blocks : Nat) (hx_x0blocks : Sl κ S A_x0blocks c_x0blocks 3 Tapi_Span.cells x0.blocks) (A_x1ops : Option Addr) (c_x1ops : Nat) (hx_x1ops : Sl κ S A_x1ops c_x1ops 6 Tapi_Op.cells x1.ops) (A_x1blocks : Option Addr) (c_x1blocks : Nat) (hx_x1blocks : Sl κ S A_x1blocks c_x1blocks 3 Tapi_Span.cells x1.blocks) (ho : Ow κ w (S)) :
  Calls Try.prog 109 #[.agg (vals [ci x0.n, C.slc A_x0ops x0.ops.length c_x0ops, C.slc A_x0blocks x0.blocks.length c_x0blocks]), .agg (vals [ci x1.n, C.slc A_x1ops x1.ops.length c_x1ops, C.slc A_x1blocks x1.blocks.length c_x1blocks])] w (visorref18_Same.R κ S x0 x1 A_x0ops c_x0ops A_x0blocks c_x0blocks A_x1ops c_x1ops A_x1blocks c_x1blocks r) := by
 unfold visorref18_Same.m at hm
 generalize hRR : visorref18_Same.R κ S x0 x1 A_x0ops c_x0ops A_x0blocks c_x0blocks A_x1ops c_x1ops A_x1blocks c_x1blocks r = RR
 refine qen [(0, .agg (vals [ci x0.n, C.slc A_x0ops x0.ops.length c_x0ops, C.slc A_x0blocks x0.blocks.length c_x0blocks])), (1, .agg (vals [ci x1.n, C.slc A_x1ops x1.ops.length c_x1ops, C.slc A_x1blocks x1.blocks.length c_x1blocks]))] Try.func109 Try.ntmps109 ho fun a hs => ?_
 refine qsr fun K1 hK1 => ?_
 refine qbx 0 102 [ci x0.n, C.slc A_x0ops x0.ops.length c_x0ops, C.slc A_x0blocks x0.blocks.length c_x0blocks] 2 hs fun b_2 w a hs => ?_
 refine qbx 1 102 [ci x1.n, C.slc A_x1ops x1.ops.length c_x1ops, C.slc A_x1blocks x1.blocks.length c_x1blocks] 3 hs fun b_3 w a hs => ?_
 refine qpe 1 [(2, pp b_2), (3, pp b_3)] hs fun a hs => hK1 _ _ ?_
 clear hK1
 refine Vk.seq fun K4 hK4 => ?_
 refine qsr fun K5 hK5 => ?_
 refine qpu 1 hs fun a hs => ?_
 refine qld 1 (ci x0.n) hs rfl fun a hs => ?_
 refine qpu 1 hs fun a hs => ?_
 refine qld 0 (ci x1.n) hs rfl fun a hs => ?_
 refine qpu 2 hs fun a hs => ?_
 suffices hj_6 : ∀ a, St 81 a w κ [(2, pp b_2), (3, pp b_3), (9, pp b_2), (10, vi x0.n), (11, pp b_3), (12, vi x1.n), (13, .bool (x0.n != x1.n)), (14, .bool (x0.n != x1.n)), (22, .bool ((x0.n != x1.n) || (((x0.ops.length : Nat) : Int) != ((x1.ops.length : Nat) : Int))))] (pt b_3 (blk (Tapi_Trace.obj x1 A_x1ops c_x1ops A_x1blocks c_x1blocks) 102) :: pt b_2 (blk (Tapi_Trace.obj x0 A_x0ops c_x0ops A_x0blocks c_x0blocks) 102) :: S) → wpFrom Try.prog _ _ 14 a w by
  rcases Bool.eq_false_or_eq_true (x0.n != x1.n) with hb | hb
  ·replace hs := hs.known (t := 14) hb (by kernel_rfl)
   refine qpu 8 hs fun a hs => ?_
   have hq := hs.pick [2, 3, 9, 10, 11, 12, 13, 14, 22] (L' := [(2, pp b_2), (3, pp b_3), (9, pp b_2), (10, vi x0.n), (11, pp b_3), (12, vi x1.n), (13, .bool (x0.n != x1.n)), (14, .bool true), (22, .bool true)]) (by kernel_rfl)
   exact hj_6 _ (hq.conv (by first | (rw [hb] <;> rfl) | rfl))
  ·replace hs := hs.known (t := 14) hb (by kernel_rfl)
   refine qpu 1 hs fun a hs => ?_
   refine qld 1 (C.slc A_x0ops x0.ops.length c_x0ops) hs rfl fun a hs => ?_
   refine qpu 2 hs fun a hs => ?_
   refine qld 0 (C.slc A_x1ops x1.ops.length c_x1ops) hs rfl fun a hs => ?_
   refine qpu 3 hs fun a hs => ?_
   have hq := hs.pick [2, 3, 9, 10, 11, 12, 13, 14, 22] (L' := [(2, pp b_2), (3, pp b_3), (9, pp b_2), (10, vi x0.n), (11, pp b_3), (12, vi x1.n), (13, .bool (x0.n != x1.n)), (14, .bool false), (22, .bool (((x0.ops.length : Nat) : Int) != ((x1.ops.length : Nat) : Int)))]) (by kernel_rfl)
   exact hj_6 _ (hq.conv (by first | (rw [hb] <;> rfl) | rfl))
 intro a hs
 refine qpu 1 hs fun a hs => ?_
 suffices hj_7 : ∀ a, St 81 a w κ [(2, pp b_2), (3, pp b_3), (9, pp b_2), (10, vi x0.n), (11, pp b_3), (12, vi x1.n), (13, .bool (x0.n != x1.n)), (14, .bool (x0.n != x1.n)), (22, .bool ((x0.n != x1.n) || (((x0.ops.length : Nat) : Int) != ((x1.ops.length : Nat) : Int)))), (23, .bool ((x0.n != x1.n) || (((x0.ops.length : Nat) : Int) != ((x1.ops.length : Nat) : Int)))), (31, .bool (((x0.n != x1.n) || (((x0.ops.length : Nat) : Int) != ((x1.ops.length : Nat) : Int))) || (((x0.blocks.length : Nat) : Int) != ((x1.blocks.length : Nat) : Int))))] (pt b_3 (blk (Tapi_Trace.obj x1 A_x1ops c_x1ops A_x1blocks c_x1blocks) 102) :: pt b_2 (blk (Tapi_Trace.obj x0 A_x0ops c_x0ops A_x0blocks c_x0blocks) 102) :: S) → wpFrom Try.prog _ _ 23 a w by
  rcases Bool.eq_false_or_eq_true ((x0.n != x1.n) || (((x0.ops.length : Nat) : Int) != ((x1.ops.length : Nat) : Int))) with hb | hb
  ·replace hs := hs.known (t := 23) hb (by kernel_rfl)
   refine qpu 8 hs fun a hs => ?_
   have hq := hs.pick [2, 3, 9, 10, 11, 12, 13, 14, 22, 23, 31] (L' := [(2, pp b_2), (3, pp b_3), (9, pp b_2), (10, vi x0.n), (11, pp b_3), (12, vi x1.n), (13, .bool (x0.n != x1.n)), (14, .bool (x0.n != x1.n)), (22, .bool ((x0.n != x1.n) || (((x0.ops.length : Nat) : Int) != ((x1.ops.length : Nat) : Int)))), (23, .bool true), (31, .bool true)]) (by kernel_rfl)
   exact hj_7 _ (hq.conv (by first | (rw [hb] <;> rfl) | rfl))
  ·replace hs := hs.known (t := 23) hb (by kernel_rfl)
   refine qpu 1 hs fun a hs => ?_
   refine qld 1 (C.slc A_x0blocks x0.blocks.length c_x0blocks) hs rfl fun a hs => ?_
   refine qpu 2 hs fun a hs => ?_
   refine qld 0 (C.slc A_x1blocks x1.blocks.length c_x1blocks) hs rfl fun a hs => ?_
   refine qpu 3 hs fun a hs => ?_
   have hq := hs.pick [2, 3, 9, 10, 11, 12, 13, 14, 22, 23, 31] (L' := [(2, pp b_2), (3, pp b_3), (9, pp b_2), (10, vi x0.n), (11, pp b_3), (12, vi x1.n), (13, .bool (x0.n != x1.n)), (14, .bool (x0.n != x1.n)), (22, .bool ((x0.n != x1.n) || (((x0.ops.length : Nat) : Int) != ((x1.ops.length : Nat) : Int)))), (23, .bool false), (31, .bool (((x0.blocks.length : Nat) : Int) != ((x1.blocks.length : Nat) : Int)))]) (by kernel_rfl)
   exact hj_7 _ (hq.conv (by first | (rw [hb] <;> rfl) | rfl))
 intro a hs
 refine qpk 0 [2, 3, 31] hs fun a hs => hK5 _ _ ?_
 clear hK5
 refine qcs (((x0.n != x1.n) || (((x0.ops.length : Nat) : Int) != ((x1.ops.length : Nat) : Int))) || (((x0.blocks.length : Nat) : Int) != ((x1.blocks.length : Nat) : Int))) hs (fun hb => ?_) fun hb => ?_
 ·replace hm := bif_t hm hb
  refine qse 1 [(4, .bool false)] hs fun a hs => ?_
  refine wp_ret ?_
  exact qr1 (.bool false) hs rfl hRR (by cases hm; exact ⟨rfl, hs.own.f1.drop.drop⟩)
 ·replace hm := bif_f hm hb
  refine wp_skip ?_
  refine hK4 _ _ ?_
  clear hK4
  refine Vk.seq fun K9 hK9 => ?_
  refine qsk 1 [2, 3, 5] hs fun a hs => ?_
  refine wp_block ?_
  obtain ⟨r11, hl11, hm⟩ := bind_t hm
  have hx11 : r11 = Sum.inr () → ∀ (a : Act) (w : World), St 81 a w κ [(2, pp b_2), (3, pp b_3)] (pt b_2 (blk (Tapi_Trace.obj x0 A_x0ops c_x0ops A_x0blocks c_x0blocks) 102) :: pt b_3 (blk (Tapi_Trace.obj x1 A_x1ops c_x1ops A_x1blocks c_x1blocks) 102) :: S) → K9 a w := by
   intro he a w hs
   subst r11
   refine hK9 _ _ ?_
   clear hK9
   refine Vk.seq fun K34 hK34 => ?_
   refine qsk 1 [2, 3, 6] hs fun a hs => ?_
   refine wp_block ?_
   obtain ⟨r36, hl36, hm⟩ := bind_t hm
   have hx36 : r36 = Sum.inr () → ∀ (a : Act) (w : World), St 81 a w κ [] (S) → K34 a w := by
    intro he a w hs
    subst r36
    refine hK34 _ _ ?_
    clear hK34
    refine qse 1 [(4, .bool true)] hs fun a hs => ?_
    refine wp_ret ?_
    exact qr1 (.bool true) hs rfl hRR (by cases hm; exact ⟨rfl, hs.own⟩)
   have hret36 : ∀ v, r36 = Sum.inl v → v = r := by intro v he; subst r36; exact Option.some.inj hm
   refine Vk.loopBy (fun k (s : Int) a w => visorref18_Same.l2 x0 x1 k s = some r36 ∧ St 81 a w κ [(2, pp b_2), (3, pp b_3), (6, vi s)] (pt b_2 (blk (Tapi_Trace.obj x0 A_x0ops c_x0ops A_x0blocks c_x0blocks) 102) :: pt b_3 (blk (Tapi_Trace.obj x1 A_x1ops c_x1ops A_x1blocks c_x1blocks) 102) :: S)) k 0 ⟨hl36, hs.go [2, 3, 6] [0, 1] 2 (by kernel_rfl) (by kernel_rfl) (by kernel_rfl)⟩ (fun s a w h => by obtain ⟨h1, _⟩ := h; simp [visorref18_Same.l2] at h1) (fun k KL36 ih q_37 a w h => ?_)
   obtain ⟨hm, hs⟩ := h
   try dsimp only at hm hs
   rw [visorref18_Same.l2] at hm
   refine Vk.seq fun K38 hK38 => ?_
   refine qsr fun K39 hK39 => ?_
   refine qpu 2 hs fun a hs => ?_
   refine qld 0 (C.slc A_x0ops x0.ops.length c_x0ops) hs rfl fun a hs => ?_
   refine qpk 2 [2, 3, 6, 54] hs fun a hs => hK39 _ _ ?_
   clear hK39
   refine qcs (decide (q_37 < ((x0.ops.length : Nat) : Int))) hs (fun hb => ?_) fun hb => ?_
   ·replace hm := bif_t hm hb
    refine wp_skip ?_
    refine hK38 _ _ ?_
    clear hK38
    refine Vk.seq fun K40 hK40 => ?_
    refine wp_block ?_
    refine Vk.seq fun K41 hK41 => ?_
    have hj41 : ∀ (p_60 : Tapi_Op) (p_62 : Tapi_Op), visorref18_Same.j1 k (visorref18_Same.l2 x0 x1 k) q_37 p_60 p_62 = some r36 → ∀ (b_59 : Nat) (b_61 : Nat) (a : Act) (w : World), St 81 a w κ [(2, pp b_2), (3, pp b_3), (6, vi q_37), (7, pp b_59), (8, pp b_61)] (pt b_2 (blk (Tapi_Trace.obj x0 A_x0ops c_x0ops A_x0blocks c_x0blocks) 102) :: pt b_3 (blk (Tapi_Trace.obj x1 A_x1ops c_x1ops A_x1blocks c_x1blocks) 102) :: pt b_59 (blk (Tapi_Op.cells p_60) 93) :: pt b_61 (blk (Tapi_Op.cells p_62) 93) :: S) → K41 a w := by
     intro p_60 p_62 hm b_59 b_61 a w hs
     unfold visorref18_Same.j1 at hm
     refine hK41 _ _ ?_
     refine Vk.seq fun K63 hK63 => ?_
     have hj63 : ∀ (p_66 : Tapi_Op), visorref18_Same.j2 k (visorref18_Same.l2 x0 x1 k) q_37 p_62 p_66 = some r36 → ∀ (a : Act) (w : World), St 81 a w κ [(2, pp b_2), (3, pp b_3), (6, vi q_37), (7, pp b_59), (8, pp b_61)] (pt b_2 (blk (Tapi_Trace.obj x0 A_x0ops c_x0ops A_x0blocks c_x0blocks) 102) :: pt b_3 (blk (Tapi_Trace.obj x1 A_x1ops c_x1ops A_x1blocks c_x1blocks) 102) :: pt b_59 (blk (Tapi_Op.cells p_66) 93) :: pt b_61 (blk (Tapi_Op.cells p_62) 93) :: S) → K63 a w := by
      intro p_66 hm a w hs
      unfold visorref18_Same.j2 at hm
      refine hK63 _ _ ?_
      refine qsr fun K67 hK67 => ?_
      refine qln 2 ([ci p_66.kind, ci p_66.dom, ci p_66.a, ci p_66.b, ci p_66.d, cw p_66.c]) hs rfl fun a hs => ?_
      refine qln 3 ([ci p_62.kind, ci p_62.dom, ci p_62.a, ci p_62.b, ci p_62.d, cw p_62.c]) hs rfl fun a hs => ?_
      refine qva (.bool (!(((p_66.kind == p_62.kind) && ((p_66.dom == p_62.dom) && ((p_66.a == p_62.a) && ((p_66.b == p_62.b) && ((p_66.d == p_62.d) && ((p_66.c == p_62.c) && true))))))))) (op := (.binOp .neq 93 (.tmp 78) (.tmp 79) 93)) hs (fun o ho => run_neqV (ks := ([LK.int .i64] ++ [LK.int .i64] ++ [LK.int .i64] ++ [LK.int .i64] ++ [LK.int .i64] ++ [LK.int .u64])) (cs := [ci p_66.kind, ci p_66.dom, ci p_66.a, ci p_66.b, ci p_66.d, cw p_66.c]) (us := [ci p_62.kind, ci p_62.dom, ci p_62.a, ci p_62.b, ci p_62.d, cw p_62.c]) ho (by kernel_rfl) (by kernel_rfl) (by kernel_rfl) rfl rfl _) fun a hs => ?_
      refine qpk 0 [2, 3, 6, 80] hs fun a hs => hK67 _ _ ?_
      clear hK67
      refine qcs (!(((p_66.kind == p_62.kind) && ((p_66.dom == p_62.dom) && ((p_66.a == p_62.a) && ((p_66.b == p_62.b) && ((p_66.d == p_62.d) && ((p_66.c == p_62.c) && true)))))))) hs (fun hb => ?_) fun hb => ?_
      ·replace hm := bif_t hm hb
       refine qse 1 [(4, .bool false)] hs fun a hs => ?_
       refine wp_ret ?_
       exact Vk.ret1 (P := Try.prog) (fn := Try.f109) (R := RR) (.bool false) hs rfl (by kernel_rfl) (by obtain rfl := hret36 _ ((Option.some.inj hm).symm); subst hRR; exact ⟨rfl, (hs.own.too [] 4)⟩)
      ·replace hm := bif_f hm hb
       refine wp_skip ?_
       refine hK40 _ _ ?_
       clear hK40
       refine Vk.region ?_
       refine qpe 3 [(2, pp b_2), (3, pp b_3), (6, vi (IntKind.i64.wrap (q_37 + 1)))] hs fun a hs => ?_
       refine ih (IntKind.i64.wrap (q_37 + 1)) _ _ ⟨hm, hs.go [2, 3, 6] [0, 1] 4 (by kernel_rfl) (by kernel_rfl) (by kernel_rfl)⟩
     refine qsr fun K64 hK64 => ?_
     refine qpu 1 hs fun a hs => ?_
     refine qld 2 (ci p_60.kind) hs rfl fun a hs => ?_
     refine qpu 2 hs fun a hs => ?_
     suffices hj_65 : ∀ a, St 81 a w κ [(2, pp b_2), (3, pp b_3), (6, vi q_37), (7, pp b_59), (8, pp b_61), (67, pp b_59), (68, vi p_60.kind), (69, .bool (p_60.kind == 4)), (70, .bool (p_60.kind == 4)), (74, .bool ((p_60.kind == 4) && (p_62.kind == 4)))] (pt b_2 (blk (Tapi_Trace.obj x0 A_x0ops c_x0ops A_x0blocks c_x0blocks) 102) :: pt b_3 (blk (Tapi_Trace.obj x1 A_x1ops c_x1ops A_x1blocks c_x1blocks) 102) :: pt b_59 (blk (Tapi_Op.cells p_60) 93) :: pt b_61 (blk (Tapi_Op.cells p_62) 93) :: S) → wpFrom Try.prog _ _ 8 a w by
      rcases Bool.eq_false_or_eq_true (p_60.kind == 4) with hb | hb
      ·replace hs := hs.known (t := 70) hb (by kernel_rfl)
       refine qpu 1 hs fun a hs => ?_
       refine qld 3 (ci p_62.kind) hs rfl fun a hs => ?_
       refine qpu 2 hs fun a hs => ?_
       have hq := hs.pick [2, 3, 6, 7, 8, 67, 68, 69, 70, 74] (L' := [(2, pp b_2), (3, pp b_3), (6, vi q_37), (7, pp b_59), (8, pp b_61), (67, pp b_59), (68, vi p_60.kind), (69, .bool (p_60.kind == 4)), (70, .bool true), (74, .bool (p_62.kind == 4))]) (by kernel_rfl)
       exact hj_65 _ (hq.conv (by first | (rw [hb] <;> rfl) | rfl))
      ·replace hs := hs.known (t := 70) hb (by kernel_rfl)
       refine qpu 4 hs fun a hs => ?_
       have hq := hs.pick [2, 3, 6, 7, 8, 67, 68, 69, 70, 74] (L' := [(2, pp b_2), (3, pp b_3), (6, vi q_37), (7, pp b_59), (8, pp b_61), (67, pp b_59), (68, vi p_60.kind), (69, .bool (p_60.kind == 4)), (70, .bool false), (74, .bool false)]) (by kernel_rfl)
       exact hj_65 _ (hq.conv (by first | (rw [hb] <;> rfl) | rfl))
     intro a hs
     refine qpk 0 [2, 3, 6, 7, 8, 74] hs fun a hs => hK64 _ _ ?_
     clear hK64
     refine qcs ((p_60.kind == 4) && (p_62.kind == 4)) hs (fun hb => ?_) fun hb => ?_
     ·replace hm := bif_t hm hb
      refine Vk.region ?_
      refine qpu 1 hs fun a hs => ?_
      refine qld 3 (cw p_62.c) hs rfl fun a hs => ?_
      refine qpu 1 hs fun a hs => ?_
      refine qst 2 5 (cw p_62.c) hs rfl fun a w hs => ?_
      refine qpe 0 [(2, pp b_2), (3, pp b_3), (6, vi q_37), (7, pp b_59), (8, pp b_61)] hs fun a hs => ?_
      exact hj63 (⟨p_60.kind, p_60.dom, p_60.a, p_60.b, p_60.d, p_62.c⟩ : Tapi_Op) hm _ _ (hs.go [2, 3, 6, 7, 8] [0, 1, 2, 3] 4 (by kernel_rfl) (by kernel_rfl) (by kernel_rfl))
     ·replace hm := bif_f hm hb
      refine wp_skip ?_
      exact hj63 p_60 hm _ _ (hs.go [2, 3, 6, 7, 8] [0, 1, 2, 3] 4 (by kernel_rfl) (by kernel_rfl) (by kernel_rfl))
    obtain ⟨C_42, hC_42⟩ := qC hs.own
    refine qdr 13 κ C_42 hs fun w hs hqC_42 => ?_
    have hcl := qO hC_42 hs.own
    refine qdp (fuel := 10) [0, 2, 5, 7] hs hcl hqC_42 fun a hs => ?_
    refine qdl 1 0 (C.slc A_x0ops x0.ops.length c_x0ops) hs hcl hqC_42 hC_42 rfl fun a hs => ?_
    obtain ⟨h_43, hm⟩ := ite_t hm
    obtain ⟨e_46, h_44, hm⟩ := bind_t hm
    obtain ⟨b_47, o_48, hA_49, h_45⟩ := Sl.elem hx_x0ops h_44
    refine qdt 3 (.pointer (some ⟨b_47, o_48 + q_37.toNat * 6, none⟩)) (op := (.indexAddr 59 (.tmp 58) (.tmp 59))) hs hcl hqC_42 (fun w hw o ho => by rw [hC_42] at hw; exact run_idxSlc (k := .i64) ho (cap := c_x0ops) (len := x0.ops.length) ((congrArg (fun A => Value.slice A (x0.ops.length) (c_x0ops)) hA_49) ▸ (by kernel_rfl)) (by kernel_rfl) (by kernel_rfl) (idx_ok h_43 h_44) _) fun a hs => ?_
    refine qdt 4 (.agg (vals [ci e_46.kind, ci e_46.dom, ci e_46.a, ci e_46.b, ci e_46.d, cw e_46.c])) (op := (.load 93 (.tmp 60))) hs hcl hqC_42 (fun w hw o ho => by rw [hC_42] at hw; exact run_loadN (cs := [ci e_46.kind, ci e_46.dom, ci e_46.a, ci e_46.b, ci e_46.d, cw e_46.c]) ho (by kernel_rfl) (by kernel_rfl) rfl h_45 _ hw.drop.drop) fun a hs => ?_
    refine qdl 6 1 (C.slc A_x1ops x1.ops.length c_x1ops) hs hcl hqC_42 hC_42 rfl fun a hs => ?_
    obtain ⟨h_50, hm⟩ := ite_t hm
    obtain ⟨e_53, h_51, hm⟩ := bind_t hm
    obtain ⟨b_54, o_55, hA_56, h_52⟩ := Sl.elem hx_x1ops h_51
    refine qdt 8 (.pointer (some ⟨b_54, o_55 + q_37.toNat * 6, none⟩)) (op := (.indexAddr 59 (.tmp 63) (.tmp 64))) hs hcl hqC_42 (fun w hw o ho => by rw [hC_42] at hw; exact run_idxSlc (k := .i64) ho (cap := c_x1ops) (len := x1.ops.length) ((congrArg (fun A => Value.slice A (x1.ops.length) (c_x1ops)) hA_56) ▸ (by kernel_rfl)) (by kernel_rfl) (by kernel_rfl) (idx_ok h_50 h_51) _) fun a hs => ?_
    refine qdt 9 (.agg (vals [ci e_53.kind, ci e_53.dom, ci e_53.a, ci e_53.b, ci e_53.d, cw e_53.c])) (op := (.load 93 (.tmp 65))) hs hcl hqC_42 (fun w hw o ho => by rw [hC_42] at hw; exact run_loadN (cs := [ci e_53.kind, ci e_53.dom, ci e_53.a, ci e_53.b, ci e_53.d, cw e_53.c]) ho (by kernel_rfl) (by kernel_rfl) rfl h_52 _ hw.drop.drop) fun a hs => ?_
    refine Vk.dMany2 (i0 := 10) (i1 := 11) (by kernel_rfl) ?_ ?_
    ·refine Vk.alloc 7 93 [ci 0, ci 0, ci 0, ci 0, ci 0, cw 0] hs (by kernel_rfl) (by kernel_rfl) (by kernel_rfl) fun b_57 w a hs => ?_
     replace hcl := qO hC_42 hs.own.drop
     refine ⟨fun _ => hcl, ?_⟩
     refine Vk.dOnly (i := 11) (by kernel_rfl) (Vk.alloc 8 93 [ci 0, ci 0, ci 0, ci 0, ci 0, cw 0] hs (by kernel_rfl) (by kernel_rfl) (by kernel_rfl) fun b_58 w a hs => ?_)
     replace hcl := qO hC_42 hs.own.f1.drop.drop
     refine ⟨fun _ => hcl, ?_⟩
     refine qsA 12 1 [ci e_46.kind, ci e_46.dom, ci e_46.a, ci e_46.b, ci e_46.d, cw e_46.c] hs rfl rfl rfl fun a w hs => ?_
     replace hcl := qO hC_42 hs.own.f1.drop.drop
     refine ⟨fun _ => hcl, ?_⟩
     refine qsA 13 0 [ci e_53.kind, ci e_53.dom, ci e_53.a, ci e_53.b, ci e_53.d, cw e_53.c] hs rfl rfl rfl fun a w hs => ?_
     refine ⟨fun h => absurd h (by decide), ?_⟩
     replace hs := hs.pick [2, 3, 6, 7, 8] (L' := [(2, pp b_2), (3, pp b_3), (6, vi q_37), (7, pp b_57), (8, pp b_58)]) (by kernel_rfl)
     refine Vk.dDone (by kernel_rfl) ?_
     exact hj41 e_46 e_53 hm b_57 b_58 _ _ (hs.go [2, 3, 6, 7, 8] [2, 3, 1, 0] 4 (by kernel_rfl) (by kernel_rfl) (by kernel_rfl))
    ·refine Vk.alloc 8 93 [ci 0, ci 0, ci 0, ci 0, ci 0, cw 0] hs (by kernel_rfl) (by kernel_rfl) (by kernel_rfl) fun b_57 w a hs => ?_
     replace hcl := qO hC_42 hs.own.drop
     refine ⟨fun _ => hcl, ?_⟩
     refine Vk.dOnly (i := 10) (by kernel_rfl) (Vk.alloc 7 93 [ci 0, ci 0, ci 0, ci 0, ci 0, cw 0] hs (by kernel_rfl) (by kernel_rfl) (by kernel_rfl) fun b_58 w a hs => ?_)
     replace hcl := qO hC_42 hs.own.f1.drop.drop
     refine ⟨fun _ => hcl, ?_⟩
     refine qsA 12 0 [ci e_46.kind, ci e_46.dom, ci e_46.a, ci e_46.b, ci e_46.d, cw e_46.c] hs rfl rfl rfl fun a w hs => ?_
     replace hcl := qO hC_42 hs.own.f1.drop.drop
     refine ⟨fun _ => hcl, ?_⟩
     refine qsA 13 1 [ci e_53.kind, ci e_53.dom, ci e_53.a, ci e_53.b, ci e_53.d, cw e_53.c] hs rfl rfl rfl fun a w hs => ?_
     refine ⟨fun h => absurd h (by decide), ?_⟩
     replace hs := hs.pick [2, 3, 6, 7, 8] (L' := [(2, pp b_2), (3, pp b_3), (6, vi q_37), (7, pp b_58), (8, pp b_57)]) (by kernel_rfl)
     refine Vk.dDone (by kernel_rfl) ?_
     exact hj41 e_46 e_53 hm b_58 b_57 _ _ (hs.go [2, 3, 6, 7, 8] [2, 3, 0, 1] 4 (by kernel_rfl) (by kernel_rfl) (by kernel_rfl))
   ·replace hm := bif_f hm hb
    refine wp_exit ?_
    exact hx36 (Option.some.inj hm).symm _ _ (hs.go [] [] 2 (by kernel_rfl) (by kernel_rfl) (by kernel_rfl))
  have hret11 : ∀ v, r11 = Sum.inl v → v = r := by intro v he; subst r11; exact Option.some.inj hm
  refine Vk.loopBy (fun k (s : Int) a w => visorref18_Same.l1 x0 x1 k s = some r11 ∧ St 81 a w κ [(2, pp b_2), (3, pp b_3), (5, vi s)] (pt b_2 (blk (Tapi_Trace.obj x0 A_x0ops c_x0ops A_x0blocks c_x0blocks) 102) :: pt b_3 (blk (Tapi_Trace.obj x1 A_x1ops c_x1ops A_x1blocks c_x1blocks) 102) :: S)) k 0 ⟨hl11, hs.go [2, 3, 5] [1, 0] 2 (by kernel_rfl) (by kernel_rfl) (by kernel_rfl)⟩ (fun s a w h => by obtain ⟨h1, _⟩ := h; simp [visorref18_Same.l1] at h1) (fun k KL11 ih q_12 a w h => ?_)
  obtain ⟨hm, hs⟩ := h
  try dsimp only at hm hs
  rw [visorref18_Same.l1] at hm
  refine Vk.seq fun K13 hK13 => ?_
  refine qsr fun K14 hK14 => ?_
  refine qpu 2 hs fun a hs => ?_
  refine qld 0 (C.slc A_x0blocks x0.blocks.length c_x0blocks) hs rfl fun a hs => ?_
  refine qpk 2 [2, 3, 5, 36] hs fun a hs => hK14 _ _ ?_
  clear hK14
  refine qcs (decide (q_12 < ((x0.blocks.length : Nat) : Int))) hs (fun hb => ?_) fun hb => ?_
  ·replace hm := bif_t hm hb
   refine wp_skip ?_
   refine hK13 _ _ ?_
   clear hK13
   refine Vk.seq fun K15 hK15 => ?_
   refine wp_block ?_
   refine Vk.seq fun K16 hK16 => ?_
   obtain ⟨C_17, hC_17⟩ := qC hs.own
   refine qdr 11 κ C_17 hs fun w hs hqC_17 => ?_
   have hcl := qO hC_17 hs.own
   refine qdp (fuel := 7) [0, 2, 5, 7] hs hcl hqC_17 fun a hs => ?_
   refine qdl 1 0 (C.slc A_x0blocks x0.blocks.length c_x0blocks) hs hcl hqC_17 hC_17 rfl fun a hs => ?_
   obtain ⟨h_18, hm⟩ := ite_t hm
   obtain ⟨e_21, h_19, hm⟩ := bind_t hm
   obtain ⟨b_22, o_23, hA_24, h_20⟩ := Sl.elem hx_x0blocks h_19
   refine qdt 3 (.pointer (some ⟨b_22, o_23 + q_12.toNat * 3, none⟩)) (op := (.indexAddr 60 (.tmp 40) (.tmp 41))) hs hcl hqC_17 (fun w hw o ho => by rw [hC_17] at hw; exact run_idxSlc (k := .i64) ho (cap := c_x0blocks) (len := x0.blocks.length) ((congrArg (fun A => Value.slice A (x0.blocks.length) (c_x0blocks)) hA_24) ▸ (by kernel_rfl)) (by kernel_rfl) (by kernel_rfl) (idx_ok h_18 h_19) _) fun a hs => ?_
   refine qdt 4 (.agg (vals [ci e_21.kind, ci e_21.fromF, ci e_21.to])) (op := (.load 175 (.tmp 42))) hs hcl hqC_17 (fun w hw o ho => by rw [hC_17] at hw; exact run_loadN (cs := [ci e_21.kind, ci e_21.fromF, ci e_21.to]) ho (by kernel_rfl) (by kernel_rfl) rfl h_20 _ hw.drop.drop) fun a hs => ?_
   refine qdl 6 1 (C.slc A_x1blocks x1.blocks.length c_x1blocks) hs hcl hqC_17 hC_17 rfl fun a hs => ?_
   obtain ⟨h_25, hm⟩ := ite_t hm
   obtain ⟨e_28, h_26, hm⟩ := bind_t hm
   obtain ⟨b_29, o_30, hA_31, h_27⟩ := Sl.elem hx_x1blocks h_26
   refine qdt 8 (.pointer (some ⟨b_29, o_30 + q_12.toNat * 3, none⟩)) (op := (.indexAddr 60 (.tmp 45) (.tmp 46))) hs hcl hqC_17 (fun w hw o ho => by rw [hC_17] at hw; exact run_idxSlc (k := .i64) ho (cap := c_x1blocks) (len := x1.blocks.length) ((congrArg (fun A => Value.slice A (x1.blocks.length) (c_x1blocks)) hA_31) ▸ (by kernel_rfl)) (by kernel_rfl) (by kernel_rfl) (idx_ok h_25 h_26) _) fun a hs => ?_
   refine qdt 9 (.agg (vals [ci e_28.kind, ci e_28.fromF, ci e_28.to])) (op := (.load 175 (.tmp 47))) hs hcl hqC_17 (fun w hw o ho => by rw [hC_17] at hw; exact run_loadN (cs := [ci e_28.kind, ci e_28.fromF, ci e_28.to]) ho (by kernel_rfl) (by kernel_rfl) rfl h_27 _ hw.drop.drop) fun a hs => ?_
   refine qdt 10 (.bool (!(((e_21.kind == e_28.kind) && ((e_21.fromF == e_28.fromF) && ((e_21.to == e_28.to) && true)))))) (op := (.binOp .neq 175 (.tmp 43) (.tmp 48) 175)) hs hcl hqC_17 (fun w hw o ho => by rw [hC_17] at hw; exact run_neqV (ks := ([LK.int .i64] ++ [LK.int .i64] ++ [LK.int .i64])) (cs := [ci e_21.kind, ci e_21.fromF, ci e_21.to]) (us := [ci e_28.kind, ci e_28.fromF, ci e_28.to]) ho (by kernel_rfl) (by kernel_rfl) (by kernel_rfl) rfl rfl _) fun a hs => ?_
   replace hs := hs.pick [2, 3, 5, 49] (L' := [(2, pp b_2), (3, pp b_3), (5, vi q_12), (49, .bool (!(((e_21.kind == e_28.kind) && ((e_21.fromF == e_28.fromF) && ((e_21.to == e_28.to) && true))))))]) (by kernel_rfl)
   refine Vk.dDone (by kernel_rfl) ?_
   refine hK16 _ _ ?_
   clear hK16
   refine qcs (!(((e_21.kind == e_28.kind) && ((e_21.fromF == e_28.fromF) && ((e_21.to == e_28.to) && true))))) hs (fun hb => ?_) fun hb => ?_
   ·replace hm := bif_t hm hb
    refine qse 1 [(4, .bool false)] hs fun a hs => ?_
    refine wp_ret ?_
    exact Vk.ret1 (P := Try.prog) (fn := Try.f109) (R := RR) (.bool false) hs rfl (by kernel_rfl) (by obtain rfl := hret11 _ ((Option.some.inj hm).symm); subst hRR; exact ⟨rfl, hs.own.f1.drop.drop⟩)
   ·replace hm := bif_f hm hb
    refine wp_skip ?_
    refine hK15 _ _ ?_
    clear hK15
    refine Vk.region ?_
    refine qpk 3 [2, 3, 5] hs fun a hs => ?_
    refine ih (IntKind.i64.wrap (q_12 + 1)) _ _ ⟨hm, hs.go [2, 3, 5] [0, 1] 2 (by kernel_rfl) (by kernel_rfl) (by kernel_rfl)⟩
  ·replace hm := bif_f hm hb
   refine wp_exit ?_
   exact hx11 (Option.some.inj hm).symm _ _ (hs.go [2, 3] [0, 1] 2 (by kernel_rfl) (by kernel_rfl) (by kernel_rfl))

structure Tvisorlaw20_Pair where
 m : Twire_Machine
 x : Tvisorref19_M
 l : List Cells
 v : List Int
 deriving Inhabited
def Tvisorlaw20_Pair.obj (x : Tvisorlaw20_Pair) (bm : Nat) (bx : Nat) (Al : Option Addr) (cl : Nat) (Av : Option Addr) (cv : Nat) : Cells := [C.ptr (some ⟨bm, 0, none⟩), C.ptr (some ⟨bx, 0, none⟩), C.slc Al x.l.length cl, C.slc Av x.v.length cv]

def visorlaw20_Pair_Like.l1 (x0 : Tvisorlaw20_Pair) (v_6 : List Int) : Nat → Int → Option (Sum (Bool) (Unit))
 | 0, _ => none
 | k + 1, q_39 => (bif decide (q_39 < ((v_6.length : Nat) : Int)) then (if 0 ≤ q_39 then (v_6[q_39.toNat]?).bind fun e_52 => (if 0 ≤ q_39 then (x0.x.val[q_39.toNat]?).bind fun e_59 => (bif e_52 != e_59 then some (.inl false) else visorlaw20_Pair_Like.l1 x0 v_6 k (IntKind.i64.wrap (q_39 + 1))) else none) else none) else some (.inr ()))
def visorlaw20_Pair_Like.j1 (k : Nat) (x0 : Tvisorlaw20_Pair) (v_6 : List Int) (p_34 : Bool) : Option (Bool) := (bif p_34 then some false else (visorlaw20_Pair_Like.l1 x0 v_6 k 0).bind fun x => match x with | .inl v => some v | .inr () => some true)
abbrev visorlaw20_Pair_Like.R (κ : Ctx) (S : List HP) (x0 : Tvisorlaw20_Pair) (b_x0m : Nat) (g_x0m : Nat × Option Addr × Nat × Option Addr × Nat × Option Addr × Nat) (b_x0x : Nat) (g_x0x : Option Addr × Nat × Option Addr × Nat × Option Addr × Nat × Option Addr × Nat) (A_x0l : Option Addr) (c_x0l : Nat) (A_x0v : Option Addr) (c_x0v : Nat) (r : Bool) : Ending → World → Prop := fun e w' => e = .returned (.bool r) ∧ Ow κ w' (bagL (Twire_Machine.parts b_x0m x0.m g_x0m) :: bagL (Tvisorref19_M.parts κ b_x0x x0.x g_x0x) :: S)
def visorlaw20_Pair_Like.m (k : Nat) (x0 : Tvisorlaw20_Pair) : Option Bool := (wire_Machine_Values.m k x0.m).bind fun v_6 => (bif ((v_6.length : Nat) : Int) != ((x0.x.val.length : Nat) : Int) then visorlaw20_Pair_Like.j1 k x0 v_6 true else (wire_Machine_Err.m k x0.m).bind fun v_18 => (bif v_18 != x0.x.e then visorlaw20_Pair_Like.j1 k x0 v_6 true else (wire_Machine_Trace.m k x0.m).bind fun v_21 => (visorref18_Same.m k v_21 (⟨x0.x.n, x0.x.ops, x0.x.blocks⟩ : Tapi_Trace)).bind fun v_33 => visorlaw20_Pair_Like.j1 k x0 v_6 (!v_33)))

set_option maxRecDepth 100000 in
set_option maxHeartbeats 4000000 in
theorem visorlaw20_Pair_Like.ok (k : Nat) (x0 : Tvisorlaw20_Pair) (r : Bool) (hm : visorlaw20_Pair_Like.m k x0 = some r) (κ : Ctx) (w : World) (S : List HP) (b_x0m : Nat) (g_x0m : Nat × Option Addr × Nat × Option Addr × Nat × Option Addr × Nat) (b_x0x : Nat) (g_x0x : Option Addr × Nat × Option Addr × Nat × Option Addr × Nat × Option Addr × Nat) (A_x0l : Option Addr) (c_x0l : Nat) (hx_x0l : Sl κ S A_x0l c_x0l 3 eC x0.l) (A_x0v : Option Addr) (c_x0v : Nat) (hx_x0v : Sl κ S A_x0v c_x0v 1 (eI .u64) x0.v) (ho : Ow κ w (bagL (Twire_Machine.parts b_x0m x0.m g_x0m) :: bagL (Tvisorref19_M.parts κ b_x0x x0.x g_x0x) :: S)) :
  Calls Try.prog 26 #[.agg (vals [cp b_x0m, cp b_x0x, C.slc A_x0l x0.l.length c_x0l, C.slc A_x0v x0.v.length c_x0v])] w (visorlaw20_Pair_Like.R κ S x0 b_x0m g_x0m b_x0x g_x0x A_x0l c_x0l A_x0v c_x0v r) := by
 unfold visorlaw20_Pair_Like.m at hm
 generalize hRR : visorlaw20_Pair_Like.R κ S x0 b_x0m g_x0m b_x0x g_x0x A_x0l c_x0l A_x0v c_x0v r = RR
 refine qen [(0, .agg (vals [cp b_x0m, cp b_x0x, C.slc A_x0l x0.l.length c_x0l, C.slc A_x0v x0.v.length c_x0v]))] Try.func26 Try.ntmps26 ho fun a hs => ?_
 refine qsr fun K1 hK1 => ?_
 refine qbx 0 45 [cp b_x0m, cp b_x0x, C.slc A_x0l x0.l.length c_x0l, C.slc A_x0v x0.v.length c_x0v] 1 hs fun b_2 w a hs => ?_
 refine qpe 1 [(1, pp b_2)] hs fun a hs => hK1 _ _ ?_
 clear hK1
 refine qsr fun K3 hK3 => ?_
 refine qpu 1 hs fun a hs => ?_
 refine qld 0 (cp b_x0m) hs rfl fun a hs => ?_
 obtain ⟨v_6, h_5, hm⟩ := bind_t hm
 refine Vk.step (Vk.call (some 7) 22 #[pp b_x0m] hs (by kernel_rfl) (by kernel_rfl) (by kernel_rfl) ?_)
 refine (wire_Machine_Values.ok k x0.m v_6 h_5 κ w (pt b_2 (blk (Tvisorlaw20_Pair.obj x0 b_x0m b_x0x A_x0l c_x0l A_x0v c_x0v) 45) :: bagL (Tvisorref19_M.parts κ b_x0x x0.x g_x0x) :: S) b_x0m g_x0m hs.own.f1).mono ?_
 rintro _ w ⟨Ar4x0_7, cr4x0_8, rfl, how⟩
 refine ⟨_, _, _, rfl, how, fun a hs => ?_⟩
 refine qpk 1 [1, 3] hs fun a hs => hK3 _ _ ?_
 clear hK3
 refine Vk.seq fun K9 hK9 => ?_
 refine Vk.seq fun K10 hK10 => ?_
 have hj10 : ∀ (p_34 : Bool), visorlaw20_Pair_Like.j1 k x0 v_6 p_34 = some r → ∀ (a : Act) (w : World), St 57 a w κ [(1, pp b_2), (3, .slice Ar4x0_7 v_6.length cr4x0_8), (37, .bool p_34)] (pt b_2 (blk (Tvisorlaw20_Pair.obj x0 b_x0m b_x0x A_x0l c_x0l A_x0v c_x0v) 45) :: bagL (Twire_Machine.parts b_x0m x0.m g_x0m) :: bagL (Tvisorref19_M.parts κ b_x0x x0.x g_x0x) :: rowp Ar4x0_7 cr4x0_8 32 1 (eI .u64) v_6 :: S) → K10 a w := by
  intro p_34 hm a w hs
  unfold visorlaw20_Pair_Like.j1 at hm
  refine hK10 _ _ ?_
  refine qcs (p_34) hs (fun hb => ?_) fun hb => ?_
  ·replace hm := bif_t hm hb
   refine qse 1 [(2, .bool false)] hs fun a hs => ?_
   refine wp_ret ?_
   exact qr1 (.bool false) hs rfl hRR (by cases hm; exact ⟨rfl, hs.own.f3.drop.drop⟩)
  ·replace hm := bif_f hm hb
   refine wp_skip ?_
   refine hK9 _ _ ?_
   clear hK9
   refine Vk.seq fun K36 hK36 => ?_
   refine qsk 1 [1, 3, 4] hs fun a hs => ?_
   refine wp_block ?_
   obtain ⟨r38, hl38, hm⟩ := bind_t hm
   have hx38 : r38 = Sum.inr () → ∀ (a : Act) (w : World), St 57 a w κ [] (bagL (Twire_Machine.parts b_x0m x0.m g_x0m) :: bagL (Tvisorref19_M.parts κ b_x0x x0.x g_x0x) :: S) → K36 a w := by
    intro he a w hs
    subst r38
    refine hK36 _ _ ?_
    clear hK36
    refine qse 1 [(2, .bool true)] hs fun a hs => ?_
    refine wp_ret ?_
    exact qr1 (.bool true) hs rfl hRR (by cases hm; exact ⟨rfl, hs.own⟩)
   have hret38 : ∀ v, r38 = Sum.inl v → v = r := by intro v he; subst r38; exact Option.some.inj hm
   refine Vk.loopBy (fun k (s : Int) a w => visorlaw20_Pair_Like.l1 x0 v_6 k s = some r38 ∧ St 57 a w κ [(1, pp b_2), (3, .slice Ar4x0_7 v_6.length cr4x0_8), (4, vi s)] (pt b_2 (blk (Tvisorlaw20_Pair.obj x0 b_x0m b_x0x A_x0l c_x0l A_x0v c_x0v) 45) :: bagL (Twire_Machine.parts b_x0m x0.m g_x0m) :: bagL (Tvisorref19_M.parts κ b_x0x x0.x g_x0x) :: rowp Ar4x0_7 cr4x0_8 32 1 (eI .u64) v_6 :: S)) k 0 ⟨hl38, hs.go [1, 3, 4] [0, 1, 2, 3] 4 (by kernel_rfl) (by kernel_rfl) (by kernel_rfl)⟩ (fun s a w h => by obtain ⟨h1, _⟩ := h; simp [visorlaw20_Pair_Like.l1] at h1) (fun k KL38 ih q_39 a w h => ?_)
   obtain ⟨hm, hs⟩ := h
   try dsimp only at hm hs
   rw [visorlaw20_Pair_Like.l1] at hm
   refine Vk.seq fun K40 hK40 => ?_
   refine qsk 4 [1, 3, 4, 41] hs fun a hs => ?_
   refine qcs (decide (q_39 < ((v_6.length : Nat) : Int))) hs (fun hb => ?_) fun hb => ?_
   ·replace hm := bif_t hm hb
    refine wp_skip ?_
    refine hK40 _ _ ?_
    clear hK40
    refine Vk.seq fun K42 hK42 => ?_
    refine wp_block ?_
    refine Vk.seq fun K43 hK43 => ?_
    replace hs := hs.unbagAt 2 rfl
    obtain ⟨C_48, hC_48⟩ : ∃ X0 : List HP, X0 = (pt b_x0x (blk (Tvisorref19_M.obj x0.x g_x0x.1 g_x0x.2.1 g_x0x.2.2.1 g_x0x.2.2.2.1 g_x0x.2.2.2.2.1 g_x0x.2.2.2.2.2.1 g_x0x.2.2.2.2.2.2.1 g_x0x.2.2.2.2.2.2.2) 64) :: rowp g_x0x.1 g_x0x.2.1 93 6 Tapi_Op.cells x0.x.ops :: rowp g_x0x.2.2.1 g_x0x.2.2.2.1 175 3 Tapi_Span.cells x0.x.blocks :: rowp g_x0x.2.2.2.2.1 g_x0x.2.2.2.2.2.1 32 1 (eI .u64) x0.x.val :: rdp κ g_x0x.2.2.2.2.2.2.1 g_x0x.2.2.2.2.2.2.2 1 (eI .u64) x0.x.tape.l :: pt b_2 (blk (Tvisorlaw20_Pair.obj x0 b_x0m b_x0x A_x0l c_x0l A_x0v c_x0v) 45) :: bagL (Twire_Machine.parts b_x0m x0.m g_x0m) :: rowp Ar4x0_7 cr4x0_8 32 1 (eI .u64) v_6 :: S) := ⟨_, rfl⟩
    refine qdr 13 κ C_48 hs fun w hs hqC_48 => ?_
    have hcz : Ow κ w (pt b_x0x (blk (Tvisorref19_M.obj x0.x g_x0x.1 g_x0x.2.1 g_x0x.2.2.1 g_x0x.2.2.2.1 g_x0x.2.2.2.2.1 g_x0x.2.2.2.2.2.1 g_x0x.2.2.2.2.2.2.1 g_x0x.2.2.2.2.2.2.2) 64) :: rowp g_x0x.1 g_x0x.2.1 93 6 Tapi_Op.cells x0.x.ops :: rowp g_x0x.2.2.1 g_x0x.2.2.2.1 175 3 Tapi_Span.cells x0.x.blocks :: rowp g_x0x.2.2.2.2.1 g_x0x.2.2.2.2.2.1 32 1 (eI .u64) x0.x.val :: rdp κ g_x0x.2.2.2.2.2.2.1 g_x0x.2.2.2.2.2.2.2 1 (eI .u64) x0.x.tape.l :: pt b_2 (blk (Tvisorlaw20_Pair.obj x0 b_x0m b_x0x A_x0l c_x0l A_x0v c_x0v) 45) :: bagL (Twire_Machine.parts b_x0m x0.m g_x0m) :: rowp Ar4x0_7 cr4x0_8 32 1 (eI .u64) v_6 :: S) := hs.own
    have hcl : Ow κ w C_48 := by rw [hC_48]; exact hcz
    refine qdp (fuel := 9) [0, 1, 4, 9] hs hcl hqC_48 fun a hs => ?_
    obtain ⟨h_49, hm⟩ := ite_t hm
    obtain ⟨e_52, h_50, hm⟩ := bind_t hm
    obtain ⟨b_53, o_54, hA_55, h_51⟩ := Sl.elem (Ow.rowSl 0 hcz.drop.drop.drop.drop.drop.drop.drop rfl) h_50
    refine qdt 2 (.pointer (some ⟨b_53, o_54 + q_39.toNat * 1, none⟩)) (op := (.indexAddr 25 (.tmp 44) (.tmp 45))) hs hcl hqC_48 (fun w hw o ho => by rw [hC_48] at hw; exact run_idxSlc (k := .i64) ho (cap := cr4x0_8) (len := v_6.length) ((congrArg (fun A => Value.slice A (v_6.length) (cr4x0_8)) hA_55) ▸ (by kernel_rfl)) (by kernel_rfl) (by kernel_rfl) (idx_ok h_49 h_50) _) fun a hs => ?_
    refine qdt 3 (vw e_52) (op := (.load 32 (.tmp 46))) hs hcl hqC_48 (fun w hw o ho => by rw [hC_48] at hw; exact run_load1 (c := cw e_52) ho (by kernel_rfl) (by kernel_rfl) (fun w ho => h_51 w ho 0 _ rfl) _ hw.drop.drop.drop.drop.drop.drop.drop) fun a hs => ?_
    refine qdl 5 5 (cp b_x0x) hs hcl hqC_48 hC_48 rfl fun a hs => ?_
    refine qdp (fuel := 4) [6, 7] hs hcl hqC_48 fun a hs => ?_
    refine qdl 8 0 (C.slc g_x0x.2.2.2.2.1 x0.x.val.length g_x0x.2.2.2.2.2.1) hs hcl hqC_48 hC_48 rfl fun a hs => ?_
    obtain ⟨h_56, hm⟩ := ite_t hm
    obtain ⟨e_59, h_57, hm⟩ := bind_t hm
    obtain ⟨b_60, o_61, hA_62, h_58⟩ := Sl.elem (Ow.rowSl 0 (Ow.to (S' := rowp g_x0x.2.2.2.2.1 g_x0x.2.2.2.2.2.1 32 1 (eI .u64) x0.x.val :: S) hcz [3] 8 (by kernel_rfl) (by kernel_rfl)) rfl) h_57
    refine qdt 10 (.pointer (some ⟨b_60, o_61 + q_39.toNat * 1, none⟩)) (op := (.indexAddr 25 (.tmp 52) (.tmp 53))) hs hcl hqC_48 (fun w hw o ho => by rw [hC_48] at hw; exact run_idxSlc (k := .i64) ho (cap := g_x0x.2.2.2.2.2.1) (len := x0.x.val.length) ((congrArg (fun A => Value.slice A (x0.x.val.length) (g_x0x.2.2.2.2.2.1)) hA_62) ▸ (by kernel_rfl)) (by kernel_rfl) (by kernel_rfl) (idx_ok h_56 h_57) _) fun a hs => ?_
    refine qdt 11 (vw e_59) (op := (.load 32 (.tmp 54))) hs hcl hqC_48 (fun w hw o ho => by rw [hC_48] at hw; exact run_load1 (c := cw e_59) ho (by kernel_rfl) (by kernel_rfl) (fun w ho => h_58 w ho 0 _ rfl) _ (Ow.to (S' := rowp g_x0x.2.2.2.2.1 g_x0x.2.2.2.2.2.1 32 1 (eI .u64) x0.x.val :: S) hw [3] 8 (by kernel_rfl) (by kernel_rfl))) fun a hs => ?_
    refine qdp (fuel := 0) [12] hs hcl hqC_48 fun a hs => ?_
    replace hs := hs.pick [1, 3, 4, 56] (L' := [(1, pp b_2), (3, .slice Ar4x0_7 v_6.length cr4x0_8), (4, vi q_39), (56, .bool (e_52 != e_59))]) (by kernel_rfl)
    refine Vk.dDone (by kernel_rfl) ?_
    refine hK43 _ _ ?_
    clear hK43
    refine qcs (e_52 != e_59) hs (fun hb => ?_) fun hb => ?_
    ·replace hm := bif_t hm hb
     refine qse 1 [(2, .bool false)] hs fun a hs => ?_
     refine wp_ret ?_
     replace hs := hs.bagG (l := Tvisorref19_M.parts κ b_x0x x0.x g_x0x) (S' := pt b_2 (blk (Tvisorlaw20_Pair.obj x0 b_x0m b_x0x A_x0l c_x0l A_x0v c_x0v) 45) :: bagL (Twire_Machine.parts b_x0m x0.m g_x0m) :: rowp Ar4x0_7 cr4x0_8 32 1 (eI .u64) v_6 :: S) hs.own
     exact Vk.ret1 (P := Try.prog) (fn := Try.f26) (R := RR) (.bool false) hs rfl (by kernel_rfl) (by obtain rfl := hret38 _ ((Option.some.inj hm).symm); subst hRR; exact ⟨rfl, hs.own.f3.drop.f1.drop.f1⟩)
    ·replace hm := bif_f hm hb
     refine wp_skip ?_
     refine hK42 _ _ ?_
     clear hK42
     refine Vk.region ?_
     refine qpe 3 [(1, pp b_2), (3, .slice Ar4x0_7 v_6.length cr4x0_8), (4, vi (IntKind.i64.wrap (q_39 + 1)))] hs fun a hs => ?_
     replace hs := hs.bagG (l := Tvisorref19_M.parts κ b_x0x x0.x g_x0x) (S' := pt b_2 (blk (Tvisorlaw20_Pair.obj x0 b_x0m b_x0x A_x0l c_x0l A_x0v c_x0v) 45) :: bagL (Twire_Machine.parts b_x0m x0.m g_x0m) :: rowp Ar4x0_7 cr4x0_8 32 1 (eI .u64) v_6 :: S) hs.own
     refine ih (IntKind.i64.wrap (q_39 + 1)) _ _ ⟨hm, hs.go [1, 3, 4] [1, 2, 0, 3] 4 (by kernel_rfl) (by kernel_rfl) (by kernel_rfl)⟩
   ·replace hm := bif_f hm hb
    refine wp_exit ?_
    exact hx38 (Option.some.inj hm).symm _ _ (hs.go [] [1, 2] 4 (by kernel_rfl) (by kernel_rfl) (by kernel_rfl))
 replace hs := hs.unbagAt 3 rfl
 obtain ⟨C_15, hC_15⟩ := qC hs.own
 refine qdr 30 κ C_15 hs fun w hs hqC_15 => ?_
 have hcl := qO hC_15 hs.own
 refine qdp (fuel := 27) [0, 1, 2] hs hcl hqC_15 fun a hs => ?_
 refine qdl 3 7 (cp b_x0x) hs hcl hqC_15 hC_15 rfl fun a hs => ?_
 refine qdp (fuel := 24) [4, 5] hs hcl hqC_15 fun a hs => ?_
 refine qdl 6 0 (C.slc g_x0x.2.2.2.2.1 x0.x.val.length g_x0x.2.2.2.2.2.1) hs hcl hqC_15 hC_15 rfl fun a hs => ?_
 refine qdp (fuel := 20) [7, 8, 9] hs hcl hqC_15 fun a hs => ?_
 rcases Bool.eq_false_or_eq_true (((v_6.length : Nat) : Int) != ((x0.x.val.length : Nat) : Int)) with hb | hb
 ·replace hm := bif_t hm hb
  replace hs := hs.known (t := 17) hb (by kernel_rfl)
  refine qdp (fuel := 0) [10, 11, 12, 13, 14, 15, 16, 17, 18, 19, 20, 21, 22, 23, 24, 25, 26, 27, 28, 29] hs hcl hqC_15 fun a hs => ?_
  replace hs := hs.pick [1, 3, 37] (L' := [(1, pp b_2), (3, .slice Ar4x0_7 v_6.length cr4x0_8), (37, .bool true)]) (by kernel_rfl)
  refine Vk.dDone (by kernel_rfl) ?_
  replace hs := hs.bagG (l := Tvisorref19_M.parts κ b_x0x x0.x g_x0x) (S' := rowp Ar4x0_7 cr4x0_8 32 1 (eI .u64) v_6 :: bagL (Twire_Machine.parts b_x0m x0.m g_x0m) :: pt b_2 (blk (Tvisorlaw20_Pair.obj x0 b_x0m b_x0x A_x0l c_x0l A_x0v c_x0v) 45) :: S) hs.own
  exact hj10 true hm _ _ (hs.go [1, 3, 37] [3, 2, 0, 1] 4 (by kernel_rfl) (by kernel_rfl) (by kernel_rfl))
 ·replace hm := bif_f hm hb
  replace hs := hs.known (t := 17) hb (by kernel_rfl)
  refine qdp (fuel := 18) [10, 13] hs hcl hqC_15 fun a hs => ?_
  refine qdl 11 7 (cp b_x0m) hs hcl hqC_15 hC_15 rfl fun a hs => ?_
  refine qdl 14 7 (cp b_x0x) hs hcl hqC_15 hC_15 rfl fun a hs => ?_
  refine qdp (fuel := 14) [15, 16] hs hcl hqC_15 fun a hs => ?_
  refine qdl 17 0 (ci x0.x.e) hs hcl hqC_15 hC_15 rfl fun a hs => ?_
  obtain ⟨v_18, h_17, hm⟩ := bind_t hm
  refine qdc 12 (wire_Machine_Err.ok _ _ _ h_17 _ _ _ b_x0m g_x0m hs.own.f6) hs fun w a hs => ?_
  replace hcl : Ow κ w C_15 := by rw [hC_15]; exact (hs.own.too [1, 2, 3, 4, 5, 6, 0, 7] 8)
  refine ⟨fun _ => hcl, ?_⟩
  refine qdp (fuel := 9) [18, 19, 20] hs hcl hqC_15 fun a hs => ?_
  rcases Bool.eq_false_or_eq_true (v_18 != x0.x.e) with hb | hb
  ·replace hm := bif_t hm hb
   replace hs := hs.known (t := 28) hb (by kernel_rfl)
   refine qdp (fuel := 0) [21, 22, 23, 24, 25, 26, 27, 28, 29] hs hcl hqC_15 fun a hs => ?_
   replace hs := hs.pick [1, 3, 37] (L' := [(1, pp b_2), (3, .slice Ar4x0_7 v_6.length cr4x0_8), (37, .bool true)]) (by kernel_rfl)
   refine Vk.dDone (by kernel_rfl) ?_
   replace hs := hs.bagG (l := Tvisorref19_M.parts κ b_x0x x0.x g_x0x) (S' := bagL (Twire_Machine.parts b_x0m x0.m g_x0m) :: rowp Ar4x0_7 cr4x0_8 32 1 (eI .u64) v_6 :: pt b_2 (blk (Tvisorlaw20_Pair.obj x0 b_x0m b_x0x A_x0l c_x0l A_x0v c_x0v) 45) :: S) hs.own.f5.f5.f5.f5.f5
   exact hj10 true hm _ _ (hs.go [1, 3, 37] [3, 1, 0, 2] 4 (by kernel_rfl) (by kernel_rfl) (by kernel_rfl))
  ·replace hm := bif_f hm hb
   replace hs := hs.known (t := 28) hb (by kernel_rfl)
   refine qdp (fuel := 7) [21, 24] hs hcl hqC_15 fun a hs => ?_
   refine qdl 22 7 (cp b_x0m) hs hcl hqC_15 hC_15 rfl fun a hs => ?_
   refine qdl 25 7 (cp b_x0x) hs hcl hqC_15 hC_15 rfl fun a hs => ?_
   obtain ⟨v_21, h_20, hm⟩ := bind_t hm
   refine Vk.dOnly (i := 23) (by kernel_rfl) (Vk.call (some 31) 62 #[pp b_x0m] hs (by kernel_rfl) (by kernel_rfl) (by kernel_rfl) ?_)
   refine (wire_Machine_Trace.ok k x0.m v_21 h_20 κ w (pt b_x0x (blk (Tvisorref19_M.obj x0.x g_x0x.1 g_x0x.2.1 g_x0x.2.2.1 g_x0x.2.2.2.1 g_x0x.2.2.2.2.1 g_x0x.2.2.2.2.2.1 g_x0x.2.2.2.2.2.2.1 g_x0x.2.2.2.2.2.2.2) 64) :: rowp g_x0x.1 g_x0x.2.1 93 6 Tapi_Op.cells x0.x.ops :: rowp g_x0x.2.2.1 g_x0x.2.2.2.1 175 3 Tapi_Span.cells x0.x.blocks :: rowp g_x0x.2.2.2.2.1 g_x0x.2.2.2.2.2.1 32 1 (eI .u64) x0.x.val :: rdp κ g_x0x.2.2.2.2.2.2.1 g_x0x.2.2.2.2.2.2.2 1 (eI .u64) x0.x.tape.l :: rowp Ar4x0_7 cr4x0_8 32 1 (eI .u64) v_6 :: pt b_2 (blk (Tvisorlaw20_Pair.obj x0 b_x0m b_x0x A_x0l c_x0l A_x0v c_x0v) 45) :: S) b_x0m g_x0m hs.own).mono ?_
   rintro _ w ⟨Ar19x0ops_22, cr19x0ops_23, Ar19x0blocks_24, cr19x0blocks_25, rfl, how⟩
   refine ⟨_, _, _, rfl, how, fun a hs => ?_⟩
   replace hcl : Ow κ w C_15 := by rw [hC_15]; exact (hs.own.too [3, 4, 5, 6, 7, 8, 2, 9] 10)
   refine ⟨fun _ => hcl, ?_⟩
   refine Vk.dOnly (i := 26) (by kernel_rfl) (Vk.call (some 34) 110 #[pp b_x0x] hs (by kernel_rfl) (by kernel_rfl) (by kernel_rfl) ?_)
   refine Vk.enterI [(0, pp b_x0x)] Try.func110 rfl Try.ntmps110 (by kernel_rfl) (Nat.le_of_ble_eq_true (by kernel_rfl)) hs.own fun KR26 hKR26 hKP26 a hs => ?_
   refine qsr fun K27 hK27 => ?_
   refine qal 102 [ci 0, C.slc none 0 0, C.slc none 0 0] 2 hs fun b_28 w a hs => ?_
   refine qpe 0 [(0, pp b_x0x), (2, pp b_28)] hs fun a hs => hK27 _ _ ?_
   clear hK27
   refine Vk.seq fun K29 hK29 => ?_
   obtain ⟨C_30, hC_30⟩ := qC hs.own
   refine qdr 13 κ C_30 hs fun w hs hqC_30 => ?_
   have hcl := qO hC_30 hs.own
   refine qdp (fuel := 5) [0, 1, 2, 4, 5, 6, 8, 9, 10] hs hcl hqC_30 fun a hs => ?_
   refine qdl 3 4 (ci x0.x.n) hs hcl hqC_30 hC_30 rfl fun a hs => ?_
   refine qdl 7 4 (C.slc g_x0x.1 x0.x.ops.length g_x0x.2.1) hs hcl hqC_30 hC_30 rfl fun a hs => ?_
   refine qdl 11 4 (C.slc g_x0x.2.2.1 x0.x.blocks.length g_x0x.2.2.2.1) hs hcl hqC_30 hC_30 rfl fun a hs => ?_
   refine qdp (fuel := 1) [12] hs hcl hqC_30 fun a hs => ?_
   refine qsA 13 0 [ci x0.x.n, C.slc g_x0x.1 x0.x.ops.length g_x0x.2.1, C.slc g_x0x.2.2.1 x0.x.blocks.length g_x0x.2.2.2.1] hs rfl rfl rfl fun a w hs => ?_
   refine ⟨fun h => absurd h (by decide), ?_⟩
   replace hs := hs.pick [2] (L' := [(2, pp b_28)]) (by kernel_rfl)
   refine Vk.dDone (by kernel_rfl) ?_
   refine hK29 _ _ ?_
   clear hK29
   refine wp_ret ?_
   refine hKP26 _ _ ?_
   refine hKR26 _ _ ?_
   refine Vk.retC (P := Try.prog) (fn := Try.f110) [ci x0.x.n, C.slc g_x0x.1 x0.x.ops.length g_x0x.2.1, C.slc g_x0x.2.2.1 x0.x.blocks.length g_x0x.2.2.2.1] hs rfl (by kernel_rfl) (sz := 3) (by kernel_rfl) rfl (CellsAt.all 0 rfl) ⟨_, _, _, rfl, hs.own, fun a hs => ?_⟩
   replace hcl : Ow κ w C_15 := by rw [hC_15]; exact (hs.own.too [4, 5, 6, 7, 8, 9, 3, 10] 11)
   refine ⟨fun _ => hcl, ?_⟩
   obtain ⟨v_33, h_32, hm⟩ := bind_t hm
   refine qdc 27 (visorref18_Same.ok _ _ _ _ h_32 _ _ (pt b_28 (blk [ci x0.x.n, C.slc g_x0x.1 x0.x.ops.length g_x0x.2.1, C.slc g_x0x.2.2.1 x0.x.blocks.length g_x0x.2.2.2.1] 102) :: rowp Ar19x0ops_22 cr19x0ops_23 93 6 Tapi_Op.cells v_21.ops :: rowp Ar19x0blocks_24 cr19x0blocks_25 175 3 Tapi_Span.cells v_21.blocks :: bagL (Twire_Machine.parts b_x0m x0.m g_x0m) :: pt b_x0x (blk (Tvisorref19_M.obj x0.x g_x0x.1 g_x0x.2.1 g_x0x.2.2.1 g_x0x.2.2.2.1 g_x0x.2.2.2.2.1 g_x0x.2.2.2.2.2.1 g_x0x.2.2.2.2.2.2.1 g_x0x.2.2.2.2.2.2.2) 64) :: rowp g_x0x.1 g_x0x.2.1 93 6 Tapi_Op.cells x0.x.ops :: rowp g_x0x.2.2.1 g_x0x.2.2.2.1 175 3 Tapi_Span.cells x0.x.blocks :: rowp g_x0x.2.2.2.2.1 g_x0x.2.2.2.2.2.1 32 1 (eI .u64) x0.x.val :: rdp κ g_x0x.2.2.2.2.2.2.1 g_x0x.2.2.2.2.2.2.2 1 (eI .u64) x0.x.tape.l :: rowp Ar4x0_7 cr4x0_8 32 1 (eI .u64) v_6 :: pt b_2 (blk (Tvisorlaw20_Pair.obj x0 b_x0m b_x0x A_x0l c_x0l A_x0v c_x0v) 45) :: S) Ar19x0ops_22 cr19x0ops_23 (Sl.lift (fun w ho => (Ow.to (S' := rowp Ar19x0ops_22 cr19x0ops_23 93 6 Tapi_Op.cells v_21.ops :: S) ho [1] 11 (by kernel_rfl) (by kernel_rfl))) (Ow.rowSl 0 (Ow.to (S' := rowp Ar19x0ops_22 cr19x0ops_23 93 6 Tapi_Op.cells v_21.ops :: S) hs.own [1] 11 (by kernel_rfl) (by kernel_rfl)) rfl)) Ar19x0blocks_24 cr19x0blocks_25 (Sl.lift (fun w ho => (Ow.to (S' := rowp Ar19x0blocks_24 cr19x0blocks_25 175 3 Tapi_Span.cells v_21.blocks :: S) ho [2] 11 (by kernel_rfl) (by kernel_rfl))) (Ow.rowSl 0 (Ow.to (S' := rowp Ar19x0blocks_24 cr19x0blocks_25 175 3 Tapi_Span.cells v_21.blocks :: S) hs.own [2] 11 (by kernel_rfl) (by kernel_rfl)) rfl)) g_x0x.1 g_x0x.2.1 (Sl.lift (fun w ho => (Ow.to (S' := rowp g_x0x.1 g_x0x.2.1 93 6 Tapi_Op.cells x0.x.ops :: S) ho [5] 11 (by kernel_rfl) (by kernel_rfl))) (Ow.rowSl 0 (Ow.to (S' := rowp g_x0x.1 g_x0x.2.1 93 6 Tapi_Op.cells x0.x.ops :: S) hs.own [5] 11 (by kernel_rfl) (by kernel_rfl)) rfl)) g_x0x.2.2.1 g_x0x.2.2.2.1 (Sl.lift (fun w ho => (Ow.to (S' := rowp g_x0x.2.2.1 g_x0x.2.2.2.1 175 3 Tapi_Span.cells x0.x.blocks :: S) ho [6] 11 (by kernel_rfl) (by kernel_rfl))) (Ow.rowSl 0 (Ow.to (S' := rowp g_x0x.2.2.1 g_x0x.2.2.2.1 175 3 Tapi_Span.cells x0.x.blocks :: S) hs.own [6] 11 (by kernel_rfl) (by kernel_rfl)) rfl)) hs.own) hs fun w a hs => ?_
   replace hcl : Ow κ w C_15 := by rw [hC_15]; exact (hs.own.too [4, 5, 6, 7, 8, 9, 3, 10] 11)
   refine ⟨fun _ => hcl, ?_⟩
   refine qdp (fuel := 0) [28, 29] hs hcl hqC_15 fun a hs => ?_
   replace hs := hs.pick [1, 3, 37] (L' := [(1, pp b_2), (3, .slice Ar4x0_7 v_6.length cr4x0_8), (37, .bool (!v_33))]) (by kernel_rfl)
   refine Vk.dDone (by kernel_rfl) ?_
   replace hs := hs.bagG (l := Tvisorref19_M.parts κ b_x0x x0.x g_x0x) (S' := pt b_28 (blk [ci x0.x.n, C.slc g_x0x.1 x0.x.ops.length g_x0x.2.1, C.slc g_x0x.2.2.1 x0.x.blocks.length g_x0x.2.2.2.1] 102) :: rowp Ar19x0ops_22 cr19x0ops_23 93 6 Tapi_Op.cells v_21.ops :: rowp Ar19x0blocks_24 cr19x0blocks_25 175 3 Tapi_Span.cells v_21.blocks :: bagL (Twire_Machine.parts b_x0m x0.m g_x0m) :: rowp Ar4x0_7 cr4x0_8 32 1 (eI .u64) v_6 :: pt b_2 (blk (Tvisorlaw20_Pair.obj x0 b_x0m b_x0x A_x0l c_x0l A_x0v c_x0v) 45) :: S) hs.own.f8.f8.f8.f8.f8
   exact hj10 (!v_33) hm _ _ (hs.go [1, 3, 37] [6, 4, 0, 5] 7 (by kernel_rfl) (by kernel_rfl) (by kernel_rfl))


def visorlaw24_awake.j1 (k : Nat) (p_71 : Bool) : Option (Bool) := some p_71
abbrev visorlaw24_awake.R (κ : Ctx) (S : List HP) (r : Bool) : Ending → World → Prop := fun e w' => e = .returned (.bool r) ∧ Ow κ w' (S)
def visorlaw24_awake.m (k : Nat) : Option Bool := ((visorlaw20_Begins.m k 2 ([77] : List Int) 99).bind fun v => match v with | (.inl v_8) => some false | (.inr v_15) => (bif !v_15.2.2.2.2 then some false else (share_Public.m k v_15.1 258).bind fun v_33 => (if v_33.1.length = 3 then (guard_Bytes.m k v_33.2 ([v_33.1] : List Cells) 2).bind fun v_39 => (bif ((v_39.1.length : Nat) : Int) == 2 then (if 0 ≤ (0 : Int) then (v_39.1[0]?).bind fun e_53 => (bif e_53 == 2 then (if 0 ≤ (1 : Int) then (v_39.1[1]?).bind fun e_67 => visorlaw24_awake.j1 k (e_67 == 1) else none) else visorlaw24_awake.j1 k false) else none) else visorlaw24_awake.j1 k false) else none)))

set_option maxRecDepth 100000 in
set_option maxHeartbeats 4000000 in
theorem visorlaw24_awake.ok (k : Nat) (r : Bool) (hm : visorlaw24_awake.m k = some r) (κ : Ctx) (w : World) (S : List HP) (ho : Ow κ w (S)) :
  Calls Try.prog 65 #[] w (visorlaw24_awake.R κ S r) := by
 unfold visorlaw24_awake.m at hm
 generalize hRR : visorlaw24_awake.R κ S r = RR
 refine qen [] Try.func65 Try.ntmps65 ho fun a hs => ?_
 refine qse 1 [] hs fun a hs => ?_
 refine qsr fun K2 hK2 => ?_
 refine Vk.step (Vk.buildOp (sz := 1) (by_ := 8) (t := 25) (e := 32) (parts := #[(0, (.const (vw 77)))]) (zs := vals [cw 0]) ([77] : List Int) (eI .u64) (some 5) hs (by kernel_rfl) (by kernel_rfl) (by kernel_rfl) (by kernel_rfl) (by decide) rfl (fun x _ => rfl) (Nat.le_of_ble_eq_true (by kernel_rfl)) (by kernel_rfl) fun A_3 w a hs => ?_)
 replace hs := hs.toRd 0 rfl
 obtain ⟨v_7, h_6, hm⟩ := bind_t hm
 refine Vk.step (Vk.call (some 6) 18 #[vi 2, .slice A_3 (([77] : List Int).length) 1, vi 99] hs (by kernel_rfl) (by kernel_rfl) (by kernel_rfl) ?_)
 refine (visorlaw20_Begins.ok k 2 ([77] : List Int) 99 v_7 h_6 κ w (S) A_3 1 hs.own).mono ?_
 rintro _ w (⟨v_8, rfl, br5x0x_9, Ar5x0l_10, cr5x0l_11, Ar5x0v_12, cr5x0v_13, rfl, how⟩ | ⟨v_15, rfl, br5x0m_16, br5x0x_17, Ar5x0l_18, cr5x0l_19, Ar5x0v_20, cr5x0v_21, rfl, how⟩)
 ·dsimp only at hm
  refine ⟨_, _, _, rfl, how, fun a hs => ?_⟩
  refine qpu 3 hs fun a hs => ?_
  refine qal 45 [C.ptr none, C.ptr none, C.slc none 0 0, C.slc none 0 0] 1 hs fun b_14 w a hs => ?_
  refine qsa 0 [C.ptr none, cp br5x0x_9, C.slc Ar5x0l_10 v_8.2.1.length cr5x0l_11, C.slc Ar5x0v_12 v_8.2.2.length cr5x0v_13] hs rfl fun a w hs => ?_
  refine qpk 1 [1, 2] hs fun a hs => hK2 _ _ ?_
  refine Vk.seq fun K23 hK23 => ?_
  refine qsk 2 [1, 10] hs fun a hs => ?_
  refine qct hs ?_
  refine qse 1 [(0, .bool false)] hs fun a hs => ?_
  refine wp_ret ?_
  exact qr1 (.bool false) hs rfl hRR (by cases hm; exact ⟨rfl, (hs.own.too [] 4)⟩)
 ·dsimp only at hm
  refine ⟨_, _, _, rfl, how, fun a hs => ?_⟩
  refine qpu 3 hs fun a hs => ?_
  refine qal 45 [C.ptr none, C.ptr none, C.slc none 0 0, C.slc none 0 0] 1 hs fun b_22 w a hs => ?_
  refine qsa 0 [cp br5x0m_16, cp br5x0x_17, C.slc Ar5x0l_18 v_15.2.2.1.length cr5x0l_19, C.slc Ar5x0v_20 v_15.2.2.2.1.length cr5x0v_21] hs rfl fun a w hs => ?_
  refine qpk 1 [1, 2] hs fun a hs => hK2 _ _ ?_
  refine Vk.seq fun K26 hK26 => ?_
  refine qsk 2 [1, 10] hs fun a hs => ?_
  refine qcs (!v_15.2.2.2.2) hs (fun hb => ?_) fun hb => ?_
  ·replace hm := bif_t hm hb
   refine qse 1 [(0, .bool false)] hs fun a hs => ?_
   refine wp_ret ?_
   exact qr1 (.bool false) hs rfl hRR (by cases hm; exact ⟨rfl, (hs.own.too [] 5)⟩)
  ·replace hm := bif_f hm hb
   refine wp_skip ?_
   refine hK26 _ _ ?_
   clear hK26
   refine Vk.seq fun K29 hK29 => ?_
   obtain ⟨C_30, hC_30⟩ := qC hs.own.f1.drop
   refine qdr 8 κ C_30 hs fun w hs hqC_30 => ?_
   have hcl := qO hC_30 hs.own.f1.drop
   refine qdp (fuel := 6) [0, 2] hs hcl hqC_30 fun a hs => ?_
   refine qdl 1 0 (cp br5x0m_16) hs hcl hqC_30 hC_30 rfl fun a hs => ?_
   refine qdl 3 0 (cp br5x0m_16) hs hcl hqC_30 hC_30 rfl fun a hs => ?_
   obtain ⟨v_33, h_32, hm⟩ := bind_t hm
   refine qdc 4 (share_Public.ok _ _ _ _ h_32 _ _ _ br5x0m_16 hs.own.f1) hs fun w a hs => ?_
   replace hcl := qO hC_30 hs.own.drop
   refine ⟨fun _ => hcl, ?_⟩
   obtain ⟨h_36, hm⟩ := ite_t hm
   refine Vk.dOnly (i := 5) (by kernel_rfl) (Vk.buildOp (sz := 3) (by_ := 24) (t := 43) (e := 28) (parts := #[(0, (.tmp 15))]) (zs := vals [ci 0, ci 0, ci 0]) ([v_33.1] : List Cells) eC (some 16) hs (by kernel_rfl) (by kernel_rfl) (by kernel_rfl) (by kernel_rfl) (by decide) rfl (fun x _ => by obtain rfl := List.mem_singleton.1 ‹_›; exact h_36) (Nat.le_of_ble_eq_true (by kernel_rfl)) (fill3 h_36 (by kernel_rfl)) fun A_34 w a hs => ?_)
   replace hcl := qO hC_30 hs.own.f1.drop.drop
   refine ⟨fun _ => hcl, ?_⟩
   obtain ⟨v_39, h_38, hm⟩ := bind_t hm
   refine Vk.dOnly (i := 6) (by kernel_rfl) (Vk.call (some 17) 61 #[pp br5x0m_16, .slice A_34 (([v_33.1] : List Cells).length) 1, vi 2] hs (by kernel_rfl) (by kernel_rfl) (by kernel_rfl) ?_)
   refine (guard_Bytes.ok k v_33.2 ([v_33.1] : List Cells) 2 v_39 h_38 κ w (rowp A_34 1 28 3 eC ([v_33.1] : List Cells) :: pt b_22 (blk [cp br5x0m_16, cp br5x0x_17, C.slc Ar5x0l_18 v_15.2.2.1.length cr5x0l_19, C.slc Ar5x0v_20 v_15.2.2.2.1.length cr5x0v_21] 45) :: Tvisorref19_M.own κ br5x0x_17 v_15.2.1 :: rowp Ar5x0l_18 cr5x0l_19 28 3 eC v_15.2.2.1 :: rowp Ar5x0v_20 cr5x0v_21 32 1 (eI .u64) v_15.2.2.2.1 :: S) br5x0m_16 A_34 1 (Sl.lift (fun w ho => (Ow.to (S' := rowp A_34 1 28 3 eC ([v_33.1] : List Cells) :: S) ho [0] 5 (by kernel_rfl) (by kernel_rfl))) (Ow.rowSl 0 (Ow.to (S' := rowp A_34 1 28 3 eC ([v_33.1] : List Cells) :: S) hs.own [0] 6 (by kernel_rfl) (by kernel_rfl)) rfl)) hs.own.f1).mono ?_
   rintro _ w ⟨Ar37x0_40, cr37x0_41, rfl, how⟩
   refine ⟨_, _, _, rfl, how, fun a hs => ?_⟩
   replace hcl := qO hC_30 hs.own.f2.drop.f1.drop.drop
   refine ⟨fun _ => hcl, ?_⟩
   refine qdp (fuel := 0) [7] hs hcl hqC_30 fun a hs => ?_
   replace hs := hs.pick [3] (L' := [(3, .slice Ar37x0_40 v_39.1.length cr37x0_41)]) (by kernel_rfl)
   refine Vk.dDone (by kernel_rfl) ?_
   refine hK29 _ _ ?_
   clear hK29
   refine Vk.seq fun K42 hK42 => ?_
   have hj42 : ∀ (p_71 : Bool), visorlaw24_awake.j1 k p_71 = some r → ∀ (a : Act) (w : World), St 33 a w κ [(0, .bool p_71)] (S) → K42 a w := by
    intro p_71 hm a w hs
    unfold visorlaw24_awake.j1 at hm
    refine hK42 _ _ ?_
    refine wp_ret ?_
    exact qr1 (.bool p_71) hs rfl hRR (by cases hm; exact ⟨rfl, hs.own⟩)
   refine Vk.region ?_
   refine qpu 4 hs fun a hs => ?_
   rcases Bool.eq_false_or_eq_true (((v_39.1.length : Nat) : Int) == 2) with hb | hb
   ·replace hm := bif_t hm hb
    replace hs := hs.known (t := 21) hb (by kernel_rfl)
    refine qpu 1 hs fun a hs => ?_
    obtain ⟨h_50, hm⟩ := ite_t hm
    obtain ⟨e_53, h_51, hm⟩ := bind_t hm
    obtain ⟨b_54, o_55, hA_56, h_52⟩ := Sl.elem (Ow.rowSl 0 (Ow.to (S' := rowp Ar37x0_40 cr37x0_41 5 1 (eI .u8) v_39.1 :: S) hs.own [0] 7 (by kernel_rfl) (by kernel_rfl)) rfl) h_51
    refine qva (.pointer (some ⟨b_54, o_55 + 0 * 1, none⟩)) (op := (.indexAddr 69 (.tmp 22) (.const (vi 0)))) hs (fun o ho => run_idxSlc (k := .i64) ho (cap := cr37x0_41) (len := v_39.1.length) ((congrArg (fun A => Value.slice A (v_39.1.length) (cr37x0_41)) hA_56) ▸ (by kernel_rfl)) (by kernel_rfl) (by kernel_rfl) (idx_ok h_50 h_51) _) fun a hs => ?_
    refine qva (.int .u8 e_53) (op := (.load 5 (.tmp 23))) hs (fun o ho => run_load1 (c := C.int .u8 e_53) ho (by kernel_rfl) (by kernel_rfl) (fun w ho => h_52 w ho 0 _ rfl) _ (Ow.to (S' := rowp Ar37x0_40 cr37x0_41 5 1 (eI .u8) v_39.1 :: S) hs.own [0] 7 (by kernel_rfl) (by kernel_rfl))) fun a hs => ?_
    refine qpu 3 hs fun a hs => ?_
    rcases Bool.eq_false_or_eq_true (e_53 == 2) with hb | hb
    ·replace hm := bif_t hm hb
     replace hs := hs.known (t := 27) hb (by kernel_rfl)
     refine qpu 1 hs fun a hs => ?_
     obtain ⟨h_64, hm⟩ := ite_t hm
     obtain ⟨e_67, h_65, hm⟩ := bind_t hm
     obtain ⟨b_68, o_69, hA_70, h_66⟩ := Sl.elem (Ow.rowSl 0 (Ow.to (S' := rowp Ar37x0_40 cr37x0_41 5 1 (eI .u8) v_39.1 :: S) hs.own [0] 7 (by kernel_rfl) (by kernel_rfl)) rfl) h_65
     refine qva (.pointer (some ⟨b_68, o_69 + 1 * 1, none⟩)) (op := (.indexAddr 69 (.tmp 28) (.const (vi 1)))) hs (fun o ho => run_idxSlc (k := .i64) ho (cap := cr37x0_41) (len := v_39.1.length) ((congrArg (fun A => Value.slice A (v_39.1.length) (cr37x0_41)) hA_70) ▸ (by kernel_rfl)) (by kernel_rfl) (by kernel_rfl) (idx_ok h_64 h_65) _) fun a hs => ?_
     refine qva (.int .u8 e_67) (op := (.load 5 (.tmp 29))) hs (fun o ho => run_load1 (c := C.int .u8 e_67) ho (by kernel_rfl) (by kernel_rfl) (fun w ho => h_66 w ho 0 _ rfl) _ (Ow.to (S' := rowp Ar37x0_40 cr37x0_41 5 1 (eI .u8) v_39.1 :: S) hs.own [0] 7 (by kernel_rfl) (by kernel_rfl))) fun a hs => ?_
     refine qpe 3 [(0, .bool (e_67 == 1))] hs fun a hs => ?_
     exact hj42 (e_67 == 1) hm _ _ (hs.go [0] [] 7 (by kernel_rfl) (by kernel_rfl) (by kernel_rfl))
    ·replace hm := bif_f hm hb
     replace hs := hs.known (t := 27) hb (by kernel_rfl)
     refine qpe 6 [(0, .bool false)] hs fun a hs => ?_
     exact hj42 false hm _ _ (hs.go [0] [] 7 (by kernel_rfl) (by kernel_rfl) (by kernel_rfl))
   ·replace hm := bif_f hm hb
    replace hs := hs.known (t := 21) hb (by kernel_rfl)
    refine qpe 12 [(0, .bool false)] hs fun a hs => ?_
    exact hj42 false hm _ _ (hs.go [0] [] 7 (by kernel_rfl) (by kernel_rfl) (by kernel_rfl))

structure Tvisorlaw24_Asked where
 three : Bool
 kind : Int
 n : Int
 l0 : Int
 l1 : Int
 l2 : Int
 l3 : Int
 l4 : Int
 l5 : Int
 l6 : Int
 l7 : Int
 many : Int
 masks : List Int
 deriving Inhabited
def Tvisorlaw24_Asked.obj (x : Tvisorlaw24_Asked) (Amasks : Option Addr) (cmasks : Nat) : Cells := [C.bool x.three, C.int .i64 x.kind, C.int .i64 x.n, C.int .u64 x.l0, C.int .u64 x.l1, C.int .u64 x.l2, C.int .u64 x.l3, C.int .u64 x.l4, C.int .u64 x.l5, C.int .u64 x.l6, C.int .u64 x.l7, C.int .u8 x.many, C.slc Amasks x.masks.length cmasks]

def visorlaw24_GuardTells.j4 (k : Nat) (p_181 : Bool) : Option (Bool) := some p_181
def visorlaw24_GuardTells.j3 (k : Nat) (v_19 : Twire_Machine × Tvisorref19_M × List Cells × List Int × Bool) (p_169 : Twire_Machine) (p_170 : Tvisorref19_M) (p_171 : Bool) : Option (Bool) := (bif p_171 then (visorlaw20_Pair_Like.m k (⟨p_169, p_170, v_19.2.2.1, v_19.2.2.2.1⟩ : Tvisorlaw20_Pair)).bind fun v_177 => (bif v_177 then (visorlaw24_awake.m k).bind fun v_180 => visorlaw24_GuardTells.j4 k v_180 else visorlaw24_GuardTells.j4 k false) else visorlaw24_GuardTells.j4 k false)
def visorlaw24_GuardTells.l1 (x0 : Tvisorlaw24_Asked) : Nat → Twire_Machine → Tvisorref19_M → Cells → Cells → Int → Option (Twire_Machine × Tvisorref19_M × Cells × Cells)
 | 0, _, _, _, _, _ => none
 | k + 1, q_54, q_55, q_56, q_57, q_58 => (bif decide (q_58 < 8) then (if 0 ≤ q_58 ∧ q_58 < 8 then (getI .u64 [C.bool x0.three, ci x0.kind, ci x0.n, cw x0.l0, cw x0.l1, cw x0.l2, cw x0.l3, cw x0.l4, cw x0.l5, cw x0.l6, cw x0.l7, C.int .u8 x0.many, C.bool false] (3 + q_58.toNat * 1)).bind fun v_66 => (share_Public.m k q_54 v_66).bind fun v_69 => (if 0 ≤ q_58 ∧ q_58 < 8 then (if v_69.1.length = 3 then (if 0 + q_58.toNat * 3 + v_69.1.length ≤ q_56.length then (if 0 ≤ q_58 ∧ q_58 < 8 then (getI .u64 [C.bool x0.three, ci x0.kind, ci x0.n, cw x0.l0, cw x0.l1, cw x0.l2, cw x0.l3, cw x0.l4, cw x0.l5, cw x0.l6, cw x0.l7, C.int .u8 x0.many, C.bool false] (3 + q_58.toNat * 1)).bind fun v_76 => (visorref20_Const.m k q_55 3 v_76).bind fun v_79 => (if 0 ≤ q_58 ∧ q_58 < 8 then (if v_79.1.length = 3 then (if 0 + q_58.toNat * 3 + v_79.1.length ≤ q_57.length then visorlaw24_GuardTells.l1 x0 k v_69.2 v_79.2 (splice q_56 (0 + q_58.toNat * 3) v_69.1) (splice q_57 (0 + q_58.toNat * 3) v_79.1) (IntKind.i64.wrap (q_58 + 1)) else none) else none) else none) else none) else none) else none) else none) else none) else some (q_54, q_55, q_56, q_57))
def visorlaw24_GuardTells.j2 (k : Nat) (x0 : Tvisorlaw24_Asked) (v_19 : Twire_Machine × Tvisorref19_M × List Cells × List Int × Bool) (p_46 : Bool) : Option (Bool) := (bif p_46 then some false else (visorlaw24_GuardTells.l1 x0 k v_19.1 v_19.2.1 [ci 0, ci 0, ci 0, ci 0, ci 0, ci 0, ci 0, ci 0, ci 0, ci 0, ci 0, ci 0, ci 0, ci 0, ci 0, ci 0, ci 0, ci 0, ci 0, ci 0, ci 0, ci 0, ci 0, ci 0] [ci 0, ci 0, ci 0, ci 0, ci 0, ci 0, ci 0, ci 0, ci 0, ci 0, ci 0, ci 0, ci 0, ci 0, ci 0, ci 0, ci 0, ci 0, ci 0, ci 0, ci 0, ci 0, ci 0, ci 0] 0).bind fun x => match x with | (p_83, p_84, p_85, p_86) => (bif x0.kind == 0 then (part? p_85 (0) 3).bind fun v_99 => (part? p_86 (0) 3).bind fun v_101 => (guard_Open.m k p_83 v_99).bind fun v_104 => (visorref24_Open.m k p_84 v_101).bind fun v_107 => visorlaw24_GuardTells.j3 k v_19 v_104.2 v_107.2 (v_104.1 == v_107.1) else (bif x0.kind == 1 then (part? p_85 (0) 3).bind fun v_111 => (part? p_86 (0) 3).bind fun v_113 => (guard_Yes.m k p_83 v_111).bind fun v_116 => (visorref24_Masked.m k p_84 v_113 1).bind fun v_119 => visorlaw24_GuardTells.j3 k v_19 v_116.2 v_119.2 (v_116.1 == (v_119.1 == 1)) else (bif x0.kind == 2 then (cks 3 8 p_85).bind fun l_122 => (if ((0 : Int) ≤ Int.tmod (IntKind.i64.wrap x0.many) 9) ∧ 0 ≤ (Int.tmod (IntKind.i64.wrap x0.many) 9).toNat ∧ (Int.tmod (IntKind.i64.wrap x0.many) 9).toNat ≤ l_122.length then (cks 3 8 p_86).bind fun l_131 => (if ((0 : Int) ≤ Int.tmod (IntKind.i64.wrap x0.many) 9) ∧ 0 ≤ (Int.tmod (IntKind.i64.wrap x0.many) 9).toNat ∧ (Int.tmod (IntKind.i64.wrap x0.many) 9).toNat ≤ l_131.length then (guard_Bytes.m k p_83 (cut l_122 (0) ((Int.tmod (IntKind.i64.wrap x0.many) 9).toNat)) x0.n).bind fun v_142 => (visorref24_Bytes.m k p_84 (cut l_131 (0) ((Int.tmod (IntKind.i64.wrap x0.many) 9).toNat)) x0.n).bind fun v_147 => (visorref01_Same.m k v_142.1 v_147.1).bind fun v_152 => visorlaw24_GuardTells.j3 k v_19 v_142.2 v_147.2 v_152 else none) else none) else (if p_85.length = 24 then (if p_86.length = 24 then (guard_Planes.m k p_83 p_85 x0.n).bind fun v_158 => (visorref24_Planes.m k p_84 p_86 x0.n).bind fun v_163 => (visorref01_Same.m k v_158.1 v_163.1).bind fun v_168 => visorlaw24_GuardTells.j3 k v_19 v_158.2 v_163.2 v_168 else none) else none)))))
def visorlaw24_GuardTells.j1 (k : Nat) (x0 : Tvisorlaw24_Asked) (p_6 : Int) : Option (Bool) := ((visorlaw20_Begins.m k p_6 x0.masks 600).bind fun v => match v with | (.inl v_12) => some false | (.inr v_19) => (bif !v_19.2.2.2.2 then visorlaw24_GuardTells.j2 k x0 v_19 true else (guard_Draws.m k p_6).bind fun v_36 => (visorref21_Draws.m k p_6).bind fun v_39 => (bif v_36 != v_39 then visorlaw24_GuardTells.j2 k x0 v_19 true else (guard_Draws.m k x0.n).bind fun v_42 => (visorref21_Draws.m k x0.n).bind fun v_45 => visorlaw24_GuardTells.j2 k x0 v_19 (v_42 != v_45))))
abbrev visorlaw24_GuardTells.R (κ : Ctx) (S : List HP) (x0 : Tvisorlaw24_Asked) (A_x0masks : Option Addr) (c_x0masks : Nat) (r : Bool) : Ending → World → Prop := fun e w' => e = .returned (.bool r) ∧ Ow κ w' (S)
def visorlaw24_GuardTells.m (k : Nat) (x0 : Tvisorlaw24_Asked) : Option Bool := (bif x0.three then visorlaw24_GuardTells.j1 k x0 3 else visorlaw24_GuardTells.j1 k x0 2)

set_option maxRecDepth 100000 in
set_option maxHeartbeats 4000000 in
theorem visorlaw24_GuardTells.ok (k : Nat) (x0 : Tvisorlaw24_Asked) (r : Bool) (hm : visorlaw24_GuardTells.m k x0 = some r) (κ : Ctx) (w : World) (S : List HP) (A_x0masks : Option Addr) (c_x0masks : Nat) (hx_x0masks : Sl κ [] A_x0masks c_x0masks 1 (eI .u64) x0.masks) (ho : Ow κ w (S)) :
  Calls Try.prog 10 #[.agg (vals [C.bool x0.three, ci x0.kind, ci x0.n, cw x0.l0, cw x0.l1, cw x0.l2, cw x0.l3, cw x0.l4, cw x0.l5, cw x0.l6, cw x0.l7, C.int .u8 x0.many, C.slc A_x0masks x0.masks.length c_x0masks])] w (visorlaw24_GuardTells.R κ S x0 A_x0masks c_x0masks r) := by
 have ht_x0masks := hx_x0masks
 generalize hRR : visorlaw24_GuardTells.R κ S x0 A_x0masks c_x0masks r = RR
 replace hx_x0masks := Sl.top (S := S) hx_x0masks
 unfold visorlaw24_GuardTells.m at hm
 refine qen [(0, .agg (vals [C.bool x0.three, ci x0.kind, ci x0.n, cw x0.l0, cw x0.l1, cw x0.l2, cw x0.l3, cw x0.l4, cw x0.l5, cw x0.l6, cw x0.l7, C.int .u8 x0.many, C.slc A_x0masks x0.masks.length c_x0masks]))] Try.func10 Try.ntmps10 ho fun a hs => ?_
 refine qsr fun K1 hK1 => ?_
 refine qbx 0 108 [C.bool x0.three, ci x0.kind, ci x0.n, cw x0.l0, cw x0.l1, cw x0.l2, cw x0.l3, cw x0.l4, cw x0.l5, cw x0.l6, cw x0.l7, C.int .u8 x0.many, C.slc A_x0masks x0.masks.length c_x0masks] 1 hs fun b_2 w a hs => ?_
 refine qpe 1 [(1, pp b_2)] hs fun a hs => hK1 _ _ ?_
 clear hK1
 refine qse 1 [(1, pp b_2), (3, vi 2)] hs fun a hs => ?_
 refine Vk.seq fun K4 hK4 => ?_
 have hj4 : ∀ (p_6 : Int), visorlaw24_GuardTells.j1 k x0 p_6 = some r → ∀ (a : Act) (w : World), St 133 a w κ [(1, pp b_2), (3, vi p_6)] (pt b_2 (blk (Tvisorlaw24_Asked.obj x0 A_x0masks c_x0masks) 108) :: S) → K4 a w := by
  intro p_6 hm a w hs
  unfold visorlaw24_GuardTells.j1 at hm
  refine hK4 _ _ ?_
  refine qsr fun K7 hK7 => ?_
  refine qpu 2 hs fun a hs => ?_
  refine qld 0 (C.slc A_x0masks x0.masks.length c_x0masks) hs rfl fun a hs => ?_
  replace hs := hs.addRd ht_x0masks
  obtain ⟨v_11, h_10, hm⟩ := bind_t hm
  refine Vk.step (Vk.call (some 17) 18 #[vi p_6, .slice A_x0masks x0.masks.length c_x0masks, vi 600] hs (by kernel_rfl) (by kernel_rfl) (by kernel_rfl) ?_)
  refine (visorlaw20_Begins.ok k p_6 x0.masks 600 v_11 h_10 κ w (pt b_2 (blk (Tvisorlaw24_Asked.obj x0 A_x0masks c_x0masks) 108) :: S) A_x0masks c_x0masks hs.own).mono ?_
  rintro _ w (⟨v_12, rfl, br9x0x_13, Ar9x0l_14, cr9x0l_15, Ar9x0v_16, cr9x0v_17, rfl, how⟩ | ⟨v_19, rfl, br9x0m_20, br9x0x_21, Ar9x0l_22, cr9x0l_23, Ar9x0v_24, cr9x0v_25, rfl, how⟩)
  ·dsimp only at hm
   refine ⟨_, _, _, rfl, how, fun a hs => ?_⟩
   refine qpu 3 hs fun a hs => ?_
   refine qal 45 [C.ptr none, C.ptr none, C.slc none 0 0, C.slc none 0 0] 4 hs fun b_18 w a hs => ?_
   refine qsa 0 [C.ptr none, cp br9x0x_13, C.slc Ar9x0l_14 v_12.2.1.length cr9x0l_15, C.slc Ar9x0v_16 v_12.2.2.length cr9x0v_17] hs rfl fun a w hs => ?_
   refine qpk 1 [1, 3, 4, 5] hs fun a hs => hK7 _ _ ?_
   refine Vk.seq fun K27 hK27 => ?_
   refine Vk.seq fun K28 hK28 => ?_
   obtain ⟨C_29, hC_29⟩ := qC hs.own
   refine qdr 18 κ C_29 hs fun w hs hqC_29 => ?_
   have hcl := qO hC_29 hs.own
   refine qdp (fuel := 0) [0, 1, 2, 3, 4, 5, 6, 7, 8, 9, 10, 11, 12, 13, 14, 15, 16, 17] hs hcl hqC_29 fun a hs => ?_
   replace hs := hs.pick [1, 4, 37] (L' := [(1, pp b_2), (4, pp b_18), (37, .bool true)]) (by kernel_rfl)
   refine Vk.dDone (by kernel_rfl) ?_
   refine hK28 _ _ ?_
   clear hK28
   refine qct hs ?_
   refine qse 1 [(2, .bool false)] hs fun a hs => ?_
   refine wp_ret ?_
   exact qr1 (.bool false) hs rfl hRR (by cases hm; exact ⟨rfl, (hs.own.too [] 5)⟩)
  ·dsimp only at hm
   refine ⟨_, _, _, rfl, how, fun a hs => ?_⟩
   refine qpu 3 hs fun a hs => ?_
   refine qal 45 [C.ptr none, C.ptr none, C.slc none 0 0, C.slc none 0 0] 4 hs fun b_26 w a hs => ?_
   refine qsa 0 [cp br9x0m_20, cp br9x0x_21, C.slc Ar9x0l_22 v_19.2.2.1.length cr9x0l_23, C.slc Ar9x0v_24 v_19.2.2.2.1.length cr9x0v_25] hs rfl fun a w hs => ?_
   refine qpk 1 [1, 3, 4, 5] hs fun a hs => hK7 _ _ ?_
   refine Vk.seq fun K31 hK31 => ?_
   refine Vk.seq fun K32 hK32 => ?_
   have hj32 : ∀ (p_46 : Bool), visorlaw24_GuardTells.j2 k x0 v_19 p_46 = some r → ∀ (a : Act) (w : World), St 133 a w κ [(1, pp b_2), (4, pp b_26), (37, .bool p_46)] (pt b_2 (blk (Tvisorlaw24_Asked.obj x0 A_x0masks c_x0masks) 108) :: pt b_26 (blk [cp br9x0m_20, cp br9x0x_21, C.slc Ar9x0l_22 v_19.2.2.1.length cr9x0l_23, C.slc Ar9x0v_24 v_19.2.2.2.1.length cr9x0v_25] 45) :: Twire_Machine.own br9x0m_20 v_19.1 :: Tvisorref19_M.own κ br9x0x_21 v_19.2.1 :: rowp Ar9x0l_22 cr9x0l_23 28 3 eC v_19.2.2.1 :: rowp Ar9x0v_24 cr9x0v_25 32 1 (eI .u64) v_19.2.2.2.1 :: S) → K32 a w := by
    intro p_46 hm a w hs
    unfold visorlaw24_GuardTells.j2 at hm
    refine hK32 _ _ ?_
    refine qcs (p_46) hs (fun hb => ?_) fun hb => ?_
    ·replace hm := bif_t hm hb
     refine qse 1 [(2, .bool false)] hs fun a hs => ?_
     refine wp_ret ?_
     exact qr1 (.bool false) hs rfl hRR (by cases hm; exact ⟨rfl, (hs.own.too [] 6)⟩)
    ·replace hm := bif_f hm hb
     refine wp_skip ?_
     refine hK31 _ _ ?_
     clear hK31
     refine qsr fun K48 hK48 => ?_
     refine qpu 2 hs fun a hs => ?_
     refine qal 71 [ci 0, ci 0, ci 0, ci 0, ci 0, ci 0, ci 0, ci 0, ci 0, ci 0, ci 0, ci 0, ci 0, ci 0, ci 0, ci 0, ci 0, ci 0, ci 0, ci 0, ci 0, ci 0, ci 0, ci 0] 6 hs fun b_49 w a hs => ?_
     refine qal 71 [ci 0, ci 0, ci 0, ci 0, ci 0, ci 0, ci 0, ci 0, ci 0, ci 0, ci 0, ci 0, ci 0, ci 0, ci 0, ci 0, ci 0, ci 0, ci 0, ci 0, ci 0, ci 0, ci 0, ci 0] 7 hs fun b_50 w a hs => ?_
     refine qsa 1 [ci 0, ci 0, ci 0, ci 0, ci 0, ci 0, ci 0, ci 0, ci 0, ci 0, ci 0, ci 0, ci 0, ci 0, ci 0, ci 0, ci 0, ci 0, ci 0, ci 0, ci 0, ci 0, ci 0, ci 0] hs rfl fun a w hs => ?_
     refine qsa 0 [ci 0, ci 0, ci 0, ci 0, ci 0, ci 0, ci 0, ci 0, ci 0, ci 0, ci 0, ci 0, ci 0, ci 0, ci 0, ci 0, ci 0, ci 0, ci 0, ci 0, ci 0, ci 0, ci 0, ci 0] hs rfl fun a w hs => ?_
     refine qpk 0 [1, 4, 6, 7] hs fun a hs => hK48 _ _ ?_
     clear hK48
     refine Vk.seq fun K51 hK51 => ?_
     refine qsk 1 [1, 4, 6, 7, 8] hs fun a hs => ?_
     refine wp_block ?_
     obtain ⟨r53, hl53, hm⟩ := bind_t hm
     have hx53 : ∀ (p_83 : Twire_Machine) (p_84 : Tvisorref19_M) (p_85 : Cells) (p_86 : Cells), r53 = (p_83, p_84, p_85, p_86) → ∀ (a : Act) (w : World), St 133 a w κ [(1, pp b_2), (4, pp b_26), (6, pp b_49), (7, pp b_50)] (pt b_2 (blk (Tvisorlaw24_Asked.obj x0 A_x0masks c_x0masks) 108) :: pt b_26 (blk [cp br9x0m_20, cp br9x0x_21, C.slc Ar9x0l_22 v_19.2.2.1.length cr9x0l_23, C.slc Ar9x0v_24 v_19.2.2.2.1.length cr9x0v_25] 45) :: Twire_Machine.own br9x0m_20 p_83 :: Tvisorref19_M.own κ br9x0x_21 p_84 :: rowp Ar9x0l_22 cr9x0l_23 28 3 eC v_19.2.2.1 :: rowp Ar9x0v_24 cr9x0v_25 32 1 (eI .u64) v_19.2.2.2.1 :: pt b_49 (blk p_85 71) :: pt b_50 (blk p_86 71) :: S) → K51 a w := by
      intro p_83 p_84 p_85 p_86 he a w hs
      subst r53
      refine hK51 _ _ ?_
      clear hK51
      refine qsk 1 [1, 4, 6, 7] hs fun a hs => ?_
      refine qsr fun K93 hK93 => ?_
      refine qpu 1 hs fun a hs => ?_
      refine qld 0 (C.int .u8 x0.many) hs rfl fun a hs => ?_
      refine qpe 3 [(1, pp b_2), (4, pp b_26), (6, pp b_49), (7, pp b_50), (10, vi (Int.tmod (IntKind.i64.wrap x0.many) 9))] hs fun a hs => hK93 _ _ ?_
      clear hK93
      refine Vk.seq fun K94 hK94 => ?_
      have hj94 : ∀ (p_169 : Twire_Machine) (p_170 : Tvisorref19_M) (p_171 : Bool), visorlaw24_GuardTells.j3 k v_19 p_169 p_170 p_171 = some r → ∀ (a : Act) (w : World), St 133 a w κ [(4, pp b_26), (9, .bool p_171)] (pt b_26 (blk [cp br9x0m_20, cp br9x0x_21, C.slc Ar9x0l_22 v_19.2.2.1.length cr9x0l_23, C.slc Ar9x0v_24 v_19.2.2.2.1.length cr9x0v_25] 45) :: Twire_Machine.own br9x0m_20 p_169 :: Tvisorref19_M.own κ br9x0x_21 p_170 :: rowp Ar9x0l_22 cr9x0l_23 28 3 eC v_19.2.2.1 :: rowp Ar9x0v_24 cr9x0v_25 32 1 (eI .u64) v_19.2.2.2.1 :: S) → K94 a w := by
       intro p_169 p_170 p_171 hm a w hs
       unfold visorlaw24_GuardTells.j3 at hm
       refine hK94 _ _ ?_
       refine Vk.seq fun K172 hK172 => ?_
       have hj172 : ∀ (p_181 : Bool), visorlaw24_GuardTells.j4 k p_181 = some r → ∀ (a : Act) (w : World), St 133 a w κ [(2, .bool p_181)] (S) → K172 a w := by
        intro p_181 hm a w hs
        unfold visorlaw24_GuardTells.j4 at hm
        refine hK172 _ _ ?_
        refine wp_ret ?_
        exact qr1 (.bool p_181) hs rfl hRR (by cases hm; exact ⟨rfl, hs.own⟩)
       refine Vk.region ?_
       refine qpu 2 hs fun a hs => ?_
       rcases Bool.eq_false_or_eq_true (p_171) with hb | hb
       ·replace hm := bif_t hm hb
        replace hs := hs.known (t := 126) hb (by kernel_rfl)
        refine qln 0 ([cp br9x0m_20, cp br9x0x_21, C.slc Ar9x0l_22 v_19.2.2.1.length cr9x0l_23, C.slc Ar9x0v_24 v_19.2.2.2.1.length cr9x0v_25]) hs rfl fun a hs => ?_
        obtain ⟨g_173, hs⟩ := hs.unex 1 rfl
        obtain ⟨g_174, hs⟩ := hs.unex 2 rfl
        obtain ⟨v_177, h_176, hm⟩ := bind_t hm
        refine qcl (visorlaw20_Pair_Like.ok _ _ _ h_176 _ _ _ br9x0m_20 g_173 br9x0x_21 g_174 Ar9x0l_22 cr9x0l_23 (Sl.lift (fun w ho => (Ow.to (S' := rowp Ar9x0l_22 cr9x0l_23 28 3 eC v_19.2.2.1 :: S) ho [1] 3 (by kernel_rfl) (by kernel_rfl))) (Ow.rowSl 0 (Ow.to (S' := rowp Ar9x0l_22 cr9x0l_23 28 3 eC v_19.2.2.1 :: S) hs.own [3] 5 (by kernel_rfl) (by kernel_rfl)) rfl)) Ar9x0v_24 cr9x0v_25 ((Ow.rowSl 0 hs.own.drop.drop.drop.drop rfl).less.less) hs.own.f2.f2) hs fun w a hs => ?_
        refine qpu 2 hs fun a hs => ?_
        rcases Bool.eq_false_or_eq_true (v_177) with hb | hb
        ·replace hm := bif_t hm hb
         replace hs := hs.known (t := 130) hb (by kernel_rfl)
         obtain ⟨v_180, h_179, hm⟩ := bind_t hm
         refine qcl (visorlaw24_awake.ok _ _ h_179 _ _ (bagL (Twire_Machine.parts br9x0m_20 p_169 g_173) :: bagL (Tvisorref19_M.parts κ br9x0x_21 p_170 g_174) :: pt b_26 (blk [cp br9x0m_20, cp br9x0x_21, C.slc Ar9x0l_22 v_19.2.2.1.length cr9x0l_23, C.slc Ar9x0v_24 v_19.2.2.2.1.length cr9x0v_25] 45) :: rowp Ar9x0l_22 cr9x0l_23 28 3 eC v_19.2.2.1 :: rowp Ar9x0v_24 cr9x0v_25 32 1 (eI .u64) v_19.2.2.2.1 :: S) hs.own) hs fun w a hs => ?_
         refine qpe 2 [(2, .bool v_180)] hs fun a hs => ?_
         replace hs := hs.toEx (Twire_Machine.parts br9x0m_20 p_169) g_173 0 rfl
         replace hs := hs.toEx (Tvisorref19_M.parts κ br9x0x_21 p_170) g_174 1 rfl
         exact hj172 v_180 hm _ _ (hs.go [2] [] 5 (by kernel_rfl) (by kernel_rfl) (by kernel_rfl))
        ·replace hm := bif_f hm hb
         replace hs := hs.known (t := 130) hb (by kernel_rfl)
         refine qpe 3 [(2, .bool false)] hs fun a hs => ?_
         replace hs := hs.toEx (Twire_Machine.parts br9x0m_20 p_169) g_173 0 rfl
         replace hs := hs.toEx (Tvisorref19_M.parts κ br9x0x_21 p_170) g_174 1 rfl
         exact hj172 false hm _ _ (hs.go [2] [] 5 (by kernel_rfl) (by kernel_rfl) (by kernel_rfl))
       ·replace hm := bif_f hm hb
        replace hs := hs.known (t := 126) hb (by kernel_rfl)
        refine qpe 7 [(2, .bool false)] hs fun a hs => ?_
        exact hj172 false hm _ _ (hs.go [2] [] 5 (by kernel_rfl) (by kernel_rfl) (by kernel_rfl))
      refine qsr fun K95 hK95 => ?_
      refine qpu 1 hs fun a hs => ?_
      refine qld 0 (ci x0.kind) hs rfl fun a hs => ?_
      refine qpk 0 [1, 4, 6, 7, 10, 67] hs fun a hs => hK95 _ _ ?_
      clear hK95
      refine wp_block ?_
      refine qse 2 [(1, pp b_2), (4, pp b_26), (6, pp b_49), (7, pp b_50), (10, vi (Int.tmod (IntKind.i64.wrap x0.many) 9)), (67, vi x0.kind), (81, .bool (x0.kind == 0))] hs fun a hs => ?_
      refine qcs (x0.kind == 0) hs (fun hb => ?_) fun hb => ?_
      ·replace hm := bif_t hm hb
       obtain ⟨C_97, hC_97⟩ := qC hs.own.f2.drop
       refine qdr 9 κ C_97 hs fun w hs hqC_97 => ?_
       have hcl := qO hC_97 hs.own.f2.drop
       refine qdp (fuel := 8) [0, 2, 5, 7] hs hcl hqC_97 fun a hs => ?_
       refine qdl 1 1 (cp br9x0m_20) hs hcl hqC_97 hC_97 rfl fun a hs => ?_
       obtain ⟨v_99, h_98, hm⟩ := bind_t hm
       refine qdt 3 (.agg (vals v_99)) (op := (.load 28 (.tmp 85))) hs hcl hqC_97 (fun w hw o ho => by rw [hC_97] at hw; exact run_loadN (cs := v_99) ho (by kernel_rfl) (by kernel_rfl) (part?_some h_98).2.2 (CellsAt.own (off := 0) 5 rfl h_98) _ hw) fun a hs => ?_
       refine qdl 6 1 (cp br9x0x_21) hs hcl hqC_97 hC_97 rfl fun a hs => ?_
       obtain ⟨v_101, h_100, hm⟩ := bind_t hm
       refine qdt 8 (.agg (vals v_101)) (op := (.load 28 (.tmp 90))) hs hcl hqC_97 (fun w hw o ho => by rw [hC_97] at hw; exact run_loadN (cs := v_101) ho (by kernel_rfl) (by kernel_rfl) (part?_some h_100).2.2 (CellsAt.own (off := 0) 6 rfl h_100) _ hw) fun a hs => ?_
       obtain ⟨v_104, h_103, hm⟩ := bind_t hm
       refine qdc 4 (guard_Open.ok _ _ _ _ h_103 _ _ _ br9x0m_20 hs.own.f2) hs fun w a hs => ?_
       replace hcl := qO hC_97 hs.own.drop
       refine ⟨fun _ => hcl, ?_⟩
       obtain ⟨v_107, h_106, hm⟩ := bind_t hm
       refine qdc 9 (visorref24_Open.ok _ _ _ _ h_106 _ _ _ br9x0x_21 hs.own.f3) hs fun w a hs => ?_
       refine ⟨fun h => absurd h (by decide), ?_⟩
       refine Vk.dOnly (i := 10) (by kernel_rfl) (Vk.dPure1 [(93, .bool (v_104.1 == v_107.1))] hs (by kernel_rfl) fun a hs => ?_)
       refine ⟨fun h => absurd h (by decide), ?_⟩
       refine Vk.dOnly (i := 11) (by kernel_rfl) (Vk.dPure1 [(9, .bool (v_104.1 == v_107.1))] hs (by kernel_rfl) fun a hs => ?_)
       refine ⟨fun h => absurd h (by decide), ?_⟩
       replace hs := hs.pick [4, 9] (L' := [(4, pp b_26), (9, .bool (v_104.1 == v_107.1))]) (by kernel_rfl)
       refine Vk.dDone (by kernel_rfl) ?_
       exact hj94 v_104.2 v_107.2 (v_104.1 == v_107.1) hm _ _ (hs.go [4, 9] [3, 1, 0, 4, 5] 8 (by kernel_rfl) (by kernel_rfl) (by kernel_rfl))
      ·replace hm := bif_f hm hb
       refine qse 2 [(1, pp b_2), (4, pp b_26), (6, pp b_49), (7, pp b_50), (10, vi (Int.tmod (IntKind.i64.wrap x0.many) 9)), (67, vi x0.kind), (94, .bool (x0.kind == 1))] hs fun a hs => ?_
       refine qcs (x0.kind == 1) hs (fun hb => ?_) fun hb => ?_
       ·replace hm := bif_t hm hb
        obtain ⟨C_109, hC_109⟩ := qC hs.own.f2.drop
        refine qdr 9 κ C_109 hs fun w hs hqC_109 => ?_
        have hcl := qO hC_109 hs.own.f2.drop
        refine qdp (fuel := 9) [0, 2, 5, 7] hs hcl hqC_109 fun a hs => ?_
        refine qdl 1 1 (cp br9x0m_20) hs hcl hqC_109 hC_109 rfl fun a hs => ?_
        obtain ⟨v_111, h_110, hm⟩ := bind_t hm
        refine qdt 3 (.agg (vals v_111)) (op := (.load 28 (.tmp 98))) hs hcl hqC_109 (fun w hw o ho => by rw [hC_109] at hw; exact run_loadN (cs := v_111) ho (by kernel_rfl) (by kernel_rfl) (part?_some h_110).2.2 (CellsAt.own (off := 0) 5 rfl h_110) _ hw) fun a hs => ?_
        refine qdl 6 1 (cp br9x0x_21) hs hcl hqC_109 hC_109 rfl fun a hs => ?_
        obtain ⟨v_113, h_112, hm⟩ := bind_t hm
        refine qdt 8 (.agg (vals v_113)) (op := (.load 28 (.tmp 103))) hs hcl hqC_109 (fun w hw o ho => by rw [hC_109] at hw; exact run_loadN (cs := v_113) ho (by kernel_rfl) (by kernel_rfl) (part?_some h_112).2.2 (CellsAt.own (off := 0) 6 rfl h_112) _ hw) fun a hs => ?_
        obtain ⟨v_116, h_115, hm⟩ := bind_t hm
        refine qdc 4 (guard_Yes.ok _ _ _ _ h_115 _ _ _ br9x0m_20 hs.own.f2) hs fun w a hs => ?_
        replace hcl := qO hC_109 hs.own.drop
        refine ⟨fun _ => hcl, ?_⟩
        obtain ⟨v_119, h_118, hm⟩ := bind_t hm
        refine qdc 9 (visorref24_Masked.ok _ _ _ _ _ h_118 _ _ _ br9x0x_21 hs.own.f3) hs fun w a hs => ?_
        refine ⟨fun h => absurd h (by decide), ?_⟩
        refine Vk.dOnly (i := 10) (by kernel_rfl) (Vk.dPure1 [(106, .bool (v_119.1 == 1))] hs (by kernel_rfl) fun a hs => ?_)
        refine ⟨fun h => absurd h (by decide), ?_⟩
        refine Vk.dOnly (i := 11) (by kernel_rfl) (Vk.dPure1 [(107, .bool (v_116.1 == (v_119.1 == 1)))] hs (by kernel_rfl) fun a hs => ?_)
        refine ⟨fun h => absurd h (by decide), ?_⟩
        refine Vk.dOnly (i := 12) (by kernel_rfl) (Vk.dPure1 [(9, .bool (v_116.1 == (v_119.1 == 1)))] hs (by kernel_rfl) fun a hs => ?_)
        refine ⟨fun h => absurd h (by decide), ?_⟩
        replace hs := hs.pick [4, 9] (L' := [(4, pp b_26), (9, .bool (v_116.1 == (v_119.1 == 1)))]) (by kernel_rfl)
        refine Vk.dDone (by kernel_rfl) ?_
        exact hj94 v_116.2 v_119.2 (v_116.1 == (v_119.1 == 1)) hm _ _ (hs.go [4, 9] [3, 1, 0, 4, 5] 8 (by kernel_rfl) (by kernel_rfl) (by kernel_rfl))
       ·replace hm := bif_f hm hb
        refine qse 2 [(1, pp b_2), (4, pp b_26), (6, pp b_49), (7, pp b_50), (10, vi (Int.tmod (IntKind.i64.wrap x0.many) 9)), (108, .bool (x0.kind == 2))] hs fun a hs => ?_
        refine qcs (x0.kind == 2) hs (fun hb => ?_) fun hb => ?_
        ·replace hm := bif_t hm hb
         obtain ⟨C_121, hC_121⟩ : ∃ X0 : List HP, X0 = (pt b_2 (blk (Tvisorlaw24_Asked.obj x0 A_x0masks c_x0masks) 108) :: pt b_26 (blk [cp br9x0m_20, cp br9x0x_21, C.slc Ar9x0l_22 v_19.2.2.1.length cr9x0l_23, C.slc Ar9x0v_24 v_19.2.2.2.1.length cr9x0v_25] 45) :: Tvisorref19_M.own κ br9x0x_21 p_84 :: rowp Ar9x0l_22 cr9x0l_23 28 3 eC v_19.2.2.1 :: rowp Ar9x0v_24 cr9x0v_25 32 1 (eI .u64) v_19.2.2.2.1 :: pt b_49 (blk p_85 71) :: pt b_50 (blk p_86 71) :: S) := ⟨_, rfl⟩
         refine qdr 13 κ C_121 hs fun w hs hqC_121 => ?_
         have hcz : Ow κ w (pt b_2 (blk (Tvisorlaw24_Asked.obj x0 A_x0masks c_x0masks) 108) :: pt b_26 (blk [cp br9x0m_20, cp br9x0x_21, C.slc Ar9x0l_22 v_19.2.2.1.length cr9x0l_23, C.slc Ar9x0v_24 v_19.2.2.2.1.length cr9x0v_25] 45) :: Tvisorref19_M.own κ br9x0x_21 p_84 :: rowp Ar9x0l_22 cr9x0l_23 28 3 eC v_19.2.2.1 :: rowp Ar9x0v_24 cr9x0v_25 32 1 (eI .u64) v_19.2.2.2.1 :: pt b_49 (blk p_85 71) :: pt b_50 (blk p_86 71) :: S) := hs.own.f2.drop
         have hcl : Ow κ w C_121 := by rw [hC_121]; exact hcz
         refine qdp (fuel := 10) [0, 2, 4, 7, 9, 11] hs hcl hqC_121 fun a hs => ?_
         refine qdl 1 1 (cp br9x0m_20) hs hcl hqC_121 hC_121 rfl fun a hs => ?_
         obtain ⟨l_122, h_123, hm⟩ := bind_t hm
         have hx_124 := Ow.ptSl (sz := 3) (N := 8) (off := 0) 0 (Ow.to (S' := pt b_49 (blk p_85 71) :: S) hcz [5] 7 (by kernel_rfl) (by kernel_rfl)) rfl (part_all (cks_clen h_123)) (cks_sl h_123)
         obtain ⟨h_125, hm⟩ := ite_t hm
         obtain ⟨A_126, c_127, eA_128, ec_129, hx_130⟩ := Sl.sub hx_124 h_125.2
         refine qdt 3 (.slice A_126 ((cut l_122 (0) ((Int.tmod (IntKind.i64.wrap x0.many) 9).toNat)).length) c_127) (op := (.slice 71 (.tmp 6) none (some (.tmp 112)) none)) hs hcl hqC_121 (fun w hw o ho => by rw [hC_121] at hw; exact run_arr (sz := 3) (e := 28) (cks_len h_123) h_125.2 eA_128 ec_129 ho (by kernel_rfl) (by kernel_rfl) (by kernel_rfl) rfl ⟨.i64, (Int.tmod (IntKind.i64.wrap x0.many) 9), by kernel_rfl, h_125.1, rfl⟩ _) fun a hs => ?_
         refine qdl 5 0 (ci x0.n) hs hcl hqC_121 hC_121 rfl fun a hs => ?_
         refine qdl 8 1 (cp br9x0x_21) hs hcl hqC_121 hC_121 rfl fun a hs => ?_
         obtain ⟨l_131, h_132, hm⟩ := bind_t hm
         have hx_133 := Ow.ptSl (sz := 3) (N := 8) (off := 0) 0 hcz.drop.drop.drop.drop.drop.drop rfl (part_all (cks_clen h_132)) (cks_sl h_132)
         obtain ⟨h_134, hm⟩ := ite_t hm
         obtain ⟨A_135, c_136, eA_137, ec_138, hx_139⟩ := Sl.sub hx_133 h_134.2
         refine qdt 10 (.slice A_135 ((cut l_131 (0) ((Int.tmod (IntKind.i64.wrap x0.many) 9).toNat)).length) c_136) (op := (.slice 71 (.tmp 7) none (some (.tmp 119)) none)) hs hcl hqC_121 (fun w hw o ho => by rw [hC_121] at hw; exact run_arr (sz := 3) (e := 28) (cks_len h_132) h_134.2 eA_137 ec_138 ho (by kernel_rfl) (by kernel_rfl) (by kernel_rfl) rfl ⟨.i64, (Int.tmod (IntKind.i64.wrap x0.many) 9), by kernel_rfl, h_134.1, rfl⟩ _) fun a hs => ?_
         refine qdl 12 0 (ci x0.n) hs hcl hqC_121 hC_121 rfl fun a hs => ?_
         obtain ⟨v_142, h_141, hm⟩ := bind_t hm
         refine Vk.dOnly (i := 6) (by kernel_rfl) (Vk.call (some 116) 61 #[pp br9x0m_20, .slice A_126 ((cut l_122 (0) ((Int.tmod (IntKind.i64.wrap x0.many) 9).toNat)).length) c_127, vi x0.n] hs (by kernel_rfl) (by kernel_rfl) (by kernel_rfl) ?_)
         refine (guard_Bytes.ok k p_83 (cut l_122 (0) ((Int.tmod (IntKind.i64.wrap x0.many) 9).toNat)) x0.n v_142 h_141 κ w (pt b_2 (blk (Tvisorlaw24_Asked.obj x0 A_x0masks c_x0masks) 108) :: pt b_26 (blk [cp br9x0m_20, cp br9x0x_21, C.slc Ar9x0l_22 v_19.2.2.1.length cr9x0l_23, C.slc Ar9x0v_24 v_19.2.2.2.1.length cr9x0v_25] 45) :: Tvisorref19_M.own κ br9x0x_21 p_84 :: rowp Ar9x0l_22 cr9x0l_23 28 3 eC v_19.2.2.1 :: rowp Ar9x0v_24 cr9x0v_25 32 1 (eI .u64) v_19.2.2.2.1 :: pt b_49 (blk p_85 71) :: pt b_50 (blk p_86 71) :: S) br9x0m_20 A_126 c_127 (Sl.lift (fun w ho => (Ow.to (S' := pt b_49 (blk p_85 71) :: S) ho [5] 7 (by kernel_rfl) (by kernel_rfl))) hx_130) hs.own.f2).mono ?_
         rintro _ w ⟨Ar140x0_143, cr140x0_144, rfl, how⟩
         refine ⟨_, _, _, rfl, how, fun a hs => ?_⟩
         replace hcl := qO hC_121 hs.own.f1.drop.drop
         refine ⟨fun _ => hcl, ?_⟩
         obtain ⟨v_147, h_146, hm⟩ := bind_t hm
         refine Vk.dOnly (i := 13) (by kernel_rfl) (Vk.call (some 123) 72 #[pp br9x0x_21, .slice A_135 ((cut l_131 (0) ((Int.tmod (IntKind.i64.wrap x0.many) 9).toNat)).length) c_136, vi x0.n] hs (by kernel_rfl) (by kernel_rfl) (by kernel_rfl) ?_)
         refine (visorref24_Bytes.ok k p_84 (cut l_131 (0) ((Int.tmod (IntKind.i64.wrap x0.many) 9).toNat)) x0.n v_147 h_146 κ w (rowp Ar140x0_143 cr140x0_144 5 1 (eI .u8) v_142.1 :: Twire_Machine.own br9x0m_20 v_142.2 :: pt b_2 (blk (Tvisorlaw24_Asked.obj x0 A_x0masks c_x0masks) 108) :: pt b_26 (blk [cp br9x0m_20, cp br9x0x_21, C.slc Ar9x0l_22 v_19.2.2.1.length cr9x0l_23, C.slc Ar9x0v_24 v_19.2.2.2.1.length cr9x0v_25] 45) :: rowp Ar9x0l_22 cr9x0l_23 28 3 eC v_19.2.2.1 :: rowp Ar9x0v_24 cr9x0v_25 32 1 (eI .u64) v_19.2.2.2.1 :: pt b_49 (blk p_85 71) :: pt b_50 (blk p_86 71) :: S) br9x0x_21 A_135 c_136 hx_139.less.less.less.less.less.less.less hs.own.f4).mono ?_
         rintro _ w ⟨Ar145x0_148, cr145x0_149, rfl, how⟩
         refine ⟨_, _, _, rfl, how, fun a hs => ?_⟩
         refine ⟨fun h => absurd h (by decide), ?_⟩
         obtain ⟨v_152, h_151, hm⟩ := bind_t hm
         refine qdc 14 (visorref01_Same.ok _ _ _ _ h_151 _ _ (rowp Ar145x0_148 cr145x0_149 5 1 (eI .u8) v_147.1 :: Tvisorref19_M.own κ br9x0x_21 v_147.2 :: rowp Ar140x0_143 cr140x0_144 5 1 (eI .u8) v_142.1 :: Twire_Machine.own br9x0m_20 v_142.2 :: pt b_2 (blk (Tvisorlaw24_Asked.obj x0 A_x0masks c_x0masks) 108) :: pt b_26 (blk [cp br9x0m_20, cp br9x0x_21, C.slc Ar9x0l_22 v_19.2.2.1.length cr9x0l_23, C.slc Ar9x0v_24 v_19.2.2.2.1.length cr9x0v_25] 45) :: rowp Ar9x0l_22 cr9x0l_23 28 3 eC v_19.2.2.1 :: rowp Ar9x0v_24 cr9x0v_25 32 1 (eI .u64) v_19.2.2.2.1 :: pt b_49 (blk p_85 71) :: pt b_50 (blk p_86 71) :: S) Ar140x0_143 cr140x0_144 (Sl.lift (fun w ho => (Ow.to (S' := rowp Ar140x0_143 cr140x0_144 5 1 (eI .u8) v_142.1 :: S) ho [2] 10 (by kernel_rfl) (by kernel_rfl))) (Ow.rowSl 0 (Ow.to (S' := rowp Ar140x0_143 cr140x0_144 5 1 (eI .u8) v_142.1 :: S) hs.own [2] 10 (by kernel_rfl) (by kernel_rfl)) rfl)) Ar145x0_148 cr145x0_149 (Sl.lift (fun w ho => (Ow.to (S' := rowp Ar145x0_148 cr145x0_149 5 1 (eI .u8) v_147.1 :: S) ho [0] 10 (by kernel_rfl) (by kernel_rfl))) (Ow.rowSl 0 (Ow.to (S' := rowp Ar145x0_148 cr145x0_149 5 1 (eI .u8) v_147.1 :: S) hs.own [0] 10 (by kernel_rfl) (by kernel_rfl)) rfl)) hs.own) hs fun w a hs => ?_
         refine ⟨fun h => absurd h (by decide), ?_⟩
         refine Vk.dOnly (i := 15) (by kernel_rfl) (Vk.dPure1 [(9, .bool v_152)] hs (by kernel_rfl) fun a hs => ?_)
         refine ⟨fun h => absurd h (by decide), ?_⟩
         replace hs := hs.pick [4, 9] (L' := [(4, pp b_26), (9, .bool v_152)]) (by kernel_rfl)
         refine Vk.dDone (by kernel_rfl) ?_
         exact hj94 v_142.2 v_147.2 v_152 hm _ _ (hs.go [4, 9] [5, 3, 1, 6, 7] 10 (by kernel_rfl) (by kernel_rfl) (by kernel_rfl))
        ·replace hm := bif_f hm hb
         obtain ⟨C_153, hC_153⟩ := qC hs.own.f2.drop
         refine qdr 11 κ C_153 hs fun w hs hqC_153 => ?_
         have hcl := qO hC_153 hs.own.f2.drop
         refine qdp (fuel := 10) [0, 3, 6, 9] hs hcl hqC_153 fun a hs => ?_
         refine qdl 1 1 (cp br9x0m_20) hs hcl hqC_153 hC_153 rfl fun a hs => ?_
         obtain ⟨h_154, hm⟩ := ite_t hm
         refine qdw 2 5 hs hcl hqC_153 hC_153 rfl h_154 fun a hs => ?_
         refine qdl 4 0 (ci x0.n) hs hcl hqC_153 hC_153 rfl fun a hs => ?_
         refine qdl 7 1 (cp br9x0x_21) hs hcl hqC_153 hC_153 rfl fun a hs => ?_
         obtain ⟨h_155, hm⟩ := ite_t hm
         refine qdw 8 6 hs hcl hqC_153 hC_153 rfl h_155 fun a hs => ?_
         refine qdl 10 0 (ci x0.n) hs hcl hqC_153 hC_153 rfl fun a hs => ?_
         obtain ⟨v_158, h_157, hm⟩ := bind_t hm
         refine Vk.dOnly (i := 5) (by kernel_rfl) (Vk.call (some 73) 73 #[pp br9x0m_20, .agg (vals p_85), vi x0.n] hs (by kernel_rfl) (by kernel_rfl) (by kernel_rfl) ?_)
         refine (guard_Planes.ok k p_83 p_85 x0.n v_158 h_157 κ w (pt b_2 (blk (Tvisorlaw24_Asked.obj x0 A_x0masks c_x0masks) 108) :: pt b_26 (blk [cp br9x0m_20, cp br9x0x_21, C.slc Ar9x0l_22 v_19.2.2.1.length cr9x0l_23, C.slc Ar9x0v_24 v_19.2.2.2.1.length cr9x0v_25] 45) :: Tvisorref19_M.own κ br9x0x_21 p_84 :: rowp Ar9x0l_22 cr9x0l_23 28 3 eC v_19.2.2.1 :: rowp Ar9x0v_24 cr9x0v_25 32 1 (eI .u64) v_19.2.2.2.1 :: pt b_49 (blk p_85 71) :: pt b_50 (blk p_86 71) :: S) br9x0m_20 hs.own.f2).mono ?_
         rintro _ w ⟨Ar156x0_159, cr156x0_160, rfl, how⟩
         refine ⟨_, _, _, rfl, how, fun a hs => ?_⟩
         replace hcl := qO hC_153 hs.own.f1.drop.drop
         refine ⟨fun _ => hcl, ?_⟩
         obtain ⟨v_163, h_162, hm⟩ := bind_t hm
         refine Vk.dOnly (i := 11) (by kernel_rfl) (Vk.call (some 79) 74 #[pp br9x0x_21, .agg (vals p_86), vi x0.n] hs (by kernel_rfl) (by kernel_rfl) (by kernel_rfl) ?_)
         refine (visorref24_Planes.ok k p_84 p_86 x0.n v_163 h_162 κ w (rowp Ar156x0_159 cr156x0_160 5 1 (eI .u8) v_158.1 :: Twire_Machine.own br9x0m_20 v_158.2 :: pt b_2 (blk (Tvisorlaw24_Asked.obj x0 A_x0masks c_x0masks) 108) :: pt b_26 (blk [cp br9x0m_20, cp br9x0x_21, C.slc Ar9x0l_22 v_19.2.2.1.length cr9x0l_23, C.slc Ar9x0v_24 v_19.2.2.2.1.length cr9x0v_25] 45) :: rowp Ar9x0l_22 cr9x0l_23 28 3 eC v_19.2.2.1 :: rowp Ar9x0v_24 cr9x0v_25 32 1 (eI .u64) v_19.2.2.2.1 :: pt b_49 (blk p_85 71) :: pt b_50 (blk p_86 71) :: S) br9x0x_21 hs.own.f4).mono ?_
         rintro _ w ⟨Ar161x0_164, cr161x0_165, rfl, how⟩
         refine ⟨_, _, _, rfl, how, fun a hs => ?_⟩
         refine ⟨fun h => absurd h (by decide), ?_⟩
         obtain ⟨v_168, h_167, hm⟩ := bind_t hm
         refine qdc 12 (visorref01_Same.ok _ _ _ _ h_167 _ _ (rowp Ar161x0_164 cr161x0_165 5 1 (eI .u8) v_163.1 :: Tvisorref19_M.own κ br9x0x_21 v_163.2 :: rowp Ar156x0_159 cr156x0_160 5 1 (eI .u8) v_158.1 :: Twire_Machine.own br9x0m_20 v_158.2 :: pt b_2 (blk (Tvisorlaw24_Asked.obj x0 A_x0masks c_x0masks) 108) :: pt b_26 (blk [cp br9x0m_20, cp br9x0x_21, C.slc Ar9x0l_22 v_19.2.2.1.length cr9x0l_23, C.slc Ar9x0v_24 v_19.2.2.2.1.length cr9x0v_25] 45) :: rowp Ar9x0l_22 cr9x0l_23 28 3 eC v_19.2.2.1 :: rowp Ar9x0v_24 cr9x0v_25 32 1 (eI .u64) v_19.2.2.2.1 :: pt b_49 (blk p_85 71) :: pt b_50 (blk p_86 71) :: S) Ar156x0_159 cr156x0_160 (Sl.lift (fun w ho => (Ow.to (S' := rowp Ar156x0_159 cr156x0_160 5 1 (eI .u8) v_158.1 :: S) ho [2] 10 (by kernel_rfl) (by kernel_rfl))) (Ow.rowSl 0 (Ow.to (S' := rowp Ar156x0_159 cr156x0_160 5 1 (eI .u8) v_158.1 :: S) hs.own [2] 10 (by kernel_rfl) (by kernel_rfl)) rfl)) Ar161x0_164 cr161x0_165 (Sl.lift (fun w ho => (Ow.to (S' := rowp Ar161x0_164 cr161x0_165 5 1 (eI .u8) v_163.1 :: S) ho [0] 10 (by kernel_rfl) (by kernel_rfl))) (Ow.rowSl 0 (Ow.to (S' := rowp Ar161x0_164 cr161x0_165 5 1 (eI .u8) v_163.1 :: S) hs.own [0] 10 (by kernel_rfl) (by kernel_rfl)) rfl)) hs.own) hs fun w a hs => ?_
         refine ⟨fun h => absurd h (by decide), ?_⟩
         refine Vk.dOnly (i := 13) (by kernel_rfl) (Vk.dPure1 [(9, .bool v_168)] hs (by kernel_rfl) fun a hs => ?_)
         refine ⟨fun h => absurd h (by decide), ?_⟩
         replace hs := hs.pick [4, 9] (L' := [(4, pp b_26), (9, .bool v_168)]) (by kernel_rfl)
         refine Vk.dDone (by kernel_rfl) ?_
         exact hj94 v_158.2 v_163.2 v_168 hm _ _ (hs.go [4, 9] [5, 3, 1, 6, 7] 10 (by kernel_rfl) (by kernel_rfl) (by kernel_rfl))
     refine Vk.loopBy (fun k (s : Twire_Machine × Tvisorref19_M × Cells × Cells × Int) a w => visorlaw24_GuardTells.l1 x0 k s.1 s.2.1 s.2.2.1 s.2.2.2.1 s.2.2.2.2 = some r53 ∧ St 133 a w κ [(1, pp b_2), (4, pp b_26), (6, pp b_49), (7, pp b_50), (8, vi s.2.2.2.2)] (pt b_2 (blk (Tvisorlaw24_Asked.obj x0 A_x0masks c_x0masks) 108) :: pt b_26 (blk [cp br9x0m_20, cp br9x0x_21, C.slc Ar9x0l_22 v_19.2.2.1.length cr9x0l_23, C.slc Ar9x0v_24 v_19.2.2.2.1.length cr9x0v_25] 45) :: Twire_Machine.own br9x0m_20 s.1 :: Tvisorref19_M.own κ br9x0x_21 s.2.1 :: rowp Ar9x0l_22 cr9x0l_23 28 3 eC v_19.2.2.1 :: rowp Ar9x0v_24 cr9x0v_25 32 1 (eI .u64) v_19.2.2.2.1 :: pt b_49 (blk s.2.2.1 71) :: pt b_50 (blk s.2.2.2.1 71) :: S)) k (v_19.1, v_19.2.1, [ci 0, ci 0, ci 0, ci 0, ci 0, ci 0, ci 0, ci 0, ci 0, ci 0, ci 0, ci 0, ci 0, ci 0, ci 0, ci 0, ci 0, ci 0, ci 0, ci 0, ci 0, ci 0, ci 0, ci 0], [ci 0, ci 0, ci 0, ci 0, ci 0, ci 0, ci 0, ci 0, ci 0, ci 0, ci 0, ci 0, ci 0, ci 0, ci 0, ci 0, ci 0, ci 0, ci 0, ci 0, ci 0, ci 0, ci 0, ci 0], 0) ⟨hl53, hs.go [1, 4, 6, 7, 8] [2, 3, 4, 5, 6, 7, 1, 0] 8 (by kernel_rfl) (by kernel_rfl) (by kernel_rfl)⟩ (fun s a w h => by obtain ⟨h1, _⟩ := h; simp [visorlaw24_GuardTells.l1] at h1) (fun k KL53 ih s a w h => ?_)
     obtain ⟨q_54, q_55, q_56, q_57, q_58⟩ := s
     obtain ⟨hm, hs⟩ := h
     try dsimp only at hm hs
     rw [visorlaw24_GuardTells.l1] at hm
     refine Vk.seq fun K59 hK59 => ?_
     refine qsk 2 [1, 4, 6, 7, 8, 41] hs fun a hs => ?_
     refine qcs (decide (q_58 < 8)) hs (fun hb => ?_) fun hb => ?_
     ·replace hm := bif_t hm hb
      refine wp_skip ?_
      refine hK59 _ _ ?_
      clear hK59
      refine Vk.seq fun K61 hK61 => ?_
      refine wp_block ?_
      refine Vk.seq fun K62 hK62 => ?_
      obtain ⟨C_63, hC_63⟩ := qC hs.own.f2.drop
      refine qdr 9 κ C_63 hs fun w hs hqC_63 => ?_
      have hcl := qO hC_63 hs.own.f2.drop
      refine qdp (fuel := 6) [0, 1, 3, 4] hs hcl hqC_63 fun a hs => ?_
      refine qdl 2 1 (cp br9x0m_20) hs hcl hqC_63 hC_63 rfl fun a hs => ?_
      obtain ⟨h_64, hm⟩ := ite_t hm
      refine qdx 5 b_2 3 1 hs hcl hqC_63 h_64 fun a hs => ?_
      obtain ⟨v_66, h_65, hm⟩ := bind_t hm
      refine qdt 6 (vw v_66) (op := (.load 32 (.tmp 49))) hs hcl hqC_63 (fun w hw o ho => by rw [hC_63] at hw; exact run_load1 (c := cw v_66) ho (by kernel_rfl) (by kernel_rfl) (Cell.own 0 rfl (getI_some (getI_unslc (cs := [C.bool x0.three, ci x0.kind, ci x0.n, cw x0.l0, cw x0.l1, cw x0.l2, cw x0.l3, cw x0.l4, cw x0.l5, cw x0.l6, cw x0.l7, C.int .u8 x0.many, C.slc A_x0masks x0.masks.length c_x0masks]) h_65))) _ hw) fun a hs => ?_
      obtain ⟨v_69, h_68, hm⟩ := bind_t hm
      refine qdc 7 (share_Public.ok _ _ _ _ h_68 _ _ _ br9x0m_20 hs.own.f2) hs fun w a hs => ?_
      replace hcl := qO hC_63 hs.own.drop
      refine ⟨fun _ => hcl, ?_⟩
      obtain ⟨h_70, hm⟩ := ite_t hm
      refine qdx 8 b_49 0 3 hs hcl hqC_63 h_70 fun a hs => ?_
      obtain ⟨h_71, hm⟩ := ite_t hm
      obtain ⟨h_72, hm⟩ := ite_t hm
      refine Vk.dOnly (i := 9) (by kernel_rfl) (Vk.storeN (b := b_49) (ty := 28) (x := (.tmp 52)) (y := (.tmp 51)) (off := 0 + q_58.toNat * 3) (sz := 3) v_69.1 6 hs (by kernel_rfl) (by kernel_rfl) (by kernel_rfl) (by kernel_rfl) (by kernel_rfl) h_71 (by kernel_rfl) rfl h_72 fun a w hs => ?_)
      refine ⟨fun h => absurd h (by decide), ?_⟩
      replace hs := hs.pick [1, 4, 6, 7, 8] (L' := [(1, pp b_2), (4, pp b_26), (6, pp b_49), (7, pp b_50), (8, vi q_58)]) (by kernel_rfl)
      refine Vk.dDone (by kernel_rfl) ?_
      refine hK62 _ _ ?_
      clear hK62
      obtain ⟨C_73, hC_73⟩ := qC hs.own.f3.drop
      refine qdr 9 κ C_73 hs fun w hs hqC_73 => ?_
      have hcl := qO hC_73 hs.own.f3.drop
      refine qdp (fuel := 6) [0, 1, 3, 4] hs hcl hqC_73 fun a hs => ?_
      refine qdl 2 2 (cp br9x0x_21) hs hcl hqC_73 hC_73 rfl fun a hs => ?_
      obtain ⟨h_74, hm⟩ := ite_t hm
      refine qdx 5 b_2 3 1 hs hcl hqC_73 h_74 fun a hs => ?_
      obtain ⟨v_76, h_75, hm⟩ := bind_t hm
      refine qdt 6 (vw v_76) (op := (.load 32 (.tmp 58))) hs hcl hqC_73 (fun w hw o ho => by rw [hC_73] at hw; exact run_load1 (c := cw v_76) ho (by kernel_rfl) (by kernel_rfl) (Cell.own 1 rfl (getI_some (getI_unslc (cs := [C.bool x0.three, ci x0.kind, ci x0.n, cw x0.l0, cw x0.l1, cw x0.l2, cw x0.l3, cw x0.l4, cw x0.l5, cw x0.l6, cw x0.l7, C.int .u8 x0.many, C.slc A_x0masks x0.masks.length c_x0masks]) h_75))) _ hw) fun a hs => ?_
      obtain ⟨v_79, h_78, hm⟩ := bind_t hm
      refine qdc 7 (visorref20_Const.ok _ _ _ _ _ h_78 _ _ _ br9x0x_21 hs.own.f3) hs fun w a hs => ?_
      replace hcl := qO hC_73 hs.own.drop
      refine ⟨fun _ => hcl, ?_⟩
      obtain ⟨h_80, hm⟩ := ite_t hm
      refine qdx 8 b_50 0 3 hs hcl hqC_73 h_80 fun a hs => ?_
      obtain ⟨h_81, hm⟩ := ite_t hm
      obtain ⟨h_82, hm⟩ := ite_t hm
      refine Vk.dOnly (i := 9) (by kernel_rfl) (Vk.storeN (b := b_50) (ty := 28) (x := (.tmp 61)) (y := (.tmp 60)) (off := 0 + q_58.toNat * 3) (sz := 3) v_79.1 7 hs (by kernel_rfl) (by kernel_rfl) (by kernel_rfl) (by kernel_rfl) (by kernel_rfl) h_81 (by kernel_rfl) rfl h_82 fun a w hs => ?_)
      refine ⟨fun h => absurd h (by decide), ?_⟩
      replace hs := hs.pick [1, 4, 6, 7, 8] (L' := [(1, pp b_2), (4, pp b_26), (6, pp b_49), (7, pp b_50), (8, vi q_58)]) (by kernel_rfl)
      refine Vk.dDone (by kernel_rfl) ?_
      refine hK61 _ _ ?_
      clear hK61
      refine Vk.region ?_
      refine qpe 3 [(1, pp b_2), (4, pp b_26), (6, pp b_49), (7, pp b_50), (8, vi (IntKind.i64.wrap (q_58 + 1)))] hs fun a hs => ?_
      refine ih (v_69.2, v_79.2, (splice q_56 (0 + q_58.toNat * 3) v_69.1), (splice q_57 (0 + q_58.toNat * 3) v_79.1), (IntKind.i64.wrap (q_58 + 1))) _ _ ⟨hm, hs.go [1, 4, 6, 7, 8] [2, 3, 1, 0, 4, 5, 6, 7] 8 (by kernel_rfl) (by kernel_rfl) (by kernel_rfl)⟩
     ·replace hm := bif_f hm hb
      refine wp_exit ?_
      exact hx53 q_54 q_55 q_56 q_57 (Option.some.inj hm).symm _ _ (hs.go [1, 4, 6, 7] [0, 1, 2, 3, 4, 5, 6, 7] 8 (by kernel_rfl) (by kernel_rfl) (by kernel_rfl))
   obtain ⟨C_33, hC_33⟩ := qC hs.own
   refine qdr 18 κ C_33 hs fun w hs hqC_33 => ?_
   have hcl := qO hC_33 hs.own
   refine qdp (fuel := 15) [0, 1, 2] hs hcl hqC_33 fun a hs => ?_
   rcases Bool.eq_false_or_eq_true (!v_19.2.2.2.2) with hb | hb
   ·replace hm := bif_t hm hb
    replace hs := hs.known (t := 22) hb (by kernel_rfl)
    refine qdp (fuel := 0) [3, 4, 5, 6, 7, 8, 9, 10, 11, 12, 13, 14, 15, 16, 17] hs hcl hqC_33 fun a hs => ?_
    replace hs := hs.pick [1, 4, 37] (L' := [(1, pp b_2), (4, pp b_26), (37, .bool true)]) (by kernel_rfl)
    refine Vk.dDone (by kernel_rfl) ?_
    exact hj32 true hm _ _ (hs.go [1, 4, 37] [5, 0, 1, 2, 3, 4] 6 (by kernel_rfl) (by kernel_rfl) (by kernel_rfl))
   ·replace hm := bif_f hm hb
    replace hs := hs.known (t := 22) hb (by kernel_rfl)
    refine qdp (fuel := 13) [3, 5] hs hcl hqC_33 fun a hs => ?_
    obtain ⟨v_36, h_35, hm⟩ := bind_t hm
    refine qdc 4 (guard_Draws.ok _ _ _ h_35 _ _ (pt b_26 (blk [cp br9x0m_20, cp br9x0x_21, C.slc Ar9x0l_22 v_19.2.2.1.length cr9x0l_23, C.slc Ar9x0v_24 v_19.2.2.2.1.length cr9x0v_25] 45) :: Twire_Machine.own br9x0m_20 v_19.1 :: Tvisorref19_M.own κ br9x0x_21 v_19.2.1 :: rowp Ar9x0l_22 cr9x0l_23 28 3 eC v_19.2.2.1 :: rowp Ar9x0v_24 cr9x0v_25 32 1 (eI .u64) v_19.2.2.2.1 :: pt b_2 (blk (Tvisorlaw24_Asked.obj x0 A_x0masks c_x0masks) 108) :: S) hs.own) hs fun w a hs => ?_
    replace hcl := qO hC_33 hs.own
    refine ⟨fun _ => hcl, ?_⟩
    obtain ⟨v_39, h_38, hm⟩ := bind_t hm
    refine qdc 6 (visorref21_Draws.ok _ _ _ h_38 _ _ (pt b_26 (blk [cp br9x0m_20, cp br9x0x_21, C.slc Ar9x0l_22 v_19.2.2.1.length cr9x0l_23, C.slc Ar9x0v_24 v_19.2.2.2.1.length cr9x0v_25] 45) :: Twire_Machine.own br9x0m_20 v_19.1 :: Tvisorref19_M.own κ br9x0x_21 v_19.2.1 :: rowp Ar9x0l_22 cr9x0l_23 28 3 eC v_19.2.2.1 :: rowp Ar9x0v_24 cr9x0v_25 32 1 (eI .u64) v_19.2.2.2.1 :: pt b_2 (blk (Tvisorlaw24_Asked.obj x0 A_x0masks c_x0masks) 108) :: S) hs.own) hs fun w a hs => ?_
    replace hcl := qO hC_33 hs.own
    refine ⟨fun _ => hcl, ?_⟩
    refine qdp (fuel := 8) [7, 8, 9] hs hcl hqC_33 fun a hs => ?_
    rcases Bool.eq_false_or_eq_true (v_36 != v_39) with hb | hb
    ·replace hm := bif_t hm hb
     replace hs := hs.known (t := 29) hb (by kernel_rfl)
     refine qdp (fuel := 0) [10, 11, 12, 13, 14, 15, 16, 17] hs hcl hqC_33 fun a hs => ?_
     replace hs := hs.pick [1, 4, 37] (L' := [(1, pp b_2), (4, pp b_26), (37, .bool true)]) (by kernel_rfl)
     refine Vk.dDone (by kernel_rfl) ?_
     exact hj32 true hm _ _ (hs.go [1, 4, 37] [5, 0, 1, 2, 3, 4] 6 (by kernel_rfl) (by kernel_rfl) (by kernel_rfl))
    ·replace hm := bif_f hm hb
     replace hs := hs.known (t := 29) hb (by kernel_rfl)
     refine qdp (fuel := 6) [10, 13] hs hcl hqC_33 fun a hs => ?_
     refine qdl 11 5 (ci x0.n) hs hcl hqC_33 hC_33 rfl fun a hs => ?_
     refine qdl 14 5 (ci x0.n) hs hcl hqC_33 hC_33 rfl fun a hs => ?_
     obtain ⟨v_42, h_41, hm⟩ := bind_t hm
     refine qdc 12 (guard_Draws.ok _ _ _ h_41 _ _ (pt b_26 (blk [cp br9x0m_20, cp br9x0x_21, C.slc Ar9x0l_22 v_19.2.2.1.length cr9x0l_23, C.slc Ar9x0v_24 v_19.2.2.2.1.length cr9x0v_25] 45) :: Twire_Machine.own br9x0m_20 v_19.1 :: Tvisorref19_M.own κ br9x0x_21 v_19.2.1 :: rowp Ar9x0l_22 cr9x0l_23 28 3 eC v_19.2.2.1 :: rowp Ar9x0v_24 cr9x0v_25 32 1 (eI .u64) v_19.2.2.2.1 :: pt b_2 (blk (Tvisorlaw24_Asked.obj x0 A_x0masks c_x0masks) 108) :: S) hs.own) hs fun w a hs => ?_
     replace hcl := qO hC_33 hs.own
     refine ⟨fun _ => hcl, ?_⟩
     obtain ⟨v_45, h_44, hm⟩ := bind_t hm
     refine qdc 15 (visorref21_Draws.ok _ _ _ h_44 _ _ (pt b_26 (blk [cp br9x0m_20, cp br9x0x_21, C.slc Ar9x0l_22 v_19.2.2.1.length cr9x0l_23, C.slc Ar9x0v_24 v_19.2.2.2.1.length cr9x0v_25] 45) :: Twire_Machine.own br9x0m_20 v_19.1 :: Tvisorref19_M.own κ br9x0x_21 v_19.2.1 :: rowp Ar9x0l_22 cr9x0l_23 28 3 eC v_19.2.2.1 :: rowp Ar9x0v_24 cr9x0v_25 32 1 (eI .u64) v_19.2.2.2.1 :: pt b_2 (blk (Tvisorlaw24_Asked.obj x0 A_x0masks c_x0masks) 108) :: S) hs.own) hs fun w a hs => ?_
     replace hcl := qO hC_33 hs.own
     refine ⟨fun _ => hcl, ?_⟩
     refine qdp (fuel := 0) [16, 17] hs hcl hqC_33 fun a hs => ?_
     replace hs := hs.pick [1, 4, 37] (L' := [(1, pp b_2), (4, pp b_26), (37, .bool (v_42 != v_45))]) (by kernel_rfl)
     refine Vk.dDone (by kernel_rfl) ?_
     exact hj32 (v_42 != v_45) hm _ _ (hs.go [1, 4, 37] [5, 0, 1, 2, 3, 4] 6 (by kernel_rfl) (by kernel_rfl) (by kernel_rfl))
 refine qsr fun K5 hK5 => ?_
 refine qpu 1 hs fun a hs => ?_
 refine qld 0 (C.bool x0.three) hs rfl fun a hs => ?_
 refine qpk 0 [1, 3, 12] hs fun a hs => hK5 _ _ ?_
 clear hK5
 refine qcs (x0.three) hs (fun hb => ?_) fun hb => ?_
 ·replace hm := bif_t hm hb
  refine Vk.region ?_
  refine qpe 1 [(1, pp b_2), (3, vi 3)] hs fun a hs => ?_
  exact hj4 3 hm _ _ (hs.go [1, 3] [0] 1 (by kernel_rfl) (by kernel_rfl) (by kernel_rfl))
 ·replace hm := bif_f hm hb
  refine wp_skip ?_
  exact hj4 2 hm _ _ (hs.go [1, 3] [0] 1 (by kernel_rfl) (by kernel_rfl) (by kernel_rfl))

end Go.Proofs.Ytflgefjocjpjaaa
