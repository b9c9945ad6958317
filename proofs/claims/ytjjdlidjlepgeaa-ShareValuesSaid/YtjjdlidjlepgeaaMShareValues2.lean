/- Of each Go function that ShareValues comes to: a model in plain Lean, and that the program's call does what the model says; no condition. -/
import Derived.Test.YtjjdlidjlepgeaaProg
import Derived.Test.YtjjdlidjlepgeaaVollbmjpn
import Derived.Test.YtjjdlidjlepgeaaMShareValues1
namespace Go.Proofs.Ytjjdlidjlepgeaa
open Go Go.Vk
set_option linter.unusedVariables false


def visorref20_Value.j1 (k : Nat) (rec6 : Int → Int → Option (Int)) (q_8 : Int) (p_30 : Int) (p_31 : Int) (p_32 : Bool) : Option (Int) := rec6 p_30 (IntKind.i64.wrap (q_8 + 1))
def visorref20_Value.l1 (x0 : List Int) (x1 : Cells) : Nat → Int → Int → Option (Int)
  | 0, _, _ => none
  | k + 1, q_7, q_8 => (bif decide (q_8 < 3) then (if 0 ≤ q_8 ∧ q_8 < 3 then (getI .i64 x1 (0 + q_8.toNat * 1)).bind fun v_15 => (bif decide (v_15 ≥ 0) then (if 0 ≤ q_8 ∧ q_8 < 3 then (getI .i64 x1 (0 + q_8.toNat * 1)).bind fun v_19 => (bif decide (v_19 < ((x0.length : Nat) : Int)) then (if 0 ≤ q_8 ∧ q_8 < 3 then (getI .i64 x1 (0 + q_8.toNat * 1)).bind fun v_22 => (if 0 ≤ v_22 then (x0[v_22.toNat]?).bind fun e_26 => visorref20_Value.j1 k (visorref20_Value.l1 x0 x1 k) q_8 (bxor .u64 q_7 e_26) v_19 (decide (v_19 < ((x0.length : Nat) : Int))) else none) else none) else visorref20_Value.j1 k (visorref20_Value.l1 x0 x1 k) q_8 q_7 v_19 (decide (v_19 < ((x0.length : Nat) : Int)))) else none) else visorref20_Value.l1 x0 x1 k q_7 (IntKind.i64.wrap (q_8 + 1))) else none) else some q_7)
abbrev visorref20_Value.R (κ : Ctx) (S : List HP) (x0 : List Int) (x1 : Cells) (A_x0 : Option Addr) (c_x0 : Nat) (r : Int) : Ending → World → Prop := fun e w' => e = .returned (.int .u64 r) ∧ Own κ w' (S)
def visorref20_Value.m (k : Nat) (x0 : List Int) (x1 : Cells) : Option Int := (visorref20_Value.l1 x0 x1 k 0 0).bind fun p_34 => some p_34

set_option maxRecDepth 100000 in
set_option maxHeartbeats 4000000 in
theorem visorref20_Value.ok (k : Nat) (x0 : List Int) (x1 : Cells) (r : Int) (hm : visorref20_Value.m k x0 x1 = some r) (κ : Ctx) (w : World) (S : List HP) (A_x0 : Option Addr) (c_x0 : Nat) (hx_x0 : Sl κ S A_x0 c_x0 1 (eI .u64) x0) (ho : Own κ w (S)) :
    Calls Try.prog 49 #[.slice A_x0 x0.length c_x0, .agg (vals x1)] w (visorref20_Value.R κ S x0 x1 A_x0 c_x0 r) := by
  unfold visorref20_Value.m at hm
  refine Vk.enter [(0, .slice A_x0 x0.length c_x0), (1, .agg (vals x1))] Try.func49 rfl Try.ntmps49 (by kernel_rfl) (Nat.le_of_ble_eq_true (by kernel_rfl)) ho fun a hs => ?_
  refine Vk.seq fun K1 hK1 => ?_
  refine Vk.region ?_
  refine Vk.step (Vk.box (x := (.tmp 1)) 3 65 x1 hs (by kernel_rfl) (by kernel_rfl) (by kernel_rfl) fun b_2 w a hs => ?_)
  refine Vk.pures 1 [(4, .int .u64 0)] hs (by kernel_rfl) fun a hs => ?_
  replace hs := hs.pick [0, 3] (L' := [(0, .slice A_x0 x0.length c_x0), (3, .pointer (some ⟨b_2, 0, none⟩))]) (by kernel_rfl)
  refine Vk.done (by kernel_rfl) ?_
  refine hK1 _ _ ?_
  clear hK1
  refine Vk.seq fun K3 hK3 => ?_
  refine Vk.region ?_
  refine Vk.pures 1 [(5, .int .u64 0)] hs (by kernel_rfl) fun a hs => ?_
  replace hs := hs.pick [0, 3, 5] (L' := [(0, .slice A_x0 x0.length c_x0), (3, .pointer (some ⟨b_2, 0, none⟩)), (5, .int .u64 0)]) (by kernel_rfl)
  refine Vk.done (by kernel_rfl) ?_
  refine hK3 _ _ ?_
  clear hK3
  refine Vk.seq fun K4 hK4 => ?_
  refine Vk.seq fun K5 hK5 => ?_
  refine Vk.region ?_
  refine Vk.pures 1 [(6, .int .i64 0)] hs (by kernel_rfl) fun a hs => ?_
  replace hs := hs.pick [0, 3, 5, 6] (L' := [(0, .slice A_x0 x0.length c_x0), (3, .pointer (some ⟨b_2, 0, none⟩)), (5, .int .u64 0), (6, .int .i64 0)]) (by kernel_rfl)
  refine Vk.done (by kernel_rfl) ?_
  refine hK5 _ _ ?_
  clear hK5
  refine wp_block ?_
  obtain ⟨r6, hl6, hm⟩ := bind_t hm
  have hx6 : ∀ (p_34 : Int), r6 = p_34 → ∀ (a : Act) (w : World), St 35 a w κ [(5, .int .u64 p_34)] (S) → K4 a w := by
    intro p_34 he a w hs
    subst r6
    refine hK4 _ _ ?_
    clear hK4
    refine Vk.seq fun K39 hK39 => ?_
    refine Vk.region ?_
    refine Vk.pures 2 [(4, .int .u64 p_34), (34, .int .u64 p_34)] hs (by kernel_rfl) fun a hs => ?_
    replace hs := hs.pick [4] (L' := [(4, .int .u64 p_34)]) (by kernel_rfl)
    refine Vk.done (by kernel_rfl) ?_
    refine hK39 _ _ ?_
    clear hK39
    refine wp_ret ?_
    exact Vk.ret1 (P := Try.prog) (fn := Try.f49) (R := visorref20_Value.R κ S x0 x1 A_x0 c_x0 r) (.int .u64 p_34) hs rfl (by kernel_rfl) (by obtain rfl := Option.some.inj hm; exact ⟨rfl, (Own.to hs.own [] 0 (by kernel_rfl) (by kernel_rfl))⟩)
  refine Vk.loopBy (fun k (s : Int × Int) a w => visorref20_Value.l1 x0 x1 k s.1 s.2 = some r6 ∧ St 35 a w κ [(0, .slice A_x0 x0.length c_x0), (3, .pointer (some ⟨b_2, 0, none⟩)), (5, .int .u64 s.1), (6, .int .i64 s.2)] (pt b_2 (blk x1 65) :: S)) k (0, 0) ⟨hl6, hs.go [0, 3, 5, 6] [0] 1 (by kernel_rfl) (by kernel_rfl) (by kernel_rfl)⟩ (fun s a w h => by obtain ⟨h1, _⟩ := h; simp [visorref20_Value.l1] at h1) (fun k KL6 ih s a w h => ?_)
  obtain ⟨q_7, q_8⟩ := s
  obtain ⟨hm, hs⟩ := h
  try dsimp only at hm hs
  rw [visorref20_Value.l1] at hm
  refine Vk.seq fun K9 hK9 => ?_
  refine Vk.seq fun K10 hK10 => ?_
  refine Vk.region ?_
  refine Vk.pures 2 [(8, .bool (decide (q_8 < 3))), (7, .int .i64 q_8)] hs (by kernel_rfl) fun a hs => ?_
  replace hs := hs.pick [0, 3, 5, 6, 8] (L' := [(0, .slice A_x0 x0.length c_x0), (3, .pointer (some ⟨b_2, 0, none⟩)), (5, .int .u64 q_7), (6, .int .i64 q_8), (8, .bool (decide (q_8 < 3)))]) (by kernel_rfl)
  refine Vk.done (by kernel_rfl) ?_
  refine hK10 _ _ ?_
  clear hK10
  refine Vk.condS (b := decide (q_8 < 3)) hs (by kernel_rfl) (by kernel_rfl) (fun hb => ?_) (fun hb => ?_)
  · replace hm := bif_t hm hb
    refine wp_skip ?_
    refine hK9 _ _ ?_
    clear hK9
    refine Vk.seq fun K11 hK11 => ?_
    have hj33 : ∀ (p_30 : Int) (p_31 : Int) (p_32 : Bool), visorref20_Value.j1 k (visorref20_Value.l1 x0 x1 k) q_8 p_30 p_31 p_32 = some r6 → ∀ (a : Act) (w : World), St 35 a w κ [(0, .slice A_x0 x0.length c_x0), (3, .pointer (some ⟨b_2, 0, none⟩)), (5, .int .u64 p_30), (6, .int .i64 q_8), (17, .int .i64 q_8), (18, .pointer (some ⟨b_2, 0, none⟩)), (19, .pointer (some ⟨b_2, 0 + q_8.toNat * 1, none⟩)), (20, .int .i64 p_31), (21, .slice A_x0 x0.length c_x0), (22, .int .i64 ((x0.length : Nat) : Int)), (23, .bool p_32)] (pt b_2 (blk x1 65) :: S) → K11 a w := by
      intro p_30 p_31 p_32 hm a w hs
      unfold visorref20_Value.j1 at hm
      refine hK11 _ _ ?_
      refine Vk.region ?_
      refine Vk.pures 3 [(6, .int .i64 (IntKind.i64.wrap (q_8 + 1))), (10, .int .i64 (IntKind.i64.wrap (q_8 + 1))), (9, .int .i64 q_8)] hs (by kernel_rfl) fun a hs => ?_
      replace hs := hs.pick [0, 3, 5, 6, 17, 18, 19, 20, 21, 22, 23] (L' := [(0, .slice A_x0 x0.length c_x0), (3, .pointer (some ⟨b_2, 0, none⟩)), (5, .int .u64 p_30), (6, .int .i64 (IntKind.i64.wrap (q_8 + 1))), (17, .int .i64 q_8), (18, .pointer (some ⟨b_2, 0, none⟩)), (19, .pointer (some ⟨b_2, 0 + q_8.toNat * 1, none⟩)), (20, .int .i64 p_31), (21, .slice A_x0 x0.length c_x0), (22, .int .i64 ((x0.length : Nat) : Int)), (23, .bool p_32)]) (by kernel_rfl)
      refine Vk.done (by kernel_rfl) ?_
      refine ih (p_30, (IntKind.i64.wrap (q_8 + 1))) _ _ ⟨hm, hs.go [0, 3, 5, 6] [0] 1 (by kernel_rfl) (by kernel_rfl) (by kernel_rfl)⟩
    refine wp_block ?_
    refine Vk.seq fun K12 hK12 => ?_
    refine Vk.region ?_
    refine Vk.pures 2 [(12, .pointer (some ⟨b_2, 0, none⟩)), (11, .int .i64 q_8)] hs (by kernel_rfl) fun a hs => ?_
    obtain ⟨h_13, hm⟩ := ite_t hm
    refine Vk.step (Vk.value (some 13) (.pointer (some ⟨b_2, 0 + q_8.toNat * 1, none⟩)) hs (by kernel_rfl) (op := (.indexAddr 63 (.tmp 12) (.tmp 11))) (by kernel_rfl) (fun o ho => run_idxArr (k := .i64) ho (by kernel_rfl) (by kernel_rfl) (by kernel_rfl) h_13 _) fun a hs => ?_)
    obtain ⟨v_15, h_14, hm⟩ := bind_t hm
    refine Vk.step (Vk.value (some 14) (.int .i64 v_15) hs (by kernel_rfl) (op := (.load 3 (.tmp 13))) (by kernel_rfl) (fun o ho => run_load1 (c := C.int .i64 v_15) ho (by kernel_rfl) (by kernel_rfl) (Cell.own 0 rfl (getI_some h_14)) _ hs.own) fun a hs => ?_)
    refine Vk.pures 2 [(16, .bool (decide (v_15 ≥ 0))), (15, .bool (decide (v_15 ≥ 0)))] hs (by kernel_rfl) fun a hs => ?_
    rcases Bool.eq_false_or_eq_true (decide (v_15 ≥ 0)) with hb | hb
    · replace hm := bif_t hm hb
      replace hs := hs.known (t := 16) hb (by kernel_rfl)
      refine Vk.pures 2 [(18, .pointer (some ⟨b_2, 0, none⟩)), (17, .int .i64 q_8)] hs (by kernel_rfl) fun a hs => ?_
      obtain ⟨h_17, hm⟩ := ite_t hm
      refine Vk.step (Vk.value (some 19) (.pointer (some ⟨b_2, 0 + q_8.toNat * 1, none⟩)) hs (by kernel_rfl) (op := (.indexAddr 63 (.tmp 18) (.tmp 17))) (by kernel_rfl) (fun o ho => run_idxArr (k := .i64) ho (by kernel_rfl) (by kernel_rfl) (by kernel_rfl) h_17 _) fun a hs => ?_)
      obtain ⟨v_19, h_18, hm⟩ := bind_t hm
      refine Vk.step (Vk.value (some 20) (.int .i64 v_19) hs (by kernel_rfl) (op := (.load 3 (.tmp 19))) (by kernel_rfl) (fun o ho => run_load1 (c := C.int .i64 v_19) ho (by kernel_rfl) (by kernel_rfl) (Cell.own 0 rfl (getI_some h_18)) _ hs.own) fun a hs => ?_)
      refine Vk.pures 4 [(24, .bool (decide (v_19 < ((x0.length : Nat) : Int)))), (23, .bool (decide (v_19 < ((x0.length : Nat) : Int)))), (22, .int .i64 ((x0.length : Nat) : Int)), (21, .slice A_x0 x0.length c_x0)] hs (by kernel_rfl) fun a hs => ?_
      replace hs := hs.pick [0, 3, 5, 6, 17, 18, 19, 20, 21, 22, 23, 24] (L' := [(0, .slice A_x0 x0.length c_x0), (3, .pointer (some ⟨b_2, 0, none⟩)), (5, .int .u64 q_7), (6, .int .i64 q_8), (17, .int .i64 q_8), (18, .pointer (some ⟨b_2, 0, none⟩)), (19, .pointer (some ⟨b_2, 0 + q_8.toNat * 1, none⟩)), (20, .int .i64 v_19), (21, .slice A_x0 x0.length c_x0), (22, .int .i64 ((x0.length : Nat) : Int)), (23, .bool (decide (v_19 < ((x0.length : Nat) : Int)))), (24, .bool (decide (v_19 < ((x0.length : Nat) : Int))))]) (by kernel_rfl)
      refine Vk.done (by kernel_rfl) ?_
      refine hK12 _ _ ?_
      refine Vk.condS (b := decide (v_19 < ((x0.length : Nat) : Int))) hs (by kernel_rfl) (by kernel_rfl) (fun hb => ?_) (fun hb => ?_)
      · replace hm := bif_t hm hb
        refine Vk.region ?_
        refine Vk.pures 4 [(28, .pointer (some ⟨b_2, 0, none⟩)), (27, .int .i64 q_8), (26, .slice A_x0 x0.length c_x0), (25, .int .u64 q_7)] hs (by kernel_rfl) fun a hs => ?_
        obtain ⟨h_20, hm⟩ := ite_t hm
        refine Vk.step (Vk.value (some 29) (.pointer (some ⟨b_2, 0 + q_8.toNat * 1, none⟩)) hs (by kernel_rfl) (op := (.indexAddr 63 (.tmp 28) (.tmp 27))) (by kernel_rfl) (fun o ho => run_idxArr (k := .i64) ho (by kernel_rfl) (by kernel_rfl) (by kernel_rfl) h_20 _) fun a hs => ?_)
        obtain ⟨v_22, h_21, hm⟩ := bind_t hm
        refine Vk.step (Vk.value (some 30) (.int .i64 v_22) hs (by kernel_rfl) (op := (.load 3 (.tmp 29))) (by kernel_rfl) (fun o ho => run_load1 (c := C.int .i64 v_22) ho (by kernel_rfl) (by kernel_rfl) (Cell.own 0 rfl (getI_some h_21)) _ hs.own) fun a hs => ?_)
        obtain ⟨h_23, hm⟩ := ite_t hm
        obtain ⟨e_26, h_24, hm⟩ := bind_t hm
        obtain ⟨b_27, o_28, hA_29, h_25⟩ := Sl.elem hx_x0 h_24
        refine Vk.step (Vk.value (some 31) (.pointer (some ⟨b_27, o_28 + v_22.toNat * 1, none⟩)) hs (by kernel_rfl) (op := (.indexAddr 73 (.tmp 26) (.tmp 30))) (by kernel_rfl) (fun o ho => run_idxSlc (k := .i64) ho (cap := c_x0) (len := x0.length) ((congrArg (fun A => Value.slice A (x0.length) (c_x0)) hA_29) ▸ (by kernel_rfl)) (by kernel_rfl) (by kernel_rfl) (idx_ok h_23 h_24) _) fun a hs => ?_)
        refine Vk.step (Vk.value (some 32) (.int .u64 e_26) hs (by kernel_rfl) (op := (.load 23 (.tmp 31))) (by kernel_rfl) (fun o ho => run_load1 (c := C.int .u64 e_26) ho (by kernel_rfl) (by kernel_rfl) (fun w ho => h_25 w ho 0 _ rfl) _ hs.own.drop) fun a hs => ?_)
        refine Vk.pures 2 [(5, .int .u64 (bxor .u64 q_7 e_26)), (33, .int .u64 (bxor .u64 q_7 e_26))] hs (by kernel_rfl) fun a hs => ?_
        replace hs := hs.pick [0, 3, 5, 6, 17, 18, 19, 20, 21, 22, 23] (L' := [(0, .slice A_x0 x0.length c_x0), (3, .pointer (some ⟨b_2, 0, none⟩)), (5, .int .u64 (bxor .u64 q_7 e_26)), (6, .int .i64 q_8), (17, .int .i64 q_8), (18, .pointer (some ⟨b_2, 0, none⟩)), (19, .pointer (some ⟨b_2, 0 + q_8.toNat * 1, none⟩)), (20, .int .i64 v_19), (21, .slice A_x0 x0.length c_x0), (22, .int .i64 ((x0.length : Nat) : Int)), (23, .bool (decide (v_19 < ((x0.length : Nat) : Int))))]) (by kernel_rfl)
        refine Vk.done (by kernel_rfl) ?_
        exact hj33 (bxor .u64 q_7 e_26) v_19 (decide (v_19 < ((x0.length : Nat) : Int))) hm _ _ (hs.go [0, 3, 5, 6, 17, 18, 19, 20, 21, 22, 23] [0] 1 (by kernel_rfl) (by kernel_rfl) (by kernel_rfl))
      · replace hm := bif_f hm hb
        refine wp_skip ?_
        exact hj33 q_7 v_19 (decide (v_19 < ((x0.length : Nat) : Int))) hm _ _ (hs.go [0, 3, 5, 6, 17, 18, 19, 20, 21, 22, 23] [0] 1 (by kernel_rfl) (by kernel_rfl) (by kernel_rfl))
    · replace hm := bif_f hm hb
      replace hs := hs.known (t := 16) hb (by kernel_rfl)
      refine Vk.pures 8 [(24, .bool false), (23, undef), (22, undef), (21, undef), (20, undef), (19, undef), (18, undef), (17, undef)] hs (by kernel_rfl) fun a hs => ?_
      replace hs := hs.pick [0, 3, 5, 6, 24] (L' := [(0, .slice A_x0 x0.length c_x0), (3, .pointer (some ⟨b_2, 0, none⟩)), (5, .int .u64 q_7), (6, .int .i64 q_8), (24, .bool false)]) (by kernel_rfl)
      refine Vk.done (by kernel_rfl) ?_
      refine hK12 _ _ ?_
      refine Vk.condF hs (by kernel_rfl) (by kernel_rfl) ?_
      refine wp_skip ?_
      refine hK11 _ _ ?_
      refine Vk.region ?_
      refine Vk.pures 3 [(6, .int .i64 (IntKind.i64.wrap (q_8 + 1))), (10, .int .i64 (IntKind.i64.wrap (q_8 + 1))), (9, .int .i64 q_8)] hs (by kernel_rfl) fun a hs => ?_
      replace hs := hs.pick [0, 3, 5, 6] (L' := [(0, .slice A_x0 x0.length c_x0), (3, .pointer (some ⟨b_2, 0, none⟩)), (5, .int .u64 q_7), (6, .int .i64 (IntKind.i64.wrap (q_8 + 1)))]) (by kernel_rfl)
      refine Vk.done (by kernel_rfl) ?_
      refine ih (q_7, (IntKind.i64.wrap (q_8 + 1))) _ _ ⟨hm, hs.go [0, 3, 5, 6] [0] 1 (by kernel_rfl) (by kernel_rfl) (by kernel_rfl)⟩
  · replace hm := bif_f hm hb
    refine wp_exit ?_
    exact hx6 q_7 (Option.some.inj hm).symm _ _ (hs.go [5] [] 1 (by kernel_rfl) (by kernel_rfl) (by kernel_rfl))


def visorlaw20_ShareValues.j1 (k : Nat) (p_17 : Bool) : Option Bool := some p_17
abbrev visorlaw20_ShareValues.R (κ : Ctx) (S : List HP) (x0 : List Int) (x1 : Cells) (A_x0 : Option Addr) (c_x0 : Nat) (r : Bool) : Ending → World → Prop := fun e w' => e = .returned (.bool r) ∧ Own κ w' (S)
def visorlaw20_ShareValues.m (k : Nat) (x0 : List Int) (x1 : Cells) : Option Bool := (if x1.length = 3 then (share_Value.m k x0 x1).bind fun v_7 => (visorref20_Value.m k x0 x1).bind fun v_11 => (bif v_7 == v_11 then (visorlaw20_awake.m k).bind fun v_15 => visorlaw20_ShareValues.j1 k v_15 else visorlaw20_ShareValues.j1 k false) else none)

set_option maxRecDepth 100000 in
set_option maxHeartbeats 4000000 in
theorem visorlaw20_ShareValues.ok (k : Nat) (x0 : List Int) (x1 : Cells) (r : Bool) (hm : visorlaw20_ShareValues.m k x0 x1 = some r) (κ : Ctx) (w : World) (S : List HP) (A_x0 : Option Addr) (c_x0 : Nat) (hx_x0 : Sl κ [] A_x0 c_x0 1 (eI .u64) x0) (ho : Own κ w (S)) :
    Calls Try.prog 11 #[.slice A_x0 x0.length c_x0, .agg (vals x1)] w (visorlaw20_ShareValues.R κ S x0 x1 A_x0 c_x0 r) := by
  have ht_x0 := hx_x0
  replace hx_x0 := Sl.top (S := S) hx_x0
  unfold visorlaw20_ShareValues.m at hm
  refine Vk.enter [(0, .slice A_x0 x0.length c_x0), (1, .agg (vals x1))] Try.func11 rfl Try.ntmps11 (by kernel_rfl) (Nat.le_of_ble_eq_true (by kernel_rfl)) ho fun a hs => ?_
  refine Vk.seq fun K1 hK1 => ?_
  refine Vk.region ?_
  refine Vk.step (Vk.box (x := (.tmp 1)) 3 65 x1 hs (by kernel_rfl) (by kernel_rfl) (by kernel_rfl) fun b_2 w a hs => ?_)
  refine Vk.pures 1 [(4, .bool false)] hs (by kernel_rfl) fun a hs => ?_
  replace hs := hs.pick [0, 3] (L' := [(0, .slice A_x0 x0.length c_x0), (3, .pointer (some ⟨b_2, 0, none⟩))]) (by kernel_rfl)
  refine Vk.done (by kernel_rfl) ?_
  refine hK1 _ _ ?_
  clear hK1
  refine Vk.seq fun K3 hK3 => ?_
  have hj3 : ∀ (p_17 : Bool), visorlaw20_ShareValues.j1 k p_17 = some r → ∀ (a : Act) (w : World), St 15 a w κ [(4, .bool p_17)] (S) → K3 a w := by
    intro p_17 hm a w hs
    unfold visorlaw20_ShareValues.j1 at hm
    refine hK3 _ _ ?_
    refine wp_ret ?_
    exact Vk.ret1 (P := Try.prog) (fn := Try.f11) (R := visorlaw20_ShareValues.R κ S x0 x1 A_x0 c_x0 r) (.bool p_17) hs rfl (by kernel_rfl) (by obtain rfl := Option.some.inj hm; exact ⟨rfl, (Own.to hs.own [] 0 (by kernel_rfl) (by kernel_rfl))⟩)
  refine Vk.drawnT 11 κ (pt b_2 (blk x1 65) :: S) hs (by kernel_rfl) fun w hs => ?_
  have hcl := (Own.to (S' := pt b_2 (blk x1 65) :: S) hs.own [0] 1 (by kernel_rfl) (by kernel_rfl))
  refine Vk.dPuresT [0, 3] [(8, .slice A_x0 x0.length c_x0), (5, .slice A_x0 x0.length c_x0)] hs (by kernel_rfl) (by repeat' (first | exact Vk.Calm.post | refine Vk.Calm.then ?_ | refine Vk.Calm.inBlock ?_)) hcl (by kernel_rfl) (by kernel_rfl) (fuel := 9) rfl fun a hs => ?_
  obtain ⟨h_4, hm⟩ := ite_t hm
  refine Vk.dTakeT (i := 1) (some 6) (.agg (vals x1)) hs (by kernel_rfl) (by repeat' (first | exact Vk.Calm.post | refine Vk.Calm.then ?_ | refine Vk.Calm.inBlock ?_)) hcl (by kernel_rfl) (by kernel_rfl) (op := (.load 65 (.tmp 3))) (by kernel_rfl) (by kernel_rfl) (fun w hw o ho => run_loadN (cs := x1) ho (by kernel_rfl) (by kernel_rfl) h_4 (CellsAt.all 0 rfl) _ hw) fun a hs => ?_
  refine Vk.dTakeT (i := 4) (some 9) (.agg (vals x1)) hs (by kernel_rfl) (by repeat' (first | exact Vk.Calm.post | refine Vk.Calm.then ?_ | refine Vk.Calm.inBlock ?_)) hcl (by kernel_rfl) (by kernel_rfl) (op := (.load 65 (.tmp 3))) (by kernel_rfl) (by kernel_rfl) (fun w hw o ho => run_loadN (cs := x1) ho (by kernel_rfl) (by kernel_rfl) h_4 (CellsAt.all 0 rfl) _ hw) fun a hs => ?_
  obtain ⟨v_7, h_6, hm⟩ := bind_t hm
  refine Vk.dOnly (i := 2) (by kernel_rfl) (Vk.call (some 7) 48 #[.slice A_x0 x0.length c_x0, .agg (vals x1)] hs (by kernel_rfl) (by kernel_rfl) (by kernel_rfl) ?_)
  refine (share_Value.ok k x0 x1 v_7 h_6 κ w (pt b_2 (blk x1 65) :: S) A_x0 c_x0 hx_x0.less hs.own).mono ?_
  rintro _ w ⟨rfl, how⟩
  refine ⟨_, _, _, rfl, how, fun a hs => ?_⟩
  replace hcl := (Own.to (S' := pt b_2 (blk x1 65) :: S) hs.own [0] 1 (by kernel_rfl) (by kernel_rfl))
  refine ⟨fun _ => hcl, ?_⟩
  obtain ⟨v_11, h_10, hm⟩ := bind_t hm
  refine Vk.dOnly (i := 5) (by kernel_rfl) (Vk.call (some 10) 49 #[.slice A_x0 x0.length c_x0, .agg (vals x1)] hs (by kernel_rfl) (by kernel_rfl) (by kernel_rfl) ?_)
  refine (visorref20_Value.ok k x0 x1 v_11 h_10 κ w (pt b_2 (blk x1 65) :: S) A_x0 c_x0 hx_x0.less hs.own).mono ?_
  rintro _ w ⟨rfl, how⟩
  refine ⟨_, _, _, rfl, how, fun a hs => ?_⟩
  replace hcl := (Own.to (S' := pt b_2 (blk x1 65) :: S) hs.own [0] 1 (by kernel_rfl) (by kernel_rfl))
  refine ⟨fun _ => hcl, ?_⟩
  refine Vk.dPuresT [6, 7] [(12, .bool (v_7 == v_11)), (11, .bool (v_7 == v_11))] hs (by kernel_rfl) (by repeat' (first | exact Vk.Calm.post | refine Vk.Calm.then ?_ | refine Vk.Calm.inBlock ?_)) hcl (by kernel_rfl) (by kernel_rfl) (fuel := 3) rfl fun a hs => ?_
  rcases Bool.eq_false_or_eq_true (v_7 == v_11) with hb | hb
  · replace hm := bif_t hm hb
    replace hs := hs.known (t := 12) hb (by kernel_rfl)
    obtain ⟨v_15, h_14, hm⟩ := bind_t hm
    refine Vk.dOnly (i := 8) (by kernel_rfl) (Vk.call (some 13) 50 #[] hs (by kernel_rfl) (by kernel_rfl) (by kernel_rfl) ?_)
    refine (visorlaw20_awake.ok k v_15 h_14 κ w (pt b_2 (blk x1 65) :: S) hs.own).mono ?_
    rintro _ w ⟨rfl, how⟩
    refine ⟨_, _, _, rfl, how, fun a hs => ?_⟩
    replace hcl := (Own.to (S' := pt b_2 (blk x1 65) :: S) hs.own [0] 1 (by kernel_rfl) (by kernel_rfl))
    refine ⟨fun _ => hcl, ?_⟩
    refine Vk.dPuresT [9, 10] [(4, .bool v_15), (14, .bool v_15)] hs (by kernel_rfl) (by repeat' (first | exact Vk.Calm.post | refine Vk.Calm.then ?_ | refine Vk.Calm.inBlock ?_)) hcl (by kernel_rfl) (by kernel_rfl) (fuel := 0) rfl fun a hs => ?_
    replace hs := hs.pick [4] (L' := [(4, .bool v_15)]) (by kernel_rfl)
    refine Vk.dDone (by kernel_rfl) ?_
    exact hj3 v_15 hm _ _ (hs.go [4] [] 1 (by kernel_rfl) (by kernel_rfl) (by kernel_rfl))
  · replace hm := bif_f hm hb
    replace hs := hs.known (t := 12) hb (by kernel_rfl)
    refine Vk.dPuresT [8, 9, 10] [(4, .bool false), (14, .bool false), (13, undef)] hs (by kernel_rfl) (by repeat' (first | exact Vk.Calm.post | refine Vk.Calm.then ?_ | refine Vk.Calm.inBlock ?_)) hcl (by kernel_rfl) (by kernel_rfl) (fuel := 0) rfl fun a hs => ?_
    replace hs := hs.pick [4] (L' := [(4, .bool false)]) (by kernel_rfl)
    refine Vk.dDone (by kernel_rfl) ?_
    exact hj3 false hm _ _ (hs.go [4] [] 1 (by kernel_rfl) (by kernel_rfl) (by kernel_rfl))

end Go.Proofs.Ytjjdlidjlepgeaa
