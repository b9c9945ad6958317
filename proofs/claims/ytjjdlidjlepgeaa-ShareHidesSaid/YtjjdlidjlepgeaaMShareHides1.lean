/- Of each Go function that ShareHides comes to: a model in plain Lean, and that the program's call does what the model says; no condition. -/
import Derived.Test.YtjjdlidjlepgeaaProg
import Derived.Test.YtjjdlidjlepgeaaVollbmjpn
import Derived.Test.YtjjdlidjlepgeaaMShareHides0
namespace Go.Proofs.Ytjjdlidjlepgeaa
open Go Go.Vk
set_option linter.unusedVariables false


def tape_Tape_Draw.j1 (k : Nat) (x0 : Ttape_Tape) (p_7 : Bool) : Option ((Int × Bool × Ttape_Tape)) := (bif p_7 then some (0, false, x0) else (if 0 ≤ IntKind.i64.wrap ((IntKind.i64.wrap (x0.used.v + 1)) - 1) then (x0.words[(IntKind.i64.wrap ((IntKind.i64.wrap (x0.used.v + 1)) - 1)).toNat]?).bind fun e_18 => some (e_18, true, (⟨x0.words, (⟨IntKind.i64.wrap (x0.used.v + 1)⟩ : Tatomic_Int64), IntKind.i64.wrap (x0.free - 1)⟩ : Ttape_Tape)) else none))
abbrev tape_Tape_Draw.R (κ : Ctx) (S : List HP) (x0 : Ttape_Tape) (b_x0 : Nat) (A_x0owords : Option Addr) (c_x0owords : Nat) (r : (Int × Bool × Ttape_Tape)) : Ending → World → Prop := fun e w' => ∃ (A_y0owords : Option Addr), ∃ (c_y0owords : Nat), e = .returned (.tuple #[.int .u64 r.1, .bool r.2.1]) ∧ Own κ w' (pt b_x0 (blk (Ttape_Tape.obj r.2.2 A_y0owords c_y0owords) 158) :: rowp A_y0owords c_y0owords 23 1 (eI .u64) r.2.2.words :: S)
def tape_Tape_Draw.m (k : Nat) (x0 : Ttape_Tape) : Option (Int × Bool × Ttape_Tape) := (bif decide (x0.free < 1) then tape_Tape_Draw.j1 k x0 true else (tape_Tape_Left.m k x0).bind fun v_6 => tape_Tape_Draw.j1 k x0 (decide (v_6 < 1)))

set_option maxRecDepth 100000 in
set_option maxHeartbeats 4000000 in
theorem tape_Tape_Draw.ok (k : Nat) (x0 : Ttape_Tape) (r : (Int × Bool × Ttape_Tape)) (hm : tape_Tape_Draw.m k x0 = some r) (κ : Ctx) (w : World) (S : List HP) (b_x0 : Nat) (A_x0owords : Option Addr) (c_x0owords : Nat) (ho : Own κ w (pt b_x0 (blk (Ttape_Tape.obj x0 A_x0owords c_x0owords) 158) :: rowp A_x0owords c_x0owords 23 1 (eI .u64) x0.words :: S)) :
    Calls Try.prog 95 #[.pointer (some ⟨b_x0, 0, none⟩)] w (tape_Tape_Draw.R κ S x0 b_x0 A_x0owords c_x0owords r) := by
  unfold tape_Tape_Draw.m at hm
  refine Vk.enter [(0, .pointer (some ⟨b_x0, 0, none⟩))] Try.func95 rfl Try.ntmps95 (by kernel_rfl) (Nat.le_of_ble_eq_true (by kernel_rfl)) ho fun a hs => ?_
  refine Vk.seq fun K1 hK1 => ?_
  refine Vk.region ?_
  refine Vk.pures 2 [(3, .bool false), (2, .int .u64 0)] hs (by kernel_rfl) fun a hs => ?_
  replace hs := hs.pick [0] (L' := [(0, .pointer (some ⟨b_x0, 0, none⟩))]) (by kernel_rfl)
  refine Vk.done (by kernel_rfl) ?_
  refine hK1 _ _ ?_
  clear hK1
  refine Vk.seq fun K2 hK2 => ?_
  refine Vk.seq fun K3 hK3 => ?_
  have hj3 : ∀ (p_7 : Bool), tape_Tape_Draw.j1 k x0 p_7 = some r → ∀ (a : Act) (w : World), St 36 a w κ [(0, .pointer (some ⟨b_x0, 0, none⟩)), (17, .bool p_7)] (pt b_x0 (blk (Ttape_Tape.obj x0 A_x0owords c_x0owords) 158) :: rowp A_x0owords c_x0owords 23 1 (eI .u64) x0.words :: S) → K3 a w := by
    intro p_7 hm a w hs
    unfold tape_Tape_Draw.j1 at hm
    refine hK3 _ _ ?_
    refine Vk.condS (b := p_7) hs (by kernel_rfl) (by kernel_rfl) (fun hb => ?_) (fun hb => ?_)
    · replace hm := bif_t hm hb
      refine Vk.seq fun K8 hK8 => ?_
      refine Vk.region ?_
      refine Vk.pures 2 [(3, .bool false), (2, .int .u64 0)] hs (by kernel_rfl) fun a hs => ?_
      replace hs := hs.pick [2, 3] (L' := [(2, .int .u64 0), (3, .bool false)]) (by kernel_rfl)
      refine Vk.done (by kernel_rfl) ?_
      refine hK8 _ _ ?_
      clear hK8
      refine wp_ret ?_
      exact Vk.ret2 (P := Try.prog) (fn := Try.f95) (R := tape_Tape_Draw.R κ S x0 b_x0 A_x0owords c_x0owords r) (.int .u64 0) (.bool false) hs rfl (by kernel_rfl) (by kernel_rfl) (by obtain rfl := Option.some.inj hm; exact ⟨A_x0owords, c_x0owords, rfl, (Own.to hs.own [0, 1] 2 (by kernel_rfl) (by kernel_rfl))⟩)
    · replace hm := bif_f hm hb
      refine wp_skip ?_
      refine hK2 _ _ ?_
      clear hK2
      refine Vk.seq fun K9 hK9 => ?_
      refine Vk.region ?_
      refine Vk.pures 3 [(20, .pointer (some ⟨b_x0, 2, none⟩)), (19, .pointer (some ⟨b_x0, 0, none⟩)), (18, .pointer (some ⟨b_x0, 0, none⟩))] hs (by kernel_rfl) fun a hs => ?_
      refine Vk.step (Vk.value (some 21) (.int .i64 x0.free) hs (by kernel_rfl) (op := (.load 3 (.tmp 20))) (by kernel_rfl) (fun o ho => run_load1 (b := b_x0) (off := 2) (c := C.int .i64 x0.free) ho (by kernel_rfl) (by kernel_rfl) (Cell.own 0 rfl (by kernel_rfl)) _ hs.own) fun a hs => ?_)
      refine Vk.pures 3 [(24, .pointer (some ⟨b_x0, 2, none⟩)), (23, .pointer (some ⟨b_x0, 0, none⟩)), (22, .int .i64 (IntKind.i64.wrap (x0.free - 1)))] hs (by kernel_rfl) fun a hs => ?_
      refine Vk.step (Vk.store1 (b := b_x0) (ty := 3) (x := (.tmp 24)) (y := (.tmp 22)) (off := 2) (C.int .i64 (IntKind.i64.wrap (x0.free - 1))) 0 hs (by kernel_rfl) (by kernel_rfl) (by kernel_rfl) (by kernel_rfl) (by kernel_rfl) (by kernel_rfl) rfl (Nat.le_of_ble_eq_true (by kernel_rfl)) fun a w hs => ?_)
      replace hs := hs.pick [0] (L' := [(0, .pointer (some ⟨b_x0, 0, none⟩))]) (by kernel_rfl)
      refine Vk.done (by kernel_rfl) ?_
      refine hK9 _ _ ?_
      clear hK9
      refine Vk.seq fun K10 hK10 => ?_
      obtain ⟨C_11, hC_11⟩ : ∃ X0 : List HP, X0 = (ptp b_x0 158 [C.slc A_x0owords x0.words.length c_x0owords, C.int .i64 x0.used.v, C.int .i64 (IntKind.i64.wrap (x0.free - 1))] [0, 2] :: rowp A_x0owords c_x0owords 23 1 (eI .u64) x0.words :: S) := ⟨_, rfl⟩
      refine Vk.drawnT 13 κ C_11 hs (by kernel_rfl) fun w hs => ?_
      have hcz : Own κ w (ptp b_x0 158 [C.slc A_x0owords x0.words.length c_x0owords, C.int .i64 x0.used.v, C.int .i64 (IntKind.i64.wrap (x0.free - 1))] [0, 2] :: rowp A_x0owords c_x0owords 23 1 (eI .u64) x0.words :: S) := Own.part (cs0 := [C.slc A_x0owords x0.words.length c_x0owords, C.int .i64 x0.used.v, C.int .i64 (IntKind.i64.wrap (x0.free - 1))]) (ks := [0, 2]) 0 ((Own.to (S' := pt b_x0 (blk ((Ttape_Tape.obj x0 A_x0owords c_x0owords).set 2 (C.int .i64 (IntKind.i64.wrap (x0.free - 1)))) 158) :: rowp A_x0owords c_x0owords 23 1 (eI .u64) x0.words :: S) hs.own [0, 1] 2 (by kernel_rfl) (by kernel_rfl))) rfl rfl
      have hcl : Own κ w C_11 := by rw [hC_11]; exact hcz
      refine Vk.dPuresT [0, 1, 2, 4, 5, 6] [(31, .pointer (some ⟨b_x0, 1, none⟩)), (30, .pointer (some ⟨b_x0, 0, none⟩)), (29, .pointer (some ⟨b_x0, 0, none⟩)), (27, .pointer (some ⟨b_x0, 0, none⟩)), (26, .pointer (some ⟨b_x0, 0, none⟩)), (25, .pointer (some ⟨b_x0, 0, none⟩))] hs (by kernel_rfl) (by repeat' (first | exact Vk.Calm.post | refine Vk.Calm.then ?_ | refine Vk.Calm.inBlock ?_)) hcl (by kernel_rfl) (by kernel_rfl) (fuel := 7) rfl fun a hs => ?_
      refine Vk.dTakeT (i := 3) (some 28) (.slice A_x0owords x0.words.length c_x0owords) hs (by kernel_rfl) (by repeat' (first | exact Vk.Calm.post | refine Vk.Calm.then ?_ | refine Vk.Calm.inBlock ?_)) hcl (by kernel_rfl) (by kernel_rfl) (op := (.load 73 (.tmp 27))) (by kernel_rfl) (by kernel_rfl) (fun w hw o ho => by rw [hC_11] at hw; exact run_load1 (b := b_x0) (off := 0) (c := C.slc A_x0owords x0.words.length c_x0owords) ho (by kernel_rfl) (by kernel_rfl) (Cell.ownp 0 rfl (by decide) (by kernel_rfl)) _ hw) fun a hs => ?_
      refine Vk.dOnly (i := 7) (by kernel_rfl) (Vk.call (some 32) 122 #[.pointer (some ⟨b_x0, 1, none⟩), .int .i64 1] hs (by kernel_rfl) (by kernel_rfl) (by kernel_rfl) ?_)
      refine Vk.enterI [(0, .pointer (some ⟨b_x0, 1, none⟩)), (1, .int .i64 1)] Try.func122 rfl Try.ntmps122 (by kernel_rfl) (Nat.le_of_ble_eq_true (by kernel_rfl)) hs.own fun KR12 hKR12 hKP12 a hs => ?_
      refine Vk.seq fun K13 hK13 => ?_
      refine Vk.region ?_
      refine Vk.pures 1 [(4, .int .i64 0)] hs (by kernel_rfl) fun a hs => ?_
      replace hs := hs.pick [0, 1] (L' := [(0, .pointer (some ⟨b_x0, 1, none⟩)), (1, .int .i64 1)]) (by kernel_rfl)
      refine Vk.done (by kernel_rfl) ?_
      refine hK13 _ _ ?_
      clear hK13
      refine Vk.seq fun K14 hK14 => ?_
      refine Vk.region ?_
      refine Vk.pures 4 [(8, .int .i64 1), (7, .pointer (some ⟨b_x0, 1, none⟩)), (6, .pointer (some ⟨b_x0, 1, none⟩)), (5, .pointer (some ⟨b_x0, 1, none⟩))] hs (by kernel_rfl) fun a hs => ?_
      refine Vk.step (Vk.atomAdd (k := .i64) (b := b_x0) (off := 1) (x := x0.used.v) (y := 1) 0 (some 9) 132 Try.f132 hs (by kernel_rfl) (by kernel_rfl) Try.func132 (by kernel_rfl) (by kernel_rfl) rfl (by kernel_rfl) fun a w hs => ?_)
      refine Vk.pures 1 [(4, .int .i64 (IntKind.i64.wrap (x0.used.v + 1)))] hs (by kernel_rfl) fun a hs => ?_
      replace hs := hs.pick [4] (L' := [(4, .int .i64 (IntKind.i64.wrap (x0.used.v + 1)))]) (by kernel_rfl)
      refine Vk.done (by kernel_rfl) ?_
      refine hK14 _ _ ?_
      clear hK14
      refine wp_ret ?_
      refine hKP12 _ _ ?_
      refine hKR12 _ _ ?_
      refine Vk.ret1 (P := Try.prog) (fn := Try.f122) (.int .i64 (IntKind.i64.wrap (x0.used.v + 1))) hs rfl (by kernel_rfl) ⟨_, _, _, rfl, hs.own, fun a hs => ?_⟩
      replace hcl : Own κ w C_11 := by rw [hC_11]; exact Own.part (cs0 := [C.slc A_x0owords x0.words.length c_x0owords, C.int .i64 x0.used.v, C.int .i64 (IntKind.i64.wrap (x0.free - 1))]) (ks := [0, 2]) 0 ((Own.to (S' := pt b_x0 (blk [C.slc A_x0owords x0.words.length c_x0owords, C.int .i64 (IntKind.i64.wrap (x0.used.v + 1)), C.int .i64 (IntKind.i64.wrap (x0.free - 1))] 158) :: rowp A_x0owords c_x0owords 23 1 (eI .u64) x0.words :: S) hs.own [0, 1] 2 (by kernel_rfl) (by kernel_rfl))) rfl rfl
      refine ⟨fun _ => hcl, ?_⟩
      refine Vk.dPuresT [8] [(33, .int .i64 (IntKind.i64.wrap ((IntKind.i64.wrap (x0.used.v + 1)) - 1)))] hs (by kernel_rfl) (by repeat' (first | exact Vk.Calm.post | refine Vk.Calm.then ?_ | refine Vk.Calm.inBlock ?_)) hcl (by kernel_rfl) (by kernel_rfl) (fuel := 4) rfl fun a hs => ?_
      obtain ⟨h_15, hm⟩ := ite_t hm
      obtain ⟨e_18, h_16, hm⟩ := bind_t hm
      obtain ⟨b_19, o_20, hA_21, h_17⟩ := Sl.elem (Own.rowSl 0 hcz.drop rfl) h_16
      refine Vk.dTakeT (i := 9) (some 34) (.pointer (some ⟨b_19, o_20 + (IntKind.i64.wrap ((IntKind.i64.wrap (x0.used.v + 1)) - 1)).toNat * 1, none⟩)) hs (by kernel_rfl) (by repeat' (first | exact Vk.Calm.post | refine Vk.Calm.then ?_ | refine Vk.Calm.inBlock ?_)) hcl (by kernel_rfl) (by kernel_rfl) (op := (.indexAddr 73 (.tmp 28) (.tmp 33))) (by kernel_rfl) (by kernel_rfl) (fun w hw o ho => by rw [hC_11] at hw; exact run_idxSlc (k := .i64) ho (cap := c_x0owords) (len := x0.words.length) ((congrArg (fun A => Value.slice A (x0.words.length) (c_x0owords)) hA_21) ▸ (by kernel_rfl)) (by kernel_rfl) (by kernel_rfl) (idx_ok h_15 h_16) _) fun a hs => ?_
      refine Vk.dTakeT (i := 10) (some 35) (.int .u64 e_18) hs (by kernel_rfl) (by repeat' (first | exact Vk.Calm.post | refine Vk.Calm.then ?_ | refine Vk.Calm.inBlock ?_)) hcl (by kernel_rfl) (by kernel_rfl) (op := (.load 23 (.tmp 34))) (by kernel_rfl) (by kernel_rfl) (fun w hw o ho => by rw [hC_11] at hw; exact run_load1 (c := C.int .u64 e_18) ho (by kernel_rfl) (by kernel_rfl) (fun w ho => h_17 w ho 0 _ rfl) _ hw.drop) fun a hs => ?_
      refine Vk.dPuresT [11, 12] [(3, .bool true), (2, .int .u64 e_18)] hs (by kernel_rfl) (by repeat' (first | exact Vk.Calm.post | refine Vk.Calm.then ?_ | refine Vk.Calm.inBlock ?_)) hcl (by kernel_rfl) (by kernel_rfl) (fuel := 0) rfl fun a hs => ?_
      replace hs := hs.pick [2, 3] (L' := [(2, .int .u64 e_18), (3, .bool true)]) (by kernel_rfl)
      refine Vk.dDone (by kernel_rfl) ?_
      refine hK10 _ _ ?_
      clear hK10
      refine wp_ret ?_
      exact Vk.ret2 (P := Try.prog) (fn := Try.f95) (R := tape_Tape_Draw.R κ S x0 b_x0 A_x0owords c_x0owords r) (.int .u64 e_18) (.bool true) hs rfl (by kernel_rfl) (by kernel_rfl) (by obtain rfl := Option.some.inj hm; exact ⟨A_x0owords, c_x0owords, rfl, (Own.to hs.own [0, 1] 2 (by kernel_rfl) (by kernel_rfl))⟩)
  refine Vk.region ?_
  refine Vk.pures 6 [(9, .pointer (some ⟨b_x0, 2, none⟩)), (8, .pointer (some ⟨b_x0, 0, none⟩)), (7, .pointer (some ⟨b_x0, 0, none⟩)), (6, .bool false), (5, .bool false), (4, .pointer (some ⟨b_x0, 0, none⟩))] hs (by kernel_rfl) fun a hs => ?_
  refine Vk.step (Vk.value (some 10) (.int .i64 x0.free) hs (by kernel_rfl) (op := (.load 3 (.tmp 9))) (by kernel_rfl) (fun o ho => run_load1 (b := b_x0) (off := 2) (c := C.int .i64 x0.free) ho (by kernel_rfl) (by kernel_rfl) (Cell.own 0 rfl (by kernel_rfl)) _ hs.own) fun a hs => ?_)
  refine Vk.pures 3 [(13, .bool (decide (x0.free < 1))), (12, .bool (decide (x0.free < 1))), (11, .bool (decide (x0.free < 1)))] hs (by kernel_rfl) fun a hs => ?_
  rcases Bool.eq_false_or_eq_true (decide (x0.free < 1)) with hb | hb
  · replace hm := bif_t hm hb
    replace hs := hs.known (t := 13) hb (by kernel_rfl)
    refine Vk.pures 4 [(17, .bool true), (16, undef), (15, undef), (14, undef)] hs (by kernel_rfl) fun a hs => ?_
    replace hs := hs.pick [0, 17] (L' := [(0, .pointer (some ⟨b_x0, 0, none⟩)), (17, .bool true)]) (by kernel_rfl)
    refine Vk.done (by kernel_rfl) ?_
    exact hj3 true hm _ _ (hs.go [0, 17] [0, 1] 2 (by kernel_rfl) (by kernel_rfl) (by kernel_rfl))
  · replace hm := bif_f hm hb
    replace hs := hs.known (t := 13) hb (by kernel_rfl)
    refine Vk.pures 1 [(14, .pointer (some ⟨b_x0, 0, none⟩))] hs (by kernel_rfl) fun a hs => ?_
    obtain ⟨v_6, h_5, hm⟩ := bind_t hm
    refine Vk.step (Vk.call (some 15) 91 #[.pointer (some ⟨b_x0, 0, none⟩)] hs (by kernel_rfl) (by kernel_rfl) (by kernel_rfl) ?_)
    refine (tape_Tape_Left.ok k x0 v_6 h_5 κ w (S) b_x0 A_x0owords c_x0owords (Own.to hs.own [0, 1] 2 (by kernel_rfl) (by kernel_rfl))).mono ?_
    rintro _ w ⟨rfl, how⟩
    refine ⟨_, _, _, rfl, how, fun a hs => ?_⟩
    refine Vk.pures 2 [(17, .bool (decide (v_6 < 1))), (16, .bool (decide (v_6 < 1)))] hs (by kernel_rfl) fun a hs => ?_
    replace hs := hs.pick [0, 17] (L' := [(0, .pointer (some ⟨b_x0, 0, none⟩)), (17, .bool (decide (v_6 < 1)))]) (by kernel_rfl)
    refine Vk.done (by kernel_rfl) ?_
    exact hj3 (decide (v_6 < 1)) hm _ _ (hs.go [0, 17] [0, 1] 2 (by kernel_rfl) (by kernel_rfl) (by kernel_rfl))

structure Tvisorref02_T where
  l : List Int
  used : Int
  free : Int
  deriving Inhabited
def Tvisorref02_T.obj (x : Tvisorref02_T) (Al : Option Addr) (cl : Nat) : Cells := [C.slc Al x.l.length cl, C.int .i64 x.used, C.int .i64 x.free]

abbrev visorref02_T_Draw.R (κ : Ctx) (S : List HP) (x0 : Tvisorref02_T) (b_x0 : Nat) (A_x0ol : Option Addr) (c_x0ol : Nat) (r : (Int × Bool × Tvisorref02_T)) : Ending → World → Prop := fun e w' => ∃ (A_y0ol : Option Addr), ∃ (c_y0ol : Nat), e = .returned (.tuple #[.int .u64 r.1, .bool r.2.1]) ∧ Own κ w' (pt b_x0 (blk (Tvisorref02_T.obj r.2.2 A_y0ol c_y0ol) 121) :: rdp κ A_y0ol c_y0ol 1 (eI .u64) r.2.2.l :: S)
def visorref02_T_Draw.m (k : Nat) (x0 : Tvisorref02_T) : Option (Int × Bool × Tvisorref02_T) := (bif (decide (x0.free < 1)) || (((x0.l.length : Nat) : Int) == 0) then some (0, false, x0) else (if 0 ≤ (0 : Int) then (x0.l[0]?).bind fun e_10 => (if ((0 : Int) ≤ 1) ∧ 1 ≤ x0.l.length ∧ x0.l.length ≤ x0.l.length then some (e_10, true, (⟨cut x0.l (1) (x0.l.length), IntKind.i64.wrap (x0.used + 1), IntKind.i64.wrap (x0.free - 1)⟩ : Tvisorref02_T)) else none) else none))

set_option maxRecDepth 100000 in
set_option maxHeartbeats 4000000 in
theorem visorref02_T_Draw.ok (k : Nat) (x0 : Tvisorref02_T) (r : (Int × Bool × Tvisorref02_T)) (hm : visorref02_T_Draw.m k x0 = some r) (κ : Ctx) (w : World) (S : List HP) (b_x0 : Nat) (A_x0ol : Option Addr) (c_x0ol : Nat) (ho : Own κ w (pt b_x0 (blk (Tvisorref02_T.obj x0 A_x0ol c_x0ol) 121) :: rdp κ A_x0ol c_x0ol 1 (eI .u64) x0.l :: S)) :
    Calls Try.prog 124 #[.pointer (some ⟨b_x0, 0, none⟩)] w (visorref02_T_Draw.R κ S x0 b_x0 A_x0ol c_x0ol r) := by
  unfold visorref02_T_Draw.m at hm
  refine Vk.enter [(0, .pointer (some ⟨b_x0, 0, none⟩))] Try.func124 rfl Try.ntmps124 (by kernel_rfl) (Nat.le_of_ble_eq_true (by kernel_rfl)) ho fun a hs => ?_
  refine Vk.seq fun K1 hK1 => ?_
  refine Vk.region ?_
  refine Vk.pures 2 [(3, .bool false), (2, .int .u64 0)] hs (by kernel_rfl) fun a hs => ?_
  replace hs := hs.pick [0] (L' := [(0, .pointer (some ⟨b_x0, 0, none⟩))]) (by kernel_rfl)
  refine Vk.done (by kernel_rfl) ?_
  refine hK1 _ _ ?_
  clear hK1
  refine Vk.seq fun K2 hK2 => ?_
  refine Vk.seq fun K3 hK3 => ?_
  refine Vk.region ?_
  refine Vk.pures 3 [(7, .pointer (some ⟨b_x0, 2, none⟩)), (6, .pointer (some ⟨b_x0, 0, none⟩)), (5, .pointer (some ⟨b_x0, 0, none⟩))] hs (by kernel_rfl) fun a hs => ?_
  refine Vk.step (Vk.value (some 8) (.int .i64 x0.free) hs (by kernel_rfl) (op := (.load 3 (.tmp 7))) (by kernel_rfl) (fun o ho => run_load1 (b := b_x0) (off := 2) (c := C.int .i64 x0.free) ho (by kernel_rfl) (by kernel_rfl) (Cell.own 0 rfl (by kernel_rfl)) _ hs.own) fun a hs => ?_)
  refine Vk.pures 2 [(10, .bool (decide (x0.free < 1))), (9, .bool (decide (x0.free < 1)))] hs (by kernel_rfl) fun a hs => ?_
  suffices hj_4 : ∀ a, St 49 a w κ [(0, .pointer (some ⟨b_x0, 0, none⟩)), (5, .pointer (some ⟨b_x0, 0, none⟩)), (6, .pointer (some ⟨b_x0, 0, none⟩)), (7, .pointer (some ⟨b_x0, 2, none⟩)), (8, .int .i64 x0.free), (9, .bool (decide (x0.free < 1))), (10, .bool (decide (x0.free < 1))), (17, .bool ((decide (x0.free < 1)) || (((x0.l.length : Nat) : Int) == 0)))] (pt b_x0 (blk (Tvisorref02_T.obj x0 A_x0ol c_x0ol) 121) :: rdp κ A_x0ol c_x0ol 1 (eI .u64) x0.l :: S) → wpFrom Try.prog _ _ 13 a w by
    rcases Bool.eq_false_or_eq_true (decide (x0.free < 1)) with hb | hb
    · replace hs := hs.known (t := 10) hb (by kernel_rfl)
      refine Vk.pures 7 [(17, .bool true), (16, undef), (15, undef), (14, undef), (13, undef), (12, undef), (11, undef)] hs (by kernel_rfl) fun a hs => ?_
      have hq := hs.pick [0, 5, 6, 7, 8, 9, 10, 17] (L' := [(0, .pointer (some ⟨b_x0, 0, none⟩)), (5, .pointer (some ⟨b_x0, 0, none⟩)), (6, .pointer (some ⟨b_x0, 0, none⟩)), (7, .pointer (some ⟨b_x0, 2, none⟩)), (8, .int .i64 x0.free), (9, .bool (decide (x0.free < 1))), (10, .bool true), (17, .bool true)]) (by kernel_rfl)
      exact hj_4 _ (hq.conv (by first | (rw [hb] <;> rfl) | rfl))
    · replace hs := hs.known (t := 10) hb (by kernel_rfl)
      refine Vk.pures 3 [(13, .pointer (some ⟨b_x0, 0, none⟩)), (12, .pointer (some ⟨b_x0, 0, none⟩)), (11, .pointer (some ⟨b_x0, 0, none⟩))] hs (by kernel_rfl) fun a hs => ?_
      refine Vk.step (Vk.value (some 14) (.slice A_x0ol x0.l.length c_x0ol) hs (by kernel_rfl) (op := (.load 73 (.tmp 13))) (by kernel_rfl) (fun o ho => run_load1 (b := b_x0) (off := 0) (c := C.slc A_x0ol x0.l.length c_x0ol) ho (by kernel_rfl) (by kernel_rfl) (Cell.own 0 rfl (by kernel_rfl)) _ hs.own) fun a hs => ?_)
      refine Vk.pures 3 [(17, .bool (((x0.l.length : Nat) : Int) == 0)), (16, .bool (((x0.l.length : Nat) : Int) == 0)), (15, .int .i64 ((x0.l.length : Nat) : Int))] hs (by kernel_rfl) fun a hs => ?_
      have hq := hs.pick [0, 5, 6, 7, 8, 9, 10, 17] (L' := [(0, .pointer (some ⟨b_x0, 0, none⟩)), (5, .pointer (some ⟨b_x0, 0, none⟩)), (6, .pointer (some ⟨b_x0, 0, none⟩)), (7, .pointer (some ⟨b_x0, 2, none⟩)), (8, .int .i64 x0.free), (9, .bool (decide (x0.free < 1))), (10, .bool false), (17, .bool (((x0.l.length : Nat) : Int) == 0))]) (by kernel_rfl)
      exact hj_4 _ (hq.conv (by first | (rw [hb] <;> rfl) | rfl))
  intro a hs
  replace hs := hs.pick [0, 17] (L' := [(0, .pointer (some ⟨b_x0, 0, none⟩)), (17, .bool ((decide (x0.free < 1)) || (((x0.l.length : Nat) : Int) == 0)))]) (by kernel_rfl)
  refine Vk.done (by kernel_rfl) ?_
  refine hK3 _ _ ?_
  clear hK3
  refine Vk.condS (b := (decide (x0.free < 1)) || (((x0.l.length : Nat) : Int) == 0)) hs (by kernel_rfl) (by kernel_rfl) (fun hb => ?_) (fun hb => ?_)
  · replace hm := bif_t hm hb
    refine Vk.seq fun K5 hK5 => ?_
    refine Vk.region ?_
    refine Vk.pures 2 [(3, .bool false), (2, .int .u64 0)] hs (by kernel_rfl) fun a hs => ?_
    replace hs := hs.pick [2, 3] (L' := [(2, .int .u64 0), (3, .bool false)]) (by kernel_rfl)
    refine Vk.done (by kernel_rfl) ?_
    refine hK5 _ _ ?_
    clear hK5
    refine wp_ret ?_
    exact Vk.ret2 (P := Try.prog) (fn := Try.f124) (R := visorref02_T_Draw.R κ S x0 b_x0 A_x0ol c_x0ol r) (.int .u64 0) (.bool false) hs rfl (by kernel_rfl) (by kernel_rfl) (by obtain rfl := Option.some.inj hm; exact ⟨A_x0ol, c_x0ol, rfl, (Own.to hs.own [0, 1] 2 (by kernel_rfl) (by kernel_rfl))⟩)
  · replace hm := bif_f hm hb
    refine wp_skip ?_
    refine hK2 _ _ ?_
    clear hK2
    refine Vk.seq fun K6 hK6 => ?_
    refine Vk.region ?_
    refine Vk.pures 3 [(20, .pointer (some ⟨b_x0, 0, none⟩)), (19, .pointer (some ⟨b_x0, 0, none⟩)), (18, .pointer (some ⟨b_x0, 0, none⟩))] hs (by kernel_rfl) fun a hs => ?_
    refine Vk.step (Vk.value (some 21) (.slice A_x0ol x0.l.length c_x0ol) hs (by kernel_rfl) (op := (.load 73 (.tmp 20))) (by kernel_rfl) (fun o ho => run_load1 (b := b_x0) (off := 0) (c := C.slc A_x0ol x0.l.length c_x0ol) ho (by kernel_rfl) (by kernel_rfl) (Cell.own 0 rfl (by kernel_rfl)) _ hs.own) fun a hs => ?_)
    obtain ⟨h_7, hm⟩ := ite_t hm
    obtain ⟨e_10, h_8, hm⟩ := bind_t hm
    obtain ⟨b_11, o_12, hA_13, h_9⟩ := Sl.elem (Own.rdSl 0 hs.own.drop rfl) h_8
    refine Vk.step (Vk.value (some 22) (.pointer (some ⟨b_11, o_12 + 0 * 1, none⟩)) hs (by kernel_rfl) (op := (.indexAddr 73 (.tmp 21) (.const (.int .i64 0)))) (by kernel_rfl) (fun o ho => run_idxSlc (k := .i64) ho (cap := c_x0ol) (len := x0.l.length) ((congrArg (fun A => Value.slice A (x0.l.length) (c_x0ol)) hA_13) ▸ (by kernel_rfl)) (by kernel_rfl) (by kernel_rfl) (idx_ok h_7 h_8) _) fun a hs => ?_)
    refine Vk.step (Vk.value (some 23) (.int .u64 e_10) hs (by kernel_rfl) (op := (.load 23 (.tmp 22))) (by kernel_rfl) (fun o ho => run_load1 (c := C.int .u64 e_10) ho (by kernel_rfl) (by kernel_rfl) (fun w ho => h_9 w ho 0 _ rfl) _ hs.own.drop) fun a hs => ?_)
    refine Vk.pures 1 [(4, .int .u64 e_10)] hs (by kernel_rfl) fun a hs => ?_
    replace hs := hs.pick [0, 4] (L' := [(0, .pointer (some ⟨b_x0, 0, none⟩)), (4, .int .u64 e_10)]) (by kernel_rfl)
    refine Vk.done (by kernel_rfl) ?_
    refine hK6 _ _ ?_
    clear hK6
    refine Vk.seq fun K14 hK14 => ?_
    refine Vk.region ?_
    refine Vk.pures 4 [(27, .pointer (some ⟨b_x0, 0, none⟩)), (26, .pointer (some ⟨b_x0, 0, none⟩)), (25, .pointer (some ⟨b_x0, 0, none⟩)), (24, .pointer (some ⟨b_x0, 0, none⟩))] hs (by kernel_rfl) fun a hs => ?_
    refine Vk.step (Vk.value (some 28) (.slice A_x0ol x0.l.length c_x0ol) hs (by kernel_rfl) (op := (.load 73 (.tmp 27))) (by kernel_rfl) (fun o ho => run_load1 (b := b_x0) (off := 0) (c := C.slc A_x0ol x0.l.length c_x0ol) ho (by kernel_rfl) (by kernel_rfl) (Cell.own 0 rfl (by kernel_rfl)) _ hs.own) fun a hs => ?_)
    obtain ⟨h_15, hm⟩ := ite_t hm
    obtain ⟨A_16, c_17, eA_18, ec_19, hx_20⟩ := Sl.sub (Own.rdSl 0 hs.own.drop rfl) h_15.2
    refine Vk.step (Vk.value (some 29) (.slice A_16 ((cut x0.l (1) (x0.l.length)).length) c_17) hs (by kernel_rfl) (op := (.slice 73 (.tmp 28) (some (.const (.int .i64 1))) none none)) (by kernel_rfl) (fun o ho => run_sub (sz := 1) (e := 23) h_15.2 eA_18 ec_19 (Sl.le (Own.rdSl 0 hs.own.drop rfl)) ho (by kernel_rfl) (by kernel_rfl) (by kernel_rfl) ⟨.i64, 1, by kernel_rfl, h_15.1, rfl⟩ rfl _) fun a hs => ?_)
    replace hs := hs.cutRd 1 rfl h_15.2 eA_18 ec_19
    refine Vk.pures 2 [(31, .pointer (some ⟨b_x0, 0, none⟩)), (30, .pointer (some ⟨b_x0, 0, none⟩))] hs (by kernel_rfl) fun a hs => ?_
    refine Vk.step (Vk.store1 (b := b_x0) (ty := 73) (x := (.tmp 31)) (y := (.tmp 29)) (off := 0) (C.slc A_16 ((cut x0.l (1) (x0.l.length)).length) c_17) 0 hs (by kernel_rfl) (by kernel_rfl) (by kernel_rfl) (by kernel_rfl) (by kernel_rfl) (by kernel_rfl) rfl (Nat.le_of_ble_eq_true (by kernel_rfl)) fun a w hs => ?_)
    replace hs := hs.pick [0, 4] (L' := [(0, .pointer (some ⟨b_x0, 0, none⟩)), (4, .int .u64 e_10)]) (by kernel_rfl)
    refine Vk.done (by kernel_rfl) ?_
    refine hK14 _ _ ?_
    clear hK14
    refine Vk.seq fun K21 hK21 => ?_
    refine Vk.region ?_
    refine Vk.pures 4 [(35, .pointer (some ⟨b_x0, 2, none⟩)), (34, .pointer (some ⟨b_x0, 0, none⟩)), (33, .pointer (some ⟨b_x0, 0, none⟩)), (32, .pointer (some ⟨b_x0, 0, none⟩))] hs (by kernel_rfl) fun a hs => ?_
    refine Vk.step (Vk.value (some 36) (.int .i64 x0.free) hs (by kernel_rfl) (op := (.load 3 (.tmp 35))) (by kernel_rfl) (fun o ho => run_load1 (b := b_x0) (off := 2) (c := C.int .i64 x0.free) ho (by kernel_rfl) (by kernel_rfl) (Cell.own 0 rfl (by kernel_rfl)) _ hs.own) fun a hs => ?_)
    refine Vk.pures 3 [(39, .pointer (some ⟨b_x0, 2, none⟩)), (38, .pointer (some ⟨b_x0, 0, none⟩)), (37, .int .i64 (IntKind.i64.wrap (x0.free - 1)))] hs (by kernel_rfl) fun a hs => ?_
    refine Vk.step (Vk.store1 (b := b_x0) (ty := 3) (x := (.tmp 39)) (y := (.tmp 37)) (off := 2) (C.int .i64 (IntKind.i64.wrap (x0.free - 1))) 0 hs (by kernel_rfl) (by kernel_rfl) (by kernel_rfl) (by kernel_rfl) (by kernel_rfl) (by kernel_rfl) rfl (Nat.le_of_ble_eq_true (by kernel_rfl)) fun a w hs => ?_)
    replace hs := hs.pick [0, 4] (L' := [(0, .pointer (some ⟨b_x0, 0, none⟩)), (4, .int .u64 e_10)]) (by kernel_rfl)
    refine Vk.done (by kernel_rfl) ?_
    refine hK21 _ _ ?_
    clear hK21
    refine Vk.seq fun K22 hK22 => ?_
    refine Vk.region ?_
    refine Vk.pures 4 [(43, .pointer (some ⟨b_x0, 1, none⟩)), (42, .pointer (some ⟨b_x0, 0, none⟩)), (41, .pointer (some ⟨b_x0, 0, none⟩)), (40, .pointer (some ⟨b_x0, 0, none⟩))] hs (by kernel_rfl) fun a hs => ?_
    refine Vk.step (Vk.value (some 44) (.int .i64 x0.used) hs (by kernel_rfl) (op := (.load 3 (.tmp 43))) (by kernel_rfl) (fun o ho => run_load1 (b := b_x0) (off := 1) (c := C.int .i64 x0.used) ho (by kernel_rfl) (by kernel_rfl) (Cell.own 0 rfl (by kernel_rfl)) _ hs.own) fun a hs => ?_)
    refine Vk.pures 3 [(47, .pointer (some ⟨b_x0, 1, none⟩)), (46, .pointer (some ⟨b_x0, 0, none⟩)), (45, .int .i64 (IntKind.i64.wrap (x0.used + 1)))] hs (by kernel_rfl) fun a hs => ?_
    refine Vk.step (Vk.store1 (b := b_x0) (ty := 3) (x := (.tmp 47)) (y := (.tmp 45)) (off := 1) (C.int .i64 (IntKind.i64.wrap (x0.used + 1))) 0 hs (by kernel_rfl) (by kernel_rfl) (by kernel_rfl) (by kernel_rfl) (by kernel_rfl) (by kernel_rfl) rfl (Nat.le_of_ble_eq_true (by kernel_rfl)) fun a w hs => ?_)
    replace hs := hs.pick [4] (L' := [(4, .int .u64 e_10)]) (by kernel_rfl)
    refine Vk.done (by kernel_rfl) ?_
    refine hK22 _ _ ?_
    clear hK22
    refine Vk.seq fun K23 hK23 => ?_
    refine Vk.region ?_
    refine Vk.pures 3 [(3, .bool true), (2, .int .u64 e_10), (48, .int .u64 e_10)] hs (by kernel_rfl) fun a hs => ?_
    replace hs := hs.pick [2, 3] (L' := [(2, .int .u64 e_10), (3, .bool true)]) (by kernel_rfl)
    refine Vk.done (by kernel_rfl) ?_
    refine hK23 _ _ ?_
    clear hK23
    refine wp_ret ?_
    exact Vk.ret2 (P := Try.prog) (fn := Try.f124) (R := visorref02_T_Draw.R κ S x0 b_x0 A_x0ol c_x0ol r) (.int .u64 e_10) (.bool true) hs rfl (by kernel_rfl) (by kernel_rfl) (by obtain rfl := Option.some.inj hm; exact ⟨A_16, c_17, rfl, (Own.to hs.own [0, 1] 2 (by kernel_rfl) (by kernel_rfl))⟩)

structure Tapi_Span where
  kind : Int
  fromF : Int
  to : Int
  deriving Inhabited
def Tapi_Span.cells (x : Tapi_Span) : Cells := [C.int .i64 x.kind, C.int .i64 x.fromF, C.int .i64 x.to]

structure Twire_Machine where
  n : Int
  most : Int
  base : Int
  words : Int
  draws : Int
  dry : Bool
  openF : Int
  fromF : Int
  bad : Int
  tape : Ttape_Tape
  ops : List Tapi_Op
  values : List Int
  blocks : List Tapi_Span
  deriving Inhabited
def Twire_Machine.obj (x : Twire_Machine) (btape : Nat) (Aops : Option Addr) (cops : Nat) (Avalues : Option Addr) (cvalues : Nat) (Ablocks : Option Addr) (cblocks : Nat) : Cells := [C.int .i64 x.n, C.int .i64 x.most, C.int .i64 x.base, C.int .i64 x.words, C.int .i64 x.draws, C.bool x.dry, C.int .i64 x.openF, C.int .i64 x.fromF, C.int .i64 x.bad, C.ptr (some ⟨btape, 0, none⟩), C.slc Aops x.ops.length cops, C.slc Avalues x.values.length cvalues, C.slc Ablocks x.blocks.length cblocks]

abbrev wire_Machine_Len.R (κ : Ctx) (S : List HP) (x0 : Twire_Machine) (b_x0 : Nat) (b_x0otape : Nat) (A_x0otapeowords : Option Addr) (c_x0otapeowords : Nat) (A_x0oops : Option Addr) (c_x0oops : Nat) (A_x0ovalues : Option Addr) (c_x0ovalues : Nat) (A_x0oblocks : Option Addr) (c_x0oblocks : Nat) (r : Int) : Ending → World → Prop := fun e w' => e = .returned (.int .i64 r) ∧ Own κ w' (pt b_x0 (blk (Twire_Machine.obj x0 b_x0otape A_x0oops c_x0oops A_x0ovalues c_x0ovalues A_x0oblocks c_x0oblocks) 151) :: pt b_x0otape (blk (Ttape_Tape.obj x0.tape A_x0otapeowords c_x0otapeowords) 158) :: rowp A_x0otapeowords c_x0otapeowords 23 1 (eI .u64) x0.tape.words :: rowp A_x0oops c_x0oops 32 6 Tapi_Op.cells x0.ops :: rowp A_x0ovalues c_x0ovalues 23 1 (eI .u64) x0.values :: rowp A_x0oblocks c_x0oblocks 144 3 Tapi_Span.cells x0.blocks :: S)
def wire_Machine_Len.m (k : Nat) (x0 : Twire_Machine) : Option Int := some (IntKind.i64.wrap (x0.base + ((x0.ops.length : Nat) : Int)))

set_option maxRecDepth 100000 in
set_option maxHeartbeats 4000000 in
theorem wire_Machine_Len.ok (k : Nat) (x0 : Twire_Machine) (r : Int) (hm : wire_Machine_Len.m k x0 = some r) (κ : Ctx) (w : World) (S : List HP) (b_x0 : Nat) (b_x0otape : Nat) (A_x0otapeowords : Option Addr) (c_x0otapeowords : Nat) (A_x0oops : Option Addr) (c_x0oops : Nat) (A_x0ovalues : Option Addr) (c_x0ovalues : Nat) (A_x0oblocks : Option Addr) (c_x0oblocks : Nat) (ho : Own κ w (pt b_x0 (blk (Twire_Machine.obj x0 b_x0otape A_x0oops c_x0oops A_x0ovalues c_x0ovalues A_x0oblocks c_x0oblocks) 151) :: pt b_x0otape (blk (Ttape_Tape.obj x0.tape A_x0otapeowords c_x0otapeowords) 158) :: rowp A_x0otapeowords c_x0otapeowords 23 1 (eI .u64) x0.tape.words :: rowp A_x0oops c_x0oops 32 6 Tapi_Op.cells x0.ops :: rowp A_x0ovalues c_x0ovalues 23 1 (eI .u64) x0.values :: rowp A_x0oblocks c_x0oblocks 144 3 Tapi_Span.cells x0.blocks :: S)) :
    Calls Try.prog 58 #[.pointer (some ⟨b_x0, 0, none⟩)] w (wire_Machine_Len.R κ S x0 b_x0 b_x0otape A_x0otapeowords c_x0otapeowords A_x0oops c_x0oops A_x0ovalues c_x0ovalues A_x0oblocks c_x0oblocks r) := by
  unfold wire_Machine_Len.m at hm
  refine Vk.enter [(0, .pointer (some ⟨b_x0, 0, none⟩))] Try.func58 rfl Try.ntmps58 (by kernel_rfl) (Nat.le_of_ble_eq_true (by kernel_rfl)) ho fun a hs => ?_
  refine Vk.seq fun K1 hK1 => ?_
  refine Vk.region ?_
  refine Vk.pures 1 [(2, .int .i64 0)] hs (by kernel_rfl) fun a hs => ?_
  replace hs := hs.pick [0] (L' := [(0, .pointer (some ⟨b_x0, 0, none⟩))]) (by kernel_rfl)
  refine Vk.done (by kernel_rfl) ?_
  refine hK1 _ _ ?_
  clear hK1
  refine Vk.seq fun K2 hK2 => ?_
  refine Vk.seq fun K3 hK3 => ?_
  refine Vk.region ?_
  refine Vk.pures 2 [(4, .bool false), (3, .pointer (some ⟨b_x0, 0, none⟩))] hs (by kernel_rfl) fun a hs => ?_
  replace hs := hs.pick [0, 4] (L' := [(0, .pointer (some ⟨b_x0, 0, none⟩)), (4, .bool false)]) (by kernel_rfl)
  refine Vk.done (by kernel_rfl) ?_
  refine hK3 _ _ ?_
  clear hK3
  refine Vk.condF hs (by kernel_rfl) (by kernel_rfl) ?_
  refine wp_skip ?_
  refine hK2 _ _ ?_
  clear hK2
  refine Vk.seq fun K4 hK4 => ?_
  obtain ⟨C_5, hC_5⟩ : ∃ X0 : List HP, X0 = (pt b_x0 (blk (Twire_Machine.obj x0 b_x0otape A_x0oops c_x0oops A_x0ovalues c_x0ovalues A_x0oblocks c_x0oblocks) 151) :: pt b_x0otape (blk (Ttape_Tape.obj x0.tape A_x0otapeowords c_x0otapeowords) 158) :: rowp A_x0otapeowords c_x0otapeowords 23 1 (eI .u64) x0.tape.words :: rowp A_x0oops c_x0oops 32 6 Tapi_Op.cells x0.ops :: rowp A_x0ovalues c_x0ovalues 23 1 (eI .u64) x0.values :: rowp A_x0oblocks c_x0oblocks 144 3 Tapi_Span.cells x0.blocks :: S) := ⟨_, rfl⟩
  refine Vk.drawnT 11 κ C_5 hs (by kernel_rfl) fun w hs => ?_
  have hcz : Own κ w (pt b_x0 (blk (Twire_Machine.obj x0 b_x0otape A_x0oops c_x0oops A_x0ovalues c_x0ovalues A_x0oblocks c_x0oblocks) 151) :: pt b_x0otape (blk (Ttape_Tape.obj x0.tape A_x0otapeowords c_x0otapeowords) 158) :: rowp A_x0otapeowords c_x0otapeowords 23 1 (eI .u64) x0.tape.words :: rowp A_x0oops c_x0oops 32 6 Tapi_Op.cells x0.ops :: rowp A_x0ovalues c_x0ovalues 23 1 (eI .u64) x0.values :: rowp A_x0oblocks c_x0oblocks 144 3 Tapi_Span.cells x0.blocks :: S) := (Own.to hs.own [0, 1, 2, 3, 4, 5] 6 (by kernel_rfl) (by kernel_rfl))
  have hcl : Own κ w C_5 := by rw [hC_5]; exact hcz
  refine Vk.dPuresT [0, 1, 2, 4, 5, 6] [(11, .pointer (some ⟨b_x0, 10, none⟩)), (10, .pointer (some ⟨b_x0, 0, none⟩)), (9, .pointer (some ⟨b_x0, 0, none⟩)), (7, .pointer (some ⟨b_x0, 2, none⟩)), (6, .pointer (some ⟨b_x0, 0, none⟩)), (5, .pointer (some ⟨b_x0, 0, none⟩))] hs (by kernel_rfl) (by repeat' (first | exact Vk.Calm.post | refine Vk.Calm.then ?_ | refine Vk.Calm.inBlock ?_)) hcl (by kernel_rfl) (by kernel_rfl) (fuel := 5) rfl fun a hs => ?_
  refine Vk.dTakeT (i := 3) (some 8) (.int .i64 x0.base) hs (by kernel_rfl) (by repeat' (first | exact Vk.Calm.post | refine Vk.Calm.then ?_ | refine Vk.Calm.inBlock ?_)) hcl (by kernel_rfl) (by kernel_rfl) (op := (.load 3 (.tmp 7))) (by kernel_rfl) (by kernel_rfl) (fun w hw o ho => by rw [hC_5] at hw; exact run_load1 (b := b_x0) (off := 2) (c := C.int .i64 x0.base) ho (by kernel_rfl) (by kernel_rfl) (Cell.own 0 rfl (by kernel_rfl)) _ hw) fun a hs => ?_
  refine Vk.dTakeT (i := 7) (some 12) (.slice A_x0oops x0.ops.length c_x0oops) hs (by kernel_rfl) (by repeat' (first | exact Vk.Calm.post | refine Vk.Calm.then ?_ | refine Vk.Calm.inBlock ?_)) hcl (by kernel_rfl) (by kernel_rfl) (op := (.load 69 (.tmp 11))) (by kernel_rfl) (by kernel_rfl) (fun w hw o ho => by rw [hC_5] at hw; exact run_load1 (b := b_x0) (off := 10) (c := C.slc A_x0oops x0.ops.length c_x0oops) ho (by kernel_rfl) (by kernel_rfl) (Cell.own 0 rfl (by kernel_rfl)) _ hw) fun a hs => ?_
  refine Vk.dPuresT [8, 9, 10] [(2, .int .i64 (IntKind.i64.wrap (x0.base + ((x0.ops.length : Nat) : Int)))), (14, .int .i64 (IntKind.i64.wrap (x0.base + ((x0.ops.length : Nat) : Int)))), (13, .int .i64 ((x0.ops.length : Nat) : Int))] hs (by kernel_rfl) (by repeat' (first | exact Vk.Calm.post | refine Vk.Calm.then ?_ | refine Vk.Calm.inBlock ?_)) hcl (by kernel_rfl) (by kernel_rfl) (fuel := 0) rfl fun a hs => ?_
  replace hs := hs.pick [2] (L' := [(2, .int .i64 (IntKind.i64.wrap (x0.base + ((x0.ops.length : Nat) : Int))))]) (by kernel_rfl)
  refine Vk.dDone (by kernel_rfl) ?_
  refine hK4 _ _ ?_
  clear hK4
  refine wp_ret ?_
  exact Vk.ret1 (P := Try.prog) (fn := Try.f58) (R := wire_Machine_Len.R κ S x0 b_x0 b_x0otape A_x0otapeowords c_x0otapeowords A_x0oops c_x0oops A_x0ovalues c_x0ovalues A_x0oblocks c_x0oblocks r) (.int .i64 (IntKind.i64.wrap (x0.base + ((x0.ops.length : Nat) : Int)))) hs rfl (by kernel_rfl) (by obtain rfl := Option.some.inj hm; exact ⟨rfl, (Own.to hs.own [0, 1, 2, 3, 4, 5] 6 (by kernel_rfl) (by kernel_rfl))⟩)


abbrev wire_Machine_Err.R (κ : Ctx) (S : List HP) (x0 : Twire_Machine) (b_x0 : Nat) (b_x0otape : Nat) (A_x0otapeowords : Option Addr) (c_x0otapeowords : Nat) (A_x0oops : Option Addr) (c_x0oops : Nat) (A_x0ovalues : Option Addr) (c_x0ovalues : Nat) (A_x0oblocks : Option Addr) (c_x0oblocks : Nat) (r : Int) : Ending → World → Prop := fun e w' => e = .returned (.int .i64 r) ∧ Own κ w' (pt b_x0 (blk (Twire_Machine.obj x0 b_x0otape A_x0oops c_x0oops A_x0ovalues c_x0ovalues A_x0oblocks c_x0oblocks) 151) :: pt b_x0otape (blk (Ttape_Tape.obj x0.tape A_x0otapeowords c_x0otapeowords) 158) :: rowp A_x0otapeowords c_x0otapeowords 23 1 (eI .u64) x0.tape.words :: rowp A_x0oops c_x0oops 32 6 Tapi_Op.cells x0.ops :: rowp A_x0ovalues c_x0ovalues 23 1 (eI .u64) x0.values :: rowp A_x0oblocks c_x0oblocks 144 3 Tapi_Span.cells x0.blocks :: S)
def wire_Machine_Err.m (k : Nat) (x0 : Twire_Machine) : Option Int := some x0.bad

set_option maxRecDepth 100000 in
set_option maxHeartbeats 4000000 in
theorem wire_Machine_Err.ok (k : Nat) (x0 : Twire_Machine) (r : Int) (hm : wire_Machine_Err.m k x0 = some r) (κ : Ctx) (w : World) (S : List HP) (b_x0 : Nat) (b_x0otape : Nat) (A_x0otapeowords : Option Addr) (c_x0otapeowords : Nat) (A_x0oops : Option Addr) (c_x0oops : Nat) (A_x0ovalues : Option Addr) (c_x0ovalues : Nat) (A_x0oblocks : Option Addr) (c_x0oblocks : Nat) (ho : Own κ w (pt b_x0 (blk (Twire_Machine.obj x0 b_x0otape A_x0oops c_x0oops A_x0ovalues c_x0ovalues A_x0oblocks c_x0oblocks) 151) :: pt b_x0otape (blk (Ttape_Tape.obj x0.tape A_x0otapeowords c_x0otapeowords) 158) :: rowp A_x0otapeowords c_x0otapeowords 23 1 (eI .u64) x0.tape.words :: rowp A_x0oops c_x0oops 32 6 Tapi_Op.cells x0.ops :: rowp A_x0ovalues c_x0ovalues 23 1 (eI .u64) x0.values :: rowp A_x0oblocks c_x0oblocks 144 3 Tapi_Span.cells x0.blocks :: S)) :
    Calls Try.prog 62 #[.pointer (some ⟨b_x0, 0, none⟩)] w (wire_Machine_Err.R κ S x0 b_x0 b_x0otape A_x0otapeowords c_x0otapeowords A_x0oops c_x0oops A_x0ovalues c_x0ovalues A_x0oblocks c_x0oblocks r) := by
  unfold wire_Machine_Err.m at hm
  refine Vk.enter [(0, .pointer (some ⟨b_x0, 0, none⟩))] Try.func62 rfl Try.ntmps62 (by kernel_rfl) (Nat.le_of_ble_eq_true (by kernel_rfl)) ho fun a hs => ?_
  refine Vk.seq fun K1 hK1 => ?_
  refine Vk.region ?_
  refine Vk.pures 1 [(2, .int .i64 0)] hs (by kernel_rfl) fun a hs => ?_
  replace hs := hs.pick [0] (L' := [(0, .pointer (some ⟨b_x0, 0, none⟩))]) (by kernel_rfl)
  refine Vk.done (by kernel_rfl) ?_
  refine hK1 _ _ ?_
  clear hK1
  refine Vk.seq fun K2 hK2 => ?_
  refine Vk.seq fun K3 hK3 => ?_
  refine Vk.region ?_
  refine Vk.pures 2 [(4, .bool false), (3, .pointer (some ⟨b_x0, 0, none⟩))] hs (by kernel_rfl) fun a hs => ?_
  replace hs := hs.pick [0, 4] (L' := [(0, .pointer (some ⟨b_x0, 0, none⟩)), (4, .bool false)]) (by kernel_rfl)
  refine Vk.done (by kernel_rfl) ?_
  refine hK3 _ _ ?_
  clear hK3
  refine Vk.condF hs (by kernel_rfl) (by kernel_rfl) ?_
  refine wp_skip ?_
  refine hK2 _ _ ?_
  clear hK2
  refine Vk.seq fun K4 hK4 => ?_
  refine Vk.region ?_
  refine Vk.pures 3 [(7, .pointer (some ⟨b_x0, 8, none⟩)), (6, .pointer (some ⟨b_x0, 0, none⟩)), (5, .pointer (some ⟨b_x0, 0, none⟩))] hs (by kernel_rfl) fun a hs => ?_
  refine Vk.step (Vk.value (some 8) (.int .i64 x0.bad) hs (by kernel_rfl) (op := (.load 43 (.tmp 7))) (by kernel_rfl) (fun o ho => run_load1 (b := b_x0) (off := 8) (c := C.int .i64 x0.bad) ho (by kernel_rfl) (by kernel_rfl) (Cell.own 0 rfl (by kernel_rfl)) _ hs.own) fun a hs => ?_)
  refine Vk.pures 1 [(2, .int .i64 x0.bad)] hs (by kernel_rfl) fun a hs => ?_
  replace hs := hs.pick [2] (L' := [(2, .int .i64 x0.bad)]) (by kernel_rfl)
  refine Vk.done (by kernel_rfl) ?_
  refine hK4 _ _ ?_
  clear hK4
  refine wp_ret ?_
  exact Vk.ret1 (P := Try.prog) (fn := Try.f62) (R := wire_Machine_Err.R κ S x0 b_x0 b_x0otape A_x0otapeowords c_x0otapeowords A_x0oops c_x0oops A_x0ovalues c_x0ovalues A_x0oblocks c_x0oblocks r) (.int .i64 x0.bad) hs rfl (by kernel_rfl) (by obtain rfl := Option.some.inj hm; exact ⟨rfl, (Own.to hs.own [0, 1, 2, 3, 4, 5] 6 (by kernel_rfl) (by kernel_rfl))⟩)


abbrev wire_Machine_N.R (κ : Ctx) (S : List HP) (x0 : Twire_Machine) (b_x0 : Nat) (b_x0otape : Nat) (A_x0otapeowords : Option Addr) (c_x0otapeowords : Nat) (A_x0oops : Option Addr) (c_x0oops : Nat) (A_x0ovalues : Option Addr) (c_x0ovalues : Nat) (A_x0oblocks : Option Addr) (c_x0oblocks : Nat) (r : Int) : Ending → World → Prop := fun e w' => e = .returned (.int .i64 r) ∧ Own κ w' (pt b_x0 (blk (Twire_Machine.obj x0 b_x0otape A_x0oops c_x0oops A_x0ovalues c_x0ovalues A_x0oblocks c_x0oblocks) 151) :: pt b_x0otape (blk (Ttape_Tape.obj x0.tape A_x0otapeowords c_x0otapeowords) 158) :: rowp A_x0otapeowords c_x0otapeowords 23 1 (eI .u64) x0.tape.words :: rowp A_x0oops c_x0oops 32 6 Tapi_Op.cells x0.ops :: rowp A_x0ovalues c_x0ovalues 23 1 (eI .u64) x0.values :: rowp A_x0oblocks c_x0oblocks 144 3 Tapi_Span.cells x0.blocks :: S)
def wire_Machine_N.m (k : Nat) (x0 : Twire_Machine) : Option Int := some x0.n

set_option maxRecDepth 100000 in
set_option maxHeartbeats 4000000 in
theorem wire_Machine_N.ok (k : Nat) (x0 : Twire_Machine) (r : Int) (hm : wire_Machine_N.m k x0 = some r) (κ : Ctx) (w : World) (S : List HP) (b_x0 : Nat) (b_x0otape : Nat) (A_x0otapeowords : Option Addr) (c_x0otapeowords : Nat) (A_x0oops : Option Addr) (c_x0oops : Nat) (A_x0ovalues : Option Addr) (c_x0ovalues : Nat) (A_x0oblocks : Option Addr) (c_x0oblocks : Nat) (ho : Own κ w (pt b_x0 (blk (Twire_Machine.obj x0 b_x0otape A_x0oops c_x0oops A_x0ovalues c_x0ovalues A_x0oblocks c_x0oblocks) 151) :: pt b_x0otape (blk (Ttape_Tape.obj x0.tape A_x0otapeowords c_x0otapeowords) 158) :: rowp A_x0otapeowords c_x0otapeowords 23 1 (eI .u64) x0.tape.words :: rowp A_x0oops c_x0oops 32 6 Tapi_Op.cells x0.ops :: rowp A_x0ovalues c_x0ovalues 23 1 (eI .u64) x0.values :: rowp A_x0oblocks c_x0oblocks 144 3 Tapi_Span.cells x0.blocks :: S)) :
    Calls Try.prog 88 #[.pointer (some ⟨b_x0, 0, none⟩)] w (wire_Machine_N.R κ S x0 b_x0 b_x0otape A_x0otapeowords c_x0otapeowords A_x0oops c_x0oops A_x0ovalues c_x0ovalues A_x0oblocks c_x0oblocks r) := by
  unfold wire_Machine_N.m at hm
  refine Vk.enter [(0, .pointer (some ⟨b_x0, 0, none⟩))] Try.func88 rfl Try.ntmps88 (by kernel_rfl) (Nat.le_of_ble_eq_true (by kernel_rfl)) ho fun a hs => ?_
  refine Vk.seq fun K1 hK1 => ?_
  refine Vk.region ?_
  refine Vk.pures 1 [(2, .int .i64 0)] hs (by kernel_rfl) fun a hs => ?_
  replace hs := hs.pick [0] (L' := [(0, .pointer (some ⟨b_x0, 0, none⟩))]) (by kernel_rfl)
  refine Vk.done (by kernel_rfl) ?_
  refine hK1 _ _ ?_
  clear hK1
  refine Vk.seq fun K2 hK2 => ?_
  refine Vk.seq fun K3 hK3 => ?_
  refine Vk.region ?_
  refine Vk.pures 2 [(4, .bool false), (3, .pointer (some ⟨b_x0, 0, none⟩))] hs (by kernel_rfl) fun a hs => ?_
  replace hs := hs.pick [0, 4] (L' := [(0, .pointer (some ⟨b_x0, 0, none⟩)), (4, .bool false)]) (by kernel_rfl)
  refine Vk.done (by kernel_rfl) ?_
  refine hK3 _ _ ?_
  clear hK3
  refine Vk.condF hs (by kernel_rfl) (by kernel_rfl) ?_
  refine wp_skip ?_
  refine hK2 _ _ ?_
  clear hK2
  refine Vk.seq fun K4 hK4 => ?_
  refine Vk.region ?_
  refine Vk.pures 3 [(7, .pointer (some ⟨b_x0, 0, none⟩)), (6, .pointer (some ⟨b_x0, 0, none⟩)), (5, .pointer (some ⟨b_x0, 0, none⟩))] hs (by kernel_rfl) fun a hs => ?_
  refine Vk.step (Vk.value (some 8) (.int .i64 x0.n) hs (by kernel_rfl) (op := (.load 3 (.tmp 7))) (by kernel_rfl) (fun o ho => run_load1 (b := b_x0) (off := 0) (c := C.int .i64 x0.n) ho (by kernel_rfl) (by kernel_rfl) (Cell.own 0 rfl (by kernel_rfl)) _ hs.own) fun a hs => ?_)
  refine Vk.pures 1 [(2, .int .i64 x0.n)] hs (by kernel_rfl) fun a hs => ?_
  replace hs := hs.pick [2] (L' := [(2, .int .i64 x0.n)]) (by kernel_rfl)
  refine Vk.done (by kernel_rfl) ?_
  refine hK4 _ _ ?_
  clear hK4
  refine wp_ret ?_
  exact Vk.ret1 (P := Try.prog) (fn := Try.f88) (R := wire_Machine_N.R κ S x0 b_x0 b_x0otape A_x0otapeowords c_x0otapeowords A_x0oops c_x0oops A_x0ovalues c_x0ovalues A_x0oblocks c_x0oblocks r) (.int .i64 x0.n) hs rfl (by kernel_rfl) (by obtain rfl := Option.some.inj hm; exact ⟨rfl, (Own.to hs.own [0, 1, 2, 3, 4, 5] 6 (by kernel_rfl) (by kernel_rfl))⟩)


def wire_Machine_right.j1 (k : Nat) (p_11 : Bool) : Option (Bool) := some p_11
abbrev wire_Machine_right.R (κ : Ctx) (S : List HP) (x0 : Twire_Machine) (x1 : Tapi_Op) (b_x0 : Nat) (b_x0otape : Nat) (A_x0otapeowords : Option Addr) (c_x0otapeowords : Nat) (A_x0oops : Option Addr) (c_x0oops : Nat) (A_x0ovalues : Option Addr) (c_x0ovalues : Nat) (A_x0oblocks : Option Addr) (c_x0oblocks : Nat) (r : Bool) : Ending → World → Prop := fun e w' => e = .returned (.bool r) ∧ Own κ w' (pt b_x0 (blk (Twire_Machine.obj x0 b_x0otape A_x0oops c_x0oops A_x0ovalues c_x0ovalues A_x0oblocks c_x0oblocks) 151) :: pt b_x0otape (blk (Ttape_Tape.obj x0.tape A_x0otapeowords c_x0otapeowords) 158) :: rowp A_x0otapeowords c_x0otapeowords 23 1 (eI .u64) x0.tape.words :: rowp A_x0oops c_x0oops 32 6 Tapi_Op.cells x0.ops :: rowp A_x0ovalues c_x0ovalues 23 1 (eI .u64) x0.values :: rowp A_x0oblocks c_x0oblocks 144 3 Tapi_Span.cells x0.blocks :: S)
def wire_Machine_right.m (k : Nat) (x0 : Twire_Machine) (x1 : Tapi_Op) : Option Bool := (wire_Machine_Len.m k x0).bind fun v_7 => (op_Right.m k x1 v_7 x0.n).bind fun v_10 => (bif v_10 then (bif x1.kind != 2 then wire_Machine_right.j1 k true else wire_Machine_right.j1 k (x1.c == (IntKind.u64.wrap x0.words))) else wire_Machine_right.j1 k false)

set_option maxRecDepth 100000 in
set_option maxHeartbeats 4000000 in
theorem wire_Machine_right.ok (k : Nat) (x0 : Twire_Machine) (x1 : Tapi_Op) (r : Bool) (hm : wire_Machine_right.m k x0 x1 = some r) (κ : Ctx) (w : World) (S : List HP) (b_x0 : Nat) (b_x0otape : Nat) (A_x0otapeowords : Option Addr) (c_x0otapeowords : Nat) (A_x0oops : Option Addr) (c_x0oops : Nat) (A_x0ovalues : Option Addr) (c_x0ovalues : Nat) (A_x0oblocks : Option Addr) (c_x0oblocks : Nat) (ho : Own κ w (pt b_x0 (blk (Twire_Machine.obj x0 b_x0otape A_x0oops c_x0oops A_x0ovalues c_x0ovalues A_x0oblocks c_x0oblocks) 151) :: pt b_x0otape (blk (Ttape_Tape.obj x0.tape A_x0otapeowords c_x0otapeowords) 158) :: rowp A_x0otapeowords c_x0otapeowords 23 1 (eI .u64) x0.tape.words :: rowp A_x0oops c_x0oops 32 6 Tapi_Op.cells x0.ops :: rowp A_x0ovalues c_x0ovalues 23 1 (eI .u64) x0.values :: rowp A_x0oblocks c_x0oblocks 144 3 Tapi_Span.cells x0.blocks :: S)) :
    Calls Try.prog 93 #[.pointer (some ⟨b_x0, 0, none⟩), .agg (vals [C.int .i64 x1.kind, C.int .i64 x1.dom, C.int .i64 x1.a, C.int .i64 x1.b, C.int .i64 x1.d, C.int .u64 x1.c])] w (wire_Machine_right.R κ S x0 x1 b_x0 b_x0otape A_x0otapeowords c_x0otapeowords A_x0oops c_x0oops A_x0ovalues c_x0ovalues A_x0oblocks c_x0oblocks r) := by
  unfold wire_Machine_right.m at hm
  refine Vk.enter [(0, .pointer (some ⟨b_x0, 0, none⟩)), (1, .agg (vals [C.int .i64 x1.kind, C.int .i64 x1.dom, C.int .i64 x1.a, C.int .i64 x1.b, C.int .i64 x1.d, C.int .u64 x1.c]))] Try.func93 rfl Try.ntmps93 (by kernel_rfl) (Nat.le_of_ble_eq_true (by kernel_rfl)) ho fun a hs => ?_
  refine Vk.seq fun K1 hK1 => ?_
  refine Vk.region ?_
  refine Vk.step (Vk.box (x := (.tmp 1)) 3 32 [C.int .i64 x1.kind, C.int .i64 x1.dom, C.int .i64 x1.a, C.int .i64 x1.b, C.int .i64 x1.d, C.int .u64 x1.c] hs (by kernel_rfl) (by kernel_rfl) (by kernel_rfl) fun b_2 w a hs => ?_)
  refine Vk.pures 1 [(4, .bool false)] hs (by kernel_rfl) fun a hs => ?_
  replace hs := hs.pick [0, 3] (L' := [(0, .pointer (some ⟨b_x0, 0, none⟩)), (3, .pointer (some ⟨b_2, 0, none⟩))]) (by kernel_rfl)
  refine Vk.done (by kernel_rfl) ?_
  refine hK1 _ _ ?_
  clear hK1
  refine Vk.seq fun K3 hK3 => ?_
  have hj3 : ∀ (p_11 : Bool), wire_Machine_right.j1 k p_11 = some r → ∀ (a : Act) (w : World), St 28 a w κ [(4, .bool p_11)] (pt b_x0 (blk (Twire_Machine.obj x0 b_x0otape A_x0oops c_x0oops A_x0ovalues c_x0ovalues A_x0oblocks c_x0oblocks) 151) :: pt b_x0otape (blk (Ttape_Tape.obj x0.tape A_x0otapeowords c_x0otapeowords) 158) :: rowp A_x0otapeowords c_x0otapeowords 23 1 (eI .u64) x0.tape.words :: rowp A_x0oops c_x0oops 32 6 Tapi_Op.cells x0.ops :: rowp A_x0ovalues c_x0ovalues 23 1 (eI .u64) x0.values :: rowp A_x0oblocks c_x0oblocks 144 3 Tapi_Span.cells x0.blocks :: S) → K3 a w := by
    intro p_11 hm a w hs
    unfold wire_Machine_right.j1 at hm
    refine hK3 _ _ ?_
    refine wp_ret ?_
    exact Vk.ret1 (P := Try.prog) (fn := Try.f93) (R := wire_Machine_right.R κ S x0 x1 b_x0 b_x0otape A_x0otapeowords c_x0otapeowords A_x0oops c_x0oops A_x0ovalues c_x0ovalues A_x0oblocks c_x0oblocks r) (.bool p_11) hs rfl (by kernel_rfl) (by obtain rfl := Option.some.inj hm; exact ⟨rfl, (Own.to hs.own [0, 1, 2, 3, 4, 5] 6 (by kernel_rfl) (by kernel_rfl))⟩)
  obtain ⟨C_4, hC_4⟩ : ∃ X0 : List HP, X0 = (pt b_2 (blk (Tapi_Op.cells x1) 32) :: pt b_x0 (blk (Twire_Machine.obj x0 b_x0otape A_x0oops c_x0oops A_x0ovalues c_x0ovalues A_x0oblocks c_x0oblocks) 151) :: pt b_x0otape (blk (Ttape_Tape.obj x0.tape A_x0otapeowords c_x0otapeowords) 158) :: rowp A_x0otapeowords c_x0otapeowords 23 1 (eI .u64) x0.tape.words :: rowp A_x0oops c_x0oops 32 6 Tapi_Op.cells x0.ops :: rowp A_x0ovalues c_x0ovalues 23 1 (eI .u64) x0.values :: rowp A_x0oblocks c_x0oblocks 144 3 Tapi_Span.cells x0.blocks :: S) := ⟨_, rfl⟩
  refine Vk.drawnT 24 κ C_4 hs (by kernel_rfl) fun w hs => ?_
  have hcz : Own κ w (pt b_2 (blk (Tapi_Op.cells x1) 32) :: pt b_x0 (blk (Twire_Machine.obj x0 b_x0otape A_x0oops c_x0oops A_x0ovalues c_x0ovalues A_x0oblocks c_x0oblocks) 151) :: pt b_x0otape (blk (Ttape_Tape.obj x0.tape A_x0otapeowords c_x0otapeowords) 158) :: rowp A_x0otapeowords c_x0otapeowords 23 1 (eI .u64) x0.tape.words :: rowp A_x0oops c_x0oops 32 6 Tapi_Op.cells x0.ops :: rowp A_x0ovalues c_x0ovalues 23 1 (eI .u64) x0.values :: rowp A_x0oblocks c_x0oblocks 144 3 Tapi_Span.cells x0.blocks :: S) := (Own.to hs.own [0, 1, 2, 3, 4, 5, 6] 7 (by kernel_rfl) (by kernel_rfl))
  have hcl : Own κ w C_4 := by rw [hC_4]; exact hcz
  refine Vk.dPuresT [1, 3, 4, 5] [(10, .pointer (some ⟨b_x0, 0, none⟩)), (9, .pointer (some ⟨b_x0, 0, none⟩)), (8, .pointer (some ⟨b_x0, 0, none⟩)), (6, .pointer (some ⟨b_x0, 0, none⟩))] hs (by kernel_rfl) (by repeat' (first | exact Vk.Calm.post | refine Vk.Calm.then ?_ | refine Vk.Calm.inBlock ?_)) hcl (by kernel_rfl) (by kernel_rfl) (fuel := 20) rfl fun a hs => ?_
  refine Vk.dTakeT (i := 0) (some 5) (.agg (vals [C.int .i64 x1.kind, C.int .i64 x1.dom, C.int .i64 x1.a, C.int .i64 x1.b, C.int .i64 x1.d, C.int .u64 x1.c])) hs (by kernel_rfl) (by repeat' (first | exact Vk.Calm.post | refine Vk.Calm.then ?_ | refine Vk.Calm.inBlock ?_)) hcl (by kernel_rfl) (by kernel_rfl) (op := (.load 32 (.tmp 3))) (by kernel_rfl) (by kernel_rfl) (fun w hw o ho => by rw [hC_4] at hw; exact run_loadN (cs := [C.int .i64 x1.kind, C.int .i64 x1.dom, C.int .i64 x1.a, C.int .i64 x1.b, C.int .i64 x1.d, C.int .u64 x1.c]) ho (by kernel_rfl) (by kernel_rfl) rfl (CellsAt.all 0 rfl) _ hw) fun a hs => ?_
  refine Vk.dTakeT (i := 6) (some 11) (.int .i64 x0.n) hs (by kernel_rfl) (by repeat' (first | exact Vk.Calm.post | refine Vk.Calm.then ?_ | refine Vk.Calm.inBlock ?_)) hcl (by kernel_rfl) (by kernel_rfl) (op := (.load 3 (.tmp 10))) (by kernel_rfl) (by kernel_rfl) (fun w hw o ho => by rw [hC_4] at hw; exact run_load1 (b := b_x0) (off := 0) (c := C.int .i64 x0.n) ho (by kernel_rfl) (by kernel_rfl) (Cell.own 1 rfl (by kernel_rfl)) _ hw) fun a hs => ?_
  obtain ⟨v_7, h_6, hm⟩ := bind_t hm
  refine Vk.dOnly (i := 2) (by kernel_rfl) (Vk.call (some 7) 58 #[.pointer (some ⟨b_x0, 0, none⟩)] hs (by kernel_rfl) (by kernel_rfl) (by kernel_rfl) ?_)
  refine (wire_Machine_Len.ok k x0 v_7 h_6 κ w (pt b_2 (blk (Tapi_Op.cells x1) 32) :: S) b_x0 b_x0otape A_x0otapeowords c_x0otapeowords A_x0oops c_x0oops A_x0ovalues c_x0ovalues A_x0oblocks c_x0oblocks (Own.to hs.own [1, 2, 3, 4, 5, 6, 0] 7 (by kernel_rfl) (by kernel_rfl))).mono ?_
  rintro _ w ⟨rfl, how⟩
  refine ⟨_, _, _, rfl, how, fun a hs => ?_⟩
  replace hcl : Own κ w C_4 := by rw [hC_4]; exact (Own.to hs.own [6, 0, 1, 2, 3, 4, 5] 7 (by kernel_rfl) (by kernel_rfl))
  refine ⟨fun _ => hcl, ?_⟩
  obtain ⟨v_10, h_9, hm⟩ := bind_t hm
  refine Vk.dOnly (i := 7) (by kernel_rfl) (Vk.call (some 12) 115 #[.agg (vals [C.int .i64 x1.kind, C.int .i64 x1.dom, C.int .i64 x1.a, C.int .i64 x1.b, C.int .i64 x1.d, C.int .u64 x1.c]), .int .i64 v_7, .int .i64 x0.n] hs (by kernel_rfl) (by kernel_rfl) (by kernel_rfl) ?_)
  refine (op_Right.ok k x1 v_7 x0.n v_10 h_9 κ w (pt b_x0 (blk (Twire_Machine.obj x0 b_x0otape A_x0oops c_x0oops A_x0ovalues c_x0ovalues A_x0oblocks c_x0oblocks) 151) :: pt b_x0otape (blk (Ttape_Tape.obj x0.tape A_x0otapeowords c_x0otapeowords) 158) :: rowp A_x0otapeowords c_x0otapeowords 23 1 (eI .u64) x0.tape.words :: rowp A_x0oops c_x0oops 32 6 Tapi_Op.cells x0.ops :: rowp A_x0ovalues c_x0ovalues 23 1 (eI .u64) x0.values :: rowp A_x0oblocks c_x0oblocks 144 3 Tapi_Span.cells x0.blocks :: pt b_2 (blk (Tapi_Op.cells x1) 32) :: S) hs.own).mono ?_
  rintro _ w ⟨rfl, how⟩
  refine ⟨_, _, _, rfl, how, fun a hs => ?_⟩
  replace hcl : Own κ w C_4 := by rw [hC_4]; exact (Own.to hs.own [6, 0, 1, 2, 3, 4, 5] 7 (by kernel_rfl) (by kernel_rfl))
  refine ⟨fun _ => hcl, ?_⟩
  refine Vk.dPuresT [8] [(13, .bool v_10)] hs (by kernel_rfl) (by repeat' (first | exact Vk.Calm.post | refine Vk.Calm.then ?_ | refine Vk.Calm.inBlock ?_)) hcl (by kernel_rfl) (by kernel_rfl) (fuel := 15) rfl fun a hs => ?_
  rcases Bool.eq_false_or_eq_true (v_10) with hb | hb
  · replace hm := bif_t hm hb
    replace hs := hs.known (t := 13) hb (by kernel_rfl)
    refine Vk.dPuresT [9] [(14, .pointer (some ⟨b_2, 0, none⟩))] hs (by kernel_rfl) (by repeat' (first | exact Vk.Calm.post | refine Vk.Calm.then ?_ | refine Vk.Calm.inBlock ?_)) hcl (by kernel_rfl) (by kernel_rfl) (fuel := 14) rfl fun a hs => ?_
    refine Vk.dTakeT (i := 10) (some 15) (.int .i64 x1.kind) hs (by kernel_rfl) (by repeat' (first | exact Vk.Calm.post | refine Vk.Calm.then ?_ | refine Vk.Calm.inBlock ?_)) hcl (by kernel_rfl) (by kernel_rfl) (op := (.load 3 (.tmp 14))) (by kernel_rfl) (by kernel_rfl) (fun w hw o ho => by rw [hC_4] at hw; exact run_load1 (b := b_2) (off := 0) (c := C.int .i64 x1.kind) ho (by kernel_rfl) (by kernel_rfl) (Cell.own 0 rfl (by kernel_rfl)) _ hw) fun a hs => ?_
    refine Vk.dPuresT [11, 12] [(17, .bool (x1.kind != 2)), (16, .bool (x1.kind != 2))] hs (by kernel_rfl) (by repeat' (first | exact Vk.Calm.post | refine Vk.Calm.then ?_ | refine Vk.Calm.inBlock ?_)) hcl (by kernel_rfl) (by kernel_rfl) (fuel := 11) rfl fun a hs => ?_
    rcases Bool.eq_false_or_eq_true (x1.kind != 2) with hb | hb
    · replace hm := bif_t hm hb
      replace hs := hs.known (t := 17) hb (by kernel_rfl)
      refine Vk.dPuresT [13, 14, 15, 16, 17, 18, 19, 20, 21, 22, 23] [(4, .bool true), (27, .bool true), (26, .bool true), (25, undef), (24, undef), (23, undef), (22, undef), (21, undef), (20, undef), (19, undef), (18, undef)] hs (by kernel_rfl) (by repeat' (first | exact Vk.Calm.post | refine Vk.Calm.then ?_ | refine Vk.Calm.inBlock ?_)) hcl (by kernel_rfl) (by kernel_rfl) (fuel := 0) rfl fun a hs => ?_
      replace hs := hs.pick [4] (L' := [(4, .bool true)]) (by kernel_rfl)
      refine Vk.dDone (by kernel_rfl) ?_
      exact hj3 true hm _ _ (hs.go [4] [0, 1, 2, 3, 4, 5] 7 (by kernel_rfl) (by kernel_rfl) (by kernel_rfl))
    · replace hm := bif_f hm hb
      replace hs := hs.known (t := 17) hb (by kernel_rfl)
      refine Vk.dPuresT [13, 15, 16, 17] [(22, .pointer (some ⟨b_x0, 3, none⟩)), (21, .pointer (some ⟨b_x0, 0, none⟩)), (20, .pointer (some ⟨b_x0, 0, none⟩)), (18, .pointer (some ⟨b_2, 5, none⟩))] hs (by kernel_rfl) (by repeat' (first | exact Vk.Calm.post | refine Vk.Calm.then ?_ | refine Vk.Calm.inBlock ?_)) hcl (by kernel_rfl) (by kernel_rfl) (fuel := 7) rfl fun a hs => ?_
      refine Vk.dTakeT (i := 14) (some 19) (.int .u64 x1.c) hs (by kernel_rfl) (by repeat' (first | exact Vk.Calm.post | refine Vk.Calm.then ?_ | refine Vk.Calm.inBlock ?_)) hcl (by kernel_rfl) (by kernel_rfl) (op := (.load 23 (.tmp 18))) (by kernel_rfl) (by kernel_rfl) (fun w hw o ho => by rw [hC_4] at hw; exact run_load1 (b := b_2) (off := 5) (c := C.int .u64 x1.c) ho (by kernel_rfl) (by kernel_rfl) (Cell.own 0 rfl (by kernel_rfl)) _ hw) fun a hs => ?_
      refine Vk.dTakeT (i := 18) (some 23) (.int .i64 x0.words) hs (by kernel_rfl) (by repeat' (first | exact Vk.Calm.post | refine Vk.Calm.then ?_ | refine Vk.Calm.inBlock ?_)) hcl (by kernel_rfl) (by kernel_rfl) (op := (.load 3 (.tmp 22))) (by kernel_rfl) (by kernel_rfl) (fun w hw o ho => by rw [hC_4] at hw; exact run_load1 (b := b_x0) (off := 3) (c := C.int .i64 x0.words) ho (by kernel_rfl) (by kernel_rfl) (Cell.own 1 rfl (by kernel_rfl)) _ hw) fun a hs => ?_
      refine Vk.dPuresT [19, 20, 21, 22, 23] [(4, .bool (x1.c == (IntKind.u64.wrap x0.words))), (27, .bool (x1.c == (IntKind.u64.wrap x0.words))), (26, .bool (x1.c == (IntKind.u64.wrap x0.words))), (25, .bool (x1.c == (IntKind.u64.wrap x0.words))), (24, .int .u64 (IntKind.u64.wrap x0.words))] hs (by kernel_rfl) (by repeat' (first | exact Vk.Calm.post | refine Vk.Calm.then ?_ | refine Vk.Calm.inBlock ?_)) hcl (by kernel_rfl) (by kernel_rfl) (fuel := 0) rfl fun a hs => ?_
      replace hs := hs.pick [4] (L' := [(4, .bool (x1.c == (IntKind.u64.wrap x0.words)))]) (by kernel_rfl)
      refine Vk.dDone (by kernel_rfl) ?_
      exact hj3 (x1.c == (IntKind.u64.wrap x0.words)) hm _ _ (hs.go [4] [0, 1, 2, 3, 4, 5] 7 (by kernel_rfl) (by kernel_rfl) (by kernel_rfl))
  · replace hm := bif_f hm hb
    replace hs := hs.known (t := 13) hb (by kernel_rfl)
    refine Vk.dPuresT [9, 10, 11, 12, 13, 14, 15, 16, 17, 18, 19, 20, 21, 22, 23] [(4, .bool false), (27, .bool false), (26, undef), (25, undef), (24, undef), (23, undef), (22, undef), (21, undef), (20, undef), (19, undef), (18, undef), (17, undef), (16, undef), (15, undef), (14, undef)] hs (by kernel_rfl) (by repeat' (first | exact Vk.Calm.post | refine Vk.Calm.then ?_ | refine Vk.Calm.inBlock ?_)) hcl (by kernel_rfl) (by kernel_rfl) (fuel := 0) rfl fun a hs => ?_
    replace hs := hs.pick [4] (L' := [(4, .bool false)]) (by kernel_rfl)
    refine Vk.dDone (by kernel_rfl) ?_
    exact hj3 false hm _ _ (hs.go [4] [0, 1, 2, 3, 4, 5] 7 (by kernel_rfl) (by kernel_rfl) (by kernel_rfl))


def wire_Machine_fail.j1 (k : Nat) (p_4 : Twire_Machine) : Option ((Int × Twire_Machine)) := some ((-1), p_4)
abbrev wire_Machine_fail.R (κ : Ctx) (S : List HP) (x0 : Twire_Machine) (x1 : Int) (b_x0 : Nat) (b_x0otape : Nat) (A_x0otapeowords : Option Addr) (c_x0otapeowords : Nat) (A_x0oops : Option Addr) (c_x0oops : Nat) (A_x0ovalues : Option Addr) (c_x0ovalues : Nat) (A_x0oblocks : Option Addr) (c_x0oblocks : Nat) (r : (Int × Twire_Machine)) : Ending → World → Prop := fun e w' => ∃ (A_y0otapeowords : Option Addr), ∃ (c_y0otapeowords : Nat), ∃ (A_y0oops : Option Addr), ∃ (c_y0oops : Nat), ∃ (A_y0ovalues : Option Addr), ∃ (c_y0ovalues : Nat), ∃ (A_y0oblocks : Option Addr), ∃ (c_y0oblocks : Nat), e = .returned (.int .i64 r.1) ∧ Own κ w' (pt b_x0 (blk (Twire_Machine.obj r.2 b_x0otape A_y0oops c_y0oops A_y0ovalues c_y0ovalues A_y0oblocks c_y0oblocks) 151) :: pt b_x0otape (blk (Ttape_Tape.obj r.2.tape A_y0otapeowords c_y0otapeowords) 158) :: rowp A_y0otapeowords c_y0otapeowords 23 1 (eI .u64) r.2.tape.words :: rowp A_y0oops c_y0oops 32 6 Tapi_Op.cells r.2.ops :: rowp A_y0ovalues c_y0ovalues 23 1 (eI .u64) r.2.values :: rowp A_y0oblocks c_y0oblocks 144 3 Tapi_Span.cells r.2.blocks :: S)
def wire_Machine_fail.m (k : Nat) (x0 : Twire_Machine) (x1 : Int) : Option (Int × Twire_Machine) := (bif x0.bad == 0 then wire_Machine_fail.j1 k (⟨x0.n, x0.most, x0.base, x0.words, x0.draws, x0.dry, x0.openF, x0.fromF, x1, x0.tape, x0.ops, x0.values, x0.blocks⟩ : Twire_Machine) else wire_Machine_fail.j1 k x0)

set_option maxRecDepth 100000 in
set_option maxHeartbeats 4000000 in
theorem wire_Machine_fail.ok (k : Nat) (x0 : Twire_Machine) (x1 : Int) (r : (Int × Twire_Machine)) (hm : wire_Machine_fail.m k x0 x1 = some r) (κ : Ctx) (w : World) (S : List HP) (b_x0 : Nat) (b_x0otape : Nat) (A_x0otapeowords : Option Addr) (c_x0otapeowords : Nat) (A_x0oops : Option Addr) (c_x0oops : Nat) (A_x0ovalues : Option Addr) (c_x0ovalues : Nat) (A_x0oblocks : Option Addr) (c_x0oblocks : Nat) (ho : Own κ w (pt b_x0 (blk (Twire_Machine.obj x0 b_x0otape A_x0oops c_x0oops A_x0ovalues c_x0ovalues A_x0oblocks c_x0oblocks) 151) :: pt b_x0otape (blk (Ttape_Tape.obj x0.tape A_x0otapeowords c_x0otapeowords) 158) :: rowp A_x0otapeowords c_x0otapeowords 23 1 (eI .u64) x0.tape.words :: rowp A_x0oops c_x0oops 32 6 Tapi_Op.cells x0.ops :: rowp A_x0ovalues c_x0ovalues 23 1 (eI .u64) x0.values :: rowp A_x0oblocks c_x0oblocks 144 3 Tapi_Span.cells x0.blocks :: S)) :
    Calls Try.prog 94 #[.pointer (some ⟨b_x0, 0, none⟩), .int .i64 x1] w (wire_Machine_fail.R κ S x0 x1 b_x0 b_x0otape A_x0otapeowords c_x0otapeowords A_x0oops c_x0oops A_x0ovalues c_x0ovalues A_x0oblocks c_x0oblocks r) := by
  unfold wire_Machine_fail.m at hm
  refine Vk.enter [(0, .pointer (some ⟨b_x0, 0, none⟩)), (1, .int .i64 x1)] Try.func94 rfl Try.ntmps94 (by kernel_rfl) (Nat.le_of_ble_eq_true (by kernel_rfl)) ho fun a hs => ?_
  refine Vk.seq fun K1 hK1 => ?_
  refine Vk.region ?_
  refine Vk.pures 1 [(4, .int .i64 0)] hs (by kernel_rfl) fun a hs => ?_
  replace hs := hs.pick [0, 1] (L' := [(0, .pointer (some ⟨b_x0, 0, none⟩)), (1, .int .i64 x1)]) (by kernel_rfl)
  refine Vk.done (by kernel_rfl) ?_
  refine hK1 _ _ ?_
  clear hK1
  refine Vk.seq fun K2 hK2 => ?_
  have hj2 : ∀ (p_4 : Twire_Machine), wire_Machine_fail.j1 k p_4 = some r → ∀ (a : Act) (w : World), St 14 a w κ [] (pt b_x0 (blk (Twire_Machine.obj p_4 b_x0otape A_x0oops c_x0oops A_x0ovalues c_x0ovalues A_x0oblocks c_x0oblocks) 151) :: pt b_x0otape (blk (Ttape_Tape.obj p_4.tape A_x0otapeowords c_x0otapeowords) 158) :: rowp A_x0otapeowords c_x0otapeowords 23 1 (eI .u64) p_4.tape.words :: rowp A_x0oops c_x0oops 32 6 Tapi_Op.cells p_4.ops :: rowp A_x0ovalues c_x0ovalues 23 1 (eI .u64) p_4.values :: rowp A_x0oblocks c_x0oblocks 144 3 Tapi_Span.cells p_4.blocks :: S) → K2 a w := by
    intro p_4 hm a w hs
    unfold wire_Machine_fail.j1 at hm
    refine hK2 _ _ ?_
    refine Vk.seq fun K5 hK5 => ?_
    refine Vk.region ?_
    refine Vk.pures 1 [(4, .int .i64 (-1))] hs (by kernel_rfl) fun a hs => ?_
    replace hs := hs.pick [4] (L' := [(4, .int .i64 (-1))]) (by kernel_rfl)
    refine Vk.done (by kernel_rfl) ?_
    refine hK5 _ _ ?_
    clear hK5
    refine wp_ret ?_
    exact Vk.ret1 (P := Try.prog) (fn := Try.f94) (R := wire_Machine_fail.R κ S x0 x1 b_x0 b_x0otape A_x0otapeowords c_x0otapeowords A_x0oops c_x0oops A_x0ovalues c_x0ovalues A_x0oblocks c_x0oblocks r) (.int .i64 (-1)) hs rfl (by kernel_rfl) (by obtain rfl := Option.some.inj hm; exact ⟨A_x0otapeowords, c_x0otapeowords, A_x0oops, c_x0oops, A_x0ovalues, c_x0ovalues, A_x0oblocks, c_x0oblocks, rfl, (Own.to hs.own [0, 1, 2, 3, 4, 5] 6 (by kernel_rfl) (by kernel_rfl))⟩)
  refine Vk.seq fun K3 hK3 => ?_
  refine Vk.region ?_
  refine Vk.pures 3 [(7, .pointer (some ⟨b_x0, 8, none⟩)), (6, .pointer (some ⟨b_x0, 0, none⟩)), (5, .pointer (some ⟨b_x0, 0, none⟩))] hs (by kernel_rfl) fun a hs => ?_
  refine Vk.step (Vk.value (some 8) (.int .i64 x0.bad) hs (by kernel_rfl) (op := (.load 43 (.tmp 7))) (by kernel_rfl) (fun o ho => run_load1 (b := b_x0) (off := 8) (c := C.int .i64 x0.bad) ho (by kernel_rfl) (by kernel_rfl) (Cell.own 0 rfl (by kernel_rfl)) _ hs.own) fun a hs => ?_)
  refine Vk.pures 1 [(9, .bool (x0.bad == 0))] hs (by kernel_rfl) fun a hs => ?_
  replace hs := hs.pick [0, 1, 9] (L' := [(0, .pointer (some ⟨b_x0, 0, none⟩)), (1, .int .i64 x1), (9, .bool (x0.bad == 0))]) (by kernel_rfl)
  refine Vk.done (by kernel_rfl) ?_
  refine hK3 _ _ ?_
  clear hK3
  refine Vk.condS (b := x0.bad == 0) hs (by kernel_rfl) (by kernel_rfl) (fun hb => ?_) (fun hb => ?_)
  · replace hm := bif_t hm hb
    refine Vk.region ?_
    refine Vk.pures 4 [(13, .pointer (some ⟨b_x0, 8, none⟩)), (12, .pointer (some ⟨b_x0, 0, none⟩)), (11, .int .i64 x1), (10, .pointer (some ⟨b_x0, 0, none⟩))] hs (by kernel_rfl) fun a hs => ?_
    refine Vk.step (Vk.store1 (b := b_x0) (ty := 43) (x := (.tmp 13)) (y := (.tmp 11)) (off := 8) (C.int .i64 x1) 0 hs (by kernel_rfl) (by kernel_rfl) (by kernel_rfl) (by kernel_rfl) (by kernel_rfl) (by kernel_rfl) rfl (Nat.le_of_ble_eq_true (by kernel_rfl)) fun a w hs => ?_)
    replace hs := hs.pick [] (L' := []) (by kernel_rfl)
    refine Vk.done (by kernel_rfl) ?_
    exact hj2 (⟨x0.n, x0.most, x0.base, x0.words, x0.draws, x0.dry, x0.openF, x0.fromF, x1, x0.tape, x0.ops, x0.values, x0.blocks⟩ : Twire_Machine) hm _ _ (hs.go [] [0, 1, 2, 3, 4, 5] 6 (by kernel_rfl) (by kernel_rfl) (by kernel_rfl))
  · replace hm := bif_f hm hb
    refine wp_skip ?_
    exact hj2 x0 hm _ _ (hs.go [] [0, 1, 2, 3, 4, 5] 6 (by kernel_rfl) (by kernel_rfl) (by kernel_rfl))


abbrev wire_Machine_value.R (κ : Ctx) (S : List HP) (x0 : Twire_Machine) (x1 : Int) (b_x0 : Nat) (b_x0otape : Nat) (A_x0otapeowords : Option Addr) (c_x0otapeowords : Nat) (A_x0oops : Option Addr) (c_x0oops : Nat) (A_x0ovalues : Option Addr) (c_x0ovalues : Nat) (A_x0oblocks : Option Addr) (c_x0oblocks : Nat) (r : Int) : Ending → World → Prop := fun e w' => e = .returned (.int .u64 r) ∧ Own κ w' (pt b_x0 (blk (Twire_Machine.obj x0 b_x0otape A_x0oops c_x0oops A_x0ovalues c_x0ovalues A_x0oblocks c_x0oblocks) 151) :: pt b_x0otape (blk (Ttape_Tape.obj x0.tape A_x0otapeowords c_x0otapeowords) 158) :: rowp A_x0otapeowords c_x0otapeowords 23 1 (eI .u64) x0.tape.words :: rowp A_x0oops c_x0oops 32 6 Tapi_Op.cells x0.ops :: rowp A_x0ovalues c_x0ovalues 23 1 (eI .u64) x0.values :: rowp A_x0oblocks c_x0oblocks 144 3 Tapi_Span.cells x0.blocks :: S)
def wire_Machine_value.m (k : Nat) (x0 : Twire_Machine) (x1 : Int) : Option Int := (bif decide (x1 < 0) then some 0 else (if 0 ≤ x1 then (x0.values[x1.toNat]?).bind fun e_9 => some e_9 else none))

set_option maxRecDepth 100000 in
set_option maxHeartbeats 4000000 in
theorem wire_Machine_value.ok (k : Nat) (x0 : Twire_Machine) (x1 : Int) (r : Int) (hm : wire_Machine_value.m k x0 x1 = some r) (κ : Ctx) (w : World) (S : List HP) (b_x0 : Nat) (b_x0otape : Nat) (A_x0otapeowords : Option Addr) (c_x0otapeowords : Nat) (A_x0oops : Option Addr) (c_x0oops : Nat) (A_x0ovalues : Option Addr) (c_x0ovalues : Nat) (A_x0oblocks : Option Addr) (c_x0oblocks : Nat) (ho : Own κ w (pt b_x0 (blk (Twire_Machine.obj x0 b_x0otape A_x0oops c_x0oops A_x0ovalues c_x0ovalues A_x0oblocks c_x0oblocks) 151) :: pt b_x0otape (blk (Ttape_Tape.obj x0.tape A_x0otapeowords c_x0otapeowords) 158) :: rowp A_x0otapeowords c_x0otapeowords 23 1 (eI .u64) x0.tape.words :: rowp A_x0oops c_x0oops 32 6 Tapi_Op.cells x0.ops :: rowp A_x0ovalues c_x0ovalues 23 1 (eI .u64) x0.values :: rowp A_x0oblocks c_x0oblocks 144 3 Tapi_Span.cells x0.blocks :: S)) :
    Calls Try.prog 96 #[.pointer (some ⟨b_x0, 0, none⟩), .int .i64 x1] w (wire_Machine_value.R κ S x0 x1 b_x0 b_x0otape A_x0otapeowords c_x0otapeowords A_x0oops c_x0oops A_x0ovalues c_x0ovalues A_x0oblocks c_x0oblocks r) := by
  unfold wire_Machine_value.m at hm
  refine Vk.enter [(0, .pointer (some ⟨b_x0, 0, none⟩)), (1, .int .i64 x1)] Try.func96 rfl Try.ntmps96 (by kernel_rfl) (Nat.le_of_ble_eq_true (by kernel_rfl)) ho fun a hs => ?_
  refine Vk.seq fun K1 hK1 => ?_
  refine Vk.region ?_
  refine Vk.pures 1 [(4, .int .u64 0)] hs (by kernel_rfl) fun a hs => ?_
  replace hs := hs.pick [0, 1] (L' := [(0, .pointer (some ⟨b_x0, 0, none⟩)), (1, .int .i64 x1)]) (by kernel_rfl)
  refine Vk.done (by kernel_rfl) ?_
  refine hK1 _ _ ?_
  clear hK1
  refine Vk.seq fun K2 hK2 => ?_
  refine Vk.seq fun K3 hK3 => ?_
  refine Vk.region ?_
  refine Vk.pures 2 [(6, .bool (decide (x1 < 0))), (5, .int .i64 x1)] hs (by kernel_rfl) fun a hs => ?_
  replace hs := hs.pick [0, 1, 6] (L' := [(0, .pointer (some ⟨b_x0, 0, none⟩)), (1, .int .i64 x1), (6, .bool (decide (x1 < 0)))]) (by kernel_rfl)
  refine Vk.done (by kernel_rfl) ?_
  refine hK3 _ _ ?_
  clear hK3
  refine Vk.condS (b := decide (x1 < 0)) hs (by kernel_rfl) (by kernel_rfl) (fun hb => ?_) (fun hb => ?_)
  · replace hm := bif_t hm hb
    refine Vk.seq fun K4 hK4 => ?_
    refine Vk.region ?_
    refine Vk.pures 1 [(4, .int .u64 0)] hs (by kernel_rfl) fun a hs => ?_
    replace hs := hs.pick [4] (L' := [(4, .int .u64 0)]) (by kernel_rfl)
    refine Vk.done (by kernel_rfl) ?_
    refine hK4 _ _ ?_
    clear hK4
    refine wp_ret ?_
    exact Vk.ret1 (P := Try.prog) (fn := Try.f96) (R := wire_Machine_value.R κ S x0 x1 b_x0 b_x0otape A_x0otapeowords c_x0otapeowords A_x0oops c_x0oops A_x0ovalues c_x0ovalues A_x0oblocks c_x0oblocks r) (.int .u64 0) hs rfl (by kernel_rfl) (by obtain rfl := Option.some.inj hm; exact ⟨rfl, (Own.to hs.own [0, 1, 2, 3, 4, 5] 6 (by kernel_rfl) (by kernel_rfl))⟩)
  · replace hm := bif_f hm hb
    refine wp_skip ?_
    refine hK2 _ _ ?_
    clear hK2
    refine Vk.seq fun K5 hK5 => ?_
    refine Vk.region ?_
    refine Vk.pures 3 [(9, .pointer (some ⟨b_x0, 11, none⟩)), (8, .pointer (some ⟨b_x0, 0, none⟩)), (7, .pointer (some ⟨b_x0, 0, none⟩))] hs (by kernel_rfl) fun a hs => ?_
    refine Vk.step (Vk.value (some 10) (.slice A_x0ovalues x0.values.length c_x0ovalues) hs (by kernel_rfl) (op := (.load 73 (.tmp 9))) (by kernel_rfl) (fun o ho => run_load1 (b := b_x0) (off := 11) (c := C.slc A_x0ovalues x0.values.length c_x0ovalues) ho (by kernel_rfl) (by kernel_rfl) (Cell.own 0 rfl (by kernel_rfl)) _ hs.own) fun a hs => ?_)
    refine Vk.pures 1 [(11, .int .i64 x1)] hs (by kernel_rfl) fun a hs => ?_
    obtain ⟨h_6, hm⟩ := ite_t hm
    obtain ⟨e_9, h_7, hm⟩ := bind_t hm
    obtain ⟨b_10, o_11, hA_12, h_8⟩ := Sl.elem (Own.rowSl 0 (Own.to (S' := rowp A_x0ovalues c_x0ovalues 23 1 (eI .u64) x0.values :: S) hs.own [4] 6 (by kernel_rfl) (by kernel_rfl)) rfl) h_7
    refine Vk.step (Vk.value (some 12) (.pointer (some ⟨b_10, o_11 + x1.toNat * 1, none⟩)) hs (by kernel_rfl) (op := (.indexAddr 73 (.tmp 10) (.tmp 11))) (by kernel_rfl) (fun o ho => run_idxSlc (k := .i64) ho (cap := c_x0ovalues) (len := x0.values.length) ((congrArg (fun A => Value.slice A (x0.values.length) (c_x0ovalues)) hA_12) ▸ (by kernel_rfl)) (by kernel_rfl) (by kernel_rfl) (idx_ok h_6 h_7) _) fun a hs => ?_)
    refine Vk.step (Vk.value (some 13) (.int .u64 e_9) hs (by kernel_rfl) (op := (.load 23 (.tmp 12))) (by kernel_rfl) (fun o ho => run_load1 (c := C.int .u64 e_9) ho (by kernel_rfl) (by kernel_rfl) (fun w ho => h_8 w ho 0 _ rfl) _ (Own.to (S' := rowp A_x0ovalues c_x0ovalues 23 1 (eI .u64) x0.values :: S) hs.own [4] 6 (by kernel_rfl) (by kernel_rfl))) fun a hs => ?_)
    refine Vk.pures 1 [(4, .int .u64 e_9)] hs (by kernel_rfl) fun a hs => ?_
    replace hs := hs.pick [4] (L' := [(4, .int .u64 e_9)]) (by kernel_rfl)
    refine Vk.done (by kernel_rfl) ?_
    refine hK5 _ _ ?_
    clear hK5
    refine wp_ret ?_
    exact Vk.ret1 (P := Try.prog) (fn := Try.f96) (R := wire_Machine_value.R κ S x0 x1 b_x0 b_x0otape A_x0otapeowords c_x0otapeowords A_x0oops c_x0oops A_x0ovalues c_x0ovalues A_x0oblocks c_x0oblocks r) (.int .u64 e_9) hs rfl (by kernel_rfl) (by obtain rfl := Option.some.inj hm; exact ⟨rfl, (Own.to hs.own [0, 1, 2, 3, 4, 5] 6 (by kernel_rfl) (by kernel_rfl))⟩)


abbrev wire_Machine_next.R (κ : Ctx) (S : List HP) (x0 : Twire_Machine) (b_x0 : Nat) (b_x0otape : Nat) (A_x0otapeowords : Option Addr) (c_x0otapeowords : Nat) (A_x0oops : Option Addr) (c_x0oops : Nat) (A_x0ovalues : Option Addr) (c_x0ovalues : Nat) (A_x0oblocks : Option Addr) (c_x0oblocks : Nat) (r : Int) : Ending → World → Prop := fun e w' => e = .returned (.int .u64 r) ∧ Own κ w' (pt b_x0 (blk (Twire_Machine.obj x0 b_x0otape A_x0oops c_x0oops A_x0ovalues c_x0ovalues A_x0oblocks c_x0oblocks) 151) :: pt b_x0otape (blk (Ttape_Tape.obj x0.tape A_x0otapeowords c_x0otapeowords) 158) :: rowp A_x0otapeowords c_x0otapeowords 23 1 (eI .u64) x0.tape.words :: rowp A_x0oops c_x0oops 32 6 Tapi_Op.cells x0.ops :: rowp A_x0ovalues c_x0ovalues 23 1 (eI .u64) x0.values :: rowp A_x0oblocks c_x0oblocks 144 3 Tapi_Span.cells x0.blocks :: S)
def wire_Machine_next.m (k : Nat) (x0 : Twire_Machine) : Option Int := some (IntKind.u64.wrap x0.words)

set_option maxRecDepth 100000 in
set_option maxHeartbeats 4000000 in
theorem wire_Machine_next.ok (k : Nat) (x0 : Twire_Machine) (r : Int) (hm : wire_Machine_next.m k x0 = some r) (κ : Ctx) (w : World) (S : List HP) (b_x0 : Nat) (b_x0otape : Nat) (A_x0otapeowords : Option Addr) (c_x0otapeowords : Nat) (A_x0oops : Option Addr) (c_x0oops : Nat) (A_x0ovalues : Option Addr) (c_x0ovalues : Nat) (A_x0oblocks : Option Addr) (c_x0oblocks : Nat) (ho : Own κ w (pt b_x0 (blk (Twire_Machine.obj x0 b_x0otape A_x0oops c_x0oops A_x0ovalues c_x0ovalues A_x0oblocks c_x0oblocks) 151) :: pt b_x0otape (blk (Ttape_Tape.obj x0.tape A_x0otapeowords c_x0otapeowords) 158) :: rowp A_x0otapeowords c_x0otapeowords 23 1 (eI .u64) x0.tape.words :: rowp A_x0oops c_x0oops 32 6 Tapi_Op.cells x0.ops :: rowp A_x0ovalues c_x0ovalues 23 1 (eI .u64) x0.values :: rowp A_x0oblocks c_x0oblocks 144 3 Tapi_Span.cells x0.blocks :: S)) :
    Calls Try.prog 92 #[.pointer (some ⟨b_x0, 0, none⟩)] w (wire_Machine_next.R κ S x0 b_x0 b_x0otape A_x0otapeowords c_x0otapeowords A_x0oops c_x0oops A_x0ovalues c_x0ovalues A_x0oblocks c_x0oblocks r) := by
  unfold wire_Machine_next.m at hm
  refine Vk.enter [(0, .pointer (some ⟨b_x0, 0, none⟩))] Try.func92 rfl Try.ntmps92 (by kernel_rfl) (Nat.le_of_ble_eq_true (by kernel_rfl)) ho fun a hs => ?_
  refine Vk.seq fun K1 hK1 => ?_
  refine Vk.region ?_
  refine Vk.pures 1 [(2, .int .u64 0)] hs (by kernel_rfl) fun a hs => ?_
  replace hs := hs.pick [0] (L' := [(0, .pointer (some ⟨b_x0, 0, none⟩))]) (by kernel_rfl)
  refine Vk.done (by kernel_rfl) ?_
  refine hK1 _ _ ?_
  clear hK1
  refine Vk.seq fun K2 hK2 => ?_
  refine Vk.seq fun K3 hK3 => ?_
  refine Vk.region ?_
  refine Vk.pures 2 [(4, .bool false), (3, .pointer (some ⟨b_x0, 0, none⟩))] hs (by kernel_rfl) fun a hs => ?_
  replace hs := hs.pick [0, 4] (L' := [(0, .pointer (some ⟨b_x0, 0, none⟩)), (4, .bool false)]) (by kernel_rfl)
  refine Vk.done (by kernel_rfl) ?_
  refine hK3 _ _ ?_
  clear hK3
  refine Vk.condF hs (by kernel_rfl) (by kernel_rfl) ?_
  refine wp_skip ?_
  refine hK2 _ _ ?_
  clear hK2
  refine Vk.seq fun K4 hK4 => ?_
  refine Vk.region ?_
  refine Vk.pures 3 [(7, .pointer (some ⟨b_x0, 3, none⟩)), (6, .pointer (some ⟨b_x0, 0, none⟩)), (5, .pointer (some ⟨b_x0, 0, none⟩))] hs (by kernel_rfl) fun a hs => ?_
  refine Vk.step (Vk.value (some 8) (.int .i64 x0.words) hs (by kernel_rfl) (op := (.load 3 (.tmp 7))) (by kernel_rfl) (fun o ho => run_load1 (b := b_x0) (off := 3) (c := C.int .i64 x0.words) ho (by kernel_rfl) (by kernel_rfl) (Cell.own 0 rfl (by kernel_rfl)) _ hs.own) fun a hs => ?_)
  refine Vk.pures 2 [(2, .int .u64 (IntKind.u64.wrap x0.words)), (9, .int .u64 (IntKind.u64.wrap x0.words))] hs (by kernel_rfl) fun a hs => ?_
  replace hs := hs.pick [2] (L' := [(2, .int .u64 (IntKind.u64.wrap x0.words))]) (by kernel_rfl)
  refine Vk.done (by kernel_rfl) ?_
  refine hK4 _ _ ?_
  clear hK4
  refine wp_ret ?_
  exact Vk.ret1 (P := Try.prog) (fn := Try.f92) (R := wire_Machine_next.R κ S x0 b_x0 b_x0otape A_x0otapeowords c_x0otapeowords A_x0oops c_x0oops A_x0ovalues c_x0ovalues A_x0oblocks c_x0oblocks r) (.int .u64 (IntKind.u64.wrap x0.words)) hs rfl (by kernel_rfl) (by obtain rfl := Option.some.inj hm; exact ⟨rfl, (Own.to hs.own [0, 1, 2, 3, 4, 5] 6 (by kernel_rfl) (by kernel_rfl))⟩)


def wire_Machine_Do.j3 (k : Nat) (x1 : Tapi_Op) (p_64 : Int) (p_69 : Twire_Machine) : Option ((Int × Twire_Machine)) := (bif p_69.dry then some (IntKind.i64.wrap ((IntKind.i64.wrap (p_69.base + 1)) - 1), (⟨p_69.n, p_69.most, IntKind.i64.wrap (p_69.base + 1), p_69.words, p_69.draws, p_69.dry, p_69.openF, p_69.fromF, p_69.bad, p_69.tape, p_69.ops, p_69.values, p_69.blocks⟩ : Twire_Machine)) else (wire_Machine_value.m k p_69 x1.a).bind fun v_78 => (wire_Machine_value.m k p_69 x1.b).bind fun v_81 => (wire_Machine_value.m k p_69 x1.d).bind fun v_84 => (op_Eval.m k x1 v_78 v_81 v_84 p_64).bind fun v_87 => (if (p_69.values.length + ([v_87] : List Int).length) * 8 ≤ 140737488355328 then (if (p_69.ops.length + ([x1] : List Tapi_Op).length) * 48 ≤ 140737488355328 then some (IntKind.i64.wrap ((((p_69.ops ++ ([x1] : List Tapi_Op)).length : Nat) : Int) - 1), (⟨p_69.n, p_69.most, p_69.base, p_69.words, p_69.draws, p_69.dry, p_69.openF, p_69.fromF, p_69.bad, p_69.tape, p_69.ops ++ ([x1] : List Tapi_Op), p_69.values ++ ([v_87] : List Int), p_69.blocks⟩ : Twire_Machine)) else none) else none))
def wire_Machine_Do.j2 (k : Nat) (x1 : Tapi_Op) (p_60 : Twire_Machine) (p_64 : Int) : Option ((Int × Twire_Machine)) := (bif x1.kind == 1 then wire_Machine_Do.j3 k x1 p_64 (⟨p_60.n, p_60.most, p_60.base, p_60.words, IntKind.i64.wrap (p_60.draws + 1), p_60.dry, p_60.openF, p_60.fromF, p_60.bad, p_60.tape, p_60.ops, p_60.values, p_60.blocks⟩ : Twire_Machine) else (bif x1.kind == 2 then wire_Machine_Do.j3 k x1 p_64 (⟨p_60.n, p_60.most, p_60.base, IntKind.i64.wrap (p_60.words + 1), p_60.draws, p_60.dry, p_60.openF, p_60.fromF, p_60.bad, p_60.tape, p_60.ops, p_60.values, p_60.blocks⟩ : Twire_Machine) else wire_Machine_Do.j3 k x1 p_64 p_60))
def wire_Machine_Do.j1 (k : Nat) (x0 : Twire_Machine) (x1 : Tapi_Op) (x2 : Int) (p_24 : Bool) : Option ((Int × Twire_Machine)) := (bif p_24 then (wire_Machine_fail.m k x0 3).bind fun v_28 => some (v_28.1, v_28.2) else (bif (x1.kind == 1) && (!x0.dry) then (tape_Tape_Draw.m k x0.tape).bind fun v_43 => (bif !v_43.2.1 then (wire_Machine_fail.m k (⟨x0.n, x0.most, x0.base, x0.words, x0.draws, x0.dry, x0.openF, x0.fromF, x0.bad, v_43.2.2, x0.ops, x0.values, x0.blocks⟩ : Twire_Machine) 2).bind fun v_51 => some (v_51.1, v_51.2) else wire_Machine_Do.j2 k x1 (⟨x0.n, x0.most, x0.base, x0.words, x0.draws, x0.dry, x0.openF, x0.fromF, x0.bad, v_43.2.2, x0.ops, x0.values, x0.blocks⟩ : Twire_Machine) v_43.1) else wire_Machine_Do.j2 k x1 x0 x2))
abbrev wire_Machine_Do.R (κ : Ctx) (S : List HP) (x0 : Twire_Machine) (x1 : Tapi_Op) (x2 : Int) (b_x0 : Nat) (b_x0otape : Nat) (A_x0otapeowords : Option Addr) (c_x0otapeowords : Nat) (A_x0oops : Option Addr) (c_x0oops : Nat) (A_x0ovalues : Option Addr) (c_x0ovalues : Nat) (A_x0oblocks : Option Addr) (c_x0oblocks : Nat) (r : (Int × Twire_Machine)) : Ending → World → Prop := fun e w' => ∃ (A_y0otapeowords : Option Addr), ∃ (c_y0otapeowords : Nat), ∃ (A_y0oops : Option Addr), ∃ (c_y0oops : Nat), ∃ (A_y0ovalues : Option Addr), ∃ (c_y0ovalues : Nat), ∃ (A_y0oblocks : Option Addr), ∃ (c_y0oblocks : Nat), e = .returned (.int .i64 r.1) ∧ Own κ w' (pt b_x0 (blk (Twire_Machine.obj r.2 b_x0otape A_y0oops c_y0oops A_y0ovalues c_y0ovalues A_y0oblocks c_y0oblocks) 151) :: pt b_x0otape (blk (Ttape_Tape.obj r.2.tape A_y0otapeowords c_y0otapeowords) 158) :: rowp A_y0otapeowords c_y0otapeowords 23 1 (eI .u64) r.2.tape.words :: rowp A_y0oops c_y0oops 32 6 Tapi_Op.cells r.2.ops :: rowp A_y0ovalues c_y0ovalues 23 1 (eI .u64) r.2.values :: rowp A_y0oblocks c_y0oblocks 144 3 Tapi_Span.cells r.2.blocks :: S)
def wire_Machine_Do.m (k : Nat) (x0 : Twire_Machine) (x1 : Tapi_Op) (x2 : Int) : Option (Int × Twire_Machine) := (bif x0.bad != 0 then some ((-1), x0) else (wire_Machine_right.m k x0 x1).bind fun v_9 => (bif !v_9 then (wire_Machine_fail.m k x0 1).bind fun v_13 => some (v_13.1, v_13.2) else (bif !x0.dry then wire_Machine_Do.j1 k x0 x1 x2 (decide (((x0.ops.length : Nat) : Int) ≥ x0.most)) else wire_Machine_Do.j1 k x0 x1 x2 false)))

set_option maxRecDepth 100000 in
set_option maxHeartbeats 4000000 in
theorem wire_Machine_Do.ok (k : Nat) (x0 : Twire_Machine) (x1 : Tapi_Op) (x2 : Int) (r : (Int × Twire_Machine)) (hm : wire_Machine_Do.m k x0 x1 x2 = some r) (κ : Ctx) (w : World) (S : List HP) (b_x0 : Nat) (b_x0otape : Nat) (A_x0otapeowords : Option Addr) (c_x0otapeowords : Nat) (A_x0oops : Option Addr) (c_x0oops : Nat) (A_x0ovalues : Option Addr) (c_x0ovalues : Nat) (A_x0oblocks : Option Addr) (c_x0oblocks : Nat) (ho : Own κ w (pt b_x0 (blk (Twire_Machine.obj x0 b_x0otape A_x0oops c_x0oops A_x0ovalues c_x0ovalues A_x0oblocks c_x0oblocks) 151) :: pt b_x0otape (blk (Ttape_Tape.obj x0.tape A_x0otapeowords c_x0otapeowords) 158) :: rowp A_x0otapeowords c_x0otapeowords 23 1 (eI .u64) x0.tape.words :: rowp A_x0oops c_x0oops 32 6 Tapi_Op.cells x0.ops :: rowp A_x0ovalues c_x0ovalues 23 1 (eI .u64) x0.values :: rowp A_x0oblocks c_x0oblocks 144 3 Tapi_Span.cells x0.blocks :: S)) :
    Calls Try.prog 60 #[.pointer (some ⟨b_x0, 0, none⟩), .agg (vals [C.int .i64 x1.kind, C.int .i64 x1.dom, C.int .i64 x1.a, C.int .i64 x1.b, C.int .i64 x1.d, C.int .u64 x1.c]), .int .u64 x2] w (wire_Machine_Do.R κ S x0 x1 x2 b_x0 b_x0otape A_x0otapeowords c_x0otapeowords A_x0oops c_x0oops A_x0ovalues c_x0ovalues A_x0oblocks c_x0oblocks r) := by
  unfold wire_Machine_Do.m at hm
  refine Vk.enter [(0, .pointer (some ⟨b_x0, 0, none⟩)), (1, .agg (vals [C.int .i64 x1.kind, C.int .i64 x1.dom, C.int .i64 x1.a, C.int .i64 x1.b, C.int .i64 x1.d, C.int .u64 x1.c])), (2, .int .u64 x2)] Try.func60 rfl Try.ntmps60 (by kernel_rfl) (Nat.le_of_ble_eq_true (by kernel_rfl)) ho fun a hs => ?_
  refine Vk.seq fun K1 hK1 => ?_
  refine Vk.region ?_
  refine Vk.step (Vk.box (x := (.tmp 1)) 4 32 [C.int .i64 x1.kind, C.int .i64 x1.dom, C.int .i64 x1.a, C.int .i64 x1.b, C.int .i64 x1.d, C.int .u64 x1.c] hs (by kernel_rfl) (by kernel_rfl) (by kernel_rfl) fun b_2 w a hs => ?_)
  refine Vk.pures 1 [(6, .int .i64 0)] hs (by kernel_rfl) fun a hs => ?_
  replace hs := hs.pick [0, 2, 4] (L' := [(0, .pointer (some ⟨b_x0, 0, none⟩)), (2, .int .u64 x2), (4, .pointer (some ⟨b_2, 0, none⟩))]) (by kernel_rfl)
  refine Vk.done (by kernel_rfl) ?_
  refine hK1 _ _ ?_
  clear hK1
  refine Vk.seq fun K3 hK3 => ?_
  refine wp_block ?_
  refine Vk.seq fun K4 hK4 => ?_
  refine Vk.region ?_
  refine Vk.pures 6 [(15, .pointer (some ⟨b_x0, 8, none⟩)), (14, .pointer (some ⟨b_x0, 0, none⟩)), (13, .pointer (some ⟨b_x0, 0, none⟩)), (12, .bool false), (11, .bool false), (10, .pointer (some ⟨b_x0, 0, none⟩))] hs (by kernel_rfl) fun a hs => ?_
  refine Vk.step (Vk.value (some 16) (.int .i64 x0.bad) hs (by kernel_rfl) (op := (.load 43 (.tmp 15))) (by kernel_rfl) (fun o ho => run_load1 (b := b_x0) (off := 8) (c := C.int .i64 x0.bad) ho (by kernel_rfl) (by kernel_rfl) (Cell.own 1 rfl (by kernel_rfl)) _ hs.own) fun a hs => ?_)
  refine Vk.pures 3 [(9, .bool (x0.bad != 0)), (18, .bool (x0.bad != 0)), (17, .bool (x0.bad != 0))] hs (by kernel_rfl) fun a hs => ?_
  replace hs := hs.pick [0, 2, 4, 9] (L' := [(0, .pointer (some ⟨b_x0, 0, none⟩)), (2, .int .u64 x2), (4, .pointer (some ⟨b_2, 0, none⟩)), (9, .bool (x0.bad != 0))]) (by kernel_rfl)
  refine Vk.done (by kernel_rfl) ?_
  refine hK4 _ _ ?_
  clear hK4
  refine Vk.condS (b := x0.bad != 0) hs (by kernel_rfl) (by kernel_rfl) (fun hb => ?_) (fun hb => ?_)
  · replace hm := bif_t hm hb
    refine Vk.seq fun K5 hK5 => ?_
    refine Vk.region ?_
    refine Vk.pures 1 [(6, .int .i64 (-1))] hs (by kernel_rfl) fun a hs => ?_
    replace hs := hs.pick [6] (L' := [(6, .int .i64 (-1))]) (by kernel_rfl)
    refine Vk.done (by kernel_rfl) ?_
    refine hK5 _ _ ?_
    clear hK5
    refine wp_ret ?_
    exact Vk.ret1 (P := Try.prog) (fn := Try.f60) (R := wire_Machine_Do.R κ S x0 x1 x2 b_x0 b_x0otape A_x0otapeowords c_x0otapeowords A_x0oops c_x0oops A_x0ovalues c_x0ovalues A_x0oblocks c_x0oblocks r) (.int .i64 (-1)) hs rfl (by kernel_rfl) (by obtain rfl := Option.some.inj hm; exact ⟨A_x0otapeowords, c_x0otapeowords, A_x0oops, c_x0oops, A_x0ovalues, c_x0ovalues, A_x0oblocks, c_x0oblocks, rfl, (Own.to hs.own [1, 2, 3, 4, 5, 6] 7 (by kernel_rfl) (by kernel_rfl))⟩)
  · replace hm := bif_f hm hb
    refine Vk.seq fun K6 hK6 => ?_
    refine Vk.region ?_
    refine Vk.pures 1 [(20, .pointer (some ⟨b_x0, 0, none⟩))] hs (by kernel_rfl) fun a hs => ?_
    refine Vk.step (Vk.value (some 21) (.agg (vals [C.int .i64 x1.kind, C.int .i64 x1.dom, C.int .i64 x1.a, C.int .i64 x1.b, C.int .i64 x1.d, C.int .u64 x1.c])) hs (by kernel_rfl) (op := (.load 32 (.tmp 4))) (by kernel_rfl) (fun o ho => run_loadN (cs := [C.int .i64 x1.kind, C.int .i64 x1.dom, C.int .i64 x1.a, C.int .i64 x1.b, C.int .i64 x1.d, C.int .u64 x1.c]) ho (by kernel_rfl) (by kernel_rfl) rfl (CellsAt.all 0 rfl) _ hs.own) fun a hs => ?_)
    obtain ⟨v_9, h_8, hm⟩ := bind_t hm
    refine Vk.step (Vk.call (some 22) 93 #[.pointer (some ⟨b_x0, 0, none⟩), .agg (vals [C.int .i64 x1.kind, C.int .i64 x1.dom, C.int .i64 x1.a, C.int .i64 x1.b, C.int .i64 x1.d, C.int .u64 x1.c])] hs (by kernel_rfl) (by kernel_rfl) (by kernel_rfl) ?_)
    refine (wire_Machine_right.ok k x0 x1 v_9 h_8 κ w (pt b_2 (blk (Tapi_Op.cells x1) 32) :: S) b_x0 b_x0otape A_x0otapeowords c_x0otapeowords A_x0oops c_x0oops A_x0ovalues c_x0ovalues A_x0oblocks c_x0oblocks (Own.to hs.own [1, 2, 3, 4, 5, 6, 0] 7 (by kernel_rfl) (by kernel_rfl))).mono ?_
    rintro _ w ⟨rfl, how⟩
    refine ⟨_, _, _, rfl, how, fun a hs => ?_⟩
    refine Vk.pures 2 [(19, .bool (!v_9)), (23, .bool (!v_9))] hs (by kernel_rfl) fun a hs => ?_
    replace hs := hs.pick [0, 2, 4, 19] (L' := [(0, .pointer (some ⟨b_x0, 0, none⟩)), (2, .int .u64 x2), (4, .pointer (some ⟨b_2, 0, none⟩)), (19, .bool (!v_9))]) (by kernel_rfl)
    refine Vk.done (by kernel_rfl) ?_
    refine hK6 _ _ ?_
    clear hK6
    refine Vk.condS (b := !v_9) hs (by kernel_rfl) (by kernel_rfl) (fun hb => ?_) (fun hb => ?_)
    · replace hm := bif_t hm hb
      refine Vk.seq fun K10 hK10 => ?_
      refine Vk.region ?_
      refine Vk.pures 1 [(24, .pointer (some ⟨b_x0, 0, none⟩))] hs (by kernel_rfl) fun a hs => ?_
      obtain ⟨v_13, h_12, hm⟩ := bind_t hm
      refine Vk.step (Vk.call (some 25) 94 #[.pointer (some ⟨b_x0, 0, none⟩), .int .i64 1] hs (by kernel_rfl) (by kernel_rfl) (by kernel_rfl) ?_)
      refine (wire_Machine_fail.ok k x0 1 v_13 h_12 κ w (pt b_2 (blk (Tapi_Op.cells x1) 32) :: S) b_x0 b_x0otape A_x0otapeowords c_x0otapeowords A_x0oops c_x0oops A_x0ovalues c_x0ovalues A_x0oblocks c_x0oblocks (Own.to hs.own [0, 1, 2, 3, 4, 5, 6] 7 (by kernel_rfl) (by kernel_rfl))).mono ?_
      rintro _ w ⟨Ar11o0otapeowords_14, cr11o0otapeowords_15, Ar11o0oops_16, cr11o0oops_17, Ar11o0ovalues_18, cr11o0ovalues_19, Ar11o0oblocks_20, cr11o0oblocks_21, rfl, how⟩
      refine ⟨_, _, _, rfl, how, fun a hs => ?_⟩
      refine Vk.pures 1 [(6, .int .i64 v_13.1)] hs (by kernel_rfl) fun a hs => ?_
      replace hs := hs.pick [6] (L' := [(6, .int .i64 v_13.1)]) (by kernel_rfl)
      refine Vk.done (by kernel_rfl) ?_
      refine hK10 _ _ ?_
      clear hK10
      refine wp_ret ?_
      exact Vk.ret1 (P := Try.prog) (fn := Try.f60) (R := wire_Machine_Do.R κ S x0 x1 x2 b_x0 b_x0otape A_x0otapeowords c_x0otapeowords A_x0oops c_x0oops A_x0ovalues c_x0ovalues A_x0oblocks c_x0oblocks r) (.int .i64 v_13.1) hs rfl (by kernel_rfl) (by obtain rfl := Option.some.inj hm; exact ⟨Ar11o0otapeowords_14, cr11o0otapeowords_15, Ar11o0oops_16, cr11o0oops_17, Ar11o0ovalues_18, cr11o0ovalues_19, Ar11o0oblocks_20, cr11o0oblocks_21, rfl, (Own.to hs.own [0, 1, 2, 3, 4, 5] 7 (by kernel_rfl) (by kernel_rfl))⟩)
    · replace hm := bif_f hm hb
      refine Vk.seq fun K22 hK22 => ?_
      have hj22 : ∀ (p_24 : Bool), wire_Machine_Do.j1 k x0 x1 x2 p_24 = some r → ∀ (a : Act) (w : World), St 145 a w κ [(0, .pointer (some ⟨b_x0, 0, none⟩)), (2, .int .u64 x2), (4, .pointer (some ⟨b_2, 0, none⟩)), (26, .bool p_24)] (pt b_x0 (blk (Twire_Machine.obj x0 b_x0otape A_x0oops c_x0oops A_x0ovalues c_x0ovalues A_x0oblocks c_x0oblocks) 151) :: pt b_x0otape (blk (Ttape_Tape.obj x0.tape A_x0otapeowords c_x0otapeowords) 158) :: rowp A_x0otapeowords c_x0otapeowords 23 1 (eI .u64) x0.tape.words :: rowp A_x0oops c_x0oops 32 6 Tapi_Op.cells x0.ops :: rowp A_x0ovalues c_x0ovalues 23 1 (eI .u64) x0.values :: rowp A_x0oblocks c_x0oblocks 144 3 Tapi_Span.cells x0.blocks :: pt b_2 (blk (Tapi_Op.cells x1) 32) :: S) → K22 a w := by
        intro p_24 hm a w hs
        unfold wire_Machine_Do.j1 at hm
        refine hK22 _ _ ?_
        refine Vk.condS (b := p_24) hs (by kernel_rfl) (by kernel_rfl) (fun hb => ?_) (fun hb => ?_)
        · replace hm := bif_t hm hb
          refine Vk.seq fun K25 hK25 => ?_
          refine Vk.region ?_
          refine Vk.pures 1 [(44, .pointer (some ⟨b_x0, 0, none⟩))] hs (by kernel_rfl) fun a hs => ?_
          obtain ⟨v_28, h_27, hm⟩ := bind_t hm
          refine Vk.step (Vk.call (some 45) 94 #[.pointer (some ⟨b_x0, 0, none⟩), .int .i64 3] hs (by kernel_rfl) (by kernel_rfl) (by kernel_rfl) ?_)
          refine (wire_Machine_fail.ok k x0 3 v_28 h_27 κ w (pt b_2 (blk (Tapi_Op.cells x1) 32) :: S) b_x0 b_x0otape A_x0otapeowords c_x0otapeowords A_x0oops c_x0oops A_x0ovalues c_x0ovalues A_x0oblocks c_x0oblocks (Own.to hs.own [0, 1, 2, 3, 4, 5, 6] 7 (by kernel_rfl) (by kernel_rfl))).mono ?_
          rintro _ w ⟨Ar26o0otapeowords_29, cr26o0otapeowords_30, Ar26o0oops_31, cr26o0oops_32, Ar26o0ovalues_33, cr26o0ovalues_34, Ar26o0oblocks_35, cr26o0oblocks_36, rfl, how⟩
          refine ⟨_, _, _, rfl, how, fun a hs => ?_⟩
          refine Vk.pures 1 [(6, .int .i64 v_28.1)] hs (by kernel_rfl) fun a hs => ?_
          replace hs := hs.pick [6] (L' := [(6, .int .i64 v_28.1)]) (by kernel_rfl)
          refine Vk.done (by kernel_rfl) ?_
          refine hK25 _ _ ?_
          clear hK25
          refine wp_ret ?_
          exact Vk.ret1 (P := Try.prog) (fn := Try.f60) (R := wire_Machine_Do.R κ S x0 x1 x2 b_x0 b_x0otape A_x0otapeowords c_x0otapeowords A_x0oops c_x0oops A_x0ovalues c_x0ovalues A_x0oblocks c_x0oblocks r) (.int .i64 v_28.1) hs rfl (by kernel_rfl) (by obtain rfl := Option.some.inj hm; exact ⟨Ar26o0otapeowords_29, cr26o0otapeowords_30, Ar26o0oops_31, cr26o0oops_32, Ar26o0ovalues_33, cr26o0ovalues_34, Ar26o0oblocks_35, cr26o0oblocks_36, rfl, (Own.to hs.own [0, 1, 2, 3, 4, 5] 7 (by kernel_rfl) (by kernel_rfl))⟩)
        · replace hm := bif_f hm hb
          refine wp_skip ?_
          refine hK3 _ _ ?_
          clear hK3
          refine Vk.seq fun K37 hK37 => ?_
          have hj37 : ∀ (p_60 : Twire_Machine) (p_64 : Int), wire_Machine_Do.j2 k x1 p_60 p_64 = some r → ∀ (A_61 : Option Addr) (c_62 : Nat) (a : Act) (w : World), St 145 a w κ [(0, .pointer (some ⟨b_x0, 0, none⟩)), (2, .int .u64 p_64), (4, .pointer (some ⟨b_2, 0, none⟩))] (pt b_x0 (blk (Twire_Machine.obj p_60 b_x0otape A_x0oops c_x0oops A_x0ovalues c_x0ovalues A_x0oblocks c_x0oblocks) 151) :: pt b_x0otape (blk (Ttape_Tape.obj p_60.tape A_61 c_62) 158) :: rowp A_61 c_62 23 1 (eI .u64) p_60.tape.words :: rowp A_x0oops c_x0oops 32 6 Tapi_Op.cells p_60.ops :: rowp A_x0ovalues c_x0ovalues 23 1 (eI .u64) p_60.values :: rowp A_x0oblocks c_x0oblocks 144 3 Tapi_Span.cells p_60.blocks :: pt b_2 (blk (Tapi_Op.cells x1) 32) :: S) → K37 a w := by
            intro p_60 p_64 hm A_61 c_62 a w hs
            unfold wire_Machine_Do.j2 at hm
            refine hK37 _ _ ?_
            refine Vk.seq fun K65 hK65 => ?_
            have hj65 : ∀ (p_69 : Twire_Machine), wire_Machine_Do.j3 k x1 p_64 p_69 = some r → ∀ (a : Act) (w : World), St 145 a w κ [(0, .pointer (some ⟨b_x0, 0, none⟩)), (2, .int .u64 p_64), (4, .pointer (some ⟨b_2, 0, none⟩))] (pt b_x0 (blk (Twire_Machine.obj p_69 b_x0otape A_x0oops c_x0oops A_x0ovalues c_x0ovalues A_x0oblocks c_x0oblocks) 151) :: pt b_x0otape (blk (Ttape_Tape.obj p_69.tape A_61 c_62) 158) :: rowp A_61 c_62 23 1 (eI .u64) p_69.tape.words :: rowp A_x0oops c_x0oops 32 6 Tapi_Op.cells p_69.ops :: rowp A_x0ovalues c_x0ovalues 23 1 (eI .u64) p_69.values :: rowp A_x0oblocks c_x0oblocks 144 3 Tapi_Span.cells p_69.blocks :: pt b_2 (blk (Tapi_Op.cells x1) 32) :: S) → K65 a w := by
              intro p_69 hm a w hs
              unfold wire_Machine_Do.j3 at hm
              refine hK65 _ _ ?_
              refine Vk.seq fun K70 hK70 => ?_
              refine Vk.seq fun K71 hK71 => ?_
              refine Vk.region ?_
              refine Vk.pures 3 [(91, .pointer (some ⟨b_x0, 5, none⟩)), (90, .pointer (some ⟨b_x0, 0, none⟩)), (89, .pointer (some ⟨b_x0, 0, none⟩))] hs (by kernel_rfl) fun a hs => ?_
              refine Vk.step (Vk.value (some 92) (.bool p_69.dry) hs (by kernel_rfl) (op := (.load 4 (.tmp 91))) (by kernel_rfl) (fun o ho => run_load1 (b := b_x0) (off := 5) (c := C.bool p_69.dry) ho (by kernel_rfl) (by kernel_rfl) (Cell.own 0 rfl (by kernel_rfl)) _ hs.own) fun a hs => ?_)
              replace hs := hs.pick [0, 2, 4, 92] (L' := [(0, .pointer (some ⟨b_x0, 0, none⟩)), (2, .int .u64 p_64), (4, .pointer (some ⟨b_2, 0, none⟩)), (92, .bool p_69.dry)]) (by kernel_rfl)
              refine Vk.done (by kernel_rfl) ?_
              refine hK71 _ _ ?_
              clear hK71
              refine Vk.condS (b := p_69.dry) hs (by kernel_rfl) (by kernel_rfl) (fun hb => ?_) (fun hb => ?_)
              · replace hm := bif_t hm hb
                refine Vk.seq fun K72 hK72 => ?_
                refine Vk.region ?_
                refine Vk.pures 3 [(95, .pointer (some ⟨b_x0, 2, none⟩)), (94, .pointer (some ⟨b_x0, 0, none⟩)), (93, .pointer (some ⟨b_x0, 0, none⟩))] hs (by kernel_rfl) fun a hs => ?_
                refine Vk.step (Vk.value (some 96) (.int .i64 p_69.base) hs (by kernel_rfl) (op := (.load 3 (.tmp 95))) (by kernel_rfl) (fun o ho => run_load1 (b := b_x0) (off := 2) (c := C.int .i64 p_69.base) ho (by kernel_rfl) (by kernel_rfl) (Cell.own 0 rfl (by kernel_rfl)) _ hs.own) fun a hs => ?_)
                refine Vk.pures 3 [(99, .pointer (some ⟨b_x0, 2, none⟩)), (98, .pointer (some ⟨b_x0, 0, none⟩)), (97, .int .i64 (IntKind.i64.wrap (p_69.base + 1)))] hs (by kernel_rfl) fun a hs => ?_
                refine Vk.step (Vk.store1 (b := b_x0) (ty := 3) (x := (.tmp 99)) (y := (.tmp 97)) (off := 2) (C.int .i64 (IntKind.i64.wrap (p_69.base + 1))) 0 hs (by kernel_rfl) (by kernel_rfl) (by kernel_rfl) (by kernel_rfl) (by kernel_rfl) (by kernel_rfl) rfl (Nat.le_of_ble_eq_true (by kernel_rfl)) fun a w hs => ?_)
                replace hs := hs.pick [0] (L' := [(0, .pointer (some ⟨b_x0, 0, none⟩))]) (by kernel_rfl)
                refine Vk.done (by kernel_rfl) ?_
                refine hK72 _ _ ?_
                clear hK72
                refine Vk.seq fun K73 hK73 => ?_
                refine Vk.region ?_
                refine Vk.pures 3 [(102, .pointer (some ⟨b_x0, 2, none⟩)), (101, .pointer (some ⟨b_x0, 0, none⟩)), (100, .pointer (some ⟨b_x0, 0, none⟩))] hs (by kernel_rfl) fun a hs => ?_
                refine Vk.step (Vk.value (some 103) (.int .i64 (IntKind.i64.wrap (p_69.base + 1))) hs (by kernel_rfl) (op := (.load 3 (.tmp 102))) (by kernel_rfl) (fun o ho => run_load1 (b := b_x0) (off := 2) (c := C.int .i64 (IntKind.i64.wrap (p_69.base + 1))) ho (by kernel_rfl) (by kernel_rfl) (Cell.own 0 rfl (by kernel_rfl)) _ hs.own) fun a hs => ?_)
                refine Vk.pures 2 [(6, .int .i64 (IntKind.i64.wrap ((IntKind.i64.wrap (p_69.base + 1)) - 1))), (104, .int .i64 (IntKind.i64.wrap ((IntKind.i64.wrap (p_69.base + 1)) - 1)))] hs (by kernel_rfl) fun a hs => ?_
                replace hs := hs.pick [6] (L' := [(6, .int .i64 (IntKind.i64.wrap ((IntKind.i64.wrap (p_69.base + 1)) - 1)))]) (by kernel_rfl)
                refine Vk.done (by kernel_rfl) ?_
                refine hK73 _ _ ?_
                clear hK73
                refine wp_ret ?_
                exact Vk.ret1 (P := Try.prog) (fn := Try.f60) (R := wire_Machine_Do.R κ S x0 x1 x2 b_x0 b_x0otape A_x0otapeowords c_x0otapeowords A_x0oops c_x0oops A_x0ovalues c_x0ovalues A_x0oblocks c_x0oblocks r) (.int .i64 (IntKind.i64.wrap ((IntKind.i64.wrap (p_69.base + 1)) - 1))) hs rfl (by kernel_rfl) (by obtain rfl := Option.some.inj hm; exact ⟨A_61, c_62, A_x0oops, c_x0oops, A_x0ovalues, c_x0ovalues, A_x0oblocks, c_x0oblocks, rfl, (Own.to hs.own [0, 1, 2, 3, 4, 5] 7 (by kernel_rfl) (by kernel_rfl))⟩)
              · replace hm := bif_f hm hb
                refine wp_skip ?_
                refine hK70 _ _ ?_
                clear hK70
                refine Vk.seq fun K74 hK74 => ?_
                obtain ⟨C_75, hC_75⟩ : ∃ X0 : List HP, X0 = (pt b_x0 (blk (Twire_Machine.obj p_69 b_x0otape A_x0oops c_x0oops A_x0ovalues c_x0ovalues A_x0oblocks c_x0oblocks) 151) :: pt b_x0otape (blk (Ttape_Tape.obj p_69.tape A_61 c_62) 158) :: rowp A_61 c_62 23 1 (eI .u64) p_69.tape.words :: rowp A_x0oops c_x0oops 32 6 Tapi_Op.cells p_69.ops :: rowp A_x0oblocks c_x0oblocks 144 3 Tapi_Span.cells p_69.blocks :: pt b_2 (blk (Tapi_Op.cells x1) 32) :: S) := ⟨_, rfl⟩
                refine Vk.drawnT 22 κ C_75 hs (by kernel_rfl) fun w hs => ?_
                have hcz : Own κ w (pt b_x0 (blk (Twire_Machine.obj p_69 b_x0otape A_x0oops c_x0oops A_x0ovalues c_x0ovalues A_x0oblocks c_x0oblocks) 151) :: pt b_x0otape (blk (Ttape_Tape.obj p_69.tape A_61 c_62) 158) :: rowp A_61 c_62 23 1 (eI .u64) p_69.tape.words :: rowp A_x0oops c_x0oops 32 6 Tapi_Op.cells p_69.ops :: rowp A_x0oblocks c_x0oblocks 144 3 Tapi_Span.cells p_69.blocks :: pt b_2 (blk (Tapi_Op.cells x1) 32) :: S) := (Own.to hs.own [0, 1, 2, 3, 5, 6] 7 (by kernel_rfl) (by kernel_rfl))
                have hcl : Own κ w C_75 := by rw [hC_75]; exact hcz
                refine Vk.dPuresT [0, 1, 2, 3, 6, 7, 10, 11, 14, 15, 18] [(123, .int .u64 p_64), (120, .pointer (some ⟨b_2, 4, none⟩)), (119, .pointer (some ⟨b_x0, 0, none⟩)), (116, .pointer (some ⟨b_2, 3, none⟩)), (115, .pointer (some ⟨b_x0, 0, none⟩)), (112, .pointer (some ⟨b_2, 2, none⟩)), (111, .pointer (some ⟨b_x0, 0, none⟩)), (108, .pointer (some ⟨b_x0, 11, none⟩)), (107, .pointer (some ⟨b_x0, 0, none⟩)), (106, .pointer (some ⟨b_x0, 0, none⟩)), (105, .pointer (some ⟨b_x0, 0, none⟩))] hs (by kernel_rfl) (by repeat' (first | exact Vk.Calm.post | refine Vk.Calm.then ?_ | refine Vk.Calm.inBlock ?_)) hcl (by kernel_rfl) (by kernel_rfl) (fuel := 14) rfl fun a hs => ?_
                refine Vk.dTakeT (i := 4) (some 109) (.slice A_x0ovalues p_69.values.length c_x0ovalues) hs (by kernel_rfl) (by repeat' (first | exact Vk.Calm.post | refine Vk.Calm.then ?_ | refine Vk.Calm.inBlock ?_)) hcl (by kernel_rfl) (by kernel_rfl) (op := (.load 73 (.tmp 108))) (by kernel_rfl) (by kernel_rfl) (fun w hw o ho => by rw [hC_75] at hw; exact run_load1 (b := b_x0) (off := 11) (c := C.slc A_x0ovalues p_69.values.length c_x0ovalues) ho (by kernel_rfl) (by kernel_rfl) (Cell.own 0 rfl (by kernel_rfl)) _ hw) fun a hs => ?_
                refine Vk.dTakeT (i := 5) (some 110) (.agg (vals [C.int .i64 x1.kind, C.int .i64 x1.dom, C.int .i64 x1.a, C.int .i64 x1.b, C.int .i64 x1.d, C.int .u64 x1.c])) hs (by kernel_rfl) (by repeat' (first | exact Vk.Calm.post | refine Vk.Calm.then ?_ | refine Vk.Calm.inBlock ?_)) hcl (by kernel_rfl) (by kernel_rfl) (op := (.load 32 (.tmp 4))) (by kernel_rfl) (by kernel_rfl) (fun w hw o ho => by rw [hC_75] at hw; exact run_loadN (cs := [C.int .i64 x1.kind, C.int .i64 x1.dom, C.int .i64 x1.a, C.int .i64 x1.b, C.int .i64 x1.d, C.int .u64 x1.c]) ho (by kernel_rfl) (by kernel_rfl) rfl (CellsAt.all 5 rfl) _ hw) fun a hs => ?_
                refine Vk.dTakeT (i := 8) (some 113) (.int .i64 x1.a) hs (by kernel_rfl) (by repeat' (first | exact Vk.Calm.post | refine Vk.Calm.then ?_ | refine Vk.Calm.inBlock ?_)) hcl (by kernel_rfl) (by kernel_rfl) (op := (.load 3 (.tmp 112))) (by kernel_rfl) (by kernel_rfl) (fun w hw o ho => by rw [hC_75] at hw; exact run_load1 (b := b_2) (off := 2) (c := C.int .i64 x1.a) ho (by kernel_rfl) (by kernel_rfl) (Cell.own 5 rfl (by kernel_rfl)) _ hw) fun a hs => ?_
                refine Vk.dTakeT (i := 12) (some 117) (.int .i64 x1.b) hs (by kernel_rfl) (by repeat' (first | exact Vk.Calm.post | refine Vk.Calm.then ?_ | refine Vk.Calm.inBlock ?_)) hcl (by kernel_rfl) (by kernel_rfl) (op := (.load 3 (.tmp 116))) (by kernel_rfl) (by kernel_rfl) (fun w hw o ho => by rw [hC_75] at hw; exact run_load1 (b := b_2) (off := 3) (c := C.int .i64 x1.b) ho (by kernel_rfl) (by kernel_rfl) (Cell.own 5 rfl (by kernel_rfl)) _ hw) fun a hs => ?_
                refine Vk.dTakeT (i := 16) (some 121) (.int .i64 x1.d) hs (by kernel_rfl) (by repeat' (first | exact Vk.Calm.post | refine Vk.Calm.then ?_ | refine Vk.Calm.inBlock ?_)) hcl (by kernel_rfl) (by kernel_rfl) (op := (.load 3 (.tmp 120))) (by kernel_rfl) (by kernel_rfl) (fun w hw o ho => by rw [hC_75] at hw; exact run_load1 (b := b_2) (off := 4) (c := C.int .i64 x1.d) ho (by kernel_rfl) (by kernel_rfl) (Cell.own 5 rfl (by kernel_rfl)) _ hw) fun a hs => ?_
                obtain ⟨v_78, h_77, hm⟩ := bind_t hm
                refine Vk.dOnly (i := 9) (by kernel_rfl) (Vk.call (some 114) 96 #[.pointer (some ⟨b_x0, 0, none⟩), .int .i64 x1.a] hs (by kernel_rfl) (by kernel_rfl) (by kernel_rfl) ?_)
                refine (wire_Machine_value.ok k p_69 x1.a v_78 h_77 κ w (pt b_2 (blk (Tapi_Op.cells x1) 32) :: S) b_x0 b_x0otape A_61 c_62 A_x0oops c_x0oops A_x0ovalues c_x0ovalues A_x0oblocks c_x0oblocks (Own.to hs.own [0, 1, 2, 3, 4, 5, 6] 7 (by kernel_rfl) (by kernel_rfl))).mono ?_
                rintro _ w ⟨rfl, how⟩
                refine ⟨_, _, _, rfl, how, fun a hs => ?_⟩
                replace hcl : Own κ w C_75 := by rw [hC_75]; exact (Own.to hs.own [0, 1, 2, 3, 5, 6] 7 (by kernel_rfl) (by kernel_rfl))
                refine ⟨fun _ => hcl, ?_⟩
                obtain ⟨v_81, h_80, hm⟩ := bind_t hm
                refine Vk.dOnly (i := 13) (by kernel_rfl) (Vk.call (some 118) 96 #[.pointer (some ⟨b_x0, 0, none⟩), .int .i64 x1.b] hs (by kernel_rfl) (by kernel_rfl) (by kernel_rfl) ?_)
                refine (wire_Machine_value.ok k p_69 x1.b v_81 h_80 κ w (pt b_2 (blk (Tapi_Op.cells x1) 32) :: S) b_x0 b_x0otape A_61 c_62 A_x0oops c_x0oops A_x0ovalues c_x0ovalues A_x0oblocks c_x0oblocks (Own.to hs.own [0, 1, 2, 3, 4, 5, 6] 7 (by kernel_rfl) (by kernel_rfl))).mono ?_
                rintro _ w ⟨rfl, how⟩
                refine ⟨_, _, _, rfl, how, fun a hs => ?_⟩
                replace hcl : Own κ w C_75 := by rw [hC_75]; exact (Own.to hs.own [0, 1, 2, 3, 5, 6] 7 (by kernel_rfl) (by kernel_rfl))
                refine ⟨fun _ => hcl, ?_⟩
                obtain ⟨v_84, h_83, hm⟩ := bind_t hm
                refine Vk.dOnly (i := 17) (by kernel_rfl) (Vk.call (some 122) 96 #[.pointer (some ⟨b_x0, 0, none⟩), .int .i64 x1.d] hs (by kernel_rfl) (by kernel_rfl) (by kernel_rfl) ?_)
                refine (wire_Machine_value.ok k p_69 x1.d v_84 h_83 κ w (pt b_2 (blk (Tapi_Op.cells x1) 32) :: S) b_x0 b_x0otape A_61 c_62 A_x0oops c_x0oops A_x0ovalues c_x0ovalues A_x0oblocks c_x0oblocks (Own.to hs.own [0, 1, 2, 3, 4, 5, 6] 7 (by kernel_rfl) (by kernel_rfl))).mono ?_
                rintro _ w ⟨rfl, how⟩
                refine ⟨_, _, _, rfl, how, fun a hs => ?_⟩
                replace hcl : Own κ w C_75 := by rw [hC_75]; exact (Own.to hs.own [0, 1, 2, 3, 5, 6] 7 (by kernel_rfl) (by kernel_rfl))
                refine ⟨fun _ => hcl, ?_⟩
                obtain ⟨v_87, h_86, hm⟩ := bind_t hm
                refine Vk.dOnly (i := 19) (by kernel_rfl) (Vk.call (some 124) 21 #[.agg (vals [C.int .i64 x1.kind, C.int .i64 x1.dom, C.int .i64 x1.a, C.int .i64 x1.b, C.int .i64 x1.d, C.int .u64 x1.c]), .int .u64 v_78, .int .u64 v_81, .int .u64 v_84, .int .u64 p_64] hs (by kernel_rfl) (by kernel_rfl) (by kernel_rfl) ?_)
                refine (op_Eval.ok k x1 v_78 v_81 v_84 p_64 v_87 h_86 κ w (pt b_x0 (blk (Twire_Machine.obj p_69 b_x0otape A_x0oops c_x0oops A_x0ovalues c_x0ovalues A_x0oblocks c_x0oblocks) 151) :: pt b_x0otape (blk (Ttape_Tape.obj p_69.tape A_61 c_62) 158) :: rowp A_61 c_62 23 1 (eI .u64) p_69.tape.words :: rowp A_x0oops c_x0oops 32 6 Tapi_Op.cells p_69.ops :: rowp A_x0ovalues c_x0ovalues 23 1 (eI .u64) p_69.values :: rowp A_x0oblocks c_x0oblocks 144 3 Tapi_Span.cells p_69.blocks :: pt b_2 (blk (Tapi_Op.cells x1) 32) :: S) hs.own).mono ?_
                rintro _ w ⟨rfl, how⟩
                refine ⟨_, _, _, rfl, how, fun a hs => ?_⟩
                replace hcl : Own κ w C_75 := by rw [hC_75]; exact (Own.to hs.own [0, 1, 2, 3, 5, 6] 7 (by kernel_rfl) (by kernel_rfl))
                refine ⟨fun _ => hcl, ?_⟩
                refine Vk.dOnly (i := 20) (by kernel_rfl) (Vk.buildOp (sz := 1) (by_ := 8) (t := 73) (e := 23) (parts := #[(0, (.tmp 124))]) (zs := vals [C.int .u64 0]) ([v_87] : List Int) (eI .u64) (some 125) hs (by kernel_rfl) (by kernel_rfl) (by kernel_rfl) (by kernel_rfl) (by decide) rfl (fun x _ => rfl) (Nat.le_of_ble_eq_true (by kernel_rfl)) (by kernel_rfl) fun A_88 w a hs => ?_)
                replace hcl : Own κ w C_75 := by rw [hC_75]; exact (Own.to hs.own [1, 2, 3, 4, 6, 7] 8 (by kernel_rfl) (by kernel_rfl))
                refine ⟨fun _ => hcl, ?_⟩
                obtain ⟨h_90, hm⟩ := ite_t hm
                refine Vk.dOnly (i := 21) (by kernel_rfl) (Vk.appendOp (x := (.tmp 109)) (y := (.tmp 125)) (e := 23) (t := 73) (by_ := 8) (sz := 1) (enc := (eI .u64)) (A := A_x0ovalues) (cap := c_x0ovalues) (xs := p_69.values) (ys := ([v_87] : List Int)) (B := A_88) (c2 := 1) 5 (some 126) hs (by kernel_rfl) (by kernel_rfl) (by kernel_rfl) (by kernel_rfl) rfl (Sl.lift (fun w ho => (Own.to (S' := rowp A_88 1 23 1 (eI .u64) ([v_87] : List Int) :: S) ho [0] 8 (by kernel_rfl) (by kernel_rfl))) (Own.rowSl 0 (Own.to (S' := rowp A_88 1 23 1 (eI .u64) ([v_87] : List Int) :: S) hs.own [0] 8 (by kernel_rfl) (by kernel_rfl)) rfl)) (by kernel_rfl) (by kernel_rfl) (by decide) (by decide) h_90 fun A_91 c_92 w a hs => ?_)
                replace hcl : Own κ w C_75 := by rw [hC_75]; exact (Own.to hs.own [1, 2, 3, 4, 6, 7] 8 (by kernel_rfl) (by kernel_rfl))
                refine ⟨fun _ => hcl, ?_⟩
                refine Vk.dOnly (i := 22) (by kernel_rfl) (Vk.dPure1 [(127, .pointer (some ⟨b_x0, 0, none⟩))] hs (by kernel_rfl) fun a hs => ?_)
                refine ⟨fun h => absurd h (by decide), ?_⟩
                refine Vk.dOnly (i := 23) (by kernel_rfl) (Vk.dPure1 [(128, .pointer (some ⟨b_x0, 11, none⟩))] hs (by kernel_rfl) fun a hs => ?_)
                refine ⟨fun h => absurd h (by decide), ?_⟩
                refine Vk.dOnly (i := 24) (by kernel_rfl) (Vk.store1 (b := b_x0) (ty := 73) (x := (.tmp 128)) (y := (.tmp 126)) (off := 11) (C.slc A_91 ((p_69.values ++ ([v_87] : List Int)).length) c_92) 1 hs (by kernel_rfl) (by kernel_rfl) (by kernel_rfl) (by kernel_rfl) (by kernel_rfl) (by kernel_rfl) rfl (Nat.le_of_ble_eq_true (by kernel_rfl)) fun a w hs => ?_)
                refine ⟨fun h => absurd h (by decide), ?_⟩
                replace hs := hs.pick [0, 4] (L' := [(0, .pointer (some ⟨b_x0, 0, none⟩)), (4, .pointer (some ⟨b_2, 0, none⟩))]) (by kernel_rfl)
                refine Vk.dDone (by kernel_rfl) ?_
                refine hK74 _ _ ?_
                clear hK74
                refine Vk.seq fun K93 hK93 => ?_
                obtain ⟨C_94, hC_94⟩ : ∃ X0 : List HP, X0 = (rowp A_88 1 23 1 (eI .u64) ([v_87] : List Int) :: pt b_x0 (blk ((Twire_Machine.obj p_69 b_x0otape A_x0oops c_x0oops none 0 A_x0oblocks c_x0oblocks).set 11 (C.slc A_91 ((p_69.values ++ ([v_87] : List Int)).length) c_92)) 151) :: pt b_x0otape (blk (Ttape_Tape.obj p_69.tape A_61 c_62) 158) :: rowp A_61 c_62 23 1 (eI .u64) p_69.tape.words :: rowp A_91 c_92 23 1 (eI .u64) (p_69.values ++ ([v_87] : List Int)) :: rowp A_x0oblocks c_x0oblocks 144 3 Tapi_Span.cells p_69.blocks :: pt b_2 (blk (Tapi_Op.cells x1) 32) :: S) := ⟨_, rfl⟩
                refine Vk.drawnT 8 κ C_94 hs (by kernel_rfl) fun w hs => ?_
                have hcz : Own κ w (rowp A_88 1 23 1 (eI .u64) ([v_87] : List Int) :: pt b_x0 (blk ((Twire_Machine.obj p_69 b_x0otape A_x0oops c_x0oops none 0 A_x0oblocks c_x0oblocks).set 11 (C.slc A_91 ((p_69.values ++ ([v_87] : List Int)).length) c_92)) 151) :: pt b_x0otape (blk (Ttape_Tape.obj p_69.tape A_61 c_62) 158) :: rowp A_61 c_62 23 1 (eI .u64) p_69.tape.words :: rowp A_91 c_92 23 1 (eI .u64) (p_69.values ++ ([v_87] : List Int)) :: rowp A_x0oblocks c_x0oblocks 144 3 Tapi_Span.cells p_69.blocks :: pt b_2 (blk (Tapi_Op.cells x1) 32) :: S) := (Own.to hs.own [0, 1, 2, 3, 5, 6, 7] 8 (by kernel_rfl) (by kernel_rfl))
                have hcl : Own κ w C_94 := by rw [hC_94]; exact hcz
                refine Vk.dPuresT [0, 1, 2, 3] [(132, .pointer (some ⟨b_x0, 10, none⟩)), (131, .pointer (some ⟨b_x0, 0, none⟩)), (130, .pointer (some ⟨b_x0, 0, none⟩)), (129, .pointer (some ⟨b_x0, 0, none⟩))] hs (by kernel_rfl) (by repeat' (first | exact Vk.Calm.post | refine Vk.Calm.then ?_ | refine Vk.Calm.inBlock ?_)) hcl (by kernel_rfl) (by kernel_rfl) (fuel := 7) rfl fun a hs => ?_
                refine Vk.dTakeT (i := 4) (some 133) (.slice A_x0oops p_69.ops.length c_x0oops) hs (by kernel_rfl) (by repeat' (first | exact Vk.Calm.post | refine Vk.Calm.then ?_ | refine Vk.Calm.inBlock ?_)) hcl (by kernel_rfl) (by kernel_rfl) (op := (.load 69 (.tmp 132))) (by kernel_rfl) (by kernel_rfl) (fun w hw o ho => by rw [hC_94] at hw; exact run_load1 (b := b_x0) (off := 10) (c := C.slc A_x0oops p_69.ops.length c_x0oops) ho (by kernel_rfl) (by kernel_rfl) (Cell.own 1 rfl (by kernel_rfl)) _ hw) fun a hs => ?_
                refine Vk.dTakeT (i := 5) (some 134) (.agg (vals [C.int .i64 x1.kind, C.int .i64 x1.dom, C.int .i64 x1.a, C.int .i64 x1.b, C.int .i64 x1.d, C.int .u64 x1.c])) hs (by kernel_rfl) (by repeat' (first | exact Vk.Calm.post | refine Vk.Calm.then ?_ | refine Vk.Calm.inBlock ?_)) hcl (by kernel_rfl) (by kernel_rfl) (op := (.load 32 (.tmp 4))) (by kernel_rfl) (by kernel_rfl) (fun w hw o ho => by rw [hC_94] at hw; exact run_loadN (cs := [C.int .i64 x1.kind, C.int .i64 x1.dom, C.int .i64 x1.a, C.int .i64 x1.b, C.int .i64 x1.d, C.int .u64 x1.c]) ho (by kernel_rfl) (by kernel_rfl) rfl (CellsAt.all 6 rfl) _ hw) fun a hs => ?_
                refine Vk.dOnly (i := 6) (by kernel_rfl) (Vk.buildOp (sz := 6) (by_ := 48) (t := 69) (e := 32) (parts := #[(0, (.tmp 134))]) (zs := vals [C.int .i64 0, C.int .i64 0, C.int .i64 0, C.int .i64 0, C.int .i64 0, C.int .u64 0]) ([x1] : List Tapi_Op) Tapi_Op.cells (some 135) hs (by kernel_rfl) (by kernel_rfl) (by kernel_rfl) (by kernel_rfl) (by decide) rfl (fun x _ => rfl) (Nat.le_of_ble_eq_true (by kernel_rfl)) (by kernel_rfl) fun A_95 w a hs => ?_)
                replace hcl : Own κ w C_94 := by rw [hC_94]; exact (Own.to hs.own [1, 2, 3, 4, 6, 7, 8] 9 (by kernel_rfl) (by kernel_rfl))
                refine ⟨fun _ => hcl, ?_⟩
                obtain ⟨h_97, hm⟩ := ite_t hm
                refine Vk.dOnly (i := 7) (by kernel_rfl) (Vk.appendOp (x := (.tmp 133)) (y := (.tmp 135)) (e := 32) (t := 69) (by_ := 48) (sz := 6) (enc := Tapi_Op.cells) (A := A_x0oops) (cap := c_x0oops) (xs := p_69.ops) (ys := ([x1] : List Tapi_Op)) (B := A_95) (c2 := 1) 5 (some 136) hs (by kernel_rfl) (by kernel_rfl) (by kernel_rfl) (by kernel_rfl) rfl (Sl.lift (fun w ho => (Own.to (S' := rowp A_95 1 32 6 Tapi_Op.cells ([x1] : List Tapi_Op) :: S) ho [0] 9 (by kernel_rfl) (by kernel_rfl))) (Own.rowSl 0 (Own.to (S' := rowp A_95 1 32 6 Tapi_Op.cells ([x1] : List Tapi_Op) :: S) hs.own [0] 9 (by kernel_rfl) (by kernel_rfl)) rfl)) (by kernel_rfl) (by kernel_rfl) (by decide) (by decide) h_97 fun A_98 c_99 w a hs => ?_)
                replace hcl : Own κ w C_94 := by rw [hC_94]; exact (Own.to hs.own [1, 2, 3, 4, 6, 7, 8] 9 (by kernel_rfl) (by kernel_rfl))
                refine ⟨fun _ => hcl, ?_⟩
                refine Vk.dOnly (i := 8) (by kernel_rfl) (Vk.dPure1 [(137, .pointer (some ⟨b_x0, 0, none⟩))] hs (by kernel_rfl) fun a hs => ?_)
                refine ⟨fun h => absurd h (by decide), ?_⟩
                refine Vk.dOnly (i := 9) (by kernel_rfl) (Vk.dPure1 [(138, .pointer (some ⟨b_x0, 10, none⟩))] hs (by kernel_rfl) fun a hs => ?_)
                refine ⟨fun h => absurd h (by decide), ?_⟩
                refine Vk.dOnly (i := 10) (by kernel_rfl) (Vk.store1 (b := b_x0) (ty := 69) (x := (.tmp 138)) (y := (.tmp 136)) (off := 10) (C.slc A_98 ((p_69.ops ++ ([x1] : List Tapi_Op)).length) c_99) 2 hs (by kernel_rfl) (by kernel_rfl) (by kernel_rfl) (by kernel_rfl) (by kernel_rfl) (by kernel_rfl) rfl (Nat.le_of_ble_eq_true (by kernel_rfl)) fun a w hs => ?_)
                refine ⟨fun h => absurd h (by decide), ?_⟩
                replace hs := hs.pick [0] (L' := [(0, .pointer (some ⟨b_x0, 0, none⟩))]) (by kernel_rfl)
                refine Vk.dDone (by kernel_rfl) ?_
                refine hK93 _ _ ?_
                clear hK93
                refine Vk.seq fun K100 hK100 => ?_
                refine Vk.region ?_
                refine Vk.pures 3 [(141, .pointer (some ⟨b_x0, 10, none⟩)), (140, .pointer (some ⟨b_x0, 0, none⟩)), (139, .pointer (some ⟨b_x0, 0, none⟩))] hs (by kernel_rfl) fun a hs => ?_
                refine Vk.step (Vk.value (some 142) (.slice A_98 ((p_69.ops ++ ([x1] : List Tapi_Op)).length) c_99) hs (by kernel_rfl) (op := (.load 69 (.tmp 141))) (by kernel_rfl) (fun o ho => run_load1 (b := b_x0) (off := 10) (c := C.slc A_98 ((p_69.ops ++ ([x1] : List Tapi_Op)).length) c_99) ho (by kernel_rfl) (by kernel_rfl) (Cell.own 2 rfl (by kernel_rfl)) _ hs.own) fun a hs => ?_)
                refine Vk.pures 3 [(6, .int .i64 (IntKind.i64.wrap ((((p_69.ops ++ ([x1] : List Tapi_Op)).length : Nat) : Int) - 1))), (144, .int .i64 (IntKind.i64.wrap ((((p_69.ops ++ ([x1] : List Tapi_Op)).length : Nat) : Int) - 1))), (143, .int .i64 (((p_69.ops ++ ([x1] : List Tapi_Op)).length : Nat) : Int))] hs (by kernel_rfl) fun a hs => ?_
                replace hs := hs.pick [6] (L' := [(6, .int .i64 (IntKind.i64.wrap ((((p_69.ops ++ ([x1] : List Tapi_Op)).length : Nat) : Int) - 1)))]) (by kernel_rfl)
                refine Vk.done (by kernel_rfl) ?_
                refine hK100 _ _ ?_
                clear hK100
                refine wp_ret ?_
                exact Vk.ret1 (P := Try.prog) (fn := Try.f60) (R := wire_Machine_Do.R κ S x0 x1 x2 b_x0 b_x0otape A_x0otapeowords c_x0otapeowords A_x0oops c_x0oops A_x0ovalues c_x0ovalues A_x0oblocks c_x0oblocks r) (.int .i64 (IntKind.i64.wrap ((((p_69.ops ++ ([x1] : List Tapi_Op)).length : Nat) : Int) - 1))) hs rfl (by kernel_rfl) (by obtain rfl := Option.some.inj hm; exact ⟨A_61, c_62, A_98, c_99, A_91, c_92, A_x0oblocks, c_x0oblocks, rfl, (Own.to hs.own [2, 3, 4, 5, 6, 7] 9 (by kernel_rfl) (by kernel_rfl))⟩)
            refine Vk.seq fun K66 hK66 => ?_
            refine Vk.region ?_
            refine Vk.pures 1 [(69, .pointer (some ⟨b_2, 0, none⟩))] hs (by kernel_rfl) fun a hs => ?_
            refine Vk.step (Vk.value (some 70) (.int .i64 x1.kind) hs (by kernel_rfl) (op := (.load 3 (.tmp 69))) (by kernel_rfl) (fun o ho => run_load1 (b := b_2) (off := 0) (c := C.int .i64 x1.kind) ho (by kernel_rfl) (by kernel_rfl) (Cell.own 6 rfl (by kernel_rfl)) _ hs.own) fun a hs => ?_)
            replace hs := hs.pick [0, 2, 4, 70] (L' := [(0, .pointer (some ⟨b_x0, 0, none⟩)), (2, .int .u64 p_64), (4, .pointer (some ⟨b_2, 0, none⟩)), (70, .int .i64 x1.kind)]) (by kernel_rfl)
            refine Vk.done (by kernel_rfl) ?_
            refine hK66 _ _ ?_
            clear hK66
            refine wp_block ?_
            refine Vk.seq fun K67 hK67 => ?_
            refine Vk.region ?_
            refine Vk.pures 2 [(71, .bool (x1.kind == 1)), (72, .bool (x1.kind == 1))] hs (by kernel_rfl) fun a hs => ?_
            replace hs := hs.pick [0, 2, 4, 70, 71] (L' := [(0, .pointer (some ⟨b_x0, 0, none⟩)), (2, .int .u64 p_64), (4, .pointer (some ⟨b_2, 0, none⟩)), (70, .int .i64 x1.kind), (71, .bool (x1.kind == 1))]) (by kernel_rfl)
            refine Vk.done (by kernel_rfl) ?_
            refine hK67 _ _ ?_
            clear hK67
            refine Vk.condS (b := x1.kind == 1) hs (by kernel_rfl) (by kernel_rfl) (fun hb => ?_) (fun hb => ?_)
            · replace hm := bif_t hm hb
              refine Vk.region ?_
              refine Vk.pures 3 [(75, .pointer (some ⟨b_x0, 4, none⟩)), (74, .pointer (some ⟨b_x0, 0, none⟩)), (73, .pointer (some ⟨b_x0, 0, none⟩))] hs (by kernel_rfl) fun a hs => ?_
              refine Vk.step (Vk.value (some 76) (.int .i64 p_60.draws) hs (by kernel_rfl) (op := (.load 3 (.tmp 75))) (by kernel_rfl) (fun o ho => run_load1 (b := b_x0) (off := 4) (c := C.int .i64 p_60.draws) ho (by kernel_rfl) (by kernel_rfl) (Cell.own 0 rfl (by kernel_rfl)) _ hs.own) fun a hs => ?_)
              refine Vk.pures 3 [(79, .pointer (some ⟨b_x0, 4, none⟩)), (78, .pointer (some ⟨b_x0, 0, none⟩)), (77, .int .i64 (IntKind.i64.wrap (p_60.draws + 1)))] hs (by kernel_rfl) fun a hs => ?_
              refine Vk.step (Vk.store1 (b := b_x0) (ty := 3) (x := (.tmp 79)) (y := (.tmp 77)) (off := 4) (C.int .i64 (IntKind.i64.wrap (p_60.draws + 1))) 0 hs (by kernel_rfl) (by kernel_rfl) (by kernel_rfl) (by kernel_rfl) (by kernel_rfl) (by kernel_rfl) rfl (Nat.le_of_ble_eq_true (by kernel_rfl)) fun a w hs => ?_)
              replace hs := hs.pick [0, 2, 4] (L' := [(0, .pointer (some ⟨b_x0, 0, none⟩)), (2, .int .u64 p_64), (4, .pointer (some ⟨b_2, 0, none⟩))]) (by kernel_rfl)
              refine Vk.done (by kernel_rfl) ?_
              exact hj65 (⟨p_60.n, p_60.most, p_60.base, p_60.words, IntKind.i64.wrap (p_60.draws + 1), p_60.dry, p_60.openF, p_60.fromF, p_60.bad, p_60.tape, p_60.ops, p_60.values, p_60.blocks⟩ : Twire_Machine) hm _ _ (hs.go [0, 2, 4] [0, 1, 2, 3, 4, 5, 6] 7 (by kernel_rfl) (by kernel_rfl) (by kernel_rfl))
            · replace hm := bif_f hm hb
              refine Vk.seq fun K68 hK68 => ?_
              refine Vk.region ?_
              refine Vk.pures 2 [(80, .bool (x1.kind == 2)), (81, .bool (x1.kind == 2))] hs (by kernel_rfl) fun a hs => ?_
              replace hs := hs.pick [0, 2, 4, 80] (L' := [(0, .pointer (some ⟨b_x0, 0, none⟩)), (2, .int .u64 p_64), (4, .pointer (some ⟨b_2, 0, none⟩)), (80, .bool (x1.kind == 2))]) (by kernel_rfl)
              refine Vk.done (by kernel_rfl) ?_
              refine hK68 _ _ ?_
              clear hK68
              refine Vk.condS (b := x1.kind == 2) hs (by kernel_rfl) (by kernel_rfl) (fun hb => ?_) (fun hb => ?_)
              · replace hm := bif_t hm hb
                refine Vk.region ?_
                refine Vk.pures 3 [(84, .pointer (some ⟨b_x0, 3, none⟩)), (83, .pointer (some ⟨b_x0, 0, none⟩)), (82, .pointer (some ⟨b_x0, 0, none⟩))] hs (by kernel_rfl) fun a hs => ?_
                refine Vk.step (Vk.value (some 85) (.int .i64 p_60.words) hs (by kernel_rfl) (op := (.load 3 (.tmp 84))) (by kernel_rfl) (fun o ho => run_load1 (b := b_x0) (off := 3) (c := C.int .i64 p_60.words) ho (by kernel_rfl) (by kernel_rfl) (Cell.own 0 rfl (by kernel_rfl)) _ hs.own) fun a hs => ?_)
                refine Vk.pures 3 [(88, .pointer (some ⟨b_x0, 3, none⟩)), (87, .pointer (some ⟨b_x0, 0, none⟩)), (86, .int .i64 (IntKind.i64.wrap (p_60.words + 1)))] hs (by kernel_rfl) fun a hs => ?_
                refine Vk.step (Vk.store1 (b := b_x0) (ty := 3) (x := (.tmp 88)) (y := (.tmp 86)) (off := 3) (C.int .i64 (IntKind.i64.wrap (p_60.words + 1))) 0 hs (by kernel_rfl) (by kernel_rfl) (by kernel_rfl) (by kernel_rfl) (by kernel_rfl) (by kernel_rfl) rfl (Nat.le_of_ble_eq_true (by kernel_rfl)) fun a w hs => ?_)
                replace hs := hs.pick [0, 2, 4] (L' := [(0, .pointer (some ⟨b_x0, 0, none⟩)), (2, .int .u64 p_64), (4, .pointer (some ⟨b_2, 0, none⟩))]) (by kernel_rfl)
                refine Vk.done (by kernel_rfl) ?_
                exact hj65 (⟨p_60.n, p_60.most, p_60.base, IntKind.i64.wrap (p_60.words + 1), p_60.draws, p_60.dry, p_60.openF, p_60.fromF, p_60.bad, p_60.tape, p_60.ops, p_60.values, p_60.blocks⟩ : Twire_Machine) hm _ _ (hs.go [0, 2, 4] [0, 1, 2, 3, 4, 5, 6] 7 (by kernel_rfl) (by kernel_rfl) (by kernel_rfl))
              · replace hm := bif_f hm hb
                refine wp_skip ?_
                exact hj65 p_60 hm _ _ (hs.go [0, 2, 4] [0, 1, 2, 3, 4, 5, 6] 7 (by kernel_rfl) (by kernel_rfl) (by kernel_rfl))
          refine Vk.seq fun K38 hK38 => ?_
          refine Vk.region ?_
          refine Vk.pures 1 [(46, .pointer (some ⟨b_2, 0, none⟩))] hs (by kernel_rfl) fun a hs => ?_
          refine Vk.step (Vk.value (some 47) (.int .i64 x1.kind) hs (by kernel_rfl) (op := (.load 3 (.tmp 46))) (by kernel_rfl) (fun o ho => run_load1 (b := b_2) (off := 0) (c := C.int .i64 x1.kind) ho (by kernel_rfl) (by kernel_rfl) (Cell.own 6 rfl (by kernel_rfl)) _ hs.own) fun a hs => ?_)
          refine Vk.pures 2 [(49, .bool (x1.kind == 1)), (48, .bool (x1.kind == 1))] hs (by kernel_rfl) fun a hs => ?_
          suffices hj_39 : ∀ a, St 145 a w κ [(0, .pointer (some ⟨b_x0, 0, none⟩)), (2, .int .u64 x2), (4, .pointer (some ⟨b_2, 0, none⟩)), (26, .bool p_24), (46, .pointer (some ⟨b_2, 0, none⟩)), (47, .int .i64 x1.kind), (48, .bool (x1.kind == 1)), (49, .bool (x1.kind == 1)), (55, .bool ((x1.kind == 1) && (!x0.dry)))] (pt b_x0 (blk (Twire_Machine.obj x0 b_x0otape A_x0oops c_x0oops A_x0ovalues c_x0ovalues A_x0oblocks c_x0oblocks) 151) :: pt b_x0otape (blk (Ttape_Tape.obj x0.tape A_x0otapeowords c_x0otapeowords) 158) :: rowp A_x0otapeowords c_x0otapeowords 23 1 (eI .u64) x0.tape.words :: rowp A_x0oops c_x0oops 32 6 Tapi_Op.cells x0.ops :: rowp A_x0ovalues c_x0ovalues 23 1 (eI .u64) x0.values :: rowp A_x0oblocks c_x0oblocks 144 3 Tapi_Span.cells x0.blocks :: pt b_2 (blk (Tapi_Op.cells x1) 32) :: S) → wpFrom Try.prog _ _ 10 a w by
            rcases Bool.eq_false_or_eq_true (x1.kind == 1) with hb | hb
            · replace hs := hs.known (t := 49) hb (by kernel_rfl)
              refine Vk.pures 3 [(52, .pointer (some ⟨b_x0, 5, none⟩)), (51, .pointer (some ⟨b_x0, 0, none⟩)), (50, .pointer (some ⟨b_x0, 0, none⟩))] hs (by kernel_rfl) fun a hs => ?_
              refine Vk.step (Vk.value (some 53) (.bool x0.dry) hs (by kernel_rfl) (op := (.load 4 (.tmp 52))) (by kernel_rfl) (fun o ho => run_load1 (b := b_x0) (off := 5) (c := C.bool x0.dry) ho (by kernel_rfl) (by kernel_rfl) (Cell.own 0 rfl (by kernel_rfl)) _ hs.own) fun a hs => ?_)
              refine Vk.pures 2 [(55, .bool (!x0.dry)), (54, .bool (!x0.dry))] hs (by kernel_rfl) fun a hs => ?_
              have hq := hs.pick [0, 2, 4, 26, 46, 47, 48, 49, 55] (L' := [(0, .pointer (some ⟨b_x0, 0, none⟩)), (2, .int .u64 x2), (4, .pointer (some ⟨b_2, 0, none⟩)), (26, .bool p_24), (46, .pointer (some ⟨b_2, 0, none⟩)), (47, .int .i64 x1.kind), (48, .bool (x1.kind == 1)), (49, .bool true), (55, .bool (!x0.dry))]) (by kernel_rfl)
              exact hj_39 _ (hq.conv (by first | (rw [hb] <;> rfl) | rfl))
            · replace hs := hs.known (t := 49) hb (by kernel_rfl)
              refine Vk.pures 6 [(55, .bool false), (54, undef), (53, undef), (52, undef), (51, undef), (50, undef)] hs (by kernel_rfl) fun a hs => ?_
              have hq := hs.pick [0, 2, 4, 26, 46, 47, 48, 49, 55] (L' := [(0, .pointer (some ⟨b_x0, 0, none⟩)), (2, .int .u64 x2), (4, .pointer (some ⟨b_2, 0, none⟩)), (26, .bool p_24), (46, .pointer (some ⟨b_2, 0, none⟩)), (47, .int .i64 x1.kind), (48, .bool (x1.kind == 1)), (49, .bool false), (55, .bool false)]) (by kernel_rfl)
              exact hj_39 _ (hq.conv (by first | (rw [hb] <;> rfl) | rfl))
          intro a hs
          replace hs := hs.pick [0, 2, 4, 55] (L' := [(0, .pointer (some ⟨b_x0, 0, none⟩)), (2, .int .u64 x2), (4, .pointer (some ⟨b_2, 0, none⟩)), (55, .bool ((x1.kind == 1) && (!x0.dry)))]) (by kernel_rfl)
          refine Vk.done (by kernel_rfl) ?_
          refine hK38 _ _ ?_
          clear hK38
          refine Vk.condS (b := (x1.kind == 1) && (!x0.dry)) hs (by kernel_rfl) (by kernel_rfl) (fun hb => ?_) (fun hb => ?_)
          · replace hm := bif_t hm hb
            refine Vk.seq fun K40 hK40 => ?_
            refine Vk.region ?_
            refine Vk.pures 3 [(59, .pointer (some ⟨b_x0, 9, none⟩)), (58, .pointer (some ⟨b_x0, 0, none⟩)), (57, .pointer (some ⟨b_x0, 0, none⟩))] hs (by kernel_rfl) fun a hs => ?_
            refine Vk.step (Vk.value (some 60) (.pointer (some ⟨b_x0otape, 0, none⟩)) hs (by kernel_rfl) (op := (.load 105 (.tmp 59))) (by kernel_rfl) (fun o ho => run_load1 (b := b_x0) (off := 9) (c := C.ptr (some ⟨b_x0otape, 0, none⟩)) ho (by kernel_rfl) (by kernel_rfl) (Cell.own 0 rfl (by kernel_rfl)) _ hs.own) fun a hs => ?_)
            obtain ⟨v_43, h_42, hm⟩ := bind_t hm
            refine Vk.step (Vk.call (some 61) 95 #[.pointer (some ⟨b_x0otape, 0, none⟩)] hs (by kernel_rfl) (by kernel_rfl) (by kernel_rfl) ?_)
            refine (tape_Tape_Draw.ok k x0.tape v_43 h_42 κ w (pt b_x0 (blk (Twire_Machine.obj x0 b_x0otape A_x0oops c_x0oops A_x0ovalues c_x0ovalues A_x0oblocks c_x0oblocks) 151) :: rowp A_x0oops c_x0oops 32 6 Tapi_Op.cells x0.ops :: rowp A_x0ovalues c_x0ovalues 23 1 (eI .u64) x0.values :: rowp A_x0oblocks c_x0oblocks 144 3 Tapi_Span.cells x0.blocks :: pt b_2 (blk (Tapi_Op.cells x1) 32) :: S) b_x0otape A_x0otapeowords c_x0otapeowords (Own.to hs.own [1, 2, 0, 3, 4, 5, 6] 7 (by kernel_rfl) (by kernel_rfl))).mono ?_
            rintro _ w ⟨Ar41o0owords_44, cr41o0owords_45, rfl, how⟩
            refine ⟨_, _, _, rfl, how, fun a hs => ?_⟩
            refine Vk.pures 5 [(8, .bool v_43.2.1), (7, .int .u64 v_43.1), (63, .bool v_43.2.1), (62, .int .u64 v_43.1), (56, .tuple #[.int .u64 v_43.1, .bool v_43.2.1])] hs (by kernel_rfl) fun a hs => ?_
            replace hs := hs.pick [0, 4, 7, 8] (L' := [(0, .pointer (some ⟨b_x0, 0, none⟩)), (4, .pointer (some ⟨b_2, 0, none⟩)), (7, .int .u64 v_43.1), (8, .bool v_43.2.1)]) (by kernel_rfl)
            refine Vk.done (by kernel_rfl) ?_
            refine hK40 _ _ ?_
            clear hK40
            refine Vk.seq fun K46 hK46 => ?_
            refine Vk.seq fun K47 hK47 => ?_
            refine Vk.region ?_
            refine Vk.pures 2 [(65, .bool (!v_43.2.1)), (64, .bool v_43.2.1)] hs (by kernel_rfl) fun a hs => ?_
            replace hs := hs.pick [0, 4, 7, 65] (L' := [(0, .pointer (some ⟨b_x0, 0, none⟩)), (4, .pointer (some ⟨b_2, 0, none⟩)), (7, .int .u64 v_43.1), (65, .bool (!v_43.2.1))]) (by kernel_rfl)
            refine Vk.done (by kernel_rfl) ?_
            refine hK47 _ _ ?_
            clear hK47
            refine Vk.condS (b := !v_43.2.1) hs (by kernel_rfl) (by kernel_rfl) (fun hb => ?_) (fun hb => ?_)
            · replace hm := bif_t hm hb
              refine Vk.seq fun K48 hK48 => ?_
              refine Vk.region ?_
              refine Vk.pures 1 [(66, .pointer (some ⟨b_x0, 0, none⟩))] hs (by kernel_rfl) fun a hs => ?_
              obtain ⟨v_51, h_50, hm⟩ := bind_t hm
              refine Vk.step (Vk.call (some 67) 94 #[.pointer (some ⟨b_x0, 0, none⟩), .int .i64 2] hs (by kernel_rfl) (by kernel_rfl) (by kernel_rfl) ?_)
              refine (wire_Machine_fail.ok k (⟨x0.n, x0.most, x0.base, x0.words, x0.draws, x0.dry, x0.openF, x0.fromF, x0.bad, v_43.2.2, x0.ops, x0.values, x0.blocks⟩ : Twire_Machine) 2 v_51 h_50 κ w (pt b_2 (blk (Tapi_Op.cells x1) 32) :: S) b_x0 b_x0otape Ar41o0owords_44 cr41o0owords_45 A_x0oops c_x0oops A_x0ovalues c_x0ovalues A_x0oblocks c_x0oblocks (Own.to hs.own [2, 0, 1, 3, 4, 5, 6] 7 (by kernel_rfl) (by kernel_rfl))).mono ?_
              rintro _ w ⟨Ar49o0otapeowords_52, cr49o0otapeowords_53, Ar49o0oops_54, cr49o0oops_55, Ar49o0ovalues_56, cr49o0ovalues_57, Ar49o0oblocks_58, cr49o0oblocks_59, rfl, how⟩
              refine ⟨_, _, _, rfl, how, fun a hs => ?_⟩
              refine Vk.pures 1 [(6, .int .i64 v_51.1)] hs (by kernel_rfl) fun a hs => ?_
              replace hs := hs.pick [6] (L' := [(6, .int .i64 v_51.1)]) (by kernel_rfl)
              refine Vk.done (by kernel_rfl) ?_
              refine hK48 _ _ ?_
              clear hK48
              refine wp_ret ?_
              exact Vk.ret1 (P := Try.prog) (fn := Try.f60) (R := wire_Machine_Do.R κ S x0 x1 x2 b_x0 b_x0otape A_x0otapeowords c_x0otapeowords A_x0oops c_x0oops A_x0ovalues c_x0ovalues A_x0oblocks c_x0oblocks r) (.int .i64 v_51.1) hs rfl (by kernel_rfl) (by obtain rfl := Option.some.inj hm; exact ⟨Ar49o0otapeowords_52, cr49o0otapeowords_53, Ar49o0oops_54, cr49o0oops_55, Ar49o0ovalues_56, cr49o0ovalues_57, Ar49o0oblocks_58, cr49o0oblocks_59, rfl, (Own.to hs.own [0, 1, 2, 3, 4, 5] 7 (by kernel_rfl) (by kernel_rfl))⟩)
            · replace hm := bif_f hm hb
              refine wp_skip ?_
              refine hK46 _ _ ?_
              clear hK46
              refine Vk.region ?_
              refine Vk.pures 2 [(2, .int .u64 v_43.1), (68, .int .u64 v_43.1)] hs (by kernel_rfl) fun a hs => ?_
              replace hs := hs.pick [0, 2, 4] (L' := [(0, .pointer (some ⟨b_x0, 0, none⟩)), (2, .int .u64 v_43.1), (4, .pointer (some ⟨b_2, 0, none⟩))]) (by kernel_rfl)
              refine Vk.done (by kernel_rfl) ?_
              exact hj37 (⟨x0.n, x0.most, x0.base, x0.words, x0.draws, x0.dry, x0.openF, x0.fromF, x0.bad, v_43.2.2, x0.ops, x0.values, x0.blocks⟩ : Twire_Machine) v_43.1 hm Ar41o0owords_44 cr41o0owords_45 _ _ (hs.go [0, 2, 4] [2, 0, 1, 3, 4, 5, 6] 7 (by kernel_rfl) (by kernel_rfl) (by kernel_rfl))
          · replace hm := bif_f hm hb
            refine wp_skip ?_
            exact hj37 x0 x2 hm A_x0otapeowords c_x0otapeowords _ _ (hs.go [0, 2, 4] [0, 1, 2, 3, 4, 5, 6] 7 (by kernel_rfl) (by kernel_rfl) (by kernel_rfl))
      obtain ⟨C_23, hC_23⟩ : ∃ X0 : List HP, X0 = (pt b_x0 (blk (Twire_Machine.obj x0 b_x0otape A_x0oops c_x0oops A_x0ovalues c_x0ovalues A_x0oblocks c_x0oblocks) 151) :: pt b_x0otape (blk (Ttape_Tape.obj x0.tape A_x0otapeowords c_x0otapeowords) 158) :: rowp A_x0otapeowords c_x0otapeowords 23 1 (eI .u64) x0.tape.words :: rowp A_x0oops c_x0oops 32 6 Tapi_Op.cells x0.ops :: rowp A_x0ovalues c_x0ovalues 23 1 (eI .u64) x0.values :: rowp A_x0oblocks c_x0oblocks 144 3 Tapi_Span.cells x0.blocks :: pt b_2 (blk (Tapi_Op.cells x1) 32) :: S) := ⟨_, rfl⟩
      refine Vk.drawnT 18 κ C_23 hs (by kernel_rfl) fun w hs => ?_
      have hcz : Own κ w (pt b_x0 (blk (Twire_Machine.obj x0 b_x0otape A_x0oops c_x0oops A_x0ovalues c_x0ovalues A_x0oblocks c_x0oblocks) 151) :: pt b_x0otape (blk (Ttape_Tape.obj x0.tape A_x0otapeowords c_x0otapeowords) 158) :: rowp A_x0otapeowords c_x0otapeowords 23 1 (eI .u64) x0.tape.words :: rowp A_x0oops c_x0oops 32 6 Tapi_Op.cells x0.ops :: rowp A_x0ovalues c_x0ovalues 23 1 (eI .u64) x0.values :: rowp A_x0oblocks c_x0oblocks 144 3 Tapi_Span.cells x0.blocks :: pt b_2 (blk (Tapi_Op.cells x1) 32) :: S) := (Own.to hs.own [0, 1, 2, 3, 4, 5, 6] 7 (by kernel_rfl) (by kernel_rfl))
      have hcl : Own κ w C_23 := by rw [hC_23]; exact hcz
      refine Vk.dPuresT [0, 1, 2] [(29, .pointer (some ⟨b_x0, 5, none⟩)), (28, .pointer (some ⟨b_x0, 0, none⟩)), (27, .pointer (some ⟨b_x0, 0, none⟩))] hs (by kernel_rfl) (by repeat' (first | exact Vk.Calm.post | refine Vk.Calm.then ?_ | refine Vk.Calm.inBlock ?_)) hcl (by kernel_rfl) (by kernel_rfl) (fuel := 15) rfl fun a hs => ?_
      refine Vk.dTakeT (i := 3) (some 30) (.bool x0.dry) hs (by kernel_rfl) (by repeat' (first | exact Vk.Calm.post | refine Vk.Calm.then ?_ | refine Vk.Calm.inBlock ?_)) hcl (by kernel_rfl) (by kernel_rfl) (op := (.load 4 (.tmp 29))) (by kernel_rfl) (by kernel_rfl) (fun w hw o ho => by rw [hC_23] at hw; exact run_load1 (b := b_x0) (off := 5) (c := C.bool x0.dry) ho (by kernel_rfl) (by kernel_rfl) (Cell.own 0 rfl (by kernel_rfl)) _ hw) fun a hs => ?_
      refine Vk.dPuresT [4, 5] [(32, .bool (!x0.dry)), (31, .bool (!x0.dry))] hs (by kernel_rfl) (by repeat' (first | exact Vk.Calm.post | refine Vk.Calm.then ?_ | refine Vk.Calm.inBlock ?_)) hcl (by kernel_rfl) (by kernel_rfl) (fuel := 12) rfl fun a hs => ?_
      rcases Bool.eq_false_or_eq_true (!x0.dry) with hb | hb
      · replace hm := bif_t hm hb
        replace hs := hs.known (t := 32) hb (by kernel_rfl)
        refine Vk.dPuresT [6, 7, 8, 11, 12, 13] [(40, .pointer (some ⟨b_x0, 1, none⟩)), (39, .pointer (some ⟨b_x0, 0, none⟩)), (38, .pointer (some ⟨b_x0, 0, none⟩)), (35, .pointer (some ⟨b_x0, 10, none⟩)), (34, .pointer (some ⟨b_x0, 0, none⟩)), (33, .pointer (some ⟨b_x0, 0, none⟩))] hs (by kernel_rfl) (by repeat' (first | exact Vk.Calm.post | refine Vk.Calm.then ?_ | refine Vk.Calm.inBlock ?_)) hcl (by kernel_rfl) (by kernel_rfl) (fuel := 6) rfl fun a hs => ?_
        refine Vk.dTakeT (i := 9) (some 36) (.slice A_x0oops x0.ops.length c_x0oops) hs (by kernel_rfl) (by repeat' (first | exact Vk.Calm.post | refine Vk.Calm.then ?_ | refine Vk.Calm.inBlock ?_)) hcl (by kernel_rfl) (by kernel_rfl) (op := (.load 69 (.tmp 35))) (by kernel_rfl) (by kernel_rfl) (fun w hw o ho => by rw [hC_23] at hw; exact run_load1 (b := b_x0) (off := 10) (c := C.slc A_x0oops x0.ops.length c_x0oops) ho (by kernel_rfl) (by kernel_rfl) (Cell.own 0 rfl (by kernel_rfl)) _ hw) fun a hs => ?_
        refine Vk.dPuresT [10] [(37, .int .i64 ((x0.ops.length : Nat) : Int))] hs (by kernel_rfl) (by repeat' (first | exact Vk.Calm.post | refine Vk.Calm.then ?_ | refine Vk.Calm.inBlock ?_)) hcl (by kernel_rfl) (by kernel_rfl) (fuel := 4) rfl fun a hs => ?_
        refine Vk.dTakeT (i := 14) (some 41) (.int .i64 x0.most) hs (by kernel_rfl) (by repeat' (first | exact Vk.Calm.post | refine Vk.Calm.then ?_ | refine Vk.Calm.inBlock ?_)) hcl (by kernel_rfl) (by kernel_rfl) (op := (.load 3 (.tmp 40))) (by kernel_rfl) (by kernel_rfl) (fun w hw o ho => by rw [hC_23] at hw; exact run_load1 (b := b_x0) (off := 1) (c := C.int .i64 x0.most) ho (by kernel_rfl) (by kernel_rfl) (Cell.own 0 rfl (by kernel_rfl)) _ hw) fun a hs => ?_
        refine Vk.dPuresT [15, 16, 17] [(26, .bool (decide (((x0.ops.length : Nat) : Int) ≥ x0.most))), (43, .bool (decide (((x0.ops.length : Nat) : Int) ≥ x0.most))), (42, .bool (decide (((x0.ops.length : Nat) : Int) ≥ x0.most)))] hs (by kernel_rfl) (by repeat' (first | exact Vk.Calm.post | refine Vk.Calm.then ?_ | refine Vk.Calm.inBlock ?_)) hcl (by kernel_rfl) (by kernel_rfl) (fuel := 0) rfl fun a hs => ?_
        replace hs := hs.pick [0, 2, 4, 26] (L' := [(0, .pointer (some ⟨b_x0, 0, none⟩)), (2, .int .u64 x2), (4, .pointer (some ⟨b_2, 0, none⟩)), (26, .bool (decide (((x0.ops.length : Nat) : Int) ≥ x0.most)))]) (by kernel_rfl)
        refine Vk.dDone (by kernel_rfl) ?_
        exact hj22 (decide (((x0.ops.length : Nat) : Int) ≥ x0.most)) hm _ _ (hs.go [0, 2, 4, 26] [0, 1, 2, 3, 4, 5, 6] 7 (by kernel_rfl) (by kernel_rfl) (by kernel_rfl))
      · replace hm := bif_f hm hb
        replace hs := hs.known (t := 32) hb (by kernel_rfl)
        refine Vk.dPuresT [6, 7, 8, 9, 10, 11, 12, 13, 14, 15, 16, 17] [(26, .bool false), (43, .bool false), (42, undef), (41, undef), (40, undef), (39, undef), (38, undef), (37, undef), (36, undef), (35, undef), (34, undef), (33, undef)] hs (by kernel_rfl) (by repeat' (first | exact Vk.Calm.post | refine Vk.Calm.then ?_ | refine Vk.Calm.inBlock ?_)) hcl (by kernel_rfl) (by kernel_rfl) (fuel := 0) rfl fun a hs => ?_
        replace hs := hs.pick [0, 2, 4, 26] (L' := [(0, .pointer (some ⟨b_x0, 0, none⟩)), (2, .int .u64 x2), (4, .pointer (some ⟨b_2, 0, none⟩)), (26, .bool false)]) (by kernel_rfl)
        refine Vk.dDone (by kernel_rfl) ?_
        exact hj22 false hm _ _ (hs.go [0, 2, 4, 26] [0, 1, 2, 3, 4, 5, 6] 7 (by kernel_rfl) (by kernel_rfl) (by kernel_rfl))


abbrev wire_Machine_Key.R (κ : Ctx) (S : List HP) (x0 : Twire_Machine) (x1 : Int) (x2 : Int) (x3 : Int) (b_x0 : Nat) (b_x0otape : Nat) (A_x0otapeowords : Option Addr) (c_x0otapeowords : Nat) (A_x0oops : Option Addr) (c_x0oops : Nat) (A_x0ovalues : Option Addr) (c_x0ovalues : Nat) (A_x0oblocks : Option Addr) (c_x0oblocks : Nat) (r : (Int × Twire_Machine)) : Ending → World → Prop := fun e w' => ∃ (A_y0otapeowords : Option Addr), ∃ (c_y0otapeowords : Nat), ∃ (A_y0oops : Option Addr), ∃ (c_y0oops : Nat), ∃ (A_y0ovalues : Option Addr), ∃ (c_y0ovalues : Nat), ∃ (A_y0oblocks : Option Addr), ∃ (c_y0oblocks : Nat), e = .returned (.int .i64 r.1) ∧ Own κ w' (pt b_x0 (blk (Twire_Machine.obj r.2 b_x0otape A_y0oops c_y0oops A_y0ovalues c_y0ovalues A_y0oblocks c_y0oblocks) 151) :: pt b_x0otape (blk (Ttape_Tape.obj r.2.tape A_y0otapeowords c_y0otapeowords) 158) :: rowp A_y0otapeowords c_y0otapeowords 23 1 (eI .u64) r.2.tape.words :: rowp A_y0oops c_y0oops 32 6 Tapi_Op.cells r.2.ops :: rowp A_y0ovalues c_y0ovalues 23 1 (eI .u64) r.2.values :: rowp A_y0oblocks c_y0oblocks 144 3 Tapi_Span.cells r.2.blocks :: S)
def wire_Machine_Key.m (k : Nat) (x0 : Twire_Machine) (x1 : Int) (x2 : Int) (x3 : Int) : Option (Int × Twire_Machine) := (wire_Machine_next.m k x0).bind fun v_5 => (wire_Machine_Do.m k x0 (⟨2, 0, x2, x3, (-1), v_5⟩ : Tapi_Op) x1).bind fun v_8 => some (v_8.1, v_8.2)

set_option maxRecDepth 100000 in
set_option maxHeartbeats 4000000 in
theorem wire_Machine_Key.ok (k : Nat) (x0 : Twire_Machine) (x1 : Int) (x2 : Int) (x3 : Int) (r : (Int × Twire_Machine)) (hm : wire_Machine_Key.m k x0 x1 x2 x3 = some r) (κ : Ctx) (w : World) (S : List HP) (b_x0 : Nat) (b_x0otape : Nat) (A_x0otapeowords : Option Addr) (c_x0otapeowords : Nat) (A_x0oops : Option Addr) (c_x0oops : Nat) (A_x0ovalues : Option Addr) (c_x0ovalues : Nat) (A_x0oblocks : Option Addr) (c_x0oblocks : Nat) (ho : Own κ w (pt b_x0 (blk (Twire_Machine.obj x0 b_x0otape A_x0oops c_x0oops A_x0ovalues c_x0ovalues A_x0oblocks c_x0oblocks) 151) :: pt b_x0otape (blk (Ttape_Tape.obj x0.tape A_x0otapeowords c_x0otapeowords) 158) :: rowp A_x0otapeowords c_x0otapeowords 23 1 (eI .u64) x0.tape.words :: rowp A_x0oops c_x0oops 32 6 Tapi_Op.cells x0.ops :: rowp A_x0ovalues c_x0ovalues 23 1 (eI .u64) x0.values :: rowp A_x0oblocks c_x0oblocks 144 3 Tapi_Span.cells x0.blocks :: S)) :
    Calls Try.prog 59 #[.pointer (some ⟨b_x0, 0, none⟩), .int .u64 x1, .int .i64 x2, .int .i64 x3] w (wire_Machine_Key.R κ S x0 x1 x2 x3 b_x0 b_x0otape A_x0otapeowords c_x0otapeowords A_x0oops c_x0oops A_x0ovalues c_x0ovalues A_x0oblocks c_x0oblocks r) := by
  unfold wire_Machine_Key.m at hm
  refine Vk.enter [(0, .pointer (some ⟨b_x0, 0, none⟩)), (1, .int .u64 x1), (2, .int .i64 x2), (3, .int .i64 x3)] Try.func59 rfl Try.ntmps59 (by kernel_rfl) (Nat.le_of_ble_eq_true (by kernel_rfl)) ho fun a hs => ?_
  refine Vk.seq fun K1 hK1 => ?_
  refine Vk.region ?_
  refine Vk.pures 1 [(8, .int .i64 0)] hs (by kernel_rfl) fun a hs => ?_
  replace hs := hs.pick [0, 1, 2, 3] (L' := [(0, .pointer (some ⟨b_x0, 0, none⟩)), (1, .int .u64 x1), (2, .int .i64 x2), (3, .int .i64 x3)]) (by kernel_rfl)
  refine Vk.done (by kernel_rfl) ?_
  refine hK1 _ _ ?_
  clear hK1
  refine Vk.seq fun K2 hK2 => ?_
  refine Vk.region ?_
  refine Vk.pures 4 [(12, .pointer (some ⟨b_x0, 0, none⟩)), (11, .int .i64 x3), (10, .int .i64 x2), (9, .pointer (some ⟨b_x0, 0, none⟩))] hs (by kernel_rfl) fun a hs => ?_
  obtain ⟨v_5, h_4, hm⟩ := bind_t hm
  refine Vk.step (Vk.call (some 13) 92 #[.pointer (some ⟨b_x0, 0, none⟩)] hs (by kernel_rfl) (by kernel_rfl) (by kernel_rfl) ?_)
  refine (wire_Machine_next.ok k x0 v_5 h_4 κ w (S) b_x0 b_x0otape A_x0otapeowords c_x0otapeowords A_x0oops c_x0oops A_x0ovalues c_x0ovalues A_x0oblocks c_x0oblocks (Own.to hs.own [0, 1, 2, 3, 4, 5] 6 (by kernel_rfl) (by kernel_rfl))).mono ?_
  rintro _ w ⟨rfl, how⟩
  refine ⟨_, _, _, rfl, how, fun a hs => ?_⟩
  refine Vk.pures 2 [(15, .int .u64 x1), (14, .agg (vals [C.int .i64 2, C.int .i64 0, C.int .i64 x2, C.int .i64 x3, C.int .i64 (-1), C.int .u64 v_5]))] hs (by kernel_rfl) fun a hs => ?_
  obtain ⟨v_8, h_7, hm⟩ := bind_t hm
  refine Vk.step (Vk.call (some 16) 60 #[.pointer (some ⟨b_x0, 0, none⟩), .agg (vals [C.int .i64 2, C.int .i64 0, C.int .i64 x2, C.int .i64 x3, C.int .i64 (-1), C.int .u64 v_5]), .int .u64 x1] hs (by kernel_rfl) (by kernel_rfl) (by kernel_rfl) ?_)
  refine (wire_Machine_Do.ok k x0 (⟨2, 0, x2, x3, (-1), v_5⟩ : Tapi_Op) x1 v_8 h_7 κ w (S) b_x0 b_x0otape A_x0otapeowords c_x0otapeowords A_x0oops c_x0oops A_x0ovalues c_x0ovalues A_x0oblocks c_x0oblocks (Own.to hs.own [0, 1, 2, 3, 4, 5] 6 (by kernel_rfl) (by kernel_rfl))).mono ?_
  rintro _ w ⟨Ar6o0otapeowords_9, cr6o0otapeowords_10, Ar6o0oops_11, cr6o0oops_12, Ar6o0ovalues_13, cr6o0ovalues_14, Ar6o0oblocks_15, cr6o0oblocks_16, rfl, how⟩
  refine ⟨_, _, _, rfl, how, fun a hs => ?_⟩
  refine Vk.pures 1 [(8, .int .i64 v_8.1)] hs (by kernel_rfl) fun a hs => ?_
  replace hs := hs.pick [8] (L' := [(8, .int .i64 v_8.1)]) (by kernel_rfl)
  refine Vk.done (by kernel_rfl) ?_
  refine hK2 _ _ ?_
  clear hK2
  refine wp_ret ?_
  exact Vk.ret1 (P := Try.prog) (fn := Try.f59) (R := wire_Machine_Key.R κ S x0 x1 x2 x3 b_x0 b_x0otape A_x0otapeowords c_x0otapeowords A_x0oops c_x0oops A_x0ovalues c_x0ovalues A_x0oblocks c_x0oblocks r) (.int .i64 v_8.1) hs rfl (by kernel_rfl) (by obtain rfl := Option.some.inj hm; exact ⟨Ar6o0otapeowords_9, cr6o0otapeowords_10, Ar6o0oops_11, cr6o0oops_12, Ar6o0ovalues_13, cr6o0ovalues_14, Ar6o0oblocks_15, cr6o0oblocks_16, rfl, (Own.to hs.own [0, 1, 2, 3, 4, 5] 6 (by kernel_rfl) (by kernel_rfl))⟩)


abbrev wire_Machine_Rand.R (κ : Ctx) (S : List HP) (x0 : Twire_Machine) (x1 : Int) (b_x0 : Nat) (b_x0otape : Nat) (A_x0otapeowords : Option Addr) (c_x0otapeowords : Nat) (A_x0oops : Option Addr) (c_x0oops : Nat) (A_x0ovalues : Option Addr) (c_x0ovalues : Nat) (A_x0oblocks : Option Addr) (c_x0oblocks : Nat) (r : (Int × Twire_Machine)) : Ending → World → Prop := fun e w' => ∃ (A_y0otapeowords : Option Addr), ∃ (c_y0otapeowords : Nat), ∃ (A_y0oops : Option Addr), ∃ (c_y0oops : Nat), ∃ (A_y0ovalues : Option Addr), ∃ (c_y0ovalues : Nat), ∃ (A_y0oblocks : Option Addr), ∃ (c_y0oblocks : Nat), e = .returned (.int .i64 r.1) ∧ Own κ w' (pt b_x0 (blk (Twire_Machine.obj r.2 b_x0otape A_y0oops c_y0oops A_y0ovalues c_y0ovalues A_y0oblocks c_y0oblocks) 151) :: pt b_x0otape (blk (Ttape_Tape.obj r.2.tape A_y0otapeowords c_y0otapeowords) 158) :: rowp A_y0otapeowords c_y0otapeowords 23 1 (eI .u64) r.2.tape.words :: rowp A_y0oops c_y0oops 32 6 Tapi_Op.cells r.2.ops :: rowp A_y0ovalues c_y0ovalues 23 1 (eI .u64) r.2.values :: rowp A_y0oblocks c_y0oblocks 144 3 Tapi_Span.cells r.2.blocks :: S)
def wire_Machine_Rand.m (k : Nat) (x0 : Twire_Machine) (x1 : Int) : Option (Int × Twire_Machine) := (wire_Machine_Do.m k x0 (⟨1, x1, (-1), (-1), (-1), 0⟩ : Tapi_Op) 0).bind fun v_5 => some (v_5.1, v_5.2)

set_option maxRecDepth 100000 in
set_option maxHeartbeats 4000000 in
theorem wire_Machine_Rand.ok (k : Nat) (x0 : Twire_Machine) (x1 : Int) (r : (Int × Twire_Machine)) (hm : wire_Machine_Rand.m k x0 x1 = some r) (κ : Ctx) (w : World) (S : List HP) (b_x0 : Nat) (b_x0otape : Nat) (A_x0otapeowords : Option Addr) (c_x0otapeowords : Nat) (A_x0oops : Option Addr) (c_x0oops : Nat) (A_x0ovalues : Option Addr) (c_x0ovalues : Nat) (A_x0oblocks : Option Addr) (c_x0oblocks : Nat) (ho : Own κ w (pt b_x0 (blk (Twire_Machine.obj x0 b_x0otape A_x0oops c_x0oops A_x0ovalues c_x0ovalues A_x0oblocks c_x0oblocks) 151) :: pt b_x0otape (blk (Ttape_Tape.obj x0.tape A_x0otapeowords c_x0otapeowords) 158) :: rowp A_x0otapeowords c_x0otapeowords 23 1 (eI .u64) x0.tape.words :: rowp A_x0oops c_x0oops 32 6 Tapi_Op.cells x0.ops :: rowp A_x0ovalues c_x0ovalues 23 1 (eI .u64) x0.values :: rowp A_x0oblocks c_x0oblocks 144 3 Tapi_Span.cells x0.blocks :: S)) :
    Calls Try.prog 89 #[.pointer (some ⟨b_x0, 0, none⟩), .int .i64 x1] w (wire_Machine_Rand.R κ S x0 x1 b_x0 b_x0otape A_x0otapeowords c_x0otapeowords A_x0oops c_x0oops A_x0ovalues c_x0ovalues A_x0oblocks c_x0oblocks r) := by
  unfold wire_Machine_Rand.m at hm
  refine Vk.enter [(0, .pointer (some ⟨b_x0, 0, none⟩)), (1, .int .i64 x1)] Try.func89 rfl Try.ntmps89 (by kernel_rfl) (Nat.le_of_ble_eq_true (by kernel_rfl)) ho fun a hs => ?_
  refine Vk.seq fun K1 hK1 => ?_
  refine Vk.region ?_
  refine Vk.pures 1 [(4, .int .i64 0)] hs (by kernel_rfl) fun a hs => ?_
  replace hs := hs.pick [0, 1] (L' := [(0, .pointer (some ⟨b_x0, 0, none⟩)), (1, .int .i64 x1)]) (by kernel_rfl)
  refine Vk.done (by kernel_rfl) ?_
  refine hK1 _ _ ?_
  clear hK1
  refine Vk.seq fun K2 hK2 => ?_
  refine Vk.region ?_
  refine Vk.pures 3 [(7, .agg (vals [C.int .i64 1, C.int .i64 x1, C.int .i64 (-1), C.int .i64 (-1), C.int .i64 (-1), C.int .u64 0])), (6, .int .i64 x1), (5, .pointer (some ⟨b_x0, 0, none⟩))] hs (by kernel_rfl) fun a hs => ?_
  obtain ⟨v_5, h_4, hm⟩ := bind_t hm
  refine Vk.step (Vk.call (some 8) 60 #[.pointer (some ⟨b_x0, 0, none⟩), .agg (vals [C.int .i64 1, C.int .i64 x1, C.int .i64 (-1), C.int .i64 (-1), C.int .i64 (-1), C.int .u64 0]), .int .u64 0] hs (by kernel_rfl) (by kernel_rfl) (by kernel_rfl) ?_)
  refine (wire_Machine_Do.ok k x0 (⟨1, x1, (-1), (-1), (-1), 0⟩ : Tapi_Op) 0 v_5 h_4 κ w (S) b_x0 b_x0otape A_x0otapeowords c_x0otapeowords A_x0oops c_x0oops A_x0ovalues c_x0ovalues A_x0oblocks c_x0oblocks (Own.to hs.own [0, 1, 2, 3, 4, 5] 6 (by kernel_rfl) (by kernel_rfl))).mono ?_
  rintro _ w ⟨Ar3o0otapeowords_6, cr3o0otapeowords_7, Ar3o0oops_8, cr3o0oops_9, Ar3o0ovalues_10, cr3o0ovalues_11, Ar3o0oblocks_12, cr3o0oblocks_13, rfl, how⟩
  refine ⟨_, _, _, rfl, how, fun a hs => ?_⟩
  refine Vk.pures 1 [(4, .int .i64 v_5.1)] hs (by kernel_rfl) fun a hs => ?_
  replace hs := hs.pick [4] (L' := [(4, .int .i64 v_5.1)]) (by kernel_rfl)
  refine Vk.done (by kernel_rfl) ?_
  refine hK2 _ _ ?_
  clear hK2
  refine wp_ret ?_
  exact Vk.ret1 (P := Try.prog) (fn := Try.f89) (R := wire_Machine_Rand.R κ S x0 x1 b_x0 b_x0otape A_x0otapeowords c_x0otapeowords A_x0oops c_x0oops A_x0ovalues c_x0ovalues A_x0oblocks c_x0oblocks r) (.int .i64 v_5.1) hs rfl (by kernel_rfl) (by obtain rfl := Option.some.inj hm; exact ⟨Ar3o0otapeowords_6, cr3o0otapeowords_7, Ar3o0oops_8, cr3o0oops_9, Ar3o0ovalues_10, cr3o0ovalues_11, Ar3o0oblocks_12, cr3o0oblocks_13, rfl, (Own.to hs.own [0, 1, 2, 3, 4, 5] 6 (by kernel_rfl) (by kernel_rfl))⟩)


abbrev wire_Machine_Begin.R (κ : Ctx) (S : List HP) (x0 : Twire_Machine) (x1 : Int) (b_x0 : Nat) (b_x0otape : Nat) (A_x0otapeowords : Option Addr) (c_x0otapeowords : Nat) (A_x0oops : Option Addr) (c_x0oops : Nat) (A_x0ovalues : Option Addr) (c_x0ovalues : Nat) (A_x0oblocks : Option Addr) (c_x0oblocks : Nat) (r : Twire_Machine) : Ending → World → Prop := fun e w' => ∃ (A_y0otapeowords : Option Addr), ∃ (c_y0otapeowords : Nat), ∃ (A_y0oops : Option Addr), ∃ (c_y0oops : Nat), ∃ (A_y0ovalues : Option Addr), ∃ (c_y0ovalues : Nat), ∃ (A_y0oblocks : Option Addr), ∃ (c_y0oblocks : Nat), e = .returned (.tuple #[]) ∧ Own κ w' (pt b_x0 (blk (Twire_Machine.obj r b_x0otape A_y0oops c_y0oops A_y0ovalues c_y0ovalues A_y0oblocks c_y0oblocks) 151) :: pt b_x0otape (blk (Ttape_Tape.obj r.tape A_y0otapeowords c_y0otapeowords) 158) :: rowp A_y0otapeowords c_y0otapeowords 23 1 (eI .u64) r.tape.words :: rowp A_y0oops c_y0oops 32 6 Tapi_Op.cells r.ops :: rowp A_y0ovalues c_y0ovalues 23 1 (eI .u64) r.values :: rowp A_y0oblocks c_y0oblocks 144 3 Tapi_Span.cells r.blocks :: S)
def wire_Machine_Begin.m (k : Nat) (x0 : Twire_Machine) (x1 : Int) : Option Twire_Machine := (bif x0.bad != 0 then some x0 else (bif ((x0.openF != 0) || (decide (x1 < 1))) || (decide (x1 > 3)) then (wire_Machine_fail.m k x0 1).bind fun v_9 => some v_9.2 else (wire_Machine_Len.m k x0).bind fun v_20 => some (⟨x0.n, x0.most, x0.base, x0.words, x0.draws, x0.dry, x1, v_20, x0.bad, x0.tape, x0.ops, x0.values, x0.blocks⟩ : Twire_Machine)))

set_option maxRecDepth 100000 in
set_option maxHeartbeats 4000000 in
theorem wire_Machine_Begin.ok (k : Nat) (x0 : Twire_Machine) (x1 : Int) (r : Twire_Machine) (hm : wire_Machine_Begin.m k x0 x1 = some r) (κ : Ctx) (w : World) (S : List HP) (b_x0 : Nat) (b_x0otape : Nat) (A_x0otapeowords : Option Addr) (c_x0otapeowords : Nat) (A_x0oops : Option Addr) (c_x0oops : Nat) (A_x0ovalues : Option Addr) (c_x0ovalues : Nat) (A_x0oblocks : Option Addr) (c_x0oblocks : Nat) (ho : Own κ w (pt b_x0 (blk (Twire_Machine.obj x0 b_x0otape A_x0oops c_x0oops A_x0ovalues c_x0ovalues A_x0oblocks c_x0oblocks) 151) :: pt b_x0otape (blk (Ttape_Tape.obj x0.tape A_x0otapeowords c_x0otapeowords) 158) :: rowp A_x0otapeowords c_x0otapeowords 23 1 (eI .u64) x0.tape.words :: rowp A_x0oops c_x0oops 32 6 Tapi_Op.cells x0.ops :: rowp A_x0ovalues c_x0ovalues 23 1 (eI .u64) x0.values :: rowp A_x0oblocks c_x0oblocks 144 3 Tapi_Span.cells x0.blocks :: S)) :
    Calls Try.prog 61 #[.pointer (some ⟨b_x0, 0, none⟩), .int .i64 x1] w (wire_Machine_Begin.R κ S x0 x1 b_x0 b_x0otape A_x0otapeowords c_x0otapeowords A_x0oops c_x0oops A_x0ovalues c_x0ovalues A_x0oblocks c_x0oblocks r) := by
  unfold wire_Machine_Begin.m at hm
  refine Vk.enter [(0, .pointer (some ⟨b_x0, 0, none⟩)), (1, .int .i64 x1)] Try.func61 rfl Try.ntmps61 (by kernel_rfl) (Nat.le_of_ble_eq_true (by kernel_rfl)) ho fun a hs => ?_
  refine Vk.seq fun K1 hK1 => ?_
  refine wp_block ?_
  refine Vk.seq fun K2 hK2 => ?_
  refine Vk.region ?_
  refine Vk.pures 6 [(10, .pointer (some ⟨b_x0, 8, none⟩)), (9, .pointer (some ⟨b_x0, 0, none⟩)), (8, .pointer (some ⟨b_x0, 0, none⟩)), (7, .bool false), (6, .bool false), (5, .pointer (some ⟨b_x0, 0, none⟩))] hs (by kernel_rfl) fun a hs => ?_
  refine Vk.step (Vk.value (some 11) (.int .i64 x0.bad) hs (by kernel_rfl) (op := (.load 43 (.tmp 10))) (by kernel_rfl) (fun o ho => run_load1 (b := b_x0) (off := 8) (c := C.int .i64 x0.bad) ho (by kernel_rfl) (by kernel_rfl) (Cell.own 0 rfl (by kernel_rfl)) _ hs.own) fun a hs => ?_)
  refine Vk.pures 3 [(4, .bool (x0.bad != 0)), (13, .bool (x0.bad != 0)), (12, .bool (x0.bad != 0))] hs (by kernel_rfl) fun a hs => ?_
  replace hs := hs.pick [0, 1, 4] (L' := [(0, .pointer (some ⟨b_x0, 0, none⟩)), (1, .int .i64 x1), (4, .bool (x0.bad != 0))]) (by kernel_rfl)
  refine Vk.done (by kernel_rfl) ?_
  refine hK2 _ _ ?_
  clear hK2
  refine Vk.condS (b := x0.bad != 0) hs (by kernel_rfl) (by kernel_rfl) (fun hb => ?_) (fun hb => ?_)
  · replace hm := bif_t hm hb
    refine wp_ret ?_
    exact Vk.ret0 (P := Try.prog) (fn := Try.f61) (R := wire_Machine_Begin.R κ S x0 x1 b_x0 b_x0otape A_x0otapeowords c_x0otapeowords A_x0oops c_x0oops A_x0ovalues c_x0ovalues A_x0oblocks c_x0oblocks r) hs rfl (by obtain rfl := Option.some.inj hm; exact ⟨A_x0otapeowords, c_x0otapeowords, A_x0oops, c_x0oops, A_x0ovalues, c_x0ovalues, A_x0oblocks, c_x0oblocks, rfl, (Own.to hs.own [0, 1, 2, 3, 4, 5] 6 (by kernel_rfl) (by kernel_rfl))⟩)
  · replace hm := bif_f hm hb
    refine Vk.seq fun K3 hK3 => ?_
    refine Vk.region ?_
    refine Vk.pures 3 [(17, .pointer (some ⟨b_x0, 6, none⟩)), (16, .pointer (some ⟨b_x0, 0, none⟩)), (15, .pointer (some ⟨b_x0, 0, none⟩))] hs (by kernel_rfl) fun a hs => ?_
    refine Vk.step (Vk.value (some 18) (.int .i64 x0.openF) hs (by kernel_rfl) (op := (.load 3 (.tmp 17))) (by kernel_rfl) (fun o ho => run_load1 (b := b_x0) (off := 6) (c := C.int .i64 x0.openF) ho (by kernel_rfl) (by kernel_rfl) (Cell.own 0 rfl (by kernel_rfl)) _ hs.own) fun a hs => ?_)
    refine Vk.pures 2 [(20, .bool (x0.openF != 0)), (19, .bool (x0.openF != 0))] hs (by kernel_rfl) fun a hs => ?_
    suffices hj_4 : ∀ a, St 39 a w κ [(0, .pointer (some ⟨b_x0, 0, none⟩)), (1, .int .i64 x1), (4, .bool (x0.bad != 0)), (15, .pointer (some ⟨b_x0, 0, none⟩)), (16, .pointer (some ⟨b_x0, 0, none⟩)), (17, .pointer (some ⟨b_x0, 6, none⟩)), (18, .int .i64 x0.openF), (19, .bool (x0.openF != 0)), (20, .bool (x0.openF != 0)), (23, .bool ((x0.openF != 0) || (decide (x1 < 1))))] (pt b_x0 (blk (Twire_Machine.obj x0 b_x0otape A_x0oops c_x0oops A_x0ovalues c_x0ovalues A_x0oblocks c_x0oblocks) 151) :: pt b_x0otape (blk (Ttape_Tape.obj x0.tape A_x0otapeowords c_x0otapeowords) 158) :: rowp A_x0otapeowords c_x0otapeowords 23 1 (eI .u64) x0.tape.words :: rowp A_x0oops c_x0oops 32 6 Tapi_Op.cells x0.ops :: rowp A_x0ovalues c_x0ovalues 23 1 (eI .u64) x0.values :: rowp A_x0oblocks c_x0oblocks 144 3 Tapi_Span.cells x0.blocks :: S) → wpFrom Try.prog _ _ 9 a w by
      rcases Bool.eq_false_or_eq_true (x0.openF != 0) with hb | hb
      · replace hs := hs.known (t := 20) hb (by kernel_rfl)
        refine Vk.pures 3 [(23, .bool true), (22, undef), (21, undef)] hs (by kernel_rfl) fun a hs => ?_
        have hq := hs.pick [0, 1, 4, 15, 16, 17, 18, 19, 20, 23] (L' := [(0, .pointer (some ⟨b_x0, 0, none⟩)), (1, .int .i64 x1), (4, .bool (x0.bad != 0)), (15, .pointer (some ⟨b_x0, 0, none⟩)), (16, .pointer (some ⟨b_x0, 0, none⟩)), (17, .pointer (some ⟨b_x0, 6, none⟩)), (18, .int .i64 x0.openF), (19, .bool (x0.openF != 0)), (20, .bool true), (23, .bool true)]) (by kernel_rfl)
        exact hj_4 _ (hq.conv (by first | (rw [hb] <;> rfl) | rfl))
      · replace hs := hs.known (t := 20) hb (by kernel_rfl)
        refine Vk.pures 3 [(23, .bool (decide (x1 < 1))), (22, .bool (decide (x1 < 1))), (21, .int .i64 x1)] hs (by kernel_rfl) fun a hs => ?_
        have hq := hs.pick [0, 1, 4, 15, 16, 17, 18, 19, 20, 23] (L' := [(0, .pointer (some ⟨b_x0, 0, none⟩)), (1, .int .i64 x1), (4, .bool (x0.bad != 0)), (15, .pointer (some ⟨b_x0, 0, none⟩)), (16, .pointer (some ⟨b_x0, 0, none⟩)), (17, .pointer (some ⟨b_x0, 6, none⟩)), (18, .int .i64 x0.openF), (19, .bool (x0.openF != 0)), (20, .bool false), (23, .bool (decide (x1 < 1)))]) (by kernel_rfl)
        exact hj_4 _ (hq.conv (by first | (rw [hb] <;> rfl) | rfl))
    intro a hs
    refine Vk.pures 1 [(24, .bool ((x0.openF != 0) || (decide (x1 < 1))))] hs (by kernel_rfl) fun a hs => ?_
    suffices hj_5 : ∀ a, St 39 a w κ [(0, .pointer (some ⟨b_x0, 0, none⟩)), (1, .int .i64 x1), (4, .bool (x0.bad != 0)), (15, .pointer (some ⟨b_x0, 0, none⟩)), (16, .pointer (some ⟨b_x0, 0, none⟩)), (17, .pointer (some ⟨b_x0, 6, none⟩)), (18, .int .i64 x0.openF), (19, .bool (x0.openF != 0)), (20, .bool (x0.openF != 0)), (23, .bool ((x0.openF != 0) || (decide (x1 < 1)))), (24, .bool ((x0.openF != 0) || (decide (x1 < 1)))), (27, .bool (((x0.openF != 0) || (decide (x1 < 1))) || (decide (x1 > 3))))] (pt b_x0 (blk (Twire_Machine.obj x0 b_x0otape A_x0oops c_x0oops A_x0ovalues c_x0ovalues A_x0oblocks c_x0oblocks) 151) :: pt b_x0otape (blk (Ttape_Tape.obj x0.tape A_x0otapeowords c_x0otapeowords) 158) :: rowp A_x0otapeowords c_x0otapeowords 23 1 (eI .u64) x0.tape.words :: rowp A_x0oops c_x0oops 32 6 Tapi_Op.cells x0.ops :: rowp A_x0ovalues c_x0ovalues 23 1 (eI .u64) x0.values :: rowp A_x0oblocks c_x0oblocks 144 3 Tapi_Span.cells x0.blocks :: S) → wpFrom Try.prog _ _ 13 a w by
      rcases Bool.eq_false_or_eq_true ((x0.openF != 0) || (decide (x1 < 1))) with hb | hb
      · replace hs := hs.known (t := 24) hb (by kernel_rfl)
        refine Vk.pures 3 [(27, .bool true), (26, undef), (25, undef)] hs (by kernel_rfl) fun a hs => ?_
        have hq := hs.pick [0, 1, 4, 15, 16, 17, 18, 19, 20, 23, 24, 27] (L' := [(0, .pointer (some ⟨b_x0, 0, none⟩)), (1, .int .i64 x1), (4, .bool (x0.bad != 0)), (15, .pointer (some ⟨b_x0, 0, none⟩)), (16, .pointer (some ⟨b_x0, 0, none⟩)), (17, .pointer (some ⟨b_x0, 6, none⟩)), (18, .int .i64 x0.openF), (19, .bool (x0.openF != 0)), (20, .bool (x0.openF != 0)), (23, .bool ((x0.openF != 0) || (decide (x1 < 1)))), (24, .bool true), (27, .bool true)]) (by kernel_rfl)
        exact hj_5 _ (hq.conv (by first | (rw [hb] <;> rfl) | rfl))
      · replace hs := hs.known (t := 24) hb (by kernel_rfl)
        refine Vk.pures 3 [(27, .bool (decide (x1 > 3))), (26, .bool (decide (x1 > 3))), (25, .int .i64 x1)] hs (by kernel_rfl) fun a hs => ?_
        have hq := hs.pick [0, 1, 4, 15, 16, 17, 18, 19, 20, 23, 24, 27] (L' := [(0, .pointer (some ⟨b_x0, 0, none⟩)), (1, .int .i64 x1), (4, .bool (x0.bad != 0)), (15, .pointer (some ⟨b_x0, 0, none⟩)), (16, .pointer (some ⟨b_x0, 0, none⟩)), (17, .pointer (some ⟨b_x0, 6, none⟩)), (18, .int .i64 x0.openF), (19, .bool (x0.openF != 0)), (20, .bool (x0.openF != 0)), (23, .bool ((x0.openF != 0) || (decide (x1 < 1)))), (24, .bool false), (27, .bool (decide (x1 > 3)))]) (by kernel_rfl)
        exact hj_5 _ (hq.conv (by first | (rw [hb] <;> rfl) | rfl))
    intro a hs
    refine Vk.pures 1 [(14, .bool (((x0.openF != 0) || (decide (x1 < 1))) || (decide (x1 > 3))))] hs (by kernel_rfl) fun a hs => ?_
    replace hs := hs.pick [0, 1, 14] (L' := [(0, .pointer (some ⟨b_x0, 0, none⟩)), (1, .int .i64 x1), (14, .bool (((x0.openF != 0) || (decide (x1 < 1))) || (decide (x1 > 3))))]) (by kernel_rfl)
    refine Vk.done (by kernel_rfl) ?_
    refine hK3 _ _ ?_
    clear hK3
    refine Vk.condS (b := ((x0.openF != 0) || (decide (x1 < 1))) || (decide (x1 > 3))) hs (by kernel_rfl) (by kernel_rfl) (fun hb => ?_) (fun hb => ?_)
    · replace hm := bif_t hm hb
      refine Vk.seq fun K6 hK6 => ?_
      refine Vk.region ?_
      refine Vk.pures 1 [(28, .pointer (some ⟨b_x0, 0, none⟩))] hs (by kernel_rfl) fun a hs => ?_
      obtain ⟨v_9, h_8, hm⟩ := bind_t hm
      refine Vk.step (Vk.call (some 29) 94 #[.pointer (some ⟨b_x0, 0, none⟩), .int .i64 1] hs (by kernel_rfl) (by kernel_rfl) (by kernel_rfl) ?_)
      refine (wire_Machine_fail.ok k x0 1 v_9 h_8 κ w (S) b_x0 b_x0otape A_x0otapeowords c_x0otapeowords A_x0oops c_x0oops A_x0ovalues c_x0ovalues A_x0oblocks c_x0oblocks (Own.to hs.own [0, 1, 2, 3, 4, 5] 6 (by kernel_rfl) (by kernel_rfl))).mono ?_
      rintro _ w ⟨Ar7o0otapeowords_10, cr7o0otapeowords_11, Ar7o0oops_12, cr7o0oops_13, Ar7o0ovalues_14, cr7o0ovalues_15, Ar7o0oblocks_16, cr7o0oblocks_17, rfl, how⟩
      refine ⟨_, _, _, rfl, how, fun a hs => ?_⟩
      replace hs := hs.pick [] (L' := []) (by kernel_rfl)
      refine Vk.done (by kernel_rfl) ?_
      refine hK6 _ _ ?_
      clear hK6
      refine wp_ret ?_
      exact Vk.ret0 (P := Try.prog) (fn := Try.f61) (R := wire_Machine_Begin.R κ S x0 x1 b_x0 b_x0otape A_x0otapeowords c_x0otapeowords A_x0oops c_x0oops A_x0ovalues c_x0ovalues A_x0oblocks c_x0oblocks r) hs rfl (by obtain rfl := Option.some.inj hm; exact ⟨Ar7o0otapeowords_10, cr7o0otapeowords_11, Ar7o0oops_12, cr7o0oops_13, Ar7o0ovalues_14, cr7o0ovalues_15, Ar7o0oblocks_16, cr7o0oblocks_17, rfl, (Own.to hs.own [0, 1, 2, 3, 4, 5] 6 (by kernel_rfl) (by kernel_rfl))⟩)
    · replace hm := bif_f hm hb
      refine wp_skip ?_
      refine hK1 _ _ ?_
      clear hK1
      refine Vk.region ?_
      refine Vk.pures 4 [(33, .pointer (some ⟨b_x0, 0, none⟩)), (32, .int .i64 x1), (31, .pointer (some ⟨b_x0, 0, none⟩)), (30, .pointer (some ⟨b_x0, 0, none⟩))] hs (by kernel_rfl) fun a hs => ?_
      obtain ⟨v_20, h_19, hm⟩ := bind_t hm
      refine Vk.step (Vk.call (some 34) 58 #[.pointer (some ⟨b_x0, 0, none⟩)] hs (by kernel_rfl) (by kernel_rfl) (by kernel_rfl) ?_)
      refine (wire_Machine_Len.ok k x0 v_20 h_19 κ w (S) b_x0 b_x0otape A_x0otapeowords c_x0otapeowords A_x0oops c_x0oops A_x0ovalues c_x0ovalues A_x0oblocks c_x0oblocks (Own.to hs.own [0, 1, 2, 3, 4, 5] 6 (by kernel_rfl) (by kernel_rfl))).mono ?_
      rintro _ w ⟨rfl, how⟩
      refine ⟨_, _, _, rfl, how, fun a hs => ?_⟩
      refine Vk.pures 2 [(36, .pointer (some ⟨b_x0, 6, none⟩)), (35, .pointer (some ⟨b_x0, 0, none⟩))] hs (by kernel_rfl) fun a hs => ?_
      refine Vk.step (Vk.store1 (b := b_x0) (ty := 3) (x := (.tmp 36)) (y := (.tmp 32)) (off := 6) (C.int .i64 x1) 0 hs (by kernel_rfl) (by kernel_rfl) (by kernel_rfl) (by kernel_rfl) (by kernel_rfl) (by kernel_rfl) rfl (Nat.le_of_ble_eq_true (by kernel_rfl)) fun a w hs => ?_)
      refine Vk.pures 2 [(38, .pointer (some ⟨b_x0, 7, none⟩)), (37, .pointer (some ⟨b_x0, 0, none⟩))] hs (by kernel_rfl) fun a hs => ?_
      refine Vk.step (Vk.store1 (b := b_x0) (ty := 3) (x := (.tmp 38)) (y := (.tmp 34)) (off := 7) (C.int .i64 v_20) 0 hs (by kernel_rfl) (by kernel_rfl) (by kernel_rfl) (by kernel_rfl) (by kernel_rfl) (by kernel_rfl) rfl (Nat.le_of_ble_eq_true (by kernel_rfl)) fun a w hs => ?_)
      replace hs := hs.pick [] (L' := []) (by kernel_rfl)
      refine Vk.done (by kernel_rfl) ?_
      exact Vk.end0 (P := Try.prog) (fn := Try.f61) (R := wire_Machine_Begin.R κ S x0 x1 b_x0 b_x0otape A_x0otapeowords c_x0otapeowords A_x0oops c_x0oops A_x0ovalues c_x0ovalues A_x0oblocks c_x0oblocks r) hs rfl (by obtain rfl := Option.some.inj hm; exact ⟨A_x0otapeowords, c_x0otapeowords, A_x0oops, c_x0oops, A_x0ovalues, c_x0ovalues, A_x0oblocks, c_x0oblocks, rfl, (Own.to hs.own [0, 1, 2, 3, 4, 5] 6 (by kernel_rfl) (by kernel_rfl))⟩)


def wire_Machine_End.j2 (k : Nat) (p_32 : Twire_Machine) : Option (Twire_Machine) := some (⟨p_32.n, p_32.most, p_32.base, p_32.words, p_32.draws, p_32.dry, 0, p_32.fromF, p_32.bad, p_32.tape, p_32.ops, p_32.values, p_32.blocks⟩ : Twire_Machine)
def wire_Machine_End.j1 (k : Nat) (x0 : Twire_Machine) (p_22 : Bool) : Option (Twire_Machine) := (bif p_22 then (wire_Machine_Len.m k x0).bind fun v_26 => (if (x0.blocks.length + ([(⟨x0.openF, x0.fromF, v_26⟩ : Tapi_Span)] : List Tapi_Span).length) * 24 ≤ 140737488355328 then wire_Machine_End.j2 k (⟨x0.n, x0.most, x0.base, x0.words, x0.draws, x0.dry, x0.openF, x0.fromF, x0.bad, x0.tape, x0.ops, x0.values, x0.blocks ++ ([(⟨x0.openF, x0.fromF, v_26⟩ : Tapi_Span)] : List Tapi_Span)⟩ : Twire_Machine) else none) else wire_Machine_End.j2 k x0)
abbrev wire_Machine_End.R (κ : Ctx) (S : List HP) (x0 : Twire_Machine) (b_x0 : Nat) (b_x0otape : Nat) (A_x0otapeowords : Option Addr) (c_x0otapeowords : Nat) (A_x0oops : Option Addr) (c_x0oops : Nat) (A_x0ovalues : Option Addr) (c_x0ovalues : Nat) (A_x0oblocks : Option Addr) (c_x0oblocks : Nat) (r : Twire_Machine) : Ending → World → Prop := fun e w' => ∃ (A_y0otapeowords : Option Addr), ∃ (c_y0otapeowords : Nat), ∃ (A_y0oops : Option Addr), ∃ (c_y0oops : Nat), ∃ (A_y0ovalues : Option Addr), ∃ (c_y0ovalues : Nat), ∃ (A_y0oblocks : Option Addr), ∃ (c_y0oblocks : Nat), e = .returned (.tuple #[]) ∧ Own κ w' (pt b_x0 (blk (Twire_Machine.obj r b_x0otape A_y0oops c_y0oops A_y0ovalues c_y0ovalues A_y0oblocks c_y0oblocks) 151) :: pt b_x0otape (blk (Ttape_Tape.obj r.tape A_y0otapeowords c_y0otapeowords) 158) :: rowp A_y0otapeowords c_y0otapeowords 23 1 (eI .u64) r.tape.words :: rowp A_y0oops c_y0oops 32 6 Tapi_Op.cells r.ops :: rowp A_y0ovalues c_y0ovalues 23 1 (eI .u64) r.values :: rowp A_y0oblocks c_y0oblocks 144 3 Tapi_Span.cells r.blocks :: S)
def wire_Machine_End.m (k : Nat) (x0 : Twire_Machine) : Option Twire_Machine := (bif x0.bad != 0 then some x0 else (bif x0.openF == 0 then (wire_Machine_fail.m k x0 1).bind fun v_7 => some v_7.2 else (wire_Machine_Len.m k x0).bind fun v_21 => (bif decide (v_21 > x0.fromF) then wire_Machine_End.j1 k x0 (!x0.dry) else wire_Machine_End.j1 k x0 false)))

set_option maxRecDepth 100000 in
set_option maxHeartbeats 4000000 in
theorem wire_Machine_End.ok (k : Nat) (x0 : Twire_Machine) (r : Twire_Machine) (hm : wire_Machine_End.m k x0 = some r) (κ : Ctx) (w : World) (S : List HP) (b_x0 : Nat) (b_x0otape : Nat) (A_x0otapeowords : Option Addr) (c_x0otapeowords : Nat) (A_x0oops : Option Addr) (c_x0oops : Nat) (A_x0ovalues : Option Addr) (c_x0ovalues : Nat) (A_x0oblocks : Option Addr) (c_x0oblocks : Nat) (ho : Own κ w (pt b_x0 (blk (Twire_Machine.obj x0 b_x0otape A_x0oops c_x0oops A_x0ovalues c_x0ovalues A_x0oblocks c_x0oblocks) 151) :: pt b_x0otape (blk (Ttape_Tape.obj x0.tape A_x0otapeowords c_x0otapeowords) 158) :: rowp A_x0otapeowords c_x0otapeowords 23 1 (eI .u64) x0.tape.words :: rowp A_x0oops c_x0oops 32 6 Tapi_Op.cells x0.ops :: rowp A_x0ovalues c_x0ovalues 23 1 (eI .u64) x0.values :: rowp A_x0oblocks c_x0oblocks 144 3 Tapi_Span.cells x0.blocks :: S)) :
    Calls Try.prog 63 #[.pointer (some ⟨b_x0, 0, none⟩)] w (wire_Machine_End.R κ S x0 b_x0 b_x0otape A_x0otapeowords c_x0otapeowords A_x0oops c_x0oops A_x0ovalues c_x0ovalues A_x0oblocks c_x0oblocks r) := by
  unfold wire_Machine_End.m at hm
  refine Vk.enter [(0, .pointer (some ⟨b_x0, 0, none⟩))] Try.func63 rfl Try.ntmps63 (by kernel_rfl) (Nat.le_of_ble_eq_true (by kernel_rfl)) ho fun a hs => ?_
  refine Vk.seq fun K1 hK1 => ?_
  refine wp_block ?_
  refine Vk.seq fun K2 hK2 => ?_
  refine Vk.region ?_
  refine Vk.pures 6 [(8, .pointer (some ⟨b_x0, 8, none⟩)), (7, .pointer (some ⟨b_x0, 0, none⟩)), (6, .pointer (some ⟨b_x0, 0, none⟩)), (5, .bool false), (4, .bool false), (3, .pointer (some ⟨b_x0, 0, none⟩))] hs (by kernel_rfl) fun a hs => ?_
  refine Vk.step (Vk.value (some 9) (.int .i64 x0.bad) hs (by kernel_rfl) (op := (.load 43 (.tmp 8))) (by kernel_rfl) (fun o ho => run_load1 (b := b_x0) (off := 8) (c := C.int .i64 x0.bad) ho (by kernel_rfl) (by kernel_rfl) (Cell.own 0 rfl (by kernel_rfl)) _ hs.own) fun a hs => ?_)
  refine Vk.pures 3 [(2, .bool (x0.bad != 0)), (11, .bool (x0.bad != 0)), (10, .bool (x0.bad != 0))] hs (by kernel_rfl) fun a hs => ?_
  replace hs := hs.pick [0, 2] (L' := [(0, .pointer (some ⟨b_x0, 0, none⟩)), (2, .bool (x0.bad != 0))]) (by kernel_rfl)
  refine Vk.done (by kernel_rfl) ?_
  refine hK2 _ _ ?_
  clear hK2
  refine Vk.condS (b := x0.bad != 0) hs (by kernel_rfl) (by kernel_rfl) (fun hb => ?_) (fun hb => ?_)
  · replace hm := bif_t hm hb
    refine wp_ret ?_
    exact Vk.ret0 (P := Try.prog) (fn := Try.f63) (R := wire_Machine_End.R κ S x0 b_x0 b_x0otape A_x0otapeowords c_x0otapeowords A_x0oops c_x0oops A_x0ovalues c_x0ovalues A_x0oblocks c_x0oblocks r) hs rfl (by obtain rfl := Option.some.inj hm; exact ⟨A_x0otapeowords, c_x0otapeowords, A_x0oops, c_x0oops, A_x0ovalues, c_x0ovalues, A_x0oblocks, c_x0oblocks, rfl, (Own.to hs.own [0, 1, 2, 3, 4, 5] 6 (by kernel_rfl) (by kernel_rfl))⟩)
  · replace hm := bif_f hm hb
    refine Vk.seq fun K3 hK3 => ?_
    refine Vk.region ?_
    refine Vk.pures 3 [(15, .pointer (some ⟨b_x0, 6, none⟩)), (14, .pointer (some ⟨b_x0, 0, none⟩)), (13, .pointer (some ⟨b_x0, 0, none⟩))] hs (by kernel_rfl) fun a hs => ?_
    refine Vk.step (Vk.value (some 16) (.int .i64 x0.openF) hs (by kernel_rfl) (op := (.load 3 (.tmp 15))) (by kernel_rfl) (fun o ho => run_load1 (b := b_x0) (off := 6) (c := C.int .i64 x0.openF) ho (by kernel_rfl) (by kernel_rfl) (Cell.own 0 rfl (by kernel_rfl)) _ hs.own) fun a hs => ?_)
    refine Vk.pures 2 [(12, .bool (x0.openF == 0)), (17, .bool (x0.openF == 0))] hs (by kernel_rfl) fun a hs => ?_
    replace hs := hs.pick [0, 12] (L' := [(0, .pointer (some ⟨b_x0, 0, none⟩)), (12, .bool (x0.openF == 0))]) (by kernel_rfl)
    refine Vk.done (by kernel_rfl) ?_
    refine hK3 _ _ ?_
    clear hK3
    refine Vk.condS (b := x0.openF == 0) hs (by kernel_rfl) (by kernel_rfl) (fun hb => ?_) (fun hb => ?_)
    · replace hm := bif_t hm hb
      refine Vk.seq fun K4 hK4 => ?_
      refine Vk.region ?_
      refine Vk.pures 1 [(18, .pointer (some ⟨b_x0, 0, none⟩))] hs (by kernel_rfl) fun a hs => ?_
      obtain ⟨v_7, h_6, hm⟩ := bind_t hm
      refine Vk.step (Vk.call (some 19) 94 #[.pointer (some ⟨b_x0, 0, none⟩), .int .i64 1] hs (by kernel_rfl) (by kernel_rfl) (by kernel_rfl) ?_)
      refine (wire_Machine_fail.ok k x0 1 v_7 h_6 κ w (S) b_x0 b_x0otape A_x0otapeowords c_x0otapeowords A_x0oops c_x0oops A_x0ovalues c_x0ovalues A_x0oblocks c_x0oblocks (Own.to hs.own [0, 1, 2, 3, 4, 5] 6 (by kernel_rfl) (by kernel_rfl))).mono ?_
      rintro _ w ⟨Ar5o0otapeowords_8, cr5o0otapeowords_9, Ar5o0oops_10, cr5o0oops_11, Ar5o0ovalues_12, cr5o0ovalues_13, Ar5o0oblocks_14, cr5o0oblocks_15, rfl, how⟩
      refine ⟨_, _, _, rfl, how, fun a hs => ?_⟩
      replace hs := hs.pick [] (L' := []) (by kernel_rfl)
      refine Vk.done (by kernel_rfl) ?_
      refine hK4 _ _ ?_
      clear hK4
      refine wp_ret ?_
      exact Vk.ret0 (P := Try.prog) (fn := Try.f63) (R := wire_Machine_End.R κ S x0 b_x0 b_x0otape A_x0otapeowords c_x0otapeowords A_x0oops c_x0oops A_x0ovalues c_x0ovalues A_x0oblocks c_x0oblocks r) hs rfl (by obtain rfl := Option.some.inj hm; exact ⟨Ar5o0otapeowords_8, cr5o0otapeowords_9, Ar5o0oops_10, cr5o0oops_11, Ar5o0ovalues_12, cr5o0ovalues_13, Ar5o0oblocks_14, cr5o0oblocks_15, rfl, (Own.to hs.own [0, 1, 2, 3, 4, 5] 6 (by kernel_rfl) (by kernel_rfl))⟩)
    · replace hm := bif_f hm hb
      refine wp_skip ?_
      refine hK1 _ _ ?_
      clear hK1
      refine Vk.seq fun K16 hK16 => ?_
      have hj16 : ∀ (p_32 : Twire_Machine), wire_Machine_End.j2 k p_32 = some r → ∀ (A_33 : Option Addr) (c_34 : Nat) (a : Act) (w : World), St 57 a w κ [(0, .pointer (some ⟨b_x0, 0, none⟩))] (pt b_x0 (blk (Twire_Machine.obj p_32 b_x0otape A_x0oops c_x0oops A_x0ovalues c_x0ovalues A_33 c_34) 151) :: pt b_x0otape (blk (Ttape_Tape.obj p_32.tape A_x0otapeowords c_x0otapeowords) 158) :: rowp A_x0otapeowords c_x0otapeowords 23 1 (eI .u64) p_32.tape.words :: rowp A_x0oops c_x0oops 32 6 Tapi_Op.cells p_32.ops :: rowp A_x0ovalues c_x0ovalues 23 1 (eI .u64) p_32.values :: rowp A_33 c_34 144 3 Tapi_Span.cells p_32.blocks :: S) → K16 a w := by
        intro p_32 hm A_33 c_34 a w hs
        unfold wire_Machine_End.j2 at hm
        refine hK16 _ _ ?_
        refine Vk.region ?_
        refine Vk.pures 3 [(56, .pointer (some ⟨b_x0, 6, none⟩)), (55, .pointer (some ⟨b_x0, 0, none⟩)), (54, .pointer (some ⟨b_x0, 0, none⟩))] hs (by kernel_rfl) fun a hs => ?_
        refine Vk.step (Vk.store1 (b := b_x0) (ty := 3) (x := (.tmp 56)) (y := (.const (.int .i64 0))) (off := 6) (C.int .i64 0) 0 hs (by kernel_rfl) (by kernel_rfl) (by kernel_rfl) (by kernel_rfl) (by kernel_rfl) (by kernel_rfl) rfl (Nat.le_of_ble_eq_true (by kernel_rfl)) fun a w hs => ?_)
        replace hs := hs.pick [] (L' := []) (by kernel_rfl)
        refine Vk.done (by kernel_rfl) ?_
        exact Vk.end0 (P := Try.prog) (fn := Try.f63) (R := wire_Machine_End.R κ S x0 b_x0 b_x0otape A_x0otapeowords c_x0otapeowords A_x0oops c_x0oops A_x0ovalues c_x0ovalues A_x0oblocks c_x0oblocks r) hs rfl (by obtain rfl := Option.some.inj hm; exact ⟨A_x0otapeowords, c_x0otapeowords, A_x0oops, c_x0oops, A_x0ovalues, c_x0ovalues, A_33, c_34, rfl, (Own.to hs.own [0, 1, 2, 3, 4, 5] 6 (by kernel_rfl) (by kernel_rfl))⟩)
      refine Vk.seq fun K17 hK17 => ?_
      have hj17 : ∀ (p_22 : Bool), wire_Machine_End.j1 k x0 p_22 = some r → ∀ (a : Act) (w : World), St 57 a w κ [(0, .pointer (some ⟨b_x0, 0, none⟩)), (33, .bool p_22)] (pt b_x0 (blk (Twire_Machine.obj x0 b_x0otape A_x0oops c_x0oops A_x0ovalues c_x0ovalues A_x0oblocks c_x0oblocks) 151) :: pt b_x0otape (blk (Ttape_Tape.obj x0.tape A_x0otapeowords c_x0otapeowords) 158) :: rowp A_x0otapeowords c_x0otapeowords 23 1 (eI .u64) x0.tape.words :: rowp A_x0oops c_x0oops 32 6 Tapi_Op.cells x0.ops :: rowp A_x0ovalues c_x0ovalues 23 1 (eI .u64) x0.values :: rowp A_x0oblocks c_x0oblocks 144 3 Tapi_Span.cells x0.blocks :: S) → K17 a w := by
        intro p_22 hm a w hs
        unfold wire_Machine_End.j1 at hm
        refine hK17 _ _ ?_
        refine Vk.condS (b := p_22) hs (by kernel_rfl) (by kernel_rfl) (fun hb => ?_) (fun hb => ?_)
        · replace hm := bif_t hm hb
          obtain ⟨C_23, hC_23⟩ : ∃ X0 : List HP, X0 = (pt b_x0 (blk (Twire_Machine.obj x0 b_x0otape A_x0oops c_x0oops A_x0ovalues c_x0ovalues A_x0oblocks c_x0oblocks) 151) :: pt b_x0otape (blk (Ttape_Tape.obj x0.tape A_x0otapeowords c_x0otapeowords) 158) :: rowp A_x0otapeowords c_x0otapeowords 23 1 (eI .u64) x0.tape.words :: rowp A_x0oops c_x0oops 32 6 Tapi_Op.cells x0.ops :: rowp A_x0ovalues c_x0ovalues 23 1 (eI .u64) x0.values :: S) := ⟨_, rfl⟩
          refine Vk.drawnT 18 κ C_23 hs (by kernel_rfl) fun w hs => ?_
          have hcz : Own κ w (pt b_x0 (blk (Twire_Machine.obj x0 b_x0otape A_x0oops c_x0oops A_x0ovalues c_x0ovalues A_x0oblocks c_x0oblocks) 151) :: pt b_x0otape (blk (Ttape_Tape.obj x0.tape A_x0otapeowords c_x0otapeowords) 158) :: rowp A_x0otapeowords c_x0otapeowords 23 1 (eI .u64) x0.tape.words :: rowp A_x0oops c_x0oops 32 6 Tapi_Op.cells x0.ops :: rowp A_x0ovalues c_x0ovalues 23 1 (eI .u64) x0.values :: S) := (Own.to hs.own [0, 1, 2, 3, 4] 6 (by kernel_rfl) (by kernel_rfl))
          have hcl : Own κ w C_23 := by rw [hC_23]; exact hcz
          refine Vk.dPuresT [0, 1, 2, 3, 5, 6, 7, 9, 10, 11, 13] [(47, .pointer (some ⟨b_x0, 0, none⟩)), (45, .pointer (some ⟨b_x0, 7, none⟩)), (44, .pointer (some ⟨b_x0, 0, none⟩)), (43, .pointer (some ⟨b_x0, 0, none⟩)), (41, .pointer (some ⟨b_x0, 6, none⟩)), (40, .pointer (some ⟨b_x0, 0, none⟩)), (39, .pointer (some ⟨b_x0, 0, none⟩)), (37, .pointer (some ⟨b_x0, 12, none⟩)), (36, .pointer (some ⟨b_x0, 0, none⟩)), (35, .pointer (some ⟨b_x0, 0, none⟩)), (34, .pointer (some ⟨b_x0, 0, none⟩))] hs (by kernel_rfl) (by repeat' (first | exact Vk.Calm.post | refine Vk.Calm.then ?_ | refine Vk.Calm.inBlock ?_)) hcl (by kernel_rfl) (by kernel_rfl) (fuel := 10) rfl fun a hs => ?_
          refine Vk.dTakeT (i := 4) (some 38) (.slice A_x0oblocks x0.blocks.length c_x0oblocks) hs (by kernel_rfl) (by repeat' (first | exact Vk.Calm.post | refine Vk.Calm.then ?_ | refine Vk.Calm.inBlock ?_)) hcl (by kernel_rfl) (by kernel_rfl) (op := (.load 70 (.tmp 37))) (by kernel_rfl) (by kernel_rfl) (fun w hw o ho => by rw [hC_23] at hw; exact run_load1 (b := b_x0) (off := 12) (c := C.slc A_x0oblocks x0.blocks.length c_x0oblocks) ho (by kernel_rfl) (by kernel_rfl) (Cell.own 0 rfl (by kernel_rfl)) _ hw) fun a hs => ?_
          refine Vk.dTakeT (i := 8) (some 42) (.int .i64 x0.openF) hs (by kernel_rfl) (by repeat' (first | exact Vk.Calm.post | refine Vk.Calm.then ?_ | refine Vk.Calm.inBlock ?_)) hcl (by kernel_rfl) (by kernel_rfl) (op := (.load 3 (.tmp 41))) (by kernel_rfl) (by kernel_rfl) (fun w hw o ho => by rw [hC_23] at hw; exact run_load1 (b := b_x0) (off := 6) (c := C.int .i64 x0.openF) ho (by kernel_rfl) (by kernel_rfl) (Cell.own 0 rfl (by kernel_rfl)) _ hw) fun a hs => ?_
          refine Vk.dTakeT (i := 12) (some 46) (.int .i64 x0.fromF) hs (by kernel_rfl) (by repeat' (first | exact Vk.Calm.post | refine Vk.Calm.then ?_ | refine Vk.Calm.inBlock ?_)) hcl (by kernel_rfl) (by kernel_rfl) (op := (.load 3 (.tmp 45))) (by kernel_rfl) (by kernel_rfl) (fun w hw o ho => by rw [hC_23] at hw; exact run_load1 (b := b_x0) (off := 7) (c := C.int .i64 x0.fromF) ho (by kernel_rfl) (by kernel_rfl) (Cell.own 0 rfl (by kernel_rfl)) _ hw) fun a hs => ?_
          obtain ⟨v_26, h_25, hm⟩ := bind_t hm
          refine Vk.dOnly (i := 14) (by kernel_rfl) (Vk.call (some 48) 58 #[.pointer (some ⟨b_x0, 0, none⟩)] hs (by kernel_rfl) (by kernel_rfl) (by kernel_rfl) ?_)
          refine (wire_Machine_Len.ok k x0 v_26 h_25 κ w (S) b_x0 b_x0otape A_x0otapeowords c_x0otapeowords A_x0oops c_x0oops A_x0ovalues c_x0ovalues A_x0oblocks c_x0oblocks (Own.to hs.own [0, 1, 2, 3, 4, 5] 6 (by kernel_rfl) (by kernel_rfl))).mono ?_
          rintro _ w ⟨rfl, how⟩
          refine ⟨_, _, _, rfl, how, fun a hs => ?_⟩
          replace hcl : Own κ w C_23 := by rw [hC_23]; exact (Own.to hs.own [0, 1, 2, 3, 4] 6 (by kernel_rfl) (by kernel_rfl))
          refine ⟨fun _ => hcl, ?_⟩
          refine Vk.dPuresT [15] [(49, .agg (vals [C.int .i64 x0.openF, C.int .i64 x0.fromF, C.int .i64 v_26]))] hs (by kernel_rfl) (by repeat' (first | exact Vk.Calm.post | refine Vk.Calm.then ?_ | refine Vk.Calm.inBlock ?_)) hcl (by kernel_rfl) (by kernel_rfl) (fuel := 5) rfl fun a hs => ?_
          refine Vk.dOnly (i := 16) (by kernel_rfl) (Vk.buildOp (sz := 3) (by_ := 24) (t := 70) (e := 144) (parts := #[(0, (.tmp 49))]) (zs := vals [C.int .i64 0, C.int .i64 0, C.int .i64 0]) ([(⟨x0.openF, x0.fromF, v_26⟩ : Tapi_Span)] : List Tapi_Span) Tapi_Span.cells (some 50) hs (by kernel_rfl) (by kernel_rfl) (by kernel_rfl) (by kernel_rfl) (by decide) rfl (fun x _ => rfl) (Nat.le_of_ble_eq_true (by kernel_rfl)) (by kernel_rfl) fun A_27 w a hs => ?_)
          replace hcl : Own κ w C_23 := by rw [hC_23]; exact (Own.to hs.own [1, 2, 3, 4, 5] 7 (by kernel_rfl) (by kernel_rfl))
          refine ⟨fun _ => hcl, ?_⟩
          obtain ⟨h_29, hm⟩ := ite_t hm
          refine Vk.dOnly (i := 17) (by kernel_rfl) (Vk.appendOp (x := (.tmp 38)) (y := (.tmp 50)) (e := 144) (t := 70) (by_ := 24) (sz := 3) (enc := Tapi_Span.cells) (A := A_x0oblocks) (cap := c_x0oblocks) (xs := x0.blocks) (ys := ([(⟨x0.openF, x0.fromF, v_26⟩ : Tapi_Span)] : List Tapi_Span)) (B := A_27) (c2 := 1) 6 (some 51) hs (by kernel_rfl) (by kernel_rfl) (by kernel_rfl) (by kernel_rfl) rfl (Sl.lift (fun w ho => (Own.to (S' := rowp A_27 1 144 3 Tapi_Span.cells ([(⟨x0.openF, x0.fromF, v_26⟩ : Tapi_Span)] : List Tapi_Span) :: S) ho [0] 7 (by kernel_rfl) (by kernel_rfl))) (Own.rowSl 0 (Own.to (S' := rowp A_27 1 144 3 Tapi_Span.cells ([(⟨x0.openF, x0.fromF, v_26⟩ : Tapi_Span)] : List Tapi_Span) :: S) hs.own [0] 7 (by kernel_rfl) (by kernel_rfl)) rfl)) (by kernel_rfl) (by kernel_rfl) (by decide) (by decide) h_29 fun A_30 c_31 w a hs => ?_)
          replace hcl : Own κ w C_23 := by rw [hC_23]; exact (Own.to hs.own [1, 2, 3, 4, 5] 7 (by kernel_rfl) (by kernel_rfl))
          refine ⟨fun _ => hcl, ?_⟩
          refine Vk.dOnly (i := 18) (by kernel_rfl) (Vk.dPure1 [(52, .pointer (some ⟨b_x0, 0, none⟩))] hs (by kernel_rfl) fun a hs => ?_)
          refine ⟨fun h => absurd h (by decide), ?_⟩
          refine Vk.dOnly (i := 19) (by kernel_rfl) (Vk.dPure1 [(53, .pointer (some ⟨b_x0, 12, none⟩))] hs (by kernel_rfl) fun a hs => ?_)
          refine ⟨fun h => absurd h (by decide), ?_⟩
          refine Vk.dOnly (i := 20) (by kernel_rfl) (Vk.store1 (b := b_x0) (ty := 70) (x := (.tmp 53)) (y := (.tmp 51)) (off := 12) (C.slc A_30 ((x0.blocks ++ ([(⟨x0.openF, x0.fromF, v_26⟩ : Tapi_Span)] : List Tapi_Span)).length) c_31) 1 hs (by kernel_rfl) (by kernel_rfl) (by kernel_rfl) (by kernel_rfl) (by kernel_rfl) (by kernel_rfl) rfl (Nat.le_of_ble_eq_true (by kernel_rfl)) fun a w hs => ?_)
          refine ⟨fun h => absurd h (by decide), ?_⟩
          replace hs := hs.pick [0] (L' := [(0, .pointer (some ⟨b_x0, 0, none⟩))]) (by kernel_rfl)
          refine Vk.dDone (by kernel_rfl) ?_
          exact hj16 (⟨x0.n, x0.most, x0.base, x0.words, x0.draws, x0.dry, x0.openF, x0.fromF, x0.bad, x0.tape, x0.ops, x0.values, x0.blocks ++ ([(⟨x0.openF, x0.fromF, v_26⟩ : Tapi_Span)] : List Tapi_Span)⟩ : Twire_Machine) hm A_30 c_31 _ _ (hs.go [0] [1, 2, 3, 4, 5, 6] 7 (by kernel_rfl) (by kernel_rfl) (by kernel_rfl))
        · replace hm := bif_f hm hb
          refine wp_skip ?_
          exact hj16 x0 hm A_x0oblocks c_x0oblocks _ _ (hs.go [0] [0, 1, 2, 3, 4, 5] 6 (by kernel_rfl) (by kernel_rfl) (by kernel_rfl))
      obtain ⟨C_18, hC_18⟩ : ∃ X0 : List HP, X0 = (pt b_x0 (blk (Twire_Machine.obj x0 b_x0otape A_x0oops c_x0oops A_x0ovalues c_x0ovalues A_x0oblocks c_x0oblocks) 151) :: pt b_x0otape (blk (Ttape_Tape.obj x0.tape A_x0otapeowords c_x0otapeowords) 158) :: rowp A_x0otapeowords c_x0otapeowords 23 1 (eI .u64) x0.tape.words :: rowp A_x0oops c_x0oops 32 6 Tapi_Op.cells x0.ops :: rowp A_x0ovalues c_x0ovalues 23 1 (eI .u64) x0.values :: rowp A_x0oblocks c_x0oblocks 144 3 Tapi_Span.cells x0.blocks :: S) := ⟨_, rfl⟩
      refine Vk.drawnT 14 κ C_18 hs (by kernel_rfl) fun w hs => ?_
      have hcz : Own κ w (pt b_x0 (blk (Twire_Machine.obj x0 b_x0otape A_x0oops c_x0oops A_x0ovalues c_x0ovalues A_x0oblocks c_x0oblocks) 151) :: pt b_x0otape (blk (Ttape_Tape.obj x0.tape A_x0otapeowords c_x0otapeowords) 158) :: rowp A_x0otapeowords c_x0otapeowords 23 1 (eI .u64) x0.tape.words :: rowp A_x0oops c_x0oops 32 6 Tapi_Op.cells x0.ops :: rowp A_x0ovalues c_x0ovalues 23 1 (eI .u64) x0.values :: rowp A_x0oblocks c_x0oblocks 144 3 Tapi_Span.cells x0.blocks :: S) := (Own.to hs.own [0, 1, 2, 3, 4, 5] 6 (by kernel_rfl) (by kernel_rfl))
      have hcl : Own κ w C_18 := by rw [hC_18]; exact hcz
      refine Vk.dPuresT [0, 2, 3, 4] [(24, .pointer (some ⟨b_x0, 7, none⟩)), (23, .pointer (some ⟨b_x0, 0, none⟩)), (22, .pointer (some ⟨b_x0, 0, none⟩)), (20, .pointer (some ⟨b_x0, 0, none⟩))] hs (by kernel_rfl) (by repeat' (first | exact Vk.Calm.post | refine Vk.Calm.then ?_ | refine Vk.Calm.inBlock ?_)) hcl (by kernel_rfl) (by kernel_rfl) (fuel := 10) rfl fun a hs => ?_
      refine Vk.dTakeT (i := 5) (some 25) (.int .i64 x0.fromF) hs (by kernel_rfl) (by repeat' (first | exact Vk.Calm.post | refine Vk.Calm.then ?_ | refine Vk.Calm.inBlock ?_)) hcl (by kernel_rfl) (by kernel_rfl) (op := (.load 3 (.tmp 24))) (by kernel_rfl) (by kernel_rfl) (fun w hw o ho => by rw [hC_18] at hw; exact run_load1 (b := b_x0) (off := 7) (c := C.int .i64 x0.fromF) ho (by kernel_rfl) (by kernel_rfl) (Cell.own 0 rfl (by kernel_rfl)) _ hw) fun a hs => ?_
      obtain ⟨v_21, h_20, hm⟩ := bind_t hm
      refine Vk.dOnly (i := 1) (by kernel_rfl) (Vk.call (some 21) 58 #[.pointer (some ⟨b_x0, 0, none⟩)] hs (by kernel_rfl) (by kernel_rfl) (by kernel_rfl) ?_)
      refine (wire_Machine_Len.ok k x0 v_21 h_20 κ w (S) b_x0 b_x0otape A_x0otapeowords c_x0otapeowords A_x0oops c_x0oops A_x0ovalues c_x0ovalues A_x0oblocks c_x0oblocks (Own.to hs.own [0, 1, 2, 3, 4, 5] 6 (by kernel_rfl) (by kernel_rfl))).mono ?_
      rintro _ w ⟨rfl, how⟩
      refine ⟨_, _, _, rfl, how, fun a hs => ?_⟩
      replace hcl : Own κ w C_18 := by rw [hC_18]; exact (Own.to hs.own [0, 1, 2, 3, 4, 5] 6 (by kernel_rfl) (by kernel_rfl))
      refine ⟨fun _ => hcl, ?_⟩
      refine Vk.dPuresT [6, 7] [(27, .bool (decide (v_21 > x0.fromF))), (26, .bool (decide (v_21 > x0.fromF)))] hs (by kernel_rfl) (by repeat' (first | exact Vk.Calm.post | refine Vk.Calm.then ?_ | refine Vk.Calm.inBlock ?_)) hcl (by kernel_rfl) (by kernel_rfl) (fuel := 6) rfl fun a hs => ?_
      rcases Bool.eq_false_or_eq_true (decide (v_21 > x0.fromF)) with hb | hb
      · replace hm := bif_t hm hb
        replace hs := hs.known (t := 27) hb (by kernel_rfl)
        refine Vk.dPuresT [8, 9, 10] [(30, .pointer (some ⟨b_x0, 5, none⟩)), (29, .pointer (some ⟨b_x0, 0, none⟩)), (28, .pointer (some ⟨b_x0, 0, none⟩))] hs (by kernel_rfl) (by repeat' (first | exact Vk.Calm.post | refine Vk.Calm.then ?_ | refine Vk.Calm.inBlock ?_)) hcl (by kernel_rfl) (by kernel_rfl) (fuel := 3) rfl fun a hs => ?_
        refine Vk.dTakeT (i := 11) (some 31) (.bool x0.dry) hs (by kernel_rfl) (by repeat' (first | exact Vk.Calm.post | refine Vk.Calm.then ?_ | refine Vk.Calm.inBlock ?_)) hcl (by kernel_rfl) (by kernel_rfl) (op := (.load 4 (.tmp 30))) (by kernel_rfl) (by kernel_rfl) (fun w hw o ho => by rw [hC_18] at hw; exact run_load1 (b := b_x0) (off := 5) (c := C.bool x0.dry) ho (by kernel_rfl) (by kernel_rfl) (Cell.own 0 rfl (by kernel_rfl)) _ hw) fun a hs => ?_
        refine Vk.dPuresT [12, 13] [(33, .bool (!x0.dry)), (32, .bool (!x0.dry))] hs (by kernel_rfl) (by repeat' (first | exact Vk.Calm.post | refine Vk.Calm.then ?_ | refine Vk.Calm.inBlock ?_)) hcl (by kernel_rfl) (by kernel_rfl) (fuel := 0) rfl fun a hs => ?_
        replace hs := hs.pick [0, 33] (L' := [(0, .pointer (some ⟨b_x0, 0, none⟩)), (33, .bool (!x0.dry))]) (by kernel_rfl)
        refine Vk.dDone (by kernel_rfl) ?_
        exact hj17 (!x0.dry) hm _ _ (hs.go [0, 33] [0, 1, 2, 3, 4, 5] 6 (by kernel_rfl) (by kernel_rfl) (by kernel_rfl))
      · replace hm := bif_f hm hb
        replace hs := hs.known (t := 27) hb (by kernel_rfl)
        refine Vk.dPuresT [8, 9, 10, 11, 12, 13] [(33, .bool false), (32, undef), (31, undef), (30, undef), (29, undef), (28, undef)] hs (by kernel_rfl) (by repeat' (first | exact Vk.Calm.post | refine Vk.Calm.then ?_ | refine Vk.Calm.inBlock ?_)) hcl (by kernel_rfl) (by kernel_rfl) (fuel := 0) rfl fun a hs => ?_
        replace hs := hs.pick [0, 33] (L' := [(0, .pointer (some ⟨b_x0, 0, none⟩)), (33, .bool false)]) (by kernel_rfl)
        refine Vk.dDone (by kernel_rfl) ?_
        exact hj17 false hm _ _ (hs.go [0, 33] [0, 1, 2, 3, 4, 5] 6 (by kernel_rfl) (by kernel_rfl) (by kernel_rfl))


abbrev wire_Machine_Const.R (κ : Ctx) (S : List HP) (x0 : Twire_Machine) (x1 : Int) (x2 : Int) (b_x0 : Nat) (b_x0otape : Nat) (A_x0otapeowords : Option Addr) (c_x0otapeowords : Nat) (A_x0oops : Option Addr) (c_x0oops : Nat) (A_x0ovalues : Option Addr) (c_x0ovalues : Nat) (A_x0oblocks : Option Addr) (c_x0oblocks : Nat) (r : (Int × Twire_Machine)) : Ending → World → Prop := fun e w' => ∃ (A_y0otapeowords : Option Addr), ∃ (c_y0otapeowords : Nat), ∃ (A_y0oops : Option Addr), ∃ (c_y0oops : Nat), ∃ (A_y0ovalues : Option Addr), ∃ (c_y0ovalues : Nat), ∃ (A_y0oblocks : Option Addr), ∃ (c_y0oblocks : Nat), e = .returned (.int .i64 r.1) ∧ Own κ w' (pt b_x0 (blk (Twire_Machine.obj r.2 b_x0otape A_y0oops c_y0oops A_y0ovalues c_y0ovalues A_y0oblocks c_y0oblocks) 151) :: pt b_x0otape (blk (Ttape_Tape.obj r.2.tape A_y0otapeowords c_y0otapeowords) 158) :: rowp A_y0otapeowords c_y0otapeowords 23 1 (eI .u64) r.2.tape.words :: rowp A_y0oops c_y0oops 32 6 Tapi_Op.cells r.2.ops :: rowp A_y0ovalues c_y0ovalues 23 1 (eI .u64) r.2.values :: rowp A_y0oblocks c_y0oblocks 144 3 Tapi_Span.cells r.2.blocks :: S)
def wire_Machine_Const.m (k : Nat) (x0 : Twire_Machine) (x1 : Int) (x2 : Int) : Option (Int × Twire_Machine) := (wire_Machine_Do.m k x0 (⟨3, x1, (-1), (-1), (-1), x2⟩ : Tapi_Op) 0).bind fun v_5 => some (v_5.1, v_5.2)

set_option maxRecDepth 100000 in
set_option maxHeartbeats 4000000 in
theorem wire_Machine_Const.ok (k : Nat) (x0 : Twire_Machine) (x1 : Int) (x2 : Int) (r : (Int × Twire_Machine)) (hm : wire_Machine_Const.m k x0 x1 x2 = some r) (κ : Ctx) (w : World) (S : List HP) (b_x0 : Nat) (b_x0otape : Nat) (A_x0otapeowords : Option Addr) (c_x0otapeowords : Nat) (A_x0oops : Option Addr) (c_x0oops : Nat) (A_x0ovalues : Option Addr) (c_x0ovalues : Nat) (A_x0oblocks : Option Addr) (c_x0oblocks : Nat) (ho : Own κ w (pt b_x0 (blk (Twire_Machine.obj x0 b_x0otape A_x0oops c_x0oops A_x0ovalues c_x0ovalues A_x0oblocks c_x0oblocks) 151) :: pt b_x0otape (blk (Ttape_Tape.obj x0.tape A_x0otapeowords c_x0otapeowords) 158) :: rowp A_x0otapeowords c_x0otapeowords 23 1 (eI .u64) x0.tape.words :: rowp A_x0oops c_x0oops 32 6 Tapi_Op.cells x0.ops :: rowp A_x0ovalues c_x0ovalues 23 1 (eI .u64) x0.values :: rowp A_x0oblocks c_x0oblocks 144 3 Tapi_Span.cells x0.blocks :: S)) :
    Calls Try.prog 100 #[.pointer (some ⟨b_x0, 0, none⟩), .int .i64 x1, .int .u64 x2] w (wire_Machine_Const.R κ S x0 x1 x2 b_x0 b_x0otape A_x0otapeowords c_x0otapeowords A_x0oops c_x0oops A_x0ovalues c_x0ovalues A_x0oblocks c_x0oblocks r) := by
  unfold wire_Machine_Const.m at hm
  refine Vk.enter [(0, .pointer (some ⟨b_x0, 0, none⟩)), (1, .int .i64 x1), (2, .int .u64 x2)] Try.func100 rfl Try.ntmps100 (by kernel_rfl) (Nat.le_of_ble_eq_true (by kernel_rfl)) ho fun a hs => ?_
  refine Vk.seq fun K1 hK1 => ?_
  refine Vk.region ?_
  refine Vk.pures 1 [(6, .int .i64 0)] hs (by kernel_rfl) fun a hs => ?_
  replace hs := hs.pick [0, 1, 2] (L' := [(0, .pointer (some ⟨b_x0, 0, none⟩)), (1, .int .i64 x1), (2, .int .u64 x2)]) (by kernel_rfl)
  refine Vk.done (by kernel_rfl) ?_
  refine hK1 _ _ ?_
  clear hK1
  refine Vk.seq fun K2 hK2 => ?_
  refine Vk.region ?_
  refine Vk.pures 4 [(10, .agg (vals [C.int .i64 3, C.int .i64 x1, C.int .i64 (-1), C.int .i64 (-1), C.int .i64 (-1), C.int .u64 x2])), (9, .int .u64 x2), (8, .int .i64 x1), (7, .pointer (some ⟨b_x0, 0, none⟩))] hs (by kernel_rfl) fun a hs => ?_
  obtain ⟨v_5, h_4, hm⟩ := bind_t hm
  refine Vk.step (Vk.call (some 11) 60 #[.pointer (some ⟨b_x0, 0, none⟩), .agg (vals [C.int .i64 3, C.int .i64 x1, C.int .i64 (-1), C.int .i64 (-1), C.int .i64 (-1), C.int .u64 x2]), .int .u64 0] hs (by kernel_rfl) (by kernel_rfl) (by kernel_rfl) ?_)
  refine (wire_Machine_Do.ok k x0 (⟨3, x1, (-1), (-1), (-1), x2⟩ : Tapi_Op) 0 v_5 h_4 κ w (S) b_x0 b_x0otape A_x0otapeowords c_x0otapeowords A_x0oops c_x0oops A_x0ovalues c_x0ovalues A_x0oblocks c_x0oblocks (Own.to hs.own [0, 1, 2, 3, 4, 5] 6 (by kernel_rfl) (by kernel_rfl))).mono ?_
  rintro _ w ⟨Ar3o0otapeowords_6, cr3o0otapeowords_7, Ar3o0oops_8, cr3o0oops_9, Ar3o0ovalues_10, cr3o0ovalues_11, Ar3o0oblocks_12, cr3o0oblocks_13, rfl, how⟩
  refine ⟨_, _, _, rfl, how, fun a hs => ?_⟩
  refine Vk.pures 1 [(6, .int .i64 v_5.1)] hs (by kernel_rfl) fun a hs => ?_
  replace hs := hs.pick [6] (L' := [(6, .int .i64 v_5.1)]) (by kernel_rfl)
  refine Vk.done (by kernel_rfl) ?_
  refine hK2 _ _ ?_
  clear hK2
  refine wp_ret ?_
  exact Vk.ret1 (P := Try.prog) (fn := Try.f100) (R := wire_Machine_Const.R κ S x0 x1 x2 b_x0 b_x0otape A_x0otapeowords c_x0otapeowords A_x0oops c_x0oops A_x0ovalues c_x0ovalues A_x0oblocks c_x0oblocks r) (.int .i64 v_5.1) hs rfl (by kernel_rfl) (by obtain rfl := Option.some.inj hm; exact ⟨Ar3o0otapeowords_6, cr3o0otapeowords_7, Ar3o0oops_8, cr3o0oops_9, Ar3o0ovalues_10, cr3o0ovalues_11, Ar3o0oblocks_12, cr3o0oblocks_13, rfl, (Own.to hs.own [0, 1, 2, 3, 4, 5] 6 (by kernel_rfl) (by kernel_rfl))⟩)


abbrev slices_Clone_uint64_uint64.R (κ : Ctx) (S : List HP) (x0 : List Int) (A_x0 : Option Addr) (c_x0 : Nat) (r : List Int) : Ending → World → Prop := fun e w' => ∃ (A_r0 : Option Addr), ∃ (c_r0 : Nat), e = .returned (.slice A_r0 r.length c_r0) ∧ Own κ w' (rowp A_r0 c_r0 23 1 (eI .u64) r :: S)
def slices_Clone_uint64_uint64.m (k : Nat) (x0 : List Int) : Option (List Int) := (if (([] : List Int).length + x0.length) * 8 ≤ 140737488355328 then some (([] : List Int) ++ x0) else none)

set_option maxRecDepth 100000 in
set_option maxHeartbeats 4000000 in
theorem slices_Clone_uint64_uint64.ok (k : Nat) (x0 : List Int) (r : List Int) (hm : slices_Clone_uint64_uint64.m k x0 = some r) (κ : Ctx) (w : World) (S : List HP) (A_x0 : Option Addr) (c_x0 : Nat) (hx_x0 : Sl κ S A_x0 c_x0 1 (eI .u64) x0) (ho : Own κ w (S)) :
    Calls Try.prog 90 #[.slice A_x0 x0.length c_x0] w (slices_Clone_uint64_uint64.R κ S x0 A_x0 c_x0 r) := by
  unfold slices_Clone_uint64_uint64.m at hm
  rcases A_x0 with _ | p_x0
  · obtain rfl : c_x0 = 0 := hx_x0.none rfl
    obtain rfl : x0 = [] := List.length_eq_zero_iff.1 (Nat.le_zero.1 hx_x0.le)
    replace hm : some ([] : List Int) = some r := by simpa using hm
    refine Vk.enter [(0, .slice none 0 0)] Try.func90 rfl Try.ntmps90 (by kernel_rfl) (Nat.le_of_ble_eq_true (by kernel_rfl)) ho fun a hs => ?_
    refine Vk.seq fun K1 hK1 => ?_
    refine Vk.region ?_
    refine Vk.pures 1 [(2, .slice none 0 0)] hs (by kernel_rfl) fun a hs => ?_
    replace hs := hs.pick [0] (L' := [(0, .slice none 0 0)]) (by kernel_rfl)
    refine Vk.done (by kernel_rfl) ?_
    refine hK1 _ _ ?_
    clear hK1
    refine Vk.seq fun K2 hK2 => ?_
    refine Vk.seq fun K3 hK3 => ?_
    refine Vk.region ?_
    refine Vk.pures 2 [(4, .bool true), (3, .slice none 0 0)] hs (by kernel_rfl) fun a hs => ?_
    replace hs := hs.pick [0, 4] (L' := [(0, .slice none 0 0), (4, .bool true)]) (by kernel_rfl)
    refine Vk.done (by kernel_rfl) ?_
    refine hK3 _ _ ?_
    clear hK3
    refine Vk.condT hs (by kernel_rfl) (by kernel_rfl) ?_
    refine Vk.seq fun K4 hK4 => ?_
    refine Vk.region ?_
    refine Vk.pures 1 [(2, .slice none 0 0)] hs (by kernel_rfl) fun a hs => ?_
    replace hs := hs.pick [2] (L' := [(2, .slice none 0 0)]) (by kernel_rfl)
    refine Vk.done (by kernel_rfl) ?_
    refine hK4 _ _ ?_
    clear hK4
    refine wp_ret ?_
    replace hs := hs.addRow none 23 1 (eI .u64)
    exact Vk.ret1 (P := Try.prog) (fn := Try.f90) (R := slices_Clone_uint64_uint64.R κ S [] none 0 r) (.slice none (([] : List Int).length) 0) hs rfl (by kernel_rfl) (by obtain rfl := Option.some.inj hm; exact ⟨none, 0, rfl, (Own.to hs.own [0] 1 (by kernel_rfl) (by kernel_rfl))⟩)
  · skip
    refine Vk.enter [(0, .slice (some p_x0) x0.length c_x0)] Try.func90 rfl Try.ntmps90 (by kernel_rfl) (Nat.le_of_ble_eq_true (by kernel_rfl)) ho fun a hs => ?_
    refine Vk.seq fun K1 hK1 => ?_
    refine Vk.region ?_
    refine Vk.pures 1 [(2, .slice none 0 0)] hs (by kernel_rfl) fun a hs => ?_
    replace hs := hs.pick [0] (L' := [(0, .slice (some p_x0) x0.length c_x0)]) (by kernel_rfl)
    refine Vk.done (by kernel_rfl) ?_
    refine hK1 _ _ ?_
    clear hK1
    refine Vk.seq fun K2 hK2 => ?_
    refine Vk.seq fun K3 hK3 => ?_
    refine Vk.region ?_
    refine Vk.pures 2 [(4, .bool false), (3, .slice (some p_x0) x0.length c_x0)] hs (by kernel_rfl) fun a hs => ?_
    replace hs := hs.pick [0, 4] (L' := [(0, .slice (some p_x0) x0.length c_x0), (4, .bool false)]) (by kernel_rfl)
    refine Vk.done (by kernel_rfl) ?_
    refine hK3 _ _ ?_
    clear hK3
    refine Vk.condF hs (by kernel_rfl) (by kernel_rfl) ?_
    refine wp_skip ?_
    refine hK2 _ _ ?_
    clear hK2
    refine Vk.seq fun K4 hK4 => ?_
    refine Vk.region ?_
    refine Vk.step (Vk.buildOp (sz := 1) (by_ := 8) (t := 73) (e := 23) (parts := #[]) (zs := vals [C.int .u64 0]) ([] : List Int) (eI .u64) (some 5) hs (by kernel_rfl) (by kernel_rfl) (by kernel_rfl) (by kernel_rfl) (by decide) rfl (fun x _ => rfl) (Nat.le_of_ble_eq_true (by kernel_rfl)) (by kernel_rfl) fun A_5 w a hs => ?_)
    refine Vk.pures 1 [(6, .slice (some p_x0) x0.length c_x0)] hs (by kernel_rfl) fun a hs => ?_
    obtain ⟨h_7, hm⟩ := ite_t hm
    refine Vk.step (Vk.appendOp (x := (.tmp 5)) (y := (.tmp 6)) (e := 23) (t := 73) (by_ := 8) (sz := 1) (enc := (eI .u64)) (A := A_5) (cap := 0) (xs := ([] : List Int)) (ys := x0) (B := (some p_x0)) (c2 := c_x0) 0 (some 7) hs (by kernel_rfl) (by kernel_rfl) (by kernel_rfl) (by kernel_rfl) rfl hx_x0.less (by kernel_rfl) (by kernel_rfl) (by decide) (by decide) h_7 fun A_8 c_9 w a hs => ?_)
    refine Vk.pures 1 [(2, .slice A_8 ((([] : List Int) ++ x0).length) c_9)] hs (by kernel_rfl) fun a hs => ?_
    replace hs := hs.pick [2] (L' := [(2, .slice A_8 ((([] : List Int) ++ x0).length) c_9)]) (by kernel_rfl)
    refine Vk.done (by kernel_rfl) ?_
    refine hK4 _ _ ?_
    clear hK4
    refine wp_ret ?_
    exact Vk.ret1 (P := Try.prog) (fn := Try.f90) (R := slices_Clone_uint64_uint64.R κ S x0 (some p_x0) c_x0 r) (.slice A_8 ((([] : List Int) ++ x0).length) c_9) hs rfl (by kernel_rfl) (by obtain rfl := Option.some.inj hm; exact ⟨A_8, c_9, rfl, (Own.to hs.own [0] 1 (by kernel_rfl) (by kernel_rfl))⟩)


abbrev tape_New.R (κ : Ctx) (S : List HP) (x0 : List Int) (A_x0 : Option Addr) (c_x0 : Nat) (r : Ttape_Tape) : Ending → World → Prop := fun e w' => ∃ (b_r0 : Nat), ∃ (A_r0owords : Option Addr), ∃ (c_r0owords : Nat), e = .returned (.pointer (some ⟨b_r0, 0, none⟩)) ∧ Own κ w' (pt b_r0 (blk (Ttape_Tape.obj r A_r0owords c_r0owords) 158) :: rowp A_r0owords c_r0owords 23 1 (eI .u64) r.words :: S)
def tape_New.m (k : Nat) (x0 : List Int) : Option Ttape_Tape := (slices_Clone_uint64_uint64.m k x0).bind fun v_5 => some (⟨v_5, (⟨0⟩ : Tatomic_Int64), 0⟩ : Ttape_Tape)

set_option maxRecDepth 100000 in
set_option maxHeartbeats 4000000 in
theorem tape_New.ok (k : Nat) (x0 : List Int) (r : Ttape_Tape) (hm : tape_New.m k x0 = some r) (κ : Ctx) (w : World) (S : List HP) (A_x0 : Option Addr) (c_x0 : Nat) (hx_x0 : Sl κ S A_x0 c_x0 1 (eI .u64) x0) (ho : Own κ w (S)) :
    Calls Try.prog 54 #[.slice A_x0 x0.length c_x0] w (tape_New.R κ S x0 A_x0 c_x0 r) := by
  unfold tape_New.m at hm
  refine Vk.enter [(0, .slice A_x0 x0.length c_x0)] Try.func54 rfl Try.ntmps54 (by kernel_rfl) (Nat.le_of_ble_eq_true (by kernel_rfl)) ho fun a hs => ?_
  refine Vk.seq fun K1 hK1 => ?_
  refine Vk.region ?_
  refine Vk.pures 1 [(2, .pointer none)] hs (by kernel_rfl) fun a hs => ?_
  replace hs := hs.pick [0] (L' := [(0, .slice A_x0 x0.length c_x0)]) (by kernel_rfl)
  refine Vk.done (by kernel_rfl) ?_
  refine hK1 _ _ ?_
  clear hK1
  refine Vk.seq fun K2 hK2 => ?_
  refine Vk.region ?_
  refine Vk.pures 1 [(3, .slice A_x0 x0.length c_x0)] hs (by kernel_rfl) fun a hs => ?_
  obtain ⟨v_5, h_4, hm⟩ := bind_t hm
  refine Vk.step (Vk.call (some 4) 90 #[.slice A_x0 x0.length c_x0] hs (by kernel_rfl) (by kernel_rfl) (by kernel_rfl) ?_)
  refine (slices_Clone_uint64_uint64.ok k x0 v_5 h_4 κ w (S) A_x0 c_x0 hx_x0 hs.own).mono ?_
  rintro _ w ⟨Ar3x0_6, cr3x0_7, rfl, how⟩
  refine ⟨_, _, _, rfl, how, fun a hs => ?_⟩
  refine Vk.pures 1 [(5, .agg (vals [C.slc Ar3x0_6 v_5.length cr3x0_7, C.int .i64 0, C.int .i64 0]))] hs (by kernel_rfl) fun a hs => ?_
  refine Vk.step (Vk.box (x := (.tmp 5)) 6 158 [C.slc Ar3x0_6 v_5.length cr3x0_7, C.int .i64 0, C.int .i64 0] hs (by kernel_rfl) (by kernel_rfl) (by kernel_rfl) fun b_8 w a hs => ?_)
  refine Vk.pures 1 [(2, .pointer (some ⟨b_8, 0, none⟩))] hs (by kernel_rfl) fun a hs => ?_
  replace hs := hs.pick [2] (L' := [(2, .pointer (some ⟨b_8, 0, none⟩))]) (by kernel_rfl)
  refine Vk.done (by kernel_rfl) ?_
  refine hK2 _ _ ?_
  clear hK2
  refine wp_ret ?_
  exact Vk.ret1 (P := Try.prog) (fn := Try.f54) (R := tape_New.R κ S x0 A_x0 c_x0 r) (.pointer (some ⟨b_8, 0, none⟩)) hs rfl (by kernel_rfl) (by obtain rfl := Option.some.inj hm; exact ⟨b_8, Ar3x0_6, cr3x0_7, rfl, (Own.to hs.own [0, 1] 2 (by kernel_rfl) (by kernel_rfl))⟩)


abbrev wire_New.R (κ : Ctx) (S : List HP) (x0 : Int) (x1 : Ttape_Tape) (x2 : Int) (b_x1 : Nat) (A_x1owords : Option Addr) (c_x1owords : Nat) (r : (Sum (Int × Ttape_Tape) (Twire_Machine × Int))) : Ending → World → Prop := fun e w' => (∃ r', r = (Sum.inl r') ∧ ∃ (A_y0owords : Option Addr), ∃ (c_y0owords : Nat), e = .returned (.tuple #[.pointer none, .int .i64 r'.1]) ∧ Own κ w' (pt b_x1 (blk (Ttape_Tape.obj r'.2 A_y0owords c_y0owords) 158) :: rowp A_y0owords c_y0owords 23 1 (eI .u64) r'.2.words :: S)) ∨ (∃ r', r = (Sum.inr r') ∧ ∃ (b_r0 : Nat), ∃ (b_r0otape : Nat), ∃ (A_r0otapeowords : Option Addr), ∃ (c_r0otapeowords : Nat), ∃ (A_r0oops : Option Addr), ∃ (c_r0oops : Nat), ∃ (A_r0ovalues : Option Addr), ∃ (c_r0ovalues : Nat), ∃ (A_r0oblocks : Option Addr), ∃ (c_r0oblocks : Nat), e = .returned (.tuple #[.pointer (some ⟨b_r0, 0, none⟩), .int .i64 r'.2]) ∧ Own κ w' (pt b_r0 (blk (Twire_Machine.obj r'.1 b_r0otape A_r0oops c_r0oops A_r0ovalues c_r0ovalues A_r0oblocks c_r0oblocks) 151) :: pt b_r0otape (blk (Ttape_Tape.obj r'.1.tape A_r0otapeowords c_r0otapeowords) 158) :: rowp A_r0otapeowords c_r0otapeowords 23 1 (eI .u64) r'.1.tape.words :: rowp A_r0oops c_r0oops 32 6 Tapi_Op.cells r'.1.ops :: rowp A_r0ovalues c_r0ovalues 23 1 (eI .u64) r'.1.values :: rowp A_r0oblocks c_r0oblocks 144 3 Tapi_Span.cells r'.1.blocks :: S))
def wire_New.m (k : Nat) (x0 : Int) (x1 : Ttape_Tape) (x2 : Int) : Option (Sum (Int × Ttape_Tape) (Twire_Machine × Int)) := (bif (((x0 != 2) && (x0 != 3)) || (decide (x2 < 0))) || (decide (x2 > 1048576)) then some (Sum.inl (1, x1)) else some (Sum.inr ((⟨x0, x2, 0, 0, 0, false, 0, 0, 0, x1, ([] : List Tapi_Op), ([] : List Int), ([] : List Tapi_Span)⟩ : Twire_Machine), 0)))

set_option maxRecDepth 100000 in
set_option maxHeartbeats 4000000 in
theorem wire_New.ok (k : Nat) (x0 : Int) (x1 : Ttape_Tape) (x2 : Int) (r : (Sum (Int × Ttape_Tape) (Twire_Machine × Int))) (hm : wire_New.m k x0 x1 x2 = some r) (κ : Ctx) (w : World) (S : List HP) (b_x1 : Nat) (A_x1owords : Option Addr) (c_x1owords : Nat) (ho : Own κ w (pt b_x1 (blk (Ttape_Tape.obj x1 A_x1owords c_x1owords) 158) :: rowp A_x1owords c_x1owords 23 1 (eI .u64) x1.words :: S)) :
    Calls Try.prog 57 #[.int .i64 x0, .pointer (some ⟨b_x1, 0, none⟩), .int .i64 x2] w (wire_New.R κ S x0 x1 x2 b_x1 A_x1owords c_x1owords r) := by
  unfold wire_New.m at hm
  refine Vk.enter [(0, .int .i64 x0), (1, .pointer (some ⟨b_x1, 0, none⟩)), (2, .int .i64 x2)] Try.func57 rfl Try.ntmps57 (by kernel_rfl) (Nat.le_of_ble_eq_true (by kernel_rfl)) ho fun a hs => ?_
  refine Vk.seq fun K1 hK1 => ?_
  refine Vk.region ?_
  refine Vk.pures 2 [(7, .int .i64 0), (6, .pointer none)] hs (by kernel_rfl) fun a hs => ?_
  replace hs := hs.pick [0, 1, 2] (L' := [(0, .int .i64 x0), (1, .pointer (some ⟨b_x1, 0, none⟩)), (2, .int .i64 x2)]) (by kernel_rfl)
  refine Vk.done (by kernel_rfl) ?_
  refine hK1 _ _ ?_
  clear hK1
  refine Vk.seq fun K2 hK2 => ?_
  refine Vk.seq fun K3 hK3 => ?_
  refine Vk.region ?_
  refine Vk.pures 3 [(10, .bool (x0 != 2)), (9, .bool (x0 != 2)), (8, .int .i64 x0)] hs (by kernel_rfl) fun a hs => ?_
  suffices hj_4 : ∀ a, St 31 a w κ [(0, .int .i64 x0), (1, .pointer (some ⟨b_x1, 0, none⟩)), (2, .int .i64 x2), (8, .int .i64 x0), (9, .bool (x0 != 2)), (10, .bool (x0 != 2)), (13, .bool ((x0 != 2) && (x0 != 3)))] (pt b_x1 (blk (Ttape_Tape.obj x1 A_x1owords c_x1owords) 158) :: rowp A_x1owords c_x1owords 23 1 (eI .u64) x1.words :: S) → wpFrom Try.prog _ _ 6 a w by
    rcases Bool.eq_false_or_eq_true (x0 != 2) with hb | hb
    · replace hs := hs.known (t := 10) hb (by kernel_rfl)
      refine Vk.pures 3 [(13, .bool (x0 != 3)), (12, .bool (x0 != 3)), (11, .int .i64 x0)] hs (by kernel_rfl) fun a hs => ?_
      have hq := hs.pick [0, 1, 2, 8, 9, 10, 13] (L' := [(0, .int .i64 x0), (1, .pointer (some ⟨b_x1, 0, none⟩)), (2, .int .i64 x2), (8, .int .i64 x0), (9, .bool (x0 != 2)), (10, .bool true), (13, .bool (x0 != 3))]) (by kernel_rfl)
      exact hj_4 _ (hq.conv (by first | (rw [hb] <;> rfl) | rfl))
    · replace hs := hs.known (t := 10) hb (by kernel_rfl)
      refine Vk.pures 3 [(13, .bool false), (12, undef), (11, undef)] hs (by kernel_rfl) fun a hs => ?_
      have hq := hs.pick [0, 1, 2, 8, 9, 10, 13] (L' := [(0, .int .i64 x0), (1, .pointer (some ⟨b_x1, 0, none⟩)), (2, .int .i64 x2), (8, .int .i64 x0), (9, .bool (x0 != 2)), (10, .bool false), (13, .bool false)]) (by kernel_rfl)
      exact hj_4 _ (hq.conv (by first | (rw [hb] <;> rfl) | rfl))
  intro a hs
  refine Vk.pures 1 [(14, .bool ((x0 != 2) && (x0 != 3)))] hs (by kernel_rfl) fun a hs => ?_
  suffices hj_5 : ∀ a, St 31 a w κ [(0, .int .i64 x0), (1, .pointer (some ⟨b_x1, 0, none⟩)), (2, .int .i64 x2), (8, .int .i64 x0), (9, .bool (x0 != 2)), (10, .bool (x0 != 2)), (13, .bool ((x0 != 2) && (x0 != 3))), (14, .bool ((x0 != 2) && (x0 != 3))), (17, .bool ((x0 != 2) && (x0 != 3)))] (pt b_x1 (blk (Ttape_Tape.obj x1 A_x1owords c_x1owords) 158) :: rowp A_x1owords c_x1owords 23 1 (eI .u64) x1.words :: S) → wpFrom Try.prog _ _ 10 a w by
    rcases Bool.eq_false_or_eq_true ((x0 != 2) && (x0 != 3)) with hb | hb
    · replace hs := hs.known (t := 14) hb (by kernel_rfl)
      refine Vk.pures 3 [(17, .bool true), (16, undef), (15, undef)] hs (by kernel_rfl) fun a hs => ?_
      have hq := hs.pick [0, 1, 2, 8, 9, 10, 13, 14, 17] (L' := [(0, .int .i64 x0), (1, .pointer (some ⟨b_x1, 0, none⟩)), (2, .int .i64 x2), (8, .int .i64 x0), (9, .bool (x0 != 2)), (10, .bool (x0 != 2)), (13, .bool ((x0 != 2) && (x0 != 3))), (14, .bool true), (17, .bool true)]) (by kernel_rfl)
      exact hj_5 _ (hq.conv (by first | (rw [hb] <;> rfl) | rfl))
    · replace hs := hs.known (t := 14) hb (by kernel_rfl)
      refine Vk.pures 3 [(17, .bool false), (16, .bool false), (15, .pointer (some ⟨b_x1, 0, none⟩))] hs (by kernel_rfl) fun a hs => ?_
      have hq := hs.pick [0, 1, 2, 8, 9, 10, 13, 14, 17] (L' := [(0, .int .i64 x0), (1, .pointer (some ⟨b_x1, 0, none⟩)), (2, .int .i64 x2), (8, .int .i64 x0), (9, .bool (x0 != 2)), (10, .bool (x0 != 2)), (13, .bool ((x0 != 2) && (x0 != 3))), (14, .bool false), (17, .bool false)]) (by kernel_rfl)
      exact hj_5 _ (hq.conv (by first | (rw [hb] <;> rfl) | rfl))
  intro a hs
  refine Vk.pures 1 [(18, .bool ((x0 != 2) && (x0 != 3)))] hs (by kernel_rfl) fun a hs => ?_
  suffices hj_6 : ∀ a, St 31 a w κ [(0, .int .i64 x0), (1, .pointer (some ⟨b_x1, 0, none⟩)), (2, .int .i64 x2), (8, .int .i64 x0), (9, .bool (x0 != 2)), (10, .bool (x0 != 2)), (13, .bool ((x0 != 2) && (x0 != 3))), (14, .bool ((x0 != 2) && (x0 != 3))), (17, .bool ((x0 != 2) && (x0 != 3))), (18, .bool ((x0 != 2) && (x0 != 3))), (21, .bool (((x0 != 2) && (x0 != 3)) || (decide (x2 < 0))))] (pt b_x1 (blk (Ttape_Tape.obj x1 A_x1owords c_x1owords) 158) :: rowp A_x1owords c_x1owords 23 1 (eI .u64) x1.words :: S) → wpFrom Try.prog _ _ 14 a w by
    rcases Bool.eq_false_or_eq_true ((x0 != 2) && (x0 != 3)) with hb | hb
    · replace hs := hs.known (t := 18) hb (by kernel_rfl)
      refine Vk.pures 3 [(21, .bool true), (20, undef), (19, undef)] hs (by kernel_rfl) fun a hs => ?_
      have hq := hs.pick [0, 1, 2, 8, 9, 10, 13, 14, 17, 18, 21] (L' := [(0, .int .i64 x0), (1, .pointer (some ⟨b_x1, 0, none⟩)), (2, .int .i64 x2), (8, .int .i64 x0), (9, .bool (x0 != 2)), (10, .bool (x0 != 2)), (13, .bool ((x0 != 2) && (x0 != 3))), (14, .bool ((x0 != 2) && (x0 != 3))), (17, .bool ((x0 != 2) && (x0 != 3))), (18, .bool true), (21, .bool true)]) (by kernel_rfl)
      exact hj_6 _ (hq.conv (by first | (rw [hb] <;> rfl) | rfl))
    · replace hs := hs.known (t := 18) hb (by kernel_rfl)
      refine Vk.pures 3 [(21, .bool (decide (x2 < 0))), (20, .bool (decide (x2 < 0))), (19, .int .i64 x2)] hs (by kernel_rfl) fun a hs => ?_
      have hq := hs.pick [0, 1, 2, 8, 9, 10, 13, 14, 17, 18, 21] (L' := [(0, .int .i64 x0), (1, .pointer (some ⟨b_x1, 0, none⟩)), (2, .int .i64 x2), (8, .int .i64 x0), (9, .bool (x0 != 2)), (10, .bool (x0 != 2)), (13, .bool ((x0 != 2) && (x0 != 3))), (14, .bool ((x0 != 2) && (x0 != 3))), (17, .bool ((x0 != 2) && (x0 != 3))), (18, .bool false), (21, .bool (decide (x2 < 0)))]) (by kernel_rfl)
      exact hj_6 _ (hq.conv (by first | (rw [hb] <;> rfl) | rfl))
  intro a hs
  refine Vk.pures 1 [(22, .bool (((x0 != 2) && (x0 != 3)) || (decide (x2 < 0))))] hs (by kernel_rfl) fun a hs => ?_
  suffices hj_7 : ∀ a, St 31 a w κ [(0, .int .i64 x0), (1, .pointer (some ⟨b_x1, 0, none⟩)), (2, .int .i64 x2), (8, .int .i64 x0), (9, .bool (x0 != 2)), (10, .bool (x0 != 2)), (13, .bool ((x0 != 2) && (x0 != 3))), (14, .bool ((x0 != 2) && (x0 != 3))), (17, .bool ((x0 != 2) && (x0 != 3))), (18, .bool ((x0 != 2) && (x0 != 3))), (21, .bool (((x0 != 2) && (x0 != 3)) || (decide (x2 < 0)))), (22, .bool (((x0 != 2) && (x0 != 3)) || (decide (x2 < 0)))), (25, .bool ((((x0 != 2) && (x0 != 3)) || (decide (x2 < 0))) || (decide (x2 > 1048576))))] (pt b_x1 (blk (Ttape_Tape.obj x1 A_x1owords c_x1owords) 158) :: rowp A_x1owords c_x1owords 23 1 (eI .u64) x1.words :: S) → wpFrom Try.prog _ _ 18 a w by
    rcases Bool.eq_false_or_eq_true (((x0 != 2) && (x0 != 3)) || (decide (x2 < 0))) with hb | hb
    · replace hs := hs.known (t := 22) hb (by kernel_rfl)
      refine Vk.pures 3 [(25, .bool true), (24, undef), (23, undef)] hs (by kernel_rfl) fun a hs => ?_
      have hq := hs.pick [0, 1, 2, 8, 9, 10, 13, 14, 17, 18, 21, 22, 25] (L' := [(0, .int .i64 x0), (1, .pointer (some ⟨b_x1, 0, none⟩)), (2, .int .i64 x2), (8, .int .i64 x0), (9, .bool (x0 != 2)), (10, .bool (x0 != 2)), (13, .bool ((x0 != 2) && (x0 != 3))), (14, .bool ((x0 != 2) && (x0 != 3))), (17, .bool ((x0 != 2) && (x0 != 3))), (18, .bool ((x0 != 2) && (x0 != 3))), (21, .bool (((x0 != 2) && (x0 != 3)) || (decide (x2 < 0)))), (22, .bool true), (25, .bool true)]) (by kernel_rfl)
      exact hj_7 _ (hq.conv (by first | (rw [hb] <;> rfl) | rfl))
    · replace hs := hs.known (t := 22) hb (by kernel_rfl)
      refine Vk.pures 3 [(25, .bool (decide (x2 > 1048576))), (24, .bool (decide (x2 > 1048576))), (23, .int .i64 x2)] hs (by kernel_rfl) fun a hs => ?_
      have hq := hs.pick [0, 1, 2, 8, 9, 10, 13, 14, 17, 18, 21, 22, 25] (L' := [(0, .int .i64 x0), (1, .pointer (some ⟨b_x1, 0, none⟩)), (2, .int .i64 x2), (8, .int .i64 x0), (9, .bool (x0 != 2)), (10, .bool (x0 != 2)), (13, .bool ((x0 != 2) && (x0 != 3))), (14, .bool ((x0 != 2) && (x0 != 3))), (17, .bool ((x0 != 2) && (x0 != 3))), (18, .bool ((x0 != 2) && (x0 != 3))), (21, .bool (((x0 != 2) && (x0 != 3)) || (decide (x2 < 0)))), (22, .bool false), (25, .bool (decide (x2 > 1048576)))]) (by kernel_rfl)
      exact hj_7 _ (hq.conv (by first | (rw [hb] <;> rfl) | rfl))
  intro a hs
  replace hs := hs.pick [0, 1, 2, 25] (L' := [(0, .int .i64 x0), (1, .pointer (some ⟨b_x1, 0, none⟩)), (2, .int .i64 x2), (25, .bool ((((x0 != 2) && (x0 != 3)) || (decide (x2 < 0))) || (decide (x2 > 1048576))))]) (by kernel_rfl)
  refine Vk.done (by kernel_rfl) ?_
  refine hK3 _ _ ?_
  clear hK3
  refine Vk.condS (b := (((x0 != 2) && (x0 != 3)) || (decide (x2 < 0))) || (decide (x2 > 1048576))) hs (by kernel_rfl) (by kernel_rfl) (fun hb => ?_) (fun hb => ?_)
  · replace hm := bif_t hm hb
    refine Vk.seq fun K8 hK8 => ?_
    refine Vk.region ?_
    refine Vk.pures 2 [(7, .int .i64 1), (6, .pointer none)] hs (by kernel_rfl) fun a hs => ?_
    replace hs := hs.pick [6, 7] (L' := [(6, .pointer none), (7, .int .i64 1)]) (by kernel_rfl)
    refine Vk.done (by kernel_rfl) ?_
    refine hK8 _ _ ?_
    clear hK8
    refine wp_ret ?_
    exact Vk.ret2 (P := Try.prog) (fn := Try.f57) (R := wire_New.R κ S x0 x1 x2 b_x1 A_x1owords c_x1owords r) (.pointer none) (.int .i64 1) hs rfl (by kernel_rfl) (by kernel_rfl) (by obtain rfl := Option.some.inj hm; exact (Or.inl ⟨_, rfl, A_x1owords, c_x1owords, rfl, (Own.to hs.own [0, 1] 2 (by kernel_rfl) (by kernel_rfl))⟩))
  · replace hm := bif_f hm hb
    refine wp_skip ?_
    refine hK2 _ _ ?_
    clear hK2
    refine Vk.seq fun K9 hK9 => ?_
    refine Vk.region ?_
    refine Vk.pures 4 [(29, .agg (vals [C.int .i64 x0, C.int .i64 x2, C.int .i64 0, C.int .i64 0, C.int .i64 0, C.bool false, C.int .i64 0, C.int .i64 0, C.int .i64 0, C.ptr (some ⟨b_x1, 0, none⟩), C.slc none 0 0, C.slc none 0 0, C.slc none 0 0])), (28, .pointer (some ⟨b_x1, 0, none⟩)), (27, .int .i64 x2), (26, .int .i64 x0)] hs (by kernel_rfl) fun a hs => ?_
    refine Vk.step (Vk.box (x := (.tmp 29)) 30 151 [C.int .i64 x0, C.int .i64 x2, C.int .i64 0, C.int .i64 0, C.int .i64 0, C.bool false, C.int .i64 0, C.int .i64 0, C.int .i64 0, C.ptr (some ⟨b_x1, 0, none⟩), C.slc none 0 0, C.slc none 0 0, C.slc none 0 0] hs (by kernel_rfl) (by kernel_rfl) (by kernel_rfl) fun b_10 w a hs => ?_)
    refine Vk.pures 2 [(7, .int .i64 0), (6, .pointer (some ⟨b_10, 0, none⟩))] hs (by kernel_rfl) fun a hs => ?_
    replace hs := hs.pick [6, 7] (L' := [(6, .pointer (some ⟨b_10, 0, none⟩)), (7, .int .i64 0)]) (by kernel_rfl)
    refine Vk.done (by kernel_rfl) ?_
    refine hK9 _ _ ?_
    clear hK9
    refine wp_ret ?_
    replace hs := hs.addRow none 32 6 Tapi_Op.cells
    replace hs := hs.addRow none 23 1 (eI .u64)
    replace hs := hs.addRow none 144 3 Tapi_Span.cells
    exact Vk.ret2 (P := Try.prog) (fn := Try.f57) (R := wire_New.R κ S x0 x1 x2 b_x1 A_x1owords c_x1owords r) (.pointer (some ⟨b_10, 0, none⟩)) (.int .i64 0) hs rfl (by kernel_rfl) (by kernel_rfl) (by obtain rfl := Option.some.inj hm; exact (Or.inr ⟨_, rfl, b_10, b_x1, A_x1owords, c_x1owords, none, 0, none, 0, none, 0, rfl, (Own.to hs.own [3, 4, 5, 2, 1, 0] 6 (by kernel_rfl) (by kernel_rfl))⟩))

structure Tvisorref19_M where
  n : Int
  most : Int
  words : Int
  draws : Int
  fromF : Int
  skip : Int
  kind : Int
  e : Int
  ops : List Tapi_Op
  blocks : List Tapi_Span
  val : List Int
  tape : Tvisorref02_T
  dry : Bool
  deriving Inhabited
def Tvisorref19_M.obj (x : Tvisorref19_M) (Aops : Option Addr) (cops : Nat) (Ablocks : Option Addr) (cblocks : Nat) (Aval : Option Addr) (cval : Nat) (Atapel : Option Addr) (ctapel : Nat) : Cells := [C.int .i64 x.n, C.int .i64 x.most, C.int .i64 x.words, C.int .i64 x.draws, C.int .i64 x.fromF, C.int .i64 x.skip, C.int .i64 x.kind, C.int .i64 x.e, C.slc Aops x.ops.length cops, C.slc Ablocks x.blocks.length cblocks, C.slc Aval x.val.length cval, C.slc Atapel x.tape.l.length ctapel, C.int .i64 x.tape.used, C.int .i64 x.tape.free, C.bool x.dry]

abbrev visorref19_New.R (κ : Ctx) (S : List HP) (x0 : Int) (x1 : List Int) (x2 : Int) (A_x1 : Option Addr) (c_x1 : Nat) (r : Tvisorref19_M) : Ending → World → Prop := fun e w' => ∃ (b_r0 : Nat), ∃ (A_r0oops : Option Addr), ∃ (c_r0oops : Nat), ∃ (A_r0oblocks : Option Addr), ∃ (c_r0oblocks : Nat), ∃ (A_r0oval : Option Addr), ∃ (c_r0oval : Nat), ∃ (A_r0otapel : Option Addr), ∃ (c_r0otapel : Nat), e = .returned (.pointer (some ⟨b_r0, 0, none⟩)) ∧ Own κ w' (pt b_r0 (blk (Tvisorref19_M.obj r A_r0oops c_r0oops A_r0oblocks c_r0oblocks A_r0oval c_r0oval A_r0otapel c_r0otapel) 123) :: rowp A_r0oops c_r0oops 32 6 Tapi_Op.cells r.ops :: rowp A_r0oblocks c_r0oblocks 144 3 Tapi_Span.cells r.blocks :: rowp A_r0oval c_r0oval 23 1 (eI .u64) r.val :: rdp κ A_r0otapel c_r0otapel 1 (eI .u64) r.tape.l :: S)
def visorref19_New.m (k : Nat) (x0 : Int) (x1 : List Int) (x2 : Int) : Option Tvisorref19_M := some (⟨x0, x2, 0, 0, 0, 0, 0, 0, ([] : List Tapi_Op), ([] : List Tapi_Span), ([] : List Int), (⟨x1, 0, ((x1.length : Nat) : Int)⟩ : Tvisorref02_T), false⟩ : Tvisorref19_M)

set_option maxRecDepth 100000 in
set_option maxHeartbeats 4000000 in
theorem visorref19_New.ok (k : Nat) (x0 : Int) (x1 : List Int) (x2 : Int) (r : Tvisorref19_M) (hm : visorref19_New.m k x0 x1 x2 = some r) (κ : Ctx) (w : World) (S : List HP) (A_x1 : Option Addr) (c_x1 : Nat) (ho : Own κ w (rdp κ A_x1 c_x1 1 (eI .u64) x1 :: S)) :
    Calls Try.prog 67 #[.int .i64 x0, .slice A_x1 x1.length c_x1, .int .i64 x2] w (visorref19_New.R κ S x0 x1 x2 A_x1 c_x1 r) := by
  unfold visorref19_New.m at hm
  refine Vk.enter [(0, .int .i64 x0), (1, .slice A_x1 x1.length c_x1), (2, .int .i64 x2)] Try.func67 rfl Try.ntmps67 (by kernel_rfl) (Nat.le_of_ble_eq_true (by kernel_rfl)) ho fun a hs => ?_
  refine Vk.seq fun K1 hK1 => ?_
  refine Vk.region ?_
  refine Vk.pures 1 [(6, .pointer none)] hs (by kernel_rfl) fun a hs => ?_
  replace hs := hs.pick [0, 1, 2] (L' := [(0, .int .i64 x0), (1, .slice A_x1 x1.length c_x1), (2, .int .i64 x2)]) (by kernel_rfl)
  refine Vk.done (by kernel_rfl) ?_
  refine hK1 _ _ ?_
  clear hK1
  refine Vk.seq fun K2 hK2 => ?_
  refine Vk.region ?_
  refine Vk.pures 7 [(13, .agg (vals [C.int .i64 x0, C.int .i64 x2, C.int .i64 0, C.int .i64 0, C.int .i64 0, C.int .i64 0, C.int .i64 0, C.int .i64 0, C.slc none 0 0, C.slc none 0 0, C.slc none 0 0, C.slc A_x1 x1.length c_x1, C.int .i64 0, C.int .i64 ((x1.length : Nat) : Int), C.bool false])), (12, .agg (vals [C.slc A_x1 x1.length c_x1, C.int .i64 0, C.int .i64 ((x1.length : Nat) : Int)])), (11, .int .i64 ((x1.length : Nat) : Int)), (10, .slice A_x1 x1.length c_x1), (9, .slice A_x1 x1.length c_x1), (8, .int .i64 x2), (7, .int .i64 x0)] hs (by kernel_rfl) fun a hs => ?_
  refine Vk.step (Vk.box (x := (.tmp 13)) 14 123 [C.int .i64 x0, C.int .i64 x2, C.int .i64 0, C.int .i64 0, C.int .i64 0, C.int .i64 0, C.int .i64 0, C.int .i64 0, C.slc none 0 0, C.slc none 0 0, C.slc none 0 0, C.slc A_x1 x1.length c_x1, C.int .i64 0, C.int .i64 ((x1.length : Nat) : Int), C.bool false] hs (by kernel_rfl) (by kernel_rfl) (by kernel_rfl) fun b_3 w a hs => ?_)
  refine Vk.pures 1 [(6, .pointer (some ⟨b_3, 0, none⟩))] hs (by kernel_rfl) fun a hs => ?_
  replace hs := hs.pick [6] (L' := [(6, .pointer (some ⟨b_3, 0, none⟩))]) (by kernel_rfl)
  refine Vk.done (by kernel_rfl) ?_
  refine hK2 _ _ ?_
  clear hK2
  refine wp_ret ?_
  replace hs := hs.addRow none 32 6 Tapi_Op.cells
  replace hs := hs.addRow none 144 3 Tapi_Span.cells
  replace hs := hs.addRow none 23 1 (eI .u64)
  exact Vk.ret1 (P := Try.prog) (fn := Try.f67) (R := visorref19_New.R κ S x0 x1 x2 A_x1 c_x1 r) (.pointer (some ⟨b_3, 0, none⟩)) hs rfl (by kernel_rfl) (by obtain rfl := Option.some.inj hm; exact ⟨b_3, none, 0, none, 0, none, 0, A_x1, c_x1, rfl, (Own.to hs.own [3, 2, 1, 0, 4] 5 (by kernel_rfl) (by kernel_rfl))⟩)


abbrev visorlaw20_Begins.R (κ : Ctx) (S : List HP) (x0 : Int) (x1 : List Int) (x2 : Int) (A_x1 : Option Addr) (c_x1 : Nat) (r : (Sum (Tvisorref19_M × List Cells × List Int) (Twire_Machine × Tvisorref19_M × List Cells × List Int × Bool))) : Ending → World → Prop := fun e w' => (∃ r', r = (Sum.inl r') ∧ ∃ (b_r0x : Nat), ∃ (A_r0xoops : Option Addr), ∃ (c_r0xoops : Nat), ∃ (A_r0xoblocks : Option Addr), ∃ (c_r0xoblocks : Nat), ∃ (A_r0xoval : Option Addr), ∃ (c_r0xoval : Nat), ∃ (A_r0xotapel : Option Addr), ∃ (c_r0xotapel : Nat), ∃ (A_r0l : Option Addr), ∃ (c_r0l : Nat), ∃ (A_r0v : Option Addr), ∃ (c_r0v : Nat), e = .returned (.tuple #[.agg (vals [C.ptr none, C.ptr (some ⟨b_r0x, 0, none⟩), C.slc A_r0l r'.2.1.length c_r0l, C.slc A_r0v r'.2.2.length c_r0v]), .bool false]) ∧ Own κ w' (pt b_r0x (blk (Tvisorref19_M.obj r'.1 A_r0xoops c_r0xoops A_r0xoblocks c_r0xoblocks A_r0xoval c_r0xoval A_r0xotapel c_r0xotapel) 123) :: rowp A_r0xoops c_r0xoops 32 6 Tapi_Op.cells r'.1.ops :: rowp A_r0xoblocks c_r0xoblocks 144 3 Tapi_Span.cells r'.1.blocks :: rowp A_r0xoval c_r0xoval 23 1 (eI .u64) r'.1.val :: rdp κ A_r0xotapel c_r0xotapel 1 (eI .u64) r'.1.tape.l :: rowp A_r0l c_r0l 65 3 eC r'.2.1 :: rowp A_r0v c_r0v 23 1 (eI .u64) r'.2.2 :: S)) ∨ (∃ r', r = (Sum.inr r') ∧ ∃ (b_r0m : Nat), ∃ (b_r0motape : Nat), ∃ (A_r0motapeowords : Option Addr), ∃ (c_r0motapeowords : Nat), ∃ (A_r0moops : Option Addr), ∃ (c_r0moops : Nat), ∃ (A_r0movalues : Option Addr), ∃ (c_r0movalues : Nat), ∃ (A_r0moblocks : Option Addr), ∃ (c_r0moblocks : Nat), ∃ (b_r0x : Nat), ∃ (A_r0xoops : Option Addr), ∃ (c_r0xoops : Nat), ∃ (A_r0xoblocks : Option Addr), ∃ (c_r0xoblocks : Nat), ∃ (A_r0xoval : Option Addr), ∃ (c_r0xoval : Nat), ∃ (A_r0xotapel : Option Addr), ∃ (c_r0xotapel : Nat), ∃ (A_r0l : Option Addr), ∃ (c_r0l : Nat), ∃ (A_r0v : Option Addr), ∃ (c_r0v : Nat), e = .returned (.tuple #[.agg (vals [C.ptr (some ⟨b_r0m, 0, none⟩), C.ptr (some ⟨b_r0x, 0, none⟩), C.slc A_r0l r'.2.2.1.length c_r0l, C.slc A_r0v r'.2.2.2.1.length c_r0v]), .bool r'.2.2.2.2]) ∧ Own κ w' (pt b_r0m (blk (Twire_Machine.obj r'.1 b_r0motape A_r0moops c_r0moops A_r0movalues c_r0movalues A_r0moblocks c_r0moblocks) 151) :: pt b_r0motape (blk (Ttape_Tape.obj r'.1.tape A_r0motapeowords c_r0motapeowords) 158) :: rowp A_r0motapeowords c_r0motapeowords 23 1 (eI .u64) r'.1.tape.words :: rowp A_r0moops c_r0moops 32 6 Tapi_Op.cells r'.1.ops :: rowp A_r0movalues c_r0movalues 23 1 (eI .u64) r'.1.values :: rowp A_r0moblocks c_r0moblocks 144 3 Tapi_Span.cells r'.1.blocks :: pt b_r0x (blk (Tvisorref19_M.obj r'.2.1 A_r0xoops c_r0xoops A_r0xoblocks c_r0xoblocks A_r0xoval c_r0xoval A_r0xotapel c_r0xotapel) 123) :: rowp A_r0xoops c_r0xoops 32 6 Tapi_Op.cells r'.2.1.ops :: rowp A_r0xoblocks c_r0xoblocks 144 3 Tapi_Span.cells r'.2.1.blocks :: rowp A_r0xoval c_r0xoval 23 1 (eI .u64) r'.2.1.val :: rdp κ A_r0xotapel c_r0xotapel 1 (eI .u64) r'.2.1.tape.l :: rowp A_r0l c_r0l 65 3 eC r'.2.2.1 :: rowp A_r0v c_r0v 23 1 (eI .u64) r'.2.2.2.1 :: S))
def visorlaw20_Begins.m (k : Nat) (x0 : Int) (x1 : List Int) (x2 : Int) : Option (Sum (Tvisorref19_M × List Cells × List Int) (Twire_Machine × Tvisorref19_M × List Cells × List Int × Bool)) := (tape_New.m k x1).bind fun v_6 => (tape_Tape_Reserve.m k v_6 ((x1.length : Nat) : Int)).bind fun v_13 => ((wire_New.m k x0 v_13.2 x2).bind fun v => match v with | (.inl v_20) => (visorref19_New.m k x0 x1 x2).bind fun v_37 => some (Sum.inl (v_37, ([] : List Cells), ([] : List Int))) | (.inr v_23) => (visorref19_New.m k x0 x1 x2).bind fun v_52 => some (Sum.inr (v_23.1, v_52, ([] : List Cells), ([] : List Int), (v_13.1 == 0) && (v_23.2 == 0))))

set_option maxRecDepth 100000 in
set_option maxHeartbeats 4000000 in
theorem visorlaw20_Begins.ok (k : Nat) (x0 : Int) (x1 : List Int) (x2 : Int) (r : (Sum (Tvisorref19_M × List Cells × List Int) (Twire_Machine × Tvisorref19_M × List Cells × List Int × Bool))) (hm : visorlaw20_Begins.m k x0 x1 x2 = some r) (κ : Ctx) (w : World) (S : List HP) (A_x1 : Option Addr) (c_x1 : Nat) (ho : Own κ w (rdp κ A_x1 c_x1 1 (eI .u64) x1 :: S)) :
    Calls Try.prog 51 #[.int .i64 x0, .slice A_x1 x1.length c_x1, .int .i64 x2] w (visorlaw20_Begins.R κ S x0 x1 x2 A_x1 c_x1 r) := by
  unfold visorlaw20_Begins.m at hm
  refine Vk.enter [(0, .int .i64 x0), (1, .slice A_x1 x1.length c_x1), (2, .int .i64 x2)] Try.func51 rfl Try.ntmps51 (by kernel_rfl) (Nat.le_of_ble_eq_true (by kernel_rfl)) ho fun a hs => ?_
  refine Vk.seq fun K1 hK1 => ?_
  refine Vk.region ?_
  refine Vk.step (Vk.alloc 6 98 [C.ptr none, C.ptr none, C.slc none 0 0, C.slc none 0 0] hs (by kernel_rfl) (by kernel_rfl) (by kernel_rfl) fun b_2 w a hs => ?_)
  refine Vk.pures 1 [(7, .bool false)] hs (by kernel_rfl) fun a hs => ?_
  replace hs := hs.pick [0, 1, 2, 6] (L' := [(0, .int .i64 x0), (1, .slice A_x1 x1.length c_x1), (2, .int .i64 x2), (6, .pointer (some ⟨b_2, 0, none⟩))]) (by kernel_rfl)
  refine Vk.done (by kernel_rfl) ?_
  refine hK1 _ _ ?_
  clear hK1
  refine Vk.seq fun K3 hK3 => ?_
  refine Vk.region ?_
  refine Vk.pures 1 [(12, .slice A_x1 x1.length c_x1)] hs (by kernel_rfl) fun a hs => ?_
  obtain ⟨v_6, h_5, hm⟩ := bind_t hm
  refine Vk.step (Vk.call (some 13) 54 #[.slice A_x1 x1.length c_x1] hs (by kernel_rfl) (by kernel_rfl) (by kernel_rfl) ?_)
  refine (tape_New.ok k x1 v_6 h_5 κ w (pt b_2 (blk [C.ptr none, C.ptr none, C.slc none 0 0, C.slc none 0 0] 98) :: rdp κ A_x1 c_x1 1 (eI .u64) x1 :: S) A_x1 c_x1 ((Own.rdSl 0 hs.own.drop rfl).less) hs.own).mono ?_
  rintro _ w ⟨br4x0_7, Ar4x0owords_8, cr4x0owords_9, rfl, how⟩
  refine ⟨_, _, _, rfl, how, fun a hs => ?_⟩
  refine Vk.pures 1 [(8, .pointer (some ⟨br4x0_7, 0, none⟩))] hs (by kernel_rfl) fun a hs => ?_
  replace hs := hs.pick [0, 1, 2, 6, 8] (L' := [(0, .int .i64 x0), (1, .slice A_x1 x1.length c_x1), (2, .int .i64 x2), (6, .pointer (some ⟨b_2, 0, none⟩)), (8, .pointer (some ⟨br4x0_7, 0, none⟩))]) (by kernel_rfl)
  refine Vk.done (by kernel_rfl) ?_
  refine hK3 _ _ ?_
  clear hK3
  refine Vk.seq fun K10 hK10 => ?_
  refine Vk.region ?_
  refine Vk.pures 3 [(16, .int .i64 ((x1.length : Nat) : Int)), (15, .slice A_x1 x1.length c_x1), (14, .pointer (some ⟨br4x0_7, 0, none⟩))] hs (by kernel_rfl) fun a hs => ?_
  obtain ⟨v_13, h_12, hm⟩ := bind_t hm
  refine Vk.step (Vk.call (some 17) 56 #[.pointer (some ⟨br4x0_7, 0, none⟩), .int .i64 ((x1.length : Nat) : Int)] hs (by kernel_rfl) (by kernel_rfl) (by kernel_rfl) ?_)
  refine (tape_Tape_Reserve.ok k v_6 ((x1.length : Nat) : Int) v_13 h_12 κ w (pt b_2 (blk [C.ptr none, C.ptr none, C.slc none 0 0, C.slc none 0 0] 98) :: rdp κ A_x1 c_x1 1 (eI .u64) x1 :: S) br4x0_7 Ar4x0owords_8 cr4x0owords_9 (Own.to hs.own [0, 1, 2, 3] 4 (by kernel_rfl) (by kernel_rfl))).mono ?_
  rintro _ w ⟨Ar11o0owords_14, cr11o0owords_15, rfl, how⟩
  refine ⟨_, _, _, rfl, how, fun a hs => ?_⟩
  refine Vk.pures 1 [(9, .int .i64 v_13.1)] hs (by kernel_rfl) fun a hs => ?_
  replace hs := hs.pick [0, 1, 2, 6, 8, 9] (L' := [(0, .int .i64 x0), (1, .slice A_x1 x1.length c_x1), (2, .int .i64 x2), (6, .pointer (some ⟨b_2, 0, none⟩)), (8, .pointer (some ⟨br4x0_7, 0, none⟩)), (9, .int .i64 v_13.1)]) (by kernel_rfl)
  refine Vk.done (by kernel_rfl) ?_
  refine hK10 _ _ ?_
  clear hK10
  refine Vk.seq fun K16 hK16 => ?_
  refine Vk.region ?_
  refine Vk.pures 3 [(21, .int .i64 x2), (20, .pointer (some ⟨br4x0_7, 0, none⟩)), (19, .int .i64 x0)] hs (by kernel_rfl) fun a hs => ?_
  obtain ⟨v_19, h_18, hm⟩ := bind_t hm
  refine Vk.step (Vk.call (some 22) 57 #[.int .i64 x0, .pointer (some ⟨br4x0_7, 0, none⟩), .int .i64 x2] hs (by kernel_rfl) (by kernel_rfl) (by kernel_rfl) ?_)
  refine (wire_New.ok k x0 v_13.2 x2 v_19 h_18 κ w (pt b_2 (blk [C.ptr none, C.ptr none, C.slc none 0 0, C.slc none 0 0] 98) :: rdp κ A_x1 c_x1 1 (eI .u64) x1 :: S) br4x0_7 Ar11o0owords_14 cr11o0owords_15 (Own.to hs.own [0, 1, 2, 3] 4 (by kernel_rfl) (by kernel_rfl))).mono ?_
  rintro _ w (⟨v_20, rfl, Ar17o0owords_21, cr17o0owords_22, rfl, how⟩ | ⟨v_23, rfl, br17x0_24, br17x0otape_25, Ar17x0otapeowords_26, cr17x0otapeowords_27, Ar17x0oops_28, cr17x0oops_29, Ar17x0ovalues_30, cr17x0ovalues_31, Ar17x0oblocks_32, cr17x0oblocks_33, rfl, how⟩)
  · dsimp only at hm
    refine ⟨_, _, _, rfl, how, fun a hs => ?_⟩
    refine Vk.pures 5 [(11, .int .i64 v_20.1), (10, .pointer none), (24, .int .i64 v_20.1), (23, .pointer none), (18, .tuple #[.pointer none, .int .i64 v_20.1])] hs (by kernel_rfl) fun a hs => ?_
    replace hs := hs.pick [0, 1, 2, 6, 9, 10, 11] (L' := [(0, .int .i64 x0), (1, .slice A_x1 x1.length c_x1), (2, .int .i64 x2), (6, .pointer (some ⟨b_2, 0, none⟩)), (9, .int .i64 v_13.1), (10, .pointer none), (11, .int .i64 v_20.1)]) (by kernel_rfl)
    refine Vk.done (by kernel_rfl) ?_
    refine hK16 _ _ ?_
    refine Vk.seq fun K34 hK34 => ?_
    refine Vk.region ?_
    refine Vk.pures 4 [(28, .int .i64 x2), (27, .slice A_x1 x1.length c_x1), (26, .int .i64 x0), (25, .pointer none)] hs (by kernel_rfl) fun a hs => ?_
    obtain ⟨v_37, h_36, hm⟩ := bind_t hm
    refine Vk.step (Vk.call (some 29) 67 #[.int .i64 x0, .slice A_x1 x1.length c_x1, .int .i64 x2] hs (by kernel_rfl) (by kernel_rfl) (by kernel_rfl) ?_)
    refine (visorref19_New.ok k x0 x1 x2 v_37 h_36 κ w (pt br4x0_7 (blk (Ttape_Tape.obj v_20.2 Ar17o0owords_21 cr17o0owords_22) 158) :: rowp Ar17o0owords_21 cr17o0owords_22 23 1 (eI .u64) v_20.2.words :: pt b_2 (blk [C.ptr none, C.ptr none, C.slc none 0 0, C.slc none 0 0] 98) :: S) A_x1 c_x1 (Own.to hs.own [3, 0, 1, 2] 4 (by kernel_rfl) (by kernel_rfl))).mono ?_
    rintro _ w ⟨br35x0_38, Ar35x0oops_39, cr35x0oops_40, Ar35x0oblocks_41, cr35x0oblocks_42, Ar35x0oval_43, cr35x0oval_44, Ar35x0otapel_45, cr35x0otapel_46, rfl, how⟩
    refine ⟨_, _, _, rfl, how, fun a hs => ?_⟩
    refine Vk.pures 4 [(33, .bool (v_13.1 == 0)), (32, .bool (v_13.1 == 0)), (31, .int .i64 v_13.1), (30, .agg (vals [C.ptr none, C.ptr (some ⟨br35x0_38, 0, none⟩), C.slc none 0 0, C.slc none 0 0]))] hs (by kernel_rfl) fun a hs => ?_
    suffices hj_47 : ∀ a, St 41 a w κ [(0, .int .i64 x0), (1, .slice A_x1 x1.length c_x1), (2, .int .i64 x2), (6, .pointer (some ⟨b_2, 0, none⟩)), (9, .int .i64 v_13.1), (10, .pointer none), (11, .int .i64 v_20.1), (25, .pointer none), (26, .int .i64 x0), (27, .slice A_x1 x1.length c_x1), (28, .int .i64 x2), (29, .pointer (some ⟨br35x0_38, 0, none⟩)), (30, .agg (vals [C.ptr none, C.ptr (some ⟨br35x0_38, 0, none⟩), C.slc none 0 0, C.slc none 0 0])), (31, .int .i64 v_13.1), (32, .bool (v_13.1 == 0)), (33, .bool (v_13.1 == 0)), (36, .bool ((v_13.1 == 0) && (v_20.1 == 0)))] (pt br35x0_38 (blk (Tvisorref19_M.obj v_37 Ar35x0oops_39 cr35x0oops_40 Ar35x0oblocks_41 cr35x0oblocks_42 Ar35x0oval_43 cr35x0oval_44 Ar35x0otapel_45 cr35x0otapel_46) 123) :: rowp Ar35x0oops_39 cr35x0oops_40 32 6 Tapi_Op.cells v_37.ops :: rowp Ar35x0oblocks_41 cr35x0oblocks_42 144 3 Tapi_Span.cells v_37.blocks :: rowp Ar35x0oval_43 cr35x0oval_44 23 1 (eI .u64) v_37.val :: rdp κ Ar35x0otapel_45 cr35x0otapel_46 1 (eI .u64) v_37.tape.l :: pt br4x0_7 (blk (Ttape_Tape.obj v_20.2 Ar17o0owords_21 cr17o0owords_22) 158) :: rowp Ar17o0owords_21 cr17o0owords_22 23 1 (eI .u64) v_20.2.words :: pt b_2 (blk [C.ptr none, C.ptr none, C.slc none 0 0, C.slc none 0 0] 98) :: S) → wpFrom Try.prog _ _ 12 a w by
      rcases Bool.eq_false_or_eq_true (v_13.1 == 0) with hb | hb
      · replace hs := hs.known (t := 33) hb (by kernel_rfl)
        refine Vk.pures 3 [(36, .bool (v_20.1 == 0)), (35, .bool (v_20.1 == 0)), (34, .int .i64 v_20.1)] hs (by kernel_rfl) fun a hs => ?_
        have hq := hs.pick [0, 1, 2, 6, 9, 10, 11, 25, 26, 27, 28, 29, 30, 31, 32, 33, 36] (L' := [(0, .int .i64 x0), (1, .slice A_x1 x1.length c_x1), (2, .int .i64 x2), (6, .pointer (some ⟨b_2, 0, none⟩)), (9, .int .i64 v_13.1), (10, .pointer none), (11, .int .i64 v_20.1), (25, .pointer none), (26, .int .i64 x0), (27, .slice A_x1 x1.length c_x1), (28, .int .i64 x2), (29, .pointer (some ⟨br35x0_38, 0, none⟩)), (30, .agg (vals [C.ptr none, C.ptr (some ⟨br35x0_38, 0, none⟩), C.slc none 0 0, C.slc none 0 0])), (31, .int .i64 v_13.1), (32, .bool (v_13.1 == 0)), (33, .bool true), (36, .bool (v_20.1 == 0))]) (by kernel_rfl)
        exact hj_47 _ (hq.conv (by first | (rw [hb] <;> rfl) | rfl))
      · replace hs := hs.known (t := 33) hb (by kernel_rfl)
        refine Vk.pures 3 [(36, .bool false), (35, undef), (34, undef)] hs (by kernel_rfl) fun a hs => ?_
        have hq := hs.pick [0, 1, 2, 6, 9, 10, 11, 25, 26, 27, 28, 29, 30, 31, 32, 33, 36] (L' := [(0, .int .i64 x0), (1, .slice A_x1 x1.length c_x1), (2, .int .i64 x2), (6, .pointer (some ⟨b_2, 0, none⟩)), (9, .int .i64 v_13.1), (10, .pointer none), (11, .int .i64 v_20.1), (25, .pointer none), (26, .int .i64 x0), (27, .slice A_x1 x1.length c_x1), (28, .int .i64 x2), (29, .pointer (some ⟨br35x0_38, 0, none⟩)), (30, .agg (vals [C.ptr none, C.ptr (some ⟨br35x0_38, 0, none⟩), C.slc none 0 0, C.slc none 0 0])), (31, .int .i64 v_13.1), (32, .bool (v_13.1 == 0)), (33, .bool false), (36, .bool false)]) (by kernel_rfl)
        exact hj_47 _ (hq.conv (by first | (rw [hb] <;> rfl) | rfl))
    intro a hs
    refine Vk.pures 1 [(37, .bool ((v_13.1 == 0) && (v_20.1 == 0)))] hs (by kernel_rfl) fun a hs => ?_
    suffices hj_48 : ∀ a, St 41 a w κ [(0, .int .i64 x0), (1, .slice A_x1 x1.length c_x1), (2, .int .i64 x2), (6, .pointer (some ⟨b_2, 0, none⟩)), (9, .int .i64 v_13.1), (10, .pointer none), (11, .int .i64 v_20.1), (25, .pointer none), (26, .int .i64 x0), (27, .slice A_x1 x1.length c_x1), (28, .int .i64 x2), (29, .pointer (some ⟨br35x0_38, 0, none⟩)), (30, .agg (vals [C.ptr none, C.ptr (some ⟨br35x0_38, 0, none⟩), C.slc none 0 0, C.slc none 0 0])), (31, .int .i64 v_13.1), (32, .bool (v_13.1 == 0)), (33, .bool (v_13.1 == 0)), (36, .bool ((v_13.1 == 0) && (v_20.1 == 0))), (37, .bool ((v_13.1 == 0) && (v_20.1 == 0))), (40, .bool false)] (pt br35x0_38 (blk (Tvisorref19_M.obj v_37 Ar35x0oops_39 cr35x0oops_40 Ar35x0oblocks_41 cr35x0oblocks_42 Ar35x0oval_43 cr35x0oval_44 Ar35x0otapel_45 cr35x0otapel_46) 123) :: rowp Ar35x0oops_39 cr35x0oops_40 32 6 Tapi_Op.cells v_37.ops :: rowp Ar35x0oblocks_41 cr35x0oblocks_42 144 3 Tapi_Span.cells v_37.blocks :: rowp Ar35x0oval_43 cr35x0oval_44 23 1 (eI .u64) v_37.val :: rdp κ Ar35x0otapel_45 cr35x0otapel_46 1 (eI .u64) v_37.tape.l :: pt br4x0_7 (blk (Ttape_Tape.obj v_20.2 Ar17o0owords_21 cr17o0owords_22) 158) :: rowp Ar17o0owords_21 cr17o0owords_22 23 1 (eI .u64) v_20.2.words :: pt b_2 (blk [C.ptr none, C.ptr none, C.slc none 0 0, C.slc none 0 0] 98) :: S) → wpFrom Try.prog _ _ 16 a w by
      rcases Bool.eq_false_or_eq_true ((v_13.1 == 0) && (v_20.1 == 0)) with hb | hb
      · replace hs := hs.known (t := 37) hb (by kernel_rfl)
        refine Vk.pures 3 [(40, .bool false), (39, .bool false), (38, .pointer none)] hs (by kernel_rfl) fun a hs => ?_
        have hq := hs.pick [0, 1, 2, 6, 9, 10, 11, 25, 26, 27, 28, 29, 30, 31, 32, 33, 36, 37, 40] (L' := [(0, .int .i64 x0), (1, .slice A_x1 x1.length c_x1), (2, .int .i64 x2), (6, .pointer (some ⟨b_2, 0, none⟩)), (9, .int .i64 v_13.1), (10, .pointer none), (11, .int .i64 v_20.1), (25, .pointer none), (26, .int .i64 x0), (27, .slice A_x1 x1.length c_x1), (28, .int .i64 x2), (29, .pointer (some ⟨br35x0_38, 0, none⟩)), (30, .agg (vals [C.ptr none, C.ptr (some ⟨br35x0_38, 0, none⟩), C.slc none 0 0, C.slc none 0 0])), (31, .int .i64 v_13.1), (32, .bool (v_13.1 == 0)), (33, .bool (v_13.1 == 0)), (36, .bool ((v_13.1 == 0) && (v_20.1 == 0))), (37, .bool true), (40, .bool false)]) (by kernel_rfl)
        exact hj_48 _ (hq.conv (by first | (rw [hb] <;> rfl) | rfl))
      · replace hs := hs.known (t := 37) hb (by kernel_rfl)
        refine Vk.pures 3 [(40, .bool false), (39, undef), (38, undef)] hs (by kernel_rfl) fun a hs => ?_
        have hq := hs.pick [0, 1, 2, 6, 9, 10, 11, 25, 26, 27, 28, 29, 30, 31, 32, 33, 36, 37, 40] (L' := [(0, .int .i64 x0), (1, .slice A_x1 x1.length c_x1), (2, .int .i64 x2), (6, .pointer (some ⟨b_2, 0, none⟩)), (9, .int .i64 v_13.1), (10, .pointer none), (11, .int .i64 v_20.1), (25, .pointer none), (26, .int .i64 x0), (27, .slice A_x1 x1.length c_x1), (28, .int .i64 x2), (29, .pointer (some ⟨br35x0_38, 0, none⟩)), (30, .agg (vals [C.ptr none, C.ptr (some ⟨br35x0_38, 0, none⟩), C.slc none 0 0, C.slc none 0 0])), (31, .int .i64 v_13.1), (32, .bool (v_13.1 == 0)), (33, .bool (v_13.1 == 0)), (36, .bool ((v_13.1 == 0) && (v_20.1 == 0))), (37, .bool false), (40, .bool false)]) (by kernel_rfl)
        exact hj_48 _ (hq.conv (by first | (rw [hb] <;> rfl) | rfl))
    intro a hs
    refine Vk.step (Vk.storeA (b := b_2) (ty := 98) (x := (.tmp 6)) (y := (.tmp 30)) (sz := 4) [C.ptr none, C.ptr (some ⟨br35x0_38, 0, none⟩), C.slc none 0 0, C.slc none 0 0] 7 hs (by kernel_rfl) (by kernel_rfl) (by kernel_rfl) (by kernel_rfl) (by kernel_rfl) rfl (by kernel_rfl) rfl (Eq.trans (b := 4) rfl (Eq.symm rfl)) fun a w hs => ?_)
    refine Vk.pures 1 [(7, .bool false)] hs (by kernel_rfl) fun a hs => ?_
    replace hs := hs.pick [6, 7] (L' := [(6, .pointer (some ⟨b_2, 0, none⟩)), (7, .bool false)]) (by kernel_rfl)
    refine Vk.done (by kernel_rfl) ?_
    refine hK34 _ _ ?_
    clear hK34
    refine wp_ret ?_
    replace hs := hs.addRow none 65 3 eC
    replace hs := hs.addRow none 23 1 (eI .u64)
    exact Vk.retCT (P := Try.prog) (fn := Try.f51) (R := visorlaw20_Begins.R κ S x0 x1 x2 A_x1 c_x1 r) ([C.ptr none, C.ptr (some ⟨br35x0_38, 0, none⟩), C.slc none (([] : List Cells).length) 0, C.slc none (([] : List Int).length) 0]) (.bool false) hs rfl (by kernel_rfl) (sz := 4) (by kernel_rfl) rfl (CellsAt.all 9 rfl) (by kernel_rfl) (by obtain rfl := Option.some.inj hm; exact (Or.inl ⟨_, rfl, br35x0_38, Ar35x0oops_39, cr35x0oops_40, Ar35x0oblocks_41, cr35x0oblocks_42, Ar35x0oval_43, cr35x0oval_44, Ar35x0otapel_45, cr35x0otapel_46, none, 0, none, 0, rfl, (Own.to hs.own [2, 3, 4, 5, 6, 1, 0] 10 (by kernel_rfl) (by kernel_rfl))⟩))
  · dsimp only at hm
    refine ⟨_, _, _, rfl, how, fun a hs => ?_⟩
    refine Vk.pures 5 [(11, .int .i64 v_23.2), (10, .pointer (some ⟨br17x0_24, 0, none⟩)), (24, .int .i64 v_23.2), (23, .pointer (some ⟨br17x0_24, 0, none⟩)), (18, .tuple #[.pointer (some ⟨br17x0_24, 0, none⟩), .int .i64 v_23.2])] hs (by kernel_rfl) fun a hs => ?_
    replace hs := hs.pick [0, 1, 2, 6, 9, 10, 11] (L' := [(0, .int .i64 x0), (1, .slice A_x1 x1.length c_x1), (2, .int .i64 x2), (6, .pointer (some ⟨b_2, 0, none⟩)), (9, .int .i64 v_13.1), (10, .pointer (some ⟨br17x0_24, 0, none⟩)), (11, .int .i64 v_23.2)]) (by kernel_rfl)
    refine Vk.done (by kernel_rfl) ?_
    refine hK16 _ _ ?_
    refine Vk.seq fun K49 hK49 => ?_
    refine Vk.region ?_
    refine Vk.pures 4 [(28, .int .i64 x2), (27, .slice A_x1 x1.length c_x1), (26, .int .i64 x0), (25, .pointer (some ⟨br17x0_24, 0, none⟩))] hs (by kernel_rfl) fun a hs => ?_
    obtain ⟨v_52, h_51, hm⟩ := bind_t hm
    refine Vk.step (Vk.call (some 29) 67 #[.int .i64 x0, .slice A_x1 x1.length c_x1, .int .i64 x2] hs (by kernel_rfl) (by kernel_rfl) (by kernel_rfl) ?_)
    refine (visorref19_New.ok k x0 x1 x2 v_52 h_51 κ w (pt br17x0_24 (blk (Twire_Machine.obj v_23.1 br17x0otape_25 Ar17x0oops_28 cr17x0oops_29 Ar17x0ovalues_30 cr17x0ovalues_31 Ar17x0oblocks_32 cr17x0oblocks_33) 151) :: pt br17x0otape_25 (blk (Ttape_Tape.obj v_23.1.tape Ar17x0otapeowords_26 cr17x0otapeowords_27) 158) :: rowp Ar17x0otapeowords_26 cr17x0otapeowords_27 23 1 (eI .u64) v_23.1.tape.words :: rowp Ar17x0oops_28 cr17x0oops_29 32 6 Tapi_Op.cells v_23.1.ops :: rowp Ar17x0ovalues_30 cr17x0ovalues_31 23 1 (eI .u64) v_23.1.values :: rowp Ar17x0oblocks_32 cr17x0oblocks_33 144 3 Tapi_Span.cells v_23.1.blocks :: pt b_2 (blk [C.ptr none, C.ptr none, C.slc none 0 0, C.slc none 0 0] 98) :: S) A_x1 c_x1 (Own.to hs.own [7, 0, 1, 2, 3, 4, 5, 6] 8 (by kernel_rfl) (by kernel_rfl))).mono ?_
    rintro _ w ⟨br50x0_53, Ar50x0oops_54, cr50x0oops_55, Ar50x0oblocks_56, cr50x0oblocks_57, Ar50x0oval_58, cr50x0oval_59, Ar50x0otapel_60, cr50x0otapel_61, rfl, how⟩
    refine ⟨_, _, _, rfl, how, fun a hs => ?_⟩
    refine Vk.pures 4 [(33, .bool (v_13.1 == 0)), (32, .bool (v_13.1 == 0)), (31, .int .i64 v_13.1), (30, .agg (vals [C.ptr (some ⟨br17x0_24, 0, none⟩), C.ptr (some ⟨br50x0_53, 0, none⟩), C.slc none 0 0, C.slc none 0 0]))] hs (by kernel_rfl) fun a hs => ?_
    suffices hj_62 : ∀ a, St 41 a w κ [(0, .int .i64 x0), (1, .slice A_x1 x1.length c_x1), (2, .int .i64 x2), (6, .pointer (some ⟨b_2, 0, none⟩)), (9, .int .i64 v_13.1), (10, .pointer (some ⟨br17x0_24, 0, none⟩)), (11, .int .i64 v_23.2), (25, .pointer (some ⟨br17x0_24, 0, none⟩)), (26, .int .i64 x0), (27, .slice A_x1 x1.length c_x1), (28, .int .i64 x2), (29, .pointer (some ⟨br50x0_53, 0, none⟩)), (30, .agg (vals [C.ptr (some ⟨br17x0_24, 0, none⟩), C.ptr (some ⟨br50x0_53, 0, none⟩), C.slc none 0 0, C.slc none 0 0])), (31, .int .i64 v_13.1), (32, .bool (v_13.1 == 0)), (33, .bool (v_13.1 == 0)), (36, .bool ((v_13.1 == 0) && (v_23.2 == 0)))] (pt br50x0_53 (blk (Tvisorref19_M.obj v_52 Ar50x0oops_54 cr50x0oops_55 Ar50x0oblocks_56 cr50x0oblocks_57 Ar50x0oval_58 cr50x0oval_59 Ar50x0otapel_60 cr50x0otapel_61) 123) :: rowp Ar50x0oops_54 cr50x0oops_55 32 6 Tapi_Op.cells v_52.ops :: rowp Ar50x0oblocks_56 cr50x0oblocks_57 144 3 Tapi_Span.cells v_52.blocks :: rowp Ar50x0oval_58 cr50x0oval_59 23 1 (eI .u64) v_52.val :: rdp κ Ar50x0otapel_60 cr50x0otapel_61 1 (eI .u64) v_52.tape.l :: pt br17x0_24 (blk (Twire_Machine.obj v_23.1 br17x0otape_25 Ar17x0oops_28 cr17x0oops_29 Ar17x0ovalues_30 cr17x0ovalues_31 Ar17x0oblocks_32 cr17x0oblocks_33) 151) :: pt br17x0otape_25 (blk (Ttape_Tape.obj v_23.1.tape Ar17x0otapeowords_26 cr17x0otapeowords_27) 158) :: rowp Ar17x0otapeowords_26 cr17x0otapeowords_27 23 1 (eI .u64) v_23.1.tape.words :: rowp Ar17x0oops_28 cr17x0oops_29 32 6 Tapi_Op.cells v_23.1.ops :: rowp Ar17x0ovalues_30 cr17x0ovalues_31 23 1 (eI .u64) v_23.1.values :: rowp Ar17x0oblocks_32 cr17x0oblocks_33 144 3 Tapi_Span.cells v_23.1.blocks :: pt b_2 (blk [C.ptr none, C.ptr none, C.slc none 0 0, C.slc none 0 0] 98) :: S) → wpFrom Try.prog _ _ 12 a w by
      rcases Bool.eq_false_or_eq_true (v_13.1 == 0) with hb | hb
      · replace hs := hs.known (t := 33) hb (by kernel_rfl)
        refine Vk.pures 3 [(36, .bool (v_23.2 == 0)), (35, .bool (v_23.2 == 0)), (34, .int .i64 v_23.2)] hs (by kernel_rfl) fun a hs => ?_
        have hq := hs.pick [0, 1, 2, 6, 9, 10, 11, 25, 26, 27, 28, 29, 30, 31, 32, 33, 36] (L' := [(0, .int .i64 x0), (1, .slice A_x1 x1.length c_x1), (2, .int .i64 x2), (6, .pointer (some ⟨b_2, 0, none⟩)), (9, .int .i64 v_13.1), (10, .pointer (some ⟨br17x0_24, 0, none⟩)), (11, .int .i64 v_23.2), (25, .pointer (some ⟨br17x0_24, 0, none⟩)), (26, .int .i64 x0), (27, .slice A_x1 x1.length c_x1), (28, .int .i64 x2), (29, .pointer (some ⟨br50x0_53, 0, none⟩)), (30, .agg (vals [C.ptr (some ⟨br17x0_24, 0, none⟩), C.ptr (some ⟨br50x0_53, 0, none⟩), C.slc none 0 0, C.slc none 0 0])), (31, .int .i64 v_13.1), (32, .bool (v_13.1 == 0)), (33, .bool true), (36, .bool (v_23.2 == 0))]) (by kernel_rfl)
        exact hj_62 _ (hq.conv (by first | (rw [hb] <;> rfl) | rfl))
      · replace hs := hs.known (t := 33) hb (by kernel_rfl)
        refine Vk.pures 3 [(36, .bool false), (35, undef), (34, undef)] hs (by kernel_rfl) fun a hs => ?_
        have hq := hs.pick [0, 1, 2, 6, 9, 10, 11, 25, 26, 27, 28, 29, 30, 31, 32, 33, 36] (L' := [(0, .int .i64 x0), (1, .slice A_x1 x1.length c_x1), (2, .int .i64 x2), (6, .pointer (some ⟨b_2, 0, none⟩)), (9, .int .i64 v_13.1), (10, .pointer (some ⟨br17x0_24, 0, none⟩)), (11, .int .i64 v_23.2), (25, .pointer (some ⟨br17x0_24, 0, none⟩)), (26, .int .i64 x0), (27, .slice A_x1 x1.length c_x1), (28, .int .i64 x2), (29, .pointer (some ⟨br50x0_53, 0, none⟩)), (30, .agg (vals [C.ptr (some ⟨br17x0_24, 0, none⟩), C.ptr (some ⟨br50x0_53, 0, none⟩), C.slc none 0 0, C.slc none 0 0])), (31, .int .i64 v_13.1), (32, .bool (v_13.1 == 0)), (33, .bool false), (36, .bool false)]) (by kernel_rfl)
        exact hj_62 _ (hq.conv (by first | (rw [hb] <;> rfl) | rfl))
    intro a hs
    refine Vk.pures 1 [(37, .bool ((v_13.1 == 0) && (v_23.2 == 0)))] hs (by kernel_rfl) fun a hs => ?_
    suffices hj_63 : ∀ a, St 41 a w κ [(0, .int .i64 x0), (1, .slice A_x1 x1.length c_x1), (2, .int .i64 x2), (6, .pointer (some ⟨b_2, 0, none⟩)), (9, .int .i64 v_13.1), (10, .pointer (some ⟨br17x0_24, 0, none⟩)), (11, .int .i64 v_23.2), (25, .pointer (some ⟨br17x0_24, 0, none⟩)), (26, .int .i64 x0), (27, .slice A_x1 x1.length c_x1), (28, .int .i64 x2), (29, .pointer (some ⟨br50x0_53, 0, none⟩)), (30, .agg (vals [C.ptr (some ⟨br17x0_24, 0, none⟩), C.ptr (some ⟨br50x0_53, 0, none⟩), C.slc none 0 0, C.slc none 0 0])), (31, .int .i64 v_13.1), (32, .bool (v_13.1 == 0)), (33, .bool (v_13.1 == 0)), (36, .bool ((v_13.1 == 0) && (v_23.2 == 0))), (37, .bool ((v_13.1 == 0) && (v_23.2 == 0))), (40, .bool ((v_13.1 == 0) && (v_23.2 == 0)))] (pt br50x0_53 (blk (Tvisorref19_M.obj v_52 Ar50x0oops_54 cr50x0oops_55 Ar50x0oblocks_56 cr50x0oblocks_57 Ar50x0oval_58 cr50x0oval_59 Ar50x0otapel_60 cr50x0otapel_61) 123) :: rowp Ar50x0oops_54 cr50x0oops_55 32 6 Tapi_Op.cells v_52.ops :: rowp Ar50x0oblocks_56 cr50x0oblocks_57 144 3 Tapi_Span.cells v_52.blocks :: rowp Ar50x0oval_58 cr50x0oval_59 23 1 (eI .u64) v_52.val :: rdp κ Ar50x0otapel_60 cr50x0otapel_61 1 (eI .u64) v_52.tape.l :: pt br17x0_24 (blk (Twire_Machine.obj v_23.1 br17x0otape_25 Ar17x0oops_28 cr17x0oops_29 Ar17x0ovalues_30 cr17x0ovalues_31 Ar17x0oblocks_32 cr17x0oblocks_33) 151) :: pt br17x0otape_25 (blk (Ttape_Tape.obj v_23.1.tape Ar17x0otapeowords_26 cr17x0otapeowords_27) 158) :: rowp Ar17x0otapeowords_26 cr17x0otapeowords_27 23 1 (eI .u64) v_23.1.tape.words :: rowp Ar17x0oops_28 cr17x0oops_29 32 6 Tapi_Op.cells v_23.1.ops :: rowp Ar17x0ovalues_30 cr17x0ovalues_31 23 1 (eI .u64) v_23.1.values :: rowp Ar17x0oblocks_32 cr17x0oblocks_33 144 3 Tapi_Span.cells v_23.1.blocks :: pt b_2 (blk [C.ptr none, C.ptr none, C.slc none 0 0, C.slc none 0 0] 98) :: S) → wpFrom Try.prog _ _ 16 a w by
      rcases Bool.eq_false_or_eq_true ((v_13.1 == 0) && (v_23.2 == 0)) with hb | hb
      · replace hs := hs.known (t := 37) hb (by kernel_rfl)
        refine Vk.pures 3 [(40, .bool true), (39, .bool true), (38, .pointer (some ⟨br17x0_24, 0, none⟩))] hs (by kernel_rfl) fun a hs => ?_
        have hq := hs.pick [0, 1, 2, 6, 9, 10, 11, 25, 26, 27, 28, 29, 30, 31, 32, 33, 36, 37, 40] (L' := [(0, .int .i64 x0), (1, .slice A_x1 x1.length c_x1), (2, .int .i64 x2), (6, .pointer (some ⟨b_2, 0, none⟩)), (9, .int .i64 v_13.1), (10, .pointer (some ⟨br17x0_24, 0, none⟩)), (11, .int .i64 v_23.2), (25, .pointer (some ⟨br17x0_24, 0, none⟩)), (26, .int .i64 x0), (27, .slice A_x1 x1.length c_x1), (28, .int .i64 x2), (29, .pointer (some ⟨br50x0_53, 0, none⟩)), (30, .agg (vals [C.ptr (some ⟨br17x0_24, 0, none⟩), C.ptr (some ⟨br50x0_53, 0, none⟩), C.slc none 0 0, C.slc none 0 0])), (31, .int .i64 v_13.1), (32, .bool (v_13.1 == 0)), (33, .bool (v_13.1 == 0)), (36, .bool ((v_13.1 == 0) && (v_23.2 == 0))), (37, .bool true), (40, .bool true)]) (by kernel_rfl)
        exact hj_63 _ (hq.conv (by first | (rw [hb] <;> rfl) | rfl))
      · replace hs := hs.known (t := 37) hb (by kernel_rfl)
        refine Vk.pures 3 [(40, .bool false), (39, undef), (38, undef)] hs (by kernel_rfl) fun a hs => ?_
        have hq := hs.pick [0, 1, 2, 6, 9, 10, 11, 25, 26, 27, 28, 29, 30, 31, 32, 33, 36, 37, 40] (L' := [(0, .int .i64 x0), (1, .slice A_x1 x1.length c_x1), (2, .int .i64 x2), (6, .pointer (some ⟨b_2, 0, none⟩)), (9, .int .i64 v_13.1), (10, .pointer (some ⟨br17x0_24, 0, none⟩)), (11, .int .i64 v_23.2), (25, .pointer (some ⟨br17x0_24, 0, none⟩)), (26, .int .i64 x0), (27, .slice A_x1 x1.length c_x1), (28, .int .i64 x2), (29, .pointer (some ⟨br50x0_53, 0, none⟩)), (30, .agg (vals [C.ptr (some ⟨br17x0_24, 0, none⟩), C.ptr (some ⟨br50x0_53, 0, none⟩), C.slc none 0 0, C.slc none 0 0])), (31, .int .i64 v_13.1), (32, .bool (v_13.1 == 0)), (33, .bool (v_13.1 == 0)), (36, .bool ((v_13.1 == 0) && (v_23.2 == 0))), (37, .bool false), (40, .bool false)]) (by kernel_rfl)
        exact hj_63 _ (hq.conv (by first | (rw [hb] <;> rfl) | rfl))
    intro a hs
    refine Vk.step (Vk.storeA (b := b_2) (ty := 98) (x := (.tmp 6)) (y := (.tmp 30)) (sz := 4) [C.ptr (some ⟨br17x0_24, 0, none⟩), C.ptr (some ⟨br50x0_53, 0, none⟩), C.slc none 0 0, C.slc none 0 0] 11 hs (by kernel_rfl) (by kernel_rfl) (by kernel_rfl) (by kernel_rfl) (by kernel_rfl) rfl (by kernel_rfl) rfl (Eq.trans (b := 4) rfl (Eq.symm rfl)) fun a w hs => ?_)
    refine Vk.pures 1 [(7, .bool ((v_13.1 == 0) && (v_23.2 == 0)))] hs (by kernel_rfl) fun a hs => ?_
    replace hs := hs.pick [6, 7] (L' := [(6, .pointer (some ⟨b_2, 0, none⟩)), (7, .bool ((v_13.1 == 0) && (v_23.2 == 0)))]) (by kernel_rfl)
    refine Vk.done (by kernel_rfl) ?_
    refine hK49 _ _ ?_
    clear hK49
    refine wp_ret ?_
    replace hs := hs.addRow none 65 3 eC
    replace hs := hs.addRow none 23 1 (eI .u64)
    exact Vk.retCT (P := Try.prog) (fn := Try.f51) (R := visorlaw20_Begins.R κ S x0 x1 x2 A_x1 c_x1 r) ([C.ptr (some ⟨br17x0_24, 0, none⟩), C.ptr (some ⟨br50x0_53, 0, none⟩), C.slc none (([] : List Cells).length) 0, C.slc none (([] : List Int).length) 0]) (.bool ((v_13.1 == 0) && (v_23.2 == 0))) hs rfl (by kernel_rfl) (sz := 4) (by kernel_rfl) rfl (CellsAt.all 13 rfl) (by kernel_rfl) (by obtain rfl := Option.some.inj hm; exact (Or.inr ⟨_, rfl, br17x0_24, br17x0otape_25, Ar17x0otapeowords_26, cr17x0otapeowords_27, Ar17x0oops_28, cr17x0oops_29, Ar17x0ovalues_30, cr17x0ovalues_31, Ar17x0oblocks_32, cr17x0oblocks_33, br50x0_53, Ar50x0oops_54, cr50x0oops_55, Ar50x0oblocks_56, cr50x0oblocks_57, Ar50x0oval_58, cr50x0oval_59, Ar50x0otapel_60, cr50x0otapel_61, none, 0, none, 0, rfl, (Own.to hs.own [7, 8, 9, 10, 11, 12, 2, 3, 4, 5, 6, 1, 0] 14 (by kernel_rfl) (by kernel_rfl))⟩))


abbrev wire_Machine_Values.R (κ : Ctx) (S : List HP) (x0 : Twire_Machine) (b_x0 : Nat) (b_x0otape : Nat) (A_x0otapeowords : Option Addr) (c_x0otapeowords : Nat) (A_x0oops : Option Addr) (c_x0oops : Nat) (A_x0ovalues : Option Addr) (c_x0ovalues : Nat) (A_x0oblocks : Option Addr) (c_x0oblocks : Nat) (r : List Int) : Ending → World → Prop := fun e w' => ∃ (A_r0 : Option Addr), ∃ (c_r0 : Nat), e = .returned (.slice A_r0 r.length c_r0) ∧ Own κ w' (rowp A_r0 c_r0 23 1 (eI .u64) r :: pt b_x0 (blk (Twire_Machine.obj x0 b_x0otape A_x0oops c_x0oops A_x0ovalues c_x0ovalues A_x0oblocks c_x0oblocks) 151) :: pt b_x0otape (blk (Ttape_Tape.obj x0.tape A_x0otapeowords c_x0otapeowords) 158) :: rowp A_x0otapeowords c_x0otapeowords 23 1 (eI .u64) x0.tape.words :: rowp A_x0oops c_x0oops 32 6 Tapi_Op.cells x0.ops :: rowp A_x0ovalues c_x0ovalues 23 1 (eI .u64) x0.values :: rowp A_x0oblocks c_x0oblocks 144 3 Tapi_Span.cells x0.blocks :: S)
def wire_Machine_Values.m (k : Nat) (x0 : Twire_Machine) : Option (List Int) := (slices_Clone_uint64_uint64.m k x0.values).bind fun v_7 => some v_7

set_option maxRecDepth 100000 in
set_option maxHeartbeats 4000000 in
theorem wire_Machine_Values.ok (k : Nat) (x0 : Twire_Machine) (r : List Int) (hm : wire_Machine_Values.m k x0 = some r) (κ : Ctx) (w : World) (S : List HP) (b_x0 : Nat) (b_x0otape : Nat) (A_x0otapeowords : Option Addr) (c_x0otapeowords : Nat) (A_x0oops : Option Addr) (c_x0oops : Nat) (A_x0ovalues : Option Addr) (c_x0ovalues : Nat) (A_x0oblocks : Option Addr) (c_x0oblocks : Nat) (ho : Own κ w (pt b_x0 (blk (Twire_Machine.obj x0 b_x0otape A_x0oops c_x0oops A_x0ovalues c_x0ovalues A_x0oblocks c_x0oblocks) 151) :: pt b_x0otape (blk (Ttape_Tape.obj x0.tape A_x0otapeowords c_x0otapeowords) 158) :: rowp A_x0otapeowords c_x0otapeowords 23 1 (eI .u64) x0.tape.words :: rowp A_x0oops c_x0oops 32 6 Tapi_Op.cells x0.ops :: rowp A_x0ovalues c_x0ovalues 23 1 (eI .u64) x0.values :: rowp A_x0oblocks c_x0oblocks 144 3 Tapi_Span.cells x0.blocks :: S)) :
    Calls Try.prog 53 #[.pointer (some ⟨b_x0, 0, none⟩)] w (wire_Machine_Values.R κ S x0 b_x0 b_x0otape A_x0otapeowords c_x0otapeowords A_x0oops c_x0oops A_x0ovalues c_x0ovalues A_x0oblocks c_x0oblocks r) := by
  unfold wire_Machine_Values.m at hm
  refine Vk.enter [(0, .pointer (some ⟨b_x0, 0, none⟩))] Try.func53 rfl Try.ntmps53 (by kernel_rfl) (Nat.le_of_ble_eq_true (by kernel_rfl)) ho fun a hs => ?_
  refine Vk.seq fun K1 hK1 => ?_
  refine Vk.region ?_
  refine Vk.pures 1 [(2, .slice none 0 0)] hs (by kernel_rfl) fun a hs => ?_
  replace hs := hs.pick [0] (L' := [(0, .pointer (some ⟨b_x0, 0, none⟩))]) (by kernel_rfl)
  refine Vk.done (by kernel_rfl) ?_
  refine hK1 _ _ ?_
  clear hK1
  refine Vk.seq fun K2 hK2 => ?_
  refine Vk.seq fun K3 hK3 => ?_
  refine Vk.region ?_
  refine Vk.pures 2 [(4, .bool false), (3, .pointer (some ⟨b_x0, 0, none⟩))] hs (by kernel_rfl) fun a hs => ?_
  replace hs := hs.pick [0, 4] (L' := [(0, .pointer (some ⟨b_x0, 0, none⟩)), (4, .bool false)]) (by kernel_rfl)
  refine Vk.done (by kernel_rfl) ?_
  refine hK3 _ _ ?_
  clear hK3
  refine Vk.condF hs (by kernel_rfl) (by kernel_rfl) ?_
  refine wp_skip ?_
  refine hK2 _ _ ?_
  clear hK2
  refine Vk.seq fun K4 hK4 => ?_
  refine Vk.region ?_
  refine Vk.pures 3 [(7, .pointer (some ⟨b_x0, 11, none⟩)), (6, .pointer (some ⟨b_x0, 0, none⟩)), (5, .pointer (some ⟨b_x0, 0, none⟩))] hs (by kernel_rfl) fun a hs => ?_
  refine Vk.step (Vk.value (some 8) (.slice A_x0ovalues x0.values.length c_x0ovalues) hs (by kernel_rfl) (op := (.load 73 (.tmp 7))) (by kernel_rfl) (fun o ho => run_load1 (b := b_x0) (off := 11) (c := C.slc A_x0ovalues x0.values.length c_x0ovalues) ho (by kernel_rfl) (by kernel_rfl) (Cell.own 0 rfl (by kernel_rfl)) _ hs.own) fun a hs => ?_)
  obtain ⟨v_7, h_6, hm⟩ := bind_t hm
  refine Vk.step (Vk.call (some 9) 90 #[.slice A_x0ovalues x0.values.length c_x0ovalues] hs (by kernel_rfl) (by kernel_rfl) (by kernel_rfl) ?_)
  refine (slices_Clone_uint64_uint64.ok k x0.values v_7 h_6 κ w (pt b_x0 (blk (Twire_Machine.obj x0 b_x0otape A_x0oops c_x0oops A_x0ovalues c_x0ovalues A_x0oblocks c_x0oblocks) 151) :: pt b_x0otape (blk (Ttape_Tape.obj x0.tape A_x0otapeowords c_x0otapeowords) 158) :: rowp A_x0otapeowords c_x0otapeowords 23 1 (eI .u64) x0.tape.words :: rowp A_x0oops c_x0oops 32 6 Tapi_Op.cells x0.ops :: rowp A_x0ovalues c_x0ovalues 23 1 (eI .u64) x0.values :: rowp A_x0oblocks c_x0oblocks 144 3 Tapi_Span.cells x0.blocks :: S) A_x0ovalues c_x0ovalues (Sl.lift (fun w ho => (Own.to (S' := rowp A_x0ovalues c_x0ovalues 23 1 (eI .u64) x0.values :: S) ho [4] 6 (by kernel_rfl) (by kernel_rfl))) (Own.rowSl 0 (Own.to (S' := rowp A_x0ovalues c_x0ovalues 23 1 (eI .u64) x0.values :: S) hs.own [4] 6 (by kernel_rfl) (by kernel_rfl)) rfl)) hs.own).mono ?_
  rintro _ w ⟨Ar5x0_8, cr5x0_9, rfl, how⟩
  refine ⟨_, _, _, rfl, how, fun a hs => ?_⟩
  refine Vk.pures 1 [(2, .slice Ar5x0_8 v_7.length cr5x0_9)] hs (by kernel_rfl) fun a hs => ?_
  replace hs := hs.pick [2] (L' := [(2, .slice Ar5x0_8 v_7.length cr5x0_9)]) (by kernel_rfl)
  refine Vk.done (by kernel_rfl) ?_
  refine hK4 _ _ ?_
  clear hK4
  refine wp_ret ?_
  exact Vk.ret1 (P := Try.prog) (fn := Try.f53) (R := wire_Machine_Values.R κ S x0 b_x0 b_x0otape A_x0otapeowords c_x0otapeowords A_x0oops c_x0oops A_x0ovalues c_x0ovalues A_x0oblocks c_x0oblocks r) (.slice Ar5x0_8 v_7.length cr5x0_9) hs rfl (by kernel_rfl) (by obtain rfl := Option.some.inj hm; exact ⟨Ar5x0_8, cr5x0_9, rfl, (Own.to hs.own [0, 1, 2, 3, 4, 5, 6] 7 (by kernel_rfl) (by kernel_rfl))⟩)

end Go.Proofs.Ytjjdlidjlepgeaa
