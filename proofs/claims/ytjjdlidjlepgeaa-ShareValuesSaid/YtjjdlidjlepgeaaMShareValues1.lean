/- Of each Go function that ShareValues comes to: a model in plain Lean, and that the program's call does what the model says; no condition. -/
import Derived.Test.YtjjdlidjlepgeaaProg
import Derived.Test.YtjjdlidjlepgeaaVollbmjpn
import Derived.Test.YtjjdlidjlepgeaaMShareValues0
namespace Go.Proofs.Ytjjdlidjlepgeaa
open Go Go.Vk
set_option linter.unusedVariables false


def tape_Tape_Draw.j1 (k : Nat) (x0 : Ttape_Tape) (p_8 : Bool) : Option (Int × Bool × Ttape_Tape) := (bif p_8 then some (0, false, x0) else (if 0 ≤ IntKind.i64.wrap ((IntKind.i64.wrap (x0.used.v + 1)) - 1) then (x0.words[(IntKind.i64.wrap ((IntKind.i64.wrap (x0.used.v + 1)) - 1)).toNat]?).bind fun e_18 => some (e_18, true, (⟨x0.words, (⟨IntKind.i64.wrap (x0.used.v + 1)⟩ : Tatomic_Int64), IntKind.i64.wrap (x0.free - 1)⟩ : Ttape_Tape)) else none))
abbrev tape_Tape_Draw.R (κ : Ctx) (S : List HP) (x0 : Ttape_Tape) (b_x0 : Nat) (A_x0owords : Option Addr) (c_x0owords : Nat) (r : (Int × Bool × Ttape_Tape)) : Ending → World → Prop := fun e w' => ∃ (A_y0owords : Option Addr), ∃ (c_y0owords : Nat), e = .returned (.tuple #[.int .u64 r.1, .bool r.2.1]) ∧ Own κ w' (pt b_x0 (blk (Ttape_Tape.obj r.2.2 A_y0owords c_y0owords) 158) :: rowp A_y0owords c_y0owords 23 1 (eI .u64) r.2.2.words :: S)
def tape_Tape_Draw.m (k : Nat) (x0 : Ttape_Tape) : Option (Int × Bool × Ttape_Tape) := (bif decide (x0.free < 1) then tape_Tape_Draw.j1 k x0 true else (tape_Tape_Left.m k x0).bind fun v_6 => tape_Tape_Draw.j1 k x0 (decide (v_6 < 1)))

set_option maxRecDepth 100000 in
set_option maxHeartbeats 4000000 in
theorem tape_Tape_Draw.ok (k : Nat) (x0 : Ttape_Tape) (r : (Int × Bool × Ttape_Tape)) (hm : tape_Tape_Draw.m k x0 = some r) (κ : Ctx) (w : World) (S : List HP) (b_x0 : Nat) (A_x0owords : Option Addr) (c_x0owords : Nat) (ho : Own κ w (pt b_x0 (blk (Ttape_Tape.obj x0 A_x0owords c_x0owords) 158) :: rowp A_x0owords c_x0owords 23 1 (eI .u64) x0.words :: S)) :
    Calls Try.prog 95 #[.pointer (some ⟨b_x0, 0, none⟩)] w (tape_Tape_Draw.R κ S x0 b_x0 A_x0owords c_x0owords r) := by
  unfold tape_Tape_Draw.m at hm
  refine Vk.enter [(0, .pointer (some ⟨b_x0, 0, none⟩))] Try.func95 rfl Try.ntmps95 (by kernel_rfl) (Nat.le_of_ble_eq_true (by kernel_rfl)) ho fun a hs => ?_
  refine Vk.seq fun K1 hK1 => ?_
  refine Vk.region ?_
  refine Vk.pures 2 [(3, .bool false), (2, .int .u64 0)] hs (by kernel_rfl) fun a hs => ?_
  replace hs := hs.pick [0] (L' := [(0, .pointer (some ⟨b_x0, 0, none⟩))]) (by kernel_rfl)
  refine Vk.done (by kernel_rfl) ?_
  refine hK1 _ _ ?_
  clear hK1
  refine Vk.seq fun K2 hK2 => ?_
  refine Vk.seq fun K3 hK3 => ?_
  have hj3 : ∀ (p_8 : Bool), tape_Tape_Draw.j1 k x0 p_8 = some r → ∀ (a : Act) (w : World), St 36 a w κ [(0, .pointer (some ⟨b_x0, 0, none⟩)), (17, .bool p_8)] (pt b_x0 (blk (Ttape_Tape.obj x0 A_x0owords c_x0owords) 158) :: rowp A_x0owords c_x0owords 23 1 (eI .u64) x0.words :: S) → K3 a w := by
    intro p_8 hm a w hs
    unfold tape_Tape_Draw.j1 at hm
    refine hK3 _ _ ?_
    refine Vk.condS (b := p_8) hs (by kernel_rfl) (by kernel_rfl) (fun hb => ?_) (fun hb => ?_)
    · replace hm := bif_t hm hb
      refine Vk.seq fun K9 hK9 => ?_
      refine Vk.region ?_
      refine Vk.pures 2 [(3, .bool false), (2, .int .u64 0)] hs (by kernel_rfl) fun a hs => ?_
      replace hs := hs.pick [2, 3] (L' := [(2, .int .u64 0), (3, .bool false)]) (by kernel_rfl)
      refine Vk.done (by kernel_rfl) ?_
      refine hK9 _ _ ?_
      clear hK9
      refine wp_ret ?_
      exact Vk.ret2 (P := Try.prog) (fn := Try.f95) (R := tape_Tape_Draw.R κ S x0 b_x0 A_x0owords c_x0owords r) (.int .u64 0) (.bool false) hs rfl (by kernel_rfl) (by kernel_rfl) (by obtain rfl := Option.some.inj hm; exact ⟨A_x0owords, c_x0owords, rfl, (Own.to hs.own [0, 1] 2 (by kernel_rfl) (by kernel_rfl))⟩)
    · replace hm := bif_f hm hb
      refine wp_skip ?_
      refine hK2 _ _ ?_
      clear hK2
      refine Vk.seq fun K10 hK10 => ?_
      refine Vk.region ?_
      refine Vk.pures 3 [(20, .pointer (some ⟨b_x0, 2, none⟩)), (19, .pointer (some ⟨b_x0, 0, none⟩)), (18, .pointer (some ⟨b_x0, 0, none⟩))] hs (by kernel_rfl) fun a hs => ?_
      refine Vk.step (Vk.value (some 21) (.int .i64 x0.free) hs (by kernel_rfl) (op := (.load 3 (.tmp 20))) (by kernel_rfl) (fun o ho => run_load1 (b := b_x0) (off := 2) (c := C.int .i64 x0.free) ho (by kernel_rfl) (by kernel_rfl) (Cell.own 0 rfl (by kernel_rfl)) _ hs.own) fun a hs => ?_)
      refine Vk.pures 3 [(24, .pointer (some ⟨b_x0, 2, none⟩)), (23, .pointer (some ⟨b_x0, 0, none⟩)), (22, .int .i64 (IntKind.i64.wrap (x0.free - 1)))] hs (by kernel_rfl) fun a hs => ?_
      refine Vk.step (Vk.store1 (b := b_x0) (ty := 3) (x := (.tmp 24)) (y := (.tmp 22)) (off := 2) (C.int .i64 (IntKind.i64.wrap (x0.free - 1))) 0 hs (by kernel_rfl) (by kernel_rfl) (by kernel_rfl) (by kernel_rfl) (by kernel_rfl) (by kernel_rfl) rfl (Nat.le_of_ble_eq_true (by kernel_rfl)) fun a w hs => ?_)
      replace hs := hs.pick [0] (L' := [(0, .pointer (some ⟨b_x0, 0, none⟩))]) (by kernel_rfl)
      refine Vk.done (by kernel_rfl) ?_
      refine hK10 _ _ ?_
      clear hK10
      refine Vk.seq fun K11 hK11 => ?_
      refine Vk.drawnT 13 κ (ptp b_x0 158 [C.slc A_x0owords x0.words.length c_x0owords, C.int .i64 x0.used.v, C.int .i64 (IntKind.i64.wrap (x0.free - 1))] [0, 2] :: rowp A_x0owords c_x0owords 23 1 (eI .u64) x0.words :: S) hs (by kernel_rfl) fun w hs => ?_
      have hcl := Own.part (cs0 := [C.slc A_x0owords x0.words.length c_x0owords, C.int .i64 x0.used.v, C.int .i64 (IntKind.i64.wrap (x0.free - 1))]) (ks := [0, 2]) 0 ((Own.to (S' := pt b_x0 (blk ((Ttape_Tape.obj x0 A_x0owords c_x0owords).set 2 (C.int .i64 (IntKind.i64.wrap (x0.free - 1)))) 158) :: rowp A_x0owords c_x0owords 23 1 (eI .u64) x0.words :: S) hs.own [0, 1] 2 (by kernel_rfl) (by kernel_rfl))) rfl rfl
      refine Vk.dPuresT [0, 1, 2, 4, 5, 6] [(31, .pointer (some ⟨b_x0, 1, none⟩)), (30, .pointer (some ⟨b_x0, 0, none⟩)), (29, .pointer (some ⟨b_x0, 0, none⟩)), (27, .pointer (some ⟨b_x0, 0, none⟩)), (26, .pointer (some ⟨b_x0, 0, none⟩)), (25, .pointer (some ⟨b_x0, 0, none⟩))] hs (by kernel_rfl) (by repeat' (first | exact Vk.Calm.post | refine Vk.Calm.then ?_ | refine Vk.Calm.inBlock ?_)) hcl (by kernel_rfl) (by kernel_rfl) (fuel := 7) rfl fun a hs => ?_
      refine Vk.dTakeT (i := 3) (some 28) (.slice A_x0owords x0.words.length c_x0owords) hs (by kernel_rfl) (by repeat' (first | exact Vk.Calm.post | refine Vk.Calm.then ?_ | refine Vk.Calm.inBlock ?_)) hcl (by kernel_rfl) (by kernel_rfl) (op := (.load 73 (.tmp 27))) (by kernel_rfl) (by kernel_rfl) (fun w hw o ho => run_load1 (b := b_x0) (off := 0) (c := C.slc A_x0owords x0.words.length c_x0owords) ho (by kernel_rfl) (by kernel_rfl) (Cell.ownp 0 rfl (by decide) (by kernel_rfl)) _ hw) fun a hs => ?_
      refine Vk.dOnly (i := 7) (by kernel_rfl) (Vk.call (some 32) 122 #[.pointer (some ⟨b_x0, 1, none⟩), .int .i64 1] hs (by kernel_rfl) (by kernel_rfl) (by kernel_rfl) ?_)
      refine Vk.enterI [(0, .pointer (some ⟨b_x0, 1, none⟩)), (1, .int .i64 1)] Try.func122 rfl Try.ntmps122 (by kernel_rfl) (Nat.le_of_ble_eq_true (by kernel_rfl)) hs.own fun KR12 hKR12 hKP12 a hs => ?_
      refine Vk.seq fun K13 hK13 => ?_
      refine Vk.region ?_
      refine Vk.pures 1 [(4, .int .i64 0)] hs (by kernel_rfl) fun a hs => ?_
      replace hs := hs.pick [0, 1] (L' := [(0, .pointer (some ⟨b_x0, 1, none⟩)), (1, .int .i64 1)]) (by kernel_rfl)
      refine Vk.done (by kernel_rfl) ?_
      refine hK13 _ _ ?_
      clear hK13
      refine Vk.seq fun K14 hK14 => ?_
      refine Vk.region ?_
      refine Vk.pures 4 [(8, .int .i64 1), (7, .pointer (some ⟨b_x0, 1, none⟩)), (6, .pointer (some ⟨b_x0, 1, none⟩)), (5, .pointer (some ⟨b_x0, 1, none⟩))] hs (by kernel_rfl) fun a hs => ?_
      refine Vk.step (Vk.atomAdd (k := .i64) (b := b_x0) (off := 1) (x := x0.used.v) (y := 1) 0 (some 9) 132 Try.f132 hs (by kernel_rfl) (by kernel_rfl) Try.func132 (by kernel_rfl) (by kernel_rfl) rfl (by kernel_rfl) fun a w hs => ?_)
      refine Vk.pures 1 [(4, .int .i64 (IntKind.i64.wrap (x0.used.v + 1)))] hs (by kernel_rfl) fun a hs => ?_
      replace hs := hs.pick [4] (L' := [(4, .int .i64 (IntKind.i64.wrap (x0.used.v + 1)))]) (by kernel_rfl)
      refine Vk.done (by kernel_rfl) ?_
      refine hK14 _ _ ?_
      clear hK14
      refine wp_ret ?_
      refine hKP12 _ _ ?_
      refine hKR12 _ _ ?_
      refine Vk.ret1 (P := Try.prog) (fn := Try.f122) (.int .i64 (IntKind.i64.wrap (x0.used.v + 1))) hs rfl (by kernel_rfl) ⟨_, _, _, rfl, hs.own, fun a hs => ?_⟩
      replace hcl := Own.part (cs0 := [C.slc A_x0owords x0.words.length c_x0owords, C.int .i64 x0.used.v, C.int .i64 (IntKind.i64.wrap (x0.free - 1))]) (ks := [0, 2]) 0 ((Own.to (S' := pt b_x0 (blk [C.slc A_x0owords x0.words.length c_x0owords, C.int .i64 (IntKind.i64.wrap (x0.used.v + 1)), C.int .i64 (IntKind.i64.wrap (x0.free - 1))] 158) :: rowp A_x0owords c_x0owords 23 1 (eI .u64) x0.words :: S) hs.own [0, 1] 2 (by kernel_rfl) (by kernel_rfl))) rfl rfl
      refine ⟨fun _ => hcl, ?_⟩
      refine Vk.dPuresT [8] [(33, .int .i64 (IntKind.i64.wrap ((IntKind.i64.wrap (x0.used.v + 1)) - 1)))] hs (by kernel_rfl) (by repeat' (first | exact Vk.Calm.post | refine Vk.Calm.then ?_ | refine Vk.Calm.inBlock ?_)) hcl (by kernel_rfl) (by kernel_rfl) (fuel := 4) rfl fun a hs => ?_
      obtain ⟨h_15, hm⟩ := ite_t hm
      obtain ⟨e_18, h_16, hm⟩ := bind_t hm
      obtain ⟨b_19, o_20, hA_21, h_17⟩ := Sl.elem (Own.rowSl 0 hcl.drop rfl) h_16
      refine Vk.dTakeT (i := 9) (some 34) (.pointer (some ⟨b_19, o_20 + (IntKind.i64.wrap ((IntKind.i64.wrap (x0.used.v + 1)) - 1)).toNat * 1, none⟩)) hs (by kernel_rfl) (by repeat' (first | exact Vk.Calm.post | refine Vk.Calm.then ?_ | refine Vk.Calm.inBlock ?_)) hcl (by kernel_rfl) (by kernel_rfl) (op := (.indexAddr 73 (.tmp 28) (.tmp 33))) (by kernel_rfl) (by kernel_rfl) (fun w hw o ho => run_idxSlc (k := .i64) ho (cap := c_x0owords) (len := x0.words.length) ((congrArg (fun A => Value.slice A (x0.words.length) (c_x0owords)) hA_21) ▸ (by kernel_rfl)) (by kernel_rfl) (by kernel_rfl) (idx_ok h_15 h_16) _) fun a hs => ?_
      refine Vk.dTakeT (i := 10) (some 35) (.int .u64 e_18) hs (by kernel_rfl) (by repeat' (first | exact Vk.Calm.post | refine Vk.Calm.then ?_ | refine Vk.Calm.inBlock ?_)) hcl (by kernel_rfl) (by kernel_rfl) (op := (.load 23 (.tmp 34))) (by kernel_rfl) (by kernel_rfl) (fun w hw o ho => run_load1 (c := C.int .u64 e_18) ho (by kernel_rfl) (by kernel_rfl) (fun w ho => h_17 w ho 0 _ rfl) _ hw.drop) fun a hs => ?_
      refine Vk.dPuresT [11, 12] [(3, .bool true), (2, .int .u64 e_18)] hs (by kernel_rfl) (by repeat' (first | exact Vk.Calm.post | refine Vk.Calm.then ?_ | refine Vk.Calm.inBlock ?_)) hcl (by kernel_rfl) (by kernel_rfl) (fuel := 0) rfl fun a hs => ?_
      replace hs := hs.pick [2, 3] (L' := [(2, .int .u64 e_18), (3, .bool true)]) (by kernel_rfl)
      refine Vk.dDone (by kernel_rfl) ?_
      refine hK11 _ _ ?_
      clear hK11
      refine wp_ret ?_
      exact Vk.ret2 (P := Try.prog) (fn := Try.f95) (R := tape_Tape_Draw.R κ S x0 b_x0 A_x0owords c_x0owords r) (.int .u64 e_18) (.bool true) hs rfl (by kernel_rfl) (by kernel_rfl) (by obtain rfl := Option.some.inj hm; exact ⟨A_x0owords, c_x0owords, rfl, (Own.to hs.own [0, 1] 2 (by kernel_rfl) (by kernel_rfl))⟩)
  refine Vk.region ?_
  refine Vk.pures 6 [(9, .pointer (some ⟨b_x0, 2, none⟩)), (8, .pointer (some ⟨b_x0, 0, none⟩)), (7, .pointer (some ⟨b_x0, 0, none⟩)), (6, .bool false), (5, .bool false), (4, .pointer (some ⟨b_x0, 0, none⟩))] hs (by kernel_rfl) fun a hs => ?_
  refine Vk.step (Vk.value (some 10) (.int .i64 x0.free) hs (by kernel_rfl) (op := (.load 3 (.tmp 9))) (by kernel_rfl) (fun o ho => run_load1 (b := b_x0) (off := 2) (c := C.int .i64 x0.free) ho (by kernel_rfl) (by kernel_rfl) (Cell.own 0 rfl (by kernel_rfl)) _ hs.own) fun a hs => ?_)
  refine Vk.pures 3 [(13, .bool (decide (x0.free < 1))), (12, .bool (decide (x0.free < 1))), (11, .bool (decide (x0.free < 1)))] hs (by kernel_rfl) fun a hs => ?_
  rcases Bool.eq_false_or_eq_true (decide (x0.free < 1)) with hb | hb
  · replace hm := bif_t hm hb
    replace hs := hs.known (t := 13) hb (by kernel_rfl)
    refine Vk.pures 4 [(17, .bool true), (16, undef), (15, undef), (14, undef)] hs (by kernel_rfl) fun a hs => ?_
    replace hs := hs.pick [0, 17] (L' := [(0, .pointer (some ⟨b_x0, 0, none⟩)), (17, .bool true)]) (by kernel_rfl)
    refine Vk.done (by kernel_rfl) ?_
    exact hj3 true hm _ _ (hs.go [0, 17] [0, 1] 2 (by kernel_rfl) (by kernel_rfl) (by kernel_rfl))
  · replace hm := bif_f hm hb
    replace hs := hs.known (t := 13) hb (by kernel_rfl)
    refine Vk.pures 1 [(14, .pointer (some ⟨b_x0, 0, none⟩))] hs (by kernel_rfl) fun a hs => ?_
    obtain ⟨v_6, h_5, hm⟩ := bind_t hm
    refine Vk.step (Vk.call (some 15) 91 #[.pointer (some ⟨b_x0, 0, none⟩)] hs (by kernel_rfl) (by kernel_rfl) (by kernel_rfl) ?_)
    refine (tape_Tape_Left.ok k x0 v_6 h_5 κ w (S) b_x0 A_x0owords c_x0owords (Own.to hs.own [0, 1] 2 (by kernel_rfl) (by kernel_rfl))).mono ?_
    rintro _ w ⟨rfl, how⟩
    refine ⟨_, _, _, rfl, how, fun a hs => ?_⟩
    refine Vk.pures 2 [(17, .bool (decide (v_6 < 1))), (16, .bool (decide (v_6 < 1)))] hs (by kernel_rfl) fun a hs => ?_
    replace hs := hs.pick [0, 17] (L' := [(0, .pointer (some ⟨b_x0, 0, none⟩)), (17, .bool (decide (v_6 < 1)))]) (by kernel_rfl)
    refine Vk.done (by kernel_rfl) ?_
    exact hj3 (decide (v_6 < 1)) hm _ _ (hs.go [0, 17] [0, 1] 2 (by kernel_rfl) (by kernel_rfl) (by kernel_rfl))

structure Tvisorref02_T where
  l : List Int
  used : Int
  free : Int
  deriving Inhabited
def Tvisorref02_T.obj (x : Tvisorref02_T) (Al : Option Addr) (cl : Nat) : Cells := [C.slc Al x.l.length cl, C.int .i64 x.used, C.int .i64 x.free]

abbrev visorref02_T_Draw.R (κ : Ctx) (S : List HP) (x0 : Tvisorref02_T) (b_x0 : Nat) (A_x0ol : Option Addr) (c_x0ol : Nat) (r : (Int × Bool × Tvisorref02_T)) : Ending → World → Prop := fun e w' => ∃ (A_y0ol : Option Addr), ∃ (c_y0ol : Nat), e = .returned (.tuple #[.int .u64 r.1, .bool r.2.1]) ∧ Own κ w' (pt b_x0 (blk (Tvisorref02_T.obj r.2.2 A_y0ol c_y0ol) 121) :: rdp κ A_y0ol c_y0ol 1 (eI .u64) r.2.2.l :: S)
def visorref02_T_Draw.m (k : Nat) (x0 : Tvisorref02_T) : Option (Int × Bool × Tvisorref02_T) := (bif (decide (x0.free < 1)) || (((x0.l.length : Nat) : Int) == 0) then some (0, false, x0) else (if 0 ≤ (0 : Int) then (x0.l[0]?).bind fun e_10 => (if ((0 : Int) ≤ 1) ∧ 1 ≤ x0.l.length ∧ x0.l.length ≤ x0.l.length then some (e_10, true, (⟨cut x0.l (1) (x0.l.length), IntKind.i64.wrap (x0.used + 1), IntKind.i64.wrap (x0.free - 1)⟩ : Tvisorref02_T)) else none) else none))

set_option maxRecDepth 100000 in
set_option maxHeartbeats 4000000 in
theorem visorref02_T_Draw.ok (k : Nat) (x0 : Tvisorref02_T) (r : (Int × Bool × Tvisorref02_T)) (hm : visorref02_T_Draw.m k x0 = some r) (κ : Ctx) (w : World) (S : List HP) (b_x0 : Nat) (A_x0ol : Option Addr) (c_x0ol : Nat) (ho : Own κ w (pt b_x0 (blk (Tvisorref02_T.obj x0 A_x0ol c_x0ol) 121) :: rdp κ A_x0ol c_x0ol 1 (eI .u64) x0.l :: S)) :
    Calls Try.prog 124 #[.pointer (some ⟨b_x0, 0, none⟩)] w (visorref02_T_Draw.R κ S x0 b_x0 A_x0ol c_x0ol r) := by
  unfold visorref02_T_Draw.m at hm
  refine Vk.enter [(0, .pointer (some ⟨b_x0, 0, none⟩))] Try.func124 rfl Try.ntmps124 (by kernel_rfl) (Nat.le_of_ble_eq_true (by kernel_rfl)) ho fun a hs => ?_
  refine Vk.seq fun K1 hK1 => ?_
  refine Vk.region ?_
  refine Vk.pures 2 [(3, .bool false), (2, .int .u64 0)] hs (by kernel_rfl) fun a hs => ?_
  replace hs := hs.pick [0] (L' := [(0, .pointer (some ⟨b_x0, 0, none⟩))]) (by kernel_rfl)
  refine Vk.done (by kernel_rfl) ?_
  refine hK1 _ _ ?_
  clear hK1
  refine Vk.seq fun K2 hK2 => ?_
  refine Vk.seq fun K3 hK3 => ?_
  refine Vk.region ?_
  refine Vk.pures 3 [(7, .pointer (some ⟨b_x0, 2, none⟩)), (6, .pointer (some ⟨b_x0, 0, none⟩)), (5, .pointer (some ⟨b_x0, 0, none⟩))] hs (by kernel_rfl) fun a hs => ?_
  refine Vk.step (Vk.value (some 8) (.int .i64 x0.free) hs (by kernel_rfl) (op := (.load 3 (.tmp 7))) (by kernel_rfl) (fun o ho => run_load1 (b := b_x0) (off := 2) (c := C.int .i64 x0.free) ho (by kernel_rfl) (by kernel_rfl) (Cell.own 0 rfl (by kernel_rfl)) _ hs.own) fun a hs => ?_)
  refine Vk.pures 2 [(10, .bool (decide (x0.free < 1))), (9, .bool (decide (x0.free < 1)))] hs (by kernel_rfl) fun a hs => ?_
  suffices hj_4 : ∀ a, St 49 a w κ [(0, .pointer (some ⟨b_x0, 0, none⟩)), (5, .pointer (some ⟨b_x0, 0, none⟩)), (6, .pointer (some ⟨b_x0, 0, none⟩)), (7, .pointer (some ⟨b_x0, 2, none⟩)), (8, .int .i64 x0.free), (9, .bool (decide (x0.free < 1))), (10, .bool (decide (x0.free < 1))), (17, .bool ((decide (x0.free < 1)) || (((x0.l.length : Nat) : Int) == 0)))] (pt b_x0 (blk (Tvisorref02_T.obj x0 A_x0ol c_x0ol) 121) :: rdp κ A_x0ol c_x0ol 1 (eI .u64) x0.l :: S) → wpFrom Try.prog _ _ 13 a w by
    rcases Bool.eq_false_or_eq_true (decide (x0.free < 1)) with hb | hb
    · replace hs := hs.known (t := 10) hb (by kernel_rfl)
      refine Vk.pures 7 [(17, .bool true), (16, undef), (15, undef), (14, undef), (13, undef), (12, undef), (11, undef)] hs (by kernel_rfl) fun a hs => ?_
      have hq := hs.pick [0, 5, 6, 7, 8, 9, 10, 17] (L' := [(0, .pointer (some ⟨b_x0, 0, none⟩)), (5, .pointer (some ⟨b_x0, 0, none⟩)), (6, .pointer (some ⟨b_x0, 0, none⟩)), (7, .pointer (some ⟨b_x0, 2, none⟩)), (8, .int .i64 x0.free), (9, .bool (decide (x0.free < 1))), (10, .bool true), (17, .bool true)]) (by kernel_rfl)
      exact hj_4 _ (hq.conv (by rw [hb]; rfl))
    · replace hs := hs.known (t := 10) hb (by kernel_rfl)
      refine Vk.pures 3 [(13, .pointer (some ⟨b_x0, 0, none⟩)), (12, .pointer (some ⟨b_x0, 0, none⟩)), (11, .pointer (some ⟨b_x0, 0, none⟩))] hs (by kernel_rfl) fun a hs => ?_
      refine Vk.step (Vk.value (some 14) (.slice A_x0ol x0.l.length c_x0ol) hs (by kernel_rfl) (op := (.load 73 (.tmp 13))) (by kernel_rfl) (fun o ho => run_load1 (b := b_x0) (off := 0) (c := C.slc A_x0ol x0.l.length c_x0ol) ho (by kernel_rfl) (by kernel_rfl) (Cell.own 0 rfl (by kernel_rfl)) _ hs.own) fun a hs => ?_)
      refine Vk.pures 3 [(17, .bool (((x0.l.length : Nat) : Int) == 0)), (16, .bool (((x0.l.length : Nat) : Int) == 0)), (15, .int .i64 ((x0.l.length : Nat) : Int))] hs (by kernel_rfl) fun a hs => ?_
      have hq := hs.pick [0, 5, 6, 7, 8, 9, 10, 17] (L' := [(0, .pointer (some ⟨b_x0, 0, none⟩)), (5, .pointer (some ⟨b_x0, 0, none⟩)), (6, .pointer (some ⟨b_x0, 0, none⟩)), (7, .pointer (some ⟨b_x0, 2, none⟩)), (8, .int .i64 x0.free), (9, .bool (decide (x0.free < 1))), (10, .bool false), (17, .bool (((x0.l.length : Nat) : Int) == 0))]) (by kernel_rfl)
      exact hj_4 _ (hq.conv (by rw [hb]; rfl))
  intro a hs
  replace hs := hs.pick [0, 17] (L' := [(0, .pointer (some ⟨b_x0, 0, none⟩)), (17, .bool ((decide (x0.free < 1)) || (((x0.l.length : Nat) : Int) == 0)))]) (by kernel_rfl)
  refine Vk.done (by kernel_rfl) ?_
  refine hK3 _ _ ?_
  clear hK3
  refine Vk.condS (b := (decide (x0.free < 1)) || (((x0.l.length : Nat) : Int) == 0)) hs (by kernel_rfl) (by kernel_rfl) (fun hb => ?_) (fun hb => ?_)
  · replace hm := bif_t hm hb
    refine Vk.seq fun K5 hK5 => ?_
    refine Vk.region ?_
    refine Vk.pures 2 [(3, .bool false), (2, .int .u64 0)] hs (by kernel_rfl) fun a hs => ?_
    replace hs := hs.pick [2, 3] (L' := [(2, .int .u64 0), (3, .bool false)]) (by kernel_rfl)
    refine Vk.done (by kernel_rfl) ?_
    refine hK5 _ _ ?_
    clear hK5
    refine wp_ret ?_
    exact Vk.ret2 (P := Try.prog) (fn := Try.f124) (R := visorref02_T_Draw.R κ S x0 b_x0 A_x0ol c_x0ol r) (.int .u64 0) (.bool false) hs rfl (by kernel_rfl) (by kernel_rfl) (by obtain rfl := Option.some.inj hm; exact ⟨A_x0ol, c_x0ol, rfl, (Own.to hs.own [0, 1] 2 (by kernel_rfl) (by kernel_rfl))⟩)
  · replace hm := bif_f hm hb
    refine wp_skip ?_
    refine hK2 _ _ ?_
    clear hK2
    refine Vk.seq fun K6 hK6 => ?_
    refine Vk.region ?_
    refine Vk.pures 3 [(20, .pointer (some ⟨b_x0, 0, none⟩)), (19, .pointer (some ⟨b_x0, 0, none⟩)), (18, .pointer (some ⟨b_x0, 0, none⟩))] hs (by kernel_rfl) fun a hs => ?_
    refine Vk.step (Vk.value (some 21) (.slice A_x0ol x0.l.length c_x0ol) hs (by kernel_rfl) (op := (.load 73 (.tmp 20))) (by kernel_rfl) (fun o ho => run_load1 (b := b_x0) (off := 0) (c := C.slc A_x0ol x0.l.length c_x0ol) ho (by kernel_rfl) (by kernel_rfl) (Cell.own 0 rfl (by kernel_rfl)) _ hs.own) fun a hs => ?_)
    obtain ⟨h_7, hm⟩ := ite_t hm
    obtain ⟨e_10, h_8, hm⟩ := bind_t hm
    obtain ⟨b_11, o_12, hA_13, h_9⟩ := Sl.elem (Own.rdSl 0 hs.own.drop rfl) h_8
    refine Vk.step (Vk.value (some 22) (.pointer (some ⟨b_11, o_12 + 0 * 1, none⟩)) hs (by kernel_rfl) (op := (.indexAddr 73 (.tmp 21) (.const (.int .i64 0)))) (by kernel_rfl) (fun o ho => run_idxSlc (k := .i64) ho (cap := c_x0ol) (len := x0.l.length) ((congrArg (fun A => Value.slice A (x0.l.length) (c_x0ol)) hA_13) ▸ (by kernel_rfl)) (by kernel_rfl) (by kernel_rfl) (idx_ok h_7 h_8) _) fun a hs => ?_)
    refine Vk.step (Vk.value (some 23) (.int .u64 e_10) hs (by kernel_rfl) (op := (.load 23 (.tmp 22))) (by kernel_rfl) (fun o ho => run_load1 (c := C.int .u64 e_10) ho (by kernel_rfl) (by kernel_rfl) (fun w ho => h_9 w ho 0 _ rfl) _ hs.own.drop) fun a hs => ?_)
    refine Vk.pures 1 [(4, .int .u64 e_10)] hs (by kernel_rfl) fun a hs => ?_
    replace hs := hs.pick [0, 4] (L' := [(0, .pointer (some ⟨b_x0, 0, none⟩)), (4, .int .u64 e_10)]) (by kernel_rfl)
    refine Vk.done (by kernel_rfl) ?_
    refine hK6 _ _ ?_
    clear hK6
    refine Vk.seq fun K14 hK14 => ?_
    refine Vk.region ?_
    refine Vk.pures 4 [(27, .pointer (some ⟨b_x0, 0, none⟩)), (26, .pointer (some ⟨b_x0, 0, none⟩)), (25, .pointer (some ⟨b_x0, 0, none⟩)), (24, .pointer (some ⟨b_x0, 0, none⟩))] hs (by kernel_rfl) fun a hs => ?_
    refine Vk.step (Vk.value (some 28) (.slice A_x0ol x0.l.length c_x0ol) hs (by kernel_rfl) (op := (.load 73 (.tmp 27))) (by kernel_rfl) (fun o ho => run_load1 (b := b_x0) (off := 0) (c := C.slc A_x0ol x0.l.length c_x0ol) ho (by kernel_rfl) (by kernel_rfl) (Cell.own 0 rfl (by kernel_rfl)) _ hs.own) fun a hs => ?_)
    obtain ⟨h_15, hm⟩ := ite_t hm
    obtain ⟨A_16, c_17, eA_18, ec_19, hx_20⟩ := Sl.sub (Own.rdSl 0 hs.own.drop rfl) h_15.2
    refine Vk.step (Vk.value (some 29) (.slice A_16 ((cut x0.l (1) (x0.l.length)).length) c_17) hs (by kernel_rfl) (op := (.slice 73 (.tmp 28) (some (.const (.int .i64 1))) none none)) (by kernel_rfl) (fun o ho => run_sub (sz := 1) (e := 23) h_15.2 eA_18 ec_19 (Sl.le (Own.rdSl 0 hs.own.drop rfl)) ho (by kernel_rfl) (by kernel_rfl) (by kernel_rfl) ⟨.i64, 1, by kernel_rfl, h_15.1, rfl⟩ rfl _) fun a hs => ?_)
    replace hs := hs.cutRd 1 rfl h_15.2 eA_18 ec_19
    refine Vk.pures 2 [(31, .pointer (some ⟨b_x0, 0, none⟩)), (30, .pointer (some ⟨b_x0, 0, none⟩))] hs (by kernel_rfl) fun a hs => ?_
    refine Vk.step (Vk.store1 (b := b_x0) (ty := 73) (x := (.tmp 31)) (y := (.tmp 29)) (off := 0) (C.slc A_16 ((cut x0.l (1) (x0.l.length)).length) c_17) 0 hs (by kernel_rfl) (by kernel_rfl) (by kernel_rfl) (by kernel_rfl) (by kernel_rfl) (by kernel_rfl) rfl (Nat.le_of_ble_eq_true (by kernel_rfl)) fun a w hs => ?_)
    replace hs := hs.pick [0, 4] (L' := [(0, .pointer (some ⟨b_x0, 0, none⟩)), (4, .int .u64 e_10)]) (by kernel_rfl)
    refine Vk.done (by kernel_rfl) ?_
    refine hK14 _ _ ?_
    clear hK14
    refine Vk.seq fun K21 hK21 => ?_
    refine Vk.region ?_
    refine Vk.pures 4 [(35, .pointer (some ⟨b_x0, 2, none⟩)), (34, .pointer (some ⟨b_x0, 0, none⟩)), (33, .pointer (some ⟨b_x0, 0, none⟩)), (32, .pointer (some ⟨b_x0, 0, none⟩))] hs (by kernel_rfl) fun a hs => ?_
    refine Vk.step (Vk.value (some 36) (.int .i64 x0.free) hs (by kernel_rfl) (op := (.load 3 (.tmp 35))) (by kernel_rfl) (fun o ho => run_load1 (b := b_x0) (off := 2) (c := C.int .i64 x0.free) ho (by kernel_rfl) (by kernel_rfl) (Cell.own 0 rfl (by kernel_rfl)) _ hs.own) fun a hs => ?_)
    refine Vk.pures 3 [(39, .pointer (some ⟨b_x0, 2, none⟩)), (38, .pointer (some ⟨b_x0, 0, none⟩)), (37, .int .i64 (IntKind.i64.wrap (x0.free - 1)))] hs (by kernel_rfl) fun a hs => ?_
    refine Vk.step (Vk.store1 (b := b_x0) (ty := 3) (x := (.tmp 39)) (y := (.tmp 37)) (off := 2) (C.int .i64 (IntKind.i64.wrap (x0.free - 1))) 0 hs (by kernel_rfl) (by kernel_rfl) (by kernel_rfl) (by kernel_rfl) (by kernel_rfl) (by kernel_rfl) rfl (Nat.le_of_ble_eq_true (by kernel_rfl)) fun a w hs => ?_)
    replace hs := hs.pick [0, 4] (L' := [(0, .pointer (some ⟨b_x0, 0, none⟩)), (4, .int .u64 e_10)]) (by kernel_rfl)
    refine Vk.done (by kernel_rfl) ?_
    refine hK21 _ _ ?_
    clear hK21
    refine Vk.seq fun K22 hK22 => ?_
    refine Vk.region ?_
    refine Vk.pures 4 [(43, .pointer (some ⟨b_x0, 1, none⟩)), (42, .pointer (some ⟨b_x0, 0, none⟩)), (41, .pointer (some ⟨b_x0, 0, none⟩)), (40, .pointer (some ⟨b_x0, 0, none⟩))] hs (by kernel_rfl) fun a hs => ?_
    refine Vk.step (Vk.value (some 44) (.int .i64 x0.used) hs (by kernel_rfl) (op := (.load 3 (.tmp 43))) (by kernel_rfl) (fun o ho => run_load1 (b := b_x0) (off := 1) (c := C.int .i64 x0.used) ho (by kernel_rfl) (by kernel_rfl) (Cell.own 0 rfl (by kernel_rfl)) _ hs.own) fun a hs => ?_)
    refine Vk.pures 3 [(47, .pointer (some ⟨b_x0, 1, none⟩)), (46, .pointer (some ⟨b_x0, 0, none⟩)), (45, .int .i64 (IntKind.i64.wrap (x0.used + 1)))] hs (by kernel_rfl) fun a hs => ?_
    refine Vk.step (Vk.store1 (b := b_x0) (ty := 3) (x := (.tmp 47)) (y := (.tmp 45)) (off := 1) (C.int .i64 (IntKind.i64.wrap (x0.used + 1))) 0 hs (by kernel_rfl) (by kernel_rfl) (by kernel_rfl) (by kernel_rfl) (by kernel_rfl) (by kernel_rfl) rfl (Nat.le_of_ble_eq_true (by kernel_rfl)) fun a w hs => ?_)
    replace hs := hs.pick [4] (L' := [(4, .int .u64 e_10)]) (by kernel_rfl)
    refine Vk.done (by kernel_rfl) ?_
    refine hK22 _ _ ?_
    clear hK22
    refine Vk.seq fun K23 hK23 => ?_
    refine Vk.region ?_
    refine Vk.pures 3 [(3, .bool true), (2, .int .u64 e_10), (48, .int .u64 e_10)] hs (by kernel_rfl) fun a hs => ?_
    replace hs := hs.pick [2, 3] (L' := [(2, .int .u64 e_10), (3, .bool true)]) (by kernel_rfl)
    refine Vk.done (by kernel_rfl) ?_
    refine hK23 _ _ ?_
    clear hK23
    refine wp_ret ?_
    exact Vk.ret2 (P := Try.prog) (fn := Try.f124) (R := visorref02_T_Draw.R κ S x0 b_x0 A_x0ol c_x0ol r) (.int .u64 e_10) (.bool true) hs rfl (by kernel_rfl) (by kernel_rfl) (by obtain rfl := Option.some.inj hm; exact ⟨A_16, c_17, rfl, (Own.to hs.own [0, 1] 2 (by kernel_rfl) (by kernel_rfl))⟩)

structure Tapi_Span where
  kind : Int
  fromF : Int
  to : Int
  deriving Inhabited
def Tapi_Span.cells (x : Tapi_Span) : Cells := [C.int .i64 x.kind, C.int .i64 x.fromF, C.int .i64 x.to]

structure Twire_Machine where
  n : Int
  most : Int
  base : Int
  words : Int
  draws : Int
  dry : Bool
  openF : Int
  fromF : Int
  bad : Int
  tape : Ttape_Tape
  ops : List Tapi_Op
  values : List Int
  blocks : List Tapi_Span
  deriving Inhabited
def Twire_Machine.obj (x : Twire_Machine) (btape : Nat) (Aops : Option Addr) (cops : Nat) (Avalues : Option Addr) (cvalues : Nat) (Ablocks : Option Addr) (cblocks : Nat) : Cells := [C.int .i64 x.n, C.int .i64 x.most, C.int .i64 x.base, C.int .i64 x.words, C.int .i64 x.draws, C.bool x.dry, C.int .i64 x.openF, C.int .i64 x.fromF, C.int .i64 x.bad, C.ptr (some ⟨btape, 0, none⟩), C.slc Aops x.ops.length cops, C.slc Avalues x.values.length cvalues, C.slc Ablocks x.blocks.length cblocks]

abbrev wire_Machine_Len.R (κ : Ctx) (S : List HP) (x0 : Twire_Machine) (b_x0 : Nat) (b_x0otape : Nat) (A_x0otapeowords : Option Addr) (c_x0otapeowords : Nat) (A_x0oops : Option Addr) (c_x0oops : Nat) (A_x0ovalues : Option Addr) (c_x0ovalues : Nat) (A_x0oblocks : Option Addr) (c_x0oblocks : Nat) (r : Int) : Ending → World → Prop := fun e w' => e = .returned (.int .i64 r) ∧ Own κ w' (pt b_x0 (blk (Twire_Machine.obj x0 b_x0otape A_x0oops c_x0oops A_x0ovalues c_x0ovalues A_x0oblocks c_x0oblocks) 151) :: pt b_x0otape (blk (Ttape_Tape.obj x0.tape A_x0otapeowords c_x0otapeowords) 158) :: rowp A_x0otapeowords c_x0otapeowords 23 1 (eI .u64) x0.tape.words :: rowp A_x0oops c_x0oops 32 6 Tapi_Op.cells x0.ops :: rowp A_x0ovalues c_x0ovalues 23 1 (eI .u64) x0.values :: rowp A_x0oblocks c_x0oblocks 144 3 Tapi_Span.cells x0.blocks :: S)
def wire_Machine_Len.m (k : Nat) (x0 : Twire_Machine) : Option Int := some (IntKind.i64.wrap (x0.base + ((x0.ops.length : Nat) : Int)))

set_option maxRecDepth 100000 in
set_option maxHeartbeats 4000000 in
theorem wire_Machine_Len.ok (k : Nat) (x0 : Twire_Machine) (r : Int) (hm : wire_Machine_Len.m k x0 = some r) (κ : Ctx) (w : World) (S : List HP) (b_x0 : Nat) (b_x0otape : Nat) (A_x0otapeowords : Option Addr) (c_x0otapeowords : Nat) (A_x0oops : Option Addr) (c_x0oops : Nat) (A_x0ovalues : Option Addr) (c_x0ovalues : Nat) (A_x0oblocks : Option Addr) (c_x0oblocks : Nat) (ho : Own κ w (pt b_x0 (blk (Twire_Machine.obj x0 b_x0otape A_x0oops c_x0oops A_x0ovalues c_x0ovalues A_x0oblocks c_x0oblocks) 151) :: pt b_x0otape (blk (Ttape_Tape.obj x0.tape A_x0otapeowords c_x0otapeowords) 158) :: rowp A_x0otapeowords c_x0otapeowords 23 1 (eI .u64) x0.tape.words :: rowp A_x0oops c_x0oops 32 6 Tapi_Op.cells x0.ops :: rowp A_x0ovalues c_x0ovalues 23 1 (eI .u64) x0.values :: rowp A_x0oblocks c_x0oblocks 144 3 Tapi_Span.cells x0.blocks :: S)) :
    Calls Try.prog 58 #[.pointer (some ⟨b_x0, 0, none⟩)] w (wire_Machine_Len.R κ S x0 b_x0 b_x0otape A_x0otapeowords c_x0otapeowords A_x0oops c_x0oops A_x0ovalues c_x0ovalues A_x0oblocks c_x0oblocks r) := by
  unfold wire_Machine_Len.m at hm
  refine Vk.enter [(0, .pointer (some ⟨b_x0, 0, none⟩))] Try.func58 rfl Try.ntmps58 (by kernel_rfl) (Nat.le_of_ble_eq_true (by kernel_rfl)) ho fun a hs => ?_
  refine Vk.seq fun K1 hK1 => ?_
  refine Vk.region ?_
  refine Vk.pures 1 [(2, .int .i64 0)] hs (by kernel_rfl) fun a hs => ?_
  replace hs := hs.pick [0] (L' := [(0, .pointer (some ⟨b_x0, 0, none⟩))]) (by kernel_rfl)
  refine Vk.done (by kernel_rfl) ?_
  refine hK1 _ _ ?_
  clear hK1
  refine Vk.seq fun K2 hK2 => ?_
  refine Vk.seq fun K3 hK3 => ?_
  refine Vk.region ?_
  refine Vk.pures 2 [(4, .bool false), (3, .pointer (some ⟨b_x0, 0, none⟩))] hs (by kernel_rfl) fun a hs => ?_
  replace hs := hs.pick [0, 4] (L' := [(0, .pointer (some ⟨b_x0, 0, none⟩)), (4, .bool false)]) (by kernel_rfl)
  refine Vk.done (by kernel_rfl) ?_
  refine hK3 _ _ ?_
  clear hK3
  refine Vk.condF hs (by kernel_rfl) (by kernel_rfl) ?_
  refine wp_skip ?_
  refine hK2 _ _ ?_
  clear hK2
  refine Vk.seq fun K4 hK4 => ?_
  refine Vk.drawnT 11 κ (pt b_x0 (blk (Twire_Machine.obj x0 b_x0otape A_x0oops c_x0oops A_x0ovalues c_x0ovalues A_x0oblocks c_x0oblocks) 151) :: pt b_x0otape (blk (Ttape_Tape.obj x0.tape A_x0otapeowords c_x0otapeowords) 158) :: rowp A_x0otapeowords c_x0otapeowords 23 1 (eI .u64) x0.tape.words :: rowp A_x0oops c_x0oops 32 6 Tapi_Op.cells x0.ops :: rowp A_x0ovalues c_x0ovalues 23 1 (eI .u64) x0.values :: rowp A_x0oblocks c_x0oblocks 144 3 Tapi_Span.cells x0.blocks :: S) hs (by kernel_rfl) fun w hs => ?_
  have hcl := (Own.to (S' := pt b_x0 (blk (Twire_Machine.obj x0 b_x0otape A_x0oops c_x0oops A_x0ovalues c_x0ovalues A_x0oblocks c_x0oblocks) 151) :: pt b_x0otape (blk (Ttape_Tape.obj x0.tape A_x0otapeowords c_x0otapeowords) 158) :: rowp A_x0otapeowords c_x0otapeowords 23 1 (eI .u64) x0.tape.words :: rowp A_x0oops c_x0oops 32 6 Tapi_Op.cells x0.ops :: rowp A_x0ovalues c_x0ovalues 23 1 (eI .u64) x0.values :: rowp A_x0oblocks c_x0oblocks 144 3 Tapi_Span.cells x0.blocks :: S) hs.own [0, 1, 2, 3, 4, 5] 6 (by kernel_rfl) (by kernel_rfl))
  refine Vk.dPuresT [0, 1, 2, 4, 5, 6] [(11, .pointer (some ⟨b_x0, 10, none⟩)), (10, .pointer (some ⟨b_x0, 0, none⟩)), (9, .pointer (some ⟨b_x0, 0, none⟩)), (7, .pointer (some ⟨b_x0, 2, none⟩)), (6, .pointer (some ⟨b_x0, 0, none⟩)), (5, .pointer (some ⟨b_x0, 0, none⟩))] hs (by kernel_rfl) (by repeat' (first | exact Vk.Calm.post | refine Vk.Calm.then ?_ | refine Vk.Calm.inBlock ?_)) hcl (by kernel_rfl) (by kernel_rfl) (fuel := 5) rfl fun a hs => ?_
  refine Vk.dTakeT (i := 3) (some 8) (.int .i64 x0.base) hs (by kernel_rfl) (by repeat' (first | exact Vk.Calm.post | refine Vk.Calm.then ?_ | refine Vk.Calm.inBlock ?_)) hcl (by kernel_rfl) (by kernel_rfl) (op := (.load 3 (.tmp 7))) (by kernel_rfl) (by kernel_rfl) (fun w hw o ho => run_load1 (b := b_x0) (off := 2) (c := C.int .i64 x0.base) ho (by kernel_rfl) (by kernel_rfl) (Cell.own 0 rfl (by kernel_rfl)) _ hw) fun a hs => ?_
  refine Vk.dTakeT (i := 7) (some 12) (.slice A_x0oops x0.ops.length c_x0oops) hs (by kernel_rfl) (by repeat' (first | exact Vk.Calm.post | refine Vk.Calm.then ?_ | refine Vk.Calm.inBlock ?_)) hcl (by kernel_rfl) (by kernel_rfl) (op := (.load 69 (.tmp 11))) (by kernel_rfl) (by kernel_rfl) (fun w hw o ho => run_load1 (b := b_x0) (off := 10) (c := C.slc A_x0oops x0.ops.length c_x0oops) ho (by kernel_rfl) (by kernel_rfl) (Cell.own 0 rfl (by kernel_rfl)) _ hw) fun a hs => ?_
  refine Vk.dPuresT [8, 9, 10] [(2, .int .i64 (IntKind.i64.wrap (x0.base + ((x0.ops.length : Nat) : Int)))), (14, .int .i64 (IntKind.i64.wrap (x0.base + ((x0.ops.length : Nat) : Int)))), (13, .int .i64 ((x0.ops.length : Nat) : Int))] hs (by kernel_rfl) (by repeat' (first | exact Vk.Calm.post | refine Vk.Calm.then ?_ | refine Vk.Calm.inBlock ?_)) hcl (by kernel_rfl) (by kernel_rfl) (fuel := 0) rfl fun a hs => ?_
  replace hs := hs.pick [2] (L' := [(2, .int .i64 (IntKind.i64.wrap (x0.base + ((x0.ops.length : Nat) : Int))))]) (by kernel_rfl)
  refine Vk.dDone (by kernel_rfl) ?_
  refine hK4 _ _ ?_
  clear hK4
  refine wp_ret ?_
  exact Vk.ret1 (P := Try.prog) (fn := Try.f58) (R := wire_Machine_Len.R κ S x0 b_x0 b_x0otape A_x0otapeowords c_x0otapeowords A_x0oops c_x0oops A_x0ovalues c_x0ovalues A_x0oblocks c_x0oblocks r) (.int .i64 (IntKind.i64.wrap (x0.base + ((x0.ops.length : Nat) : Int)))) hs rfl (by kernel_rfl) (by obtain rfl := Option.some.inj hm; exact ⟨rfl, (Own.to hs.own [0, 1, 2, 3, 4, 5] 6 (by kernel_rfl) (by kernel_rfl))⟩)


abbrev wire_Machine_Err.R (κ : Ctx) (S : List HP) (x0 : Twire_Machine) (b_x0 : Nat) (b_x0otape : Nat) (A_x0otapeowords : Option Addr) (c_x0otapeowords : Nat) (A_x0oops : Option Addr) (c_x0oops : Nat) (A_x0ovalues : Option Addr) (c_x0ovalues : Nat) (A_x0oblocks : Option Addr) (c_x0oblocks : Nat) (r : Int) : Ending → World → Prop := fun e w' => e = .returned (.int .i64 r) ∧ Own κ w' (pt b_x0 (blk (Twire_Machine.obj x0 b_x0otape A_x0oops c_x0oops A_x0ovalues c_x0ovalues A_x0oblocks c_x0oblocks) 151) :: pt b_x0otape (blk (Ttape_Tape.obj x0.tape A_x0otapeowords c_x0otapeowords) 158) :: rowp A_x0otapeowords c_x0otapeowords 23 1 (eI .u64) x0.tape.words :: rowp A_x0oops c_x0oops 32 6 Tapi_Op.cells x0.ops :: rowp A_x0ovalues c_x0ovalues 23 1 (eI .u64) x0.values :: rowp A_x0oblocks c_x0oblocks 144 3 Tapi_Span.cells x0.blocks :: S)
def wire_Machine_Err.m (k : Nat) (x0 : Twire_Machine) : Option Int := some x0.bad

set_option maxRecDepth 100000 in
set_option maxHeartbeats 4000000 in
theorem wire_Machine_Err.ok (k : Nat) (x0 : Twire_Machine) (r : Int) (hm : wire_Machine_Err.m k x0 = some r) (κ : Ctx) (w : World) (S : List HP) (b_x0 : Nat) (b_x0otape : Nat) (A_x0otapeowords : Option Addr) (c_x0otapeowords : Nat) (A_x0oops : Option Addr) (c_x0oops : Nat) (A_x0ovalues : Option Addr) (c_x0ovalues : Nat) (A_x0oblocks : Option Addr) (c_x0oblocks : Nat) (ho : Own κ w (pt b_x0 (blk (Twire_Machine.obj x0 b_x0otape A_x0oops c_x0oops A_x0ovalues c_x0ovalues A_x0oblocks c_x0oblocks) 151) :: pt b_x0otape (blk (Ttape_Tape.obj x0.tape A_x0otapeowords c_x0otapeowords) 158) :: rowp A_x0otapeowords c_x0otapeowords 23 1 (eI .u64) x0.tape.words :: rowp A_x0oops c_x0oops 32 6 Tapi_Op.cells x0.ops :: rowp A_x0ovalues c_x0ovalues 23 1 (eI .u64) x0.values :: rowp A_x0oblocks c_x0oblocks 144 3 Tapi_Span.cells x0.blocks :: S)) :
    Calls Try.prog 62 #[.pointer (some ⟨b_x0, 0, none⟩)] w (wire_Machine_Err.R κ S x0 b_x0 b_x0otape A_x0otapeowords c_x0otapeowords A_x0oops c_x0oops A_x0ovalues c_x0ovalues A_x0oblocks c_x0oblocks r) := by
  unfold wire_Machine_Err.m at hm
  refine Vk.enter [(0, .pointer (some ⟨b_x0, 0, none⟩))] Try.func62 rfl Try.ntmps62 (by kernel_rfl) (Nat.le_of_ble_eq_true (by kernel_rfl)) ho fun a hs => ?_
  refine Vk.seq fun K1 hK1 => ?_
  refine Vk.region ?_
  refine Vk.pures 1 [(2, .int .i64 0)] hs (by kernel_rfl) fun a hs => ?_
  replace hs := hs.pick [0] (L' := [(0, .pointer (some ⟨b_x0, 0, none⟩))]) (by kernel_rfl)
  refine Vk.done (by kernel_rfl) ?_
  refine hK1 _ _ ?_
  clear hK1
  refine Vk.seq fun K2 hK2 => ?_
  refine Vk.seq fun K3 hK3 => ?_
  refine Vk.region ?_
  refine Vk.pures 2 [(4, .bool false), (3, .pointer (some ⟨b_x0, 0, none⟩))] hs (by kernel_rfl) fun a hs => ?_
  replace hs := hs.pick [0, 4] (L' := [(0, .pointer (some ⟨b_x0, 0, none⟩)), (4, .bool false)]) (by kernel_rfl)
  refine Vk.done (by kernel_rfl) ?_
  refine hK3 _ _ ?_
  clear hK3
  refine Vk.condF hs (by kernel_rfl) (by kernel_rfl) ?_
  refine wp_skip ?_
  refine hK2 _ _ ?_
  clear hK2
  refine Vk.seq fun K4 hK4 => ?_
  refine Vk.region ?_
  refine Vk.pures 3 [(7, .pointer (some ⟨b_x0, 8, none⟩)), (6, .pointer (some ⟨b_x0, 0, none⟩)), (5, .pointer (some ⟨b_x0, 0, none⟩))] hs (by kernel_rfl) fun a hs => ?_
  refine Vk.step (Vk.value (some 8) (.int .i64 x0.bad) hs (by kernel_rfl) (op := (.load 43 (.tmp 7))) (by kernel_rfl) (fun o ho => run_load1 (b := b_x0) (off := 8) (c := C.int .i64 x0.bad) ho (by kernel_rfl) (by kernel_rfl) (Cell.own 0 rfl (by kernel_rfl)) _ hs.own) fun a hs => ?_)
  refine Vk.pures 1 [(2, .int .i64 x0.bad)] hs (by kernel_rfl) fun a hs => ?_
  replace hs := hs.pick [2] (L' := [(2, .int .i64 x0.bad)]) (by kernel_rfl)
  refine Vk.done (by kernel_rfl) ?_
  refine hK4 _ _ ?_
  clear hK4
  refine wp_ret ?_
  exact Vk.ret1 (P := Try.prog) (fn := Try.f62) (R := wire_Machine_Err.R κ S x0 b_x0 b_x0otape A_x0otapeowords c_x0otapeowords A_x0oops c_x0oops A_x0ovalues c_x0ovalues A_x0oblocks c_x0oblocks r) (.int .i64 x0.bad) hs rfl (by kernel_rfl) (by obtain rfl := Option.some.inj hm; exact ⟨rfl, (Own.to hs.own [0, 1, 2, 3, 4, 5] 6 (by kernel_rfl) (by kernel_rfl))⟩)


abbrev wire_Machine_N.R (κ : Ctx) (S : List HP) (x0 : Twire_Machine) (b_x0 : Nat) (b_x0otape : Nat) (A_x0otapeowords : Option Addr) (c_x0otapeowords : Nat) (A_x0oops : Option Addr) (c_x0oops : Nat) (A_x0ovalues : Option Addr) (c_x0ovalues : Nat) (A_x0oblocks : Option Addr) (c_x0oblocks : Nat) (r : Int) : Ending → World → Prop := fun e w' => e = .returned (.int .i64 r) ∧ Own κ w' (pt b_x0 (blk (Twire_Machine.obj x0 b_x0otape A_x0oops c_x0oops A_x0ovalues c_x0ovalues A_x0oblocks c_x0oblocks) 151) :: pt b_x0otape (blk (Ttape_Tape.obj x0.tape A_x0otapeowords c_x0otapeowords) 158) :: rowp A_x0otapeowords c_x0otapeowords 23 1 (eI .u64) x0.tape.words :: rowp A_x0oops c_x0oops 32 6 Tapi_Op.cells x0.ops :: rowp A_x0ovalues c_x0ovalues 23 1 (eI .u64) x0.values :: rowp A_x0oblocks c_x0oblocks 144 3 Tapi_Span.cells x0.blocks :: S)
def wire_Machine_N.m (k : Nat) (x0 : Twire_Machine) : Option Int := some x0.n

set_option maxRecDepth 100000 in
set_option maxHeartbeats 4000000 in
theorem wire_Machine_N.ok (k : Nat) (x0 : Twire_Machine) (r : Int) (hm : wire_Machine_N.m k x0 = some r) (κ : Ctx) (w : World) (S : List HP) (b_x0 : Nat) (b_x0otape : Nat) (A_x0otapeowords : Option Addr) (c_x0otapeowords : Nat) (A_x0oops : Option Addr) (c_x0oops : Nat) (A_x0ovalues : Option Addr) (c_x0ovalues : Nat) (A_x0oblocks : Option Addr) (c_x0oblocks : Nat) (ho : Own κ w (pt b_x0 (blk (Twire_Machine.obj x0 b_x0otape A_x0oops c_x0oops A_x0ovalues c_x0ovalues A_x0oblocks c_x0oblocks) 151) :: pt b_x0otape (blk (Ttape_Tape.obj x0.tape A_x0otapeowords c_x0otapeowords) 158) :: rowp A_x0otapeowords c_x0otapeowords 23 1 (eI .u64) x0.tape.words :: rowp A_x0oops c_x0oops 32 6 Tapi_Op.cells x0.ops :: rowp A_x0ovalues c_x0ovalues 23 1 (eI .u64) x0.values :: rowp A_x0oblocks c_x0oblocks 144 3 Tapi_Span.cells x0.blocks :: S)) :
    Calls Try.prog 88 #[.pointer (some ⟨b_x0, 0, none⟩)] w (wire_Machine_N.R κ S x0 b_x0 b_x0otape A_x0otapeowords c_x0otapeowords A_x0oops c_x0oops A_x0ovalues c_x0ovalues A_x0oblocks c_x0oblocks r) := by
  unfold wire_Machine_N.m at hm
  refine Vk.enter [(0, .pointer (some ⟨b_x0, 0, none⟩))] Try.func88 rfl Try.ntmps88 (by kernel_rfl) (Nat.le_of_ble_eq_true (by kernel_rfl)) ho fun a hs => ?_
  refine Vk.seq fun K1 hK1 => ?_
  refine Vk.region ?_
  refine Vk.pures 1 [(2, .int .i64 0)] hs (by kernel_rfl) fun a hs => ?_
  replace hs := hs.pick [0] (L' := [(0, .pointer (some ⟨b_x0, 0, none⟩))]) (by kernel_rfl)
  refine Vk.done (by kernel_rfl) ?_
  refine hK1 _ _ ?_
  clear hK1
  refine Vk.seq fun K2 hK2 => ?_
  refine Vk.seq fun K3 hK3 => ?_
  refine Vk.region ?_
  refine Vk.pures 2 [(4, .bool false), (3, .pointer (some ⟨b_x0, 0, none⟩))] hs (by kernel_rfl) fun a hs => ?_
  replace hs := hs.pick [0, 4] (L' := [(0, .pointer (some ⟨b_x0, 0, none⟩)), (4, .bool false)]) (by kernel_rfl)
  refine Vk.done (by kernel_rfl) ?_
  refine hK3 _ _ ?_
  clear hK3
  refine Vk.condF hs (by kernel_rfl) (by kernel_rfl) ?_
  refine wp_skip ?_
  refine hK2 _ _ ?_
  clear hK2
  refine Vk.seq fun K4 hK4 => ?_
  refine Vk.region ?_
  refine Vk.pures 3 [(7, .pointer (some ⟨b_x0, 0, none⟩)), (6, .pointer (some ⟨b_x0, 0, none⟩)), (5, .pointer (some ⟨b_x0, 0, none⟩))] hs (by kernel_rfl) fun a hs => ?_
  refine Vk.step (Vk.value (some 8) (.int .i64 x0.n) hs (by kernel_rfl) (op := (.load 3 (.tmp 7))) (by kernel_rfl) (fun o ho => run_load1 (b := b_x0) (off := 0) (c := C.int .i64 x0.n) ho (by kernel_rfl) (by kernel_rfl) (Cell.own 0 rfl (by kernel_rfl)) _ hs.own) fun a hs => ?_)
  refine Vk.pures 1 [(2, .int .i64 x0.n)] hs (by kernel_rfl) fun a hs => ?_
  replace hs := hs.pick [2] (L' := [(2, .int .i64 x0.n)]) (by kernel_rfl)
  refine Vk.done (by kernel_rfl) ?_
  refine hK4 _ _ ?_
  clear hK4
  refine wp_ret ?_
  exact Vk.ret1 (P := Try.prog) (fn := Try.f88) (R := wire_Machine_N.R κ S x0 b_x0 b_x0otape A_x0otapeowords c_x0otapeowords A_x0oops c_x0oops A_x0ovalues c_x0ovalues A_x0oblocks c_x0oblocks r) (.int .i64 x0.n) hs rfl (by kernel_rfl) (by obtain rfl := Option.some.inj hm; exact ⟨rfl, (Own.to hs.own [0, 1, 2, 3, 4, 5] 6 (by kernel_rfl) (by kernel_rfl))⟩)


def wire_Machine_right.j1 (k : Nat) (p_12 : Bool) : Option Bool := some p_12
abbrev wire_Machine_right.R (κ : Ctx) (S : List HP) (x0 : Twire_Machine) (x1 : Tapi_Op) (b_x0 : Nat) (b_x0otape : Nat) (A_x0otapeowords : Option Addr) (c_x0otapeowords : Nat) (A_x0oops : Option Addr) (c_x0oops : Nat) (A_x0ovalues : Option Addr) (c_x0ovalues : Nat) (A_x0oblocks : Option Addr) (c_x0oblocks : Nat) (r : Bool) : Ending → World → Prop := fun e w' => e = .returned (.bool r) ∧ Own κ w' (pt b_x0 (blk (Twire_Machine.obj x0 b_x0otape A_x0oops c_x0oops A_x0ovalues c_x0ovalues A_x0oblocks c_x0oblocks) 151) :: pt b_x0otape (blk (Ttape_Tape.obj x0.tape A_x0otapeowords c_x0otapeowords) 158) :: rowp A_x0otapeowords c_x0otapeowords 23 1 (eI .u64) x0.tape.words :: rowp A_x0oops c_x0oops 32 6 Tapi_Op.cells x0.ops :: rowp A_x0ovalues c_x0ovalues 23 1 (eI .u64) x0.values :: rowp A_x0oblocks c_x0oblocks 144 3 Tapi_Span.cells x0.blocks :: S)
def wire_Machine_right.m (k : Nat) (x0 : Twire_Machine) (x1 : Tapi_Op) : Option Bool := (wire_Machine_Len.m k x0).bind fun v_6 => (op_Right.m k x1 v_6 x0.n).bind fun v_10 => (bif v_10 then (bif x1.kind != 2 then wire_Machine_right.j1 k true else wire_Machine_right.j1 k (x1.c == (IntKind.u64.wrap x0.words))) else wire_Machine_right.j1 k false)

set_option maxRecDepth 100000 in
set_option maxHeartbeats 4000000 in
theorem wire_Machine_right.ok (k : Nat) (x0 : Twire_Machine) (x1 : Tapi_Op) (r : Bool) (hm : wire_Machine_right.m k x0 x1 = some r) (κ : Ctx) (w : World) (S : List HP) (b_x0 : Nat) (b_x0otape : Nat) (A_x0otapeowords : Option Addr) (c_x0otapeowords : Nat) (A_x0oops : Option Addr) (c_x0oops : Nat) (A_x0ovalues : Option Addr) (c_x0ovalues : Nat) (A_x0oblocks : Option Addr) (c_x0oblocks : Nat) (ho : Own κ w (pt b_x0 (blk (Twire_Machine.obj x0 b_x0otape A_x0oops c_x0oops A_x0ovalues c_x0ovalues A_x0oblocks c_x0oblocks) 151) :: pt b_x0otape (blk (Ttape_Tape.obj x0.tape A_x0otapeowords c_x0otapeowords) 158) :: rowp A_x0otapeowords c_x0otapeowords 23 1 (eI .u64) x0.tape.words :: rowp A_x0oops c_x0oops 32 6 Tapi_Op.cells x0.ops :: rowp A_x0ovalues c_x0ovalues 23 1 (eI .u64) x0.values :: rowp A_x0oblocks c_x0oblocks 144 3 Tapi_Span.cells x0.blocks :: S)) :
    Calls Try.prog 93 #[.pointer (some ⟨b_x0, 0, none⟩), .agg (vals [C.int .i64 x1.kind, C.int .i64 x1.dom, C.int .i64 x1.a, C.int .i64 x1.b, C.int .i64 x1.d, C.int .u64 x1.c])] w (wire_Machine_right.R κ S x0 x1 b_x0 b_x0otape A_x0otapeowords c_x0otapeowords A_x0oops c_x0oops A_x0ovalues c_x0ovalues A_x0oblocks c_x0oblocks r) := by
  unfold wire_Machine_right.m at hm
  refine Vk.enter [(0, .pointer (some ⟨b_x0, 0, none⟩)), (1, .agg (vals [C.int .i64 x1.kind, C.int .i64 x1.dom, C.int .i64 x1.a, C.int .i64 x1.b, C.int .i64 x1.d, C.int .u64 x1.c]))] Try.func93 rfl Try.ntmps93 (by kernel_rfl) (Nat.le_of_ble_eq_true (by kernel_rfl)) ho fun a hs => ?_
  refine Vk.seq fun K1 hK1 => ?_
  refine Vk.region ?_
  refine Vk.step (Vk.box (x := (.tmp 1)) 3 32 [C.int .i64 x1.kind, C.int .i64 x1.dom, C.int .i64 x1.a, C.int .i64 x1.b, C.int .i64 x1.d, C.int .u64 x1.c] hs (by kernel_rfl) (by kernel_rfl) (by kernel_rfl) fun b_2 w a hs => ?_)
  refine Vk.pures 1 [(4, .bool false)] hs (by kernel_rfl) fun a hs => ?_
  replace hs := hs.pick [0, 3] (L' := [(0, .pointer (some ⟨b_x0, 0, none⟩)), (3, .pointer (some ⟨b_2, 0, none⟩))]) (by kernel_rfl)
  refine Vk.done (by kernel_rfl) ?_
  refine hK1 _ _ ?_
  clear hK1
  refine Vk.seq fun K3 hK3 => ?_
  have hj3 : ∀ (p_12 : Bool), wire_Machine_right.j1 k p_12 = some r → ∀ (a : Act) (w : World), St 28 a w κ [(4, .bool p_12)] (pt b_x0 (blk (Twire_Machine.obj x0 b_x0otape A_x0oops c_x0oops A_x0ovalues c_x0ovalues A_x0oblocks c_x0oblocks) 151) :: pt b_x0otape (blk (Ttape_Tape.obj x0.tape A_x0otapeowords c_x0otapeowords) 158) :: rowp A_x0otapeowords c_x0otapeowords 23 1 (eI .u64) x0.tape.words :: rowp A_x0oops c_x0oops 32 6 Tapi_Op.cells x0.ops :: rowp A_x0ovalues c_x0ovalues 23 1 (eI .u64) x0.values :: rowp A_x0oblocks c_x0oblocks 144 3 Tapi_Span.cells x0.blocks :: S) → K3 a w := by
    intro p_12 hm a w hs
    unfold wire_Machine_right.j1 at hm
    refine hK3 _ _ ?_
    refine wp_ret ?_
    exact Vk.ret1 (P := Try.prog) (fn := Try.f93) (R := wire_Machine_right.R κ S x0 x1 b_x0 b_x0otape A_x0otapeowords c_x0otapeowords A_x0oops c_x0oops A_x0ovalues c_x0ovalues A_x0oblocks c_x0oblocks r) (.bool p_12) hs rfl (by kernel_rfl) (by obtain rfl := Option.some.inj hm; exact ⟨rfl, (Own.to hs.own [0, 1, 2, 3, 4, 5] 6 (by kernel_rfl) (by kernel_rfl))⟩)
  refine Vk.drawnT 24 κ (pt b_2 (blk (Tapi_Op.cells x1) 32) :: pt b_x0 (blk (Twire_Machine.obj x0 b_x0otape A_x0oops c_x0oops A_x0ovalues c_x0ovalues A_x0oblocks c_x0oblocks) 151) :: pt b_x0otape (blk (Ttape_Tape.obj x0.tape A_x0otapeowords c_x0otapeowords) 158) :: rowp A_x0otapeowords c_x0otapeowords 23 1 (eI .u64) x0.tape.words :: rowp A_x0oops c_x0oops 32 6 Tapi_Op.cells x0.ops :: rowp A_x0ovalues c_x0ovalues 23 1 (eI .u64) x0.values :: rowp A_x0oblocks c_x0oblocks 144 3 Tapi_Span.cells x0.blocks :: S) hs (by kernel_rfl) fun w hs => ?_
  have hcl := (Own.to (S' := pt b_2 (blk (Tapi_Op.cells x1) 32) :: pt b_x0 (blk (Twire_Machine.obj x0 b_x0otape A_x0oops c_x0oops A_x0ovalues c_x0ovalues A_x0oblocks c_x0oblocks) 151) :: pt b_x0otape (blk (Ttape_Tape.obj x0.tape A_x0otapeowords c_x0otapeowords) 158) :: rowp A_x0otapeowords c_x0otapeowords 23 1 (eI .u64) x0.tape.words :: rowp A_x0oops c_x0oops 32 6 Tapi_Op.cells x0.ops :: rowp A_x0ovalues c_x0ovalues 23 1 (eI .u64) x0.values :: rowp A_x0oblocks c_x0oblocks 144 3 Tapi_Span.cells x0.blocks :: S) hs.own [0, 1, 2, 3, 4, 5, 6] 7 (by kernel_rfl) (by kernel_rfl))
  refine Vk.dPuresT [1, 3, 4, 5] [(10, .pointer (some ⟨b_x0, 0, none⟩)), (9, .pointer (some ⟨b_x0, 0, none⟩)), (8, .pointer (some ⟨b_x0, 0, none⟩)), (6, .pointer (some ⟨b_x0, 0, none⟩))] hs (by kernel_rfl) (by repeat' (first | exact Vk.Calm.post | refine Vk.Calm.then ?_ | refine Vk.Calm.inBlock ?_)) hcl (by kernel_rfl) (by kernel_rfl) (fuel := 20) rfl fun a hs => ?_
  refine Vk.dTakeT (i := 0) (some 5) (.agg (vals [C.int .i64 x1.kind, C.int .i64 x1.dom, C.int .i64 x1.a, C.int .i64 x1.b, C.int .i64 x1.d, C.int .u64 x1.c])) hs (by kernel_rfl) (by repeat' (first | exact Vk.Calm.post | refine Vk.Calm.then ?_ | refine Vk.Calm.inBlock ?_)) hcl (by kernel_rfl) (by kernel_rfl) (op := (.load 32 (.tmp 3))) (by kernel_rfl) (by kernel_rfl) (fun w hw o ho => run_loadN (cs := [C.int .i64 x1.kind, C.int .i64 x1.dom, C.int .i64 x1.a, C.int .i64 x1.b, C.int .i64 x1.d, C.int .u64 x1.c]) ho (by kernel_rfl) (by kernel_rfl) rfl (CellsAt.all 0 rfl) _ hw) fun a hs => ?_
  refine Vk.dTakeT (i := 6) (some 11) (.int .i64 x0.n) hs (by kernel_rfl) (by repeat' (first | exact Vk.Calm.post | refine Vk.Calm.then ?_ | refine Vk.Calm.inBlock ?_)) hcl (by kernel_rfl) (by kernel_rfl) (op := (.load 3 (.tmp 10))) (by kernel_rfl) (by kernel_rfl) (fun w hw o ho => run_load1 (b := b_x0) (off := 0) (c := C.int .i64 x0.n) ho (by kernel_rfl) (by kernel_rfl) (Cell.own 1 rfl (by kernel_rfl)) _ hw) fun a hs => ?_
  obtain ⟨v_6, h_5, hm⟩ := bind_t hm
  refine Vk.dOnly (i := 2) (by kernel_rfl) (Vk.call (some 7) 58 #[.pointer (some ⟨b_x0, 0, none⟩)] hs (by kernel_rfl) (by kernel_rfl) (by kernel_rfl) ?_)
  refine (wire_Machine_Len.ok k x0 v_6 h_5 κ w (pt b_2 (blk (Tapi_Op.cells x1) 32) :: S) b_x0 b_x0otape A_x0otapeowords c_x0otapeowords A_x0oops c_x0oops A_x0ovalues c_x0ovalues A_x0oblocks c_x0oblocks (Own.to hs.own [1, 2, 3, 4, 5, 6, 0] 7 (by kernel_rfl) (by kernel_rfl))).mono ?_
  rintro _ w ⟨rfl, how⟩
  refine ⟨_, _, _, rfl, how, fun a hs => ?_⟩
  replace hcl := (Own.to (S' := pt b_2 (blk (Tapi_Op.cells x1) 32) :: pt b_x0 (blk (Twire_Machine.obj x0 b_x0otape A_x0oops c_x0oops A_x0ovalues c_x0ovalues A_x0oblocks c_x0oblocks) 151) :: pt b_x0otape (blk (Ttape_Tape.obj x0.tape A_x0otapeowords c_x0otapeowords) 158) :: rowp A_x0otapeowords c_x0otapeowords 23 1 (eI .u64) x0.tape.words :: rowp A_x0oops c_x0oops 32 6 Tapi_Op.cells x0.ops :: rowp A_x0ovalues c_x0ovalues 23 1 (eI .u64) x0.values :: rowp A_x0oblocks c_x0oblocks 144 3 Tapi_Span.cells x0.blocks :: S) hs.own [6, 0, 1, 2, 3, 4, 5] 7 (by kernel_rfl) (by kernel_rfl))
  refine ⟨fun _ => hcl, ?_⟩
  obtain ⟨v_10, h_9, hm⟩ := bind_t hm
  refine Vk.dOnly (i := 7) (by kernel_rfl) (Vk.call (some 12) 115 #[.agg (vals [C.int .i64 x1.kind, C.int .i64 x1.dom, C.int .i64 x1.a, C.int .i64 x1.b, C.int .i64 x1.d, C.int .u64 x1.c]), .int .i64 v_6, .int .i64 x0.n] hs (by kernel_rfl) (by kernel_rfl) (by kernel_rfl) ?_)
  refine (op_Right.ok k x1 v_6 x0.n v_10 h_9 κ w (pt b_x0 (blk (Twire_Machine.obj x0 b_x0otape A_x0oops c_x0oops A_x0ovalues c_x0ovalues A_x0oblocks c_x0oblocks) 151) :: pt b_x0otape (blk (Ttape_Tape.obj x0.tape A_x0otapeowords c_x0otapeowords) 158) :: rowp A_x0otapeowords c_x0otapeowords 23 1 (eI .u64) x0.tape.words :: rowp A_x0oops c_x0oops 32 6 Tapi_Op.cells x0.ops :: rowp A_x0ovalues c_x0ovalues 23 1 (eI .u64) x0.values :: rowp A_x0oblocks c_x0oblocks 144 3 Tapi_Span.cells x0.blocks :: pt b_2 (blk (Tapi_Op.cells x1) 32) :: S) hs.own).mono ?_
  rintro _ w ⟨rfl, how⟩
  refine ⟨_, _, _, rfl, how, fun a hs => ?_⟩
  replace hcl := (Own.to (S' := pt b_2 (blk (Tapi_Op.cells x1) 32) :: pt b_x0 (blk (Twire_Machine.obj x0 b_x0otape A_x0oops c_x0oops A_x0ovalues c_x0ovalues A_x0oblocks c_x0oblocks) 151) :: pt b_x0otape (blk (Ttape_Tape.obj x0.tape A_x0otapeowords c_x0otapeowords) 158) :: rowp A_x0otapeowords c_x0otapeowords 23 1 (eI .u64) x0.tape.words :: rowp A_x0oops c_x0oops 32 6 Tapi_Op.cells x0.ops :: rowp A_x0ovalues c_x0ovalues 23 1 (eI .u64) x0.values :: rowp A_x0oblocks c_x0oblocks 144 3 Tapi_Span.cells x0.blocks :: S) hs.own [6, 0, 1, 2, 3, 4, 5] 7 (by kernel_rfl) (by kernel_rfl))
  refine ⟨fun _ => hcl, ?_⟩
  refine Vk.dPuresT [8] [(13, .bool v_10)] hs (by kernel_rfl) (by repeat' (first | exact Vk.Calm.post | refine Vk.Calm.then ?_ | refine Vk.Calm.inBlock ?_)) hcl (by kernel_rfl) (by kernel_rfl) (fuel := 15) rfl fun a hs => ?_
  rcases Bool.eq_false_or_eq_true (v_10) with hb | hb
  · replace hm := bif_t hm hb
    replace hs := hs.known (t := 13) hb (by kernel_rfl)
    refine Vk.dPuresT [9] [(14, .pointer (some ⟨b_2, 0, none⟩))] hs (by kernel_rfl) (by repeat' (first | exact Vk.Calm.post | refine Vk.Calm.then ?_ | refine Vk.Calm.inBlock ?_)) hcl (by kernel_rfl) (by kernel_rfl) (fuel := 14) rfl fun a hs => ?_
    refine Vk.dTakeT (i := 10) (some 15) (.int .i64 x1.kind) hs (by kernel_rfl) (by repeat' (first | exact Vk.Calm.post | refine Vk.Calm.then ?_ | refine Vk.Calm.inBlock ?_)) hcl (by kernel_rfl) (by kernel_rfl) (op := (.load 3 (.tmp 14))) (by kernel_rfl) (by kernel_rfl) (fun w hw o ho => run_load1 (b := b_2) (off := 0) (c := C.int .i64 x1.kind) ho (by kernel_rfl) (by kernel_rfl) (Cell.own 0 rfl (by kernel_rfl)) _ hw) fun a hs => ?_
    refine Vk.dPuresT [11, 12] [(17, .bool (x1.kind != 2)), (16, .bool (x1.kind != 2))] hs (by kernel_rfl) (by repeat' (first | exact Vk.Calm.post | refine Vk.Calm.then ?_ | refine Vk.Calm.inBlock ?_)) hcl (by kernel_rfl) (by kernel_rfl) (fuel := 11) rfl fun a hs => ?_
    rcases Bool.eq_false_or_eq_true (x1.kind != 2) with hb | hb
    · replace hm := bif_t hm hb
      replace hs := hs.known (t := 17) hb (by kernel_rfl)
      refine Vk.dPuresT [13, 14, 15, 16, 17, 18, 19, 20, 21, 22, 23] [(4, .bool true), (27, .bool true), (26, .bool true), (25, undef), (24, undef), (23, undef), (22, undef), (21, undef), (20, undef), (19, undef), (18, undef)] hs (by kernel_rfl) (by repeat' (first | exact Vk.Calm.post | refine Vk.Calm.then ?_ | refine Vk.Calm.inBlock ?_)) hcl (by kernel_rfl) (by kernel_rfl) (fuel := 0) rfl fun a hs => ?_
      replace hs := hs.pick [4] (L' := [(4, .bool true)]) (by kernel_rfl)
      refine Vk.dDone (by kernel_rfl) ?_
      exact hj3 true hm _ _ (hs.go [4] [0, 1, 2, 3, 4, 5] 7 (by kernel_rfl) (by kernel_rfl) (by kernel_rfl))
    · replace hm := bif_f hm hb
      replace hs := hs.known (t := 17) hb (by kernel_rfl)
      refine Vk.dPuresT [13, 15, 16, 17] [(22, .pointer (some ⟨b_x0, 3, none⟩)), (21, .pointer (some ⟨b_x0, 0, none⟩)), (20, .pointer (some ⟨b_x0, 0, none⟩)), (18, .pointer (some ⟨b_2, 5, none⟩))] hs (by kernel_rfl) (by repeat' (first | exact Vk.Calm.post | refine Vk.Calm.then ?_ | refine Vk.Calm.inBlock ?_)) hcl (by kernel_rfl) (by kernel_rfl) (fuel := 7) rfl fun a hs => ?_
      refine Vk.dTakeT (i := 14) (some 19) (.int .u64 x1.c) hs (by kernel_rfl) (by repeat' (first | exact Vk.Calm.post | refine Vk.Calm.then ?_ | refine Vk.Calm.inBlock ?_)) hcl (by kernel_rfl) (by kernel_rfl) (op := (.load 23 (.tmp 18))) (by kernel_rfl) (by kernel_rfl) (fun w hw o ho => run_load1 (b := b_2) (off := 5) (c := C.int .u64 x1.c) ho (by kernel_rfl) (by kernel_rfl) (Cell.own 0 rfl (by kernel_rfl)) _ hw) fun a hs => ?_
      refine Vk.dTakeT (i := 18) (some 23) (.int .i64 x0.words) hs (by kernel_rfl) (by repeat' (first | exact Vk.Calm.post | refine Vk.Calm.then ?_ | refine Vk.Calm.inBlock ?_)) hcl (by kernel_rfl) (by kernel_rfl) (op := (.load 3 (.tmp 22))) (by kernel_rfl) (by kernel_rfl) (fun w hw o ho => run_load1 (b := b_x0) (off := 3) (c := C.int .i64 x0.words) ho (by kernel_rfl) (by kernel_rfl) (Cell.own 1 rfl (by kernel_rfl)) _ hw) fun a hs => ?_
      refine Vk.dPuresT [19, 20, 21, 22, 23] [(4, .bool (x1.c == (IntKind.u64.wrap x0.words))), (27, .bool (x1.c == (IntKind.u64.wrap x0.words))), (26, .bool (x1.c == (IntKind.u64.wrap x0.words))), (25, .bool (x1.c == (IntKind.u64.wrap x0.words))), (24, .int .u64 (IntKind.u64.wrap x0.words))] hs (by kernel_rfl) (by repeat' (first | exact Vk.Calm.post | refine Vk.Calm.then ?_ | refine Vk.Calm.inBlock ?_)) hcl (by kernel_rfl) (by kernel_rfl) (fuel := 0) rfl fun a hs => ?_
      replace hs := hs.pick [4] (L' := [(4, .bool (x1.c == (IntKind.u64.wrap x0.words)))]) (by kernel_rfl)
      refine Vk.dDone (by kernel_rfl) ?_
      exact hj3 (x1.c == (IntKind.u64.wrap x0.words)) hm _ _ (hs.go [4] [0, 1, 2, 3, 4, 5] 7 (by kernel_rfl) (by kernel_rfl) (by kernel_rfl))
  · replace hm := bif_f hm hb
    replace hs := hs.known (t := 13) hb (by kernel_rfl)
    refine Vk.dPuresT [9, 10, 11, 12, 13, 14, 15, 16, 17, 18, 19, 20, 21, 22, 23] [(4, .bool false), (27, .bool false), (26, undef), (25, undef), (24, undef), (23, undef), (22, undef), (21, undef), (20, undef), (19, undef), (18, undef), (17, undef), (16, undef), (15, undef), (14, undef)] hs (by kernel_rfl) (by repeat' (first | exact Vk.Calm.post | refine Vk.Calm.then ?_ | refine Vk.Calm.inBlock ?_)) hcl (by kernel_rfl) (by kernel_rfl) (fuel := 0) rfl fun a hs => ?_
    replace hs := hs.pick [4] (L' := [(4, .bool false)]) (by kernel_rfl)
    refine Vk.dDone (by kernel_rfl) ?_
    exact hj3 false hm _ _ (hs.go [4] [0, 1, 2, 3, 4, 5] 7 (by kernel_rfl) (by kernel_rfl) (by kernel_rfl))


def wire_Machine_fail.j1 (k : Nat) (p_4 : Twire_Machine) : Option (Int × Twire_Machine) := some ((-1), p_4)
abbrev wire_Machine_fail.R (κ : Ctx) (S : List HP) (x0 : Twire_Machine) (x1 : Int) (b_x0 : Nat) (b_x0otape : Nat) (A_x0otapeowords : Option Addr) (c_x0otapeowords : Nat) (A_x0oops : Option Addr) (c_x0oops : Nat) (A_x0ovalues : Option Addr) (c_x0ovalues : Nat) (A_x0oblocks : Option Addr) (c_x0oblocks : Nat) (r : (Int × Twire_Machine)) : Ending → World → Prop := fun e w' => ∃ (A_y0otapeowords : Option Addr), ∃ (c_y0otapeowords : Nat), ∃ (A_y0oops : Option Addr), ∃ (c_y0oops : Nat), ∃ (A_y0ovalues : Option Addr), ∃ (c_y0ovalues : Nat), ∃ (A_y0oblocks : Option Addr), ∃ (c_y0oblocks : Nat), e = .returned (.int .i64 r.1) ∧ Own κ w' (pt b_x0 (blk (Twire_Machine.obj r.2 b_x0otape A_y0oops c_y0oops A_y0ovalues c_y0ovalues A_y0oblocks c_y0oblocks) 151) :: pt b_x0otape (blk (Ttape_Tape.obj r.2.tape A_y0otapeowords c_y0otapeowords) 158) :: rowp A_y0otapeowords c_y0otapeowords 23 1 (eI .u64) r.2.tape.words :: rowp A_y0oops c_y0oops 32 6 Tapi_Op.cells r.2.ops :: rowp A_y0ovalues c_y0ovalues 23 1 (eI .u64) r.2.values :: rowp A_y0oblocks c_y0oblocks 144 3 Tapi_Span.cells r.2.blocks :: S)
def wire_Machine_fail.m (k : Nat) (x0 : Twire_Machine) (x1 : Int) : Option (Int × Twire_Machine) := (bif x0.bad == 0 then wire_Machine_fail.j1 k (⟨x0.n, x0.most, x0.base, x0.words, x0.draws, x0.dry, x0.openF, x0.fromF, x1, x0.tape, x0.ops, x0.values, x0.blocks⟩ : Twire_Machine) else wire_Machine_fail.j1 k x0)

set_option maxRecDepth 100000 in
set_option maxHeartbeats 4000000 in
theorem wire_Machine_fail.ok (k : Nat) (x0 : Twire_Machine) (x1 : Int) (r : (Int × Twire_Machine)) (hm : wire_Machine_fail.m k x0 x1 = some r) (κ : Ctx) (w : World) (S : List HP) (b_x0 : Nat) (b_x0otape : Nat) (A_x0otapeowords : Option Addr) (c_x0otapeowords : Nat) (A_x0oops : Option Addr) (c_x0oops : Nat) (A_x0ovalues : Option Addr) (c_x0ovalues : Nat) (A_x0oblocks : Option Addr) (c_x0oblocks : Nat) (ho : Own κ w (pt b_x0 (blk (Twire_Machine.obj x0 b_x0otape A_x0oops c_x0oops A_x0ovalues c_x0ovalues A_x0oblocks c_x0oblocks) 151) :: pt b_x0otape (blk (Ttape_Tape.obj x0.tape A_x0otapeowords c_x0otapeowords) 158) :: rowp A_x0otapeowords c_x0otapeowords 23 1 (eI .u64) x0.tape.words :: rowp A_x0oops c_x0oops 32 6 Tapi_Op.cells x0.ops :: rowp A_x0ovalues c_x0ovalues 23 1 (eI .u64) x0.values :: rowp A_x0oblocks c_x0oblocks 144 3 Tapi_Span.cells x0.blocks :: S)) :
    Calls Try.prog 94 #[.pointer (some ⟨b_x0, 0, none⟩), .int .i64 x1] w (wire_Machine_fail.R κ S x0 x1 b_x0 b_x0otape A_x0otapeowords c_x0otapeowords A_x0oops c_x0oops A_x0ovalues c_x0ovalues A_x0oblocks c_x0oblocks r) := by
  unfold wire_Machine_fail.m at hm
  refine Vk.enter [(0, .pointer (some ⟨b_x0, 0, none⟩)), (1, .int .i64 x1)] Try.func94 rfl Try.ntmps94 (by kernel_rfl) (Nat.le_of_ble_eq_true (by kernel_rfl)) ho fun a hs => ?_
  refine Vk.seq fun K1 hK1 => ?_
  refine Vk.region ?_
  refine Vk.pures 1 [(4, .int .i64 0)] hs (by kernel_rfl) fun a hs => ?_
  replace hs := hs.pick [0, 1] (L' := [(0, .pointer (some ⟨b_x0, 0, none⟩)), (1, .int .i64 x1)]) (by kernel_rfl)
  refine Vk.done (by kernel_rfl) ?_
  refine hK1 _ _ ?_
  clear hK1
  refine Vk.seq fun K2 hK2 => ?_
  have hj2 : ∀ (p_4 : Twire_Machine), wire_Machine_fail.j1 k p_4 = some r → ∀ (a : Act) (w : World), St 14 a w κ [] (pt b_x0 (blk (Twire_Machine.obj p_4 b_x0otape A_x0oops c_x0oops A_x0ovalues c_x0ovalues A_x0oblocks c_x0oblocks) 151) :: pt b_x0otape (blk (Ttape_Tape.obj p_4.tape A_x0otapeowords c_x0otapeowords) 158) :: rowp A_x0otapeowords c_x0otapeowords 23 1 (eI .u64) p_4.tape.words :: rowp A_x0oops c_x0oops 32 6 Tapi_Op.cells p_4.ops :: rowp A_x0ovalues c_x0ovalues 23 1 (eI .u64) p_4.values :: rowp A_x0oblocks c_x0oblocks 144 3 Tapi_Span.cells p_4.blocks :: S) → K2 a w := by
    intro p_4 hm a w hs
    unfold wire_Machine_fail.j1 at hm
    refine hK2 _ _ ?_
    refine Vk.seq fun K5 hK5 => ?_
    refine Vk.region ?_
    refine Vk.pures 1 [(4, .int .i64 (-1))] hs (by kernel_rfl) fun a hs => ?_
    replace hs := hs.pick [4] (L' := [(4, .int .i64 (-1))]) (by kernel_rfl)
    refine Vk.done (by kernel_rfl) ?_
    refine hK5 _ _ ?_
    clear hK5
    refine wp_ret ?_
    exact Vk.ret1 (P := Try.prog) (fn := Try.f94) (R := wire_Machine_fail.R κ S x0 x1 b_x0 b_x0otape A_x0otapeowords c_x0otapeowords A_x0oops c_x0oops A_x0ovalues c_x0ovalues A_x0oblocks c_x0oblocks r) (.int .i64 (-1)) hs rfl (by kernel_rfl) (by obtain rfl := Option.some.inj hm; exact ⟨A_x0otapeowords, c_x0otapeowords, A_x0oops, c_x0oops, A_x0ovalues, c_x0ovalues, A_x0oblocks, c_x0oblocks, rfl, (Own.to hs.own [0, 1, 2, 3, 4, 5] 6 (by kernel_rfl) (by kernel_rfl))⟩)
  refine Vk.seq fun K3 hK3 => ?_
  refine Vk.region ?_
  refine Vk.pures 3 [(7, .pointer (some ⟨b_x0, 8, none⟩)), (6, .pointer (some ⟨b_x0, 0, none⟩)), (5, .pointer (some ⟨b_x0, 0, none⟩))] hs (by kernel_rfl) fun a hs => ?_
  refine Vk.step (Vk.value (some 8) (.int .i64 x0.bad) hs (by kernel_rfl) (op := (.load 43 (.tmp 7))) (by kernel_rfl) (fun o ho => run_load1 (b := b_x0) (off := 8) (c := C.int .i64 x0.bad) ho (by kernel_rfl) (by kernel_rfl) (Cell.own 0 rfl (by kernel_rfl)) _ hs.own) fun a hs => ?_)
  refine Vk.pures 1 [(9, .bool (x0.bad == 0))] hs (by kernel_rfl) fun a hs => ?_
  replace hs := hs.pick [0, 1, 9] (L' := [(0, .pointer (some ⟨b_x0, 0, none⟩)), (1, .int .i64 x1), (9, .bool (x0.bad == 0))]) (by kernel_rfl)
  refine Vk.done (by kernel_rfl) ?_
  refine hK3 _ _ ?_
  clear hK3
  refine Vk.condS (b := x0.bad == 0) hs (by kernel_rfl) (by kernel_rfl) (fun hb => ?_) (fun hb => ?_)
  · replace hm := bif_t hm hb
    refine Vk.region ?_
    refine Vk.pures 4 [(13, .pointer (some ⟨b_x0, 8, none⟩)), (12, .pointer (some ⟨b_x0, 0, none⟩)), (11, .int .i64 x1), (10, .pointer (some ⟨b_x0, 0, none⟩))] hs (by kernel_rfl) fun a hs => ?_
    refine Vk.step (Vk.store1 (b := b_x0) (ty := 43) (x := (.tmp 13)) (y := (.tmp 11)) (off := 8) (C.int .i64 x1) 0 hs (by kernel_rfl) (by kernel_rfl) (by kernel_rfl) (by kernel_rfl) (by kernel_rfl) (by kernel_rfl) rfl (Nat.le_of_ble_eq_true (by kernel_rfl)) fun a w hs => ?_)
    replace hs := hs.pick [] (L' := []) (by kernel_rfl)
    refine Vk.done (by kernel_rfl) ?_
    exact hj2 (⟨x0.n, x0.most, x0.base, x0.words, x0.draws, x0.dry, x0.openF, x0.fromF, x1, x0.tape, x0.ops, x0.values, x0.blocks⟩ : Twire_Machine) hm _ _ (hs.go [] [0, 1, 2, 3, 4, 5] 6 (by kernel_rfl) (by kernel_rfl) (by kernel_rfl))
  · replace hm := bif_f hm hb
    refine wp_skip ?_
    exact hj2 x0 hm _ _ (hs.go [] [0, 1, 2, 3, 4, 5] 6 (by kernel_rfl) (by kernel_rfl) (by kernel_rfl))


abbrev wire_Machine_value.R (κ : Ctx) (S : List HP) (x0 : Twire_Machine) (x1 : Int) (b_x0 : Nat) (b_x0otape : Nat) (A_x0otapeowords : Option Addr) (c_x0otapeowords : Nat) (A_x0oops : Option Addr) (c_x0oops : Nat) (A_x0ovalues : Option Addr) (c_x0ovalues : Nat) (A_x0oblocks : Option Addr) (c_x0oblocks : Nat) (r : Int) : Ending → World → Prop := fun e w' => e = .returned (.int .u64 r) ∧ Own κ w' (pt b_x0 (blk (Twire_Machine.obj x0 b_x0otape A_x0oops c_x0oops A_x0ovalues c_x0ovalues A_x0oblocks c_x0oblocks) 151) :: pt b_x0otape (blk (Ttape_Tape.obj x0.tape A_x0otapeowords c_x0otapeowords) 158) :: rowp A_x0otapeowords c_x0otapeowords 23 1 (eI .u64) x0.tape.words :: rowp A_x0oops c_x0oops 32 6 Tapi_Op.cells x0.ops :: rowp A_x0ovalues c_x0ovalues 23 1 (eI .u64) x0.values :: rowp A_x0oblocks c_x0oblocks 144 3 Tapi_Span.cells x0.blocks :: S)
def wire_Machine_value.m (k : Nat) (x0 : Twire_Machine) (x1 : Int) : Option Int := (bif decide (x1 < 0) then some 0 else (if 0 ≤ x1 then (x0.values[x1.toNat]?).bind fun e_9 => some e_9 else none))

set_option maxRecDepth 100000 in
set_option maxHeartbeats 4000000 in
theorem wire_Machine_value.ok (k : Nat) (x0 : Twire_Machine) (x1 : Int) (r : Int) (hm : wire_Machine_value.m k x0 x1 = some r) (κ : Ctx) (w : World) (S : List HP) (b_x0 : Nat) (b_x0otape : Nat) (A_x0otapeowords : Option Addr) (c_x0otapeowords : Nat) (A_x0oops : Option Addr) (c_x0oops : Nat) (A_x0ovalues : Option Addr) (c_x0ovalues : Nat) (A_x0oblocks : Option Addr) (c_x0oblocks : Nat) (ho : Own κ w (pt b_x0 (blk (Twire_Machine.obj x0 b_x0otape A_x0oops c_x0oops A_x0ovalues c_x0ovalues A_x0oblocks c_x0oblocks) 151) :: pt b_x0otape (blk (Ttape_Tape.obj x0.tape A_x0otapeowords c_x0otapeowords) 158) :: rowp A_x0otapeowords c_x0otapeowords 23 1 (eI .u64) x0.tape.words :: rowp A_x0oops c_x0oops 32 6 Tapi_Op.cells x0.ops :: rowp A_x0ovalues c_x0ovalues 23 1 (eI .u64) x0.values :: rowp A_x0oblocks c_x0oblocks 144 3 Tapi_Span.cells x0.blocks :: S)) :
    Calls Try.prog 96 #[.pointer (some ⟨b_x0, 0, none⟩), .int .i64 x1] w (wire_Machine_value.R κ S x0 x1 b_x0 b_x0otape A_x0otapeowords c_x0otapeowords A_x0oops c_x0oops A_x0ovalues c_x0ovalues A_x0oblocks c_x0oblocks r) := by
  unfold wire_Machine_value.m at hm
  refine Vk.enter [(0, .pointer (some ⟨b_x0, 0, none⟩)), (1, .int .i64 x1)] Try.func96 rfl Try.ntmps96 (by kernel_rfl) (Nat.le_of_ble_eq_true (by kernel_rfl)) ho fun a hs => ?_
  refine Vk.seq fun K1 hK1 => ?_
  refine Vk.region ?_
  refine Vk.pures 1 [(4, .int .u64 0)] hs (by kernel_rfl) fun a hs => ?_
  replace hs := hs.pick [0, 1] (L' := [(0, .pointer (some ⟨b_x0, 0, none⟩)), (1, .int .i64 x1)]) (by kernel_rfl)
  refine Vk.done (by kernel_rfl) ?_
  refine hK1 _ _ ?_
  clear hK1
  refine Vk.seq fun K2 hK2 => ?_
  refine Vk.seq fun K3 hK3 => ?_
  refine Vk.region ?_
  refine Vk.pures 2 [(6, .bool (decide (x1 < 0))), (5, .int .i64 x1)] hs (by kernel_rfl) fun a hs => ?_
  replace hs := hs.pick [0, 1, 6] (L' := [(0, .pointer (some ⟨b_x0, 0, none⟩)), (1, .int .i64 x1), (6, .bool (decide (x1 < 0)))]) (by kernel_rfl)
  refine Vk.done (by kernel_rfl) ?_
  refine hK3 _ _ ?_
  clear hK3
  refine Vk.condS (b := decide (x1 < 0)) hs (by kernel_rfl) (by kernel_rfl) (fun hb => ?_) (fun hb => ?_)
  · replace hm := bif_t hm hb
    refine Vk.seq fun K4 hK4 => ?_
    refine Vk.region ?_
    refine Vk.pures 1 [(4, .int .u64 0)] hs (by kernel_rfl) fun a hs => ?_
    replace hs := hs.pick [4] (L' := [(4, .int .u64 0)]) (by kernel_rfl)
    refine Vk.done (by kernel_rfl) ?_
    refine hK4 _ _ ?_
    clear hK4
    refine wp_ret ?_
    exact Vk.ret1 (P := Try.prog) (fn := Try.f96) (R := wire_Machine_value.R κ S x0 x1 b_x0 b_x0otape A_x0otapeowords c_x0otapeowords A_x0oops c_x0oops A_x0ovalues c_x0ovalues A_x0oblocks c_x0oblocks r) (.int .u64 0) hs rfl (by kernel_rfl) (by obtain rfl := Option.some.inj hm; exact ⟨rfl, (Own.to hs.own [0, 1, 2, 3, 4, 5] 6 (by kernel_rfl) (by kernel_rfl))⟩)
  · replace hm := bif_f hm hb
    refine wp_skip ?_
    refine hK2 _ _ ?_
    clear hK2
    refine Vk.seq fun K5 hK5 => ?_
    refine Vk.region ?_
    refine Vk.pures 3 [(9, .pointer (some ⟨b_x0, 11, none⟩)), (8, .pointer (some ⟨b_x0, 0, none⟩)), (7, .pointer (some ⟨b_x0, 0, none⟩))] hs (by kernel_rfl) fun a hs => ?_
    refine Vk.step (Vk.value (some 10) (.slice A_x0ovalues x0.values.length c_x0ovalues) hs (by kernel_rfl) (op := (.load 73 (.tmp 9))) (by kernel_rfl) (fun o ho => run_load1 (b := b_x0) (off := 11) (c := C.slc A_x0ovalues x0.values.length c_x0ovalues) ho (by kernel_rfl) (by kernel_rfl) (Cell.own 0 rfl (by kernel_rfl)) _ hs.own) fun a hs => ?_)
    refine Vk.pures 1 [(11, .int .i64 x1)] hs (by kernel_rfl) fun a hs => ?_
    obtain ⟨h_6, hm⟩ := ite_t hm
    obtain ⟨e_9, h_7, hm⟩ := bind_t hm
    obtain ⟨b_10, o_11, hA_12, h_8⟩ := Sl.elem (Own.rowSl 0 (Own.to (S' := rowp A_x0ovalues c_x0ovalues 23 1 (eI .u64) x0.values :: S) hs.own [4] 6 (by kernel_rfl) (by kernel_rfl)) rfl) h_7
    refine Vk.step (Vk.value (some 12) (.pointer (some ⟨b_10, o_11 + x1.toNat * 1, none⟩)) hs (by kernel_rfl) (op := (.indexAddr 73 (.tmp 10) (.tmp 11))) (by kernel_rfl) (fun o ho => run_idxSlc (k := .i64) ho (cap := c_x0ovalues) (len := x0.values.length) ((congrArg (fun A => Value.slice A (x0.values.length) (c_x0ovalues)) hA_12) ▸ (by kernel_rfl)) (by kernel_rfl) (by kernel_rfl) (idx_ok h_6 h_7) _) fun a hs => ?_)
    refine Vk.step (Vk.value (some 13) (.int .u64 e_9) hs (by kernel_rfl) (op := (.load 23 (.tmp 12))) (by kernel_rfl) (fun o ho => run_load1 (c := C.int .u64 e_9) ho (by kernel_rfl) (by kernel_rfl) (fun w ho => h_8 w ho 0 _ rfl) _ (Own.to (S' := rowp A_x0ovalues c_x0ovalues 23 1 (eI .u64) x0.values :: S) hs.own [4] 6 (by kernel_rfl) (by kernel_rfl))) fun a hs => ?_)
    refine Vk.pures 1 [(4, .int .u64 e_9)] hs (by kernel_rfl) fun a hs => ?_
    replace hs := hs.pick [4] (L' := [(4, .int .u64 e_9)]) (by kernel_rfl)
    refine Vk.done (by kernel_rfl) ?_
    refine hK5 _ _ ?_
    clear hK5
    refine wp_ret ?_
    exact Vk.ret1 (P := Try.prog) (fn := Try.f96) (R := wire_Machine_value.R κ S x0 x1 b_x0 b_x0otape A_x0otapeowords c_x0otapeowords A_x0oops c_x0oops A_x0ovalues c_x0ovalues A_x0oblocks c_x0oblocks r) (.int .u64 e_9) hs rfl (by kernel_rfl) (by obtain rfl := Option.some.inj hm; exact ⟨rfl, (Own.to hs.own [0, 1, 2, 3, 4, 5] 6 (by kernel_rfl) (by kernel_rfl))⟩)


abbrev wire_Machine_next.R (κ : Ctx) (S : List HP) (x0 : Twire_Machine) (b_x0 : Nat) (b_x0otape : Nat) (A_x0otapeowords : Option Addr) (c_x0otapeowords : Nat) (A_x0oops : Option Addr) (c_x0oops : Nat) (A_x0ovalues : Option Addr) (c_x0ovalues : Nat) (A_x0oblocks : Option Addr) (c_x0oblocks : Nat) (r : Int) : Ending → World → Prop := fun e w' => e = .returned (.int .u64 r) ∧ Own κ w' (pt b_x0 (blk (Twire_Machine.obj x0 b_x0otape A_x0oops c_x0oops A_x0ovalues c_x0ovalues A_x0oblocks c_x0oblocks) 151) :: pt b_x0otape (blk (Ttape_Tape.obj x0.tape A_x0otapeowords c_x0otapeowords) 158) :: rowp A_x0otapeowords c_x0otapeowords 23 1 (eI .u64) x0.tape.words :: rowp A_x0oops c_x0oops 32 6 Tapi_Op.cells x0.ops :: rowp A_x0ovalues c_x0ovalues 23 1 (eI .u64) x0.values :: rowp A_x0oblocks c_x0oblocks 144 3 Tapi_Span.cells x0.blocks :: S)
def wire_Machine_next.m (k : Nat) (x0 : Twire_Machine) : Option Int := some (IntKind.u64.wrap x0.words)

set_option maxRecDepth 100000 in
set_option maxHeartbeats 4000000 in
theorem wire_Machine_next.ok (k : Nat) (x0 : Twire_Machine) (r : Int) (hm : wire_Machine_next.m k x0 = some r) (κ : Ctx) (w : World) (S : List HP) (b_x0 : Nat) (b_x0otape : Nat) (A_x0otapeowords : Option Addr) (c_x0otapeowords : Nat) (A_x0oops : Option Addr) (c_x0oops : Nat) (A_x0ovalues : Option Addr) (c_x0ovalues : Nat) (A_x0oblocks : Option Addr) (c_x0oblocks : Nat) (ho : Own κ w (pt b_x0 (blk (Twire_Machine.obj x0 b_x0otape A_x0oops c_x0oops A_x0ovalues c_x0ovalues A_x0oblocks c_x0oblocks) 151) :: pt b_x0otape (blk (Ttape_Tape.obj x0.tape A_x0otapeowords c_x0otapeowords) 158) :: rowp A_x0otapeowords c_x0otapeowords 23 1 (eI .u64) x0.tape.words :: rowp A_x0oops c_x0oops 32 6 Tapi_Op.cells x0.ops :: rowp A_x0ovalues c_x0ovalues 23 1 (eI .u64) x0.values :: rowp A_x0oblocks c_x0oblocks 144 3 Tapi_Span.cells x0.blocks :: S)) :
    Calls Try.prog 92 #[.pointer (some ⟨b_x0, 0, none⟩)] w (wire_Machine_next.R κ S x0 b_x0 b_x0otape A_x0otapeowords c_x0otapeowords A_x0oops c_x0oops A_x0ovalues c_x0ovalues A_x0oblocks c_x0oblocks r) := by
  unfold wire_Machine_next.m at hm
  refine Vk.enter [(0, .pointer (some ⟨b_x0, 0, none⟩))] Try.func92 rfl Try.ntmps92 (by kernel_rfl) (Nat.le_of_ble_eq_true (by kernel_rfl)) ho fun a hs => ?_
  refine Vk.seq fun K1 hK1 => ?_
  refine Vk.region ?_
  refine Vk.pures 1 [(2, .int .u64 0)] hs (by kernel_rfl) fun a hs => ?_
  replace hs := hs.pick [0] (L' := [(0, .pointer (some ⟨b_x0, 0, none⟩))]) (by kernel_rfl)
  refine Vk.done (by kernel_rfl) ?_
  refine hK1 _ _ ?_
  clear hK1
  refine Vk.seq fun K2 hK2 => ?_
  refine Vk.seq fun K3 hK3 => ?_
  refine Vk.region ?_
  refine Vk.pures 2 [(4, .bool false), (3, .pointer (some ⟨b_x0, 0, none⟩))] hs (by kernel_rfl) fun a hs => ?_
  replace hs := hs.pick [0, 4] (L' := [(0, .pointer (some ⟨b_x0, 0, none⟩)), (4, .bool false)]) (by kernel_rfl)
  refine Vk.done (by kernel_rfl) ?_
  refine hK3 _ _ ?_
  clear hK3
  refine Vk.condF hs (by kernel_rfl) (by kernel_rfl) ?_
  refine wp_skip ?_
  refine hK2 _ _ ?_
  clear hK2
  refine Vk.seq fun K4 hK4 => ?_
  refine Vk.region ?_
  refine Vk.pures 3 [(7, .pointer (some ⟨b_x0, 3, none⟩)), (6, .pointer (some ⟨b_x0, 0, none⟩)), (5, .pointer (some ⟨b_x0, 0, none⟩))] hs (by kernel_rfl) fun a hs => ?_
  refine Vk.step (Vk.value (some 8) (.int .i64 x0.words) hs (by kernel_rfl) (op := (.load 3 (.tmp 7))) (by kernel_rfl) (fun o ho => run_load1 (b := b_x0) (off := 3) (c := C.int .i64 x0.words) ho (by kernel_rfl) (by kernel_rfl) (Cell.own 0 rfl (by kernel_rfl)) _ hs.own) fun a hs => ?_)
  refine Vk.pures 2 [(2, .int .u64 (IntKind.u64.wrap x0.words)), (9, .int .u64 (IntKind.u64.wrap x0.words))] hs (by kernel_rfl) fun a hs => ?_
  replace hs := hs.pick [2] (L' := [(2, .int .u64 (IntKind.u64.wrap x0.words))]) (by kernel_rfl)
  refine Vk.done (by kernel_rfl) ?_
  refine hK4 _ _ ?_
  clear hK4
  refine wp_ret ?_
  exact Vk.ret1 (P := Try.prog) (fn := Try.f92) (R := wire_Machine_next.R κ S x0 b_x0 b_x0otape A_x0otapeowords c_x0otapeowords A_x0oops c_x0oops A_x0ovalues c_x0ovalues A_x0oblocks c_x0oblocks r) (.int .u64 (IntKind.u64.wrap x0.words)) hs rfl (by kernel_rfl) (by obtain rfl := Option.some.inj hm; exact ⟨rfl, (Own.to hs.own [0, 1, 2, 3, 4, 5] 6 (by kernel_rfl) (by kernel_rfl))⟩)


def wire_Machine_Do.j3 (k : Nat) (x1 : Tapi_Op) (p_68 : Int) (p_73 : Twire_Machine) : Option (Int × Twire_Machine) := (bif p_73.dry then some (IntKind.i64.wrap ((IntKind.i64.wrap (p_73.base + 1)) - 1), (⟨p_73.n, p_73.most, IntKind.i64.wrap (p_73.base + 1), p_73.words, p_73.draws, p_73.dry, p_73.openF, p_73.fromF, p_73.bad, p_73.tape, p_73.ops, p_73.values, p_73.blocks⟩ : Twire_Machine)) else (wire_Machine_value.m k p_73 x1.a).bind fun v_81 => (wire_Machine_value.m k p_73 x1.b).bind fun v_85 => (wire_Machine_value.m k p_73 x1.d).bind fun v_89 => (op_Eval.m k x1 v_81 v_85 v_89 p_68).bind fun v_93 => (if (p_73.values.length + ([v_93] : List Int).length) * 8 ≤ 140737488355328 then (if (p_73.ops.length + ([x1] : List Tapi_Op).length) * 48 ≤ 140737488355328 then some (IntKind.i64.wrap ((((p_73.ops ++ ([x1] : List Tapi_Op)).length : Nat) : Int) - 1), (⟨p_73.n, p_73.most, p_73.base, p_73.words, p_73.draws, p_73.dry, p_73.openF, p_73.fromF, p_73.bad, p_73.tape, p_73.ops ++ ([x1] : List Tapi_Op), p_73.values ++ ([v_93] : List Int), p_73.blocks⟩ : Twire_Machine)) else none) else none))
def wire_Machine_Do.j2 (k : Nat) (x1 : Tapi_Op) (p_64 : Twire_Machine) (p_68 : Int) : Option (Int × Twire_Machine) := (bif x1.kind == 1 then wire_Machine_Do.j3 k x1 p_68 (⟨p_64.n, p_64.most, p_64.base, p_64.words, IntKind.i64.wrap (p_64.draws + 1), p_64.dry, p_64.openF, p_64.fromF, p_64.bad, p_64.tape, p_64.ops, p_64.values, p_64.blocks⟩ : Twire_Machine) else (bif x1.kind == 2 then wire_Machine_Do.j3 k x1 p_68 (⟨p_64.n, p_64.most, p_64.base, IntKind.i64.wrap (p_64.words + 1), p_64.draws, p_64.dry, p_64.openF, p_64.fromF, p_64.bad, p_64.tape, p_64.ops, p_64.values, p_64.blocks⟩ : Twire_Machine) else wire_Machine_Do.j3 k x1 p_68 p_64))
def wire_Machine_Do.j1 (k : Nat) (x0 : Twire_Machine) (x1 : Tapi_Op) (x2 : Int) (p_25 : Bool) : Option (Int × Twire_Machine) := (bif p_25 then (wire_Machine_fail.m k x0 3).bind fun v_29 => some (v_29.1, v_29.2) else (bif (x1.kind == 1) && (!x0.dry) then (tape_Tape_Draw.m k x0.tape).bind fun v_45 => (bif !v_45.2.1 then (wire_Machine_fail.m k (⟨x0.n, x0.most, x0.base, x0.words, x0.draws, x0.dry, x0.openF, x0.fromF, x0.bad, v_45.2.2, x0.ops, x0.values, x0.blocks⟩ : Twire_Machine) 2).bind fun v_54 => some (v_54.1, v_54.2) else wire_Machine_Do.j2 k x1 (⟨x0.n, x0.most, x0.base, x0.words, x0.draws, x0.dry, x0.openF, x0.fromF, x0.bad, v_45.2.2, x0.ops, x0.values, x0.blocks⟩ : Twire_Machine) v_45.1) else wire_Machine_Do.j2 k x1 x0 x2))
abbrev wire_Machine_Do.R (κ : Ctx) (S : List HP) (x0 : Twire_Machine) (x1 : Tapi_Op) (x2 : Int) (b_x0 : Nat) (b_x0otape : Nat) (A_x0otapeowords : Option Addr) (c_x0otapeowords : Nat) (A_x0oops : Option Addr) (c_x0oops : Nat) (A_x0ovalues : Option Addr) (c_x0ovalues : Nat) (A_x0oblocks : Option Addr) (c_x0oblocks : Nat) (r : (Int × Twire_Machine)) : Ending → World → Prop := fun e w' => ∃ (A_y0otapeowords : Option Addr), ∃ (c_y0otapeowords : Nat), ∃ (A_y0oops : Option Addr), ∃ (c_y0oops : Nat), ∃ (A_y0ovalues : Option Addr), ∃ (c_y0ovalues : Nat), ∃ (A_y0oblocks : Option Addr), ∃ (c_y0oblocks : Nat), e = .returned (.int .i64 r.1) ∧ Own κ w' (pt b_x0 (blk (Twire_Machine.obj r.2 b_x0otape A_y0oops c_y0oops A_y0ovalues c_y0ovalues A_y0oblocks c_y0oblocks) 151) :: pt b_x0otape (blk (Ttape_Tape.obj r.2.tape A_y0otapeowords c_y0otapeowords) 158) :: rowp A_y0otapeowords c_y0otapeowords 23 1 (eI .u64) r.2.tape.words :: rowp A_y0oops c_y0oops 32 6 Tapi_Op.cells r.2.ops :: rowp A_y0ovalues c_y0ovalues 23 1 (eI .u64) r.2.values :: rowp A_y0oblocks c_y0oblocks 144 3 Tapi_Span.cells r.2.blocks :: S)
def wire_Machine_Do.m (k : Nat) (x0 : Twire_Machine) (x1 : Tapi_Op) (x2 : Int) : Option (Int × Twire_Machine) := (bif x0.bad != 0 then some ((-1), x0) else (wire_Machine_right.m k x0 x1).bind fun v_9 => (bif !v_9 then (wire_Machine_fail.m k x0 1).bind fun v_14 => some (v_14.1, v_14.2) else (bif !x0.dry then wire_Machine_Do.j1 k x0 x1 x2 (decide (((x0.ops.length : Nat) : Int) ≥ x0.most)) else wire_Machine_Do.j1 k x0 x1 x2 false)))

set_option maxRecDepth 100000 in
set_option maxHeartbeats 4000000 in
theorem wire_Machine_Do.ok (k : Nat) (x0 : Twire_Machine) (x1 : Tapi_Op) (x2 : Int) (r : (Int × Twire_Machine)) (hm : wire_Machine_Do.m k x0 x1 x2 = some r) (κ : Ctx) (w : World) (S : List HP) (b_x0 : Nat) (b_x0otape : Nat) (A_x0otapeowords : Option Addr) (c_x0otapeowords : Nat) (A_x0oops : Option Addr) (c_x0oops : Nat) (A_x0ovalues : Option Addr) (c_x0ovalues : Nat) (A_x0oblocks : Option Addr) (c_x0oblocks : Nat) (ho : Own κ w (pt b_x0 (blk (Twire_Machine.obj x0 b_x0otape A_x0oops c_x0oops A_x0ovalues c_x0ovalues A_x0oblocks c_x0oblocks) 151) :: pt b_x0otape (blk (Ttape_Tape.obj x0.tape A_x0otapeowords c_x0otapeowords) 158) :: rowp A_x0otapeowords c_x0otapeowords 23 1 (eI .u64) x0.tape.words :: rowp A_x0oops c_x0oops 32 6 Tapi_Op.cells x0.ops :: rowp A_x0ovalues c_x0ovalues 23 1 (eI .u64) x0.values :: rowp A_x0oblocks c_x0oblocks 144 3 Tapi_Span.cells x0.blocks :: S)) :
    Calls Try.prog 60 #[.pointer (some ⟨b_x0, 0, none⟩), .agg (vals [C.int .i64 x1.kind, C.int .i64 x1.dom, C.int .i64 x1.a, C.int .i64 x1.b, C.int .i64 x1.d, C.int .u64 x1.c]), .int .u64 x2] w (wire_Machine_Do.R κ S x0 x1 x2 b_x0 b_x0otape A_x0otapeowords c_x0otapeowords A_x0oops c_x0oops A_x0ovalues c_x0ovalues A_x0oblocks c_x0oblocks r) := by
  unfold wire_Machine_Do.m at hm
  refine Vk.enter [(0, .pointer (some ⟨b_x0, 0, none⟩)), (1, .agg (vals [C.int .i64 x1.kind, C.int .i64 x1.dom, C.int .i64 x1.a, C.int .i64 x1.b, C.int .i64 x1.d, C.int .u64 x1.c])), (2, .int .u64 x2)] Try.func60 rfl Try.ntmps60 (by kernel_rfl) (Nat.le_of_ble_eq_true (by kernel_rfl)) ho fun a hs => ?_
  refine Vk.seq fun K1 hK1 => ?_
  refine Vk.region ?_
  refine Vk.step (Vk.box (x := (.tmp 1)) 4 32 [C.int .i64 x1.kind, C.int .i64 x1.dom, C.int .i64 x1.a, C.int .i64 x1.b, C.int .i64 x1.d, C.int .u64 x1.c] hs (by kernel_rfl) (by kernel_rfl) (by kernel_rfl) fun b_2 w a hs => ?_)
  refine Vk.pures 1 [(6, .int .i64 0)] hs (by kernel_rfl) fun a hs => ?_
  replace hs := hs.pick [0, 2, 4] (L' := [(0, .pointer (some ⟨b_x0, 0, none⟩)), (2, .int .u64 x2), (4, .pointer (some ⟨b_2, 0, none⟩))]) (by kernel_rfl)
  refine Vk.done (by kernel_rfl) ?_
  refine hK1 _ _ ?_
  clear hK1
  refine Vk.seq fun K3 hK3 => ?_
  refine wp_block ?_
  refine Vk.seq fun K4 hK4 => ?_
  refine Vk.region ?_
  refine Vk.pures 6 [(15, .pointer (some ⟨b_x0, 8, none⟩)), (14, .pointer (some ⟨b_x0, 0, none⟩)), (13, .pointer (some ⟨b_x0, 0, none⟩)), (12, .bool false), (11, .bool false), (10, .pointer (some ⟨b_x0, 0, none⟩))] hs (by kernel_rfl) fun a hs => ?_
  refine Vk.step (Vk.value (some 16) (.int .i64 x0.bad) hs (by kernel_rfl) (op := (.load 43 (.tmp 15))) (by kernel_rfl) (fun o ho => run_load1 (b := b_x0) (off := 8) (c := C.int .i64 x0.bad) ho (by kernel_rfl) (by kernel_rfl) (Cell.own 1 rfl (by kernel_rfl)) _ hs.own) fun a hs => ?_)
  refine Vk.pures 3 [(9, .bool (x0.bad != 0)), (18, .bool (x0.bad != 0)), (17, .bool (x0.bad != 0))] hs (by kernel_rfl) fun a hs => ?_
  replace hs := hs.pick [0, 2, 4, 9] (L' := [(0, .pointer (some ⟨b_x0, 0, none⟩)), (2, .int .u64 x2), (4, .pointer (some ⟨b_2, 0, none⟩)), (9, .bool (x0.bad != 0))]) (by kernel_rfl)
  refine Vk.done (by kernel_rfl) ?_
  refine hK4 _ _ ?_
  clear hK4
  refine Vk.condS (b := x0.bad != 0) hs (by kernel_rfl) (by kernel_rfl) (fun hb => ?_) (fun hb => ?_)
  · replace hm := bif_t hm hb
    refine Vk.seq fun K5 hK5 => ?_
    refine Vk.region ?_
    refine Vk.pures 1 [(6, .int .i64 (-1))] hs (by kernel_rfl) fun a hs => ?_
    replace hs := hs.pick [6] (L' := [(6, .int .i64 (-1))]) (by kernel_rfl)
    refine Vk.done (by kernel_rfl) ?_
    refine hK5 _ _ ?_
    clear hK5
    refine wp_ret ?_
    exact Vk.ret1 (P := Try.prog) (fn := Try.f60) (R := wire_Machine_Do.R κ S x0 x1 x2 b_x0 b_x0otape A_x0otapeowords c_x0otapeowords A_x0oops c_x0oops A_x0ovalues c_x0ovalues A_x0oblocks c_x0oblocks r) (.int .i64 (-1)) hs rfl (by kernel_rfl) (by obtain rfl := Option.some.inj hm; exact ⟨A_x0otapeowords, c_x0otapeowords, A_x0oops, c_x0oops, A_x0ovalues, c_x0ovalues, A_x0oblocks, c_x0oblocks, rfl, (Own.to hs.own [1, 2, 3, 4, 5, 6] 7 (by kernel_rfl) (by kernel_rfl))⟩)
  · replace hm := bif_f hm hb
    refine Vk.seq fun K6 hK6 => ?_
    refine Vk.region ?_
    refine Vk.pures 1 [(20, .pointer (some ⟨b_x0, 0, none⟩))] hs (by kernel_rfl) fun a hs => ?_
    refine Vk.step (Vk.value (some 21) (.agg (vals [C.int .i64 x1.kind, C.int .i64 x1.dom, C.int .i64 x1.a, C.int .i64 x1.b, C.int .i64 x1.d, C.int .u64 x1.c])) hs (by kernel_rfl) (op := (.load 32 (.tmp 4))) (by kernel_rfl) (fun o ho => run_loadN (cs := [C.int .i64 x1.kind, C.int .i64 x1.dom, C.int .i64 x1.a, C.int .i64 x1.b, C.int .i64 x1.d, C.int .u64 x1.c]) ho (by kernel_rfl) (by kernel_rfl) rfl (CellsAt.all 0 rfl) _ hs.own) fun a hs => ?_)
    obtain ⟨v_9, h_8, hm⟩ := bind_t hm
    refine Vk.step (Vk.call (some 22) 93 #[.pointer (some ⟨b_x0, 0, none⟩), .agg (vals [C.int .i64 x1.kind, C.int .i64 x1.dom, C.int .i64 x1.a, C.int .i64 x1.b, C.int .i64 x1.d, C.int .u64 x1.c])] hs (by kernel_rfl) (by kernel_rfl) (by kernel_rfl) ?_)
    refine (wire_Machine_right.ok k x0 x1 v_9 h_8 κ w (pt b_2 (blk (Tapi_Op.cells x1) 32) :: S) b_x0 b_x0otape A_x0otapeowords c_x0otapeowords A_x0oops c_x0oops A_x0ovalues c_x0ovalues A_x0oblocks c_x0oblocks (Own.to hs.own [1, 2, 3, 4, 5, 6, 0] 7 (by kernel_rfl) (by kernel_rfl))).mono ?_
    rintro _ w ⟨rfl, how⟩
    refine ⟨_, _, _, rfl, how, fun a hs => ?_⟩
    refine Vk.pures 2 [(19, .bool (!v_9)), (23, .bool (!v_9))] hs (by kernel_rfl) fun a hs => ?_
    replace hs := hs.pick [0, 2, 4, 19] (L' := [(0, .pointer (some ⟨b_x0, 0, none⟩)), (2, .int .u64 x2), (4, .pointer (some ⟨b_2, 0, none⟩)), (19, .bool (!v_9))]) (by kernel_rfl)
    refine Vk.done (by kernel_rfl) ?_
    refine hK6 _ _ ?_
    clear hK6
    refine Vk.condS (b := !v_9) hs (by kernel_rfl) (by kernel_rfl) (fun hb => ?_) (fun hb => ?_)
    · replace hm := bif_t hm hb
      refine Vk.seq fun K11 hK11 => ?_
      refine Vk.region ?_
      refine Vk.pures 1 [(24, .pointer (some ⟨b_x0, 0, none⟩))] hs (by kernel_rfl) fun a hs => ?_
      obtain ⟨v_14, h_13, hm⟩ := bind_t hm
      refine Vk.step (Vk.call (some 25) 94 #[.pointer (some ⟨b_x0, 0, none⟩), .int .i64 1] hs (by kernel_rfl) (by kernel_rfl) (by kernel_rfl) ?_)
      refine (wire_Machine_fail.ok k x0 1 v_14 h_13 κ w (pt b_2 (blk (Tapi_Op.cells x1) 32) :: S) b_x0 b_x0otape A_x0otapeowords c_x0otapeowords A_x0oops c_x0oops A_x0ovalues c_x0ovalues A_x0oblocks c_x0oblocks (Own.to hs.own [0, 1, 2, 3, 4, 5, 6] 7 (by kernel_rfl) (by kernel_rfl))).mono ?_
      rintro _ w ⟨Ar12o0otapeowords_16, cr12o0otapeowords_17, Ar12o0oops_18, cr12o0oops_19, Ar12o0ovalues_20, cr12o0ovalues_21, Ar12o0oblocks_22, cr12o0oblocks_23, rfl, how⟩
      refine ⟨_, _, _, rfl, how, fun a hs => ?_⟩
      refine Vk.pures 1 [(6, .int .i64 v_14.1)] hs (by kernel_rfl) fun a hs => ?_
      replace hs := hs.pick [6] (L' := [(6, .int .i64 v_14.1)]) (by kernel_rfl)
      refine Vk.done (by kernel_rfl) ?_
      refine hK11 _ _ ?_
      clear hK11
      refine wp_ret ?_
      exact Vk.ret1 (P := Try.prog) (fn := Try.f60) (R := wire_Machine_Do.R κ S x0 x1 x2 b_x0 b_x0otape A_x0otapeowords c_x0otapeowords A_x0oops c_x0oops A_x0ovalues c_x0ovalues A_x0oblocks c_x0oblocks r) (.int .i64 v_14.1) hs rfl (by kernel_rfl) (by obtain rfl := Option.some.inj hm; exact ⟨Ar12o0otapeowords_16, cr12o0otapeowords_17, Ar12o0oops_18, cr12o0oops_19, Ar12o0ovalues_20, cr12o0ovalues_21, Ar12o0oblocks_22, cr12o0oblocks_23, rfl, (Own.to hs.own [0, 1, 2, 3, 4, 5] 7 (by kernel_rfl) (by kernel_rfl))⟩)
    · replace hm := bif_f hm hb
      refine Vk.seq fun K24 hK24 => ?_
      have hj24 : ∀ (p_25 : Bool), wire_Machine_Do.j1 k x0 x1 x2 p_25 = some r → ∀ (a : Act) (w : World), St 145 a w κ [(0, .pointer (some ⟨b_x0, 0, none⟩)), (2, .int .u64 x2), (4, .pointer (some ⟨b_2, 0, none⟩)), (26, .bool p_25)] (pt b_x0 (blk (Twire_Machine.obj x0 b_x0otape A_x0oops c_x0oops A_x0ovalues c_x0ovalues A_x0oblocks c_x0oblocks) 151) :: pt b_x0otape (blk (Ttape_Tape.obj x0.tape A_x0otapeowords c_x0otapeowords) 158) :: rowp A_x0otapeowords c_x0otapeowords 23 1 (eI .u64) x0.tape.words :: rowp A_x0oops c_x0oops 32 6 Tapi_Op.cells x0.ops :: rowp A_x0ovalues c_x0ovalues 23 1 (eI .u64) x0.values :: rowp A_x0oblocks c_x0oblocks 144 3 Tapi_Span.cells x0.blocks :: pt b_2 (blk (Tapi_Op.cells x1) 32) :: S) → K24 a w := by
        intro p_25 hm a w hs
        unfold wire_Machine_Do.j1 at hm
        refine hK24 _ _ ?_
        refine Vk.condS (b := p_25) hs (by kernel_rfl) (by kernel_rfl) (fun hb => ?_) (fun hb => ?_)
        · replace hm := bif_t hm hb
          refine Vk.seq fun K26 hK26 => ?_
          refine Vk.region ?_
          refine Vk.pures 1 [(44, .pointer (some ⟨b_x0, 0, none⟩))] hs (by kernel_rfl) fun a hs => ?_
          obtain ⟨v_29, h_28, hm⟩ := bind_t hm
          refine Vk.step (Vk.call (some 45) 94 #[.pointer (some ⟨b_x0, 0, none⟩), .int .i64 3] hs (by kernel_rfl) (by kernel_rfl) (by kernel_rfl) ?_)
          refine (wire_Machine_fail.ok k x0 3 v_29 h_28 κ w (pt b_2 (blk (Tapi_Op.cells x1) 32) :: S) b_x0 b_x0otape A_x0otapeowords c_x0otapeowords A_x0oops c_x0oops A_x0ovalues c_x0ovalues A_x0oblocks c_x0oblocks (Own.to hs.own [0, 1, 2, 3, 4, 5, 6] 7 (by kernel_rfl) (by kernel_rfl))).mono ?_
          rintro _ w ⟨Ar27o0otapeowords_31, cr27o0otapeowords_32, Ar27o0oops_33, cr27o0oops_34, Ar27o0ovalues_35, cr27o0ovalues_36, Ar27o0oblocks_37, cr27o0oblocks_38, rfl, how⟩
          refine ⟨_, _, _, rfl, how, fun a hs => ?_⟩
          refine Vk.pures 1 [(6, .int .i64 v_29.1)] hs (by kernel_rfl) fun a hs => ?_
          replace hs := hs.pick [6] (L' := [(6, .int .i64 v_29.1)]) (by kernel_rfl)
          refine Vk.done (by kernel_rfl) ?_
          refine hK26 _ _ ?_
          clear hK26
          refine wp_ret ?_
          exact Vk.ret1 (P := Try.prog) (fn := Try.f60) (R := wire_Machine_Do.R κ S x0 x1 x2 b_x0 b_x0otape A_x0otapeowords c_x0otapeowords A_x0oops c_x0oops A_x0ovalues c_x0ovalues A_x0oblocks c_x0oblocks r) (.int .i64 v_29.1) hs rfl (by kernel_rfl) (by obtain rfl := Option.some.inj hm; exact ⟨Ar27o0otapeowords_31, cr27o0otapeowords_32, Ar27o0oops_33, cr27o0oops_34, Ar27o0ovalues_35, cr27o0ovalues_36, Ar27o0oblocks_37, cr27o0oblocks_38, rfl, (Own.to hs.own [0, 1, 2, 3, 4, 5] 7 (by kernel_rfl) (by kernel_rfl))⟩)
        · replace hm := bif_f hm hb
          refine wp_skip ?_
          refine hK3 _ _ ?_
          clear hK3
          refine Vk.seq fun K39 hK39 => ?_
          have hj39 : ∀ (p_64 : Twire_Machine) (p_68 : Int), wire_Machine_Do.j2 k x1 p_64 p_68 = some r → ∀ (A_65 : Option Addr) (c_66 : Nat) (a : Act) (w : World), St 145 a w κ [(0, .pointer (some ⟨b_x0, 0, none⟩)), (2, .int .u64 p_68), (4, .pointer (some ⟨b_2, 0, none⟩))] (pt b_x0 (blk (Twire_Machine.obj p_64 b_x0otape A_x0oops c_x0oops A_x0ovalues c_x0ovalues A_x0oblocks c_x0oblocks) 151) :: pt b_x0otape (blk (Ttape_Tape.obj p_64.tape A_65 c_66) 158) :: rowp A_65 c_66 23 1 (eI .u64) p_64.tape.words :: rowp A_x0oops c_x0oops 32 6 Tapi_Op.cells p_64.ops :: rowp A_x0ovalues c_x0ovalues 23 1 (eI .u64) p_64.values :: rowp A_x0oblocks c_x0oblocks 144 3 Tapi_Span.cells p_64.blocks :: pt b_2 (blk (Tapi_Op.cells x1) 32) :: S) → K39 a w := by
            intro p_64 p_68 hm A_65 c_66 a w hs
            unfold wire_Machine_Do.j2 at hm
            refine hK39 _ _ ?_
            refine Vk.seq fun K69 hK69 => ?_
            have hj69 : ∀ (p_73 : Twire_Machine), wire_Machine_Do.j3 k x1 p_68 p_73 = some r → ∀ (a : Act) (w : World), St 145 a w κ [(0, .pointer (some ⟨b_x0, 0, none⟩)), (2, .int .u64 p_68), (4, .pointer (some ⟨b_2, 0, none⟩))] (pt b_x0 (blk (Twire_Machine.obj p_73 b_x0otape A_x0oops c_x0oops A_x0ovalues c_x0ovalues A_x0oblocks c_x0oblocks) 151) :: pt b_x0otape (blk (Ttape_Tape.obj p_73.tape A_65 c_66) 158) :: rowp A_65 c_66 23 1 (eI .u64) p_73.tape.words :: rowp A_x0oops c_x0oops 32 6 Tapi_Op.cells p_73.ops :: rowp A_x0ovalues c_x0ovalues 23 1 (eI .u64) p_73.values :: rowp A_x0oblocks c_x0oblocks 144 3 Tapi_Span.cells p_73.blocks :: pt b_2 (blk (Tapi_Op.cells x1) 32) :: S) → K69 a w := by
              intro p_73 hm a w hs
              unfold wire_Machine_Do.j3 at hm
              refine hK69 _ _ ?_
              refine Vk.seq fun K74 hK74 => ?_
              refine Vk.seq fun K75 hK75 => ?_
              refine Vk.region ?_
              refine Vk.pures 3 [(91, .pointer (some ⟨b_x0, 5, none⟩)), (90, .pointer (some ⟨b_x0, 0, none⟩)), (89, .pointer (some ⟨b_x0, 0, none⟩))] hs (by kernel_rfl) fun a hs => ?_
              refine Vk.step (Vk.value (some 92) (.bool p_73.dry) hs (by kernel_rfl) (op := (.load 4 (.tmp 91))) (by kernel_rfl) (fun o ho => run_load1 (b := b_x0) (off := 5) (c := C.bool p_73.dry) ho (by kernel_rfl) (by kernel_rfl) (Cell.own 0 rfl (by kernel_rfl)) _ hs.own) fun a hs => ?_)
              replace hs := hs.pick [0, 2, 4, 92] (L' := [(0, .pointer (some ⟨b_x0, 0, none⟩)), (2, .int .u64 p_68), (4, .pointer (some ⟨b_2, 0, none⟩)), (92, .bool p_73.dry)]) (by kernel_rfl)
              refine Vk.done (by kernel_rfl) ?_
              refine hK75 _ _ ?_
              clear hK75
              refine Vk.condS (b := p_73.dry) hs (by kernel_rfl) (by kernel_rfl) (fun hb => ?_) (fun hb => ?_)
              · replace hm := bif_t hm hb
                refine Vk.seq fun K76 hK76 => ?_
                refine Vk.region ?_
                refine Vk.pures 3 [(95, .pointer (some ⟨b_x0, 2, none⟩)), (94, .pointer (some ⟨b_x0, 0, none⟩)), (93, .pointer (some ⟨b_x0, 0, none⟩))] hs (by kernel_rfl) fun a hs => ?_
                refine Vk.step (Vk.value (some 96) (.int .i64 p_73.base) hs (by kernel_rfl) (op := (.load 3 (.tmp 95))) (by kernel_rfl) (fun o ho => run_load1 (b := b_x0) (off := 2) (c := C.int .i64 p_73.base) ho (by kernel_rfl) (by kernel_rfl) (Cell.own 0 rfl (by kernel_rfl)) _ hs.own) fun a hs => ?_)
                refine Vk.pures 3 [(99, .pointer (some ⟨b_x0, 2, none⟩)), (98, .pointer (some ⟨b_x0, 0, none⟩)), (97, .int .i64 (IntKind.i64.wrap (p_73.base + 1)))] hs (by kernel_rfl) fun a hs => ?_
                refine Vk.step (Vk.store1 (b := b_x0) (ty := 3) (x := (.tmp 99)) (y := (.tmp 97)) (off := 2) (C.int .i64 (IntKind.i64.wrap (p_73.base + 1))) 0 hs (by kernel_rfl) (by kernel_rfl) (by kernel_rfl) (by kernel_rfl) (by kernel_rfl) (by kernel_rfl) rfl (Nat.le_of_ble_eq_true (by kernel_rfl)) fun a w hs => ?_)
                replace hs := hs.pick [0] (L' := [(0, .pointer (some ⟨b_x0, 0, none⟩))]) (by kernel_rfl)
                refine Vk.done (by kernel_rfl) ?_
                refine hK76 _ _ ?_
                clear hK76
                refine Vk.seq fun K77 hK77 => ?_
                refine Vk.region ?_
                refine Vk.pures 3 [(102, .pointer (some ⟨b_x0, 2, none⟩)), (101, .pointer (some ⟨b_x0, 0, none⟩)), (100, .pointer (some ⟨b_x0, 0, none⟩))] hs (by kernel_rfl) fun a hs => ?_
                refine Vk.step (Vk.value (some 103) (.int .i64 (IntKind.i64.wrap (p_73.base + 1))) hs (by kernel_rfl) (op := (.load 3 (.tmp 102))) (by kernel_rfl) (fun o ho => run_load1 (b := b_x0) (off := 2) (c := C.int .i64 (IntKind.i64.wrap (p_73.base + 1))) ho (by kernel_rfl) (by kernel_rfl) (Cell.own 0 rfl (by kernel_rfl)) _ hs.own) fun a hs => ?_)
                refine Vk.pures 2 [(6, .int .i64 (IntKind.i64.wrap ((IntKind.i64.wrap (p_73.base + 1)) - 1))), (104, .int .i64 (IntKind.i64.wrap ((IntKind.i64.wrap (p_73.base + 1)) - 1)))] hs (by kernel_rfl) fun a hs => ?_
                replace hs := hs.pick [6] (L' := [(6, .int .i64 (IntKind.i64.wrap ((IntKind.i64.wrap (p_73.base + 1)) - 1)))]) (by kernel_rfl)
                refine Vk.done (by kernel_rfl) ?_
                refine hK77 _ _ ?_
                clear hK77
                refine wp_ret ?_
                exact Vk.ret1 (P := Try.prog) (fn := Try.f60) (R := wire_Machine_Do.R κ S x0 x1 x2 b_x0 b_x0otape A_x0otapeowords c_x0otapeowords A_x0oops c_x0oops A_x0ovalues c_x0ovalues A_x0oblocks c_x0oblocks r) (.int .i64 (IntKind.i64.wrap ((IntKind.i64.wrap (p_73.base + 1)) - 1))) hs rfl (by kernel_rfl) (by obtain rfl := Option.some.inj hm; exact ⟨A_65, c_66, A_x0oops, c_x0oops, A_x0ovalues, c_x0ovalues, A_x0oblocks, c_x0oblocks, rfl, (Own.to hs.own [0, 1, 2, 3, 4, 5] 7 (by kernel_rfl) (by kernel_rfl))⟩)
              · replace hm := bif_f hm hb
                refine wp_skip ?_
                refine hK74 _ _ ?_
                clear hK74
                refine Vk.seq fun K78 hK78 => ?_
                refine Vk.drawnT 22 κ (pt b_x0 (blk (Twire_Machine.obj p_73 b_x0otape A_x0oops c_x0oops A_x0ovalues c_x0ovalues A_x0oblocks c_x0oblocks) 151) :: pt b_x0otape (blk (Ttape_Tape.obj p_73.tape A_65 c_66) 158) :: rowp A_65 c_66 23 1 (eI .u64) p_73.tape.words :: rowp A_x0oops c_x0oops 32 6 Tapi_Op.cells p_73.ops :: rowp A_x0oblocks c_x0oblocks 144 3 Tapi_Span.cells p_73.blocks :: pt b_2 (blk (Tapi_Op.cells x1) 32) :: S) hs (by kernel_rfl) fun w hs => ?_
                have hcl := (Own.to (S' := pt b_x0 (blk (Twire_Machine.obj p_73 b_x0otape A_x0oops c_x0oops A_x0ovalues c_x0ovalues A_x0oblocks c_x0oblocks) 151) :: pt b_x0otape (blk (Ttape_Tape.obj p_73.tape A_65 c_66) 158) :: rowp A_65 c_66 23 1 (eI .u64) p_73.tape.words :: rowp A_x0oops c_x0oops 32 6 Tapi_Op.cells p_73.ops :: rowp A_x0oblocks c_x0oblocks 144 3 Tapi_Span.cells p_73.blocks :: pt b_2 (blk (Tapi_Op.cells x1) 32) :: S) hs.own [0, 1, 2, 3, 5, 6] 7 (by kernel_rfl) (by kernel_rfl))
                refine Vk.dPuresT [0, 1, 2, 3, 6, 7, 10, 11, 14, 15, 18] [(123, .int .u64 p_68), (120, .pointer (some ⟨b_2, 4, none⟩)), (119, .pointer (some ⟨b_x0, 0, none⟩)), (116, .pointer (some ⟨b_2, 3, none⟩)), (115, .pointer (some ⟨b_x0, 0, none⟩)), (112, .pointer (some ⟨b_2, 2, none⟩)), (111, .pointer (some ⟨b_x0, 0, none⟩)), (108, .pointer (some ⟨b_x0, 11, none⟩)), (107, .pointer (some ⟨b_x0, 0, none⟩)), (106, .pointer (some ⟨b_x0, 0, none⟩)), (105, .pointer (some ⟨b_x0, 0, none⟩))] hs (by kernel_rfl) (by repeat' (first | exact Vk.Calm.post | refine Vk.Calm.then ?_ | refine Vk.Calm.inBlock ?_)) hcl (by kernel_rfl) (by kernel_rfl) (fuel := 14) rfl fun a hs => ?_
                refine Vk.dTakeT (i := 4) (some 109) (.slice A_x0ovalues p_73.values.length c_x0ovalues) hs (by kernel_rfl) (by repeat' (first | exact Vk.Calm.post | refine Vk.Calm.then ?_ | refine Vk.Calm.inBlock ?_)) hcl (by kernel_rfl) (by kernel_rfl) (op := (.load 73 (.tmp 108))) (by kernel_rfl) (by kernel_rfl) (fun w hw o ho => run_load1 (b := b_x0) (off := 11) (c := C.slc A_x0ovalues p_73.values.length c_x0ovalues) ho (by kernel_rfl) (by kernel_rfl) (Cell.own 0 rfl (by kernel_rfl)) _ hw) fun a hs => ?_
                refine Vk.dTakeT (i := 5) (some 110) (.agg (vals [C.int .i64 x1.kind, C.int .i64 x1.dom, C.int .i64 x1.a, C.int .i64 x1.b, C.int .i64 x1.d, C.int .u64 x1.c])) hs (by kernel_rfl) (by repeat' (first | exact Vk.Calm.post | refine Vk.Calm.then ?_ | refine Vk.Calm.inBlock ?_)) hcl (by kernel_rfl) (by kernel_rfl) (op := (.load 32 (.tmp 4))) (by kernel_rfl) (by kernel_rfl) (fun w hw o ho => run_loadN (cs := [C.int .i64 x1.kind, C.int .i64 x1.dom, C.int .i64 x1.a, C.int .i64 x1.b, C.int .i64 x1.d, C.int .u64 x1.c]) ho (by kernel_rfl) (by kernel_rfl) rfl (CellsAt.all 5 rfl) _ hw) fun a hs => ?_
                refine Vk.dTakeT (i := 8) (some 113) (.int .i64 x1.a) hs (by kernel_rfl) (by repeat' (first | exact Vk.Calm.post | refine Vk.Calm.then ?_ | refine Vk.Calm.inBlock ?_)) hcl (by kernel_rfl) (by kernel_rfl) (op := (.load 3 (.tmp 112))) (by kernel_rfl) (by kernel_rfl) (fun w hw o ho => run_load1 (b := b_2) (off := 2) (c := C.int .i64 x1.a) ho (by kernel_rfl) (by kernel_rfl) (Cell.own 5 rfl (by kernel_rfl)) _ hw) fun a hs => ?_
                refine Vk.dTakeT (i := 12) (some 117) (.int .i64 x1.b) hs (by kernel_rfl) (by repeat' (first | exact Vk.Calm.post | refine Vk.Calm.then ?_ | refine Vk.Calm.inBlock ?_)) hcl (by kernel_rfl) (by kernel_rfl) (op := (.load 3 (.tmp 116))) (by kernel_rfl) (by kernel_rfl) (fun w hw o ho => run_load1 (b := b_2) (off := 3) (c := C.int .i64 x1.b) ho (by kernel_rfl) (by kernel_rfl) (Cell.own 5 rfl (by kernel_rfl)) _ hw) fun a hs => ?_
                refine Vk.dTakeT (i := 16) (some 121) (.int .i64 x1.d) hs (by kernel_rfl) (by repeat' (first | exact Vk.Calm.post | refine Vk.Calm.then ?_ | refine Vk.Calm.inBlock ?_)) hcl (by kernel_rfl) (by kernel_rfl) (op := (.load 3 (.tmp 120))) (by kernel_rfl) (by kernel_rfl) (fun w hw o ho => run_load1 (b := b_2) (off := 4) (c := C.int .i64 x1.d) ho (by kernel_rfl) (by kernel_rfl) (Cell.own 5 rfl (by kernel_rfl)) _ hw) fun a hs => ?_
                obtain ⟨v_81, h_80, hm⟩ := bind_t hm
                refine Vk.dOnly (i := 9) (by kernel_rfl) (Vk.call (some 114) 96 #[.pointer (some ⟨b_x0, 0, none⟩), .int .i64 x1.a] hs (by kernel_rfl) (by kernel_rfl) (by kernel_rfl) ?_)
                refine (wire_Machine_value.ok k p_73 x1.a v_81 h_80 κ w (pt b_2 (blk (Tapi_Op.cells x1) 32) :: S) b_x0 b_x0otape A_65 c_66 A_x0oops c_x0oops A_x0ovalues c_x0ovalues A_x0oblocks c_x0oblocks (Own.to hs.own [0, 1, 2, 3, 4, 5, 6] 7 (by kernel_rfl) (by kernel_rfl))).mono ?_
                rintro _ w ⟨rfl, how⟩
                refine ⟨_, _, _, rfl, how, fun a hs => ?_⟩
                replace hcl := (Own.to (S' := pt b_x0 (blk (Twire_Machine.obj p_73 b_x0otape A_x0oops c_x0oops A_x0ovalues c_x0ovalues A_x0oblocks c_x0oblocks) 151) :: pt b_x0otape (blk (Ttape_Tape.obj p_73.tape A_65 c_66) 158) :: rowp A_65 c_66 23 1 (eI .u64) p_73.tape.words :: rowp A_x0oops c_x0oops 32 6 Tapi_Op.cells p_73.ops :: rowp A_x0oblocks c_x0oblocks 144 3 Tapi_Span.cells p_73.blocks :: pt b_2 (blk (Tapi_Op.cells x1) 32) :: S) hs.own [0, 1, 2, 3, 5, 6] 7 (by kernel_rfl) (by kernel_rfl))
                refine ⟨fun _ => hcl, ?_⟩
                obtain ⟨v_85, h_84, hm⟩ := bind_t hm
                refine Vk.dOnly (i := 13) (by kernel_rfl) (Vk.call (some 118) 96 #[.pointer (some ⟨b_x0, 0, none⟩), .int .i64 x1.b] hs (by kernel_rfl) (by kernel_rfl) (by kernel_rfl) ?_)
                refine (wire_Machine_value.ok k p_73 x1.b v_85 h_84 κ w (pt b_2 (blk (Tapi_Op.cells x1) 32) :: S) b_x0 b_x0otape A_65 c_66 A_x0oops c_x0oops A_x0ovalues c_x0ovalues A_x0oblocks c_x0oblocks (Own.to hs.own [0, 1, 2, 3, 4, 5, 6] 7 (by kernel_rfl) (by kernel_rfl))).mono ?_
                rintro _ w ⟨rfl, how⟩
                refine ⟨_, _, _, rfl, how, fun a hs => ?_⟩
                replace hcl := (Own.to (S' := pt b_x0 (blk (Twire_Machine.obj p_73 b_x0otape A_x0oops c_x0oops A_x0ovalues c_x0ovalues A_x0oblocks c_x0oblocks) 151) :: pt b_x0otape (blk (Ttape_Tape.obj p_73.tape A_65 c_66) 158) :: rowp A_65 c_66 23 1 (eI .u64) p_73.tape.words :: rowp A_x0oops c_x0oops 32 6 Tapi_Op.cells p_73.ops :: rowp A_x0oblocks c_x0oblocks 144 3 Tapi_Span.cells p_73.blocks :: pt b_2 (blk (Tapi_Op.cells x1) 32) :: S) hs.own [0, 1, 2, 3, 5, 6] 7 (by kernel_rfl) (by kernel_rfl))
                refine ⟨fun _ => hcl, ?_⟩
                obtain ⟨v_89, h_88, hm⟩ := bind_t hm
                refine Vk.dOnly (i := 17) (by kernel_rfl) (Vk.call (some 122) 96 #[.pointer (some ⟨b_x0, 0, none⟩), .int .i64 x1.d] hs (by kernel_rfl) (by kernel_rfl) (by kernel_rfl) ?_)
                refine (wire_Machine_value.ok k p_73 x1.d v_89 h_88 κ w (pt b_2 (blk (Tapi_Op.cells x1) 32) :: S) b_x0 b_x0otape A_65 c_66 A_x0oops c_x0oops A_x0ovalues c_x0ovalues A_x0oblocks c_x0oblocks (Own.to hs.own [0, 1, 2, 3, 4, 5, 6] 7 (by kernel_rfl) (by kernel_rfl))).mono ?_
                rintro _ w ⟨rfl, how⟩
                refine ⟨_, _, _, rfl, how, fun a hs => ?_⟩
                replace hcl := (Own.to (S' := pt b_x0 (blk (Twire_Machine.obj p_73 b_x0otape A_x0oops c_x0oops A_x0ovalues c_x0ovalues A_x0oblocks c_x0oblocks) 151) :: pt b_x0otape (blk (Ttape_Tape.obj p_73.tape A_65 c_66) 158) :: rowp A_65 c_66 23 1 (eI .u64) p_73.tape.words :: rowp A_x0oops c_x0oops 32 6 Tapi_Op.cells p_73.ops :: rowp A_x0oblocks c_x0oblocks 144 3 Tapi_Span.cells p_73.blocks :: pt b_2 (blk (Tapi_Op.cells x1) 32) :: S) hs.own [0, 1, 2, 3, 5, 6] 7 (by kernel_rfl) (by kernel_rfl))
                refine ⟨fun _ => hcl, ?_⟩
                obtain ⟨v_93, h_92, hm⟩ := bind_t hm
                refine Vk.dOnly (i := 19) (by kernel_rfl) (Vk.call (some 124) 21 #[.agg (vals [C.int .i64 x1.kind, C.int .i64 x1.dom, C.int .i64 x1.a, C.int .i64 x1.b, C.int .i64 x1.d, C.int .u64 x1.c]), .int .u64 v_81, .int .u64 v_85, .int .u64 v_89, .int .u64 p_68] hs (by kernel_rfl) (by kernel_rfl) (by kernel_rfl) ?_)
                refine (op_Eval.ok k x1 v_81 v_85 v_89 p_68 v_93 h_92 κ w (pt b_x0 (blk (Twire_Machine.obj p_73 b_x0otape A_x0oops c_x0oops A_x0ovalues c_x0ovalues A_x0oblocks c_x0oblocks) 151) :: pt b_x0otape (blk (Ttape_Tape.obj p_73.tape A_65 c_66) 158) :: rowp A_65 c_66 23 1 (eI .u64) p_73.tape.words :: rowp A_x0oops c_x0oops 32 6 Tapi_Op.cells p_73.ops :: rowp A_x0ovalues c_x0ovalues 23 1 (eI .u64) p_73.values :: rowp A_x0oblocks c_x0oblocks 144 3 Tapi_Span.cells p_73.blocks :: pt b_2 (blk (Tapi_Op.cells x1) 32) :: S) hs.own).mono ?_
                rintro _ w ⟨rfl, how⟩
                refine ⟨_, _, _, rfl, how, fun a hs => ?_⟩
                replace hcl := (Own.to (S' := pt b_x0 (blk (Twire_Machine.obj p_73 b_x0otape A_x0oops c_x0oops A_x0ovalues c_x0ovalues A_x0oblocks c_x0oblocks) 151) :: pt b_x0otape (blk (Ttape_Tape.obj p_73.tape A_65 c_66) 158) :: rowp A_65 c_66 23 1 (eI .u64) p_73.tape.words :: rowp A_x0oops c_x0oops 32 6 Tapi_Op.cells p_73.ops :: rowp A_x0oblocks c_x0oblocks 144 3 Tapi_Span.cells p_73.blocks :: pt b_2 (blk (Tapi_Op.cells x1) 32) :: S) hs.own [0, 1, 2, 3, 5, 6] 7 (by kernel_rfl) (by kernel_rfl))
                refine ⟨fun _ => hcl, ?_⟩
                refine Vk.dOnly (i := 20) (by kernel_rfl) (Vk.buildOp (sz := 1) (by_ := 8) (t := 73) (e := 23) (parts := #[(0, (.tmp 124))]) (zs := vals [C.int .u64 0]) ([v_93] : List Int) (eI .u64) (some 125) hs (by kernel_rfl) (by kernel_rfl) (by kernel_rfl) (by kernel_rfl) (by decide) rfl (fun x _ => rfl) (Nat.le_of_ble_eq_true (by kernel_rfl)) (by kernel_rfl) fun A_95 w a hs => ?_)
                replace hcl := (Own.to (S' := pt b_x0 (blk (Twire_Machine.obj p_73 b_x0otape A_x0oops c_x0oops A_x0ovalues c_x0ovalues A_x0oblocks c_x0oblocks) 151) :: pt b_x0otape (blk (Ttape_Tape.obj p_73.tape A_65 c_66) 158) :: rowp A_65 c_66 23 1 (eI .u64) p_73.tape.words :: rowp A_x0oops c_x0oops 32 6 Tapi_Op.cells p_73.ops :: rowp A_x0oblocks c_x0oblocks 144 3 Tapi_Span.cells p_73.blocks :: pt b_2 (blk (Tapi_Op.cells x1) 32) :: S) hs.own [1, 2, 3, 4, 6, 7] 8 (by kernel_rfl) (by kernel_rfl))
                refine ⟨fun _ => hcl, ?_⟩
                obtain ⟨h_97, hm⟩ := ite_t hm
                refine Vk.dOnly (i := 21) (by kernel_rfl) (Vk.appendOp (x := (.tmp 109)) (y := (.tmp 125)) (e := 23) (t := 73) (by_ := 8) (sz := 1) (enc := (eI .u64)) (A := A_x0ovalues) (cap := c_x0ovalues) (xs := p_73.values) (ys := ([v_93] : List Int)) (B := A_95) (c2 := 1) 5 (some 126) hs (by kernel_rfl) (by kernel_rfl) (by kernel_rfl) (by kernel_rfl) rfl (Sl.lift (fun w ho => (Own.to (S' := rowp A_95 1 23 1 (eI .u64) ([v_93] : List Int) :: S) ho [0] 8 (by kernel_rfl) (by kernel_rfl))) (Own.rowSl 0 (Own.to (S' := rowp A_95 1 23 1 (eI .u64) ([v_93] : List Int) :: S) hs.own [0] 8 (by kernel_rfl) (by kernel_rfl)) rfl)) (by kernel_rfl) (by kernel_rfl) (by decide) (by decide) h_97 fun A_98 c_99 w a hs => ?_)
                replace hcl := (Own.to (S' := pt b_x0 (blk (Twire_Machine.obj p_73 b_x0otape A_x0oops c_x0oops A_x0ovalues c_x0ovalues A_x0oblocks c_x0oblocks) 151) :: pt b_x0otape (blk (Ttape_Tape.obj p_73.tape A_65 c_66) 158) :: rowp A_65 c_66 23 1 (eI .u64) p_73.tape.words :: rowp A_x0oops c_x0oops 32 6 Tapi_Op.cells p_73.ops :: rowp A_x0oblocks c_x0oblocks 144 3 Tapi_Span.cells p_73.blocks :: pt b_2 (blk (Tapi_Op.cells x1) 32) :: S) hs.own [1, 2, 3, 4, 6, 7] 8 (by kernel_rfl) (by kernel_rfl))
                refine ⟨fun _ => hcl, ?_⟩
                refine Vk.dOnly (i := 22) (by kernel_rfl) (Vk.dPure1 [(127, .pointer (some ⟨b_x0, 0, none⟩))] hs (by kernel_rfl) fun a hs => ?_)
                refine ⟨fun h => absurd h (by decide), ?_⟩
                refine Vk.dOnly (i := 23) (by kernel_rfl) (Vk.dPure1 [(128, .pointer (some ⟨b_x0, 11, none⟩))] hs (by kernel_rfl) fun a hs => ?_)
                refine ⟨fun h => absurd h (by decide), ?_⟩
                refine Vk.dOnly (i := 24) (by kernel_rfl) (Vk.store1 (b := b_x0) (ty := 73) (x := (.tmp 128)) (y := (.tmp 126)) (off := 11) (C.slc A_98 ((p_73.values ++ ([v_93] : List Int)).length) c_99) 1 hs (by kernel_rfl) (by kernel_rfl) (by kernel_rfl) (by kernel_rfl) (by kernel_rfl) (by kernel_rfl) rfl (Nat.le_of_ble_eq_true (by kernel_rfl)) fun a w hs => ?_)
                refine ⟨fun h => absurd h (by decide), ?_⟩
                replace hs := hs.pick [0, 4] (L' := [(0, .pointer (some ⟨b_x0, 0, none⟩)), (4, .pointer (some ⟨b_2, 0, none⟩))]) (by kernel_rfl)
                refine Vk.dDone (by kernel_rfl) ?_
                refine hK78 _ _ ?_
                clear hK78
                refine Vk.seq fun K100 hK100 => ?_
                refine Vk.drawnT 8 κ (rowp A_95 1 23 1 (eI .u64) ([v_93] : List Int) :: pt b_x0 (blk ((Twire_Machine.obj p_73 b_x0otape A_x0oops c_x0oops none 0 A_x0oblocks c_x0oblocks).set 11 (C.slc A_98 ((p_73.values ++ ([v_93] : List Int)).length) c_99)) 151) :: pt b_x0otape (blk (Ttape_Tape.obj p_73.tape A_65 c_66) 158) :: rowp A_65 c_66 23 1 (eI .u64) p_73.tape.words :: rowp A_98 c_99 23 1 (eI .u64) (p_73.values ++ ([v_93] : List Int)) :: rowp A_x0oblocks c_x0oblocks 144 3 Tapi_Span.cells p_73.blocks :: pt b_2 (blk (Tapi_Op.cells x1) 32) :: S) hs (by kernel_rfl) fun w hs => ?_
                have hcl := (Own.to (S' := rowp A_95 1 23 1 (eI .u64) ([v_93] : List Int) :: pt b_x0 (blk ((Twire_Machine.obj p_73 b_x0otape A_x0oops c_x0oops none 0 A_x0oblocks c_x0oblocks).set 11 (C.slc A_98 ((p_73.values ++ ([v_93] : List Int)).length) c_99)) 151) :: pt b_x0otape (blk (Ttape_Tape.obj p_73.tape A_65 c_66) 158) :: rowp A_65 c_66 23 1 (eI .u64) p_73.tape.words :: rowp A_98 c_99 23 1 (eI .u64) (p_73.values ++ ([v_93] : List Int)) :: rowp A_x0oblocks c_x0oblocks 144 3 Tapi_Span.cells p_73.blocks :: pt b_2 (blk (Tapi_Op.cells x1) 32) :: S) hs.own [0, 1, 2, 3, 5, 6, 7] 8 (by kernel_rfl) (by kernel_rfl))
                refine Vk.dPuresT [0, 1, 2, 3] [(132, .pointer (some ⟨b_x0, 10, none⟩)), (131, .pointer (some ⟨b_x0, 0, none⟩)), (130, .pointer (some ⟨b_x0, 0, none⟩)), (129, .pointer (some ⟨b_x0, 0, none⟩))] hs (by kernel_rfl) (by repeat' (first | exact Vk.Calm.post | refine Vk.Calm.then ?_ | refine Vk.Calm.inBlock ?_)) hcl (by kernel_rfl) (by kernel_rfl) (fuel := 7) rfl fun a hs => ?_
                refine Vk.dTakeT (i := 4) (some 133) (.slice A_x0oops p_73.ops.length c_x0oops) hs (by kernel_rfl) (by repeat' (first | exact Vk.Calm.post | refine Vk.Calm.then ?_ | refine Vk.Calm.inBlock ?_)) hcl (by kernel_rfl) (by kernel_rfl) (op := (.load 69 (.tmp 132))) (by kernel_rfl) (by kernel_rfl) (fun w hw o ho => run_load1 (b := b_x0) (off := 10) (c := C.slc A_x0oops p_73.ops.length c_x0oops) ho (by kernel_rfl) (by kernel_rfl) (Cell.own 1 rfl (by kernel_rfl)) _ hw) fun a hs => ?_
                refine Vk.dTakeT (i := 5) (some 134) (.agg (vals [C.int .i64 x1.kind, C.int .i64 x1.dom, C.int .i64 x1.a, C.int .i64 x1.b, C.int .i64 x1.d, C.int .u64 x1.c])) hs (by kernel_rfl) (by repeat' (first | exact Vk.Calm.post | refine Vk.Calm.then ?_ | refine Vk.Calm.inBlock ?_)) hcl (by kernel_rfl) (by kernel_rfl) (op := (.load 32 (.tmp 4))) (by kernel_rfl) (by kernel_rfl) (fun w hw o ho => run_loadN (cs := [C.int .i64 x1.kind, C.int .i64 x1.dom, C.int .i64 x1.a, C.int .i64 x1.b, C.int .i64 x1.d, C.int .u64 x1.c]) ho (by kernel_rfl) (by kernel_rfl) rfl (CellsAt.all 6 rfl) _ hw) fun a hs => ?_
                refine Vk.dOnly (i := 6) (by kernel_rfl) (Vk.buildOp (sz := 6) (by_ := 48) (t := 69) (e := 32) (parts := #[(0, (.tmp 134))]) (zs := vals [C.int .i64 0, C.int .i64 0, C.int .i64 0, C.int .i64 0, C.int .i64 0, C.int .u64 0]) ([x1] : List Tapi_Op) Tapi_Op.cells (some 135) hs (by kernel_rfl) (by kernel_rfl) (by kernel_rfl) (by kernel_rfl) (by decide) rfl (fun x _ => rfl) (Nat.le_of_ble_eq_true (by kernel_rfl)) (by kernel_rfl) fun A_101 w a hs => ?_)
                replace hcl := (Own.to (S' := rowp A_95 1 23 1 (eI .u64) ([v_93] : List Int) :: pt b_x0 (blk ((Twire_Machine.obj p_73 b_x0otape A_x0oops c_x0oops none 0 A_x0oblocks c_x0oblocks).set 11 (C.slc A_98 ((p_73.values ++ ([v_93] : List Int)).length) c_99)) 151) :: pt b_x0otape (blk (Ttape_Tape.obj p_73.tape A_65 c_66) 158) :: rowp A_65 c_66 23 1 (eI .u64) p_73.tape.words :: rowp A_98 c_99 23 1 (eI .u64) (p_73.values ++ ([v_93] : List Int)) :: rowp A_x0oblocks c_x0oblocks 144 3 Tapi_Span.cells p_73.blocks :: pt b_2 (blk (Tapi_Op.cells x1) 32) :: S) hs.own [1, 2, 3, 4, 6, 7, 8] 9 (by kernel_rfl) (by kernel_rfl))
                refine ⟨fun _ => hcl, ?_⟩
                obtain ⟨h_103, hm⟩ := ite_t hm
                refine Vk.dOnly (i := 7) (by kernel_rfl) (Vk.appendOp (x := (.tmp 133)) (y := (.tmp 135)) (e := 32) (t := 69) (by_ := 48) (sz := 6) (enc := Tapi_Op.cells) (A := A_x0oops) (cap := c_x0oops) (xs := p_73.ops) (ys := ([x1] : List Tapi_Op)) (B := A_101) (c2 := 1) 5 (some 136) hs (by kernel_rfl) (by kernel_rfl) (by kernel_rfl) (by kernel_rfl) rfl (Sl.lift (fun w ho => (Own.to (S' := rowp A_101 1 32 6 Tapi_Op.cells ([x1] : List Tapi_Op) :: S) ho [0] 9 (by kernel_rfl) (by kernel_rfl))) (Own.rowSl 0 (Own.to (S' := rowp A_101 1 32 6 Tapi_Op.cells ([x1] : List Tapi_Op) :: S) hs.own [0] 9 (by kernel_rfl) (by kernel_rfl)) rfl)) (by kernel_rfl) (by kernel_rfl) (by decide) (by decide) h_103 fun A_104 c_105 w a hs => ?_)
                replace hcl := (Own.to (S' := rowp A_95 1 23 1 (eI .u64) ([v_93] : List Int) :: pt b_x0 (blk ((Twire_Machine.obj p_73 b_x0otape A_x0oops c_x0oops none 0 A_x0oblocks c_x0oblocks).set 11 (C.slc A_98 ((p_73.values ++ ([v_93] : List Int)).length) c_99)) 151) :: pt b_x0otape (blk (Ttape_Tape.obj p_73.tape A_65 c_66) 158) :: rowp A_65 c_66 23 1 (eI .u64) p_73.tape.words :: rowp A_98 c_99 23 1 (eI .u64) (p_73.values ++ ([v_93] : List Int)) :: rowp A_x0oblocks c_x0oblocks 144 3 Tapi_Span.cells p_73.blocks :: pt b_2 (blk (Tapi_Op.cells x1) 32) :: S) hs.own [1, 2, 3, 4, 6, 7, 8] 9 (by kernel_rfl) (by kernel_rfl))
                refine ⟨fun _ => hcl, ?_⟩
                refine Vk.dOnly (i := 8) (by kernel_rfl) (Vk.dPure1 [(137, .pointer (some ⟨b_x0, 0, none⟩))] hs (by kernel_rfl) fun a hs => ?_)
                refine ⟨fun h => absurd h (by decide), ?_⟩
                refine Vk.dOnly (i := 9) (by kernel_rfl) (Vk.dPure1 [(138, .pointer (some ⟨b_x0, 10, none⟩))] hs (by kernel_rfl) fun a hs => ?_)
                refine ⟨fun h => absurd h (by decide), ?_⟩
                refine Vk.dOnly (i := 10) (by kernel_rfl) (Vk.store1 (b := b_x0) (ty := 69) (x := (.tmp 138)) (y := (.tmp 136)) (off := 10) (C.slc A_104 ((p_73.ops ++ ([x1] : List Tapi_Op)).length) c_105) 2 hs (by kernel_rfl) (by kernel_rfl) (by kernel_rfl) (by kernel_rfl) (by kernel_rfl) (by kernel_rfl) rfl (Nat.le_of_ble_eq_true (by kernel_rfl)) fun a w hs => ?_)
                refine ⟨fun h => absurd h (by decide), ?_⟩
                replace hs := hs.pick [0] (L' := [(0, .pointer (some ⟨b_x0, 0, none⟩))]) (by kernel_rfl)
                refine Vk.dDone (by kernel_rfl) ?_
                refine hK100 _ _ ?_
                clear hK100
                refine Vk.seq fun K106 hK106 => ?_
                refine Vk.region ?_
                refine Vk.pures 3 [(141, .pointer (some ⟨b_x0, 10, none⟩)), (140, .pointer (some ⟨b_x0, 0, none⟩)), (139, .pointer (some ⟨b_x0, 0, none⟩))] hs (by kernel_rfl) fun a hs => ?_
                refine Vk.step (Vk.value (some 142) (.slice A_104 ((p_73.ops ++ ([x1] : List Tapi_Op)).length) c_105) hs (by kernel_rfl) (op := (.load 69 (.tmp 141))) (by kernel_rfl) (fun o ho => run_load1 (b := b_x0) (off := 10) (c := C.slc A_104 ((p_73.ops ++ ([x1] : List Tapi_Op)).length) c_105) ho (by kernel_rfl) (by kernel_rfl) (Cell.own 2 rfl (by kernel_rfl)) _ hs.own) fun a hs => ?_)
                refine Vk.pures 3 [(6, .int .i64 (IntKind.i64.wrap ((((p_73.ops ++ ([x1] : List Tapi_Op)).length : Nat) : Int) - 1))), (144, .int .i64 (IntKind.i64.wrap ((((p_73.ops ++ ([x1] : List Tapi_Op)).length : Nat) : Int) - 1))), (143, .int .i64 (((p_73.ops ++ ([x1] : List Tapi_Op)).length : Nat) : Int))] hs (by kernel_rfl) fun a hs => ?_
                replace hs := hs.pick [6] (L' := [(6, .int .i64 (IntKind.i64.wrap ((((p_73.ops ++ ([x1] : List Tapi_Op)).length : Nat) : Int) - 1)))]) (by kernel_rfl)
                refine Vk.done (by kernel_rfl) ?_
                refine hK106 _ _ ?_
                clear hK106
                refine wp_ret ?_
                exact Vk.ret1 (P := Try.prog) (fn := Try.f60) (R := wire_Machine_Do.R κ S x0 x1 x2 b_x0 b_x0otape A_x0otapeowords c_x0otapeowords A_x0oops c_x0oops A_x0ovalues c_x0ovalues A_x0oblocks c_x0oblocks r) (.int .i64 (IntKind.i64.wrap ((((p_73.ops ++ ([x1] : List Tapi_Op)).length : Nat) : Int) - 1))) hs rfl (by kernel_rfl) (by obtain rfl := Option.some.inj hm; exact ⟨A_65, c_66, A_104, c_105, A_98, c_99, A_x0oblocks, c_x0oblocks, rfl, (Own.to hs.own [2, 3, 4, 5, 6, 7] 9 (by kernel_rfl) (by kernel_rfl))⟩)
            refine Vk.seq fun K70 hK70 => ?_
            refine Vk.region ?_
            refine Vk.pures 1 [(69, .pointer (some ⟨b_2, 0, none⟩))] hs (by kernel_rfl) fun a hs => ?_
            refine Vk.step (Vk.value (some 70) (.int .i64 x1.kind) hs (by kernel_rfl) (op := (.load 3 (.tmp 69))) (by kernel_rfl) (fun o ho => run_load1 (b := b_2) (off := 0) (c := C.int .i64 x1.kind) ho (by kernel_rfl) (by kernel_rfl) (Cell.own 6 rfl (by kernel_rfl)) _ hs.own) fun a hs => ?_)
            replace hs := hs.pick [0, 2, 4, 70] (L' := [(0, .pointer (some ⟨b_x0, 0, none⟩)), (2, .int .u64 p_68), (4, .pointer (some ⟨b_2, 0, none⟩)), (70, .int .i64 x1.kind)]) (by kernel_rfl)
            refine Vk.done (by kernel_rfl) ?_
            refine hK70 _ _ ?_
            clear hK70
            refine wp_block ?_
            refine Vk.seq fun K71 hK71 => ?_
            refine Vk.region ?_
            refine Vk.pures 2 [(71, .bool (x1.kind == 1)), (72, .bool (x1.kind == 1))] hs (by kernel_rfl) fun a hs => ?_
            replace hs := hs.pick [0, 2, 4, 70, 71] (L' := [(0, .pointer (some ⟨b_x0, 0, none⟩)), (2, .int .u64 p_68), (4, .pointer (some ⟨b_2, 0, none⟩)), (70, .int .i64 x1.kind), (71, .bool (x1.kind == 1))]) (by kernel_rfl)
            refine Vk.done (by kernel_rfl) ?_
            refine hK71 _ _ ?_
            clear hK71
            refine Vk.condS (b := x1.kind == 1) hs (by kernel_rfl) (by kernel_rfl) (fun hb => ?_) (fun hb => ?_)
            · replace hm := bif_t hm hb
              refine Vk.region ?_
              refine Vk.pures 3 [(75, .pointer (some ⟨b_x0, 4, none⟩)), (74, .pointer (some ⟨b_x0, 0, none⟩)), (73, .pointer (some ⟨b_x0, 0, none⟩))] hs (by kernel_rfl) fun a hs => ?_
              refine Vk.step (Vk.value (some 76) (.int .i64 p_64.draws) hs (by kernel_rfl) (op := (.load 3 (.tmp 75))) (by kernel_rfl) (fun o ho => run_load1 (b := b_x0) (off := 4) (c := C.int .i64 p_64.draws) ho (by kernel_rfl) (by kernel_rfl) (Cell.own 0 rfl (by kernel_rfl)) _ hs.own) fun a hs => ?_)
              refine Vk.pures 3 [(79, .pointer (some ⟨b_x0, 4, none⟩)), (78, .pointer (some ⟨b_x0, 0, none⟩)), (77, .int .i64 (IntKind.i64.wrap (p_64.draws + 1)))] hs (by kernel_rfl) fun a hs => ?_
              refine Vk.step (Vk.store1 (b := b_x0) (ty := 3) (x := (.tmp 79)) (y := (.tmp 77)) (off := 4) (C.int .i64 (IntKind.i64.wrap (p_64.draws + 1))) 0 hs (by kernel_rfl) (by kernel_rfl) (by kernel_rfl) (by kernel_rfl) (by kernel_rfl) (by kernel_rfl) rfl (Nat.le_of_ble_eq_true (by kernel_rfl)) fun a w hs => ?_)
              replace hs := hs.pick [0, 2, 4] (L' := [(0, .pointer (some ⟨b_x0, 0, none⟩)), (2, .int .u64 p_68), (4, .pointer (some ⟨b_2, 0, none⟩))]) (by kernel_rfl)
              refine Vk.done (by kernel_rfl) ?_
              exact hj69 (⟨p_64.n, p_64.most, p_64.base, p_64.words, IntKind.i64.wrap (p_64.draws + 1), p_64.dry, p_64.openF, p_64.fromF, p_64.bad, p_64.tape, p_64.ops, p_64.values, p_64.blocks⟩ : Twire_Machine) hm _ _ (hs.go [0, 2, 4] [0, 1, 2, 3, 4, 5, 6] 7 (by kernel_rfl) (by kernel_rfl) (by kernel_rfl))
            · replace hm := bif_f hm hb
              refine Vk.seq fun K72 hK72 => ?_
              refine Vk.region ?_
              refine Vk.pures 2 [(80, .bool (x1.kind == 2)), (81, .bool (x1.kind == 2))] hs (by kernel_rfl) fun a hs => ?_
              replace hs := hs.pick [0, 2, 4, 80] (L' := [(0, .pointer (some ⟨b_x0, 0, none⟩)), (2, .int .u64 p_68), (4, .pointer (some ⟨b_2, 0, none⟩)), (80, .bool (x1.kind == 2))]) (by kernel_rfl)
              refine Vk.done (by kernel_rfl) ?_
              refine hK72 _ _ ?_
              clear hK72
              refine Vk.condS (b := x1.kind == 2) hs (by kernel_rfl) (by kernel_rfl) (fun hb => ?_) (fun hb => ?_)
              · replace hm := bif_t hm hb
                refine Vk.region ?_
                refine Vk.pures 3 [(84, .pointer (some ⟨b_x0, 3, none⟩)), (83, .pointer (some ⟨b_x0, 0, none⟩)), (82, .pointer (some ⟨b_x0, 0, none⟩))] hs (by kernel_rfl) fun a hs => ?_
                refine Vk.step (Vk.value (some 85) (.int .i64 p_64.words) hs (by kernel_rfl) (op := (.load 3 (.tmp 84))) (by kernel_rfl) (fun o ho => run_load1 (b := b_x0) (off := 3) (c := C.int .i64 p_64.words) ho (by kernel_rfl) (by kernel_rfl) (Cell.own 0 rfl (by kernel_rfl)) _ hs.own) fun a hs => ?_)
                refine Vk.pures 3 [(88, .pointer (some ⟨b_x0, 3, none⟩)), (87, .pointer (some ⟨b_x0, 0, none⟩)), (86, .int .i64 (IntKind.i64.wrap (p_64.words + 1)))] hs (by kernel_rfl) fun a hs => ?_
                refine Vk.step (Vk.store1 (b := b_x0) (ty := 3) (x := (.tmp 88)) (y := (.tmp 86)) (off := 3) (C.int .i64 (IntKind.i64.wrap (p_64.words + 1))) 0 hs (by kernel_rfl) (by kernel_rfl) (by kernel_rfl) (by kernel_rfl) (by kernel_rfl) (by kernel_rfl) rfl (Nat.le_of_ble_eq_true (by kernel_rfl)) fun a w hs => ?_)
                replace hs := hs.pick [0, 2, 4] (L' := [(0, .pointer (some ⟨b_x0, 0, none⟩)), (2, .int .u64 p_68), (4, .pointer (some ⟨b_2, 0, none⟩))]) (by kernel_rfl)
                refine Vk.done (by kernel_rfl) ?_
                exact hj69 (⟨p_64.n, p_64.most, p_64.base, IntKind.i64.wrap (p_64.words + 1), p_64.draws, p_64.dry, p_64.openF, p_64.fromF, p_64.bad, p_64.tape, p_64.ops, p_64.values, p_64.blocks⟩ : Twire_Machine) hm _ _ (hs.go [0, 2, 4] [0, 1, 2, 3, 4, 5, 6] 7 (by kernel_rfl) (by kernel_rfl) (by kernel_rfl))
              · replace hm := bif_f hm hb
                refine wp_skip ?_
                exact hj69 p_64 hm _ _ (hs.go [0, 2, 4] [0, 1, 2, 3, 4, 5, 6] 7 (by kernel_rfl) (by kernel_rfl) (by kernel_rfl))
          refine Vk.seq fun K40 hK40 => ?_
          refine Vk.region ?_
          refine Vk.pures 1 [(46, .pointer (some ⟨b_2, 0, none⟩))] hs (by kernel_rfl) fun a hs => ?_
          refine Vk.step (Vk.value (some 47) (.int .i64 x1.kind) hs (by kernel_rfl) (op := (.load 3 (.tmp 46))) (by kernel_rfl) (fun o ho => run_load1 (b := b_2) (off := 0) (c := C.int .i64 x1.kind) ho (by kernel_rfl) (by kernel_rfl) (Cell.own 6 rfl (by kernel_rfl)) _ hs.own) fun a hs => ?_)
          refine Vk.pures 2 [(49, .bool (x1.kind == 1)), (48, .bool (x1.kind == 1))] hs (by kernel_rfl) fun a hs => ?_
          suffices hj_41 : ∀ a, St 145 a w κ [(0, .pointer (some ⟨b_x0, 0, none⟩)), (2, .int .u64 x2), (4, .pointer (some ⟨b_2, 0, none⟩)), (26, .bool p_25), (46, .pointer (some ⟨b_2, 0, none⟩)), (47, .int .i64 x1.kind), (48, .bool (x1.kind == 1)), (49, .bool (x1.kind == 1)), (55, .bool ((x1.kind == 1) && (!x0.dry)))] (pt b_x0 (blk (Twire_Machine.obj x0 b_x0otape A_x0oops c_x0oops A_x0ovalues c_x0ovalues A_x0oblocks c_x0oblocks) 151) :: pt b_x0otape (blk (Ttape_Tape.obj x0.tape A_x0otapeowords c_x0otapeowords) 158) :: rowp A_x0otapeowords c_x0otapeowords 23 1 (eI .u64) x0.tape.words :: rowp A_x0oops c_x0oops 32 6 Tapi_Op.cells x0.ops :: rowp A_x0ovalues c_x0ovalues 23 1 (eI .u64) x0.values :: rowp A_x0oblocks c_x0oblocks 144 3 Tapi_Span.cells x0.blocks :: pt b_2 (blk (Tapi_Op.cells x1) 32) :: S) → wpFrom Try.prog _ _ 10 a w by
            rcases Bool.eq_false_or_eq_true (x1.kind == 1) with hb | hb
            · replace hs := hs.known (t := 49) hb (by kernel_rfl)
              refine Vk.pures 3 [(52, .pointer (some ⟨b_x0, 5, none⟩)), (51, .pointer (some ⟨b_x0, 0, none⟩)), (50, .pointer (some ⟨b_x0, 0, none⟩))] hs (by kernel_rfl) fun a hs => ?_
              refine Vk.step (Vk.value (some 53) (.bool x0.dry) hs (by kernel_rfl) (op := (.load 4 (.tmp 52))) (by kernel_rfl) (fun o ho => run_load1 (b := b_x0) (off := 5) (c := C.bool x0.dry) ho (by kernel_rfl) (by kernel_rfl) (Cell.own 0 rfl (by kernel_rfl)) _ hs.own) fun a hs => ?_)
              refine Vk.pures 2 [(55, .bool (!x0.dry)), (54, .bool (!x0.dry))] hs (by kernel_rfl) fun a hs => ?_
              have hq := hs.pick [0, 2, 4, 26, 46, 47, 48, 49, 55] (L' := [(0, .pointer (some ⟨b_x0, 0, none⟩)), (2, .int .u64 x2), (4, .pointer (some ⟨b_2, 0, none⟩)), (26, .bool p_25), (46, .pointer (some ⟨b_2, 0, none⟩)), (47, .int .i64 x1.kind), (48, .bool (x1.kind == 1)), (49, .bool true), (55, .bool (!x0.dry))]) (by kernel_rfl)
              exact hj_41 _ (hq.conv (by rw [hb]; rfl))
            · replace hs := hs.known (t := 49) hb (by kernel_rfl)
              refine Vk.pures 6 [(55, .bool false), (54, undef), (53, undef), (52, undef), (51, undef), (50, undef)] hs (by kernel_rfl) fun a hs => ?_
              have hq := hs.pick [0, 2, 4, 26, 46, 47, 48, 49, 55] (L' := [(0, .pointer (some ⟨b_x0, 0, none⟩)), (2, .int .u64 x2), (4, .pointer (some ⟨b_2, 0, none⟩)), (26, .bool p_25), (46, .pointer (some ⟨b_2, 0, none⟩)), (47, .int .i64 x1.kind), (48, .bool (x1.kind == 1)), (49, .bool false), (55, .bool false)]) (by kernel_rfl)
              exact hj_41 _ (hq.conv (by rw [hb]; rfl))
          intro a hs
          replace hs := hs.pick [0, 2, 4, 55] (L' := [(0, .pointer (some ⟨b_x0, 0, none⟩)), (2, .int .u64 x2), (4, .pointer (some ⟨b_2, 0, none⟩)), (55, .bool ((x1.kind == 1) && (!x0.dry)))]) (by kernel_rfl)
          refine Vk.done (by kernel_rfl) ?_
          refine hK40 _ _ ?_
          clear hK40
          refine Vk.condS (b := (x1.kind == 1) && (!x0.dry)) hs (by kernel_rfl) (by kernel_rfl) (fun hb => ?_) (fun hb => ?_)
          · replace hm := bif_t hm hb
            refine Vk.seq fun K42 hK42 => ?_
            refine Vk.region ?_
            refine Vk.pures 3 [(59, .pointer (some ⟨b_x0, 9, none⟩)), (58, .pointer (some ⟨b_x0, 0, none⟩)), (57, .pointer (some ⟨b_x0, 0, none⟩))] hs (by kernel_rfl) fun a hs => ?_
            refine Vk.step (Vk.value (some 60) (.pointer (some ⟨b_x0otape, 0, none⟩)) hs (by kernel_rfl) (op := (.load 105 (.tmp 59))) (by kernel_rfl) (fun o ho => run_load1 (b := b_x0) (off := 9) (c := C.ptr (some ⟨b_x0otape, 0, none⟩)) ho (by kernel_rfl) (by kernel_rfl) (Cell.own 0 rfl (by kernel_rfl)) _ hs.own) fun a hs => ?_)
            obtain ⟨v_45, h_44, hm⟩ := bind_t hm
            refine Vk.step (Vk.call (some 61) 95 #[.pointer (some ⟨b_x0otape, 0, none⟩)] hs (by kernel_rfl) (by kernel_rfl) (by kernel_rfl) ?_)
            refine (tape_Tape_Draw.ok k x0.tape v_45 h_44 κ w (pt b_x0 (blk (Twire_Machine.obj x0 b_x0otape A_x0oops c_x0oops A_x0ovalues c_x0ovalues A_x0oblocks c_x0oblocks) 151) :: rowp A_x0oops c_x0oops 32 6 Tapi_Op.cells x0.ops :: rowp A_x0ovalues c_x0ovalues 23 1 (eI .u64) x0.values :: rowp A_x0oblocks c_x0oblocks 144 3 Tapi_Span.cells x0.blocks :: pt b_2 (blk (Tapi_Op.cells x1) 32) :: S) b_x0otape A_x0otapeowords c_x0otapeowords (Own.to hs.own [1, 2, 0, 3, 4, 5, 6] 7 (by kernel_rfl) (by kernel_rfl))).mono ?_
            rintro _ w ⟨Ar43o0owords_47, cr43o0owords_48, rfl, how⟩
            refine ⟨_, _, _, rfl, how, fun a hs => ?_⟩
            refine Vk.pures 5 [(8, .bool v_45.2.1), (7, .int .u64 v_45.1), (63, .bool v_45.2.1), (62, .int .u64 v_45.1), (56, .tuple #[.int .u64 v_45.1, .bool v_45.2.1])] hs (by kernel_rfl) fun a hs => ?_
            replace hs := hs.pick [0, 4, 7, 8] (L' := [(0, .pointer (some ⟨b_x0, 0, none⟩)), (4, .pointer (some ⟨b_2, 0, none⟩)), (7, .int .u64 v_45.1), (8, .bool v_45.2.1)]) (by kernel_rfl)
            refine Vk.done (by kernel_rfl) ?_
            refine hK42 _ _ ?_
            clear hK42
            refine Vk.seq fun K49 hK49 => ?_
            refine Vk.seq fun K50 hK50 => ?_
            refine Vk.region ?_
            refine Vk.pures 2 [(65, .bool (!v_45.2.1)), (64, .bool v_45.2.1)] hs (by kernel_rfl) fun a hs => ?_
            replace hs := hs.pick [0, 4, 7, 65] (L' := [(0, .pointer (some ⟨b_x0, 0, none⟩)), (4, .pointer (some ⟨b_2, 0, none⟩)), (7, .int .u64 v_45.1), (65, .bool (!v_45.2.1))]) (by kernel_rfl)
            refine Vk.done (by kernel_rfl) ?_
            refine hK50 _ _ ?_
            clear hK50
            refine Vk.condS (b := !v_45.2.1) hs (by kernel_rfl) (by kernel_rfl) (fun hb => ?_) (fun hb => ?_)
            · replace hm := bif_t hm hb
              refine Vk.seq fun K51 hK51 => ?_
              refine Vk.region ?_
              refine Vk.pures 1 [(66, .pointer (some ⟨b_x0, 0, none⟩))] hs (by kernel_rfl) fun a hs => ?_
              obtain ⟨v_54, h_53, hm⟩ := bind_t hm
              refine Vk.step (Vk.call (some 67) 94 #[.pointer (some ⟨b_x0, 0, none⟩), .int .i64 2] hs (by kernel_rfl) (by kernel_rfl) (by kernel_rfl) ?_)
              refine (wire_Machine_fail.ok k (⟨x0.n, x0.most, x0.base, x0.words, x0.draws, x0.dry, x0.openF, x0.fromF, x0.bad, v_45.2.2, x0.ops, x0.values, x0.blocks⟩ : Twire_Machine) 2 v_54 h_53 κ w (pt b_2 (blk (Tapi_Op.cells x1) 32) :: S) b_x0 b_x0otape Ar43o0owords_47 cr43o0owords_48 A_x0oops c_x0oops A_x0ovalues c_x0ovalues A_x0oblocks c_x0oblocks (Own.to hs.own [2, 0, 1, 3, 4, 5, 6] 7 (by kernel_rfl) (by kernel_rfl))).mono ?_
              rintro _ w ⟨Ar52o0otapeowords_56, cr52o0otapeowords_57, Ar52o0oops_58, cr52o0oops_59, Ar52o0ovalues_60, cr52o0ovalues_61, Ar52o0oblocks_62, cr52o0oblocks_63, rfl, how⟩
              refine ⟨_, _, _, rfl, how, fun a hs => ?_⟩
              refine Vk.pures 1 [(6, .int .i64 v_54.1)] hs (by kernel_rfl) fun a hs => ?_
              replace hs := hs.pick [6] (L' := [(6, .int .i64 v_54.1)]) (by kernel_rfl)
              refine Vk.done (by kernel_rfl) ?_
              refine hK51 _ _ ?_
              clear hK51
              refine wp_ret ?_
              exact Vk.ret1 (P := Try.prog) (fn := Try.f60) (R := wire_Machine_Do.R κ S x0 x1 x2 b_x0 b_x0otape A_x0otapeowords c_x0otapeowords A_x0oops c_x0oops A_x0ovalues c_x0ovalues A_x0oblocks c_x0oblocks r) (.int .i64 v_54.1) hs rfl (by kernel_rfl) (by obtain rfl := Option.some.inj hm; exact ⟨Ar52o0otapeowords_56, cr52o0otapeowords_57, Ar52o0oops_58, cr52o0oops_59, Ar52o0ovalues_60, cr52o0ovalues_61, Ar52o0oblocks_62, cr52o0oblocks_63, rfl, (Own.to hs.own [0, 1, 2, 3, 4, 5] 7 (by kernel_rfl) (by kernel_rfl))⟩)
            · replace hm := bif_f hm hb
              refine wp_skip ?_
              refine hK49 _ _ ?_
              clear hK49
              refine Vk.region ?_
              refine Vk.pures 2 [(2, .int .u64 v_45.1), (68, .int .u64 v_45.1)] hs (by kernel_rfl) fun a hs => ?_
              replace hs := hs.pick [0, 2, 4] (L' := [(0, .pointer (some ⟨b_x0, 0, none⟩)), (2, .int .u64 v_45.1), (4, .pointer (some ⟨b_2, 0, none⟩))]) (by kernel_rfl)
              refine Vk.done (by kernel_rfl) ?_
              exact hj39 (⟨x0.n, x0.most, x0.base, x0.words, x0.draws, x0.dry, x0.openF, x0.fromF, x0.bad, v_45.2.2, x0.ops, x0.values, x0.blocks⟩ : Twire_Machine) v_45.1 hm Ar43o0owords_47 cr43o0owords_48 _ _ (hs.go [0, 2, 4] [2, 0, 1, 3, 4, 5, 6] 7 (by kernel_rfl) (by kernel_rfl) (by kernel_rfl))
          · replace hm := bif_f hm hb
            refine wp_skip ?_
            exact hj39 x0 x2 hm A_x0otapeowords c_x0otapeowords _ _ (hs.go [0, 2, 4] [0, 1, 2, 3, 4, 5, 6] 7 (by kernel_rfl) (by kernel_rfl) (by kernel_rfl))
      refine Vk.drawnT 18 κ (pt b_x0 (blk (Twire_Machine.obj x0 b_x0otape A_x0oops c_x0oops A_x0ovalues c_x0ovalues A_x0oblocks c_x0oblocks) 151) :: pt b_x0otape (blk (Ttape_Tape.obj x0.tape A_x0otapeowords c_x0otapeowords) 158) :: rowp A_x0otapeowords c_x0otapeowords 23 1 (eI .u64) x0.tape.words :: rowp A_x0oops c_x0oops 32 6 Tapi_Op.cells x0.ops :: rowp A_x0ovalues c_x0ovalues 23 1 (eI .u64) x0.values :: rowp A_x0oblocks c_x0oblocks 144 3 Tapi_Span.cells x0.blocks :: pt b_2 (blk (Tapi_Op.cells x1) 32) :: S) hs (by kernel_rfl) fun w hs => ?_
      have hcl := (Own.to (S' := pt b_x0 (blk (Twire_Machine.obj x0 b_x0otape A_x0oops c_x0oops A_x0ovalues c_x0ovalues A_x0oblocks c_x0oblocks) 151) :: pt b_x0otape (blk (Ttape_Tape.obj x0.tape A_x0otapeowords c_x0otapeowords) 158) :: rowp A_x0otapeowords c_x0otapeowords 23 1 (eI .u64) x0.tape.words :: rowp A_x0oops c_x0oops 32 6 Tapi_Op.cells x0.ops :: rowp A_x0ovalues c_x0ovalues 23 1 (eI .u64) x0.values :: rowp A_x0oblocks c_x0oblocks 144 3 Tapi_Span.cells x0.blocks :: pt b_2 (blk (Tapi_Op.cells x1) 32) :: S) hs.own [0, 1, 2, 3, 4, 5, 6] 7 (by kernel_rfl) (by kernel_rfl))
      refine Vk.dPuresT [0, 1, 2] [(29, .pointer (some ⟨b_x0, 5, none⟩)), (28, .pointer (some ⟨b_x0, 0, none⟩)), (27, .pointer (some ⟨b_x0, 0, none⟩))] hs (by kernel_rfl) (by repeat' (first | exact Vk.Calm.post | refine Vk.Calm.then ?_ | refine Vk.Calm.inBlock ?_)) hcl (by kernel_rfl) (by kernel_rfl) (fuel := 15) rfl fun a hs => ?_
      refine Vk.dTakeT (i := 3) (some 30) (.bool x0.dry) hs (by kernel_rfl) (by repeat' (first | exact Vk.Calm.post | refine Vk.Calm.then ?_ | refine Vk.Calm.inBlock ?_)) hcl (by kernel_rfl) (by kernel_rfl) (op := (.load 4 (.tmp 29))) (by kernel_rfl) (by kernel_rfl) (fun w hw o ho => run_load1 (b := b_x0) (off := 5) (c := C.bool x0.dry) ho (by kernel_rfl) (by kernel_rfl) (Cell.own 0 rfl (by kernel_rfl)) _ hw) fun a hs => ?_
      refine Vk.dPuresT [4, 5] [(32, .bool (!x0.dry)), (31, .bool (!x0.dry))] hs (by kernel_rfl) (by repeat' (first | exact Vk.Calm.post | refine Vk.Calm.then ?_ | refine Vk.Calm.inBlock ?_)) hcl (by kernel_rfl) (by kernel_rfl) (fuel := 12) rfl fun a hs => ?_
      rcases Bool.eq_false_or_eq_true (!x0.dry) with hb | hb
      · replace hm := bif_t hm hb
        replace hs := hs.known (t := 32) hb (by kernel_rfl)
        refine Vk.dPuresT [6, 7, 8, 11, 12, 13] [(40, .pointer (some ⟨b_x0, 1, none⟩)), (39, .pointer (some ⟨b_x0, 0, none⟩)), (38, .pointer (some ⟨b_x0, 0, none⟩)), (35, .pointer (some ⟨b_x0, 10, none⟩)), (34, .pointer (some ⟨b_x0, 0, none⟩)), (33, .pointer (some ⟨b_x0, 0, none⟩))] hs (by kernel_rfl) (by repeat' (first | exact Vk.Calm.post | refine Vk.Calm.then ?_ | refine Vk.Calm.inBlock ?_)) hcl (by kernel_rfl) (by kernel_rfl) (fuel := 6) rfl fun a hs => ?_
        refine Vk.dTakeT (i := 9) (some 36) (.slice A_x0oops x0.ops.length c_x0oops) hs (by kernel_rfl) (by repeat' (first | exact Vk.Calm.post | refine Vk.Calm.then ?_ | refine Vk.Calm.inBlock ?_)) hcl (by kernel_rfl) (by kernel_rfl) (op := (.load 69 (.tmp 35))) (by kernel_rfl) (by kernel_rfl) (fun w hw o ho => run_load1 (b := b_x0) (off := 10) (c := C.slc A_x0oops x0.ops.length c_x0oops) ho (by kernel_rfl) (by kernel_rfl) (Cell.own 0 rfl (by kernel_rfl)) _ hw) fun a hs => ?_
        refine Vk.dPuresT [10] [(37, .int .i64 ((x0.ops.length : Nat) : Int))] hs (by kernel_rfl) (by repeat' (first | exact Vk.Calm.post | refine Vk.Calm.then ?_ | refine Vk.Calm.inBlock ?_)) hcl (by kernel_rfl) (by kernel_rfl) (fuel := 4) rfl fun a hs => ?_
        refine Vk.dTakeT (i := 14) (some 41) (.int .i64 x0.most) hs (by kernel_rfl) (by repeat' (first | exact Vk.Calm.post | refine Vk.Calm.then ?_ | refine Vk.Calm.inBlock ?_)) hcl (by kernel_rfl) (by kernel_rfl) (op := (.load 3 (.tmp 40))) (by kernel_rfl) (by kernel_rfl) (fun w hw o ho => run_load1 (b := b_x0) (off := 1) (c := C.int .i64 x0.most) ho (by kernel_rfl) (by kernel_rfl) (Cell.own 0 rfl (by kernel_rfl)) _ hw) fun a hs => ?_
        refine Vk.dPuresT [15, 16, 17] [(26, .bool (decide (((x0.ops.length : Nat) : Int) ≥ x0.most))), (43, .bool (decide (((x0.ops.length : Nat) : Int) ≥ x0.most))), (42, .bool (decide (((x0.ops.length : Nat) : Int) ≥ x0.most)))] hs (by kernel_rfl) (by repeat' (first | exact Vk.Calm.post | refine Vk.Calm.then ?_ | refine Vk.Calm.inBlock ?_)) hcl (by kernel_rfl) (by kernel_rfl) (fuel := 0) rfl fun a hs => ?_
        replace hs := hs.pick [0, 2, 4, 26] (L' := [(0, .pointer (some ⟨b_x0, 0, none⟩)), (2, .int .u64 x2), (4, .pointer (some ⟨b_2, 0, none⟩)), (26, .bool (decide (((x0.ops.length : Nat) : Int) ≥ x0.most)))]) (by kernel_rfl)
        refine Vk.dDone (by kernel_rfl) ?_
        exact hj24 (decide (((x0.ops.length : Nat) : Int) ≥ x0.most)) hm _ _ (hs.go [0, 2, 4, 26] [0, 1, 2, 3, 4, 5, 6] 7 (by kernel_rfl) (by kernel_rfl) (by kernel_rfl))
      · replace hm := bif_f hm hb
        replace hs := hs.known (t := 32) hb (by kernel_rfl)
        refine Vk.dPuresT [6, 7, 8, 9, 10, 11, 12, 13, 14, 15, 16, 17] [(26, .bool false), (43, .bool false), (42, undef), (41, undef), (40, undef), (39, undef), (38, undef), (37, undef), (36, undef), (35, undef), (34, undef), (33, undef)] hs (by kernel_rfl) (by repeat' (first | exact Vk.Calm.post | refine Vk.Calm.then ?_ | refine Vk.Calm.inBlock ?_)) hcl (by kernel_rfl) (by kernel_rfl) (fuel := 0) rfl fun a hs => ?_
        replace hs := hs.pick [0, 2, 4, 26] (L' := [(0, .pointer (some ⟨b_x0, 0, none⟩)), (2, .int .u64 x2), (4, .pointer (some ⟨b_2, 0, none⟩)), (26, .bool false)]) (by kernel_rfl)
        refine Vk.dDone (by kernel_rfl) ?_
        exact hj24 false hm _ _ (hs.go [0, 2, 4, 26] [0, 1, 2, 3, 4, 5, 6] 7 (by kernel_rfl) (by kernel_rfl) (by kernel_rfl))


abbrev wire_Machine_Const.R (κ : Ctx) (S : List HP) (x0 : Twire_Machine) (x1 : Int) (x2 : Int) (b_x0 : Nat) (b_x0otape : Nat) (A_x0otapeowords : Option Addr) (c_x0otapeowords : Nat) (A_x0oops : Option Addr) (c_x0oops : Nat) (A_x0ovalues : Option Addr) (c_x0ovalues : Nat) (A_x0oblocks : Option Addr) (c_x0oblocks : Nat) (r : (Int × Twire_Machine)) : Ending → World → Prop := fun e w' => ∃ (A_y0otapeowords : Option Addr), ∃ (c_y0otapeowords : Nat), ∃ (A_y0oops : Option Addr), ∃ (c_y0oops : Nat), ∃ (A_y0ovalues : Option Addr), ∃ (c_y0ovalues : Nat), ∃ (A_y0oblocks : Option Addr), ∃ (c_y0oblocks : Nat), e = .returned (.int .i64 r.1) ∧ Own κ w' (pt b_x0 (blk (Twire_Machine.obj r.2 b_x0otape A_y0oops c_y0oops A_y0ovalues c_y0ovalues A_y0oblocks c_y0oblocks) 151) :: pt b_x0otape (blk (Ttape_Tape.obj r.2.tape A_y0otapeowords c_y0otapeowords) 158) :: rowp A_y0otapeowords c_y0otapeowords 23 1 (eI .u64) r.2.tape.words :: rowp A_y0oops c_y0oops 32 6 Tapi_Op.cells r.2.ops :: rowp A_y0ovalues c_y0ovalues 23 1 (eI .u64) r.2.values :: rowp A_y0oblocks c_y0oblocks 144 3 Tapi_Span.cells r.2.blocks :: S)
def wire_Machine_Const.m (k : Nat) (x0 : Twire_Machine) (x1 : Int) (x2 : Int) : Option (Int × Twire_Machine) := (wire_Machine_Do.m k x0 (⟨3, x1, (-1), (-1), (-1), x2⟩ : Tapi_Op) 0).bind fun v_5 => some (v_5.1, v_5.2)

set_option maxRecDepth 100000 in
set_option maxHeartbeats 4000000 in
theorem wire_Machine_Const.ok (k : Nat) (x0 : Twire_Machine) (x1 : Int) (x2 : Int) (r : (Int × Twire_Machine)) (hm : wire_Machine_Const.m k x0 x1 x2 = some r) (κ : Ctx) (w : World) (S : List HP) (b_x0 : Nat) (b_x0otape : Nat) (A_x0otapeowords : Option Addr) (c_x0otapeowords : Nat) (A_x0oops : Option Addr) (c_x0oops : Nat) (A_x0ovalues : Option Addr) (c_x0ovalues : Nat) (A_x0oblocks : Option Addr) (c_x0oblocks : Nat) (ho : Own κ w (pt b_x0 (blk (Twire_Machine.obj x0 b_x0otape A_x0oops c_x0oops A_x0ovalues c_x0ovalues A_x0oblocks c_x0oblocks) 151) :: pt b_x0otape (blk (Ttape_Tape.obj x0.tape A_x0otapeowords c_x0otapeowords) 158) :: rowp A_x0otapeowords c_x0otapeowords 23 1 (eI .u64) x0.tape.words :: rowp A_x0oops c_x0oops 32 6 Tapi_Op.cells x0.ops :: rowp A_x0ovalues c_x0ovalues 23 1 (eI .u64) x0.values :: rowp A_x0oblocks c_x0oblocks 144 3 Tapi_Span.cells x0.blocks :: S)) :
    Calls Try.prog 100 #[.pointer (some ⟨b_x0, 0, none⟩), .int .i64 x1, .int .u64 x2] w (wire_Machine_Const.R κ S x0 x1 x2 b_x0 b_x0otape A_x0otapeowords c_x0otapeowords A_x0oops c_x0oops A_x0ovalues c_x0ovalues A_x0oblocks c_x0oblocks r) := by
  unfold wire_Machine_Const.m at hm
  refine Vk.enter [(0, .pointer (some ⟨b_x0, 0, none⟩)), (1, .int .i64 x1), (2, .int .u64 x2)] Try.func100 rfl Try.ntmps100 (by kernel_rfl) (Nat.le_of_ble_eq_true (by kernel_rfl)) ho fun a hs => ?_
  refine Vk.seq fun K1 hK1 => ?_
  refine Vk.region ?_
  refine Vk.pures 1 [(6, .int .i64 0)] hs (by kernel_rfl) fun a hs => ?_
  replace hs := hs.pick [0, 1, 2] (L' := [(0, .pointer (some ⟨b_x0, 0, none⟩)), (1, .int .i64 x1), (2, .int .u64 x2)]) (by kernel_rfl)
  refine Vk.done (by kernel_rfl) ?_
  refine hK1 _ _ ?_
  clear hK1
  refine Vk.seq fun K2 hK2 => ?_
  refine Vk.region ?_
  refine Vk.pures 4 [(10, .agg (vals [C.int .i64 3, C.int .i64 x1, C.int .i64 (-1), C.int .i64 (-1), C.int .i64 (-1), C.int .u64 x2])), (9, .int .u64 x2), (8, .int .i64 x1), (7, .pointer (some ⟨b_x0, 0, none⟩))] hs (by kernel_rfl) fun a hs => ?_
  obtain ⟨v_5, h_4, hm⟩ := bind_t hm
  refine Vk.step (Vk.call (some 11) 60 #[.pointer (some ⟨b_x0, 0, none⟩), .agg (vals [C.int .i64 3, C.int .i64 x1, C.int .i64 (-1), C.int .i64 (-1), C.int .i64 (-1), C.int .u64 x2]), .int .u64 0] hs (by kernel_rfl) (by kernel_rfl) (by kernel_rfl) ?_)
  refine (wire_Machine_Do.ok k x0 (⟨3, x1, (-1), (-1), (-1), x2⟩ : Tapi_Op) 0 v_5 h_4 κ w (S) b_x0 b_x0otape A_x0otapeowords c_x0otapeowords A_x0oops c_x0oops A_x0ovalues c_x0ovalues A_x0oblocks c_x0oblocks (Own.to hs.own [0, 1, 2, 3, 4, 5] 6 (by kernel_rfl) (by kernel_rfl))).mono ?_
  rintro _ w ⟨Ar3o0otapeowords_7, cr3o0otapeowords_8, Ar3o0oops_9, cr3o0oops_10, Ar3o0ovalues_11, cr3o0ovalues_12, Ar3o0oblocks_13, cr3o0oblocks_14, rfl, how⟩
  refine ⟨_, _, _, rfl, how, fun a hs => ?_⟩
  refine Vk.pures 1 [(6, .int .i64 v_5.1)] hs (by kernel_rfl) fun a hs => ?_
  replace hs := hs.pick [6] (L' := [(6, .int .i64 v_5.1)]) (by kernel_rfl)
  refine Vk.done (by kernel_rfl) ?_
  refine hK2 _ _ ?_
  clear hK2
  refine wp_ret ?_
  exact Vk.ret1 (P := Try.prog) (fn := Try.f100) (R := wire_Machine_Const.R κ S x0 x1 x2 b_x0 b_x0otape A_x0otapeowords c_x0otapeowords A_x0oops c_x0oops A_x0ovalues c_x0ovalues A_x0oblocks c_x0oblocks r) (.int .i64 v_5.1) hs rfl (by kernel_rfl) (by obtain rfl := Option.some.inj hm; exact ⟨Ar3o0otapeowords_7, cr3o0otapeowords_8, Ar3o0oops_9, cr3o0oops_10, Ar3o0ovalues_11, cr3o0ovalues_12, Ar3o0oblocks_13, cr3o0oblocks_14, rfl, (Own.to hs.own [0, 1, 2, 3, 4, 5] 6 (by kernel_rfl) (by kernel_rfl))⟩)


abbrev slices_Clone_uint64_uint64.R (κ : Ctx) (S : List HP) (x0 : List Int) (A_x0 : Option Addr) (c_x0 : Nat) (r : List Int) : Ending → World → Prop := fun e w' => ∃ (A_r0 : Option Addr), ∃ (c_r0 : Nat), e = .returned (.slice A_r0 r.length c_r0) ∧ Own κ w' (rowp A_r0 c_r0 23 1 (eI .u64) r :: S)
def slices_Clone_uint64_uint64.m (k : Nat) (x0 : List Int) : Option (List Int) := (if (([] : List Int).length + x0.length) * 8 ≤ 140737488355328 then some (([] : List Int) ++ x0) else none)

set_option maxRecDepth 100000 in
set_option maxHeartbeats 4000000 in
theorem slices_Clone_uint64_uint64.ok (k : Nat) (x0 : List Int) (r : List Int) (hm : slices_Clone_uint64_uint64.m k x0 = some r) (κ : Ctx) (w : World) (S : List HP) (A_x0 : Option Addr) (c_x0 : Nat) (hx_x0 : Sl κ S A_x0 c_x0 1 (eI .u64) x0) (ho : Own κ w (S)) :
    Calls Try.prog 90 #[.slice A_x0 x0.length c_x0] w (slices_Clone_uint64_uint64.R κ S x0 A_x0 c_x0 r) := by
  unfold slices_Clone_uint64_uint64.m at hm
  rcases A_x0 with _ | p_x0
  · obtain rfl : c_x0 = 0 := hx_x0.none rfl
    obtain rfl : x0 = [] := List.length_eq_zero_iff.1 (Nat.le_zero.1 hx_x0.le)
    replace hm : some ([] : List Int) = some r := by simpa using hm
    refine Vk.enter [(0, .slice none 0 0)] Try.func90 rfl Try.ntmps90 (by kernel_rfl) (Nat.le_of_ble_eq_true (by kernel_rfl)) ho fun a hs => ?_
    refine Vk.seq fun K1 hK1 => ?_
    refine Vk.region ?_
    refine Vk.pures 1 [(2, .slice none 0 0)] hs (by kernel_rfl) fun a hs => ?_
    replace hs := hs.pick [0] (L' := [(0, .slice none 0 0)]) (by kernel_rfl)
    refine Vk.done (by kernel_rfl) ?_
    refine hK1 _ _ ?_
    clear hK1
    refine Vk.seq fun K2 hK2 => ?_
    refine Vk.seq fun K3 hK3 => ?_
    refine Vk.region ?_
    refine Vk.pures 2 [(4, .bool true), (3, .slice none 0 0)] hs (by kernel_rfl) fun a hs => ?_
    replace hs := hs.pick [0, 4] (L' := [(0, .slice none 0 0), (4, .bool true)]) (by kernel_rfl)
    refine Vk.done (by kernel_rfl) ?_
    refine hK3 _ _ ?_
    clear hK3
    refine Vk.condT hs (by kernel_rfl) (by kernel_rfl) ?_
    refine Vk.seq fun K4 hK4 => ?_
    refine Vk.region ?_
    refine Vk.pures 1 [(2, .slice none 0 0)] hs (by kernel_rfl) fun a hs => ?_
    replace hs := hs.pick [2] (L' := [(2, .slice none 0 0)]) (by kernel_rfl)
    refine Vk.done (by kernel_rfl) ?_
    refine hK4 _ _ ?_
    clear hK4
    refine wp_ret ?_
    replace hs := hs.addRow none 23 1 (eI .u64)
    exact Vk.ret1 (P := Try.prog) (fn := Try.f90) (R := slices_Clone_uint64_uint64.R κ S [] none 0 r) (.slice none (([] : List Int).length) 0) hs rfl (by kernel_rfl) (by obtain rfl := Option.some.inj hm; exact ⟨none, 0, rfl, (Own.to hs.own [0] 1 (by kernel_rfl) (by kernel_rfl))⟩)
  · skip
    refine Vk.enter [(0, .slice (some p_x0) x0.length c_x0)] Try.func90 rfl Try.ntmps90 (by kernel_rfl) (Nat.le_of_ble_eq_true (by kernel_rfl)) ho fun a hs => ?_
    refine Vk.seq fun K1 hK1 => ?_
    refine Vk.region ?_
    refine Vk.pures 1 [(2, .slice none 0 0)] hs (by kernel_rfl) fun a hs => ?_
    replace hs := hs.pick [0] (L' := [(0, .slice (some p_x0) x0.length c_x0)]) (by kernel_rfl)
    refine Vk.done (by kernel_rfl) ?_
    refine hK1 _ _ ?_
    clear hK1
    refine Vk.seq fun K2 hK2 => ?_
    refine Vk.seq fun K3 hK3 => ?_
    refine Vk.region ?_
    refine Vk.pures 2 [(4, .bool false), (3, .slice (some p_x0) x0.length c_x0)] hs (by kernel_rfl) fun a hs => ?_
    replace hs := hs.pick [0, 4] (L' := [(0, .slice (some p_x0) x0.length c_x0), (4, .bool false)]) (by kernel_rfl)
    refine Vk.done (by kernel_rfl) ?_
    refine hK3 _ _ ?_
    clear hK3
    refine Vk.condF hs (by kernel_rfl) (by kernel_rfl) ?_
    refine wp_skip ?_
    refine hK2 _ _ ?_
    clear hK2
    refine Vk.seq fun K4 hK4 => ?_
    refine Vk.region ?_
    refine Vk.step (Vk.buildOp (sz := 1) (by_ := 8) (t := 73) (e := 23) (parts := #[]) (zs := vals [C.int .u64 0]) ([] : List Int) (eI .u64) (some 5) hs (by kernel_rfl) (by kernel_rfl) (by kernel_rfl) (by kernel_rfl) (by decide) rfl (fun x _ => rfl) (Nat.le_of_ble_eq_true (by kernel_rfl)) (by kernel_rfl) fun A_5 w a hs => ?_)
    refine Vk.pures 1 [(6, .slice (some p_x0) x0.length c_x0)] hs (by kernel_rfl) fun a hs => ?_
    obtain ⟨h_7, hm⟩ := ite_t hm
    refine Vk.step (Vk.appendOp (x := (.tmp 5)) (y := (.tmp 6)) (e := 23) (t := 73) (by_ := 8) (sz := 1) (enc := (eI .u64)) (A := A_5) (cap := 0) (xs := ([] : List Int)) (ys := x0) (B := (some p_x0)) (c2 := c_x0) 0 (some 7) hs (by kernel_rfl) (by kernel_rfl) (by kernel_rfl) (by kernel_rfl) rfl hx_x0.less (by kernel_rfl) (by kernel_rfl) (by decide) (by decide) h_7 fun A_8 c_9 w a hs => ?_)
    refine Vk.pures 1 [(2, .slice A_8 ((([] : List Int) ++ x0).length) c_9)] hs (by kernel_rfl) fun a hs => ?_
    replace hs := hs.pick [2] (L' := [(2, .slice A_8 ((([] : List Int) ++ x0).length) c_9)]) (by kernel_rfl)
    refine Vk.done (by kernel_rfl) ?_
    refine hK4 _ _ ?_
    clear hK4
    refine wp_ret ?_
    exact Vk.ret1 (P := Try.prog) (fn := Try.f90) (R := slices_Clone_uint64_uint64.R κ S x0 (some p_x0) c_x0 r) (.slice A_8 ((([] : List Int) ++ x0).length) c_9) hs rfl (by kernel_rfl) (by obtain rfl := Option.some.inj hm; exact ⟨A_8, c_9, rfl, (Own.to hs.own [0] 1 (by kernel_rfl) (by kernel_rfl))⟩)


abbrev wire_Machine_Values.R (κ : Ctx) (S : List HP) (x0 : Twire_Machine) (b_x0 : Nat) (b_x0otape : Nat) (A_x0otapeowords : Option Addr) (c_x0otapeowords : Nat) (A_x0oops : Option Addr) (c_x0oops : Nat) (A_x0ovalues : Option Addr) (c_x0ovalues : Nat) (A_x0oblocks : Option Addr) (c_x0oblocks : Nat) (r : List Int) : Ending → World → Prop := fun e w' => ∃ (A_r0 : Option Addr), ∃ (c_r0 : Nat), e = .returned (.slice A_r0 r.length c_r0) ∧ Own κ w' (rowp A_r0 c_r0 23 1 (eI .u64) r :: pt b_x0 (blk (Twire_Machine.obj x0 b_x0otape A_x0oops c_x0oops A_x0ovalues c_x0ovalues A_x0oblocks c_x0oblocks) 151) :: pt b_x0otape (blk (Ttape_Tape.obj x0.tape A_x0otapeowords c_x0otapeowords) 158) :: rowp A_x0otapeowords c_x0otapeowords 23 1 (eI .u64) x0.tape.words :: rowp A_x0oops c_x0oops 32 6 Tapi_Op.cells x0.ops :: rowp A_x0ovalues c_x0ovalues 23 1 (eI .u64) x0.values :: rowp A_x0oblocks c_x0oblocks 144 3 Tapi_Span.cells x0.blocks :: S)
def wire_Machine_Values.m (k : Nat) (x0 : Twire_Machine) : Option (List Int) := (slices_Clone_uint64_uint64.m k x0.values).bind fun v_7 => some v_7

set_option maxRecDepth 100000 in
set_option maxHeartbeats 4000000 in
theorem wire_Machine_Values.ok (k : Nat) (x0 : Twire_Machine) (r : List Int) (hm : wire_Machine_Values.m k x0 = some r) (κ : Ctx) (w : World) (S : List HP) (b_x0 : Nat) (b_x0otape : Nat) (A_x0otapeowords : Option Addr) (c_x0otapeowords : Nat) (A_x0oops : Option Addr) (c_x0oops : Nat) (A_x0ovalues : Option Addr) (c_x0ovalues : Nat) (A_x0oblocks : Option Addr) (c_x0oblocks : Nat) (ho : Own κ w (pt b_x0 (blk (Twire_Machine.obj x0 b_x0otape A_x0oops c_x0oops A_x0ovalues c_x0ovalues A_x0oblocks c_x0oblocks) 151) :: pt b_x0otape (blk (Ttape_Tape.obj x0.tape A_x0otapeowords c_x0otapeowords) 158) :: rowp A_x0otapeowords c_x0otapeowords 23 1 (eI .u64) x0.tape.words :: rowp A_x0oops c_x0oops 32 6 Tapi_Op.cells x0.ops :: rowp A_x0ovalues c_x0ovalues 23 1 (eI .u64) x0.values :: rowp A_x0oblocks c_x0oblocks 144 3 Tapi_Span.cells x0.blocks :: S)) :
    Calls Try.prog 53 #[.pointer (some ⟨b_x0, 0, none⟩)] w (wire_Machine_Values.R κ S x0 b_x0 b_x0otape A_x0otapeowords c_x0otapeowords A_x0oops c_x0oops A_x0ovalues c_x0ovalues A_x0oblocks c_x0oblocks r) := by
  unfold wire_Machine_Values.m at hm
  refine Vk.enter [(0, .pointer (some ⟨b_x0, 0, none⟩))] Try.func53 rfl Try.ntmps53 (by kernel_rfl) (Nat.le_of_ble_eq_true (by kernel_rfl)) ho fun a hs => ?_
  refine Vk.seq fun K1 hK1 => ?_
  refine Vk.region ?_
  refine Vk.pures 1 [(2, .slice none 0 0)] hs (by kernel_rfl) fun a hs => ?_
  replace hs := hs.pick [0] (L' := [(0, .pointer (some ⟨b_x0, 0, none⟩))]) (by kernel_rfl)
  refine Vk.done (by kernel_rfl) ?_
  refine hK1 _ _ ?_
  clear hK1
  refine Vk.seq fun K2 hK2 => ?_
  refine Vk.seq fun K3 hK3 => ?_
  refine Vk.region ?_
  refine Vk.pures 2 [(4, .bool false), (3, .pointer (some ⟨b_x0, 0, none⟩))] hs (by kernel_rfl) fun a hs => ?_
  replace hs := hs.pick [0, 4] (L' := [(0, .pointer (some ⟨b_x0, 0, none⟩)), (4, .bool false)]) (by kernel_rfl)
  refine Vk.done (by kernel_rfl) ?_
  refine hK3 _ _ ?_
  clear hK3
  refine Vk.condF hs (by kernel_rfl) (by kernel_rfl) ?_
  refine wp_skip ?_
  refine hK2 _ _ ?_
  clear hK2
  refine Vk.seq fun K4 hK4 => ?_
  refine Vk.region ?_
  refine Vk.pures 3 [(7, .pointer (some ⟨b_x0, 11, none⟩)), (6, .pointer (some ⟨b_x0, 0, none⟩)), (5, .pointer (some ⟨b_x0, 0, none⟩))] hs (by kernel_rfl) fun a hs => ?_
  refine Vk.step (Vk.value (some 8) (.slice A_x0ovalues x0.values.length c_x0ovalues) hs (by kernel_rfl) (op := (.load 73 (.tmp 7))) (by kernel_rfl) (fun o ho => run_load1 (b := b_x0) (off := 11) (c := C.slc A_x0ovalues x0.values.length c_x0ovalues) ho (by kernel_rfl) (by kernel_rfl) (Cell.own 0 rfl (by kernel_rfl)) _ hs.own) fun a hs => ?_)
  obtain ⟨v_7, h_6, hm⟩ := bind_t hm
  refine Vk.step (Vk.call (some 9) 90 #[.slice A_x0ovalues x0.values.length c_x0ovalues] hs (by kernel_rfl) (by kernel_rfl) (by kernel_rfl) ?_)
  refine (slices_Clone_uint64_uint64.ok k x0.values v_7 h_6 κ w (pt b_x0 (blk (Twire_Machine.obj x0 b_x0otape A_x0oops c_x0oops A_x0ovalues c_x0ovalues A_x0oblocks c_x0oblocks) 151) :: pt b_x0otape (blk (Ttape_Tape.obj x0.tape A_x0otapeowords c_x0otapeowords) 158) :: rowp A_x0otapeowords c_x0otapeowords 23 1 (eI .u64) x0.tape.words :: rowp A_x0oops c_x0oops 32 6 Tapi_Op.cells x0.ops :: rowp A_x0ovalues c_x0ovalues 23 1 (eI .u64) x0.values :: rowp A_x0oblocks c_x0oblocks 144 3 Tapi_Span.cells x0.blocks :: S) A_x0ovalues c_x0ovalues (Sl.lift (fun w ho => (Own.to (S' := rowp A_x0ovalues c_x0ovalues 23 1 (eI .u64) x0.values :: S) ho [4] 6 (by kernel_rfl) (by kernel_rfl))) (Own.rowSl 0 (Own.to (S' := rowp A_x0ovalues c_x0ovalues 23 1 (eI .u64) x0.values :: S) hs.own [4] 6 (by kernel_rfl) (by kernel_rfl)) rfl)) hs.own).mono ?_
  rintro _ w ⟨Ar5x0_9, cr5x0_10, rfl, how⟩
  refine ⟨_, _, _, rfl, how, fun a hs => ?_⟩
  refine Vk.pures 1 [(2, .slice Ar5x0_9 v_7.length cr5x0_10)] hs (by kernel_rfl) fun a hs => ?_
  replace hs := hs.pick [2] (L' := [(2, .slice Ar5x0_9 v_7.length cr5x0_10)]) (by kernel_rfl)
  refine Vk.done (by kernel_rfl) ?_
  refine hK4 _ _ ?_
  clear hK4
  refine wp_ret ?_
  exact Vk.ret1 (P := Try.prog) (fn := Try.f53) (R := wire_Machine_Values.R κ S x0 b_x0 b_x0otape A_x0otapeowords c_x0otapeowords A_x0oops c_x0oops A_x0ovalues c_x0ovalues A_x0oblocks c_x0oblocks r) (.slice Ar5x0_9 v_7.length cr5x0_10) hs rfl (by kernel_rfl) (by obtain rfl := Option.some.inj hm; exact ⟨Ar5x0_9, cr5x0_10, rfl, (Own.to hs.own [0, 1, 2, 3, 4, 5, 6] 7 (by kernel_rfl) (by kernel_rfl))⟩)


abbrev share_none.R (κ : Ctx) (S : List HP) (r : Cells) : Ending → World → Prop := fun e w' => e = .returned (.agg (vals r)) ∧ Own κ w' (S)
def share_none.m (k : Nat) : Option Cells := some [C.int .i64 (-1), C.int .i64 (-1), C.int .i64 (-1)]

set_option maxRecDepth 100000 in
set_option maxHeartbeats 4000000 in
theorem share_none.ok (k : Nat) (r : Cells) (hm : share_none.m k = some r) (κ : Ctx) (w : World) (S : List HP) (ho : Own κ w (S)) :
    Calls Try.prog 87 #[] w (share_none.R κ S r) := by
  unfold share_none.m at hm
  refine Vk.enter [] Try.func87 rfl Try.ntmps87 (by kernel_rfl) (Nat.le_of_ble_eq_true (by kernel_rfl)) ho fun a hs => ?_
  refine Vk.seq fun K1 hK1 => ?_
  refine Vk.region ?_
  refine Vk.step (Vk.alloc 0 65 [C.int .i64 0, C.int .i64 0, C.int .i64 0] hs (by kernel_rfl) (by kernel_rfl) (by kernel_rfl) fun b_2 w a hs => ?_)
  replace hs := hs.pick [0] (L' := [(0, .pointer (some ⟨b_2, 0, none⟩))]) (by kernel_rfl)
  refine Vk.done (by kernel_rfl) ?_
  refine hK1 _ _ ?_
  clear hK1
  refine Vk.seq fun K3 hK3 => ?_
  refine Vk.region ?_
  refine Vk.pures 2 [(2, .agg (vals [C.int .i64 (-1), C.int .i64 (-1), C.int .i64 (-1)])), (1, .agg (vals [C.int .i64 (-1), C.int .i64 (-1), C.int .i64 (-1)]))] hs (by kernel_rfl) fun a hs => ?_
  refine Vk.step (Vk.storeA (b := b_2) (ty := 65) (x := (.tmp 0)) (y := (.tmp 2)) (sz := 3) [C.int .i64 (-1), C.int .i64 (-1), C.int .i64 (-1)] 0 hs (by kernel_rfl) (by kernel_rfl) (by kernel_rfl) (by kernel_rfl) (by kernel_rfl) rfl (by kernel_rfl) rfl (Eq.trans (b := 3) rfl (Eq.symm rfl)) fun a w hs => ?_)
  replace hs := hs.pick [0] (L' := [(0, .pointer (some ⟨b_2, 0, none⟩))]) (by kernel_rfl)
  refine Vk.done (by kernel_rfl) ?_
  refine hK3 _ _ ?_
  clear hK3
  refine wp_ret ?_
  exact Vk.retC (P := Try.prog) (fn := Try.f87) (R := share_none.R κ S r) [C.int .i64 (-1), C.int .i64 (-1), C.int .i64 (-1)] hs rfl (by kernel_rfl) (sz := 3) (by kernel_rfl) rfl (CellsAt.all 0 rfl) (by obtain rfl := Option.some.inj hm; exact ⟨rfl, (Own.to hs.own [] 1 (by kernel_rfl) (by kernel_rfl))⟩)


def share_Public.j1 (k : Nat) (rec22 : Twire_Machine → Cells → Int → Option (Cells × Twire_Machine)) (q_32 : Cells) (q_33 : Int) (p_68 : Int) (p_69 : Twire_Machine) : Option (Cells × Twire_Machine) := (if 0 ≤ q_33 ∧ q_33 < 3 then (if 0 + q_33.toNat * 1 < q_32.length then rec22 p_69 (q_32.set (0 + q_33.toNat * 1) (C.int .i64 p_68)) (IntKind.i64.wrap (q_33 + 1)) else none) else none)
def share_Public.l1 (x1 : Int) (v_20 : Int) : Nat → Twire_Machine → Cells → Int → Option (Cells × Twire_Machine)
  | 0, _, _, _ => none
  | k + 1, q_23, q_32, q_33 => (bif decide (q_33 < v_20) then (bif decide (q_33 > 0) then (wire_Machine_Const.m k q_23 q_33 0).bind fun v_45 => share_Public.j1 k (share_Public.l1 x1 v_20 k) q_32 q_33 v_45.1 v_45.2 else (wire_Machine_Const.m k q_23 q_33 x1).bind fun v_58 => share_Public.j1 k (share_Public.l1 x1 v_20 k) q_32 q_33 v_58.1 v_58.2) else some (q_32, q_23))
abbrev share_Public.R (κ : Ctx) (S : List HP) (x0 : Twire_Machine) (x1 : Int) (b_x0 : Nat) (b_x0otape : Nat) (A_x0otapeowords : Option Addr) (c_x0otapeowords : Nat) (A_x0oops : Option Addr) (c_x0oops : Nat) (A_x0ovalues : Option Addr) (c_x0ovalues : Nat) (A_x0oblocks : Option Addr) (c_x0oblocks : Nat) (r : (Cells × Twire_Machine)) : Ending → World → Prop := fun e w' => ∃ (A_y0otapeowords : Option Addr), ∃ (c_y0otapeowords : Nat), ∃ (A_y0oops : Option Addr), ∃ (c_y0oops : Nat), ∃ (A_y0ovalues : Option Addr), ∃ (c_y0ovalues : Nat), ∃ (A_y0oblocks : Option Addr), ∃ (c_y0oblocks : Nat), e = .returned (.agg (vals r.1)) ∧ Own κ w' (pt b_x0 (blk (Twire_Machine.obj r.2 b_x0otape A_y0oops c_y0oops A_y0ovalues c_y0ovalues A_y0oblocks c_y0oblocks) 151) :: pt b_x0otape (blk (Ttape_Tape.obj r.2.tape A_y0otapeowords c_y0otapeowords) 158) :: rowp A_y0otapeowords c_y0otapeowords 23 1 (eI .u64) r.2.tape.words :: rowp A_y0oops c_y0oops 32 6 Tapi_Op.cells r.2.ops :: rowp A_y0ovalues c_y0ovalues 23 1 (eI .u64) r.2.values :: rowp A_y0oblocks c_y0oblocks 144 3 Tapi_Span.cells r.2.blocks :: S)
def share_Public.m (k : Nat) (x0 : Twire_Machine) (x1 : Int) : Option (Cells × Twire_Machine) := (share_none.m k).bind fun v_12 => (if v_12.length = 3 then (wire_Machine_N.m k x0).bind fun v_20 => (share_Public.l1 x1 v_20 k x0 v_12 0).bind fun x => match x with | (p_84, p_85) => (if p_84.length = 3 then some (p_84, p_85) else none) else none)

set_option maxRecDepth 100000 in
set_option maxHeartbeats 4000000 in
theorem share_Public.ok (k : Nat) (x0 : Twire_Machine) (x1 : Int) (r : (Cells × Twire_Machine)) (hm : share_Public.m k x0 x1 = some r) (κ : Ctx) (w : World) (S : List HP) (b_x0 : Nat) (b_x0otape : Nat) (A_x0otapeowords : Option Addr) (c_x0otapeowords : Nat) (A_x0oops : Option Addr) (c_x0oops : Nat) (A_x0ovalues : Option Addr) (c_x0ovalues : Nat) (A_x0oblocks : Option Addr) (c_x0oblocks : Nat) (ho : Own κ w (pt b_x0 (blk (Twire_Machine.obj x0 b_x0otape A_x0oops c_x0oops A_x0ovalues c_x0ovalues A_x0oblocks c_x0oblocks) 151) :: pt b_x0otape (blk (Ttape_Tape.obj x0.tape A_x0otapeowords c_x0otapeowords) 158) :: rowp A_x0otapeowords c_x0otapeowords 23 1 (eI .u64) x0.tape.words :: rowp A_x0oops c_x0oops 32 6 Tapi_Op.cells x0.ops :: rowp A_x0ovalues c_x0ovalues 23 1 (eI .u64) x0.values :: rowp A_x0oblocks c_x0oblocks 144 3 Tapi_Span.cells x0.blocks :: S)) :
    Calls Try.prog 86 #[.pointer (some ⟨b_x0, 0, none⟩), .int .u64 x1] w (share_Public.R κ S x0 x1 b_x0 b_x0otape A_x0otapeowords c_x0otapeowords A_x0oops c_x0oops A_x0ovalues c_x0ovalues A_x0oblocks c_x0oblocks r) := by
  unfold share_Public.m at hm
  refine Vk.enter [(0, .pointer (some ⟨b_x0, 0, none⟩)), (1, .int .u64 x1)] Try.func86 rfl Try.ntmps86 (by kernel_rfl) (Nat.le_of_ble_eq_true (by kernel_rfl)) ho fun a hs => ?_
  refine Vk.seq fun K1 hK1 => ?_
  refine Vk.region ?_
  refine Vk.step (Vk.box (x := (.tmp 0)) 2 95 [C.ptr (some ⟨b_x0, 0, none⟩)] hs (by kernel_rfl) (by kernel_rfl) (by kernel_rfl) fun b_2 w a hs => ?_)
  refine Vk.step (Vk.box (x := (.tmp 1)) 3 23 [C.int .u64 x1] hs (by kernel_rfl) (by kernel_rfl) (by kernel_rfl) fun b_3 w a hs => ?_)
  refine Vk.step (Vk.alloc 4 65 [C.int .i64 0, C.int .i64 0, C.int .i64 0] hs (by kernel_rfl) (by kernel_rfl) (by kernel_rfl) fun b_4 w a hs => ?_)
  replace hs := hs.pick [2, 3, 4] (L' := [(2, .pointer (some ⟨b_2, 0, none⟩)), (3, .pointer (some ⟨b_3, 0, none⟩)), (4, .pointer (some ⟨b_4, 0, none⟩))]) (by kernel_rfl)
  refine Vk.done (by kernel_rfl) ?_
  refine hK1 _ _ ?_
  clear hK1
  refine Vk.seq fun K5 hK5 => ?_
  refine Vk.region ?_
  refine Vk.step (Vk.value (some 5) (.pointer (some ⟨b_x0, 0, none⟩)) hs (by kernel_rfl) (op := (.load 95 (.tmp 2))) (by kernel_rfl) (fun o ho => run_load1 (b := b_2) (off := 0) (c := C.ptr (some ⟨b_x0, 0, none⟩)) ho (by kernel_rfl) (by kernel_rfl) (Cell.own 2 rfl (by kernel_rfl)) _ hs.own) fun a hs => ?_)
  refine Vk.pures 1 [(6, .func (.func 120) #[] #[.pointer (some ⟨b_2, 0, none⟩), .pointer (some ⟨b_3, 0, none⟩)])] hs (by kernel_rfl) fun a hs => ?_
  refine Vk.step (Vk.call (some 7) 119 #[.pointer (some ⟨b_x0, 0, none⟩), .func (.func 120) #[] #[.pointer (some ⟨b_2, 0, none⟩), .pointer (some ⟨b_3, 0, none⟩)]] hs (by kernel_rfl) (by kernel_rfl) (by kernel_rfl) ?_)
  refine Vk.enterI [(0, .pointer (some ⟨b_x0, 0, none⟩)), (1, .func (.func 120) #[] #[.pointer (some ⟨b_2, 0, none⟩), .pointer (some ⟨b_3, 0, none⟩)])] Try.func119 rfl Try.ntmps119 (by kernel_rfl) (Nat.le_of_ble_eq_true (by kernel_rfl)) hs.own fun KR6 hKR6 hKP6 a hs => ?_
  refine Vk.seq fun K7 hK7 => ?_
  refine Vk.region ?_
  refine Vk.step (Vk.alloc 4 65 [C.int .i64 0, C.int .i64 0, C.int .i64 0] hs (by kernel_rfl) (by kernel_rfl) (by kernel_rfl) fun b_8 w a hs => ?_)
  replace hs := hs.pick [0, 1, 4] (L' := [(0, .pointer (some ⟨b_x0, 0, none⟩)), (1, .func (.func 120) #[] #[.pointer (some ⟨b_2, 0, none⟩), .pointer (some ⟨b_3, 0, none⟩)]), (4, .pointer (some ⟨b_8, 0, none⟩))]) (by kernel_rfl)
  refine Vk.done (by kernel_rfl) ?_
  refine hK7 _ _ ?_
  clear hK7
  refine Vk.seq fun K9 hK9 => ?_
  refine Vk.region ?_
  obtain ⟨v_12, h_11, hm⟩ := bind_t hm
  refine Vk.step (Vk.call (some 7) 87 #[] hs (by kernel_rfl) (by kernel_rfl) (by kernel_rfl) ?_)
  refine (share_none.ok k v_12 h_11 κ w (pt b_8 (blk [C.int .i64 0, C.int .i64 0, C.int .i64 0] 65) :: pt b_4 (blk [C.int .i64 0, C.int .i64 0, C.int .i64 0] 65) :: pt b_3 (blk [C.int .u64 x1] 23) :: pt b_2 (blk [C.ptr (some ⟨b_x0, 0, none⟩)] 95) :: pt b_x0 (blk (Twire_Machine.obj x0 b_x0otape A_x0oops c_x0oops A_x0ovalues c_x0ovalues A_x0oblocks c_x0oblocks) 151) :: pt b_x0otape (blk (Ttape_Tape.obj x0.tape A_x0otapeowords c_x0otapeowords) 158) :: rowp A_x0otapeowords c_x0otapeowords 23 1 (eI .u64) x0.tape.words :: rowp A_x0oops c_x0oops 32 6 Tapi_Op.cells x0.ops :: rowp A_x0ovalues c_x0ovalues 23 1 (eI .u64) x0.values :: rowp A_x0oblocks c_x0oblocks 144 3 Tapi_Span.cells x0.blocks :: S) hs.own).mono ?_
  rintro _ w ⟨rfl, how⟩
  refine ⟨_, _, _, rfl, how, fun a hs => ?_⟩
  refine Vk.step (Vk.alloc 5 65 [C.int .i64 0, C.int .i64 0, C.int .i64 0] hs (by kernel_rfl) (by kernel_rfl) (by kernel_rfl) fun b_14 w a hs => ?_)
  obtain ⟨h_15, hm⟩ := ite_t hm
  refine Vk.step (Vk.storeA (b := b_14) (ty := 65) (x := (.tmp 5)) (y := (.tmp 7)) (sz := 3) v_12 0 hs (by kernel_rfl) (by kernel_rfl) (by kernel_rfl) (by kernel_rfl) (by kernel_rfl) h_15 (by kernel_rfl) rfl (Eq.trans (b := 3) h_15 (Eq.symm rfl)) fun a w hs => ?_)
  replace hs := hs.pick [0, 1, 4, 5] (L' := [(0, .pointer (some ⟨b_x0, 0, none⟩)), (1, .func (.func 120) #[] #[.pointer (some ⟨b_2, 0, none⟩), .pointer (some ⟨b_3, 0, none⟩)]), (4, .pointer (some ⟨b_8, 0, none⟩)), (5, .pointer (some ⟨b_14, 0, none⟩))]) (by kernel_rfl)
  refine Vk.done (by kernel_rfl) ?_
  refine hK9 _ _ ?_
  clear hK9
  refine Vk.seq fun K16 hK16 => ?_
  refine Vk.seq fun K17 hK17 => ?_
  refine Vk.region ?_
  refine Vk.pures 1 [(8, .pointer (some ⟨b_x0, 0, none⟩))] hs (by kernel_rfl) fun a hs => ?_
  obtain ⟨v_20, h_19, hm⟩ := bind_t hm
  refine Vk.step (Vk.call (some 9) 88 #[.pointer (some ⟨b_x0, 0, none⟩)] hs (by kernel_rfl) (by kernel_rfl) (by kernel_rfl) ?_)
  refine (wire_Machine_N.ok k x0 v_20 h_19 κ w (pt b_14 (blk v_12 65) :: pt b_8 (blk [C.int .i64 0, C.int .i64 0, C.int .i64 0] 65) :: pt b_4 (blk [C.int .i64 0, C.int .i64 0, C.int .i64 0] 65) :: pt b_3 (blk [C.int .u64 x1] 23) :: pt b_2 (blk [C.ptr (some ⟨b_x0, 0, none⟩)] 95) :: S) b_x0 b_x0otape A_x0otapeowords c_x0otapeowords A_x0oops c_x0oops A_x0ovalues c_x0ovalues A_x0oblocks c_x0oblocks (Own.to hs.own [5, 6, 7, 8, 9, 10, 0, 1, 2, 3, 4] 11 (by kernel_rfl) (by kernel_rfl))).mono ?_
  rintro _ w ⟨rfl, how⟩
  refine ⟨_, _, _, rfl, how, fun a hs => ?_⟩
  refine Vk.pures 1 [(10, .int .i64 0)] hs (by kernel_rfl) fun a hs => ?_
  replace hs := hs.pick [1, 4, 5, 9, 10] (L' := [(1, .func (.func 120) #[] #[.pointer (some ⟨b_2, 0, none⟩), .pointer (some ⟨b_3, 0, none⟩)]), (4, .pointer (some ⟨b_8, 0, none⟩)), (5, .pointer (some ⟨b_14, 0, none⟩)), (9, .int .i64 v_20), (10, .int .i64 0)]) (by kernel_rfl)
  refine Vk.done (by kernel_rfl) ?_
  refine hK17 _ _ ?_
  clear hK17
  refine wp_block ?_
  obtain ⟨r22, hl22, hm⟩ := bind_t hm
  have hx22 : ∀ (p_84 : Cells) (p_85 : Twire_Machine), r22 = (p_84, p_85) → ∀ (A_86 : Option Addr) (c_87 : Nat) (A_88 : Option Addr) (c_89 : Nat) (A_90 : Option Addr) (c_91 : Nat) (A_92 : Option Addr) (c_93 : Nat) (a : Act) (w : World), St 21 a w κ [(4, .pointer (some ⟨b_8, 0, none⟩)), (5, .pointer (some ⟨b_14, 0, none⟩))] (pt b_8 (blk [C.int .i64 0, C.int .i64 0, C.int .i64 0] 65) :: pt b_14 (blk p_84 65) :: pt b_x0 (blk (Twire_Machine.obj p_85 b_x0otape A_88 c_89 A_90 c_91 A_92 c_93) 151) :: pt b_x0otape (blk (Ttape_Tape.obj p_85.tape A_86 c_87) 158) :: rowp A_86 c_87 23 1 (eI .u64) p_85.tape.words :: rowp A_88 c_89 32 6 Tapi_Op.cells p_85.ops :: rowp A_90 c_91 23 1 (eI .u64) p_85.values :: rowp A_92 c_93 144 3 Tapi_Span.cells p_85.blocks :: pt b_2 (blk [C.ptr (some ⟨b_x0, 0, none⟩)] 95) :: pt b_3 (blk [C.int .u64 x1] 23) :: pt b_4 (blk [C.int .i64 0, C.int .i64 0, C.int .i64 0] 65) :: S) → K16 a w := by
    intro p_84 p_85 he A_86 c_87 A_88 c_89 A_90 c_91 A_92 c_93 a w hs
    subst r22
    refine hK16 _ _ ?_
    clear hK16
    refine Vk.seq fun K105 hK105 => ?_
    refine Vk.region ?_
    obtain ⟨h_106, hm⟩ := ite_t hm
    refine Vk.step (Vk.value (some 20) (.agg (vals p_84)) hs (by kernel_rfl) (op := (.load 65 (.tmp 5))) (by kernel_rfl) (fun o ho => run_loadN (cs := p_84) ho (by kernel_rfl) (by kernel_rfl) h_106 (CellsAt.all 1 rfl) _ hs.own) fun a hs => ?_)
    refine Vk.step (Vk.storeA (b := b_8) (ty := 65) (x := (.tmp 4)) (y := (.tmp 20)) (sz := 3) p_84 0 hs (by kernel_rfl) (by kernel_rfl) (by kernel_rfl) (by kernel_rfl) (by kernel_rfl) h_106 (by kernel_rfl) rfl (Eq.trans (b := 3) h_106 (Eq.symm rfl)) fun a w hs => ?_)
    replace hs := hs.pick [4] (L' := [(4, .pointer (some ⟨b_8, 0, none⟩))]) (by kernel_rfl)
    refine Vk.done (by kernel_rfl) ?_
    refine hK105 _ _ ?_
    clear hK105
    refine wp_ret ?_
    refine hKP6 _ _ ?_
    refine hKR6 _ _ ?_
    refine Vk.retC (P := Try.prog) (fn := Try.f119) p_84 hs rfl (by kernel_rfl) (sz := 3) (by kernel_rfl) h_106 (CellsAt.all 0 rfl) ⟨_, _, _, rfl, hs.own, fun a hs => ?_⟩
    refine Vk.step (Vk.storeA (b := b_4) (ty := 65) (x := (.tmp 4)) (y := (.tmp 7)) (sz := 3) p_84 10 hs (by kernel_rfl) (by kernel_rfl) (by kernel_rfl) (by kernel_rfl) (by kernel_rfl) h_106 (by kernel_rfl) rfl (Eq.trans (b := 3) h_106 (Eq.symm rfl)) fun a w hs => ?_)
    replace hs := hs.pick [4] (L' := [(4, .pointer (some ⟨b_4, 0, none⟩))]) (by kernel_rfl)
    refine Vk.done (by kernel_rfl) ?_
    refine hK5 _ _ ?_
    clear hK5
    refine wp_ret ?_
    exact Vk.retC (P := Try.prog) (fn := Try.f86) (R := share_Public.R κ S x0 x1 b_x0 b_x0otape A_x0otapeowords c_x0otapeowords A_x0oops c_x0oops A_x0ovalues c_x0ovalues A_x0oblocks c_x0oblocks r) p_84 hs rfl (by kernel_rfl) (sz := 3) (by kernel_rfl) h_106 (CellsAt.all 10 rfl) (by obtain rfl := Option.some.inj hm; exact ⟨A_86, c_87, A_88, c_89, A_90, c_91, A_92, c_93, rfl, (Own.to hs.own [2, 3, 4, 5, 6, 7] 11 (by kernel_rfl) (by kernel_rfl))⟩)
  refine Vk.loopBy (fun k (s : Twire_Machine × Cells × Int) a w => ∃ (A_24 : Option Addr), ∃ (c_25 : Nat), ∃ (A_26 : Option Addr), ∃ (c_27 : Nat), ∃ (A_28 : Option Addr), ∃ (c_29 : Nat), ∃ (A_30 : Option Addr), ∃ (c_31 : Nat), share_Public.l1 x1 v_20 k s.1 s.2.1 s.2.2 = some r22 ∧ St 21 a w κ [(1, .func (.func 120) #[] #[.pointer (some ⟨b_2, 0, none⟩), .pointer (some ⟨b_3, 0, none⟩)]), (4, .pointer (some ⟨b_8, 0, none⟩)), (5, .pointer (some ⟨b_14, 0, none⟩)), (9, .int .i64 v_20), (10, .int .i64 s.2.2)] (pt b_2 (blk [C.ptr (some ⟨b_x0, 0, none⟩)] 95) :: pt b_x0 (blk (Twire_Machine.obj s.1 b_x0otape A_26 c_27 A_28 c_29 A_30 c_31) 151) :: pt b_x0otape (blk (Ttape_Tape.obj s.1.tape A_24 c_25) 158) :: rowp A_24 c_25 23 1 (eI .u64) s.1.tape.words :: rowp A_26 c_27 32 6 Tapi_Op.cells s.1.ops :: rowp A_28 c_29 23 1 (eI .u64) s.1.values :: rowp A_30 c_31 144 3 Tapi_Span.cells s.1.blocks :: pt b_3 (blk [C.int .u64 x1] 23) :: pt b_8 (blk [C.int .i64 0, C.int .i64 0, C.int .i64 0] 65) :: pt b_14 (blk s.2.1 65) :: pt b_4 (blk [C.int .i64 0, C.int .i64 0, C.int .i64 0] 65) :: S)) k (x0, v_12, 0) ⟨A_x0otapeowords, c_x0otapeowords, A_x0oops, c_x0oops, A_x0ovalues, c_x0ovalues, A_x0oblocks, c_x0oblocks, hl22, hs.go [1, 4, 5, 9, 10] [10, 0, 1, 2, 3, 4, 5, 9, 7, 6, 8] 11 (by kernel_rfl) (by kernel_rfl) (by kernel_rfl)⟩ (fun s a w h => by obtain ⟨_, _, _, _, _, _, _, _, h1, _⟩ := h; simp [share_Public.l1] at h1) (fun k KL22 ih s a w h => ?_)
  obtain ⟨q_23, q_32, q_33⟩ := s
  obtain ⟨A_24, c_25, A_26, c_27, A_28, c_29, A_30, c_31, hm, hs⟩ := h
  try dsimp only at hm hs
  rw [share_Public.l1] at hm
  refine Vk.seq fun K34 hK34 => ?_
  refine Vk.region ?_
  refine Vk.pures 1 [(11, .bool (decide (q_33 < v_20)))] hs (by kernel_rfl) fun a hs => ?_
  replace hs := hs.pick [1, 4, 5, 9, 10, 11] (L' := [(1, .func (.func 120) #[] #[.pointer (some ⟨b_2, 0, none⟩), .pointer (some ⟨b_3, 0, none⟩)]), (4, .pointer (some ⟨b_8, 0, none⟩)), (5, .pointer (some ⟨b_14, 0, none⟩)), (9, .int .i64 v_20), (10, .int .i64 q_33), (11, .bool (decide (q_33 < v_20)))]) (by kernel_rfl)
  refine Vk.done (by kernel_rfl) ?_
  refine hK34 _ _ ?_
  clear hK34
  refine Vk.seq fun K35 hK35 => ?_
  refine Vk.condS (b := decide (q_33 < v_20)) hs (by kernel_rfl) (by kernel_rfl) (fun hb => ?_) (fun hb => ?_)
  · replace hm := bif_t hm hb
    refine wp_skip ?_
    refine hK35 _ _ ?_
    clear hK35
    refine Vk.seq fun K36 hK36 => ?_
    refine wp_block ?_
    refine Vk.seq fun K37 hK37 => ?_
    refine Vk.region ?_
    refine Vk.pures 2 [(6, .int .i64 q_33), (12, .int .i64 q_33)] hs (by kernel_rfl) fun a hs => ?_
    replace hs := hs.pick [1, 4, 5, 6, 9, 10] (L' := [(1, .func (.func 120) #[] #[.pointer (some ⟨b_2, 0, none⟩), .pointer (some ⟨b_3, 0, none⟩)]), (4, .pointer (some ⟨b_8, 0, none⟩)), (5, .pointer (some ⟨b_14, 0, none⟩)), (6, .int .i64 q_33), (9, .int .i64 v_20), (10, .int .i64 q_33)]) (by kernel_rfl)
    refine Vk.done (by kernel_rfl) ?_
    refine hK37 _ _ ?_
    clear hK37
    refine Vk.region ?_
    refine Vk.pures 3 [(15, .int .i64 q_33), (14, .func (.func 120) #[] #[.pointer (some ⟨b_2, 0, none⟩), .pointer (some ⟨b_3, 0, none⟩)]), (13, .int .i64 q_33)] hs (by kernel_rfl) fun a hs => ?_
    refine Vk.step (Vk.call (some 16) 120 #[.int .i64 q_33, .pointer (some ⟨b_2, 0, none⟩), .pointer (some ⟨b_3, 0, none⟩)] hs (by kernel_rfl) (by kernel_rfl) (by kernel_rfl) ?_)
    refine Vk.enterI [(0, .int .i64 q_33), (1, .pointer (some ⟨b_2, 0, none⟩)), (2, .pointer (some ⟨b_3, 0, none⟩))] Try.func120 rfl Try.ntmps120 (by kernel_rfl) (Nat.le_of_ble_eq_true (by kernel_rfl)) hs.own fun KR38 hKR38 hKP38 a hs => ?_
    have hj38 : ∀ (p_68 : Int) (p_69 : Twire_Machine), share_Public.j1 k (share_Public.l1 x1 v_20 k) q_32 q_33 p_68 p_69 = some r22 → ∀ (A_70 : Option Addr) (c_71 : Nat) (A_73 : Option Addr) (c_74 : Nat) (A_76 : Option Addr) (c_77 : Nat) (A_79 : Option Addr) (c_80 : Nat) (a : Act) (w : World), St 14 a w κ [(4, .int .i64 p_68)] (pt b_x0 (blk (Twire_Machine.obj p_69 b_x0otape A_73 c_74 A_76 c_77 A_79 c_80) 151) :: pt b_x0otape (blk (Ttape_Tape.obj p_69.tape A_70 c_71) 158) :: rowp A_70 c_71 23 1 (eI .u64) p_69.tape.words :: rowp A_73 c_74 32 6 Tapi_Op.cells p_69.ops :: rowp A_76 c_77 23 1 (eI .u64) p_69.values :: rowp A_79 c_80 144 3 Tapi_Span.cells p_69.blocks :: pt b_2 (blk [C.ptr (some ⟨b_x0, 0, none⟩)] 95) :: pt b_3 (blk [C.int .u64 x1] 23) :: pt b_4 (blk [C.int .i64 0, C.int .i64 0, C.int .i64 0] 65) :: pt b_8 (blk [C.int .i64 0, C.int .i64 0, C.int .i64 0] 65) :: pt b_14 (blk q_32 65) :: S) → KR38 a w := by
      intro p_68 p_69 hm A_70 c_71 A_73 c_74 A_76 c_77 A_79 c_80 a w hs
      unfold share_Public.j1 at hm
      refine hKR38 _ _ ?_
      refine Vk.ret1 (P := Try.prog) (fn := Try.f120) (.int .i64 p_68) hs rfl (by kernel_rfl) ⟨_, _, _, rfl, hs.own, fun a hs => ?_⟩
      refine Vk.pures 1 [(17, .pointer (some ⟨b_14, 0, none⟩))] hs (by kernel_rfl) fun a hs => ?_
      obtain ⟨h_82, hm⟩ := ite_t hm
      refine Vk.step (Vk.value (some 18) (.pointer (some ⟨b_14, 0 + q_33.toNat * 1, none⟩)) hs (by kernel_rfl) (op := (.indexAddr 63 (.tmp 17) (.tmp 13))) (by kernel_rfl) (fun o ho => run_idxArr (k := .i64) ho (by kernel_rfl) (by kernel_rfl) (by kernel_rfl) h_82 _) fun a hs => ?_)
      obtain ⟨h_83, hm⟩ := ite_t hm
      refine Vk.step (Vk.store1 (b := b_14) (ty := 3) (x := (.tmp 18)) (y := (.tmp 16)) (off := 0 + q_33.toNat * 1) (C.int .i64 p_68) 10 hs (by kernel_rfl) (by kernel_rfl) (by kernel_rfl) (by kernel_rfl) (by kernel_rfl) (by kernel_rfl) rfl h_83 fun a w hs => ?_)
      replace hs := hs.pick [1, 4, 5, 9, 10] (L' := [(1, .func (.func 120) #[] #[.pointer (some ⟨b_2, 0, none⟩), .pointer (some ⟨b_3, 0, none⟩)]), (4, .pointer (some ⟨b_8, 0, none⟩)), (5, .pointer (some ⟨b_14, 0, none⟩)), (9, .int .i64 v_20), (10, .int .i64 q_33)]) (by kernel_rfl)
      refine Vk.done (by kernel_rfl) ?_
      refine hK36 _ _ ?_
      clear hK36
      refine Vk.region ?_
      refine Vk.pures 2 [(10, .int .i64 (IntKind.i64.wrap (q_33 + 1))), (19, .int .i64 (IntKind.i64.wrap (q_33 + 1)))] hs (by kernel_rfl) fun a hs => ?_
      replace hs := hs.pick [1, 4, 5, 9, 10] (L' := [(1, .func (.func 120) #[] #[.pointer (some ⟨b_2, 0, none⟩), .pointer (some ⟨b_3, 0, none⟩)]), (4, .pointer (some ⟨b_8, 0, none⟩)), (5, .pointer (some ⟨b_14, 0, none⟩)), (9, .int .i64 v_20), (10, .int .i64 (IntKind.i64.wrap (q_33 + 1)))]) (by kernel_rfl)
      refine Vk.done (by kernel_rfl) ?_
      refine ih (p_69, (q_32.set (0 + q_33.toNat * 1) (C.int .i64 p_68)), (IntKind.i64.wrap (q_33 + 1))) _ _ ⟨A_70, c_71, A_73, c_74, A_76, c_77, A_79, c_80, hm, hs.go [1, 4, 5, 9, 10] [6, 0, 1, 2, 3, 4, 5, 7, 9, 10, 8] 11 (by kernel_rfl) (by kernel_rfl) (by kernel_rfl)⟩
    refine Vk.seq fun K39 hK39 => ?_
    refine Vk.region ?_
    refine Vk.pures 1 [(4, .int .i64 0)] hs (by kernel_rfl) fun a hs => ?_
    replace hs := hs.pick [0, 1, 2] (L' := [(0, .int .i64 q_33), (1, .pointer (some ⟨b_2, 0, none⟩)), (2, .pointer (some ⟨b_3, 0, none⟩))]) (by kernel_rfl)
    refine Vk.done (by kernel_rfl) ?_
    refine hK39 _ _ ?_
    clear hK39
    refine Vk.seq fun K40 hK40 => ?_
    refine Vk.seq fun K41 hK41 => ?_
    refine Vk.region ?_
    refine Vk.pures 2 [(6, .bool (decide (q_33 > 0))), (5, .int .i64 q_33)] hs (by kernel_rfl) fun a hs => ?_
    replace hs := hs.pick [0, 1, 2, 6] (L' := [(0, .int .i64 q_33), (1, .pointer (some ⟨b_2, 0, none⟩)), (2, .pointer (some ⟨b_3, 0, none⟩)), (6, .bool (decide (q_33 > 0)))]) (by kernel_rfl)
    refine Vk.done (by kernel_rfl) ?_
    refine hK41 _ _ ?_
    clear hK41
    refine Vk.condS (b := decide (q_33 > 0)) hs (by kernel_rfl) (by kernel_rfl) (fun hb => ?_) (fun hb => ?_)
    · replace hm := bif_t hm hb
      refine Vk.seq fun K42 hK42 => ?_
      refine Vk.region ?_
      refine Vk.step (Vk.value (some 7) (.pointer (some ⟨b_x0, 0, none⟩)) hs (by kernel_rfl) (op := (.load 95 (.tmp 1))) (by kernel_rfl) (fun o ho => run_load1 (b := b_2) (off := 0) (c := C.ptr (some ⟨b_x0, 0, none⟩)) ho (by kernel_rfl) (by kernel_rfl) (Cell.own 0 rfl (by kernel_rfl)) _ hs.own) fun a hs => ?_)
      refine Vk.pures 1 [(8, .int .i64 q_33)] hs (by kernel_rfl) fun a hs => ?_
      obtain ⟨v_45, h_44, hm⟩ := bind_t hm
      refine Vk.step (Vk.call (some 9) 100 #[.pointer (some ⟨b_x0, 0, none⟩), .int .i64 q_33, .int .u64 0] hs (by kernel_rfl) (by kernel_rfl) (by kernel_rfl) ?_)
      refine (wire_Machine_Const.ok k q_23 q_33 0 v_45 h_44 κ w (pt b_2 (blk [C.ptr (some ⟨b_x0, 0, none⟩)] 95) :: pt b_3 (blk [C.int .u64 x1] 23) :: pt b_8 (blk [C.int .i64 0, C.int .i64 0, C.int .i64 0] 65) :: pt b_14 (blk q_32 65) :: pt b_4 (blk [C.int .i64 0, C.int .i64 0, C.int .i64 0] 65) :: S) b_x0 b_x0otape A_24 c_25 A_26 c_27 A_28 c_29 A_30 c_31 (Own.to hs.own [1, 2, 3, 4, 5, 6, 0, 7, 8, 9, 10] 11 (by kernel_rfl) (by kernel_rfl))).mono ?_
      rintro _ w ⟨Ar43o0otapeowords_47, cr43o0otapeowords_48, Ar43o0oops_49, cr43o0oops_50, Ar43o0ovalues_51, cr43o0ovalues_52, Ar43o0oblocks_53, cr43o0oblocks_54, rfl, how⟩
      refine ⟨_, _, _, rfl, how, fun a hs => ?_⟩
      refine Vk.pures 1 [(4, .int .i64 v_45.1)] hs (by kernel_rfl) fun a hs => ?_
      replace hs := hs.pick [4] (L' := [(4, .int .i64 v_45.1)]) (by kernel_rfl)
      refine Vk.done (by kernel_rfl) ?_
      refine hK42 _ _ ?_
      clear hK42
      refine wp_ret ?_
      refine hKP38 _ _ ?_
      exact hj38 v_45.1 v_45.2 hm Ar43o0otapeowords_47 cr43o0otapeowords_48 Ar43o0oops_49 cr43o0oops_50 Ar43o0ovalues_51 cr43o0ovalues_52 Ar43o0oblocks_53 cr43o0oblocks_54 _ _ (hs.go [4] [0, 1, 2, 3, 4, 5, 6, 7, 10, 8, 9] 11 (by kernel_rfl) (by kernel_rfl) (by kernel_rfl))
    · replace hm := bif_f hm hb
      refine wp_skip ?_
      refine hK40 _ _ ?_
      clear hK40
      refine Vk.seq fun K55 hK55 => ?_
      refine Vk.region ?_
      refine Vk.step (Vk.value (some 10) (.pointer (some ⟨b_x0, 0, none⟩)) hs (by kernel_rfl) (op := (.load 95 (.tmp 1))) (by kernel_rfl) (fun o ho => run_load1 (b := b_2) (off := 0) (c := C.ptr (some ⟨b_x0, 0, none⟩)) ho (by kernel_rfl) (by kernel_rfl) (Cell.own 0 rfl (by kernel_rfl)) _ hs.own) fun a hs => ?_)
      refine Vk.pures 1 [(11, .int .i64 q_33)] hs (by kernel_rfl) fun a hs => ?_
      refine Vk.step (Vk.value (some 12) (.int .u64 x1) hs (by kernel_rfl) (op := (.load 23 (.tmp 2))) (by kernel_rfl) (fun o ho => run_load1 (b := b_3) (off := 0) (c := C.int .u64 x1) ho (by kernel_rfl) (by kernel_rfl) (Cell.own 7 rfl (by kernel_rfl)) _ hs.own) fun a hs => ?_)
      obtain ⟨v_58, h_57, hm⟩ := bind_t hm
      refine Vk.step (Vk.call (some 13) 100 #[.pointer (some ⟨b_x0, 0, none⟩), .int .i64 q_33, .int .u64 x1] hs (by kernel_rfl) (by kernel_rfl) (by kernel_rfl) ?_)
      refine (wire_Machine_Const.ok k q_23 q_33 x1 v_58 h_57 κ w (pt b_2 (blk [C.ptr (some ⟨b_x0, 0, none⟩)] 95) :: pt b_3 (blk [C.int .u64 x1] 23) :: pt b_8 (blk [C.int .i64 0, C.int .i64 0, C.int .i64 0] 65) :: pt b_14 (blk q_32 65) :: pt b_4 (blk [C.int .i64 0, C.int .i64 0, C.int .i64 0] 65) :: S) b_x0 b_x0otape A_24 c_25 A_26 c_27 A_28 c_29 A_30 c_31 (Own.to hs.own [1, 2, 3, 4, 5, 6, 0, 7, 8, 9, 10] 11 (by kernel_rfl) (by kernel_rfl))).mono ?_
      rintro _ w ⟨Ar56o0otapeowords_60, cr56o0otapeowords_61, Ar56o0oops_62, cr56o0oops_63, Ar56o0ovalues_64, cr56o0ovalues_65, Ar56o0oblocks_66, cr56o0oblocks_67, rfl, how⟩
      refine ⟨_, _, _, rfl, how, fun a hs => ?_⟩
      refine Vk.pures 1 [(4, .int .i64 v_58.1)] hs (by kernel_rfl) fun a hs => ?_
      replace hs := hs.pick [4] (L' := [(4, .int .i64 v_58.1)]) (by kernel_rfl)
      refine Vk.done (by kernel_rfl) ?_
      refine hK55 _ _ ?_
      clear hK55
      refine wp_ret ?_
      refine hKP38 _ _ ?_
      exact hj38 v_58.1 v_58.2 hm Ar56o0otapeowords_60 cr56o0otapeowords_61 Ar56o0oops_62 cr56o0oops_63 Ar56o0ovalues_64 cr56o0ovalues_65 Ar56o0oblocks_66 cr56o0oblocks_67 _ _ (hs.go [4] [0, 1, 2, 3, 4, 5, 6, 7, 10, 8, 9] 11 (by kernel_rfl) (by kernel_rfl) (by kernel_rfl))
  · replace hm := bif_f hm hb
    refine wp_exit ?_
    exact hx22 q_32 q_23 (Option.some.inj hm).symm A_24 c_25 A_26 c_27 A_28 c_29 A_30 c_31 _ _ (hs.go [4, 5] [8, 9, 1, 2, 3, 4, 5, 6, 0, 7, 10] 11 (by kernel_rfl) (by kernel_rfl) (by kernel_rfl))

structure Tvisorref19_M where
  n : Int
  most : Int
  words : Int
  draws : Int
  fromF : Int
  skip : Int
  kind : Int
  e : Int
  ops : List Tapi_Op
  blocks : List Tapi_Span
  val : List Int
  tape : Tvisorref02_T
  dry : Bool
  deriving Inhabited
def Tvisorref19_M.obj (x : Tvisorref19_M) (Aops : Option Addr) (cops : Nat) (Ablocks : Option Addr) (cblocks : Nat) (Aval : Option Addr) (cval : Nat) (Atapel : Option Addr) (ctapel : Nat) : Cells := [C.int .i64 x.n, C.int .i64 x.most, C.int .i64 x.words, C.int .i64 x.draws, C.int .i64 x.fromF, C.int .i64 x.skip, C.int .i64 x.kind, C.int .i64 x.e, C.slc Aops x.ops.length cops, C.slc Ablocks x.blocks.length cblocks, C.slc Aval x.val.length cval, C.slc Atapel x.tape.l.length ctapel, C.int .i64 x.tape.used, C.int .i64 x.tape.free, C.bool x.dry]

structure Tvisorlaw20_Pair where
  m : Twire_Machine
  x : Tvisorref19_M
  l : List Cells
  v : List Int
  deriving Inhabited
def Tvisorlaw20_Pair.obj (x : Tvisorlaw20_Pair) (bm : Nat) (bx : Nat) (Al : Option Addr) (cl : Nat) (Av : Option Addr) (cv : Nat) : Cells := [C.ptr (some ⟨bm, 0, none⟩), C.ptr (some ⟨bx, 0, none⟩), C.slc Al x.l.length cl, C.slc Av x.v.length cv]

def visorlaw20_awake.j2 (k : Nat) (p_117 : Bool) : Option Bool := some p_117
def visorlaw20_awake.j1 (k : Nat) (rec85 : Int → Int → Option (Int)) (q_87 : Int) (p_104 : Int) : Option (Int) := rec85 p_104 (IntKind.i64.wrap (q_87 + 1))
def visorlaw20_awake.l1 (v_48 : Cells × Twire_Machine) (v_67 : List Int) : Nat → Int → Int → Option (Int)
  | 0, _, _ => none
  | k + 1, q_86, q_87 => (bif decide (q_87 < 3) then (if 0 ≤ q_87 ∧ q_87 < 3 then (getI .i64 v_48.1 q_87.toNat).bind fun v_94 => (bif (decide (v_94 ≥ 0)) && (decide (v_94 < ((v_67.length : Nat) : Int))) then (if 0 ≤ v_94 then (v_67[v_94.toNat]?).bind fun e_100 => visorlaw20_awake.j1 k (visorlaw20_awake.l1 v_48 v_67 k) q_87 (bxor .u64 q_86 e_100) else none) else visorlaw20_awake.j1 k (visorlaw20_awake.l1 v_48 v_67 k) q_87 q_86) else none) else some q_86)
abbrev visorlaw20_awake.R (κ : Ctx) (S : List HP) (r : Bool) : Ending → World → Prop := fun e w' => e = .returned (.bool r) ∧ Own κ w' (S)
def visorlaw20_awake.m (k : Nat) : Option Bool := (slices_Clone_uint64_uint64.m k []).bind fun v_12 => (tape_Tape_Reserve.m k (⟨v_12, (⟨0⟩ : Tatomic_Int64), 0⟩ : Ttape_Tape) 0).bind fun v_20 => (bif !(((v_20.1 == 0) && true) && true) then some false else (share_Public.m k (⟨2, 9, 0, 0, 0, false, 0, 0, 0, v_20.2, ([] : List Tapi_Op), ([] : List Int), ([] : List Tapi_Span)⟩ : Twire_Machine) 7).bind fun v_48 => (if v_48.1.length = 3 then (wire_Machine_Len.m k v_48.2).bind fun v_63 => (bif v_63 == 2 then (wire_Machine_Values.m k v_48.2).bind fun v_67 => (visorlaw20_awake.l1 v_48 v_67 k 0 0).bind fun p_105 => visorlaw20_awake.j2 k (p_105 == 7) else visorlaw20_awake.j2 k false) else none))

set_option maxRecDepth 100000 in
set_option maxHeartbeats 4000000 in
theorem visorlaw20_awake.ok (k : Nat) (r : Bool) (hm : visorlaw20_awake.m k = some r) (κ : Ctx) (w : World) (S : List HP) (ho : Own κ w (S)) :
    Calls Try.prog 50 #[] w (visorlaw20_awake.R κ S r) := by
  unfold visorlaw20_awake.m at hm
  refine Vk.enter [] Try.func50 rfl Try.ntmps50 (by kernel_rfl) (Nat.le_of_ble_eq_true (by kernel_rfl)) ho fun a hs => ?_
  refine Vk.seq fun K1 hK1 => ?_
  refine Vk.region ?_
  refine Vk.pures 1 [(0, .bool false)] hs (by kernel_rfl) fun a hs => ?_
  replace hs := hs.pick [] (L' := []) (by kernel_rfl)
  refine Vk.done (by kernel_rfl) ?_
  refine hK1 _ _ ?_
  clear hK1
  refine Vk.seq fun K2 hK2 => ?_
  refine Vk.region ?_
  refine Vk.step (Vk.call (some 5) 51 #[.int .i64 2, .slice none 0 0, .int .i64 9] hs (by kernel_rfl) (by kernel_rfl) (by kernel_rfl) ?_)
  refine Vk.enterI [(0, .int .i64 2), (1, .slice none 0 0), (2, .int .i64 9)] Try.func51 rfl Try.ntmps51 (by kernel_rfl) (Nat.le_of_ble_eq_true (by kernel_rfl)) hs.own fun KR3 hKR3 hKP3 a hs => ?_
  refine Vk.seq fun K4 hK4 => ?_
  refine Vk.region ?_
  refine Vk.step (Vk.alloc 6 98 [C.ptr none, C.ptr none, C.slc none 0 0, C.slc none 0 0] hs (by kernel_rfl) (by kernel_rfl) (by kernel_rfl) fun b_5 w a hs => ?_)
  refine Vk.pures 1 [(7, .bool false)] hs (by kernel_rfl) fun a hs => ?_
  replace hs := hs.pick [0, 1, 2, 6] (L' := [(0, .int .i64 2), (1, .slice none 0 0), (2, .int .i64 9), (6, .pointer (some ⟨b_5, 0, none⟩))]) (by kernel_rfl)
  refine Vk.done (by kernel_rfl) ?_
  refine hK4 _ _ ?_
  clear hK4
  refine Vk.seq fun K6 hK6 => ?_
  refine Vk.region ?_
  refine Vk.pures 1 [(12, .slice none 0 0)] hs (by kernel_rfl) fun a hs => ?_
  refine Vk.step (Vk.call (some 13) 54 #[.slice none 0 0] hs (by kernel_rfl) (by kernel_rfl) (by kernel_rfl) ?_)
  refine Vk.enterI [(0, .slice none 0 0)] Try.func54 rfl Try.ntmps54 (by kernel_rfl) (Nat.le_of_ble_eq_true (by kernel_rfl)) hs.own fun KR7 hKR7 hKP7 a hs => ?_
  refine Vk.seq fun K8 hK8 => ?_
  refine Vk.region ?_
  refine Vk.pures 1 [(2, .pointer none)] hs (by kernel_rfl) fun a hs => ?_
  replace hs := hs.pick [0] (L' := [(0, .slice none 0 0)]) (by kernel_rfl)
  refine Vk.done (by kernel_rfl) ?_
  refine hK8 _ _ ?_
  clear hK8
  refine Vk.seq fun K9 hK9 => ?_
  refine Vk.region ?_
  refine Vk.pures 1 [(3, .slice none 0 0)] hs (by kernel_rfl) fun a hs => ?_
  obtain ⟨v_12, h_11, hm⟩ := bind_t hm
  refine Vk.step (Vk.call (some 4) 90 #[.slice none 0 0] hs (by kernel_rfl) (by kernel_rfl) (by kernel_rfl) ?_)
  refine (slices_Clone_uint64_uint64.ok k [] v_12 h_11 κ w (pt b_5 (blk [C.ptr none, C.ptr none, C.slc none 0 0, C.slc none 0 0] 98) :: S) none 0 Sl.nil hs.own).mono ?_
  rintro _ w ⟨Ar10x0_14, cr10x0_15, rfl, how⟩
  refine ⟨_, _, _, rfl, how, fun a hs => ?_⟩
  refine Vk.pures 1 [(5, .agg (vals [C.slc Ar10x0_14 v_12.length cr10x0_15, C.int .i64 0, C.int .i64 0]))] hs (by kernel_rfl) fun a hs => ?_
  refine Vk.step (Vk.box (x := (.tmp 5)) 6 158 [C.slc Ar10x0_14 v_12.length cr10x0_15, C.int .i64 0, C.int .i64 0] hs (by kernel_rfl) (by kernel_rfl) (by kernel_rfl) fun b_16 w a hs => ?_)
  refine Vk.pures 1 [(2, .pointer (some ⟨b_16, 0, none⟩))] hs (by kernel_rfl) fun a hs => ?_
  replace hs := hs.pick [2] (L' := [(2, .pointer (some ⟨b_16, 0, none⟩))]) (by kernel_rfl)
  refine Vk.done (by kernel_rfl) ?_
  refine hK9 _ _ ?_
  clear hK9
  refine wp_ret ?_
  refine hKP7 _ _ ?_
  refine hKR7 _ _ ?_
  refine Vk.ret1 (P := Try.prog) (fn := Try.f54) (.pointer (some ⟨b_16, 0, none⟩)) hs rfl (by kernel_rfl) ⟨_, _, _, rfl, hs.own, fun a hs => ?_⟩
  refine Vk.pures 1 [(8, .pointer (some ⟨b_16, 0, none⟩))] hs (by kernel_rfl) fun a hs => ?_
  replace hs := hs.pick [0, 1, 2, 6, 8] (L' := [(0, .int .i64 2), (1, .slice none 0 0), (2, .int .i64 9), (6, .pointer (some ⟨b_5, 0, none⟩)), (8, .pointer (some ⟨b_16, 0, none⟩))]) (by kernel_rfl)
  refine Vk.done (by kernel_rfl) ?_
  refine hK6 _ _ ?_
  clear hK6
  refine Vk.seq fun K17 hK17 => ?_
  refine Vk.region ?_
  refine Vk.pures 3 [(16, .int .i64 0), (15, .slice none 0 0), (14, .pointer (some ⟨b_16, 0, none⟩))] hs (by kernel_rfl) fun a hs => ?_
  obtain ⟨v_20, h_19, hm⟩ := bind_t hm
  refine Vk.step (Vk.call (some 17) 56 #[.pointer (some ⟨b_16, 0, none⟩), .int .i64 0] hs (by kernel_rfl) (by kernel_rfl) (by kernel_rfl) ?_)
  refine (tape_Tape_Reserve.ok k (⟨v_12, (⟨0⟩ : Tatomic_Int64), 0⟩ : Ttape_Tape) 0 v_20 h_19 κ w (pt b_5 (blk [C.ptr none, C.ptr none, C.slc none 0 0, C.slc none 0 0] 98) :: S) b_16 Ar10x0_14 cr10x0_15 (Own.to hs.own [0, 1, 2] 3 (by kernel_rfl) (by kernel_rfl))).mono ?_
  rintro _ w ⟨Ar18o0owords_22, cr18o0owords_23, rfl, how⟩
  refine ⟨_, _, _, rfl, how, fun a hs => ?_⟩
  refine Vk.pures 1 [(9, .int .i64 v_20.1)] hs (by kernel_rfl) fun a hs => ?_
  replace hs := hs.pick [0, 1, 2, 6, 8, 9] (L' := [(0, .int .i64 2), (1, .slice none 0 0), (2, .int .i64 9), (6, .pointer (some ⟨b_5, 0, none⟩)), (8, .pointer (some ⟨b_16, 0, none⟩)), (9, .int .i64 v_20.1)]) (by kernel_rfl)
  refine Vk.done (by kernel_rfl) ?_
  refine hK17 _ _ ?_
  clear hK17
  refine Vk.seq fun K24 hK24 => ?_
  refine Vk.region ?_
  refine Vk.pures 3 [(21, .int .i64 9), (20, .pointer (some ⟨b_16, 0, none⟩)), (19, .int .i64 2)] hs (by kernel_rfl) fun a hs => ?_
  refine Vk.step (Vk.call (some 22) 57 #[.int .i64 2, .pointer (some ⟨b_16, 0, none⟩), .int .i64 9] hs (by kernel_rfl) (by kernel_rfl) (by kernel_rfl) ?_)
  refine Vk.enterI [(0, .int .i64 2), (1, .pointer (some ⟨b_16, 0, none⟩)), (2, .int .i64 9)] Try.func57 rfl Try.ntmps57 (by kernel_rfl) (Nat.le_of_ble_eq_true (by kernel_rfl)) hs.own fun KR25 hKR25 hKP25 a hs => ?_
  refine Vk.seq fun K26 hK26 => ?_
  refine Vk.region ?_
  refine Vk.pures 2 [(7, .int .i64 0), (6, .pointer none)] hs (by kernel_rfl) fun a hs => ?_
  replace hs := hs.pick [0, 1, 2] (L' := [(0, .int .i64 2), (1, .pointer (some ⟨b_16, 0, none⟩)), (2, .int .i64 9)]) (by kernel_rfl)
  refine Vk.done (by kernel_rfl) ?_
  refine hK26 _ _ ?_
  clear hK26
  refine Vk.seq fun K27 hK27 => ?_
  refine Vk.seq fun K28 hK28 => ?_
  refine Vk.region ?_
  refine Vk.pures 18 [(25, .bool false), (24, .bool false), (23, .int .i64 9), (22, .bool false), (21, .bool false), (20, .bool false), (19, .int .i64 9), (18, .bool false), (17, .bool false), (16, .bool false), (15, .pointer (some ⟨b_16, 0, none⟩)), (14, .bool false), (13, .bool false), (12, undef), (11, undef), (10, .bool false), (9, .bool false), (8, .int .i64 2)] hs (by kernel_rfl) fun a hs => ?_
  replace hs := hs.pick [0, 1, 2, 25] (L' := [(0, .int .i64 2), (1, .pointer (some ⟨b_16, 0, none⟩)), (2, .int .i64 9), (25, .bool false)]) (by kernel_rfl)
  refine Vk.done (by kernel_rfl) ?_
  refine hK28 _ _ ?_
  clear hK28
  refine Vk.condF hs (by kernel_rfl) (by kernel_rfl) ?_
  refine wp_skip ?_
  refine hK27 _ _ ?_
  clear hK27
  refine Vk.seq fun K29 hK29 => ?_
  refine Vk.region ?_
  refine Vk.pures 4 [(29, .agg (vals [C.int .i64 2, C.int .i64 9, C.int .i64 0, C.int .i64 0, C.int .i64 0, C.bool false, C.int .i64 0, C.int .i64 0, C.int .i64 0, C.ptr (some ⟨b_16, 0, none⟩), C.slc none 0 0, C.slc none 0 0, C.slc none 0 0])), (28, .pointer (some ⟨b_16, 0, none⟩)), (27, .int .i64 9), (26, .int .i64 2)] hs (by kernel_rfl) fun a hs => ?_
  refine Vk.step (Vk.box (x := (.tmp 29)) 30 151 [C.int .i64 2, C.int .i64 9, C.int .i64 0, C.int .i64 0, C.int .i64 0, C.bool false, C.int .i64 0, C.int .i64 0, C.int .i64 0, C.ptr (some ⟨b_16, 0, none⟩), C.slc none 0 0, C.slc none 0 0, C.slc none 0 0] hs (by kernel_rfl) (by kernel_rfl) (by kernel_rfl) fun b_30 w a hs => ?_)
  refine Vk.pures 2 [(7, .int .i64 0), (6, .pointer (some ⟨b_30, 0, none⟩))] hs (by kernel_rfl) fun a hs => ?_
  replace hs := hs.pick [6, 7] (L' := [(6, .pointer (some ⟨b_30, 0, none⟩)), (7, .int .i64 0)]) (by kernel_rfl)
  refine Vk.done (by kernel_rfl) ?_
  refine hK29 _ _ ?_
  clear hK29
  refine wp_ret ?_
  refine hKP25 _ _ ?_
  refine hKR25 _ _ ?_
  refine Vk.ret2 (P := Try.prog) (fn := Try.f57) (.pointer (some ⟨b_30, 0, none⟩)) (.int .i64 0) hs rfl (by kernel_rfl) (by kernel_rfl) ⟨_, _, _, rfl, hs.own, fun a hs => ?_⟩
  refine Vk.pures 5 [(11, .int .i64 0), (10, .pointer (some ⟨b_30, 0, none⟩)), (24, .int .i64 0), (23, .pointer (some ⟨b_30, 0, none⟩)), (18, .tuple #[.pointer (some ⟨b_30, 0, none⟩), .int .i64 0])] hs (by kernel_rfl) fun a hs => ?_
  replace hs := hs.pick [0, 1, 2, 6, 9, 10, 11] (L' := [(0, .int .i64 2), (1, .slice none 0 0), (2, .int .i64 9), (6, .pointer (some ⟨b_5, 0, none⟩)), (9, .int .i64 v_20.1), (10, .pointer (some ⟨b_30, 0, none⟩)), (11, .int .i64 0)]) (by kernel_rfl)
  refine Vk.done (by kernel_rfl) ?_
  refine hK24 _ _ ?_
  clear hK24
  refine Vk.seq fun K31 hK31 => ?_
  refine Vk.region ?_
  refine Vk.pures 4 [(28, .int .i64 9), (27, .slice none 0 0), (26, .int .i64 2), (25, .pointer (some ⟨b_30, 0, none⟩))] hs (by kernel_rfl) fun a hs => ?_
  refine Vk.step (Vk.call (some 29) 67 #[.int .i64 2, .slice none 0 0, .int .i64 9] hs (by kernel_rfl) (by kernel_rfl) (by kernel_rfl) ?_)
  refine Vk.enterI [(0, .int .i64 2), (1, .slice none 0 0), (2, .int .i64 9)] Try.func67 rfl Try.ntmps67 (by kernel_rfl) (Nat.le_of_ble_eq_true (by kernel_rfl)) hs.own fun KR32 hKR32 hKP32 a hs => ?_
  refine Vk.seq fun K33 hK33 => ?_
  refine Vk.region ?_
  refine Vk.pures 1 [(6, .pointer none)] hs (by kernel_rfl) fun a hs => ?_
  replace hs := hs.pick [0, 1, 2] (L' := [(0, .int .i64 2), (1, .slice none 0 0), (2, .int .i64 9)]) (by kernel_rfl)
  refine Vk.done (by kernel_rfl) ?_
  refine hK33 _ _ ?_
  clear hK33
  refine Vk.seq fun K34 hK34 => ?_
  refine Vk.region ?_
  refine Vk.pures 7 [(13, .agg (vals [C.int .i64 2, C.int .i64 9, C.int .i64 0, C.int .i64 0, C.int .i64 0, C.int .i64 0, C.int .i64 0, C.int .i64 0, C.slc none 0 0, C.slc none 0 0, C.slc none 0 0, C.slc none 0 0, C.int .i64 0, C.int .i64 0, C.bool false])), (12, .agg (vals [C.slc none 0 0, C.int .i64 0, C.int .i64 0])), (11, .int .i64 0), (10, .slice none 0 0), (9, .slice none 0 0), (8, .int .i64 9), (7, .int .i64 2)] hs (by kernel_rfl) fun a hs => ?_
  refine Vk.step (Vk.box (x := (.tmp 13)) 14 123 [C.int .i64 2, C.int .i64 9, C.int .i64 0, C.int .i64 0, C.int .i64 0, C.int .i64 0, C.int .i64 0, C.int .i64 0, C.slc none 0 0, C.slc none 0 0, C.slc none 0 0, C.slc none 0 0, C.int .i64 0, C.int .i64 0, C.bool false] hs (by kernel_rfl) (by kernel_rfl) (by kernel_rfl) fun b_35 w a hs => ?_)
  refine Vk.pures 1 [(6, .pointer (some ⟨b_35, 0, none⟩))] hs (by kernel_rfl) fun a hs => ?_
  replace hs := hs.pick [6] (L' := [(6, .pointer (some ⟨b_35, 0, none⟩))]) (by kernel_rfl)
  refine Vk.done (by kernel_rfl) ?_
  refine hK34 _ _ ?_
  clear hK34
  refine wp_ret ?_
  refine hKP32 _ _ ?_
  refine hKR32 _ _ ?_
  refine Vk.ret1 (P := Try.prog) (fn := Try.f67) (.pointer (some ⟨b_35, 0, none⟩)) hs rfl (by kernel_rfl) ⟨_, _, _, rfl, hs.own, fun a hs => ?_⟩
  refine Vk.pures 4 [(33, .bool (v_20.1 == 0)), (32, .bool (v_20.1 == 0)), (31, .int .i64 v_20.1), (30, .agg (vals [C.ptr (some ⟨b_30, 0, none⟩), C.ptr (some ⟨b_35, 0, none⟩), C.slc none 0 0, C.slc none 0 0]))] hs (by kernel_rfl) fun a hs => ?_
  suffices hj_36 : ∀ a, St 41 a w κ [(0, .int .i64 2), (1, .slice none 0 0), (2, .int .i64 9), (6, .pointer (some ⟨b_5, 0, none⟩)), (9, .int .i64 v_20.1), (10, .pointer (some ⟨b_30, 0, none⟩)), (11, .int .i64 0), (25, .pointer (some ⟨b_30, 0, none⟩)), (26, .int .i64 2), (27, .slice none 0 0), (28, .int .i64 9), (29, .pointer (some ⟨b_35, 0, none⟩)), (30, .agg (vals [C.ptr (some ⟨b_30, 0, none⟩), C.ptr (some ⟨b_35, 0, none⟩), C.slc none 0 0, C.slc none 0 0])), (31, .int .i64 v_20.1), (32, .bool (v_20.1 == 0)), (33, .bool (v_20.1 == 0)), (36, .bool ((v_20.1 == 0) && true))] (pt b_35 (blk [C.int .i64 2, C.int .i64 9, C.int .i64 0, C.int .i64 0, C.int .i64 0, C.int .i64 0, C.int .i64 0, C.int .i64 0, C.slc none 0 0, C.slc none 0 0, C.slc none 0 0, C.slc none 0 0, C.int .i64 0, C.int .i64 0, C.bool false] 123) :: pt b_30 (blk [C.int .i64 2, C.int .i64 9, C.int .i64 0, C.int .i64 0, C.int .i64 0, C.bool false, C.int .i64 0, C.int .i64 0, C.int .i64 0, C.ptr (some ⟨b_16, 0, none⟩), C.slc none 0 0, C.slc none 0 0, C.slc none 0 0] 151) :: pt b_16 (blk (Ttape_Tape.obj v_20.2 Ar18o0owords_22 cr18o0owords_23) 158) :: rowp Ar18o0owords_22 cr18o0owords_23 23 1 (eI .u64) v_20.2.words :: pt b_5 (blk [C.ptr none, C.ptr none, C.slc none 0 0, C.slc none 0 0] 98) :: S) → wpFrom Try.prog _ _ 12 a w by
    rcases Bool.eq_false_or_eq_true (v_20.1 == 0) with hb | hb
    · replace hs := hs.known (t := 33) hb (by kernel_rfl)
      refine Vk.pures 3 [(36, .bool true), (35, .bool true), (34, .int .i64 0)] hs (by kernel_rfl) fun a hs => ?_
      have hq := hs.pick [0, 1, 2, 6, 9, 10, 11, 25, 26, 27, 28, 29, 30, 31, 32, 33, 36] (L' := [(0, .int .i64 2), (1, .slice none 0 0), (2, .int .i64 9), (6, .pointer (some ⟨b_5, 0, none⟩)), (9, .int .i64 v_20.1), (10, .pointer (some ⟨b_30, 0, none⟩)), (11, .int .i64 0), (25, .pointer (some ⟨b_30, 0, none⟩)), (26, .int .i64 2), (27, .slice none 0 0), (28, .int .i64 9), (29, .pointer (some ⟨b_35, 0, none⟩)), (30, .agg (vals [C.ptr (some ⟨b_30, 0, none⟩), C.ptr (some ⟨b_35, 0, none⟩), C.slc none 0 0, C.slc none 0 0])), (31, .int .i64 v_20.1), (32, .bool (v_20.1 == 0)), (33, .bool true), (36, .bool true)]) (by kernel_rfl)
      exact hj_36 _ (hq.conv (by rw [hb]; rfl))
    · replace hs := hs.known (t := 33) hb (by kernel_rfl)
      refine Vk.pures 3 [(36, .bool false), (35, undef), (34, undef)] hs (by kernel_rfl) fun a hs => ?_
      have hq := hs.pick [0, 1, 2, 6, 9, 10, 11, 25, 26, 27, 28, 29, 30, 31, 32, 33, 36] (L' := [(0, .int .i64 2), (1, .slice none 0 0), (2, .int .i64 9), (6, .pointer (some ⟨b_5, 0, none⟩)), (9, .int .i64 v_20.1), (10, .pointer (some ⟨b_30, 0, none⟩)), (11, .int .i64 0), (25, .pointer (some ⟨b_30, 0, none⟩)), (26, .int .i64 2), (27, .slice none 0 0), (28, .int .i64 9), (29, .pointer (some ⟨b_35, 0, none⟩)), (30, .agg (vals [C.ptr (some ⟨b_30, 0, none⟩), C.ptr (some ⟨b_35, 0, none⟩), C.slc none 0 0, C.slc none 0 0])), (31, .int .i64 v_20.1), (32, .bool (v_20.1 == 0)), (33, .bool false), (36, .bool false)]) (by kernel_rfl)
      exact hj_36 _ (hq.conv (by rw [hb]; rfl))
  intro a hs
  refine Vk.pures 1 [(37, .bool ((v_20.1 == 0) && true))] hs (by kernel_rfl) fun a hs => ?_
  suffices hj_37 : ∀ a, St 41 a w κ [(0, .int .i64 2), (1, .slice none 0 0), (2, .int .i64 9), (6, .pointer (some ⟨b_5, 0, none⟩)), (9, .int .i64 v_20.1), (10, .pointer (some ⟨b_30, 0, none⟩)), (11, .int .i64 0), (25, .pointer (some ⟨b_30, 0, none⟩)), (26, .int .i64 2), (27, .slice none 0 0), (28, .int .i64 9), (29, .pointer (some ⟨b_35, 0, none⟩)), (30, .agg (vals [C.ptr (some ⟨b_30, 0, none⟩), C.ptr (some ⟨b_35, 0, none⟩), C.slc none 0 0, C.slc none 0 0])), (31, .int .i64 v_20.1), (32, .bool (v_20.1 == 0)), (33, .bool (v_20.1 == 0)), (36, .bool ((v_20.1 == 0) && true)), (37, .bool ((v_20.1 == 0) && true)), (40, .bool (((v_20.1 == 0) && true) && true))] (pt b_35 (blk [C.int .i64 2, C.int .i64 9, C.int .i64 0, C.int .i64 0, C.int .i64 0, C.int .i64 0, C.int .i64 0, C.int .i64 0, C.slc none 0 0, C.slc none 0 0, C.slc none 0 0, C.slc none 0 0, C.int .i64 0, C.int .i64 0, C.bool false] 123) :: pt b_30 (blk [C.int .i64 2, C.int .i64 9, C.int .i64 0, C.int .i64 0, C.int .i64 0, C.bool false, C.int .i64 0, C.int .i64 0, C.int .i64 0, C.ptr (some ⟨b_16, 0, none⟩), C.slc none 0 0, C.slc none 0 0, C.slc none 0 0] 151) :: pt b_16 (blk (Ttape_Tape.obj v_20.2 Ar18o0owords_22 cr18o0owords_23) 158) :: rowp Ar18o0owords_22 cr18o0owords_23 23 1 (eI .u64) v_20.2.words :: pt b_5 (blk [C.ptr none, C.ptr none, C.slc none 0 0, C.slc none 0 0] 98) :: S) → wpFrom Try.prog _ _ 16 a w by
    rcases Bool.eq_false_or_eq_true ((v_20.1 == 0) && true) with hb | hb
    · replace hs := hs.known (t := 37) hb (by kernel_rfl)
      refine Vk.pures 3 [(40, .bool true), (39, .bool true), (38, .pointer (some ⟨b_30, 0, none⟩))] hs (by kernel_rfl) fun a hs => ?_
      have hq := hs.pick [0, 1, 2, 6, 9, 10, 11, 25, 26, 27, 28, 29, 30, 31, 32, 33, 36, 37, 40] (L' := [(0, .int .i64 2), (1, .slice none 0 0), (2, .int .i64 9), (6, .pointer (some ⟨b_5, 0, none⟩)), (9, .int .i64 v_20.1), (10, .pointer (some ⟨b_30, 0, none⟩)), (11, .int .i64 0), (25, .pointer (some ⟨b_30, 0, none⟩)), (26, .int .i64 2), (27, .slice none 0 0), (28, .int .i64 9), (29, .pointer (some ⟨b_35, 0, none⟩)), (30, .agg (vals [C.ptr (some ⟨b_30, 0, none⟩), C.ptr (some ⟨b_35, 0, none⟩), C.slc none 0 0, C.slc none 0 0])), (31, .int .i64 v_20.1), (32, .bool (v_20.1 == 0)), (33, .bool (v_20.1 == 0)), (36, .bool ((v_20.1 == 0) && true)), (37, .bool true), (40, .bool true)]) (by kernel_rfl)
      exact hj_37 _ (hq.conv (by rw [hb]; rfl))
    · replace hs := hs.known (t := 37) hb (by kernel_rfl)
      refine Vk.pures 3 [(40, .bool false), (39, undef), (38, undef)] hs (by kernel_rfl) fun a hs => ?_
      have hq := hs.pick [0, 1, 2, 6, 9, 10, 11, 25, 26, 27, 28, 29, 30, 31, 32, 33, 36, 37, 40] (L' := [(0, .int .i64 2), (1, .slice none 0 0), (2, .int .i64 9), (6, .pointer (some ⟨b_5, 0, none⟩)), (9, .int .i64 v_20.1), (10, .pointer (some ⟨b_30, 0, none⟩)), (11, .int .i64 0), (25, .pointer (some ⟨b_30, 0, none⟩)), (26, .int .i64 2), (27, .slice none 0 0), (28, .int .i64 9), (29, .pointer (some ⟨b_35, 0, none⟩)), (30, .agg (vals [C.ptr (some ⟨b_30, 0, none⟩), C.ptr (some ⟨b_35, 0, none⟩), C.slc none 0 0, C.slc none 0 0])), (31, .int .i64 v_20.1), (32, .bool (v_20.1 == 0)), (33, .bool (v_20.1 == 0)), (36, .bool ((v_20.1 == 0) && true)), (37, .bool false), (40, .bool false)]) (by kernel_rfl)
      exact hj_37 _ (hq.conv (by rw [hb]; rfl))
  intro a hs
  refine Vk.step (Vk.storeA (b := b_5) (ty := 98) (x := (.tmp 6)) (y := (.tmp 30)) (sz := 4) [C.ptr (some ⟨b_30, 0, none⟩), C.ptr (some ⟨b_35, 0, none⟩), C.slc none 0 0, C.slc none 0 0] 4 hs (by kernel_rfl) (by kernel_rfl) (by kernel_rfl) (by kernel_rfl) (by kernel_rfl) rfl (by kernel_rfl) rfl (Eq.trans (b := 4) rfl (Eq.symm rfl)) fun a w hs => ?_)
  refine Vk.pures 1 [(7, .bool (((v_20.1 == 0) && true) && true))] hs (by kernel_rfl) fun a hs => ?_
  replace hs := hs.pick [6, 7] (L' := [(6, .pointer (some ⟨b_5, 0, none⟩)), (7, .bool (((v_20.1 == 0) && true) && true))]) (by kernel_rfl)
  refine Vk.done (by kernel_rfl) ?_
  refine hK31 _ _ ?_
  clear hK31
  refine wp_ret ?_
  refine hKP3 _ _ ?_
  refine hKR3 _ _ ?_
  refine Vk.retCT (P := Try.prog) (fn := Try.f51) [C.ptr (some ⟨b_30, 0, none⟩), C.ptr (some ⟨b_35, 0, none⟩), C.slc none 0 0, C.slc none 0 0] (.bool (((v_20.1 == 0) && true) && true)) hs rfl (by kernel_rfl) (sz := 4) (by kernel_rfl) rfl (CellsAt.all 4 rfl) (by kernel_rfl) ⟨_, _, _, rfl, hs.own, fun a hs => ?_⟩
  refine Vk.pures 3 [(7, .bool (((v_20.1 == 0) && true) && true)), (6, .agg (vals [C.ptr (some ⟨b_30, 0, none⟩), C.ptr (some ⟨b_35, 0, none⟩), C.slc none 0 0, C.slc none 0 0])), (4, .tuple #[.agg (vals [C.ptr (some ⟨b_30, 0, none⟩), C.ptr (some ⟨b_35, 0, none⟩), C.slc none 0 0, C.slc none 0 0]), .bool (((v_20.1 == 0) && true) && true)])] hs (by kernel_rfl) fun a hs => ?_
  refine Vk.step (Vk.alloc 1 98 [C.ptr none, C.ptr none, C.slc none 0 0, C.slc none 0 0] hs (by kernel_rfl) (by kernel_rfl) (by kernel_rfl) fun b_38 w a hs => ?_)
  refine Vk.step (Vk.storeA (b := b_38) (ty := 98) (x := (.tmp 1)) (y := (.tmp 6)) (sz := 4) [C.ptr (some ⟨b_30, 0, none⟩), C.ptr (some ⟨b_35, 0, none⟩), C.slc none 0 0, C.slc none 0 0] 0 hs (by kernel_rfl) (by kernel_rfl) (by kernel_rfl) (by kernel_rfl) (by kernel_rfl) rfl (by kernel_rfl) rfl (Eq.trans (b := 4) rfl (Eq.symm rfl)) fun a w hs => ?_)
  refine Vk.pures 1 [(2, .bool (((v_20.1 == 0) && true) && true))] hs (by kernel_rfl) fun a hs => ?_
  replace hs := hs.pick [1, 2] (L' := [(1, .pointer (some ⟨b_38, 0, none⟩)), (2, .bool (((v_20.1 == 0) && true) && true))]) (by kernel_rfl)
  refine Vk.done (by kernel_rfl) ?_
  refine hK2 _ _ ?_
  clear hK2
  refine Vk.seq fun K39 hK39 => ?_
  refine Vk.seq fun K40 hK40 => ?_
  refine Vk.region ?_
  refine Vk.pures 2 [(9, .bool (!(((v_20.1 == 0) && true) && true))), (8, .bool (((v_20.1 == 0) && true) && true))] hs (by kernel_rfl) fun a hs => ?_
  replace hs := hs.pick [1, 9] (L' := [(1, .pointer (some ⟨b_38, 0, none⟩)), (9, .bool (!(((v_20.1 == 0) && true) && true)))]) (by kernel_rfl)
  refine Vk.done (by kernel_rfl) ?_
  refine hK40 _ _ ?_
  clear hK40
  refine Vk.condS (b := !(((v_20.1 == 0) && true) && true)) hs (by kernel_rfl) (by kernel_rfl) (fun hb => ?_) (fun hb => ?_)
  · replace hm := bif_t hm hb
    refine Vk.seq fun K41 hK41 => ?_
    refine Vk.region ?_
    refine Vk.pures 1 [(0, .bool false)] hs (by kernel_rfl) fun a hs => ?_
    replace hs := hs.pick [0] (L' := [(0, .bool false)]) (by kernel_rfl)
    refine Vk.done (by kernel_rfl) ?_
    refine hK41 _ _ ?_
    clear hK41
    refine wp_ret ?_
    exact Vk.ret1 (P := Try.prog) (fn := Try.f50) (R := visorlaw20_awake.R κ S r) (.bool false) hs rfl (by kernel_rfl) (by obtain rfl := Option.some.inj hm; exact ⟨rfl, (Own.to hs.own [] 6 (by kernel_rfl) (by kernel_rfl))⟩)
  · replace hm := bif_f hm hb
    refine wp_skip ?_
    refine hK39 _ _ ?_
    clear hK39
    refine Vk.seq fun K42 hK42 => ?_
    refine Vk.region ?_
    refine Vk.pures 1 [(10, .pointer (some ⟨b_38, 0, none⟩))] hs (by kernel_rfl) fun a hs => ?_
    refine Vk.step (Vk.value (some 11) (.pointer (some ⟨b_30, 0, none⟩)) hs (by kernel_rfl) (op := (.load 95 (.tmp 10))) (by kernel_rfl) (fun o ho => run_load1 (b := b_38) (off := 0) (c := C.ptr (some ⟨b_30, 0, none⟩)) ho (by kernel_rfl) (by kernel_rfl) (Cell.own 0 rfl (by kernel_rfl)) _ hs.own) fun a hs => ?_)
    replace hs := hs.addRow none 32 6 Tapi_Op.cells
    replace hs := hs.addRow none 23 1 (eI .u64)
    replace hs := hs.addRow none 144 3 Tapi_Span.cells
    obtain ⟨v_48, h_47, hm⟩ := bind_t hm
    refine Vk.step (Vk.call (some 12) 86 #[.pointer (some ⟨b_30, 0, none⟩), .int .u64 7] hs (by kernel_rfl) (by kernel_rfl) (by kernel_rfl) ?_)
    refine (share_Public.ok k (⟨2, 9, 0, 0, 0, false, 0, 0, 0, v_20.2, ([] : List Tapi_Op), ([] : List Int), ([] : List Tapi_Span)⟩ : Twire_Machine) 7 v_48 h_47 κ w (pt b_38 (blk [C.ptr (some ⟨b_30, 0, none⟩), C.ptr (some ⟨b_35, 0, none⟩), C.slc none 0 0, C.slc none 0 0] 98) :: pt b_35 (blk [C.int .i64 2, C.int .i64 9, C.int .i64 0, C.int .i64 0, C.int .i64 0, C.int .i64 0, C.int .i64 0, C.int .i64 0, C.slc none 0 0, C.slc none 0 0, C.slc none 0 0, C.slc none 0 0, C.int .i64 0, C.int .i64 0, C.bool false] 123) :: pt b_5 (blk [C.ptr (some ⟨b_30, 0, none⟩), C.ptr (some ⟨b_35, 0, none⟩), C.slc none 0 0, C.slc none 0 0] 98) :: S) b_30 b_16 Ar18o0owords_22 cr18o0owords_23 none 0 none 0 none 0 (Own.to hs.own [5, 6, 7, 2, 1, 0, 3, 4, 8] 9 (by kernel_rfl) (by kernel_rfl))).mono ?_
    rintro _ w ⟨Ar46o0otapeowords_50, cr46o0otapeowords_51, Ar46o0oops_52, cr46o0oops_53, Ar46o0ovalues_54, cr46o0ovalues_55, Ar46o0oblocks_56, cr46o0oblocks_57, rfl, how⟩
    refine ⟨_, _, _, rfl, how, fun a hs => ?_⟩
    refine Vk.step (Vk.alloc 3 65 [C.int .i64 0, C.int .i64 0, C.int .i64 0] hs (by kernel_rfl) (by kernel_rfl) (by kernel_rfl) fun b_58 w a hs => ?_)
    obtain ⟨h_59, hm⟩ := ite_t hm
    refine Vk.step (Vk.storeA (b := b_58) (ty := 65) (x := (.tmp 3)) (y := (.tmp 12)) (sz := 3) v_48.1 0 hs (by kernel_rfl) (by kernel_rfl) (by kernel_rfl) (by kernel_rfl) (by kernel_rfl) h_59 (by kernel_rfl) rfl (Eq.trans (b := 3) h_59 (Eq.symm rfl)) fun a w hs => ?_)
    replace hs := hs.pick [1, 3] (L' := [(1, .pointer (some ⟨b_38, 0, none⟩)), (3, .pointer (some ⟨b_58, 0, none⟩))]) (by kernel_rfl)
    refine Vk.done (by kernel_rfl) ?_
    refine hK42 _ _ ?_
    clear hK42
    refine Vk.seq fun K60 hK60 => ?_
    have hj60 : ∀ (p_117 : Bool), visorlaw20_awake.j2 k p_117 = some r → ∀ (a : Act) (w : World), St 25 a w κ [(0, .bool p_117)] (S) → K60 a w := by
      intro p_117 hm a w hs
      unfold visorlaw20_awake.j2 at hm
      refine hK60 _ _ ?_
      refine wp_ret ?_
      exact Vk.ret1 (P := Try.prog) (fn := Try.f50) (R := visorlaw20_awake.R κ S r) (.bool p_117) hs rfl (by kernel_rfl) (by obtain rfl := Option.some.inj hm; exact ⟨rfl, (Own.to hs.own [] 0 (by kernel_rfl) (by kernel_rfl))⟩)
    refine Vk.drawnT 9 κ (pt b_58 (blk v_48.1 65) :: pt b_30 (blk (Twire_Machine.obj v_48.2 b_16 Ar46o0oops_52 cr46o0oops_53 Ar46o0ovalues_54 cr46o0ovalues_55 Ar46o0oblocks_56 cr46o0oblocks_57) 151) :: pt b_16 (blk (Ttape_Tape.obj v_48.2.tape Ar46o0otapeowords_50 cr46o0otapeowords_51) 158) :: rowp Ar46o0otapeowords_50 cr46o0otapeowords_51 23 1 (eI .u64) v_48.2.tape.words :: rowp Ar46o0oops_52 cr46o0oops_53 32 6 Tapi_Op.cells v_48.2.ops :: rowp Ar46o0ovalues_54 cr46o0ovalues_55 23 1 (eI .u64) v_48.2.values :: rowp Ar46o0oblocks_56 cr46o0oblocks_57 144 3 Tapi_Span.cells v_48.2.blocks :: pt b_38 (blk [C.ptr (some ⟨b_30, 0, none⟩), C.ptr (some ⟨b_35, 0, none⟩), C.slc none 0 0, C.slc none 0 0] 98) :: pt b_35 (blk [C.int .i64 2, C.int .i64 9, C.int .i64 0, C.int .i64 0, C.int .i64 0, C.int .i64 0, C.int .i64 0, C.int .i64 0, C.slc none 0 0, C.slc none 0 0, C.slc none 0 0, C.slc none 0 0, C.int .i64 0, C.int .i64 0, C.bool false] 123) :: pt b_5 (blk [C.ptr (some ⟨b_30, 0, none⟩), C.ptr (some ⟨b_35, 0, none⟩), C.slc none 0 0, C.slc none 0 0] 98) :: S) hs (by kernel_rfl) fun w hs => ?_
    have hcl := (Own.to (S' := pt b_58 (blk v_48.1 65) :: pt b_30 (blk (Twire_Machine.obj v_48.2 b_16 Ar46o0oops_52 cr46o0oops_53 Ar46o0ovalues_54 cr46o0ovalues_55 Ar46o0oblocks_56 cr46o0oblocks_57) 151) :: pt b_16 (blk (Ttape_Tape.obj v_48.2.tape Ar46o0otapeowords_50 cr46o0otapeowords_51) 158) :: rowp Ar46o0otapeowords_50 cr46o0otapeowords_51 23 1 (eI .u64) v_48.2.tape.words :: rowp Ar46o0oops_52 cr46o0oops_53 32 6 Tapi_Op.cells v_48.2.ops :: rowp Ar46o0ovalues_54 cr46o0ovalues_55 23 1 (eI .u64) v_48.2.values :: rowp Ar46o0oblocks_56 cr46o0oblocks_57 144 3 Tapi_Span.cells v_48.2.blocks :: pt b_38 (blk [C.ptr (some ⟨b_30, 0, none⟩), C.ptr (some ⟨b_35, 0, none⟩), C.slc none 0 0, C.slc none 0 0] 98) :: pt b_35 (blk [C.int .i64 2, C.int .i64 9, C.int .i64 0, C.int .i64 0, C.int .i64 0, C.int .i64 0, C.int .i64 0, C.int .i64 0, C.slc none 0 0, C.slc none 0 0, C.slc none 0 0, C.slc none 0 0, C.int .i64 0, C.int .i64 0, C.bool false] 123) :: pt b_5 (blk [C.ptr (some ⟨b_30, 0, none⟩), C.ptr (some ⟨b_35, 0, none⟩), C.slc none 0 0, C.slc none 0 0] 98) :: S) hs.own [0, 1, 2, 3, 4, 5, 6, 7, 8, 9] 10 (by kernel_rfl) (by kernel_rfl))
    refine Vk.dPuresT [0] [(13, .pointer (some ⟨b_38, 0, none⟩))] hs (by kernel_rfl) (by repeat' (first | exact Vk.Calm.post | refine Vk.Calm.then ?_ | refine Vk.Calm.inBlock ?_)) hcl (by kernel_rfl) (by kernel_rfl) (fuel := 12) rfl fun a hs => ?_
    refine Vk.dTakeT (i := 1) (some 14) (.pointer (some ⟨b_30, 0, none⟩)) hs (by kernel_rfl) (by repeat' (first | exact Vk.Calm.post | refine Vk.Calm.then ?_ | refine Vk.Calm.inBlock ?_)) hcl (by kernel_rfl) (by kernel_rfl) (op := (.load 95 (.tmp 13))) (by kernel_rfl) (by kernel_rfl) (fun w hw o ho => run_load1 (b := b_38) (off := 0) (c := C.ptr (some ⟨b_30, 0, none⟩)) ho (by kernel_rfl) (by kernel_rfl) (Cell.own 7 rfl (by kernel_rfl)) _ hw) fun a hs => ?_
    obtain ⟨v_63, h_62, hm⟩ := bind_t hm
    refine Vk.dOnly (i := 2) (by kernel_rfl) (Vk.call (some 15) 58 #[.pointer (some ⟨b_30, 0, none⟩)] hs (by kernel_rfl) (by kernel_rfl) (by kernel_rfl) ?_)
    refine (wire_Machine_Len.ok k v_48.2 v_63 h_62 κ w (pt b_58 (blk v_48.1 65) :: pt b_38 (blk [C.ptr (some ⟨b_30, 0, none⟩), C.ptr (some ⟨b_35, 0, none⟩), C.slc none 0 0, C.slc none 0 0] 98) :: pt b_35 (blk [C.int .i64 2, C.int .i64 9, C.int .i64 0, C.int .i64 0, C.int .i64 0, C.int .i64 0, C.int .i64 0, C.int .i64 0, C.slc none 0 0, C.slc none 0 0, C.slc none 0 0, C.slc none 0 0, C.int .i64 0, C.int .i64 0, C.bool false] 123) :: pt b_5 (blk [C.ptr (some ⟨b_30, 0, none⟩), C.ptr (some ⟨b_35, 0, none⟩), C.slc none 0 0, C.slc none 0 0] 98) :: S) b_30 b_16 Ar46o0otapeowords_50 cr46o0otapeowords_51 Ar46o0oops_52 cr46o0oops_53 Ar46o0ovalues_54 cr46o0ovalues_55 Ar46o0oblocks_56 cr46o0oblocks_57 (Own.to hs.own [1, 2, 3, 4, 5, 6, 0, 7, 8, 9] 10 (by kernel_rfl) (by kernel_rfl))).mono ?_
    rintro _ w ⟨rfl, how⟩
    refine ⟨_, _, _, rfl, how, fun a hs => ?_⟩
    replace hcl := (Own.to (S' := pt b_58 (blk v_48.1 65) :: pt b_30 (blk (Twire_Machine.obj v_48.2 b_16 Ar46o0oops_52 cr46o0oops_53 Ar46o0ovalues_54 cr46o0ovalues_55 Ar46o0oblocks_56 cr46o0oblocks_57) 151) :: pt b_16 (blk (Ttape_Tape.obj v_48.2.tape Ar46o0otapeowords_50 cr46o0otapeowords_51) 158) :: rowp Ar46o0otapeowords_50 cr46o0otapeowords_51 23 1 (eI .u64) v_48.2.tape.words :: rowp Ar46o0oops_52 cr46o0oops_53 32 6 Tapi_Op.cells v_48.2.ops :: rowp Ar46o0ovalues_54 cr46o0ovalues_55 23 1 (eI .u64) v_48.2.values :: rowp Ar46o0oblocks_56 cr46o0oblocks_57 144 3 Tapi_Span.cells v_48.2.blocks :: pt b_38 (blk [C.ptr (some ⟨b_30, 0, none⟩), C.ptr (some ⟨b_35, 0, none⟩), C.slc none 0 0, C.slc none 0 0] 98) :: pt b_35 (blk [C.int .i64 2, C.int .i64 9, C.int .i64 0, C.int .i64 0, C.int .i64 0, C.int .i64 0, C.int .i64 0, C.int .i64 0, C.slc none 0 0, C.slc none 0 0, C.slc none 0 0, C.slc none 0 0, C.int .i64 0, C.int .i64 0, C.bool false] 123) :: pt b_5 (blk [C.ptr (some ⟨b_30, 0, none⟩), C.ptr (some ⟨b_35, 0, none⟩), C.slc none 0 0, C.slc none 0 0] 98) :: S) hs.own [6, 0, 1, 2, 3, 4, 5, 7, 8, 9] 10 (by kernel_rfl) (by kernel_rfl))
    refine ⟨fun _ => hcl, ?_⟩
    refine Vk.dPuresT [3, 4] [(17, .bool (v_63 == 2)), (16, .bool (v_63 == 2))] hs (by kernel_rfl) (by repeat' (first | exact Vk.Calm.post | refine Vk.Calm.then ?_ | refine Vk.Calm.inBlock ?_)) hcl (by kernel_rfl) (by kernel_rfl) (fuel := 8) rfl fun a hs => ?_
    rcases Bool.eq_false_or_eq_true (v_63 == 2) with hb | hb
    · replace hm := bif_t hm hb
      replace hs := hs.known (t := 17) hb (by kernel_rfl)
      refine Vk.dPuresT [5] [(18, .pointer (some ⟨b_38, 0, none⟩))] hs (by kernel_rfl) (by repeat' (first | exact Vk.Calm.post | refine Vk.Calm.then ?_ | refine Vk.Calm.inBlock ?_)) hcl (by kernel_rfl) (by kernel_rfl) (fuel := 7) rfl fun a hs => ?_
      refine Vk.dTakeT (i := 6) (some 19) (.pointer (some ⟨b_30, 0, none⟩)) hs (by kernel_rfl) (by repeat' (first | exact Vk.Calm.post | refine Vk.Calm.then ?_ | refine Vk.Calm.inBlock ?_)) hcl (by kernel_rfl) (by kernel_rfl) (op := (.load 95 (.tmp 18))) (by kernel_rfl) (by kernel_rfl) (fun w hw o ho => run_load1 (b := b_38) (off := 0) (c := C.ptr (some ⟨b_30, 0, none⟩)) ho (by kernel_rfl) (by kernel_rfl) (Cell.own 7 rfl (by kernel_rfl)) _ hw) fun a hs => ?_
      refine Vk.dTakeT (i := 8) (some 21) (.agg (vals v_48.1)) hs (by kernel_rfl) (by repeat' (first | exact Vk.Calm.post | refine Vk.Calm.then ?_ | refine Vk.Calm.inBlock ?_)) hcl (by kernel_rfl) (by kernel_rfl) (op := (.load 65 (.tmp 3))) (by kernel_rfl) (by kernel_rfl) (fun w hw o ho => run_loadN (cs := v_48.1) ho (by kernel_rfl) (by kernel_rfl) h_59 (CellsAt.all 0 rfl) _ hw) fun a hs => ?_
      obtain ⟨v_67, h_66, hm⟩ := bind_t hm
      refine Vk.dOnly (i := 7) (by kernel_rfl) (Vk.call (some 20) 53 #[.pointer (some ⟨b_30, 0, none⟩)] hs (by kernel_rfl) (by kernel_rfl) (by kernel_rfl) ?_)
      refine (wire_Machine_Values.ok k v_48.2 v_67 h_66 κ w (pt b_58 (blk v_48.1 65) :: pt b_38 (blk [C.ptr (some ⟨b_30, 0, none⟩), C.ptr (some ⟨b_35, 0, none⟩), C.slc none 0 0, C.slc none 0 0] 98) :: pt b_35 (blk [C.int .i64 2, C.int .i64 9, C.int .i64 0, C.int .i64 0, C.int .i64 0, C.int .i64 0, C.int .i64 0, C.int .i64 0, C.slc none 0 0, C.slc none 0 0, C.slc none 0 0, C.slc none 0 0, C.int .i64 0, C.int .i64 0, C.bool false] 123) :: pt b_5 (blk [C.ptr (some ⟨b_30, 0, none⟩), C.ptr (some ⟨b_35, 0, none⟩), C.slc none 0 0, C.slc none 0 0] 98) :: S) b_30 b_16 Ar46o0otapeowords_50 cr46o0otapeowords_51 Ar46o0oops_52 cr46o0oops_53 Ar46o0ovalues_54 cr46o0ovalues_55 Ar46o0oblocks_56 cr46o0oblocks_57 (Own.to hs.own [0, 1, 2, 3, 4, 5, 6, 7, 8, 9] 10 (by kernel_rfl) (by kernel_rfl))).mono ?_
      rintro _ w ⟨Ar65x0_69, cr65x0_70, rfl, how⟩
      refine ⟨_, _, _, rfl, how, fun a hs => ?_⟩
      replace hcl := (Own.to (S' := pt b_58 (blk v_48.1 65) :: pt b_30 (blk (Twire_Machine.obj v_48.2 b_16 Ar46o0oops_52 cr46o0oops_53 Ar46o0ovalues_54 cr46o0ovalues_55 Ar46o0oblocks_56 cr46o0oblocks_57) 151) :: pt b_16 (blk (Ttape_Tape.obj v_48.2.tape Ar46o0otapeowords_50 cr46o0otapeowords_51) 158) :: rowp Ar46o0otapeowords_50 cr46o0otapeowords_51 23 1 (eI .u64) v_48.2.tape.words :: rowp Ar46o0oops_52 cr46o0oops_53 32 6 Tapi_Op.cells v_48.2.ops :: rowp Ar46o0ovalues_54 cr46o0ovalues_55 23 1 (eI .u64) v_48.2.values :: rowp Ar46o0oblocks_56 cr46o0oblocks_57 144 3 Tapi_Span.cells v_48.2.blocks :: pt b_38 (blk [C.ptr (some ⟨b_30, 0, none⟩), C.ptr (some ⟨b_35, 0, none⟩), C.slc none 0 0, C.slc none 0 0] 98) :: pt b_35 (blk [C.int .i64 2, C.int .i64 9, C.int .i64 0, C.int .i64 0, C.int .i64 0, C.int .i64 0, C.int .i64 0, C.int .i64 0, C.slc none 0 0, C.slc none 0 0, C.slc none 0 0, C.slc none 0 0, C.int .i64 0, C.int .i64 0, C.bool false] 123) :: pt b_5 (blk [C.ptr (some ⟨b_30, 0, none⟩), C.ptr (some ⟨b_35, 0, none⟩), C.slc none 0 0, C.slc none 0 0] 98) :: S) hs.own [7, 1, 2, 3, 4, 5, 6, 8, 9, 10] 11 (by kernel_rfl) (by kernel_rfl))
      refine ⟨fun _ => hcl, ?_⟩
      refine Vk.dOnly (i := 9) (by kernel_rfl) (Vk.call (some 22) 48 #[.slice Ar65x0_69 v_67.length cr65x0_70, .agg (vals v_48.1)] hs (by kernel_rfl) (by kernel_rfl) (by kernel_rfl) ?_)
      refine Vk.enterI [(0, .slice Ar65x0_69 v_67.length cr65x0_70), (1, .agg (vals v_48.1))] Try.func48 rfl Try.ntmps48 (by kernel_rfl) (Nat.le_of_ble_eq_true (by kernel_rfl)) hs.own fun KR71 hKR71 hKP71 a hs => ?_
      refine Vk.seq fun K72 hK72 => ?_
      refine Vk.region ?_
      refine Vk.step (Vk.box (x := (.tmp 1)) 3 65 v_48.1 hs (by kernel_rfl) (by kernel_rfl) (by kernel_rfl) fun b_73 w a hs => ?_)
      refine Vk.pures 1 [(4, .int .u64 0)] hs (by kernel_rfl) fun a hs => ?_
      replace hs := hs.pick [0, 3] (L' := [(0, .slice Ar65x0_69 v_67.length cr65x0_70), (3, .pointer (some ⟨b_73, 0, none⟩))]) (by kernel_rfl)
      refine Vk.done (by kernel_rfl) ?_
      refine hK72 _ _ ?_
      clear hK72
      refine Vk.seq fun K74 hK74 => ?_
      refine Vk.region ?_
      refine Vk.pures 1 [(5, .int .u64 0)] hs (by kernel_rfl) fun a hs => ?_
      replace hs := hs.pick [0, 3, 5] (L' := [(0, .slice Ar65x0_69 v_67.length cr65x0_70), (3, .pointer (some ⟨b_73, 0, none⟩)), (5, .int .u64 0)]) (by kernel_rfl)
      refine Vk.done (by kernel_rfl) ?_
      refine hK74 _ _ ?_
      clear hK74
      refine Vk.seq fun K75 hK75 => ?_
      refine Vk.seq fun K76 hK76 => ?_
      refine Vk.region ?_
      refine Vk.pures 1 [(8, .pointer (some ⟨b_73, 0, none⟩))] hs (by kernel_rfl) fun a hs => ?_
      refine Vk.step (Vk.value (some 9) (.agg (vals v_48.1)) hs (by kernel_rfl) (op := (.load 63 (.tmp 8))) (by kernel_rfl) (fun o ho => run_loadN (cs := v_48.1) ho (by kernel_rfl) (by kernel_rfl) h_59 (CellsAt.all 0 rfl) _ hs.own) fun a hs => ?_)
      refine Vk.pures 1 [(10, .int .i64 0)] hs (by kernel_rfl) fun a hs => ?_
      replace hs := hs.pick [0, 5, 9, 10] (L' := [(0, .slice Ar65x0_69 v_67.length cr65x0_70), (5, .int .u64 0), (9, .agg (vals v_48.1)), (10, .int .i64 0)]) (by kernel_rfl)
      refine Vk.done (by kernel_rfl) ?_
      refine hK76 _ _ ?_
      clear hK76
      refine wp_block ?_
      replace hs := hs.addRow none 32 6 Tapi_Op.cells
      replace hs := hs.addRow none 144 3 Tapi_Span.cells
      replace hs := hs.addRow none 23 1 (eI .u64)
      replace hs := hs.addRd (A := none) (cap := 0) (sz := 1) (enc := (eI .u64)) (xs := ([] : List Int)) Sl.nil
      replace hs := hs.addRow none 65 3 eC
      replace hs := hs.addRow none 23 1 (eI .u64)
      replace hs := hs.addRow none 65 3 eC
      replace hs := hs.addRow none 23 1 (eI .u64)
      obtain ⟨r85, hl85, hm⟩ := bind_t hm
      have hx85 : ∀ (p_105 : Int), r85 = p_105 → ∀ (a : Act) (w : World), St 29 a w κ [(5, .int .u64 p_105)] (pt b_38 (blk ([C.ptr (some ⟨b_30, 0, none⟩), C.ptr (some ⟨b_35, 0, none⟩), C.slc none (([] : List Cells).length) 0, C.slc none (([] : List Int).length) 0]) 98) :: pt b_30 (blk (Twire_Machine.obj v_48.2 b_16 Ar46o0oops_52 cr46o0oops_53 Ar46o0ovalues_54 cr46o0ovalues_55 Ar46o0oblocks_56 cr46o0oblocks_57) 151) :: pt b_16 (blk (Ttape_Tape.obj v_48.2.tape Ar46o0otapeowords_50 cr46o0otapeowords_51) 158) :: rowp Ar46o0otapeowords_50 cr46o0otapeowords_51 23 1 (eI .u64) v_48.2.tape.words :: rowp Ar46o0oops_52 cr46o0oops_53 32 6 Tapi_Op.cells v_48.2.ops :: rowp Ar46o0ovalues_54 cr46o0ovalues_55 23 1 (eI .u64) v_48.2.values :: rowp Ar46o0oblocks_56 cr46o0oblocks_57 144 3 Tapi_Span.cells v_48.2.blocks :: pt b_35 (blk ([C.int .i64 2, C.int .i64 9, C.int .i64 0, C.int .i64 0, C.int .i64 0, C.int .i64 0, C.int .i64 0, C.int .i64 0, C.slc none (([] : List Tapi_Op).length) 0, C.slc none (([] : List Tapi_Span).length) 0, C.slc none (([] : List Int).length) 0, C.slc none (([] : List Int).length) 0, C.int .i64 0, C.int .i64 0, C.bool false]) 123) :: rowp none 0 32 6 Tapi_Op.cells ([] : List Tapi_Op) :: rowp none 0 144 3 Tapi_Span.cells ([] : List Tapi_Span) :: rowp none 0 23 1 (eI .u64) ([] : List Int) :: rdp κ none 0 1 (eI .u64) ([] : List Int) :: rowp none 0 65 3 eC ([] : List Cells) :: rowp none 0 23 1 (eI .u64) ([] : List Int) :: pt b_58 (blk v_48.1 65) :: rowp Ar65x0_69 cr65x0_70 23 1 (eI .u64) v_67 :: S) → K75 a w := by
        intro p_105 he a w hs
        subst r85
        refine hK75 _ _ ?_
        clear hK75
        refine Vk.seq fun K108 hK108 => ?_
        refine Vk.region ?_
        refine Vk.pures 2 [(4, .int .u64 p_105), (28, .int .u64 p_105)] hs (by kernel_rfl) fun a hs => ?_
        replace hs := hs.pick [4] (L' := [(4, .int .u64 p_105)]) (by kernel_rfl)
        refine Vk.done (by kernel_rfl) ?_
        refine hK108 _ _ ?_
        clear hK108
        refine wp_ret ?_
        refine hKP71 _ _ ?_
        refine hKR71 _ _ ?_
        refine Vk.ret1 (P := Try.prog) (fn := Try.f48) (.int .u64 p_105) hs rfl (by kernel_rfl) ⟨_, _, _, rfl, hs.own, fun a hs => ?_⟩
        refine ⟨fun h => absurd h (by decide), ?_⟩
        refine Vk.dOnly (i := 10) (by kernel_rfl) (Vk.dPure1 [(23, .bool (p_105 == 7))] hs (by kernel_rfl) fun a hs => ?_)
        refine ⟨fun h => absurd h (by decide), ?_⟩
        refine Vk.dOnly (i := 11) (by kernel_rfl) (Vk.dPure1 [(24, .bool (p_105 == 7))] hs (by kernel_rfl) fun a hs => ?_)
        refine ⟨fun h => absurd h (by decide), ?_⟩
        refine Vk.dOnly (i := 12) (by kernel_rfl) (Vk.dPure1 [(0, .bool (p_105 == 7))] hs (by kernel_rfl) fun a hs => ?_)
        refine ⟨fun h => absurd h (by decide), ?_⟩
        replace hs := hs.pick [0] (L' := [(0, .bool (p_105 == 7))]) (by kernel_rfl)
        refine Vk.dDone (by kernel_rfl) ?_
        exact hj60 (p_105 == 7) hm _ _ (hs.go [0] [] 16 (by kernel_rfl) (by kernel_rfl) (by kernel_rfl))
      refine Vk.loopBy (fun k (s : Int × Int) a w => visorlaw20_awake.l1 v_48 v_67 k s.1 s.2 = some r85 ∧ St 29 a w κ [(0, .slice Ar65x0_69 v_67.length cr65x0_70), (5, .int .u64 s.1), (9, .agg (vals v_48.1)), (10, .int .i64 s.2)] (rowp Ar65x0_69 cr65x0_70 23 1 (eI .u64) v_67 :: pt b_38 (blk ([C.ptr (some ⟨b_30, 0, none⟩), C.ptr (some ⟨b_35, 0, none⟩), C.slc none (([] : List Cells).length) 0, C.slc none (([] : List Int).length) 0]) 98) :: pt b_30 (blk (Twire_Machine.obj v_48.2 b_16 Ar46o0oops_52 cr46o0oops_53 Ar46o0ovalues_54 cr46o0ovalues_55 Ar46o0oblocks_56 cr46o0oblocks_57) 151) :: pt b_16 (blk (Ttape_Tape.obj v_48.2.tape Ar46o0otapeowords_50 cr46o0otapeowords_51) 158) :: rowp Ar46o0otapeowords_50 cr46o0otapeowords_51 23 1 (eI .u64) v_48.2.tape.words :: rowp Ar46o0oops_52 cr46o0oops_53 32 6 Tapi_Op.cells v_48.2.ops :: rowp Ar46o0ovalues_54 cr46o0ovalues_55 23 1 (eI .u64) v_48.2.values :: rowp Ar46o0oblocks_56 cr46o0oblocks_57 144 3 Tapi_Span.cells v_48.2.blocks :: pt b_35 (blk ([C.int .i64 2, C.int .i64 9, C.int .i64 0, C.int .i64 0, C.int .i64 0, C.int .i64 0, C.int .i64 0, C.int .i64 0, C.slc none (([] : List Tapi_Op).length) 0, C.slc none (([] : List Tapi_Span).length) 0, C.slc none (([] : List Int).length) 0, C.slc none (([] : List Int).length) 0, C.int .i64 0, C.int .i64 0, C.bool false]) 123) :: rowp none 0 32 6 Tapi_Op.cells ([] : List Tapi_Op) :: rowp none 0 144 3 Tapi_Span.cells ([] : List Tapi_Span) :: rowp none 0 23 1 (eI .u64) ([] : List Int) :: rdp κ none 0 1 (eI .u64) ([] : List Int) :: rowp none 0 65 3 eC ([] : List Cells) :: rowp none 0 23 1 (eI .u64) ([] : List Int) :: pt b_58 (blk v_48.1 65) :: S)) k (0, 0) ⟨hl85, hs.go [0, 5, 9, 10] [9, 17, 10, 11, 12, 13, 14, 15, 18, 7, 6, 5, 4, 3, 2, 16] 20 (by kernel_rfl) (by kernel_rfl) (by kernel_rfl)⟩ (fun s a w h => by obtain ⟨h1, _⟩ := h; simp [visorlaw20_awake.l1] at h1) (fun k KL85 ih s a w h => ?_)
      obtain ⟨q_86, q_87⟩ := s
      obtain ⟨hm, hs⟩ := h
      try dsimp only at hm hs
      rw [visorlaw20_awake.l1] at hm
      refine Vk.seq fun K88 hK88 => ?_
      refine Vk.region ?_
      refine Vk.pures 1 [(11, .bool (decide (q_87 < 3)))] hs (by kernel_rfl) fun a hs => ?_
      replace hs := hs.pick [0, 5, 9, 10, 11] (L' := [(0, .slice Ar65x0_69 v_67.length cr65x0_70), (5, .int .u64 q_86), (9, .agg (vals v_48.1)), (10, .int .i64 q_87), (11, .bool (decide (q_87 < 3)))]) (by kernel_rfl)
      refine Vk.done (by kernel_rfl) ?_
      refine hK88 _ _ ?_
      clear hK88
      refine Vk.seq fun K89 hK89 => ?_
      refine Vk.condS (b := decide (q_87 < 3)) hs (by kernel_rfl) (by kernel_rfl) (fun hb => ?_) (fun hb => ?_)
      · replace hm := bif_t hm hb
        refine wp_skip ?_
        refine hK89 _ _ ?_
        clear hK89
        refine Vk.seq fun K90 hK90 => ?_
        have hj90 : ∀ (p_104 : Int), visorlaw20_awake.j1 k (visorlaw20_awake.l1 v_48 v_67 k) q_87 p_104 = some r85 → ∀ (a : Act) (w : World), St 29 a w κ [(0, .slice Ar65x0_69 v_67.length cr65x0_70), (5, .int .u64 p_104), (9, .agg (vals v_48.1)), (10, .int .i64 q_87)] (rowp Ar65x0_69 cr65x0_70 23 1 (eI .u64) v_67 :: pt b_38 (blk ([C.ptr (some ⟨b_30, 0, none⟩), C.ptr (some ⟨b_35, 0, none⟩), C.slc none (([] : List Cells).length) 0, C.slc none (([] : List Int).length) 0]) 98) :: pt b_30 (blk (Twire_Machine.obj v_48.2 b_16 Ar46o0oops_52 cr46o0oops_53 Ar46o0ovalues_54 cr46o0ovalues_55 Ar46o0oblocks_56 cr46o0oblocks_57) 151) :: pt b_16 (blk (Ttape_Tape.obj v_48.2.tape Ar46o0otapeowords_50 cr46o0otapeowords_51) 158) :: rowp Ar46o0otapeowords_50 cr46o0otapeowords_51 23 1 (eI .u64) v_48.2.tape.words :: rowp Ar46o0oops_52 cr46o0oops_53 32 6 Tapi_Op.cells v_48.2.ops :: rowp Ar46o0ovalues_54 cr46o0ovalues_55 23 1 (eI .u64) v_48.2.values :: rowp Ar46o0oblocks_56 cr46o0oblocks_57 144 3 Tapi_Span.cells v_48.2.blocks :: pt b_35 (blk ([C.int .i64 2, C.int .i64 9, C.int .i64 0, C.int .i64 0, C.int .i64 0, C.int .i64 0, C.int .i64 0, C.int .i64 0, C.slc none (([] : List Tapi_Op).length) 0, C.slc none (([] : List Tapi_Span).length) 0, C.slc none (([] : List Int).length) 0, C.slc none (([] : List Int).length) 0, C.int .i64 0, C.int .i64 0, C.bool false]) 123) :: rowp none 0 32 6 Tapi_Op.cells ([] : List Tapi_Op) :: rowp none 0 144 3 Tapi_Span.cells ([] : List Tapi_Span) :: rowp none 0 23 1 (eI .u64) ([] : List Int) :: rdp κ none 0 1 (eI .u64) ([] : List Int) :: rowp none 0 65 3 eC ([] : List Cells) :: rowp none 0 23 1 (eI .u64) ([] : List Int) :: pt b_58 (blk v_48.1 65) :: S) → K90 a w := by
          intro p_104 hm a w hs
          unfold visorlaw20_awake.j1 at hm
          refine hK90 _ _ ?_
          refine Vk.region ?_
          refine Vk.pures 2 [(10, .int .i64 (IntKind.i64.wrap (q_87 + 1))), (27, .int .i64 (IntKind.i64.wrap (q_87 + 1)))] hs (by kernel_rfl) fun a hs => ?_
          replace hs := hs.pick [0, 5, 9, 10] (L' := [(0, .slice Ar65x0_69 v_67.length cr65x0_70), (5, .int .u64 p_104), (9, .agg (vals v_48.1)), (10, .int .i64 (IntKind.i64.wrap (q_87 + 1)))]) (by kernel_rfl)
          refine Vk.done (by kernel_rfl) ?_
          refine ih (p_104, (IntKind.i64.wrap (q_87 + 1))) _ _ ⟨hm, hs.go [0, 5, 9, 10] [0, 1, 2, 3, 4, 5, 6, 7, 8, 9, 10, 11, 12, 13, 14, 15] 16 (by kernel_rfl) (by kernel_rfl) (by kernel_rfl)⟩
        refine wp_block ?_
        refine Vk.seq fun K91 hK91 => ?_
        refine Vk.region ?_
        obtain ⟨h_92, hm⟩ := ite_t hm
        obtain ⟨v_94, h_93, hm⟩ := bind_t hm
        refine Vk.step (Vk.value (some 12) (.int .i64 v_94) hs (by kernel_rfl) (op := (.index 63 (.tmp 9) (.tmp 10))) (by kernel_rfl) (fun o ho => run_idxVal (k := .i64) (cs := v_48.1) (c := C.int .i64 v_94) ho (by kernel_rfl) (by kernel_rfl) (len := 3) (et := 3) (by kernel_rfl) (by kernel_rfl) (by kernel_rfl) (by kernel_rfl) h_92 (getI_some h_93) _) fun a hs => ?_)
        refine Vk.pures 1 [(7, .int .i64 v_94)] hs (by kernel_rfl) fun a hs => ?_
        replace hs := hs.pick [0, 5, 7, 9, 10] (L' := [(0, .slice Ar65x0_69 v_67.length cr65x0_70), (5, .int .u64 q_86), (7, .int .i64 v_94), (9, .agg (vals v_48.1)), (10, .int .i64 q_87)]) (by kernel_rfl)
        refine Vk.done (by kernel_rfl) ?_
        refine hK91 _ _ ?_
        clear hK91
        refine Vk.seq fun K95 hK95 => ?_
        refine Vk.region ?_
        refine Vk.pures 3 [(15, .bool (decide (v_94 ≥ 0))), (14, .bool (decide (v_94 ≥ 0))), (13, .int .i64 v_94)] hs (by kernel_rfl) fun a hs => ?_
        suffices hj_96 : ∀ a, St 29 a w κ [(0, .slice Ar65x0_69 v_67.length cr65x0_70), (5, .int .u64 q_86), (7, .int .i64 v_94), (9, .agg (vals v_48.1)), (10, .int .i64 q_87), (13, .int .i64 v_94), (14, .bool (decide (v_94 ≥ 0))), (15, .bool (decide (v_94 ≥ 0))), (20, .bool ((decide (v_94 ≥ 0)) && (decide (v_94 < ((v_67.length : Nat) : Int)))))] (rowp Ar65x0_69 cr65x0_70 23 1 (eI .u64) v_67 :: pt b_38 (blk ([C.ptr (some ⟨b_30, 0, none⟩), C.ptr (some ⟨b_35, 0, none⟩), C.slc none (([] : List Cells).length) 0, C.slc none (([] : List Int).length) 0]) 98) :: pt b_30 (blk (Twire_Machine.obj v_48.2 b_16 Ar46o0oops_52 cr46o0oops_53 Ar46o0ovalues_54 cr46o0ovalues_55 Ar46o0oblocks_56 cr46o0oblocks_57) 151) :: pt b_16 (blk (Ttape_Tape.obj v_48.2.tape Ar46o0otapeowords_50 cr46o0otapeowords_51) 158) :: rowp Ar46o0otapeowords_50 cr46o0otapeowords_51 23 1 (eI .u64) v_48.2.tape.words :: rowp Ar46o0oops_52 cr46o0oops_53 32 6 Tapi_Op.cells v_48.2.ops :: rowp Ar46o0ovalues_54 cr46o0ovalues_55 23 1 (eI .u64) v_48.2.values :: rowp Ar46o0oblocks_56 cr46o0oblocks_57 144 3 Tapi_Span.cells v_48.2.blocks :: pt b_35 (blk ([C.int .i64 2, C.int .i64 9, C.int .i64 0, C.int .i64 0, C.int .i64 0, C.int .i64 0, C.int .i64 0, C.int .i64 0, C.slc none (([] : List Tapi_Op).length) 0, C.slc none (([] : List Tapi_Span).length) 0, C.slc none (([] : List Int).length) 0, C.slc none (([] : List Int).length) 0, C.int .i64 0, C.int .i64 0, C.bool false]) 123) :: rowp none 0 32 6 Tapi_Op.cells ([] : List Tapi_Op) :: rowp none 0 144 3 Tapi_Span.cells ([] : List Tapi_Span) :: rowp none 0 23 1 (eI .u64) ([] : List Int) :: rdp κ none 0 1 (eI .u64) ([] : List Int) :: rowp none 0 65 3 eC ([] : List Cells) :: rowp none 0 23 1 (eI .u64) ([] : List Int) :: pt b_58 (blk v_48.1 65) :: S) → wpFrom Try.prog _ _ 8 a w by
          rcases Bool.eq_false_or_eq_true (decide (v_94 ≥ 0)) with hb | hb
          · replace hs := hs.known (t := 15) hb (by kernel_rfl)
            refine Vk.pures 5 [(20, .bool (decide (v_94 < ((v_67.length : Nat) : Int)))), (19, .bool (decide (v_94 < ((v_67.length : Nat) : Int)))), (18, .int .i64 ((v_67.length : Nat) : Int)), (17, .slice Ar65x0_69 v_67.length cr65x0_70), (16, .int .i64 v_94)] hs (by kernel_rfl) fun a hs => ?_
            have hq := hs.pick [0, 5, 7, 9, 10, 13, 14, 15, 20] (L' := [(0, .slice Ar65x0_69 v_67.length cr65x0_70), (5, .int .u64 q_86), (7, .int .i64 v_94), (9, .agg (vals v_48.1)), (10, .int .i64 q_87), (13, .int .i64 v_94), (14, .bool (decide (v_94 ≥ 0))), (15, .bool true), (20, .bool (decide (v_94 < ((v_67.length : Nat) : Int))))]) (by kernel_rfl)
            exact hj_96 _ (hq.conv (by rw [hb]; rfl))
          · replace hs := hs.known (t := 15) hb (by kernel_rfl)
            refine Vk.pures 5 [(20, .bool false), (19, undef), (18, undef), (17, undef), (16, undef)] hs (by kernel_rfl) fun a hs => ?_
            have hq := hs.pick [0, 5, 7, 9, 10, 13, 14, 15, 20] (L' := [(0, .slice Ar65x0_69 v_67.length cr65x0_70), (5, .int .u64 q_86), (7, .int .i64 v_94), (9, .agg (vals v_48.1)), (10, .int .i64 q_87), (13, .int .i64 v_94), (14, .bool (decide (v_94 ≥ 0))), (15, .bool false), (20, .bool false)]) (by kernel_rfl)
            exact hj_96 _ (hq.conv (by rw [hb]; rfl))
        intro a hs
        replace hs := hs.pick [0, 5, 7, 9, 10, 20] (L' := [(0, .slice Ar65x0_69 v_67.length cr65x0_70), (5, .int .u64 q_86), (7, .int .i64 v_94), (9, .agg (vals v_48.1)), (10, .int .i64 q_87), (20, .bool ((decide (v_94 ≥ 0)) && (decide (v_94 < ((v_67.length : Nat) : Int)))))]) (by kernel_rfl)
        refine Vk.done (by kernel_rfl) ?_
        refine hK95 _ _ ?_
        clear hK95
        refine Vk.condS (b := (decide (v_94 ≥ 0)) && (decide (v_94 < ((v_67.length : Nat) : Int)))) hs (by kernel_rfl) (by kernel_rfl) (fun hb => ?_) (fun hb => ?_)
        · replace hm := bif_t hm hb
          refine Vk.region ?_
          refine Vk.pures 3 [(23, .int .i64 v_94), (22, .slice Ar65x0_69 v_67.length cr65x0_70), (21, .int .u64 q_86)] hs (by kernel_rfl) fun a hs => ?_
          obtain ⟨h_97, hm⟩ := ite_t hm
          obtain ⟨e_100, h_98, hm⟩ := bind_t hm
          obtain ⟨b_101, o_102, hA_103, h_99⟩ := Sl.elem (Own.rowSl 0 (Own.to (S' := rowp Ar65x0_69 cr65x0_70 23 1 (eI .u64) v_67 :: S) hs.own [0] 16 (by kernel_rfl) (by kernel_rfl)) rfl) h_98
          refine Vk.step (Vk.value (some 24) (.pointer (some ⟨b_101, o_102 + v_94.toNat * 1, none⟩)) hs (by kernel_rfl) (op := (.indexAddr 73 (.tmp 22) (.tmp 23))) (by kernel_rfl) (fun o ho => run_idxSlc (k := .i64) ho (cap := cr65x0_70) (len := v_67.length) ((congrArg (fun A => Value.slice A (v_67.length) (cr65x0_70)) hA_103) ▸ (by kernel_rfl)) (by kernel_rfl) (by kernel_rfl) (idx_ok h_97 h_98) _) fun a hs => ?_)
          refine Vk.step (Vk.value (some 25) (.int .u64 e_100) hs (by kernel_rfl) (op := (.load 23 (.tmp 24))) (by kernel_rfl) (fun o ho => run_load1 (c := C.int .u64 e_100) ho (by kernel_rfl) (by kernel_rfl) (fun w ho => h_99 w ho 0 _ rfl) _ (Own.to (S' := rowp Ar65x0_69 cr65x0_70 23 1 (eI .u64) v_67 :: S) hs.own [0] 16 (by kernel_rfl) (by kernel_rfl))) fun a hs => ?_)
          refine Vk.pures 2 [(5, .int .u64 (bxor .u64 q_86 e_100)), (26, .int .u64 (bxor .u64 q_86 e_100))] hs (by kernel_rfl) fun a hs => ?_
          replace hs := hs.pick [0, 5, 9, 10] (L' := [(0, .slice Ar65x0_69 v_67.length cr65x0_70), (5, .int .u64 (bxor .u64 q_86 e_100)), (9, .agg (vals v_48.1)), (10, .int .i64 q_87)]) (by kernel_rfl)
          refine Vk.done (by kernel_rfl) ?_
          exact hj90 (bxor .u64 q_86 e_100) hm _ _ (hs.go [0, 5, 9, 10] [0, 1, 2, 3, 4, 5, 6, 7, 8, 9, 10, 11, 12, 13, 14, 15] 16 (by kernel_rfl) (by kernel_rfl) (by kernel_rfl))
        · replace hm := bif_f hm hb
          refine wp_skip ?_
          exact hj90 q_86 hm _ _ (hs.go [0, 5, 9, 10] [0, 1, 2, 3, 4, 5, 6, 7, 8, 9, 10, 11, 12, 13, 14, 15] 16 (by kernel_rfl) (by kernel_rfl) (by kernel_rfl))
      · replace hm := bif_f hm hb
        refine wp_exit ?_
        exact hx85 q_86 (Option.some.inj hm).symm _ _ (hs.go [5] [1, 2, 3, 4, 5, 6, 7, 8, 9, 10, 11, 12, 13, 14, 15, 0] 16 (by kernel_rfl) (by kernel_rfl) (by kernel_rfl))
    · replace hm := bif_f hm hb
      replace hs := hs.known (t := 17) hb (by kernel_rfl)
      refine Vk.dPuresT [5, 6, 7, 8] [(21, undef), (20, undef), (19, undef), (18, undef)] hs (by kernel_rfl) (by repeat' (first | exact Vk.Calm.post | refine Vk.Calm.then ?_ | refine Vk.Calm.inBlock ?_)) hcl (by kernel_rfl) (by kernel_rfl) (fuel := 4) rfl fun a hs => ?_
      refine Vk.dOnly (i := 9) (by kernel_rfl) (Vk.dPure1 [(22, undef)] hs (by kernel_rfl) fun a hs => ?_)
      refine ⟨fun h => absurd h (by decide), ?_⟩
      refine Vk.dOnly (i := 10) (by kernel_rfl) (Vk.dPure1 [(23, undef)] hs (by kernel_rfl) fun a hs => ?_)
      refine ⟨fun h => absurd h (by decide), ?_⟩
      refine Vk.dOnly (i := 11) (by kernel_rfl) (Vk.dPure1 [(24, .bool false)] hs (by kernel_rfl) fun a hs => ?_)
      refine ⟨fun h => absurd h (by decide), ?_⟩
      refine Vk.dOnly (i := 12) (by kernel_rfl) (Vk.dPure1 [(0, .bool false)] hs (by kernel_rfl) fun a hs => ?_)
      refine ⟨fun h => absurd h (by decide), ?_⟩
      replace hs := hs.pick [0] (L' := [(0, .bool false)]) (by kernel_rfl)
      refine Vk.dDone (by kernel_rfl) ?_
      replace hs := hs.addRow none 32 6 Tapi_Op.cells
      replace hs := hs.addRow none 144 3 Tapi_Span.cells
      replace hs := hs.addRow none 23 1 (eI .u64)
      replace hs := hs.addRd (A := none) (cap := 0) (sz := 1) (enc := (eI .u64)) (xs := ([] : List Int)) Sl.nil
      replace hs := hs.addRow none 65 3 eC
      replace hs := hs.addRow none 23 1 (eI .u64)
      replace hs := hs.addRow none 65 3 eC
      replace hs := hs.addRow none 23 1 (eI .u64)
      exact hj60 false hm _ _ (hs.go [0] [] 18 (by kernel_rfl) (by kernel_rfl) (by kernel_rfl))


def share_Value.j1 (k : Nat) (rec7 : Int → Int → Option (Int)) (q_9 : Int) (p_26 : Int) : Option (Int) := rec7 p_26 (IntKind.i64.wrap (q_9 + 1))
def share_Value.l1 (x0 : List Int) (x1 : Cells) : Nat → Int → Int → Option (Int)
  | 0, _, _ => none
  | k + 1, q_8, q_9 => (bif decide (q_9 < 3) then (if 0 ≤ q_9 ∧ q_9 < 3 then (getI .i64 x1 q_9.toNat).bind fun v_16 => (bif (decide (v_16 ≥ 0)) && (decide (v_16 < ((x0.length : Nat) : Int))) then (if 0 ≤ v_16 then (x0[v_16.toNat]?).bind fun e_22 => share_Value.j1 k (share_Value.l1 x0 x1 k) q_9 (bxor .u64 q_8 e_22) else none) else share_Value.j1 k (share_Value.l1 x0 x1 k) q_9 q_8) else none) else some q_8)
abbrev share_Value.R (κ : Ctx) (S : List HP) (x0 : List Int) (x1 : Cells) (A_x0 : Option Addr) (c_x0 : Nat) (r : Int) : Ending → World → Prop := fun e w' => e = .returned (.int .u64 r) ∧ Own κ w' (S)
def share_Value.m (k : Nat) (x0 : List Int) (x1 : Cells) : Option Int := (if x1.length = 3 then (share_Value.l1 x0 x1 k 0 0).bind fun p_27 => some p_27 else none)

set_option maxRecDepth 100000 in
set_option maxHeartbeats 4000000 in
theorem share_Value.ok (k : Nat) (x0 : List Int) (x1 : Cells) (r : Int) (hm : share_Value.m k x0 x1 = some r) (κ : Ctx) (w : World) (S : List HP) (A_x0 : Option Addr) (c_x0 : Nat) (hx_x0 : Sl κ S A_x0 c_x0 1 (eI .u64) x0) (ho : Own κ w (S)) :
    Calls Try.prog 48 #[.slice A_x0 x0.length c_x0, .agg (vals x1)] w (share_Value.R κ S x0 x1 A_x0 c_x0 r) := by
  unfold share_Value.m at hm
  refine Vk.enter [(0, .slice A_x0 x0.length c_x0), (1, .agg (vals x1))] Try.func48 rfl Try.ntmps48 (by kernel_rfl) (Nat.le_of_ble_eq_true (by kernel_rfl)) ho fun a hs => ?_
  refine Vk.seq fun K1 hK1 => ?_
  refine Vk.region ?_
  refine Vk.step (Vk.box (x := (.tmp 1)) 3 65 x1 hs (by kernel_rfl) (by kernel_rfl) (by kernel_rfl) fun b_2 w a hs => ?_)
  refine Vk.pures 1 [(4, .int .u64 0)] hs (by kernel_rfl) fun a hs => ?_
  replace hs := hs.pick [0, 3] (L' := [(0, .slice A_x0 x0.length c_x0), (3, .pointer (some ⟨b_2, 0, none⟩))]) (by kernel_rfl)
  refine Vk.done (by kernel_rfl) ?_
  refine hK1 _ _ ?_
  clear hK1
  refine Vk.seq fun K3 hK3 => ?_
  refine Vk.region ?_
  refine Vk.pures 1 [(5, .int .u64 0)] hs (by kernel_rfl) fun a hs => ?_
  replace hs := hs.pick [0, 3, 5] (L' := [(0, .slice A_x0 x0.length c_x0), (3, .pointer (some ⟨b_2, 0, none⟩)), (5, .int .u64 0)]) (by kernel_rfl)
  refine Vk.done (by kernel_rfl) ?_
  refine hK3 _ _ ?_
  clear hK3
  refine Vk.seq fun K4 hK4 => ?_
  refine Vk.seq fun K5 hK5 => ?_
  refine Vk.region ?_
  refine Vk.pures 1 [(8, .pointer (some ⟨b_2, 0, none⟩))] hs (by kernel_rfl) fun a hs => ?_
  obtain ⟨h_6, hm⟩ := ite_t hm
  refine Vk.step (Vk.value (some 9) (.agg (vals x1)) hs (by kernel_rfl) (op := (.load 63 (.tmp 8))) (by kernel_rfl) (fun o ho => run_loadN (cs := x1) ho (by kernel_rfl) (by kernel_rfl) h_6 (CellsAt.all 0 rfl) _ hs.own) fun a hs => ?_)
  refine Vk.pures 1 [(10, .int .i64 0)] hs (by kernel_rfl) fun a hs => ?_
  replace hs := hs.pick [0, 5, 9, 10] (L' := [(0, .slice A_x0 x0.length c_x0), (5, .int .u64 0), (9, .agg (vals x1)), (10, .int .i64 0)]) (by kernel_rfl)
  refine Vk.done (by kernel_rfl) ?_
  refine hK5 _ _ ?_
  clear hK5
  refine wp_block ?_
  obtain ⟨r7, hl7, hm⟩ := bind_t hm
  have hx7 : ∀ (p_27 : Int), r7 = p_27 → ∀ (a : Act) (w : World), St 29 a w κ [(5, .int .u64 p_27)] (S) → K4 a w := by
    intro p_27 he a w hs
    subst r7
    refine hK4 _ _ ?_
    clear hK4
    refine Vk.seq fun K30 hK30 => ?_
    refine Vk.region ?_
    refine Vk.pures 2 [(4, .int .u64 p_27), (28, .int .u64 p_27)] hs (by kernel_rfl) fun a hs => ?_
    replace hs := hs.pick [4] (L' := [(4, .int .u64 p_27)]) (by kernel_rfl)
    refine Vk.done (by kernel_rfl) ?_
    refine hK30 _ _ ?_
    clear hK30
    refine wp_ret ?_
    exact Vk.ret1 (P := Try.prog) (fn := Try.f48) (R := share_Value.R κ S x0 x1 A_x0 c_x0 r) (.int .u64 p_27) hs rfl (by kernel_rfl) (by obtain rfl := Option.some.inj hm; exact ⟨rfl, (Own.to hs.own [] 0 (by kernel_rfl) (by kernel_rfl))⟩)
  refine Vk.loopBy (fun k (s : Int × Int) a w => share_Value.l1 x0 x1 k s.1 s.2 = some r7 ∧ St 29 a w κ [(0, .slice A_x0 x0.length c_x0), (5, .int .u64 s.1), (9, .agg (vals x1)), (10, .int .i64 s.2)] (S)) k (0, 0) ⟨hl7, hs.go [0, 5, 9, 10] [] 1 (by kernel_rfl) (by kernel_rfl) (by kernel_rfl)⟩ (fun s a w h => by obtain ⟨h1, _⟩ := h; simp [share_Value.l1] at h1) (fun k KL7 ih s a w h => ?_)
  obtain ⟨q_8, q_9⟩ := s
  obtain ⟨hm, hs⟩ := h
  try dsimp only at hm hs
  rw [share_Value.l1] at hm
  refine Vk.seq fun K10 hK10 => ?_
  refine Vk.region ?_
  refine Vk.pures 1 [(11, .bool (decide (q_9 < 3)))] hs (by kernel_rfl) fun a hs => ?_
  replace hs := hs.pick [0, 5, 9, 10, 11] (L' := [(0, .slice A_x0 x0.length c_x0), (5, .int .u64 q_8), (9, .agg (vals x1)), (10, .int .i64 q_9), (11, .bool (decide (q_9 < 3)))]) (by kernel_rfl)
  refine Vk.done (by kernel_rfl) ?_
  refine hK10 _ _ ?_
  clear hK10
  refine Vk.seq fun K11 hK11 => ?_
  refine Vk.condS (b := decide (q_9 < 3)) hs (by kernel_rfl) (by kernel_rfl) (fun hb => ?_) (fun hb => ?_)
  · replace hm := bif_t hm hb
    refine wp_skip ?_
    refine hK11 _ _ ?_
    clear hK11
    refine Vk.seq fun K12 hK12 => ?_
    have hj12 : ∀ (p_26 : Int), share_Value.j1 k (share_Value.l1 x0 x1 k) q_9 p_26 = some r7 → ∀ (a : Act) (w : World), St 29 a w κ [(0, .slice A_x0 x0.length c_x0), (5, .int .u64 p_26), (9, .agg (vals x1)), (10, .int .i64 q_9)] (S) → K12 a w := by
      intro p_26 hm a w hs
      unfold share_Value.j1 at hm
      refine hK12 _ _ ?_
      refine Vk.region ?_
      refine Vk.pures 2 [(10, .int .i64 (IntKind.i64.wrap (q_9 + 1))), (27, .int .i64 (IntKind.i64.wrap (q_9 + 1)))] hs (by kernel_rfl) fun a hs => ?_
      replace hs := hs.pick [0, 5, 9, 10] (L' := [(0, .slice A_x0 x0.length c_x0), (5, .int .u64 p_26), (9, .agg (vals x1)), (10, .int .i64 (IntKind.i64.wrap (q_9 + 1)))]) (by kernel_rfl)
      refine Vk.done (by kernel_rfl) ?_
      refine ih (p_26, (IntKind.i64.wrap (q_9 + 1))) _ _ ⟨hm, hs.go [0, 5, 9, 10] [] 0 (by kernel_rfl) (by kernel_rfl) (by kernel_rfl)⟩
    refine wp_block ?_
    refine Vk.seq fun K13 hK13 => ?_
    refine Vk.region ?_
    obtain ⟨h_14, hm⟩ := ite_t hm
    obtain ⟨v_16, h_15, hm⟩ := bind_t hm
    refine Vk.step (Vk.value (some 12) (.int .i64 v_16) hs (by kernel_rfl) (op := (.index 63 (.tmp 9) (.tmp 10))) (by kernel_rfl) (fun o ho => run_idxVal (k := .i64) (cs := x1) (c := C.int .i64 v_16) ho (by kernel_rfl) (by kernel_rfl) (len := 3) (et := 3) (by kernel_rfl) (by kernel_rfl) (by kernel_rfl) (by kernel_rfl) h_14 (getI_some h_15) _) fun a hs => ?_)
    refine Vk.pures 1 [(7, .int .i64 v_16)] hs (by kernel_rfl) fun a hs => ?_
    replace hs := hs.pick [0, 5, 7, 9, 10] (L' := [(0, .slice A_x0 x0.length c_x0), (5, .int .u64 q_8), (7, .int .i64 v_16), (9, .agg (vals x1)), (10, .int .i64 q_9)]) (by kernel_rfl)
    refine Vk.done (by kernel_rfl) ?_
    refine hK13 _ _ ?_
    clear hK13
    refine Vk.seq fun K17 hK17 => ?_
    refine Vk.region ?_
    refine Vk.pures 3 [(15, .bool (decide (v_16 ≥ 0))), (14, .bool (decide (v_16 ≥ 0))), (13, .int .i64 v_16)] hs (by kernel_rfl) fun a hs => ?_
    suffices hj_18 : ∀ a, St 29 a w κ [(0, .slice A_x0 x0.length c_x0), (5, .int .u64 q_8), (7, .int .i64 v_16), (9, .agg (vals x1)), (10, .int .i64 q_9), (13, .int .i64 v_16), (14, .bool (decide (v_16 ≥ 0))), (15, .bool (decide (v_16 ≥ 0))), (20, .bool ((decide (v_16 ≥ 0)) && (decide (v_16 < ((x0.length : Nat) : Int)))))] (S) → wpFrom Try.prog _ _ 8 a w by
      rcases Bool.eq_false_or_eq_true (decide (v_16 ≥ 0)) with hb | hb
      · replace hs := hs.known (t := 15) hb (by kernel_rfl)
        refine Vk.pures 5 [(20, .bool (decide (v_16 < ((x0.length : Nat) : Int)))), (19, .bool (decide (v_16 < ((x0.length : Nat) : Int)))), (18, .int .i64 ((x0.length : Nat) : Int)), (17, .slice A_x0 x0.length c_x0), (16, .int .i64 v_16)] hs (by kernel_rfl) fun a hs => ?_
        have hq := hs.pick [0, 5, 7, 9, 10, 13, 14, 15, 20] (L' := [(0, .slice A_x0 x0.length c_x0), (5, .int .u64 q_8), (7, .int .i64 v_16), (9, .agg (vals x1)), (10, .int .i64 q_9), (13, .int .i64 v_16), (14, .bool (decide (v_16 ≥ 0))), (15, .bool true), (20, .bool (decide (v_16 < ((x0.length : Nat) : Int))))]) (by kernel_rfl)
        exact hj_18 _ (hq.conv (by rw [hb]; rfl))
      · replace hs := hs.known (t := 15) hb (by kernel_rfl)
        refine Vk.pures 5 [(20, .bool false), (19, undef), (18, undef), (17, undef), (16, undef)] hs (by kernel_rfl) fun a hs => ?_
        have hq := hs.pick [0, 5, 7, 9, 10, 13, 14, 15, 20] (L' := [(0, .slice A_x0 x0.length c_x0), (5, .int .u64 q_8), (7, .int .i64 v_16), (9, .agg (vals x1)), (10, .int .i64 q_9), (13, .int .i64 v_16), (14, .bool (decide (v_16 ≥ 0))), (15, .bool false), (20, .bool false)]) (by kernel_rfl)
        exact hj_18 _ (hq.conv (by rw [hb]; rfl))
    intro a hs
    replace hs := hs.pick [0, 5, 7, 9, 10, 20] (L' := [(0, .slice A_x0 x0.length c_x0), (5, .int .u64 q_8), (7, .int .i64 v_16), (9, .agg (vals x1)), (10, .int .i64 q_9), (20, .bool ((decide (v_16 ≥ 0)) && (decide (v_16 < ((x0.length : Nat) : Int)))))]) (by kernel_rfl)
    refine Vk.done (by kernel_rfl) ?_
    refine hK17 _ _ ?_
    clear hK17
    refine Vk.condS (b := (decide (v_16 ≥ 0)) && (decide (v_16 < ((x0.length : Nat) : Int)))) hs (by kernel_rfl) (by kernel_rfl) (fun hb => ?_) (fun hb => ?_)
    · replace hm := bif_t hm hb
      refine Vk.region ?_
      refine Vk.pures 3 [(23, .int .i64 v_16), (22, .slice A_x0 x0.length c_x0), (21, .int .u64 q_8)] hs (by kernel_rfl) fun a hs => ?_
      obtain ⟨h_19, hm⟩ := ite_t hm
      obtain ⟨e_22, h_20, hm⟩ := bind_t hm
      obtain ⟨b_23, o_24, hA_25, h_21⟩ := Sl.elem hx_x0 h_20
      refine Vk.step (Vk.value (some 24) (.pointer (some ⟨b_23, o_24 + v_16.toNat * 1, none⟩)) hs (by kernel_rfl) (op := (.indexAddr 73 (.tmp 22) (.tmp 23))) (by kernel_rfl) (fun o ho => run_idxSlc (k := .i64) ho (cap := c_x0) (len := x0.length) ((congrArg (fun A => Value.slice A (x0.length) (c_x0)) hA_25) ▸ (by kernel_rfl)) (by kernel_rfl) (by kernel_rfl) (idx_ok h_19 h_20) _) fun a hs => ?_)
      refine Vk.step (Vk.value (some 25) (.int .u64 e_22) hs (by kernel_rfl) (op := (.load 23 (.tmp 24))) (by kernel_rfl) (fun o ho => run_load1 (c := C.int .u64 e_22) ho (by kernel_rfl) (by kernel_rfl) (fun w ho => h_21 w ho 0 _ rfl) _ hs.own) fun a hs => ?_)
      refine Vk.pures 2 [(5, .int .u64 (bxor .u64 q_8 e_22)), (26, .int .u64 (bxor .u64 q_8 e_22))] hs (by kernel_rfl) fun a hs => ?_
      replace hs := hs.pick [0, 5, 9, 10] (L' := [(0, .slice A_x0 x0.length c_x0), (5, .int .u64 (bxor .u64 q_8 e_22)), (9, .agg (vals x1)), (10, .int .i64 q_9)]) (by kernel_rfl)
      refine Vk.done (by kernel_rfl) ?_
      exact hj12 (bxor .u64 q_8 e_22) hm _ _ (hs.go [0, 5, 9, 10] [] 0 (by kernel_rfl) (by kernel_rfl) (by kernel_rfl))
    · replace hm := bif_f hm hb
      refine wp_skip ?_
      exact hj12 q_8 hm _ _ (hs.go [0, 5, 9, 10] [] 0 (by kernel_rfl) (by kernel_rfl) (by kernel_rfl))
  · replace hm := bif_f hm hb
    refine wp_exit ?_
    exact hx7 q_8 (Option.some.inj hm).symm _ _ (hs.go [5] [] 0 (by kernel_rfl) (by kernel_rfl) (by kernel_rfl))

end Go.Proofs.Ytjjdlidjlepgeaa
