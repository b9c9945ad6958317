/- Of each Go function that SlotsKeep comes to: a model in plain Lean, and that the program's call does what the model says; no condition. -/
import Derived.Test.YtebgjmhkmmlpeaaProg
import Derived.Test.YtebgjmhkmmlpeaaVonmbgjlg
namespace Go.Proofs.Ytebgjmhkmmlpeaa
open Go Go.Vk
set_option linter.unusedVariables false


abbrev slots_place.R (κ : Ctx) (S : List HP) (x0 : Int) (r : Bool) : Ending → World → Prop := fun e w' => e = .returned (.bool r) ∧ Ow κ w' (S)
def slots_place.m (k : Nat) (x0 : Int) : Option Bool := some ((decide (x0 ≥ 0)) && (decide (x0 < 4)))

set_option maxRecDepth 100000 in
set_option maxHeartbeats 4000000 in
theorem slots_place.ok (k : Nat) (x0 : Int) (r : Bool) (hm : slots_place.m k x0 = some r) (κ : Ctx) (w : World) (S : List HP) (ho : Ow κ w (S)) :
  Calls Try.prog 31 #[vi x0] w (slots_place.R κ S x0 r) := by
 unfold slots_place.m at hm
 generalize hRR : slots_place.R κ S x0 r = RR
 refine qen [(0, vi x0)] Try.func31 Try.ntmps31 ho fun a hs => ?_
 refine qse 1 [(0, vi x0)] hs fun a hs => ?_
 refine qsr fun K2 hK2 => ?_
 refine qpu 3 hs fun a hs => ?_
 refine qsc 5 3 hs fun a hs => ?_
 refine qpk 1 [2] hs fun a hs => hK2 _ _ ?_
 clear hK2
 refine wp_ret ?_
 exact qr1 (.bool ((decide (x0 ≥ 0)) && (decide (x0 < 4)))) hs rfl hRR (by cases hm; exact ⟨rfl, hs.own⟩)

structure Tslots_Slot where
 kind : Int
 size : Int
 keys : List Cells
 words : List Cells
 deriving Inhabited
def Tslots_Slot.obj (x : Tslots_Slot) (Akeys : Option Addr) (ckeys : Nat) (Awords : Option Addr) (cwords : Nat) : Cells := [C.int .i64 x.kind, C.int .i64 x.size, C.slc Akeys x.keys.length ckeys, C.slc Awords x.words.length cwords]

def visorlaw48_awake.j6 (k : Nat) (p_87 : Bool) : Option (Bool) := some p_87
def visorlaw48_awake.j5 (k : Nat) (p_85 : Int) (p_86 : List (Int × Tslots_Slot)) : Option (Bool) := visorlaw48_awake.j6 k (p_85 == 7)
def visorlaw48_awake.j2_2 (k : Nat) (p_51 : List (Int × Tslots_Slot)) (p_81 : Bool) : Option (Bool) := (bif p_81 then visorlaw48_awake.j5 k 7 p_51 else visorlaw48_awake.j5 k 0 (mdel p_51 2))
def visorlaw48_awake.j1_2 (k : Nat) (p_51 : List (Int × Tslots_Slot)) (p_79 : Bool) : Option (Bool) := visorlaw48_awake.j2_2 k p_51 (!p_79)
def visorlaw48_awake.j4 (k : Nat) (p_50 : Int) (p_51 : List (Int × Tslots_Slot)) : Option (Bool) := (bif p_50 == 6 then (slots_place.m k 2).bind fun v_59 => (bif !v_59 then visorlaw48_awake.j5 k 6 p_51 else (slots_place.m k 2).bind fun v_68 => (bif !v_68 then visorlaw48_awake.j2_2 k p_51 false else (bif (mget p_51 2).isSome then ((mget p_51 2)).bind fun e_71 => visorlaw48_awake.j1_2 k p_51 true else visorlaw48_awake.j1_2 k p_51 false))) else visorlaw48_awake.j6 k false)
def visorlaw48_awake.j3 (k : Nat) (p_45 : Bool) : Option (Bool) := (bif p_45 then visorlaw48_awake.j4 k 6 ([] : List (Int × Tslots_Slot)) else visorlaw48_awake.j4 k 0 (mput ([] : List (Int × Tslots_Slot)) 4 (⟨1, 0, ([] : List Cells), ([] : List Cells)⟩ : Tslots_Slot)))
def visorlaw48_awake.j2 (k : Nat) (p_42 : Bool) : Option (Bool) := (bif !p_42 then visorlaw48_awake.j3 k true else visorlaw48_awake.j3 k false)
def visorlaw48_awake.j1 (k : Nat) (p_36 : Bool) : Option (Bool) := visorlaw48_awake.j2 k (!p_36)
abbrev visorlaw48_awake.R (κ : Ctx) (S : List HP) (r : Bool) : Ending → World → Prop := fun e w' => e = .returned (.bool r) ∧ Ow κ w' (S)
def visorlaw48_awake.m (k : Nat) : Option Bool := (slots_place.m k 4).bind fun v_21 => (bif !v_21 then visorlaw48_awake.j2 k false else (bif (mget ([] : List (Int × Tslots_Slot)) 4).isSome then ((mget ([] : List (Int × Tslots_Slot)) 4)).bind fun e_24 => visorlaw48_awake.j1 k true else visorlaw48_awake.j1 k false))

set_option maxRecDepth 100000 in
set_option maxHeartbeats 4000000 in
theorem visorlaw48_awake.ok (k : Nat) (r : Bool) (hm : visorlaw48_awake.m k = some r) (κ : Ctx) (w : World) (S : List HP) (ho : Ow κ w (S)) :
  Calls Try.prog 17 #[] w (visorlaw48_awake.R κ S r) := by
 unfold visorlaw48_awake.m at hm
 generalize hRR : visorlaw48_awake.R κ S r = RR
 refine qen [] Try.func17 Try.ntmps17 ho fun a hs => ?_
 refine qse 1 [] hs fun a hs => ?_
 refine qsr fun K2 hK2 => ?_
 refine Vk.step (Vk.call (some 2) 12 #[] hs (by kernel_rfl) (by kernel_rfl) (by kernel_rfl) ?_)
 refine Vk.enterI [] Try.func12 rfl Try.ntmps12 (by kernel_rfl) (Nat.le_of_ble_eq_true (by kernel_rfl)) hs.own fun KR3 hKR3 hKP3 a hs => ?_
 refine qse 1 [] hs fun a hs => ?_
 refine qsr fun K5 hK5 => ?_
 refine Vk.step (mppOp 1 81 (fun (x : Tslots_Slot) => .agg (vals [ci x.kind, ci x.size, C.slc none 0 0, C.slc none 0 0])) hs fun b_6 w a hs => ?_)
 refine qpu 1 hs fun a hs => ?_
 refine qbx 2 83 [C.map (some b_6)] 3 hs fun b_7 w a hs => ?_
 refine qpe 1 [(0, pp b_7)] hs fun a hs => hK5 _ _ ?_
 clear hK5
 refine wp_ret ?_
 refine hKP3 _ _ ?_
 refine hKR3 _ _ ?_
 refine Vk.ret1 (P := Try.prog) (fn := Try.f12) (pp b_7) hs rfl (by kernel_rfl) ⟨_, _, _, rfl, hs.own, fun a hs => ?_⟩
 refine qpe 1 [(1, pp b_7)] hs fun a hs => hK2 _ _ ?_
 clear hK2
 refine Vk.seq fun K8 hK8 => ?_
 have hj8 : ∀ (p_87 : Bool), visorlaw48_awake.j6 k p_87 = some r → ∀ (a : Act) (w : World), St 12 a w κ [(0, .bool p_87)] (S) → K8 a w := by
  intro p_87 hm a w hs
  unfold visorlaw48_awake.j6 at hm
  refine hK8 _ _ ?_
  refine wp_ret ?_
  exact qr1 (.bool p_87) hs rfl hRR (by cases hm; exact ⟨rfl, hs.own⟩)
 refine Vk.region ?_
 refine qpu 2 hs fun a hs => ?_
 refine Vk.step (Vk.call (some 5) 8 #[pp b_7, vi 4, .agg (vals [ci 1, ci 0, C.slc none 0 0, C.slc none 0 0])] hs (by kernel_rfl) (by kernel_rfl) (by kernel_rfl) ?_)
 refine Vk.enterI [(0, pp b_7), (1, vi 4), (2, .agg (vals [ci 1, ci 0, C.slc none 0 0, C.slc none 0 0]))] Try.func8 rfl Try.ntmps8 (by kernel_rfl) (Nat.le_of_ble_eq_true (by kernel_rfl)) hs.own fun KR9 hKR9 hKP9 a hs => ?_
 have hj9 : ∀ (p_50 : Int) (p_51 : List (Int × Tslots_Slot)), visorlaw48_awake.j4 k p_50 p_51 = some r → ∀ (a : Act) (w : World), St 31 a w κ [(6, vi p_50)] (pt b_7 (blk [C.map (some b_6)] 83) :: mpp b_6 (fun (x : Tslots_Slot) => .agg (vals [ci x.kind, ci x.size, C.slc none 0 0, C.slc none 0 0])) p_51 :: S) → KR9 a w := by
  intro p_50 p_51 hm a w hs
  unfold visorlaw48_awake.j4 at hm
  refine hKR9 _ _ ?_
  refine Vk.ret1 (P := Try.prog) (fn := Try.f8) (vi p_50) hs rfl (by kernel_rfl) ⟨_, _, _, rfl, hs.own, fun a hs => ?_⟩
  refine qpu 2 hs fun a hs => ?_
  rcases Bool.eq_false_or_eq_true (p_50 == 6) with hb | hb
  ·replace hm := bif_t hm hb
   replace hs := hs.known (t := 7) hb (by kernel_rfl)
   refine qpu 1 hs fun a hs => ?_
   refine Vk.step (Vk.call (some 9) 9 #[pp b_7, vi 2] hs (by kernel_rfl) (by kernel_rfl) (by kernel_rfl) ?_)
   refine Vk.enterI [(0, pp b_7), (1, vi 2)] Try.func9 rfl Try.ntmps9 (by kernel_rfl) (Nat.le_of_ble_eq_true (by kernel_rfl)) hs.own fun KR52 hKR52 hKP52 a hs => ?_
   have hj52 : ∀ (p_85 : Int) (p_86 : List (Int × Tslots_Slot)), visorlaw48_awake.j5 k p_85 p_86 = some r → ∀ (a : Act) (w : World), St 21 a w κ [(4, vi p_85)] (pt b_7 (blk [C.map (some b_6)] 83) :: mpp b_6 (fun (x : Tslots_Slot) => .agg (vals [ci x.kind, ci x.size, C.slc none 0 0, C.slc none 0 0])) p_86 :: S) → KR52 a w := by
    intro p_85 p_86 hm a w hs
    unfold visorlaw48_awake.j5 at hm
    refine hKR52 _ _ ?_
    refine Vk.ret1 (P := Try.prog) (fn := Try.f9) (vi p_85) hs rfl (by kernel_rfl) ⟨_, _, _, rfl, hs.own, fun a hs => ?_⟩
    refine qpe 3 [(0, .bool (p_85 == 7))] hs fun a hs => ?_
    exact hj8 (p_85 == 7) hm _ _ (hs.go [0] [] 2 (by kernel_rfl) (by kernel_rfl) (by kernel_rfl))
   refine qse 1 [(0, pp b_7), (1, vi 2)] hs fun a hs => ?_
   refine Vk.seq fun K54 hK54 => ?_
   refine wp_block ?_
   refine qsk 3 [0, 1, 5] hs fun a hs => ?_
   refine qcf hs ?_
   refine qsr fun K56 hK56 => ?_
   refine qpu 1 hs fun a hs => ?_
   obtain ⟨v_59, h_58, hm⟩ := bind_t hm
   refine qcl (slots_place.ok _ _ _ h_58 _ _ (pt b_7 (blk [C.map (some b_6)] 83) :: mpp b_6 (fun (x : Tslots_Slot) => .agg (vals [ci x.kind, ci x.size, C.slc none 0 0, C.slc none 0 0])) p_51 :: S) hs.own) hs fun w a hs => ?_
   refine qpk 2 [0, 1, 8] hs fun a hs => hK56 _ _ ?_
   clear hK56
   refine qcs (!v_59) hs (fun hb => ?_) fun hb => ?_
   ·replace hm := bif_t hm hb
    refine qse 1 [(4, vi 6)] hs fun a hs => ?_
    refine wp_ret ?_
    refine hKP52 _ _ ?_
    exact hj52 6 p_51 hm _ _ (hs.go [4] [0, 1] 2 (by kernel_rfl) (by kernel_rfl) (by kernel_rfl))
   ·replace hm := bif_f hm hb
    refine qsr fun K61 hK61 => ?_
    refine qpu 2 hs fun a hs => ?_
    refine Vk.step (Vk.call (some 15) 10 #[pp b_7, vi 2] hs (by kernel_rfl) (by kernel_rfl) (by kernel_rfl) ?_)
    refine Vk.enterI [(0, pp b_7), (1, vi 2)] Try.func10 rfl Try.ntmps10 (by kernel_rfl) (Nat.le_of_ble_eq_true (by kernel_rfl)) hs.own fun KR62 hKR62 hKP62 a hs => ?_
    have hj62 : ∀ (p_81 : Bool), visorlaw48_awake.j2_2 k p_51 p_81 = some r → ∀ (a : Act) (w : World), St 25 a w κ [(4, .bool p_81)] (pt b_7 (blk [C.map (some b_6)] 83) :: mpp b_6 (fun (x : Tslots_Slot) => .agg (vals [ci x.kind, ci x.size, C.slc none 0 0, C.slc none 0 0])) p_51 :: S) → KR62 a w := by
     intro p_81 hm a w hs
     unfold visorlaw48_awake.j2_2 at hm
     refine hKR62 _ _ ?_
     refine Vk.ret1 (P := Try.prog) (fn := Try.f10) (.bool p_81) hs rfl (by kernel_rfl) ⟨_, _, _, rfl, hs.own, fun a hs => ?_⟩
     refine qpk 1 [0, 1, 12] hs fun a hs => hK61 _ _ ?_
     clear hK61
     refine qcs (p_81) hs (fun hb => ?_) fun hb => ?_
     ·replace hm := bif_t hm hb
      refine qse 1 [(4, vi 7)] hs fun a hs => ?_
      refine wp_ret ?_
      refine hKP52 _ _ ?_
      exact hj52 7 p_51 hm _ _ (hs.go [4] [0, 1] 2 (by kernel_rfl) (by kernel_rfl) (by kernel_rfl))
     ·replace hm := bif_f hm hb
      refine wp_skip ?_
      refine hK54 _ _ ?_
      clear hK54
      refine qsr fun K83 hK83 => ?_
      refine qpu 3 hs fun a hs => ?_
      refine qld 0 (C.map (some b_6)) hs rfl fun a hs => ?_
      refine qpu 1 hs fun a hs => ?_
      refine Vk.step (mdelOp (t := 81) (t' := 3) (et := 27) (xm := (.tmp 19)) (xk := (.tmp 20)) (ev := (fun (x : Tslots_Slot) => .agg (vals [ci x.kind, ci x.size, C.slc none 0 0, C.slc none 0 0]))) 2 1 none hs rfl fun a w hs => ?_)
      refine qpe 0 [] hs fun a hs => hK83 _ _ ?_
      clear hK83
      refine qse 1 [(4, vi 0)] hs fun a hs => ?_
      refine wp_ret ?_
      refine hKP52 _ _ ?_
      exact hj52 0 (mdel p_51 2) hm _ _ (hs.go [4] [0, 1] 2 (by kernel_rfl) (by kernel_rfl) (by kernel_rfl))
    refine qse 1 [(0, pp b_7), (1, vi 2)] hs fun a hs => ?_
    refine Vk.seq fun K64 hK64 => ?_
    refine qsr fun K65 hK65 => ?_
    refine qpu 4 hs fun a hs => ?_
    obtain ⟨v_68, h_67, hm⟩ := bind_t hm
    refine qcl (slots_place.ok _ _ _ h_67 _ _ (pt b_7 (blk [C.map (some b_6)] 83) :: mpp b_6 (fun (x : Tslots_Slot) => .agg (vals [ci x.kind, ci x.size, C.slc none 0 0, C.slc none 0 0])) p_51 :: S) hs.own) hs fun w a hs => ?_
    refine qpk 2 [0, 1, 13] hs fun a hs => hK65 _ _ ?_
    clear hK65
    refine qcs (!v_68) hs (fun hb => ?_) fun hb => ?_
    ·replace hm := bif_t hm hb
     refine qse 1 [(4, .bool false)] hs fun a hs => ?_
     refine wp_ret ?_
     refine hKP62 _ _ ?_
     exact hj62 false hm _ _ (hs.go [4] [0, 1] 2 (by kernel_rfl) (by kernel_rfl) (by kernel_rfl))
    ·replace hm := bif_f hm hb
     refine wp_skip ?_
     refine hK64 _ _ ?_
     clear hK64
     refine Vk.seq fun K70 hK70 => ?_
     have hj70 : ∀ (p_79 : Bool), visorlaw48_awake.j1_2 k p_51 p_79 = some r → ∀ (a : Act) (w : World), St 25 a w κ [(6, .bool p_79)] (pt b_7 (blk [C.map (some b_6)] 83) :: mpp b_6 (fun (x : Tslots_Slot) => .agg (vals [ci x.kind, ci x.size, C.slc none 0 0, C.slc none 0 0])) p_51 :: S) → K70 a w := by
      intro p_79 hm a w hs
      unfold visorlaw48_awake.j1_2 at hm
      refine hK70 _ _ ?_
      refine qse 3 [(4, .bool (!p_79))] hs fun a hs => ?_
      refine wp_ret ?_
      refine hKP62 _ _ ?_
      exact hj62 (!p_79) hm _ _ (hs.go [4] [0, 1] 2 (by kernel_rfl) (by kernel_rfl) (by kernel_rfl))
     refine Vk.region ?_
     refine qpu 3 hs fun a hs => ?_
     refine qld 0 (C.map (some b_6)) hs rfl fun a hs => ?_
     refine qpu 1 hs fun a hs => ?_
     rcases Bool.eq_false_or_eq_true ((mget p_51 2).isSome) with hb | hb
     ·replace hm := bif_t hm hb
      obtain ⟨e_71, h_72, hm⟩ := bind_t hm
      refine qva (.tuple #[.agg (vals [ci e_71.kind, ci e_71.size, C.slc none 0 0, C.slc none 0 0]), .bool true]) (op := (.lookup 81 (.tmp 18) (.tmp 19) true)) hs (fun o ho => run_mgetS (et := 27) (ev := (fun (x : Tslots_Slot) => .agg (vals [ci x.kind, ci x.size, C.slc none 0 0, C.slc none 0 0]))) 1 h_72 rfl ho (by kernel_rfl) (by kernel_rfl) (by kernel_rfl) (by kernel_rfl) _ hs.own) fun a hs => ?_
      refine qpu 3 hs fun a hs => ?_
      refine qal 27 [ci 0, ci 0, C.slc none 0 0, C.slc none 0 0] 5 hs fun b_73 w a hs => ?_
      refine qsa 0 [ci e_71.kind, ci e_71.size, C.slc none 0 0, C.slc none 0 0] hs rfl fun a w hs => ?_
      refine qpe 1 [(6, .bool true)] hs fun a hs => ?_
      replace hs := hs.addRow none 53 24 eC
      replace hs := hs.addRow none 51 3 eC
      exact hj70 true hm _ _ (hs.go [6] [3, 4] 5 (by kernel_rfl) (by kernel_rfl) (by kernel_rfl))
     ·replace hm := bif_f hm hb
      refine qva (.tuple #[.agg (vals [ci 0, ci 0, C.slc none 0 0, C.slc none 0 0]), .bool false]) (op := (.lookup 81 (.tmp 18) (.tmp 19) true)) hs (fun o ho => run_mgetN (et := 27) (ev := (fun (x : Tslots_Slot) => .agg (vals [ci x.kind, ci x.size, C.slc none 0 0, C.slc none 0 0]))) (z := .agg (vals [ci 0, ci 0, C.slc none 0 0, C.slc none 0 0])) 1 hb rfl ho (by kernel_rfl) (by kernel_rfl) (by kernel_rfl) (by kernel_rfl) _ hs.own) fun a hs => ?_
      refine qpu 3 hs fun a hs => ?_
      refine qal 27 [ci 0, ci 0, C.slc none 0 0, C.slc none 0 0] 5 hs fun b_74 w a hs => ?_
      refine qsa 0 [ci 0, ci 0, C.slc none 0 0, C.slc none 0 0] hs rfl fun a w hs => ?_
      refine qpe 1 [(6, .bool false)] hs fun a hs => ?_
      replace hs := hs.addRow none 53 24 eC
      replace hs := hs.addRow none 51 3 eC
      exact hj70 false hm _ _ (hs.go [6] [3, 4] 5 (by kernel_rfl) (by kernel_rfl) (by kernel_rfl))
  ·replace hm := bif_f hm hb
   replace hs := hs.known (t := 7) hb (by kernel_rfl)
   refine qpe 5 [(0, .bool false)] hs fun a hs => ?_
   exact hj8 false hm _ _ (hs.go [0] [] 2 (by kernel_rfl) (by kernel_rfl) (by kernel_rfl))
 refine qsr fun K10 hK10 => ?_
 refine qbx 2 27 [ci 1, ci 0, C.slc none 0 0, C.slc none 0 0] 5 hs fun b_11 w a hs => ?_
 refine qpk 1 [0, 1, 5] hs fun a hs => hK10 _ _ ?_
 clear hK10
 refine Vk.seq fun K12 hK12 => ?_
 refine wp_block ?_
 refine qsk 3 [0, 1, 5, 7] hs fun a hs => ?_
 refine qcf hs ?_
 refine Vk.seq fun K14 hK14 => ?_
 have hj14 : ∀ (p_45 : Bool), visorlaw48_awake.j3 k p_45 = some r → ∀ (a : Act) (w : World), St 31 a w κ [(0, pp b_7), (1, vi 4), (5, pp b_11), (10, .bool p_45)] (pt b_7 (blk [C.map (some b_6)] 83) :: mpp b_6 (fun (x : Tslots_Slot) => .agg (vals [ci x.kind, ci x.size, C.slc none 0 0, C.slc none 0 0])) ([] : List (Int × Tslots_Slot)) :: pt b_11 (blk ([ci 1, ci 0, C.slc none (([] : List Cells).length) 0, C.slc none (([] : List Cells).length) 0]) 27) :: rowp none 0 53 24 eC ([] : List Cells) :: rowp none 0 51 3 eC ([] : List Cells) :: S) → K14 a w := by
  intro p_45 hm a w hs
  unfold visorlaw48_awake.j3 at hm
  refine hK14 _ _ ?_
  refine qcs (p_45) hs (fun hb => ?_) fun hb => ?_
  ·replace hm := bif_t hm hb
   refine qse 1 [(6, vi 6)] hs fun a hs => ?_
   refine wp_ret ?_
   refine hKP9 _ _ ?_
   exact hj9 6 ([] : List (Int × Tslots_Slot)) hm _ _ (hs.go [6] [0, 1] 5 (by kernel_rfl) (by kernel_rfl) (by kernel_rfl))
  ·replace hm := bif_f hm hb
   refine wp_skip ?_
   refine hK12 _ _ ?_
   clear hK12
   refine Vk.seq fun K47 hK47 => ?_
   obtain ⟨C_48, hC_48⟩ := qC hs.own
   refine qdr 6 κ C_48 hs fun w hs hqC_48 => ?_
   have hcl := qO hC_48 hs.own
   refine qdp (fuel := 3) [0, 1, 2, 4] hs hcl hqC_48 fun a hs => ?_
   refine qdl 3 0 (C.map (some b_6)) hs hcl hqC_48 hC_48 rfl fun a hs => ?_
   refine qdn 5 2 ([ci 1, ci 0, C.slc none (([] : List Cells).length) 0, C.slc none (([] : List Cells).length) 0]) hs hcl hqC_48 hC_48 rfl fun a hs => ?_
   refine Vk.dOnly (i := 6) (by kernel_rfl) (mputOp (t := 81) (et := 27) (xm := (.tmp 28)) (xk := (.tmp 29)) (xv := (.tmp 30)) (ev := (fun (x : Tslots_Slot) => .agg (vals [ci x.kind, ci x.size, C.slc none 0 0, C.slc none 0 0]))) 4 (⟨1, 0, ([] : List Cells), ([] : List Cells)⟩ : Tslots_Slot) 1 hs rfl fun a w hs => ?_)
   refine ⟨fun h => absurd h (by decide), ?_⟩
   replace hs := hs.pick [] (L' := []) (by kernel_rfl)
   refine Vk.dDone (by kernel_rfl) ?_
   refine hK47 _ _ ?_
   clear hK47
   refine qse 1 [(6, vi 0)] hs fun a hs => ?_
   refine wp_ret ?_
   refine hKP9 _ _ ?_
   exact hj9 0 (mput ([] : List (Int × Tslots_Slot)) 4 (⟨1, 0, ([] : List Cells), ([] : List Cells)⟩ : Tslots_Slot)) hm _ _ (hs.go [6] [0, 1] 5 (by kernel_rfl) (by kernel_rfl) (by kernel_rfl))
 refine Vk.region ?_
 refine qpu 2 hs fun a hs => ?_
 refine Vk.step (Vk.call (some 13) 10 #[pp b_7, vi 4] hs (by kernel_rfl) (by kernel_rfl) (by kernel_rfl) ?_)
 refine Vk.enterI [(0, pp b_7), (1, vi 4)] Try.func10 rfl Try.ntmps10 (by kernel_rfl) (Nat.le_of_ble_eq_true (by kernel_rfl)) hs.own fun KR15 hKR15 hKP15 a hs => ?_
 have hj15 : ∀ (p_42 : Bool), visorlaw48_awake.j2 k p_42 = some r → ∀ (a : Act) (w : World), St 25 a w κ [(4, .bool p_42)] (pt b_7 (blk [C.map (some b_6)] 83) :: mpp b_6 (fun (x : Tslots_Slot) => .agg (vals [ci x.kind, ci x.size, C.slc none 0 0, C.slc none 0 0])) ([] : List (Int × Tslots_Slot)) :: pt b_11 (blk ([ci 1, ci 0, C.slc none (([] : List Cells).length) 0, C.slc none (([] : List Cells).length) 0]) 27) :: rowp none 0 53 24 eC ([] : List Cells) :: rowp none 0 51 3 eC ([] : List Cells) :: S) → KR15 a w := by
  intro p_42 hm a w hs
  unfold visorlaw48_awake.j2 at hm
  refine hKR15 _ _ ?_
  refine Vk.ret1 (P := Try.prog) (fn := Try.f10) (.bool p_42) hs rfl (by kernel_rfl) ⟨_, _, _, rfl, hs.own, fun a hs => ?_⟩
  refine qpu 2 hs fun a hs => ?_
  rcases Bool.eq_false_or_eq_true (!p_42) with hb | hb
  ·replace hm := bif_t hm hb
   replace hs := hs.known (t := 15) hb (by kernel_rfl)
   refine qpe 10 [(0, pp b_7), (1, vi 4), (5, pp b_11), (10, .bool true)] hs fun a hs => ?_
   exact hj14 true hm _ _ (hs.go [0, 1, 5, 10] [0, 1, 2, 3, 4] 5 (by kernel_rfl) (by kernel_rfl) (by kernel_rfl))
  ·replace hm := bif_f hm hb
   replace hs := hs.known (t := 15) hb (by kernel_rfl)
   refine qpu 1 hs fun a hs => ?_
   refine qld 2 (ci 1) hs rfl fun a hs => ?_
   refine qpe 8 [(0, pp b_7), (1, vi 4), (5, pp b_11), (10, .bool false)] hs fun a hs => ?_
   exact hj14 false hm _ _ (hs.go [0, 1, 5, 10] [0, 1, 2, 3, 4] 5 (by kernel_rfl) (by kernel_rfl) (by kernel_rfl))
 refine qse 1 [(0, pp b_7), (1, vi 4)] hs fun a hs => ?_
 refine Vk.seq fun K17 hK17 => ?_
 refine qsr fun K18 hK18 => ?_
 refine qpu 4 hs fun a hs => ?_
 obtain ⟨v_21, h_20, hm⟩ := bind_t hm
 refine qcl (slots_place.ok _ _ _ h_20 _ _ (pt b_11 (blk [ci 1, ci 0, C.slc none 0 0, C.slc none 0 0] 27) :: pt b_7 (blk [C.map (some b_6)] 83) :: mpp b_6 (fun (x : Tslots_Slot) => .agg (vals [ci x.kind, ci x.size, C.slc none 0 0, C.slc none 0 0])) ([] : List (Int × Tslots_Slot)) :: S) hs.own) hs fun w a hs => ?_
 refine qpk 2 [0, 1, 13] hs fun a hs => hK18 _ _ ?_
 clear hK18
 refine qcs (!v_21) hs (fun hb => ?_) fun hb => ?_
 ·replace hm := bif_t hm hb
  refine qse 1 [(4, .bool false)] hs fun a hs => ?_
  refine wp_ret ?_
  refine hKP15 _ _ ?_
  replace hs := hs.addRow none 53 24 eC
  replace hs := hs.addRow none 51 3 eC
  exact hj15 false hm _ _ (hs.go [4] [3, 4, 2, 1, 0] 5 (by kernel_rfl) (by kernel_rfl) (by kernel_rfl))
 ·replace hm := bif_f hm hb
  refine wp_skip ?_
  refine hK17 _ _ ?_
  clear hK17
  refine Vk.seq fun K23 hK23 => ?_
  have hj23 : ∀ (p_36 : Bool), visorlaw48_awake.j1 k p_36 = some r → ∀ (a : Act) (w : World), St 25 a w κ [(6, .bool p_36)] (pt b_7 (blk [C.map (some b_6)] 83) :: mpp b_6 (fun (x : Tslots_Slot) => .agg (vals [ci x.kind, ci x.size, C.slc none 0 0, C.slc none 0 0])) ([] : List (Int × Tslots_Slot)) :: pt b_11 (blk ([ci 1, ci 0, C.slc none (([] : List Cells).length) 0, C.slc none (([] : List Cells).length) 0]) 27) :: rowp none 0 53 24 eC ([] : List Cells) :: rowp none 0 51 3 eC ([] : List Cells) :: S) → K23 a w := by
   intro p_36 hm a w hs
   unfold visorlaw48_awake.j1 at hm
   refine hK23 _ _ ?_
   refine qse 3 [(4, .bool (!p_36))] hs fun a hs => ?_
   refine wp_ret ?_
   refine hKP15 _ _ ?_
   exact hj15 (!p_36) hm _ _ (hs.go [4] [0, 1, 2, 3, 4] 5 (by kernel_rfl) (by kernel_rfl) (by kernel_rfl))
  refine Vk.region ?_
  refine qpu 3 hs fun a hs => ?_
  refine qld 1 (C.map (some b_6)) hs rfl fun a hs => ?_
  refine qpu 1 hs fun a hs => ?_
  rcases Bool.eq_false_or_eq_true ((mget ([] : List (Int × Tslots_Slot)) 4).isSome) with hb | hb
  ·replace hm := bif_t hm hb
   obtain ⟨e_24, h_25, hm⟩ := bind_t hm
   refine qva (.tuple #[.agg (vals [ci e_24.kind, ci e_24.size, C.slc none 0 0, C.slc none 0 0]), .bool true]) (op := (.lookup 81 (.tmp 18) (.tmp 19) true)) hs (fun o ho => run_mgetS (et := 27) (ev := (fun (x : Tslots_Slot) => .agg (vals [ci x.kind, ci x.size, C.slc none 0 0, C.slc none 0 0]))) 2 h_25 rfl ho (by kernel_rfl) (by kernel_rfl) (by kernel_rfl) (by kernel_rfl) _ hs.own) fun a hs => ?_
   refine qpu 3 hs fun a hs => ?_
   refine qal 27 [ci 0, ci 0, C.slc none 0 0, C.slc none 0 0] 5 hs fun b_26 w a hs => ?_
   refine qsa 0 [ci e_24.kind, ci e_24.size, C.slc none 0 0, C.slc none 0 0] hs rfl fun a w hs => ?_
   refine qpe 1 [(6, .bool true)] hs fun a hs => ?_
   replace hs := hs.addRow none 53 24 eC
   replace hs := hs.addRow none 51 3 eC
   replace hs := hs.addRow none 53 24 eC
   replace hs := hs.addRow none 51 3 eC
   exact hj23 true hm _ _ (hs.go [6] [6, 7, 5, 1, 0] 8 (by kernel_rfl) (by kernel_rfl) (by kernel_rfl))
  ·replace hm := bif_f hm hb
   refine qva (.tuple #[.agg (vals [ci 0, ci 0, C.slc none 0 0, C.slc none 0 0]), .bool false]) (op := (.lookup 81 (.tmp 18) (.tmp 19) true)) hs (fun o ho => run_mgetN (et := 27) (ev := (fun (x : Tslots_Slot) => .agg (vals [ci x.kind, ci x.size, C.slc none 0 0, C.slc none 0 0]))) (z := .agg (vals [ci 0, ci 0, C.slc none 0 0, C.slc none 0 0])) 2 hb rfl ho (by kernel_rfl) (by kernel_rfl) (by kernel_rfl) (by kernel_rfl) _ hs.own) fun a hs => ?_
   refine qpu 3 hs fun a hs => ?_
   refine qal 27 [ci 0, ci 0, C.slc none 0 0, C.slc none 0 0] 5 hs fun b_27 w a hs => ?_
   refine qsa 0 [ci 0, ci 0, C.slc none 0 0, C.slc none 0 0] hs rfl fun a w hs => ?_
   refine qpe 1 [(6, .bool false)] hs fun a hs => ?_
   replace hs := hs.addRow none 53 24 eC
   replace hs := hs.addRow none 51 3 eC
   replace hs := hs.addRow none 53 24 eC
   replace hs := hs.addRow none 51 3 eC
   exact hj23 false hm _ _ (hs.go [6] [6, 7, 5, 1, 0] 8 (by kernel_rfl) (by kernel_rfl) (by kernel_rfl))


def visorlaw48_SlotsKeep.j13 (k : Nat) (p_380 : Bool) : Option (Bool) := some p_380
def visorlaw48_SlotsKeep.j12 (k : Nat) (p_375 : Int) : Option (Bool) := (bif p_375 == 7 then (visorlaw48_awake.m k).bind fun v_379 => visorlaw48_SlotsKeep.j13 k v_379 else visorlaw48_SlotsKeep.j13 k false)
def visorlaw48_SlotsKeep.j7_3 (k : Nat) (p_371 : Int) : Option (Bool) := visorlaw48_SlotsKeep.j12 k p_371
def visorlaw48_SlotsKeep.j11 (k : Nat) (x0 : Int) (p_12 : Int) (p_334 : List (Int × Tslots_Slot)) (p_335 : Bool) : Option (Bool) := (bif p_335 then some false else (slots_place.m k (Int.tmod (IntKind.i64.wrap x0) 4)).bind fun v_346 => (bif !v_346 then visorlaw48_SlotsKeep.j7_3 k 6 else (bif (mget p_334 (Int.tmod (IntKind.i64.wrap x0) 4)).isSome then ((mget p_334 (Int.tmod (IntKind.i64.wrap x0) 4))).bind fun e_349 => (bif e_349.kind != p_12 then visorlaw48_SlotsKeep.j7_3 k 7 else visorlaw48_SlotsKeep.j12 k 0) else visorlaw48_SlotsKeep.j7_3 k 7)))
def visorlaw48_SlotsKeep.j3_5 (k : Nat) (x0 : Int) (p_12 : Int) (p_310 : List (Int × Tslots_Slot)) (p_328 : Bool) : Option (Bool) := (bif !p_328 then visorlaw48_SlotsKeep.j11 k x0 p_12 p_310 true else visorlaw48_SlotsKeep.j11 k x0 p_12 p_310 (((p_310.length : Nat) : Int) != 0))
def visorlaw48_SlotsKeep.j2_5 (k : Nat) (x0 : Int) (p_12 : Int) (p_310 : List (Int × Tslots_Slot)) (p_326 : Bool) : Option (Bool) := visorlaw48_SlotsKeep.j3_5 k x0 p_12 p_310 (!p_326)
def visorlaw48_SlotsKeep.j10 (k : Nat) (x0 : Int) (p_12 : Int) (p_309 : Int) (p_310 : List (Int × Tslots_Slot)) : Option (Bool) := (bif p_309 != 0 then visorlaw48_SlotsKeep.j11 k x0 p_12 p_310 true else (slots_place.m k (Int.tmod (IntKind.i64.wrap x0) 4)).bind fun v_317 => (bif !v_317 then visorlaw48_SlotsKeep.j3_5 k x0 p_12 p_310 false else (bif (mget p_310 (Int.tmod (IntKind.i64.wrap x0) 4)).isSome then ((mget p_310 (Int.tmod (IntKind.i64.wrap x0) 4))).bind fun e_320 => visorlaw48_SlotsKeep.j2_5 k x0 p_12 p_310 true else visorlaw48_SlotsKeep.j2_5 k x0 p_12 p_310 false)))
def visorlaw48_SlotsKeep.j3_4 (k : Nat) (x0 : Int) (p_12 : Int) (p_71 : List (Int × Tslots_Slot)) (p_305 : Bool) : Option (Bool) := (bif p_305 then visorlaw48_SlotsKeep.j10 k x0 p_12 7 p_71 else visorlaw48_SlotsKeep.j10 k x0 p_12 0 (mdel p_71 (Int.tmod (IntKind.i64.wrap x0) 4)))
def visorlaw48_SlotsKeep.j2_4 (k : Nat) (x0 : Int) (p_12 : Int) (p_71 : List (Int × Tslots_Slot)) (p_303 : Bool) : Option (Bool) := visorlaw48_SlotsKeep.j3_4 k x0 p_12 p_71 (!p_303)
def visorlaw48_SlotsKeep.j4_2 (k : Nat) (x0 : Int) (p_12 : Int) (p_71 : List (Int × Tslots_Slot)) (p_274 : Bool) : Option (Bool) := (bif p_274 then (slots_place.m k (Int.tmod (IntKind.i64.wrap x0) 4)).bind fun v_285 => (bif !v_285 then visorlaw48_SlotsKeep.j10 k x0 p_12 6 p_71 else (slots_place.m k (Int.tmod (IntKind.i64.wrap x0) 4)).bind fun v_294 => (bif !v_294 then visorlaw48_SlotsKeep.j3_4 k x0 p_12 p_71 false else (bif (mget p_71 (Int.tmod (IntKind.i64.wrap x0) 4)).isSome then ((mget p_71 (Int.tmod (IntKind.i64.wrap x0) 4))).bind fun e_297 => visorlaw48_SlotsKeep.j2_4 k x0 p_12 p_71 true else visorlaw48_SlotsKeep.j2_4 k x0 p_12 p_71 false))) else none)
def visorlaw48_SlotsKeep.j3_3 (k : Nat) (x0 : Int) (p_12 : Int) (p_71 : List (Int × Tslots_Slot)) (p_271 : Bool) : Option (Bool) := (bif !p_271 then visorlaw48_SlotsKeep.j4_2 k x0 p_12 p_71 true else visorlaw48_SlotsKeep.j4_2 k x0 p_12 p_71 false)
def visorlaw48_SlotsKeep.j2_3 (k : Nat) (x0 : Int) (p_12 : Int) (p_71 : List (Int × Tslots_Slot)) (p_265 : Bool) : Option (Bool) := visorlaw48_SlotsKeep.j3_3 k x0 p_12 p_71 (!p_265)
def visorlaw48_SlotsKeep.l2 (x4 : List Cells) : Nat → Int → Option (Sum (Bool) (Unit))
 | 0, _ => none
 | k + 1, q_212 => (bif decide (q_212 < ((x4.length : Nat) : Int)) then (if 0 ≤ q_212 then (x4[q_212.toNat]?).bind fun e_221 => (if e_221.length = 3 then (if 0 ≤ q_212 then (x4[q_212.toNat]?).bind fun e_229 => (if e_229.length = 3 then (if Kinds ((List.replicate 3 [LK.int .i64]).flatten) e_221 then (if Kinds ((List.replicate 3 [LK.int .i64]).flatten) e_229 then (bif !(ceq e_221 e_229) then some (.inl false) else visorlaw48_SlotsKeep.l2 x4 k (IntKind.i64.wrap (q_212 + 1))) else none) else none) else none) else none) else none) else none) else some (.inr ()))
def visorlaw48_SlotsKeep.l1 (x3 : List Cells) : Nat → Int → Option (Sum (Bool) (Unit))
 | 0, _ => none
 | k + 1, q_183 => (bif decide (q_183 < ((x3.length : Nat) : Int)) then (if 0 ≤ q_183 then (x3[q_183.toNat]?).bind fun e_192 => (if e_192.length = 24 then (if 0 ≤ q_183 then (x3[q_183.toNat]?).bind fun e_200 => (if e_200.length = 24 then (if Kinds ((List.replicate 8 ((List.replicate 3 [LK.int .i64]).flatten)).flatten) e_192 then (if Kinds ((List.replicate 8 ((List.replicate 3 [LK.int .i64]).flatten)).flatten) e_200 then (bif !(ceq e_192 e_200) then some (.inl false) else visorlaw48_SlotsKeep.l1 x3 k (IntKind.i64.wrap (q_183 + 1))) else none) else none) else none) else none) else none) else none) else some (.inr ()))
def visorlaw48_SlotsKeep.j9 (k : Nat) (x0 : Int) (x2 : Int) (x3 : List Cells) (x4 : List Cells) (x5 : Int) (p_12 : Int) (p_71 : List (Int × Tslots_Slot)) (e_86 : Tslots_Slot) (p_133 : Int) (p_172 : Int) : Option (Bool) := (bif ((((p_133 != 7) || (!((p_172 == 0) == (x5 == (Int.tmod (IntKind.i64.wrap x0) 4))))) || (e_86.size != x2)) || (((x3.length : Nat) : Int) != ((x3.length : Nat) : Int))) || (((x4.length : Nat) : Int) != ((x4.length : Nat) : Int)) then some false else (visorlaw48_SlotsKeep.l1 x3 k 0).bind fun x => match x with | .inl v => some v | .inr () => (visorlaw48_SlotsKeep.l2 x4 k 0).bind fun x => match x with | .inl v => some v | .inr () => (slots_place.m k (Int.tmod (IntKind.i64.wrap x0) 4)).bind fun v_252 => (bif !v_252 then visorlaw48_SlotsKeep.j3_3 k x0 p_12 p_71 false else (bif (mget p_71 (Int.tmod (IntKind.i64.wrap x0) 4)).isSome then ((mget p_71 (Int.tmod (IntKind.i64.wrap x0) 4))).bind fun e_255 => visorlaw48_SlotsKeep.j2_3 k x0 p_12 p_71 true else visorlaw48_SlotsKeep.j2_3 k x0 p_12 p_71 false)))
def visorlaw48_SlotsKeep.j7_2 (k : Nat) (x0 : Int) (x2 : Int) (x3 : List Cells) (x4 : List Cells) (x5 : Int) (p_12 : Int) (p_71 : List (Int × Tslots_Slot)) (e_86 : Tslots_Slot) (p_133 : Int) (p_168 : Int) : Option (Bool) := visorlaw48_SlotsKeep.j9 k x0 x2 x3 x4 x5 p_12 p_71 e_86 p_133 p_168
def visorlaw48_SlotsKeep.j8 (k : Nat) (x0 : Int) (x2 : Int) (x3 : List Cells) (x4 : List Cells) (x5 : Int) (p_12 : Int) (p_71 : List (Int × Tslots_Slot)) (e_86 : Tslots_Slot) (p_133 : Int) : Option (Bool) := (slots_place.m k x5).bind fun v_143 => (bif !v_143 then visorlaw48_SlotsKeep.j7_2 k x0 x2 x3 x4 x5 p_12 p_71 e_86 p_133 6 else (bif (mget p_71 x5).isSome then ((mget p_71 x5)).bind fun e_146 => (bif e_146.kind != p_12 then visorlaw48_SlotsKeep.j7_2 k x0 x2 x3 x4 x5 p_12 p_71 e_86 p_133 7 else visorlaw48_SlotsKeep.j9 k x0 x2 x3 x4 x5 p_12 p_71 e_86 p_133 0) else visorlaw48_SlotsKeep.j7_2 k x0 x2 x3 x4 x5 p_12 p_71 e_86 p_133 7))
def visorlaw48_SlotsKeep.j7 (k : Nat) (x0 : Int) (x2 : Int) (x3 : List Cells) (x4 : List Cells) (x5 : Int) (p_12 : Int) (p_71 : List (Int × Tslots_Slot)) (e_86 : Tslots_Slot) (p_129 : Int) : Option (Bool) := visorlaw48_SlotsKeep.j8 k x0 x2 x3 x4 x5 p_12 p_71 e_86 p_129
def visorlaw48_SlotsKeep.j6 (k : Nat) (x0 : Int) (x2 : Int) (x3 : List Cells) (x4 : List Cells) (x5 : Int) (p_12 : Int) (p_71 : List (Int × Tslots_Slot)) (p_72 : Bool) : Option (Bool) := (bif p_72 then some false else (slots_place.m k (Int.tmod (IntKind.i64.wrap x0) 4)).bind fun v_83 => (bif !v_83 then none else (bif (mget p_71 (Int.tmod (IntKind.i64.wrap x0) 4)).isSome then ((mget p_71 (Int.tmod (IntKind.i64.wrap x0) 4))).bind fun e_86 => (bif e_86.kind != p_12 then none else (slots_place.m k (Int.tmod (IntKind.i64.wrap x0) 4)).bind fun v_104 => (bif !v_104 then visorlaw48_SlotsKeep.j7 k x0 x2 x3 x4 x5 p_12 p_71 e_86 6 else (bif (mget p_71 (Int.tmod (IntKind.i64.wrap x0) 4)).isSome then ((mget p_71 (Int.tmod (IntKind.i64.wrap x0) 4))).bind fun e_107 => (bif e_107.kind != (IntKind.i64.wrap (3 - p_12)) then visorlaw48_SlotsKeep.j7 k x0 x2 x3 x4 x5 p_12 p_71 e_86 7 else visorlaw48_SlotsKeep.j8 k x0 x2 x3 x4 x5 p_12 p_71 e_86 0) else visorlaw48_SlotsKeep.j7 k x0 x2 x3 x4 x5 p_12 p_71 e_86 7))) else none)))
def visorlaw48_SlotsKeep.j3_2 (k : Nat) (x0 : Int) (x2 : Int) (x3 : List Cells) (x4 : List Cells) (x5 : Int) (p_12 : Int) (p_47 : List (Int × Tslots_Slot)) (p_65 : Bool) : Option (Bool) := (bif p_65 then visorlaw48_SlotsKeep.j6 k x0 x2 x3 x4 x5 p_12 p_47 true else visorlaw48_SlotsKeep.j6 k x0 x2 x3 x4 x5 p_12 p_47 (((p_47.length : Nat) : Int) != 1))
def visorlaw48_SlotsKeep.j2_2 (k : Nat) (x0 : Int) (x2 : Int) (x3 : List Cells) (x4 : List Cells) (x5 : Int) (p_12 : Int) (p_47 : List (Int × Tslots_Slot)) (p_63 : Bool) : Option (Bool) := visorlaw48_SlotsKeep.j3_2 k x0 x2 x3 x4 x5 p_12 p_47 (!p_63)
def visorlaw48_SlotsKeep.j5 (k : Nat) (x0 : Int) (x2 : Int) (x3 : List Cells) (x4 : List Cells) (x5 : Int) (p_12 : Int) (p_46 : Int) (p_47 : List (Int × Tslots_Slot)) : Option (Bool) := (bif p_46 != 0 then visorlaw48_SlotsKeep.j6 k x0 x2 x3 x4 x5 p_12 p_47 true else (slots_place.m k (Int.tmod (IntKind.i64.wrap x0) 4)).bind fun v_54 => (bif !v_54 then visorlaw48_SlotsKeep.j3_2 k x0 x2 x3 x4 x5 p_12 p_47 false else (bif (mget p_47 (Int.tmod (IntKind.i64.wrap x0) 4)).isSome then ((mget p_47 (Int.tmod (IntKind.i64.wrap x0) 4))).bind fun e_57 => visorlaw48_SlotsKeep.j2_2 k x0 x2 x3 x4 x5 p_12 p_47 true else visorlaw48_SlotsKeep.j2_2 k x0 x2 x3 x4 x5 p_12 p_47 false)))
def visorlaw48_SlotsKeep.j4 (k : Nat) (x0 : Int) (x2 : Int) (x3 : List Cells) (x4 : List Cells) (x5 : Int) (p_12 : Int) (p_41 : Bool) : Option (Bool) := (bif p_41 then visorlaw48_SlotsKeep.j5 k x0 x2 x3 x4 x5 p_12 6 ([] : List (Int × Tslots_Slot)) else visorlaw48_SlotsKeep.j5 k x0 x2 x3 x4 x5 p_12 0 (mput ([] : List (Int × Tslots_Slot)) (Int.tmod (IntKind.i64.wrap x0) 4) (⟨p_12, x2, x3, x4⟩ : Tslots_Slot)))
def visorlaw48_SlotsKeep.j3 (k : Nat) (x0 : Int) (x2 : Int) (x3 : List Cells) (x4 : List Cells) (x5 : Int) (p_12 : Int) (p_40 : Bool) : Option (Bool) := (bif !p_40 then visorlaw48_SlotsKeep.j4 k x0 x2 x3 x4 x5 p_12 true else (bif p_12 != 1 then visorlaw48_SlotsKeep.j4 k x0 x2 x3 x4 x5 p_12 (p_12 != 2) else visorlaw48_SlotsKeep.j4 k x0 x2 x3 x4 x5 p_12 false))
def visorlaw48_SlotsKeep.j2 (k : Nat) (x0 : Int) (x2 : Int) (x3 : List Cells) (x4 : List Cells) (x5 : Int) (p_12 : Int) (p_38 : Bool) : Option (Bool) := visorlaw48_SlotsKeep.j3 k x0 x2 x3 x4 x5 p_12 (!p_38)
def visorlaw48_SlotsKeep.j1 (k : Nat) (x0 : Int) (x2 : Int) (x3 : List Cells) (x4 : List Cells) (x5 : Int) (p_12 : Int) : Option (Bool) := (slots_place.m k (Int.tmod (IntKind.i64.wrap x0) 4)).bind fun v_27 => (bif !v_27 then visorlaw48_SlotsKeep.j3 k x0 x2 x3 x4 x5 p_12 false else (bif (mget ([] : List (Int × Tslots_Slot)) (Int.tmod (IntKind.i64.wrap x0) 4)).isSome then ((mget ([] : List (Int × Tslots_Slot)) (Int.tmod (IntKind.i64.wrap x0) 4))).bind fun e_30 => visorlaw48_SlotsKeep.j2 k x0 x2 x3 x4 x5 p_12 true else visorlaw48_SlotsKeep.j2 k x0 x2 x3 x4 x5 p_12 false))
abbrev visorlaw48_SlotsKeep.R (κ : Ctx) (S : List HP) (x0 : Int) (x1 : Bool) (x2 : Int) (x3 : List Cells) (x4 : List Cells) (x5 : Int) (A_x3 : Option Addr) (c_x3 : Nat) (A_x4 : Option Addr) (c_x4 : Nat) (r : Bool) : Ending → World → Prop := fun e w' => e = .returned (.bool r) ∧ Ow κ w' (S)
def visorlaw48_SlotsKeep.m (k : Nat) (x0 : Int) (x1 : Bool) (x2 : Int) (x3 : List Cells) (x4 : List Cells) (x5 : Int) : Option Bool := (bif x1 then visorlaw48_SlotsKeep.j1 k x0 x2 x3 x4 x5 2 else visorlaw48_SlotsKeep.j1 k x0 x2 x3 x4 x5 1)

set_option maxRecDepth 100000 in
set_option maxHeartbeats 4000000 in
theorem visorlaw48_SlotsKeep.ok (k : Nat) (x0 : Int) (x1 : Bool) (x2 : Int) (x3 : List Cells) (x4 : List Cells) (x5 : Int) (r : Bool) (hm : visorlaw48_SlotsKeep.m k x0 x1 x2 x3 x4 x5 = some r) (κ : Ctx) (w : World) (S : List HP) (A_x3 : Option Addr) (c_x3 : Nat) (hx_x3 : Sl κ [] A_x3 c_x3 24 eC x3) (A_x4 : Option Addr) (c_x4 : Nat) (hx_x4 : Sl κ [] A_x4 c_x4 3 eC x4) (ho : Ow κ w (S)) :
  Calls Try.prog 4 #[.int .u8 x0, .bool x1, vi x2, .slice A_x3 x3.length c_x3, .slice A_x4 x4.length c_x4, vi x5] w (visorlaw48_SlotsKeep.R κ S x0 x1 x2 x3 x4 x5 A_x3 c_x3 A_x4 c_x4 r) := by
 have ht_x3 := hx_x3
 generalize hRR : visorlaw48_SlotsKeep.R κ S x0 x1 x2 x3 x4 x5 A_x3 c_x3 A_x4 c_x4 r = RR
 replace hx_x3 := Sl.top (S := S) hx_x3
 have ht_x4 := hx_x4
 replace hx_x4 := Sl.top (S := S) hx_x4
 unfold visorlaw48_SlotsKeep.m at hm
 refine qen [(0, .int .u8 x0), (1, .bool x1), (2, vi x2), (3, .slice A_x3 x3.length c_x3), (4, .slice A_x4 x4.length c_x4), (5, vi x5)] Try.func4 Try.ntmps4 ho fun a hs => ?_
 refine qsk 1 [0, 1, 2, 3, 4, 5] hs fun a hs => ?_
 refine qsr fun K2 hK2 => ?_
 refine Vk.step (Vk.call (some 26) 12 #[] hs (by kernel_rfl) (by kernel_rfl) (by kernel_rfl) ?_)
 refine Vk.enterI [] Try.func12 rfl Try.ntmps12 (by kernel_rfl) (Nat.le_of_ble_eq_true (by kernel_rfl)) hs.own fun KR3 hKR3 hKP3 a hs => ?_
 refine qse 1 [] hs fun a hs => ?_
 refine qsr fun K5 hK5 => ?_
 refine Vk.step (mppOp 1 81 (fun (x : Tslots_Slot) => .agg (vals [ci x.kind, ci x.size, C.slc none 0 0, C.slc none 0 0])) hs fun b_6 w a hs => ?_)
 refine qpu 1 hs fun a hs => ?_
 refine qbx 2 83 [C.map (some b_6)] 3 hs fun b_7 w a hs => ?_
 refine qpe 1 [(0, pp b_7)] hs fun a hs => hK5 _ _ ?_
 clear hK5
 refine wp_ret ?_
 refine hKP3 _ _ ?_
 refine hKR3 _ _ ?_
 refine Vk.ret1 (P := Try.prog) (fn := Try.f12) (pp b_7) hs rfl (by kernel_rfl) ⟨_, _, _, rfl, hs.own, fun a hs => ?_⟩
 refine qpk 1 [0, 1, 2, 3, 4, 5, 13] hs fun a hs => hK2 _ _ ?_
 clear hK2
 refine qsk 4 [1, 2, 3, 4, 5, 13, 14] hs fun a hs => ?_
 refine qsk 1 [1, 2, 3, 4, 5, 13, 14, 15] hs fun a hs => ?_
 refine Vk.seq fun K10 hK10 => ?_
 have hj10 : ∀ (p_12 : Int), visorlaw48_SlotsKeep.j1 k x0 x2 x3 x4 x5 p_12 = some r → ∀ (a : Act) (w : World), St 174 a w κ [(2, vi x2), (3, .slice A_x3 x3.length c_x3), (4, .slice A_x4 x4.length c_x4), (5, vi x5), (13, pp b_7), (14, vi (Int.tmod (IntKind.i64.wrap x0) 4)), (15, vi p_12)] (pt b_7 (blk [C.map (some b_6)] 83) :: mpp b_6 (fun (x : Tslots_Slot) => .agg (vals [ci x.kind, ci x.size, C.slc none 0 0, C.slc none 0 0])) ([] : List (Int × Tslots_Slot)) :: S) → K10 a w := by
  intro p_12 hm a w hs
  unfold visorlaw48_SlotsKeep.j1 at hm
  refine hK10 _ _ ?_
  refine Vk.seq fun K13 hK13 => ?_
  refine Vk.seq fun K14 hK14 => ?_
  have hj14 : ∀ (p_71 : List (Int × Tslots_Slot)) (p_72 : Bool), visorlaw48_SlotsKeep.j6 k x0 x2 x3 x4 x5 p_12 p_71 p_72 = some r → ∀ (a : Act) (w : World), St 174 a w κ [(2, vi x2), (3, .slice A_x3 x3.length c_x3), (4, .slice A_x4 x4.length c_x4), (5, vi x5), (13, pp b_7), (14, vi (Int.tmod (IntKind.i64.wrap x0) 4)), (15, vi p_12), (49, .bool p_72)] (pt b_7 (blk [C.map (some b_6)] 83) :: mpp b_6 (fun (x : Tslots_Slot) => .agg (vals [ci x.kind, ci x.size, C.slc A_x3 x3.length c_x3, C.slc A_x4 x4.length c_x4])) p_71 :: S) → K14 a w := by
   intro p_71 p_72 hm a w hs
   unfold visorlaw48_SlotsKeep.j6 at hm
   refine hK14 _ _ ?_
   refine qcs (p_72) hs (fun hb => ?_) fun hb => ?_
   ·replace hm := bif_t hm hb
    refine qse 1 [(12, .bool false)] hs fun a hs => ?_
    refine wp_ret ?_
    exact qr1 (.bool false) hs rfl hRR (by cases hm; exact ⟨rfl, hs.own.f1.drop.drop⟩)
   ·replace hm := bif_f hm hb
    refine wp_skip ?_
    refine hK13 _ _ ?_
    clear hK13
    refine qsr fun K74 hK74 => ?_
    refine qpu 3 hs fun a hs => ?_
    refine Vk.step (Vk.call (some 54) 7 #[pp b_7, vi (Int.tmod (IntKind.i64.wrap x0) 4), vi p_12] hs (by kernel_rfl) (by kernel_rfl) (by kernel_rfl) ?_)
    refine Vk.enterI [(0, pp b_7), (1, vi (Int.tmod (IntKind.i64.wrap x0) 4)), (2, vi p_12)] Try.func7 rfl Try.ntmps7 (by kernel_rfl) (Nat.le_of_ble_eq_true (by kernel_rfl)) hs.own fun KR75 hKR75 hKP75 a hs => ?_
    refine qsr fun K76 hK76 => ?_
    refine qal 27 [ci 0, ci 0, C.slc none 0 0, C.slc none 0 0] 6 hs fun b_77 w a hs => ?_
    refine qpk 1 [0, 1, 2, 6] hs fun a hs => hK76 _ _ ?_
    clear hK76
    refine Vk.seq fun K78 hK78 => ?_
    refine wp_block ?_
    refine qsk 3 [0, 1, 2, 6, 10] hs fun a hs => ?_
    refine qcf hs ?_
    refine qsr fun K80 hK80 => ?_
    refine qpu 1 hs fun a hs => ?_
    obtain ⟨v_83, h_82, hm⟩ := bind_t hm
    refine qcl (slots_place.ok _ _ _ h_82 _ _ (pt b_77 (blk [ci 0, ci 0, C.slc none 0 0, C.slc none 0 0] 27) :: pt b_7 (blk [C.map (some b_6)] 83) :: mpp b_6 (fun (x : Tslots_Slot) => .agg (vals [ci x.kind, ci x.size, C.slc A_x3 x3.length c_x3, C.slc A_x4 x4.length c_x4])) p_71 :: S) hs.own) hs fun w a hs => ?_
    refine qpk 2 [0, 1, 2, 6, 14] hs fun a hs => hK80 _ _ ?_
    clear hK80
    refine qcs (!v_83) hs (fun hb => ?_) fun hb => ?_
    ·replace hm := bif_t hm hb
     refine qsr fun K84 hK84 => ?_
     refine qpu 1 hs fun a hs => ?_
     refine qsa 0 [ci 0, ci 0, C.slc none 0 0, C.slc none 0 0] hs rfl fun a w hs => ?_
     refine qpe 1 [(6, pp b_77), (7, vi 6)] hs fun a hs => hK84 _ _ ?_
     clear hK84
     refine wp_ret ?_
     refine hKP75 _ _ ?_
     cases hm
    ·replace hm := bif_f hm hb
     refine wp_skip ?_
     refine hK78 _ _ ?_
     clear hK78
     refine qsr fun K85 hK85 => ?_
     refine qpu 3 hs fun a hs => ?_
     refine qld 1 (C.map (some b_6)) hs rfl fun a hs => ?_
     refine qpu 1 hs fun a hs => ?_
     rcases Bool.eq_false_or_eq_true ((mget p_71 (Int.tmod (IntKind.i64.wrap x0) 4)).isSome) with hb | hb
     ·replace hm := bif_t hm hb
      obtain ⟨e_86, h_87, hm⟩ := bind_t hm
      refine qva (.tuple #[.agg (vals [ci e_86.kind, ci e_86.size, C.slc A_x3 x3.length c_x3, C.slc A_x4 x4.length c_x4]), .bool true]) (op := (.lookup 81 (.tmp 23) (.tmp 24) true)) hs (fun o ho => run_mgetS (et := 27) (ev := (fun (x : Tslots_Slot) => .agg (vals [ci x.kind, ci x.size, C.slc A_x3 x3.length c_x3, C.slc A_x4 x4.length c_x4]))) 2 h_87 rfl ho (by kernel_rfl) (by kernel_rfl) (by kernel_rfl) (by kernel_rfl) _ hs.own) fun a hs => ?_
      refine qpu 3 hs fun a hs => ?_
      refine qal 27 [ci 0, ci 0, C.slc none 0 0, C.slc none 0 0] 8 hs fun b_88 w a hs => ?_
      refine qsa 0 [ci e_86.kind, ci e_86.size, C.slc A_x3 x3.length c_x3, C.slc A_x4 x4.length c_x4] hs rfl fun a w hs => ?_
      refine qpk 1 [2, 6, 8, 9] hs fun a hs => hK85 _ _ ?_
      refine Vk.seq fun K90 hK90 => ?_
      refine qsr fun K91 hK91 => ?_
      refine qpu 4 hs fun a hs => ?_
      refine qld 0 (ci e_86.kind) hs rfl fun a hs => ?_
      refine qpk 3 [6, 8, 35] hs fun a hs => hK91 _ _ ?_
      clear hK91
      refine qcs (e_86.kind != p_12) hs (fun hb => ?_) fun hb => ?_
      ·replace hm := bif_t hm hb
       refine qsr fun K92 hK92 => ?_
       refine qpu 1 hs fun a hs => ?_
       refine qsa 1 [ci 0, ci 0, C.slc none 0 0, C.slc none 0 0] hs rfl fun a w hs => ?_
       refine qpe 1 [(6, pp b_77), (7, vi 7)] hs fun a hs => hK92 _ _ ?_
       clear hK92
       refine wp_ret ?_
       refine hKP75 _ _ ?_
       cases hm
      ·replace hm := bif_f hm hb
       refine wp_skip ?_
       refine hK90 _ _ ?_
       clear hK90
       refine qsr fun K93 hK93 => ?_
       refine qln 0 ([ci e_86.kind, ci e_86.size, C.slc A_x3 x3.length c_x3, C.slc A_x4 x4.length c_x4]) hs rfl fun a hs => ?_
       refine qsa 1 [ci e_86.kind, ci e_86.size, C.slc A_x3 x3.length c_x3, C.slc A_x4 x4.length c_x4] hs rfl fun a w hs => ?_
       refine qpe 1 [(6, pp b_77), (7, vi 0)] hs fun a hs => hK93 _ _ ?_
       clear hK93
       refine wp_ret ?_
       refine hKP75 _ _ ?_
       refine hKR75 _ _ ?_
       refine Vk.retCT (P := Try.prog) (fn := Try.f7) [ci e_86.kind, ci e_86.size, C.slc A_x3 x3.length c_x3, C.slc A_x4 x4.length c_x4] (vi 0) hs rfl (by kernel_rfl) (sz := 4) (by kernel_rfl) rfl (CellsAt.all 1 rfl) (by kernel_rfl) ⟨_, _, _, rfl, hs.own, fun a hs => ?_⟩
       refine qpu 3 hs fun a hs => ?_
       refine qal 27 [ci 0, ci 0, C.slc none 0 0, C.slc none 0 0] 16 hs fun b_94 w a hs => ?_
       refine qsa 0 [ci e_86.kind, ci e_86.size, C.slc A_x3 x3.length c_x3, C.slc A_x4 x4.length c_x4] hs rfl fun a w hs => ?_
       refine qpe 1 [(2, vi x2), (3, .slice A_x3 x3.length c_x3), (4, .slice A_x4 x4.length c_x4), (5, vi x5), (13, pp b_7), (14, vi (Int.tmod (IntKind.i64.wrap x0) 4)), (15, vi p_12), (16, pp b_94), (17, vi 0)] hs fun a hs => hK74 _ _ ?_
       clear hK74
       refine Vk.seq fun K95 hK95 => ?_
       have hj95 : ∀ (p_133 : Int), visorlaw48_SlotsKeep.j8 k x0 x2 x3 x4 x5 p_12 p_71 e_86 p_133 = some r → ∀ (a : Act) (w : World), St 174 a w κ [(2, vi x2), (3, .slice A_x3 x3.length c_x3), (4, .slice A_x4 x4.length c_x4), (5, vi x5), (13, pp b_7), (14, vi (Int.tmod (IntKind.i64.wrap x0) 4)), (15, vi p_12), (16, pp b_94), (17, vi 0), (19, vi p_133)] (pt b_7 (blk [C.map (some b_6)] 83) :: mpp b_6 (fun (x : Tslots_Slot) => .agg (vals [ci x.kind, ci x.size, C.slc A_x3 x3.length c_x3, C.slc A_x4 x4.length c_x4])) p_71 :: pt b_94 (blk [ci e_86.kind, ci e_86.size, C.slc A_x3 x3.length c_x3, C.slc A_x4 x4.length c_x4] 27) :: S) → K95 a w := by
        intro p_133 hm a w hs
        unfold visorlaw48_SlotsKeep.j8 at hm
        refine hK95 _ _ ?_
        refine Vk.seq fun K134 hK134 => ?_
        have hj134 : ∀ (p_172 : Int), visorlaw48_SlotsKeep.j9 k x0 x2 x3 x4 x5 p_12 p_71 e_86 p_133 p_172 = some r → ∀ (a : Act) (w : World), St 174 a w κ [(2, vi x2), (3, .slice A_x3 x3.length c_x3), (4, .slice A_x4 x4.length c_x4), (5, vi x5), (13, pp b_7), (14, vi (Int.tmod (IntKind.i64.wrap x0) 4)), (15, vi p_12), (16, pp b_94), (17, vi 0), (19, vi p_133), (21, vi p_172)] (pt b_7 (blk [C.map (some b_6)] 83) :: mpp b_6 (fun (x : Tslots_Slot) => .agg (vals [ci x.kind, ci x.size, C.slc A_x3 x3.length c_x3, C.slc A_x4 x4.length c_x4])) p_71 :: pt b_94 (blk [ci e_86.kind, ci e_86.size, C.slc A_x3 x3.length c_x3, C.slc A_x4 x4.length c_x4] 27) :: S) → K134 a w := by
         intro p_172 hm a w hs
         unfold visorlaw48_SlotsKeep.j9 at hm
         refine hK134 _ _ ?_
         refine Vk.seq fun K173 hK173 => ?_
         refine qsr fun K174 hK174 => ?_
         refine qpu 7 hs fun a hs => ?_
         refine qsc 78 7 hs fun a hs => ?_
         refine qpu 1 hs fun a hs => ?_
         suffices hj_176 : ∀ a, St 174 a w κ [(2, vi x2), (3, .slice A_x3 x3.length c_x3), (4, .slice A_x4 x4.length c_x4), (5, vi x5), (13, pp b_7), (14, vi (Int.tmod (IntKind.i64.wrap x0) 4)), (15, vi p_12), (16, pp b_94), (17, vi 0), (19, vi p_133), (21, vi p_172), (72, vi 0), (73, .bool false), (74, .bool false), (75, vi p_133), (76, .bool (p_133 != 7)), (77, .bool (p_133 != 7)), (78, .bool (p_133 != 7)), (85, .bool ((p_133 != 7) || (!((p_172 == 0) == (x5 == (Int.tmod (IntKind.i64.wrap x0) 4)))))), (86, .bool ((p_133 != 7) || (!((p_172 == 0) == (x5 == (Int.tmod (IntKind.i64.wrap x0) 4)))))), (91, .bool (((p_133 != 7) || (!((p_172 == 0) == (x5 == (Int.tmod (IntKind.i64.wrap x0) 4))))) || (e_86.size != x2)))] (pt b_7 (blk [C.map (some b_6)] 83) :: mpp b_6 (fun (x : Tslots_Slot) => .agg (vals [ci x.kind, ci x.size, C.slc A_x3 x3.length c_x3, C.slc A_x4 x4.length c_x4])) p_71 :: pt b_94 (blk [ci e_86.kind, ci e_86.size, C.slc A_x3 x3.length c_x3, C.slc A_x4 x4.length c_x4] 27) :: S) → wpFrom Try.prog _ _ 20 a w by
          rcases Bool.eq_false_or_eq_true ((p_133 != 7) || (!((p_172 == 0) == (x5 == (Int.tmod (IntKind.i64.wrap x0) 4))))) with hb | hb
          ·replace hs := hs.known (t := 86) hb (by kernel_rfl)
           refine qpu 5 hs fun a hs => ?_
           have hq := hs.pick [2, 3, 4, 5, 13, 14, 15, 16, 17, 19, 21, 72, 73, 74, 75, 76, 77, 78, 85, 86, 91] (L' := [(2, vi x2), (3, .slice A_x3 x3.length c_x3), (4, .slice A_x4 x4.length c_x4), (5, vi x5), (13, pp b_7), (14, vi (Int.tmod (IntKind.i64.wrap x0) 4)), (15, vi p_12), (16, pp b_94), (17, vi 0), (19, vi p_133), (21, vi p_172), (72, vi 0), (73, .bool false), (74, .bool false), (75, vi p_133), (76, .bool (p_133 != 7)), (77, .bool (p_133 != 7)), (78, .bool (p_133 != 7)), (85, .bool ((p_133 != 7) || (!((p_172 == 0) == (x5 == (Int.tmod (IntKind.i64.wrap x0) 4)))))), (86, .bool true), (91, .bool true)]) (by kernel_rfl)
           exact hj_176 _ (hq.conv (by first | (rw [hb] <;> rfl) | rfl))
          ·replace hs := hs.known (t := 86) hb (by kernel_rfl)
           refine qpu 1 hs fun a hs => ?_
           refine qld 2 (ci e_86.size) hs rfl fun a hs => ?_
           refine qpu 3 hs fun a hs => ?_
           have hq := hs.pick [2, 3, 4, 5, 13, 14, 15, 16, 17, 19, 21, 72, 73, 74, 75, 76, 77, 78, 85, 86, 91] (L' := [(2, vi x2), (3, .slice A_x3 x3.length c_x3), (4, .slice A_x4 x4.length c_x4), (5, vi x5), (13, pp b_7), (14, vi (Int.tmod (IntKind.i64.wrap x0) 4)), (15, vi p_12), (16, pp b_94), (17, vi 0), (19, vi p_133), (21, vi p_172), (72, vi 0), (73, .bool false), (74, .bool false), (75, vi p_133), (76, .bool (p_133 != 7)), (77, .bool (p_133 != 7)), (78, .bool (p_133 != 7)), (85, .bool ((p_133 != 7) || (!((p_172 == 0) == (x5 == (Int.tmod (IntKind.i64.wrap x0) 4)))))), (86, .bool false), (91, .bool (e_86.size != x2))]) (by kernel_rfl)
           exact hj_176 _ (hq.conv (by first | (rw [hb] <;> rfl) | rfl))
         intro a hs
         refine qpu 1 hs fun a hs => ?_
         suffices hj_177 : ∀ a, St 174 a w κ [(2, vi x2), (3, .slice A_x3 x3.length c_x3), (4, .slice A_x4 x4.length c_x4), (5, vi x5), (13, pp b_7), (14, vi (Int.tmod (IntKind.i64.wrap x0) 4)), (15, vi p_12), (16, pp b_94), (17, vi 0), (19, vi p_133), (21, vi p_172), (72, vi 0), (73, .bool false), (74, .bool false), (75, vi p_133), (76, .bool (p_133 != 7)), (77, .bool (p_133 != 7)), (78, .bool (p_133 != 7)), (85, .bool ((p_133 != 7) || (!((p_172 == 0) == (x5 == (Int.tmod (IntKind.i64.wrap x0) 4)))))), (86, .bool ((p_133 != 7) || (!((p_172 == 0) == (x5 == (Int.tmod (IntKind.i64.wrap x0) 4)))))), (91, .bool (((p_133 != 7) || (!((p_172 == 0) == (x5 == (Int.tmod (IntKind.i64.wrap x0) 4))))) || (e_86.size != x2))), (92, .bool (((p_133 != 7) || (!((p_172 == 0) == (x5 == (Int.tmod (IntKind.i64.wrap x0) 4))))) || (e_86.size != x2))), (99, .bool ((((p_133 != 7) || (!((p_172 == 0) == (x5 == (Int.tmod (IntKind.i64.wrap x0) 4))))) || (e_86.size != x2)) || (((x3.length : Nat) : Int) != ((x3.length : Nat) : Int))))] (pt b_7 (blk [C.map (some b_6)] 83) :: mpp b_6 (fun (x : Tslots_Slot) => .agg (vals [ci x.kind, ci x.size, C.slc A_x3 x3.length c_x3, C.slc A_x4 x4.length c_x4])) p_71 :: pt b_94 (blk [ci e_86.kind, ci e_86.size, C.slc A_x3 x3.length c_x3, C.slc A_x4 x4.length c_x4] 27) :: S) → wpFrom Try.prog _ _ 28 a w by
          rcases Bool.eq_false_or_eq_true (((p_133 != 7) || (!((p_172 == 0) == (x5 == (Int.tmod (IntKind.i64.wrap x0) 4))))) || (e_86.size != x2)) with hb | hb
          ·replace hs := hs.known (t := 92) hb (by kernel_rfl)
           refine qpu 7 hs fun a hs => ?_
           have hq := hs.pick [2, 3, 4, 5, 13, 14, 15, 16, 17, 19, 21, 72, 73, 74, 75, 76, 77, 78, 85, 86, 91, 92, 99] (L' := [(2, vi x2), (3, .slice A_x3 x3.length c_x3), (4, .slice A_x4 x4.length c_x4), (5, vi x5), (13, pp b_7), (14, vi (Int.tmod (IntKind.i64.wrap x0) 4)), (15, vi p_12), (16, pp b_94), (17, vi 0), (19, vi p_133), (21, vi p_172), (72, vi 0), (73, .bool false), (74, .bool false), (75, vi p_133), (76, .bool (p_133 != 7)), (77, .bool (p_133 != 7)), (78, .bool (p_133 != 7)), (85, .bool ((p_133 != 7) || (!((p_172 == 0) == (x5 == (Int.tmod (IntKind.i64.wrap x0) 4)))))), (86, .bool ((p_133 != 7) || (!((p_172 == 0) == (x5 == (Int.tmod (IntKind.i64.wrap x0) 4)))))), (91, .bool (((p_133 != 7) || (!((p_172 == 0) == (x5 == (Int.tmod (IntKind.i64.wrap x0) 4))))) || (e_86.size != x2))), (92, .bool true), (99, .bool true)]) (by kernel_rfl)
           exact hj_177 _ (hq.conv (by first | (rw [hb] <;> rfl) | rfl))
          ·replace hs := hs.known (t := 92) hb (by kernel_rfl)
           refine qpu 1 hs fun a hs => ?_
           refine qld 2 (C.slc A_x3 x3.length c_x3) hs rfl fun a hs => ?_
           refine qpu 5 hs fun a hs => ?_
           have hq := hs.pick [2, 3, 4, 5, 13, 14, 15, 16, 17, 19, 21, 72, 73, 74, 75, 76, 77, 78, 85, 86, 91, 92, 99] (L' := [(2, vi x2), (3, .slice A_x3 x3.length c_x3), (4, .slice A_x4 x4.length c_x4), (5, vi x5), (13, pp b_7), (14, vi (Int.tmod (IntKind.i64.wrap x0) 4)), (15, vi p_12), (16, pp b_94), (17, vi 0), (19, vi p_133), (21, vi p_172), (72, vi 0), (73, .bool false), (74, .bool false), (75, vi p_133), (76, .bool (p_133 != 7)), (77, .bool (p_133 != 7)), (78, .bool (p_133 != 7)), (85, .bool ((p_133 != 7) || (!((p_172 == 0) == (x5 == (Int.tmod (IntKind.i64.wrap x0) 4)))))), (86, .bool ((p_133 != 7) || (!((p_172 == 0) == (x5 == (Int.tmod (IntKind.i64.wrap x0) 4)))))), (91, .bool (((p_133 != 7) || (!((p_172 == 0) == (x5 == (Int.tmod (IntKind.i64.wrap x0) 4))))) || (e_86.size != x2))), (92, .bool false), (99, .bool (((x3.length : Nat) : Int) != ((x3.length : Nat) : Int)))]) (by kernel_rfl)
           exact hj_177 _ (hq.conv (by first | (rw [hb] <;> rfl) | rfl))
         intro a hs
         refine qpu 1 hs fun a hs => ?_
         suffices hj_178 : ∀ a, St 174 a w κ [(2, vi x2), (3, .slice A_x3 x3.length c_x3), (4, .slice A_x4 x4.length c_x4), (5, vi x5), (13, pp b_7), (14, vi (Int.tmod (IntKind.i64.wrap x0) 4)), (15, vi p_12), (16, pp b_94), (17, vi 0), (19, vi p_133), (21, vi p_172), (72, vi 0), (73, .bool false), (74, .bool false), (75, vi p_133), (76, .bool (p_133 != 7)), (77, .bool (p_133 != 7)), (78, .bool (p_133 != 7)), (85, .bool ((p_133 != 7) || (!((p_172 == 0) == (x5 == (Int.tmod (IntKind.i64.wrap x0) 4)))))), (86, .bool ((p_133 != 7) || (!((p_172 == 0) == (x5 == (Int.tmod (IntKind.i64.wrap x0) 4)))))), (91, .bool (((p_133 != 7) || (!((p_172 == 0) == (x5 == (Int.tmod (IntKind.i64.wrap x0) 4))))) || (e_86.size != x2))), (92, .bool (((p_133 != 7) || (!((p_172 == 0) == (x5 == (Int.tmod (IntKind.i64.wrap x0) 4))))) || (e_86.size != x2))), (99, .bool ((((p_133 != 7) || (!((p_172 == 0) == (x5 == (Int.tmod (IntKind.i64.wrap x0) 4))))) || (e_86.size != x2)) || (((x3.length : Nat) : Int) != ((x3.length : Nat) : Int)))), (100, .bool ((((p_133 != 7) || (!((p_172 == 0) == (x5 == (Int.tmod (IntKind.i64.wrap x0) 4))))) || (e_86.size != x2)) || (((x3.length : Nat) : Int) != ((x3.length : Nat) : Int)))), (107, .bool (((((p_133 != 7) || (!((p_172 == 0) == (x5 == (Int.tmod (IntKind.i64.wrap x0) 4))))) || (e_86.size != x2)) || (((x3.length : Nat) : Int) != ((x3.length : Nat) : Int))) || (((x4.length : Nat) : Int) != ((x4.length : Nat) : Int))))] (pt b_7 (blk [C.map (some b_6)] 83) :: mpp b_6 (fun (x : Tslots_Slot) => .agg (vals [ci x.kind, ci x.size, C.slc A_x3 x3.length c_x3, C.slc A_x4 x4.length c_x4])) p_71 :: pt b_94 (blk [ci e_86.kind, ci e_86.size, C.slc A_x3 x3.length c_x3, C.slc A_x4 x4.length c_x4] 27) :: S) → wpFrom Try.prog _ _ 36 a w by
          rcases Bool.eq_false_or_eq_true ((((p_133 != 7) || (!((p_172 == 0) == (x5 == (Int.tmod (IntKind.i64.wrap x0) 4))))) || (e_86.size != x2)) || (((x3.length : Nat) : Int) != ((x3.length : Nat) : Int))) with hb | hb
          ·replace hs := hs.known (t := 100) hb (by kernel_rfl)
           refine qpu 7 hs fun a hs => ?_
           have hq := hs.pick [2, 3, 4, 5, 13, 14, 15, 16, 17, 19, 21, 72, 73, 74, 75, 76, 77, 78, 85, 86, 91, 92, 99, 100, 107] (L' := [(2, vi x2), (3, .slice A_x3 x3.length c_x3), (4, .slice A_x4 x4.length c_x4), (5, vi x5), (13, pp b_7), (14, vi (Int.tmod (IntKind.i64.wrap x0) 4)), (15, vi p_12), (16, pp b_94), (17, vi 0), (19, vi p_133), (21, vi p_172), (72, vi 0), (73, .bool false), (74, .bool false), (75, vi p_133), (76, .bool (p_133 != 7)), (77, .bool (p_133 != 7)), (78, .bool (p_133 != 7)), (85, .bool ((p_133 != 7) || (!((p_172 == 0) == (x5 == (Int.tmod (IntKind.i64.wrap x0) 4)))))), (86, .bool ((p_133 != 7) || (!((p_172 == 0) == (x5 == (Int.tmod (IntKind.i64.wrap x0) 4)))))), (91, .bool (((p_133 != 7) || (!((p_172 == 0) == (x5 == (Int.tmod (IntKind.i64.wrap x0) 4))))) || (e_86.size != x2))), (92, .bool (((p_133 != 7) || (!((p_172 == 0) == (x5 == (Int.tmod (IntKind.i64.wrap x0) 4))))) || (e_86.size != x2))), (99, .bool ((((p_133 != 7) || (!((p_172 == 0) == (x5 == (Int.tmod (IntKind.i64.wrap x0) 4))))) || (e_86.size != x2)) || (((x3.length : Nat) : Int) != ((x3.length : Nat) : Int)))), (100, .bool true), (107, .bool true)]) (by kernel_rfl)
           exact hj_178 _ (hq.conv (by first | (rw [hb] <;> rfl) | rfl))
          ·replace hs := hs.known (t := 100) hb (by kernel_rfl)
           refine qpu 1 hs fun a hs => ?_
           refine qld 2 (C.slc A_x4 x4.length c_x4) hs rfl fun a hs => ?_
           refine qpu 5 hs fun a hs => ?_
           have hq := hs.pick [2, 3, 4, 5, 13, 14, 15, 16, 17, 19, 21, 72, 73, 74, 75, 76, 77, 78, 85, 86, 91, 92, 99, 100, 107] (L' := [(2, vi x2), (3, .slice A_x3 x3.length c_x3), (4, .slice A_x4 x4.length c_x4), (5, vi x5), (13, pp b_7), (14, vi (Int.tmod (IntKind.i64.wrap x0) 4)), (15, vi p_12), (16, pp b_94), (17, vi 0), (19, vi p_133), (21, vi p_172), (72, vi 0), (73, .bool false), (74, .bool false), (75, vi p_133), (76, .bool (p_133 != 7)), (77, .bool (p_133 != 7)), (78, .bool (p_133 != 7)), (85, .bool ((p_133 != 7) || (!((p_172 == 0) == (x5 == (Int.tmod (IntKind.i64.wrap x0) 4)))))), (86, .bool ((p_133 != 7) || (!((p_172 == 0) == (x5 == (Int.tmod (IntKind.i64.wrap x0) 4)))))), (91, .bool (((p_133 != 7) || (!((p_172 == 0) == (x5 == (Int.tmod (IntKind.i64.wrap x0) 4))))) || (e_86.size != x2))), (92, .bool (((p_133 != 7) || (!((p_172 == 0) == (x5 == (Int.tmod (IntKind.i64.wrap x0) 4))))) || (e_86.size != x2))), (99, .bool ((((p_133 != 7) || (!((p_172 == 0) == (x5 == (Int.tmod (IntKind.i64.wrap x0) 4))))) || (e_86.size != x2)) || (((x3.length : Nat) : Int) != ((x3.length : Nat) : Int)))), (100, .bool false), (107, .bool (((x4.length : Nat) : Int) != ((x4.length : Nat) : Int)))]) (by kernel_rfl)
           exact hj_178 _ (hq.conv (by first | (rw [hb] <;> rfl) | rfl))
         intro a hs
         refine qpk 0 [3, 4, 13, 14, 15, 16, 107] hs fun a hs => hK174 _ _ ?_
         clear hK174
         refine qcs (((((p_133 != 7) || (!((p_172 == 0) == (x5 == (Int.tmod (IntKind.i64.wrap x0) 4))))) || (e_86.size != x2)) || (((x3.length : Nat) : Int) != ((x3.length : Nat) : Int))) || (((x4.length : Nat) : Int) != ((x4.length : Nat) : Int))) hs (fun hb => ?_) fun hb => ?_
         ·replace hm := bif_t hm hb
          refine qse 1 [(12, .bool false)] hs fun a hs => ?_
          refine wp_ret ?_
          exact qr1 (.bool false) hs rfl hRR (by cases hm; exact ⟨rfl, hs.own.f2.drop.f1.drop.drop⟩)
         ·replace hm := bif_f hm hb
          refine wp_skip ?_
          refine hK173 _ _ ?_
          clear hK173
          refine Vk.seq fun K180 hK180 => ?_
          refine qsk 1 [3, 4, 13, 14, 15, 16, 22] hs fun a hs => ?_
          refine wp_block ?_
          obtain ⟨r182, hl182, hm⟩ := bind_t hm
          have hx182 : r182 = Sum.inr () → ∀ (a : Act) (w : World), St 174 a w κ [(4, .slice A_x4 x4.length c_x4), (13, pp b_7), (14, vi (Int.tmod (IntKind.i64.wrap x0) 4)), (15, vi p_12), (16, pp b_94)] (pt b_7 (blk [C.map (some b_6)] 83) :: mpp b_6 (fun (x : Tslots_Slot) => .agg (vals [ci x.kind, ci x.size, C.slc A_x3 x3.length c_x3, C.slc A_x4 x4.length c_x4])) p_71 :: pt b_94 (blk [ci e_86.kind, ci e_86.size, C.slc A_x3 x3.length c_x3, C.slc A_x4 x4.length c_x4] 27) :: S) → K180 a w := by
           intro he a w hs
           subst r182
           refine hK180 _ _ ?_
           clear hK180
           refine Vk.seq fun K209 hK209 => ?_
           refine qsk 1 [4, 13, 14, 15, 16, 23] hs fun a hs => ?_
           refine wp_block ?_
           obtain ⟨r211, hl211, hm⟩ := bind_t hm
           have hx211 : r211 = Sum.inr () → ∀ (a : Act) (w : World), St 174 a w κ [(13, pp b_7), (14, vi (Int.tmod (IntKind.i64.wrap x0) 4)), (15, vi p_12)] (pt b_7 (blk [C.map (some b_6)] 83) :: mpp b_6 (fun (x : Tslots_Slot) => .agg (vals [ci x.kind, ci x.size, C.slc A_x3 x3.length c_x3, C.slc A_x4 x4.length c_x4])) p_71 :: S) → K209 a w := by
            intro he a w hs
            subst r211
            refine hK209 _ _ ?_
            clear hK209
            refine Vk.seq fun K238 hK238 => ?_
            refine Vk.seq fun K239 hK239 => ?_
            have hj239 : ∀ (p_334 : List (Int × Tslots_Slot)) (p_335 : Bool), visorlaw48_SlotsKeep.j11 k x0 p_12 p_334 p_335 = some r → ∀ (a : Act) (w : World), St 174 a w κ [(13, pp b_7), (14, vi (Int.tmod (IntKind.i64.wrap x0) 4)), (15, vi p_12), (161, .bool p_335)] (pt b_7 (blk [C.map (some b_6)] 83) :: mpp b_6 (fun (x : Tslots_Slot) => .agg (vals [ci x.kind, ci x.size, C.slc A_x3 x3.length c_x3, C.slc A_x4 x4.length c_x4])) p_334 :: S) → K239 a w := by
             intro p_334 p_335 hm a w hs
             unfold visorlaw48_SlotsKeep.j11 at hm
             refine hK239 _ _ ?_
             refine qcs (p_335) hs (fun hb => ?_) fun hb => ?_
             ·replace hm := bif_t hm hb
              refine qse 1 [(12, .bool false)] hs fun a hs => ?_
              refine wp_ret ?_
              exact qr1 (.bool false) hs rfl hRR (by cases hm; exact ⟨rfl, hs.own.f1.drop.drop⟩)
             ·replace hm := bif_f hm hb
              refine wp_skip ?_
              refine hK238 _ _ ?_
              clear hK238
              refine Vk.seq fun K337 hK337 => ?_
              have hj337 : ∀ (p_375 : Int), visorlaw48_SlotsKeep.j12 k p_375 = some r → ∀ (a : Act) (w : World), St 174 a w κ [(25, vi p_375)] (S) → K337 a w := by
               intro p_375 hm a w hs
               unfold visorlaw48_SlotsKeep.j12 at hm
               refine hK337 _ _ ?_
               refine Vk.seq fun K376 hK376 => ?_
               have hj376 : ∀ (p_380 : Bool), visorlaw48_SlotsKeep.j13 k p_380 = some r → ∀ (a : Act) (w : World), St 174 a w κ [(12, .bool p_380)] (S) → K376 a w := by
                intro p_380 hm a w hs
                unfold visorlaw48_SlotsKeep.j13 at hm
                refine hK376 _ _ ?_
                refine wp_ret ?_
                exact qr1 (.bool p_380) hs rfl hRR (by cases hm; exact ⟨rfl, hs.own⟩)
               refine Vk.region ?_
               refine qpu 3 hs fun a hs => ?_
               rcases Bool.eq_false_or_eq_true (p_375 == 7) with hb | hb
               ·replace hm := bif_t hm hb
                replace hs := hs.known (t := 171) hb (by kernel_rfl)
                obtain ⟨v_379, h_378, hm⟩ := bind_t hm
                refine qcl (visorlaw48_awake.ok _ _ h_378 _ _ (S) hs.own) hs fun w a hs => ?_
                refine qpe 2 [(12, .bool v_379)] hs fun a hs => ?_
                exact hj376 v_379 hm _ _ (hs.go [12] [] 0 (by kernel_rfl) (by kernel_rfl) (by kernel_rfl))
               ·replace hm := bif_f hm hb
                replace hs := hs.known (t := 171) hb (by kernel_rfl)
                refine qpe 3 [(12, .bool false)] hs fun a hs => ?_
                exact hj376 false hm _ _ (hs.go [12] [] 0 (by kernel_rfl) (by kernel_rfl) (by kernel_rfl))
              refine Vk.region ?_
              refine qpu 3 hs fun a hs => ?_
              refine Vk.step (Vk.call (some 166) 7 #[pp b_7, vi (Int.tmod (IntKind.i64.wrap x0) 4), vi p_12] hs (by kernel_rfl) (by kernel_rfl) (by kernel_rfl) ?_)
              refine Vk.enterI [(0, pp b_7), (1, vi (Int.tmod (IntKind.i64.wrap x0) 4)), (2, vi p_12)] Try.func7 rfl Try.ntmps7 (by kernel_rfl) (Nat.le_of_ble_eq_true (by kernel_rfl)) hs.own fun KR338 hKR338 hKP338 a hs => ?_
              have hj373 : ∀ (p_371 : Int), visorlaw48_SlotsKeep.j7_3 k p_371 = some r → ∀ (b_368 : Nat) (a : Act) (w : World), St 38 a w κ [(6, pp b_368), (7, vi p_371)] (pt b_368 (blk ([ci 0, ci 0, C.slc none (([] : List Cells).length) 0, C.slc none (([] : List Cells).length) 0]) 27) :: rowp none 0 53 24 eC ([] : List Cells) :: rowp none 0 51 3 eC ([] : List Cells) :: pt b_7 (blk [C.map (some b_6)] 83) :: mpp b_6 (fun (x : Tslots_Slot) => .agg (vals [ci x.kind, ci x.size, C.slc A_x3 x3.length c_x3, C.slc A_x4 x4.length c_x4])) p_334 :: S) → KR338 a w := by
               intro p_371 hm b_368 a w hs
               unfold visorlaw48_SlotsKeep.j7_3 at hm
               refine hKR338 _ _ ?_
               refine Vk.retCT (P := Try.prog) (fn := Try.f7) ([ci 0, ci 0, C.slc none (([] : List Cells).length) 0, C.slc none (([] : List Cells).length) 0]) (vi p_371) hs rfl (by kernel_rfl) (sz := 4) (by kernel_rfl) rfl (CellsAt.all 0 rfl) (by kernel_rfl) ⟨_, _, _, rfl, hs.own, fun a hs => ?_⟩
               refine qpu 3 hs fun a hs => ?_
               refine qal 27 [ci 0, ci 0, C.slc none 0 0, C.slc none 0 0] 24 hs fun b_372 w a hs => ?_
               refine qsa 0 ([ci 0, ci 0, C.slc none (([] : List Cells).length) 0, C.slc none (([] : List Cells).length) 0]) hs rfl fun a w hs => ?_
               refine qpe 1 [(25, vi p_371)] hs fun a hs => ?_
               exact hj337 p_371 hm _ _ (hs.go [25] [] 6 (by kernel_rfl) (by kernel_rfl) (by kernel_rfl))
              refine qsr fun K339 hK339 => ?_
              refine qal 27 [ci 0, ci 0, C.slc none 0 0, C.slc none 0 0] 6 hs fun b_340 w a hs => ?_
              refine qpk 1 [0, 1, 2, 6] hs fun a hs => hK339 _ _ ?_
              clear hK339
              refine Vk.seq fun K341 hK341 => ?_
              refine wp_block ?_
              refine qsk 3 [0, 1, 2, 6, 10] hs fun a hs => ?_
              refine qcf hs ?_
              refine qsr fun K343 hK343 => ?_
              refine qpu 1 hs fun a hs => ?_
              obtain ⟨v_346, h_345, hm⟩ := bind_t hm
              refine qcl (slots_place.ok _ _ _ h_345 _ _ (pt b_340 (blk [ci 0, ci 0, C.slc none 0 0, C.slc none 0 0] 27) :: pt b_7 (blk [C.map (some b_6)] 83) :: mpp b_6 (fun (x : Tslots_Slot) => .agg (vals [ci x.kind, ci x.size, C.slc A_x3 x3.length c_x3, C.slc A_x4 x4.length c_x4])) p_334 :: S) hs.own) hs fun w a hs => ?_
              refine qpk 2 [0, 1, 2, 6, 14] hs fun a hs => hK343 _ _ ?_
              clear hK343
              refine qcs (!v_346) hs (fun hb => ?_) fun hb => ?_
              ·replace hm := bif_t hm hb
               refine qsr fun K347 hK347 => ?_
               refine qpu 1 hs fun a hs => ?_
               refine qsa 0 [ci 0, ci 0, C.slc none 0 0, C.slc none 0 0] hs rfl fun a w hs => ?_
               refine qpe 1 [(6, pp b_340), (7, vi 6)] hs fun a hs => hK347 _ _ ?_
               clear hK347
               refine wp_ret ?_
               refine hKP338 _ _ ?_
               replace hs := hs.addRow none 53 24 eC
               replace hs := hs.addRow none 51 3 eC
               exact hj373 6 hm b_340 _ _ (hs.go [6, 7] [2, 1, 0, 3, 4] 5 (by kernel_rfl) (by kernel_rfl) (by kernel_rfl))
              ·replace hm := bif_f hm hb
               refine wp_skip ?_
               refine hK341 _ _ ?_
               clear hK341
               refine qsr fun K348 hK348 => ?_
               refine qpu 3 hs fun a hs => ?_
               refine qld 1 (C.map (some b_6)) hs rfl fun a hs => ?_
               refine qpu 1 hs fun a hs => ?_
               rcases Bool.eq_false_or_eq_true ((mget p_334 (Int.tmod (IntKind.i64.wrap x0) 4)).isSome) with hb | hb
               ·replace hm := bif_t hm hb
                obtain ⟨e_349, h_350, hm⟩ := bind_t hm
                refine qva (.tuple #[.agg (vals [ci e_349.kind, ci e_349.size, C.slc A_x3 x3.length c_x3, C.slc A_x4 x4.length c_x4]), .bool true]) (op := (.lookup 81 (.tmp 23) (.tmp 24) true)) hs (fun o ho => run_mgetS (et := 27) (ev := (fun (x : Tslots_Slot) => .agg (vals [ci x.kind, ci x.size, C.slc A_x3 x3.length c_x3, C.slc A_x4 x4.length c_x4]))) 2 h_350 rfl ho (by kernel_rfl) (by kernel_rfl) (by kernel_rfl) (by kernel_rfl) _ hs.own) fun a hs => ?_
                refine qpu 3 hs fun a hs => ?_
                refine qal 27 [ci 0, ci 0, C.slc none 0 0, C.slc none 0 0] 8 hs fun b_351 w a hs => ?_
                refine qsa 0 [ci e_349.kind, ci e_349.size, C.slc A_x3 x3.length c_x3, C.slc A_x4 x4.length c_x4] hs rfl fun a w hs => ?_
                refine qpk 1 [2, 6, 8, 9] hs fun a hs => hK348 _ _ ?_
                refine Vk.seq fun K353 hK353 => ?_
                refine qsr fun K354 hK354 => ?_
                refine qpu 4 hs fun a hs => ?_
                refine qld 0 (ci e_349.kind) hs rfl fun a hs => ?_
                refine qpk 3 [6, 8, 35] hs fun a hs => hK354 _ _ ?_
                clear hK354
                refine qcs (e_349.kind != p_12) hs (fun hb => ?_) fun hb => ?_
                ·replace hm := bif_t hm hb
                 refine qsr fun K355 hK355 => ?_
                 refine qpu 1 hs fun a hs => ?_
                 refine qsa 1 [ci 0, ci 0, C.slc none 0 0, C.slc none 0 0] hs rfl fun a w hs => ?_
                 refine qpe 1 [(6, pp b_340), (7, vi 7)] hs fun a hs => hK355 _ _ ?_
                 clear hK355
                 refine wp_ret ?_
                 refine hKP338 _ _ ?_
                 replace hs := hs.addRow none 53 24 eC
                 replace hs := hs.addRow none 51 3 eC
                 exact hj373 7 hm b_340 _ _ (hs.go [6, 7] [3, 1, 0, 4, 5] 6 (by kernel_rfl) (by kernel_rfl) (by kernel_rfl))
                ·replace hm := bif_f hm hb
                 refine wp_skip ?_
                 refine hK353 _ _ ?_
                 clear hK353
                 refine qsr fun K356 hK356 => ?_
                 refine qln 0 ([ci e_349.kind, ci e_349.size, C.slc A_x3 x3.length c_x3, C.slc A_x4 x4.length c_x4]) hs rfl fun a hs => ?_
                 refine qsa 1 [ci e_349.kind, ci e_349.size, C.slc A_x3 x3.length c_x3, C.slc A_x4 x4.length c_x4] hs rfl fun a w hs => ?_
                 refine qpe 1 [(6, pp b_340), (7, vi 0)] hs fun a hs => hK356 _ _ ?_
                 clear hK356
                 refine wp_ret ?_
                 refine hKP338 _ _ ?_
                 refine hKR338 _ _ ?_
                 refine Vk.retCT (P := Try.prog) (fn := Try.f7) [ci e_349.kind, ci e_349.size, C.slc A_x3 x3.length c_x3, C.slc A_x4 x4.length c_x4] (vi 0) hs rfl (by kernel_rfl) (sz := 4) (by kernel_rfl) rfl (CellsAt.all 1 rfl) (by kernel_rfl) ⟨_, _, _, rfl, hs.own, fun a hs => ?_⟩
                 refine qpu 3 hs fun a hs => ?_
                 refine qal 27 [ci 0, ci 0, C.slc none 0 0, C.slc none 0 0] 24 hs fun b_374 w a hs => ?_
                 refine qsa 0 [ci e_349.kind, ci e_349.size, C.slc A_x3 x3.length c_x3, C.slc A_x4 x4.length c_x4] hs rfl fun a w hs => ?_
                 refine qpe 1 [(25, vi 0)] hs fun a hs => ?_
                 exact hj337 0 hm _ _ (hs.go [25] [] 5 (by kernel_rfl) (by kernel_rfl) (by kernel_rfl))
               ·replace hm := bif_f hm hb
                refine qva (.tuple #[.agg (vals [ci 0, ci 0, C.slc none 0 0, C.slc none 0 0]), .bool false]) (op := (.lookup 81 (.tmp 23) (.tmp 24) true)) hs (fun o ho => run_mgetN (et := 27) (ev := (fun (x : Tslots_Slot) => .agg (vals [ci x.kind, ci x.size, C.slc A_x3 x3.length c_x3, C.slc A_x4 x4.length c_x4]))) (z := .agg (vals [ci 0, ci 0, C.slc none 0 0, C.slc none 0 0])) 2 hb rfl ho (by kernel_rfl) (by kernel_rfl) (by kernel_rfl) (by kernel_rfl) _ hs.own) fun a hs => ?_
                refine qpu 3 hs fun a hs => ?_
                refine qal 27 [ci 0, ci 0, C.slc none 0 0, C.slc none 0 0] 8 hs fun b_352 w a hs => ?_
                refine qsa 0 [ci 0, ci 0, C.slc none 0 0, C.slc none 0 0] hs rfl fun a w hs => ?_
                refine qpk 1 [2, 6, 8, 9] hs fun a hs => hK348 _ _ ?_
                refine Vk.seq fun K357 hK357 => ?_
                refine qsk 8 [6, 8, 35] hs fun a hs => ?_
                refine qct hs ?_
                refine qsr fun K359 hK359 => ?_
                refine qpu 1 hs fun a hs => ?_
                refine qsa 1 [ci 0, ci 0, C.slc none 0 0, C.slc none 0 0] hs rfl fun a w hs => ?_
                refine qpe 1 [(6, pp b_340), (7, vi 7)] hs fun a hs => hK359 _ _ ?_
                clear hK359
                refine wp_ret ?_
                refine hKP338 _ _ ?_
                replace hs := hs.addRow none 53 24 eC
                replace hs := hs.addRow none 51 3 eC
                replace hs := hs.addRow none 53 24 eC
                replace hs := hs.addRow none 51 3 eC
                exact hj373 7 hm b_340 _ _ (hs.go [6, 7] [5, 1, 0, 6, 7] 8 (by kernel_rfl) (by kernel_rfl) (by kernel_rfl))
            refine Vk.region ?_
            refine qpu 3 hs fun a hs => ?_
            refine Vk.step (Vk.call (some 143) 8 #[pp b_7, vi (Int.tmod (IntKind.i64.wrap x0) 4), .agg (vals [ci 1, ci 0, C.slc none 0 0, C.slc none 0 0])] hs (by kernel_rfl) (by kernel_rfl) (by kernel_rfl) ?_)
            refine Vk.enterI [(0, pp b_7), (1, vi (Int.tmod (IntKind.i64.wrap x0) 4)), (2, .agg (vals [ci 1, ci 0, C.slc none 0 0, C.slc none 0 0]))] Try.func8 rfl Try.ntmps8 (by kernel_rfl) (Nat.le_of_ble_eq_true (by kernel_rfl)) hs.own fun KR240 hKR240 hKP240 a hs => ?_
            refine qsr fun K241 hK241 => ?_
            refine qbx 2 27 [ci 1, ci 0, C.slc none 0 0, C.slc none 0 0] 5 hs fun b_242 w a hs => ?_
            refine qpk 1 [0, 1, 5] hs fun a hs => hK241 _ _ ?_
            clear hK241
            refine Vk.seq fun K243 hK243 => ?_
            refine wp_block ?_
            refine qsk 3 [0, 1, 5, 7] hs fun a hs => ?_
            refine qcf hs ?_
            refine Vk.seq fun K245 hK245 => ?_
            have hj245 : ∀ (p_274 : Bool), visorlaw48_SlotsKeep.j4_2 k x0 p_12 p_71 p_274 = some r → ∀ (a : Act) (w : World), St 31 a w κ [(0, pp b_7), (1, vi (Int.tmod (IntKind.i64.wrap x0) 4)), (5, pp b_242), (10, .bool p_274)] (pt b_7 (blk [C.map (some b_6)] 83) :: mpp b_6 (fun (x : Tslots_Slot) => .agg (vals [ci x.kind, ci x.size, C.slc A_x3 x3.length c_x3, C.slc A_x4 x4.length c_x4])) p_71 :: pt b_242 (blk ([ci 1, ci 0, C.slc none (([] : List Cells).length) 0, C.slc none (([] : List Cells).length) 0]) 27) :: rowp none 0 53 24 eC ([] : List Cells) :: rowp none 0 51 3 eC ([] : List Cells) :: S) → K245 a w := by
             intro p_274 hm a w hs
             unfold visorlaw48_SlotsKeep.j4_2 at hm
             refine hK245 _ _ ?_
             refine qcs (p_274) hs (fun hb => ?_) fun hb => ?_
             ·replace hm := bif_t hm hb
              refine qse 1 [(6, vi 6)] hs fun a hs => ?_
              refine wp_ret ?_
              refine hKP240 _ _ ?_
              refine hKR240 _ _ ?_
              refine Vk.ret1 (P := Try.prog) (fn := Try.f8) (vi 6) hs rfl (by kernel_rfl) ⟨_, _, _, rfl, hs.own, fun a hs => ?_⟩
              refine qpu 4 hs fun a hs => ?_
              refine Vk.step (Vk.call (some 148) 9 #[pp b_7, vi (Int.tmod (IntKind.i64.wrap x0) 4)] hs (by kernel_rfl) (by kernel_rfl) (by kernel_rfl) ?_)
              refine Vk.enterI [(0, pp b_7), (1, vi (Int.tmod (IntKind.i64.wrap x0) 4))] Try.func9 rfl Try.ntmps9 (by kernel_rfl) (Nat.le_of_ble_eq_true (by kernel_rfl)) hs.own fun KR278 hKR278 hKP278 a hs => ?_
              have hj278 : ∀ (p_309 : Int) (p_310 : List (Int × Tslots_Slot)), visorlaw48_SlotsKeep.j10 k x0 p_12 p_309 p_310 = some r → ∀ (a : Act) (w : World), St 21 a w κ [(4, vi p_309)] (pt b_7 (blk [C.map (some b_6)] 83) :: mpp b_6 (fun (x : Tslots_Slot) => .agg (vals [ci x.kind, ci x.size, C.slc A_x3 x3.length c_x3, C.slc A_x4 x4.length c_x4])) p_310 :: S) → KR278 a w := by
               intro p_309 p_310 hm a w hs
               unfold visorlaw48_SlotsKeep.j10 at hm
               refine hKR278 _ _ ?_
               refine Vk.ret1 (P := Try.prog) (fn := Try.f9) (vi p_309) hs rfl (by kernel_rfl) ⟨_, _, _, rfl, hs.own, fun a hs => ?_⟩
               refine qpu 3 hs fun a hs => ?_
               rcases Bool.eq_false_or_eq_true (p_309 != 0) with hb | hb
               ·replace hm := bif_t hm hb
                replace hs := hs.known (t := 151) hb (by kernel_rfl)
                refine qpe 10 [(13, pp b_7), (14, vi (Int.tmod (IntKind.i64.wrap x0) 4)), (15, vi p_12), (161, .bool true)] hs fun a hs => ?_
                exact hj239 p_310 true hm _ _ (hs.go [13, 14, 15, 161] [0, 1] 2 (by kernel_rfl) (by kernel_rfl) (by kernel_rfl))
               ·replace hm := bif_f hm hb
                replace hs := hs.known (t := 151) hb (by kernel_rfl)
                refine qpu 2 hs fun a hs => ?_
                refine Vk.step (Vk.call (some 154) 10 #[pp b_7, vi (Int.tmod (IntKind.i64.wrap x0) 4)] hs (by kernel_rfl) (by kernel_rfl) (by kernel_rfl) ?_)
                refine Vk.enterI [(0, pp b_7), (1, vi (Int.tmod (IntKind.i64.wrap x0) 4))] Try.func10 rfl Try.ntmps10 (by kernel_rfl) (Nat.le_of_ble_eq_true (by kernel_rfl)) hs.own fun KR311 hKR311 hKP311 a hs => ?_
                have hj311 : ∀ (p_328 : Bool), visorlaw48_SlotsKeep.j3_5 k x0 p_12 p_310 p_328 = some r → ∀ (a : Act) (w : World), St 25 a w κ [(4, .bool p_328)] (pt b_7 (blk [C.map (some b_6)] 83) :: mpp b_6 (fun (x : Tslots_Slot) => .agg (vals [ci x.kind, ci x.size, C.slc A_x3 x3.length c_x3, C.slc A_x4 x4.length c_x4])) p_310 :: S) → KR311 a w := by
                 intro p_328 hm a w hs
                 unfold visorlaw48_SlotsKeep.j3_5 at hm
                 refine hKR311 _ _ ?_
                 refine Vk.ret1 (P := Try.prog) (fn := Try.f10) (.bool p_328) hs rfl (by kernel_rfl) ⟨_, _, _, rfl, hs.own, fun a hs => ?_⟩
                 refine qpu 3 hs fun a hs => ?_
                 rcases Bool.eq_false_or_eq_true (!p_328) with hb | hb
                 ·replace hm := bif_t hm hb
                  replace hs := hs.known (t := 157) hb (by kernel_rfl)
                  refine qpe 4 [(13, pp b_7), (14, vi (Int.tmod (IntKind.i64.wrap x0) 4)), (15, vi p_12), (161, .bool true)] hs fun a hs => ?_
                  exact hj239 p_310 true hm _ _ (hs.go [13, 14, 15, 161] [0, 1] 2 (by kernel_rfl) (by kernel_rfl) (by kernel_rfl))
                 ·replace hm := bif_f hm hb
                  replace hs := hs.known (t := 157) hb (by kernel_rfl)
                  refine qpu 1 hs fun a hs => ?_
                  refine Vk.step (Vk.call (some 159) 11 #[pp b_7] hs (by kernel_rfl) (by kernel_rfl) (by kernel_rfl) ?_)
                  refine Vk.enterI [(0, pp b_7)] Try.func11 rfl Try.ntmps11 (by kernel_rfl) (Nat.le_of_ble_eq_true (by kernel_rfl)) hs.own fun KR329 hKR329 hKP329 a hs => ?_
                  refine qse 1 [(0, pp b_7)] hs fun a hs => ?_
                  refine Vk.seq fun K331 hK331 => ?_
                  refine qsk 2 [0, 4] hs fun a hs => ?_
                  refine qcf hs ?_
                  refine wp_skip ?_
                  refine hK331 _ _ ?_
                  clear hK331
                  refine qsr fun K333 hK333 => ?_
                  refine qpu 3 hs fun a hs => ?_
                  refine qld 0 (C.map (some b_6)) hs rfl fun a hs => ?_
                  refine qva (vi ((p_310.length : Nat) : Int)) (op := (.call { callee := (.builtin .len), args := #[(.tmp 8)], argTypes := #[81] })) hs (fun o ho => run_mlen (et := 27) (ev := (fun (x : Tslots_Slot) => .agg (vals [ci x.kind, ci x.size, C.slc A_x3 x3.length c_x3, C.slc A_x4 x4.length c_x4]))) 1 rfl ho (by kernel_rfl) (by kernel_rfl) _ hs.own) fun a hs => ?_
                  refine qpk 1 [2] hs fun a hs => hK333 _ _ ?_
                  clear hK333
                  refine wp_ret ?_
                  refine hKP329 _ _ ?_
                  refine hKR329 _ _ ?_
                  refine Vk.ret1 (P := Try.prog) (fn := Try.f11) (vi ((p_310.length : Nat) : Int)) hs rfl (by kernel_rfl) ⟨_, _, _, rfl, hs.own, fun a hs => ?_⟩
                  refine qpe 2 [(13, pp b_7), (14, vi (Int.tmod (IntKind.i64.wrap x0) 4)), (15, vi p_12), (161, .bool (((p_310.length : Nat) : Int) != 0))] hs fun a hs => ?_
                  exact hj239 p_310 (((p_310.length : Nat) : Int) != 0) hm _ _ (hs.go [13, 14, 15, 161] [0, 1] 2 (by kernel_rfl) (by kernel_rfl) (by kernel_rfl))
                refine qsk 1 [0, 1] hs fun a hs => ?_
                refine Vk.seq fun K313 hK313 => ?_
                refine qsr fun K314 hK314 => ?_
                refine qpu 4 hs fun a hs => ?_
                obtain ⟨v_317, h_316, hm⟩ := bind_t hm
                refine qcl (slots_place.ok _ _ _ h_316 _ _ (pt b_7 (blk [C.map (some b_6)] 83) :: mpp b_6 (fun (x : Tslots_Slot) => .agg (vals [ci x.kind, ci x.size, C.slc A_x3 x3.length c_x3, C.slc A_x4 x4.length c_x4])) p_310 :: S) hs.own) hs fun w a hs => ?_
                refine qpk 2 [0, 1, 13] hs fun a hs => hK314 _ _ ?_
                clear hK314
                refine qcs (!v_317) hs (fun hb => ?_) fun hb => ?_
                ·replace hm := bif_t hm hb
                 refine qse 1 [(4, .bool false)] hs fun a hs => ?_
                 refine wp_ret ?_
                 refine hKP311 _ _ ?_
                 exact hj311 false hm _ _ (hs.go [4] [0, 1] 2 (by kernel_rfl) (by kernel_rfl) (by kernel_rfl))
                ·replace hm := bif_f hm hb
                 refine wp_skip ?_
                 refine hK313 _ _ ?_
                 clear hK313
                 refine Vk.seq fun K319 hK319 => ?_
                 have hj319 : ∀ (p_326 : Bool), visorlaw48_SlotsKeep.j2_5 k x0 p_12 p_310 p_326 = some r → ∀ (a : Act) (w : World), St 25 a w κ [(6, .bool p_326)] (pt b_7 (blk [C.map (some b_6)] 83) :: mpp b_6 (fun (x : Tslots_Slot) => .agg (vals [ci x.kind, ci x.size, C.slc A_x3 x3.length c_x3, C.slc A_x4 x4.length c_x4])) p_310 :: S) → K319 a w := by
                  intro p_326 hm a w hs
                  unfold visorlaw48_SlotsKeep.j2_5 at hm
                  refine hK319 _ _ ?_
                  refine qse 3 [(4, .bool (!p_326))] hs fun a hs => ?_
                  refine wp_ret ?_
                  refine hKP311 _ _ ?_
                  exact hj311 (!p_326) hm _ _ (hs.go [4] [0, 1] 2 (by kernel_rfl) (by kernel_rfl) (by kernel_rfl))
                 refine Vk.region ?_
                 refine qpu 3 hs fun a hs => ?_
                 refine qld 0 (C.map (some b_6)) hs rfl fun a hs => ?_
                 refine qpu 1 hs fun a hs => ?_
                 rcases Bool.eq_false_or_eq_true ((mget p_310 (Int.tmod (IntKind.i64.wrap x0) 4)).isSome) with hb | hb
                 ·replace hm := bif_t hm hb
                  obtain ⟨e_320, h_321, hm⟩ := bind_t hm
                  refine qva (.tuple #[.agg (vals [ci e_320.kind, ci e_320.size, C.slc A_x3 x3.length c_x3, C.slc A_x4 x4.length c_x4]), .bool true]) (op := (.lookup 81 (.tmp 18) (.tmp 19) true)) hs (fun o ho => run_mgetS (et := 27) (ev := (fun (x : Tslots_Slot) => .agg (vals [ci x.kind, ci x.size, C.slc A_x3 x3.length c_x3, C.slc A_x4 x4.length c_x4]))) 1 h_321 rfl ho (by kernel_rfl) (by kernel_rfl) (by kernel_rfl) (by kernel_rfl) _ hs.own) fun a hs => ?_
                  refine qpu 3 hs fun a hs => ?_
                  refine qal 27 [ci 0, ci 0, C.slc none 0 0, C.slc none 0 0] 5 hs fun b_322 w a hs => ?_
                  refine qsa 0 [ci e_320.kind, ci e_320.size, C.slc A_x3 x3.length c_x3, C.slc A_x4 x4.length c_x4] hs rfl fun a w hs => ?_
                  refine qpe 1 [(6, .bool true)] hs fun a hs => ?_
                  exact hj319 true hm _ _ (hs.go [6] [1, 2] 3 (by kernel_rfl) (by kernel_rfl) (by kernel_rfl))
                 ·replace hm := bif_f hm hb
                  refine qva (.tuple #[.agg (vals [ci 0, ci 0, C.slc none 0 0, C.slc none 0 0]), .bool false]) (op := (.lookup 81 (.tmp 18) (.tmp 19) true)) hs (fun o ho => run_mgetN (et := 27) (ev := (fun (x : Tslots_Slot) => .agg (vals [ci x.kind, ci x.size, C.slc A_x3 x3.length c_x3, C.slc A_x4 x4.length c_x4]))) (z := .agg (vals [ci 0, ci 0, C.slc none 0 0, C.slc none 0 0])) 1 hb rfl ho (by kernel_rfl) (by kernel_rfl) (by kernel_rfl) (by kernel_rfl) _ hs.own) fun a hs => ?_
                  refine qpu 3 hs fun a hs => ?_
                  refine qal 27 [ci 0, ci 0, C.slc none 0 0, C.slc none 0 0] 5 hs fun b_323 w a hs => ?_
                  refine qsa 0 [ci 0, ci 0, C.slc none 0 0, C.slc none 0 0] hs rfl fun a w hs => ?_
                  refine qpe 1 [(6, .bool false)] hs fun a hs => ?_
                  replace hs := hs.addRow none 53 24 eC
                  replace hs := hs.addRow none 51 3 eC
                  exact hj319 false hm _ _ (hs.go [6] [3, 4] 5 (by kernel_rfl) (by kernel_rfl) (by kernel_rfl))
              refine qsk 1 [0, 1] hs fun a hs => ?_
              refine Vk.seq fun K280 hK280 => ?_
              refine wp_block ?_
              refine qsk 3 [0, 1, 5] hs fun a hs => ?_
              refine qcf hs ?_
              refine qsr fun K282 hK282 => ?_
              refine qpu 1 hs fun a hs => ?_
              obtain ⟨v_285, h_284, hm⟩ := bind_t hm
              refine qcl (slots_place.ok _ _ _ h_284 _ _ (pt b_7 (blk [C.map (some b_6)] 83) :: mpp b_6 (fun (x : Tslots_Slot) => .agg (vals [ci x.kind, ci x.size, C.slc A_x3 x3.length c_x3, C.slc A_x4 x4.length c_x4])) p_71 :: pt b_242 (blk ([ci 1, ci 0, C.slc none (([] : List Cells).length) 0, C.slc none (([] : List Cells).length) 0]) 27) :: rowp none 0 53 24 eC ([] : List Cells) :: rowp none 0 51 3 eC ([] : List Cells) :: S) hs.own) hs fun w a hs => ?_
              refine qpk 2 [0, 1, 8] hs fun a hs => hK282 _ _ ?_
              clear hK282
              refine qcs (!v_285) hs (fun hb => ?_) fun hb => ?_
              ·replace hm := bif_t hm hb
               refine qse 1 [(4, vi 6)] hs fun a hs => ?_
               refine wp_ret ?_
               refine hKP278 _ _ ?_
               exact hj278 6 p_71 hm _ _ (hs.go [4] [0, 1] 5 (by kernel_rfl) (by kernel_rfl) (by kernel_rfl))
              ·replace hm := bif_f hm hb
               refine qsr fun K287 hK287 => ?_
               refine qpu 2 hs fun a hs => ?_
               refine Vk.step (Vk.call (some 15) 10 #[pp b_7, vi (Int.tmod (IntKind.i64.wrap x0) 4)] hs (by kernel_rfl) (by kernel_rfl) (by kernel_rfl) ?_)
               refine Vk.enterI [(0, pp b_7), (1, vi (Int.tmod (IntKind.i64.wrap x0) 4))] Try.func10 rfl Try.ntmps10 (by kernel_rfl) (Nat.le_of_ble_eq_true (by kernel_rfl)) hs.own fun KR288 hKR288 hKP288 a hs => ?_
               have hj288 : ∀ (p_305 : Bool), visorlaw48_SlotsKeep.j3_4 k x0 p_12 p_71 p_305 = some r → ∀ (a : Act) (w : World), St 25 a w κ [(4, .bool p_305)] (pt b_7 (blk [C.map (some b_6)] 83) :: mpp b_6 (fun (x : Tslots_Slot) => .agg (vals [ci x.kind, ci x.size, C.slc A_x3 x3.length c_x3, C.slc A_x4 x4.length c_x4])) p_71 :: S) → KR288 a w := by
                intro p_305 hm a w hs
                unfold visorlaw48_SlotsKeep.j3_4 at hm
                refine hKR288 _ _ ?_
                refine Vk.ret1 (P := Try.prog) (fn := Try.f10) (.bool p_305) hs rfl (by kernel_rfl) ⟨_, _, _, rfl, hs.own, fun a hs => ?_⟩
                refine qpk 1 [0, 1, 12] hs fun a hs => hK287 _ _ ?_
                clear hK287
                refine qcs (p_305) hs (fun hb => ?_) fun hb => ?_
                ·replace hm := bif_t hm hb
                 refine qse 1 [(4, vi 7)] hs fun a hs => ?_
                 refine wp_ret ?_
                 refine hKP278 _ _ ?_
                 exact hj278 7 p_71 hm _ _ (hs.go [4] [0, 1] 2 (by kernel_rfl) (by kernel_rfl) (by kernel_rfl))
                ·replace hm := bif_f hm hb
                 refine wp_skip ?_
                 refine hK280 _ _ ?_
                 clear hK280
                 refine qsr fun K307 hK307 => ?_
                 refine qpu 3 hs fun a hs => ?_
                 refine qld 0 (C.map (some b_6)) hs rfl fun a hs => ?_
                 refine qpu 1 hs fun a hs => ?_
                 refine Vk.step (mdelOp (t := 81) (t' := 3) (et := 27) (xm := (.tmp 19)) (xk := (.tmp 20)) (ev := (fun (x : Tslots_Slot) => .agg (vals [ci x.kind, ci x.size, C.slc A_x3 x3.length c_x3, C.slc A_x4 x4.length c_x4]))) (Int.tmod (IntKind.i64.wrap x0) 4) 1 none hs rfl fun a w hs => ?_)
                 refine qpe 0 [] hs fun a hs => hK307 _ _ ?_
                 clear hK307
                 refine qse 1 [(4, vi 0)] hs fun a hs => ?_
                 refine wp_ret ?_
                 refine hKP278 _ _ ?_
                 exact hj278 0 (mdel p_71 (Int.tmod (IntKind.i64.wrap x0) 4)) hm _ _ (hs.go [4] [0, 1] 2 (by kernel_rfl) (by kernel_rfl) (by kernel_rfl))
               refine qsk 1 [0, 1] hs fun a hs => ?_
               refine Vk.seq fun K290 hK290 => ?_
               refine qsr fun K291 hK291 => ?_
               refine qpu 4 hs fun a hs => ?_
               obtain ⟨v_294, h_293, hm⟩ := bind_t hm
               refine qcl (slots_place.ok _ _ _ h_293 _ _ (pt b_7 (blk [C.map (some b_6)] 83) :: mpp b_6 (fun (x : Tslots_Slot) => .agg (vals [ci x.kind, ci x.size, C.slc A_x3 x3.length c_x3, C.slc A_x4 x4.length c_x4])) p_71 :: pt b_242 (blk ([ci 1, ci 0, C.slc none (([] : List Cells).length) 0, C.slc none (([] : List Cells).length) 0]) 27) :: rowp none 0 53 24 eC ([] : List Cells) :: rowp none 0 51 3 eC ([] : List Cells) :: S) hs.own) hs fun w a hs => ?_
               refine qpk 2 [0, 1, 13] hs fun a hs => hK291 _ _ ?_
               clear hK291
               refine qcs (!v_294) hs (fun hb => ?_) fun hb => ?_
               ·replace hm := bif_t hm hb
                refine qse 1 [(4, .bool false)] hs fun a hs => ?_
                refine wp_ret ?_
                refine hKP288 _ _ ?_
                exact hj288 false hm _ _ (hs.go [4] [0, 1] 5 (by kernel_rfl) (by kernel_rfl) (by kernel_rfl))
               ·replace hm := bif_f hm hb
                refine wp_skip ?_
                refine hK290 _ _ ?_
                clear hK290
                refine Vk.seq fun K296 hK296 => ?_
                have hj296 : ∀ (p_303 : Bool), visorlaw48_SlotsKeep.j2_4 k x0 p_12 p_71 p_303 = some r → ∀ (a : Act) (w : World), St 25 a w κ [(6, .bool p_303)] (pt b_7 (blk [C.map (some b_6)] 83) :: mpp b_6 (fun (x : Tslots_Slot) => .agg (vals [ci x.kind, ci x.size, C.slc A_x3 x3.length c_x3, C.slc A_x4 x4.length c_x4])) p_71 :: S) → K296 a w := by
                 intro p_303 hm a w hs
                 unfold visorlaw48_SlotsKeep.j2_4 at hm
                 refine hK296 _ _ ?_
                 refine qse 3 [(4, .bool (!p_303))] hs fun a hs => ?_
                 refine wp_ret ?_
                 refine hKP288 _ _ ?_
                 exact hj288 (!p_303) hm _ _ (hs.go [4] [0, 1] 2 (by kernel_rfl) (by kernel_rfl) (by kernel_rfl))
                refine Vk.region ?_
                refine qpu 3 hs fun a hs => ?_
                refine qld 0 (C.map (some b_6)) hs rfl fun a hs => ?_
                refine qpu 1 hs fun a hs => ?_
                rcases Bool.eq_false_or_eq_true ((mget p_71 (Int.tmod (IntKind.i64.wrap x0) 4)).isSome) with hb | hb
                ·replace hm := bif_t hm hb
                 obtain ⟨e_297, h_298, hm⟩ := bind_t hm
                 refine qva (.tuple #[.agg (vals [ci e_297.kind, ci e_297.size, C.slc A_x3 x3.length c_x3, C.slc A_x4 x4.length c_x4]), .bool true]) (op := (.lookup 81 (.tmp 18) (.tmp 19) true)) hs (fun o ho => run_mgetS (et := 27) (ev := (fun (x : Tslots_Slot) => .agg (vals [ci x.kind, ci x.size, C.slc A_x3 x3.length c_x3, C.slc A_x4 x4.length c_x4]))) 1 h_298 rfl ho (by kernel_rfl) (by kernel_rfl) (by kernel_rfl) (by kernel_rfl) _ hs.own) fun a hs => ?_
                 refine qpu 3 hs fun a hs => ?_
                 refine qal 27 [ci 0, ci 0, C.slc none 0 0, C.slc none 0 0] 5 hs fun b_299 w a hs => ?_
                 refine qsa 0 [ci e_297.kind, ci e_297.size, C.slc A_x3 x3.length c_x3, C.slc A_x4 x4.length c_x4] hs rfl fun a w hs => ?_
                 refine qpe 1 [(6, .bool true)] hs fun a hs => ?_
                 exact hj296 true hm _ _ (hs.go [6] [1, 2] 6 (by kernel_rfl) (by kernel_rfl) (by kernel_rfl))
                ·replace hm := bif_f hm hb
                 refine qva (.tuple #[.agg (vals [ci 0, ci 0, C.slc none 0 0, C.slc none 0 0]), .bool false]) (op := (.lookup 81 (.tmp 18) (.tmp 19) true)) hs (fun o ho => run_mgetN (et := 27) (ev := (fun (x : Tslots_Slot) => .agg (vals [ci x.kind, ci x.size, C.slc A_x3 x3.length c_x3, C.slc A_x4 x4.length c_x4]))) (z := .agg (vals [ci 0, ci 0, C.slc none 0 0, C.slc none 0 0])) 1 hb rfl ho (by kernel_rfl) (by kernel_rfl) (by kernel_rfl) (by kernel_rfl) _ hs.own) fun a hs => ?_
                 refine qpu 3 hs fun a hs => ?_
                 refine qal 27 [ci 0, ci 0, C.slc none 0 0, C.slc none 0 0] 5 hs fun b_300 w a hs => ?_
                 refine qsa 0 [ci 0, ci 0, C.slc none 0 0, C.slc none 0 0] hs rfl fun a w hs => ?_
                 refine qpe 1 [(6, .bool false)] hs fun a hs => ?_
                 replace hs := hs.addRow none 53 24 eC
                 replace hs := hs.addRow none 51 3 eC
                 exact hj296 false hm _ _ (hs.go [6] [3, 4] 8 (by kernel_rfl) (by kernel_rfl) (by kernel_rfl))
             ·replace hm := bif_f hm hb
              refine wp_skip ?_
              refine hK243 _ _ ?_
              clear hK243
              refine Vk.seq fun K276 hK276 => ?_
              obtain ⟨C_277, hC_277⟩ := qC hs.own
              refine qdr 7 κ C_277 hs fun w hs hqC_277 => ?_
              have hcl := qO hC_277 hs.own
              refine qdp (fuel := 3) [0, 1, 2, 4] hs hcl hqC_277 fun a hs => ?_
              refine qdl 3 0 (C.map (some b_6)) hs hcl hqC_277 hC_277 rfl fun a hs => ?_
              refine qdn 5 2 ([ci 1, ci 0, C.slc none (([] : List Cells).length) 0, C.slc none (([] : List Cells).length) 0]) hs hcl hqC_277 hC_277 rfl fun a hs => ?_
              cases hm
            refine Vk.region ?_
            refine qpu 2 hs fun a hs => ?_
            refine Vk.step (Vk.call (some 13) 10 #[pp b_7, vi (Int.tmod (IntKind.i64.wrap x0) 4)] hs (by kernel_rfl) (by kernel_rfl) (by kernel_rfl) ?_)
            refine Vk.enterI [(0, pp b_7), (1, vi (Int.tmod (IntKind.i64.wrap x0) 4))] Try.func10 rfl Try.ntmps10 (by kernel_rfl) (Nat.le_of_ble_eq_true (by kernel_rfl)) hs.own fun KR246 hKR246 hKP246 a hs => ?_
            have hj246 : ∀ (p_271 : Bool), visorlaw48_SlotsKeep.j3_3 k x0 p_12 p_71 p_271 = some r → ∀ (a : Act) (w : World), St 25 a w κ [(4, .bool p_271)] (pt b_7 (blk [C.map (some b_6)] 83) :: mpp b_6 (fun (x : Tslots_Slot) => .agg (vals [ci x.kind, ci x.size, C.slc A_x3 x3.length c_x3, C.slc A_x4 x4.length c_x4])) p_71 :: pt b_242 (blk ([ci 1, ci 0, C.slc none (([] : List Cells).length) 0, C.slc none (([] : List Cells).length) 0]) 27) :: rowp none 0 53 24 eC ([] : List Cells) :: rowp none 0 51 3 eC ([] : List Cells) :: S) → KR246 a w := by
             intro p_271 hm a w hs
             unfold visorlaw48_SlotsKeep.j3_3 at hm
             refine hKR246 _ _ ?_
             refine Vk.ret1 (P := Try.prog) (fn := Try.f10) (.bool p_271) hs rfl (by kernel_rfl) ⟨_, _, _, rfl, hs.own, fun a hs => ?_⟩
             refine qpu 2 hs fun a hs => ?_
             rcases Bool.eq_false_or_eq_true (!p_271) with hb | hb
             ·replace hm := bif_t hm hb
              replace hs := hs.known (t := 15) hb (by kernel_rfl)
              refine qpe 10 [(0, pp b_7), (1, vi (Int.tmod (IntKind.i64.wrap x0) 4)), (5, pp b_242), (10, .bool true)] hs fun a hs => ?_
              exact hj245 true hm _ _ (hs.go [0, 1, 5, 10] [0, 1, 2, 3, 4] 5 (by kernel_rfl) (by kernel_rfl) (by kernel_rfl))
             ·replace hm := bif_f hm hb
              replace hs := hs.known (t := 15) hb (by kernel_rfl)
              refine qpu 1 hs fun a hs => ?_
              refine qld 2 (ci 1) hs rfl fun a hs => ?_
              refine qpe 8 [(0, pp b_7), (1, vi (Int.tmod (IntKind.i64.wrap x0) 4)), (5, pp b_242), (10, .bool false)] hs fun a hs => ?_
              exact hj245 false hm _ _ (hs.go [0, 1, 5, 10] [0, 1, 2, 3, 4] 5 (by kernel_rfl) (by kernel_rfl) (by kernel_rfl))
            refine qsk 1 [0, 1] hs fun a hs => ?_
            refine Vk.seq fun K248 hK248 => ?_
            refine qsr fun K249 hK249 => ?_
            refine qpu 4 hs fun a hs => ?_
            obtain ⟨v_252, h_251, hm⟩ := bind_t hm
            refine qcl (slots_place.ok _ _ _ h_251 _ _ (pt b_242 (blk [ci 1, ci 0, C.slc none 0 0, C.slc none 0 0] 27) :: pt b_7 (blk [C.map (some b_6)] 83) :: mpp b_6 (fun (x : Tslots_Slot) => .agg (vals [ci x.kind, ci x.size, C.slc A_x3 x3.length c_x3, C.slc A_x4 x4.length c_x4])) p_71 :: S) hs.own) hs fun w a hs => ?_
            refine qpk 2 [0, 1, 13] hs fun a hs => hK249 _ _ ?_
            clear hK249
            refine qcs (!v_252) hs (fun hb => ?_) fun hb => ?_
            ·replace hm := bif_t hm hb
             refine qse 1 [(4, .bool false)] hs fun a hs => ?_
             refine wp_ret ?_
             refine hKP246 _ _ ?_
             replace hs := hs.addRow none 53 24 eC
             replace hs := hs.addRow none 51 3 eC
             exact hj246 false hm _ _ (hs.go [4] [3, 4, 2, 1, 0] 5 (by kernel_rfl) (by kernel_rfl) (by kernel_rfl))
            ·replace hm := bif_f hm hb
             refine wp_skip ?_
             refine hK248 _ _ ?_
             clear hK248
             refine Vk.seq fun K254 hK254 => ?_
             have hj254 : ∀ (p_265 : Bool), visorlaw48_SlotsKeep.j2_3 k x0 p_12 p_71 p_265 = some r → ∀ (a : Act) (w : World), St 25 a w κ [(6, .bool p_265)] (pt b_7 (blk [C.map (some b_6)] 83) :: mpp b_6 (fun (x : Tslots_Slot) => .agg (vals [ci x.kind, ci x.size, C.slc A_x3 x3.length c_x3, C.slc A_x4 x4.length c_x4])) p_71 :: pt b_242 (blk ([ci 1, ci 0, C.slc none (([] : List Cells).length) 0, C.slc none (([] : List Cells).length) 0]) 27) :: rowp none 0 53 24 eC ([] : List Cells) :: rowp none 0 51 3 eC ([] : List Cells) :: S) → K254 a w := by
              intro p_265 hm a w hs
              unfold visorlaw48_SlotsKeep.j2_3 at hm
              refine hK254 _ _ ?_
              refine qse 3 [(4, .bool (!p_265))] hs fun a hs => ?_
              refine wp_ret ?_
              refine hKP246 _ _ ?_
              exact hj246 (!p_265) hm _ _ (hs.go [4] [0, 1, 2, 3, 4] 5 (by kernel_rfl) (by kernel_rfl) (by kernel_rfl))
             refine Vk.region ?_
             refine qpu 3 hs fun a hs => ?_
             refine qld 1 (C.map (some b_6)) hs rfl fun a hs => ?_
             refine qpu 1 hs fun a hs => ?_
             rcases Bool.eq_false_or_eq_true ((mget p_71 (Int.tmod (IntKind.i64.wrap x0) 4)).isSome) with hb | hb
             ·replace hm := bif_t hm hb
              obtain ⟨e_255, h_256, hm⟩ := bind_t hm
              refine qva (.tuple #[.agg (vals [ci e_255.kind, ci e_255.size, C.slc A_x3 x3.length c_x3, C.slc A_x4 x4.length c_x4]), .bool true]) (op := (.lookup 81 (.tmp 18) (.tmp 19) true)) hs (fun o ho => run_mgetS (et := 27) (ev := (fun (x : Tslots_Slot) => .agg (vals [ci x.kind, ci x.size, C.slc A_x3 x3.length c_x3, C.slc A_x4 x4.length c_x4]))) 2 h_256 rfl ho (by kernel_rfl) (by kernel_rfl) (by kernel_rfl) (by kernel_rfl) _ hs.own) fun a hs => ?_
              refine qpu 3 hs fun a hs => ?_
              refine qal 27 [ci 0, ci 0, C.slc none 0 0, C.slc none 0 0] 5 hs fun b_257 w a hs => ?_
              refine qsa 0 [ci e_255.kind, ci e_255.size, C.slc A_x3 x3.length c_x3, C.slc A_x4 x4.length c_x4] hs rfl fun a w hs => ?_
              refine qpe 1 [(6, .bool true)] hs fun a hs => ?_
              replace hs := hs.addRow none 53 24 eC
              replace hs := hs.addRow none 51 3 eC
              exact hj254 true hm _ _ (hs.go [6] [4, 5, 3, 1, 0] 6 (by kernel_rfl) (by kernel_rfl) (by kernel_rfl))
             ·replace hm := bif_f hm hb
              refine qva (.tuple #[.agg (vals [ci 0, ci 0, C.slc none 0 0, C.slc none 0 0]), .bool false]) (op := (.lookup 81 (.tmp 18) (.tmp 19) true)) hs (fun o ho => run_mgetN (et := 27) (ev := (fun (x : Tslots_Slot) => .agg (vals [ci x.kind, ci x.size, C.slc A_x3 x3.length c_x3, C.slc A_x4 x4.length c_x4]))) (z := .agg (vals [ci 0, ci 0, C.slc none 0 0, C.slc none 0 0])) 2 hb rfl ho (by kernel_rfl) (by kernel_rfl) (by kernel_rfl) (by kernel_rfl) _ hs.own) fun a hs => ?_
              refine qpu 3 hs fun a hs => ?_
              refine qal 27 [ci 0, ci 0, C.slc none 0 0, C.slc none 0 0] 5 hs fun b_258 w a hs => ?_
              refine qsa 0 [ci 0, ci 0, C.slc none 0 0, C.slc none 0 0] hs rfl fun a w hs => ?_
              refine qpe 1 [(6, .bool false)] hs fun a hs => ?_
              replace hs := hs.addRow none 53 24 eC
              replace hs := hs.addRow none 51 3 eC
              replace hs := hs.addRow none 53 24 eC
              replace hs := hs.addRow none 51 3 eC
              exact hj254 false hm _ _ (hs.go [6] [6, 7, 5, 1, 0] 8 (by kernel_rfl) (by kernel_rfl) (by kernel_rfl))
           have hret211 : ∀ v, r211 = Sum.inl v → v = r := by intro v he; subst r211; exact Option.some.inj hm
           refine Vk.loopBy (fun k (s : Int) a w => visorlaw48_SlotsKeep.l2 x4 k s = some r211 ∧ St 174 a w κ [(4, .slice A_x4 x4.length c_x4), (13, pp b_7), (14, vi (Int.tmod (IntKind.i64.wrap x0) 4)), (15, vi p_12), (16, pp b_94), (23, vi s)] (pt b_7 (blk [C.map (some b_6)] 83) :: mpp b_6 (fun (x : Tslots_Slot) => .agg (vals [ci x.kind, ci x.size, C.slc A_x3 x3.length c_x3, C.slc A_x4 x4.length c_x4])) p_71 :: pt b_94 (blk [ci e_86.kind, ci e_86.size, C.slc A_x3 x3.length c_x3, C.slc A_x4 x4.length c_x4] 27) :: S)) k 0 ⟨hl211, hs.go [4, 13, 14, 15, 16, 23] [0, 1, 2] 3 (by kernel_rfl) (by kernel_rfl) (by kernel_rfl)⟩ (fun s a w h => by obtain ⟨h1, _⟩ := h; simp [visorlaw48_SlotsKeep.l2] at h1) (fun k KL211 ih q_212 a w h => ?_)
           obtain ⟨hm, hs⟩ := h
           try dsimp only at hm hs
           rw [visorlaw48_SlotsKeep.l2] at hm
           refine Vk.seq fun K213 hK213 => ?_
           refine qsk 4 [4, 13, 14, 15, 16, 23, 127] hs fun a hs => ?_
           refine qcs (decide (q_212 < ((x4.length : Nat) : Int))) hs (fun hb => ?_) fun hb => ?_
           ·replace hm := bif_t hm hb
            refine wp_skip ?_
            refine hK213 _ _ ?_
            clear hK213
            refine Vk.seq fun K215 hK215 => ?_
            refine wp_block ?_
            refine Vk.seq fun K216 hK216 => ?_
            obtain ⟨C_217, hC_217⟩ := qC hs.own
            refine qdr 10 κ C_217 hs fun w hs hqC_217 => ?_
            have hcl := qO hC_217 hs.own
            refine qdp (fuel := 6) [0, 2, 5, 6] hs hcl hqC_217 fun a hs => ?_
            refine qdl 1 2 (C.slc A_x4 x4.length c_x4) hs hcl hqC_217 hC_217 rfl fun a hs => ?_
            obtain ⟨h_218, hm⟩ := ite_t hm
            obtain ⟨e_221, h_219, hm⟩ := bind_t hm
            obtain ⟨b_222, o_223, hA_224, h_220⟩ := Sl.elem hx_x4 h_219
            refine qdt 3 (.pointer (some ⟨b_222, o_223 + q_212.toNat * 3, none⟩)) (op := (.indexAddr 25 (.tmp 131) (.tmp 132))) hs hcl hqC_217 (fun w hw o ho => by rw [hC_217] at hw; exact run_idxSlc (k := .i64) ho (cap := c_x4) (len := x4.length) ((congrArg (fun A => Value.slice A (x4.length) (c_x4)) hA_224) ▸ (by kernel_rfl)) (by kernel_rfl) (by kernel_rfl) (idx_ok h_218 h_219) _) fun a hs => ?_
            obtain ⟨h_225, hm⟩ := ite_t hm
            refine qdt 4 (.agg (vals e_221)) (op := (.load 51 (.tmp 133))) hs hcl hqC_217 (fun w hw o ho => by rw [hC_217] at hw; exact run_loadN (cs := e_221) ho (by kernel_rfl) (by kernel_rfl) h_225 h_220 _ hw.drop.drop.drop) fun a hs => ?_
            obtain ⟨h_226, hm⟩ := ite_t hm
            obtain ⟨e_229, h_227, hm⟩ := bind_t hm
            obtain ⟨b_230, o_231, hA_232, h_228⟩ := Sl.elem hx_x4 h_227
            refine qdt 7 (.pointer (some ⟨b_230, o_231 + q_212.toNat * 3, none⟩)) (op := (.indexAddr 25 (.tmp 135) (.tmp 136))) hs hcl hqC_217 (fun w hw o ho => by rw [hC_217] at hw; exact run_idxSlc (k := .i64) ho (cap := c_x4) (len := x4.length) ((congrArg (fun A => Value.slice A (x4.length) (c_x4)) hA_232) ▸ (by kernel_rfl)) (by kernel_rfl) (by kernel_rfl) (idx_ok h_226 h_227) _) fun a hs => ?_
            obtain ⟨h_233, hm⟩ := ite_t hm
            refine qdt 8 (.agg (vals e_229)) (op := (.load 51 (.tmp 137))) hs hcl hqC_217 (fun w hw o ho => by rw [hC_217] at hw; exact run_loadN (cs := e_229) ho (by kernel_rfl) (by kernel_rfl) h_233 h_228 _ hw.drop.drop.drop) fun a hs => ?_
            obtain ⟨h_234, hm⟩ := ite_t hm
            obtain ⟨h_235, hm⟩ := ite_t hm
            refine qdt 9 (.bool (!(ceq e_221 e_229))) (op := (.binOp .neq 51 (.tmp 134) (.tmp 138) 51)) hs hcl hqC_217 (fun w hw o ho => by rw [hC_217] at hw; exact run_neqV (ks := ((List.replicate 3 [LK.int .i64]).flatten)) (cs := e_221) (us := e_229) ho (by kernel_rfl) (by kernel_rfl) (by kernel_rfl) h_234 h_235 _) fun a hs => ?_
            replace hs := hs.pick [4, 13, 14, 15, 16, 23, 139] (L' := [(4, .slice A_x4 x4.length c_x4), (13, pp b_7), (14, vi (Int.tmod (IntKind.i64.wrap x0) 4)), (15, vi p_12), (16, pp b_94), (23, vi q_212), (139, .bool (!(ceq e_221 e_229)))]) (by kernel_rfl)
            refine Vk.dDone (by kernel_rfl) ?_
            refine hK216 _ _ ?_
            clear hK216
            refine qcs (!(ceq e_221 e_229)) hs (fun hb => ?_) fun hb => ?_
            ·replace hm := bif_t hm hb
             refine qse 1 [(12, .bool false)] hs fun a hs => ?_
             refine wp_ret ?_
             exact Vk.ret1 (P := Try.prog) (fn := Try.f4) (R := RR) (.bool false) hs rfl (by kernel_rfl) (by obtain rfl := hret211 _ ((Option.some.inj hm).symm); subst hRR; exact ⟨rfl, hs.own.f2.drop.f1.drop.drop⟩)
            ·replace hm := bif_f hm hb
             refine wp_skip ?_
             refine hK215 _ _ ?_
             clear hK215
             refine Vk.region ?_
             refine qpe 3 [(4, .slice A_x4 x4.length c_x4), (13, pp b_7), (14, vi (Int.tmod (IntKind.i64.wrap x0) 4)), (15, vi p_12), (16, pp b_94), (23, vi (IntKind.i64.wrap (q_212 + 1)))] hs fun a hs => ?_
             refine ih (IntKind.i64.wrap (q_212 + 1)) _ _ ⟨hm, hs.go [4, 13, 14, 15, 16, 23] [0, 1, 2] 3 (by kernel_rfl) (by kernel_rfl) (by kernel_rfl)⟩
           ·replace hm := bif_f hm hb
            refine wp_exit ?_
            exact hx211 (Option.some.inj hm).symm _ _ (hs.go [13, 14, 15] [0, 1] 3 (by kernel_rfl) (by kernel_rfl) (by kernel_rfl))
          have hret182 : ∀ v, r182 = Sum.inl v → v = r := by intro v he; subst r182; exact Option.some.inj hm
          refine Vk.loopBy (fun k (s : Int) a w => visorlaw48_SlotsKeep.l1 x3 k s = some r182 ∧ St 174 a w κ [(3, .slice A_x3 x3.length c_x3), (4, .slice A_x4 x4.length c_x4), (13, pp b_7), (14, vi (Int.tmod (IntKind.i64.wrap x0) 4)), (15, vi p_12), (16, pp b_94), (22, vi s)] (pt b_7 (blk [C.map (some b_6)] 83) :: mpp b_6 (fun (x : Tslots_Slot) => .agg (vals [ci x.kind, ci x.size, C.slc A_x3 x3.length c_x3, C.slc A_x4 x4.length c_x4])) p_71 :: pt b_94 (blk [ci e_86.kind, ci e_86.size, C.slc A_x3 x3.length c_x3, C.slc A_x4 x4.length c_x4] 27) :: S)) k 0 ⟨hl182, hs.go [3, 4, 13, 14, 15, 16, 22] [0, 1, 2] 3 (by kernel_rfl) (by kernel_rfl) (by kernel_rfl)⟩ (fun s a w h => by obtain ⟨h1, _⟩ := h; simp [visorlaw48_SlotsKeep.l1] at h1) (fun k KL182 ih q_183 a w h => ?_)
          obtain ⟨hm, hs⟩ := h
          try dsimp only at hm hs
          rw [visorlaw48_SlotsKeep.l1] at hm
          refine Vk.seq fun K184 hK184 => ?_
          refine qsk 4 [3, 4, 13, 14, 15, 16, 22, 111] hs fun a hs => ?_
          refine qcs (decide (q_183 < ((x3.length : Nat) : Int))) hs (fun hb => ?_) fun hb => ?_
          ·replace hm := bif_t hm hb
           refine wp_skip ?_
           refine hK184 _ _ ?_
           clear hK184
           refine Vk.seq fun K186 hK186 => ?_
           refine wp_block ?_
           refine Vk.seq fun K187 hK187 => ?_
           obtain ⟨C_188, hC_188⟩ := qC hs.own
           refine qdr 10 κ C_188 hs fun w hs hqC_188 => ?_
           have hcl := qO hC_188 hs.own
           refine qdp (fuel := 6) [0, 2, 5, 6] hs hcl hqC_188 fun a hs => ?_
           refine qdl 1 2 (C.slc A_x3 x3.length c_x3) hs hcl hqC_188 hC_188 rfl fun a hs => ?_
           obtain ⟨h_189, hm⟩ := ite_t hm
           obtain ⟨e_192, h_190, hm⟩ := bind_t hm
           obtain ⟨b_193, o_194, hA_195, h_191⟩ := Sl.elem hx_x3 h_190
           refine qdt 3 (.pointer (some ⟨b_193, o_194 + q_183.toNat * 24, none⟩)) (op := (.indexAddr 24 (.tmp 115) (.tmp 116))) hs hcl hqC_188 (fun w hw o ho => by rw [hC_188] at hw; exact run_idxSlc (k := .i64) ho (cap := c_x3) (len := x3.length) ((congrArg (fun A => Value.slice A (x3.length) (c_x3)) hA_195) ▸ (by kernel_rfl)) (by kernel_rfl) (by kernel_rfl) (idx_ok h_189 h_190) _) fun a hs => ?_
           obtain ⟨h_196, hm⟩ := ite_t hm
           refine qdt 4 (.agg (vals e_192)) (op := (.load 53 (.tmp 117))) hs hcl hqC_188 (fun w hw o ho => by rw [hC_188] at hw; exact run_loadN (cs := e_192) ho (by kernel_rfl) (by kernel_rfl) h_196 h_191 _ hw.drop.drop.drop) fun a hs => ?_
           obtain ⟨h_197, hm⟩ := ite_t hm
           obtain ⟨e_200, h_198, hm⟩ := bind_t hm
           obtain ⟨b_201, o_202, hA_203, h_199⟩ := Sl.elem hx_x3 h_198
           refine qdt 7 (.pointer (some ⟨b_201, o_202 + q_183.toNat * 24, none⟩)) (op := (.indexAddr 24 (.tmp 119) (.tmp 120))) hs hcl hqC_188 (fun w hw o ho => by rw [hC_188] at hw; exact run_idxSlc (k := .i64) ho (cap := c_x3) (len := x3.length) ((congrArg (fun A => Value.slice A (x3.length) (c_x3)) hA_203) ▸ (by kernel_rfl)) (by kernel_rfl) (by kernel_rfl) (idx_ok h_197 h_198) _) fun a hs => ?_
           obtain ⟨h_204, hm⟩ := ite_t hm
           refine qdt 8 (.agg (vals e_200)) (op := (.load 53 (.tmp 121))) hs hcl hqC_188 (fun w hw o ho => by rw [hC_188] at hw; exact run_loadN (cs := e_200) ho (by kernel_rfl) (by kernel_rfl) h_204 h_199 _ hw.drop.drop.drop) fun a hs => ?_
           obtain ⟨h_205, hm⟩ := ite_t hm
           obtain ⟨h_206, hm⟩ := ite_t hm
           refine qdt 9 (.bool (!(ceq e_192 e_200))) (op := (.binOp .neq 53 (.tmp 118) (.tmp 122) 53)) hs hcl hqC_188 (fun w hw o ho => by rw [hC_188] at hw; exact run_neqV (ks := (List.replicate 8 ((List.replicate 3 [LK.int .i64]).flatten)).flatten) (cs := e_192) (us := e_200) ho (by kernel_rfl) (by kernel_rfl) (by kernel_rfl) h_205 h_206 _) fun a hs => ?_
           replace hs := hs.pick [3, 4, 13, 14, 15, 16, 22, 123] (L' := [(3, .slice A_x3 x3.length c_x3), (4, .slice A_x4 x4.length c_x4), (13, pp b_7), (14, vi (Int.tmod (IntKind.i64.wrap x0) 4)), (15, vi p_12), (16, pp b_94), (22, vi q_183), (123, .bool (!(ceq e_192 e_200)))]) (by kernel_rfl)
           refine Vk.dDone (by kernel_rfl) ?_
           refine hK187 _ _ ?_
           clear hK187
           refine qcs (!(ceq e_192 e_200)) hs (fun hb => ?_) fun hb => ?_
           ·replace hm := bif_t hm hb
            refine qse 1 [(12, .bool false)] hs fun a hs => ?_
            refine wp_ret ?_
            exact Vk.ret1 (P := Try.prog) (fn := Try.f4) (R := RR) (.bool false) hs rfl (by kernel_rfl) (by obtain rfl := hret182 _ ((Option.some.inj hm).symm); subst hRR; exact ⟨rfl, hs.own.f2.drop.f1.drop.drop⟩)
           ·replace hm := bif_f hm hb
            refine wp_skip ?_
            refine hK186 _ _ ?_
            clear hK186
            refine Vk.region ?_
            refine qpk 3 [3, 4, 13, 14, 15, 16, 22] hs fun a hs => ?_
            refine ih (IntKind.i64.wrap (q_183 + 1)) _ _ ⟨hm, hs.go [3, 4, 13, 14, 15, 16, 22] [0, 1, 2] 3 (by kernel_rfl) (by kernel_rfl) (by kernel_rfl)⟩
          ·replace hm := bif_f hm hb
           refine wp_exit ?_
           exact hx182 (Option.some.inj hm).symm _ _ (hs.go [4, 13, 14, 15, 16] [0, 1, 2] 3 (by kernel_rfl) (by kernel_rfl) (by kernel_rfl))
        refine Vk.region ?_
        refine qpu 3 hs fun a hs => ?_
        refine Vk.step (Vk.call (some 69) 7 #[pp b_7, vi x5, vi p_12] hs (by kernel_rfl) (by kernel_rfl) (by kernel_rfl) ?_)
        refine Vk.enterI [(0, pp b_7), (1, vi x5), (2, vi p_12)] Try.func7 rfl Try.ntmps7 (by kernel_rfl) (Nat.le_of_ble_eq_true (by kernel_rfl)) hs.own fun KR135 hKR135 hKP135 a hs => ?_
        have hj170 : ∀ (p_168 : Int), visorlaw48_SlotsKeep.j7_2 k x0 x2 x3 x4 x5 p_12 p_71 e_86 p_133 p_168 = some r → ∀ (b_165 : Nat) (a : Act) (w : World), St 38 a w κ [(6, pp b_165), (7, vi p_168)] (pt b_165 (blk ([ci 0, ci 0, C.slc none (([] : List Cells).length) 0, C.slc none (([] : List Cells).length) 0]) 27) :: rowp none 0 53 24 eC ([] : List Cells) :: rowp none 0 51 3 eC ([] : List Cells) :: pt b_7 (blk [C.map (some b_6)] 83) :: mpp b_6 (fun (x : Tslots_Slot) => .agg (vals [ci x.kind, ci x.size, C.slc A_x3 x3.length c_x3, C.slc A_x4 x4.length c_x4])) p_71 :: pt b_94 (blk [ci e_86.kind, ci e_86.size, C.slc A_x3 x3.length c_x3, C.slc A_x4 x4.length c_x4] 27) :: S) → KR135 a w := by
         intro p_168 hm b_165 a w hs
         unfold visorlaw48_SlotsKeep.j7_2 at hm
         refine hKR135 _ _ ?_
         refine Vk.retCT (P := Try.prog) (fn := Try.f7) ([ci 0, ci 0, C.slc none (([] : List Cells).length) 0, C.slc none (([] : List Cells).length) 0]) (vi p_168) hs rfl (by kernel_rfl) (sz := 4) (by kernel_rfl) rfl (CellsAt.all 0 rfl) (by kernel_rfl) ⟨_, _, _, rfl, hs.own, fun a hs => ?_⟩
         refine qpu 3 hs fun a hs => ?_
         refine qal 27 [ci 0, ci 0, C.slc none 0 0, C.slc none 0 0] 20 hs fun b_169 w a hs => ?_
         refine qsa 0 ([ci 0, ci 0, C.slc none (([] : List Cells).length) 0, C.slc none (([] : List Cells).length) 0]) hs rfl fun a w hs => ?_
         refine qpe 1 [(2, vi x2), (3, .slice A_x3 x3.length c_x3), (4, .slice A_x4 x4.length c_x4), (5, vi x5), (13, pp b_7), (14, vi (Int.tmod (IntKind.i64.wrap x0) 4)), (15, vi p_12), (16, pp b_94), (17, vi 0), (19, vi p_133), (21, vi p_168)] hs fun a hs => ?_
         exact hj134 p_168 hm _ _ (hs.go [2, 3, 4, 5, 13, 14, 15, 16, 17, 19, 21] [4, 5, 6] 7 (by kernel_rfl) (by kernel_rfl) (by kernel_rfl))
        refine qsr fun K136 hK136 => ?_
        refine qal 27 [ci 0, ci 0, C.slc none 0 0, C.slc none 0 0] 6 hs fun b_137 w a hs => ?_
        refine qpk 1 [0, 1, 2, 6] hs fun a hs => hK136 _ _ ?_
        clear hK136
        refine Vk.seq fun K138 hK138 => ?_
        refine wp_block ?_
        refine qsk 3 [0, 1, 2, 6, 10] hs fun a hs => ?_
        refine qcf hs ?_
        refine qsr fun K140 hK140 => ?_
        refine qpu 1 hs fun a hs => ?_
        obtain ⟨v_143, h_142, hm⟩ := bind_t hm
        refine qcl (slots_place.ok _ _ _ h_142 _ _ (pt b_137 (blk [ci 0, ci 0, C.slc none 0 0, C.slc none 0 0] 27) :: pt b_7 (blk [C.map (some b_6)] 83) :: mpp b_6 (fun (x : Tslots_Slot) => .agg (vals [ci x.kind, ci x.size, C.slc A_x3 x3.length c_x3, C.slc A_x4 x4.length c_x4])) p_71 :: pt b_94 (blk [ci e_86.kind, ci e_86.size, C.slc A_x3 x3.length c_x3, C.slc A_x4 x4.length c_x4] 27) :: S) hs.own) hs fun w a hs => ?_
        refine qpk 2 [0, 1, 2, 6, 14] hs fun a hs => hK140 _ _ ?_
        clear hK140
        refine qcs (!v_143) hs (fun hb => ?_) fun hb => ?_
        ·replace hm := bif_t hm hb
         refine qsr fun K144 hK144 => ?_
         refine qpu 1 hs fun a hs => ?_
         refine qsa 0 [ci 0, ci 0, C.slc none 0 0, C.slc none 0 0] hs rfl fun a w hs => ?_
         refine qpe 1 [(6, pp b_137), (7, vi 6)] hs fun a hs => hK144 _ _ ?_
         clear hK144
         refine wp_ret ?_
         refine hKP135 _ _ ?_
         replace hs := hs.addRow none 53 24 eC
         replace hs := hs.addRow none 51 3 eC
         exact hj170 6 hm b_137 _ _ (hs.go [6, 7] [2, 1, 0, 3, 4, 5] 6 (by kernel_rfl) (by kernel_rfl) (by kernel_rfl))
        ·replace hm := bif_f hm hb
         refine wp_skip ?_
         refine hK138 _ _ ?_
         clear hK138
         refine qsr fun K145 hK145 => ?_
         refine qpu 3 hs fun a hs => ?_
         refine qld 1 (C.map (some b_6)) hs rfl fun a hs => ?_
         refine qpu 1 hs fun a hs => ?_
         rcases Bool.eq_false_or_eq_true ((mget p_71 x5).isSome) with hb | hb
         ·replace hm := bif_t hm hb
          obtain ⟨e_146, h_147, hm⟩ := bind_t hm
          refine qva (.tuple #[.agg (vals [ci e_146.kind, ci e_146.size, C.slc A_x3 x3.length c_x3, C.slc A_x4 x4.length c_x4]), .bool true]) (op := (.lookup 81 (.tmp 23) (.tmp 24) true)) hs (fun o ho => run_mgetS (et := 27) (ev := (fun (x : Tslots_Slot) => .agg (vals [ci x.kind, ci x.size, C.slc A_x3 x3.length c_x3, C.slc A_x4 x4.length c_x4]))) 2 h_147 rfl ho (by kernel_rfl) (by kernel_rfl) (by kernel_rfl) (by kernel_rfl) _ hs.own) fun a hs => ?_
          refine qpu 3 hs fun a hs => ?_
          refine qal 27 [ci 0, ci 0, C.slc none 0 0, C.slc none 0 0] 8 hs fun b_148 w a hs => ?_
          refine qsa 0 [ci e_146.kind, ci e_146.size, C.slc A_x3 x3.length c_x3, C.slc A_x4 x4.length c_x4] hs rfl fun a w hs => ?_
          refine qpk 1 [2, 6, 8, 9] hs fun a hs => hK145 _ _ ?_
          refine Vk.seq fun K150 hK150 => ?_
          refine qsr fun K151 hK151 => ?_
          refine qpu 4 hs fun a hs => ?_
          refine qld 0 (ci e_146.kind) hs rfl fun a hs => ?_
          refine qpk 3 [6, 8, 35] hs fun a hs => hK151 _ _ ?_
          clear hK151
          refine qcs (e_146.kind != p_12) hs (fun hb => ?_) fun hb => ?_
          ·replace hm := bif_t hm hb
           refine qsr fun K152 hK152 => ?_
           refine qpu 1 hs fun a hs => ?_
           refine qsa 1 [ci 0, ci 0, C.slc none 0 0, C.slc none 0 0] hs rfl fun a w hs => ?_
           refine qpe 1 [(6, pp b_137), (7, vi 7)] hs fun a hs => hK152 _ _ ?_
           clear hK152
           refine wp_ret ?_
           refine hKP135 _ _ ?_
           replace hs := hs.addRow none 53 24 eC
           replace hs := hs.addRow none 51 3 eC
           exact hj170 7 hm b_137 _ _ (hs.go [6, 7] [3, 1, 0, 4, 5, 6] 7 (by kernel_rfl) (by kernel_rfl) (by kernel_rfl))
          ·replace hm := bif_f hm hb
           refine wp_skip ?_
           refine hK150 _ _ ?_
           clear hK150
           refine qsr fun K153 hK153 => ?_
           refine qln 0 ([ci e_146.kind, ci e_146.size, C.slc A_x3 x3.length c_x3, C.slc A_x4 x4.length c_x4]) hs rfl fun a hs => ?_
           refine qsa 1 [ci e_146.kind, ci e_146.size, C.slc A_x3 x3.length c_x3, C.slc A_x4 x4.length c_x4] hs rfl fun a w hs => ?_
           refine qpe 1 [(6, pp b_137), (7, vi 0)] hs fun a hs => hK153 _ _ ?_
           clear hK153
           refine wp_ret ?_
           refine hKP135 _ _ ?_
           refine hKR135 _ _ ?_
           refine Vk.retCT (P := Try.prog) (fn := Try.f7) [ci e_146.kind, ci e_146.size, C.slc A_x3 x3.length c_x3, C.slc A_x4 x4.length c_x4] (vi 0) hs rfl (by kernel_rfl) (sz := 4) (by kernel_rfl) rfl (CellsAt.all 1 rfl) (by kernel_rfl) ⟨_, _, _, rfl, hs.own, fun a hs => ?_⟩
           refine qpu 3 hs fun a hs => ?_
           refine qal 27 [ci 0, ci 0, C.slc none 0 0, C.slc none 0 0] 20 hs fun b_171 w a hs => ?_
           refine qsa 0 [ci e_146.kind, ci e_146.size, C.slc A_x3 x3.length c_x3, C.slc A_x4 x4.length c_x4] hs rfl fun a w hs => ?_
           refine qpe 1 [(2, vi x2), (3, .slice A_x3 x3.length c_x3), (4, .slice A_x4 x4.length c_x4), (5, vi x5), (13, pp b_7), (14, vi (Int.tmod (IntKind.i64.wrap x0) 4)), (15, vi p_12), (16, pp b_94), (17, vi 0), (19, vi p_133), (21, vi 0)] hs fun a hs => ?_
           exact hj134 0 hm _ _ (hs.go [2, 3, 4, 5, 13, 14, 15, 16, 17, 19, 21] [3, 4, 5] 6 (by kernel_rfl) (by kernel_rfl) (by kernel_rfl))
         ·replace hm := bif_f hm hb
          refine qva (.tuple #[.agg (vals [ci 0, ci 0, C.slc none 0 0, C.slc none 0 0]), .bool false]) (op := (.lookup 81 (.tmp 23) (.tmp 24) true)) hs (fun o ho => run_mgetN (et := 27) (ev := (fun (x : Tslots_Slot) => .agg (vals [ci x.kind, ci x.size, C.slc A_x3 x3.length c_x3, C.slc A_x4 x4.length c_x4]))) (z := .agg (vals [ci 0, ci 0, C.slc none 0 0, C.slc none 0 0])) 2 hb rfl ho (by kernel_rfl) (by kernel_rfl) (by kernel_rfl) (by kernel_rfl) _ hs.own) fun a hs => ?_
          refine qpu 3 hs fun a hs => ?_
          refine qal 27 [ci 0, ci 0, C.slc none 0 0, C.slc none 0 0] 8 hs fun b_149 w a hs => ?_
          refine qsa 0 [ci 0, ci 0, C.slc none 0 0, C.slc none 0 0] hs rfl fun a w hs => ?_
          refine qpk 1 [2, 6, 8, 9] hs fun a hs => hK145 _ _ ?_
          refine Vk.seq fun K154 hK154 => ?_
          refine qsk 8 [6, 8, 35] hs fun a hs => ?_
          refine qct hs ?_
          refine qsr fun K156 hK156 => ?_
          refine qpu 1 hs fun a hs => ?_
          refine qsa 1 [ci 0, ci 0, C.slc none 0 0, C.slc none 0 0] hs rfl fun a w hs => ?_
          refine qpe 1 [(6, pp b_137), (7, vi 7)] hs fun a hs => hK156 _ _ ?_
          clear hK156
          refine wp_ret ?_
          refine hKP135 _ _ ?_
          replace hs := hs.addRow none 53 24 eC
          replace hs := hs.addRow none 51 3 eC
          replace hs := hs.addRow none 53 24 eC
          replace hs := hs.addRow none 51 3 eC
          exact hj170 7 hm b_137 _ _ (hs.go [6, 7] [5, 1, 0, 6, 7, 8] 9 (by kernel_rfl) (by kernel_rfl) (by kernel_rfl))
       refine Vk.region ?_
       refine qpu 4 hs fun a hs => ?_
       refine Vk.step (Vk.call (some 62) 7 #[pp b_7, vi (Int.tmod (IntKind.i64.wrap x0) 4), vi (IntKind.i64.wrap (3 - p_12))] hs (by kernel_rfl) (by kernel_rfl) (by kernel_rfl) ?_)
       refine Vk.enterI [(0, pp b_7), (1, vi (Int.tmod (IntKind.i64.wrap x0) 4)), (2, vi (IntKind.i64.wrap (3 - p_12)))] Try.func7 rfl Try.ntmps7 (by kernel_rfl) (Nat.le_of_ble_eq_true (by kernel_rfl)) hs.own fun KR96 hKR96 hKP96 a hs => ?_
       have hj131 : ∀ (p_129 : Int), visorlaw48_SlotsKeep.j7 k x0 x2 x3 x4 x5 p_12 p_71 e_86 p_129 = some r → ∀ (b_126 : Nat) (a : Act) (w : World), St 38 a w κ [(6, pp b_126), (7, vi p_129)] (pt b_126 (blk ([ci 0, ci 0, C.slc none (([] : List Cells).length) 0, C.slc none (([] : List Cells).length) 0]) 27) :: rowp none 0 53 24 eC ([] : List Cells) :: rowp none 0 51 3 eC ([] : List Cells) :: pt b_7 (blk [C.map (some b_6)] 83) :: mpp b_6 (fun (x : Tslots_Slot) => .agg (vals [ci x.kind, ci x.size, C.slc A_x3 x3.length c_x3, C.slc A_x4 x4.length c_x4])) p_71 :: pt b_94 (blk [ci e_86.kind, ci e_86.size, C.slc A_x3 x3.length c_x3, C.slc A_x4 x4.length c_x4] 27) :: S) → KR96 a w := by
        intro p_129 hm b_126 a w hs
        unfold visorlaw48_SlotsKeep.j7 at hm
        refine hKR96 _ _ ?_
        refine Vk.retCT (P := Try.prog) (fn := Try.f7) ([ci 0, ci 0, C.slc none (([] : List Cells).length) 0, C.slc none (([] : List Cells).length) 0]) (vi p_129) hs rfl (by kernel_rfl) (sz := 4) (by kernel_rfl) rfl (CellsAt.all 0 rfl) (by kernel_rfl) ⟨_, _, _, rfl, hs.own, fun a hs => ?_⟩
        refine qpu 3 hs fun a hs => ?_
        refine qal 27 [ci 0, ci 0, C.slc none 0 0, C.slc none 0 0] 18 hs fun b_130 w a hs => ?_
        refine qsa 0 ([ci 0, ci 0, C.slc none (([] : List Cells).length) 0, C.slc none (([] : List Cells).length) 0]) hs rfl fun a w hs => ?_
        refine qpe 1 [(2, vi x2), (3, .slice A_x3 x3.length c_x3), (4, .slice A_x4 x4.length c_x4), (5, vi x5), (13, pp b_7), (14, vi (Int.tmod (IntKind.i64.wrap x0) 4)), (15, vi p_12), (16, pp b_94), (17, vi 0), (19, vi p_129)] hs fun a hs => ?_
        exact hj95 p_129 hm _ _ (hs.go [2, 3, 4, 5, 13, 14, 15, 16, 17, 19] [4, 5, 6] 7 (by kernel_rfl) (by kernel_rfl) (by kernel_rfl))
       refine qsr fun K97 hK97 => ?_
       refine qal 27 [ci 0, ci 0, C.slc none 0 0, C.slc none 0 0] 6 hs fun b_98 w a hs => ?_
       refine qpk 1 [0, 1, 2, 6] hs fun a hs => hK97 _ _ ?_
       clear hK97
       refine Vk.seq fun K99 hK99 => ?_
       refine wp_block ?_
       refine qsk 3 [0, 1, 2, 6, 10] hs fun a hs => ?_
       refine qcf hs ?_
       refine qsr fun K101 hK101 => ?_
       refine qpu 1 hs fun a hs => ?_
       obtain ⟨v_104, h_103, hm⟩ := bind_t hm
       refine qcl (slots_place.ok _ _ _ h_103 _ _ (pt b_98 (blk [ci 0, ci 0, C.slc none 0 0, C.slc none 0 0] 27) :: pt b_94 (blk [ci e_86.kind, ci e_86.size, C.slc A_x3 x3.length c_x3, C.slc A_x4 x4.length c_x4] 27) :: pt b_88 (blk [ci e_86.kind, ci e_86.size, C.slc A_x3 x3.length c_x3, C.slc A_x4 x4.length c_x4] 27) :: pt b_77 (blk [ci e_86.kind, ci e_86.size, C.slc A_x3 x3.length c_x3, C.slc A_x4 x4.length c_x4] 27) :: pt b_7 (blk [C.map (some b_6)] 83) :: mpp b_6 (fun (x : Tslots_Slot) => .agg (vals [ci x.kind, ci x.size, C.slc A_x3 x3.length c_x3, C.slc A_x4 x4.length c_x4])) p_71 :: S) hs.own) hs fun w a hs => ?_
       refine qpk 2 [0, 1, 2, 6, 14] hs fun a hs => hK101 _ _ ?_
       clear hK101
       refine qcs (!v_104) hs (fun hb => ?_) fun hb => ?_
       ·replace hm := bif_t hm hb
        refine qsr fun K105 hK105 => ?_
        refine qpu 1 hs fun a hs => ?_
        refine qsa 0 [ci 0, ci 0, C.slc none 0 0, C.slc none 0 0] hs rfl fun a w hs => ?_
        refine qpe 1 [(6, pp b_98), (7, vi 6)] hs fun a hs => hK105 _ _ ?_
        clear hK105
        refine wp_ret ?_
        refine hKP96 _ _ ?_
        replace hs := hs.addRow none 53 24 eC
        replace hs := hs.addRow none 51 3 eC
        exact hj131 6 hm b_98 _ _ (hs.go [6, 7] [2, 1, 0, 6, 7, 3] 8 (by kernel_rfl) (by kernel_rfl) (by kernel_rfl))
       ·replace hm := bif_f hm hb
        refine wp_skip ?_
        refine hK99 _ _ ?_
        clear hK99
        refine qsr fun K106 hK106 => ?_
        refine qpu 3 hs fun a hs => ?_
        refine qld 4 (C.map (some b_6)) hs rfl fun a hs => ?_
        refine qpu 1 hs fun a hs => ?_
        rcases Bool.eq_false_or_eq_true ((mget p_71 (Int.tmod (IntKind.i64.wrap x0) 4)).isSome) with hb | hb
        ·replace hm := bif_t hm hb
         obtain ⟨e_107, h_108, hm⟩ := bind_t hm
         refine qva (.tuple #[.agg (vals [ci e_107.kind, ci e_107.size, C.slc A_x3 x3.length c_x3, C.slc A_x4 x4.length c_x4]), .bool true]) (op := (.lookup 81 (.tmp 23) (.tmp 24) true)) hs (fun o ho => run_mgetS (et := 27) (ev := (fun (x : Tslots_Slot) => .agg (vals [ci x.kind, ci x.size, C.slc A_x3 x3.length c_x3, C.slc A_x4 x4.length c_x4]))) 5 h_108 rfl ho (by kernel_rfl) (by kernel_rfl) (by kernel_rfl) (by kernel_rfl) _ hs.own) fun a hs => ?_
         refine qpu 3 hs fun a hs => ?_
         refine qal 27 [ci 0, ci 0, C.slc none 0 0, C.slc none 0 0] 8 hs fun b_109 w a hs => ?_
         refine qsa 0 [ci e_107.kind, ci e_107.size, C.slc A_x3 x3.length c_x3, C.slc A_x4 x4.length c_x4] hs rfl fun a w hs => ?_
         refine qpk 1 [2, 6, 8, 9] hs fun a hs => hK106 _ _ ?_
         refine Vk.seq fun K111 hK111 => ?_
         refine qsr fun K112 hK112 => ?_
         refine qpu 4 hs fun a hs => ?_
         refine qld 0 (ci e_107.kind) hs rfl fun a hs => ?_
         refine qpk 3 [6, 8, 35] hs fun a hs => hK112 _ _ ?_
         clear hK112
         refine qcs (e_107.kind != (IntKind.i64.wrap (3 - p_12))) hs (fun hb => ?_) fun hb => ?_
         ·replace hm := bif_t hm hb
          refine qsr fun K113 hK113 => ?_
          refine qpu 1 hs fun a hs => ?_
          refine qsa 1 [ci 0, ci 0, C.slc none 0 0, C.slc none 0 0] hs rfl fun a w hs => ?_
          refine qpe 1 [(6, pp b_98), (7, vi 7)] hs fun a hs => hK113 _ _ ?_
          clear hK113
          refine wp_ret ?_
          refine hKP96 _ _ ?_
          replace hs := hs.addRow none 53 24 eC
          replace hs := hs.addRow none 51 3 eC
          exact hj131 7 hm b_98 _ _ (hs.go [6, 7] [3, 1, 0, 7, 8, 4] 9 (by kernel_rfl) (by kernel_rfl) (by kernel_rfl))
         ·replace hm := bif_f hm hb
          refine wp_skip ?_
          refine hK111 _ _ ?_
          clear hK111
          refine qsr fun K114 hK114 => ?_
          refine qln 0 ([ci e_107.kind, ci e_107.size, C.slc A_x3 x3.length c_x3, C.slc A_x4 x4.length c_x4]) hs rfl fun a hs => ?_
          refine qsa 1 [ci e_107.kind, ci e_107.size, C.slc A_x3 x3.length c_x3, C.slc A_x4 x4.length c_x4] hs rfl fun a w hs => ?_
          refine qpe 1 [(6, pp b_98), (7, vi 0)] hs fun a hs => hK114 _ _ ?_
          clear hK114
          refine wp_ret ?_
          refine hKP96 _ _ ?_
          refine hKR96 _ _ ?_
          refine Vk.retCT (P := Try.prog) (fn := Try.f7) [ci e_107.kind, ci e_107.size, C.slc A_x3 x3.length c_x3, C.slc A_x4 x4.length c_x4] (vi 0) hs rfl (by kernel_rfl) (sz := 4) (by kernel_rfl) rfl (CellsAt.all 1 rfl) (by kernel_rfl) ⟨_, _, _, rfl, hs.own, fun a hs => ?_⟩
          refine qpu 3 hs fun a hs => ?_
          refine qal 27 [ci 0, ci 0, C.slc none 0 0, C.slc none 0 0] 18 hs fun b_132 w a hs => ?_
          refine qsa 0 [ci e_107.kind, ci e_107.size, C.slc A_x3 x3.length c_x3, C.slc A_x4 x4.length c_x4] hs rfl fun a w hs => ?_
          refine qpe 1 [(2, vi x2), (3, .slice A_x3 x3.length c_x3), (4, .slice A_x4 x4.length c_x4), (5, vi x5), (13, pp b_7), (14, vi (Int.tmod (IntKind.i64.wrap x0) 4)), (15, vi p_12), (16, pp b_94), (17, vi 0), (19, vi 0)] hs fun a hs => ?_
          exact hj95 0 hm _ _ (hs.go [2, 3, 4, 5, 13, 14, 15, 16, 17, 19] [6, 7, 3] 8 (by kernel_rfl) (by kernel_rfl) (by kernel_rfl))
        ·replace hm := bif_f hm hb
         refine qva (.tuple #[.agg (vals [ci 0, ci 0, C.slc none 0 0, C.slc none 0 0]), .bool false]) (op := (.lookup 81 (.tmp 23) (.tmp 24) true)) hs (fun o ho => run_mgetN (et := 27) (ev := (fun (x : Tslots_Slot) => .agg (vals [ci x.kind, ci x.size, C.slc A_x3 x3.length c_x3, C.slc A_x4 x4.length c_x4]))) (z := .agg (vals [ci 0, ci 0, C.slc none 0 0, C.slc none 0 0])) 5 hb rfl ho (by kernel_rfl) (by kernel_rfl) (by kernel_rfl) (by kernel_rfl) _ hs.own) fun a hs => ?_
         refine qpu 3 hs fun a hs => ?_
         refine qal 27 [ci 0, ci 0, C.slc none 0 0, C.slc none 0 0] 8 hs fun b_110 w a hs => ?_
         refine qsa 0 [ci 0, ci 0, C.slc none 0 0, C.slc none 0 0] hs rfl fun a w hs => ?_
         refine qpk 1 [2, 6, 8, 9] hs fun a hs => hK106 _ _ ?_
         refine Vk.seq fun K115 hK115 => ?_
         refine qsk 8 [6, 8, 35] hs fun a hs => ?_
         refine qct hs ?_
         refine qsr fun K117 hK117 => ?_
         refine qpu 1 hs fun a hs => ?_
         refine qsa 1 [ci 0, ci 0, C.slc none 0 0, C.slc none 0 0] hs rfl fun a w hs => ?_
         refine qpe 1 [(6, pp b_98), (7, vi 7)] hs fun a hs => hK117 _ _ ?_
         clear hK117
         refine wp_ret ?_
         refine hKP96 _ _ ?_
         replace hs := hs.addRow none 53 24 eC
         replace hs := hs.addRow none 51 3 eC
         replace hs := hs.addRow none 53 24 eC
         replace hs := hs.addRow none 51 3 eC
         exact hj131 7 hm b_98 _ _ (hs.go [6, 7] [5, 1, 0, 9, 10, 6] 11 (by kernel_rfl) (by kernel_rfl) (by kernel_rfl))
     ·replace hm := bif_f hm hb
      refine qva (.tuple #[.agg (vals [ci 0, ci 0, C.slc none 0 0, C.slc none 0 0]), .bool false]) (op := (.lookup 81 (.tmp 23) (.tmp 24) true)) hs (fun o ho => run_mgetN (et := 27) (ev := (fun (x : Tslots_Slot) => .agg (vals [ci x.kind, ci x.size, C.slc A_x3 x3.length c_x3, C.slc A_x4 x4.length c_x4]))) (z := .agg (vals [ci 0, ci 0, C.slc none 0 0, C.slc none 0 0])) 2 hb rfl ho (by kernel_rfl) (by kernel_rfl) (by kernel_rfl) (by kernel_rfl) _ hs.own) fun a hs => ?_
      refine qpu 3 hs fun a hs => ?_
      refine qal 27 [ci 0, ci 0, C.slc none 0 0, C.slc none 0 0] 8 hs fun b_89 w a hs => ?_
      refine qsa 0 [ci 0, ci 0, C.slc none 0 0, C.slc none 0 0] hs rfl fun a w hs => ?_
      refine qpk 1 [2, 6, 8, 9] hs fun a hs => ?_
      cases hm
  refine Vk.region ?_
  refine qpu 7 hs fun a hs => ?_
  refine Vk.step (Vk.call (some 38) 8 #[pp b_7, vi (Int.tmod (IntKind.i64.wrap x0) 4), .agg (vals [ci p_12, ci x2, C.slc A_x3 x3.length c_x3, C.slc A_x4 x4.length c_x4])] hs (by kernel_rfl) (by kernel_rfl) (by kernel_rfl) ?_)
  refine Vk.enterI [(0, pp b_7), (1, vi (Int.tmod (IntKind.i64.wrap x0) 4)), (2, .agg (vals [ci p_12, ci x2, C.slc A_x3 x3.length c_x3, C.slc A_x4 x4.length c_x4]))] Try.func8 rfl Try.ntmps8 (by kernel_rfl) (Nat.le_of_ble_eq_true (by kernel_rfl)) hs.own fun KR15 hKR15 hKP15 a hs => ?_
  have hj15 : ∀ (p_46 : Int) (p_47 : List (Int × Tslots_Slot)), visorlaw48_SlotsKeep.j5 k x0 x2 x3 x4 x5 p_12 p_46 p_47 = some r → ∀ (a : Act) (w : World), St 31 a w κ [(6, vi p_46)] (pt b_7 (blk [C.map (some b_6)] 83) :: mpp b_6 (fun (x : Tslots_Slot) => .agg (vals [ci x.kind, ci x.size, C.slc A_x3 x3.length c_x3, C.slc A_x4 x4.length c_x4])) p_47 :: S) → KR15 a w := by
   intro p_46 p_47 hm a w hs
   unfold visorlaw48_SlotsKeep.j5 at hm
   refine hKR15 _ _ ?_
   refine Vk.ret1 (P := Try.prog) (fn := Try.f8) (vi p_46) hs rfl (by kernel_rfl) ⟨_, _, _, rfl, hs.own, fun a hs => ?_⟩
   refine qpu 2 hs fun a hs => ?_
   rcases Bool.eq_false_or_eq_true (p_46 != 0) with hb | hb
   ·replace hm := bif_t hm hb
    replace hs := hs.known (t := 40) hb (by kernel_rfl)
    refine qpe 9 [(2, vi x2), (3, .slice A_x3 x3.length c_x3), (4, .slice A_x4 x4.length c_x4), (5, vi x5), (13, pp b_7), (14, vi (Int.tmod (IntKind.i64.wrap x0) 4)), (15, vi p_12), (49, .bool true)] hs fun a hs => ?_
    exact hj14 p_47 true hm _ _ (hs.go [2, 3, 4, 5, 13, 14, 15, 49] [0, 1] 2 (by kernel_rfl) (by kernel_rfl) (by kernel_rfl))
   ·replace hm := bif_f hm hb
    replace hs := hs.known (t := 40) hb (by kernel_rfl)
    refine qpu 2 hs fun a hs => ?_
    refine Vk.step (Vk.call (some 43) 10 #[pp b_7, vi (Int.tmod (IntKind.i64.wrap x0) 4)] hs (by kernel_rfl) (by kernel_rfl) (by kernel_rfl) ?_)
    refine Vk.enterI [(0, pp b_7), (1, vi (Int.tmod (IntKind.i64.wrap x0) 4))] Try.func10 rfl Try.ntmps10 (by kernel_rfl) (Nat.le_of_ble_eq_true (by kernel_rfl)) hs.own fun KR48 hKR48 hKP48 a hs => ?_
    have hj48 : ∀ (p_65 : Bool), visorlaw48_SlotsKeep.j3_2 k x0 x2 x3 x4 x5 p_12 p_47 p_65 = some r → ∀ (a : Act) (w : World), St 25 a w κ [(4, .bool p_65)] (pt b_7 (blk [C.map (some b_6)] 83) :: mpp b_6 (fun (x : Tslots_Slot) => .agg (vals [ci x.kind, ci x.size, C.slc A_x3 x3.length c_x3, C.slc A_x4 x4.length c_x4])) p_47 :: S) → KR48 a w := by
     intro p_65 hm a w hs
     unfold visorlaw48_SlotsKeep.j3_2 at hm
     refine hKR48 _ _ ?_
     refine Vk.ret1 (P := Try.prog) (fn := Try.f10) (.bool p_65) hs rfl (by kernel_rfl) ⟨_, _, _, rfl, hs.own, fun a hs => ?_⟩
     refine qpu 2 hs fun a hs => ?_
     rcases Bool.eq_false_or_eq_true (p_65) with hb | hb
     ·replace hm := bif_t hm hb
      replace hs := hs.known (t := 45) hb (by kernel_rfl)
      refine qpe 4 [(2, vi x2), (3, .slice A_x3 x3.length c_x3), (4, .slice A_x4 x4.length c_x4), (5, vi x5), (13, pp b_7), (14, vi (Int.tmod (IntKind.i64.wrap x0) 4)), (15, vi p_12), (49, .bool true)] hs fun a hs => ?_
      exact hj14 p_47 true hm _ _ (hs.go [2, 3, 4, 5, 13, 14, 15, 49] [0, 1] 2 (by kernel_rfl) (by kernel_rfl) (by kernel_rfl))
     ·replace hm := bif_f hm hb
      replace hs := hs.known (t := 45) hb (by kernel_rfl)
      refine qpu 1 hs fun a hs => ?_
      refine Vk.step (Vk.call (some 47) 11 #[pp b_7] hs (by kernel_rfl) (by kernel_rfl) (by kernel_rfl) ?_)
      refine Vk.enterI [(0, pp b_7)] Try.func11 rfl Try.ntmps11 (by kernel_rfl) (Nat.le_of_ble_eq_true (by kernel_rfl)) hs.own fun KR66 hKR66 hKP66 a hs => ?_
      refine qse 1 [(0, pp b_7)] hs fun a hs => ?_
      refine Vk.seq fun K68 hK68 => ?_
      refine qsk 2 [0, 4] hs fun a hs => ?_
      refine qcf hs ?_
      refine wp_skip ?_
      refine hK68 _ _ ?_
      clear hK68
      refine qsr fun K70 hK70 => ?_
      refine qpu 3 hs fun a hs => ?_
      refine qld 0 (C.map (some b_6)) hs rfl fun a hs => ?_
      refine qva (vi ((p_47.length : Nat) : Int)) (op := (.call { callee := (.builtin .len), args := #[(.tmp 8)], argTypes := #[81] })) hs (fun o ho => run_mlen (et := 27) (ev := (fun (x : Tslots_Slot) => .agg (vals [ci x.kind, ci x.size, C.slc A_x3 x3.length c_x3, C.slc A_x4 x4.length c_x4]))) 1 rfl ho (by kernel_rfl) (by kernel_rfl) _ hs.own) fun a hs => ?_
      refine qpk 1 [2] hs fun a hs => hK70 _ _ ?_
      clear hK70
      refine wp_ret ?_
      refine hKP66 _ _ ?_
      refine hKR66 _ _ ?_
      refine Vk.ret1 (P := Try.prog) (fn := Try.f11) (vi ((p_47.length : Nat) : Int)) hs rfl (by kernel_rfl) ⟨_, _, _, rfl, hs.own, fun a hs => ?_⟩
      refine qpe 2 [(2, vi x2), (3, .slice A_x3 x3.length c_x3), (4, .slice A_x4 x4.length c_x4), (5, vi x5), (13, pp b_7), (14, vi (Int.tmod (IntKind.i64.wrap x0) 4)), (15, vi p_12), (49, .bool (((p_47.length : Nat) : Int) != 1))] hs fun a hs => ?_
      exact hj14 p_47 (((p_47.length : Nat) : Int) != 1) hm _ _ (hs.go [2, 3, 4, 5, 13, 14, 15, 49] [0, 1] 2 (by kernel_rfl) (by kernel_rfl) (by kernel_rfl))
    refine qsk 1 [0, 1] hs fun a hs => ?_
    refine Vk.seq fun K50 hK50 => ?_
    refine qsr fun K51 hK51 => ?_
    refine qpu 4 hs fun a hs => ?_
    obtain ⟨v_54, h_53, hm⟩ := bind_t hm
    refine qcl (slots_place.ok _ _ _ h_53 _ _ (pt b_7 (blk [C.map (some b_6)] 83) :: mpp b_6 (fun (x : Tslots_Slot) => .agg (vals [ci x.kind, ci x.size, C.slc A_x3 x3.length c_x3, C.slc A_x4 x4.length c_x4])) p_47 :: S) hs.own) hs fun w a hs => ?_
    refine qpk 2 [0, 1, 13] hs fun a hs => hK51 _ _ ?_
    clear hK51
    refine qcs (!v_54) hs (fun hb => ?_) fun hb => ?_
    ·replace hm := bif_t hm hb
     refine qse 1 [(4, .bool false)] hs fun a hs => ?_
     refine wp_ret ?_
     refine hKP48 _ _ ?_
     exact hj48 false hm _ _ (hs.go [4] [0, 1] 2 (by kernel_rfl) (by kernel_rfl) (by kernel_rfl))
    ·replace hm := bif_f hm hb
     refine wp_skip ?_
     refine hK50 _ _ ?_
     clear hK50
     refine Vk.seq fun K56 hK56 => ?_
     have hj56 : ∀ (p_63 : Bool), visorlaw48_SlotsKeep.j2_2 k x0 x2 x3 x4 x5 p_12 p_47 p_63 = some r → ∀ (a : Act) (w : World), St 25 a w κ [(6, .bool p_63)] (pt b_7 (blk [C.map (some b_6)] 83) :: mpp b_6 (fun (x : Tslots_Slot) => .agg (vals [ci x.kind, ci x.size, C.slc A_x3 x3.length c_x3, C.slc A_x4 x4.length c_x4])) p_47 :: S) → K56 a w := by
      intro p_63 hm a w hs
      unfold visorlaw48_SlotsKeep.j2_2 at hm
      refine hK56 _ _ ?_
      refine qse 3 [(4, .bool (!p_63))] hs fun a hs => ?_
      refine wp_ret ?_
      refine hKP48 _ _ ?_
      exact hj48 (!p_63) hm _ _ (hs.go [4] [0, 1] 2 (by kernel_rfl) (by kernel_rfl) (by kernel_rfl))
     refine Vk.region ?_
     refine qpu 3 hs fun a hs => ?_
     refine qld 0 (C.map (some b_6)) hs rfl fun a hs => ?_
     refine qpu 1 hs fun a hs => ?_
     rcases Bool.eq_false_or_eq_true ((mget p_47 (Int.tmod (IntKind.i64.wrap x0) 4)).isSome) with hb | hb
     ·replace hm := bif_t hm hb
      obtain ⟨e_57, h_58, hm⟩ := bind_t hm
      refine qva (.tuple #[.agg (vals [ci e_57.kind, ci e_57.size, C.slc A_x3 x3.length c_x3, C.slc A_x4 x4.length c_x4]), .bool true]) (op := (.lookup 81 (.tmp 18) (.tmp 19) true)) hs (fun o ho => run_mgetS (et := 27) (ev := (fun (x : Tslots_Slot) => .agg (vals [ci x.kind, ci x.size, C.slc A_x3 x3.length c_x3, C.slc A_x4 x4.length c_x4]))) 1 h_58 rfl ho (by kernel_rfl) (by kernel_rfl) (by kernel_rfl) (by kernel_rfl) _ hs.own) fun a hs => ?_
      refine qpu 3 hs fun a hs => ?_
      refine qal 27 [ci 0, ci 0, C.slc none 0 0, C.slc none 0 0] 5 hs fun b_59 w a hs => ?_
      refine qsa 0 [ci e_57.kind, ci e_57.size, C.slc A_x3 x3.length c_x3, C.slc A_x4 x4.length c_x4] hs rfl fun a w hs => ?_
      refine qpe 1 [(6, .bool true)] hs fun a hs => ?_
      exact hj56 true hm _ _ (hs.go [6] [1, 2] 3 (by kernel_rfl) (by kernel_rfl) (by kernel_rfl))
     ·replace hm := bif_f hm hb
      refine qva (.tuple #[.agg (vals [ci 0, ci 0, C.slc none 0 0, C.slc none 0 0]), .bool false]) (op := (.lookup 81 (.tmp 18) (.tmp 19) true)) hs (fun o ho => run_mgetN (et := 27) (ev := (fun (x : Tslots_Slot) => .agg (vals [ci x.kind, ci x.size, C.slc A_x3 x3.length c_x3, C.slc A_x4 x4.length c_x4]))) (z := .agg (vals [ci 0, ci 0, C.slc none 0 0, C.slc none 0 0])) 1 hb rfl ho (by kernel_rfl) (by kernel_rfl) (by kernel_rfl) (by kernel_rfl) _ hs.own) fun a hs => ?_
      refine qpu 3 hs fun a hs => ?_
      refine qal 27 [ci 0, ci 0, C.slc none 0 0, C.slc none 0 0] 5 hs fun b_60 w a hs => ?_
      refine qsa 0 [ci 0, ci 0, C.slc none 0 0, C.slc none 0 0] hs rfl fun a w hs => ?_
      refine qpe 1 [(6, .bool false)] hs fun a hs => ?_
      replace hs := hs.addRow none 53 24 eC
      replace hs := hs.addRow none 51 3 eC
      exact hj56 false hm _ _ (hs.go [6] [3, 4] 5 (by kernel_rfl) (by kernel_rfl) (by kernel_rfl))
  refine qsr fun K16 hK16 => ?_
  refine qbx 2 27 [ci p_12, ci x2, C.slc A_x3 x3.length c_x3, C.slc A_x4 x4.length c_x4] 5 hs fun b_17 w a hs => ?_
  refine qpk 1 [0, 1, 5] hs fun a hs => hK16 _ _ ?_
  clear hK16
  refine Vk.seq fun K18 hK18 => ?_
  refine wp_block ?_
  refine qsk 3 [0, 1, 5, 7] hs fun a hs => ?_
  refine qcf hs ?_
  refine Vk.seq fun K20 hK20 => ?_
  have hj20 : ∀ (p_41 : Bool), visorlaw48_SlotsKeep.j4 k x0 x2 x3 x4 x5 p_12 p_41 = some r → ∀ (a : Act) (w : World), St 31 a w κ [(0, pp b_7), (1, vi (Int.tmod (IntKind.i64.wrap x0) 4)), (5, pp b_17), (10, .bool p_41)] (pt b_7 (blk [C.map (some b_6)] 83) :: mpp b_6 (fun (x : Tslots_Slot) => .agg (vals [ci x.kind, ci x.size, C.slc none 0 0, C.slc none 0 0])) ([] : List (Int × Tslots_Slot)) :: pt b_17 (blk [ci p_12, ci x2, C.slc A_x3 x3.length c_x3, C.slc A_x4 x4.length c_x4] 27) :: S) → K20 a w := by
   intro p_41 hm a w hs
   unfold visorlaw48_SlotsKeep.j4 at hm
   refine hK20 _ _ ?_
   refine qcs (p_41) hs (fun hb => ?_) fun hb => ?_
   ·replace hm := bif_t hm hb
    refine qse 1 [(6, vi 6)] hs fun a hs => ?_
    refine wp_ret ?_
    refine hKP15 _ _ ?_
    replace hs := (hs.pick [6] (L' := [(6, vi 6)]) (by kernel_rfl)).conv2 (L' := [(6, vi 6)]) (S' := pt b_7 (blk [C.map (some b_6)] 83) :: mpp b_6 (fun (x : Tslots_Slot) => .agg (vals [ci x.kind, ci x.size, C.slc A_x3 x3.length c_x3, C.slc A_x4 x4.length c_x4])) ([] : List (Int × Tslots_Slot)) :: pt b_17 (blk [ci p_12, ci x2, C.slc A_x3 x3.length c_x3, C.slc A_x4 x4.length c_x4] 27) :: S) rfl rfl
    exact hj15 6 ([] : List (Int × Tslots_Slot)) hm _ _ (hs.go [6] [0, 1] 3 (by kernel_rfl) (by kernel_rfl) (by kernel_rfl))
   ·replace hm := bif_f hm hb
    refine wp_skip ?_
    refine hK18 _ _ ?_
    clear hK18
    refine Vk.seq fun K43 hK43 => ?_
    obtain ⟨C_44, hC_44⟩ := qC hs.own
    refine qdr 6 κ C_44 hs fun w hs hqC_44 => ?_
    have hcl := qO hC_44 hs.own
    refine qdp (fuel := 3) [0, 1, 2, 4] hs hcl hqC_44 fun a hs => ?_
    refine qdl 3 0 (C.map (some b_6)) hs hcl hqC_44 hC_44 rfl fun a hs => ?_
    refine qdn 5 2 ([ci p_12, ci x2, C.slc A_x3 x3.length c_x3, C.slc A_x4 x4.length c_x4]) hs hcl hqC_44 hC_44 rfl fun a hs => ?_
    replace hs := (hs.pick [0, 1, 5, 10, 25, 26, 27, 28, 29, 30] (L' := [(0, pp b_7), (1, vi (Int.tmod (IntKind.i64.wrap x0) 4)), (5, pp b_17), (10, .bool p_41), (25, pp b_7), (26, pp b_7), (27, pp b_7), (28, .map (some b_6)), (29, vi (Int.tmod (IntKind.i64.wrap x0) 4)), (30, .agg (vals [ci p_12, ci x2, C.slc A_x3 x3.length c_x3, C.slc A_x4 x4.length c_x4]))]) (by kernel_rfl)).conv2 (L' := [(0, pp b_7), (1, vi (Int.tmod (IntKind.i64.wrap x0) 4)), (5, pp b_17), (10, .bool p_41), (25, pp b_7), (26, pp b_7), (27, pp b_7), (28, .map (some b_6)), (29, vi (Int.tmod (IntKind.i64.wrap x0) 4)), (30, .agg (vals [ci p_12, ci x2, C.slc A_x3 x3.length c_x3, C.slc A_x4 x4.length c_x4]))]) (S' := pt b_7 (blk [C.map (some b_6)] 83) :: mpp b_6 (fun (x : Tslots_Slot) => .agg (vals [ci x.kind, ci x.size, C.slc A_x3 x3.length c_x3, C.slc A_x4 x4.length c_x4])) ([] : List (Int × Tslots_Slot)) :: pt b_17 (blk [ci p_12, ci x2, C.slc A_x3 x3.length c_x3, C.slc A_x4 x4.length c_x4] 27) :: S) rfl rfl
    refine Vk.dOnly (i := 6) (by kernel_rfl) (mputOp (t := 81) (et := 27) (xm := (.tmp 28)) (xk := (.tmp 29)) (xv := (.tmp 30)) (ev := (fun (x : Tslots_Slot) => .agg (vals [ci x.kind, ci x.size, C.slc A_x3 x3.length c_x3, C.slc A_x4 x4.length c_x4]))) (Int.tmod (IntKind.i64.wrap x0) 4) (⟨p_12, x2, x3, x4⟩ : Tslots_Slot) 1 hs rfl fun a w hs => ?_)
    refine ⟨fun h => absurd h (by decide), ?_⟩
    replace hs := hs.pick [] (L' := []) (by kernel_rfl)
    refine Vk.dDone (by kernel_rfl) ?_
    refine hK43 _ _ ?_
    clear hK43
    refine qse 1 [(6, vi 0)] hs fun a hs => ?_
    refine wp_ret ?_
    refine hKP15 _ _ ?_
    exact hj15 0 (mput ([] : List (Int × Tslots_Slot)) (Int.tmod (IntKind.i64.wrap x0) 4) (⟨p_12, x2, x3, x4⟩ : Tslots_Slot)) hm _ _ (hs.go [6] [0, 1] 3 (by kernel_rfl) (by kernel_rfl) (by kernel_rfl))
  refine Vk.region ?_
  refine qpu 2 hs fun a hs => ?_
  refine Vk.step (Vk.call (some 13) 10 #[pp b_7, vi (Int.tmod (IntKind.i64.wrap x0) 4)] hs (by kernel_rfl) (by kernel_rfl) (by kernel_rfl) ?_)
  refine Vk.enterI [(0, pp b_7), (1, vi (Int.tmod (IntKind.i64.wrap x0) 4))] Try.func10 rfl Try.ntmps10 (by kernel_rfl) (Nat.le_of_ble_eq_true (by kernel_rfl)) hs.own fun KR21 hKR21 hKP21 a hs => ?_
  have hj21 : ∀ (p_40 : Bool), visorlaw48_SlotsKeep.j3 k x0 x2 x3 x4 x5 p_12 p_40 = some r → ∀ (a : Act) (w : World), St 25 a w κ [(4, .bool p_40)] (pt b_7 (blk [C.map (some b_6)] 83) :: mpp b_6 (fun (x : Tslots_Slot) => .agg (vals [ci x.kind, ci x.size, C.slc none 0 0, C.slc none 0 0])) ([] : List (Int × Tslots_Slot)) :: pt b_17 (blk [ci p_12, ci x2, C.slc A_x3 x3.length c_x3, C.slc A_x4 x4.length c_x4] 27) :: S) → KR21 a w := by
   intro p_40 hm a w hs
   unfold visorlaw48_SlotsKeep.j3 at hm
   refine hKR21 _ _ ?_
   refine Vk.ret1 (P := Try.prog) (fn := Try.f10) (.bool p_40) hs rfl (by kernel_rfl) ⟨_, _, _, rfl, hs.own, fun a hs => ?_⟩
   refine qpu 2 hs fun a hs => ?_
   rcases Bool.eq_false_or_eq_true (!p_40) with hb | hb
   ·replace hm := bif_t hm hb
    replace hs := hs.known (t := 15) hb (by kernel_rfl)
    refine qpe 10 [(0, pp b_7), (1, vi (Int.tmod (IntKind.i64.wrap x0) 4)), (5, pp b_17), (10, .bool true)] hs fun a hs => ?_
    exact hj20 true hm _ _ (hs.go [0, 1, 5, 10] [0, 1, 2] 3 (by kernel_rfl) (by kernel_rfl) (by kernel_rfl))
   ·replace hm := bif_f hm hb
    replace hs := hs.known (t := 15) hb (by kernel_rfl)
    refine qpu 1 hs fun a hs => ?_
    refine qld 2 (ci p_12) hs rfl fun a hs => ?_
    refine qpu 2 hs fun a hs => ?_
    rcases Bool.eq_false_or_eq_true (p_12 != 1) with hb | hb
    ·replace hm := bif_t hm hb
     replace hs := hs.known (t := 19) hb (by kernel_rfl)
     refine qpu 1 hs fun a hs => ?_
     refine qld 2 (ci p_12) hs rfl fun a hs => ?_
     refine qpe 4 [(0, pp b_7), (1, vi (Int.tmod (IntKind.i64.wrap x0) 4)), (5, pp b_17), (10, .bool (p_12 != 2))] hs fun a hs => ?_
     exact hj20 (p_12 != 2) hm _ _ (hs.go [0, 1, 5, 10] [0, 1, 2] 3 (by kernel_rfl) (by kernel_rfl) (by kernel_rfl))
    ·replace hm := bif_f hm hb
     replace hs := hs.known (t := 19) hb (by kernel_rfl)
     refine qpe 6 [(0, pp b_7), (1, vi (Int.tmod (IntKind.i64.wrap x0) 4)), (5, pp b_17), (10, .bool false)] hs fun a hs => ?_
     exact hj20 false hm _ _ (hs.go [0, 1, 5, 10] [0, 1, 2] 3 (by kernel_rfl) (by kernel_rfl) (by kernel_rfl))
  refine qsk 1 [0, 1] hs fun a hs => ?_
  refine Vk.seq fun K23 hK23 => ?_
  refine qsr fun K24 hK24 => ?_
  refine qpu 4 hs fun a hs => ?_
  obtain ⟨v_27, h_26, hm⟩ := bind_t hm
  refine qcl (slots_place.ok _ _ _ h_26 _ _ (pt b_17 (blk [ci p_12, ci x2, C.slc A_x3 x3.length c_x3, C.slc A_x4 x4.length c_x4] 27) :: pt b_7 (blk [C.map (some b_6)] 83) :: mpp b_6 (fun (x : Tslots_Slot) => .agg (vals [ci x.kind, ci x.size, C.slc none 0 0, C.slc none 0 0])) ([] : List (Int × Tslots_Slot)) :: S) hs.own) hs fun w a hs => ?_
  refine qpk 2 [0, 1, 13] hs fun a hs => hK24 _ _ ?_
  clear hK24
  refine qcs (!v_27) hs (fun hb => ?_) fun hb => ?_
  ·replace hm := bif_t hm hb
   refine qse 1 [(4, .bool false)] hs fun a hs => ?_
   refine wp_ret ?_
   refine hKP21 _ _ ?_
   exact hj21 false hm _ _ (hs.go [4] [1, 2, 0] 3 (by kernel_rfl) (by kernel_rfl) (by kernel_rfl))
  ·replace hm := bif_f hm hb
   refine wp_skip ?_
   refine hK23 _ _ ?_
   clear hK23
   refine Vk.seq fun K29 hK29 => ?_
   have hj29 : ∀ (p_38 : Bool), visorlaw48_SlotsKeep.j2 k x0 x2 x3 x4 x5 p_12 p_38 = some r → ∀ (a : Act) (w : World), St 25 a w κ [(6, .bool p_38)] (pt b_7 (blk [C.map (some b_6)] 83) :: mpp b_6 (fun (x : Tslots_Slot) => .agg (vals [ci x.kind, ci x.size, C.slc none 0 0, C.slc none 0 0])) ([] : List (Int × Tslots_Slot)) :: pt b_17 (blk [ci p_12, ci x2, C.slc A_x3 x3.length c_x3, C.slc A_x4 x4.length c_x4] 27) :: S) → K29 a w := by
    intro p_38 hm a w hs
    unfold visorlaw48_SlotsKeep.j2 at hm
    refine hK29 _ _ ?_
    refine qse 3 [(4, .bool (!p_38))] hs fun a hs => ?_
    refine wp_ret ?_
    refine hKP21 _ _ ?_
    exact hj21 (!p_38) hm _ _ (hs.go [4] [0, 1, 2] 3 (by kernel_rfl) (by kernel_rfl) (by kernel_rfl))
   refine Vk.region ?_
   refine qpu 3 hs fun a hs => ?_
   refine qld 1 (C.map (some b_6)) hs rfl fun a hs => ?_
   refine qpu 1 hs fun a hs => ?_
   rcases Bool.eq_false_or_eq_true ((mget ([] : List (Int × Tslots_Slot)) (Int.tmod (IntKind.i64.wrap x0) 4)).isSome) with hb | hb
   ·replace hm := bif_t hm hb
    obtain ⟨e_30, h_31, hm⟩ := bind_t hm
    refine qva (.tuple #[.agg (vals [ci e_30.kind, ci e_30.size, C.slc none 0 0, C.slc none 0 0]), .bool true]) (op := (.lookup 81 (.tmp 18) (.tmp 19) true)) hs (fun o ho => run_mgetS (et := 27) (ev := (fun (x : Tslots_Slot) => .agg (vals [ci x.kind, ci x.size, C.slc none 0 0, C.slc none 0 0]))) 2 h_31 rfl ho (by kernel_rfl) (by kernel_rfl) (by kernel_rfl) (by kernel_rfl) _ hs.own) fun a hs => ?_
    refine qpu 3 hs fun a hs => ?_
    refine qal 27 [ci 0, ci 0, C.slc none 0 0, C.slc none 0 0] 5 hs fun b_32 w a hs => ?_
    refine qsa 0 [ci e_30.kind, ci e_30.size, C.slc none 0 0, C.slc none 0 0] hs rfl fun a w hs => ?_
    refine qpe 1 [(6, .bool true)] hs fun a hs => ?_
    replace hs := hs.addRow none 53 24 eC
    replace hs := hs.addRow none 51 3 eC
    exact hj29 true hm _ _ (hs.go [6] [4, 5, 3] 6 (by kernel_rfl) (by kernel_rfl) (by kernel_rfl))
   ·replace hm := bif_f hm hb
    refine qva (.tuple #[.agg (vals [ci 0, ci 0, C.slc none 0 0, C.slc none 0 0]), .bool false]) (op := (.lookup 81 (.tmp 18) (.tmp 19) true)) hs (fun o ho => run_mgetN (et := 27) (ev := (fun (x : Tslots_Slot) => .agg (vals [ci x.kind, ci x.size, C.slc none 0 0, C.slc none 0 0]))) (z := .agg (vals [ci 0, ci 0, C.slc none 0 0, C.slc none 0 0])) 2 hb rfl ho (by kernel_rfl) (by kernel_rfl) (by kernel_rfl) (by kernel_rfl) _ hs.own) fun a hs => ?_
    refine qpu 3 hs fun a hs => ?_
    refine qal 27 [ci 0, ci 0, C.slc none 0 0, C.slc none 0 0] 5 hs fun b_33 w a hs => ?_
    refine qsa 0 [ci 0, ci 0, C.slc none 0 0, C.slc none 0 0] hs rfl fun a w hs => ?_
    refine qpe 1 [(6, .bool false)] hs fun a hs => ?_
    replace hs := hs.addRow none 53 24 eC
    replace hs := hs.addRow none 51 3 eC
    exact hj29 false hm _ _ (hs.go [6] [4, 5, 3] 6 (by kernel_rfl) (by kernel_rfl) (by kernel_rfl))
 refine qsk 1 [2, 3, 4, 5, 13, 14, 15, 30] hs fun a hs => ?_
 refine qcs (x1) hs (fun hb => ?_) fun hb => ?_
 ·replace hm := bif_t hm hb
  refine Vk.region ?_
  refine qpe 1 [(2, vi x2), (3, .slice A_x3 x3.length c_x3), (4, .slice A_x4 x4.length c_x4), (5, vi x5), (13, pp b_7), (14, vi (Int.tmod (IntKind.i64.wrap x0) 4)), (15, vi 2)] hs fun a hs => ?_
  exact hj10 2 hm _ _ (hs.go [2, 3, 4, 5, 13, 14, 15] [0, 1] 2 (by kernel_rfl) (by kernel_rfl) (by kernel_rfl))
 ·replace hm := bif_f hm hb
  refine wp_skip ?_
  exact hj10 1 hm _ _ (hs.go [2, 3, 4, 5, 13, 14, 15] [0, 1] 2 (by kernel_rfl) (by kernel_rfl) (by kernel_rfl))

end Go.Proofs.Ytebgjmhkmmlpeaa
