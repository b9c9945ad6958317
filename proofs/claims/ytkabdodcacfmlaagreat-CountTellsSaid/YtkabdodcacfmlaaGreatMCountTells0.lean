/- Of each Go function that CountTells comes to: a model in plain Lean, and that the program's call does what the model says; no condition. -/
import Derived.Test.YtkabdodcacfmlaaGreatProg
import Derived.Test.YtkabdodcacfmlaaGreatVoopcamee
namespace Go.Proofs.YtkabdodcacfmlaaGreat
open Go Go.Vk
set_option linter.unusedVariables false


abbrev slices_Clone_uint64_uint64.R (κ : Ctx) (S : List HP) (x0 : List Int) (A_x0 : Option Addr) (c_x0 : Nat) (r : List Int) : Ending → World → Prop := fun e w' => ∃ (A_r0 : Option Addr), ∃ (c_r0 : Nat), e = .returned (.slice A_r0 r.length c_r0) ∧ Ow κ w' (rowp A_r0 c_r0 34 1 (eI .u64) r :: S)
def slices_Clone_uint64_uint64.m (k : Nat) (x0 : List Int) : Option (List Int) := (if (([] : List Int).length + x0.length) * 8 ≤ 140737488355328 then some (([] : List Int) ++ x0) else none)

set_option maxRecDepth 100000 in
set_option maxHeartbeats 4000000 in
theorem slices_Clone_uint64_uint64.ok (k : Nat) (x0 : List Int) (r : List Int) (hm : slices_Clone_uint64_uint64.m k x0 = some r) (κ : Ctx) (w : World) (S : List HP) (A_x0 : Option Addr) (c_x0 : Nat) (hx_x0 : Sl κ S A_x0 c_x0 1 (eI .u64) x0) (ho : Ow κ w (S)) :
  Calls Tryz.prog 60 #[.slice A_x0 x0.length c_x0] w (slices_Clone_uint64_uint64.R κ S x0 A_x0 c_x0 r) := by
 unfold slices_Clone_uint64_uint64.m at hm
 rcases A_x0 with _ | p_x0
 ·obtain rfl : c_x0 = 0 := hx_x0.none rfl
  obtain rfl : x0 = [] := List.length_eq_zero_iff.1 (Nat.le_zero.1 hx_x0.le)
  replace hm : some ([] : List Int) = some r := by simpa using hm
  refine Vk.enter [(0, .slice none 0 0)] Tryz.func60 rfl Tryz.ntmps60 (by kernel_rfl) (Nat.le_of_ble_eq_true (by kernel_rfl)) ho fun a hs => ?_
  refine Vk.seq fun K1 hK1 => ?_
  refine Vk.region ?_
  refine Vk.pures 1 [(2, .slice none 0 0)] hs (by kernel_rfl) fun a hs => ?_
  replace hs := hs.pick [0] (L' := [(0, .slice none 0 0)]) (by kernel_rfl)
  refine Vk.done (by kernel_rfl) ?_
  refine hK1 _ _ ?_
  clear hK1
  refine Vk.seq fun K2 hK2 => ?_
  refine Vk.seq fun K3 hK3 => ?_
  refine Vk.region ?_
  refine Vk.pures 2 [(4, .bool true), (3, .slice none 0 0)] hs (by kernel_rfl) fun a hs => ?_
  replace hs := hs.pick [0, 4] (L' := [(0, .slice none 0 0), (4, .bool true)]) (by kernel_rfl)
  refine Vk.done (by kernel_rfl) ?_
  refine hK3 _ _ ?_
  clear hK3
  refine Vk.condT hs (by kernel_rfl) (by kernel_rfl) ?_
  refine Vk.seq fun K4 hK4 => ?_
  refine Vk.region ?_
  refine Vk.pures 1 [(2, .slice none 0 0)] hs (by kernel_rfl) fun a hs => ?_
  replace hs := hs.pick [2] (L' := [(2, .slice none 0 0)]) (by kernel_rfl)
  refine Vk.done (by kernel_rfl) ?_
  refine hK4 _ _ ?_
  clear hK4
  refine wp_ret ?_
  replace hs := hs.addRow none 34 1 (eI .u64)
  exact Vk.ret1 (P := Tryz.prog) (fn := Tryz.f60) (R := slices_Clone_uint64_uint64.R κ S [] none 0 r) (.slice none (([] : List Int).length) 0) hs rfl (by kernel_rfl) (by obtain rfl := Option.some.inj hm; exact ⟨none, 0, rfl, hs.own⟩)
 ·skip
  refine Vk.enter [(0, .slice (some p_x0) x0.length c_x0)] Tryz.func60 rfl Tryz.ntmps60 (by kernel_rfl) (Nat.le_of_ble_eq_true (by kernel_rfl)) ho fun a hs => ?_
  refine Vk.seq fun K1 hK1 => ?_
  refine Vk.region ?_
  refine Vk.pures 1 [(2, .slice none 0 0)] hs (by kernel_rfl) fun a hs => ?_
  replace hs := hs.pick [0] (L' := [(0, .slice (some p_x0) x0.length c_x0)]) (by kernel_rfl)
  refine Vk.done (by kernel_rfl) ?_
  refine hK1 _ _ ?_
  clear hK1
  refine Vk.seq fun K2 hK2 => ?_
  refine Vk.seq fun K3 hK3 => ?_
  refine Vk.region ?_
  refine Vk.pures 2 [(4, .bool false), (3, .slice (some p_x0) x0.length c_x0)] hs (by kernel_rfl) fun a hs => ?_
  replace hs := hs.pick [0, 4] (L' := [(0, .slice (some p_x0) x0.length c_x0), (4, .bool false)]) (by kernel_rfl)
  refine Vk.done (by kernel_rfl) ?_
  refine hK3 _ _ ?_
  clear hK3
  refine Vk.condF hs (by kernel_rfl) (by kernel_rfl) ?_
  refine wp_skip ?_
  refine hK2 _ _ ?_
  clear hK2
  refine Vk.seq fun K4 hK4 => ?_
  refine Vk.region ?_
  refine Vk.step (Vk.buildOp (sz := 1) (by_ := 8) (t := 26) (e := 34) (parts := #[]) (zs := vals [C.int .u64 0]) ([] : List Int) (eI .u64) (some 5) hs (by kernel_rfl) (by kernel_rfl) (by kernel_rfl) (by kernel_rfl) (by decide) rfl (fun x _ => rfl) (Nat.le_of_ble_eq_true (by kernel_rfl)) (by kernel_rfl) fun A_5 w a hs => ?_)
  refine Vk.pures 1 [(6, .slice (some p_x0) x0.length c_x0)] hs (by kernel_rfl) fun a hs => ?_
  obtain ⟨h_7, hm⟩ := ite_t hm
  refine Vk.step (Vk.appendOp (x := (.tmp 5)) (y := (.tmp 6)) (e := 34) (t := 26) (by_ := 8) (sz := 1) (enc := (eI .u64)) (A := A_5) (cap := 0) (xs := ([] : List Int)) (ys := x0) (B := (some p_x0)) (c2 := c_x0) 0 (some 7) hs (by kernel_rfl) (by kernel_rfl) (by kernel_rfl) (by kernel_rfl) rfl hx_x0.less (by kernel_rfl) (by kernel_rfl) (by decide) (by decide) h_7 fun A_8 c_9 w a hs => ?_)
  refine Vk.pures 1 [(2, .slice A_8 ((([] : List Int) ++ x0).length) c_9)] hs (by kernel_rfl) fun a hs => ?_
  replace hs := hs.pick [2] (L' := [(2, .slice A_8 ((([] : List Int) ++ x0).length) c_9)]) (by kernel_rfl)
  refine Vk.done (by kernel_rfl) ?_
  refine hK4 _ _ ?_
  clear hK4
  refine wp_ret ?_
  exact Vk.ret1 (P := Tryz.prog) (fn := Tryz.f60) (R := slices_Clone_uint64_uint64.R κ S x0 (some p_x0) c_x0 r) (.slice A_8 ((([] : List Int) ++ x0).length) c_9) hs rfl (by kernel_rfl) (by obtain rfl := Option.some.inj hm; exact ⟨A_8, c_9, rfl, hs.own⟩)

structure Tatomic_Int64 where
 v : Int
 deriving Inhabited
def Tatomic_Int64.cells (x : Tatomic_Int64) : Cells := [C.int .i64 x.v]

structure Ttape_Tape where
 words : List Int
 used : Tatomic_Int64
 free : Int
 deriving Inhabited
def Ttape_Tape.obj (x : Ttape_Tape) (Awords : Option Addr) (cwords : Nat) : Cells := [C.slc Awords x.words.length cwords, C.int .i64 x.used.v, C.int .i64 x.free]
def Ttape_Tape.parts (b : Nat) (x : Ttape_Tape) (g : Option Addr × Nat) : List HP := [pt b (blk (Ttape_Tape.obj x g.1 g.2) 157), rowp g.1 g.2 34 1 (eI .u64) x.words]
def Ttape_Tape.own (b : Nat) (x : Ttape_Tape) : HP := exBag (Ttape_Tape.parts b x)

abbrev tape_New.R (κ : Ctx) (S : List HP) (x0 : List Int) (A_x0 : Option Addr) (c_x0 : Nat) (r : Ttape_Tape) : Ending → World → Prop := fun e w' => ∃ (b_r0 : Nat), e = .returned (pp b_r0) ∧ Ow κ w' (Ttape_Tape.own b_r0 r :: S)
def tape_New.m (k : Nat) (x0 : List Int) : Option Ttape_Tape := (slices_Clone_uint64_uint64.m k x0).bind fun v_5 => some (⟨v_5, (⟨0⟩ : Tatomic_Int64), 0⟩ : Ttape_Tape)

set_option maxRecDepth 100000 in
set_option maxHeartbeats 4000000 in
theorem tape_New.ok (k : Nat) (x0 : List Int) (r : Ttape_Tape) (hm : tape_New.m k x0 = some r) (κ : Ctx) (w : World) (S : List HP) (A_x0 : Option Addr) (c_x0 : Nat) (hx_x0 : Sl κ S A_x0 c_x0 1 (eI .u64) x0) (ho : Ow κ w (S)) :
  Calls Tryz.prog 71 #[.slice A_x0 x0.length c_x0] w (tape_New.R κ S x0 A_x0 c_x0 r) := by
 unfold tape_New.m at hm
 generalize hRR : tape_New.R κ S x0 A_x0 c_x0 r = RR
 refine qen [(0, .slice A_x0 x0.length c_x0)] Tryz.func71 Tryz.ntmps71 ho fun a hs => ?_
 refine qsk 1 [0] hs fun a hs => ?_
 refine qsr fun K2 hK2 => ?_
 refine qpu 1 hs fun a hs => ?_
 obtain ⟨v_5, h_4, hm⟩ := bind_t hm
 refine Vk.step (Vk.call (some 4) 60 #[.slice A_x0 x0.length c_x0] hs (by kernel_rfl) (by kernel_rfl) (by kernel_rfl) ?_)
 refine (slices_Clone_uint64_uint64.ok k x0 v_5 h_4 κ w (S) A_x0 c_x0 hx_x0 hs.own).mono ?_
 rintro _ w ⟨Ar3x0_6, cr3x0_7, rfl, how⟩
 refine ⟨_, _, _, rfl, how, fun a hs => ?_⟩
 refine qpu 1 hs fun a hs => ?_
 refine qbx 5 157 [C.slc Ar3x0_6 v_5.length cr3x0_7, ci 0, ci 0] 6 hs fun b_8 w a hs => ?_
 refine qpe 1 [(2, pp b_8)] hs fun a hs => hK2 _ _ ?_
 clear hK2
 refine wp_ret ?_
 replace hs := hs.bagG (l := Ttape_Tape.parts b_8 (⟨v_5, (⟨0⟩ : Tatomic_Int64), 0⟩ : Ttape_Tape) (Ar3x0_6, cr3x0_7)) (S' := S) hs.own
 replace hs := hs.toEx (Ttape_Tape.parts b_8 (⟨v_5, (⟨0⟩ : Tatomic_Int64), 0⟩ : Ttape_Tape)) (Ar3x0_6, cr3x0_7) 0 rfl
 exact qr1 (pp b_8) hs rfl hRR (by cases hm; exact ⟨b_8, rfl, hs.own⟩)


abbrev tape_Tape_Used.R (κ : Ctx) (S : List HP) (x0 : Ttape_Tape) (b_x0 : Nat) (g_x0 : Option Addr × Nat) (r : Int) : Ending → World → Prop := fun e w' => e = .returned (vi r) ∧ Ow κ w' (bagL (Ttape_Tape.parts b_x0 x0 g_x0) :: S)
def tape_Tape_Used.m (k : Nat) (x0 : Ttape_Tape) : Option Int := some x0.used.v

set_option maxRecDepth 100000 in
set_option maxHeartbeats 4000000 in
theorem tape_Tape_Used.ok (k : Nat) (x0 : Ttape_Tape) (r : Int) (hm : tape_Tape_Used.m k x0 = some r) (κ : Ctx) (w : World) (S : List HP) (b_x0 : Nat) (g_x0 : Option Addr × Nat) (ho : Ow κ w (bagL (Ttape_Tape.parts b_x0 x0 g_x0) :: S)) :
  Calls Tryz.prog 128 #[pp b_x0] w (tape_Tape_Used.R κ S x0 b_x0 g_x0 r) := by
 unfold tape_Tape_Used.m at hm
 generalize hRR : tape_Tape_Used.R κ S x0 b_x0 g_x0 r = RR
 refine qen [(0, pp b_x0)] Tryz.func128 Tryz.ntmps128 ho fun a hs => ?_
 refine qse 1 [(0, pp b_x0)] hs fun a hs => ?_
 refine Vk.seq fun K2 hK2 => ?_
 refine qsk 2 [0, 4] hs fun a hs => ?_
 refine qcf hs ?_
 refine wp_skip ?_
 refine hK2 _ _ ?_
 clear hK2
 refine qsr fun K4 hK4 => ?_
 refine qpu 3 hs fun a hs => ?_
 refine Vk.step (Vk.call (some 8) 145 #[.pointer (some ⟨b_x0, 1, none⟩)] hs (by kernel_rfl) (by kernel_rfl) (by kernel_rfl) ?_)
 refine Vk.enterI [(0, .pointer (some ⟨b_x0, 1, none⟩))] Tryz.func145 rfl Tryz.ntmps145 (by kernel_rfl) (Nat.le_of_ble_eq_true (by kernel_rfl)) hs.own fun KR5 hKR5 hKP5 a hs => ?_
 refine qsk 1 [0] hs fun a hs => ?_
 refine qsr fun K7 hK7 => ?_
 refine qpu 3 hs fun a hs => ?_
 replace hs := hs.unbagAt 0 rfl
 refine Vk.step (Vk.atomLoad (k := .i64) (b := b_x0) (off := 1) (x := x0.used.v) (some 6) 153 Tryz.f153 hs (by kernel_rfl) (by kernel_rfl) Tryz.func153 (by kernel_rfl) (by kernel_rfl) (Cell.own 0 rfl (by kernel_rfl)) fun a hs => ?_)
 refine qpe 1 [(2, vi x0.used.v)] hs fun a hs => hK7 _ _ ?_
 clear hK7
 refine wp_ret ?_
 refine hKP5 _ _ ?_
 refine hKR5 _ _ ?_
 refine Vk.ret1 (P := Tryz.prog) (fn := Tryz.f145) (vi x0.used.v) hs rfl (by kernel_rfl) ⟨_, _, _, rfl, hs.own, fun a hs => ?_⟩
 refine qpe 1 [(2, vi x0.used.v)] hs fun a hs => hK4 _ _ ?_
 clear hK4
 refine wp_ret ?_
 replace hs := hs.bagG (l := Ttape_Tape.parts b_x0 x0 g_x0) (S' := S) hs.own
 exact qr1 (vi x0.used.v) hs rfl hRR (by cases hm; exact ⟨rfl, hs.own⟩)


abbrev tape_Tape_Left.R (κ : Ctx) (S : List HP) (x0 : Ttape_Tape) (b_x0 : Nat) (g_x0 : Option Addr × Nat) (r : Int) : Ending → World → Prop := fun e w' => e = .returned (vi r) ∧ Ow κ w' (bagL (Ttape_Tape.parts b_x0 x0 g_x0) :: S)
def tape_Tape_Left.m (k : Nat) (x0 : Ttape_Tape) : Option Int := (tape_Tape_Used.m k x0).bind fun v_9 => some (IntKind.i64.wrap (((x0.words.length : Nat) : Int) - v_9))

set_option maxRecDepth 100000 in
set_option maxHeartbeats 4000000 in
theorem tape_Tape_Left.ok (k : Nat) (x0 : Ttape_Tape) (r : Int) (hm : tape_Tape_Left.m k x0 = some r) (κ : Ctx) (w : World) (S : List HP) (b_x0 : Nat) (g_x0 : Option Addr × Nat) (ho : Ow κ w (bagL (Ttape_Tape.parts b_x0 x0 g_x0) :: S)) :
  Calls Tryz.prog 104 #[pp b_x0] w (tape_Tape_Left.R κ S x0 b_x0 g_x0 r) := by
 unfold tape_Tape_Left.m at hm
 generalize hRR : tape_Tape_Left.R κ S x0 b_x0 g_x0 r = RR
 refine qen [(0, pp b_x0)] Tryz.func104 Tryz.ntmps104 ho fun a hs => ?_
 refine qse 1 [(0, pp b_x0)] hs fun a hs => ?_
 refine Vk.seq fun K2 hK2 => ?_
 refine qsk 2 [0, 4] hs fun a hs => ?_
 refine qcf hs ?_
 refine wp_skip ?_
 refine hK2 _ _ ?_
 clear hK2
 refine Vk.seq fun K4 hK4 => ?_
 replace hs := hs.unbagAt 0 rfl
 obtain ⟨C_6, hC_6⟩ := qC hs.own
 refine qdr 9 κ C_6 hs fun w hs hqC_6 => ?_
 have hcl := qO hC_6 hs.own
 refine qdp (fuel := 5) [0, 1, 2, 5] hs hcl hqC_6 fun a hs => ?_
 refine qdl 3 0 (C.slc g_x0.1 x0.words.length g_x0.2) hs hcl hqC_6 hC_6 rfl fun a hs => ?_
 refine qdp (fuel := 3) [4] hs hcl hqC_6 fun a hs => ?_
 replace hs := hs.bagG (l := Ttape_Tape.parts b_x0 x0 g_x0) (S' := S) hs.own
 obtain ⟨v_9, h_8, hm⟩ := bind_t hm
 refine qdc 6 (tape_Tape_Used.ok _ _ _ h_8 _ _ _ b_x0 g_x0 hs.own) hs fun w a hs => ?_
 replace hs := hs.unbagAt 0 rfl
 replace hcl := qO hC_6 hs.own
 refine ⟨fun _ => hcl, ?_⟩
 refine qdp (fuel := 0) [7, 8] hs hcl hqC_6 fun a hs => ?_
 replace hs := hs.pick [2] (L' := [(2, vi (IntKind.i64.wrap (((x0.words.length : Nat) : Int) - v_9)))]) (by kernel_rfl)
 refine Vk.dDone (by kernel_rfl) ?_
 refine hK4 _ _ ?_
 clear hK4
 refine wp_ret ?_
 replace hs := hs.bagG (l := Ttape_Tape.parts b_x0 x0 g_x0) (S' := S) hs.own
 exact qr1 (vi (IntKind.i64.wrap (((x0.words.length : Nat) : Int) - v_9))) hs rfl hRR (by cases hm; exact ⟨rfl, hs.own⟩)


abbrev tape_Tape_Reserve.R (κ : Ctx) (S : List HP) (x0 : Ttape_Tape) (x1 : Int) (b_x0 : Nat) (r : (Int × Ttape_Tape)) : Ending → World → Prop := fun e w' => e = .returned (vi r.1) ∧ Ow κ w' (Ttape_Tape.own b_x0 r.2 :: S)
def tape_Tape_Reserve.m (k : Nat) (x0 : Ttape_Tape) (x1 : Int) : Option (Int × Ttape_Tape) := (bif decide (x1 < 0) then some (1, x0) else (tape_Tape_Left.m k x0).bind fun v_9 => (bif decide (x1 > v_9) then some (2, x0) else some (0, (⟨x0.words, x0.used, x1⟩ : Ttape_Tape))))

set_option maxRecDepth 100000 in
set_option maxHeartbeats 4000000 in
theorem tape_Tape_Reserve.ok (k : Nat) (x0 : Ttape_Tape) (x1 : Int) (r : (Int × Ttape_Tape)) (hm : tape_Tape_Reserve.m k x0 x1 = some r) (κ : Ctx) (w : World) (S : List HP) (b_x0 : Nat) (ho : Ow κ w (Ttape_Tape.own b_x0 x0 :: S)) :
  Calls Tryz.prog 72 #[pp b_x0, vi x1] w (tape_Tape_Reserve.R κ S x0 x1 b_x0 r) := by
 unfold tape_Tape_Reserve.m at hm
 generalize hRR : tape_Tape_Reserve.R κ S x0 x1 b_x0 r = RR
 refine qen [(0, pp b_x0), (1, vi x1)] Tryz.func72 Tryz.ntmps72 ho fun a hs => ?_
 refine qse 1 [(0, pp b_x0), (1, vi x1)] hs fun a hs => ?_
 refine Vk.seq fun K2 hK2 => ?_
 refine wp_block ?_
 refine qsk 7 [0, 1, 5] hs fun a hs => ?_
 refine qcs (decide (x1 < 0)) hs (fun hb => ?_) fun hb => ?_
 ·replace hm := bif_t hm hb
  refine qse 1 [(4, vi 1)] hs fun a hs => ?_
  refine wp_ret ?_
  exact qr1 (vi 1) hs rfl hRR (by cases hm; exact ⟨rfl, hs.own⟩)
 ·replace hm := bif_f hm hb
  refine qsr fun K5 hK5 => ?_
  refine qpu 2 hs fun a hs => ?_
  obtain ⟨g_6, hs⟩ := hs.unex 0 rfl
  obtain ⟨v_9, h_8, hm⟩ := bind_t hm
  refine qcl (tape_Tape_Left.ok _ _ _ h_8 _ _ _ b_x0 g_6 hs.own) hs fun w a hs => ?_
  refine qpk 2 [0, 1, 12] hs fun a hs => hK5 _ _ ?_
  clear hK5
  refine qcs (decide (x1 > v_9)) hs (fun hb => ?_) fun hb => ?_
  ·replace hm := bif_t hm hb
   refine qse 1 [(4, vi 2)] hs fun a hs => ?_
   refine wp_ret ?_
   replace hs := hs.toEx (Ttape_Tape.parts b_x0 x0) g_6 0 rfl
   exact qr1 (vi 2) hs rfl hRR (by cases hm; exact ⟨rfl, hs.own⟩)
  ·replace hm := bif_f hm hb
   refine wp_skip ?_
   refine hK2 _ _ ?_
   clear hK2
   refine qsr fun K11 hK11 => ?_
   refine qpu 4 hs fun a hs => ?_
   replace hs := hs.unbagAt 0 rfl
   refine qst 0 2 (ci x1) hs rfl fun a w hs => ?_
   refine qpe 0 [] hs fun a hs => hK11 _ _ ?_
   clear hK11
   refine qse 1 [(4, vi 0)] hs fun a hs => ?_
   refine wp_ret ?_
   replace hs := hs.bagG (l := Ttape_Tape.parts b_x0 (⟨x0.words, x0.used, x1⟩ : Ttape_Tape) g_6) (S' := S) hs.own
   replace hs := hs.toEx (Ttape_Tape.parts b_x0 (⟨x0.words, x0.used, x1⟩ : Ttape_Tape)) g_6 0 rfl
   exact qr1 (vi 0) hs rfl hRR (by cases hm; exact ⟨rfl, hs.own⟩)

structure Tapi_Op where
 kind : Int
 dom : Int
 a : Int
 b : Int
 d : Int
 c : Int
 deriving Inhabited
def Tapi_Op.cells (x : Tapi_Op) : Cells := [C.int .i64 x.kind, C.int .i64 x.dom, C.int .i64 x.a, C.int .i64 x.b, C.int .i64 x.d, C.int .u64 x.c]

structure Tapi_Span where
 kind : Int
 fromF : Int
 to : Int
 deriving Inhabited
def Tapi_Span.cells (x : Tapi_Span) : Cells := [C.int .i64 x.kind, C.int .i64 x.fromF, C.int .i64 x.to]

structure Twire_Machine where
 n : Int
 most : Int
 base : Int
 words : Int
 draws : Int
 dry : Bool
 openF : Int
 fromF : Int
 bad : Int
 tape : Ttape_Tape
 ops : List Tapi_Op
 values : List Int
 blocks : List Tapi_Span
 deriving Inhabited
def Twire_Machine.obj (x : Twire_Machine) (btape : Nat) (Aops : Option Addr) (cops : Nat) (Avalues : Option Addr) (cvalues : Nat) (Ablocks : Option Addr) (cblocks : Nat) : Cells := [C.int .i64 x.n, C.int .i64 x.most, C.int .i64 x.base, C.int .i64 x.words, C.int .i64 x.draws, C.bool x.dry, C.int .i64 x.openF, C.int .i64 x.fromF, C.int .i64 x.bad, C.ptr (optA x.dry btape), C.slc Aops x.ops.length cops, C.slc Avalues x.values.length cvalues, C.slc Ablocks x.blocks.length cblocks]
def Twire_Machine.parts (b : Nat) (x : Twire_Machine) (g : Nat × Option Addr × Nat × Option Addr × Nat × Option Addr × Nat) : List HP := [pt b (blk (Twire_Machine.obj x g.1 g.2.1 g.2.2.1 g.2.2.2.1 g.2.2.2.2.1 g.2.2.2.2.2.1 g.2.2.2.2.2.2) 102), opto x.dry (Ttape_Tape.own g.1 x.tape), rowp g.2.1 g.2.2.1 80 6 Tapi_Op.cells x.ops, rowp g.2.2.2.1 g.2.2.2.2.1 34 1 (eI .u64) x.values, rowp g.2.2.2.2.2.1 g.2.2.2.2.2.2 106 3 Tapi_Span.cells x.blocks]
def Twire_Machine.own (b : Nat) (x : Twire_Machine) : HP := exBag (Twire_Machine.parts b x)

abbrev wire_New.R (κ : Ctx) (S : List HP) (x0 : Int) (x1 : Ttape_Tape) (x2 : Int) (b_x1 : Nat) (r : (Sum (Int × Ttape_Tape) (Twire_Machine × Int))) : Ending → World → Prop := fun e w' => (∃ r', r = (Sum.inl r') ∧ e = .returned (.tuple #[.pointer none, vi r'.1]) ∧ Ow κ w' (Ttape_Tape.own b_x1 r'.2 :: S)) ∨ (∃ r', r = (Sum.inr r') ∧ ∃ (b_r0 : Nat), e = .returned (.tuple #[pp b_r0, vi r'.2]) ∧ Ow κ w' (Twire_Machine.own b_r0 r'.1 :: S))
def wire_New.m (k : Nat) (x0 : Int) (x1 : Ttape_Tape) (x2 : Int) : Option (Sum (Int × Ttape_Tape) (Twire_Machine × Int)) := (bif (((x0 != 2) && (x0 != 3)) || (decide (x2 < 0))) || (decide (x2 > 1048576)) then some (Sum.inl (1, x1)) else some (Sum.inr ((⟨x0, x2, 0, 0, 0, false, 0, 0, 0, x1, ([] : List Tapi_Op), ([] : List Int), ([] : List Tapi_Span)⟩ : Twire_Machine), 0)))

set_option maxRecDepth 100000 in
set_option maxHeartbeats 4000000 in
theorem wire_New.ok (k : Nat) (x0 : Int) (x1 : Ttape_Tape) (x2 : Int) (r : (Sum (Int × Ttape_Tape) (Twire_Machine × Int))) (hm : wire_New.m k x0 x1 x2 = some r) (κ : Ctx) (w : World) (S : List HP) (b_x1 : Nat) (ho : Ow κ w (Ttape_Tape.own b_x1 x1 :: S)) :
  Calls Tryz.prog 73 #[vi x0, pp b_x1, vi x2] w (wire_New.R κ S x0 x1 x2 b_x1 r) := by
 unfold wire_New.m at hm
 generalize hRR : wire_New.R κ S x0 x1 x2 b_x1 r = RR
 refine qen [(0, vi x0), (1, pp b_x1), (2, vi x2)] Tryz.func73 Tryz.ntmps73 ho fun a hs => ?_
 refine qsk 2 [0, 1, 2] hs fun a hs => ?_
 refine Vk.seq fun K2 hK2 => ?_
 refine qsr fun K3 hK3 => ?_
 refine qpu 3 hs fun a hs => ?_
 refine qsc 10 3 hs fun a hs => ?_
 refine qpu 1 hs fun a hs => ?_
 refine qsq 14 3 hs fun a hs => ?_
 refine qpu 1 hs fun a hs => ?_
 refine qsc 18 3 hs fun a hs => ?_
 refine qpu 1 hs fun a hs => ?_
 refine qsc 22 3 hs fun a hs => ?_
 refine qpk 0 [0, 1, 2, 25] hs fun a hs => hK3 _ _ ?_
 clear hK3
 refine qcs ((((x0 != 2) && (x0 != 3)) || (decide (x2 < 0))) || (decide (x2 > 1048576))) hs (fun hb => ?_) fun hb => ?_
 ·replace hm := bif_t hm hb
  refine qsk 2 [6, 7] hs fun a hs => ?_
  refine wp_ret ?_
  exact Vk.ret2 (.pointer none) (vi 1) hs rfl (by kernel_rfl) (by kernel_rfl) (hRR ▸ by cases hm; exact (Or.inl ⟨_, rfl, rfl, hs.own⟩))
 ·replace hm := bif_f hm hb
  refine wp_skip ?_
  refine hK2 _ _ ?_
  clear hK2
  refine qsr fun K9 hK9 => ?_
  refine qpu 4 hs fun a hs => ?_
  refine qbx 29 102 [ci x0, ci x2, ci 0, ci 0, ci 0, C.bool false, ci 0, ci 0, ci 0, cp b_x1, C.slc none 0 0, C.slc none 0 0, C.slc none 0 0] 30 hs fun b_10 w a hs => ?_
  refine qpe 2 [(6, pp b_10), (7, vi 0)] hs fun a hs => hK9 _ _ ?_
  clear hK9
  refine wp_ret ?_
  replace hs := hs.addRow none 80 6 Tapi_Op.cells
  replace hs := hs.addRow none 34 1 (eI .u64)
  replace hs := hs.addRow none 106 3 Tapi_Span.cells
  replace hs := hs.bagG (l := Twire_Machine.parts b_10 (⟨x0, x2, 0, 0, 0, false, 0, 0, 0, x1, ([] : List Tapi_Op), ([] : List Int), ([] : List Tapi_Span)⟩ : Twire_Machine) (b_x1, none, 0, none, 0, none, 0)) (S' := S) hs.own.f1.f2.f4.f4
  replace hs := hs.toEx (Twire_Machine.parts b_10 (⟨x0, x2, 0, 0, 0, false, 0, 0, 0, x1, ([] : List Tapi_Op), ([] : List Int), ([] : List Tapi_Span)⟩ : Twire_Machine)) (b_x1, none, 0, none, 0, none, 0) 0 rfl
  exact Vk.ret2 (pp b_10) (vi 0) hs rfl (by kernel_rfl) (by kernel_rfl) (hRR ▸ by cases hm; exact (Or.inr ⟨_, rfl, b_10, rfl, hs.own⟩))

structure Tvisorref02_T where
 l : List Int
 used : Int
 free : Int
 deriving Inhabited
def Tvisorref02_T.obj (x : Tvisorref02_T) (Al : Option Addr) (cl : Nat) : Cells := [C.slc Al x.l.length cl, C.int .i64 x.used, C.int .i64 x.free]
def Tvisorref02_T.parts (κ : Ctx) (b : Nat) (x : Tvisorref02_T) (g : Option Addr × Nat) : List HP := [pt b (blk (Tvisorref02_T.obj x g.1 g.2) 159), rdp κ g.1 g.2 1 (eI .u64) x.l]
def Tvisorref02_T.own (κ : Ctx) (b : Nat) (x : Tvisorref02_T) : HP := exBag (Tvisorref02_T.parts κ b x)

structure Tvisorref19_M where
 n : Int
 most : Int
 words : Int
 draws : Int
 fromF : Int
 skip : Int
 kind : Int
 e : Int
 ops : List Tapi_Op
 blocks : List Tapi_Span
 val : List Int
 tape : Tvisorref02_T
 dry : Bool
 deriving Inhabited
def Tvisorref19_M.obj (x : Tvisorref19_M) (Aops : Option Addr) (cops : Nat) (Ablocks : Option Addr) (cblocks : Nat) (Aval : Option Addr) (cval : Nat) (Atapel : Option Addr) (ctapel : Nat) : Cells := [C.int .i64 x.n, C.int .i64 x.most, C.int .i64 x.words, C.int .i64 x.draws, C.int .i64 x.fromF, C.int .i64 x.skip, C.int .i64 x.kind, C.int .i64 x.e, C.slc Aops x.ops.length cops, C.slc Ablocks x.blocks.length cblocks, C.slc Aval x.val.length cval, C.slc Atapel x.tape.l.length ctapel, C.int .i64 x.tape.used, C.int .i64 x.tape.free, C.bool x.dry]
def Tvisorref19_M.parts (κ : Ctx) (b : Nat) (x : Tvisorref19_M) (g : Option Addr × Nat × Option Addr × Nat × Option Addr × Nat × Option Addr × Nat) : List HP := [pt b (blk (Tvisorref19_M.obj x g.1 g.2.1 g.2.2.1 g.2.2.2.1 g.2.2.2.2.1 g.2.2.2.2.2.1 g.2.2.2.2.2.2.1 g.2.2.2.2.2.2.2) 161), rowp g.1 g.2.1 80 6 Tapi_Op.cells x.ops, rowp g.2.2.1 g.2.2.2.1 106 3 Tapi_Span.cells x.blocks, rowp g.2.2.2.2.1 g.2.2.2.2.2.1 34 1 (eI .u64) x.val, rdp κ g.2.2.2.2.2.2.1 g.2.2.2.2.2.2.2 1 (eI .u64) x.tape.l]
def Tvisorref19_M.own (κ : Ctx) (b : Nat) (x : Tvisorref19_M) : HP := exBag (Tvisorref19_M.parts κ b x)

abbrev visorref19_New.R (κ : Ctx) (S : List HP) (x0 : Int) (x1 : List Int) (x2 : Int) (A_x1 : Option Addr) (c_x1 : Nat) (r : Tvisorref19_M) : Ending → World → Prop := fun e w' => ∃ (b_r0 : Nat), e = .returned (pp b_r0) ∧ Ow κ w' (Tvisorref19_M.own κ b_r0 r :: S)
def visorref19_New.m (k : Nat) (x0 : Int) (x1 : List Int) (x2 : Int) : Option Tvisorref19_M := some (⟨x0, x2, 0, 0, 0, 0, 0, 0, ([] : List Tapi_Op), ([] : List Tapi_Span), ([] : List Int), (⟨x1, 0, ((x1.length : Nat) : Int)⟩ : Tvisorref02_T), false⟩ : Tvisorref19_M)

set_option maxRecDepth 100000 in
set_option maxHeartbeats 4000000 in
theorem visorref19_New.ok (k : Nat) (x0 : Int) (x1 : List Int) (x2 : Int) (r : Tvisorref19_M) (hm : visorref19_New.m k x0 x1 x2 = some r) (κ : Ctx) (w : World) (S : List HP) (A_x1 : Option Addr) (c_x1 : Nat) (ho : Ow κ w (rdp κ A_x1 c_x1 1 (eI .u64) x1 :: S)) :
  Calls Tryz.prog 74 #[vi x0, .slice A_x1 x1.length c_x1, vi x2] w (visorref19_New.R κ S x0 x1 x2 A_x1 c_x1 r) := by
 unfold visorref19_New.m at hm
 generalize hRR : visorref19_New.R κ S x0 x1 x2 A_x1 c_x1 r = RR
 refine qen [(0, vi x0), (1, .slice A_x1 x1.length c_x1), (2, vi x2)] Tryz.func74 Tryz.ntmps74 ho fun a hs => ?_
 refine qsk 1 [0, 1, 2] hs fun a hs => ?_
 refine qsr fun K2 hK2 => ?_
 refine qpu 7 hs fun a hs => ?_
 refine qbx 13 161 [ci x0, ci x2, ci 0, ci 0, ci 0, ci 0, ci 0, ci 0, C.slc none 0 0, C.slc none 0 0, C.slc none 0 0, C.slc A_x1 x1.length c_x1, ci 0, ci ((x1.length : Nat) : Int), C.bool false] 14 hs fun b_3 w a hs => ?_
 refine qpe 1 [(6, pp b_3)] hs fun a hs => hK2 _ _ ?_
 clear hK2
 refine wp_ret ?_
 replace hs := hs.addRow none 80 6 Tapi_Op.cells
 replace hs := hs.addRow none 106 3 Tapi_Span.cells
 replace hs := hs.addRow none 34 1 (eI .u64)
 replace hs := hs.bagG (l := Tvisorref19_M.parts κ b_3 (⟨x0, x2, 0, 0, 0, 0, 0, 0, ([] : List Tapi_Op), ([] : List Tapi_Span), ([] : List Int), (⟨x1, 0, ((x1.length : Nat) : Int)⟩ : Tvisorref02_T), false⟩ : Tvisorref19_M) (none, 0, none, 0, none, 0, A_x1, c_x1)) (S' := S) hs.own.f1.f2.f3
 replace hs := hs.toEx (Tvisorref19_M.parts κ b_3 (⟨x0, x2, 0, 0, 0, 0, 0, 0, ([] : List Tapi_Op), ([] : List Tapi_Span), ([] : List Int), (⟨x1, 0, ((x1.length : Nat) : Int)⟩ : Tvisorref02_T), false⟩ : Tvisorref19_M)) (none, 0, none, 0, none, 0, A_x1, c_x1) 0 rfl
 exact qr1 (pp b_3) hs rfl hRR (by cases hm; exact ⟨b_3, rfl, hs.own⟩)


abbrev visorlaw20_Begins.R (κ : Ctx) (S : List HP) (x0 : Int) (x1 : List Int) (x2 : Int) (A_x1 : Option Addr) (c_x1 : Nat) (r : (Sum (Tvisorref19_M × List Cells × List Int) (Twire_Machine × Tvisorref19_M × List Cells × List Int × Bool))) : Ending → World → Prop := fun e w' => (∃ r', r = (Sum.inl r') ∧ ∃ (b_r0x : Nat), ∃ (A_r0l : Option Addr), ∃ (c_r0l : Nat), ∃ (A_r0v : Option Addr), ∃ (c_r0v : Nat), e = .returned (.tuple #[.agg (vals [C.ptr none, cp b_r0x, C.slc A_r0l r'.2.1.length c_r0l, C.slc A_r0v r'.2.2.length c_r0v]), .bool false]) ∧ Ow κ w' (Tvisorref19_M.own κ b_r0x r'.1 :: rowp A_r0l c_r0l 75 3 eC r'.2.1 :: rowp A_r0v c_r0v 34 1 (eI .u64) r'.2.2 :: S)) ∨ (∃ r', r = (Sum.inr r') ∧ ∃ (b_r0m : Nat), ∃ (b_r0x : Nat), ∃ (A_r0l : Option Addr), ∃ (c_r0l : Nat), ∃ (A_r0v : Option Addr), ∃ (c_r0v : Nat), e = .returned (.tuple #[.agg (vals [cp b_r0m, cp b_r0x, C.slc A_r0l r'.2.2.1.length c_r0l, C.slc A_r0v r'.2.2.2.1.length c_r0v]), .bool r'.2.2.2.2]) ∧ Ow κ w' (Twire_Machine.own b_r0m r'.1 :: Tvisorref19_M.own κ b_r0x r'.2.1 :: rowp A_r0l c_r0l 75 3 eC r'.2.2.1 :: rowp A_r0v c_r0v 34 1 (eI .u64) r'.2.2.2.1 :: S))
def visorlaw20_Begins.m (k : Nat) (x0 : Int) (x1 : List Int) (x2 : Int) : Option (Sum (Tvisorref19_M × List Cells × List Int) (Twire_Machine × Tvisorref19_M × List Cells × List Int × Bool)) := (tape_New.m k x1).bind fun v_6 => (tape_Tape_Reserve.m k v_6 ((x1.length : Nat) : Int)).bind fun v_11 => ((wire_New.m k x0 v_11.2 x2).bind fun v => match v with | (.inl v_16) => (visorref19_New.m k x0 x1 x2).bind fun v_22 => some (Sum.inl (v_22, ([] : List Cells), ([] : List Int))) | (.inr v_17) => (visorref19_New.m k x0 x1 x2).bind fun v_29 => some (Sum.inr (v_17.1, v_29, ([] : List Cells), ([] : List Int), (v_11.1 == 0) && (v_17.2 == 0))))

set_option maxRecDepth 100000 in
set_option maxHeartbeats 4000000 in
theorem visorlaw20_Begins.ok (k : Nat) (x0 : Int) (x1 : List Int) (x2 : Int) (r : (Sum (Tvisorref19_M × List Cells × List Int) (Twire_Machine × Tvisorref19_M × List Cells × List Int × Bool))) (hm : visorlaw20_Begins.m k x0 x1 x2 = some r) (κ : Ctx) (w : World) (S : List HP) (A_x1 : Option Addr) (c_x1 : Nat) (ho : Ow κ w (rdp κ A_x1 c_x1 1 (eI .u64) x1 :: S)) :
  Calls Tryz.prog 41 #[vi x0, .slice A_x1 x1.length c_x1, vi x2] w (visorlaw20_Begins.R κ S x0 x1 x2 A_x1 c_x1 r) := by
 unfold visorlaw20_Begins.m at hm
 generalize hRR : visorlaw20_Begins.R κ S x0 x1 x2 A_x1 c_x1 r = RR
 refine qen [(0, vi x0), (1, .slice A_x1 x1.length c_x1), (2, vi x2)] Tryz.func41 Tryz.ntmps41 ho fun a hs => ?_
 refine qsr fun K1 hK1 => ?_
 refine qal 52 [C.ptr none, C.ptr none, C.slc none 0 0, C.slc none 0 0] 6 hs fun b_2 w a hs => ?_
 refine qpk 1 [0, 1, 2, 6] hs fun a hs => hK1 _ _ ?_
 clear hK1
 refine qsr fun K3 hK3 => ?_
 refine qpu 1 hs fun a hs => ?_
 obtain ⟨v_6, h_5, hm⟩ := bind_t hm
 refine Vk.step (Vk.call (some 13) 71 #[.slice A_x1 x1.length c_x1] hs (by kernel_rfl) (by kernel_rfl) (by kernel_rfl) ?_)
 refine (tape_New.ok k x1 v_6 h_5 κ w (pt b_2 (blk [C.ptr none, C.ptr none, C.slc none 0 0, C.slc none 0 0] 52) :: rdp κ A_x1 c_x1 1 (eI .u64) x1 :: S) A_x1 c_x1 ((Ow.rdSl 0 hs.own.drop rfl).less) hs.own).mono ?_
 rintro _ w ⟨br4x0_7, rfl, how⟩
 refine ⟨_, _, _, rfl, how, fun a hs => ?_⟩
 refine qpk 1 [0, 1, 2, 6, 8] hs fun a hs => hK3 _ _ ?_
 clear hK3
 refine qsr fun K8 hK8 => ?_
 refine qpu 3 hs fun a hs => ?_
 obtain ⟨v_11, h_10, hm⟩ := bind_t hm
 refine qcl (tape_Tape_Reserve.ok _ _ _ _ h_10 _ _ _ br4x0_7 hs.own) hs fun w a hs => ?_
 refine qpk 1 [0, 1, 2, 6, 8, 9] hs fun a hs => hK8 _ _ ?_
 clear hK8
 refine qsr fun K12 hK12 => ?_
 refine qpu 3 hs fun a hs => ?_
 obtain ⟨v_15, h_14, hm⟩ := bind_t hm
 refine Vk.step (Vk.call (some 22) 73 #[vi x0, pp br4x0_7, vi x2] hs (by kernel_rfl) (by kernel_rfl) (by kernel_rfl) ?_)
 refine (wire_New.ok k x0 v_11.2 x2 v_15 h_14 κ w (pt b_2 (blk [C.ptr none, C.ptr none, C.slc none 0 0, C.slc none 0 0] 52) :: rdp κ A_x1 c_x1 1 (eI .u64) x1 :: S) br4x0_7 hs.own).mono ?_
 rintro _ w (⟨v_16, rfl, rfl, how⟩ | ⟨v_17, rfl, br13x0_18, rfl, how⟩)
 ·dsimp only at hm
  refine ⟨_, _, _, rfl, how, fun a hs => ?_⟩
  refine qpe 5 [(0, vi x0), (1, .slice A_x1 x1.length c_x1), (2, vi x2), (6, pp b_2), (9, vi v_11.1), (10, .pointer none), (11, vi v_16.1)] hs fun a hs => hK12 _ _ ?_
  refine qsr fun K19 hK19 => ?_
  refine qpu 4 hs fun a hs => ?_
  obtain ⟨v_22, h_21, hm⟩ := bind_t hm
  refine Vk.step (Vk.call (some 29) 74 #[vi x0, .slice A_x1 x1.length c_x1, vi x2] hs (by kernel_rfl) (by kernel_rfl) (by kernel_rfl) ?_)
  refine (visorref19_New.ok k x0 x1 x2 v_22 h_21 κ w (Ttape_Tape.own br4x0_7 v_16.2 :: pt b_2 (blk [C.ptr none, C.ptr none, C.slc none 0 0, C.slc none 0 0] 52) :: S) A_x1 c_x1 hs.own.f2).mono ?_
  rintro _ w ⟨br20x0_23, rfl, how⟩
  refine ⟨_, _, _, rfl, how, fun a hs => ?_⟩
  refine qpu 4 hs fun a hs => ?_
  refine qsc 33 3 hs fun a hs => ?_
  refine qpu 1 hs fun a hs => ?_
  suffices hj_25 : ∀ a, St 41 a w κ [(0, vi x0), (1, .slice A_x1 x1.length c_x1), (2, vi x2), (6, pp b_2), (9, vi v_11.1), (10, .pointer none), (11, vi v_16.1), (25, .pointer none), (26, vi x0), (27, .slice A_x1 x1.length c_x1), (28, vi x2), (29, pp br20x0_23), (30, .agg (vals [C.ptr none, cp br20x0_23, C.slc none 0 0, C.slc none 0 0])), (31, vi v_11.1), (32, .bool (v_11.1 == 0)), (33, .bool (v_11.1 == 0)), (36, .bool ((v_11.1 == 0) && (v_16.1 == 0))), (37, .bool ((v_11.1 == 0) && (v_16.1 == 0))), (40, .bool false)] (Tvisorref19_M.own κ br20x0_23 v_22 :: Ttape_Tape.own br4x0_7 v_16.2 :: pt b_2 (blk [C.ptr none, C.ptr none, C.slc none 0 0, C.slc none 0 0] 52) :: S) → wpFrom Tryz.prog _ _ 16 a w by
   rcases Bool.eq_false_or_eq_true ((v_11.1 == 0) && (v_16.1 == 0)) with hb | hb
   ·replace hs := hs.known (t := 37) hb (by kernel_rfl)
    refine qpu 3 hs fun a hs => ?_
    have hq := hs.pick [0, 1, 2, 6, 9, 10, 11, 25, 26, 27, 28, 29, 30, 31, 32, 33, 36, 37, 40] (L' := [(0, vi x0), (1, .slice A_x1 x1.length c_x1), (2, vi x2), (6, pp b_2), (9, vi v_11.1), (10, .pointer none), (11, vi v_16.1), (25, .pointer none), (26, vi x0), (27, .slice A_x1 x1.length c_x1), (28, vi x2), (29, pp br20x0_23), (30, .agg (vals [C.ptr none, cp br20x0_23, C.slc none 0 0, C.slc none 0 0])), (31, vi v_11.1), (32, .bool (v_11.1 == 0)), (33, .bool (v_11.1 == 0)), (36, .bool ((v_11.1 == 0) && (v_16.1 == 0))), (37, .bool true), (40, .bool false)]) (by kernel_rfl)
    exact hj_25 _ (hq.conv (by first | (rw [hb] <;> rfl) | rfl))
   ·replace hs := hs.known (t := 37) hb (by kernel_rfl)
    refine qpu 3 hs fun a hs => ?_
    have hq := hs.pick [0, 1, 2, 6, 9, 10, 11, 25, 26, 27, 28, 29, 30, 31, 32, 33, 36, 37, 40] (L' := [(0, vi x0), (1, .slice A_x1 x1.length c_x1), (2, vi x2), (6, pp b_2), (9, vi v_11.1), (10, .pointer none), (11, vi v_16.1), (25, .pointer none), (26, vi x0), (27, .slice A_x1 x1.length c_x1), (28, vi x2), (29, pp br20x0_23), (30, .agg (vals [C.ptr none, cp br20x0_23, C.slc none 0 0, C.slc none 0 0])), (31, vi v_11.1), (32, .bool (v_11.1 == 0)), (33, .bool (v_11.1 == 0)), (36, .bool ((v_11.1 == 0) && (v_16.1 == 0))), (37, .bool false), (40, .bool false)]) (by kernel_rfl)
    exact hj_25 _ (hq.conv (by first | (rw [hb] <;> rfl) | rfl))
  intro a hs
  refine qsa 2 [C.ptr none, cp br20x0_23, C.slc none 0 0, C.slc none 0 0] hs rfl fun a w hs => ?_
  refine qpk 1 [6, 7] hs fun a hs => hK19 _ _ ?_
  clear hK19
  refine wp_ret ?_
  replace hs := hs.addRow none 75 3 eC
  replace hs := hs.addRow none 34 1 (eI .u64)
  exact Vk.retCT ([C.ptr none, cp br20x0_23, C.slc none (([] : List Cells).length) 0, C.slc none (([] : List Int).length) 0]) (.bool false) hs rfl (by kernel_rfl) (sz := 4) (by kernel_rfl) rfl (CellsAt.all 4 rfl) (by kernel_rfl) (hRR ▸ by cases hm; exact (Or.inl ⟨_, rfl, br20x0_23, none, 0, none, 0, rfl, (hs.own.too [2, 1, 0] 5)⟩))
 ·dsimp only at hm
  refine ⟨_, _, _, rfl, how, fun a hs => ?_⟩
  refine qpk 5 [0, 1, 2, 6, 9, 10, 11] hs fun a hs => hK12 _ _ ?_
  refine qsr fun K26 hK26 => ?_
  refine qpu 4 hs fun a hs => ?_
  obtain ⟨v_29, h_28, hm⟩ := bind_t hm
  refine Vk.step (Vk.call (some 29) 74 #[vi x0, .slice A_x1 x1.length c_x1, vi x2] hs (by kernel_rfl) (by kernel_rfl) (by kernel_rfl) ?_)
  refine (visorref19_New.ok k x0 x1 x2 v_29 h_28 κ w (Twire_Machine.own br13x0_18 v_17.1 :: pt b_2 (blk [C.ptr none, C.ptr none, C.slc none 0 0, C.slc none 0 0] 52) :: S) A_x1 c_x1 hs.own.f2).mono ?_
  rintro _ w ⟨br27x0_30, rfl, how⟩
  refine ⟨_, _, _, rfl, how, fun a hs => ?_⟩
  refine qpu 4 hs fun a hs => ?_
  refine qsc 33 3 hs fun a hs => ?_
  refine qpu 1 hs fun a hs => ?_
  refine qsq 37 3 hs fun a hs => ?_
  refine qsa 2 [cp br13x0_18, cp br27x0_30, C.slc none 0 0, C.slc none 0 0] hs rfl fun a w hs => ?_
  refine qpk 1 [6, 7] hs fun a hs => hK26 _ _ ?_
  clear hK26
  refine wp_ret ?_
  replace hs := hs.addRow none 75 3 eC
  replace hs := hs.addRow none 34 1 (eI .u64)
  exact Vk.retCT ([cp br13x0_18, cp br27x0_30, C.slc none (([] : List Cells).length) 0, C.slc none (([] : List Int).length) 0]) (.bool ((v_11.1 == 0) && (v_17.2 == 0))) hs rfl (by kernel_rfl) (sz := 4) (by kernel_rfl) rfl (CellsAt.all 4 rfl) (by kernel_rfl) (hRR ▸ by cases hm; exact (Or.inr ⟨_, rfl, br13x0_18, br27x0_30, none, 0, none, 0, rfl, hs.own.f4.drop.f1.f2.f3⟩))

structure Tvisorlaw20_Pair where
 m : Twire_Machine
 x : Tvisorref19_M
 l : List Cells
 v : List Int
 deriving Inhabited
def Tvisorlaw20_Pair.obj (x : Tvisorlaw20_Pair) (bm : Nat) (bx : Nat) (Al : Option Addr) (cl : Nat) (Av : Option Addr) (cv : Nat) : Cells := [C.ptr (some ⟨bm, 0, none⟩), C.ptr (some ⟨bx, 0, none⟩), C.slc Al x.l.length cl, C.slc Av x.v.length cv]

abbrev visorlaw27_word.R (κ : Ctx) (S : List HP) (x0 : Tvisorlaw20_Pair) (x1 : Int) (b_x0m : Nat) (g_x0m : Nat × Option Addr × Nat × Option Addr × Nat × Option Addr × Nat) (b_x0x : Nat) (g_x0x : Option Addr × Nat × Option Addr × Nat × Option Addr × Nat × Option Addr × Nat) (A_x0l : Option Addr) (c_x0l : Nat) (A_x0v : Option Addr) (c_x0v : Nat) (r : Cells) : Ending → World → Prop := fun e w' => e = .returned (.agg (vals r)) ∧ Ow κ w' (bagL (Twire_Machine.parts b_x0m x0.m g_x0m) :: bagL (Tvisorref19_M.parts κ b_x0x x0.x g_x0x) :: S)
def visorlaw27_word.m (k : Nat) (x0 : Tvisorlaw20_Pair) (x1 : Int) : Option Cells := (bif ((x0.l.length : Nat) : Int) == 0 then some [ci 0, ci 0, ci 0] else (if IntKind.u64.wrap ((x0.l.length : Nat) : Int) ≠ 0 then (if 0 ≤ IntKind.i64.wrap (Int.tmod (IntKind.u64.wrap x1) (IntKind.u64.wrap ((x0.l.length : Nat) : Int))) then (x0.l[(IntKind.i64.wrap (Int.tmod (IntKind.u64.wrap x1) (IntKind.u64.wrap ((x0.l.length : Nat) : Int)))).toNat]?).bind fun e_13 => (if e_13.length = 3 then some e_13 else none) else none) else none))

set_option maxRecDepth 100000 in
set_option maxHeartbeats 4000000 in
theorem visorlaw27_word.ok (k : Nat) (x0 : Tvisorlaw20_Pair) (x1 : Int) (r : Cells) (hm : visorlaw27_word.m k x0 x1 = some r) (κ : Ctx) (w : World) (S : List HP) (b_x0m : Nat) (g_x0m : Nat × Option Addr × Nat × Option Addr × Nat × Option Addr × Nat) (b_x0x : Nat) (g_x0x : Option Addr × Nat × Option Addr × Nat × Option Addr × Nat × Option Addr × Nat) (A_x0l : Option Addr) (c_x0l : Nat) (hx_x0l : Sl κ S A_x0l c_x0l 3 eC x0.l) (A_x0v : Option Addr) (c_x0v : Nat) (hx_x0v : Sl κ S A_x0v c_x0v 1 (eI .u64) x0.v) (ho : Ow κ w (bagL (Twire_Machine.parts b_x0m x0.m g_x0m) :: bagL (Tvisorref19_M.parts κ b_x0x x0.x g_x0x) :: S)) :
  Calls Tryz.prog 42 #[.agg (vals [cp b_x0m, cp b_x0x, C.slc A_x0l x0.l.length c_x0l, C.slc A_x0v x0.v.length c_x0v]), vi x1] w (visorlaw27_word.R κ S x0 x1 b_x0m g_x0m b_x0x g_x0x A_x0l c_x0l A_x0v c_x0v r) := by
 unfold visorlaw27_word.m at hm
 generalize hRR : visorlaw27_word.R κ S x0 x1 b_x0m g_x0m b_x0x g_x0x A_x0l c_x0l A_x0v c_x0v r = RR
 refine qen [(0, .agg (vals [cp b_x0m, cp b_x0x, C.slc A_x0l x0.l.length c_x0l, C.slc A_x0v x0.v.length c_x0v])), (1, vi x1)] Tryz.func42 Tryz.ntmps42 ho fun a hs => ?_
 refine qsr fun K1 hK1 => ?_
 refine qbx 0 52 [cp b_x0m, cp b_x0x, C.slc A_x0l x0.l.length c_x0l, C.slc A_x0v x0.v.length c_x0v] 2 hs fun b_2 w a hs => ?_
 refine qal 75 [ci 0, ci 0, ci 0] 4 hs fun b_3 w a hs => ?_
 refine qpk 0 [1, 2, 4] hs fun a hs => hK1 _ _ ?_
 clear hK1
 refine Vk.seq fun K4 hK4 => ?_
 refine qsr fun K5 hK5 => ?_
 refine qpu 1 hs fun a hs => ?_
 refine qld 1 (C.slc A_x0l x0.l.length c_x0l) hs rfl fun a hs => ?_
 refine qpk 2 [1, 2, 4, 8] hs fun a hs => hK5 _ _ ?_
 clear hK5
 refine qcs (((x0.l.length : Nat) : Int) == 0) hs (fun hb => ?_) fun hb => ?_
 ·replace hm := bif_t hm hb
  refine qsr fun K6 hK6 => ?_
  refine qpu 1 hs fun a hs => ?_
  refine qsa 0 [ci 0, ci 0, ci 0] hs rfl fun a w hs => ?_
  refine qpe 0 [(4, pp b_3)] hs fun a hs => hK6 _ _ ?_
  clear hK6
  refine wp_ret ?_
  exact Vk.retC [ci 0, ci 0, ci 0] hs rfl (by kernel_rfl) (sz := 3) (by kernel_rfl) rfl (CellsAt.all 0 rfl) (hRR ▸ by cases hm; exact ⟨rfl, hs.own.f1.drop.drop⟩)
 ·replace hm := bif_f hm hb
  refine wp_skip ?_
  refine hK4 _ _ ?_
  clear hK4
  refine Vk.seq fun K7 hK7 => ?_
  obtain ⟨C_8, hC_8⟩ := qC hs.own
  refine qdr 12 κ C_8 hs fun w hs hqC_8 => ?_
  have hcl := qO hC_8 hs.own
  refine qdp (fuel := 9) [0, 2, 3, 4] hs hcl hqC_8 fun a hs => ?_
  refine qdl 1 1 (C.slc A_x0l x0.l.length c_x0l) hs hcl hqC_8 hC_8 rfl fun a hs => ?_
  refine qdl 5 1 (C.slc A_x0l x0.l.length c_x0l) hs hcl hqC_8 hC_8 rfl fun a hs => ?_
  refine qdp (fuel := 5) [6, 7] hs hcl hqC_8 fun a hs => ?_
  obtain ⟨h_9, hm⟩ := ite_t hm
  refine qdt 8 (vw (Int.tmod (IntKind.u64.wrap x1) (IntKind.u64.wrap ((x0.l.length : Nat) : Int)))) (op := (.binOp .rem 85 (.tmp 13) (.tmp 17) 85)) hs hcl hqC_8 (fun w hw o ho => by rw [hC_8] at hw; exact run_rem ho (by kernel_rfl) (by kernel_rfl) h_9 _) fun a hs => ?_
  refine qdp (fuel := 3) [9] hs hcl hqC_8 fun a hs => ?_
  obtain ⟨h_10, hm⟩ := ite_t hm
  obtain ⟨e_13, h_11, hm⟩ := bind_t hm
  obtain ⟨b_14, o_15, hA_16, h_12⟩ := Sl.elem hx_x0l h_11
  refine qdt 10 (.pointer (some ⟨b_14, o_15 + (IntKind.i64.wrap (Int.tmod (IntKind.u64.wrap x1) (IntKind.u64.wrap ((x0.l.length : Nat) : Int)))).toNat * 3, none⟩)) (op := (.indexAddr 50 (.tmp 11) (.tmp 19))) hs hcl hqC_8 (fun w hw o ho => by rw [hC_8] at hw; exact run_idxSlc (k := .i64) ho (cap := c_x0l) (len := x0.l.length) ((congrArg (fun A => Value.slice A (x0.l.length) (c_x0l)) hA_16) ▸ (by kernel_rfl)) (by kernel_rfl) (by kernel_rfl) (idx_ok h_10 h_11) _) fun a hs => ?_
  obtain ⟨h_17, hm⟩ := ite_t hm
  refine qdt 11 (.agg (vals e_13)) (op := (.load 75 (.tmp 20))) hs hcl hqC_8 (fun w hw o ho => by rw [hC_8] at hw; exact run_loadN (cs := e_13) ho (by kernel_rfl) (by kernel_rfl) h_17 h_12 _ hw.drop.drop.drop.drop) fun a hs => ?_
  refine qsA 12 0 e_13 hs rfl h_17 rfl fun a w hs => ?_
  refine ⟨fun h => absurd h (by decide), ?_⟩
  replace hs := hs.pick [4] (L' := [(4, pp b_3)]) (by kernel_rfl)
  refine Vk.dDone (by kernel_rfl) ?_
  refine hK7 _ _ ?_
  clear hK7
  refine wp_ret ?_
  exact Vk.retC e_13 hs rfl (by kernel_rfl) (sz := 3) (by kernel_rfl) h_17 (CellsAt.all 0 rfl) (hRR ▸ by cases hm; exact ⟨rfl, hs.own.f1.drop.drop⟩)


abbrev share_none.R (κ : Ctx) (S : List HP) (r : Cells) : Ending → World → Prop := fun e w' => e = .returned (.agg (vals r)) ∧ Ow κ w' (S)
def share_none.m (k : Nat) : Option Cells := some [ci (-1), ci (-1), ci (-1)]

set_option maxRecDepth 100000 in
set_option maxHeartbeats 4000000 in
theorem share_none.ok (k : Nat) (r : Cells) (hm : share_none.m k = some r) (κ : Ctx) (w : World) (S : List HP) (ho : Ow κ w (S)) :
  Calls Tryz.prog 75 #[] w (share_none.R κ S r) := by
 unfold share_none.m at hm
 generalize hRR : share_none.R κ S r = RR
 refine qen [] Tryz.func75 Tryz.ntmps75 ho fun a hs => ?_
 refine qsr fun K1 hK1 => ?_
 refine qal 75 [ci 0, ci 0, ci 0] 0 hs fun b_2 w a hs => ?_
 refine qpe 0 [(0, pp b_2)] hs fun a hs => hK1 _ _ ?_
 clear hK1
 refine qsr fun K3 hK3 => ?_
 refine qpu 2 hs fun a hs => ?_
 refine qsa 0 [ci (-1), ci (-1), ci (-1)] hs rfl fun a w hs => ?_
 refine qpe 0 [(0, pp b_2)] hs fun a hs => hK3 _ _ ?_
 clear hK3
 refine wp_ret ?_
 exact Vk.retC [ci (-1), ci (-1), ci (-1)] hs rfl (by kernel_rfl) (sz := 3) (by kernel_rfl) rfl (CellsAt.all 0 rfl) (hRR ▸ by cases hm; exact ⟨rfl, hs.own.drop⟩)


def wire_Machine_fail.j1 (k : Nat) (p_8 : Twire_Machine) : Option ((Int × Twire_Machine)) := some ((-1), p_8)
abbrev wire_Machine_fail.R (κ : Ctx) (S : List HP) (x0 : Twire_Machine) (x1 : Int) (b_x0 : Nat) (r : (Int × Twire_Machine)) : Ending → World → Prop := fun e w' => e = .returned (vi r.1) ∧ Ow κ w' (Twire_Machine.own b_x0 r.2 :: S)
def wire_Machine_fail.m (k : Nat) (x0 : Twire_Machine) (x1 : Int) : Option (Int × Twire_Machine) := (bif x0.bad == 0 then wire_Machine_fail.j1 k (⟨x0.n, x0.most, x0.base, x0.words, x0.draws, x0.dry, x0.openF, x0.fromF, x1, x0.tape, x0.ops, x0.values, x0.blocks⟩ : Twire_Machine) else wire_Machine_fail.j1 k x0)

set_option maxRecDepth 100000 in
set_option maxHeartbeats 4000000 in
theorem wire_Machine_fail.ok (k : Nat) (x0 : Twire_Machine) (x1 : Int) (r : (Int × Twire_Machine)) (hm : wire_Machine_fail.m k x0 x1 = some r) (κ : Ctx) (w : World) (S : List HP) (b_x0 : Nat) (ho : Ow κ w (Twire_Machine.own b_x0 x0 :: S)) :
  Calls Tryz.prog 105 #[pp b_x0, vi x1] w (wire_Machine_fail.R κ S x0 x1 b_x0 r) := by
 unfold wire_Machine_fail.m at hm
 generalize hRR : wire_Machine_fail.R κ S x0 x1 b_x0 r = RR
 refine qen [(0, pp b_x0), (1, vi x1)] Tryz.func105 Tryz.ntmps105 ho fun a hs => ?_
 refine qse 1 [(0, pp b_x0), (1, vi x1)] hs fun a hs => ?_
 refine Vk.seq fun K2 hK2 => ?_
 have hj2 : ∀ (p_8 : Twire_Machine), wire_Machine_fail.j1 k p_8 = some r → ∀ (a : Act) (w : World), St 14 a w κ [] (Twire_Machine.own b_x0 p_8 :: S) → K2 a w := by
  intro p_8 hm a w hs
  unfold wire_Machine_fail.j1 at hm
  refine hK2 _ _ ?_
  refine qse 1 [(4, vi (-1))] hs fun a hs => ?_
  refine wp_ret ?_
  exact qr1 (vi (-1)) hs rfl hRR (by cases hm; exact ⟨rfl, hs.own⟩)
 refine qsr fun K3 hK3 => ?_
 refine qpu 3 hs fun a hs => ?_
 obtain ⟨g_4, hs⟩ := hs.unbag 0 rfl
 refine qld 0 (ci x0.bad) hs rfl fun a hs => ?_
 refine qpk 1 [0, 1, 9] hs fun a hs => hK3 _ _ ?_
 clear hK3
 refine qcs (x0.bad == 0) hs (fun hb => ?_) fun hb => ?_
 ·replace hm := bif_t hm hb
  refine Vk.region ?_
  refine qpu 4 hs fun a hs => ?_
  refine qst 0 8 (ci x1) hs rfl fun a w hs => ?_
  refine qpe 0 [] hs fun a hs => ?_
  replace hs := hs.bagG (l := Twire_Machine.parts b_x0 (⟨x0.n, x0.most, x0.base, x0.words, x0.draws, x0.dry, x0.openF, x0.fromF, x1, x0.tape, x0.ops, x0.values, x0.blocks⟩ : Twire_Machine) g_4) (S' := S) hs.own
  replace hs := hs.toEx (Twire_Machine.parts b_x0 (⟨x0.n, x0.most, x0.base, x0.words, x0.draws, x0.dry, x0.openF, x0.fromF, x1, x0.tape, x0.ops, x0.values, x0.blocks⟩ : Twire_Machine)) g_4 0 rfl
  exact hj2 (⟨x0.n, x0.most, x0.base, x0.words, x0.draws, x0.dry, x0.openF, x0.fromF, x1, x0.tape, x0.ops, x0.values, x0.blocks⟩ : Twire_Machine) hm _ _ (hs.go [] [0] 1 (by kernel_rfl) (by kernel_rfl) (by kernel_rfl))
 ·replace hm := bif_f hm hb
  refine wp_skip ?_
  replace hs := hs.bagG (l := Twire_Machine.parts b_x0 x0 g_4) (S' := S) hs.own
  replace hs := hs.toEx (Twire_Machine.parts b_x0 x0) g_4 0 rfl
  exact hj2 x0 hm _ _ (hs.go [] [0] 1 (by kernel_rfl) (by kernel_rfl) (by kernel_rfl))


abbrev wire_Machine_Len.R (κ : Ctx) (S : List HP) (x0 : Twire_Machine) (b_x0 : Nat) (g_x0 : Nat × Option Addr × Nat × Option Addr × Nat × Option Addr × Nat) (r : Int) : Ending → World → Prop := fun e w' => e = .returned (vi r) ∧ Ow κ w' (bagL (Twire_Machine.parts b_x0 x0 g_x0) :: S)
def wire_Machine_Len.m (k : Nat) (x0 : Twire_Machine) : Option Int := some (IntKind.i64.wrap (x0.base + ((x0.ops.length : Nat) : Int)))

set_option maxRecDepth 100000 in
set_option maxHeartbeats 4000000 in
theorem wire_Machine_Len.ok (k : Nat) (x0 : Twire_Machine) (r : Int) (hm : wire_Machine_Len.m k x0 = some r) (κ : Ctx) (w : World) (S : List HP) (b_x0 : Nat) (g_x0 : Nat × Option Addr × Nat × Option Addr × Nat × Option Addr × Nat) (ho : Ow κ w (bagL (Twire_Machine.parts b_x0 x0 g_x0) :: S)) :
  Calls Tryz.prog 106 #[pp b_x0] w (wire_Machine_Len.R κ S x0 b_x0 g_x0 r) := by
 unfold wire_Machine_Len.m at hm
 generalize hRR : wire_Machine_Len.R κ S x0 b_x0 g_x0 r = RR
 refine qen [(0, pp b_x0)] Tryz.func106 Tryz.ntmps106 ho fun a hs => ?_
 refine qse 1 [(0, pp b_x0)] hs fun a hs => ?_
 refine Vk.seq fun K2 hK2 => ?_
 refine qsk 2 [0, 4] hs fun a hs => ?_
 refine qcf hs ?_
 refine wp_skip ?_
 refine hK2 _ _ ?_
 clear hK2
 refine Vk.seq fun K4 hK4 => ?_
 replace hs := hs.unbagAt 0 rfl
 obtain ⟨C_8, hC_8⟩ := qC hs.own
 refine qdr 11 κ C_8 hs fun w hs hqC_8 => ?_
 have hcl := qO hC_8 hs.own
 refine qdp (fuel := 5) [0, 1, 2, 4, 5, 6] hs hcl hqC_8 fun a hs => ?_
 refine qdl 3 0 (ci x0.base) hs hcl hqC_8 hC_8 rfl fun a hs => ?_
 refine qdl 7 0 (C.slc g_x0.2.1 x0.ops.length g_x0.2.2.1) hs hcl hqC_8 hC_8 rfl fun a hs => ?_
 refine qdp (fuel := 0) [8, 9, 10] hs hcl hqC_8 fun a hs => ?_
 replace hs := hs.pick [2] (L' := [(2, vi (IntKind.i64.wrap (x0.base + ((x0.ops.length : Nat) : Int))))]) (by kernel_rfl)
 refine Vk.dDone (by kernel_rfl) ?_
 refine hK4 _ _ ?_
 clear hK4
 refine wp_ret ?_
 replace hs := hs.bagG (l := Twire_Machine.parts b_x0 x0 g_x0) (S' := S) hs.own
 exact qr1 (vi (IntKind.i64.wrap (x0.base + ((x0.ops.length : Nat) : Int)))) hs rfl hRR (by cases hm; exact ⟨rfl, hs.own⟩)


abbrev wire_Machine_Begin.R (κ : Ctx) (S : List HP) (x0 : Twire_Machine) (x1 : Int) (b_x0 : Nat) (r : Twire_Machine) : Ending → World → Prop := fun e w' => e = .returned (.tuple #[]) ∧ Ow κ w' (Twire_Machine.own b_x0 r :: S)
def wire_Machine_Begin.m (k : Nat) (x0 : Twire_Machine) (x1 : Int) : Option Twire_Machine := (bif x0.bad != 0 then some x0 else (bif ((x0.openF != 0) || (decide (x1 < 1))) || (decide (x1 > 3)) then (wire_Machine_fail.m k x0 1).bind fun v_13 => some v_13.2 else (wire_Machine_Len.m k x0).bind fun v_16 => some (⟨x0.n, x0.most, x0.base, x0.words, x0.draws, x0.dry, x1, v_16, x0.bad, x0.tape, x0.ops, x0.values, x0.blocks⟩ : Twire_Machine)))

set_option maxRecDepth 100000 in
set_option maxHeartbeats 4000000 in
theorem wire_Machine_Begin.ok (k : Nat) (x0 : Twire_Machine) (x1 : Int) (r : Twire_Machine) (hm : wire_Machine_Begin.m k x0 x1 = some r) (κ : Ctx) (w : World) (S : List HP) (b_x0 : Nat) (ho : Ow κ w (Twire_Machine.own b_x0 x0 :: S)) :
  Calls Tryz.prog 76 #[pp b_x0, vi x1] w (wire_Machine_Begin.R κ S x0 x1 b_x0 r) := by
 unfold wire_Machine_Begin.m at hm
 generalize hRR : wire_Machine_Begin.R κ S x0 x1 b_x0 r = RR
 refine qen [(0, pp b_x0), (1, vi x1)] Tryz.func76 Tryz.ntmps76 ho fun a hs => ?_
 refine Vk.seq fun K1 hK1 => ?_
 refine wp_block ?_
 refine qsr fun K2 hK2 => ?_
 refine qpu 6 hs fun a hs => ?_
 obtain ⟨g_3, hs⟩ := hs.unbag 0 rfl
 refine qld 0 (ci x0.bad) hs rfl fun a hs => ?_
 refine qpk 3 [0, 1, 4] hs fun a hs => hK2 _ _ ?_
 clear hK2
 refine qcs (x0.bad != 0) hs (fun hb => ?_) fun hb => ?_
 ·replace hm := bif_t hm hb
  refine wp_ret ?_
  replace hs := hs.bagG (l := Twire_Machine.parts b_x0 x0 g_3) (S' := S) hs.own
  replace hs := hs.toEx (Twire_Machine.parts b_x0 x0) g_3 0 rfl
  exact qr0 hs rfl hRR (by cases hm; exact ⟨rfl, hs.own⟩)
 ·replace hm := bif_f hm hb
  refine qsr fun K7 hK7 => ?_
  refine qpu 3 hs fun a hs => ?_
  refine qld 0 (ci x0.openF) hs rfl fun a hs => ?_
  refine qpu 2 hs fun a hs => ?_
  refine qsc 20 3 hs fun a hs => ?_
  refine qpu 1 hs fun a hs => ?_
  refine qsc 24 3 hs fun a hs => ?_
  refine qpk 1 [0, 1, 14] hs fun a hs => hK7 _ _ ?_
  clear hK7
  refine qcs (((x0.openF != 0) || (decide (x1 < 1))) || (decide (x1 > 3))) hs (fun hb => ?_) fun hb => ?_
  ·replace hm := bif_t hm hb
   refine qsr fun K10 hK10 => ?_
   refine qpu 1 hs fun a hs => ?_
   replace hs := hs.bagG (l := Twire_Machine.parts b_x0 x0 g_3) (S' := S) hs.own
   replace hs := hs.toEx (Twire_Machine.parts b_x0 x0) g_3 0 rfl
   obtain ⟨v_13, h_12, hm⟩ := bind_t hm
   refine qcl (wire_Machine_fail.ok _ _ _ _ h_12 _ _ _ b_x0 hs.own) hs fun w a hs => ?_
   refine qpe 0 [] hs fun a hs => hK10 _ _ ?_
   clear hK10
   refine wp_ret ?_
   exact qr0 hs rfl hRR (by cases hm; exact ⟨rfl, hs.own⟩)
  ·replace hm := bif_f hm hb
   refine wp_skip ?_
   refine hK1 _ _ ?_
   clear hK1
   refine Vk.region ?_
   refine qpu 4 hs fun a hs => ?_
   replace hs := hs.bagG (l := Twire_Machine.parts b_x0 x0 g_3) (S' := S) hs.own
   obtain ⟨v_16, h_15, hm⟩ := bind_t hm
   refine qcl (wire_Machine_Len.ok _ _ _ h_15 _ _ _ b_x0 g_3 hs.own) hs fun w a hs => ?_
   replace hs := hs.unbagAt 0 rfl
   refine qpu 2 hs fun a hs => ?_
   refine qst 0 6 (ci x1) hs rfl fun a w hs => ?_
   refine qpu 2 hs fun a hs => ?_
   refine qst 0 7 (ci v_16) hs rfl fun a w hs => ?_
   refine qpe 0 [] hs fun a hs => ?_
   replace hs := hs.bagG (l := Twire_Machine.parts b_x0 (⟨x0.n, x0.most, x0.base, x0.words, x0.draws, x0.dry, x1, v_16, x0.bad, x0.tape, x0.ops, x0.values, x0.blocks⟩ : Twire_Machine) g_3) (S' := S) hs.own
   replace hs := hs.toEx (Twire_Machine.parts b_x0 (⟨x0.n, x0.most, x0.base, x0.words, x0.draws, x0.dry, x1, v_16, x0.bad, x0.tape, x0.ops, x0.values, x0.blocks⟩ : Twire_Machine)) g_3 0 rfl
   exact qe0 hs rfl hRR (by cases hm; exact ⟨rfl, hs.own⟩)


abbrev wire_Machine_N.R (κ : Ctx) (S : List HP) (x0 : Twire_Machine) (b_x0 : Nat) (g_x0 : Nat × Option Addr × Nat × Option Addr × Nat × Option Addr × Nat) (r : Int) : Ending → World → Prop := fun e w' => e = .returned (vi r) ∧ Ow κ w' (bagL (Twire_Machine.parts b_x0 x0 g_x0) :: S)
def wire_Machine_N.m (k : Nat) (x0 : Twire_Machine) : Option Int := some x0.n

set_option maxRecDepth 100000 in
set_option maxHeartbeats 4000000 in
theorem wire_Machine_N.ok (k : Nat) (x0 : Twire_Machine) (r : Int) (hm : wire_Machine_N.m k x0 = some r) (κ : Ctx) (w : World) (S : List HP) (b_x0 : Nat) (g_x0 : Nat × Option Addr × Nat × Option Addr × Nat × Option Addr × Nat) (ho : Ow κ w (bagL (Twire_Machine.parts b_x0 x0 g_x0) :: S)) :
  Calls Tryz.prog 77 #[pp b_x0] w (wire_Machine_N.R κ S x0 b_x0 g_x0 r) := by
 unfold wire_Machine_N.m at hm
 generalize hRR : wire_Machine_N.R κ S x0 b_x0 g_x0 r = RR
 refine qen [(0, pp b_x0)] Tryz.func77 Tryz.ntmps77 ho fun a hs => ?_
 refine qse 1 [(0, pp b_x0)] hs fun a hs => ?_
 refine Vk.seq fun K2 hK2 => ?_
 refine qsk 2 [0, 4] hs fun a hs => ?_
 refine qcf hs ?_
 refine wp_skip ?_
 refine hK2 _ _ ?_
 clear hK2
 refine qsr fun K4 hK4 => ?_
 refine qpu 3 hs fun a hs => ?_
 replace hs := hs.unbagAt 0 rfl
 refine qld 0 (ci x0.n) hs rfl fun a hs => ?_
 refine qpe 1 [(2, vi x0.n)] hs fun a hs => hK4 _ _ ?_
 clear hK4
 refine wp_ret ?_
 replace hs := hs.bagG (l := Twire_Machine.parts b_x0 x0 g_x0) (S' := S) hs.own
 exact qr1 (vi x0.n) hs rfl hRR (by cases hm; exact ⟨rfl, hs.own⟩)


abbrev op_is.R (κ : Ctx) (S : List HP) (x0 : Int) (r : Bool) : Ending → World → Prop := fun e w' => e = .returned (.bool r) ∧ Ow κ w' (S)
def op_is.m (k : Nat) (x0 : Int) : Option Bool := some ((decide (x0 ≥ 1)) && (decide (x0 ≤ 12)))

set_option maxRecDepth 100000 in
set_option maxHeartbeats 4000000 in
theorem op_is.ok (k : Nat) (x0 : Int) (r : Bool) (hm : op_is.m k x0 = some r) (κ : Ctx) (w : World) (S : List HP) (ho : Ow κ w (S)) :
  Calls Tryz.prog 113 #[vi x0] w (op_is.R κ S x0 r) := by
 unfold op_is.m at hm
 generalize hRR : op_is.R κ S x0 r = RR
 refine qen [(0, vi x0)] Tryz.func113 Tryz.ntmps113 ho fun a hs => ?_
 refine qse 1 [(0, vi x0)] hs fun a hs => ?_
 refine qsr fun K2 hK2 => ?_
 refine qpu 3 hs fun a hs => ?_
 refine qsc 5 3 hs fun a hs => ?_
 refine qpk 1 [2] hs fun a hs => hK2 _ _ ?_
 clear hK2
 refine wp_ret ?_
 exact qr1 (.bool ((decide (x0 ≥ 1)) && (decide (x0 ≤ 12)))) hs rfl hRR (by cases hm; exact ⟨rfl, hs.own⟩)


def op_Regs.j2 (k : Nat) (x0 : Int) (x1 : Int) (p_19 : Bool) : Option (Int) := (bif p_19 then some 1 else (bif x0 == 12 then some x1 else some 0))
def op_Regs.j1 (k : Nat) (x0 : Int) (x1 : Int) (p_12 : Bool) : Option (Int) := (bif p_12 then some 2 else (bif x0 == 6 then op_Regs.j2 k x0 x1 (x0 == 6) else (bif x0 == 8 then op_Regs.j2 k x0 x1 (x0 == 8) else (bif x0 == 9 then op_Regs.j2 k x0 x1 (x0 == 9) else (bif x0 == 10 then op_Regs.j2 k x0 x1 (x0 == 10) else op_Regs.j2 k x0 x1 (x0 == 11))))))
abbrev op_Regs.R (κ : Ctx) (S : List HP) (x0 : Int) (x1 : Int) (r : Int) : Ending → World → Prop := fun e w' => e = .returned (vi r) ∧ Ow κ w' (S)
def op_Regs.m (k : Nat) (x0 : Int) (x1 : Int) : Option Int := (bif (x1 != 2) && (x1 != 3) then some 0 else (bif x0 == 2 then some (IntKind.i64.wrap (x1 - 1)) else (bif x0 == 5 then op_Regs.j1 k x0 x1 (x0 == 5) else op_Regs.j1 k x0 x1 (x0 == 7))))

set_option maxRecDepth 100000 in
set_option maxHeartbeats 4000000 in
theorem op_Regs.ok (k : Nat) (x0 : Int) (x1 : Int) (r : Int) (hm : op_Regs.m k x0 x1 = some r) (κ : Ctx) (w : World) (S : List HP) (ho : Ow κ w (S)) :
  Calls Tryz.prog 114 #[vi x0, vi x1] w (op_Regs.R κ S x0 x1 r) := by
 unfold op_Regs.m at hm
 generalize hRR : op_Regs.R κ S x0 x1 r = RR
 refine qen [(0, vi x0), (1, vi x1)] Tryz.func114 Tryz.ntmps114 ho fun a hs => ?_
 refine qse 1 [(0, vi x0), (1, vi x1)] hs fun a hs => ?_
 refine Vk.seq fun K2 hK2 => ?_
 refine qsr fun K3 hK3 => ?_
 refine qpu 3 hs fun a hs => ?_
 refine qsc 7 3 hs fun a hs => ?_
 refine qpk 0 [0, 1, 10] hs fun a hs => hK3 _ _ ?_
 clear hK3
 refine qcs ((x1 != 2) && (x1 != 3)) hs (fun hb => ?_) fun hb => ?_
 ·replace hm := bif_t hm hb
  refine qse 1 [(4, vi 0)] hs fun a hs => ?_
  refine wp_ret ?_
  exact qr1 (vi 0) hs rfl hRR (by cases hm; exact ⟨rfl, hs.own⟩)
 ·replace hm := bif_f hm hb
  refine wp_skip ?_
  refine hK2 _ _ ?_
  clear hK2
  refine Vk.seq fun K6 hK6 => ?_
  refine qse 1 [(1, vi x1), (11, vi x0)] hs fun a hs => ?_
  refine wp_block ?_
  refine qsk 2 [1, 11, 12] hs fun a hs => ?_
  refine qcs (x0 == 2) hs (fun hb => ?_) fun hb => ?_
  ·replace hm := bif_t hm hb
   refine qsk 3 [4] hs fun a hs => ?_
   refine wp_ret ?_
   exact qr1 (vi (IntKind.i64.wrap (x1 - 1))) hs rfl hRR (by cases hm; exact ⟨rfl, hs.own⟩)
  ·replace hm := bif_f hm hb
   refine Vk.seq fun K10 hK10 => ?_
   have hj10 : ∀ (p_12 : Bool), op_Regs.j1 k x0 x1 p_12 = some r → ∀ (a : Act) (w : World), St 28 a w κ [(1, vi x1), (11, vi x0), (16, .bool p_12)] (S) → K10 a w := by
    intro p_12 hm a w hs
    unfold op_Regs.j1 at hm
    refine hK10 _ _ ?_
    refine qcs (p_12) hs (fun hb => ?_) fun hb => ?_
    ·replace hm := bif_t hm hb
     refine qse 1 [(4, vi 2)] hs fun a hs => ?_
     refine wp_ret ?_
     exact qr1 (vi 2) hs rfl hRR (by cases hm; exact ⟨rfl, hs.own⟩)
    ·replace hm := bif_f hm hb
     refine Vk.seq fun K14 hK14 => ?_
     have hj14 : ∀ (p_19 : Bool), op_Regs.j2 k x0 x1 p_19 = some r → ∀ (a : Act) (w : World), St 28 a w κ [(1, vi x1), (11, vi x0), (19, .bool p_19)] (S) → K14 a w := by
      intro p_19 hm a w hs
      unfold op_Regs.j2 at hm
      refine hK14 _ _ ?_
      refine qcs (p_19) hs (fun hb => ?_) fun hb => ?_
      ·replace hm := bif_t hm hb
       refine qse 1 [(4, vi 1)] hs fun a hs => ?_
       refine wp_ret ?_
       exact qr1 (vi 1) hs rfl hRR (by cases hm; exact ⟨rfl, hs.own⟩)
      ·replace hm := bif_f hm hb
       refine qsk 2 [1, 25] hs fun a hs => ?_
       refine qcs (x0 == 12) hs (fun hb => ?_) fun hb => ?_
       ·replace hm := bif_t hm hb
        refine qse 2 [(4, vi x1)] hs fun a hs => ?_
        refine wp_ret ?_
        exact qr1 (vi x1) hs rfl hRR (by cases hm; exact ⟨rfl, hs.own⟩)
       ·replace hm := bif_f hm hb
        refine wp_skip ?_
        refine hK6 _ _ ?_
        clear hK6
        refine qse 1 [(4, vi 0)] hs fun a hs => ?_
        refine wp_ret ?_
        exact qr1 (vi 0) hs rfl hRR (by cases hm; exact ⟨rfl, hs.own⟩)
     refine qse 2 [(1, vi x1), (11, vi x0), (19, .bool (x0 == 6))] hs fun a hs => ?_
     refine qcs (x0 == 6) hs (fun hb => ?_) fun hb => ?_
     ·replace hm := bif_t hm hb
      refine wp_skip ?_
      exact hj14 (x0 == 6) hm _ _ (hs.go [1, 11, 19] [] 0 (by kernel_rfl) (by kernel_rfl) (by kernel_rfl))
     ·replace hm := bif_f hm hb
      refine qse 2 [(1, vi x1), (11, vi x0), (19, .bool (x0 == 8))] hs fun a hs => ?_
      refine qcs (x0 == 8) hs (fun hb => ?_) fun hb => ?_
      ·replace hm := bif_t hm hb
       refine wp_skip ?_
       exact hj14 (x0 == 8) hm _ _ (hs.go [1, 11, 19] [] 0 (by kernel_rfl) (by kernel_rfl) (by kernel_rfl))
      ·replace hm := bif_f hm hb
       refine qse 2 [(1, vi x1), (11, vi x0), (19, .bool (x0 == 9))] hs fun a hs => ?_
       refine qcs (x0 == 9) hs (fun hb => ?_) fun hb => ?_
       ·replace hm := bif_t hm hb
        refine wp_skip ?_
        exact hj14 (x0 == 9) hm _ _ (hs.go [1, 11, 19] [] 0 (by kernel_rfl) (by kernel_rfl) (by kernel_rfl))
       ·replace hm := bif_f hm hb
        refine qse 2 [(1, vi x1), (11, vi x0), (19, .bool (x0 == 10))] hs fun a hs => ?_
        refine qcs (x0 == 10) hs (fun hb => ?_) fun hb => ?_
        ·replace hm := bif_t hm hb
         refine wp_skip ?_
         exact hj14 (x0 == 10) hm _ _ (hs.go [1, 11, 19] [] 0 (by kernel_rfl) (by kernel_rfl) (by kernel_rfl))
        ·replace hm := bif_f hm hb
         refine Vk.region ?_
         refine qpe 2 [(1, vi x1), (11, vi x0), (19, .bool (x0 == 11))] hs fun a hs => ?_
         exact hj14 (x0 == 11) hm _ _ (hs.go [1, 11, 19] [] 0 (by kernel_rfl) (by kernel_rfl) (by kernel_rfl))
   refine qse 2 [(1, vi x1), (11, vi x0), (16, .bool (x0 == 5))] hs fun a hs => ?_
   refine qcs (x0 == 5) hs (fun hb => ?_) fun hb => ?_
   ·replace hm := bif_t hm hb
    refine wp_skip ?_
    exact hj10 (x0 == 5) hm _ _ (hs.go [1, 11, 16] [] 0 (by kernel_rfl) (by kernel_rfl) (by kernel_rfl))
   ·replace hm := bif_f hm hb
    refine Vk.region ?_
    refine qpe 2 [(1, vi x1), (11, vi x0), (16, .bool (x0 == 7))] hs fun a hs => ?_
    exact hj10 (x0 == 7) hm _ _ (hs.go [1, 11, 16] [] 0 (by kernel_rfl) (by kernel_rfl) (by kernel_rfl))


def op_constant.j2 (k : Nat) (x0 : Tapi_Op) (p_15 : Bool) : Option (Bool) := (bif p_15 then some true else some (x0.c == 0))
def op_constant.j1 (k : Nat) (x0 : Tapi_Op) (p_8 : Bool) : Option (Bool) := (bif p_8 then some (decide (x0.c < 64)) else (bif x0.kind == 2 then some (decide (x0.c < 1048576)) else (bif x0.kind == 3 then op_constant.j2 k x0 (x0.kind == 3) else (bif x0.kind == 4 then op_constant.j2 k x0 (x0.kind == 4) else op_constant.j2 k x0 (x0.kind == 8)))))
abbrev op_constant.R (κ : Ctx) (S : List HP) (x0 : Tapi_Op) (r : Bool) : Ending → World → Prop := fun e w' => e = .returned (.bool r) ∧ Ow κ w' (S)
def op_constant.m (k : Nat) (x0 : Tapi_Op) : Option Bool := (bif x0.kind == 9 then op_constant.j1 k x0 (x0.kind == 9) else (bif x0.kind == 10 then op_constant.j1 k x0 (x0.kind == 10) else op_constant.j1 k x0 (x0.kind == 11)))

set_option maxRecDepth 100000 in
set_option maxHeartbeats 4000000 in
theorem op_constant.ok (k : Nat) (x0 : Tapi_Op) (r : Bool) (hm : op_constant.m k x0 = some r) (κ : Ctx) (w : World) (S : List HP) (ho : Ow κ w (S)) :
  Calls Tryz.prog 115 #[.agg (vals [ci x0.kind, ci x0.dom, ci x0.a, ci x0.b, ci x0.d, cw x0.c])] w (op_constant.R κ S x0 r) := by
 unfold op_constant.m at hm
 generalize hRR : op_constant.R κ S x0 r = RR
 refine qen [(0, .agg (vals [ci x0.kind, ci x0.dom, ci x0.a, ci x0.b, ci x0.d, cw x0.c]))] Tryz.func115 Tryz.ntmps115 ho fun a hs => ?_
 refine qsr fun K1 hK1 => ?_
 refine qbx 0 80 [ci x0.kind, ci x0.dom, ci x0.a, ci x0.b, ci x0.d, cw x0.c] 1 hs fun b_2 w a hs => ?_
 refine qpe 1 [(1, pp b_2)] hs fun a hs => hK1 _ _ ?_
 clear hK1
 refine Vk.seq fun K3 hK3 => ?_
 refine qsr fun K4 hK4 => ?_
 refine qpu 1 hs fun a hs => ?_
 refine qld 0 (ci x0.kind) hs rfl fun a hs => ?_
 refine qpk 0 [1, 4] hs fun a hs => hK4 _ _ ?_
 clear hK4
 refine wp_block ?_
 refine Vk.seq fun K5 hK5 => ?_
 have hj5 : ∀ (p_8 : Bool), op_constant.j1 k x0 p_8 = some r → ∀ (a : Act) (w : World), St 24 a w κ [(1, pp b_2), (4, vi x0.kind), (5, .bool p_8)] (pt b_2 (blk (Tapi_Op.cells x0) 80) :: S) → K5 a w := by
  intro p_8 hm a w hs
  unfold op_constant.j1 at hm
  refine hK5 _ _ ?_
  refine qcs (p_8) hs (fun hb => ?_) fun hb => ?_
  ·replace hm := bif_t hm hb
   refine qsr fun K9 hK9 => ?_
   refine qpu 1 hs fun a hs => ?_
   refine qld 0 (cw x0.c) hs rfl fun a hs => ?_
   refine qpk 2 [2] hs fun a hs => hK9 _ _ ?_
   clear hK9
   refine wp_ret ?_
   exact qr1 (.bool (decide (x0.c < 64))) hs rfl hRR (by cases hm; exact ⟨rfl, hs.own.drop⟩)
  ·replace hm := bif_f hm hb
   refine qsk 2 [1, 4, 12] hs fun a hs => ?_
   refine qcs (x0.kind == 2) hs (fun hb => ?_) fun hb => ?_
   ·replace hm := bif_t hm hb
    refine qsr fun K11 hK11 => ?_
    refine qpu 1 hs fun a hs => ?_
    refine qld 0 (cw x0.c) hs rfl fun a hs => ?_
    refine qpk 2 [2] hs fun a hs => hK11 _ _ ?_
    clear hK11
    refine wp_ret ?_
    exact qr1 (.bool (decide (x0.c < 1048576))) hs rfl hRR (by cases hm; exact ⟨rfl, hs.own.drop⟩)
   ·replace hm := bif_f hm hb
    refine Vk.seq fun K12 hK12 => ?_
    have hj12 : ∀ (p_15 : Bool), op_constant.j2 k x0 p_15 = some r → ∀ (a : Act) (w : World), St 24 a w κ [(1, pp b_2), (17, .bool p_15)] (pt b_2 (blk (Tapi_Op.cells x0) 80) :: S) → K12 a w := by
     intro p_15 hm a w hs
     unfold op_constant.j2 at hm
     refine hK12 _ _ ?_
     refine qcs (p_15) hs (fun hb => ?_) fun hb => ?_
     ·replace hm := bif_t hm hb
      refine qse 1 [(2, .bool true)] hs fun a hs => ?_
      refine wp_ret ?_
      exact qr1 (.bool true) hs rfl hRR (by cases hm; exact ⟨rfl, hs.own.drop⟩)
     ·replace hm := bif_f hm hb
      refine wp_skip ?_
      refine hK3 _ _ ?_
      clear hK3
      refine qsr fun K17 hK17 => ?_
      refine qpu 1 hs fun a hs => ?_
      refine qld 0 (cw x0.c) hs rfl fun a hs => ?_
      refine qpe 2 [(2, .bool (x0.c == 0))] hs fun a hs => hK17 _ _ ?_
      clear hK17
      refine wp_ret ?_
      exact qr1 (.bool (x0.c == 0)) hs rfl hRR (by cases hm; exact ⟨rfl, hs.own.drop⟩)
    refine qse 2 [(1, pp b_2), (4, vi x0.kind), (17, .bool (x0.kind == 3))] hs fun a hs => ?_
    refine qcs (x0.kind == 3) hs (fun hb => ?_) fun hb => ?_
    ·replace hm := bif_t hm hb
     refine wp_skip ?_
     exact hj12 (x0.kind == 3) hm _ _ (hs.go [1, 17] [0] 1 (by kernel_rfl) (by kernel_rfl) (by kernel_rfl))
    ·replace hm := bif_f hm hb
     refine qse 2 [(1, pp b_2), (4, vi x0.kind), (17, .bool (x0.kind == 4))] hs fun a hs => ?_
     refine qcs (x0.kind == 4) hs (fun hb => ?_) fun hb => ?_
     ·replace hm := bif_t hm hb
      refine wp_skip ?_
      exact hj12 (x0.kind == 4) hm _ _ (hs.go [1, 17] [0] 1 (by kernel_rfl) (by kernel_rfl) (by kernel_rfl))
     ·replace hm := bif_f hm hb
      refine Vk.region ?_
      refine qpe 2 [(1, pp b_2), (17, .bool (x0.kind == 8))] hs fun a hs => ?_
      exact hj12 (x0.kind == 8) hm _ _ (hs.go [1, 17] [0] 1 (by kernel_rfl) (by kernel_rfl) (by kernel_rfl))
 refine qse 2 [(1, pp b_2), (4, vi x0.kind), (5, .bool (x0.kind == 9))] hs fun a hs => ?_
 refine qcs (x0.kind == 9) hs (fun hb => ?_) fun hb => ?_
 ·replace hm := bif_t hm hb
  refine wp_skip ?_
  exact hj5 (x0.kind == 9) hm _ _ (hs.go [1, 4, 5] [0] 1 (by kernel_rfl) (by kernel_rfl) (by kernel_rfl))
 ·replace hm := bif_f hm hb
  refine qse 2 [(1, pp b_2), (4, vi x0.kind), (5, .bool (x0.kind == 10))] hs fun a hs => ?_
  refine qcs (x0.kind == 10) hs (fun hb => ?_) fun hb => ?_
  ·replace hm := bif_t hm hb
   refine wp_skip ?_
   exact hj5 (x0.kind == 10) hm _ _ (hs.go [1, 4, 5] [0] 1 (by kernel_rfl) (by kernel_rfl) (by kernel_rfl))
  ·replace hm := bif_f hm hb
   refine Vk.region ?_
   refine qpe 2 [(1, pp b_2), (4, vi x0.kind), (5, .bool (x0.kind == 11))] hs fun a hs => ?_
   exact hj5 (x0.kind == 11) hm _ _ (hs.go [1, 4, 5] [0] 1 (by kernel_rfl) (by kernel_rfl) (by kernel_rfl))


def op_Right.l1 (x0 : Tapi_Op) (x1 : Int) (v_17 : Int) : Nat → Int → Option (Sum (Bool) (Unit))
 | 0, _ => none
 | k + 1, q_21 => (bif decide (q_21 < 3) then (if 0 ≤ q_21 ∧ q_21 < 3 then (getI .i64 [ci x0.a, ci x0.b, ci x0.d] q_21.toNat).bind fun v_28 => (bif decide (q_21 < v_17) then (bif (decide (v_28 < 0)) || (decide (v_28 ≥ x1)) then some (.inl false) else (bif (decide (q_21 ≥ v_17)) && (v_28 != (-1)) then some (.inl false) else op_Right.l1 x0 x1 v_17 k (IntKind.i64.wrap (q_21 + 1)))) else (bif (decide (q_21 ≥ v_17)) && (v_28 != (-1)) then some (.inl false) else op_Right.l1 x0 x1 v_17 k (IntKind.i64.wrap (q_21 + 1)))) else none) else some (.inr ()))
def op_Right.j1 (k : Nat) (x0 : Tapi_Op) (x1 : Int) (x2 : Int) (p_12 : Bool) : Option (Bool) := (bif p_12 then some false else (op_Regs.m k x0.kind x2).bind fun v_17 => (op_Right.l1 x0 x1 v_17 k 0).bind fun x => match x with | .inl v => some v | .inr () => (op_constant.m k x0).bind fun v_41 => some v_41)
abbrev op_Right.R (κ : Ctx) (S : List HP) (x0 : Tapi_Op) (x1 : Int) (x2 : Int) (r : Bool) : Ending → World → Prop := fun e w' => e = .returned (.bool r) ∧ Ow κ w' (S)
def op_Right.m (k : Nat) (x0 : Tapi_Op) (x1 : Int) (x2 : Int) : Option Bool := (bif (x2 != 2) && (x2 != 3) then op_Right.j1 k x0 x1 x2 true else (op_is.m k x0.kind).bind fun v_8 => (bif ((!v_8) || (decide (x0.dom < (-1)))) || (decide (x0.dom ≥ x2)) then op_Right.j1 k x0 x1 x2 true else op_Right.j1 k x0 x1 x2 ((x0.kind == 12) && (decide (x0.dom ≥ 0)))))

set_option maxRecDepth 100000 in
set_option maxHeartbeats 4000000 in
theorem op_Right.ok (k : Nat) (x0 : Tapi_Op) (x1 : Int) (x2 : Int) (r : Bool) (hm : op_Right.m k x0 x1 x2 = some r) (κ : Ctx) (w : World) (S : List HP) (ho : Ow κ w (S)) :
  Calls Tryz.prog 96 #[.agg (vals [ci x0.kind, ci x0.dom, ci x0.a, ci x0.b, ci x0.d, cw x0.c]), vi x1, vi x2] w (op_Right.R κ S x0 x1 x2 r) := by
 unfold op_Right.m at hm
 generalize hRR : op_Right.R κ S x0 x1 x2 r = RR
 refine qen [(0, .agg (vals [ci x0.kind, ci x0.dom, ci x0.a, ci x0.b, ci x0.d, cw x0.c])), (1, vi x1), (2, vi x2)] Tryz.func96 Tryz.ntmps96 ho fun a hs => ?_
 refine qsr fun K1 hK1 => ?_
 refine qbx 0 80 [ci x0.kind, ci x0.dom, ci x0.a, ci x0.b, ci x0.d, cw x0.c] 3 hs fun b_2 w a hs => ?_
 refine qpk 1 [1, 2, 3] hs fun a hs => hK1 _ _ ?_
 clear hK1
 refine Vk.seq fun K3 hK3 => ?_
 refine Vk.seq fun K4 hK4 => ?_
 have hj4 : ∀ (p_12 : Bool), op_Right.j1 k x0 x1 x2 p_12 = some r → ∀ (a : Act) (w : World), St 82 a w κ [(1, vi x1), (2, vi x2), (3, pp b_2), (42, .bool p_12)] (pt b_2 (blk (Tapi_Op.cells x0) 80) :: S) → K4 a w := by
  intro p_12 hm a w hs
  unfold op_Right.j1 at hm
  refine hK4 _ _ ?_
  refine qcs (p_12) hs (fun hb => ?_) fun hb => ?_
  ·replace hm := bif_t hm hb
   refine qse 1 [(6, .bool false)] hs fun a hs => ?_
   refine wp_ret ?_
   exact qr1 (.bool false) hs rfl hRR (by cases hm; exact ⟨rfl, hs.own.drop⟩)
  ·replace hm := bif_f hm hb
   refine wp_skip ?_
   refine hK3 _ _ ?_
   clear hK3
   refine qsr fun K14 hK14 => ?_
   refine qpu 1 hs fun a hs => ?_
   refine qld 0 (ci x0.kind) hs rfl fun a hs => ?_
   refine qpu 1 hs fun a hs => ?_
   obtain ⟨v_17, h_16, hm⟩ := bind_t hm
   refine qcl (op_Regs.ok _ _ _ _ h_16 _ _ (pt b_2 (blk (Tapi_Op.cells x0) 80) :: S) hs.own) hs fun w a hs => ?_
   refine qpk 1 [1, 3, 7] hs fun a hs => hK14 _ _ ?_
   clear hK14
   refine Vk.seq fun K18 hK18 => ?_
   refine qsr fun K19 hK19 => ?_
   refine qpu 1 hs fun a hs => ?_
   refine qld 0 (ci x0.a) hs rfl fun a hs => ?_
   refine qpu 1 hs fun a hs => ?_
   refine qld 0 (ci x0.b) hs rfl fun a hs => ?_
   refine qpu 1 hs fun a hs => ?_
   refine qld 0 (ci x0.d) hs rfl fun a hs => ?_
   refine qpk 2 [1, 3, 7, 53, 54] hs fun a hs => hK19 _ _ ?_
   clear hK19
   refine wp_block ?_
   obtain ⟨r20, hl20, hm⟩ := bind_t hm
   have hx20 : r20 = Sum.inr () → ∀ (a : Act) (w : World), St 82 a w κ [(3, pp b_2)] (pt b_2 (blk (Tapi_Op.cells x0) 80) :: S) → K18 a w := by
    intro he a w hs
    subst r20
    refine hK18 _ _ ?_
    clear hK18
    refine qsr fun K38 hK38 => ?_
    refine qln 0 ([ci x0.kind, ci x0.dom, ci x0.a, ci x0.b, ci x0.d, cw x0.c]) hs rfl fun a hs => ?_
    obtain ⟨v_41, h_40, hm⟩ := bind_t hm
    refine qcl (op_constant.ok _ _ _ h_40 _ _ (pt b_2 (blk (Tapi_Op.cells x0) 80) :: S) hs.own) hs fun w a hs => ?_
    refine qpe 1 [(6, .bool v_41)] hs fun a hs => hK38 _ _ ?_
    clear hK38
    refine wp_ret ?_
    exact qr1 (.bool v_41) hs rfl hRR (by cases hm; exact ⟨rfl, hs.own.drop⟩)
   have hret20 : ∀ v, r20 = Sum.inl v → v = r := by intro v he; subst r20; exact Option.some.inj hm
   refine Vk.loopBy (fun k (s : Int) a w => op_Right.l1 x0 x1 v_17 k s = some r20 ∧ St 82 a w κ [(1, vi x1), (3, pp b_2), (7, vi v_17), (53, .agg (vals [ci x0.a, ci x0.b, ci x0.d])), (54, vi s)] (pt b_2 (blk (Tapi_Op.cells x0) 80) :: S)) k 0 ⟨hl20, hs.go [1, 3, 7, 53, 54] [0] 1 (by kernel_rfl) (by kernel_rfl) (by kernel_rfl)⟩ (fun s a w h => by obtain ⟨h1, _⟩ := h; simp [op_Right.l1] at h1) (fun k KL20 ih q_21 a w h => ?_)
   obtain ⟨hm, hs⟩ := h
   try dsimp only at hm hs
   rw [op_Right.l1] at hm
   refine qsk 1 [1, 3, 7, 53, 54, 55] hs fun a hs => ?_
   refine Vk.seq fun K23 hK23 => ?_
   refine qcs (decide (q_21 < 3)) hs (fun hb => ?_) fun hb => ?_
   ·replace hm := bif_t hm hb
    refine wp_skip ?_
    refine hK23 _ _ ?_
    clear hK23
    refine Vk.seq fun K24 hK24 => ?_
    refine wp_block ?_
    refine qsr fun K25 hK25 => ?_
    refine qpu 1 hs fun a hs => ?_
    obtain ⟨h_26, hm⟩ := ite_t hm
    obtain ⟨v_28, h_27, hm⟩ := bind_t hm
    refine qva (vi v_28) (op := (.index 73 (.tmp 53) (.tmp 54))) hs (fun o ho => run_idxVal (k := .i64) (cs := [ci x0.a, ci x0.b, ci x0.d]) (c := ci v_28) ho (by kernel_rfl) (by kernel_rfl) (len := 3) (et := 3) (by kernel_rfl) (by kernel_rfl) (by kernel_rfl) (by kernel_rfl) h_26 (getI_some h_27) _) fun a hs => ?_
    refine qpk 2 [1, 3, 7, 8, 9, 53, 54] hs fun a hs => hK25 _ _ ?_
    clear hK25
    refine qsr fun K29 hK29 => ?_
    refine qpu 4 hs fun a hs => ?_
    rcases Bool.eq_false_or_eq_true (decide (q_21 < v_17)) with hb | hb
    ·replace hm := bif_t hm hb
     replace hs := hs.known (t := 61) hb (by kernel_rfl)
     refine qpu 3 hs fun a hs => ?_
     refine qsc 64 4 hs fun a hs => ?_
     refine qpu 2 hs fun a hs => ?_
     rcases Bool.eq_false_or_eq_true ((decide (v_28 < 0)) || (decide (v_28 ≥ x1))) with hb | hb
     ·replace hm := bif_t hm hb
      replace hs := hs.known (t := 70) hb (by kernel_rfl)
      refine qpk 8 [1, 3, 7, 53, 54, 62, 63, 64, 68, 78] hs fun a hs => hK29 _ _ ?_
      refine qct hs ?_
      refine qse 1 [(6, .bool false)] hs fun a hs => ?_
      refine wp_ret ?_
      exact Vk.ret1 (P := Tryz.prog) (fn := Tryz.f96) (R := RR) (.bool false) hs rfl (by kernel_rfl) (by obtain rfl := hret20 _ ((Option.some.inj hm).symm); subst hRR; exact ⟨rfl, hs.own.drop⟩)
     ·replace hm := bif_f hm hb
      replace hs := hs.known (t := 70) hb (by kernel_rfl)
      refine qpu 4 hs fun a hs => ?_
      refine qsc 74 3 hs fun a hs => ?_
      refine qpk 1 [1, 3, 7, 53, 54, 62, 63, 64, 68, 71, 72, 73, 74, 77, 78] hs fun a hs => hK29 _ _ ?_
      refine qcs ((decide (q_21 ≥ v_17)) && (v_28 != (-1))) hs (fun hb => ?_) fun hb => ?_
      ·replace hm := bif_t hm hb
       refine qse 1 [(6, .bool false)] hs fun a hs => ?_
       refine wp_ret ?_
       exact Vk.ret1 (P := Tryz.prog) (fn := Tryz.f96) (R := RR) (.bool false) hs rfl (by kernel_rfl) (by obtain rfl := hret20 _ ((Option.some.inj hm).symm); subst hRR; exact ⟨rfl, hs.own.drop⟩)
      ·replace hm := bif_f hm hb
       refine wp_skip ?_
       refine hK24 _ _ ?_
       refine Vk.region ?_
       refine qpk 2 [1, 3, 7, 53, 54, 62, 63, 64, 68, 71, 72, 73, 74, 77] hs fun a hs => ?_
       refine ih (IntKind.i64.wrap (q_21 + 1)) _ _ ⟨hm, hs.go [1, 3, 7, 53, 54] [0] 1 (by kernel_rfl) (by kernel_rfl) (by kernel_rfl)⟩
    ·replace hm := bif_f hm hb
     replace hs := hs.known (t := 61) hb (by kernel_rfl)
     refine qpu 13 hs fun a hs => ?_
     refine qsc 74 3 hs fun a hs => ?_
     refine qpk 1 [1, 3, 7, 53, 54, 71, 72, 73, 74, 77, 78] hs fun a hs => hK29 _ _ ?_
     refine qcs ((decide (q_21 ≥ v_17)) && (v_28 != (-1))) hs (fun hb => ?_) fun hb => ?_
     ·replace hm := bif_t hm hb
      refine qse 1 [(6, .bool false)] hs fun a hs => ?_
      refine wp_ret ?_
      exact Vk.ret1 (P := Tryz.prog) (fn := Tryz.f96) (R := RR) (.bool false) hs rfl (by kernel_rfl) (by obtain rfl := hret20 _ ((Option.some.inj hm).symm); subst hRR; exact ⟨rfl, hs.own.drop⟩)
     ·replace hm := bif_f hm hb
      refine wp_skip ?_
      refine hK24 _ _ ?_
      refine Vk.region ?_
      refine qpk 2 [1, 3, 7, 53, 54, 71, 72, 73, 74, 77] hs fun a hs => ?_
      refine ih (IntKind.i64.wrap (q_21 + 1)) _ _ ⟨hm, hs.go [1, 3, 7, 53, 54] [0] 1 (by kernel_rfl) (by kernel_rfl) (by kernel_rfl)⟩
   ·replace hm := bif_f hm hb
    refine wp_exit ?_
    exact hx20 (Option.some.inj hm).symm _ _ (hs.go [3] [0] 1 (by kernel_rfl) (by kernel_rfl) (by kernel_rfl))
 refine Vk.region ?_
 refine qpu 3 hs fun a hs => ?_
 refine qsc 12 3 hs fun a hs => ?_
 refine qpu 1 hs fun a hs => ?_
 rcases Bool.eq_false_or_eq_true ((x2 != 2) && (x2 != 3)) with hb | hb
 ·replace hm := bif_t hm hb
  replace hs := hs.known (t := 16) hb (by kernel_rfl)
  refine qpe 26 [(1, vi x1), (2, vi x2), (3, pp b_2), (42, .bool true)] hs fun a hs => ?_
  exact hj4 true hm _ _ (hs.go [1, 2, 3, 42] [0] 1 (by kernel_rfl) (by kernel_rfl) (by kernel_rfl))
 ·replace hm := bif_f hm hb
  replace hs := hs.known (t := 16) hb (by kernel_rfl)
  refine qpu 1 hs fun a hs => ?_
  refine qld 0 (ci x0.kind) hs rfl fun a hs => ?_
  obtain ⟨v_8, h_7, hm⟩ := bind_t hm
  refine qcl (op_is.ok _ _ _ h_7 _ _ (pt b_2 (blk (Tapi_Op.cells x0) 80) :: S) hs.own) hs fun w a hs => ?_
  refine qpu 3 hs fun a hs => ?_
  suffices hj_9 : ∀ a, St 82 a w κ [(1, vi x1), (2, vi x2), (3, pp b_2), (10, vi x2), (11, .bool (x2 != 2)), (12, .bool (x2 != 2)), (15, .bool ((x2 != 2) && (x2 != 3))), (16, .bool false), (17, pp b_2), (18, vi x0.kind), (19, .bool v_8), (20, .bool (!v_8)), (21, .bool (!v_8)), (22, .bool (!v_8)), (26, .bool ((!v_8) || (decide (x0.dom < (-1)))))] (pt b_2 (blk (Tapi_Op.cells x0) 80) :: S) → wpFrom Tryz.prog _ _ 17 a w by
   rcases Bool.eq_false_or_eq_true (!v_8) with hb | hb
   ·replace hs := hs.known (t := 22) hb (by kernel_rfl)
    refine qpu 4 hs fun a hs => ?_
    have hq := hs.pick [1, 2, 3, 10, 11, 12, 15, 16, 17, 18, 19, 20, 21, 22, 26] (L' := [(1, vi x1), (2, vi x2), (3, pp b_2), (10, vi x2), (11, .bool (x2 != 2)), (12, .bool (x2 != 2)), (15, .bool ((x2 != 2) && (x2 != 3))), (16, .bool false), (17, pp b_2), (18, vi x0.kind), (19, .bool v_8), (20, .bool (!v_8)), (21, .bool (!v_8)), (22, .bool true), (26, .bool true)]) (by kernel_rfl)
    exact hj_9 _ (hq.conv (by first | (rw [hb] <;> rfl) | rfl))
   ·replace hs := hs.known (t := 22) hb (by kernel_rfl)
    refine qpu 1 hs fun a hs => ?_
    refine qld 0 (ci x0.dom) hs rfl fun a hs => ?_
    refine qpu 2 hs fun a hs => ?_
    have hq := hs.pick [1, 2, 3, 10, 11, 12, 15, 16, 17, 18, 19, 20, 21, 22, 26] (L' := [(1, vi x1), (2, vi x2), (3, pp b_2), (10, vi x2), (11, .bool (x2 != 2)), (12, .bool (x2 != 2)), (15, .bool ((x2 != 2) && (x2 != 3))), (16, .bool false), (17, pp b_2), (18, vi x0.kind), (19, .bool v_8), (20, .bool (!v_8)), (21, .bool (!v_8)), (22, .bool false), (26, .bool (decide (x0.dom < (-1))))]) (by kernel_rfl)
    exact hj_9 _ (hq.conv (by first | (rw [hb] <;> rfl) | rfl))
  intro a hs
  refine qpu 1 hs fun a hs => ?_
  suffices hj_10 : ∀ a, St 82 a w κ [(1, vi x1), (2, vi x2), (3, pp b_2), (10, vi x2), (11, .bool (x2 != 2)), (12, .bool (x2 != 2)), (15, .bool ((x2 != 2) && (x2 != 3))), (16, .bool false), (17, pp b_2), (18, vi x0.kind), (19, .bool v_8), (20, .bool (!v_8)), (21, .bool (!v_8)), (22, .bool (!v_8)), (26, .bool ((!v_8) || (decide (x0.dom < (-1))))), (27, .bool ((!v_8) || (decide (x0.dom < (-1))))), (32, .bool (((!v_8) || (decide (x0.dom < (-1)))) || (decide (x0.dom ≥ x2))))] (pt b_2 (blk (Tapi_Op.cells x0) 80) :: S) → wpFrom Tryz.prog _ _ 23 a w by
   rcases Bool.eq_false_or_eq_true ((!v_8) || (decide (x0.dom < (-1)))) with hb | hb
   ·replace hs := hs.known (t := 27) hb (by kernel_rfl)
    refine qpu 5 hs fun a hs => ?_
    have hq := hs.pick [1, 2, 3, 10, 11, 12, 15, 16, 17, 18, 19, 20, 21, 22, 26, 27, 32] (L' := [(1, vi x1), (2, vi x2), (3, pp b_2), (10, vi x2), (11, .bool (x2 != 2)), (12, .bool (x2 != 2)), (15, .bool ((x2 != 2) && (x2 != 3))), (16, .bool false), (17, pp b_2), (18, vi x0.kind), (19, .bool v_8), (20, .bool (!v_8)), (21, .bool (!v_8)), (22, .bool (!v_8)), (26, .bool ((!v_8) || (decide (x0.dom < (-1))))), (27, .bool true), (32, .bool true)]) (by kernel_rfl)
    exact hj_10 _ (hq.conv (by first | (rw [hb] <;> rfl) | rfl))
   ·replace hs := hs.known (t := 27) hb (by kernel_rfl)
    refine qpu 1 hs fun a hs => ?_
    refine qld 0 (ci x0.dom) hs rfl fun a hs => ?_
    refine qpu 3 hs fun a hs => ?_
    have hq := hs.pick [1, 2, 3, 10, 11, 12, 15, 16, 17, 18, 19, 20, 21, 22, 26, 27, 32] (L' := [(1, vi x1), (2, vi x2), (3, pp b_2), (10, vi x2), (11, .bool (x2 != 2)), (12, .bool (x2 != 2)), (15, .bool ((x2 != 2) && (x2 != 3))), (16, .bool false), (17, pp b_2), (18, vi x0.kind), (19, .bool v_8), (20, .bool (!v_8)), (21, .bool (!v_8)), (22, .bool (!v_8)), (26, .bool ((!v_8) || (decide (x0.dom < (-1))))), (27, .bool false), (32, .bool (decide (x0.dom ≥ x2)))]) (by kernel_rfl)
    exact hj_10 _ (hq.conv (by first | (rw [hb] <;> rfl) | rfl))
  intro a hs
  refine qpu 1 hs fun a hs => ?_
  rcases Bool.eq_false_or_eq_true (((!v_8) || (decide (x0.dom < (-1)))) || (decide (x0.dom ≥ x2))) with hb | hb
  ·replace hm := bif_t hm hb
   replace hs := hs.known (t := 33) hb (by kernel_rfl)
   refine qpe 9 [(1, vi x1), (2, vi x2), (3, pp b_2), (42, .bool true)] hs fun a hs => ?_
   exact hj4 true hm _ _ (hs.go [1, 2, 3, 42] [0] 1 (by kernel_rfl) (by kernel_rfl) (by kernel_rfl))
  ·replace hm := bif_f hm hb
   replace hs := hs.known (t := 33) hb (by kernel_rfl)
   refine qpu 1 hs fun a hs => ?_
   refine qld 0 (ci x0.kind) hs rfl fun a hs => ?_
   refine qpu 2 hs fun a hs => ?_
   suffices hj_11 : ∀ a, St 82 a w κ [(1, vi x1), (2, vi x2), (3, pp b_2), (10, vi x2), (11, .bool (x2 != 2)), (12, .bool (x2 != 2)), (15, .bool ((x2 != 2) && (x2 != 3))), (16, .bool false), (17, pp b_2), (18, vi x0.kind), (19, .bool v_8), (20, .bool (!v_8)), (21, .bool (!v_8)), (22, .bool (!v_8)), (26, .bool ((!v_8) || (decide (x0.dom < (-1))))), (27, .bool ((!v_8) || (decide (x0.dom < (-1))))), (32, .bool (((!v_8) || (decide (x0.dom < (-1)))) || (decide (x0.dom ≥ x2)))), (33, .bool false), (34, pp b_2), (35, vi x0.kind), (36, .bool (x0.kind == 12)), (37, .bool (x0.kind == 12)), (41, .bool ((x0.kind == 12) && (decide (x0.dom ≥ 0))))] (pt b_2 (blk (Tapi_Op.cells x0) 80) :: S) → wpFrom Tryz.prog _ _ 32 a w by
    rcases Bool.eq_false_or_eq_true (x0.kind == 12) with hb | hb
    ·replace hs := hs.known (t := 37) hb (by kernel_rfl)
     refine qpu 1 hs fun a hs => ?_
     refine qld 0 (ci x0.dom) hs rfl fun a hs => ?_
     refine qpu 2 hs fun a hs => ?_
     have hq := hs.pick [1, 2, 3, 10, 11, 12, 15, 16, 17, 18, 19, 20, 21, 22, 26, 27, 32, 33, 34, 35, 36, 37, 41] (L' := [(1, vi x1), (2, vi x2), (3, pp b_2), (10, vi x2), (11, .bool (x2 != 2)), (12, .bool (x2 != 2)), (15, .bool ((x2 != 2) && (x2 != 3))), (16, .bool false), (17, pp b_2), (18, vi x0.kind), (19, .bool v_8), (20, .bool (!v_8)), (21, .bool (!v_8)), (22, .bool (!v_8)), (26, .bool ((!v_8) || (decide (x0.dom < (-1))))), (27, .bool ((!v_8) || (decide (x0.dom < (-1))))), (32, .bool (((!v_8) || (decide (x0.dom < (-1)))) || (decide (x0.dom ≥ x2)))), (33, .bool false), (34, pp b_2), (35, vi x0.kind), (36, .bool (x0.kind == 12)), (37, .bool true), (41, .bool (decide (x0.dom ≥ 0)))]) (by kernel_rfl)
     exact hj_11 _ (hq.conv (by first | (rw [hb] <;> rfl) | rfl))
    ·replace hs := hs.known (t := 37) hb (by kernel_rfl)
     refine qpu 4 hs fun a hs => ?_
     have hq := hs.pick [1, 2, 3, 10, 11, 12, 15, 16, 17, 18, 19, 20, 21, 22, 26, 27, 32, 33, 34, 35, 36, 37, 41] (L' := [(1, vi x1), (2, vi x2), (3, pp b_2), (10, vi x2), (11, .bool (x2 != 2)), (12, .bool (x2 != 2)), (15, .bool ((x2 != 2) && (x2 != 3))), (16, .bool false), (17, pp b_2), (18, vi x0.kind), (19, .bool v_8), (20, .bool (!v_8)), (21, .bool (!v_8)), (22, .bool (!v_8)), (26, .bool ((!v_8) || (decide (x0.dom < (-1))))), (27, .bool ((!v_8) || (decide (x0.dom < (-1))))), (32, .bool (((!v_8) || (decide (x0.dom < (-1)))) || (decide (x0.dom ≥ x2)))), (33, .bool false), (34, pp b_2), (35, vi x0.kind), (36, .bool (x0.kind == 12)), (37, .bool false), (41, .bool false)]) (by kernel_rfl)
     exact hj_11 _ (hq.conv (by first | (rw [hb] <;> rfl) | rfl))
   intro a hs
   refine qpe 1 [(1, vi x1), (2, vi x2), (3, pp b_2), (42, .bool ((x0.kind == 12) && (decide (x0.dom ≥ 0))))] hs fun a hs => ?_
   exact hj4 ((x0.kind == 12) && (decide (x0.dom ≥ 0))) hm _ _ (hs.go [1, 2, 3, 42] [0] 1 (by kernel_rfl) (by kernel_rfl) (by kernel_rfl))


abbrev wire_Machine_right.R (κ : Ctx) (S : List HP) (x0 : Twire_Machine) (x1 : Tapi_Op) (b_x0 : Nat) (g_x0 : Nat × Option Addr × Nat × Option Addr × Nat × Option Addr × Nat) (r : Bool) : Ending → World → Prop := fun e w' => e = .returned (.bool r) ∧ Ow κ w' (bagL (Twire_Machine.parts b_x0 x0 g_x0) :: S)
def wire_Machine_right.m (k : Nat) (x0 : Twire_Machine) (x1 : Tapi_Op) : Option Bool := (wire_Machine_Len.m k x0).bind fun v_10 => (op_Right.m k x1 v_10 x0.n).bind fun v_13 => some (v_13 && ((x1.kind != 2) || (x1.c == (IntKind.u64.wrap x0.words))))

set_option maxRecDepth 100000 in
set_option maxHeartbeats 4000000 in
theorem wire_Machine_right.ok (k : Nat) (x0 : Twire_Machine) (x1 : Tapi_Op) (r : Bool) (hm : wire_Machine_right.m k x0 x1 = some r) (κ : Ctx) (w : World) (S : List HP) (b_x0 : Nat) (g_x0 : Nat × Option Addr × Nat × Option Addr × Nat × Option Addr × Nat) (ho : Ow κ w (bagL (Twire_Machine.parts b_x0 x0 g_x0) :: S)) :
  Calls Tryz.prog 129 #[pp b_x0, .agg (vals [ci x1.kind, ci x1.dom, ci x1.a, ci x1.b, ci x1.d, cw x1.c])] w (wire_Machine_right.R κ S x0 x1 b_x0 g_x0 r) := by
 unfold wire_Machine_right.m at hm
 generalize hRR : wire_Machine_right.R κ S x0 x1 b_x0 g_x0 r = RR
 refine qen [(0, pp b_x0), (1, .agg (vals [ci x1.kind, ci x1.dom, ci x1.a, ci x1.b, ci x1.d, cw x1.c]))] Tryz.func129 Tryz.ntmps129 ho fun a hs => ?_
 refine qsr fun K1 hK1 => ?_
 refine qbx 1 80 [ci x1.kind, ci x1.dom, ci x1.a, ci x1.b, ci x1.d, cw x1.c] 3 hs fun b_2 w a hs => ?_
 refine qpe 1 [(0, pp b_x0), (3, pp b_2)] hs fun a hs => hK1 _ _ ?_
 clear hK1
 refine Vk.seq fun K3 hK3 => ?_
 replace hs := hs.unbagAt 1 rfl
 obtain ⟨C_7, hC_7⟩ := qC hs.own
 refine qdr 24 κ C_7 hs fun w hs hqC_7 => ?_
 have hcl := qO hC_7 hs.own
 refine qdp (fuel := 20) [1, 3, 4, 5] hs hcl hqC_7 fun a hs => ?_
 refine qdn 0 5 ([ci x1.kind, ci x1.dom, ci x1.a, ci x1.b, ci x1.d, cw x1.c]) hs hcl hqC_7 hC_7 rfl fun a hs => ?_
 refine qdl 6 0 (ci x0.n) hs hcl hqC_7 hC_7 rfl fun a hs => ?_
 replace hs := hs.bagG (l := Twire_Machine.parts b_x0 x0 g_x0) (S' := pt b_2 (blk (Tapi_Op.cells x1) 80) :: S) hs.own
 obtain ⟨v_10, h_9, hm⟩ := bind_t hm
 refine qdc 2 (wire_Machine_Len.ok _ _ _ h_9 _ _ _ b_x0 g_x0 hs.own) hs fun w a hs => ?_
 replace hs := hs.unbagAt 0 rfl
 replace hcl := qO hC_7 hs.own
 refine ⟨fun _ => hcl, ?_⟩
 obtain ⟨v_13, h_12, hm⟩ := bind_t hm
 refine qdc 7 (op_Right.ok _ _ _ _ _ h_12 _ _ (pt b_x0 (blk (Twire_Machine.obj x0 g_x0.1 g_x0.2.1 g_x0.2.2.1 g_x0.2.2.2.1 g_x0.2.2.2.2.1 g_x0.2.2.2.2.2.1 g_x0.2.2.2.2.2.2) 102) :: opto x0.dry (Ttape_Tape.own g_x0.1 x0.tape) :: rowp g_x0.2.1 g_x0.2.2.1 80 6 Tapi_Op.cells x0.ops :: rowp g_x0.2.2.2.1 g_x0.2.2.2.2.1 34 1 (eI .u64) x0.values :: rowp g_x0.2.2.2.2.2.1 g_x0.2.2.2.2.2.2 106 3 Tapi_Span.cells x0.blocks :: pt b_2 (blk (Tapi_Op.cells x1) 80) :: S) hs.own) hs fun w a hs => ?_
 replace hcl := qO hC_7 hs.own
 refine ⟨fun _ => hcl, ?_⟩
 refine qdp (fuel := 15) [8] hs hcl hqC_7 fun a hs => ?_
 suffices hj_15 : ∀ a, St 28 a w κ [(0, pp b_x0), (3, pp b_2), (5, .agg (vals [ci x1.kind, ci x1.dom, ci x1.a, ci x1.b, ci x1.d, cw x1.c])), (6, pp b_x0), (7, vi v_10), (8, pp b_x0), (9, pp b_x0), (10, pp b_x0), (11, vi x0.n), (12, .bool v_13), (13, .bool v_13), (27, .bool (v_13 && ((x1.kind != 2) || (x1.c == (IntKind.u64.wrap x0.words)))))] (pt b_x0 (blk (Twire_Machine.obj x0 g_x0.1 g_x0.2.1 g_x0.2.2.1 g_x0.2.2.2.1 g_x0.2.2.2.2.1 g_x0.2.2.2.2.2.1 g_x0.2.2.2.2.2.2) 102) :: opto x0.dry (Ttape_Tape.own g_x0.1 x0.tape) :: rowp g_x0.2.1 g_x0.2.2.1 80 6 Tapi_Op.cells x0.ops :: rowp g_x0.2.2.2.1 g_x0.2.2.2.2.1 34 1 (eI .u64) x0.values :: rowp g_x0.2.2.2.2.2.1 g_x0.2.2.2.2.2.2 106 3 Tapi_Span.cells x0.blocks :: pt b_2 (blk (Tapi_Op.cells x1) 80) :: S) → wpD _ _ _ _ _ _ _ _ a w by
  rcases Bool.eq_false_or_eq_true (v_13) with hb | hb
  ·replace hs := hs.known (t := 13) hb (by kernel_rfl)
   refine qdp (fuel := 14) [9] hs hcl hqC_7 fun a hs => ?_
   refine qdl 10 5 (ci x1.kind) hs hcl hqC_7 hC_7 rfl fun a hs => ?_
   refine qdp (fuel := 11) [11, 12] hs hcl hqC_7 fun a hs => ?_
   suffices hj_14 : ∀ a, St 28 a w κ [(0, pp b_x0), (3, pp b_2), (5, .agg (vals [ci x1.kind, ci x1.dom, ci x1.a, ci x1.b, ci x1.d, cw x1.c])), (6, pp b_x0), (7, vi v_10), (8, pp b_x0), (9, pp b_x0), (10, pp b_x0), (11, vi x0.n), (12, .bool v_13), (13, .bool true), (14, pp b_2), (15, vi x1.kind), (16, .bool (x1.kind != 2)), (17, .bool (x1.kind != 2)), (26, .bool ((x1.kind != 2) || (x1.c == (IntKind.u64.wrap x0.words))))] (pt b_x0 (blk (Twire_Machine.obj x0 g_x0.1 g_x0.2.1 g_x0.2.2.1 g_x0.2.2.2.1 g_x0.2.2.2.2.1 g_x0.2.2.2.2.2.1 g_x0.2.2.2.2.2.2) 102) :: opto x0.dry (Ttape_Tape.own g_x0.1 x0.tape) :: rowp g_x0.2.1 g_x0.2.2.1 80 6 Tapi_Op.cells x0.ops :: rowp g_x0.2.2.2.1 g_x0.2.2.2.2.1 34 1 (eI .u64) x0.values :: rowp g_x0.2.2.2.2.2.1 g_x0.2.2.2.2.2.2 106 3 Tapi_Span.cells x0.blocks :: pt b_2 (blk (Tapi_Op.cells x1) 80) :: S) → wpD _ _ _ _ _ _ _ _ a w by
    rcases Bool.eq_false_or_eq_true (x1.kind != 2) with hb | hb
    ·replace hs := hs.known (t := 17) hb (by kernel_rfl)
     refine qdp (fuel := 2) [13, 14, 15, 16, 17, 18, 19, 20, 21] hs hcl hqC_7 fun a hs => ?_
     have hq := hs.pick [0, 3, 5, 6, 7, 8, 9, 10, 11, 12, 13, 14, 15, 16, 17, 26] (L' := [(0, pp b_x0), (3, pp b_2), (5, .agg (vals [ci x1.kind, ci x1.dom, ci x1.a, ci x1.b, ci x1.d, cw x1.c])), (6, pp b_x0), (7, vi v_10), (8, pp b_x0), (9, pp b_x0), (10, pp b_x0), (11, vi x0.n), (12, .bool v_13), (13, .bool true), (14, pp b_2), (15, vi x1.kind), (16, .bool (x1.kind != 2)), (17, .bool true), (26, .bool true)]) (by kernel_rfl)
     exact hj_14 _ (hq.conv (by first | (rw [hb] <;> rfl) | rfl))
    ·replace hs := hs.known (t := 17) hb (by kernel_rfl)
     refine qdp (fuel := 10) [13] hs hcl hqC_7 fun a hs => ?_
     refine qdl 14 5 (cw x1.c) hs hcl hqC_7 hC_7 rfl fun a hs => ?_
     refine qdp (fuel := 6) [15, 16, 17] hs hcl hqC_7 fun a hs => ?_
     refine qdl 18 0 (ci x0.words) hs hcl hqC_7 hC_7 rfl fun a hs => ?_
     refine qdp (fuel := 2) [19, 20, 21] hs hcl hqC_7 fun a hs => ?_
     have hq := hs.pick [0, 3, 5, 6, 7, 8, 9, 10, 11, 12, 13, 14, 15, 16, 17, 26] (L' := [(0, pp b_x0), (3, pp b_2), (5, .agg (vals [ci x1.kind, ci x1.dom, ci x1.a, ci x1.b, ci x1.d, cw x1.c])), (6, pp b_x0), (7, vi v_10), (8, pp b_x0), (9, pp b_x0), (10, pp b_x0), (11, vi x0.n), (12, .bool v_13), (13, .bool true), (14, pp b_2), (15, vi x1.kind), (16, .bool (x1.kind != 2)), (17, .bool false), (26, .bool (x1.c == (IntKind.u64.wrap x0.words)))]) (by kernel_rfl)
     exact hj_14 _ (hq.conv (by first | (rw [hb] <;> rfl) | rfl))
   intro a hs
   refine qdp (fuel := 1) [22] hs hcl hqC_7 fun a hs => ?_
   have hq := hs.pick [0, 3, 5, 6, 7, 8, 9, 10, 11, 12, 13, 27] (L' := [(0, pp b_x0), (3, pp b_2), (5, .agg (vals [ci x1.kind, ci x1.dom, ci x1.a, ci x1.b, ci x1.d, cw x1.c])), (6, pp b_x0), (7, vi v_10), (8, pp b_x0), (9, pp b_x0), (10, pp b_x0), (11, vi x0.n), (12, .bool v_13), (13, .bool true), (27, .bool ((x1.kind != 2) || (x1.c == (IntKind.u64.wrap x0.words))))]) (by kernel_rfl)
   exact hj_15 _ (hq.conv (by first | (rw [hb] <;> rfl) | rfl))
  ·replace hs := hs.known (t := 13) hb (by kernel_rfl)
   refine qdp (fuel := 1) [9, 10, 11, 12, 13, 14, 15, 16, 17, 18, 19, 20, 21, 22] hs hcl hqC_7 fun a hs => ?_
   have hq := hs.pick [0, 3, 5, 6, 7, 8, 9, 10, 11, 12, 13, 27] (L' := [(0, pp b_x0), (3, pp b_2), (5, .agg (vals [ci x1.kind, ci x1.dom, ci x1.a, ci x1.b, ci x1.d, cw x1.c])), (6, pp b_x0), (7, vi v_10), (8, pp b_x0), (9, pp b_x0), (10, pp b_x0), (11, vi x0.n), (12, .bool v_13), (13, .bool false), (27, .bool false)]) (by kernel_rfl)
   exact hj_15 _ (hq.conv (by first | (rw [hb] <;> rfl) | rfl))
 intro a hs
 refine qdp (fuel := 0) [23] hs hcl hqC_7 fun a hs => ?_
 replace hs := hs.pick [4] (L' := [(4, .bool (v_13 && ((x1.kind != 2) || (x1.c == (IntKind.u64.wrap x0.words)))))]) (by kernel_rfl)
 refine Vk.dDone (by kernel_rfl) ?_
 refine hK3 _ _ ?_
 clear hK3
 refine wp_ret ?_
 replace hs := hs.bagG (l := Twire_Machine.parts b_x0 x0 g_x0) (S' := pt b_2 (blk (Tapi_Op.cells x1) 80) :: S) hs.own
 exact qr1 (.bool (v_13 && ((x1.kind != 2) || (x1.c == (IntKind.u64.wrap x0.words))))) hs rfl hRR (by cases hm; exact ⟨rfl, hs.own.f1.drop⟩)


def tape_Tape_Draw.j1 (k : Nat) (x0 : Ttape_Tape) (p_9 : Bool) : Option ((Int × Bool × Ttape_Tape)) := (bif p_9 then some (0, false, x0) else (if 0 ≤ IntKind.i64.wrap ((IntKind.i64.wrap (x0.used.v + 1)) - 1) then (x0.words[(IntKind.i64.wrap ((IntKind.i64.wrap (x0.used.v + 1)) - 1)).toNat]?).bind fun e_22 => some (e_22, true, (⟨x0.words, (⟨IntKind.i64.wrap (x0.used.v + 1)⟩ : Tatomic_Int64), IntKind.i64.wrap (x0.free - 1)⟩ : Ttape_Tape)) else none))
abbrev tape_Tape_Draw.R (κ : Ctx) (S : List HP) (x0 : Ttape_Tape) (b_x0 : Nat) (r : (Int × Bool × Ttape_Tape)) : Ending → World → Prop := fun e w' => e = .returned (.tuple #[vw r.1, .bool r.2.1]) ∧ Ow κ w' (Ttape_Tape.own b_x0 r.2.2 :: S)
def tape_Tape_Draw.m (k : Nat) (x0 : Ttape_Tape) : Option (Int × Bool × Ttape_Tape) := (bif decide (x0.free < 1) then tape_Tape_Draw.j1 k x0 true else (tape_Tape_Left.m k x0).bind fun v_8 => tape_Tape_Draw.j1 k x0 (decide (v_8 < 1)))

set_option maxRecDepth 100000 in
set_option maxHeartbeats 4000000 in
theorem tape_Tape_Draw.ok (k : Nat) (x0 : Ttape_Tape) (r : (Int × Bool × Ttape_Tape)) (hm : tape_Tape_Draw.m k x0 = some r) (κ : Ctx) (w : World) (S : List HP) (b_x0 : Nat) (ho : Ow κ w (Ttape_Tape.own b_x0 x0 :: S)) :
  Calls Tryz.prog 130 #[pp b_x0] w (tape_Tape_Draw.R κ S x0 b_x0 r) := by
 unfold tape_Tape_Draw.m at hm
 generalize hRR : tape_Tape_Draw.R κ S x0 b_x0 r = RR
 refine qen [(0, pp b_x0)] Tryz.func130 Tryz.ntmps130 ho fun a hs => ?_
 refine qse 2 [(0, pp b_x0)] hs fun a hs => ?_
 refine Vk.seq fun K2 hK2 => ?_
 refine Vk.seq fun K3 hK3 => ?_
 have hj3 : ∀ (p_9 : Bool), tape_Tape_Draw.j1 k x0 p_9 = some r → ∀ (a : Act) (w : World), St 36 a w κ [(0, pp b_x0), (17, .bool p_9)] (Ttape_Tape.own b_x0 x0 :: S) → K3 a w := by
  intro p_9 hm a w hs
  unfold tape_Tape_Draw.j1 at hm
  refine hK3 _ _ ?_
  refine qcs (p_9) hs (fun hb => ?_) fun hb => ?_
  ·replace hm := bif_t hm hb
   refine qse 2 [(2, vw 0), (3, .bool false)] hs fun a hs => ?_
   refine wp_ret ?_
   exact Vk.ret2 (vw 0) (.bool false) hs rfl (by kernel_rfl) (by kernel_rfl) (hRR ▸ by cases hm; exact ⟨rfl, hs.own⟩)
  ·replace hm := bif_f hm hb
   refine wp_skip ?_
   refine hK2 _ _ ?_
   clear hK2
   refine qsr fun K11 hK11 => ?_
   refine qpu 3 hs fun a hs => ?_
   obtain ⟨g_12, hs⟩ := hs.unbag 0 rfl
   refine qld 0 (ci x0.free) hs rfl fun a hs => ?_
   refine qpu 3 hs fun a hs => ?_
   refine qst 0 2 (ci (IntKind.i64.wrap (x0.free - 1))) hs rfl fun a w hs => ?_
   refine qpe 0 [(0, pp b_x0)] hs fun a hs => hK11 _ _ ?_
   clear hK11
   refine Vk.seq fun K14 hK14 => ?_
   obtain ⟨C_15, hC_15⟩ : ∃ X0 : List HP, X0 = (ptp b_x0 157 [C.slc g_12.1 x0.words.length g_12.2, ci x0.used.v, ci (IntKind.i64.wrap (x0.free - 1))] [0, 2] :: rowp g_12.1 g_12.2 34 1 (eI .u64) x0.words :: S) := ⟨_, rfl⟩
   refine qdr 13 κ C_15 hs fun w hs hqC_15 => ?_
   have hcz : Ow κ w (ptp b_x0 157 [C.slc g_12.1 x0.words.length g_12.2, ci x0.used.v, ci (IntKind.i64.wrap (x0.free - 1))] [0, 2] :: rowp g_12.1 g_12.2 34 1 (eI .u64) x0.words :: S) := Ow.part (cs0 := [C.slc g_12.1 x0.words.length g_12.2, ci x0.used.v, ci (IntKind.i64.wrap (x0.free - 1))]) (ks := [0, 2]) 0 ((Ow.to (S' := pt b_x0 (blk ((Ttape_Tape.obj x0 g_12.1 g_12.2).set 2 (ci (IntKind.i64.wrap (x0.free - 1)))) 157) :: rowp g_12.1 g_12.2 34 1 (eI .u64) x0.words :: S) hs.own [0, 1] 2 (by kernel_rfl) (by kernel_rfl))) rfl rfl
   have hcl : Ow κ w C_15 := by rw [hC_15]; exact hcz
   refine qdp (fuel := 7) [0, 1, 2, 4, 5, 6] hs hcl hqC_15 fun a hs => ?_
   refine qdt 3 (.slice g_12.1 x0.words.length g_12.2) (op := (.load 26 (.tmp 27))) hs hcl hqC_15 (fun w hw o ho => by rw [hC_15] at hw; exact run_load1 (b := b_x0) (off := 0) (c := C.slc g_12.1 x0.words.length g_12.2) ho (by kernel_rfl) (by kernel_rfl) (Cell.ownp 0 rfl (by decide) (by kernel_rfl)) _ hw) fun a hs => ?_
   refine Vk.dOnly (i := 7) (by kernel_rfl) (Vk.call (some 32) 146 #[.pointer (some ⟨b_x0, 1, none⟩), vi 1] hs (by kernel_rfl) (by kernel_rfl) (by kernel_rfl) ?_)
   refine Vk.enterI [(0, .pointer (some ⟨b_x0, 1, none⟩)), (1, vi 1)] Tryz.func146 rfl Tryz.ntmps146 (by kernel_rfl) (Nat.le_of_ble_eq_true (by kernel_rfl)) hs.own fun KR16 hKR16 hKP16 a hs => ?_
   refine qsk 1 [0, 1] hs fun a hs => ?_
   refine qsr fun K18 hK18 => ?_
   refine qpu 4 hs fun a hs => ?_
   refine Vk.step (Vk.atomAdd (k := .i64) (b := b_x0) (off := 1) (x := x0.used.v) (y := 1) 0 (some 9) 154 Tryz.f154 hs (by kernel_rfl) (by kernel_rfl) Tryz.func154 (by kernel_rfl) (by kernel_rfl) rfl (by kernel_rfl) fun a w hs => ?_)
   refine qpe 1 [(4, vi (IntKind.i64.wrap (x0.used.v + 1)))] hs fun a hs => hK18 _ _ ?_
   clear hK18
   refine wp_ret ?_
   refine hKP16 _ _ ?_
   refine hKR16 _ _ ?_
   refine Vk.ret1 (P := Tryz.prog) (fn := Tryz.f146) (vi (IntKind.i64.wrap (x0.used.v + 1))) hs rfl (by kernel_rfl) ⟨_, _, _, rfl, hs.own, fun a hs => ?_⟩
   replace hcl : Ow κ w C_15 := by rw [hC_15]; exact Ow.part (cs0 := [C.slc g_12.1 x0.words.length g_12.2, ci x0.used.v, ci (IntKind.i64.wrap (x0.free - 1))]) (ks := [0, 2]) 0 ((Ow.to (S' := pt b_x0 (blk [C.slc g_12.1 x0.words.length g_12.2, ci (IntKind.i64.wrap (x0.used.v + 1)), ci (IntKind.i64.wrap (x0.free - 1))] 157) :: rowp g_12.1 g_12.2 34 1 (eI .u64) x0.words :: S) hs.own [0, 1] 2 (by kernel_rfl) (by kernel_rfl))) rfl rfl
   refine ⟨fun _ => hcl, ?_⟩
   refine qdp (fuel := 4) [8] hs hcl hqC_15 fun a hs => ?_
   obtain ⟨h_19, hm⟩ := ite_t hm
   obtain ⟨e_22, h_20, hm⟩ := bind_t hm
   obtain ⟨b_23, o_24, hA_25, h_21⟩ := Sl.elem (Ow.rowSl 0 hcz.drop rfl) h_20
   refine qdt 9 (.pointer (some ⟨b_23, o_24 + (IntKind.i64.wrap ((IntKind.i64.wrap (x0.used.v + 1)) - 1)).toNat * 1, none⟩)) (op := (.indexAddr 26 (.tmp 28) (.tmp 33))) hs hcl hqC_15 (fun w hw o ho => by rw [hC_15] at hw; exact run_idxSlc (k := .i64) ho (cap := g_12.2) (len := x0.words.length) ((congrArg (fun A => Value.slice A (x0.words.length) (g_12.2)) hA_25) ▸ (by kernel_rfl)) (by kernel_rfl) (by kernel_rfl) (idx_ok h_19 h_20) _) fun a hs => ?_
   refine qdt 10 (vw e_22) (op := (.load 34 (.tmp 34))) hs hcl hqC_15 (fun w hw o ho => by rw [hC_15] at hw; exact run_load1 (c := cw e_22) ho (by kernel_rfl) (by kernel_rfl) (fun w ho => h_21 w ho 0 _ rfl) _ hw.drop) fun a hs => ?_
   refine qdp (fuel := 0) [11, 12] hs hcl hqC_15 fun a hs => ?_
   replace hs := hs.pick [2, 3] (L' := [(2, vw e_22), (3, .bool true)]) (by kernel_rfl)
   refine Vk.dDone (by kernel_rfl) ?_
   refine hK14 _ _ ?_
   clear hK14
   refine wp_ret ?_
   replace hs := hs.bagG (l := Ttape_Tape.parts b_x0 (⟨x0.words, (⟨IntKind.i64.wrap (x0.used.v + 1)⟩ : Tatomic_Int64), IntKind.i64.wrap (x0.free - 1)⟩ : Ttape_Tape) g_12) (S' := S) hs.own
   replace hs := hs.toEx (Ttape_Tape.parts b_x0 (⟨x0.words, (⟨IntKind.i64.wrap (x0.used.v + 1)⟩ : Tatomic_Int64), IntKind.i64.wrap (x0.free - 1)⟩ : Ttape_Tape)) g_12 0 rfl
   exact Vk.ret2 (vw e_22) (.bool true) hs rfl (by kernel_rfl) (by kernel_rfl) (hRR ▸ by cases hm; exact ⟨rfl, hs.own⟩)
 refine Vk.region ?_
 refine qpu 6 hs fun a hs => ?_
 obtain ⟨g_4, hs⟩ := hs.unbag 0 rfl
 refine qld 0 (ci x0.free) hs rfl fun a hs => ?_
 refine qpu 3 hs fun a hs => ?_
 rcases Bool.eq_false_or_eq_true (decide (x0.free < 1)) with hb | hb
 ·replace hm := bif_t hm hb
  replace hs := hs.known (t := 13) hb (by kernel_rfl)
  refine qpe 4 [(0, pp b_x0), (17, .bool true)] hs fun a hs => ?_
  replace hs := hs.bagG (l := Ttape_Tape.parts b_x0 x0 g_4) (S' := S) hs.own
  replace hs := hs.toEx (Ttape_Tape.parts b_x0 x0) g_4 0 rfl
  exact hj3 true hm _ _ (hs.go [0, 17] [0] 1 (by kernel_rfl) (by kernel_rfl) (by kernel_rfl))
 ·replace hm := bif_f hm hb
  replace hs := hs.known (t := 13) hb (by kernel_rfl)
  refine qpu 1 hs fun a hs => ?_
  replace hs := hs.bagG (l := Ttape_Tape.parts b_x0 x0 g_4) (S' := S) hs.own
  obtain ⟨v_8, h_7, hm⟩ := bind_t hm
  refine qcl (tape_Tape_Left.ok _ _ _ h_7 _ _ _ b_x0 g_4 hs.own) hs fun w a hs => ?_
  replace hs := hs.unbagAt 0 rfl
  refine qpe 2 [(0, pp b_x0), (17, .bool (decide (v_8 < 1)))] hs fun a hs => ?_
  replace hs := hs.bagG (l := Ttape_Tape.parts b_x0 x0 g_4) (S' := S) hs.own
  replace hs := hs.toEx (Ttape_Tape.parts b_x0 x0) g_4 0 rfl
  exact hj3 (decide (v_8 < 1)) hm _ _ (hs.go [0, 17] [0] 1 (by kernel_rfl) (by kernel_rfl) (by kernel_rfl))


abbrev wire_Machine_value.R (κ : Ctx) (S : List HP) (x0 : Twire_Machine) (x1 : Int) (b_x0 : Nat) (g_x0 : Nat × Option Addr × Nat × Option Addr × Nat × Option Addr × Nat) (r : Int) : Ending → World → Prop := fun e w' => e = .returned (vw r) ∧ Ow κ w' (bagL (Twire_Machine.parts b_x0 x0 g_x0) :: S)
def wire_Machine_value.m (k : Nat) (x0 : Twire_Machine) (x1 : Int) : Option Int := (bif decide (x1 < 0) then some 0 else (if 0 ≤ x1 then (x0.values[x1.toNat]?).bind fun e_12 => some e_12 else none))

set_option maxRecDepth 100000 in
set_option maxHeartbeats 4000000 in
theorem wire_Machine_value.ok (k : Nat) (x0 : Twire_Machine) (x1 : Int) (r : Int) (hm : wire_Machine_value.m k x0 x1 = some r) (κ : Ctx) (w : World) (S : List HP) (b_x0 : Nat) (g_x0 : Nat × Option Addr × Nat × Option Addr × Nat × Option Addr × Nat) (ho : Ow κ w (bagL (Twire_Machine.parts b_x0 x0 g_x0) :: S)) :
  Calls Tryz.prog 131 #[pp b_x0, vi x1] w (wire_Machine_value.R κ S x0 x1 b_x0 g_x0 r) := by
 unfold wire_Machine_value.m at hm
 generalize hRR : wire_Machine_value.R κ S x0 x1 b_x0 g_x0 r = RR
 refine qen [(0, pp b_x0), (1, vi x1)] Tryz.func131 Tryz.ntmps131 ho fun a hs => ?_
 refine qse 1 [(0, pp b_x0), (1, vi x1)] hs fun a hs => ?_
 refine Vk.seq fun K2 hK2 => ?_
 refine qsk 2 [0, 1, 6] hs fun a hs => ?_
 refine qcs (decide (x1 < 0)) hs (fun hb => ?_) fun hb => ?_
 ·replace hm := bif_t hm hb
  refine qse 1 [(4, vw 0)] hs fun a hs => ?_
  refine wp_ret ?_
  exact qr1 (vw 0) hs rfl hRR (by cases hm; exact ⟨rfl, hs.own⟩)
 ·replace hm := bif_f hm hb
  refine wp_skip ?_
  refine hK2 _ _ ?_
  clear hK2
  refine qsr fun K5 hK5 => ?_
  refine qpu 3 hs fun a hs => ?_
  replace hs := hs.unbagAt 0 rfl
  refine qld 0 (C.slc g_x0.2.2.2.1 x0.values.length g_x0.2.2.2.2.1) hs rfl fun a hs => ?_
  refine qpu 1 hs fun a hs => ?_
  obtain ⟨h_9, hm⟩ := ite_t hm
  obtain ⟨e_12, h_10, hm⟩ := bind_t hm
  obtain ⟨b_13, o_14, hA_15, h_11⟩ := Sl.elem (Ow.rowSl 0 (Ow.to (S' := rowp g_x0.2.2.2.1 g_x0.2.2.2.2.1 34 1 (eI .u64) x0.values :: S) hs.own [3] 5 (by kernel_rfl) (by kernel_rfl)) rfl) h_10
  refine qva (.pointer (some ⟨b_13, o_14 + x1.toNat * 1, none⟩)) (op := (.indexAddr 26 (.tmp 10) (.tmp 11))) hs (fun o ho => run_idxSlc (k := .i64) ho (cap := g_x0.2.2.2.2.1) (len := x0.values.length) ((congrArg (fun A => Value.slice A (x0.values.length) (g_x0.2.2.2.2.1)) hA_15) ▸ (by kernel_rfl)) (by kernel_rfl) (by kernel_rfl) (idx_ok h_9 h_10) _) fun a hs => ?_
  refine qva (vw e_12) (op := (.load 34 (.tmp 12))) hs (fun o ho => run_load1 (c := cw e_12) ho (by kernel_rfl) (by kernel_rfl) (fun w ho => h_11 w ho 0 _ rfl) _ (Ow.to (S' := rowp g_x0.2.2.2.1 g_x0.2.2.2.2.1 34 1 (eI .u64) x0.values :: S) hs.own [3] 5 (by kernel_rfl) (by kernel_rfl))) fun a hs => ?_
  refine qpe 1 [(4, vw e_12)] hs fun a hs => hK5 _ _ ?_
  clear hK5
  refine wp_ret ?_
  replace hs := hs.bagG (l := Twire_Machine.parts b_x0 x0 g_x0) (S' := S) hs.own
  exact qr1 (vw e_12) hs rfl hRR (by cases hm; exact ⟨rfl, hs.own⟩)


abbrev octet_Rot.R (κ : Ctx) (S : List HP) (x0 : Int) (x1 : Int) (r : Int) : Ending → World → Prop := fun e w' => e = .returned (vw r) ∧ Ow κ w' (S)
def octet_Rot.m (k : Nat) (x0 : Int) (x1 : Int) : Option Int := (if 0 ≤ band .i64 x1 63 then (if 0 ≤ IntKind.i64.wrap (64 - (band .i64 x1 63)) then some (bor .u64 (shl .u64 x0 (band .i64 x1 63)) (shr .u64 x0 (IntKind.i64.wrap (64 - (band .i64 x1 63))))) else none) else none)

set_option maxRecDepth 100000 in
set_option maxHeartbeats 4000000 in
theorem octet_Rot.ok (k : Nat) (x0 : Int) (x1 : Int) (r : Int) (hm : octet_Rot.m k x0 x1 = some r) (κ : Ctx) (w : World) (S : List HP) (ho : Ow κ w (S)) :
  Calls Tryz.prog 136 #[vw x0, vi x1] w (octet_Rot.R κ S x0 x1 r) := by
 unfold octet_Rot.m at hm
 generalize hRR : octet_Rot.R κ S x0 x1 r = RR
 refine qen [(0, vw x0), (1, vi x1)] Tryz.func136 Tryz.ntmps136 ho fun a hs => ?_
 refine qse 1 [(0, vw x0), (1, vi x1)] hs fun a hs => ?_
 refine qsk 3 [0, 1] hs fun a hs => ?_
 refine Vk.seq fun K3 hK3 => ?_
 obtain ⟨C_4, hC_4⟩ := qC hs.own
 refine qdr 9 κ C_4 hs fun w hs hqC_4 => ?_
 have hcl := qO hC_4 hs.own
 refine qdp (fuel := 4) [0, 1, 3, 4, 5] hs hcl hqC_4 fun a hs => ?_
 obtain ⟨h_5, hm⟩ := ite_t hm
 refine qdt 2 (vw (shl .u64 x0 (band .i64 x1 63))) (op := (.binOp .shl 34 (.tmp 7) (.tmp 8) 3)) hs hcl hqC_4 (fun w hw o ho => by rw [hC_4] at hw; exact run_shl (k' := .i64) ho (by kernel_rfl) (by kernel_rfl) h_5 _) fun a hs => ?_
 obtain ⟨h_6, hm⟩ := ite_t hm
 refine qdt 6 (vw (shr .u64 x0 (IntKind.i64.wrap (64 - (band .i64 x1 63))))) (op := (.binOp .shr 34 (.tmp 10) (.tmp 12) 3)) hs hcl hqC_4 (fun w hw o ho => by rw [hC_4] at hw; exact run_shr (k' := .i64) ho (by kernel_rfl) (by kernel_rfl) h_6 _) fun a hs => ?_
 refine qdp (fuel := 0) [7, 8] hs hcl hqC_4 fun a hs => ?_
 replace hs := hs.pick [4] (L' := [(4, vw (bor .u64 (shl .u64 x0 (band .i64 x1 63)) (shr .u64 x0 (IntKind.i64.wrap (64 - (band .i64 x1 63))))))]) (by kernel_rfl)
 refine Vk.dDone (by kernel_rfl) ?_
 refine hK3 _ _ ?_
 clear hK3
 refine wp_ret ?_
 exact qr1 (vw (bor .u64 (shl .u64 x0 (band .i64 x1 63)) (shr .u64 x0 (IntKind.i64.wrap (64 - (band .i64 x1 63)))))) hs rfl hRR (by cases hm; exact ⟨rfl, hs.own⟩)


def op_Eval.j1 (k : Nat) (x0 : Tapi_Op) (x1 : Int) (x2 : Int) (x3 : Int) (p_12 : Bool) : Option (Int) := (bif p_12 then some x0.c else (bif x0.kind == 5 then some (bxor .u64 x1 x2) else (bif x0.kind == 6 then some (bnot .u64 x1) else (bif x0.kind == 7 then some (band .u64 x1 x2) else (bif x0.kind == 8 then some (band .u64 x1 x0.c) else (bif x0.kind == 9 then (if 0 ≤ Int.tmod x0.c 64 then some (shl .u64 x1 (Int.tmod x0.c 64)) else none) else (bif x0.kind == 10 then (if 0 ≤ Int.tmod x0.c 64 then some (shr .u64 x1 (Int.tmod x0.c 64)) else none) else (bif x0.kind == 11 then (octet_Rot.m k x1 (IntKind.i64.wrap (Int.tmod x0.c 64))).bind fun v_32 => some v_32 else (bif x0.kind == 12 then some (bxor .u64 (bxor .u64 x1 x2) x3) else some 0)))))))))
abbrev op_Eval.R (κ : Ctx) (S : List HP) (x0 : Tapi_Op) (x1 : Int) (x2 : Int) (x3 : Int) (x4 : Int) (r : Int) : Ending → World → Prop := fun e w' => e = .returned (vw r) ∧ Ow κ w' (S)
def op_Eval.m (k : Nat) (x0 : Tapi_Op) (x1 : Int) (x2 : Int) (x3 : Int) (x4 : Int) : Option Int := (bif x0.kind == 1 then some x4 else (bif x0.kind == 2 then some (bxor .u64 (bxor .u64 x4 x1) x2) else (bif x0.kind == 3 then op_Eval.j1 k x0 x1 x2 x3 (x0.kind == 3) else op_Eval.j1 k x0 x1 x2 x3 (x0.kind == 4))))

set_option maxRecDepth 100000 in
set_option maxHeartbeats 4000000 in
theorem op_Eval.ok (k : Nat) (x0 : Tapi_Op) (x1 : Int) (x2 : Int) (x3 : Int) (x4 : Int) (r : Int) (hm : op_Eval.m k x0 x1 x2 x3 x4 = some r) (κ : Ctx) (w : World) (S : List HP) (ho : Ow κ w (S)) :
  Calls Tryz.prog 118 #[.agg (vals [ci x0.kind, ci x0.dom, ci x0.a, ci x0.b, ci x0.d, cw x0.c]), vw x1, vw x2, vw x3, vw x4] w (op_Eval.R κ S x0 x1 x2 x3 x4 r) := by
 unfold op_Eval.m at hm
 generalize hRR : op_Eval.R κ S x0 x1 x2 x3 x4 r = RR
 refine qen [(0, .agg (vals [ci x0.kind, ci x0.dom, ci x0.a, ci x0.b, ci x0.d, cw x0.c])), (1, vw x1), (2, vw x2), (3, vw x3), (4, vw x4)] Tryz.func118 Tryz.ntmps118 ho fun a hs => ?_
 refine qsr fun K1 hK1 => ?_
 refine qbx 0 80 [ci x0.kind, ci x0.dom, ci x0.a, ci x0.b, ci x0.d, cw x0.c] 5 hs fun b_2 w a hs => ?_
 refine qpk 1 [1, 2, 3, 4, 5] hs fun a hs => hK1 _ _ ?_
 clear hK1
 refine qsr fun K3 hK3 => ?_
 refine qpu 1 hs fun a hs => ?_
 refine qld 0 (cw x0.c) hs rfl fun a hs => ?_
 refine qpk 2 [1, 2, 3, 4, 5, 11] hs fun a hs => hK3 _ _ ?_
 clear hK3
 refine Vk.seq fun K4 hK4 => ?_
 refine qsr fun K5 hK5 => ?_
 refine qpu 1 hs fun a hs => ?_
 refine qld 0 (ci x0.kind) hs rfl fun a hs => ?_
 refine qpk 0 [1, 2, 3, 4, 5, 11, 16] hs fun a hs => hK5 _ _ ?_
 clear hK5
 refine wp_block ?_
 refine qsk 2 [1, 2, 3, 4, 5, 11, 16, 17] hs fun a hs => ?_
 refine qcs (x0.kind == 1) hs (fun hb => ?_) fun hb => ?_
 ·replace hm := bif_t hm hb
  refine qse 2 [(10, vw x4)] hs fun a hs => ?_
  refine wp_ret ?_
  exact qr1 (vw x4) hs rfl hRR (by cases hm; exact ⟨rfl, hs.own.drop⟩)
 ·replace hm := bif_f hm hb
  refine qsk 2 [1, 2, 3, 4, 5, 11, 16, 20] hs fun a hs => ?_
  refine qcs (x0.kind == 2) hs (fun hb => ?_) fun hb => ?_
  ·replace hm := bif_t hm hb
   refine qsk 6 [10] hs fun a hs => ?_
   refine wp_ret ?_
   exact qr1 (vw (bxor .u64 (bxor .u64 x4 x1) x2)) hs rfl hRR (by cases hm; exact ⟨rfl, hs.own.drop⟩)
  ·replace hm := bif_f hm hb
   refine Vk.seq fun K10 hK10 => ?_
   have hj10 : ∀ (p_12 : Bool), op_Eval.j1 k x0 x1 x2 x3 p_12 = some r → ∀ (a : Act) (w : World), St 75 a w κ [(1, vw x1), (2, vw x2), (3, vw x3), (5, pp b_2), (11, vw (Int.tmod x0.c 64)), (16, vi x0.kind), (27, .bool p_12)] (pt b_2 (blk (Tapi_Op.cells x0) 80) :: S) → K10 a w := by
    intro p_12 hm a w hs
    unfold op_Eval.j1 at hm
    refine hK10 _ _ ?_
    refine qcs (p_12) hs (fun hb => ?_) fun hb => ?_
    ·replace hm := bif_t hm hb
     refine qsr fun K13 hK13 => ?_
     refine qpu 1 hs fun a hs => ?_
     refine qld 0 (cw x0.c) hs rfl fun a hs => ?_
     refine qpe 1 [(10, vw x0.c)] hs fun a hs => hK13 _ _ ?_
     clear hK13
     refine wp_ret ?_
     exact qr1 (vw x0.c) hs rfl hRR (by cases hm; exact ⟨rfl, hs.own.drop⟩)
    ·replace hm := bif_f hm hb
     refine qsk 2 [1, 2, 3, 5, 11, 16, 32] hs fun a hs => ?_
     refine qcs (x0.kind == 5) hs (fun hb => ?_) fun hb => ?_
     ·replace hm := bif_t hm hb
      refine qsk 4 [10] hs fun a hs => ?_
      refine wp_ret ?_
      exact qr1 (vw (bxor .u64 x1 x2)) hs rfl hRR (by cases hm; exact ⟨rfl, hs.own.drop⟩)
     ·replace hm := bif_f hm hb
      refine qsk 2 [1, 2, 3, 5, 11, 16, 37] hs fun a hs => ?_
      refine qcs (x0.kind == 6) hs (fun hb => ?_) fun hb => ?_
      ·replace hm := bif_t hm hb
       refine qse 3 [(10, vw (bnot .u64 x1))] hs fun a hs => ?_
       refine wp_ret ?_
       exact qr1 (vw (bnot .u64 x1)) hs rfl hRR (by cases hm; exact ⟨rfl, hs.own.drop⟩)
      ·replace hm := bif_f hm hb
       refine qsk 2 [1, 2, 3, 5, 11, 16, 41] hs fun a hs => ?_
       refine qcs (x0.kind == 7) hs (fun hb => ?_) fun hb => ?_
       ·replace hm := bif_t hm hb
        refine qsk 4 [10] hs fun a hs => ?_
        refine wp_ret ?_
        exact qr1 (vw (band .u64 x1 x2)) hs rfl hRR (by cases hm; exact ⟨rfl, hs.own.drop⟩)
       ·replace hm := bif_f hm hb
        refine qsk 2 [1, 2, 3, 5, 11, 16, 46] hs fun a hs => ?_
        refine qcs (x0.kind == 8) hs (fun hb => ?_) fun hb => ?_
        ·replace hm := bif_t hm hb
         refine qsr fun K21 hK21 => ?_
         refine qpu 2 hs fun a hs => ?_
         refine qld 0 (cw x0.c) hs rfl fun a hs => ?_
         refine qpk 2 [10] hs fun a hs => hK21 _ _ ?_
         clear hK21
         refine wp_ret ?_
         exact qr1 (vw (band .u64 x1 x0.c)) hs rfl hRR (by cases hm; exact ⟨rfl, hs.own.drop⟩)
        ·replace hm := bif_f hm hb
         refine qsk 2 [1, 2, 3, 11, 16, 52] hs fun a hs => ?_
         refine qcs (x0.kind == 9) hs (fun hb => ?_) fun hb => ?_
         ·replace hm := bif_t hm hb
          refine qsr fun K23 hK23 => ?_
          refine qpu 2 hs fun a hs => ?_
          obtain ⟨h_24, hm⟩ := ite_t hm
          refine qva (vw (shl .u64 x1 (Int.tmod x0.c 64))) (op := (.binOp .shl 34 (.tmp 54) (.tmp 55) 34)) hs (fun o ho => run_shl (k' := .u64) ho (by kernel_rfl) (by kernel_rfl) h_24 _) fun a hs => ?_
          refine qpe 1 [(10, vw (shl .u64 x1 (Int.tmod x0.c 64)))] hs fun a hs => hK23 _ _ ?_
          clear hK23
          refine wp_ret ?_
          exact qr1 (vw (shl .u64 x1 (Int.tmod x0.c 64))) hs rfl hRR (by cases hm; exact ⟨rfl, hs.own.drop⟩)
         ·replace hm := bif_f hm hb
          refine qsk 2 [1, 2, 3, 11, 16, 57] hs fun a hs => ?_
          refine qcs (x0.kind == 10) hs (fun hb => ?_) fun hb => ?_
          ·replace hm := bif_t hm hb
           refine qsr fun K26 hK26 => ?_
           refine qpu 2 hs fun a hs => ?_
           obtain ⟨h_27, hm⟩ := ite_t hm
           refine qva (vw (shr .u64 x1 (Int.tmod x0.c 64))) (op := (.binOp .shr 34 (.tmp 59) (.tmp 60) 34)) hs (fun o ho => run_shr (k' := .u64) ho (by kernel_rfl) (by kernel_rfl) h_27 _) fun a hs => ?_
           refine qpk 1 [10] hs fun a hs => hK26 _ _ ?_
           clear hK26
           refine wp_ret ?_
           exact qr1 (vw (shr .u64 x1 (Int.tmod x0.c 64))) hs rfl hRR (by cases hm; exact ⟨rfl, hs.own.drop⟩)
          ·replace hm := bif_f hm hb
           refine qsk 2 [1, 2, 3, 11, 16, 62] hs fun a hs => ?_
           refine qcs (x0.kind == 11) hs (fun hb => ?_) fun hb => ?_
           ·replace hm := bif_t hm hb
            refine qsr fun K29 hK29 => ?_
            refine qpu 3 hs fun a hs => ?_
            obtain ⟨v_32, h_31, hm⟩ := bind_t hm
            refine qcl (octet_Rot.ok _ _ _ _ h_31 _ _ (pt b_2 (blk (Tapi_Op.cells x0) 80) :: S) hs.own) hs fun w a hs => ?_
            refine qpe 1 [(10, vw v_32)] hs fun a hs => hK29 _ _ ?_
            clear hK29
            refine wp_ret ?_
            exact qr1 (vw v_32) hs rfl hRR (by cases hm; exact ⟨rfl, hs.own.drop⟩)
           ·replace hm := bif_f hm hb
            refine qsk 2 [1, 2, 3, 68] hs fun a hs => ?_
            refine qcs (x0.kind == 12) hs (fun hb => ?_) fun hb => ?_
            ·replace hm := bif_t hm hb
             refine qsk 6 [10] hs fun a hs => ?_
             refine wp_ret ?_
             exact qr1 (vw (bxor .u64 (bxor .u64 x1 x2) x3)) hs rfl hRR (by cases hm; exact ⟨rfl, hs.own.drop⟩)
            ·replace hm := bif_f hm hb
             refine wp_skip ?_
             refine hK4 _ _ ?_
             clear hK4
             refine qse 1 [(10, vw 0)] hs fun a hs => ?_
             refine wp_ret ?_
             exact qr1 (vw 0) hs rfl hRR (by cases hm; exact ⟨rfl, hs.own.drop⟩)
   refine qse 2 [(1, vw x1), (2, vw x2), (3, vw x3), (5, pp b_2), (11, vw (Int.tmod x0.c 64)), (16, vi x0.kind), (27, .bool (x0.kind == 3))] hs fun a hs => ?_
   refine qcs (x0.kind == 3) hs (fun hb => ?_) fun hb => ?_
   ·replace hm := bif_t hm hb
    refine wp_skip ?_
    exact hj10 (x0.kind == 3) hm _ _ (hs.go [1, 2, 3, 5, 11, 16, 27] [0] 1 (by kernel_rfl) (by kernel_rfl) (by kernel_rfl))
   ·replace hm := bif_f hm hb
    refine Vk.region ?_
    refine qpe 2 [(1, vw x1), (2, vw x2), (3, vw x3), (5, pp b_2), (11, vw (Int.tmod x0.c 64)), (16, vi x0.kind), (27, .bool (x0.kind == 4))] hs fun a hs => ?_
    exact hj10 (x0.kind == 4) hm _ _ (hs.go [1, 2, 3, 5, 11, 16, 27] [0] 1 (by kernel_rfl) (by kernel_rfl) (by kernel_rfl))


def wire_Machine_Do.j3 (k : Nat) (x1 : Tapi_Op) (p_43 : Int) (p_56 : Twire_Machine) : Option ((Int × Twire_Machine)) := (bif p_56.dry then some (IntKind.i64.wrap ((IntKind.i64.wrap (p_56.base + 1)) - 1), (⟨p_56.n, p_56.most, IntKind.i64.wrap (p_56.base + 1), p_56.words, p_56.draws, p_56.dry, p_56.openF, p_56.fromF, p_56.bad, p_56.tape, p_56.ops, p_56.values, p_56.blocks⟩ : Twire_Machine)) else (wire_Machine_value.m k p_56 x1.a).bind fun v_69 => (wire_Machine_value.m k p_56 x1.b).bind fun v_72 => (wire_Machine_value.m k p_56 x1.d).bind fun v_75 => (op_Eval.m k x1 v_69 v_72 v_75 p_43).bind fun v_78 => (if (p_56.values.length + ([v_78] : List Int).length) * 8 ≤ 140737488355328 then (if (p_56.ops.length + ([x1] : List Tapi_Op).length) * 48 ≤ 140737488355328 then some (IntKind.i64.wrap ((((p_56.ops ++ ([x1] : List Tapi_Op)).length : Nat) : Int) - 1), (⟨p_56.n, p_56.most, p_56.base, p_56.words, p_56.draws, p_56.dry, p_56.openF, p_56.fromF, p_56.bad, p_56.tape, p_56.ops ++ ([x1] : List Tapi_Op), p_56.values ++ ([v_78] : List Int), p_56.blocks⟩ : Twire_Machine)) else none) else none))
def wire_Machine_Do.j2 (k : Nat) (x1 : Tapi_Op) (p_42 : Twire_Machine) (p_43 : Int) : Option ((Int × Twire_Machine)) := (bif x1.kind == 1 then wire_Machine_Do.j3 k x1 p_43 (⟨p_42.n, p_42.most, p_42.base, p_42.words, IntKind.i64.wrap (p_42.draws + 1), p_42.dry, p_42.openF, p_42.fromF, p_42.bad, p_42.tape, p_42.ops, p_42.values, p_42.blocks⟩ : Twire_Machine) else (bif x1.kind == 2 then wire_Machine_Do.j3 k x1 p_43 (⟨p_42.n, p_42.most, p_42.base, IntKind.i64.wrap (p_42.words + 1), p_42.draws, p_42.dry, p_42.openF, p_42.fromF, p_42.bad, p_42.tape, p_42.ops, p_42.values, p_42.blocks⟩ : Twire_Machine) else wire_Machine_Do.j3 k x1 p_43 p_42))
def wire_Machine_Do.j1 (k : Nat) (x0 : Twire_Machine) (x1 : Tapi_Op) (x2 : Int) (p_20 : Bool) : Option ((Int × Twire_Machine)) := (bif p_20 then (wire_Machine_fail.m k x0 3).bind fun v_24 => some (v_24.1, v_24.2) else (bif (x1.kind == 1) && (!x0.dry) then (bif x0.dry then none else (tape_Tape_Draw.m k x0.tape).bind fun v_35 => (bif !v_35.2.1 then (wire_Machine_fail.m k (⟨x0.n, x0.most, x0.base, x0.words, x0.draws, x0.dry, x0.openF, x0.fromF, x0.bad, v_35.2.2, x0.ops, x0.values, x0.blocks⟩ : Twire_Machine) 2).bind fun v_41 => some (v_41.1, v_41.2) else wire_Machine_Do.j2 k x1 (⟨x0.n, x0.most, x0.base, x0.words, x0.draws, x0.dry, x0.openF, x0.fromF, x0.bad, v_35.2.2, x0.ops, x0.values, x0.blocks⟩ : Twire_Machine) v_35.1)) else wire_Machine_Do.j2 k x1 x0 x2))
abbrev wire_Machine_Do.R (κ : Ctx) (S : List HP) (x0 : Twire_Machine) (x1 : Tapi_Op) (x2 : Int) (b_x0 : Nat) (r : (Int × Twire_Machine)) : Ending → World → Prop := fun e w' => e = .returned (vi r.1) ∧ Ow κ w' (Twire_Machine.own b_x0 r.2 :: S)
def wire_Machine_Do.m (k : Nat) (x0 : Twire_Machine) (x1 : Tapi_Op) (x2 : Int) : Option (Int × Twire_Machine) := (bif x0.bad != 0 then some ((-1), x0) else (wire_Machine_right.m k x0 x1).bind fun v_13 => (bif !v_13 then (wire_Machine_fail.m k x0 1).bind fun v_17 => some (v_17.1, v_17.2) else (bif !x0.dry then wire_Machine_Do.j1 k x0 x1 x2 (decide (((x0.ops.length : Nat) : Int) ≥ x0.most)) else wire_Machine_Do.j1 k x0 x1 x2 false)))

set_option maxRecDepth 100000 in
set_option maxHeartbeats 4000000 in
theorem wire_Machine_Do.ok (k : Nat) (x0 : Twire_Machine) (x1 : Tapi_Op) (x2 : Int) (r : (Int × Twire_Machine)) (hm : wire_Machine_Do.m k x0 x1 x2 = some r) (κ : Ctx) (w : World) (S : List HP) (b_x0 : Nat) (ho : Ow κ w (Twire_Machine.own b_x0 x0 :: S)) :
  Calls Tryz.prog 107 #[pp b_x0, .agg (vals [ci x1.kind, ci x1.dom, ci x1.a, ci x1.b, ci x1.d, cw x1.c]), vw x2] w (wire_Machine_Do.R κ S x0 x1 x2 b_x0 r) := by
 unfold wire_Machine_Do.m at hm
 generalize hRR : wire_Machine_Do.R κ S x0 x1 x2 b_x0 r = RR
 refine qen [(0, pp b_x0), (1, .agg (vals [ci x1.kind, ci x1.dom, ci x1.a, ci x1.b, ci x1.d, cw x1.c])), (2, vw x2)] Tryz.func107 Tryz.ntmps107 ho fun a hs => ?_
 refine qsr fun K1 hK1 => ?_
 refine qbx 1 80 [ci x1.kind, ci x1.dom, ci x1.a, ci x1.b, ci x1.d, cw x1.c] 4 hs fun b_2 w a hs => ?_
 refine qpe 1 [(0, pp b_x0), (2, vw x2), (4, pp b_2)] hs fun a hs => hK1 _ _ ?_
 clear hK1
 refine Vk.seq fun K3 hK3 => ?_
 refine wp_block ?_
 refine qsr fun K4 hK4 => ?_
 refine qpu 6 hs fun a hs => ?_
 obtain ⟨g_5, hs⟩ := hs.unbag 1 rfl
 refine qld 0 (ci x0.bad) hs rfl fun a hs => ?_
 refine qpk 3 [0, 2, 4, 9] hs fun a hs => hK4 _ _ ?_
 clear hK4
 refine qcs (x0.bad != 0) hs (fun hb => ?_) fun hb => ?_
 ·replace hm := bif_t hm hb
  refine qse 1 [(6, vi (-1))] hs fun a hs => ?_
  refine wp_ret ?_
  replace hs := hs.bagG (l := Twire_Machine.parts b_x0 x0 g_5) (S' := pt b_2 (blk (Tapi_Op.cells x1) 80) :: S) hs.own
  replace hs := hs.toEx (Twire_Machine.parts b_x0 x0) g_5 0 rfl
  exact qr1 (vi (-1)) hs rfl hRR (by cases hm; exact ⟨rfl, hs.own.f1.drop⟩)
 ·replace hm := bif_f hm hb
  refine qsr fun K10 hK10 => ?_
  refine qpu 1 hs fun a hs => ?_
  refine qln 5 ([ci x1.kind, ci x1.dom, ci x1.a, ci x1.b, ci x1.d, cw x1.c]) hs rfl fun a hs => ?_
  replace hs := hs.bagG (l := Twire_Machine.parts b_x0 x0 g_5) (S' := pt b_2 (blk (Tapi_Op.cells x1) 80) :: S) hs.own
  obtain ⟨v_13, h_12, hm⟩ := bind_t hm
  refine qcl (wire_Machine_right.ok _ _ _ _ h_12 _ _ _ b_x0 g_5 hs.own) hs fun w a hs => ?_
  replace hs := hs.unbagAt 0 rfl
  refine qpk 2 [0, 2, 4, 19] hs fun a hs => hK10 _ _ ?_
  clear hK10
  refine qcs (!v_13) hs (fun hb => ?_) fun hb => ?_
  ·replace hm := bif_t hm hb
   refine qsr fun K14 hK14 => ?_
   refine qpu 1 hs fun a hs => ?_
   replace hs := hs.bagG (l := Twire_Machine.parts b_x0 x0 g_5) (S' := pt b_2 (blk (Tapi_Op.cells x1) 80) :: S) hs.own
   replace hs := hs.toEx (Twire_Machine.parts b_x0 x0) g_5 0 rfl
   obtain ⟨v_17, h_16, hm⟩ := bind_t hm
   refine qcl (wire_Machine_fail.ok _ _ _ _ h_16 _ _ _ b_x0 hs.own) hs fun w a hs => ?_
   refine qpe 1 [(6, vi v_17.1)] hs fun a hs => hK14 _ _ ?_
   clear hK14
   refine wp_ret ?_
   exact qr1 (vi v_17.1) hs rfl hRR (by cases hm; exact ⟨rfl, hs.own.f1.drop⟩)
  ·replace hm := bif_f hm hb
   refine Vk.seq fun K18 hK18 => ?_
   have hj18 : ∀ (p_20 : Bool), wire_Machine_Do.j1 k x0 x1 x2 p_20 = some r → ∀ (a : Act) (w : World), St 145 a w κ [(0, pp b_x0), (2, vw x2), (4, pp b_2), (26, .bool p_20)] (Twire_Machine.own b_x0 x0 :: pt b_2 (blk (Tapi_Op.cells x1) 80) :: S) → K18 a w := by
    intro p_20 hm a w hs
    unfold wire_Machine_Do.j1 at hm
    refine hK18 _ _ ?_
    refine qcs (p_20) hs (fun hb => ?_) fun hb => ?_
    ·replace hm := bif_t hm hb
     refine qsr fun K21 hK21 => ?_
     refine qpu 1 hs fun a hs => ?_
     obtain ⟨v_24, h_23, hm⟩ := bind_t hm
     refine qcl (wire_Machine_fail.ok _ _ _ _ h_23 _ _ _ b_x0 hs.own) hs fun w a hs => ?_
     refine qpe 1 [(6, vi v_24.1)] hs fun a hs => hK21 _ _ ?_
     clear hK21
     refine wp_ret ?_
     exact qr1 (vi v_24.1) hs rfl hRR (by cases hm; exact ⟨rfl, hs.own.f1.drop⟩)
    ·replace hm := bif_f hm hb
     refine wp_skip ?_
     refine hK3 _ _ ?_
     clear hK3
     refine Vk.seq fun K25 hK25 => ?_
     have hj25 : ∀ (p_42 : Twire_Machine) (p_43 : Int), wire_Machine_Do.j2 k x1 p_42 p_43 = some r → ∀ (a : Act) (w : World), St 145 a w κ [(0, pp b_x0), (2, vw p_43), (4, pp b_2)] (Twire_Machine.own b_x0 p_42 :: pt b_2 (blk (Tapi_Op.cells x1) 80) :: S) → K25 a w := by
      intro p_42 p_43 hm a w hs
      unfold wire_Machine_Do.j2 at hm
      refine hK25 _ _ ?_
      refine Vk.seq fun K44 hK44 => ?_
      have hj44 : ∀ (p_56 : Twire_Machine), wire_Machine_Do.j3 k x1 p_43 p_56 = some r → ∀ (a : Act) (w : World), St 145 a w κ [(0, pp b_x0), (2, vw p_43), (4, pp b_2)] (Twire_Machine.own b_x0 p_56 :: pt b_2 (blk (Tapi_Op.cells x1) 80) :: S) → K44 a w := by
       intro p_56 hm a w hs
       unfold wire_Machine_Do.j3 at hm
       refine hK44 _ _ ?_
       refine Vk.seq fun K57 hK57 => ?_
       refine qsr fun K58 hK58 => ?_
       refine qpu 3 hs fun a hs => ?_
       obtain ⟨g_59, hs⟩ := hs.unbag 0 rfl
       refine qld 0 (C.bool p_56.dry) hs rfl fun a hs => ?_
       refine qpk 0 [0, 2, 4, 92] hs fun a hs => hK58 _ _ ?_
       clear hK58
       refine qcs (p_56.dry) hs (fun hb => ?_) fun hb => ?_
       ·replace hm := bif_t hm hb
        refine qsr fun K63 hK63 => ?_
        refine qpu 3 hs fun a hs => ?_
        refine qld 0 (ci p_56.base) hs rfl fun a hs => ?_
        refine qpu 3 hs fun a hs => ?_
        refine qst 0 2 (ci (IntKind.i64.wrap (p_56.base + 1))) hs rfl fun a w hs => ?_
        refine qpe 0 [(0, pp b_x0)] hs fun a hs => hK63 _ _ ?_
        clear hK63
        refine qsr fun K64 hK64 => ?_
        refine qpu 3 hs fun a hs => ?_
        refine qld 0 (ci (IntKind.i64.wrap (p_56.base + 1))) hs rfl fun a hs => ?_
        refine qpk 2 [6] hs fun a hs => hK64 _ _ ?_
        clear hK64
        refine wp_ret ?_
        replace hs := hs.bagG (l := Twire_Machine.parts b_x0 (⟨p_56.n, p_56.most, IntKind.i64.wrap (p_56.base + 1), p_56.words, p_56.draws, p_56.dry, p_56.openF, p_56.fromF, p_56.bad, p_56.tape, p_56.ops, p_56.values, p_56.blocks⟩ : Twire_Machine) g_59) (S' := pt b_2 (blk (Tapi_Op.cells x1) 80) :: S) hs.own
        replace hs := hs.toEx (Twire_Machine.parts b_x0 (⟨p_56.n, p_56.most, IntKind.i64.wrap (p_56.base + 1), p_56.words, p_56.draws, p_56.dry, p_56.openF, p_56.fromF, p_56.bad, p_56.tape, p_56.ops, p_56.values, p_56.blocks⟩ : Twire_Machine)) g_59 0 rfl
        exact qr1 (vi (IntKind.i64.wrap ((IntKind.i64.wrap (p_56.base + 1)) - 1))) hs rfl hRR (by cases hm; exact ⟨rfl, hs.own.f1.drop⟩)
       ·replace hm := bif_f hm hb
        refine wp_skip ?_
        refine hK57 _ _ ?_
        clear hK57
        refine Vk.seq fun K65 hK65 => ?_
        obtain ⟨C_66, hC_66⟩ := qC hs.own.f3.drop
        refine qdr 22 κ C_66 hs fun w hs hqC_66 => ?_
        have hcl := qO hC_66 hs.own.f3.drop
        refine qdp (fuel := 14) [0, 1, 2, 3, 6, 7, 10, 11, 14, 15, 18] hs hcl hqC_66 fun a hs => ?_
        refine qdl 4 0 (C.slc g_59.2.2.2.1 p_56.values.length g_59.2.2.2.2.1) hs hcl hqC_66 hC_66 rfl fun a hs => ?_
        refine qdn 5 4 ([ci x1.kind, ci x1.dom, ci x1.a, ci x1.b, ci x1.d, cw x1.c]) hs hcl hqC_66 hC_66 rfl fun a hs => ?_
        refine qdl 8 4 (ci x1.a) hs hcl hqC_66 hC_66 rfl fun a hs => ?_
        refine qdl 12 4 (ci x1.b) hs hcl hqC_66 hC_66 rfl fun a hs => ?_
        refine qdl 16 4 (ci x1.d) hs hcl hqC_66 hC_66 rfl fun a hs => ?_
        replace hs := hs.bagG (l := Twire_Machine.parts b_x0 p_56 g_59) (S' := pt b_2 (blk (Tapi_Op.cells x1) 80) :: S) hs.own
        obtain ⟨v_69, h_68, hm⟩ := bind_t hm
        refine qdc 9 (wire_Machine_value.ok _ _ _ _ h_68 _ _ _ b_x0 g_59 hs.own) hs fun w a hs => ?_
        replace hs := hs.unbagAt 0 rfl
        replace hcl := qO hC_66 hs.own.f3.drop
        refine ⟨fun _ => hcl, ?_⟩
        replace hs := hs.bagG (l := Twire_Machine.parts b_x0 p_56 g_59) (S' := pt b_2 (blk (Tapi_Op.cells x1) 80) :: S) hs.own
        obtain ⟨v_72, h_71, hm⟩ := bind_t hm
        refine qdc 13 (wire_Machine_value.ok _ _ _ _ h_71 _ _ _ b_x0 g_59 hs.own) hs fun w a hs => ?_
        replace hs := hs.unbagAt 0 rfl
        replace hcl := qO hC_66 hs.own.f3.drop
        refine ⟨fun _ => hcl, ?_⟩
        replace hs := hs.bagG (l := Twire_Machine.parts b_x0 p_56 g_59) (S' := pt b_2 (blk (Tapi_Op.cells x1) 80) :: S) hs.own
        obtain ⟨v_75, h_74, hm⟩ := bind_t hm
        refine qdc 17 (wire_Machine_value.ok _ _ _ _ h_74 _ _ _ b_x0 g_59 hs.own) hs fun w a hs => ?_
        replace hs := hs.unbagAt 0 rfl
        replace hcl := qO hC_66 hs.own.f3.drop
        refine ⟨fun _ => hcl, ?_⟩
        obtain ⟨v_78, h_77, hm⟩ := bind_t hm
        refine qdc 19 (op_Eval.ok _ _ _ _ _ _ _ h_77 _ _ (pt b_x0 (blk (Twire_Machine.obj p_56 g_59.1 g_59.2.1 g_59.2.2.1 g_59.2.2.2.1 g_59.2.2.2.2.1 g_59.2.2.2.2.2.1 g_59.2.2.2.2.2.2) 102) :: opto p_56.dry (Ttape_Tape.own g_59.1 p_56.tape) :: rowp g_59.2.1 g_59.2.2.1 80 6 Tapi_Op.cells p_56.ops :: rowp g_59.2.2.2.1 g_59.2.2.2.2.1 34 1 (eI .u64) p_56.values :: rowp g_59.2.2.2.2.2.1 g_59.2.2.2.2.2.2 106 3 Tapi_Span.cells p_56.blocks :: pt b_2 (blk (Tapi_Op.cells x1) 80) :: S) hs.own) hs fun w a hs => ?_
        replace hcl := qO hC_66 hs.own.f3.drop
        refine ⟨fun _ => hcl, ?_⟩
        refine Vk.dOnly (i := 20) (by kernel_rfl) (Vk.buildOp (sz := 1) (by_ := 8) (t := 26) (e := 34) (parts := #[(0, (.tmp 124))]) (zs := vals [cw 0]) ([v_78] : List Int) (eI .u64) (some 125) hs (by kernel_rfl) (by kernel_rfl) (by kernel_rfl) (by kernel_rfl) (by decide) rfl (fun x _ => rfl) (Nat.le_of_ble_eq_true (by kernel_rfl)) (by kernel_rfl) fun A_79 w a hs => ?_)
        replace hcl := qO hC_66 hs.own.f4.drop.drop
        refine ⟨fun _ => hcl, ?_⟩
        obtain ⟨h_81, hm⟩ := ite_t hm
        refine Vk.dOnly (i := 21) (by kernel_rfl) (Vk.appendOp (x := (.tmp 109)) (y := (.tmp 125)) (e := 34) (t := 26) (by_ := 8) (sz := 1) (enc := (eI .u64)) (A := g_59.2.2.2.1) (cap := g_59.2.2.2.2.1) (xs := p_56.values) (ys := ([v_78] : List Int)) (B := A_79) (c2 := 1) 4 (some 126) hs (by kernel_rfl) (by kernel_rfl) (by kernel_rfl) (by kernel_rfl) rfl (Sl.lift (fun w ho => (Ow.to (S' := rowp A_79 1 34 1 (eI .u64) ([v_78] : List Int) :: S) ho [0] 7 (by kernel_rfl) (by kernel_rfl))) (Ow.rowSl 0 (Ow.to (S' := rowp A_79 1 34 1 (eI .u64) ([v_78] : List Int) :: S) hs.own [0] 7 (by kernel_rfl) (by kernel_rfl)) rfl)) (by kernel_rfl) (by kernel_rfl) (by decide) (by decide) h_81 fun A_82 c_83 w a hs => ?_)
        replace hcl := qO hC_66 hs.own.f4.drop.drop
        refine ⟨fun _ => hcl, ?_⟩
        refine Vk.dOnly (i := 22) (by kernel_rfl) (Vk.dPure1 [(127, pp b_x0)] hs (by kernel_rfl) fun a hs => ?_)
        refine ⟨fun h => absurd h (by decide), ?_⟩
        refine Vk.dOnly (i := 23) (by kernel_rfl) (Vk.dPure1 [(128, .pointer (some ⟨b_x0, 11, none⟩))] hs (by kernel_rfl) fun a hs => ?_)
        refine ⟨fun h => absurd h (by decide), ?_⟩
        refine qsd 24 1 11 (C.slc A_82 ((p_56.values ++ ([v_78] : List Int)).length) c_83) hs rfl fun a w hs => ?_
        refine ⟨fun h => absurd h (by decide), ?_⟩
        replace hs := hs.pick [0, 4] (L' := [(0, pp b_x0), (4, pp b_2)]) (by kernel_rfl)
        refine Vk.dDone (by kernel_rfl) ?_
        refine hK65 _ _ ?_
        clear hK65
        refine Vk.seq fun K84 hK84 => ?_
        obtain ⟨C_85, hC_85⟩ := qC hs.own.f3.drop
        refine qdr 8 κ C_85 hs fun w hs hqC_85 => ?_
        have hcl := qO hC_85 hs.own.f3.drop
        refine qdp (fuel := 7) [0, 1, 2, 3] hs hcl hqC_85 fun a hs => ?_
        refine qdl 4 1 (C.slc g_59.2.1 p_56.ops.length g_59.2.2.1) hs hcl hqC_85 hC_85 rfl fun a hs => ?_
        refine qdn 5 5 ([ci x1.kind, ci x1.dom, ci x1.a, ci x1.b, ci x1.d, cw x1.c]) hs hcl hqC_85 hC_85 rfl fun a hs => ?_
        refine Vk.dOnly (i := 6) (by kernel_rfl) (Vk.buildOp (sz := 6) (by_ := 48) (t := 22) (e := 80) (parts := #[(0, (.tmp 134))]) (zs := vals [ci 0, ci 0, ci 0, ci 0, ci 0, cw 0]) ([x1] : List Tapi_Op) Tapi_Op.cells (some 135) hs (by kernel_rfl) (by kernel_rfl) (by kernel_rfl) (by kernel_rfl) (by decide) rfl (fun x _ => rfl) (Nat.le_of_ble_eq_true (by kernel_rfl)) (by kernel_rfl) fun A_86 w a hs => ?_)
        replace hcl := qO hC_85 hs.own.f4.drop.drop
        refine ⟨fun _ => hcl, ?_⟩
        obtain ⟨h_88, hm⟩ := ite_t hm
        refine Vk.dOnly (i := 7) (by kernel_rfl) (Vk.appendOp (x := (.tmp 133)) (y := (.tmp 135)) (e := 80) (t := 22) (by_ := 48) (sz := 6) (enc := Tapi_Op.cells) (A := g_59.2.1) (cap := g_59.2.2.1) (xs := p_56.ops) (ys := ([x1] : List Tapi_Op)) (B := A_86) (c2 := 1) 4 (some 136) hs (by kernel_rfl) (by kernel_rfl) (by kernel_rfl) (by kernel_rfl) rfl (Sl.lift (fun w ho => (Ow.to (S' := rowp A_86 1 80 6 Tapi_Op.cells ([x1] : List Tapi_Op) :: S) ho [0] 8 (by kernel_rfl) (by kernel_rfl))) (Ow.rowSl 0 (Ow.to (S' := rowp A_86 1 80 6 Tapi_Op.cells ([x1] : List Tapi_Op) :: S) hs.own [0] 8 (by kernel_rfl) (by kernel_rfl)) rfl)) (by kernel_rfl) (by kernel_rfl) (by decide) (by decide) h_88 fun A_89 c_90 w a hs => ?_)
        replace hcl := qO hC_85 hs.own.f4.drop.drop
        refine ⟨fun _ => hcl, ?_⟩
        refine Vk.dOnly (i := 8) (by kernel_rfl) (Vk.dPure1 [(137, pp b_x0)] hs (by kernel_rfl) fun a hs => ?_)
        refine ⟨fun h => absurd h (by decide), ?_⟩
        refine Vk.dOnly (i := 9) (by kernel_rfl) (Vk.dPure1 [(138, .pointer (some ⟨b_x0, 10, none⟩))] hs (by kernel_rfl) fun a hs => ?_)
        refine ⟨fun h => absurd h (by decide), ?_⟩
        refine qsd 10 2 10 (C.slc A_89 ((p_56.ops ++ ([x1] : List Tapi_Op)).length) c_90) hs rfl fun a w hs => ?_
        refine ⟨fun h => absurd h (by decide), ?_⟩
        replace hs := hs.pick [0] (L' := [(0, pp b_x0)]) (by kernel_rfl)
        refine Vk.dDone (by kernel_rfl) ?_
        refine hK84 _ _ ?_
        clear hK84
        refine qsr fun K91 hK91 => ?_
        refine qpu 3 hs fun a hs => ?_
        refine qld 2 (C.slc A_89 ((p_56.ops ++ ([x1] : List Tapi_Op)).length) c_90) hs rfl fun a hs => ?_
        refine qpk 3 [6] hs fun a hs => hK91 _ _ ?_
        clear hK91
        refine wp_ret ?_
        replace hs := hs.bagG (l := Twire_Machine.parts b_x0 (⟨p_56.n, p_56.most, p_56.base, p_56.words, p_56.draws, p_56.dry, p_56.openF, p_56.fromF, p_56.bad, p_56.tape, p_56.ops ++ ([x1] : List Tapi_Op), p_56.values ++ ([v_78] : List Int), p_56.blocks⟩ : Twire_Machine) (g_59.1, A_89, c_90, A_82, c_83, g_59.2.2.2.2.2.1, g_59.2.2.2.2.2.2)) (S' := rowp A_86 1 80 6 Tapi_Op.cells ([x1] : List Tapi_Op) :: rowp A_79 1 34 1 (eI .u64) ([v_78] : List Int) :: pt b_2 (blk (Tapi_Op.cells x1) 80) :: S) hs.own.f6.f6.f6.f6.f6
        replace hs := hs.toEx (Twire_Machine.parts b_x0 (⟨p_56.n, p_56.most, p_56.base, p_56.words, p_56.draws, p_56.dry, p_56.openF, p_56.fromF, p_56.bad, p_56.tape, p_56.ops ++ ([x1] : List Tapi_Op), p_56.values ++ ([v_78] : List Int), p_56.blocks⟩ : Twire_Machine)) (g_59.1, A_89, c_90, A_82, c_83, g_59.2.2.2.2.2.1, g_59.2.2.2.2.2.2) 0 rfl
        exact qr1 (vi (IntKind.i64.wrap ((((p_56.ops ++ ([x1] : List Tapi_Op)).length : Nat) : Int) - 1))) hs rfl hRR (by cases hm; exact ⟨rfl, (hs.own.too [0] 4)⟩)
      refine qsr fun K45 hK45 => ?_
      refine qpu 1 hs fun a hs => ?_
      refine qld 1 (ci x1.kind) hs rfl fun a hs => ?_
      refine qpk 0 [0, 2, 4, 70] hs fun a hs => hK45 _ _ ?_
      clear hK45
      refine wp_block ?_
      refine qse 2 [(0, pp b_x0), (2, vw p_43), (4, pp b_2), (70, vi x1.kind), (71, .bool (x1.kind == 1))] hs fun a hs => ?_
      refine qcs (x1.kind == 1) hs (fun hb => ?_) fun hb => ?_
      ·replace hm := bif_t hm hb
       refine Vk.region ?_
       refine qpu 3 hs fun a hs => ?_
       obtain ⟨g_47, hs⟩ := hs.unbag 0 rfl
       refine qld 0 (ci p_42.draws) hs rfl fun a hs => ?_
       refine qpu 3 hs fun a hs => ?_
       refine qst 0 4 (ci (IntKind.i64.wrap (p_42.draws + 1))) hs rfl fun a w hs => ?_
       refine qpe 0 [(0, pp b_x0), (2, vw p_43), (4, pp b_2)] hs fun a hs => ?_
       replace hs := hs.bagG (l := Twire_Machine.parts b_x0 (⟨p_42.n, p_42.most, p_42.base, p_42.words, IntKind.i64.wrap (p_42.draws + 1), p_42.dry, p_42.openF, p_42.fromF, p_42.bad, p_42.tape, p_42.ops, p_42.values, p_42.blocks⟩ : Twire_Machine) g_47) (S' := pt b_2 (blk (Tapi_Op.cells x1) 80) :: S) hs.own
       replace hs := hs.toEx (Twire_Machine.parts b_x0 (⟨p_42.n, p_42.most, p_42.base, p_42.words, IntKind.i64.wrap (p_42.draws + 1), p_42.dry, p_42.openF, p_42.fromF, p_42.bad, p_42.tape, p_42.ops, p_42.values, p_42.blocks⟩ : Twire_Machine)) g_47 0 rfl
       exact hj44 (⟨p_42.n, p_42.most, p_42.base, p_42.words, IntKind.i64.wrap (p_42.draws + 1), p_42.dry, p_42.openF, p_42.fromF, p_42.bad, p_42.tape, p_42.ops, p_42.values, p_42.blocks⟩ : Twire_Machine) hm _ _ (hs.go [0, 2, 4] [0, 1] 2 (by kernel_rfl) (by kernel_rfl) (by kernel_rfl))
      ·replace hm := bif_f hm hb
       refine qse 2 [(0, pp b_x0), (2, vw p_43), (4, pp b_2), (80, .bool (x1.kind == 2))] hs fun a hs => ?_
       refine qcs (x1.kind == 2) hs (fun hb => ?_) fun hb => ?_
       ·replace hm := bif_t hm hb
        refine Vk.region ?_
        refine qpu 3 hs fun a hs => ?_
        obtain ⟨g_52, hs⟩ := hs.unbag 0 rfl
        refine qld 0 (ci p_42.words) hs rfl fun a hs => ?_
        refine qpu 3 hs fun a hs => ?_
        refine qst 0 3 (ci (IntKind.i64.wrap (p_42.words + 1))) hs rfl fun a w hs => ?_
        refine qpe 0 [(0, pp b_x0), (2, vw p_43), (4, pp b_2)] hs fun a hs => ?_
        replace hs := hs.bagG (l := Twire_Machine.parts b_x0 (⟨p_42.n, p_42.most, p_42.base, IntKind.i64.wrap (p_42.words + 1), p_42.draws, p_42.dry, p_42.openF, p_42.fromF, p_42.bad, p_42.tape, p_42.ops, p_42.values, p_42.blocks⟩ : Twire_Machine) g_52) (S' := pt b_2 (blk (Tapi_Op.cells x1) 80) :: S) hs.own
        replace hs := hs.toEx (Twire_Machine.parts b_x0 (⟨p_42.n, p_42.most, p_42.base, IntKind.i64.wrap (p_42.words + 1), p_42.draws, p_42.dry, p_42.openF, p_42.fromF, p_42.bad, p_42.tape, p_42.ops, p_42.values, p_42.blocks⟩ : Twire_Machine)) g_52 0 rfl
        exact hj44 (⟨p_42.n, p_42.most, p_42.base, IntKind.i64.wrap (p_42.words + 1), p_42.draws, p_42.dry, p_42.openF, p_42.fromF, p_42.bad, p_42.tape, p_42.ops, p_42.values, p_42.blocks⟩ : Twire_Machine) hm _ _ (hs.go [0, 2, 4] [0, 1] 2 (by kernel_rfl) (by kernel_rfl) (by kernel_rfl))
       ·replace hm := bif_f hm hb
        refine wp_skip ?_
        exact hj44 p_42 hm _ _ (hs.go [0, 2, 4] [0, 1] 2 (by kernel_rfl) (by kernel_rfl) (by kernel_rfl))
     refine qsr fun K26 hK26 => ?_
     refine qpu 1 hs fun a hs => ?_
     refine qld 1 (ci x1.kind) hs rfl fun a hs => ?_
     refine qpu 2 hs fun a hs => ?_
     obtain ⟨g_27, hs⟩ := hs.unbag 0 rfl
     suffices hj_31 : ∀ a, St 145 a w κ [(0, pp b_x0), (2, vw x2), (4, pp b_2), (26, .bool p_20), (46, pp b_2), (47, vi x1.kind), (48, .bool (x1.kind == 1)), (49, .bool (x1.kind == 1)), (55, .bool ((x1.kind == 1) && (!x0.dry)))] (pt b_x0 (blk (Twire_Machine.obj x0 g_27.1 g_27.2.1 g_27.2.2.1 g_27.2.2.2.1 g_27.2.2.2.2.1 g_27.2.2.2.2.2.1 g_27.2.2.2.2.2.2) 102) :: opto x0.dry (Ttape_Tape.own g_27.1 x0.tape) :: rowp g_27.2.1 g_27.2.2.1 80 6 Tapi_Op.cells x0.ops :: rowp g_27.2.2.2.1 g_27.2.2.2.2.1 34 1 (eI .u64) x0.values :: rowp g_27.2.2.2.2.2.1 g_27.2.2.2.2.2.2 106 3 Tapi_Span.cells x0.blocks :: pt b_2 (blk (Tapi_Op.cells x1) 80) :: S) → wpFrom Tryz.prog _ _ 10 a w by
      rcases Bool.eq_false_or_eq_true (x1.kind == 1) with hb | hb
      ·replace hs := hs.known (t := 49) hb (by kernel_rfl)
       refine qpu 3 hs fun a hs => ?_
       refine qld 0 (C.bool x0.dry) hs rfl fun a hs => ?_
       refine qpu 2 hs fun a hs => ?_
       have hq := hs.pick [0, 2, 4, 26, 46, 47, 48, 49, 55] (L' := [(0, pp b_x0), (2, vw x2), (4, pp b_2), (26, .bool p_20), (46, pp b_2), (47, vi x1.kind), (48, .bool (x1.kind == 1)), (49, .bool true), (55, .bool (!x0.dry))]) (by kernel_rfl)
       exact hj_31 _ (hq.conv (by first | (rw [hb] <;> rfl) | rfl))
      ·replace hs := hs.known (t := 49) hb (by kernel_rfl)
       refine qpu 6 hs fun a hs => ?_
       have hq := hs.pick [0, 2, 4, 26, 46, 47, 48, 49, 55] (L' := [(0, pp b_x0), (2, vw x2), (4, pp b_2), (26, .bool p_20), (46, pp b_2), (47, vi x1.kind), (48, .bool (x1.kind == 1)), (49, .bool false), (55, .bool false)]) (by kernel_rfl)
       exact hj_31 _ (hq.conv (by first | (rw [hb] <;> rfl) | rfl))
     intro a hs
     refine qpe 0 [(0, pp b_x0), (2, vw x2), (4, pp b_2), (55, .bool ((x1.kind == 1) && (!x0.dry)))] hs fun a hs => hK26 _ _ ?_
     clear hK26
     refine qcs ((x1.kind == 1) && (!x0.dry)) hs (fun hb => ?_) fun hb => ?_
     ·replace hm := bif_t hm hb
      refine qsr fun K32 hK32 => ?_
      refine qpu 3 hs fun a hs => ?_
      refine qld 0 (C.ptr (optA x0.dry g_27.1)) hs rfl fun a hs => ?_
      rcases Bool.eq_false_or_eq_true (x0.dry) with hb | hb
      ·replace hm := bif_t hm hb
       cases hm
      ·replace hm := bif_f hm hb
       replace hs := hs.pick [0, 2, 4, 55, 57, 58, 59, 60] (L' := [(0, pp b_x0), (2, vw x2), (4, pp b_2), (55, .bool ((x1.kind == 1) && (!x0.dry))), (57, pp b_x0), (58, pp b_x0), (59, .pointer (some ⟨b_x0, 9, none⟩)), (60, .pointer (optA x0.dry g_27.1))]) (by kernel_rfl)
       replace hs := hs.conv2 (L' := [(0, pp b_x0), (2, vw x2), (4, pp b_2), (55, .bool ((x1.kind == 1) && (!x0.dry))), (57, pp b_x0), (58, pp b_x0), (59, .pointer (some ⟨b_x0, 9, none⟩)), (60, pp g_27.1)]) (S' := pt b_x0 (blk (Twire_Machine.obj x0 g_27.1 g_27.2.1 g_27.2.2.1 g_27.2.2.2.1 g_27.2.2.2.2.1 g_27.2.2.2.2.2.1 g_27.2.2.2.2.2.2) 102) :: Ttape_Tape.own g_27.1 x0.tape :: rowp g_27.2.1 g_27.2.2.1 80 6 Tapi_Op.cells x0.ops :: rowp g_27.2.2.2.1 g_27.2.2.2.2.1 34 1 (eI .u64) x0.values :: rowp g_27.2.2.2.2.2.1 g_27.2.2.2.2.2.2 106 3 Tapi_Span.cells x0.blocks :: pt b_2 (blk (Tapi_Op.cells x1) 80) :: S) (by first | rfl | (rw [hb] <;> rfl)) (by first | rfl | (rw [hb] <;> rfl))
       obtain ⟨v_35, h_34, hm⟩ := bind_t hm
       refine qcl (tape_Tape_Draw.ok _ _ _ h_34 _ _ _ g_27.1 hs.own.f1) hs fun w a hs => ?_
       replace hs := hs.pick [0, 2, 4, 55, 57, 58, 59, 60, 61] (L' := [(0, pp b_x0), (2, vw x2), (4, pp b_2), (55, .bool ((x1.kind == 1) && (!x0.dry))), (57, pp b_x0), (58, pp b_x0), (59, .pointer (some ⟨b_x0, 9, none⟩)), (60, pp g_27.1), (61, .tuple #[vw v_35.1, .bool v_35.2.1])]) (by kernel_rfl)
       replace hs := hs.conv2 (L' := [(0, pp b_x0), (2, vw x2), (4, pp b_2), (55, .bool ((x1.kind == 1) && (!x0.dry))), (57, pp b_x0), (58, pp b_x0), (59, .pointer (some ⟨b_x0, 9, none⟩)), (60, pp g_27.1), (61, .tuple #[vw v_35.1, .bool v_35.2.1])]) (S' := opto x0.dry (Ttape_Tape.own g_27.1 v_35.2.2) :: pt b_x0 (blk (Twire_Machine.obj x0 g_27.1 g_27.2.1 g_27.2.2.1 g_27.2.2.2.1 g_27.2.2.2.2.1 g_27.2.2.2.2.2.1 g_27.2.2.2.2.2.2) 102) :: rowp g_27.2.1 g_27.2.2.1 80 6 Tapi_Op.cells x0.ops :: rowp g_27.2.2.2.1 g_27.2.2.2.2.1 34 1 (eI .u64) x0.values :: rowp g_27.2.2.2.2.2.1 g_27.2.2.2.2.2.2 106 3 Tapi_Span.cells x0.blocks :: pt b_2 (blk (Tapi_Op.cells x1) 80) :: S) rfl (by first | rfl | (rw [hb] <;> rfl))
       refine qpk 5 [0, 4, 7, 8] hs fun a hs => hK32 _ _ ?_
       clear hK32
       refine Vk.seq fun K36 hK36 => ?_
       refine qsk 2 [0, 4, 7, 65] hs fun a hs => ?_
       refine qcs (!v_35.2.1) hs (fun hb => ?_) fun hb => ?_
       ·replace hm := bif_t hm hb
        refine qsr fun K38 hK38 => ?_
        refine qpu 1 hs fun a hs => ?_
        replace hs := hs.bagG (l := Twire_Machine.parts b_x0 (⟨x0.n, x0.most, x0.base, x0.words, x0.draws, x0.dry, x0.openF, x0.fromF, x0.bad, v_35.2.2, x0.ops, x0.values, x0.blocks⟩ : Twire_Machine) g_27) (S' := pt b_2 (blk (Tapi_Op.cells x1) 80) :: S) hs.own.f1
        replace hs := hs.toEx (Twire_Machine.parts b_x0 (⟨x0.n, x0.most, x0.base, x0.words, x0.draws, x0.dry, x0.openF, x0.fromF, x0.bad, v_35.2.2, x0.ops, x0.values, x0.blocks⟩ : Twire_Machine)) g_27 0 rfl
        obtain ⟨v_41, h_40, hm⟩ := bind_t hm
        refine qcl (wire_Machine_fail.ok _ _ _ _ h_40 _ _ _ b_x0 hs.own) hs fun w a hs => ?_
        refine qpe 1 [(6, vi v_41.1)] hs fun a hs => hK38 _ _ ?_
        clear hK38
        refine wp_ret ?_
        exact qr1 (vi v_41.1) hs rfl hRR (by cases hm; exact ⟨rfl, hs.own.f1.drop⟩)
       ·replace hm := bif_f hm hb
        refine wp_skip ?_
        refine hK36 _ _ ?_
        clear hK36
        refine Vk.region ?_
        refine qpe 2 [(0, pp b_x0), (2, vw v_35.1), (4, pp b_2)] hs fun a hs => ?_
        replace hs := hs.bagG (l := Twire_Machine.parts b_x0 (⟨x0.n, x0.most, x0.base, x0.words, x0.draws, x0.dry, x0.openF, x0.fromF, x0.bad, v_35.2.2, x0.ops, x0.values, x0.blocks⟩ : Twire_Machine) g_27) (S' := pt b_2 (blk (Tapi_Op.cells x1) 80) :: S) hs.own.f1
        replace hs := hs.toEx (Twire_Machine.parts b_x0 (⟨x0.n, x0.most, x0.base, x0.words, x0.draws, x0.dry, x0.openF, x0.fromF, x0.bad, v_35.2.2, x0.ops, x0.values, x0.blocks⟩ : Twire_Machine)) g_27 0 rfl
        exact hj25 (⟨x0.n, x0.most, x0.base, x0.words, x0.draws, x0.dry, x0.openF, x0.fromF, x0.bad, v_35.2.2, x0.ops, x0.values, x0.blocks⟩ : Twire_Machine) v_35.1 hm _ _ (hs.go [0, 2, 4] [0, 1] 2 (by kernel_rfl) (by kernel_rfl) (by kernel_rfl))
     ·replace hm := bif_f hm hb
      refine wp_skip ?_
      replace hs := hs.bagG (l := Twire_Machine.parts b_x0 x0 g_27) (S' := pt b_2 (blk (Tapi_Op.cells x1) 80) :: S) hs.own
      replace hs := hs.toEx (Twire_Machine.parts b_x0 x0) g_27 0 rfl
      exact hj25 x0 x2 hm _ _ (hs.go [0, 2, 4] [0, 1] 2 (by kernel_rfl) (by kernel_rfl) (by kernel_rfl))
   obtain ⟨C_19, hC_19⟩ := qC hs.own
   refine qdr 18 κ C_19 hs fun w hs hqC_19 => ?_
   have hcl := qO hC_19 hs.own
   refine qdp (fuel := 15) [0, 1, 2] hs hcl hqC_19 fun a hs => ?_
   refine qdl 3 0 (C.bool x0.dry) hs hcl hqC_19 hC_19 rfl fun a hs => ?_
   refine qdp (fuel := 12) [4, 5] hs hcl hqC_19 fun a hs => ?_
   rcases Bool.eq_false_or_eq_true (!x0.dry) with hb | hb
   ·replace hm := bif_t hm hb
    replace hs := hs.known (t := 32) hb (by kernel_rfl)
    refine qdp (fuel := 6) [6, 7, 8, 11, 12, 13] hs hcl hqC_19 fun a hs => ?_
    refine qdl 9 0 (C.slc g_5.2.1 x0.ops.length g_5.2.2.1) hs hcl hqC_19 hC_19 rfl fun a hs => ?_
    refine qdp (fuel := 4) [10] hs hcl hqC_19 fun a hs => ?_
    refine qdl 14 0 (ci x0.most) hs hcl hqC_19 hC_19 rfl fun a hs => ?_
    refine qdp (fuel := 0) [15, 16, 17] hs hcl hqC_19 fun a hs => ?_
    replace hs := hs.pick [0, 2, 4, 26] (L' := [(0, pp b_x0), (2, vw x2), (4, pp b_2), (26, .bool (decide (((x0.ops.length : Nat) : Int) ≥ x0.most)))]) (by kernel_rfl)
    refine Vk.dDone (by kernel_rfl) ?_
    replace hs := hs.bagG (l := Twire_Machine.parts b_x0 x0 g_5) (S' := pt b_2 (blk (Tapi_Op.cells x1) 80) :: S) hs.own
    replace hs := hs.toEx (Twire_Machine.parts b_x0 x0) g_5 0 rfl
    exact hj18 (decide (((x0.ops.length : Nat) : Int) ≥ x0.most)) hm _ _ (hs.go [0, 2, 4, 26] [0, 1] 2 (by kernel_rfl) (by kernel_rfl) (by kernel_rfl))
   ·replace hm := bif_f hm hb
    replace hs := hs.known (t := 32) hb (by kernel_rfl)
    refine qdp (fuel := 0) [6, 7, 8, 9, 10, 11, 12, 13, 14, 15, 16, 17] hs hcl hqC_19 fun a hs => ?_
    replace hs := hs.pick [0, 2, 4, 26] (L' := [(0, pp b_x0), (2, vw x2), (4, pp b_2), (26, .bool false)]) (by kernel_rfl)
    refine Vk.dDone (by kernel_rfl) ?_
    replace hs := hs.bagG (l := Twire_Machine.parts b_x0 x0 g_5) (S' := pt b_2 (blk (Tapi_Op.cells x1) 80) :: S) hs.own
    replace hs := hs.toEx (Twire_Machine.parts b_x0 x0) g_5 0 rfl
    exact hj18 false hm _ _ (hs.go [0, 2, 4, 26] [0, 1] 2 (by kernel_rfl) (by kernel_rfl) (by kernel_rfl))


abbrev wire_Machine_Rand.R (κ : Ctx) (S : List HP) (x0 : Twire_Machine) (x1 : Int) (b_x0 : Nat) (r : (Int × Twire_Machine)) : Ending → World → Prop := fun e w' => e = .returned (vi r.1) ∧ Ow κ w' (Twire_Machine.own b_x0 r.2 :: S)
def wire_Machine_Rand.m (k : Nat) (x0 : Twire_Machine) (x1 : Int) : Option (Int × Twire_Machine) := (wire_Machine_Do.m k x0 (⟨1, x1, (-1), (-1), (-1), 0⟩ : Tapi_Op) 0).bind fun v_5 => some (v_5.1, v_5.2)

set_option maxRecDepth 100000 in
set_option maxHeartbeats 4000000 in
theorem wire_Machine_Rand.ok (k : Nat) (x0 : Twire_Machine) (x1 : Int) (r : (Int × Twire_Machine)) (hm : wire_Machine_Rand.m k x0 x1 = some r) (κ : Ctx) (w : World) (S : List HP) (b_x0 : Nat) (ho : Ow κ w (Twire_Machine.own b_x0 x0 :: S)) :
  Calls Tryz.prog 78 #[pp b_x0, vi x1] w (wire_Machine_Rand.R κ S x0 x1 b_x0 r) := by
 unfold wire_Machine_Rand.m at hm
 generalize hRR : wire_Machine_Rand.R κ S x0 x1 b_x0 r = RR
 refine qen [(0, pp b_x0), (1, vi x1)] Tryz.func78 Tryz.ntmps78 ho fun a hs => ?_
 refine qse 1 [(0, pp b_x0), (1, vi x1)] hs fun a hs => ?_
 refine qsr fun K2 hK2 => ?_
 refine qpu 3 hs fun a hs => ?_
 obtain ⟨v_5, h_4, hm⟩ := bind_t hm
 refine qcl (wire_Machine_Do.ok _ _ _ _ _ h_4 _ _ _ b_x0 hs.own) hs fun w a hs => ?_
 refine qpe 1 [(4, vi v_5.1)] hs fun a hs => hK2 _ _ ?_
 clear hK2
 refine wp_ret ?_
 exact qr1 (vi v_5.1) hs rfl hRR (by cases hm; exact ⟨rfl, hs.own⟩)


abbrev wire_Machine_next.R (κ : Ctx) (S : List HP) (x0 : Twire_Machine) (b_x0 : Nat) (g_x0 : Nat × Option Addr × Nat × Option Addr × Nat × Option Addr × Nat) (r : Int) : Ending → World → Prop := fun e w' => e = .returned (vw r) ∧ Ow κ w' (bagL (Twire_Machine.parts b_x0 x0 g_x0) :: S)
def wire_Machine_next.m (k : Nat) (x0 : Twire_Machine) : Option Int := some (IntKind.u64.wrap x0.words)

set_option maxRecDepth 100000 in
set_option maxHeartbeats 4000000 in
theorem wire_Machine_next.ok (k : Nat) (x0 : Twire_Machine) (r : Int) (hm : wire_Machine_next.m k x0 = some r) (κ : Ctx) (w : World) (S : List HP) (b_x0 : Nat) (g_x0 : Nat × Option Addr × Nat × Option Addr × Nat × Option Addr × Nat) (ho : Ow κ w (bagL (Twire_Machine.parts b_x0 x0 g_x0) :: S)) :
  Calls Tryz.prog 108 #[pp b_x0] w (wire_Machine_next.R κ S x0 b_x0 g_x0 r) := by
 unfold wire_Machine_next.m at hm
 generalize hRR : wire_Machine_next.R κ S x0 b_x0 g_x0 r = RR
 refine qen [(0, pp b_x0)] Tryz.func108 Tryz.ntmps108 ho fun a hs => ?_
 refine qse 1 [(0, pp b_x0)] hs fun a hs => ?_
 refine Vk.seq fun K2 hK2 => ?_
 refine qsk 2 [0, 4] hs fun a hs => ?_
 refine qcf hs ?_
 refine wp_skip ?_
 refine hK2 _ _ ?_
 clear hK2
 refine qsr fun K4 hK4 => ?_
 refine qpu 3 hs fun a hs => ?_
 replace hs := hs.unbagAt 0 rfl
 refine qld 0 (ci x0.words) hs rfl fun a hs => ?_
 refine qpk 2 [2] hs fun a hs => hK4 _ _ ?_
 clear hK4
 refine wp_ret ?_
 replace hs := hs.bagG (l := Twire_Machine.parts b_x0 x0 g_x0) (S' := S) hs.own
 exact qr1 (vw (IntKind.u64.wrap x0.words)) hs rfl hRR (by cases hm; exact ⟨rfl, hs.own⟩)


abbrev wire_Machine_Key.R (κ : Ctx) (S : List HP) (x0 : Twire_Machine) (x1 : Int) (x2 : Int) (x3 : Int) (b_x0 : Nat) (r : (Int × Twire_Machine)) : Ending → World → Prop := fun e w' => e = .returned (vi r.1) ∧ Ow κ w' (Twire_Machine.own b_x0 r.2 :: S)
def wire_Machine_Key.m (k : Nat) (x0 : Twire_Machine) (x1 : Int) (x2 : Int) (x3 : Int) : Option (Int × Twire_Machine) := (wire_Machine_next.m k x0).bind fun v_6 => (wire_Machine_Do.m k x0 (⟨2, 0, x2, x3, (-1), v_6⟩ : Tapi_Op) x1).bind fun v_9 => some (v_9.1, v_9.2)

set_option maxRecDepth 100000 in
set_option maxHeartbeats 4000000 in
theorem wire_Machine_Key.ok (k : Nat) (x0 : Twire_Machine) (x1 : Int) (x2 : Int) (x3 : Int) (r : (Int × Twire_Machine)) (hm : wire_Machine_Key.m k x0 x1 x2 x3 = some r) (κ : Ctx) (w : World) (S : List HP) (b_x0 : Nat) (ho : Ow κ w (Twire_Machine.own b_x0 x0 :: S)) :
  Calls Tryz.prog 79 #[pp b_x0, vw x1, vi x2, vi x3] w (wire_Machine_Key.R κ S x0 x1 x2 x3 b_x0 r) := by
 unfold wire_Machine_Key.m at hm
 generalize hRR : wire_Machine_Key.R κ S x0 x1 x2 x3 b_x0 r = RR
 refine qen [(0, pp b_x0), (1, vw x1), (2, vi x2), (3, vi x3)] Tryz.func79 Tryz.ntmps79 ho fun a hs => ?_
 refine qse 1 [(0, pp b_x0), (1, vw x1), (2, vi x2), (3, vi x3)] hs fun a hs => ?_
 refine qsr fun K2 hK2 => ?_
 refine qpu 4 hs fun a hs => ?_
 obtain ⟨g_3, hs⟩ := hs.unex 0 rfl
 obtain ⟨v_6, h_5, hm⟩ := bind_t hm
 refine qcl (wire_Machine_next.ok _ _ _ h_5 _ _ _ b_x0 g_3 hs.own) hs fun w a hs => ?_
 refine qpu 2 hs fun a hs => ?_
 replace hs := hs.toEx (Twire_Machine.parts b_x0 x0) g_3 0 rfl
 obtain ⟨v_9, h_8, hm⟩ := bind_t hm
 refine qcl (wire_Machine_Do.ok _ _ _ _ _ h_8 _ _ _ b_x0 hs.own) hs fun w a hs => ?_
 refine qpe 1 [(8, vi v_9.1)] hs fun a hs => hK2 _ _ ?_
 clear hK2
 refine wp_ret ?_
 exact qr1 (vi v_9.1) hs rfl hRR (by cases hm; exact ⟨rfl, hs.own⟩)


def wire_Machine_End.j1 (k : Nat) (p_28 : Twire_Machine) : Option (Twire_Machine) := some (⟨p_28.n, p_28.most, p_28.base, p_28.words, p_28.draws, p_28.dry, 0, p_28.fromF, p_28.bad, p_28.tape, p_28.ops, p_28.values, p_28.blocks⟩ : Twire_Machine)
abbrev wire_Machine_End.R (κ : Ctx) (S : List HP) (x0 : Twire_Machine) (b_x0 : Nat) (r : Twire_Machine) : Ending → World → Prop := fun e w' => e = .returned (.tuple #[]) ∧ Ow κ w' (Twire_Machine.own b_x0 r :: S)
def wire_Machine_End.m (k : Nat) (x0 : Twire_Machine) : Option Twire_Machine := (bif x0.bad != 0 then some x0 else (bif x0.openF == 0 then (wire_Machine_fail.m k x0 1).bind fun v_11 => some v_11.2 else (wire_Machine_Len.m k x0).bind fun v_17 => (bif (decide (v_17 > x0.fromF)) && (!x0.dry) then (wire_Machine_Len.m k x0).bind fun v_22 => (if (x0.blocks.length + ([(⟨x0.openF, x0.fromF, v_22⟩ : Tapi_Span)] : List Tapi_Span).length) * 24 ≤ 140737488355328 then wire_Machine_End.j1 k (⟨x0.n, x0.most, x0.base, x0.words, x0.draws, x0.dry, x0.openF, x0.fromF, x0.bad, x0.tape, x0.ops, x0.values, x0.blocks ++ ([(⟨x0.openF, x0.fromF, v_22⟩ : Tapi_Span)] : List Tapi_Span)⟩ : Twire_Machine) else none) else wire_Machine_End.j1 k x0)))

set_option maxRecDepth 100000 in
set_option maxHeartbeats 4000000 in
theorem wire_Machine_End.ok (k : Nat) (x0 : Twire_Machine) (r : Twire_Machine) (hm : wire_Machine_End.m k x0 = some r) (κ : Ctx) (w : World) (S : List HP) (b_x0 : Nat) (ho : Ow κ w (Twire_Machine.own b_x0 x0 :: S)) :
  Calls Tryz.prog 80 #[pp b_x0] w (wire_Machine_End.R κ S x0 b_x0 r) := by
 unfold wire_Machine_End.m at hm
 generalize hRR : wire_Machine_End.R κ S x0 b_x0 r = RR
 refine qen [(0, pp b_x0)] Tryz.func80 Tryz.ntmps80 ho fun a hs => ?_
 refine Vk.seq fun K1 hK1 => ?_
 refine wp_block ?_
 refine qsr fun K2 hK2 => ?_
 refine qpu 6 hs fun a hs => ?_
 obtain ⟨g_3, hs⟩ := hs.unbag 0 rfl
 refine qld 0 (ci x0.bad) hs rfl fun a hs => ?_
 refine qpk 3 [0, 2] hs fun a hs => hK2 _ _ ?_
 clear hK2
 refine qcs (x0.bad != 0) hs (fun hb => ?_) fun hb => ?_
 ·replace hm := bif_t hm hb
  refine wp_ret ?_
  replace hs := hs.bagG (l := Twire_Machine.parts b_x0 x0 g_3) (S' := S) hs.own
  replace hs := hs.toEx (Twire_Machine.parts b_x0 x0) g_3 0 rfl
  exact qr0 hs rfl hRR (by cases hm; exact ⟨rfl, hs.own⟩)
 ·replace hm := bif_f hm hb
  refine qsr fun K7 hK7 => ?_
  refine qpu 3 hs fun a hs => ?_
  refine qld 0 (ci x0.openF) hs rfl fun a hs => ?_
  refine qpk 2 [0, 12] hs fun a hs => hK7 _ _ ?_
  clear hK7
  refine qcs (x0.openF == 0) hs (fun hb => ?_) fun hb => ?_
  ·replace hm := bif_t hm hb
   refine qsr fun K8 hK8 => ?_
   refine qpu 1 hs fun a hs => ?_
   replace hs := hs.bagG (l := Twire_Machine.parts b_x0 x0 g_3) (S' := S) hs.own
   replace hs := hs.toEx (Twire_Machine.parts b_x0 x0) g_3 0 rfl
   obtain ⟨v_11, h_10, hm⟩ := bind_t hm
   refine qcl (wire_Machine_fail.ok _ _ _ _ h_10 _ _ _ b_x0 hs.own) hs fun w a hs => ?_
   refine qpe 0 [] hs fun a hs => hK8 _ _ ?_
   clear hK8
   refine wp_ret ?_
   exact qr0 hs rfl hRR (by cases hm; exact ⟨rfl, hs.own⟩)
  ·replace hm := bif_f hm hb
   refine wp_skip ?_
   refine hK1 _ _ ?_
   clear hK1
   refine Vk.seq fun K12 hK12 => ?_
   have hj12 : ∀ (p_28 : Twire_Machine), wire_Machine_End.j1 k p_28 = some r → ∀ (a : Act) (w : World), St 57 a w κ [(0, pp b_x0)] (Twire_Machine.own b_x0 p_28 :: S) → K12 a w := by
    intro p_28 hm a w hs
    unfold wire_Machine_End.j1 at hm
    refine hK12 _ _ ?_
    refine Vk.region ?_
    refine qpu 3 hs fun a hs => ?_
    obtain ⟨g_29, hs⟩ := hs.unbag 0 rfl
    refine qst 0 6 (ci 0) hs rfl fun a w hs => ?_
    refine qpe 0 [] hs fun a hs => ?_
    replace hs := hs.bagG (l := Twire_Machine.parts b_x0 (⟨p_28.n, p_28.most, p_28.base, p_28.words, p_28.draws, p_28.dry, 0, p_28.fromF, p_28.bad, p_28.tape, p_28.ops, p_28.values, p_28.blocks⟩ : Twire_Machine) g_29) (S' := S) hs.own
    replace hs := hs.toEx (Twire_Machine.parts b_x0 (⟨p_28.n, p_28.most, p_28.base, p_28.words, p_28.draws, p_28.dry, 0, p_28.fromF, p_28.bad, p_28.tape, p_28.ops, p_28.values, p_28.blocks⟩ : Twire_Machine)) g_29 0 rfl
    exact qe0 hs rfl hRR (by cases hm; exact ⟨rfl, hs.own⟩)
   refine Vk.seq fun K13 hK13 => ?_
   obtain ⟨C_14, hC_14⟩ := qC hs.own
   refine qdr 14 κ C_14 hs fun w hs hqC_14 => ?_
   have hcl := qO hC_14 hs.own
   refine qdp (fuel := 10) [0, 2, 3, 4] hs hcl hqC_14 fun a hs => ?_
   refine qdl 5 0 (ci x0.fromF) hs hcl hqC_14 hC_14 rfl fun a hs => ?_
   replace hs := hs.bagG (l := Twire_Machine.parts b_x0 x0 g_3) (S' := S) hs.own
   obtain ⟨v_17, h_16, hm⟩ := bind_t hm
   refine qdc 1 (wire_Machine_Len.ok _ _ _ h_16 _ _ _ b_x0 g_3 hs.own) hs fun w a hs => ?_
   replace hs := hs.unbagAt 0 rfl
   replace hcl := qO hC_14 hs.own
   refine ⟨fun _ => hcl, ?_⟩
   refine qdp (fuel := 6) [6, 7] hs hcl hqC_14 fun a hs => ?_
   suffices hj_18 : ∀ a, St 57 a w κ [(0, pp b_x0), (12, .bool (x0.openF == 0)), (20, pp b_x0), (21, vi v_17), (22, pp b_x0), (23, pp b_x0), (24, .pointer (some ⟨b_x0, 7, none⟩)), (25, vi x0.fromF), (26, .bool (decide (v_17 > x0.fromF))), (27, .bool (decide (v_17 > x0.fromF))), (33, .bool ((decide (v_17 > x0.fromF)) && (!x0.dry)))] (pt b_x0 (blk (Twire_Machine.obj x0 g_3.1 g_3.2.1 g_3.2.2.1 g_3.2.2.2.1 g_3.2.2.2.2.1 g_3.2.2.2.2.2.1 g_3.2.2.2.2.2.2) 102) :: opto x0.dry (Ttape_Tape.own g_3.1 x0.tape) :: rowp g_3.2.1 g_3.2.2.1 80 6 Tapi_Op.cells x0.ops :: rowp g_3.2.2.2.1 g_3.2.2.2.2.1 34 1 (eI .u64) x0.values :: rowp g_3.2.2.2.2.2.1 g_3.2.2.2.2.2.2 106 3 Tapi_Span.cells x0.blocks :: S) → wpD _ _ _ _ _ _ _ _ a w by
    rcases Bool.eq_false_or_eq_true (decide (v_17 > x0.fromF)) with hb | hb
    ·replace hs := hs.known (t := 27) hb (by kernel_rfl)
     refine qdp (fuel := 3) [8, 9, 10] hs hcl hqC_14 fun a hs => ?_
     refine qdl 11 0 (C.bool x0.dry) hs hcl hqC_14 hC_14 rfl fun a hs => ?_
     refine qdp (fuel := 0) [12, 13] hs hcl hqC_14 fun a hs => ?_
     have hq := hs.pick [0, 12, 20, 21, 22, 23, 24, 25, 26, 27, 33] (L' := [(0, pp b_x0), (12, .bool (x0.openF == 0)), (20, pp b_x0), (21, vi v_17), (22, pp b_x0), (23, pp b_x0), (24, .pointer (some ⟨b_x0, 7, none⟩)), (25, vi x0.fromF), (26, .bool (decide (v_17 > x0.fromF))), (27, .bool true), (33, .bool (!x0.dry))]) (by kernel_rfl)
     exact hj_18 _ (hq.conv (by first | (rw [hb] <;> rfl) | rfl))
    ·replace hs := hs.known (t := 27) hb (by kernel_rfl)
     refine qdp (fuel := 0) [8, 9, 10, 11, 12, 13] hs hcl hqC_14 fun a hs => ?_
     have hq := hs.pick [0, 12, 20, 21, 22, 23, 24, 25, 26, 27, 33] (L' := [(0, pp b_x0), (12, .bool (x0.openF == 0)), (20, pp b_x0), (21, vi v_17), (22, pp b_x0), (23, pp b_x0), (24, .pointer (some ⟨b_x0, 7, none⟩)), (25, vi x0.fromF), (26, .bool (decide (v_17 > x0.fromF))), (27, .bool false), (33, .bool false)]) (by kernel_rfl)
     exact hj_18 _ (hq.conv (by first | (rw [hb] <;> rfl) | rfl))
   intro a hs
   replace hs := hs.pick [0, 33] (L' := [(0, pp b_x0), (33, .bool ((decide (v_17 > x0.fromF)) && (!x0.dry)))]) (by kernel_rfl)
   refine Vk.dDone (by kernel_rfl) ?_
   refine hK13 _ _ ?_
   clear hK13
   refine qcs ((decide (v_17 > x0.fromF)) && (!x0.dry)) hs (fun hb => ?_) fun hb => ?_
   ·replace hm := bif_t hm hb
    obtain ⟨C_19, hC_19⟩ := qC hs.own.f4.drop
    refine qdr 18 κ C_19 hs fun w hs hqC_19 => ?_
    have hcl := qO hC_19 hs.own.f4.drop
    refine qdp (fuel := 10) [0, 1, 2, 3, 5, 6, 7, 9, 10, 11, 13] hs hcl hqC_19 fun a hs => ?_
    refine qdl 4 0 (C.slc g_3.2.2.2.2.2.1 x0.blocks.length g_3.2.2.2.2.2.2) hs hcl hqC_19 hC_19 rfl fun a hs => ?_
    refine qdl 8 0 (ci x0.openF) hs hcl hqC_19 hC_19 rfl fun a hs => ?_
    refine qdl 12 0 (ci x0.fromF) hs hcl hqC_19 hC_19 rfl fun a hs => ?_
    replace hs := hs.bagG (l := Twire_Machine.parts b_x0 x0 g_3) (S' := S) hs.own
    obtain ⟨v_22, h_21, hm⟩ := bind_t hm
    refine qdc 14 (wire_Machine_Len.ok _ _ _ h_21 _ _ _ b_x0 g_3 hs.own) hs fun w a hs => ?_
    replace hs := hs.unbagAt 0 rfl
    replace hcl := qO hC_19 hs.own.f4.drop
    refine ⟨fun _ => hcl, ?_⟩
    refine qdp (fuel := 5) [15] hs hcl hqC_19 fun a hs => ?_
    refine Vk.dOnly (i := 16) (by kernel_rfl) (Vk.buildOp (sz := 3) (by_ := 24) (t := 23) (e := 106) (parts := #[(0, (.tmp 49))]) (zs := vals [ci 0, ci 0, ci 0]) ([(⟨x0.openF, x0.fromF, v_22⟩ : Tapi_Span)] : List Tapi_Span) Tapi_Span.cells (some 50) hs (by kernel_rfl) (by kernel_rfl) (by kernel_rfl) (by kernel_rfl) (by decide) rfl (fun x _ => rfl) (Nat.le_of_ble_eq_true (by kernel_rfl)) (by kernel_rfl) fun A_23 w a hs => ?_)
    replace hcl := qO hC_19 hs.own.f5.drop.drop
    refine ⟨fun _ => hcl, ?_⟩
    obtain ⟨h_25, hm⟩ := ite_t hm
    refine Vk.dOnly (i := 17) (by kernel_rfl) (Vk.appendOp (x := (.tmp 38)) (y := (.tmp 50)) (e := 106) (t := 23) (by_ := 24) (sz := 3) (enc := Tapi_Span.cells) (A := g_3.2.2.2.2.2.1) (cap := g_3.2.2.2.2.2.2) (xs := x0.blocks) (ys := ([(⟨x0.openF, x0.fromF, v_22⟩ : Tapi_Span)] : List Tapi_Span)) (B := A_23) (c2 := 1) 5 (some 51) hs (by kernel_rfl) (by kernel_rfl) (by kernel_rfl) (by kernel_rfl) rfl (Sl.lift (fun w ho => (Ow.to (S' := rowp A_23 1 106 3 Tapi_Span.cells ([(⟨x0.openF, x0.fromF, v_22⟩ : Tapi_Span)] : List Tapi_Span) :: S) ho [0] 6 (by kernel_rfl) (by kernel_rfl))) (Ow.rowSl 0 (Ow.to (S' := rowp A_23 1 106 3 Tapi_Span.cells ([(⟨x0.openF, x0.fromF, v_22⟩ : Tapi_Span)] : List Tapi_Span) :: S) hs.own [0] 6 (by kernel_rfl) (by kernel_rfl)) rfl)) (by kernel_rfl) (by kernel_rfl) (by decide) (by decide) h_25 fun A_26 c_27 w a hs => ?_)
    replace hcl := qO hC_19 hs.own.f5.drop.drop
    refine ⟨fun _ => hcl, ?_⟩
    refine Vk.dOnly (i := 18) (by kernel_rfl) (Vk.dPure1 [(52, pp b_x0)] hs (by kernel_rfl) fun a hs => ?_)
    refine ⟨fun h => absurd h (by decide), ?_⟩
    refine Vk.dOnly (i := 19) (by kernel_rfl) (Vk.dPure1 [(53, .pointer (some ⟨b_x0, 12, none⟩))] hs (by kernel_rfl) fun a hs => ?_)
    refine ⟨fun h => absurd h (by decide), ?_⟩
    refine qsd 20 1 12 (C.slc A_26 ((x0.blocks ++ ([(⟨x0.openF, x0.fromF, v_22⟩ : Tapi_Span)] : List Tapi_Span)).length) c_27) hs rfl fun a w hs => ?_
    refine ⟨fun h => absurd h (by decide), ?_⟩
    replace hs := hs.pick [0] (L' := [(0, pp b_x0)]) (by kernel_rfl)
    refine Vk.dDone (by kernel_rfl) ?_
    replace hs := hs.bagG (l := Twire_Machine.parts b_x0 (⟨x0.n, x0.most, x0.base, x0.words, x0.draws, x0.dry, x0.openF, x0.fromF, x0.bad, x0.tape, x0.ops, x0.values, x0.blocks ++ ([(⟨x0.openF, x0.fromF, v_22⟩ : Tapi_Span)] : List Tapi_Span)⟩ : Twire_Machine) (g_3.1, g_3.2.1, g_3.2.2.1, g_3.2.2.2.1, g_3.2.2.2.2.1, A_26, c_27)) (S' := rowp A_23 1 106 3 Tapi_Span.cells ([(⟨x0.openF, x0.fromF, v_22⟩ : Tapi_Span)] : List Tapi_Span) :: S) hs.own.f5.f5.f5.f5.f5
    replace hs := hs.toEx (Twire_Machine.parts b_x0 (⟨x0.n, x0.most, x0.base, x0.words, x0.draws, x0.dry, x0.openF, x0.fromF, x0.bad, x0.tape, x0.ops, x0.values, x0.blocks ++ ([(⟨x0.openF, x0.fromF, v_22⟩ : Tapi_Span)] : List Tapi_Span)⟩ : Twire_Machine)) (g_3.1, g_3.2.1, g_3.2.2.1, g_3.2.2.2.1, g_3.2.2.2.2.1, A_26, c_27) 0 rfl
    exact hj12 (⟨x0.n, x0.most, x0.base, x0.words, x0.draws, x0.dry, x0.openF, x0.fromF, x0.bad, x0.tape, x0.ops, x0.values, x0.blocks ++ ([(⟨x0.openF, x0.fromF, v_22⟩ : Tapi_Span)] : List Tapi_Span)⟩ : Twire_Machine) hm _ _ (hs.go [0] [0] 2 (by kernel_rfl) (by kernel_rfl) (by kernel_rfl))
   ·replace hm := bif_f hm hb
    refine wp_skip ?_
    replace hs := hs.bagG (l := Twire_Machine.parts b_x0 x0 g_3) (S' := S) hs.own
    replace hs := hs.toEx (Twire_Machine.parts b_x0 x0) g_3 0 rfl
    exact hj12 x0 hm _ _ (hs.go [0] [0] 1 (by kernel_rfl) (by kernel_rfl) (by kernel_rfl))


def share_Encode.l1 : Nat → Twire_Machine → Cells → Int → Option (Twire_Machine × Cells)
 | 0, _, _, _ => none
 | k + 1, q_16, q_17, q_18 => (wire_Machine_N.m k q_16).bind fun v_24 => (bif decide (q_18 < v_24) then (wire_Machine_Rand.m k q_16 q_18).bind fun v_28 => (if 0 ≤ q_18 ∧ q_18 < 3 then (if 0 + q_18.toNat * 1 < q_17.length then share_Encode.l1 k v_28.2 (q_17.set (0 + q_18.toNat * 1) (ci v_28.1)) (IntKind.i64.wrap (q_18 + 1)) else none) else none) else some (q_16, q_17))
abbrev share_Encode.R (κ : Ctx) (S : List HP) (x0 : Twire_Machine) (x1 : Int) (b_x0 : Nat) (r : (Cells × Twire_Machine)) : Ending → World → Prop := fun e w' => e = .returned (.agg (vals r.1)) ∧ Ow κ w' (Twire_Machine.own b_x0 r.2 :: S)
def share_Encode.m (k : Nat) (x0 : Twire_Machine) (x1 : Int) : Option (Cells × Twire_Machine) := (share_none.m k).bind fun v_6 => (if v_6.length = 3 then (wire_Machine_Begin.m k x0 1).bind fun v_12 => (share_Encode.l1 k v_12 v_6 1).bind fun x => match x with | (p_31, p_32) => (getI .i64 p_32 (1)).bind fun v_38 => (getI .i64 p_32 (2)).bind fun v_40 => (wire_Machine_Key.m k p_31 x1 v_38 v_40).bind fun v_43 => (if 0 < p_32.length then (wire_Machine_End.m k v_43.2).bind fun v_48 => (if (p_32.set (0) (ci v_43.1)).length = 3 then some ((p_32.set (0) (ci v_43.1)), v_48) else none) else none) else none)

set_option maxRecDepth 100000 in
set_option maxHeartbeats 4000000 in
theorem share_Encode.ok (k : Nat) (x0 : Twire_Machine) (x1 : Int) (r : (Cells × Twire_Machine)) (hm : share_Encode.m k x0 x1 = some r) (κ : Ctx) (w : World) (S : List HP) (b_x0 : Nat) (ho : Ow κ w (Twire_Machine.own b_x0 x0 :: S)) :
  Calls Tryz.prog 43 #[pp b_x0, vw x1] w (share_Encode.R κ S x0 x1 b_x0 r) := by
 unfold share_Encode.m at hm
 generalize hRR : share_Encode.R κ S x0 x1 b_x0 r = RR
 refine qen [(0, pp b_x0), (1, vw x1)] Tryz.func43 Tryz.ntmps43 ho fun a hs => ?_
 refine qsr fun K1 hK1 => ?_
 refine qal 75 [ci 0, ci 0, ci 0] 4 hs fun b_2 w a hs => ?_
 refine qpk 0 [0, 1, 4] hs fun a hs => hK1 _ _ ?_
 clear hK1
 refine qsr fun K3 hK3 => ?_
 obtain ⟨v_6, h_5, hm⟩ := bind_t hm
 refine qcl (share_none.ok _ _ h_5 _ _ (pt b_2 (blk [ci 0, ci 0, ci 0] 75) :: Twire_Machine.own b_x0 x0 :: S) hs.own) hs fun w a hs => ?_
 refine qal 75 [ci 0, ci 0, ci 0] 5 hs fun b_7 w a hs => ?_
 obtain ⟨h_8, hm⟩ := ite_t hm
 refine qsb 0 v_6 hs rfl h_8 rfl fun a w hs => ?_
 refine qpk 0 [0, 1, 4, 5] hs fun a hs => hK3 _ _ ?_
 clear hK3
 refine qsr fun K9 hK9 => ?_
 refine qpu 1 hs fun a hs => ?_
 obtain ⟨v_12, h_11, hm⟩ := bind_t hm
 refine qcl (wire_Machine_Begin.ok _ _ _ _ h_11 _ _ _ b_x0 hs.own.f2) hs fun w a hs => ?_
 refine qpk 0 [0, 1, 4, 5] hs fun a hs => hK9 _ _ ?_
 clear hK9
 refine Vk.seq fun K13 hK13 => ?_
 refine qsk 1 [0, 1, 4, 5, 6] hs fun a hs => ?_
 refine wp_block ?_
 obtain ⟨r15, hl15, hm⟩ := bind_t hm
 have hx15 : ∀ (p_31 : Twire_Machine) (p_32 : Cells), r15 = (p_31, p_32) → ∀ (a : Act) (w : World), St 36 a w κ [(0, pp b_x0), (1, vw x1), (4, pp b_2), (5, pp b_7)] (Twire_Machine.own b_x0 p_31 :: pt b_2 (blk [ci 0, ci 0, ci 0] 75) :: pt b_7 (blk p_32 75) :: S) → K13 a w := by
  intro p_31 p_32 he a w hs
  subst r15
  refine hK13 _ _ ?_
  clear hK13
  refine qsr fun K36 hK36 => ?_
  refine qpu 4 hs fun a hs => ?_
  obtain ⟨v_38, h_37, hm⟩ := bind_t hm
  refine qli 2 hs rfl h_37 fun a hs => ?_
  refine qpu 2 hs fun a hs => ?_
  obtain ⟨v_40, h_39, hm⟩ := bind_t hm
  refine qli 2 hs rfl h_39 fun a hs => ?_
  obtain ⟨v_43, h_42, hm⟩ := bind_t hm
  refine qcl (wire_Machine_Key.ok _ _ _ _ _ _ h_42 _ _ _ b_x0 hs.own) hs fun w a hs => ?_
  refine qpu 2 hs fun a hs => ?_
  obtain ⟨h_44, hm⟩ := ite_t hm
  refine Vk.step (Vk.store1 (b := b_7) (ty := 3) (x := (.tmp 32)) (y := (.tmp 30)) (off := 0) (ci v_43.1) 2 hs (by kernel_rfl) (by kernel_rfl) (by kernel_rfl) (by kernel_rfl) (by kernel_rfl) (by kernel_rfl) rfl h_44 fun a w hs => ?_)
  refine qpk 0 [0, 4, 5] hs fun a hs => hK36 _ _ ?_
  clear hK36
  refine qsr fun K45 hK45 => ?_
  refine qpu 1 hs fun a hs => ?_
  obtain ⟨v_48, h_47, hm⟩ := bind_t hm
  refine qcl (wire_Machine_End.ok _ _ _ h_47 _ _ _ b_x0 hs.own) hs fun w a hs => ?_
  refine qpe 0 [(4, pp b_2), (5, pp b_7)] hs fun a hs => hK45 _ _ ?_
  clear hK45
  refine qsr fun K49 hK49 => ?_
  obtain ⟨h_50, hm⟩ := ite_t hm
  refine qlw 2 hs rfl h_50 fun a hs => ?_
  refine qsb 1 (p_32.set (0) (ci v_43.1)) hs rfl h_50 rfl fun a w hs => ?_
  refine qpe 0 [(4, pp b_2)] hs fun a hs => hK49 _ _ ?_
  clear hK49
  refine wp_ret ?_
  exact Vk.retC (p_32.set (0) (ci v_43.1)) hs rfl (by kernel_rfl) (sz := 3) (by kernel_rfl) h_50 (CellsAt.all 1 rfl) (hRR ▸ by cases hm; exact ⟨rfl, hs.own.f2.drop.f1.drop⟩)
 refine Vk.loopBy (fun k (s : Twire_Machine × Cells × Int) a w => share_Encode.l1 k s.1 s.2.1 s.2.2 = some r15 ∧ St 36 a w κ [(0, pp b_x0), (1, vw x1), (4, pp b_2), (5, pp b_7), (6, vi s.2.2)] (Twire_Machine.own b_x0 s.1 :: pt b_2 (blk [ci 0, ci 0, ci 0] 75) :: pt b_7 (blk s.2.1 75) :: S)) k (v_12, v_6, 1) ⟨hl15, hs.go [0, 1, 4, 5, 6] [0, 2, 1] 3 (by kernel_rfl) (by kernel_rfl) (by kernel_rfl)⟩ (fun s a w h => by obtain ⟨h1, _⟩ := h; simp [share_Encode.l1] at h1) (fun k KL15 ih s a w h => ?_)
 obtain ⟨q_16, q_17, q_18⟩ := s
 obtain ⟨hm, hs⟩ := h
 try dsimp only at hm hs
 rw [share_Encode.l1] at hm
 refine Vk.seq fun K19 hK19 => ?_
 refine qsr fun K20 hK20 => ?_
 refine qpu 2 hs fun a hs => ?_
 obtain ⟨g_21, hs⟩ := hs.unex 0 rfl
 obtain ⟨v_24, h_23, hm⟩ := bind_t hm
 refine qcl (wire_Machine_N.ok _ _ _ h_23 _ _ _ b_x0 g_21 hs.own) hs fun w a hs => ?_
 refine qpk 1 [0, 1, 4, 5, 6, 13] hs fun a hs => hK20 _ _ ?_
 clear hK20
 refine qcs (decide (q_18 < v_24)) hs (fun hb => ?_) fun hb => ?_
 ·replace hm := bif_t hm hb
  refine wp_skip ?_
  refine hK19 _ _ ?_
  clear hK19
  refine Vk.seq fun K25 hK25 => ?_
  refine wp_block ?_
  refine Vk.region ?_
  refine qpu 3 hs fun a hs => ?_
  replace hs := hs.toEx (Twire_Machine.parts b_x0 q_16) g_21 0 rfl
  obtain ⟨v_28, h_27, hm⟩ := bind_t hm
  refine qcl (wire_Machine_Rand.ok _ _ _ _ h_27 _ _ _ b_x0 hs.own) hs fun w a hs => ?_
  refine qpu 1 hs fun a hs => ?_
  obtain ⟨h_29, hm⟩ := ite_t hm
  refine qix b_7 0 1 hs h_29 fun a hs => ?_
  obtain ⟨h_30, hm⟩ := ite_t hm
  refine Vk.step (Vk.store1 (b := b_7) (ty := 3) (x := (.tmp 21)) (y := (.tmp 19)) (off := 0 + q_18.toNat * 1) (ci v_28.1) 2 hs (by kernel_rfl) (by kernel_rfl) (by kernel_rfl) (by kernel_rfl) (by kernel_rfl) (by kernel_rfl) rfl h_30 fun a w hs => ?_)
  refine qpk 0 [0, 1, 4, 5, 6] hs fun a hs => hK25 _ _ ?_
  clear hK25
  refine Vk.region ?_
  refine qpk 3 [0, 1, 4, 5, 6] hs fun a hs => ?_
  refine ih (v_28.2, (q_17.set (0 + q_18.toNat * 1) (ci v_28.1)), (IntKind.i64.wrap (q_18 + 1))) _ _ ⟨hm, hs.go [0, 1, 4, 5, 6] [0, 1, 2] 3 (by kernel_rfl) (by kernel_rfl) (by kernel_rfl)⟩
 ·replace hm := bif_f hm hb
  refine wp_exit ?_
  replace hs := hs.toEx (Twire_Machine.parts b_x0 q_16) g_21 0 rfl
  exact hx15 q_16 q_17 (Option.some.inj hm).symm _ _ (hs.go [0, 1, 4, 5] [0, 1, 2] 3 (by kernel_rfl) (by kernel_rfl) (by kernel_rfl))


abbrev wire_Machine_Const.R (κ : Ctx) (S : List HP) (x0 : Twire_Machine) (x1 : Int) (x2 : Int) (b_x0 : Nat) (r : (Int × Twire_Machine)) : Ending → World → Prop := fun e w' => e = .returned (vi r.1) ∧ Ow κ w' (Twire_Machine.own b_x0 r.2 :: S)
def wire_Machine_Const.m (k : Nat) (x0 : Twire_Machine) (x1 : Int) (x2 : Int) : Option (Int × Twire_Machine) := (wire_Machine_Do.m k x0 (⟨3, x1, (-1), (-1), (-1), x2⟩ : Tapi_Op) 0).bind fun v_5 => some (v_5.1, v_5.2)

set_option maxRecDepth 100000 in
set_option maxHeartbeats 4000000 in
theorem wire_Machine_Const.ok (k : Nat) (x0 : Twire_Machine) (x1 : Int) (x2 : Int) (r : (Int × Twire_Machine)) (hm : wire_Machine_Const.m k x0 x1 x2 = some r) (κ : Ctx) (w : World) (S : List HP) (b_x0 : Nat) (ho : Ow κ w (Twire_Machine.own b_x0 x0 :: S)) :
  Calls Tryz.prog 83 #[pp b_x0, vi x1, vw x2] w (wire_Machine_Const.R κ S x0 x1 x2 b_x0 r) := by
 unfold wire_Machine_Const.m at hm
 generalize hRR : wire_Machine_Const.R κ S x0 x1 x2 b_x0 r = RR
 refine qen [(0, pp b_x0), (1, vi x1), (2, vw x2)] Tryz.func83 Tryz.ntmps83 ho fun a hs => ?_
 refine qsk 1 [0, 1, 2] hs fun a hs => ?_
 refine qsr fun K2 hK2 => ?_
 refine qpu 4 hs fun a hs => ?_
 obtain ⟨v_5, h_4, hm⟩ := bind_t hm
 refine qcl (wire_Machine_Do.ok _ _ _ _ _ h_4 _ _ _ b_x0 hs.own) hs fun w a hs => ?_
 refine qpe 1 [(6, vi v_5.1)] hs fun a hs => hK2 _ _ ?_
 clear hK2
 refine wp_ret ?_
 exact qr1 (vi v_5.1) hs rfl hRR (by cases hm; exact ⟨rfl, hs.own⟩)


def share_Public.j1 (k : Nat) (rec21 : Twire_Machine → Cells → Int → Option (Cells × Twire_Machine)) (q_23 : Cells) (q_24 : Int) (p_41 : Int) (p_42 : Twire_Machine) : Option (Cells × Twire_Machine) := (if 0 ≤ q_24 ∧ q_24 < 3 then (if 0 + q_24.toNat * 1 < q_23.length then rec21 p_42 (q_23.set (0 + q_24.toNat * 1) (ci p_41)) (IntKind.i64.wrap (q_24 + 1)) else none) else none)
def share_Public.l1 (x1 : Int) (v_20 : Int) : Nat → Twire_Machine → Cells → Int → Option (Cells × Twire_Machine)
 | 0, _, _, _ => none
 | k + 1, q_22, q_23, q_24 => (bif decide (q_24 < v_20) then (bif decide (q_24 > 0) then (wire_Machine_Const.m k q_22 q_24 0).bind fun v_36 => share_Public.j1 k (share_Public.l1 x1 v_20 k) q_23 q_24 v_36.1 v_36.2 else (wire_Machine_Const.m k q_22 q_24 x1).bind fun v_40 => share_Public.j1 k (share_Public.l1 x1 v_20 k) q_23 q_24 v_40.1 v_40.2) else some (q_23, q_22))
abbrev share_Public.R (κ : Ctx) (S : List HP) (x0 : Twire_Machine) (x1 : Int) (b_x0 : Nat) (r : (Cells × Twire_Machine)) : Ending → World → Prop := fun e w' => e = .returned (.agg (vals r.1)) ∧ Ow κ w' (Twire_Machine.own b_x0 r.2 :: S)
def share_Public.m (k : Nat) (x0 : Twire_Machine) (x1 : Int) : Option (Cells × Twire_Machine) := (share_none.m k).bind fun v_12 => (if v_12.length = 3 then (wire_Machine_N.m k x0).bind fun v_20 => (share_Public.l1 x1 v_20 k x0 v_12 0).bind fun x => match x with | (p_45, p_46) => (if p_45.length = 3 then some (p_45, p_46) else none) else none)

set_option maxRecDepth 100000 in
set_option maxHeartbeats 4000000 in
theorem share_Public.ok (k : Nat) (x0 : Twire_Machine) (x1 : Int) (r : (Cells × Twire_Machine)) (hm : share_Public.m k x0 x1 = some r) (κ : Ctx) (w : World) (S : List HP) (b_x0 : Nat) (ho : Ow κ w (Twire_Machine.own b_x0 x0 :: S)) :
  Calls Tryz.prog 44 #[pp b_x0, vw x1] w (share_Public.R κ S x0 x1 b_x0 r) := by
 unfold share_Public.m at hm
 generalize hRR : share_Public.R κ S x0 x1 b_x0 r = RR
 refine qen [(0, pp b_x0), (1, vw x1)] Tryz.func44 Tryz.ntmps44 ho fun a hs => ?_
 refine qsr fun K1 hK1 => ?_
 refine qbx 0 48 [cp b_x0] 2 hs fun b_2 w a hs => ?_
 refine qbx 1 34 [cw x1] 3 hs fun b_3 w a hs => ?_
 refine qal 75 [ci 0, ci 0, ci 0] 4 hs fun b_4 w a hs => ?_
 refine qpk 0 [2, 3, 4] hs fun a hs => hK1 _ _ ?_
 clear hK1
 refine qsr fun K5 hK5 => ?_
 refine qld 2 (cp b_x0) hs rfl fun a hs => ?_
 refine qpu 1 hs fun a hs => ?_
 refine Vk.step (Vk.call (some 7) 81 #[pp b_x0, .func (.func 82) #[] #[pp b_2, pp b_3]] hs (by kernel_rfl) (by kernel_rfl) (by kernel_rfl) ?_)
 refine Vk.enterI [(0, pp b_x0), (1, .func (.func 82) #[] #[pp b_2, pp b_3])] Tryz.func81 rfl Tryz.ntmps81 (by kernel_rfl) (Nat.le_of_ble_eq_true (by kernel_rfl)) hs.own fun KR6 hKR6 hKP6 a hs => ?_
 refine qsr fun K7 hK7 => ?_
 refine qal 75 [ci 0, ci 0, ci 0] 4 hs fun b_8 w a hs => ?_
 refine qpk 0 [0, 1, 4] hs fun a hs => hK7 _ _ ?_
 clear hK7
 refine qsr fun K9 hK9 => ?_
 obtain ⟨v_12, h_11, hm⟩ := bind_t hm
 refine qcl (share_none.ok _ _ h_11 _ _ (pt b_8 (blk [ci 0, ci 0, ci 0] 75) :: pt b_4 (blk [ci 0, ci 0, ci 0] 75) :: pt b_3 (blk [cw x1] 34) :: pt b_2 (blk [cp b_x0] 48) :: Twire_Machine.own b_x0 x0 :: S) hs.own) hs fun w a hs => ?_
 refine qal 75 [ci 0, ci 0, ci 0] 5 hs fun b_13 w a hs => ?_
 obtain ⟨h_14, hm⟩ := ite_t hm
 refine qsb 0 v_12 hs rfl h_14 rfl fun a w hs => ?_
 refine qpe 0 [(0, pp b_x0), (1, .func (.func 82) #[] #[pp b_2, pp b_3]), (4, pp b_8), (5, pp b_13)] hs fun a hs => hK9 _ _ ?_
 clear hK9
 refine Vk.seq fun K15 hK15 => ?_
 refine qsr fun K16 hK16 => ?_
 refine qpu 1 hs fun a hs => ?_
 obtain ⟨g_17, hs⟩ := hs.unex 5 rfl
 obtain ⟨v_20, h_19, hm⟩ := bind_t hm
 refine qcl (wire_Machine_N.ok _ _ _ h_19 _ _ _ b_x0 g_17 hs.own.f5) hs fun w a hs => ?_
 refine qpk 1 [1, 4, 5, 9, 10] hs fun a hs => hK16 _ _ ?_
 clear hK16
 refine wp_block ?_
 replace hs := hs.toEx (Twire_Machine.parts b_x0 x0) g_17 0 rfl
 obtain ⟨r21, hl21, hm⟩ := bind_t hm
 have hx21 : ∀ (p_45 : Cells) (p_46 : Twire_Machine), r21 = (p_45, p_46) → ∀ (a : Act) (w : World), St 21 a w κ [(4, pp b_8), (5, pp b_13)] (pt b_8 (blk [ci 0, ci 0, ci 0] 75) :: pt b_13 (blk p_45 75) :: Twire_Machine.own b_x0 p_46 :: pt b_2 (blk [cp b_x0] 48) :: pt b_3 (blk [cw x1] 34) :: pt b_4 (blk [ci 0, ci 0, ci 0] 75) :: S) → K15 a w := by
  intro p_45 p_46 he a w hs
  subst r21
  refine hK15 _ _ ?_
  clear hK15
  refine qsr fun K50 hK50 => ?_
  obtain ⟨h_51, hm⟩ := ite_t hm
  refine qlw 1 hs rfl h_51 fun a hs => ?_
  refine qsb 0 p_45 hs rfl h_51 rfl fun a w hs => ?_
  refine qpe 0 [(4, pp b_8)] hs fun a hs => hK50 _ _ ?_
  clear hK50
  refine wp_ret ?_
  refine hKP6 _ _ ?_
  refine hKR6 _ _ ?_
  refine Vk.retC (P := Tryz.prog) (fn := Tryz.f81) p_45 hs rfl (by kernel_rfl) (sz := 3) (by kernel_rfl) h_51 (CellsAt.all 0 rfl) ⟨_, _, _, rfl, hs.own, fun a hs => ?_⟩
  refine qsb 5 p_45 hs rfl h_51 rfl fun a w hs => ?_
  refine qpe 0 [(4, pp b_4)] hs fun a hs => hK5 _ _ ?_
  clear hK5
  refine wp_ret ?_
  exact Vk.retC p_45 hs rfl (by kernel_rfl) (sz := 3) (by kernel_rfl) h_51 (CellsAt.all 5 rfl) (hRR ▸ by cases hm; exact ⟨rfl, (hs.own.too [2] 6)⟩)
 refine Vk.loopBy (fun k (s : Twire_Machine × Cells × Int) a w => share_Public.l1 x1 v_20 k s.1 s.2.1 s.2.2 = some r21 ∧ St 21 a w κ [(1, .func (.func 82) #[] #[pp b_2, pp b_3]), (4, pp b_8), (5, pp b_13), (9, vi v_20), (10, vi s.2.2)] (pt b_2 (blk [cp b_x0] 48) :: Twire_Machine.own b_x0 s.1 :: pt b_3 (blk [cw x1] 34) :: pt b_8 (blk [ci 0, ci 0, ci 0] 75) :: pt b_13 (blk s.2.1 75) :: pt b_4 (blk [ci 0, ci 0, ci 0] 75) :: S)) k (x0, v_12, 0) ⟨hl21, hs.go [1, 4, 5, 9, 10] [5, 0, 4, 2, 1, 3] 6 (by kernel_rfl) (by kernel_rfl) (by kernel_rfl)⟩ (fun s a w h => by obtain ⟨h1, _⟩ := h; simp [share_Public.l1] at h1) (fun k KL21 ih s a w h => ?_)
 obtain ⟨q_22, q_23, q_24⟩ := s
 obtain ⟨hm, hs⟩ := h
 try dsimp only at hm hs
 rw [share_Public.l1] at hm
 refine qsk 1 [1, 4, 5, 9, 10, 11] hs fun a hs => ?_
 refine Vk.seq fun K26 hK26 => ?_
 refine qcs (decide (q_24 < v_20)) hs (fun hb => ?_) fun hb => ?_
 ·replace hm := bif_t hm hb
  refine wp_skip ?_
  refine hK26 _ _ ?_
  clear hK26
  refine Vk.seq fun K27 hK27 => ?_
  refine wp_block ?_
  refine qsk 2 [1, 4, 5, 6, 9, 10] hs fun a hs => ?_
  refine Vk.region ?_
  refine qpu 3 hs fun a hs => ?_
  refine Vk.step (Vk.call (some 16) 82 #[vi q_24, pp b_2, pp b_3] hs (by kernel_rfl) (by kernel_rfl) (by kernel_rfl) ?_)
  refine Vk.enterI [(0, vi q_24), (1, pp b_2), (2, pp b_3)] Tryz.func82 rfl Tryz.ntmps82 (by kernel_rfl) (Nat.le_of_ble_eq_true (by kernel_rfl)) hs.own fun KR29 hKR29 hKP29 a hs => ?_
  have hj29 : ∀ (p_41 : Int) (p_42 : Twire_Machine), share_Public.j1 k (share_Public.l1 x1 v_20 k) q_23 q_24 p_41 p_42 = some r21 → ∀ (a : Act) (w : World), St 14 a w κ [(4, vi p_41)] (Twire_Machine.own b_x0 p_42 :: pt b_2 (blk [cp b_x0] 48) :: pt b_3 (blk [cw x1] 34) :: pt b_4 (blk [ci 0, ci 0, ci 0] 75) :: pt b_8 (blk [ci 0, ci 0, ci 0] 75) :: pt b_13 (blk q_23 75) :: S) → KR29 a w := by
   intro p_41 p_42 hm a w hs
   unfold share_Public.j1 at hm
   refine hKR29 _ _ ?_
   refine Vk.ret1 (P := Tryz.prog) (fn := Tryz.f82) (vi p_41) hs rfl (by kernel_rfl) ⟨_, _, _, rfl, hs.own, fun a hs => ?_⟩
   refine qpu 1 hs fun a hs => ?_
   obtain ⟨h_43, hm⟩ := ite_t hm
   refine qix b_13 0 1 hs h_43 fun a hs => ?_
   obtain ⟨h_44, hm⟩ := ite_t hm
   refine Vk.step (Vk.store1 (b := b_13) (ty := 3) (x := (.tmp 18)) (y := (.tmp 16)) (off := 0 + q_24.toNat * 1) (ci p_41) 5 hs (by kernel_rfl) (by kernel_rfl) (by kernel_rfl) (by kernel_rfl) (by kernel_rfl) (by kernel_rfl) rfl h_44 fun a w hs => ?_)
   refine qpk 0 [1, 4, 5, 9, 10] hs fun a hs => hK27 _ _ ?_
   clear hK27
   refine Vk.region ?_
   refine qpk 2 [1, 4, 5, 9, 10] hs fun a hs => ?_
   refine ih (p_42, (q_23.set (0 + q_24.toNat * 1) (ci p_41)), (IntKind.i64.wrap (q_24 + 1))) _ _ ⟨hm, hs.go [1, 4, 5, 9, 10] [1, 0, 2, 4, 5, 3] 6 (by kernel_rfl) (by kernel_rfl) (by kernel_rfl)⟩
  refine qsk 1 [0, 1, 2] hs fun a hs => ?_
  refine Vk.seq fun K31 hK31 => ?_
  refine qse 2 [(0, vi q_24), (1, pp b_2), (2, pp b_3), (6, .bool (decide (q_24 > 0)))] hs fun a hs => ?_
  refine qcs (decide (q_24 > 0)) hs (fun hb => ?_) fun hb => ?_
  ·replace hm := bif_t hm hb
   refine qsr fun K33 hK33 => ?_
   refine qld 0 (cp b_x0) hs rfl fun a hs => ?_
   refine qpu 1 hs fun a hs => ?_
   obtain ⟨v_36, h_35, hm⟩ := bind_t hm
   refine qcl (wire_Machine_Const.ok _ _ _ _ _ h_35 _ _ _ b_x0 hs.own.f1) hs fun w a hs => ?_
   refine qpe 1 [(4, vi v_36.1)] hs fun a hs => hK33 _ _ ?_
   clear hK33
   refine wp_ret ?_
   refine hKP29 _ _ ?_
   exact hj29 v_36.1 v_36.2 hm _ _ (hs.go [4] [0, 1, 2, 5, 3, 4] 6 (by kernel_rfl) (by kernel_rfl) (by kernel_rfl))
  ·replace hm := bif_f hm hb
   refine wp_skip ?_
   refine hK31 _ _ ?_
   clear hK31
   refine qsr fun K37 hK37 => ?_
   refine qld 0 (cp b_x0) hs rfl fun a hs => ?_
   refine qpu 1 hs fun a hs => ?_
   refine qld 2 (cw x1) hs rfl fun a hs => ?_
   obtain ⟨v_40, h_39, hm⟩ := bind_t hm
   refine qcl (wire_Machine_Const.ok _ _ _ _ _ h_39 _ _ _ b_x0 hs.own.f1) hs fun w a hs => ?_
   refine qpe 1 [(4, vi v_40.1)] hs fun a hs => hK37 _ _ ?_
   clear hK37
   refine wp_ret ?_
   refine hKP29 _ _ ?_
   exact hj29 v_40.1 v_40.2 hm _ _ (hs.go [4] [0, 1, 2, 5, 3, 4] 6 (by kernel_rfl) (by kernel_rfl) (by kernel_rfl))
 ·replace hm := bif_f hm hb
  refine wp_exit ?_
  exact hx21 q_23 q_22 (Option.some.inj hm).symm _ _ (hs.go [4, 5] [3, 4, 1, 0, 2, 5] 6 (by kernel_rfl) (by kernel_rfl) (by kernel_rfl))


abbrev wire_Machine_Told.R (κ : Ctx) (S : List HP) (x0 : Twire_Machine) (x1 : Int) (x2 : Int) (b_x0 : Nat) (r : (Int × Twire_Machine)) : Ending → World → Prop := fun e w' => e = .returned (vi r.1) ∧ Ow κ w' (Twire_Machine.own b_x0 r.2 :: S)
def wire_Machine_Told.m (k : Nat) (x0 : Twire_Machine) (x1 : Int) (x2 : Int) : Option (Int × Twire_Machine) := (wire_Machine_Do.m k x0 (⟨4, x1, (-1), (-1), (-1), x2⟩ : Tapi_Op) 0).bind fun v_5 => some (v_5.1, v_5.2)

set_option maxRecDepth 100000 in
set_option maxHeartbeats 4000000 in
theorem wire_Machine_Told.ok (k : Nat) (x0 : Twire_Machine) (x1 : Int) (x2 : Int) (r : (Int × Twire_Machine)) (hm : wire_Machine_Told.m k x0 x1 x2 = some r) (κ : Ctx) (w : World) (S : List HP) (b_x0 : Nat) (ho : Ow κ w (Twire_Machine.own b_x0 x0 :: S)) :
  Calls Tryz.prog 85 #[pp b_x0, vi x1, vw x2] w (wire_Machine_Told.R κ S x0 x1 x2 b_x0 r) := by
 unfold wire_Machine_Told.m at hm
 generalize hRR : wire_Machine_Told.R κ S x0 x1 x2 b_x0 r = RR
 refine qen [(0, pp b_x0), (1, vi x1), (2, vw x2)] Tryz.func85 Tryz.ntmps85 ho fun a hs => ?_
 refine qsk 1 [0, 1, 2] hs fun a hs => ?_
 refine qsr fun K2 hK2 => ?_
 refine qpu 4 hs fun a hs => ?_
 obtain ⟨v_5, h_4, hm⟩ := bind_t hm
 refine qcl (wire_Machine_Do.ok _ _ _ _ _ h_4 _ _ _ b_x0 hs.own) hs fun w a hs => ?_
 refine qpe 1 [(6, vi v_5.1)] hs fun a hs => hK2 _ _ ?_
 clear hK2
 refine wp_ret ?_
 exact qr1 (vi v_5.1) hs rfl hRR (by cases hm; exact ⟨rfl, hs.own⟩)


def share_Told.j1 (k : Nat) (rec21 : Twire_Machine → Cells → Int → Option (Cells × Twire_Machine)) (q_23 : Cells) (q_24 : Int) (p_41 : Int) (p_42 : Twire_Machine) : Option (Cells × Twire_Machine) := (if 0 ≤ q_24 ∧ q_24 < 3 then (if 0 + q_24.toNat * 1 < q_23.length then rec21 p_42 (q_23.set (0 + q_24.toNat * 1) (ci p_41)) (IntKind.i64.wrap (q_24 + 1)) else none) else none)
def share_Told.l1 (x1 : Int) (v_20 : Int) : Nat → Twire_Machine → Cells → Int → Option (Cells × Twire_Machine)
 | 0, _, _, _ => none
 | k + 1, q_22, q_23, q_24 => (bif decide (q_24 < v_20) then (bif decide (q_24 > 0) then (wire_Machine_Const.m k q_22 q_24 0).bind fun v_36 => share_Told.j1 k (share_Told.l1 x1 v_20 k) q_23 q_24 v_36.1 v_36.2 else (wire_Machine_Told.m k q_22 q_24 x1).bind fun v_40 => share_Told.j1 k (share_Told.l1 x1 v_20 k) q_23 q_24 v_40.1 v_40.2) else some (q_23, q_22))
abbrev share_Told.R (κ : Ctx) (S : List HP) (x0 : Twire_Machine) (x1 : Int) (b_x0 : Nat) (r : (Cells × Twire_Machine)) : Ending → World → Prop := fun e w' => e = .returned (.agg (vals r.1)) ∧ Ow κ w' (Twire_Machine.own b_x0 r.2 :: S)
def share_Told.m (k : Nat) (x0 : Twire_Machine) (x1 : Int) : Option (Cells × Twire_Machine) := (share_none.m k).bind fun v_12 => (if v_12.length = 3 then (wire_Machine_N.m k x0).bind fun v_20 => (share_Told.l1 x1 v_20 k x0 v_12 0).bind fun x => match x with | (p_45, p_46) => (if p_45.length = 3 then some (p_45, p_46) else none) else none)

set_option maxRecDepth 100000 in
set_option maxHeartbeats 4000000 in
theorem share_Told.ok (k : Nat) (x0 : Twire_Machine) (x1 : Int) (r : (Cells × Twire_Machine)) (hm : share_Told.m k x0 x1 = some r) (κ : Ctx) (w : World) (S : List HP) (b_x0 : Nat) (ho : Ow κ w (Twire_Machine.own b_x0 x0 :: S)) :
  Calls Tryz.prog 45 #[pp b_x0, vw x1] w (share_Told.R κ S x0 x1 b_x0 r) := by
 unfold share_Told.m at hm
 generalize hRR : share_Told.R κ S x0 x1 b_x0 r = RR
 refine qen [(0, pp b_x0), (1, vw x1)] Tryz.func45 Tryz.ntmps45 ho fun a hs => ?_
 refine qsr fun K1 hK1 => ?_
 refine qbx 0 48 [cp b_x0] 2 hs fun b_2 w a hs => ?_
 refine qbx 1 34 [cw x1] 3 hs fun b_3 w a hs => ?_
 refine qal 75 [ci 0, ci 0, ci 0] 4 hs fun b_4 w a hs => ?_
 refine qpk 0 [2, 3, 4] hs fun a hs => hK1 _ _ ?_
 clear hK1
 refine qsr fun K5 hK5 => ?_
 refine qld 2 (cp b_x0) hs rfl fun a hs => ?_
 refine qpu 1 hs fun a hs => ?_
 refine Vk.step (Vk.call (some 7) 81 #[pp b_x0, .func (.func 84) #[] #[pp b_2, pp b_3]] hs (by kernel_rfl) (by kernel_rfl) (by kernel_rfl) ?_)
 refine Vk.enterI [(0, pp b_x0), (1, .func (.func 84) #[] #[pp b_2, pp b_3])] Tryz.func81 rfl Tryz.ntmps81 (by kernel_rfl) (Nat.le_of_ble_eq_true (by kernel_rfl)) hs.own fun KR6 hKR6 hKP6 a hs => ?_
 refine qsr fun K7 hK7 => ?_
 refine qal 75 [ci 0, ci 0, ci 0] 4 hs fun b_8 w a hs => ?_
 refine qpk 0 [0, 1, 4] hs fun a hs => hK7 _ _ ?_
 clear hK7
 refine qsr fun K9 hK9 => ?_
 obtain ⟨v_12, h_11, hm⟩ := bind_t hm
 refine qcl (share_none.ok _ _ h_11 _ _ (pt b_8 (blk [ci 0, ci 0, ci 0] 75) :: pt b_4 (blk [ci 0, ci 0, ci 0] 75) :: pt b_3 (blk [cw x1] 34) :: pt b_2 (blk [cp b_x0] 48) :: Twire_Machine.own b_x0 x0 :: S) hs.own) hs fun w a hs => ?_
 refine qal 75 [ci 0, ci 0, ci 0] 5 hs fun b_13 w a hs => ?_
 obtain ⟨h_14, hm⟩ := ite_t hm
 refine qsb 0 v_12 hs rfl h_14 rfl fun a w hs => ?_
 refine qpe 0 [(0, pp b_x0), (1, .func (.func 84) #[] #[pp b_2, pp b_3]), (4, pp b_8), (5, pp b_13)] hs fun a hs => hK9 _ _ ?_
 clear hK9
 refine Vk.seq fun K15 hK15 => ?_
 refine qsr fun K16 hK16 => ?_
 refine qpu 1 hs fun a hs => ?_
 obtain ⟨g_17, hs⟩ := hs.unex 5 rfl
 obtain ⟨v_20, h_19, hm⟩ := bind_t hm
 refine qcl (wire_Machine_N.ok _ _ _ h_19 _ _ _ b_x0 g_17 hs.own.f5) hs fun w a hs => ?_
 refine qpk 1 [1, 4, 5, 9, 10] hs fun a hs => hK16 _ _ ?_
 clear hK16
 refine wp_block ?_
 replace hs := hs.toEx (Twire_Machine.parts b_x0 x0) g_17 0 rfl
 obtain ⟨r21, hl21, hm⟩ := bind_t hm
 have hx21 : ∀ (p_45 : Cells) (p_46 : Twire_Machine), r21 = (p_45, p_46) → ∀ (a : Act) (w : World), St 21 a w κ [(4, pp b_8), (5, pp b_13)] (pt b_8 (blk [ci 0, ci 0, ci 0] 75) :: pt b_13 (blk p_45 75) :: Twire_Machine.own b_x0 p_46 :: pt b_2 (blk [cp b_x0] 48) :: pt b_3 (blk [cw x1] 34) :: pt b_4 (blk [ci 0, ci 0, ci 0] 75) :: S) → K15 a w := by
  intro p_45 p_46 he a w hs
  subst r21
  refine hK15 _ _ ?_
  clear hK15
  refine qsr fun K50 hK50 => ?_
  obtain ⟨h_51, hm⟩ := ite_t hm
  refine qlw 1 hs rfl h_51 fun a hs => ?_
  refine qsb 0 p_45 hs rfl h_51 rfl fun a w hs => ?_
  refine qpe 0 [(4, pp b_8)] hs fun a hs => hK50 _ _ ?_
  clear hK50
  refine wp_ret ?_
  refine hKP6 _ _ ?_
  refine hKR6 _ _ ?_
  refine Vk.retC (P := Tryz.prog) (fn := Tryz.f81) p_45 hs rfl (by kernel_rfl) (sz := 3) (by kernel_rfl) h_51 (CellsAt.all 0 rfl) ⟨_, _, _, rfl, hs.own, fun a hs => ?_⟩
  refine qsb 5 p_45 hs rfl h_51 rfl fun a w hs => ?_
  refine qpe 0 [(4, pp b_4)] hs fun a hs => hK5 _ _ ?_
  clear hK5
  refine wp_ret ?_
  exact Vk.retC p_45 hs rfl (by kernel_rfl) (sz := 3) (by kernel_rfl) h_51 (CellsAt.all 5 rfl) (hRR ▸ by cases hm; exact ⟨rfl, (hs.own.too [2] 6)⟩)
 refine Vk.loopBy (fun k (s : Twire_Machine × Cells × Int) a w => share_Told.l1 x1 v_20 k s.1 s.2.1 s.2.2 = some r21 ∧ St 21 a w κ [(1, .func (.func 84) #[] #[pp b_2, pp b_3]), (4, pp b_8), (5, pp b_13), (9, vi v_20), (10, vi s.2.2)] (pt b_2 (blk [cp b_x0] 48) :: Twire_Machine.own b_x0 s.1 :: pt b_3 (blk [cw x1] 34) :: pt b_8 (blk [ci 0, ci 0, ci 0] 75) :: pt b_13 (blk s.2.1 75) :: pt b_4 (blk [ci 0, ci 0, ci 0] 75) :: S)) k (x0, v_12, 0) ⟨hl21, hs.go [1, 4, 5, 9, 10] [5, 0, 4, 2, 1, 3] 6 (by kernel_rfl) (by kernel_rfl) (by kernel_rfl)⟩ (fun s a w h => by obtain ⟨h1, _⟩ := h; simp [share_Told.l1] at h1) (fun k KL21 ih s a w h => ?_)
 obtain ⟨q_22, q_23, q_24⟩ := s
 obtain ⟨hm, hs⟩ := h
 try dsimp only at hm hs
 rw [share_Told.l1] at hm
 refine qsk 1 [1, 4, 5, 9, 10, 11] hs fun a hs => ?_
 refine Vk.seq fun K26 hK26 => ?_
 refine qcs (decide (q_24 < v_20)) hs (fun hb => ?_) fun hb => ?_
 ·replace hm := bif_t hm hb
  refine wp_skip ?_
  refine hK26 _ _ ?_
  clear hK26
  refine Vk.seq fun K27 hK27 => ?_
  refine wp_block ?_
  refine qsk 2 [1, 4, 5, 6, 9, 10] hs fun a hs => ?_
  refine Vk.region ?_
  refine qpu 3 hs fun a hs => ?_
  refine Vk.step (Vk.call (some 16) 84 #[vi q_24, pp b_2, pp b_3] hs (by kernel_rfl) (by kernel_rfl) (by kernel_rfl) ?_)
  refine Vk.enterI [(0, vi q_24), (1, pp b_2), (2, pp b_3)] Tryz.func84 rfl Tryz.ntmps84 (by kernel_rfl) (Nat.le_of_ble_eq_true (by kernel_rfl)) hs.own fun KR29 hKR29 hKP29 a hs => ?_
  have hj29 : ∀ (p_41 : Int) (p_42 : Twire_Machine), share_Told.j1 k (share_Told.l1 x1 v_20 k) q_23 q_24 p_41 p_42 = some r21 → ∀ (a : Act) (w : World), St 14 a w κ [(4, vi p_41)] (Twire_Machine.own b_x0 p_42 :: pt b_2 (blk [cp b_x0] 48) :: pt b_3 (blk [cw x1] 34) :: pt b_4 (blk [ci 0, ci 0, ci 0] 75) :: pt b_8 (blk [ci 0, ci 0, ci 0] 75) :: pt b_13 (blk q_23 75) :: S) → KR29 a w := by
   intro p_41 p_42 hm a w hs
   unfold share_Told.j1 at hm
   refine hKR29 _ _ ?_
   refine Vk.ret1 (P := Tryz.prog) (fn := Tryz.f84) (vi p_41) hs rfl (by kernel_rfl) ⟨_, _, _, rfl, hs.own, fun a hs => ?_⟩
   refine qpu 1 hs fun a hs => ?_
   obtain ⟨h_43, hm⟩ := ite_t hm
   refine qix b_13 0 1 hs h_43 fun a hs => ?_
   obtain ⟨h_44, hm⟩ := ite_t hm
   refine Vk.step (Vk.store1 (b := b_13) (ty := 3) (x := (.tmp 18)) (y := (.tmp 16)) (off := 0 + q_24.toNat * 1) (ci p_41) 5 hs (by kernel_rfl) (by kernel_rfl) (by kernel_rfl) (by kernel_rfl) (by kernel_rfl) (by kernel_rfl) rfl h_44 fun a w hs => ?_)
   refine qpk 0 [1, 4, 5, 9, 10] hs fun a hs => hK27 _ _ ?_
   clear hK27
   refine Vk.region ?_
   refine qpk 2 [1, 4, 5, 9, 10] hs fun a hs => ?_
   refine ih (p_42, (q_23.set (0 + q_24.toNat * 1) (ci p_41)), (IntKind.i64.wrap (q_24 + 1))) _ _ ⟨hm, hs.go [1, 4, 5, 9, 10] [1, 0, 2, 4, 5, 3] 6 (by kernel_rfl) (by kernel_rfl) (by kernel_rfl)⟩
  refine qsk 1 [0, 1, 2] hs fun a hs => ?_
  refine Vk.seq fun K31 hK31 => ?_
  refine qse 2 [(0, vi q_24), (1, pp b_2), (2, pp b_3), (6, .bool (decide (q_24 > 0)))] hs fun a hs => ?_
  refine qcs (decide (q_24 > 0)) hs (fun hb => ?_) fun hb => ?_
  ·replace hm := bif_t hm hb
   refine qsr fun K33 hK33 => ?_
   refine qld 0 (cp b_x0) hs rfl fun a hs => ?_
   refine qpu 1 hs fun a hs => ?_
   obtain ⟨v_36, h_35, hm⟩ := bind_t hm
   refine qcl (wire_Machine_Const.ok _ _ _ _ _ h_35 _ _ _ b_x0 hs.own.f1) hs fun w a hs => ?_
   refine qpe 1 [(4, vi v_36.1)] hs fun a hs => hK33 _ _ ?_
   clear hK33
   refine wp_ret ?_
   refine hKP29 _ _ ?_
   exact hj29 v_36.1 v_36.2 hm _ _ (hs.go [4] [0, 1, 2, 5, 3, 4] 6 (by kernel_rfl) (by kernel_rfl) (by kernel_rfl))
  ·replace hm := bif_f hm hb
   refine wp_skip ?_
   refine hK31 _ _ ?_
   clear hK31
   refine qsr fun K37 hK37 => ?_
   refine qld 0 (cp b_x0) hs rfl fun a hs => ?_
   refine qpu 1 hs fun a hs => ?_
   refine qld 2 (cw x1) hs rfl fun a hs => ?_
   obtain ⟨v_40, h_39, hm⟩ := bind_t hm
   refine qcl (wire_Machine_Told.ok _ _ _ _ _ h_39 _ _ _ b_x0 hs.own.f1) hs fun w a hs => ?_
   refine qpe 1 [(4, vi v_40.1)] hs fun a hs => hK37 _ _ ?_
   clear hK37
   refine wp_ret ?_
   refine hKP29 _ _ ?_
   exact hj29 v_40.1 v_40.2 hm _ _ (hs.go [4] [0, 1, 2, 5, 3, 4] 6 (by kernel_rfl) (by kernel_rfl) (by kernel_rfl))
 ·replace hm := bif_f hm hb
  refine wp_exit ?_
  exact hx21 q_23 q_22 (Option.some.inj hm).symm _ _ (hs.go [4, 5] [3, 4, 1, 0, 2, 5] 6 (by kernel_rfl) (by kernel_rfl) (by kernel_rfl))


abbrev wire_Machine_Two.R (κ : Ctx) (S : List HP) (x0 : Twire_Machine) (x1 : Int) (x2 : Int) (x3 : Int) (x4 : Int) (b_x0 : Nat) (r : (Int × Twire_Machine)) : Ending → World → Prop := fun e w' => e = .returned (vi r.1) ∧ Ow κ w' (Twire_Machine.own b_x0 r.2 :: S)
def wire_Machine_Two.m (k : Nat) (x0 : Twire_Machine) (x1 : Int) (x2 : Int) (x3 : Int) (x4 : Int) : Option (Int × Twire_Machine) := (wire_Machine_Do.m k x0 (⟨x1, x2, x3, x4, (-1), 0⟩ : Tapi_Op) 0).bind fun v_5 => some (v_5.1, v_5.2)

set_option maxRecDepth 100000 in
set_option maxHeartbeats 4000000 in
theorem wire_Machine_Two.ok (k : Nat) (x0 : Twire_Machine) (x1 : Int) (x2 : Int) (x3 : Int) (x4 : Int) (r : (Int × Twire_Machine)) (hm : wire_Machine_Two.m k x0 x1 x2 x3 x4 = some r) (κ : Ctx) (w : World) (S : List HP) (b_x0 : Nat) (ho : Ow κ w (Twire_Machine.own b_x0 x0 :: S)) :
  Calls Tryz.prog 87 #[pp b_x0, vi x1, vi x2, vi x3, vi x4] w (wire_Machine_Two.R κ S x0 x1 x2 x3 x4 b_x0 r) := by
 unfold wire_Machine_Two.m at hm
 generalize hRR : wire_Machine_Two.R κ S x0 x1 x2 x3 x4 b_x0 r = RR
 refine qen [(0, pp b_x0), (1, vi x1), (2, vi x2), (3, vi x3), (4, vi x4)] Tryz.func87 Tryz.ntmps87 ho fun a hs => ?_
 refine qsk 1 [0, 1, 2, 3, 4] hs fun a hs => ?_
 refine qsr fun K2 hK2 => ?_
 refine qpu 6 hs fun a hs => ?_
 obtain ⟨v_5, h_4, hm⟩ := bind_t hm
 refine qcl (wire_Machine_Do.ok _ _ _ _ _ h_4 _ _ _ b_x0 hs.own) hs fun w a hs => ?_
 refine qpe 1 [(10, vi v_5.1)] hs fun a hs => hK2 _ _ ?_
 clear hK2
 refine wp_ret ?_
 exact qr1 (vi v_5.1) hs rfl hRR (by cases hm; exact ⟨rfl, hs.own⟩)


def share_Xor.l1 (x1 : Cells) (x2 : Cells) (v_21 : Int) : Nat → Twire_Machine → Cells → Int → Option (Cells × Twire_Machine)
 | 0, _, _, _ => none
 | k + 1, q_23, q_24, q_25 => (bif decide (q_25 < v_21) then (if 0 ≤ q_25 ∧ q_25 < 3 then (getI .i64 x1 (0 + q_25.toNat * 1)).bind fun v_36 => (if 0 ≤ q_25 ∧ q_25 < 3 then (getI .i64 x2 (0 + q_25.toNat * 1)).bind fun v_39 => (wire_Machine_Two.m k q_23 5 q_25 v_36 v_39).bind fun v_42 => (if 0 ≤ q_25 ∧ q_25 < 3 then (if 0 + q_25.toNat * 1 < q_24.length then share_Xor.l1 x1 x2 v_21 k v_42.2 (q_24.set (0 + q_25.toNat * 1) (ci v_42.1)) (IntKind.i64.wrap (q_25 + 1)) else none) else none) else none) else none) else some (q_24, q_23))
abbrev share_Xor.R (κ : Ctx) (S : List HP) (x0 : Twire_Machine) (x1 : Cells) (x2 : Cells) (b_x0 : Nat) (r : (Cells × Twire_Machine)) : Ending → World → Prop := fun e w' => e = .returned (.agg (vals r.1)) ∧ Ow κ w' (Twire_Machine.own b_x0 r.2 :: S)
def share_Xor.m (k : Nat) (x0 : Twire_Machine) (x1 : Cells) (x2 : Cells) : Option (Cells × Twire_Machine) := (share_none.m k).bind fun v_13 => (if v_13.length = 3 then (wire_Machine_N.m k x0).bind fun v_21 => (share_Xor.l1 x1 x2 v_21 k x0 v_13 0).bind fun x => match x with | (p_45, p_46) => (if p_45.length = 3 then some (p_45, p_46) else none) else none)

set_option maxRecDepth 100000 in
set_option maxHeartbeats 4000000 in
theorem share_Xor.ok (k : Nat) (x0 : Twire_Machine) (x1 : Cells) (x2 : Cells) (r : (Cells × Twire_Machine)) (hm : share_Xor.m k x0 x1 x2 = some r) (κ : Ctx) (w : World) (S : List HP) (b_x0 : Nat) (ho : Ow κ w (Twire_Machine.own b_x0 x0 :: S)) :
  Calls Tryz.prog 46 #[pp b_x0, .agg (vals x1), .agg (vals x2)] w (share_Xor.R κ S x0 x1 x2 b_x0 r) := by
 unfold share_Xor.m at hm
 generalize hRR : share_Xor.R κ S x0 x1 x2 b_x0 r = RR
 refine qen [(0, pp b_x0), (1, .agg (vals x1)), (2, .agg (vals x2))] Tryz.func46 Tryz.ntmps46 ho fun a hs => ?_
 refine qsr fun K1 hK1 => ?_
 refine qbx 0 48 [cp b_x0] 3 hs fun b_2 w a hs => ?_
 refine qbx 1 75 x1 4 hs fun b_3 w a hs => ?_
 refine qbx 2 75 x2 5 hs fun b_4 w a hs => ?_
 refine qal 75 [ci 0, ci 0, ci 0] 6 hs fun b_5 w a hs => ?_
 refine qpk 0 [3, 4, 5, 6] hs fun a hs => hK1 _ _ ?_
 clear hK1
 refine qsr fun K6 hK6 => ?_
 refine qld 3 (cp b_x0) hs rfl fun a hs => ?_
 refine qpu 1 hs fun a hs => ?_
 refine Vk.step (Vk.call (some 9) 81 #[pp b_x0, .func (.func 86) #[] #[pp b_2, pp b_3, pp b_4]] hs (by kernel_rfl) (by kernel_rfl) (by kernel_rfl) ?_)
 refine Vk.enterI [(0, pp b_x0), (1, .func (.func 86) #[] #[pp b_2, pp b_3, pp b_4])] Tryz.func81 rfl Tryz.ntmps81 (by kernel_rfl) (Nat.le_of_ble_eq_true (by kernel_rfl)) hs.own fun KR7 hKR7 hKP7 a hs => ?_
 refine qsr fun K8 hK8 => ?_
 refine qal 75 [ci 0, ci 0, ci 0] 4 hs fun b_9 w a hs => ?_
 refine qpk 0 [0, 1, 4] hs fun a hs => hK8 _ _ ?_
 clear hK8
 refine qsr fun K10 hK10 => ?_
 obtain ⟨v_13, h_12, hm⟩ := bind_t hm
 refine qcl (share_none.ok _ _ h_12 _ _ (pt b_9 (blk [ci 0, ci 0, ci 0] 75) :: pt b_5 (blk [ci 0, ci 0, ci 0] 75) :: pt b_4 (blk x2 75) :: pt b_3 (blk x1 75) :: pt b_2 (blk [cp b_x0] 48) :: Twire_Machine.own b_x0 x0 :: S) hs.own) hs fun w a hs => ?_
 refine qal 75 [ci 0, ci 0, ci 0] 5 hs fun b_14 w a hs => ?_
 obtain ⟨h_15, hm⟩ := ite_t hm
 refine qsb 0 v_13 hs rfl h_15 rfl fun a w hs => ?_
 refine qpe 0 [(0, pp b_x0), (1, .func (.func 86) #[] #[pp b_2, pp b_3, pp b_4]), (4, pp b_9), (5, pp b_14)] hs fun a hs => hK10 _ _ ?_
 clear hK10
 refine Vk.seq fun K16 hK16 => ?_
 refine qsr fun K17 hK17 => ?_
 refine qpu 1 hs fun a hs => ?_
 obtain ⟨g_18, hs⟩ := hs.unex 6 rfl
 obtain ⟨v_21, h_20, hm⟩ := bind_t hm
 refine qcl (wire_Machine_N.ok _ _ _ h_20 _ _ _ b_x0 g_18 hs.own.f6) hs fun w a hs => ?_
 refine qpk 1 [1, 4, 5, 9, 10] hs fun a hs => hK17 _ _ ?_
 clear hK17
 refine wp_block ?_
 replace hs := hs.toEx (Twire_Machine.parts b_x0 x0) g_18 0 rfl
 obtain ⟨r22, hl22, hm⟩ := bind_t hm
 have hx22 : ∀ (p_45 : Cells) (p_46 : Twire_Machine), r22 = (p_45, p_46) → ∀ (a : Act) (w : World), St 21 a w κ [(4, pp b_9), (5, pp b_14)] (pt b_9 (blk [ci 0, ci 0, ci 0] 75) :: pt b_14 (blk p_45 75) :: Twire_Machine.own b_x0 p_46 :: pt b_2 (blk [cp b_x0] 48) :: pt b_3 (blk x1 75) :: pt b_4 (blk x2 75) :: pt b_5 (blk [ci 0, ci 0, ci 0] 75) :: S) → K16 a w := by
  intro p_45 p_46 he a w hs
  subst r22
  refine hK16 _ _ ?_
  clear hK16
  refine qsr fun K50 hK50 => ?_
  obtain ⟨h_51, hm⟩ := ite_t hm
  refine qlw 1 hs rfl h_51 fun a hs => ?_
  refine qsb 0 p_45 hs rfl h_51 rfl fun a w hs => ?_
  refine qpe 0 [(4, pp b_9)] hs fun a hs => hK50 _ _ ?_
  clear hK50
  refine wp_ret ?_
  refine hKP7 _ _ ?_
  refine hKR7 _ _ ?_
  refine Vk.retC (P := Tryz.prog) (fn := Tryz.f81) p_45 hs rfl (by kernel_rfl) (sz := 3) (by kernel_rfl) h_51 (CellsAt.all 0 rfl) ⟨_, _, _, rfl, hs.own, fun a hs => ?_⟩
  refine qsb 6 p_45 hs rfl h_51 rfl fun a w hs => ?_
  refine qpe 0 [(6, pp b_5)] hs fun a hs => hK6 _ _ ?_
  clear hK6
  refine wp_ret ?_
  exact Vk.retC p_45 hs rfl (by kernel_rfl) (sz := 3) (by kernel_rfl) h_51 (CellsAt.all 6 rfl) (hRR ▸ by cases hm; exact ⟨rfl, (hs.own.too [2] 7)⟩)
 refine Vk.loopBy (fun k (s : Twire_Machine × Cells × Int) a w => share_Xor.l1 x1 x2 v_21 k s.1 s.2.1 s.2.2 = some r22 ∧ St 21 a w κ [(1, .func (.func 86) #[] #[pp b_2, pp b_3, pp b_4]), (4, pp b_9), (5, pp b_14), (9, vi v_21), (10, vi s.2.2)] (pt b_2 (blk [cp b_x0] 48) :: Twire_Machine.own b_x0 s.1 :: pt b_3 (blk x1 75) :: pt b_4 (blk x2 75) :: pt b_9 (blk [ci 0, ci 0, ci 0] 75) :: pt b_14 (blk s.2.1 75) :: pt b_5 (blk [ci 0, ci 0, ci 0] 75) :: S)) k (x0, v_13, 0) ⟨hl22, hs.go [1, 4, 5, 9, 10] [6, 0, 5, 4, 2, 1, 3] 7 (by kernel_rfl) (by kernel_rfl) (by kernel_rfl)⟩ (fun s a w h => by obtain ⟨h1, _⟩ := h; simp [share_Xor.l1] at h1) (fun k KL22 ih s a w h => ?_)
 obtain ⟨q_23, q_24, q_25⟩ := s
 obtain ⟨hm, hs⟩ := h
 try dsimp only at hm hs
 rw [share_Xor.l1] at hm
 refine qsk 1 [1, 4, 5, 9, 10, 11] hs fun a hs => ?_
 refine Vk.seq fun K27 hK27 => ?_
 refine qcs (decide (q_25 < v_21)) hs (fun hb => ?_) fun hb => ?_
 ·replace hm := bif_t hm hb
  refine wp_skip ?_
  refine hK27 _ _ ?_
  clear hK27
  refine Vk.seq fun K28 hK28 => ?_
  refine wp_block ?_
  refine qsk 2 [1, 4, 5, 6, 9, 10] hs fun a hs => ?_
  refine Vk.region ?_
  refine qpu 3 hs fun a hs => ?_
  refine Vk.step (Vk.call (some 16) 86 #[vi q_25, pp b_2, pp b_3, pp b_4] hs (by kernel_rfl) (by kernel_rfl) (by kernel_rfl) ?_)
  refine Vk.enterI [(0, vi q_25), (1, pp b_2), (2, pp b_3), (3, pp b_4)] Tryz.func86 rfl Tryz.ntmps86 (by kernel_rfl) (Nat.le_of_ble_eq_true (by kernel_rfl)) hs.own fun KR30 hKR30 hKP30 a hs => ?_
  refine qsk 1 [0, 1, 2, 3] hs fun a hs => ?_
  refine Vk.seq fun K32 hK32 => ?_
  obtain ⟨C_33, hC_33⟩ := qC hs.own
  refine qdr 10 κ C_33 hs fun w hs hqC_33 => ?_
  have hcl := qO hC_33 hs.own
  refine qdp (fuel := 7) [1, 2, 3, 6, 7] hs hcl hqC_33 fun a hs => ?_
  refine qdl 0 0 (cp b_x0) hs hcl hqC_33 hC_33 rfl fun a hs => ?_
  obtain ⟨h_34, hm⟩ := ite_t hm
  refine qdx 4 b_3 0 1 hs hcl hqC_33 h_34 fun a hs => ?_
  obtain ⟨v_36, h_35, hm⟩ := bind_t hm
  refine qdi 5 2 hs hcl hqC_33 hC_33 rfl h_35 fun a hs => ?_
  obtain ⟨h_37, hm⟩ := ite_t hm
  refine qdx 8 b_4 0 1 hs hcl hqC_33 h_37 fun a hs => ?_
  obtain ⟨v_39, h_38, hm⟩ := bind_t hm
  refine qdi 9 3 hs hcl hqC_33 hC_33 rfl h_38 fun a hs => ?_
  obtain ⟨v_42, h_41, hm⟩ := bind_t hm
  refine qdc 10 (wire_Machine_Two.ok _ _ _ _ _ _ _ h_41 _ _ _ b_x0 hs.own.f1) hs fun w a hs => ?_
  refine ⟨fun h => absurd h (by decide), ?_⟩
  refine Vk.dOnly (i := 11) (by kernel_rfl) (Vk.dPure1 [(5, vi v_42.1)] hs (by kernel_rfl) fun a hs => ?_)
  refine ⟨fun h => absurd h (by decide), ?_⟩
  replace hs := hs.pick [5] (L' := [(5, vi v_42.1)]) (by kernel_rfl)
  refine Vk.dDone (by kernel_rfl) ?_
  refine hK32 _ _ ?_
  clear hK32
  refine wp_ret ?_
  refine hKP30 _ _ ?_
  refine hKR30 _ _ ?_
  refine Vk.ret1 (P := Tryz.prog) (fn := Tryz.f86) (vi v_42.1) hs rfl (by kernel_rfl) ⟨_, _, _, rfl, hs.own, fun a hs => ?_⟩
  refine qpu 1 hs fun a hs => ?_
  obtain ⟨h_43, hm⟩ := ite_t hm
  refine qix b_14 0 1 hs h_43 fun a hs => ?_
  obtain ⟨h_44, hm⟩ := ite_t hm
  refine Vk.step (Vk.store1 (b := b_14) (ty := 3) (x := (.tmp 18)) (y := (.tmp 16)) (off := 0 + q_25.toNat * 1) (ci v_42.1) 5 hs (by kernel_rfl) (by kernel_rfl) (by kernel_rfl) (by kernel_rfl) (by kernel_rfl) (by kernel_rfl) rfl h_44 fun a w hs => ?_)
  refine qpk 0 [1, 4, 5, 9, 10] hs fun a hs => hK28 _ _ ?_
  clear hK28
  refine Vk.region ?_
  refine qpk 2 [1, 4, 5, 9, 10] hs fun a hs => ?_
  refine ih (v_42.2, (q_24.set (0 + q_25.toNat * 1) (ci v_42.1)), (IntKind.i64.wrap (q_25 + 1))) _ _ ⟨hm, hs.go [1, 4, 5, 9, 10] [1, 0, 2, 3, 4, 5, 6] 7 (by kernel_rfl) (by kernel_rfl) (by kernel_rfl)⟩
 ·replace hm := bif_f hm hb
  refine wp_exit ?_
  exact hx22 q_24 q_23 (Option.some.inj hm).symm _ _ (hs.go [4, 5] [4, 5, 1, 0, 2, 3, 6] 7 (by kernel_rfl) (by kernel_rfl) (by kernel_rfl))


abbrev wire_Machine_One.R (κ : Ctx) (S : List HP) (x0 : Twire_Machine) (x1 : Int) (x2 : Int) (x3 : Int) (x4 : Int) (b_x0 : Nat) (r : (Int × Twire_Machine)) : Ending → World → Prop := fun e w' => e = .returned (vi r.1) ∧ Ow κ w' (Twire_Machine.own b_x0 r.2 :: S)
def wire_Machine_One.m (k : Nat) (x0 : Twire_Machine) (x1 : Int) (x2 : Int) (x3 : Int) (x4 : Int) : Option (Int × Twire_Machine) := (wire_Machine_Do.m k x0 (⟨x1, x2, x3, (-1), (-1), x4⟩ : Tapi_Op) 0).bind fun v_5 => some (v_5.1, v_5.2)

set_option maxRecDepth 100000 in
set_option maxHeartbeats 4000000 in
theorem wire_Machine_One.ok (k : Nat) (x0 : Twire_Machine) (x1 : Int) (x2 : Int) (x3 : Int) (x4 : Int) (r : (Int × Twire_Machine)) (hm : wire_Machine_One.m k x0 x1 x2 x3 x4 = some r) (κ : Ctx) (w : World) (S : List HP) (b_x0 : Nat) (ho : Ow κ w (Twire_Machine.own b_x0 x0 :: S)) :
  Calls Tryz.prog 88 #[pp b_x0, vi x1, vi x2, vi x3, vw x4] w (wire_Machine_One.R κ S x0 x1 x2 x3 x4 b_x0 r) := by
 unfold wire_Machine_One.m at hm
 generalize hRR : wire_Machine_One.R κ S x0 x1 x2 x3 x4 b_x0 r = RR
 refine qen [(0, pp b_x0), (1, vi x1), (2, vi x2), (3, vi x3), (4, vw x4)] Tryz.func88 Tryz.ntmps88 ho fun a hs => ?_
 refine qsk 1 [0, 1, 2, 3, 4] hs fun a hs => ?_
 refine qsr fun K2 hK2 => ?_
 refine qpu 6 hs fun a hs => ?_
 obtain ⟨v_5, h_4, hm⟩ := bind_t hm
 refine qcl (wire_Machine_Do.ok _ _ _ _ _ h_4 _ _ _ b_x0 hs.own) hs fun w a hs => ?_
 refine qpe 1 [(10, vi v_5.1)] hs fun a hs => hK2 _ _ ?_
 clear hK2
 refine wp_ret ?_
 exact qr1 (vi v_5.1) hs rfl hRR (by cases hm; exact ⟨rfl, hs.own⟩)


abbrev share_Not.R (κ : Ctx) (S : List HP) (x0 : Twire_Machine) (x1 : Cells) (b_x0 : Nat) (r : (Cells × Twire_Machine)) : Ending → World → Prop := fun e w' => e = .returned (.agg (vals r.1)) ∧ Ow κ w' (Twire_Machine.own b_x0 r.2 :: S)
def share_Not.m (k : Nat) (x0 : Twire_Machine) (x1 : Cells) : Option (Cells × Twire_Machine) := (getI .i64 x1 (0)).bind fun v_6 => (wire_Machine_One.m k x0 6 0 v_6 0).bind fun v_9 => (if 0 < x1.length then (if (x1.set (0) (ci v_9.1)).length = 3 then some ((x1.set (0) (ci v_9.1)), v_9.2) else none) else none)

set_option maxRecDepth 100000 in
set_option maxHeartbeats 4000000 in
theorem share_Not.ok (k : Nat) (x0 : Twire_Machine) (x1 : Cells) (r : (Cells × Twire_Machine)) (hm : share_Not.m k x0 x1 = some r) (κ : Ctx) (w : World) (S : List HP) (b_x0 : Nat) (ho : Ow κ w (Twire_Machine.own b_x0 x0 :: S)) :
  Calls Tryz.prog 47 #[pp b_x0, .agg (vals x1)] w (share_Not.R κ S x0 x1 b_x0 r) := by
 unfold share_Not.m at hm
 generalize hRR : share_Not.R κ S x0 x1 b_x0 r = RR
 refine qen [(0, pp b_x0), (1, .agg (vals x1))] Tryz.func47 Tryz.ntmps47 ho fun a hs => ?_
 refine qsr fun K1 hK1 => ?_
 refine qbx 1 75 x1 3 hs fun b_2 w a hs => ?_
 refine qal 75 [ci 0, ci 0, ci 0] 4 hs fun b_3 w a hs => ?_
 refine qpk 0 [0, 3, 4] hs fun a hs => hK1 _ _ ?_
 clear hK1
 refine qsr fun K4 hK4 => ?_
 refine qpu 3 hs fun a hs => ?_
 obtain ⟨v_6, h_5, hm⟩ := bind_t hm
 refine qli 1 hs rfl h_5 fun a hs => ?_
 obtain ⟨v_9, h_8, hm⟩ := bind_t hm
 refine qcl (wire_Machine_One.ok _ _ _ _ _ _ _ h_8 _ _ _ b_x0 hs.own.f2) hs fun w a hs => ?_
 refine qpu 2 hs fun a hs => ?_
 obtain ⟨h_10, hm⟩ := ite_t hm
 refine Vk.step (Vk.store1 (b := b_2) (ty := 3) (x := (.tmp 11)) (y := (.tmp 9)) (off := 0) (ci v_9.1) 2 hs (by kernel_rfl) (by kernel_rfl) (by kernel_rfl) (by kernel_rfl) (by kernel_rfl) (by kernel_rfl) rfl h_10 fun a w hs => ?_)
 refine qpe 0 [(3, pp b_2), (4, pp b_3)] hs fun a hs => hK4 _ _ ?_
 clear hK4
 refine qsr fun K11 hK11 => ?_
 obtain ⟨h_12, hm⟩ := ite_t hm
 refine qlw 2 hs rfl h_12 fun a hs => ?_
 refine qsb 1 (x1.set (0) (ci v_9.1)) hs rfl h_12 rfl fun a w hs => ?_
 refine qpe 0 [(4, pp b_3)] hs fun a hs => hK11 _ _ ?_
 clear hK11
 refine wp_ret ?_
 exact Vk.retC (x1.set (0) (ci v_9.1)) hs rfl (by kernel_rfl) (sz := 3) (by kernel_rfl) h_12 (CellsAt.all 1 rfl) (hRR ▸ by cases hm; exact ⟨rfl, hs.own.f2.drop.f1.drop⟩)


def share_One.l1 (x1 : Int) (x2 : Cells) (x3 : Int) (v_22 : Int) : Nat → Twire_Machine → Cells → Int → Option (Cells × Twire_Machine)
 | 0, _, _, _ => none
 | k + 1, q_24, q_25, q_26 => (bif decide (q_26 < v_22) then (if 0 ≤ q_26 ∧ q_26 < 3 then (getI .i64 x2 (0 + q_26.toNat * 1)).bind fun v_37 => (wire_Machine_One.m k q_24 x1 q_26 v_37 x3).bind fun v_40 => (if 0 ≤ q_26 ∧ q_26 < 3 then (if 0 + q_26.toNat * 1 < q_25.length then share_One.l1 x1 x2 x3 v_22 k v_40.2 (q_25.set (0 + q_26.toNat * 1) (ci v_40.1)) (IntKind.i64.wrap (q_26 + 1)) else none) else none) else none) else some (q_25, q_24))
abbrev share_One.R (κ : Ctx) (S : List HP) (x0 : Twire_Machine) (x1 : Int) (x2 : Cells) (x3 : Int) (b_x0 : Nat) (r : (Cells × Twire_Machine)) : Ending → World → Prop := fun e w' => e = .returned (.agg (vals r.1)) ∧ Ow κ w' (Twire_Machine.own b_x0 r.2 :: S)
def share_One.m (k : Nat) (x0 : Twire_Machine) (x1 : Int) (x2 : Cells) (x3 : Int) : Option (Cells × Twire_Machine) := (share_none.m k).bind fun v_14 => (if v_14.length = 3 then (wire_Machine_N.m k x0).bind fun v_22 => (share_One.l1 x1 x2 x3 v_22 k x0 v_14 0).bind fun x => match x with | (p_43, p_44) => (if p_43.length = 3 then some (p_43, p_44) else none) else none)

set_option maxRecDepth 100000 in
set_option maxHeartbeats 4000000 in
theorem share_One.ok (k : Nat) (x0 : Twire_Machine) (x1 : Int) (x2 : Cells) (x3 : Int) (r : (Cells × Twire_Machine)) (hm : share_One.m k x0 x1 x2 x3 = some r) (κ : Ctx) (w : World) (S : List HP) (b_x0 : Nat) (ho : Ow κ w (Twire_Machine.own b_x0 x0 :: S)) :
  Calls Tryz.prog 48 #[pp b_x0, vi x1, .agg (vals x2), vw x3] w (share_One.R κ S x0 x1 x2 x3 b_x0 r) := by
 unfold share_One.m at hm
 generalize hRR : share_One.R κ S x0 x1 x2 x3 b_x0 r = RR
 refine qen [(0, pp b_x0), (1, vi x1), (2, .agg (vals x2)), (3, vw x3)] Tryz.func48 Tryz.ntmps48 ho fun a hs => ?_
 refine qsr fun K1 hK1 => ?_
 refine qbx 0 48 [cp b_x0] 4 hs fun b_2 w a hs => ?_
 refine qbx 1 3 [ci x1] 5 hs fun b_3 w a hs => ?_
 refine qbx 2 75 x2 6 hs fun b_4 w a hs => ?_
 refine qbx 3 34 [cw x3] 7 hs fun b_5 w a hs => ?_
 refine qal 75 [ci 0, ci 0, ci 0] 8 hs fun b_6 w a hs => ?_
 refine qpk 0 [4, 5, 6, 7, 8] hs fun a hs => hK1 _ _ ?_
 clear hK1
 refine qsr fun K7 hK7 => ?_
 refine qld 4 (cp b_x0) hs rfl fun a hs => ?_
 refine qpu 1 hs fun a hs => ?_
 refine Vk.step (Vk.call (some 11) 81 #[pp b_x0, .func (.func 89) #[] #[pp b_2, pp b_3, pp b_4, pp b_5]] hs (by kernel_rfl) (by kernel_rfl) (by kernel_rfl) ?_)
 refine Vk.enterI [(0, pp b_x0), (1, .func (.func 89) #[] #[pp b_2, pp b_3, pp b_4, pp b_5])] Tryz.func81 rfl Tryz.ntmps81 (by kernel_rfl) (Nat.le_of_ble_eq_true (by kernel_rfl)) hs.own fun KR8 hKR8 hKP8 a hs => ?_
 refine qsr fun K9 hK9 => ?_
 refine qal 75 [ci 0, ci 0, ci 0] 4 hs fun b_10 w a hs => ?_
 refine qpk 0 [0, 1, 4] hs fun a hs => hK9 _ _ ?_
 clear hK9
 refine qsr fun K11 hK11 => ?_
 obtain ⟨v_14, h_13, hm⟩ := bind_t hm
 refine qcl (share_none.ok _ _ h_13 _ _ (pt b_10 (blk [ci 0, ci 0, ci 0] 75) :: pt b_6 (blk [ci 0, ci 0, ci 0] 75) :: pt b_5 (blk [cw x3] 34) :: pt b_4 (blk x2 75) :: pt b_3 (blk [ci x1] 3) :: pt b_2 (blk [cp b_x0] 48) :: Twire_Machine.own b_x0 x0 :: S) hs.own) hs fun w a hs => ?_
 refine qal 75 [ci 0, ci 0, ci 0] 5 hs fun b_15 w a hs => ?_
 obtain ⟨h_16, hm⟩ := ite_t hm
 refine qsb 0 v_14 hs rfl h_16 rfl fun a w hs => ?_
 refine qpe 0 [(0, pp b_x0), (1, .func (.func 89) #[] #[pp b_2, pp b_3, pp b_4, pp b_5]), (4, pp b_10), (5, pp b_15)] hs fun a hs => hK11 _ _ ?_
 clear hK11
 refine Vk.seq fun K17 hK17 => ?_
 refine qsr fun K18 hK18 => ?_
 refine qpu 1 hs fun a hs => ?_
 obtain ⟨g_19, hs⟩ := hs.unex 7 rfl
 obtain ⟨v_22, h_21, hm⟩ := bind_t hm
 refine qcl (wire_Machine_N.ok _ _ _ h_21 _ _ _ b_x0 g_19 hs.own.f7) hs fun w a hs => ?_
 refine qpk 1 [1, 4, 5, 9, 10] hs fun a hs => hK18 _ _ ?_
 clear hK18
 refine wp_block ?_
 replace hs := hs.toEx (Twire_Machine.parts b_x0 x0) g_19 0 rfl
 obtain ⟨r23, hl23, hm⟩ := bind_t hm
 have hx23 : ∀ (p_43 : Cells) (p_44 : Twire_Machine), r23 = (p_43, p_44) → ∀ (a : Act) (w : World), St 21 a w κ [(4, pp b_10), (5, pp b_15)] (pt b_10 (blk [ci 0, ci 0, ci 0] 75) :: pt b_15 (blk p_43 75) :: Twire_Machine.own b_x0 p_44 :: pt b_2 (blk [cp b_x0] 48) :: pt b_3 (blk [ci x1] 3) :: pt b_4 (blk x2 75) :: pt b_5 (blk [cw x3] 34) :: pt b_6 (blk [ci 0, ci 0, ci 0] 75) :: S) → K17 a w := by
  intro p_43 p_44 he a w hs
  subst r23
  refine hK17 _ _ ?_
  clear hK17
  refine qsr fun K48 hK48 => ?_
  obtain ⟨h_49, hm⟩ := ite_t hm
  refine qlw 1 hs rfl h_49 fun a hs => ?_
  refine qsb 0 p_43 hs rfl h_49 rfl fun a w hs => ?_
  refine qpe 0 [(4, pp b_10)] hs fun a hs => hK48 _ _ ?_
  clear hK48
  refine wp_ret ?_
  refine hKP8 _ _ ?_
  refine hKR8 _ _ ?_
  refine Vk.retC (P := Tryz.prog) (fn := Tryz.f81) p_43 hs rfl (by kernel_rfl) (sz := 3) (by kernel_rfl) h_49 (CellsAt.all 0 rfl) ⟨_, _, _, rfl, hs.own, fun a hs => ?_⟩
  refine qsb 7 p_43 hs rfl h_49 rfl fun a w hs => ?_
  refine qpe 0 [(8, pp b_6)] hs fun a hs => hK7 _ _ ?_
  clear hK7
  refine wp_ret ?_
  exact Vk.retC p_43 hs rfl (by kernel_rfl) (sz := 3) (by kernel_rfl) h_49 (CellsAt.all 7 rfl) (hRR ▸ by cases hm; exact ⟨rfl, (hs.own.too [2] 8)⟩)
 refine Vk.loopBy (fun k (s : Twire_Machine × Cells × Int) a w => share_One.l1 x1 x2 x3 v_22 k s.1 s.2.1 s.2.2 = some r23 ∧ St 21 a w κ [(1, .func (.func 89) #[] #[pp b_2, pp b_3, pp b_4, pp b_5]), (4, pp b_10), (5, pp b_15), (9, vi v_22), (10, vi s.2.2)] (pt b_2 (blk [cp b_x0] 48) :: Twire_Machine.own b_x0 s.1 :: pt b_3 (blk [ci x1] 3) :: pt b_4 (blk x2 75) :: pt b_5 (blk [cw x3] 34) :: pt b_10 (blk [ci 0, ci 0, ci 0] 75) :: pt b_15 (blk s.2.1 75) :: pt b_6 (blk [ci 0, ci 0, ci 0] 75) :: S)) k (x0, v_14, 0) ⟨hl23, hs.go [1, 4, 5, 9, 10] [7, 0, 6, 5, 4, 2, 1, 3] 8 (by kernel_rfl) (by kernel_rfl) (by kernel_rfl)⟩ (fun s a w h => by obtain ⟨h1, _⟩ := h; simp [share_One.l1] at h1) (fun k KL23 ih s a w h => ?_)
 obtain ⟨q_24, q_25, q_26⟩ := s
 obtain ⟨hm, hs⟩ := h
 try dsimp only at hm hs
 rw [share_One.l1] at hm
 refine qsk 1 [1, 4, 5, 9, 10, 11] hs fun a hs => ?_
 refine Vk.seq fun K28 hK28 => ?_
 refine qcs (decide (q_26 < v_22)) hs (fun hb => ?_) fun hb => ?_
 ·replace hm := bif_t hm hb
  refine wp_skip ?_
  refine hK28 _ _ ?_
  clear hK28
  refine Vk.seq fun K29 hK29 => ?_
  refine wp_block ?_
  refine qsk 2 [1, 4, 5, 6, 9, 10] hs fun a hs => ?_
  refine Vk.region ?_
  refine qpu 3 hs fun a hs => ?_
  refine Vk.step (Vk.call (some 16) 89 #[vi q_26, pp b_2, pp b_3, pp b_4, pp b_5] hs (by kernel_rfl) (by kernel_rfl) (by kernel_rfl) ?_)
  refine Vk.enterI [(0, vi q_26), (1, pp b_2), (2, pp b_3), (3, pp b_4), (4, pp b_5)] Tryz.func89 rfl Tryz.ntmps89 (by kernel_rfl) (Nat.le_of_ble_eq_true (by kernel_rfl)) hs.own fun KR31 hKR31 hKP31 a hs => ?_
  refine qsk 1 [0, 1, 2, 3, 4] hs fun a hs => ?_
  refine Vk.seq fun K33 hK33 => ?_
  obtain ⟨C_34, hC_34⟩ := qC hs.own
  refine qdr 8 κ C_34 hs fun w hs hqC_34 => ?_
  have hcl := qO hC_34 hs.own
  refine qdp (fuel := 7) [2, 3, 4] hs hcl hqC_34 fun a hs => ?_
  refine qdl 0 0 (cp b_x0) hs hcl hqC_34 hC_34 rfl fun a hs => ?_
  refine qdl 1 2 (ci x1) hs hcl hqC_34 hC_34 rfl fun a hs => ?_
  obtain ⟨h_35, hm⟩ := ite_t hm
  refine qdx 5 b_4 0 1 hs hcl hqC_34 h_35 fun a hs => ?_
  obtain ⟨v_37, h_36, hm⟩ := bind_t hm
  refine qdi 6 3 hs hcl hqC_34 hC_34 rfl h_36 fun a hs => ?_
  refine qdl 7 4 (cw x3) hs hcl hqC_34 hC_34 rfl fun a hs => ?_
  obtain ⟨v_40, h_39, hm⟩ := bind_t hm
  refine qdc 8 (wire_Machine_One.ok _ _ _ _ _ _ _ h_39 _ _ _ b_x0 hs.own.f1) hs fun w a hs => ?_
  refine ⟨fun h => absurd h (by decide), ?_⟩
  refine Vk.dOnly (i := 9) (by kernel_rfl) (Vk.dPure1 [(6, vi v_40.1)] hs (by kernel_rfl) fun a hs => ?_)
  refine ⟨fun h => absurd h (by decide), ?_⟩
  replace hs := hs.pick [6] (L' := [(6, vi v_40.1)]) (by kernel_rfl)
  refine Vk.dDone (by kernel_rfl) ?_
  refine hK33 _ _ ?_
  clear hK33
  refine wp_ret ?_
  refine hKP31 _ _ ?_
  refine hKR31 _ _ ?_
  refine Vk.ret1 (P := Tryz.prog) (fn := Tryz.f89) (vi v_40.1) hs rfl (by kernel_rfl) ⟨_, _, _, rfl, hs.own, fun a hs => ?_⟩
  refine qpu 1 hs fun a hs => ?_
  obtain ⟨h_41, hm⟩ := ite_t hm
  refine qix b_15 0 1 hs h_41 fun a hs => ?_
  obtain ⟨h_42, hm⟩ := ite_t hm
  refine Vk.step (Vk.store1 (b := b_15) (ty := 3) (x := (.tmp 18)) (y := (.tmp 16)) (off := 0 + q_26.toNat * 1) (ci v_40.1) 6 hs (by kernel_rfl) (by kernel_rfl) (by kernel_rfl) (by kernel_rfl) (by kernel_rfl) (by kernel_rfl) rfl h_42 fun a w hs => ?_)
  refine qpk 0 [1, 4, 5, 9, 10] hs fun a hs => hK29 _ _ ?_
  clear hK29
  refine Vk.region ?_
  refine qpk 2 [1, 4, 5, 9, 10] hs fun a hs => ?_
  refine ih (v_40.2, (q_25.set (0 + q_26.toNat * 1) (ci v_40.1)), (IntKind.i64.wrap (q_26 + 1))) _ _ ⟨hm, hs.go [1, 4, 5, 9, 10] [1, 0, 2, 3, 4, 5, 6, 7] 8 (by kernel_rfl) (by kernel_rfl) (by kernel_rfl)⟩
 ·replace hm := bif_f hm hb
  refine wp_exit ?_
  exact hx23 q_25 q_24 (Option.some.inj hm).symm _ _ (hs.go [4, 5] [5, 6, 1, 0, 2, 3, 4, 7] 8 (by kernel_rfl) (by kernel_rfl) (by kernel_rfl))


abbrev share_Add.R (κ : Ctx) (S : List HP) (x0 : Twire_Machine) (x1 : Cells) (x2 : Int) (b_x0 : Nat) (r : (Cells × Twire_Machine)) : Ending → World → Prop := fun e w' => e = .returned (.agg (vals r.1)) ∧ Ow κ w' (Twire_Machine.own b_x0 r.2 :: S)
def share_Add.m (k : Nat) (x0 : Twire_Machine) (x1 : Cells) (x2 : Int) : Option (Cells × Twire_Machine) := (wire_Machine_Const.m k x0 0 x2).bind fun v_7 => (getI .i64 x1 (0)).bind fun v_10 => (wire_Machine_Two.m k v_7.2 5 0 v_10 v_7.1).bind fun v_13 => (if 0 < x1.length then (if (x1.set (0) (ci v_13.1)).length = 3 then some ((x1.set (0) (ci v_13.1)), v_13.2) else none) else none)

set_option maxRecDepth 100000 in
set_option maxHeartbeats 4000000 in
theorem share_Add.ok (k : Nat) (x0 : Twire_Machine) (x1 : Cells) (x2 : Int) (r : (Cells × Twire_Machine)) (hm : share_Add.m k x0 x1 x2 = some r) (κ : Ctx) (w : World) (S : List HP) (b_x0 : Nat) (ho : Ow κ w (Twire_Machine.own b_x0 x0 :: S)) :
  Calls Tryz.prog 49 #[pp b_x0, .agg (vals x1), vw x2] w (share_Add.R κ S x0 x1 x2 b_x0 r) := by
 unfold share_Add.m at hm
 generalize hRR : share_Add.R κ S x0 x1 x2 b_x0 r = RR
 refine qen [(0, pp b_x0), (1, .agg (vals x1)), (2, vw x2)] Tryz.func49 Tryz.ntmps49 ho fun a hs => ?_
 refine qsr fun K1 hK1 => ?_
 refine qbx 1 75 x1 4 hs fun b_2 w a hs => ?_
 refine qal 75 [ci 0, ci 0, ci 0] 6 hs fun b_3 w a hs => ?_
 refine qpk 0 [0, 2, 4, 6] hs fun a hs => hK1 _ _ ?_
 clear hK1
 refine qsr fun K4 hK4 => ?_
 refine qpu 2 hs fun a hs => ?_
 obtain ⟨v_7, h_6, hm⟩ := bind_t hm
 refine qcl (wire_Machine_Const.ok _ _ _ _ _ h_6 _ _ _ b_x0 hs.own.f2) hs fun w a hs => ?_
 refine qpk 1 [0, 4, 6, 7] hs fun a hs => hK4 _ _ ?_
 clear hK4
 refine qsr fun K8 hK8 => ?_
 refine qpu 3 hs fun a hs => ?_
 obtain ⟨v_10, h_9, hm⟩ := bind_t hm
 refine qli 2 hs rfl h_9 fun a hs => ?_
 refine qpu 1 hs fun a hs => ?_
 obtain ⟨v_13, h_12, hm⟩ := bind_t hm
 refine qcl (wire_Machine_Two.ok _ _ _ _ _ _ _ h_12 _ _ _ b_x0 hs.own) hs fun w a hs => ?_
 refine qpu 2 hs fun a hs => ?_
 obtain ⟨h_14, hm⟩ := ite_t hm
 refine Vk.step (Vk.store1 (b := b_2) (ty := 3) (x := (.tmp 18)) (y := (.tmp 16)) (off := 0) (ci v_13.1) 2 hs (by kernel_rfl) (by kernel_rfl) (by kernel_rfl) (by kernel_rfl) (by kernel_rfl) (by kernel_rfl) rfl h_14 fun a w hs => ?_)
 refine qpe 0 [(4, pp b_2), (6, pp b_3)] hs fun a hs => hK8 _ _ ?_
 clear hK8
 refine qsr fun K15 hK15 => ?_
 obtain ⟨h_16, hm⟩ := ite_t hm
 refine qlw 2 hs rfl h_16 fun a hs => ?_
 refine qsb 1 (x1.set (0) (ci v_13.1)) hs rfl h_16 rfl fun a w hs => ?_
 refine qpe 0 [(6, pp b_3)] hs fun a hs => hK15 _ _ ?_
 clear hK15
 refine wp_ret ?_
 exact Vk.retC (x1.set (0) (ci v_13.1)) hs rfl (by kernel_rfl) (sz := 3) (by kernel_rfl) h_16 (CellsAt.all 1 rfl) (hRR ▸ by cases hm; exact ⟨rfl, hs.own.f2.drop.f1.drop⟩)


abbrev share_AddTold.R (κ : Ctx) (S : List HP) (x0 : Twire_Machine) (x1 : Cells) (x2 : Int) (b_x0 : Nat) (r : (Cells × Twire_Machine)) : Ending → World → Prop := fun e w' => e = .returned (.agg (vals r.1)) ∧ Ow κ w' (Twire_Machine.own b_x0 r.2 :: S)
def share_AddTold.m (k : Nat) (x0 : Twire_Machine) (x1 : Cells) (x2 : Int) : Option (Cells × Twire_Machine) := (wire_Machine_Told.m k x0 0 x2).bind fun v_7 => (getI .i64 x1 (0)).bind fun v_10 => (wire_Machine_Two.m k v_7.2 5 0 v_10 v_7.1).bind fun v_13 => (if 0 < x1.length then (if (x1.set (0) (ci v_13.1)).length = 3 then some ((x1.set (0) (ci v_13.1)), v_13.2) else none) else none)

set_option maxRecDepth 100000 in
set_option maxHeartbeats 4000000 in
theorem share_AddTold.ok (k : Nat) (x0 : Twire_Machine) (x1 : Cells) (x2 : Int) (r : (Cells × Twire_Machine)) (hm : share_AddTold.m k x0 x1 x2 = some r) (κ : Ctx) (w : World) (S : List HP) (b_x0 : Nat) (ho : Ow κ w (Twire_Machine.own b_x0 x0 :: S)) :
  Calls Tryz.prog 50 #[pp b_x0, .agg (vals x1), vw x2] w (share_AddTold.R κ S x0 x1 x2 b_x0 r) := by
 unfold share_AddTold.m at hm
 generalize hRR : share_AddTold.R κ S x0 x1 x2 b_x0 r = RR
 refine qen [(0, pp b_x0), (1, .agg (vals x1)), (2, vw x2)] Tryz.func50 Tryz.ntmps50 ho fun a hs => ?_
 refine qsr fun K1 hK1 => ?_
 refine qbx 1 75 x1 4 hs fun b_2 w a hs => ?_
 refine qal 75 [ci 0, ci 0, ci 0] 6 hs fun b_3 w a hs => ?_
 refine qpk 0 [0, 2, 4, 6] hs fun a hs => hK1 _ _ ?_
 clear hK1
 refine qsr fun K4 hK4 => ?_
 refine qpu 2 hs fun a hs => ?_
 obtain ⟨v_7, h_6, hm⟩ := bind_t hm
 refine qcl (wire_Machine_Told.ok _ _ _ _ _ h_6 _ _ _ b_x0 hs.own.f2) hs fun w a hs => ?_
 refine qpk 1 [0, 4, 6, 7] hs fun a hs => hK4 _ _ ?_
 clear hK4
 refine qsr fun K8 hK8 => ?_
 refine qpu 3 hs fun a hs => ?_
 obtain ⟨v_10, h_9, hm⟩ := bind_t hm
 refine qli 2 hs rfl h_9 fun a hs => ?_
 refine qpu 1 hs fun a hs => ?_
 obtain ⟨v_13, h_12, hm⟩ := bind_t hm
 refine qcl (wire_Machine_Two.ok _ _ _ _ _ _ _ h_12 _ _ _ b_x0 hs.own) hs fun w a hs => ?_
 refine qpu 2 hs fun a hs => ?_
 obtain ⟨h_14, hm⟩ := ite_t hm
 refine Vk.step (Vk.store1 (b := b_2) (ty := 3) (x := (.tmp 18)) (y := (.tmp 16)) (off := 0) (ci v_13.1) 2 hs (by kernel_rfl) (by kernel_rfl) (by kernel_rfl) (by kernel_rfl) (by kernel_rfl) (by kernel_rfl) rfl h_14 fun a w hs => ?_)
 refine qpe 0 [(4, pp b_2), (6, pp b_3)] hs fun a hs => hK8 _ _ ?_
 clear hK8
 refine qsr fun K15 hK15 => ?_
 obtain ⟨h_16, hm⟩ := ite_t hm
 refine qlw 2 hs rfl h_16 fun a hs => ?_
 refine qsb 1 (x1.set (0) (ci v_13.1)) hs rfl h_16 rfl fun a w hs => ?_
 refine qpe 0 [(6, pp b_3)] hs fun a hs => hK15 _ _ ?_
 clear hK15
 refine wp_ret ?_
 exact Vk.retC (x1.set (0) (ci v_13.1)) hs rfl (by kernel_rfl) (sz := 3) (by kernel_rfl) h_16 (CellsAt.all 1 rfl) (hRR ▸ by cases hm; exact ⟨rfl, hs.own.f2.drop.f1.drop⟩)


def fresh_masks.l1 (x1 : Int) : Nat → Twire_Machine → Cells → Int → Option (Cells × Twire_Machine)
 | 0, _, _, _ => none
 | k + 1, q_8, q_9, q_10 => (bif decide (q_10 < x1) then (wire_Machine_Rand.m k q_8 (-1)).bind fun v_17 => (if 0 ≤ q_10 ∧ q_10 < 3 then (if 0 + q_10.toNat * 1 < q_9.length then fresh_masks.l1 x1 k v_17.2 (q_9.set (0 + q_10.toNat * 1) (ci v_17.1)) (IntKind.i64.wrap (q_10 + 1)) else none) else none) else some (q_9, q_8))
abbrev fresh_masks.R (κ : Ctx) (S : List HP) (x0 : Twire_Machine) (x1 : Int) (b_x0 : Nat) (r : (Cells × Twire_Machine)) : Ending → World → Prop := fun e w' => e = .returned (.agg (vals r.1)) ∧ Ow κ w' (Twire_Machine.own b_x0 r.2 :: S)
def fresh_masks.m (k : Nat) (x0 : Twire_Machine) (x1 : Int) : Option (Cells × Twire_Machine) := (fresh_masks.l1 x1 k x0 [ci 0, ci 0, ci 0] 0).bind fun x => match x with | (p_20, p_21) => (if p_20.length = 3 then some (p_20, p_21) else none)

set_option maxRecDepth 100000 in
set_option maxHeartbeats 4000000 in
theorem fresh_masks.ok (k : Nat) (x0 : Twire_Machine) (x1 : Int) (r : (Cells × Twire_Machine)) (hm : fresh_masks.m k x0 x1 = some r) (κ : Ctx) (w : World) (S : List HP) (b_x0 : Nat) (ho : Ow κ w (Twire_Machine.own b_x0 x0 :: S)) :
  Calls Tryz.prog 111 #[pp b_x0, vi x1] w (fresh_masks.R κ S x0 x1 b_x0 r) := by
 unfold fresh_masks.m at hm
 generalize hRR : fresh_masks.R κ S x0 x1 b_x0 r = RR
 refine qen [(0, pp b_x0), (1, vi x1)] Tryz.func111 Tryz.ntmps111 ho fun a hs => ?_
 refine qsr fun K1 hK1 => ?_
 refine qal 73 [ci 0, ci 0, ci 0] 4 hs fun b_2 w a hs => ?_
 refine qpk 0 [0, 1, 4] hs fun a hs => hK1 _ _ ?_
 clear hK1
 refine qsr fun K3 hK3 => ?_
 refine qal 73 [ci 0, ci 0, ci 0] 5 hs fun b_4 w a hs => ?_
 refine qpk 0 [0, 1, 4, 5] hs fun a hs => hK3 _ _ ?_
 clear hK3
 refine Vk.seq fun K5 hK5 => ?_
 refine qsk 2 [0, 4, 5, 7, 8] hs fun a hs => ?_
 refine wp_block ?_
 obtain ⟨r7, hl7, hm⟩ := bind_t hm
 have hx7 : ∀ (p_20 : Cells) (p_21 : Twire_Machine), r7 = (p_20, p_21) → ∀ (a : Act) (w : World), St 17 a w κ [(4, pp b_2), (5, pp b_4)] (pt b_2 (blk [ci 0, ci 0, ci 0] 73) :: pt b_4 (blk p_20 73) :: Twire_Machine.own b_x0 p_21 :: S) → K5 a w := by
  intro p_20 p_21 he a w hs
  subst r7
  refine hK5 _ _ ?_
  clear hK5
  refine qsr fun K25 hK25 => ?_
  obtain ⟨h_26, hm⟩ := ite_t hm
  refine qlw 1 hs rfl h_26 fun a hs => ?_
  refine qsb 0 p_20 hs rfl h_26 rfl fun a w hs => ?_
  refine qpe 0 [(4, pp b_2)] hs fun a hs => hK25 _ _ ?_
  clear hK25
  refine wp_ret ?_
  exact Vk.retC p_20 hs rfl (by kernel_rfl) (sz := 3) (by kernel_rfl) h_26 (CellsAt.all 0 rfl) (hRR ▸ by cases hm; exact ⟨rfl, hs.own.f1.drop.drop⟩)
 refine Vk.loopBy (fun k (s : Twire_Machine × Cells × Int) a w => fresh_masks.l1 x1 k s.1 s.2.1 s.2.2 = some r7 ∧ St 17 a w κ [(0, pp b_x0), (4, pp b_2), (5, pp b_4), (7, vi x1), (8, vi s.2.2)] (Twire_Machine.own b_x0 s.1 :: pt b_2 (blk [ci 0, ci 0, ci 0] 73) :: pt b_4 (blk s.2.1 73) :: S)) k (x0, [ci 0, ci 0, ci 0], 0) ⟨hl7, hs.go [0, 4, 5, 7, 8] [2, 1, 0] 3 (by kernel_rfl) (by kernel_rfl) (by kernel_rfl)⟩ (fun s a w h => by obtain ⟨h1, _⟩ := h; simp [fresh_masks.l1] at h1) (fun k KL7 ih s a w h => ?_)
 obtain ⟨q_8, q_9, q_10⟩ := s
 obtain ⟨hm, hs⟩ := h
 try dsimp only at hm hs
 rw [fresh_masks.l1] at hm
 refine qsk 1 [0, 4, 5, 7, 8, 9] hs fun a hs => ?_
 refine Vk.seq fun K12 hK12 => ?_
 refine qcs (decide (q_10 < x1)) hs (fun hb => ?_) fun hb => ?_
 ·replace hm := bif_t hm hb
  refine wp_skip ?_
  refine hK12 _ _ ?_
  clear hK12
  refine Vk.seq fun K13 hK13 => ?_
  refine wp_block ?_
  refine qsk 2 [0, 4, 5, 6, 7, 8] hs fun a hs => ?_
  refine Vk.region ?_
  refine qpu 2 hs fun a hs => ?_
  obtain ⟨v_17, h_16, hm⟩ := bind_t hm
  refine qcl (wire_Machine_Rand.ok _ _ _ _ h_16 _ _ _ b_x0 hs.own) hs fun w a hs => ?_
  obtain ⟨h_18, hm⟩ := ite_t hm
  refine qix b_4 0 1 hs h_18 fun a hs => ?_
  obtain ⟨h_19, hm⟩ := ite_t hm
  refine Vk.step (Vk.store1 (b := b_4) (ty := 3) (x := (.tmp 14)) (y := (.tmp 13)) (off := 0 + q_10.toNat * 1) (ci v_17.1) 2 hs (by kernel_rfl) (by kernel_rfl) (by kernel_rfl) (by kernel_rfl) (by kernel_rfl) (by kernel_rfl) rfl h_19 fun a w hs => ?_)
  refine qpk 0 [0, 4, 5, 7, 8] hs fun a hs => hK13 _ _ ?_
  clear hK13
  refine Vk.region ?_
  refine qpk 2 [0, 4, 5, 7, 8] hs fun a hs => ?_
  refine ih (v_17.2, (q_9.set (0 + q_10.toNat * 1) (ci v_17.1)), (IntKind.i64.wrap (q_10 + 1))) _ _ ⟨hm, hs.go [0, 4, 5, 7, 8] [0, 1, 2] 3 (by kernel_rfl) (by kernel_rfl) (by kernel_rfl)⟩
 ·replace hm := bif_f hm hb
  refine wp_exit ?_
  exact hx7 q_9 q_8 (Option.some.inj hm).symm _ _ (hs.go [4, 5] [1, 2, 0] 3 (by kernel_rfl) (by kernel_rfl) (by kernel_rfl))

end Go.Proofs.YtkabdodcacfmlaaGreat
