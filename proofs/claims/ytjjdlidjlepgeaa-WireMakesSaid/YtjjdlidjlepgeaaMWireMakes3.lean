/- Of each Go function that WireMakes comes to: a model in plain Lean, and that the program's call does what the model says; no condition. -/
import Derived.Test.YtjjdlidjlepgeaaProg
import Derived.Test.YtjjdlidjlepgeaaVollbmjpn
import Derived.Test.YtjjdlidjlepgeaaMWireMakes2
namespace Go.Proofs.Ytjjdlidjlepgeaa
open Go Go.Vk
set_option linter.unusedVariables false


abbrev visorlaw19_awake.R (κ : Ctx) (S : List HP) (r : Bool) : Ending → World → Prop := fun e w' => e = .returned (.bool r) ∧ Own κ w' (S)
def visorlaw19_awake.m (k : Nat) : Option Bool := (tape_New.m k []).bind fun v_87 => ((wire_New.m k 2 v_87 9).bind fun v => match v with | (.inl v_94) => (bif v_94.1 != 0 then some false else (visorlaw19_words.m k [] ([5, 6, 3] : List Int)).bind fun v_150 => some v_150) | (.inr v_97) => (bif v_97.2 != 0 then some false else (wire_Machine_Const.m k v_97.1 0 5).bind fun v_157 => (wire_Machine_Const.m k v_157.2 0 6).bind fun v_168 => (wire_Machine_Two.m k v_168.2 5 0 v_157.1 v_168.1).bind fun v_180 => (wire_Machine_Values.m k v_180.2).bind fun v_192 => (visorlaw19_words.m k v_192 ([5, 6, 3] : List Int)).bind fun v_199 => some v_199))

set_option maxRecDepth 100000 in
set_option maxHeartbeats 4000000 in
theorem visorlaw19_awake.ok (k : Nat) (r : Bool) (hm : visorlaw19_awake.m k = some r) (κ : Ctx) (w : World) (S : List HP) (ho : Own κ w (S)) :
    Calls Try.prog 66 #[] w (visorlaw19_awake.R κ S r) := by
  unfold visorlaw19_awake.m at hm
  refine Vk.enter [] Try.func66 rfl Try.ntmps66 (by kernel_rfl) (Nat.le_of_ble_eq_true (by kernel_rfl)) ho fun a hs => ?_
  refine Vk.seq fun K1 hK1 => ?_
  refine Vk.region ?_
  refine Vk.pures 1 [(0, .bool false)] hs (by kernel_rfl) fun a hs => ?_
  replace hs := hs.pick [] (L' := []) (by kernel_rfl)
  refine Vk.done (by kernel_rfl) ?_
  refine hK1 _ _ ?_
  clear hK1
  refine Vk.seq fun K2 hK2 => ?_
  refine Vk.region ?_
  refine Vk.pures 1 [(1, .pointer none)] hs (by kernel_rfl) fun a hs => ?_
  replace hs := hs.pick [1] (L' := [(1, .pointer none)]) (by kernel_rfl)
  refine Vk.done (by kernel_rfl) ?_
  refine hK2 _ _ ?_
  clear hK2
  refine Vk.seq fun K3 hK3 => ?_
  refine Vk.region ?_
  refine Vk.pures 1 [(6, .pointer none)] hs (by kernel_rfl) fun a hs => ?_
  refine Vk.step (Vk.call (some 7) 61 #[.pointer none, .int .i64 1] hs (by kernel_rfl) (by kernel_rfl) (by kernel_rfl) ?_)
  refine Vk.enterI [(0, .pointer none), (1, .int .i64 1)] Try.func61 rfl Try.ntmps61 (by kernel_rfl) (Nat.le_of_ble_eq_true (by kernel_rfl)) hs.own fun KR4 hKR4 hKP4 a hs => ?_
  refine Vk.seq fun K5 hK5 => ?_
  refine wp_block ?_
  refine Vk.seq fun K6 hK6 => ?_
  refine Vk.region ?_
  refine Vk.pures 10 [(4, .bool true), (13, .bool true), (12, undef), (11, undef), (10, undef), (9, undef), (8, undef), (7, .bool true), (6, .bool true), (5, .pointer none)] hs (by kernel_rfl) fun a hs => ?_
  replace hs := hs.pick [0, 1, 4] (L' := [(0, .pointer none), (1, .int .i64 1), (4, .bool true)]) (by kernel_rfl)
  refine Vk.done (by kernel_rfl) ?_
  refine hK6 _ _ ?_
  clear hK6
  refine Vk.condT hs (by kernel_rfl) (by kernel_rfl) ?_
  refine wp_ret ?_
  refine hKP4 _ _ ?_
  refine hKR4 _ _ ?_
  refine Vk.ret0 (P := Try.prog) (fn := Try.f61) hs rfl ⟨_, _, _, rfl, hs.own, fun a hs => ?_⟩
  replace hs := hs.pick [1] (L' := [(1, .pointer none)]) (by kernel_rfl)
  refine Vk.done (by kernel_rfl) ?_
  refine hK3 _ _ ?_
  clear hK3
  refine Vk.seq fun K7 hK7 => ?_
  refine Vk.region ?_
  refine Vk.pures 1 [(8, .pointer none)] hs (by kernel_rfl) fun a hs => ?_
  refine Vk.step (Vk.call (some 9) 63 #[.pointer none] hs (by kernel_rfl) (by kernel_rfl) (by kernel_rfl) ?_)
  refine Vk.enterI [(0, .pointer none)] Try.func63 rfl Try.ntmps63 (by kernel_rfl) (Nat.le_of_ble_eq_true (by kernel_rfl)) hs.own fun KR8 hKR8 hKP8 a hs => ?_
  refine Vk.seq fun K9 hK9 => ?_
  refine wp_block ?_
  refine Vk.seq fun K10 hK10 => ?_
  refine Vk.region ?_
  refine Vk.pures 10 [(2, .bool true), (11, .bool true), (10, undef), (9, undef), (8, undef), (7, undef), (6, undef), (5, .bool true), (4, .bool true), (3, .pointer none)] hs (by kernel_rfl) fun a hs => ?_
  replace hs := hs.pick [0, 2] (L' := [(0, .pointer none), (2, .bool true)]) (by kernel_rfl)
  refine Vk.done (by kernel_rfl) ?_
  refine hK10 _ _ ?_
  clear hK10
  refine Vk.condT hs (by kernel_rfl) (by kernel_rfl) ?_
  refine wp_ret ?_
  refine hKP8 _ _ ?_
  refine hKR8 _ _ ?_
  refine Vk.ret0 (P := Try.prog) (fn := Try.f63) hs rfl ⟨_, _, _, rfl, hs.own, fun a hs => ?_⟩
  replace hs := hs.pick [1] (L' := [(1, .pointer none)]) (by kernel_rfl)
  refine Vk.done (by kernel_rfl) ?_
  refine hK7 _ _ ?_
  clear hK7
  refine Vk.seq fun K11 hK11 => ?_
  refine Vk.seq fun K12 hK12 => ?_
  refine Vk.region ?_
  refine Vk.pures 1 [(10, .pointer none)] hs (by kernel_rfl) fun a hs => ?_
  refine Vk.step (Vk.call (some 11) 89 #[.pointer none, .int .i64 0] hs (by kernel_rfl) (by kernel_rfl) (by kernel_rfl) ?_)
  refine Vk.enterI [(0, .pointer none), (1, .int .i64 0)] Try.func89 rfl Try.ntmps89 (by kernel_rfl) (Nat.le_of_ble_eq_true (by kernel_rfl)) hs.own fun KR13 hKR13 hKP13 a hs => ?_
  refine Vk.seq fun K14 hK14 => ?_
  refine Vk.region ?_
  refine Vk.pures 1 [(4, .int .i64 0)] hs (by kernel_rfl) fun a hs => ?_
  replace hs := hs.pick [0, 1] (L' := [(0, .pointer none), (1, .int .i64 0)]) (by kernel_rfl)
  refine Vk.done (by kernel_rfl) ?_
  refine hK14 _ _ ?_
  clear hK14
  refine Vk.seq fun K15 hK15 => ?_
  refine Vk.region ?_
  refine Vk.pures 3 [(7, .agg (vals [C.int .i64 1, C.int .i64 0, C.int .i64 (-1), C.int .i64 (-1), C.int .i64 (-1), C.int .u64 0])), (6, .int .i64 0), (5, .pointer none)] hs (by kernel_rfl) fun a hs => ?_
  refine Vk.step (Vk.call (some 8) 60 #[.pointer none, .agg (vals [C.int .i64 1, C.int .i64 0, C.int .i64 (-1), C.int .i64 (-1), C.int .i64 (-1), C.int .u64 0]), .int .u64 0] hs (by kernel_rfl) (by kernel_rfl) (by kernel_rfl) ?_)
  refine Vk.enterI [(0, .pointer none), (1, .agg (vals [C.int .i64 1, C.int .i64 0, C.int .i64 (-1), C.int .i64 (-1), C.int .i64 (-1), C.int .u64 0])), (2, .int .u64 0)] Try.func60 rfl Try.ntmps60 (by kernel_rfl) (Nat.le_of_ble_eq_true (by kernel_rfl)) hs.own fun KR16 hKR16 hKP16 a hs => ?_
  refine Vk.seq fun K17 hK17 => ?_
  refine Vk.region ?_
  refine Vk.step (Vk.box (x := (.tmp 1)) 4 32 [C.int .i64 1, C.int .i64 0, C.int .i64 (-1), C.int .i64 (-1), C.int .i64 (-1), C.int .u64 0] hs (by kernel_rfl) (by kernel_rfl) (by kernel_rfl) fun b_18 w a hs => ?_)
  refine Vk.pures 1 [(6, .int .i64 0)] hs (by kernel_rfl) fun a hs => ?_
  replace hs := hs.pick [0, 2, 4] (L' := [(0, .pointer none), (2, .int .u64 0), (4, .pointer (some ⟨b_18, 0, none⟩))]) (by kernel_rfl)
  refine Vk.done (by kernel_rfl) ?_
  refine hK17 _ _ ?_
  clear hK17
  refine Vk.seq fun K19 hK19 => ?_
  refine wp_block ?_
  refine Vk.seq fun K20 hK20 => ?_
  refine Vk.region ?_
  refine Vk.pures 10 [(9, .bool true), (18, .bool true), (17, undef), (16, undef), (15, undef), (14, undef), (13, undef), (12, .bool true), (11, .bool true), (10, .pointer none)] hs (by kernel_rfl) fun a hs => ?_
  replace hs := hs.pick [0, 2, 4, 9] (L' := [(0, .pointer none), (2, .int .u64 0), (4, .pointer (some ⟨b_18, 0, none⟩)), (9, .bool true)]) (by kernel_rfl)
  refine Vk.done (by kernel_rfl) ?_
  refine hK20 _ _ ?_
  clear hK20
  refine Vk.condT hs (by kernel_rfl) (by kernel_rfl) ?_
  refine Vk.seq fun K21 hK21 => ?_
  refine Vk.region ?_
  refine Vk.pures 1 [(6, .int .i64 (-1))] hs (by kernel_rfl) fun a hs => ?_
  replace hs := hs.pick [6] (L' := [(6, .int .i64 (-1))]) (by kernel_rfl)
  refine Vk.done (by kernel_rfl) ?_
  refine hK21 _ _ ?_
  clear hK21
  refine wp_ret ?_
  refine hKP16 _ _ ?_
  refine hKR16 _ _ ?_
  refine Vk.ret1 (P := Try.prog) (fn := Try.f60) (.int .i64 (-1)) hs rfl (by kernel_rfl) ⟨_, _, _, rfl, hs.own, fun a hs => ?_⟩
  refine Vk.pures 1 [(4, .int .i64 (-1))] hs (by kernel_rfl) fun a hs => ?_
  replace hs := hs.pick [4] (L' := [(4, .int .i64 (-1))]) (by kernel_rfl)
  refine Vk.done (by kernel_rfl) ?_
  refine hK15 _ _ ?_
  clear hK15
  refine wp_ret ?_
  refine hKP13 _ _ ?_
  refine hKR13 _ _ ?_
  refine Vk.ret1 (P := Try.prog) (fn := Try.f89) (.int .i64 (-1)) hs rfl (by kernel_rfl) ⟨_, _, _, rfl, hs.own, fun a hs => ?_⟩
  refine Vk.pures 3 [(14, .pointer none), (13, .bool false), (12, .bool false)] hs (by kernel_rfl) fun a hs => ?_
  refine Vk.step (Vk.call (some 15) 59 #[.pointer none, .int .u64 1, .int .i64 0, .int .i64 0] hs (by kernel_rfl) (by kernel_rfl) (by kernel_rfl) ?_)
  refine Vk.enterI [(0, .pointer none), (1, .int .u64 1), (2, .int .i64 0), (3, .int .i64 0)] Try.func59 rfl Try.ntmps59 (by kernel_rfl) (Nat.le_of_ble_eq_true (by kernel_rfl)) hs.own fun KR22 hKR22 hKP22 a hs => ?_
  refine Vk.seq fun K23 hK23 => ?_
  refine Vk.region ?_
  refine Vk.pures 1 [(8, .int .i64 0)] hs (by kernel_rfl) fun a hs => ?_
  replace hs := hs.pick [0, 1, 2, 3] (L' := [(0, .pointer none), (1, .int .u64 1), (2, .int .i64 0), (3, .int .i64 0)]) (by kernel_rfl)
  refine Vk.done (by kernel_rfl) ?_
  refine hK23 _ _ ?_
  clear hK23
  refine Vk.seq fun K24 hK24 => ?_
  refine Vk.region ?_
  refine Vk.pures 4 [(12, .pointer none), (11, .int .i64 0), (10, .int .i64 0), (9, .pointer none)] hs (by kernel_rfl) fun a hs => ?_
  refine Vk.step (Vk.call (some 13) 92 #[.pointer none] hs (by kernel_rfl) (by kernel_rfl) (by kernel_rfl) ?_)
  refine Vk.enterI [(0, .pointer none)] Try.func92 rfl Try.ntmps92 (by kernel_rfl) (Nat.le_of_ble_eq_true (by kernel_rfl)) hs.own fun KR25 hKR25 hKP25 a hs => ?_
  refine Vk.seq fun K26 hK26 => ?_
  refine Vk.region ?_
  refine Vk.pures 1 [(2, .int .u64 0)] hs (by kernel_rfl) fun a hs => ?_
  replace hs := hs.pick [0] (L' := [(0, .pointer none)]) (by kernel_rfl)
  refine Vk.done (by kernel_rfl) ?_
  refine hK26 _ _ ?_
  clear hK26
  refine Vk.seq fun K27 hK27 => ?_
  refine Vk.seq fun K28 hK28 => ?_
  refine Vk.region ?_
  refine Vk.pures 2 [(4, .bool true), (3, .pointer none)] hs (by kernel_rfl) fun a hs => ?_
  replace hs := hs.pick [0, 4] (L' := [(0, .pointer none), (4, .bool true)]) (by kernel_rfl)
  refine Vk.done (by kernel_rfl) ?_
  refine hK28 _ _ ?_
  clear hK28
  refine Vk.condT hs (by kernel_rfl) (by kernel_rfl) ?_
  refine Vk.seq fun K29 hK29 => ?_
  refine Vk.region ?_
  refine Vk.pures 1 [(2, .int .u64 0)] hs (by kernel_rfl) fun a hs => ?_
  replace hs := hs.pick [2] (L' := [(2, .int .u64 0)]) (by kernel_rfl)
  refine Vk.done (by kernel_rfl) ?_
  refine hK29 _ _ ?_
  clear hK29
  refine wp_ret ?_
  refine hKP25 _ _ ?_
  refine hKR25 _ _ ?_
  refine Vk.ret1 (P := Try.prog) (fn := Try.f92) (.int .u64 0) hs rfl (by kernel_rfl) ⟨_, _, _, rfl, hs.own, fun a hs => ?_⟩
  refine Vk.pures 2 [(15, .int .u64 1), (14, .agg (vals [C.int .i64 2, C.int .i64 0, C.int .i64 0, C.int .i64 0, C.int .i64 (-1), C.int .u64 0]))] hs (by kernel_rfl) fun a hs => ?_
  refine Vk.step (Vk.call (some 16) 60 #[.pointer none, .agg (vals [C.int .i64 2, C.int .i64 0, C.int .i64 0, C.int .i64 0, C.int .i64 (-1), C.int .u64 0]), .int .u64 1] hs (by kernel_rfl) (by kernel_rfl) (by kernel_rfl) ?_)
  refine Vk.enterI [(0, .pointer none), (1, .agg (vals [C.int .i64 2, C.int .i64 0, C.int .i64 0, C.int .i64 0, C.int .i64 (-1), C.int .u64 0])), (2, .int .u64 1)] Try.func60 rfl Try.ntmps60 (by kernel_rfl) (Nat.le_of_ble_eq_true (by kernel_rfl)) hs.own fun KR30 hKR30 hKP30 a hs => ?_
  refine Vk.seq fun K31 hK31 => ?_
  refine Vk.region ?_
  refine Vk.step (Vk.box (x := (.tmp 1)) 4 32 [C.int .i64 2, C.int .i64 0, C.int .i64 0, C.int .i64 0, C.int .i64 (-1), C.int .u64 0] hs (by kernel_rfl) (by kernel_rfl) (by kernel_rfl) fun b_32 w a hs => ?_)
  refine Vk.pures 1 [(6, .int .i64 0)] hs (by kernel_rfl) fun a hs => ?_
  replace hs := hs.pick [0, 2, 4] (L' := [(0, .pointer none), (2, .int .u64 1), (4, .pointer (some ⟨b_32, 0, none⟩))]) (by kernel_rfl)
  refine Vk.done (by kernel_rfl) ?_
  refine hK31 _ _ ?_
  clear hK31
  refine Vk.seq fun K33 hK33 => ?_
  refine wp_block ?_
  refine Vk.seq fun K34 hK34 => ?_
  refine Vk.region ?_
  refine Vk.pures 10 [(9, .bool true), (18, .bool true), (17, undef), (16, undef), (15, undef), (14, undef), (13, undef), (12, .bool true), (11, .bool true), (10, .pointer none)] hs (by kernel_rfl) fun a hs => ?_
  replace hs := hs.pick [0, 2, 4, 9] (L' := [(0, .pointer none), (2, .int .u64 1), (4, .pointer (some ⟨b_32, 0, none⟩)), (9, .bool true)]) (by kernel_rfl)
  refine Vk.done (by kernel_rfl) ?_
  refine hK34 _ _ ?_
  clear hK34
  refine Vk.condT hs (by kernel_rfl) (by kernel_rfl) ?_
  refine Vk.seq fun K35 hK35 => ?_
  refine Vk.region ?_
  refine Vk.pures 1 [(6, .int .i64 (-1))] hs (by kernel_rfl) fun a hs => ?_
  replace hs := hs.pick [6] (L' := [(6, .int .i64 (-1))]) (by kernel_rfl)
  refine Vk.done (by kernel_rfl) ?_
  refine hK35 _ _ ?_
  clear hK35
  refine wp_ret ?_
  refine hKP30 _ _ ?_
  refine hKR30 _ _ ?_
  refine Vk.ret1 (P := Try.prog) (fn := Try.f60) (.int .i64 (-1)) hs rfl (by kernel_rfl) ⟨_, _, _, rfl, hs.own, fun a hs => ?_⟩
  refine Vk.pures 1 [(8, .int .i64 (-1))] hs (by kernel_rfl) fun a hs => ?_
  replace hs := hs.pick [8] (L' := [(8, .int .i64 (-1))]) (by kernel_rfl)
  refine Vk.done (by kernel_rfl) ?_
  refine hK24 _ _ ?_
  clear hK24
  refine wp_ret ?_
  refine hKP22 _ _ ?_
  refine hKR22 _ _ ?_
  refine Vk.ret1 (P := Try.prog) (fn := Try.f59) (.int .i64 (-1)) hs rfl (by kernel_rfl) ⟨_, _, _, rfl, hs.own, fun a hs => ?_⟩
  refine Vk.pures 4 [(19, .pointer none), (18, .bool false), (17, .bool false), (16, .bool false)] hs (by kernel_rfl) fun a hs => ?_
  refine Vk.step (Vk.call (some 20) 98 #[.pointer none, .int .i64 0, .int .i64 0, .int .i64 0] hs (by kernel_rfl) (by kernel_rfl) (by kernel_rfl) ?_)
  refine Vk.enterI [(0, .pointer none), (1, .int .i64 0), (2, .int .i64 0), (3, .int .i64 0)] Try.func98 rfl Try.ntmps98 (by kernel_rfl) (Nat.le_of_ble_eq_true (by kernel_rfl)) hs.own fun KR36 hKR36 hKP36 a hs => ?_
  refine Vk.seq fun K37 hK37 => ?_
  refine Vk.region ?_
  refine Vk.pures 1 [(8, .int .u64 0)] hs (by kernel_rfl) fun a hs => ?_
  replace hs := hs.pick [0, 1, 2, 3] (L' := [(0, .pointer none), (1, .int .i64 0), (2, .int .i64 0), (3, .int .i64 0)]) (by kernel_rfl)
  refine Vk.done (by kernel_rfl) ?_
  refine hK37 _ _ ?_
  clear hK37
  refine Vk.seq fun K38 hK38 => ?_
  refine Vk.region ?_
  refine Vk.pures 5 [(14, .agg (vals [C.int .i64 12, C.int .i64 (-1), C.int .i64 0, C.int .i64 0, C.int .i64 0, C.int .u64 0])), (13, .int .i64 0), (12, .int .i64 0), (11, .int .i64 0), (10, .pointer none)] hs (by kernel_rfl) fun a hs => ?_
  refine Vk.step (Vk.call (some 15) 60 #[.pointer none, .agg (vals [C.int .i64 12, C.int .i64 (-1), C.int .i64 0, C.int .i64 0, C.int .i64 0, C.int .u64 0]), .int .u64 0] hs (by kernel_rfl) (by kernel_rfl) (by kernel_rfl) ?_)
  refine Vk.enterI [(0, .pointer none), (1, .agg (vals [C.int .i64 12, C.int .i64 (-1), C.int .i64 0, C.int .i64 0, C.int .i64 0, C.int .u64 0])), (2, .int .u64 0)] Try.func60 rfl Try.ntmps60 (by kernel_rfl) (Nat.le_of_ble_eq_true (by kernel_rfl)) hs.own fun KR39 hKR39 hKP39 a hs => ?_
  refine Vk.seq fun K40 hK40 => ?_
  refine Vk.region ?_
  refine Vk.step (Vk.box (x := (.tmp 1)) 4 32 [C.int .i64 12, C.int .i64 (-1), C.int .i64 0, C.int .i64 0, C.int .i64 0, C.int .u64 0] hs (by kernel_rfl) (by kernel_rfl) (by kernel_rfl) fun b_41 w a hs => ?_)
  refine Vk.pures 1 [(6, .int .i64 0)] hs (by kernel_rfl) fun a hs => ?_
  replace hs := hs.pick [0, 2, 4] (L' := [(0, .pointer none), (2, .int .u64 0), (4, .pointer (some ⟨b_41, 0, none⟩))]) (by kernel_rfl)
  refine Vk.done (by kernel_rfl) ?_
  refine hK40 _ _ ?_
  clear hK40
  refine Vk.seq fun K42 hK42 => ?_
  refine wp_block ?_
  refine Vk.seq fun K43 hK43 => ?_
  refine Vk.region ?_
  refine Vk.pures 10 [(9, .bool true), (18, .bool true), (17, undef), (16, undef), (15, undef), (14, undef), (13, undef), (12, .bool true), (11, .bool true), (10, .pointer none)] hs (by kernel_rfl) fun a hs => ?_
  replace hs := hs.pick [0, 2, 4, 9] (L' := [(0, .pointer none), (2, .int .u64 0), (4, .pointer (some ⟨b_41, 0, none⟩)), (9, .bool true)]) (by kernel_rfl)
  refine Vk.done (by kernel_rfl) ?_
  refine hK43 _ _ ?_
  clear hK43
  refine Vk.condT hs (by kernel_rfl) (by kernel_rfl) ?_
  refine Vk.seq fun K44 hK44 => ?_
  refine Vk.region ?_
  refine Vk.pures 1 [(6, .int .i64 (-1))] hs (by kernel_rfl) fun a hs => ?_
  replace hs := hs.pick [6] (L' := [(6, .int .i64 (-1))]) (by kernel_rfl)
  refine Vk.done (by kernel_rfl) ?_
  refine hK44 _ _ ?_
  clear hK44
  refine wp_ret ?_
  refine hKP39 _ _ ?_
  refine hKR39 _ _ ?_
  refine Vk.ret1 (P := Try.prog) (fn := Try.f60) (.int .i64 (-1)) hs rfl (by kernel_rfl) ⟨_, _, _, rfl, hs.own, fun a hs => ?_⟩
  refine Vk.pures 1 [(9, .int .i64 (-1))] hs (by kernel_rfl) fun a hs => ?_
  replace hs := hs.pick [0, 9] (L' := [(0, .pointer none), (9, .int .i64 (-1))]) (by kernel_rfl)
  refine Vk.done (by kernel_rfl) ?_
  refine hK38 _ _ ?_
  clear hK38
  refine Vk.seq fun K45 hK45 => ?_
  refine wp_block ?_
  refine Vk.seq fun K46 hK46 => ?_
  refine Vk.region ?_
  refine Vk.pures 3 [(16, .bool true), (18, .bool true), (17, .int .i64 (-1))] hs (by kernel_rfl) fun a hs => ?_
  replace hs := hs.pick [0, 9, 16] (L' := [(0, .pointer none), (9, .int .i64 (-1)), (16, .bool true)]) (by kernel_rfl)
  refine Vk.done (by kernel_rfl) ?_
  refine hK46 _ _ ?_
  clear hK46
  refine Vk.condT hs (by kernel_rfl) (by kernel_rfl) ?_
  refine Vk.seq fun K47 hK47 => ?_
  refine Vk.region ?_
  refine Vk.pures 1 [(8, .int .u64 0)] hs (by kernel_rfl) fun a hs => ?_
  replace hs := hs.pick [8] (L' := [(8, .int .u64 0)]) (by kernel_rfl)
  refine Vk.done (by kernel_rfl) ?_
  refine hK47 _ _ ?_
  clear hK47
  refine wp_ret ?_
  refine hKP36 _ _ ?_
  refine hKR36 _ _ ?_
  refine Vk.ret1 (P := Try.prog) (fn := Try.f98) (.int .u64 0) hs rfl (by kernel_rfl) ⟨_, _, _, rfl, hs.own, fun a hs => ?_⟩
  refine Vk.pures 4 [(24, .pointer none), (23, .bool false), (22, .bool false), (21, .bool false)] hs (by kernel_rfl) fun a hs => ?_
  refine Vk.step (Vk.call (some 25) 58 #[.pointer none] hs (by kernel_rfl) (by kernel_rfl) (by kernel_rfl) ?_)
  refine Vk.enterI [(0, .pointer none)] Try.func58 rfl Try.ntmps58 (by kernel_rfl) (Nat.le_of_ble_eq_true (by kernel_rfl)) hs.own fun KR48 hKR48 hKP48 a hs => ?_
  refine Vk.seq fun K49 hK49 => ?_
  refine Vk.region ?_
  refine Vk.pures 1 [(2, .int .i64 0)] hs (by kernel_rfl) fun a hs => ?_
  replace hs := hs.pick [0] (L' := [(0, .pointer none)]) (by kernel_rfl)
  refine Vk.done (by kernel_rfl) ?_
  refine hK49 _ _ ?_
  clear hK49
  refine Vk.seq fun K50 hK50 => ?_
  refine Vk.seq fun K51 hK51 => ?_
  refine Vk.region ?_
  refine Vk.pures 2 [(4, .bool true), (3, .pointer none)] hs (by kernel_rfl) fun a hs => ?_
  replace hs := hs.pick [0, 4] (L' := [(0, .pointer none), (4, .bool true)]) (by kernel_rfl)
  refine Vk.done (by kernel_rfl) ?_
  refine hK51 _ _ ?_
  clear hK51
  refine Vk.condT hs (by kernel_rfl) (by kernel_rfl) ?_
  refine Vk.seq fun K52 hK52 => ?_
  refine Vk.region ?_
  refine Vk.pures 1 [(2, .int .i64 0)] hs (by kernel_rfl) fun a hs => ?_
  replace hs := hs.pick [2] (L' := [(2, .int .i64 0)]) (by kernel_rfl)
  refine Vk.done (by kernel_rfl) ?_
  refine hK52 _ _ ?_
  clear hK52
  refine wp_ret ?_
  refine hKP48 _ _ ?_
  refine hKR48 _ _ ?_
  refine Vk.ret1 (P := Try.prog) (fn := Try.f58) (.int .i64 0) hs rfl (by kernel_rfl) ⟨_, _, _, rfl, hs.own, fun a hs => ?_⟩
  refine Vk.pures 4 [(29, .pointer none), (28, .bool false), (27, .bool false), (26, .bool false)] hs (by kernel_rfl) fun a hs => ?_
  refine Vk.step (Vk.call (some 30) 62 #[.pointer none] hs (by kernel_rfl) (by kernel_rfl) (by kernel_rfl) ?_)
  refine Vk.enterI [(0, .pointer none)] Try.func62 rfl Try.ntmps62 (by kernel_rfl) (Nat.le_of_ble_eq_true (by kernel_rfl)) hs.own fun KR53 hKR53 hKP53 a hs => ?_
  refine Vk.seq fun K54 hK54 => ?_
  refine Vk.region ?_
  refine Vk.pures 1 [(2, .int .i64 0)] hs (by kernel_rfl) fun a hs => ?_
  replace hs := hs.pick [0] (L' := [(0, .pointer none)]) (by kernel_rfl)
  refine Vk.done (by kernel_rfl) ?_
  refine hK54 _ _ ?_
  clear hK54
  refine Vk.seq fun K55 hK55 => ?_
  refine Vk.seq fun K56 hK56 => ?_
  refine Vk.region ?_
  refine Vk.pures 2 [(4, .bool true), (3, .pointer none)] hs (by kernel_rfl) fun a hs => ?_
  replace hs := hs.pick [0, 4] (L' := [(0, .pointer none), (4, .bool true)]) (by kernel_rfl)
  refine Vk.done (by kernel_rfl) ?_
  refine hK56 _ _ ?_
  clear hK56
  refine Vk.condT hs (by kernel_rfl) (by kernel_rfl) ?_
  refine Vk.seq fun K57 hK57 => ?_
  refine Vk.region ?_
  refine Vk.pures 1 [(2, .int .i64 1)] hs (by kernel_rfl) fun a hs => ?_
  replace hs := hs.pick [2] (L' := [(2, .int .i64 1)]) (by kernel_rfl)
  refine Vk.done (by kernel_rfl) ?_
  refine hK57 _ _ ?_
  clear hK57
  refine wp_ret ?_
  refine hKP53 _ _ ?_
  refine hKR53 _ _ ?_
  refine Vk.ret1 (P := Try.prog) (fn := Try.f62) (.int .i64 1) hs rfl (by kernel_rfl) ⟨_, _, _, rfl, hs.own, fun a hs => ?_⟩
  refine Vk.pures 4 [(34, .pointer none), (33, .bool false), (32, .bool false), (31, .bool false)] hs (by kernel_rfl) fun a hs => ?_
  refine Vk.step (Vk.call (some 35) 68 #[.pointer none] hs (by kernel_rfl) (by kernel_rfl) (by kernel_rfl) ?_)
  refine Vk.enterI [(0, .pointer none)] Try.func68 rfl Try.ntmps68 (by kernel_rfl) (Nat.le_of_ble_eq_true (by kernel_rfl)) hs.own fun KR58 hKR58 hKP58 a hs => ?_
  refine Vk.seq fun K59 hK59 => ?_
  refine Vk.region ?_
  refine Vk.pures 1 [(2, .pointer none)] hs (by kernel_rfl) fun a hs => ?_
  replace hs := hs.pick [0] (L' := [(0, .pointer none)]) (by kernel_rfl)
  refine Vk.done (by kernel_rfl) ?_
  refine hK59 _ _ ?_
  clear hK59
  refine Vk.seq fun K60 hK60 => ?_
  refine Vk.seq fun K61 hK61 => ?_
  refine Vk.region ?_
  refine Vk.pures 2 [(4, .bool true), (3, .pointer none)] hs (by kernel_rfl) fun a hs => ?_
  replace hs := hs.pick [0, 4] (L' := [(0, .pointer none), (4, .bool true)]) (by kernel_rfl)
  refine Vk.done (by kernel_rfl) ?_
  refine hK61 _ _ ?_
  clear hK61
  refine Vk.condT hs (by kernel_rfl) (by kernel_rfl) ?_
  refine Vk.seq fun K62 hK62 => ?_
  refine Vk.region ?_
  refine Vk.pures 1 [(2, .pointer none)] hs (by kernel_rfl) fun a hs => ?_
  replace hs := hs.pick [2] (L' := [(2, .pointer none)]) (by kernel_rfl)
  refine Vk.done (by kernel_rfl) ?_
  refine hK62 _ _ ?_
  clear hK62
  refine wp_ret ?_
  refine hKP58 _ _ ?_
  refine hKR58 _ _ ?_
  refine Vk.ret1 (P := Try.prog) (fn := Try.f68) (.pointer none) hs rfl (by kernel_rfl) ⟨_, _, _, rfl, hs.own, fun a hs => ?_⟩
  refine Vk.pures 4 [(39, .pointer none), (38, .bool false), (37, .bool false), (36, .bool false)] hs (by kernel_rfl) fun a hs => ?_
  refine Vk.step (Vk.call (some 40) 53 #[.pointer none] hs (by kernel_rfl) (by kernel_rfl) (by kernel_rfl) ?_)
  refine Vk.enterI [(0, .pointer none)] Try.func53 rfl Try.ntmps53 (by kernel_rfl) (Nat.le_of_ble_eq_true (by kernel_rfl)) hs.own fun KR63 hKR63 hKP63 a hs => ?_
  refine Vk.seq fun K64 hK64 => ?_
  refine Vk.region ?_
  refine Vk.pures 1 [(2, .slice none 0 0)] hs (by kernel_rfl) fun a hs => ?_
  replace hs := hs.pick [0] (L' := [(0, .pointer none)]) (by kernel_rfl)
  refine Vk.done (by kernel_rfl) ?_
  refine hK64 _ _ ?_
  clear hK64
  refine Vk.seq fun K65 hK65 => ?_
  refine Vk.seq fun K66 hK66 => ?_
  refine Vk.region ?_
  refine Vk.pures 2 [(4, .bool true), (3, .pointer none)] hs (by kernel_rfl) fun a hs => ?_
  replace hs := hs.pick [0, 4] (L' := [(0, .pointer none), (4, .bool true)]) (by kernel_rfl)
  refine Vk.done (by kernel_rfl) ?_
  refine hK66 _ _ ?_
  clear hK66
  refine Vk.condT hs (by kernel_rfl) (by kernel_rfl) ?_
  refine Vk.seq fun K67 hK67 => ?_
  refine Vk.region ?_
  refine Vk.pures 1 [(2, .slice none 0 0)] hs (by kernel_rfl) fun a hs => ?_
  replace hs := hs.pick [2] (L' := [(2, .slice none 0 0)]) (by kernel_rfl)
  refine Vk.done (by kernel_rfl) ?_
  refine hK67 _ _ ?_
  clear hK67
  refine wp_ret ?_
  refine hKP63 _ _ ?_
  refine hKR63 _ _ ?_
  refine Vk.ret1 (P := Try.prog) (fn := Try.f53) (.slice none 0 0) hs rfl (by kernel_rfl) ⟨_, _, _, rfl, hs.own, fun a hs => ?_⟩
  refine Vk.pures 5 [(45, .pointer none), (44, .bool false), (43, .bool false), (42, .bool false), (41, .int .i64 0)] hs (by kernel_rfl) fun a hs => ?_
  refine Vk.step (Vk.call (some 46) 88 #[.pointer none] hs (by kernel_rfl) (by kernel_rfl) (by kernel_rfl) ?_)
  refine Vk.enterI [(0, .pointer none)] Try.func88 rfl Try.ntmps88 (by kernel_rfl) (Nat.le_of_ble_eq_true (by kernel_rfl)) hs.own fun KR68 hKR68 hKP68 a hs => ?_
  refine Vk.seq fun K69 hK69 => ?_
  refine Vk.region ?_
  refine Vk.pures 1 [(2, .int .i64 0)] hs (by kernel_rfl) fun a hs => ?_
  replace hs := hs.pick [0] (L' := [(0, .pointer none)]) (by kernel_rfl)
  refine Vk.done (by kernel_rfl) ?_
  refine hK69 _ _ ?_
  clear hK69
  refine Vk.seq fun K70 hK70 => ?_
  refine Vk.seq fun K71 hK71 => ?_
  refine Vk.region ?_
  refine Vk.pures 2 [(4, .bool true), (3, .pointer none)] hs (by kernel_rfl) fun a hs => ?_
  replace hs := hs.pick [0, 4] (L' := [(0, .pointer none), (4, .bool true)]) (by kernel_rfl)
  refine Vk.done (by kernel_rfl) ?_
  refine hK71 _ _ ?_
  clear hK71
  refine Vk.condT hs (by kernel_rfl) (by kernel_rfl) ?_
  refine Vk.seq fun K72 hK72 => ?_
  refine Vk.region ?_
  refine Vk.pures 1 [(2, .int .i64 0)] hs (by kernel_rfl) fun a hs => ?_
  replace hs := hs.pick [2] (L' := [(2, .int .i64 0)]) (by kernel_rfl)
  refine Vk.done (by kernel_rfl) ?_
  refine hK72 _ _ ?_
  clear hK72
  refine wp_ret ?_
  refine hKP68 _ _ ?_
  refine hKR68 _ _ ?_
  refine Vk.ret1 (P := Try.prog) (fn := Try.f88) (.int .i64 0) hs rfl (by kernel_rfl) ⟨_, _, _, rfl, hs.own, fun a hs => ?_⟩
  refine Vk.pures 4 [(50, .pointer none), (49, .bool false), (48, .bool false), (47, .bool false)] hs (by kernel_rfl) fun a hs => ?_
  refine Vk.step (Vk.call (some 51) 99 #[.pointer none] hs (by kernel_rfl) (by kernel_rfl) (by kernel_rfl) ?_)
  refine Vk.enterI [(0, .pointer none)] Try.func99 rfl Try.ntmps99 (by kernel_rfl) (Nat.le_of_ble_eq_true (by kernel_rfl)) hs.own fun KR73 hKR73 hKP73 a hs => ?_
  refine Vk.seq fun K74 hK74 => ?_
  refine Vk.region ?_
  refine Vk.pures 1 [(2, .int .i64 0)] hs (by kernel_rfl) fun a hs => ?_
  replace hs := hs.pick [0] (L' := [(0, .pointer none)]) (by kernel_rfl)
  refine Vk.done (by kernel_rfl) ?_
  refine hK74 _ _ ?_
  clear hK74
  refine Vk.seq fun K75 hK75 => ?_
  refine Vk.seq fun K76 hK76 => ?_
  refine Vk.region ?_
  refine Vk.pures 2 [(4, .bool true), (3, .pointer none)] hs (by kernel_rfl) fun a hs => ?_
  replace hs := hs.pick [0, 4] (L' := [(0, .pointer none), (4, .bool true)]) (by kernel_rfl)
  refine Vk.done (by kernel_rfl) ?_
  refine hK76 _ _ ?_
  clear hK76
  refine Vk.condT hs (by kernel_rfl) (by kernel_rfl) ?_
  refine Vk.seq fun K77 hK77 => ?_
  refine Vk.region ?_
  refine Vk.pures 1 [(2, .int .i64 0)] hs (by kernel_rfl) fun a hs => ?_
  replace hs := hs.pick [2] (L' := [(2, .int .i64 0)]) (by kernel_rfl)
  refine Vk.done (by kernel_rfl) ?_
  refine hK77 _ _ ?_
  clear hK77
  refine wp_ret ?_
  refine hKP73 _ _ ?_
  refine hKR73 _ _ ?_
  refine Vk.ret1 (P := Try.prog) (fn := Try.f99) (.int .i64 0) hs rfl (by kernel_rfl) ⟨_, _, _, rfl, hs.own, fun a hs => ?_⟩
  refine Vk.pures 4 [(55, .pointer none), (54, .bool false), (53, .bool false), (52, .bool false)] hs (by kernel_rfl) fun a hs => ?_
  refine Vk.step (Vk.call (some 56) 65 #[.pointer none] hs (by kernel_rfl) (by kernel_rfl) (by kernel_rfl) ?_)
  refine Vk.enterI [(0, .pointer none)] Try.func65 rfl Try.ntmps65 (by kernel_rfl) (Nat.le_of_ble_eq_true (by kernel_rfl)) hs.own fun KR78 hKR78 hKP78 a hs => ?_
  refine Vk.seq fun K79 hK79 => ?_
  refine Vk.region ?_
  refine Vk.step (Vk.alloc 2 72 [C.int .i64 0, C.slc none 0 0, C.slc none 0 0] hs (by kernel_rfl) (by kernel_rfl) (by kernel_rfl) fun b_80 w a hs => ?_)
  replace hs := hs.pick [0, 2] (L' := [(0, .pointer none), (2, .pointer (some ⟨b_80, 0, none⟩))]) (by kernel_rfl)
  refine Vk.done (by kernel_rfl) ?_
  refine hK79 _ _ ?_
  clear hK79
  refine Vk.seq fun K81 hK81 => ?_
  refine Vk.seq fun K82 hK82 => ?_
  refine Vk.region ?_
  refine Vk.pures 2 [(4, .bool true), (3, .pointer none)] hs (by kernel_rfl) fun a hs => ?_
  replace hs := hs.pick [0, 2, 4] (L' := [(0, .pointer none), (2, .pointer (some ⟨b_80, 0, none⟩)), (4, .bool true)]) (by kernel_rfl)
  refine Vk.done (by kernel_rfl) ?_
  refine hK82 _ _ ?_
  clear hK82
  refine Vk.condT hs (by kernel_rfl) (by kernel_rfl) ?_
  refine Vk.seq fun K83 hK83 => ?_
  refine Vk.region ?_
  refine Vk.pures 1 [(5, .agg (vals [C.int .i64 0, C.slc none 0 0, C.slc none 0 0]))] hs (by kernel_rfl) fun a hs => ?_
  refine Vk.step (Vk.storeA (b := b_80) (ty := 72) (x := (.tmp 2)) (y := (.tmp 5)) (sz := 3) [C.int .i64 0, C.slc none 0 0, C.slc none 0 0] 0 hs (by kernel_rfl) (by kernel_rfl) (by kernel_rfl) (by kernel_rfl) (by kernel_rfl) rfl (by kernel_rfl) rfl (Eq.trans (b := 3) rfl (Eq.symm rfl)) fun a w hs => ?_)
  replace hs := hs.pick [2] (L' := [(2, .pointer (some ⟨b_80, 0, none⟩))]) (by kernel_rfl)
  refine Vk.done (by kernel_rfl) ?_
  refine hK83 _ _ ?_
  clear hK83
  refine wp_ret ?_
  refine hKP78 _ _ ?_
  refine hKR78 _ _ ?_
  refine Vk.retC (P := Try.prog) (fn := Try.f65) [C.int .i64 0, C.slc none 0 0, C.slc none 0 0] hs rfl (by kernel_rfl) (sz := 3) (by kernel_rfl) rfl (CellsAt.all 0 rfl) ⟨_, _, _, rfl, hs.own, fun a hs => ?_⟩
  refine Vk.pures 4 [(60, .bool false), (59, .bool false), (58, .int .i64 0), (57, .slice none 0 0)] hs (by kernel_rfl) fun a hs => ?_
  replace hs := hs.pick [60] (L' := [(60, .bool false)]) (by kernel_rfl)
  refine Vk.done (by kernel_rfl) ?_
  refine hK12 _ _ ?_
  clear hK12
  refine Vk.condF hs (by kernel_rfl) (by kernel_rfl) ?_
  refine wp_skip ?_
  refine hK11 _ _ ?_
  clear hK11
  refine Vk.seq fun K84 hK84 => ?_
  refine Vk.region ?_
  obtain ⟨v_87, h_86, hm⟩ := bind_t hm
  refine Vk.step (Vk.call (some 62) 54 #[.slice none 0 0] hs (by kernel_rfl) (by kernel_rfl) (by kernel_rfl) ?_)
  refine (tape_New.ok k [] v_87 h_86 κ w (pt b_80 (blk [C.int .i64 0, C.slc none 0 0, C.slc none 0 0] 72) :: pt b_41 (blk [C.int .i64 12, C.int .i64 (-1), C.int .i64 0, C.int .i64 0, C.int .i64 0, C.int .u64 0] 32) :: pt b_32 (blk [C.int .i64 2, C.int .i64 0, C.int .i64 0, C.int .i64 0, C.int .i64 (-1), C.int .u64 0] 32) :: pt b_18 (blk [C.int .i64 1, C.int .i64 0, C.int .i64 (-1), C.int .i64 (-1), C.int .i64 (-1), C.int .u64 0] 32) :: S) none 0 Sl.nil hs.own).mono ?_
  rintro _ w ⟨br85x0_88, Ar85x0owords_89, cr85x0owords_90, rfl, how⟩
  refine ⟨_, _, _, rfl, how, fun a hs => ?_⟩
  obtain ⟨v_93, h_92, hm⟩ := bind_t hm
  refine Vk.step (Vk.call (some 63) 57 #[.int .i64 2, .pointer (some ⟨br85x0_88, 0, none⟩), .int .i64 9] hs (by kernel_rfl) (by kernel_rfl) (by kernel_rfl) ?_)
  refine (wire_New.ok k 2 v_87 9 v_93 h_92 κ w (pt b_80 (blk [C.int .i64 0, C.slc none 0 0, C.slc none 0 0] 72) :: pt b_41 (blk [C.int .i64 12, C.int .i64 (-1), C.int .i64 0, C.int .i64 0, C.int .i64 0, C.int .u64 0] 32) :: pt b_32 (blk [C.int .i64 2, C.int .i64 0, C.int .i64 0, C.int .i64 0, C.int .i64 (-1), C.int .u64 0] 32) :: pt b_18 (blk [C.int .i64 1, C.int .i64 0, C.int .i64 (-1), C.int .i64 (-1), C.int .i64 (-1), C.int .u64 0] 32) :: S) br85x0_88 Ar85x0owords_89 cr85x0owords_90 (Own.to hs.own [0, 1, 2, 3, 4, 5] 6 (by kernel_rfl) (by kernel_rfl))).mono ?_
  rintro _ w (⟨v_94, rfl, Ar91o0owords_95, cr91o0owords_96, rfl, how⟩ | ⟨v_97, rfl, br91x0_98, br91x0otape_99, Ar91x0otapeowords_100, cr91x0otapeowords_101, Ar91x0oops_102, cr91x0oops_103, Ar91x0ovalues_104, cr91x0ovalues_105, Ar91x0oblocks_106, cr91x0oblocks_107, rfl, how⟩)
  · dsimp only at hm
    refine ⟨_, _, _, rfl, how, fun a hs => ?_⟩
    refine Vk.pures 5 [(3, .int .i64 v_94.1), (2, .pointer none), (65, .int .i64 v_94.1), (64, .pointer none), (61, .tuple #[.pointer none, .int .i64 v_94.1])] hs (by kernel_rfl) fun a hs => ?_
    replace hs := hs.pick [2, 3] (L' := [(2, .pointer none), (3, .int .i64 v_94.1)]) (by kernel_rfl)
    refine Vk.done (by kernel_rfl) ?_
    refine hK84 _ _ ?_
    refine Vk.seq fun K108 hK108 => ?_
    refine Vk.seq fun K109 hK109 => ?_
    refine Vk.region ?_
    refine Vk.pures 2 [(67, .bool (v_94.1 != 0)), (66, .int .i64 v_94.1)] hs (by kernel_rfl) fun a hs => ?_
    replace hs := hs.pick [2, 67] (L' := [(2, .pointer none), (67, .bool (v_94.1 != 0))]) (by kernel_rfl)
    refine Vk.done (by kernel_rfl) ?_
    refine hK109 _ _ ?_
    clear hK109
    refine Vk.condS (b := v_94.1 != 0) hs (by kernel_rfl) (by kernel_rfl) (fun hb => ?_) (fun hb => ?_)
    · replace hm := bif_t hm hb
      refine Vk.seq fun K110 hK110 => ?_
      refine Vk.region ?_
      refine Vk.pures 1 [(0, .bool false)] hs (by kernel_rfl) fun a hs => ?_
      replace hs := hs.pick [0] (L' := [(0, .bool false)]) (by kernel_rfl)
      refine Vk.done (by kernel_rfl) ?_
      refine hK110 _ _ ?_
      clear hK110
      refine wp_ret ?_
      exact Vk.ret1 (P := Try.prog) (fn := Try.f66) (R := visorlaw19_awake.R κ S r) (.bool false) hs rfl (by kernel_rfl) (by obtain rfl := Option.some.inj hm; exact ⟨rfl, (Own.to hs.own [] 6 (by kernel_rfl) (by kernel_rfl))⟩)
    · replace hm := bif_f hm hb
      refine wp_skip ?_
      refine hK108 _ _ ?_
      clear hK108
      refine Vk.seq fun K111 hK111 => ?_
      refine Vk.region ?_
      refine Vk.pures 1 [(68, .pointer none)] hs (by kernel_rfl) fun a hs => ?_
      refine Vk.step (Vk.call (some 69) 100 #[.pointer none, .int .i64 0, .int .u64 5] hs (by kernel_rfl) (by kernel_rfl) (by kernel_rfl) ?_)
      refine Vk.enterI [(0, .pointer none), (1, .int .i64 0), (2, .int .u64 5)] Try.func100 rfl Try.ntmps100 (by kernel_rfl) (Nat.le_of_ble_eq_true (by kernel_rfl)) hs.own fun KR112 hKR112 hKP112 a hs => ?_
      refine Vk.seq fun K113 hK113 => ?_
      refine Vk.region ?_
      refine Vk.pures 1 [(6, .int .i64 0)] hs (by kernel_rfl) fun a hs => ?_
      replace hs := hs.pick [0, 1, 2] (L' := [(0, .pointer none), (1, .int .i64 0), (2, .int .u64 5)]) (by kernel_rfl)
      refine Vk.done (by kernel_rfl) ?_
      refine hK113 _ _ ?_
      clear hK113
      refine Vk.seq fun K114 hK114 => ?_
      refine Vk.region ?_
      refine Vk.pures 4 [(10, .agg (vals [C.int .i64 3, C.int .i64 0, C.int .i64 (-1), C.int .i64 (-1), C.int .i64 (-1), C.int .u64 5])), (9, .int .u64 5), (8, .int .i64 0), (7, .pointer none)] hs (by kernel_rfl) fun a hs => ?_
      refine Vk.step (Vk.call (some 11) 60 #[.pointer none, .agg (vals [C.int .i64 3, C.int .i64 0, C.int .i64 (-1), C.int .i64 (-1), C.int .i64 (-1), C.int .u64 5]), .int .u64 0] hs (by kernel_rfl) (by kernel_rfl) (by kernel_rfl) ?_)
      refine Vk.enterI [(0, .pointer none), (1, .agg (vals [C.int .i64 3, C.int .i64 0, C.int .i64 (-1), C.int .i64 (-1), C.int .i64 (-1), C.int .u64 5])), (2, .int .u64 0)] Try.func60 rfl Try.ntmps60 (by kernel_rfl) (Nat.le_of_ble_eq_true (by kernel_rfl)) hs.own fun KR115 hKR115 hKP115 a hs => ?_
      refine Vk.seq fun K116 hK116 => ?_
      refine Vk.region ?_
      refine Vk.step (Vk.box (x := (.tmp 1)) 4 32 [C.int .i64 3, C.int .i64 0, C.int .i64 (-1), C.int .i64 (-1), C.int .i64 (-1), C.int .u64 5] hs (by kernel_rfl) (by kernel_rfl) (by kernel_rfl) fun b_117 w a hs => ?_)
      refine Vk.pures 1 [(6, .int .i64 0)] hs (by kernel_rfl) fun a hs => ?_
      replace hs := hs.pick [0, 2, 4] (L' := [(0, .pointer none), (2, .int .u64 0), (4, .pointer (some ⟨b_117, 0, none⟩))]) (by kernel_rfl)
      refine Vk.done (by kernel_rfl) ?_
      refine hK116 _ _ ?_
      clear hK116
      refine Vk.seq fun K118 hK118 => ?_
      refine wp_block ?_
      refine Vk.seq fun K119 hK119 => ?_
      refine Vk.region ?_
      refine Vk.pures 10 [(9, .bool true), (18, .bool true), (17, undef), (16, undef), (15, undef), (14, undef), (13, undef), (12, .bool true), (11, .bool true), (10, .pointer none)] hs (by kernel_rfl) fun a hs => ?_
      replace hs := hs.pick [0, 2, 4, 9] (L' := [(0, .pointer none), (2, .int .u64 0), (4, .pointer (some ⟨b_117, 0, none⟩)), (9, .bool true)]) (by kernel_rfl)
      refine Vk.done (by kernel_rfl) ?_
      refine hK119 _ _ ?_
      clear hK119
      refine Vk.condT hs (by kernel_rfl) (by kernel_rfl) ?_
      refine Vk.seq fun K120 hK120 => ?_
      refine Vk.region ?_
      refine Vk.pures 1 [(6, .int .i64 (-1))] hs (by kernel_rfl) fun a hs => ?_
      replace hs := hs.pick [6] (L' := [(6, .int .i64 (-1))]) (by kernel_rfl)
      refine Vk.done (by kernel_rfl) ?_
      refine hK120 _ _ ?_
      clear hK120
      refine wp_ret ?_
      refine hKP115 _ _ ?_
      refine hKR115 _ _ ?_
      refine Vk.ret1 (P := Try.prog) (fn := Try.f60) (.int .i64 (-1)) hs rfl (by kernel_rfl) ⟨_, _, _, rfl, hs.own, fun a hs => ?_⟩
      refine Vk.pures 1 [(6, .int .i64 (-1))] hs (by kernel_rfl) fun a hs => ?_
      replace hs := hs.pick [6] (L' := [(6, .int .i64 (-1))]) (by kernel_rfl)
      refine Vk.done (by kernel_rfl) ?_
      refine hK114 _ _ ?_
      clear hK114
      refine wp_ret ?_
      refine hKP112 _ _ ?_
      refine hKR112 _ _ ?_
      refine Vk.ret1 (P := Try.prog) (fn := Try.f100) (.int .i64 (-1)) hs rfl (by kernel_rfl) ⟨_, _, _, rfl, hs.own, fun a hs => ?_⟩
      refine Vk.pures 1 [(70, .pointer none)] hs (by kernel_rfl) fun a hs => ?_
      refine Vk.step (Vk.call (some 71) 100 #[.pointer none, .int .i64 0, .int .u64 6] hs (by kernel_rfl) (by kernel_rfl) (by kernel_rfl) ?_)
      refine Vk.enterI [(0, .pointer none), (1, .int .i64 0), (2, .int .u64 6)] Try.func100 rfl Try.ntmps100 (by kernel_rfl) (Nat.le_of_ble_eq_true (by kernel_rfl)) hs.own fun KR121 hKR121 hKP121 a hs => ?_
      refine Vk.seq fun K122 hK122 => ?_
      refine Vk.region ?_
      refine Vk.pures 1 [(6, .int .i64 0)] hs (by kernel_rfl) fun a hs => ?_
      replace hs := hs.pick [0, 1, 2] (L' := [(0, .pointer none), (1, .int .i64 0), (2, .int .u64 6)]) (by kernel_rfl)
      refine Vk.done (by kernel_rfl) ?_
      refine hK122 _ _ ?_
      clear hK122
      refine Vk.seq fun K123 hK123 => ?_
      refine Vk.region ?_
      refine Vk.pures 4 [(10, .agg (vals [C.int .i64 3, C.int .i64 0, C.int .i64 (-1), C.int .i64 (-1), C.int .i64 (-1), C.int .u64 6])), (9, .int .u64 6), (8, .int .i64 0), (7, .pointer none)] hs (by kernel_rfl) fun a hs => ?_
      refine Vk.step (Vk.call (some 11) 60 #[.pointer none, .agg (vals [C.int .i64 3, C.int .i64 0, C.int .i64 (-1), C.int .i64 (-1), C.int .i64 (-1), C.int .u64 6]), .int .u64 0] hs (by kernel_rfl) (by kernel_rfl) (by kernel_rfl) ?_)
      refine Vk.enterI [(0, .pointer none), (1, .agg (vals [C.int .i64 3, C.int .i64 0, C.int .i64 (-1), C.int .i64 (-1), C.int .i64 (-1), C.int .u64 6])), (2, .int .u64 0)] Try.func60 rfl Try.ntmps60 (by kernel_rfl) (Nat.le_of_ble_eq_true (by kernel_rfl)) hs.own fun KR124 hKR124 hKP124 a hs => ?_
      refine Vk.seq fun K125 hK125 => ?_
      refine Vk.region ?_
      refine Vk.step (Vk.box (x := (.tmp 1)) 4 32 [C.int .i64 3, C.int .i64 0, C.int .i64 (-1), C.int .i64 (-1), C.int .i64 (-1), C.int .u64 6] hs (by kernel_rfl) (by kernel_rfl) (by kernel_rfl) fun b_126 w a hs => ?_)
      refine Vk.pures 1 [(6, .int .i64 0)] hs (by kernel_rfl) fun a hs => ?_
      replace hs := hs.pick [0, 2, 4] (L' := [(0, .pointer none), (2, .int .u64 0), (4, .pointer (some ⟨b_126, 0, none⟩))]) (by kernel_rfl)
      refine Vk.done (by kernel_rfl) ?_
      refine hK125 _ _ ?_
      clear hK125
      refine Vk.seq fun K127 hK127 => ?_
      refine wp_block ?_
      refine Vk.seq fun K128 hK128 => ?_
      refine Vk.region ?_
      refine Vk.pures 10 [(9, .bool true), (18, .bool true), (17, undef), (16, undef), (15, undef), (14, undef), (13, undef), (12, .bool true), (11, .bool true), (10, .pointer none)] hs (by kernel_rfl) fun a hs => ?_
      replace hs := hs.pick [0, 2, 4, 9] (L' := [(0, .pointer none), (2, .int .u64 0), (4, .pointer (some ⟨b_126, 0, none⟩)), (9, .bool true)]) (by kernel_rfl)
      refine Vk.done (by kernel_rfl) ?_
      refine hK128 _ _ ?_
      clear hK128
      refine Vk.condT hs (by kernel_rfl) (by kernel_rfl) ?_
      refine Vk.seq fun K129 hK129 => ?_
      refine Vk.region ?_
      refine Vk.pures 1 [(6, .int .i64 (-1))] hs (by kernel_rfl) fun a hs => ?_
      replace hs := hs.pick [6] (L' := [(6, .int .i64 (-1))]) (by kernel_rfl)
      refine Vk.done (by kernel_rfl) ?_
      refine hK129 _ _ ?_
      clear hK129
      refine wp_ret ?_
      refine hKP124 _ _ ?_
      refine hKR124 _ _ ?_
      refine Vk.ret1 (P := Try.prog) (fn := Try.f60) (.int .i64 (-1)) hs rfl (by kernel_rfl) ⟨_, _, _, rfl, hs.own, fun a hs => ?_⟩
      refine Vk.pures 1 [(6, .int .i64 (-1))] hs (by kernel_rfl) fun a hs => ?_
      replace hs := hs.pick [6] (L' := [(6, .int .i64 (-1))]) (by kernel_rfl)
      refine Vk.done (by kernel_rfl) ?_
      refine hK123 _ _ ?_
      clear hK123
      refine wp_ret ?_
      refine hKP121 _ _ ?_
      refine hKR121 _ _ ?_
      refine Vk.ret1 (P := Try.prog) (fn := Try.f100) (.int .i64 (-1)) hs rfl (by kernel_rfl) ⟨_, _, _, rfl, hs.own, fun a hs => ?_⟩
      refine Vk.pures 2 [(5, .int .i64 (-1)), (4, .int .i64 (-1))] hs (by kernel_rfl) fun a hs => ?_
      replace hs := hs.pick [2, 4, 5] (L' := [(2, .pointer none), (4, .int .i64 (-1)), (5, .int .i64 (-1))]) (by kernel_rfl)
      refine Vk.done (by kernel_rfl) ?_
      refine hK111 _ _ ?_
      clear hK111
      refine Vk.seq fun K130 hK130 => ?_
      refine Vk.region ?_
      refine Vk.pures 3 [(74, .int .i64 (-1)), (73, .int .i64 (-1)), (72, .pointer none)] hs (by kernel_rfl) fun a hs => ?_
      refine Vk.step (Vk.call (some 75) 101 #[.pointer none, .int .i64 5, .int .i64 0, .int .i64 (-1), .int .i64 (-1)] hs (by kernel_rfl) (by kernel_rfl) (by kernel_rfl) ?_)
      refine Vk.enterI [(0, .pointer none), (1, .int .i64 5), (2, .int .i64 0), (3, .int .i64 (-1)), (4, .int .i64 (-1))] Try.func101 rfl Try.ntmps101 (by kernel_rfl) (Nat.le_of_ble_eq_true (by kernel_rfl)) hs.own fun KR131 hKR131 hKP131 a hs => ?_
      refine Vk.seq fun K132 hK132 => ?_
      refine Vk.region ?_
      refine Vk.pures 1 [(10, .int .i64 0)] hs (by kernel_rfl) fun a hs => ?_
      replace hs := hs.pick [0, 1, 2, 3, 4] (L' := [(0, .pointer none), (1, .int .i64 5), (2, .int .i64 0), (3, .int .i64 (-1)), (4, .int .i64 (-1))]) (by kernel_rfl)
      refine Vk.done (by kernel_rfl) ?_
      refine hK132 _ _ ?_
      clear hK132
      refine Vk.seq fun K133 hK133 => ?_
      refine Vk.region ?_
      refine Vk.pures 6 [(16, .agg (vals [C.int .i64 5, C.int .i64 0, C.int .i64 (-1), C.int .i64 (-1), C.int .i64 (-1), C.int .u64 0])), (15, .int .i64 (-1)), (14, .int .i64 (-1)), (13, .int .i64 0), (12, .int .i64 5), (11, .pointer none)] hs (by kernel_rfl) fun a hs => ?_
      refine Vk.step (Vk.call (some 17) 60 #[.pointer none, .agg (vals [C.int .i64 5, C.int .i64 0, C.int .i64 (-1), C.int .i64 (-1), C.int .i64 (-1), C.int .u64 0]), .int .u64 0] hs (by kernel_rfl) (by kernel_rfl) (by kernel_rfl) ?_)
      refine Vk.enterI [(0, .pointer none), (1, .agg (vals [C.int .i64 5, C.int .i64 0, C.int .i64 (-1), C.int .i64 (-1), C.int .i64 (-1), C.int .u64 0])), (2, .int .u64 0)] Try.func60 rfl Try.ntmps60 (by kernel_rfl) (Nat.le_of_ble_eq_true (by kernel_rfl)) hs.own fun KR134 hKR134 hKP134 a hs => ?_
      refine Vk.seq fun K135 hK135 => ?_
      refine Vk.region ?_
      refine Vk.step (Vk.box (x := (.tmp 1)) 4 32 [C.int .i64 5, C.int .i64 0, C.int .i64 (-1), C.int .i64 (-1), C.int .i64 (-1), C.int .u64 0] hs (by kernel_rfl) (by kernel_rfl) (by kernel_rfl) fun b_136 w a hs => ?_)
      refine Vk.pures 1 [(6, .int .i64 0)] hs (by kernel_rfl) fun a hs => ?_
      replace hs := hs.pick [0, 2, 4] (L' := [(0, .pointer none), (2, .int .u64 0), (4, .pointer (some ⟨b_136, 0, none⟩))]) (by kernel_rfl)
      refine Vk.done (by kernel_rfl) ?_
      refine hK135 _ _ ?_
      clear hK135
      refine Vk.seq fun K137 hK137 => ?_
      refine wp_block ?_
      refine Vk.seq fun K138 hK138 => ?_
      refine Vk.region ?_
      refine Vk.pures 10 [(9, .bool true), (18, .bool true), (17, undef), (16, undef), (15, undef), (14, undef), (13, undef), (12, .bool true), (11, .bool true), (10, .pointer none)] hs (by kernel_rfl) fun a hs => ?_
      replace hs := hs.pick [0, 2, 4, 9] (L' := [(0, .pointer none), (2, .int .u64 0), (4, .pointer (some ⟨b_136, 0, none⟩)), (9, .bool true)]) (by kernel_rfl)
      refine Vk.done (by kernel_rfl) ?_
      refine hK138 _ _ ?_
      clear hK138
      refine Vk.condT hs (by kernel_rfl) (by kernel_rfl) ?_
      refine Vk.seq fun K139 hK139 => ?_
      refine Vk.region ?_
      refine Vk.pures 1 [(6, .int .i64 (-1))] hs (by kernel_rfl) fun a hs => ?_
      replace hs := hs.pick [6] (L' := [(6, .int .i64 (-1))]) (by kernel_rfl)
      refine Vk.done (by kernel_rfl) ?_
      refine hK139 _ _ ?_
      clear hK139
      refine wp_ret ?_
      refine hKP134 _ _ ?_
      refine hKR134 _ _ ?_
      refine Vk.ret1 (P := Try.prog) (fn := Try.f60) (.int .i64 (-1)) hs rfl (by kernel_rfl) ⟨_, _, _, rfl, hs.own, fun a hs => ?_⟩
      refine Vk.pures 1 [(10, .int .i64 (-1))] hs (by kernel_rfl) fun a hs => ?_
      replace hs := hs.pick [10] (L' := [(10, .int .i64 (-1))]) (by kernel_rfl)
      refine Vk.done (by kernel_rfl) ?_
      refine hK133 _ _ ?_
      clear hK133
      refine wp_ret ?_
      refine hKP131 _ _ ?_
      refine hKR131 _ _ ?_
      refine Vk.ret1 (P := Try.prog) (fn := Try.f101) (.int .i64 (-1)) hs rfl (by kernel_rfl) ⟨_, _, _, rfl, hs.own, fun a hs => ?_⟩
      replace hs := hs.pick [2] (L' := [(2, .pointer none)]) (by kernel_rfl)
      refine Vk.done (by kernel_rfl) ?_
      refine hK130 _ _ ?_
      clear hK130
      refine Vk.seq fun K140 hK140 => ?_
      refine Vk.region ?_
      refine Vk.pures 1 [(76, .pointer none)] hs (by kernel_rfl) fun a hs => ?_
      refine Vk.step (Vk.call (some 77) 53 #[.pointer none] hs (by kernel_rfl) (by kernel_rfl) (by kernel_rfl) ?_)
      refine Vk.enterI [(0, .pointer none)] Try.func53 rfl Try.ntmps53 (by kernel_rfl) (Nat.le_of_ble_eq_true (by kernel_rfl)) hs.own fun KR141 hKR141 hKP141 a hs => ?_
      refine Vk.seq fun K142 hK142 => ?_
      refine Vk.region ?_
      refine Vk.pures 1 [(2, .slice none 0 0)] hs (by kernel_rfl) fun a hs => ?_
      replace hs := hs.pick [0] (L' := [(0, .pointer none)]) (by kernel_rfl)
      refine Vk.done (by kernel_rfl) ?_
      refine hK142 _ _ ?_
      clear hK142
      refine Vk.seq fun K143 hK143 => ?_
      refine Vk.seq fun K144 hK144 => ?_
      refine Vk.region ?_
      refine Vk.pures 2 [(4, .bool true), (3, .pointer none)] hs (by kernel_rfl) fun a hs => ?_
      replace hs := hs.pick [0, 4] (L' := [(0, .pointer none), (4, .bool true)]) (by kernel_rfl)
      refine Vk.done (by kernel_rfl) ?_
      refine hK144 _ _ ?_
      clear hK144
      refine Vk.condT hs (by kernel_rfl) (by kernel_rfl) ?_
      refine Vk.seq fun K145 hK145 => ?_
      refine Vk.region ?_
      refine Vk.pures 1 [(2, .slice none 0 0)] hs (by kernel_rfl) fun a hs => ?_
      replace hs := hs.pick [2] (L' := [(2, .slice none 0 0)]) (by kernel_rfl)
      refine Vk.done (by kernel_rfl) ?_
      refine hK145 _ _ ?_
      clear hK145
      refine wp_ret ?_
      refine hKP141 _ _ ?_
      refine hKR141 _ _ ?_
      refine Vk.ret1 (P := Try.prog) (fn := Try.f53) (.slice none 0 0) hs rfl (by kernel_rfl) ⟨_, _, _, rfl, hs.own, fun a hs => ?_⟩
      refine Vk.step (Vk.buildOp (sz := 1) (by_ := 8) (t := 73) (e := 23) (parts := #[(0, (.const (.int .u64 5))), (1, (.const (.int .u64 6))), (2, (.const (.int .u64 3)))]) (zs := vals [C.int .u64 0]) ([5, 6, 3] : List Int) (eI .u64) (some 78) hs (by kernel_rfl) (by kernel_rfl) (by kernel_rfl) (by kernel_rfl) (by decide) rfl (fun x _ => rfl) (Nat.le_of_ble_eq_true (by kernel_rfl)) (by kernel_rfl) fun A_146 w a hs => ?_)
      obtain ⟨v_150, h_149, hm⟩ := bind_t hm
      refine Vk.step (Vk.call (some 79) 102 #[.slice none 0 0, .slice A_146 (([5, 6, 3] : List Int).length) 3] hs (by kernel_rfl) (by kernel_rfl) (by kernel_rfl) ?_)
      refine (visorlaw19_words.ok k [] ([5, 6, 3] : List Int) v_150 h_149 κ w (rowp A_146 3 23 1 (eI .u64) ([5, 6, 3] : List Int) :: pt b_136 (blk [C.int .i64 5, C.int .i64 0, C.int .i64 (-1), C.int .i64 (-1), C.int .i64 (-1), C.int .u64 0] 32) :: pt b_126 (blk [C.int .i64 3, C.int .i64 0, C.int .i64 (-1), C.int .i64 (-1), C.int .i64 (-1), C.int .u64 6] 32) :: pt b_117 (blk [C.int .i64 3, C.int .i64 0, C.int .i64 (-1), C.int .i64 (-1), C.int .i64 (-1), C.int .u64 5] 32) :: pt br85x0_88 (blk (Ttape_Tape.obj v_94.2 Ar91o0owords_95 cr91o0owords_96) 158) :: rowp Ar91o0owords_95 cr91o0owords_96 23 1 (eI .u64) v_94.2.words :: pt b_80 (blk [C.int .i64 0, C.slc none 0 0, C.slc none 0 0] 72) :: pt b_41 (blk [C.int .i64 12, C.int .i64 (-1), C.int .i64 0, C.int .i64 0, C.int .i64 0, C.int .u64 0] 32) :: pt b_32 (blk [C.int .i64 2, C.int .i64 0, C.int .i64 0, C.int .i64 0, C.int .i64 (-1), C.int .u64 0] 32) :: pt b_18 (blk [C.int .i64 1, C.int .i64 0, C.int .i64 (-1), C.int .i64 (-1), C.int .i64 (-1), C.int .u64 0] 32) :: S) none 0 Sl.nil A_146 3 (Sl.lift (fun w ho => (Own.to (S' := rowp A_146 3 23 1 (eI .u64) ([5, 6, 3] : List Int) :: S) ho [0] 10 (by kernel_rfl) (by kernel_rfl))) (Own.rowSl 0 (Own.to (S' := rowp A_146 3 23 1 (eI .u64) ([5, 6, 3] : List Int) :: S) hs.own [0] 10 (by kernel_rfl) (by kernel_rfl)) rfl)) hs.own).mono ?_
      rintro _ w ⟨rfl, how⟩
      refine ⟨_, _, _, rfl, how, fun a hs => ?_⟩
      refine Vk.pures 1 [(0, .bool v_150)] hs (by kernel_rfl) fun a hs => ?_
      replace hs := hs.pick [0] (L' := [(0, .bool v_150)]) (by kernel_rfl)
      refine Vk.done (by kernel_rfl) ?_
      refine hK140 _ _ ?_
      clear hK140
      refine wp_ret ?_
      exact Vk.ret1 (P := Try.prog) (fn := Try.f66) (R := visorlaw19_awake.R κ S r) (.bool v_150) hs rfl (by kernel_rfl) (by obtain rfl := Option.some.inj hm; exact ⟨rfl, (Own.to hs.own [] 10 (by kernel_rfl) (by kernel_rfl))⟩)
  · dsimp only at hm
    refine ⟨_, _, _, rfl, how, fun a hs => ?_⟩
    refine Vk.pures 5 [(3, .int .i64 v_97.2), (2, .pointer (some ⟨br91x0_98, 0, none⟩)), (65, .int .i64 v_97.2), (64, .pointer (some ⟨br91x0_98, 0, none⟩)), (61, .tuple #[.pointer (some ⟨br91x0_98, 0, none⟩), .int .i64 v_97.2])] hs (by kernel_rfl) fun a hs => ?_
    replace hs := hs.pick [2, 3] (L' := [(2, .pointer (some ⟨br91x0_98, 0, none⟩)), (3, .int .i64 v_97.2)]) (by kernel_rfl)
    refine Vk.done (by kernel_rfl) ?_
    refine hK84 _ _ ?_
    refine Vk.seq fun K151 hK151 => ?_
    refine Vk.seq fun K152 hK152 => ?_
    refine Vk.region ?_
    refine Vk.pures 2 [(67, .bool (v_97.2 != 0)), (66, .int .i64 v_97.2)] hs (by kernel_rfl) fun a hs => ?_
    replace hs := hs.pick [2, 67] (L' := [(2, .pointer (some ⟨br91x0_98, 0, none⟩)), (67, .bool (v_97.2 != 0))]) (by kernel_rfl)
    refine Vk.done (by kernel_rfl) ?_
    refine hK152 _ _ ?_
    clear hK152
    refine Vk.condS (b := v_97.2 != 0) hs (by kernel_rfl) (by kernel_rfl) (fun hb => ?_) (fun hb => ?_)
    · replace hm := bif_t hm hb
      refine Vk.seq fun K153 hK153 => ?_
      refine Vk.region ?_
      refine Vk.pures 1 [(0, .bool false)] hs (by kernel_rfl) fun a hs => ?_
      replace hs := hs.pick [0] (L' := [(0, .bool false)]) (by kernel_rfl)
      refine Vk.done (by kernel_rfl) ?_
      refine hK153 _ _ ?_
      clear hK153
      refine wp_ret ?_
      exact Vk.ret1 (P := Try.prog) (fn := Try.f66) (R := visorlaw19_awake.R κ S r) (.bool false) hs rfl (by kernel_rfl) (by obtain rfl := Option.some.inj hm; exact ⟨rfl, (Own.to hs.own [] 10 (by kernel_rfl) (by kernel_rfl))⟩)
    · replace hm := bif_f hm hb
      refine wp_skip ?_
      refine hK151 _ _ ?_
      clear hK151
      refine Vk.seq fun K154 hK154 => ?_
      refine Vk.region ?_
      refine Vk.pures 1 [(68, .pointer (some ⟨br91x0_98, 0, none⟩))] hs (by kernel_rfl) fun a hs => ?_
      obtain ⟨v_157, h_156, hm⟩ := bind_t hm
      refine Vk.step (Vk.call (some 69) 100 #[.pointer (some ⟨br91x0_98, 0, none⟩), .int .i64 0, .int .u64 5] hs (by kernel_rfl) (by kernel_rfl) (by kernel_rfl) ?_)
      refine (wire_Machine_Const.ok k v_97.1 0 5 v_157 h_156 κ w (pt b_80 (blk [C.int .i64 0, C.slc none 0 0, C.slc none 0 0] 72) :: pt b_41 (blk [C.int .i64 12, C.int .i64 (-1), C.int .i64 0, C.int .i64 0, C.int .i64 0, C.int .u64 0] 32) :: pt b_32 (blk [C.int .i64 2, C.int .i64 0, C.int .i64 0, C.int .i64 0, C.int .i64 (-1), C.int .u64 0] 32) :: pt b_18 (blk [C.int .i64 1, C.int .i64 0, C.int .i64 (-1), C.int .i64 (-1), C.int .i64 (-1), C.int .u64 0] 32) :: S) br91x0_98 br91x0otape_99 Ar91x0otapeowords_100 cr91x0otapeowords_101 Ar91x0oops_102 cr91x0oops_103 Ar91x0ovalues_104 cr91x0ovalues_105 Ar91x0oblocks_106 cr91x0oblocks_107 (Own.to hs.own [0, 1, 2, 3, 4, 5, 6, 7, 8, 9] 10 (by kernel_rfl) (by kernel_rfl))).mono ?_
      rintro _ w ⟨Ar155o0otapeowords_158, cr155o0otapeowords_159, Ar155o0oops_160, cr155o0oops_161, Ar155o0ovalues_162, cr155o0ovalues_163, Ar155o0oblocks_164, cr155o0oblocks_165, rfl, how⟩
      refine ⟨_, _, _, rfl, how, fun a hs => ?_⟩
      refine Vk.pures 1 [(70, .pointer (some ⟨br91x0_98, 0, none⟩))] hs (by kernel_rfl) fun a hs => ?_
      obtain ⟨v_168, h_167, hm⟩ := bind_t hm
      refine Vk.step (Vk.call (some 71) 100 #[.pointer (some ⟨br91x0_98, 0, none⟩), .int .i64 0, .int .u64 6] hs (by kernel_rfl) (by kernel_rfl) (by kernel_rfl) ?_)
      refine (wire_Machine_Const.ok k v_157.2 0 6 v_168 h_167 κ w (pt b_80 (blk [C.int .i64 0, C.slc none 0 0, C.slc none 0 0] 72) :: pt b_41 (blk [C.int .i64 12, C.int .i64 (-1), C.int .i64 0, C.int .i64 0, C.int .i64 0, C.int .u64 0] 32) :: pt b_32 (blk [C.int .i64 2, C.int .i64 0, C.int .i64 0, C.int .i64 0, C.int .i64 (-1), C.int .u64 0] 32) :: pt b_18 (blk [C.int .i64 1, C.int .i64 0, C.int .i64 (-1), C.int .i64 (-1), C.int .i64 (-1), C.int .u64 0] 32) :: S) br91x0_98 br91x0otape_99 Ar155o0otapeowords_158 cr155o0otapeowords_159 Ar155o0oops_160 cr155o0oops_161 Ar155o0ovalues_162 cr155o0ovalues_163 Ar155o0oblocks_164 cr155o0oblocks_165 (Own.to hs.own [0, 1, 2, 3, 4, 5, 6, 7, 8, 9] 10 (by kernel_rfl) (by kernel_rfl))).mono ?_
      rintro _ w ⟨Ar166o0otapeowords_169, cr166o0otapeowords_170, Ar166o0oops_171, cr166o0oops_172, Ar166o0ovalues_173, cr166o0ovalues_174, Ar166o0oblocks_175, cr166o0oblocks_176, rfl, how⟩
      refine ⟨_, _, _, rfl, how, fun a hs => ?_⟩
      refine Vk.pures 2 [(5, .int .i64 v_168.1), (4, .int .i64 v_157.1)] hs (by kernel_rfl) fun a hs => ?_
      replace hs := hs.pick [2, 4, 5] (L' := [(2, .pointer (some ⟨br91x0_98, 0, none⟩)), (4, .int .i64 v_157.1), (5, .int .i64 v_168.1)]) (by kernel_rfl)
      refine Vk.done (by kernel_rfl) ?_
      refine hK154 _ _ ?_
      clear hK154
      refine Vk.seq fun K177 hK177 => ?_
      refine Vk.region ?_
      refine Vk.pures 3 [(74, .int .i64 v_168.1), (73, .int .i64 v_157.1), (72, .pointer (some ⟨br91x0_98, 0, none⟩))] hs (by kernel_rfl) fun a hs => ?_
      obtain ⟨v_180, h_179, hm⟩ := bind_t hm
      refine Vk.step (Vk.call (some 75) 101 #[.pointer (some ⟨br91x0_98, 0, none⟩), .int .i64 5, .int .i64 0, .int .i64 v_157.1, .int .i64 v_168.1] hs (by kernel_rfl) (by kernel_rfl) (by kernel_rfl) ?_)
      refine (wire_Machine_Two.ok k v_168.2 5 0 v_157.1 v_168.1 v_180 h_179 κ w (pt b_80 (blk [C.int .i64 0, C.slc none 0 0, C.slc none 0 0] 72) :: pt b_41 (blk [C.int .i64 12, C.int .i64 (-1), C.int .i64 0, C.int .i64 0, C.int .i64 0, C.int .u64 0] 32) :: pt b_32 (blk [C.int .i64 2, C.int .i64 0, C.int .i64 0, C.int .i64 0, C.int .i64 (-1), C.int .u64 0] 32) :: pt b_18 (blk [C.int .i64 1, C.int .i64 0, C.int .i64 (-1), C.int .i64 (-1), C.int .i64 (-1), C.int .u64 0] 32) :: S) br91x0_98 br91x0otape_99 Ar166o0otapeowords_169 cr166o0otapeowords_170 Ar166o0oops_171 cr166o0oops_172 Ar166o0ovalues_173 cr166o0ovalues_174 Ar166o0oblocks_175 cr166o0oblocks_176 (Own.to hs.own [0, 1, 2, 3, 4, 5, 6, 7, 8, 9] 10 (by kernel_rfl) (by kernel_rfl))).mono ?_
      rintro _ w ⟨Ar178o0otapeowords_181, cr178o0otapeowords_182, Ar178o0oops_183, cr178o0oops_184, Ar178o0ovalues_185, cr178o0ovalues_186, Ar178o0oblocks_187, cr178o0oblocks_188, rfl, how⟩
      refine ⟨_, _, _, rfl, how, fun a hs => ?_⟩
      replace hs := hs.pick [2] (L' := [(2, .pointer (some ⟨br91x0_98, 0, none⟩))]) (by kernel_rfl)
      refine Vk.done (by kernel_rfl) ?_
      refine hK177 _ _ ?_
      clear hK177
      refine Vk.seq fun K189 hK189 => ?_
      refine Vk.region ?_
      refine Vk.pures 1 [(76, .pointer (some ⟨br91x0_98, 0, none⟩))] hs (by kernel_rfl) fun a hs => ?_
      obtain ⟨v_192, h_191, hm⟩ := bind_t hm
      refine Vk.step (Vk.call (some 77) 53 #[.pointer (some ⟨br91x0_98, 0, none⟩)] hs (by kernel_rfl) (by kernel_rfl) (by kernel_rfl) ?_)
      refine (wire_Machine_Values.ok k v_180.2 v_192 h_191 κ w (pt b_80 (blk [C.int .i64 0, C.slc none 0 0, C.slc none 0 0] 72) :: pt b_41 (blk [C.int .i64 12, C.int .i64 (-1), C.int .i64 0, C.int .i64 0, C.int .i64 0, C.int .u64 0] 32) :: pt b_32 (blk [C.int .i64 2, C.int .i64 0, C.int .i64 0, C.int .i64 0, C.int .i64 (-1), C.int .u64 0] 32) :: pt b_18 (blk [C.int .i64 1, C.int .i64 0, C.int .i64 (-1), C.int .i64 (-1), C.int .i64 (-1), C.int .u64 0] 32) :: S) br91x0_98 br91x0otape_99 Ar178o0otapeowords_181 cr178o0otapeowords_182 Ar178o0oops_183 cr178o0oops_184 Ar178o0ovalues_185 cr178o0ovalues_186 Ar178o0oblocks_187 cr178o0oblocks_188 (Own.to hs.own [0, 1, 2, 3, 4, 5, 6, 7, 8, 9] 10 (by kernel_rfl) (by kernel_rfl))).mono ?_
      rintro _ w ⟨Ar190x0_193, cr190x0_194, rfl, how⟩
      refine ⟨_, _, _, rfl, how, fun a hs => ?_⟩
      refine Vk.step (Vk.buildOp (sz := 1) (by_ := 8) (t := 73) (e := 23) (parts := #[(0, (.const (.int .u64 5))), (1, (.const (.int .u64 6))), (2, (.const (.int .u64 3)))]) (zs := vals [C.int .u64 0]) ([5, 6, 3] : List Int) (eI .u64) (some 78) hs (by kernel_rfl) (by kernel_rfl) (by kernel_rfl) (by kernel_rfl) (by decide) rfl (fun x _ => rfl) (Nat.le_of_ble_eq_true (by kernel_rfl)) (by kernel_rfl) fun A_195 w a hs => ?_)
      obtain ⟨v_199, h_198, hm⟩ := bind_t hm
      refine Vk.step (Vk.call (some 79) 102 #[.slice Ar190x0_193 v_192.length cr190x0_194, .slice A_195 (([5, 6, 3] : List Int).length) 3] hs (by kernel_rfl) (by kernel_rfl) (by kernel_rfl) ?_)
      refine (visorlaw19_words.ok k v_192 ([5, 6, 3] : List Int) v_199 h_198 κ w (rowp A_195 3 23 1 (eI .u64) ([5, 6, 3] : List Int) :: rowp Ar190x0_193 cr190x0_194 23 1 (eI .u64) v_192 :: pt br91x0_98 (blk (Twire_Machine.obj v_180.2 br91x0otape_99 Ar178o0oops_183 cr178o0oops_184 Ar178o0ovalues_185 cr178o0ovalues_186 Ar178o0oblocks_187 cr178o0oblocks_188) 151) :: pt br91x0otape_99 (blk (Ttape_Tape.obj v_180.2.tape Ar178o0otapeowords_181 cr178o0otapeowords_182) 158) :: rowp Ar178o0otapeowords_181 cr178o0otapeowords_182 23 1 (eI .u64) v_180.2.tape.words :: rowp Ar178o0oops_183 cr178o0oops_184 32 6 Tapi_Op.cells v_180.2.ops :: rowp Ar178o0ovalues_185 cr178o0ovalues_186 23 1 (eI .u64) v_180.2.values :: rowp Ar178o0oblocks_187 cr178o0oblocks_188 144 3 Tapi_Span.cells v_180.2.blocks :: pt b_80 (blk [C.int .i64 0, C.slc none 0 0, C.slc none 0 0] 72) :: pt b_41 (blk [C.int .i64 12, C.int .i64 (-1), C.int .i64 0, C.int .i64 0, C.int .i64 0, C.int .u64 0] 32) :: pt b_32 (blk [C.int .i64 2, C.int .i64 0, C.int .i64 0, C.int .i64 0, C.int .i64 (-1), C.int .u64 0] 32) :: pt b_18 (blk [C.int .i64 1, C.int .i64 0, C.int .i64 (-1), C.int .i64 (-1), C.int .i64 (-1), C.int .u64 0] 32) :: S) Ar190x0_193 cr190x0_194 (Sl.lift (fun w ho => (Own.to (S' := rowp Ar190x0_193 cr190x0_194 23 1 (eI .u64) v_192 :: S) ho [1] 12 (by kernel_rfl) (by kernel_rfl))) (Own.rowSl 0 (Own.to (S' := rowp Ar190x0_193 cr190x0_194 23 1 (eI .u64) v_192 :: S) hs.own [1] 12 (by kernel_rfl) (by kernel_rfl)) rfl)) A_195 3 (Sl.lift (fun w ho => (Own.to (S' := rowp A_195 3 23 1 (eI .u64) ([5, 6, 3] : List Int) :: S) ho [0] 12 (by kernel_rfl) (by kernel_rfl))) (Own.rowSl 0 (Own.to (S' := rowp A_195 3 23 1 (eI .u64) ([5, 6, 3] : List Int) :: S) hs.own [0] 12 (by kernel_rfl) (by kernel_rfl)) rfl)) hs.own).mono ?_
      rintro _ w ⟨rfl, how⟩
      refine ⟨_, _, _, rfl, how, fun a hs => ?_⟩
      refine Vk.pures 1 [(0, .bool v_199)] hs (by kernel_rfl) fun a hs => ?_
      replace hs := hs.pick [0] (L' := [(0, .bool v_199)]) (by kernel_rfl)
      refine Vk.done (by kernel_rfl) ?_
      refine hK189 _ _ ?_
      clear hK189
      refine wp_ret ?_
      exact Vk.ret1 (P := Try.prog) (fn := Try.f66) (R := visorlaw19_awake.R κ S r) (.bool v_199) hs rfl (by kernel_rfl) (by obtain rfl := Option.some.inj hm; exact ⟨rfl, (Own.to hs.own [] 12 (by kernel_rfl) (by kernel_rfl))⟩)

structure Tvisorlaw19_Act where
  kind : Int
  o : Tapi_Op
  x : Int
  deriving Inhabited
def Tvisorlaw19_Act.cells (x : Tvisorlaw19_Act) : Cells := [C.int .i64 x.kind, C.int .i64 x.o.kind, C.int .i64 x.o.dom, C.int .i64 x.o.a, C.int .i64 x.o.b, C.int .i64 x.o.d, C.int .u64 x.o.c, C.int .u64 x.x]

def visorlaw19_WireMakes.j6 (k : Nat) (p_454 : Bool) : Option (Bool) := some p_454
def visorlaw19_WireMakes.j5 (k : Nat) (rec57 : Twire_Machine → (List Int) → Int → Option (Twire_Machine × List Int)) (q_70 : Int) (p_314 : Twire_Machine) (p_329 : List Int) (p_330 : Int) (p_331 : Int) (p_332 : Bool) (p_333 : Int) (p_334 : Bool) : Option (Twire_Machine × List Int) := rec57 p_314 p_329 (IntKind.i64.wrap (q_70 + 1))
def visorlaw19_WireMakes.j4 (k : Nat) (rec57 : Twire_Machine → (List Int) → Int → Option (Twire_Machine × List Int)) (x1 : List Tvisorlaw19_Act) (q_70 : Int) (v_78 : Int) (p_186 : List Int) (p_187 : Int) (p_188 : Bool) (p_216 : Twire_Machine) : Option (Twire_Machine × List Int) := (if 0 ≤ q_70 then (x1[q_70.toNat]?).bind fun e_233 => (bif e_233.kind == 9 then (wire_Machine_Err.m k p_216).bind fun v_239 => (bif v_239 == 0 then (wire_Machine_End.m k p_216).bind fun v_242 => visorlaw19_WireMakes.j5 k (rec57) q_70 v_242 p_186 p_187 v_78 p_188 v_239 (v_239 == 0) else visorlaw19_WireMakes.j5 k (rec57) q_70 p_216 p_186 p_187 v_78 p_188 v_239 (v_239 == 0)) else rec57 p_216 p_186 (IntKind.i64.wrap (q_70 + 1))) else none)
def visorlaw19_WireMakes.j3 (k : Nat) (rec57 : Twire_Machine → (List Int) → Int → Option (Twire_Machine × List Int)) (x1 : List Tvisorlaw19_Act) (q_70 : Int) (v_78 : Int) (p_147 : Twire_Machine) (p_186 : List Int) (p_187 : Int) (p_188 : Bool) : Option (Twire_Machine × List Int) := (if 0 ≤ q_70 then (x1[q_70.toNat]?).bind fun e_194 => (bif e_194.kind == 8 then (if 0 ≤ q_70 then (x1[q_70.toNat]?).bind fun e_201 => (wire_Machine_Begin.m k p_147 (IntKind.i64.wrap (1 + (IntKind.i64.wrap (Int.tmod e_201.x 3))))).bind fun v_207 => visorlaw19_WireMakes.j4 k (rec57) x1 q_70 v_78 p_186 p_187 p_188 v_207 else none) else visorlaw19_WireMakes.j4 k (rec57) x1 q_70 v_78 p_186 p_187 p_188 p_147) else none)
def visorlaw19_WireMakes.j5_2 (k : Nat) (rec57 : Twire_Machine → (List Int) → Int → Option (Twire_Machine × List Int)) (q_69 : List Int) (q_70 : Int) (p_336 : Twire_Machine) (p_349 : Int) (p_350 : Bool) : Option (Twire_Machine × List Int) := rec57 p_336 q_69 (IntKind.i64.wrap (q_70 + 1))
def visorlaw19_WireMakes.j5_3 (k : Nat) (rec57 : Twire_Machine → (List Int) → Int → Option (Twire_Machine × List Int)) (q_69 : List Int) (q_70 : Int) (p_352 : Twire_Machine) : Option (Twire_Machine × List Int) := rec57 p_352 q_69 (IntKind.i64.wrap (q_70 + 1))
def visorlaw19_WireMakes.j4_2 (k : Nat) (rec57 : Twire_Machine → (List Int) → Int → Option (Twire_Machine × List Int)) (x1 : List Tvisorlaw19_Act) (q_69 : List Int) (q_70 : Int) (p_279 : Twire_Machine) : Option (Twire_Machine × List Int) := (if 0 ≤ q_70 then (x1[q_70.toNat]?).bind fun e_296 => (bif e_296.kind == 9 then (wire_Machine_Err.m k p_279).bind fun v_302 => (bif v_302 == 0 then (wire_Machine_End.m k p_279).bind fun v_305 => visorlaw19_WireMakes.j5_2 k (rec57) q_69 q_70 v_305 v_302 (v_302 == 0) else visorlaw19_WireMakes.j5_2 k (rec57) q_69 q_70 p_279 v_302 (v_302 == 0)) else visorlaw19_WireMakes.j5_3 k (rec57) q_69 q_70 p_279) else none)
def visorlaw19_WireMakes.j2 (k : Nat) (rec57 : Twire_Machine → (List Int) → Int → Option (Twire_Machine × List Int)) (x1 : List Tvisorlaw19_Act) (q_69 : List Int) (q_70 : Int) (v_78 : Int) (p_147 : Twire_Machine) : Option (Twire_Machine × List Int) := (if 0 ≤ q_70 then (x1[q_70.toNat]?).bind fun e_165 => (bif e_165.kind == 2 then (wire_Machine_Len.m k p_147).bind fun v_171 => (bif decide (v_171 > v_78) then (if 0 ≤ q_70 then (x1[q_70.toNat]?).bind fun e_175 => (if (q_69.length + ([e_175.x] : List Int).length) * 8 ≤ 140737488355328 then visorlaw19_WireMakes.j3 k (rec57) x1 q_70 v_78 p_147 (q_69 ++ ([e_175.x] : List Int)) v_171 (decide (v_171 > v_78)) else none) else none) else visorlaw19_WireMakes.j3 k (rec57) x1 q_70 v_78 p_147 q_69 v_171 (decide (v_171 > v_78))) else (if 0 ≤ q_70 then (x1[q_70.toNat]?).bind fun e_257 => (bif e_257.kind == 8 then (if 0 ≤ q_70 then (x1[q_70.toNat]?).bind fun e_264 => (wire_Machine_Begin.m k p_147 (IntKind.i64.wrap (1 + (IntKind.i64.wrap (Int.tmod e_264.x 3))))).bind fun v_270 => visorlaw19_WireMakes.j4_2 k (rec57) x1 q_69 q_70 v_270 else none) else visorlaw19_WireMakes.j4_2 k (rec57) x1 q_69 q_70 p_147) else none)) else none)
def visorlaw19_WireMakes.l1 (x1 : List Tvisorlaw19_Act) : Nat → Twire_Machine → (List Int) → Int → Option (Twire_Machine × List Int)
  | 0, _, _, _ => none
  | k + 1, q_58, q_69, q_70 => (bif (decide (q_70 < ((x1.length : Nat) : Int))) && (decide (q_70 < 150)) then (wire_Machine_Len.m k q_58).bind fun v_78 => (if 0 ≤ q_70 then (x1[q_70.toNat]?).bind fun e_84 => (bif e_84.kind == 2 then (if 0 ≤ q_70 then (x1[q_70.toNat]?).bind fun e_92 => (if 0 ≤ q_70 then (x1[q_70.toNat]?).bind fun e_99 => (if 0 ≤ q_70 then (x1[q_70.toNat]?).bind fun e_106 => (wire_Machine_Key.m k q_58 e_92.x e_99.o.a e_106.o.b).bind fun v_112 => visorlaw19_WireMakes.j2 k (visorlaw19_WireMakes.l1 x1 k) x1 q_69 q_70 v_78 v_112.2 else none) else none) else none) else (if 0 ≤ q_70 then (x1[q_70.toNat]?).bind fun e_125 => (bif e_125.o.kind == 2 then visorlaw19_WireMakes.j5_3 k (visorlaw19_WireMakes.l1 x1 k) q_69 q_70 q_58 else (if 0 ≤ q_70 then (x1[q_70.toNat]?).bind fun e_132 => (wire_Machine_Do.m k q_58 e_132.o 0).bind fun v_138 => visorlaw19_WireMakes.j2 k (visorlaw19_WireMakes.l1 x1 k) x1 q_69 q_70 v_78 v_138.2 else none)) else none)) else none) else some (q_58, q_69))
def visorlaw19_WireMakes.j1 (k : Nat) (x1 : List Tvisorlaw19_Act) (p_5 : Int) : Option (Bool) := (visorlaw19_tapeWords.m k 60).bind fun v_9 => (tape_New.m k v_9).bind fun v_14 => (tape_Tape_Reserve.m k v_14 60).bind fun v_21 => ((wire_New.m k p_5 v_21.2 200).bind fun v => match v with | (.inl v_28) => some false | (.inr v_31) => (bif (v_21.1 != 0) || (v_31.2 != 0) then some false else (visorlaw19_WireMakes.l1 x1 k v_31.1 ([] : List Int) 0).bind fun x => match x with | (p_366, p_377) => (wire_Machine_Trace.m k p_366).bind fun v_433 => (wire_Machine_Values.m k p_366).bind fun v_440 => (visorlaw19_tapeWords.m k 60).bind fun v_445 => (visorlaw19_holds.m k v_433 v_440 v_445 p_377).bind fun v_450 => (bif v_450 then (visorlaw19_awake.m k).bind fun v_453 => visorlaw19_WireMakes.j6 k v_453 else visorlaw19_WireMakes.j6 k false)))
abbrev visorlaw19_WireMakes.R (κ : Ctx) (S : List HP) (x0 : Bool) (x1 : List Tvisorlaw19_Act) (A_x1 : Option Addr) (c_x1 : Nat) (r : Bool) : Ending → World → Prop := fun e w' => e = .returned (.bool r) ∧ Own κ w' (S)
def visorlaw19_WireMakes.m (k : Nat) (x0 : Bool) (x1 : List Tvisorlaw19_Act) : Option Bool := (bif x0 then visorlaw19_WireMakes.j1 k x1 3 else visorlaw19_WireMakes.j1 k x1 2)

set_option maxRecDepth 100000 in
set_option maxHeartbeats 4000000 in
theorem visorlaw19_WireMakes.ok (k : Nat) (x0 : Bool) (x1 : List Tvisorlaw19_Act) (r : Bool) (hm : visorlaw19_WireMakes.m k x0 x1 = some r) (κ : Ctx) (w : World) (S : List HP) (A_x1 : Option Addr) (c_x1 : Nat) (hx_x1 : Sl κ [] A_x1 c_x1 8 Tvisorlaw19_Act.cells x1) (ho : Own κ w (S)) :
    Calls Try.prog 13 #[.bool x0, .slice A_x1 x1.length c_x1] w (visorlaw19_WireMakes.R κ S x0 x1 A_x1 c_x1 r) := by
  have ht_x1 := hx_x1
  replace hx_x1 := Sl.top (S := S) hx_x1
  unfold visorlaw19_WireMakes.m at hm
  refine Vk.enter [(0, .bool x0), (1, .slice A_x1 x1.length c_x1)] Try.func13 rfl Try.ntmps13 (by kernel_rfl) (Nat.le_of_ble_eq_true (by kernel_rfl)) ho fun a hs => ?_
  refine Vk.seq fun K1 hK1 => ?_
  refine Vk.region ?_
  refine Vk.pures 1 [(4, .bool false)] hs (by kernel_rfl) fun a hs => ?_
  replace hs := hs.pick [0, 1] (L' := [(0, .bool x0), (1, .slice A_x1 x1.length c_x1)]) (by kernel_rfl)
  refine Vk.done (by kernel_rfl) ?_
  refine hK1 _ _ ?_
  clear hK1
  refine Vk.seq fun K2 hK2 => ?_
  refine Vk.region ?_
  refine Vk.pures 1 [(5, .int .i64 2)] hs (by kernel_rfl) fun a hs => ?_
  replace hs := hs.pick [0, 1, 5] (L' := [(0, .bool x0), (1, .slice A_x1 x1.length c_x1), (5, .int .i64 2)]) (by kernel_rfl)
  refine Vk.done (by kernel_rfl) ?_
  refine hK2 _ _ ?_
  clear hK2
  refine Vk.seq fun K3 hK3 => ?_
  have hj3 : ∀ (p_5 : Int), visorlaw19_WireMakes.j1 k x1 p_5 = some r → ∀ (a : Act) (w : World), St 145 a w κ [(1, .slice A_x1 x1.length c_x1), (5, .int .i64 p_5)] (S) → K3 a w := by
    intro p_5 hm a w hs
    unfold visorlaw19_WireMakes.j1 at hm
    refine hK3 _ _ ?_
    refine Vk.seq fun K6 hK6 => ?_
    refine Vk.region ?_
    obtain ⟨v_9, h_8, hm⟩ := bind_t hm
    refine Vk.step (Vk.call (some 14) 55 #[.int .i64 60] hs (by kernel_rfl) (by kernel_rfl) (by kernel_rfl) ?_)
    refine (visorlaw19_tapeWords.ok k 60 v_9 h_8 κ w (S) hs.own).mono ?_
    rintro _ w ⟨Ar7x0_10, cr7x0_11, rfl, how⟩
    refine ⟨_, _, _, rfl, how, fun a hs => ?_⟩
    obtain ⟨v_14, h_13, hm⟩ := bind_t hm
    refine Vk.step (Vk.call (some 15) 54 #[.slice Ar7x0_10 v_9.length cr7x0_11] hs (by kernel_rfl) (by kernel_rfl) (by kernel_rfl) ?_)
    refine (tape_New.ok k v_9 v_14 h_13 κ w (rowp Ar7x0_10 cr7x0_11 23 1 (eI .u64) v_9 :: S) Ar7x0_10 cr7x0_11 (Own.rowSl 0 hs.own rfl) hs.own).mono ?_
    rintro _ w ⟨br12x0_15, Ar12x0owords_16, cr12x0owords_17, rfl, how⟩
    refine ⟨_, _, _, rfl, how, fun a hs => ?_⟩
    refine Vk.pures 1 [(6, .pointer (some ⟨br12x0_15, 0, none⟩))] hs (by kernel_rfl) fun a hs => ?_
    replace hs := hs.pick [1, 5, 6] (L' := [(1, .slice A_x1 x1.length c_x1), (5, .int .i64 p_5), (6, .pointer (some ⟨br12x0_15, 0, none⟩))]) (by kernel_rfl)
    refine Vk.done (by kernel_rfl) ?_
    refine hK6 _ _ ?_
    clear hK6
    refine Vk.seq fun K18 hK18 => ?_
    refine Vk.region ?_
    refine Vk.pures 1 [(16, .pointer (some ⟨br12x0_15, 0, none⟩))] hs (by kernel_rfl) fun a hs => ?_
    obtain ⟨v_21, h_20, hm⟩ := bind_t hm
    refine Vk.step (Vk.call (some 17) 56 #[.pointer (some ⟨br12x0_15, 0, none⟩), .int .i64 60] hs (by kernel_rfl) (by kernel_rfl) (by kernel_rfl) ?_)
    refine (tape_Tape_Reserve.ok k v_14 60 v_21 h_20 κ w (rowp Ar7x0_10 cr7x0_11 23 1 (eI .u64) v_9 :: S) br12x0_15 Ar12x0owords_16 cr12x0owords_17 (Own.to hs.own [0, 1, 2] 3 (by kernel_rfl) (by kernel_rfl))).mono ?_
    rintro _ w ⟨Ar19o0owords_22, cr19o0owords_23, rfl, how⟩
    refine ⟨_, _, _, rfl, how, fun a hs => ?_⟩
    refine Vk.pures 1 [(7, .int .i64 v_21.1)] hs (by kernel_rfl) fun a hs => ?_
    replace hs := hs.pick [1, 5, 6, 7] (L' := [(1, .slice A_x1 x1.length c_x1), (5, .int .i64 p_5), (6, .pointer (some ⟨br12x0_15, 0, none⟩)), (7, .int .i64 v_21.1)]) (by kernel_rfl)
    refine Vk.done (by kernel_rfl) ?_
    refine hK18 _ _ ?_
    clear hK18
    refine Vk.seq fun K24 hK24 => ?_
    refine Vk.region ?_
    refine Vk.pures 2 [(20, .pointer (some ⟨br12x0_15, 0, none⟩)), (19, .int .i64 p_5)] hs (by kernel_rfl) fun a hs => ?_
    obtain ⟨v_27, h_26, hm⟩ := bind_t hm
    refine Vk.step (Vk.call (some 21) 57 #[.int .i64 p_5, .pointer (some ⟨br12x0_15, 0, none⟩), .int .i64 200] hs (by kernel_rfl) (by kernel_rfl) (by kernel_rfl) ?_)
    refine (wire_New.ok k p_5 v_21.2 200 v_27 h_26 κ w (rowp Ar7x0_10 cr7x0_11 23 1 (eI .u64) v_9 :: S) br12x0_15 Ar19o0owords_22 cr19o0owords_23 (Own.to hs.own [0, 1, 2] 3 (by kernel_rfl) (by kernel_rfl))).mono ?_
    rintro _ w (⟨v_28, rfl, Ar25o0owords_29, cr25o0owords_30, rfl, how⟩ | ⟨v_31, rfl, br25x0_32, br25x0otape_33, Ar25x0otapeowords_34, cr25x0otapeowords_35, Ar25x0oops_36, cr25x0oops_37, Ar25x0ovalues_38, cr25x0ovalues_39, Ar25x0oblocks_40, cr25x0oblocks_41, rfl, how⟩)
    · dsimp only at hm
      refine ⟨_, _, _, rfl, how, fun a hs => ?_⟩
      refine Vk.pures 5 [(9, .int .i64 v_28.1), (8, .pointer none), (23, .int .i64 v_28.1), (22, .pointer none), (18, .tuple #[.pointer none, .int .i64 v_28.1])] hs (by kernel_rfl) fun a hs => ?_
      replace hs := hs.pick [1, 7, 8, 9] (L' := [(1, .slice A_x1 x1.length c_x1), (7, .int .i64 v_21.1), (8, .pointer none), (9, .int .i64 v_28.1)]) (by kernel_rfl)
      refine Vk.done (by kernel_rfl) ?_
      refine hK24 _ _ ?_
      refine Vk.seq fun K42 hK42 => ?_
      refine Vk.seq fun K43 hK43 => ?_
      refine Vk.region ?_
      refine Vk.pures 3 [(26, .bool (v_21.1 != 0)), (25, .bool (v_21.1 != 0)), (24, .int .i64 v_21.1)] hs (by kernel_rfl) fun a hs => ?_
      suffices hj_44 : ∀ a, St 145 a w κ [(1, .slice A_x1 x1.length c_x1), (7, .int .i64 v_21.1), (8, .pointer none), (9, .int .i64 v_28.1), (24, .int .i64 v_21.1), (25, .bool (v_21.1 != 0)), (26, .bool (v_21.1 != 0)), (29, .bool ((v_21.1 != 0) || (v_28.1 != 0)))] (pt br12x0_15 (blk (Ttape_Tape.obj v_28.2 Ar25o0owords_29 cr25o0owords_30) 158) :: rowp Ar25o0owords_29 cr25o0owords_30 23 1 (eI .u64) v_28.2.words :: rowp Ar7x0_10 cr7x0_11 23 1 (eI .u64) v_9 :: S) → wpFrom Try.prog _ _ 6 a w by
        rcases Bool.eq_false_or_eq_true (v_21.1 != 0) with hb | hb
        · replace hs := hs.known (t := 26) hb (by kernel_rfl)
          refine Vk.pures 3 [(29, .bool true), (28, undef), (27, undef)] hs (by kernel_rfl) fun a hs => ?_
          have hq := hs.pick [1, 7, 8, 9, 24, 25, 26, 29] (L' := [(1, .slice A_x1 x1.length c_x1), (7, .int .i64 v_21.1), (8, .pointer none), (9, .int .i64 v_28.1), (24, .int .i64 v_21.1), (25, .bool (v_21.1 != 0)), (26, .bool true), (29, .bool true)]) (by kernel_rfl)
          exact hj_44 _ (hq.conv (by first | (rw [hb] <;> rfl) | rfl))
        · replace hs := hs.known (t := 26) hb (by kernel_rfl)
          refine Vk.pures 3 [(29, .bool (v_28.1 != 0)), (28, .bool (v_28.1 != 0)), (27, .int .i64 v_28.1)] hs (by kernel_rfl) fun a hs => ?_
          have hq := hs.pick [1, 7, 8, 9, 24, 25, 26, 29] (L' := [(1, .slice A_x1 x1.length c_x1), (7, .int .i64 v_21.1), (8, .pointer none), (9, .int .i64 v_28.1), (24, .int .i64 v_21.1), (25, .bool (v_21.1 != 0)), (26, .bool false), (29, .bool (v_28.1 != 0))]) (by kernel_rfl)
          exact hj_44 _ (hq.conv (by first | (rw [hb] <;> rfl) | rfl))
      intro a hs
      refine Vk.pures 1 [(30, .bool ((v_21.1 != 0) || (v_28.1 != 0)))] hs (by kernel_rfl) fun a hs => ?_
      suffices hj_45 : ∀ a, St 145 a w κ [(1, .slice A_x1 x1.length c_x1), (7, .int .i64 v_21.1), (8, .pointer none), (9, .int .i64 v_28.1), (24, .int .i64 v_21.1), (25, .bool (v_21.1 != 0)), (26, .bool (v_21.1 != 0)), (29, .bool ((v_21.1 != 0) || (v_28.1 != 0))), (30, .bool ((v_21.1 != 0) || (v_28.1 != 0))), (33, .bool true)] (pt br12x0_15 (blk (Ttape_Tape.obj v_28.2 Ar25o0owords_29 cr25o0owords_30) 158) :: rowp Ar25o0owords_29 cr25o0owords_30 23 1 (eI .u64) v_28.2.words :: rowp Ar7x0_10 cr7x0_11 23 1 (eI .u64) v_9 :: S) → wpFrom Try.prog _ _ 10 a w by
        rcases Bool.eq_false_or_eq_true ((v_21.1 != 0) || (v_28.1 != 0)) with hb | hb
        · replace hs := hs.known (t := 30) hb (by kernel_rfl)
          refine Vk.pures 3 [(33, .bool true), (32, undef), (31, undef)] hs (by kernel_rfl) fun a hs => ?_
          have hq := hs.pick [1, 7, 8, 9, 24, 25, 26, 29, 30, 33] (L' := [(1, .slice A_x1 x1.length c_x1), (7, .int .i64 v_21.1), (8, .pointer none), (9, .int .i64 v_28.1), (24, .int .i64 v_21.1), (25, .bool (v_21.1 != 0)), (26, .bool (v_21.1 != 0)), (29, .bool ((v_21.1 != 0) || (v_28.1 != 0))), (30, .bool true), (33, .bool true)]) (by kernel_rfl)
          exact hj_45 _ (hq.conv (by first | (rw [hb] <;> rfl) | rfl))
        · replace hs := hs.known (t := 30) hb (by kernel_rfl)
          refine Vk.pures 3 [(33, .bool true), (32, .bool true), (31, .pointer none)] hs (by kernel_rfl) fun a hs => ?_
          have hq := hs.pick [1, 7, 8, 9, 24, 25, 26, 29, 30, 33] (L' := [(1, .slice A_x1 x1.length c_x1), (7, .int .i64 v_21.1), (8, .pointer none), (9, .int .i64 v_28.1), (24, .int .i64 v_21.1), (25, .bool (v_21.1 != 0)), (26, .bool (v_21.1 != 0)), (29, .bool ((v_21.1 != 0) || (v_28.1 != 0))), (30, .bool false), (33, .bool true)]) (by kernel_rfl)
          exact hj_45 _ (hq.conv (by first | (rw [hb] <;> rfl) | rfl))
      intro a hs
      replace hs := hs.pick [1, 8, 33] (L' := [(1, .slice A_x1 x1.length c_x1), (8, .pointer none), (33, .bool true)]) (by kernel_rfl)
      refine Vk.done (by kernel_rfl) ?_
      refine hK43 _ _ ?_
      clear hK43
      refine Vk.condT hs (by kernel_rfl) (by kernel_rfl) ?_
      refine Vk.seq fun K46 hK46 => ?_
      refine Vk.region ?_
      refine Vk.pures 1 [(4, .bool false)] hs (by kernel_rfl) fun a hs => ?_
      replace hs := hs.pick [4] (L' := [(4, .bool false)]) (by kernel_rfl)
      refine Vk.done (by kernel_rfl) ?_
      refine hK46 _ _ ?_
      clear hK46
      refine wp_ret ?_
      exact Vk.ret1 (P := Try.prog) (fn := Try.f13) (R := visorlaw19_WireMakes.R κ S x0 x1 A_x1 c_x1 r) (.bool false) hs rfl (by kernel_rfl) (by obtain rfl := Option.some.inj hm; exact ⟨rfl, (Own.to hs.own [] 3 (by kernel_rfl) (by kernel_rfl))⟩)
    · dsimp only at hm
      refine ⟨_, _, _, rfl, how, fun a hs => ?_⟩
      refine Vk.pures 5 [(9, .int .i64 v_31.2), (8, .pointer (some ⟨br25x0_32, 0, none⟩)), (23, .int .i64 v_31.2), (22, .pointer (some ⟨br25x0_32, 0, none⟩)), (18, .tuple #[.pointer (some ⟨br25x0_32, 0, none⟩), .int .i64 v_31.2])] hs (by kernel_rfl) fun a hs => ?_
      replace hs := hs.pick [1, 7, 8, 9] (L' := [(1, .slice A_x1 x1.length c_x1), (7, .int .i64 v_21.1), (8, .pointer (some ⟨br25x0_32, 0, none⟩)), (9, .int .i64 v_31.2)]) (by kernel_rfl)
      refine Vk.done (by kernel_rfl) ?_
      refine hK24 _ _ ?_
      refine Vk.seq fun K47 hK47 => ?_
      refine Vk.seq fun K48 hK48 => ?_
      refine Vk.region ?_
      refine Vk.pures 3 [(26, .bool (v_21.1 != 0)), (25, .bool (v_21.1 != 0)), (24, .int .i64 v_21.1)] hs (by kernel_rfl) fun a hs => ?_
      suffices hj_49 : ∀ a, St 145 a w κ [(1, .slice A_x1 x1.length c_x1), (7, .int .i64 v_21.1), (8, .pointer (some ⟨br25x0_32, 0, none⟩)), (9, .int .i64 v_31.2), (24, .int .i64 v_21.1), (25, .bool (v_21.1 != 0)), (26, .bool (v_21.1 != 0)), (29, .bool ((v_21.1 != 0) || (v_31.2 != 0)))] (pt br25x0_32 (blk (Twire_Machine.obj v_31.1 br25x0otape_33 Ar25x0oops_36 cr25x0oops_37 Ar25x0ovalues_38 cr25x0ovalues_39 Ar25x0oblocks_40 cr25x0oblocks_41) 151) :: pt br25x0otape_33 (blk (Ttape_Tape.obj v_31.1.tape Ar25x0otapeowords_34 cr25x0otapeowords_35) 158) :: rowp Ar25x0otapeowords_34 cr25x0otapeowords_35 23 1 (eI .u64) v_31.1.tape.words :: rowp Ar25x0oops_36 cr25x0oops_37 32 6 Tapi_Op.cells v_31.1.ops :: rowp Ar25x0ovalues_38 cr25x0ovalues_39 23 1 (eI .u64) v_31.1.values :: rowp Ar25x0oblocks_40 cr25x0oblocks_41 144 3 Tapi_Span.cells v_31.1.blocks :: rowp Ar7x0_10 cr7x0_11 23 1 (eI .u64) v_9 :: S) → wpFrom Try.prog _ _ 6 a w by
        rcases Bool.eq_false_or_eq_true (v_21.1 != 0) with hb | hb
        · replace hs := hs.known (t := 26) hb (by kernel_rfl)
          refine Vk.pures 3 [(29, .bool true), (28, undef), (27, undef)] hs (by kernel_rfl) fun a hs => ?_
          have hq := hs.pick [1, 7, 8, 9, 24, 25, 26, 29] (L' := [(1, .slice A_x1 x1.length c_x1), (7, .int .i64 v_21.1), (8, .pointer (some ⟨br25x0_32, 0, none⟩)), (9, .int .i64 v_31.2), (24, .int .i64 v_21.1), (25, .bool (v_21.1 != 0)), (26, .bool true), (29, .bool true)]) (by kernel_rfl)
          exact hj_49 _ (hq.conv (by first | (rw [hb] <;> rfl) | rfl))
        · replace hs := hs.known (t := 26) hb (by kernel_rfl)
          refine Vk.pures 3 [(29, .bool (v_31.2 != 0)), (28, .bool (v_31.2 != 0)), (27, .int .i64 v_31.2)] hs (by kernel_rfl) fun a hs => ?_
          have hq := hs.pick [1, 7, 8, 9, 24, 25, 26, 29] (L' := [(1, .slice A_x1 x1.length c_x1), (7, .int .i64 v_21.1), (8, .pointer (some ⟨br25x0_32, 0, none⟩)), (9, .int .i64 v_31.2), (24, .int .i64 v_21.1), (25, .bool (v_21.1 != 0)), (26, .bool false), (29, .bool (v_31.2 != 0))]) (by kernel_rfl)
          exact hj_49 _ (hq.conv (by first | (rw [hb] <;> rfl) | rfl))
      intro a hs
      refine Vk.pures 1 [(30, .bool ((v_21.1 != 0) || (v_31.2 != 0)))] hs (by kernel_rfl) fun a hs => ?_
      suffices hj_50 : ∀ a, St 145 a w κ [(1, .slice A_x1 x1.length c_x1), (7, .int .i64 v_21.1), (8, .pointer (some ⟨br25x0_32, 0, none⟩)), (9, .int .i64 v_31.2), (24, .int .i64 v_21.1), (25, .bool (v_21.1 != 0)), (26, .bool (v_21.1 != 0)), (29, .bool ((v_21.1 != 0) || (v_31.2 != 0))), (30, .bool ((v_21.1 != 0) || (v_31.2 != 0))), (33, .bool ((v_21.1 != 0) || (v_31.2 != 0)))] (pt br25x0_32 (blk (Twire_Machine.obj v_31.1 br25x0otape_33 Ar25x0oops_36 cr25x0oops_37 Ar25x0ovalues_38 cr25x0ovalues_39 Ar25x0oblocks_40 cr25x0oblocks_41) 151) :: pt br25x0otape_33 (blk (Ttape_Tape.obj v_31.1.tape Ar25x0otapeowords_34 cr25x0otapeowords_35) 158) :: rowp Ar25x0otapeowords_34 cr25x0otapeowords_35 23 1 (eI .u64) v_31.1.tape.words :: rowp Ar25x0oops_36 cr25x0oops_37 32 6 Tapi_Op.cells v_31.1.ops :: rowp Ar25x0ovalues_38 cr25x0ovalues_39 23 1 (eI .u64) v_31.1.values :: rowp Ar25x0oblocks_40 cr25x0oblocks_41 144 3 Tapi_Span.cells v_31.1.blocks :: rowp Ar7x0_10 cr7x0_11 23 1 (eI .u64) v_9 :: S) → wpFrom Try.prog _ _ 10 a w by
        rcases Bool.eq_false_or_eq_true ((v_21.1 != 0) || (v_31.2 != 0)) with hb | hb
        · replace hs := hs.known (t := 30) hb (by kernel_rfl)
          refine Vk.pures 3 [(33, .bool true), (32, undef), (31, undef)] hs (by kernel_rfl) fun a hs => ?_
          have hq := hs.pick [1, 7, 8, 9, 24, 25, 26, 29, 30, 33] (L' := [(1, .slice A_x1 x1.length c_x1), (7, .int .i64 v_21.1), (8, .pointer (some ⟨br25x0_32, 0, none⟩)), (9, .int .i64 v_31.2), (24, .int .i64 v_21.1), (25, .bool (v_21.1 != 0)), (26, .bool (v_21.1 != 0)), (29, .bool ((v_21.1 != 0) || (v_31.2 != 0))), (30, .bool true), (33, .bool true)]) (by kernel_rfl)
          exact hj_50 _ (hq.conv (by first | (rw [hb] <;> rfl) | rfl))
        · replace hs := hs.known (t := 30) hb (by kernel_rfl)
          refine Vk.pures 3 [(33, .bool false), (32, .bool false), (31, .pointer (some ⟨br25x0_32, 0, none⟩))] hs (by kernel_rfl) fun a hs => ?_
          have hq := hs.pick [1, 7, 8, 9, 24, 25, 26, 29, 30, 33] (L' := [(1, .slice A_x1 x1.length c_x1), (7, .int .i64 v_21.1), (8, .pointer (some ⟨br25x0_32, 0, none⟩)), (9, .int .i64 v_31.2), (24, .int .i64 v_21.1), (25, .bool (v_21.1 != 0)), (26, .bool (v_21.1 != 0)), (29, .bool ((v_21.1 != 0) || (v_31.2 != 0))), (30, .bool false), (33, .bool false)]) (by kernel_rfl)
          exact hj_50 _ (hq.conv (by first | (rw [hb] <;> rfl) | rfl))
      intro a hs
      replace hs := hs.pick [1, 8, 33] (L' := [(1, .slice A_x1 x1.length c_x1), (8, .pointer (some ⟨br25x0_32, 0, none⟩)), (33, .bool ((v_21.1 != 0) || (v_31.2 != 0)))]) (by kernel_rfl)
      refine Vk.done (by kernel_rfl) ?_
      refine hK48 _ _ ?_
      clear hK48
      refine Vk.condS (b := (v_21.1 != 0) || (v_31.2 != 0)) hs (by kernel_rfl) (by kernel_rfl) (fun hb => ?_) (fun hb => ?_)
      · replace hm := bif_t hm hb
        refine Vk.seq fun K51 hK51 => ?_
        refine Vk.region ?_
        refine Vk.pures 1 [(4, .bool false)] hs (by kernel_rfl) fun a hs => ?_
        replace hs := hs.pick [4] (L' := [(4, .bool false)]) (by kernel_rfl)
        refine Vk.done (by kernel_rfl) ?_
        refine hK51 _ _ ?_
        clear hK51
        refine wp_ret ?_
        exact Vk.ret1 (P := Try.prog) (fn := Try.f13) (R := visorlaw19_WireMakes.R κ S x0 x1 A_x1 c_x1 r) (.bool false) hs rfl (by kernel_rfl) (by obtain rfl := Option.some.inj hm; exact ⟨rfl, (Own.to hs.own [] 7 (by kernel_rfl) (by kernel_rfl))⟩)
      · replace hm := bif_f hm hb
        refine wp_skip ?_
        refine hK47 _ _ ?_
        clear hK47
        refine Vk.seq fun K52 hK52 => ?_
        refine Vk.region ?_
        refine Vk.step (Vk.buildOp (sz := 1) (by_ := 8) (t := 73) (e := 23) (parts := #[]) (zs := vals [C.int .u64 0]) ([] : List Int) (eI .u64) (some 34) hs (by kernel_rfl) (by kernel_rfl) (by kernel_rfl) (by kernel_rfl) (by decide) rfl (fun x _ => rfl) (Nat.le_of_ble_eq_true (by kernel_rfl)) (by kernel_rfl) fun A_53 w a hs => ?_)
        refine Vk.pures 1 [(10, .slice A_53 (([] : List Int).length) 0)] hs (by kernel_rfl) fun a hs => ?_
        replace hs := hs.pick [1, 8, 10] (L' := [(1, .slice A_x1 x1.length c_x1), (8, .pointer (some ⟨br25x0_32, 0, none⟩)), (10, .slice A_53 (([] : List Int).length) 0)]) (by kernel_rfl)
        refine Vk.done (by kernel_rfl) ?_
        refine hK52 _ _ ?_
        clear hK52
        refine Vk.seq fun K55 hK55 => ?_
        refine Vk.seq fun K56 hK56 => ?_
        refine Vk.region ?_
        refine Vk.pures 1 [(11, .int .i64 0)] hs (by kernel_rfl) fun a hs => ?_
        replace hs := hs.pick [1, 8, 10, 11] (L' := [(1, .slice A_x1 x1.length c_x1), (8, .pointer (some ⟨br25x0_32, 0, none⟩)), (10, .slice A_53 (([] : List Int).length) 0), (11, .int .i64 0)]) (by kernel_rfl)
        refine Vk.done (by kernel_rfl) ?_
        refine hK56 _ _ ?_
        clear hK56
        refine wp_block ?_
        obtain ⟨r57, hl57, hm⟩ := bind_t hm
        have hx57 : ∀ (p_366 : Twire_Machine) (p_377 : List Int), r57 = (p_366, p_377) → ∀ (A_367 : Option Addr) (c_368 : Nat) (A_369 : Option Addr) (c_370 : Nat) (A_371 : Option Addr) (c_372 : Nat) (A_373 : Option Addr) (c_374 : Nat) (A_375 : Option Addr) (c_376 : Nat) (a : Act) (w : World), St 145 a w κ [(8, .pointer (some ⟨br25x0_32, 0, none⟩)), (10, .slice A_375 p_377.length c_376)] (pt br25x0_32 (blk (Twire_Machine.obj p_366 br25x0otape_33 A_369 c_370 A_371 c_372 A_373 c_374) 151) :: pt br25x0otape_33 (blk (Ttape_Tape.obj p_366.tape A_367 c_368) 158) :: rowp A_367 c_368 23 1 (eI .u64) p_366.tape.words :: rowp A_369 c_370 32 6 Tapi_Op.cells p_366.ops :: rowp A_371 c_372 23 1 (eI .u64) p_366.values :: rowp A_373 c_374 144 3 Tapi_Span.cells p_366.blocks :: rowp A_375 c_376 23 1 (eI .u64) p_377 :: S) → K55 a w := by
          intro p_366 p_377 he A_367 c_368 A_369 c_370 A_371 c_372 A_373 c_374 A_375 c_376 a w hs
          subst r57
          refine hK55 _ _ ?_
          clear hK55
          refine Vk.seq fun K430 hK430 => ?_
          have hj430 : ∀ (p_454 : Bool), visorlaw19_WireMakes.j6 k p_454 = some r → ∀ (a : Act) (w : World), St 145 a w κ [(4, .bool p_454)] (S) → K430 a w := by
            intro p_454 hm a w hs
            unfold visorlaw19_WireMakes.j6 at hm
            refine hK430 _ _ ?_
            refine wp_ret ?_
            exact Vk.ret1 (P := Try.prog) (fn := Try.f13) (R := visorlaw19_WireMakes.R κ S x0 x1 A_x1 c_x1 r) (.bool p_454) hs rfl (by kernel_rfl) (by obtain rfl := Option.some.inj hm; exact ⟨rfl, (Own.to hs.own [] 0 (by kernel_rfl) (by kernel_rfl))⟩)
          refine Vk.region ?_
          refine Vk.pures 1 [(135, .pointer (some ⟨br25x0_32, 0, none⟩))] hs (by kernel_rfl) fun a hs => ?_
          obtain ⟨v_433, h_432, hm⟩ := bind_t hm
          refine Vk.step (Vk.call (some 136) 65 #[.pointer (some ⟨br25x0_32, 0, none⟩)] hs (by kernel_rfl) (by kernel_rfl) (by kernel_rfl) ?_)
          refine (wire_Machine_Trace.ok k p_366 v_433 h_432 κ w (rowp A_375 c_376 23 1 (eI .u64) p_377 :: S) br25x0_32 br25x0otape_33 A_367 c_368 A_369 c_370 A_371 c_372 A_373 c_374 (Own.to hs.own [0, 1, 2, 3, 4, 5, 6] 7 (by kernel_rfl) (by kernel_rfl))).mono ?_
          rintro _ w ⟨Ar431x0ops_434, cr431x0ops_435, Ar431x0blocks_436, cr431x0blocks_437, rfl, how⟩
          refine ⟨_, _, _, rfl, how, fun a hs => ?_⟩
          refine Vk.pures 1 [(137, .pointer (some ⟨br25x0_32, 0, none⟩))] hs (by kernel_rfl) fun a hs => ?_
          obtain ⟨v_440, h_439, hm⟩ := bind_t hm
          refine Vk.step (Vk.call (some 138) 53 #[.pointer (some ⟨br25x0_32, 0, none⟩)] hs (by kernel_rfl) (by kernel_rfl) (by kernel_rfl) ?_)
          refine (wire_Machine_Values.ok k p_366 v_440 h_439 κ w (rowp Ar431x0ops_434 cr431x0ops_435 32 6 Tapi_Op.cells v_433.ops :: rowp Ar431x0blocks_436 cr431x0blocks_437 144 3 Tapi_Span.cells v_433.blocks :: rowp A_375 c_376 23 1 (eI .u64) p_377 :: S) br25x0_32 br25x0otape_33 A_367 c_368 A_369 c_370 A_371 c_372 A_373 c_374 (Own.to hs.own [2, 3, 4, 5, 6, 7, 0, 1, 8] 9 (by kernel_rfl) (by kernel_rfl))).mono ?_
          rintro _ w ⟨Ar438x0_441, cr438x0_442, rfl, how⟩
          refine ⟨_, _, _, rfl, how, fun a hs => ?_⟩
          obtain ⟨v_445, h_444, hm⟩ := bind_t hm
          refine Vk.step (Vk.call (some 139) 55 #[.int .i64 60] hs (by kernel_rfl) (by kernel_rfl) (by kernel_rfl) ?_)
          refine (visorlaw19_tapeWords.ok k 60 v_445 h_444 κ w (rowp Ar438x0_441 cr438x0_442 23 1 (eI .u64) v_440 :: pt br25x0_32 (blk (Twire_Machine.obj p_366 br25x0otape_33 A_369 c_370 A_371 c_372 A_373 c_374) 151) :: pt br25x0otape_33 (blk (Ttape_Tape.obj p_366.tape A_367 c_368) 158) :: rowp A_367 c_368 23 1 (eI .u64) p_366.tape.words :: rowp A_369 c_370 32 6 Tapi_Op.cells p_366.ops :: rowp A_371 c_372 23 1 (eI .u64) p_366.values :: rowp A_373 c_374 144 3 Tapi_Span.cells p_366.blocks :: rowp Ar431x0ops_434 cr431x0ops_435 32 6 Tapi_Op.cells v_433.ops :: rowp Ar431x0blocks_436 cr431x0blocks_437 144 3 Tapi_Span.cells v_433.blocks :: rowp A_375 c_376 23 1 (eI .u64) p_377 :: S) hs.own).mono ?_
          rintro _ w ⟨Ar443x0_446, cr443x0_447, rfl, how⟩
          refine ⟨_, _, _, rfl, how, fun a hs => ?_⟩
          refine Vk.pures 1 [(140, .slice A_375 p_377.length c_376)] hs (by kernel_rfl) fun a hs => ?_
          obtain ⟨v_450, h_449, hm⟩ := bind_t hm
          refine Vk.step (Vk.call (some 141) 64 #[.agg (vals [C.int .i64 v_433.n, C.slc Ar431x0ops_434 v_433.ops.length cr431x0ops_435, C.slc Ar431x0blocks_436 v_433.blocks.length cr431x0blocks_437]), .slice Ar438x0_441 v_440.length cr438x0_442, .slice Ar443x0_446 v_445.length cr443x0_447, .slice A_375 p_377.length c_376] hs (by kernel_rfl) (by kernel_rfl) (by kernel_rfl) ?_)
          refine (visorlaw19_holds.ok k v_433 v_440 v_445 p_377 v_450 h_449 κ w (rowp Ar443x0_446 cr443x0_447 23 1 (eI .u64) v_445 :: rowp Ar438x0_441 cr438x0_442 23 1 (eI .u64) v_440 :: pt br25x0_32 (blk (Twire_Machine.obj p_366 br25x0otape_33 A_369 c_370 A_371 c_372 A_373 c_374) 151) :: pt br25x0otape_33 (blk (Ttape_Tape.obj p_366.tape A_367 c_368) 158) :: rowp A_367 c_368 23 1 (eI .u64) p_366.tape.words :: rowp A_369 c_370 32 6 Tapi_Op.cells p_366.ops :: rowp A_371 c_372 23 1 (eI .u64) p_366.values :: rowp A_373 c_374 144 3 Tapi_Span.cells p_366.blocks :: rowp Ar431x0ops_434 cr431x0ops_435 32 6 Tapi_Op.cells v_433.ops :: rowp Ar431x0blocks_436 cr431x0blocks_437 144 3 Tapi_Span.cells v_433.blocks :: rowp A_375 c_376 23 1 (eI .u64) p_377 :: S) Ar431x0ops_434 cr431x0ops_435 (Sl.lift (fun w ho => (Own.to (S' := rowp Ar431x0ops_434 cr431x0ops_435 32 6 Tapi_Op.cells v_433.ops :: S) ho [8] 11 (by kernel_rfl) (by kernel_rfl))) (Own.rowSl 0 (Own.to (S' := rowp Ar431x0ops_434 cr431x0ops_435 32 6 Tapi_Op.cells v_433.ops :: S) hs.own [8] 11 (by kernel_rfl) (by kernel_rfl)) rfl)) Ar431x0blocks_436 cr431x0blocks_437 (Sl.lift (fun w ho => (Own.to (S' := rowp Ar431x0blocks_436 cr431x0blocks_437 144 3 Tapi_Span.cells v_433.blocks :: S) ho [9] 11 (by kernel_rfl) (by kernel_rfl))) (Own.rowSl 0 (Own.to (S' := rowp Ar431x0blocks_436 cr431x0blocks_437 144 3 Tapi_Span.cells v_433.blocks :: S) hs.own [9] 11 (by kernel_rfl) (by kernel_rfl)) rfl)) Ar438x0_441 cr438x0_442 (Sl.lift (fun w ho => (Own.to (S' := rowp Ar438x0_441 cr438x0_442 23 1 (eI .u64) v_440 :: S) ho [1] 11 (by kernel_rfl) (by kernel_rfl))) (Own.rowSl 0 (Own.to (S' := rowp Ar438x0_441 cr438x0_442 23 1 (eI .u64) v_440 :: S) hs.own [1] 11 (by kernel_rfl) (by kernel_rfl)) rfl)) Ar443x0_446 cr443x0_447 (Sl.lift (fun w ho => (Own.to (S' := rowp Ar443x0_446 cr443x0_447 23 1 (eI .u64) v_445 :: S) ho [0] 11 (by kernel_rfl) (by kernel_rfl))) (Own.rowSl 0 (Own.to (S' := rowp Ar443x0_446 cr443x0_447 23 1 (eI .u64) v_445 :: S) hs.own [0] 11 (by kernel_rfl) (by kernel_rfl)) rfl)) A_375 c_376 ((Own.rowSl 0 hs.own.drop.drop.drop.drop.drop.drop.drop.drop.drop.drop rfl).less.less.less.less.less.less.less.less.less.less) hs.own).mono ?_
          rintro _ w ⟨rfl, how⟩
          refine ⟨_, _, _, rfl, how, fun a hs => ?_⟩
          refine Vk.pures 1 [(142, .bool v_450)] hs (by kernel_rfl) fun a hs => ?_
          rcases Bool.eq_false_or_eq_true (v_450) with hb | hb
          · replace hm := bif_t hm hb
            replace hs := hs.known (t := 142) hb (by kernel_rfl)
            obtain ⟨v_453, h_452, hm⟩ := bind_t hm
            refine Vk.step (Vk.call (some 143) 66 #[] hs (by kernel_rfl) (by kernel_rfl) (by kernel_rfl) ?_)
            refine (visorlaw19_awake.ok k v_453 h_452 κ w (rowp Ar443x0_446 cr443x0_447 23 1 (eI .u64) v_445 :: rowp Ar438x0_441 cr438x0_442 23 1 (eI .u64) v_440 :: pt br25x0_32 (blk (Twire_Machine.obj p_366 br25x0otape_33 A_369 c_370 A_371 c_372 A_373 c_374) 151) :: pt br25x0otape_33 (blk (Ttape_Tape.obj p_366.tape A_367 c_368) 158) :: rowp A_367 c_368 23 1 (eI .u64) p_366.tape.words :: rowp A_369 c_370 32 6 Tapi_Op.cells p_366.ops :: rowp A_371 c_372 23 1 (eI .u64) p_366.values :: rowp A_373 c_374 144 3 Tapi_Span.cells p_366.blocks :: rowp Ar431x0ops_434 cr431x0ops_435 32 6 Tapi_Op.cells v_433.ops :: rowp Ar431x0blocks_436 cr431x0blocks_437 144 3 Tapi_Span.cells v_433.blocks :: rowp A_375 c_376 23 1 (eI .u64) p_377 :: S) hs.own).mono ?_
            rintro _ w ⟨rfl, how⟩
            refine ⟨_, _, _, rfl, how, fun a hs => ?_⟩
            refine Vk.pures 2 [(4, .bool v_453), (144, .bool v_453)] hs (by kernel_rfl) fun a hs => ?_
            replace hs := hs.pick [4] (L' := [(4, .bool v_453)]) (by kernel_rfl)
            refine Vk.done (by kernel_rfl) ?_
            exact hj430 v_453 hm _ _ (hs.go [4] [] 11 (by kernel_rfl) (by kernel_rfl) (by kernel_rfl))
          · replace hm := bif_f hm hb
            replace hs := hs.known (t := 142) hb (by kernel_rfl)
            refine Vk.pures 3 [(4, .bool false), (144, .bool false), (143, undef)] hs (by kernel_rfl) fun a hs => ?_
            replace hs := hs.pick [4] (L' := [(4, .bool false)]) (by kernel_rfl)
            refine Vk.done (by kernel_rfl) ?_
            exact hj430 false hm _ _ (hs.go [4] [] 11 (by kernel_rfl) (by kernel_rfl) (by kernel_rfl))
        refine Vk.loopBy (fun k (s : Twire_Machine × List Int × Int) a w => ∃ (A_59 : Option Addr), ∃ (c_60 : Nat), ∃ (A_61 : Option Addr), ∃ (c_62 : Nat), ∃ (A_63 : Option Addr), ∃ (c_64 : Nat), ∃ (A_65 : Option Addr), ∃ (c_66 : Nat), ∃ (A_67 : Option Addr), ∃ (c_68 : Nat), visorlaw19_WireMakes.l1 x1 k s.1 s.2.1 s.2.2 = some r57 ∧ St 145 a w κ [(1, .slice A_x1 x1.length c_x1), (8, .pointer (some ⟨br25x0_32, 0, none⟩)), (10, .slice A_67 s.2.1.length c_68), (11, .int .i64 s.2.2)] (pt br25x0_32 (blk (Twire_Machine.obj s.1 br25x0otape_33 A_61 c_62 A_63 c_64 A_65 c_66) 151) :: pt br25x0otape_33 (blk (Ttape_Tape.obj s.1.tape A_59 c_60) 158) :: rowp A_59 c_60 23 1 (eI .u64) s.1.tape.words :: rowp A_61 c_62 32 6 Tapi_Op.cells s.1.ops :: rowp A_63 c_64 23 1 (eI .u64) s.1.values :: rowp A_65 c_66 144 3 Tapi_Span.cells s.1.blocks :: rowp A_67 c_68 23 1 (eI .u64) s.2.1 :: S)) k (v_31.1, ([] : List Int), 0) ⟨Ar25x0otapeowords_34, cr25x0otapeowords_35, Ar25x0oops_36, cr25x0oops_37, Ar25x0ovalues_38, cr25x0ovalues_39, Ar25x0oblocks_40, cr25x0oblocks_41, A_53, 0, hl57, hs.go [1, 8, 10, 11] [1, 2, 3, 4, 5, 6, 0] 8 (by kernel_rfl) (by kernel_rfl) (by kernel_rfl)⟩ (fun s a w h => by obtain ⟨_, _, _, _, _, _, _, _, _, _, h1, _⟩ := h; simp [visorlaw19_WireMakes.l1] at h1) (fun k KL57 ih s a w h => ?_)
        obtain ⟨q_58, q_69, q_70⟩ := s
        obtain ⟨A_59, c_60, A_61, c_62, A_63, c_64, A_65, c_66, A_67, c_68, hm, hs⟩ := h
        try dsimp only at hm hs
        rw [visorlaw19_WireMakes.l1] at hm
        refine Vk.seq fun K71 hK71 => ?_
        refine Vk.seq fun K72 hK72 => ?_
        refine Vk.region ?_
        refine Vk.pures 5 [(39, .bool (decide (q_70 < ((x1.length : Nat) : Int)))), (38, .bool (decide (q_70 < ((x1.length : Nat) : Int)))), (37, .int .i64 ((x1.length : Nat) : Int)), (36, .slice A_x1 x1.length c_x1), (35, .int .i64 q_70)] hs (by kernel_rfl) fun a hs => ?_
        suffices hj_73 : ∀ a, St 145 a w κ [(1, .slice A_x1 x1.length c_x1), (8, .pointer (some ⟨br25x0_32, 0, none⟩)), (10, .slice A_67 q_69.length c_68), (11, .int .i64 q_70), (35, .int .i64 q_70), (36, .slice A_x1 x1.length c_x1), (37, .int .i64 ((x1.length : Nat) : Int)), (38, .bool (decide (q_70 < ((x1.length : Nat) : Int)))), (39, .bool (decide (q_70 < ((x1.length : Nat) : Int)))), (42, .bool ((decide (q_70 < ((x1.length : Nat) : Int))) && (decide (q_70 < 150))))] (pt br25x0_32 (blk (Twire_Machine.obj q_58 br25x0otape_33 A_61 c_62 A_63 c_64 A_65 c_66) 151) :: pt br25x0otape_33 (blk (Ttape_Tape.obj q_58.tape A_59 c_60) 158) :: rowp A_59 c_60 23 1 (eI .u64) q_58.tape.words :: rowp A_61 c_62 32 6 Tapi_Op.cells q_58.ops :: rowp A_63 c_64 23 1 (eI .u64) q_58.values :: rowp A_65 c_66 144 3 Tapi_Span.cells q_58.blocks :: rowp A_67 c_68 23 1 (eI .u64) q_69 :: S) → wpFrom Try.prog _ _ 8 a w by
          rcases Bool.eq_false_or_eq_true (decide (q_70 < ((x1.length : Nat) : Int))) with hb | hb
          · replace hs := hs.known (t := 39) hb (by kernel_rfl)
            refine Vk.pures 3 [(42, .bool (decide (q_70 < 150))), (41, .bool (decide (q_70 < 150))), (40, .int .i64 q_70)] hs (by kernel_rfl) fun a hs => ?_
            have hq := hs.pick [1, 8, 10, 11, 35, 36, 37, 38, 39, 42] (L' := [(1, .slice A_x1 x1.length c_x1), (8, .pointer (some ⟨br25x0_32, 0, none⟩)), (10, .slice A_67 q_69.length c_68), (11, .int .i64 q_70), (35, .int .i64 q_70), (36, .slice A_x1 x1.length c_x1), (37, .int .i64 ((x1.length : Nat) : Int)), (38, .bool (decide (q_70 < ((x1.length : Nat) : Int)))), (39, .bool true), (42, .bool (decide (q_70 < 150)))]) (by kernel_rfl)
            exact hj_73 _ (hq.conv (by first | (rw [hb] <;> rfl) | rfl))
          · replace hs := hs.known (t := 39) hb (by kernel_rfl)
            refine Vk.pures 3 [(42, .bool false), (41, undef), (40, undef)] hs (by kernel_rfl) fun a hs => ?_
            have hq := hs.pick [1, 8, 10, 11, 35, 36, 37, 38, 39, 42] (L' := [(1, .slice A_x1 x1.length c_x1), (8, .pointer (some ⟨br25x0_32, 0, none⟩)), (10, .slice A_67 q_69.length c_68), (11, .int .i64 q_70), (35, .int .i64 q_70), (36, .slice A_x1 x1.length c_x1), (37, .int .i64 ((x1.length : Nat) : Int)), (38, .bool (decide (q_70 < ((x1.length : Nat) : Int)))), (39, .bool false), (42, .bool false)]) (by kernel_rfl)
            exact hj_73 _ (hq.conv (by first | (rw [hb] <;> rfl) | rfl))
        intro a hs
        replace hs := hs.pick [1, 8, 10, 11, 42] (L' := [(1, .slice A_x1 x1.length c_x1), (8, .pointer (some ⟨br25x0_32, 0, none⟩)), (10, .slice A_67 q_69.length c_68), (11, .int .i64 q_70), (42, .bool ((decide (q_70 < ((x1.length : Nat) : Int))) && (decide (q_70 < 150))))]) (by kernel_rfl)
        refine Vk.done (by kernel_rfl) ?_
        refine hK72 _ _ ?_
        clear hK72
        refine Vk.condS (b := (decide (q_70 < ((x1.length : Nat) : Int))) && (decide (q_70 < 150))) hs (by kernel_rfl) (by kernel_rfl) (fun hb => ?_) (fun hb => ?_)
        · replace hm := bif_t hm hb
          refine wp_skip ?_
          refine hK71 _ _ ?_
          clear hK71
          refine Vk.seq fun K74 hK74 => ?_
          have hj365 : ∀ (p_352 : Twire_Machine), visorlaw19_WireMakes.j5_3 k (visorlaw19_WireMakes.l1 x1 k) q_69 q_70 p_352 = some r57 → ∀ (A_353 : Option Addr) (c_354 : Nat) (A_356 : Option Addr) (c_357 : Nat) (A_359 : Option Addr) (c_360 : Nat) (A_362 : Option Addr) (c_363 : Nat) (a : Act) (w : World), St 145 a w κ [(1, .slice A_x1 x1.length c_x1), (8, .pointer (some ⟨br25x0_32, 0, none⟩)), (10, .slice A_67 q_69.length c_68), (11, .int .i64 q_70)] (pt br25x0_32 (blk (Twire_Machine.obj p_352 br25x0otape_33 A_356 c_357 A_359 c_360 A_362 c_363) 151) :: pt br25x0otape_33 (blk (Ttape_Tape.obj p_352.tape A_353 c_354) 158) :: rowp A_353 c_354 23 1 (eI .u64) p_352.tape.words :: rowp A_356 c_357 32 6 Tapi_Op.cells p_352.ops :: rowp A_359 c_360 23 1 (eI .u64) p_352.values :: rowp A_362 c_363 144 3 Tapi_Span.cells p_352.blocks :: rowp A_67 c_68 23 1 (eI .u64) q_69 :: S) → K74 a w := by
            intro p_352 hm A_353 c_354 A_356 c_357 A_359 c_360 A_362 c_363 a w hs
            unfold visorlaw19_WireMakes.j5_3 at hm
            refine hK74 _ _ ?_
            refine Vk.region ?_
            refine Vk.pures 3 [(11, .int .i64 (IntKind.i64.wrap (q_70 + 1))), (44, .int .i64 (IntKind.i64.wrap (q_70 + 1))), (43, .int .i64 q_70)] hs (by kernel_rfl) fun a hs => ?_
            replace hs := hs.pick [1, 8, 10, 11] (L' := [(1, .slice A_x1 x1.length c_x1), (8, .pointer (some ⟨br25x0_32, 0, none⟩)), (10, .slice A_67 q_69.length c_68), (11, .int .i64 (IntKind.i64.wrap (q_70 + 1)))]) (by kernel_rfl)
            refine Vk.done (by kernel_rfl) ?_
            refine ih (p_352, q_69, (IntKind.i64.wrap (q_70 + 1))) _ _ ⟨A_353, c_354, A_356, c_357, A_359, c_360, A_362, c_363, A_67, c_68, hm, hs.go [1, 8, 10, 11] [0, 1, 2, 3, 4, 5, 6] 7 (by kernel_rfl) (by kernel_rfl) (by kernel_rfl)⟩
          have hj351 : ∀ (p_336 : Twire_Machine) (p_349 : Int) (p_350 : Bool), visorlaw19_WireMakes.j5_2 k (visorlaw19_WireMakes.l1 x1 k) q_69 q_70 p_336 p_349 p_350 = some r57 → ∀ (A_337 : Option Addr) (c_338 : Nat) (A_340 : Option Addr) (c_341 : Nat) (A_343 : Option Addr) (c_344 : Nat) (A_346 : Option Addr) (c_347 : Nat) (a : Act) (w : World), St 145 a w κ [(1, .slice A_x1 x1.length c_x1), (8, .pointer (some ⟨br25x0_32, 0, none⟩)), (10, .slice A_67 q_69.length c_68), (11, .int .i64 q_70), (129, .pointer (some ⟨br25x0_32, 0, none⟩)), (130, .int .i64 p_349), (131, .bool p_350)] (pt br25x0_32 (blk (Twire_Machine.obj p_336 br25x0otape_33 A_340 c_341 A_343 c_344 A_346 c_347) 151) :: pt br25x0otape_33 (blk (Ttape_Tape.obj p_336.tape A_337 c_338) 158) :: rowp A_337 c_338 23 1 (eI .u64) p_336.tape.words :: rowp A_340 c_341 32 6 Tapi_Op.cells p_336.ops :: rowp A_343 c_344 23 1 (eI .u64) p_336.values :: rowp A_346 c_347 144 3 Tapi_Span.cells p_336.blocks :: rowp A_67 c_68 23 1 (eI .u64) q_69 :: S) → K74 a w := by
            intro p_336 p_349 p_350 hm A_337 c_338 A_340 c_341 A_343 c_344 A_346 c_347 a w hs
            unfold visorlaw19_WireMakes.j5_2 at hm
            refine hK74 _ _ ?_
            refine Vk.region ?_
            refine Vk.pures 3 [(11, .int .i64 (IntKind.i64.wrap (q_70 + 1))), (44, .int .i64 (IntKind.i64.wrap (q_70 + 1))), (43, .int .i64 q_70)] hs (by kernel_rfl) fun a hs => ?_
            replace hs := hs.pick [1, 8, 10, 11, 129, 130, 131] (L' := [(1, .slice A_x1 x1.length c_x1), (8, .pointer (some ⟨br25x0_32, 0, none⟩)), (10, .slice A_67 q_69.length c_68), (11, .int .i64 (IntKind.i64.wrap (q_70 + 1))), (129, .pointer (some ⟨br25x0_32, 0, none⟩)), (130, .int .i64 p_349), (131, .bool p_350)]) (by kernel_rfl)
            refine Vk.done (by kernel_rfl) ?_
            refine ih (p_336, q_69, (IntKind.i64.wrap (q_70 + 1))) _ _ ⟨A_337, c_338, A_340, c_341, A_343, c_344, A_346, c_347, A_67, c_68, hm, hs.go [1, 8, 10, 11] [0, 1, 2, 3, 4, 5, 6] 7 (by kernel_rfl) (by kernel_rfl) (by kernel_rfl)⟩
          have hj335 : ∀ (p_314 : Twire_Machine) (p_329 : List Int) (p_330 : Int) (p_331 : Int) (p_332 : Bool) (p_333 : Int) (p_334 : Bool), visorlaw19_WireMakes.j5 k (visorlaw19_WireMakes.l1 x1 k) q_70 p_314 p_329 p_330 p_331 p_332 p_333 p_334 = some r57 → ∀ (A_315 : Option Addr) (c_316 : Nat) (A_318 : Option Addr) (c_319 : Nat) (A_321 : Option Addr) (c_322 : Nat) (A_324 : Option Addr) (c_325 : Nat) (A_327 : Option Addr) (c_328 : Nat) (a : Act) (w : World), St 145 a w κ [(1, .slice A_x1 x1.length c_x1), (8, .pointer (some ⟨br25x0_32, 0, none⟩)), (10, .slice A_327 p_329.length c_328), (11, .int .i64 q_70), (93, .pointer (some ⟨br25x0_32, 0, none⟩)), (94, .int .i64 p_330), (95, .int .i64 p_331), (96, .bool p_332), (129, .pointer (some ⟨br25x0_32, 0, none⟩)), (130, .int .i64 p_333), (131, .bool p_334)] (pt br25x0_32 (blk (Twire_Machine.obj p_314 br25x0otape_33 A_318 c_319 A_321 c_322 A_324 c_325) 151) :: pt br25x0otape_33 (blk (Ttape_Tape.obj p_314.tape A_315 c_316) 158) :: rowp A_315 c_316 23 1 (eI .u64) p_314.tape.words :: rowp A_318 c_319 32 6 Tapi_Op.cells p_314.ops :: rowp A_321 c_322 23 1 (eI .u64) p_314.values :: rowp A_324 c_325 144 3 Tapi_Span.cells p_314.blocks :: rowp A_327 c_328 23 1 (eI .u64) p_329 :: S) → K74 a w := by
            intro p_314 p_329 p_330 p_331 p_332 p_333 p_334 hm A_315 c_316 A_318 c_319 A_321 c_322 A_324 c_325 A_327 c_328 a w hs
            unfold visorlaw19_WireMakes.j5 at hm
            refine hK74 _ _ ?_
            refine Vk.region ?_
            refine Vk.pures 3 [(11, .int .i64 (IntKind.i64.wrap (q_70 + 1))), (44, .int .i64 (IntKind.i64.wrap (q_70 + 1))), (43, .int .i64 q_70)] hs (by kernel_rfl) fun a hs => ?_
            replace hs := hs.pick [1, 8, 10, 11, 93, 94, 95, 96, 129, 130, 131] (L' := [(1, .slice A_x1 x1.length c_x1), (8, .pointer (some ⟨br25x0_32, 0, none⟩)), (10, .slice A_327 p_329.length c_328), (11, .int .i64 (IntKind.i64.wrap (q_70 + 1))), (93, .pointer (some ⟨br25x0_32, 0, none⟩)), (94, .int .i64 p_330), (95, .int .i64 p_331), (96, .bool p_332), (129, .pointer (some ⟨br25x0_32, 0, none⟩)), (130, .int .i64 p_333), (131, .bool p_334)]) (by kernel_rfl)
            refine Vk.done (by kernel_rfl) ?_
            refine ih (p_314, p_329, (IntKind.i64.wrap (q_70 + 1))) _ _ ⟨A_315, c_316, A_318, c_319, A_321, c_322, A_324, c_325, A_327, c_328, hm, hs.go [1, 8, 10, 11] [0, 1, 2, 3, 4, 5, 6] 7 (by kernel_rfl) (by kernel_rfl) (by kernel_rfl)⟩
          refine wp_block ?_
          refine Vk.seq fun K75 hK75 => ?_
          refine Vk.region ?_
          refine Vk.pures 1 [(45, .pointer (some ⟨br25x0_32, 0, none⟩))] hs (by kernel_rfl) fun a hs => ?_
          obtain ⟨v_78, h_77, hm⟩ := bind_t hm
          refine Vk.step (Vk.call (some 46) 58 #[.pointer (some ⟨br25x0_32, 0, none⟩)] hs (by kernel_rfl) (by kernel_rfl) (by kernel_rfl) ?_)
          refine (wire_Machine_Len.ok k q_58 v_78 h_77 κ w (rowp A_67 c_68 23 1 (eI .u64) q_69 :: S) br25x0_32 br25x0otape_33 A_59 c_60 A_61 c_62 A_63 c_64 A_65 c_66 (Own.to hs.own [0, 1, 2, 3, 4, 5, 6] 7 (by kernel_rfl) (by kernel_rfl))).mono ?_
          rintro _ w ⟨rfl, how⟩
          refine ⟨_, _, _, rfl, how, fun a hs => ?_⟩
          refine Vk.pures 1 [(12, .int .i64 v_78)] hs (by kernel_rfl) fun a hs => ?_
          replace hs := hs.pick [1, 8, 10, 11, 12] (L' := [(1, .slice A_x1 x1.length c_x1), (8, .pointer (some ⟨br25x0_32, 0, none⟩)), (10, .slice A_67 q_69.length c_68), (11, .int .i64 q_70), (12, .int .i64 v_78)]) (by kernel_rfl)
          refine Vk.done (by kernel_rfl) ?_
          refine hK75 _ _ ?_
          clear hK75
          refine Vk.seq fun K79 hK79 => ?_
          have hj79 : ∀ (p_147 : Twire_Machine), visorlaw19_WireMakes.j2 k (visorlaw19_WireMakes.l1 x1 k) x1 q_69 q_70 v_78 p_147 = some r57 → ∀ (A_148 : Option Addr) (c_149 : Nat) (A_151 : Option Addr) (c_152 : Nat) (A_154 : Option Addr) (c_155 : Nat) (A_157 : Option Addr) (c_158 : Nat) (a : Act) (w : World), St 145 a w κ [(1, .slice A_x1 x1.length c_x1), (8, .pointer (some ⟨br25x0_32, 0, none⟩)), (10, .slice A_67 q_69.length c_68), (11, .int .i64 q_70), (12, .int .i64 v_78)] (pt br25x0_32 (blk (Twire_Machine.obj p_147 br25x0otape_33 A_151 c_152 A_154 c_155 A_157 c_158) 151) :: pt br25x0otape_33 (blk (Ttape_Tape.obj p_147.tape A_148 c_149) 158) :: rowp A_148 c_149 23 1 (eI .u64) p_147.tape.words :: rowp A_151 c_152 32 6 Tapi_Op.cells p_147.ops :: rowp A_154 c_155 23 1 (eI .u64) p_147.values :: rowp A_157 c_158 144 3 Tapi_Span.cells p_147.blocks :: rowp A_67 c_68 23 1 (eI .u64) q_69 :: S) → K79 a w := by
            intro p_147 hm A_148 c_149 A_151 c_152 A_154 c_155 A_157 c_158 a w hs
            unfold visorlaw19_WireMakes.j2 at hm
            refine hK79 _ _ ?_
            refine Vk.seq fun K160 hK160 => ?_
            have hj251 : ∀ (p_186 : List Int) (p_187 : Int) (p_188 : Bool), visorlaw19_WireMakes.j3 k (visorlaw19_WireMakes.l1 x1 k) x1 q_70 v_78 p_147 p_186 p_187 p_188 = some r57 → ∀ (A_184 : Option Addr) (c_185 : Nat) (a : Act) (w : World), St 145 a w κ [(1, .slice A_x1 x1.length c_x1), (8, .pointer (some ⟨br25x0_32, 0, none⟩)), (10, .slice A_184 p_186.length c_185), (11, .int .i64 q_70), (93, .pointer (some ⟨br25x0_32, 0, none⟩)), (94, .int .i64 p_187), (95, .int .i64 v_78), (96, .bool p_188)] (pt br25x0_32 (blk (Twire_Machine.obj p_147 br25x0otape_33 A_151 c_152 A_154 c_155 A_157 c_158) 151) :: pt br25x0otape_33 (blk (Ttape_Tape.obj p_147.tape A_148 c_149) 158) :: rowp A_148 c_149 23 1 (eI .u64) p_147.tape.words :: rowp A_151 c_152 32 6 Tapi_Op.cells p_147.ops :: rowp A_154 c_155 23 1 (eI .u64) p_147.values :: rowp A_157 c_158 144 3 Tapi_Span.cells p_147.blocks :: rowp A_184 c_185 23 1 (eI .u64) p_186 :: S) → K160 a w := by
              intro p_186 p_187 p_188 hm A_184 c_185 a w hs
              unfold visorlaw19_WireMakes.j3 at hm
              refine hK160 _ _ ?_
              refine Vk.seq fun K189 hK189 => ?_
              have hj189 : ∀ (p_216 : Twire_Machine), visorlaw19_WireMakes.j4 k (visorlaw19_WireMakes.l1 x1 k) x1 q_70 v_78 p_186 p_187 p_188 p_216 = some r57 → ∀ (A_217 : Option Addr) (c_218 : Nat) (A_220 : Option Addr) (c_221 : Nat) (A_223 : Option Addr) (c_224 : Nat) (A_226 : Option Addr) (c_227 : Nat) (a : Act) (w : World), St 145 a w κ [(1, .slice A_x1 x1.length c_x1), (8, .pointer (some ⟨br25x0_32, 0, none⟩)), (10, .slice A_184 p_186.length c_185), (11, .int .i64 q_70), (93, .pointer (some ⟨br25x0_32, 0, none⟩)), (94, .int .i64 p_187), (95, .int .i64 v_78), (96, .bool p_188)] (pt br25x0_32 (blk (Twire_Machine.obj p_216 br25x0otape_33 A_220 c_221 A_223 c_224 A_226 c_227) 151) :: pt br25x0otape_33 (blk (Ttape_Tape.obj p_216.tape A_217 c_218) 158) :: rowp A_217 c_218 23 1 (eI .u64) p_216.tape.words :: rowp A_220 c_221 32 6 Tapi_Op.cells p_216.ops :: rowp A_223 c_224 23 1 (eI .u64) p_216.values :: rowp A_226 c_227 144 3 Tapi_Span.cells p_216.blocks :: rowp A_184 c_185 23 1 (eI .u64) p_186 :: S) → K189 a w := by
                intro p_216 hm A_217 c_218 A_220 c_221 A_223 c_224 A_226 c_227 a w hs
                unfold visorlaw19_WireMakes.j4 at hm
                refine hK189 _ _ ?_
                refine Vk.seq fun K229 hK229 => ?_
                refine Vk.region ?_
                refine Vk.pures 2 [(123, .int .i64 q_70), (122, .slice A_x1 x1.length c_x1)] hs (by kernel_rfl) fun a hs => ?_
                obtain ⟨h_230, hm⟩ := ite_t hm
                obtain ⟨e_233, h_231, hm⟩ := bind_t hm
                obtain ⟨b_234, o_235, hA_236, h_232⟩ := Sl.elem hx_x1 h_231
                refine Vk.step (Vk.value (some 124) (.pointer (some ⟨b_234, o_235 + q_70.toNat * 8, none⟩)) hs (by kernel_rfl) (op := (.indexAddr 104 (.tmp 122) (.tmp 123))) (by kernel_rfl) (fun o ho => run_idxSlc (k := .i64) ho (cap := c_x1) (len := x1.length) ((congrArg (fun A => Value.slice A (x1.length) (c_x1)) hA_236) ▸ (by kernel_rfl)) (by kernel_rfl) (by kernel_rfl) (idx_ok h_230 h_231) _) fun a hs => ?_)
                refine Vk.pures 1 [(125, .pointer (some ⟨b_234, o_235 + q_70.toNat * 8, none⟩))] hs (by kernel_rfl) fun a hs => ?_
                refine Vk.step (Vk.value (some 126) (.int .i64 e_233.kind) hs (by kernel_rfl) (op := (.load 3 (.tmp 125))) (by kernel_rfl) (fun o ho => run_load1 (b := b_234) (off := o_235 + q_70.toNat * 8) (c := C.int .i64 e_233.kind) ho (by kernel_rfl) (by kernel_rfl) (CellsAt.cell h_232 (i := 0) (by kernel_rfl)) _ hs.own.drop.drop.drop.drop.drop.drop.drop) fun a hs => ?_)
                refine Vk.pures 2 [(128, .bool (e_233.kind == 9)), (127, .bool (e_233.kind == 9))] hs (by kernel_rfl) fun a hs => ?_
                rcases Bool.eq_false_or_eq_true (e_233.kind == 9) with hb | hb
                · replace hm := bif_t hm hb
                  replace hs := hs.known (t := 128) hb (by kernel_rfl)
                  refine Vk.pures 1 [(129, .pointer (some ⟨br25x0_32, 0, none⟩))] hs (by kernel_rfl) fun a hs => ?_
                  obtain ⟨v_239, h_238, hm⟩ := bind_t hm
                  refine Vk.step (Vk.call (some 130) 62 #[.pointer (some ⟨br25x0_32, 0, none⟩)] hs (by kernel_rfl) (by kernel_rfl) (by kernel_rfl) ?_)
                  refine (wire_Machine_Err.ok k p_216 v_239 h_238 κ w (rowp A_184 c_185 23 1 (eI .u64) p_186 :: S) br25x0_32 br25x0otape_33 A_217 c_218 A_220 c_221 A_223 c_224 A_226 c_227 (Own.to hs.own [0, 1, 2, 3, 4, 5, 6] 7 (by kernel_rfl) (by kernel_rfl))).mono ?_
                  rintro _ w ⟨rfl, how⟩
                  refine ⟨_, _, _, rfl, how, fun a hs => ?_⟩
                  refine Vk.pures 2 [(132, .bool (v_239 == 0)), (131, .bool (v_239 == 0))] hs (by kernel_rfl) fun a hs => ?_
                  replace hs := hs.pick [1, 8, 10, 11, 93, 94, 95, 96, 129, 130, 131, 132] (L' := [(1, .slice A_x1 x1.length c_x1), (8, .pointer (some ⟨br25x0_32, 0, none⟩)), (10, .slice A_184 p_186.length c_185), (11, .int .i64 q_70), (93, .pointer (some ⟨br25x0_32, 0, none⟩)), (94, .int .i64 p_187), (95, .int .i64 v_78), (96, .bool p_188), (129, .pointer (some ⟨br25x0_32, 0, none⟩)), (130, .int .i64 v_239), (131, .bool (v_239 == 0)), (132, .bool (v_239 == 0))]) (by kernel_rfl)
                  refine Vk.done (by kernel_rfl) ?_
                  refine hK229 _ _ ?_
                  refine Vk.condS (b := v_239 == 0) hs (by kernel_rfl) (by kernel_rfl) (fun hb => ?_) (fun hb => ?_)
                  · replace hm := bif_t hm hb
                    refine Vk.region ?_
                    refine Vk.pures 1 [(133, .pointer (some ⟨br25x0_32, 0, none⟩))] hs (by kernel_rfl) fun a hs => ?_
                    obtain ⟨v_242, h_241, hm⟩ := bind_t hm
                    refine Vk.step (Vk.call (some 134) 63 #[.pointer (some ⟨br25x0_32, 0, none⟩)] hs (by kernel_rfl) (by kernel_rfl) (by kernel_rfl) ?_)
                    refine (wire_Machine_End.ok k p_216 v_242 h_241 κ w (rowp A_184 c_185 23 1 (eI .u64) p_186 :: S) br25x0_32 br25x0otape_33 A_217 c_218 A_220 c_221 A_223 c_224 A_226 c_227 (Own.to hs.own [0, 1, 2, 3, 4, 5, 6] 7 (by kernel_rfl) (by kernel_rfl))).mono ?_
                    rintro _ w ⟨Ar240o0otapeowords_243, cr240o0otapeowords_244, Ar240o0oops_245, cr240o0oops_246, Ar240o0ovalues_247, cr240o0ovalues_248, Ar240o0oblocks_249, cr240o0oblocks_250, rfl, how⟩
                    refine ⟨_, _, _, rfl, how, fun a hs => ?_⟩
                    replace hs := hs.pick [1, 8, 10, 11, 93, 94, 95, 96, 129, 130, 131] (L' := [(1, .slice A_x1 x1.length c_x1), (8, .pointer (some ⟨br25x0_32, 0, none⟩)), (10, .slice A_184 p_186.length c_185), (11, .int .i64 q_70), (93, .pointer (some ⟨br25x0_32, 0, none⟩)), (94, .int .i64 p_187), (95, .int .i64 v_78), (96, .bool p_188), (129, .pointer (some ⟨br25x0_32, 0, none⟩)), (130, .int .i64 v_239), (131, .bool (v_239 == 0))]) (by kernel_rfl)
                    refine Vk.done (by kernel_rfl) ?_
                    exact hj335 v_242 p_186 p_187 v_78 p_188 v_239 (v_239 == 0) hm Ar240o0otapeowords_243 cr240o0otapeowords_244 Ar240o0oops_245 cr240o0oops_246 Ar240o0ovalues_247 cr240o0ovalues_248 Ar240o0oblocks_249 cr240o0oblocks_250 A_184 c_185 _ _ (hs.go [1, 8, 10, 11, 93, 94, 95, 96, 129, 130, 131] [0, 1, 2, 3, 4, 5, 6] 7 (by kernel_rfl) (by kernel_rfl) (by kernel_rfl))
                  · replace hm := bif_f hm hb
                    refine wp_skip ?_
                    exact hj335 p_216 p_186 p_187 v_78 p_188 v_239 (v_239 == 0) hm A_217 c_218 A_220 c_221 A_223 c_224 A_226 c_227 A_184 c_185 _ _ (hs.go [1, 8, 10, 11, 93, 94, 95, 96, 129, 130, 131] [0, 1, 2, 3, 4, 5, 6] 7 (by kernel_rfl) (by kernel_rfl) (by kernel_rfl))
                · replace hm := bif_f hm hb
                  replace hs := hs.known (t := 128) hb (by kernel_rfl)
                  refine Vk.pures 4 [(132, .bool false), (131, undef), (130, undef), (129, undef)] hs (by kernel_rfl) fun a hs => ?_
                  replace hs := hs.pick [1, 8, 10, 11, 93, 94, 95, 96, 132] (L' := [(1, .slice A_x1 x1.length c_x1), (8, .pointer (some ⟨br25x0_32, 0, none⟩)), (10, .slice A_184 p_186.length c_185), (11, .int .i64 q_70), (93, .pointer (some ⟨br25x0_32, 0, none⟩)), (94, .int .i64 p_187), (95, .int .i64 v_78), (96, .bool p_188), (132, .bool false)]) (by kernel_rfl)
                  refine Vk.done (by kernel_rfl) ?_
                  refine hK229 _ _ ?_
                  refine Vk.condF hs (by kernel_rfl) (by kernel_rfl) ?_
                  refine wp_skip ?_
                  refine hK74 _ _ ?_
                  refine Vk.region ?_
                  refine Vk.pures 3 [(11, .int .i64 (IntKind.i64.wrap (q_70 + 1))), (44, .int .i64 (IntKind.i64.wrap (q_70 + 1))), (43, .int .i64 q_70)] hs (by kernel_rfl) fun a hs => ?_
                  replace hs := hs.pick [1, 8, 10, 11, 93, 94, 95, 96] (L' := [(1, .slice A_x1 x1.length c_x1), (8, .pointer (some ⟨br25x0_32, 0, none⟩)), (10, .slice A_184 p_186.length c_185), (11, .int .i64 (IntKind.i64.wrap (q_70 + 1))), (93, .pointer (some ⟨br25x0_32, 0, none⟩)), (94, .int .i64 p_187), (95, .int .i64 v_78), (96, .bool p_188)]) (by kernel_rfl)
                  refine Vk.done (by kernel_rfl) ?_
                  refine ih (p_216, p_186, (IntKind.i64.wrap (q_70 + 1))) _ _ ⟨A_217, c_218, A_220, c_221, A_223, c_224, A_226, c_227, A_184, c_185, hm, hs.go [1, 8, 10, 11] [0, 1, 2, 3, 4, 5, 6] 7 (by kernel_rfl) (by kernel_rfl) (by kernel_rfl)⟩
              refine Vk.seq fun K190 hK190 => ?_
              refine Vk.region ?_
              refine Vk.pures 2 [(107, .int .i64 q_70), (106, .slice A_x1 x1.length c_x1)] hs (by kernel_rfl) fun a hs => ?_
              obtain ⟨h_191, hm⟩ := ite_t hm
              obtain ⟨e_194, h_192, hm⟩ := bind_t hm
              obtain ⟨b_195, o_196, hA_197, h_193⟩ := Sl.elem hx_x1 h_192
              refine Vk.step (Vk.value (some 108) (.pointer (some ⟨b_195, o_196 + q_70.toNat * 8, none⟩)) hs (by kernel_rfl) (op := (.indexAddr 104 (.tmp 106) (.tmp 107))) (by kernel_rfl) (fun o ho => run_idxSlc (k := .i64) ho (cap := c_x1) (len := x1.length) ((congrArg (fun A => Value.slice A (x1.length) (c_x1)) hA_197) ▸ (by kernel_rfl)) (by kernel_rfl) (by kernel_rfl) (idx_ok h_191 h_192) _) fun a hs => ?_)
              refine Vk.pures 1 [(109, .pointer (some ⟨b_195, o_196 + q_70.toNat * 8, none⟩))] hs (by kernel_rfl) fun a hs => ?_
              refine Vk.step (Vk.value (some 110) (.int .i64 e_194.kind) hs (by kernel_rfl) (op := (.load 3 (.tmp 109))) (by kernel_rfl) (fun o ho => run_load1 (b := b_195) (off := o_196 + q_70.toNat * 8) (c := C.int .i64 e_194.kind) ho (by kernel_rfl) (by kernel_rfl) (CellsAt.cell h_193 (i := 0) (by kernel_rfl)) _ hs.own.drop.drop.drop.drop.drop.drop.drop) fun a hs => ?_)
              refine Vk.pures 1 [(111, .bool (e_194.kind == 8))] hs (by kernel_rfl) fun a hs => ?_
              replace hs := hs.pick [1, 8, 10, 11, 93, 94, 95, 96, 111] (L' := [(1, .slice A_x1 x1.length c_x1), (8, .pointer (some ⟨br25x0_32, 0, none⟩)), (10, .slice A_184 p_186.length c_185), (11, .int .i64 q_70), (93, .pointer (some ⟨br25x0_32, 0, none⟩)), (94, .int .i64 p_187), (95, .int .i64 v_78), (96, .bool p_188), (111, .bool (e_194.kind == 8))]) (by kernel_rfl)
              refine Vk.done (by kernel_rfl) ?_
              refine hK190 _ _ ?_
              clear hK190
              refine Vk.condS (b := e_194.kind == 8) hs (by kernel_rfl) (by kernel_rfl) (fun hb => ?_) (fun hb => ?_)
              · replace hm := bif_t hm hb
                refine Vk.region ?_
                refine Vk.pures 3 [(114, .int .i64 q_70), (113, .slice A_x1 x1.length c_x1), (112, .pointer (some ⟨br25x0_32, 0, none⟩))] hs (by kernel_rfl) fun a hs => ?_
                obtain ⟨h_198, hm⟩ := ite_t hm
                obtain ⟨e_201, h_199, hm⟩ := bind_t hm
                obtain ⟨b_202, o_203, hA_204, h_200⟩ := Sl.elem hx_x1 h_199
                refine Vk.step (Vk.value (some 115) (.pointer (some ⟨b_202, o_203 + q_70.toNat * 8, none⟩)) hs (by kernel_rfl) (op := (.indexAddr 104 (.tmp 113) (.tmp 114))) (by kernel_rfl) (fun o ho => run_idxSlc (k := .i64) ho (cap := c_x1) (len := x1.length) ((congrArg (fun A => Value.slice A (x1.length) (c_x1)) hA_204) ▸ (by kernel_rfl)) (by kernel_rfl) (by kernel_rfl) (idx_ok h_198 h_199) _) fun a hs => ?_)
                refine Vk.pures 1 [(116, .pointer (some ⟨b_202, o_203 + q_70.toNat * 8 + 7, none⟩))] hs (by kernel_rfl) fun a hs => ?_
                refine Vk.step (Vk.value (some 117) (.int .u64 e_201.x) hs (by kernel_rfl) (op := (.load 23 (.tmp 116))) (by kernel_rfl) (fun o ho => run_load1 (b := b_202) (off := o_203 + q_70.toNat * 8 + 7) (c := C.int .u64 e_201.x) ho (by kernel_rfl) (by kernel_rfl) (CellsAt.cell h_200 (i := 7) (by kernel_rfl)) _ hs.own.drop.drop.drop.drop.drop.drop.drop) fun a hs => ?_)
                refine Vk.pures 3 [(120, .int .i64 (IntKind.i64.wrap (1 + (IntKind.i64.wrap (Int.tmod e_201.x 3))))), (119, .int .i64 (IntKind.i64.wrap (Int.tmod e_201.x 3))), (118, .int .u64 (Int.tmod e_201.x 3))] hs (by kernel_rfl) fun a hs => ?_
                obtain ⟨v_207, h_206, hm⟩ := bind_t hm
                refine Vk.step (Vk.call (some 121) 61 #[.pointer (some ⟨br25x0_32, 0, none⟩), .int .i64 (IntKind.i64.wrap (1 + (IntKind.i64.wrap (Int.tmod e_201.x 3))))] hs (by kernel_rfl) (by kernel_rfl) (by kernel_rfl) ?_)
                refine (wire_Machine_Begin.ok k p_147 (IntKind.i64.wrap (1 + (IntKind.i64.wrap (Int.tmod e_201.x 3)))) v_207 h_206 κ w (rowp A_184 c_185 23 1 (eI .u64) p_186 :: S) br25x0_32 br25x0otape_33 A_148 c_149 A_151 c_152 A_154 c_155 A_157 c_158 (Own.to hs.own [0, 1, 2, 3, 4, 5, 6] 7 (by kernel_rfl) (by kernel_rfl))).mono ?_
                rintro _ w ⟨Ar205o0otapeowords_208, cr205o0otapeowords_209, Ar205o0oops_210, cr205o0oops_211, Ar205o0ovalues_212, cr205o0ovalues_213, Ar205o0oblocks_214, cr205o0oblocks_215, rfl, how⟩
                refine ⟨_, _, _, rfl, how, fun a hs => ?_⟩
                replace hs := hs.pick [1, 8, 10, 11, 93, 94, 95, 96] (L' := [(1, .slice A_x1 x1.length c_x1), (8, .pointer (some ⟨br25x0_32, 0, none⟩)), (10, .slice A_184 p_186.length c_185), (11, .int .i64 q_70), (93, .pointer (some ⟨br25x0_32, 0, none⟩)), (94, .int .i64 p_187), (95, .int .i64 v_78), (96, .bool p_188)]) (by kernel_rfl)
                refine Vk.done (by kernel_rfl) ?_
                exact hj189 v_207 hm Ar205o0otapeowords_208 cr205o0otapeowords_209 Ar205o0oops_210 cr205o0oops_211 Ar205o0ovalues_212 cr205o0ovalues_213 Ar205o0oblocks_214 cr205o0oblocks_215 _ _ (hs.go [1, 8, 10, 11, 93, 94, 95, 96] [0, 1, 2, 3, 4, 5, 6] 7 (by kernel_rfl) (by kernel_rfl) (by kernel_rfl))
              · replace hm := bif_f hm hb
                refine wp_skip ?_
                exact hj189 p_147 hm A_148 c_149 A_151 c_152 A_154 c_155 A_157 c_158 _ _ (hs.go [1, 8, 10, 11, 93, 94, 95, 96] [0, 1, 2, 3, 4, 5, 6] 7 (by kernel_rfl) (by kernel_rfl) (by kernel_rfl))
            refine Vk.seq fun K161 hK161 => ?_
            refine Vk.region ?_
            refine Vk.pures 2 [(87, .int .i64 q_70), (86, .slice A_x1 x1.length c_x1)] hs (by kernel_rfl) fun a hs => ?_
            obtain ⟨h_162, hm⟩ := ite_t hm
            obtain ⟨e_165, h_163, hm⟩ := bind_t hm
            obtain ⟨b_166, o_167, hA_168, h_164⟩ := Sl.elem hx_x1 h_163
            refine Vk.step (Vk.value (some 88) (.pointer (some ⟨b_166, o_167 + q_70.toNat * 8, none⟩)) hs (by kernel_rfl) (op := (.indexAddr 104 (.tmp 86) (.tmp 87))) (by kernel_rfl) (fun o ho => run_idxSlc (k := .i64) ho (cap := c_x1) (len := x1.length) ((congrArg (fun A => Value.slice A (x1.length) (c_x1)) hA_168) ▸ (by kernel_rfl)) (by kernel_rfl) (by kernel_rfl) (idx_ok h_162 h_163) _) fun a hs => ?_)
            refine Vk.pures 1 [(89, .pointer (some ⟨b_166, o_167 + q_70.toNat * 8, none⟩))] hs (by kernel_rfl) fun a hs => ?_
            refine Vk.step (Vk.value (some 90) (.int .i64 e_165.kind) hs (by kernel_rfl) (op := (.load 3 (.tmp 89))) (by kernel_rfl) (fun o ho => run_load1 (b := b_166) (off := o_167 + q_70.toNat * 8) (c := C.int .i64 e_165.kind) ho (by kernel_rfl) (by kernel_rfl) (CellsAt.cell h_164 (i := 0) (by kernel_rfl)) _ hs.own.drop.drop.drop.drop.drop.drop.drop) fun a hs => ?_)
            refine Vk.pures 2 [(92, .bool (e_165.kind == 2)), (91, .bool (e_165.kind == 2))] hs (by kernel_rfl) fun a hs => ?_
            rcases Bool.eq_false_or_eq_true (e_165.kind == 2) with hb | hb
            · replace hm := bif_t hm hb
              replace hs := hs.known (t := 92) hb (by kernel_rfl)
              refine Vk.pures 1 [(93, .pointer (some ⟨br25x0_32, 0, none⟩))] hs (by kernel_rfl) fun a hs => ?_
              obtain ⟨v_171, h_170, hm⟩ := bind_t hm
              refine Vk.step (Vk.call (some 94) 58 #[.pointer (some ⟨br25x0_32, 0, none⟩)] hs (by kernel_rfl) (by kernel_rfl) (by kernel_rfl) ?_)
              refine (wire_Machine_Len.ok k p_147 v_171 h_170 κ w (rowp A_67 c_68 23 1 (eI .u64) q_69 :: S) br25x0_32 br25x0otape_33 A_148 c_149 A_151 c_152 A_154 c_155 A_157 c_158 (Own.to hs.own [0, 1, 2, 3, 4, 5, 6] 7 (by kernel_rfl) (by kernel_rfl))).mono ?_
              rintro _ w ⟨rfl, how⟩
              refine ⟨_, _, _, rfl, how, fun a hs => ?_⟩
              refine Vk.pures 3 [(97, .bool (decide (v_171 > v_78))), (96, .bool (decide (v_171 > v_78))), (95, .int .i64 v_78)] hs (by kernel_rfl) fun a hs => ?_
              replace hs := hs.pick [1, 8, 10, 11, 93, 94, 95, 96, 97] (L' := [(1, .slice A_x1 x1.length c_x1), (8, .pointer (some ⟨br25x0_32, 0, none⟩)), (10, .slice A_67 q_69.length c_68), (11, .int .i64 q_70), (93, .pointer (some ⟨br25x0_32, 0, none⟩)), (94, .int .i64 v_171), (95, .int .i64 v_78), (96, .bool (decide (v_171 > v_78))), (97, .bool (decide (v_171 > v_78)))]) (by kernel_rfl)
              refine Vk.done (by kernel_rfl) ?_
              refine hK161 _ _ ?_
              refine Vk.condS (b := decide (v_171 > v_78)) hs (by kernel_rfl) (by kernel_rfl) (fun hb => ?_) (fun hb => ?_)
              · replace hm := bif_t hm hb
                refine Vk.region ?_
                refine Vk.pures 3 [(100, .int .i64 q_70), (99, .slice A_x1 x1.length c_x1), (98, .slice A_67 q_69.length c_68)] hs (by kernel_rfl) fun a hs => ?_
                obtain ⟨h_172, hm⟩ := ite_t hm
                obtain ⟨e_175, h_173, hm⟩ := bind_t hm
                obtain ⟨b_176, o_177, hA_178, h_174⟩ := Sl.elem hx_x1 h_173
                refine Vk.step (Vk.value (some 101) (.pointer (some ⟨b_176, o_177 + q_70.toNat * 8, none⟩)) hs (by kernel_rfl) (op := (.indexAddr 104 (.tmp 99) (.tmp 100))) (by kernel_rfl) (fun o ho => run_idxSlc (k := .i64) ho (cap := c_x1) (len := x1.length) ((congrArg (fun A => Value.slice A (x1.length) (c_x1)) hA_178) ▸ (by kernel_rfl)) (by kernel_rfl) (by kernel_rfl) (idx_ok h_172 h_173) _) fun a hs => ?_)
                refine Vk.pures 1 [(102, .pointer (some ⟨b_176, o_177 + q_70.toNat * 8 + 7, none⟩))] hs (by kernel_rfl) fun a hs => ?_
                refine Vk.step (Vk.value (some 103) (.int .u64 e_175.x) hs (by kernel_rfl) (op := (.load 23 (.tmp 102))) (by kernel_rfl) (fun o ho => run_load1 (b := b_176) (off := o_177 + q_70.toNat * 8 + 7) (c := C.int .u64 e_175.x) ho (by kernel_rfl) (by kernel_rfl) (CellsAt.cell h_174 (i := 7) (by kernel_rfl)) _ hs.own.drop.drop.drop.drop.drop.drop.drop) fun a hs => ?_)
                refine Vk.step (Vk.buildOp (sz := 1) (by_ := 8) (t := 73) (e := 23) (parts := #[(0, (.tmp 103))]) (zs := vals [C.int .u64 0]) ([e_175.x] : List Int) (eI .u64) (some 104) hs (by kernel_rfl) (by kernel_rfl) (by kernel_rfl) (by kernel_rfl) (by decide) rfl (fun x _ => rfl) (Nat.le_of_ble_eq_true (by kernel_rfl)) (by kernel_rfl) fun A_179 w a hs => ?_)
                obtain ⟨h_181, hm⟩ := ite_t hm
                refine Vk.step (Vk.appendOp (x := (.tmp 98)) (y := (.tmp 104)) (e := 23) (t := 73) (by_ := 8) (sz := 1) (enc := (eI .u64)) (A := A_67) (cap := c_68) (xs := q_69) (ys := ([e_175.x] : List Int)) (B := A_179) (c2 := 1) 7 (some 105) hs (by kernel_rfl) (by kernel_rfl) (by kernel_rfl) (by kernel_rfl) rfl (Sl.lift (fun w ho => (Own.to (S' := rowp A_179 1 23 1 (eI .u64) ([e_175.x] : List Int) :: S) ho [0] 8 (by kernel_rfl) (by kernel_rfl))) (Own.rowSl 0 (Own.to (S' := rowp A_179 1 23 1 (eI .u64) ([e_175.x] : List Int) :: S) hs.own [0] 8 (by kernel_rfl) (by kernel_rfl)) rfl)) (by kernel_rfl) (by kernel_rfl) (by decide) (by decide) h_181 fun A_182 c_183 w a hs => ?_)
                refine Vk.pures 1 [(10, .slice A_182 ((q_69 ++ ([e_175.x] : List Int)).length) c_183)] hs (by kernel_rfl) fun a hs => ?_
                replace hs := hs.pick [1, 8, 10, 11, 93, 94, 95, 96] (L' := [(1, .slice A_x1 x1.length c_x1), (8, .pointer (some ⟨br25x0_32, 0, none⟩)), (10, .slice A_182 ((q_69 ++ ([e_175.x] : List Int)).length) c_183), (11, .int .i64 q_70), (93, .pointer (some ⟨br25x0_32, 0, none⟩)), (94, .int .i64 v_171), (95, .int .i64 v_78), (96, .bool (decide (v_171 > v_78)))]) (by kernel_rfl)
                refine Vk.done (by kernel_rfl) ?_
                exact hj251 (q_69 ++ ([e_175.x] : List Int)) v_171 (decide (v_171 > v_78)) hm A_182 c_183 _ _ (hs.go [1, 8, 10, 11, 93, 94, 95, 96] [1, 2, 3, 4, 5, 6, 7] 8 (by kernel_rfl) (by kernel_rfl) (by kernel_rfl))
              · replace hm := bif_f hm hb
                refine wp_skip ?_
                exact hj251 q_69 v_171 (decide (v_171 > v_78)) hm A_67 c_68 _ _ (hs.go [1, 8, 10, 11, 93, 94, 95, 96] [0, 1, 2, 3, 4, 5, 6] 7 (by kernel_rfl) (by kernel_rfl) (by kernel_rfl))
            · replace hm := bif_f hm hb
              replace hs := hs.known (t := 92) hb (by kernel_rfl)
              refine Vk.pures 5 [(97, .bool false), (96, undef), (95, undef), (94, undef), (93, undef)] hs (by kernel_rfl) fun a hs => ?_
              replace hs := hs.pick [1, 8, 10, 11, 97] (L' := [(1, .slice A_x1 x1.length c_x1), (8, .pointer (some ⟨br25x0_32, 0, none⟩)), (10, .slice A_67 q_69.length c_68), (11, .int .i64 q_70), (97, .bool false)]) (by kernel_rfl)
              refine Vk.done (by kernel_rfl) ?_
              refine hK161 _ _ ?_
              refine Vk.condF hs (by kernel_rfl) (by kernel_rfl) ?_
              refine wp_skip ?_
              refine hK160 _ _ ?_
              refine Vk.seq fun K252 hK252 => ?_
              have hj252 : ∀ (p_279 : Twire_Machine), visorlaw19_WireMakes.j4_2 k (visorlaw19_WireMakes.l1 x1 k) x1 q_69 q_70 p_279 = some r57 → ∀ (A_280 : Option Addr) (c_281 : Nat) (A_283 : Option Addr) (c_284 : Nat) (A_286 : Option Addr) (c_287 : Nat) (A_289 : Option Addr) (c_290 : Nat) (a : Act) (w : World), St 145 a w κ [(1, .slice A_x1 x1.length c_x1), (8, .pointer (some ⟨br25x0_32, 0, none⟩)), (10, .slice A_67 q_69.length c_68), (11, .int .i64 q_70)] (pt br25x0_32 (blk (Twire_Machine.obj p_279 br25x0otape_33 A_283 c_284 A_286 c_287 A_289 c_290) 151) :: pt br25x0otape_33 (blk (Ttape_Tape.obj p_279.tape A_280 c_281) 158) :: rowp A_280 c_281 23 1 (eI .u64) p_279.tape.words :: rowp A_283 c_284 32 6 Tapi_Op.cells p_279.ops :: rowp A_286 c_287 23 1 (eI .u64) p_279.values :: rowp A_289 c_290 144 3 Tapi_Span.cells p_279.blocks :: rowp A_67 c_68 23 1 (eI .u64) q_69 :: S) → K252 a w := by
                intro p_279 hm A_280 c_281 A_283 c_284 A_286 c_287 A_289 c_290 a w hs
                unfold visorlaw19_WireMakes.j4_2 at hm
                refine hK252 _ _ ?_
                refine Vk.seq fun K292 hK292 => ?_
                refine Vk.region ?_
                refine Vk.pures 2 [(123, .int .i64 q_70), (122, .slice A_x1 x1.length c_x1)] hs (by kernel_rfl) fun a hs => ?_
                obtain ⟨h_293, hm⟩ := ite_t hm
                obtain ⟨e_296, h_294, hm⟩ := bind_t hm
                obtain ⟨b_297, o_298, hA_299, h_295⟩ := Sl.elem hx_x1 h_294
                refine Vk.step (Vk.value (some 124) (.pointer (some ⟨b_297, o_298 + q_70.toNat * 8, none⟩)) hs (by kernel_rfl) (op := (.indexAddr 104 (.tmp 122) (.tmp 123))) (by kernel_rfl) (fun o ho => run_idxSlc (k := .i64) ho (cap := c_x1) (len := x1.length) ((congrArg (fun A => Value.slice A (x1.length) (c_x1)) hA_299) ▸ (by kernel_rfl)) (by kernel_rfl) (by kernel_rfl) (idx_ok h_293 h_294) _) fun a hs => ?_)
                refine Vk.pures 1 [(125, .pointer (some ⟨b_297, o_298 + q_70.toNat * 8, none⟩))] hs (by kernel_rfl) fun a hs => ?_
                refine Vk.step (Vk.value (some 126) (.int .i64 e_296.kind) hs (by kernel_rfl) (op := (.load 3 (.tmp 125))) (by kernel_rfl) (fun o ho => run_load1 (b := b_297) (off := o_298 + q_70.toNat * 8) (c := C.int .i64 e_296.kind) ho (by kernel_rfl) (by kernel_rfl) (CellsAt.cell h_295 (i := 0) (by kernel_rfl)) _ hs.own.drop.drop.drop.drop.drop.drop.drop) fun a hs => ?_)
                refine Vk.pures 2 [(128, .bool (e_296.kind == 9)), (127, .bool (e_296.kind == 9))] hs (by kernel_rfl) fun a hs => ?_
                rcases Bool.eq_false_or_eq_true (e_296.kind == 9) with hb | hb
                · replace hm := bif_t hm hb
                  replace hs := hs.known (t := 128) hb (by kernel_rfl)
                  refine Vk.pures 1 [(129, .pointer (some ⟨br25x0_32, 0, none⟩))] hs (by kernel_rfl) fun a hs => ?_
                  obtain ⟨v_302, h_301, hm⟩ := bind_t hm
                  refine Vk.step (Vk.call (some 130) 62 #[.pointer (some ⟨br25x0_32, 0, none⟩)] hs (by kernel_rfl) (by kernel_rfl) (by kernel_rfl) ?_)
                  refine (wire_Machine_Err.ok k p_279 v_302 h_301 κ w (rowp A_67 c_68 23 1 (eI .u64) q_69 :: S) br25x0_32 br25x0otape_33 A_280 c_281 A_283 c_284 A_286 c_287 A_289 c_290 (Own.to hs.own [0, 1, 2, 3, 4, 5, 6] 7 (by kernel_rfl) (by kernel_rfl))).mono ?_
                  rintro _ w ⟨rfl, how⟩
                  refine ⟨_, _, _, rfl, how, fun a hs => ?_⟩
                  refine Vk.pures 2 [(132, .bool (v_302 == 0)), (131, .bool (v_302 == 0))] hs (by kernel_rfl) fun a hs => ?_
                  replace hs := hs.pick [1, 8, 10, 11, 129, 130, 131, 132] (L' := [(1, .slice A_x1 x1.length c_x1), (8, .pointer (some ⟨br25x0_32, 0, none⟩)), (10, .slice A_67 q_69.length c_68), (11, .int .i64 q_70), (129, .pointer (some ⟨br25x0_32, 0, none⟩)), (130, .int .i64 v_302), (131, .bool (v_302 == 0)), (132, .bool (v_302 == 0))]) (by kernel_rfl)
                  refine Vk.done (by kernel_rfl) ?_
                  refine hK292 _ _ ?_
                  refine Vk.condS (b := v_302 == 0) hs (by kernel_rfl) (by kernel_rfl) (fun hb => ?_) (fun hb => ?_)
                  · replace hm := bif_t hm hb
                    refine Vk.region ?_
                    refine Vk.pures 1 [(133, .pointer (some ⟨br25x0_32, 0, none⟩))] hs (by kernel_rfl) fun a hs => ?_
                    obtain ⟨v_305, h_304, hm⟩ := bind_t hm
                    refine Vk.step (Vk.call (some 134) 63 #[.pointer (some ⟨br25x0_32, 0, none⟩)] hs (by kernel_rfl) (by kernel_rfl) (by kernel_rfl) ?_)
                    refine (wire_Machine_End.ok k p_279 v_305 h_304 κ w (rowp A_67 c_68 23 1 (eI .u64) q_69 :: S) br25x0_32 br25x0otape_33 A_280 c_281 A_283 c_284 A_286 c_287 A_289 c_290 (Own.to hs.own [0, 1, 2, 3, 4, 5, 6] 7 (by kernel_rfl) (by kernel_rfl))).mono ?_
                    rintro _ w ⟨Ar303o0otapeowords_306, cr303o0otapeowords_307, Ar303o0oops_308, cr303o0oops_309, Ar303o0ovalues_310, cr303o0ovalues_311, Ar303o0oblocks_312, cr303o0oblocks_313, rfl, how⟩
                    refine ⟨_, _, _, rfl, how, fun a hs => ?_⟩
                    replace hs := hs.pick [1, 8, 10, 11, 129, 130, 131] (L' := [(1, .slice A_x1 x1.length c_x1), (8, .pointer (some ⟨br25x0_32, 0, none⟩)), (10, .slice A_67 q_69.length c_68), (11, .int .i64 q_70), (129, .pointer (some ⟨br25x0_32, 0, none⟩)), (130, .int .i64 v_302), (131, .bool (v_302 == 0))]) (by kernel_rfl)
                    refine Vk.done (by kernel_rfl) ?_
                    exact hj351 v_305 v_302 (v_302 == 0) hm Ar303o0otapeowords_306 cr303o0otapeowords_307 Ar303o0oops_308 cr303o0oops_309 Ar303o0ovalues_310 cr303o0ovalues_311 Ar303o0oblocks_312 cr303o0oblocks_313 _ _ (hs.go [1, 8, 10, 11, 129, 130, 131] [0, 1, 2, 3, 4, 5, 6] 7 (by kernel_rfl) (by kernel_rfl) (by kernel_rfl))
                  · replace hm := bif_f hm hb
                    refine wp_skip ?_
                    exact hj351 p_279 v_302 (v_302 == 0) hm A_280 c_281 A_283 c_284 A_286 c_287 A_289 c_290 _ _ (hs.go [1, 8, 10, 11, 129, 130, 131] [0, 1, 2, 3, 4, 5, 6] 7 (by kernel_rfl) (by kernel_rfl) (by kernel_rfl))
                · replace hm := bif_f hm hb
                  replace hs := hs.known (t := 128) hb (by kernel_rfl)
                  refine Vk.pures 4 [(132, .bool false), (131, undef), (130, undef), (129, undef)] hs (by kernel_rfl) fun a hs => ?_
                  replace hs := hs.pick [1, 8, 10, 11, 132] (L' := [(1, .slice A_x1 x1.length c_x1), (8, .pointer (some ⟨br25x0_32, 0, none⟩)), (10, .slice A_67 q_69.length c_68), (11, .int .i64 q_70), (132, .bool false)]) (by kernel_rfl)
                  refine Vk.done (by kernel_rfl) ?_
                  refine hK292 _ _ ?_
                  refine Vk.condF hs (by kernel_rfl) (by kernel_rfl) ?_
                  refine wp_skip ?_
                  exact hj365 p_279 hm A_280 c_281 A_283 c_284 A_286 c_287 A_289 c_290 _ _ (hs.go [1, 8, 10, 11] [0, 1, 2, 3, 4, 5, 6] 7 (by kernel_rfl) (by kernel_rfl) (by kernel_rfl))
              refine Vk.seq fun K253 hK253 => ?_
              refine Vk.region ?_
              refine Vk.pures 2 [(107, .int .i64 q_70), (106, .slice A_x1 x1.length c_x1)] hs (by kernel_rfl) fun a hs => ?_
              obtain ⟨h_254, hm⟩ := ite_t hm
              obtain ⟨e_257, h_255, hm⟩ := bind_t hm
              obtain ⟨b_258, o_259, hA_260, h_256⟩ := Sl.elem hx_x1 h_255
              refine Vk.step (Vk.value (some 108) (.pointer (some ⟨b_258, o_259 + q_70.toNat * 8, none⟩)) hs (by kernel_rfl) (op := (.indexAddr 104 (.tmp 106) (.tmp 107))) (by kernel_rfl) (fun o ho => run_idxSlc (k := .i64) ho (cap := c_x1) (len := x1.length) ((congrArg (fun A => Value.slice A (x1.length) (c_x1)) hA_260) ▸ (by kernel_rfl)) (by kernel_rfl) (by kernel_rfl) (idx_ok h_254 h_255) _) fun a hs => ?_)
              refine Vk.pures 1 [(109, .pointer (some ⟨b_258, o_259 + q_70.toNat * 8, none⟩))] hs (by kernel_rfl) fun a hs => ?_
              refine Vk.step (Vk.value (some 110) (.int .i64 e_257.kind) hs (by kernel_rfl) (op := (.load 3 (.tmp 109))) (by kernel_rfl) (fun o ho => run_load1 (b := b_258) (off := o_259 + q_70.toNat * 8) (c := C.int .i64 e_257.kind) ho (by kernel_rfl) (by kernel_rfl) (CellsAt.cell h_256 (i := 0) (by kernel_rfl)) _ hs.own.drop.drop.drop.drop.drop.drop.drop) fun a hs => ?_)
              refine Vk.pures 1 [(111, .bool (e_257.kind == 8))] hs (by kernel_rfl) fun a hs => ?_
              replace hs := hs.pick [1, 8, 10, 11, 111] (L' := [(1, .slice A_x1 x1.length c_x1), (8, .pointer (some ⟨br25x0_32, 0, none⟩)), (10, .slice A_67 q_69.length c_68), (11, .int .i64 q_70), (111, .bool (e_257.kind == 8))]) (by kernel_rfl)
              refine Vk.done (by kernel_rfl) ?_
              refine hK253 _ _ ?_
              clear hK253
              refine Vk.condS (b := e_257.kind == 8) hs (by kernel_rfl) (by kernel_rfl) (fun hb => ?_) (fun hb => ?_)
              · replace hm := bif_t hm hb
                refine Vk.region ?_
                refine Vk.pures 3 [(114, .int .i64 q_70), (113, .slice A_x1 x1.length c_x1), (112, .pointer (some ⟨br25x0_32, 0, none⟩))] hs (by kernel_rfl) fun a hs => ?_
                obtain ⟨h_261, hm⟩ := ite_t hm
                obtain ⟨e_264, h_262, hm⟩ := bind_t hm
                obtain ⟨b_265, o_266, hA_267, h_263⟩ := Sl.elem hx_x1 h_262
                refine Vk.step (Vk.value (some 115) (.pointer (some ⟨b_265, o_266 + q_70.toNat * 8, none⟩)) hs (by kernel_rfl) (op := (.indexAddr 104 (.tmp 113) (.tmp 114))) (by kernel_rfl) (fun o ho => run_idxSlc (k := .i64) ho (cap := c_x1) (len := x1.length) ((congrArg (fun A => Value.slice A (x1.length) (c_x1)) hA_267) ▸ (by kernel_rfl)) (by kernel_rfl) (by kernel_rfl) (idx_ok h_261 h_262) _) fun a hs => ?_)
                refine Vk.pures 1 [(116, .pointer (some ⟨b_265, o_266 + q_70.toNat * 8 + 7, none⟩))] hs (by kernel_rfl) fun a hs => ?_
                refine Vk.step (Vk.value (some 117) (.int .u64 e_264.x) hs (by kernel_rfl) (op := (.load 23 (.tmp 116))) (by kernel_rfl) (fun o ho => run_load1 (b := b_265) (off := o_266 + q_70.toNat * 8 + 7) (c := C.int .u64 e_264.x) ho (by kernel_rfl) (by kernel_rfl) (CellsAt.cell h_263 (i := 7) (by kernel_rfl)) _ hs.own.drop.drop.drop.drop.drop.drop.drop) fun a hs => ?_)
                refine Vk.pures 3 [(120, .int .i64 (IntKind.i64.wrap (1 + (IntKind.i64.wrap (Int.tmod e_264.x 3))))), (119, .int .i64 (IntKind.i64.wrap (Int.tmod e_264.x 3))), (118, .int .u64 (Int.tmod e_264.x 3))] hs (by kernel_rfl) fun a hs => ?_
                obtain ⟨v_270, h_269, hm⟩ := bind_t hm
                refine Vk.step (Vk.call (some 121) 61 #[.pointer (some ⟨br25x0_32, 0, none⟩), .int .i64 (IntKind.i64.wrap (1 + (IntKind.i64.wrap (Int.tmod e_264.x 3))))] hs (by kernel_rfl) (by kernel_rfl) (by kernel_rfl) ?_)
                refine (wire_Machine_Begin.ok k p_147 (IntKind.i64.wrap (1 + (IntKind.i64.wrap (Int.tmod e_264.x 3)))) v_270 h_269 κ w (rowp A_67 c_68 23 1 (eI .u64) q_69 :: S) br25x0_32 br25x0otape_33 A_148 c_149 A_151 c_152 A_154 c_155 A_157 c_158 (Own.to hs.own [0, 1, 2, 3, 4, 5, 6] 7 (by kernel_rfl) (by kernel_rfl))).mono ?_
                rintro _ w ⟨Ar268o0otapeowords_271, cr268o0otapeowords_272, Ar268o0oops_273, cr268o0oops_274, Ar268o0ovalues_275, cr268o0ovalues_276, Ar268o0oblocks_277, cr268o0oblocks_278, rfl, how⟩
                refine ⟨_, _, _, rfl, how, fun a hs => ?_⟩
                replace hs := hs.pick [1, 8, 10, 11] (L' := [(1, .slice A_x1 x1.length c_x1), (8, .pointer (some ⟨br25x0_32, 0, none⟩)), (10, .slice A_67 q_69.length c_68), (11, .int .i64 q_70)]) (by kernel_rfl)
                refine Vk.done (by kernel_rfl) ?_
                exact hj252 v_270 hm Ar268o0otapeowords_271 cr268o0otapeowords_272 Ar268o0oops_273 cr268o0oops_274 Ar268o0ovalues_275 cr268o0ovalues_276 Ar268o0oblocks_277 cr268o0oblocks_278 _ _ (hs.go [1, 8, 10, 11] [0, 1, 2, 3, 4, 5, 6] 7 (by kernel_rfl) (by kernel_rfl) (by kernel_rfl))
              · replace hm := bif_f hm hb
                refine wp_skip ?_
                exact hj252 p_147 hm A_148 c_149 A_151 c_152 A_154 c_155 A_157 c_158 _ _ (hs.go [1, 8, 10, 11] [0, 1, 2, 3, 4, 5, 6] 7 (by kernel_rfl) (by kernel_rfl) (by kernel_rfl))
          refine Vk.seq fun K80 hK80 => ?_
          refine Vk.region ?_
          refine Vk.pures 2 [(48, .int .i64 q_70), (47, .slice A_x1 x1.length c_x1)] hs (by kernel_rfl) fun a hs => ?_
          obtain ⟨h_81, hm⟩ := ite_t hm
          obtain ⟨e_84, h_82, hm⟩ := bind_t hm
          obtain ⟨b_85, o_86, hA_87, h_83⟩ := Sl.elem hx_x1 h_82
          refine Vk.step (Vk.value (some 49) (.pointer (some ⟨b_85, o_86 + q_70.toNat * 8, none⟩)) hs (by kernel_rfl) (op := (.indexAddr 104 (.tmp 47) (.tmp 48))) (by kernel_rfl) (fun o ho => run_idxSlc (k := .i64) ho (cap := c_x1) (len := x1.length) ((congrArg (fun A => Value.slice A (x1.length) (c_x1)) hA_87) ▸ (by kernel_rfl)) (by kernel_rfl) (by kernel_rfl) (idx_ok h_81 h_82) _) fun a hs => ?_)
          refine Vk.pures 1 [(50, .pointer (some ⟨b_85, o_86 + q_70.toNat * 8, none⟩))] hs (by kernel_rfl) fun a hs => ?_
          refine Vk.step (Vk.value (some 51) (.int .i64 e_84.kind) hs (by kernel_rfl) (op := (.load 3 (.tmp 50))) (by kernel_rfl) (fun o ho => run_load1 (b := b_85) (off := o_86 + q_70.toNat * 8) (c := C.int .i64 e_84.kind) ho (by kernel_rfl) (by kernel_rfl) (CellsAt.cell h_83 (i := 0) (by kernel_rfl)) _ hs.own.drop.drop.drop.drop.drop.drop.drop) fun a hs => ?_)
          refine Vk.pures 1 [(52, .bool (e_84.kind == 2))] hs (by kernel_rfl) fun a hs => ?_
          replace hs := hs.pick [1, 8, 10, 11, 12, 52] (L' := [(1, .slice A_x1 x1.length c_x1), (8, .pointer (some ⟨br25x0_32, 0, none⟩)), (10, .slice A_67 q_69.length c_68), (11, .int .i64 q_70), (12, .int .i64 v_78), (52, .bool (e_84.kind == 2))]) (by kernel_rfl)
          refine Vk.done (by kernel_rfl) ?_
          refine hK80 _ _ ?_
          clear hK80
          refine Vk.condS (b := e_84.kind == 2) hs (by kernel_rfl) (by kernel_rfl) (fun hb => ?_) (fun hb => ?_)
          · replace hm := bif_t hm hb
            obtain ⟨C_88, hC_88⟩ : ∃ X0 : List HP, X0 = (pt br25x0_32 (blk (Twire_Machine.obj q_58 br25x0otape_33 A_61 c_62 A_63 c_64 A_65 c_66) 151) :: pt br25x0otape_33 (blk (Ttape_Tape.obj q_58.tape A_59 c_60) 158) :: rowp A_59 c_60 23 1 (eI .u64) q_58.tape.words :: rowp A_61 c_62 32 6 Tapi_Op.cells q_58.ops :: rowp A_63 c_64 23 1 (eI .u64) q_58.values :: rowp A_65 c_66 144 3 Tapi_Span.cells q_58.blocks :: rowp A_67 c_68 23 1 (eI .u64) q_69 :: S) := ⟨_, rfl⟩
            refine Vk.drawnT 18 κ C_88 hs (by kernel_rfl) fun w hs => ?_
            have hcz : Own κ w (pt br25x0_32 (blk (Twire_Machine.obj q_58 br25x0otape_33 A_61 c_62 A_63 c_64 A_65 c_66) 151) :: pt br25x0otape_33 (blk (Ttape_Tape.obj q_58.tape A_59 c_60) 158) :: rowp A_59 c_60 23 1 (eI .u64) q_58.tape.words :: rowp A_61 c_62 32 6 Tapi_Op.cells q_58.ops :: rowp A_63 c_64 23 1 (eI .u64) q_58.values :: rowp A_65 c_66 144 3 Tapi_Span.cells q_58.blocks :: rowp A_67 c_68 23 1 (eI .u64) q_69 :: S) := (Own.to hs.own [0, 1, 2, 3, 4, 5, 6] 7 (by kernel_rfl) (by kernel_rfl))
            have hcl : Own κ w C_88 := by rw [hC_88]; exact hcz
            refine Vk.dPuresT [0, 1, 2, 6, 7, 12, 13] [(66, .int .i64 q_70), (65, .slice A_x1 x1.length c_x1), (60, .int .i64 q_70), (59, .slice A_x1 x1.length c_x1), (55, .int .i64 q_70), (54, .slice A_x1 x1.length c_x1), (53, .pointer (some ⟨br25x0_32, 0, none⟩))] hs (by kernel_rfl) (by repeat' (first | exact Vk.Calm.post | refine Vk.Calm.then ?_ | refine Vk.Calm.inBlock ?_)) hcl (by kernel_rfl) (by kernel_rfl) (fuel := 12) rfl fun a hs => ?_
            obtain ⟨h_89, hm⟩ := ite_t hm
            obtain ⟨e_92, h_90, hm⟩ := bind_t hm
            obtain ⟨b_93, o_94, hA_95, h_91⟩ := Sl.elem hx_x1 h_90
            refine Vk.dTakeT (i := 3) (some 56) (.pointer (some ⟨b_93, o_94 + q_70.toNat * 8, none⟩)) hs (by kernel_rfl) (by repeat' (first | exact Vk.Calm.post | refine Vk.Calm.then ?_ | refine Vk.Calm.inBlock ?_)) hcl (by kernel_rfl) (by kernel_rfl) (op := (.indexAddr 104 (.tmp 54) (.tmp 55))) (by kernel_rfl) (by kernel_rfl) (fun w hw o ho => by rw [hC_88] at hw; exact run_idxSlc (k := .i64) ho (cap := c_x1) (len := x1.length) ((congrArg (fun A => Value.slice A (x1.length) (c_x1)) hA_95) ▸ (by kernel_rfl)) (by kernel_rfl) (by kernel_rfl) (idx_ok h_89 h_90) _) fun a hs => ?_
            refine Vk.dPuresT [4] [(57, .pointer (some ⟨b_93, o_94 + q_70.toNat * 8 + 7, none⟩))] hs (by kernel_rfl) (by repeat' (first | exact Vk.Calm.post | refine Vk.Calm.then ?_ | refine Vk.Calm.inBlock ?_)) hcl (by kernel_rfl) (by kernel_rfl) (fuel := 10) rfl fun a hs => ?_
            refine Vk.dTakeT (i := 5) (some 58) (.int .u64 e_92.x) hs (by kernel_rfl) (by repeat' (first | exact Vk.Calm.post | refine Vk.Calm.then ?_ | refine Vk.Calm.inBlock ?_)) hcl (by kernel_rfl) (by kernel_rfl) (op := (.load 23 (.tmp 57))) (by kernel_rfl) (by kernel_rfl) (fun w hw o ho => by rw [hC_88] at hw; exact run_load1 (b := b_93) (off := o_94 + q_70.toNat * 8 + 7) (c := C.int .u64 e_92.x) ho (by kernel_rfl) (by kernel_rfl) (CellsAt.cell h_91 (i := 7) (by kernel_rfl)) _ hw.drop.drop.drop.drop.drop.drop.drop) fun a hs => ?_
            obtain ⟨h_96, hm⟩ := ite_t hm
            obtain ⟨e_99, h_97, hm⟩ := bind_t hm
            obtain ⟨b_100, o_101, hA_102, h_98⟩ := Sl.elem hx_x1 h_97
            refine Vk.dTakeT (i := 8) (some 61) (.pointer (some ⟨b_100, o_101 + q_70.toNat * 8, none⟩)) hs (by kernel_rfl) (by repeat' (first | exact Vk.Calm.post | refine Vk.Calm.then ?_ | refine Vk.Calm.inBlock ?_)) hcl (by kernel_rfl) (by kernel_rfl) (op := (.indexAddr 104 (.tmp 59) (.tmp 60))) (by kernel_rfl) (by kernel_rfl) (fun w hw o ho => by rw [hC_88] at hw; exact run_idxSlc (k := .i64) ho (cap := c_x1) (len := x1.length) ((congrArg (fun A => Value.slice A (x1.length) (c_x1)) hA_102) ▸ (by kernel_rfl)) (by kernel_rfl) (by kernel_rfl) (idx_ok h_96 h_97) _) fun a hs => ?_
            refine Vk.dPuresT [9, 10] [(63, .pointer (some ⟨b_100, o_101 + q_70.toNat * 8 + 3, none⟩)), (62, .pointer (some ⟨b_100, o_101 + q_70.toNat * 8 + 1, none⟩))] hs (by kernel_rfl) (by repeat' (first | exact Vk.Calm.post | refine Vk.Calm.then ?_ | refine Vk.Calm.inBlock ?_)) hcl (by kernel_rfl) (by kernel_rfl) (fuel := 6) rfl fun a hs => ?_
            refine Vk.dTakeT (i := 11) (some 64) (.int .i64 e_99.o.a) hs (by kernel_rfl) (by repeat' (first | exact Vk.Calm.post | refine Vk.Calm.then ?_ | refine Vk.Calm.inBlock ?_)) hcl (by kernel_rfl) (by kernel_rfl) (op := (.load 3 (.tmp 63))) (by kernel_rfl) (by kernel_rfl) (fun w hw o ho => by rw [hC_88] at hw; exact run_load1 (b := b_100) (off := o_101 + q_70.toNat * 8 + 3) (c := C.int .i64 e_99.o.a) ho (by kernel_rfl) (by kernel_rfl) (CellsAt.cell h_98 (i := 3) (by kernel_rfl)) _ hw.drop.drop.drop.drop.drop.drop.drop) fun a hs => ?_
            obtain ⟨h_103, hm⟩ := ite_t hm
            obtain ⟨e_106, h_104, hm⟩ := bind_t hm
            obtain ⟨b_107, o_108, hA_109, h_105⟩ := Sl.elem hx_x1 h_104
            refine Vk.dTakeT (i := 14) (some 67) (.pointer (some ⟨b_107, o_108 + q_70.toNat * 8, none⟩)) hs (by kernel_rfl) (by repeat' (first | exact Vk.Calm.post | refine Vk.Calm.then ?_ | refine Vk.Calm.inBlock ?_)) hcl (by kernel_rfl) (by kernel_rfl) (op := (.indexAddr 104 (.tmp 65) (.tmp 66))) (by kernel_rfl) (by kernel_rfl) (fun w hw o ho => by rw [hC_88] at hw; exact run_idxSlc (k := .i64) ho (cap := c_x1) (len := x1.length) ((congrArg (fun A => Value.slice A (x1.length) (c_x1)) hA_109) ▸ (by kernel_rfl)) (by kernel_rfl) (by kernel_rfl) (idx_ok h_103 h_104) _) fun a hs => ?_
            refine Vk.dPuresT [15, 16] [(69, .pointer (some ⟨b_107, o_108 + q_70.toNat * 8 + 4, none⟩)), (68, .pointer (some ⟨b_107, o_108 + q_70.toNat * 8 + 1, none⟩))] hs (by kernel_rfl) (by repeat' (first | exact Vk.Calm.post | refine Vk.Calm.then ?_ | refine Vk.Calm.inBlock ?_)) hcl (by kernel_rfl) (by kernel_rfl) (fuel := 2) rfl fun a hs => ?_
            refine Vk.dTakeT (i := 17) (some 70) (.int .i64 e_106.o.b) hs (by kernel_rfl) (by repeat' (first | exact Vk.Calm.post | refine Vk.Calm.then ?_ | refine Vk.Calm.inBlock ?_)) hcl (by kernel_rfl) (by kernel_rfl) (op := (.load 3 (.tmp 69))) (by kernel_rfl) (by kernel_rfl) (fun w hw o ho => by rw [hC_88] at hw; exact run_load1 (b := b_107) (off := o_108 + q_70.toNat * 8 + 4) (c := C.int .i64 e_106.o.b) ho (by kernel_rfl) (by kernel_rfl) (CellsAt.cell h_105 (i := 4) (by kernel_rfl)) _ hw.drop.drop.drop.drop.drop.drop.drop) fun a hs => ?_
            obtain ⟨v_112, h_111, hm⟩ := bind_t hm
            refine Vk.dOnly (i := 18) (by kernel_rfl) (Vk.call (some 71) 59 #[.pointer (some ⟨br25x0_32, 0, none⟩), .int .u64 e_92.x, .int .i64 e_99.o.a, .int .i64 e_106.o.b] hs (by kernel_rfl) (by kernel_rfl) (by kernel_rfl) ?_)
            refine (wire_Machine_Key.ok k q_58 e_92.x e_99.o.a e_106.o.b v_112 h_111 κ w (rowp A_67 c_68 23 1 (eI .u64) q_69 :: S) br25x0_32 br25x0otape_33 A_59 c_60 A_61 c_62 A_63 c_64 A_65 c_66 (Own.to hs.own [0, 1, 2, 3, 4, 5, 6] 7 (by kernel_rfl) (by kernel_rfl))).mono ?_
            rintro _ w ⟨Ar110o0otapeowords_113, cr110o0otapeowords_114, Ar110o0oops_115, cr110o0oops_116, Ar110o0ovalues_117, cr110o0ovalues_118, Ar110o0oblocks_119, cr110o0oblocks_120, rfl, how⟩
            refine ⟨_, _, _, rfl, how, fun a hs => ?_⟩
            refine ⟨fun h => absurd h (by decide), ?_⟩
            replace hs := hs.pick [1, 8, 10, 11, 12] (L' := [(1, .slice A_x1 x1.length c_x1), (8, .pointer (some ⟨br25x0_32, 0, none⟩)), (10, .slice A_67 q_69.length c_68), (11, .int .i64 q_70), (12, .int .i64 v_78)]) (by kernel_rfl)
            refine Vk.dDone (by kernel_rfl) ?_
            exact hj79 v_112.2 hm Ar110o0otapeowords_113 cr110o0otapeowords_114 Ar110o0oops_115 cr110o0oops_116 Ar110o0ovalues_117 cr110o0ovalues_118 Ar110o0oblocks_119 cr110o0oblocks_120 _ _ (hs.go [1, 8, 10, 11, 12] [0, 1, 2, 3, 4, 5, 6] 7 (by kernel_rfl) (by kernel_rfl) (by kernel_rfl))
          · replace hm := bif_f hm hb
            refine Vk.seq fun K121 hK121 => ?_
            refine Vk.region ?_
            refine Vk.pures 2 [(73, .int .i64 q_70), (72, .slice A_x1 x1.length c_x1)] hs (by kernel_rfl) fun a hs => ?_
            obtain ⟨h_122, hm⟩ := ite_t hm
            obtain ⟨e_125, h_123, hm⟩ := bind_t hm
            obtain ⟨b_126, o_127, hA_128, h_124⟩ := Sl.elem hx_x1 h_123
            refine Vk.step (Vk.value (some 74) (.pointer (some ⟨b_126, o_127 + q_70.toNat * 8, none⟩)) hs (by kernel_rfl) (op := (.indexAddr 104 (.tmp 72) (.tmp 73))) (by kernel_rfl) (fun o ho => run_idxSlc (k := .i64) ho (cap := c_x1) (len := x1.length) ((congrArg (fun A => Value.slice A (x1.length) (c_x1)) hA_128) ▸ (by kernel_rfl)) (by kernel_rfl) (by kernel_rfl) (idx_ok h_122 h_123) _) fun a hs => ?_)
            refine Vk.pures 2 [(76, .pointer (some ⟨b_126, o_127 + q_70.toNat * 8 + 1, none⟩)), (75, .pointer (some ⟨b_126, o_127 + q_70.toNat * 8 + 1, none⟩))] hs (by kernel_rfl) fun a hs => ?_
            refine Vk.step (Vk.value (some 77) (.int .i64 e_125.o.kind) hs (by kernel_rfl) (op := (.load 3 (.tmp 76))) (by kernel_rfl) (fun o ho => run_load1 (b := b_126) (off := o_127 + q_70.toNat * 8 + 1) (c := C.int .i64 e_125.o.kind) ho (by kernel_rfl) (by kernel_rfl) (CellsAt.cell h_124 (i := 1) (by kernel_rfl)) _ hs.own.drop.drop.drop.drop.drop.drop.drop) fun a hs => ?_)
            refine Vk.pures 1 [(78, .bool (e_125.o.kind == 2))] hs (by kernel_rfl) fun a hs => ?_
            replace hs := hs.pick [1, 8, 10, 11, 12, 78] (L' := [(1, .slice A_x1 x1.length c_x1), (8, .pointer (some ⟨br25x0_32, 0, none⟩)), (10, .slice A_67 q_69.length c_68), (11, .int .i64 q_70), (12, .int .i64 v_78), (78, .bool (e_125.o.kind == 2))]) (by kernel_rfl)
            refine Vk.done (by kernel_rfl) ?_
            refine hK121 _ _ ?_
            clear hK121
            refine Vk.condS (b := e_125.o.kind == 2) hs (by kernel_rfl) (by kernel_rfl) (fun hb => ?_) (fun hb => ?_)
            · replace hm := bif_t hm hb
              refine wp_exit ?_
              exact hj365 q_58 hm A_59 c_60 A_61 c_62 A_63 c_64 A_65 c_66 _ _ (hs.go [1, 8, 10, 11] [0, 1, 2, 3, 4, 5, 6] 7 (by kernel_rfl) (by kernel_rfl) (by kernel_rfl))
            · replace hm := bif_f hm hb
              refine Vk.region ?_
              refine Vk.pures 3 [(81, .int .i64 q_70), (80, .slice A_x1 x1.length c_x1), (79, .pointer (some ⟨br25x0_32, 0, none⟩))] hs (by kernel_rfl) fun a hs => ?_
              obtain ⟨h_129, hm⟩ := ite_t hm
              obtain ⟨e_132, h_130, hm⟩ := bind_t hm
              obtain ⟨b_133, o_134, hA_135, h_131⟩ := Sl.elem hx_x1 h_130
              refine Vk.step (Vk.value (some 82) (.pointer (some ⟨b_133, o_134 + q_70.toNat * 8, none⟩)) hs (by kernel_rfl) (op := (.indexAddr 104 (.tmp 80) (.tmp 81))) (by kernel_rfl) (fun o ho => run_idxSlc (k := .i64) ho (cap := c_x1) (len := x1.length) ((congrArg (fun A => Value.slice A (x1.length) (c_x1)) hA_135) ▸ (by kernel_rfl)) (by kernel_rfl) (by kernel_rfl) (idx_ok h_129 h_130) _) fun a hs => ?_)
              refine Vk.pures 1 [(83, .pointer (some ⟨b_133, o_134 + q_70.toNat * 8 + 1, none⟩))] hs (by kernel_rfl) fun a hs => ?_
              refine Vk.step (Vk.value (some 84) (.agg (vals [C.int .i64 e_132.o.kind, C.int .i64 e_132.o.dom, C.int .i64 e_132.o.a, C.int .i64 e_132.o.b, C.int .i64 e_132.o.d, C.int .u64 e_132.o.c])) hs (by kernel_rfl) (op := (.load 32 (.tmp 83))) (by kernel_rfl) (fun o ho => run_loadN (cs := [C.int .i64 e_132.o.kind, C.int .i64 e_132.o.dom, C.int .i64 e_132.o.a, C.int .i64 e_132.o.b, C.int .i64 e_132.o.d, C.int .u64 e_132.o.c]) ho (by kernel_rfl) (by kernel_rfl) rfl (CellsAt.part (o := 1) h_131 (sz := 6) (by kernel_rfl)) _ hs.own.drop.drop.drop.drop.drop.drop.drop) fun a hs => ?_)
              obtain ⟨v_138, h_137, hm⟩ := bind_t hm
              refine Vk.step (Vk.call (some 85) 60 #[.pointer (some ⟨br25x0_32, 0, none⟩), .agg (vals [C.int .i64 e_132.o.kind, C.int .i64 e_132.o.dom, C.int .i64 e_132.o.a, C.int .i64 e_132.o.b, C.int .i64 e_132.o.d, C.int .u64 e_132.o.c]), .int .u64 0] hs (by kernel_rfl) (by kernel_rfl) (by kernel_rfl) ?_)
              refine (wire_Machine_Do.ok k q_58 e_132.o 0 v_138 h_137 κ w (rowp A_67 c_68 23 1 (eI .u64) q_69 :: S) br25x0_32 br25x0otape_33 A_59 c_60 A_61 c_62 A_63 c_64 A_65 c_66 (Own.to hs.own [0, 1, 2, 3, 4, 5, 6] 7 (by kernel_rfl) (by kernel_rfl))).mono ?_
              rintro _ w ⟨Ar136o0otapeowords_139, cr136o0otapeowords_140, Ar136o0oops_141, cr136o0oops_142, Ar136o0ovalues_143, cr136o0ovalues_144, Ar136o0oblocks_145, cr136o0oblocks_146, rfl, how⟩
              refine ⟨_, _, _, rfl, how, fun a hs => ?_⟩
              replace hs := hs.pick [1, 8, 10, 11, 12] (L' := [(1, .slice A_x1 x1.length c_x1), (8, .pointer (some ⟨br25x0_32, 0, none⟩)), (10, .slice A_67 q_69.length c_68), (11, .int .i64 q_70), (12, .int .i64 v_78)]) (by kernel_rfl)
              refine Vk.done (by kernel_rfl) ?_
              exact hj79 v_138.2 hm Ar136o0otapeowords_139 cr136o0otapeowords_140 Ar136o0oops_141 cr136o0oops_142 Ar136o0ovalues_143 cr136o0ovalues_144 Ar136o0oblocks_145 cr136o0oblocks_146 _ _ (hs.go [1, 8, 10, 11, 12] [0, 1, 2, 3, 4, 5, 6] 7 (by kernel_rfl) (by kernel_rfl) (by kernel_rfl))
        · replace hm := bif_f hm hb
          refine wp_exit ?_
          exact hx57 q_58 q_69 (Option.some.inj hm).symm A_59 c_60 A_61 c_62 A_63 c_64 A_65 c_66 A_67 c_68 _ _ (hs.go [8, 10] [0, 1, 2, 3, 4, 5, 6] 7 (by kernel_rfl) (by kernel_rfl) (by kernel_rfl))
  refine Vk.seq fun K4 hK4 => ?_
  refine Vk.region ?_
  refine Vk.pures 1 [(13, .bool x0)] hs (by kernel_rfl) fun a hs => ?_
  replace hs := hs.pick [1, 5, 13] (L' := [(1, .slice A_x1 x1.length c_x1), (5, .int .i64 2), (13, .bool x0)]) (by kernel_rfl)
  refine Vk.done (by kernel_rfl) ?_
  refine hK4 _ _ ?_
  clear hK4
  refine Vk.condS (b := x0) hs (by kernel_rfl) (by kernel_rfl) (fun hb => ?_) (fun hb => ?_)
  · replace hm := bif_t hm hb
    refine Vk.region ?_
    refine Vk.pures 1 [(5, .int .i64 3)] hs (by kernel_rfl) fun a hs => ?_
    replace hs := hs.pick [1, 5] (L' := [(1, .slice A_x1 x1.length c_x1), (5, .int .i64 3)]) (by kernel_rfl)
    refine Vk.done (by kernel_rfl) ?_
    exact hj3 3 hm _ _ (hs.go [1, 5] [] 0 (by kernel_rfl) (by kernel_rfl) (by kernel_rfl))
  · replace hm := bif_f hm hb
    refine wp_skip ?_
    exact hj3 2 hm _ _ (hs.go [1, 5] [] 0 (by kernel_rfl) (by kernel_rfl) (by kernel_rfl))

end Go.Proofs.Ytjjdlidjlepgeaa
