/-
  No cell of these rows narrows 'for every input' (looked for: loops, veiled, ifaces, maps, wideKeys, modest, calm, conditions, laid).
  DERIVED. THE GIVEN ROWS OF THIS SEAT. 12 by the template 'for every input the law returns true; each argument reads behind the call as it read before'; 0 by the template 'total and deterministic' (their statements: YtjjdlidjlepgeaaTotals.lean).
  GIVEN WITH THE SEED: the statements are not yours to turn. If you find one false, say at which input.
  Laid BY PROGRAM, IN A SANDBOX (cutbox-rows.mjs): the forced cells as the released guide's own fill.sh prints them over the translation cdde0d3aea603653… (all of the seat's roots in one cut). By AI agents, Wed Nov 11 2026. No macro, syntax, notation, axiom, sorry.
-/
import Derived.Test.YtjjdlidjlepgeaaChecked
import GoSem.Claim
import GoSem.ClaimJoined
import GoSem.ClaimMapViews
import Derived.JoinedTies
import Derived.KernelRfl
namespace Go.Proofs.Ytjjdlidjlepgeaa
/- THE CELL 'sum', in the pinned program and in every row, IS THE sha256 OF THE DUMP (.gsa) THAT YtjjdlidjlepgeaaProg.lean LOADS. Nothing in Lean hashes anything: it is a label: what it is worth is what the hold of that sum in a sandbox is worth. -/
noncomputable def Try.pinned : Pinned := { name := "ytjjdlidjlepgeaa", sum := "cdde0d3aea6036531665f74dbc1957000eefaf4d87cac646d12810b875845a5a", checked := Try.checked }
namespace Rows
def none {H : Type} : Left H := { results := [], args := [] }

/-- 'visorlaw33.SliceTells': WHATEVER THE INPUT: true; the input reads as it did. -/
def sliceTellsSpec : ChangeSpec := { name := "sliceTells", fn := fun _ => fun
  | [d1, d2, d3] => { results := [.lit (.bool true)], args := [d1, d2, d3] }
  | _ => none }
def sliceTellsRow : OpenClaim := { program := "ytjjdlidjlepgeaa", sum := "cdde0d3aea6036531665f74dbc1957000eefaf4d87cac646d12810b875845a5a", func := "visor/visorlaw33.SliceTells", spec := "sliceTells", apart := false }
def SliceTellsSaid : Prop := sliceTellsRow.holds Try.pinned (OpenSpec.ofChange sliceTellsSpec)

/-- ITS FALSE NEIGHBOUR: 'it returns false'. Refute it at one input. -/
def sliceTellsWrong : ChangeSpec := { name := "sliceTells", fn := fun _ => fun
  | [d1, d2, d3] => { results := [.lit (.bool false)], args := [d1, d2, d3] }
  | _ => none }
def SliceTellsWrongFalsely : Prop := sliceTellsRow.holds Try.pinned (OpenSpec.ofChange sliceTellsWrong)

/-- 'visorlaw33.SliceBack': WHATEVER THE INPUT: true; the input reads as it did. -/
def sliceBackSpec : ChangeSpec := { name := "sliceBack", fn := fun _ => fun
  | [d] => { results := [.lit (.bool true)], args := [d] }
  | _ => none }
def sliceBackRow : OpenClaim := { program := "ytjjdlidjlepgeaa", sum := "cdde0d3aea6036531665f74dbc1957000eefaf4d87cac646d12810b875845a5a", func := "visor/visorlaw33.SliceBack", spec := "sliceBack", apart := false }
def SliceBackSaid : Prop := sliceBackRow.holds Try.pinned (OpenSpec.ofChange sliceBackSpec)

/-- ITS FALSE NEIGHBOUR: 'it returns false'. Refute it at one input. -/
def sliceBackWrong : ChangeSpec := { name := "sliceBack", fn := fun _ => fun
  | [d] => { results := [.lit (.bool false)], args := [d] }
  | _ => none }
def SliceBackWrongFalsely : Prop := sliceBackRow.holds Try.pinned (OpenSpec.ofChange sliceBackWrong)

/-- 'visorlaw17.OpMakes': WHATEVER THE INPUT: true; the input reads as it did. -/
def opMakesSpec : ChangeSpec := { name := "opMakes", fn := fun _ => fun
  | [d1, d2, d3, d4, d5] => { results := [.lit (.bool true)], args := [d1, d2, d3, d4, d5] }
  | _ => none }
def opMakesRow : OpenClaim := { program := "ytjjdlidjlepgeaa", sum := "cdde0d3aea6036531665f74dbc1957000eefaf4d87cac646d12810b875845a5a", func := "visor/visorlaw17.OpMakes", spec := "opMakes", apart := false }
def OpMakesSaid : Prop := opMakesRow.holds Try.pinned (OpenSpec.ofChange opMakesSpec)

/-- ITS FALSE NEIGHBOUR: 'it returns false'. Refute it at one input. -/
def opMakesWrong : ChangeSpec := { name := "opMakes", fn := fun _ => fun
  | [d1, d2, d3, d4, d5] => { results := [.lit (.bool false)], args := [d1, d2, d3, d4, d5] }
  | _ => none }
def OpMakesWrongFalsely : Prop := opMakesRow.holds Try.pinned (OpenSpec.ofChange opMakesWrong)

/-- 'visorlaw17.OpSums': WHATEVER THE INPUT: true; the input reads as it did. -/
def opSumsSpec : ChangeSpec := { name := "opSums", fn := fun _ => fun
  | [d1, d2, d3] => { results := [.lit (.bool true)], args := [d1, d2, d3] }
  | _ => none }
def opSumsRow : OpenClaim := { program := "ytjjdlidjlepgeaa", sum := "cdde0d3aea6036531665f74dbc1957000eefaf4d87cac646d12810b875845a5a", func := "visor/visorlaw17.OpSums", spec := "opSums", apart := false }
def OpSumsSaid : Prop := opSumsRow.holds Try.pinned (OpenSpec.ofChange opSumsSpec)

/-- ITS FALSE NEIGHBOUR: 'it returns false'. Refute it at one input. -/
def opSumsWrong : ChangeSpec := { name := "opSums", fn := fun _ => fun
  | [d1, d2, d3] => { results := [.lit (.bool false)], args := [d1, d2, d3] }
  | _ => none }
def OpSumsWrongFalsely : Prop := opSumsRow.holds Try.pinned (OpenSpec.ofChange opSumsWrong)

/-- 'visorlaw48.SlotsPlay': WHATEVER THE INPUT: true; the input reads as it did. -/
def slotsPlaySpec : ChangeSpec := { name := "slotsPlay", fn := fun _ => fun
  | [d] => { results := [.lit (.bool true)], args := [d] }
  | _ => none }
def slotsPlayRow : OpenClaim := { program := "ytjjdlidjlepgeaa", sum := "cdde0d3aea6036531665f74dbc1957000eefaf4d87cac646d12810b875845a5a", func := "visor/visorlaw48.SlotsPlay", spec := "slotsPlay", apart := false }
def SlotsPlaySaid : Prop := slotsPlayRow.holds Try.pinned (OpenSpec.ofChange slotsPlaySpec)

/-- ITS FALSE NEIGHBOUR: 'it returns false'. Refute it at one input. -/
def slotsPlayWrong : ChangeSpec := { name := "slotsPlay", fn := fun _ => fun
  | [d] => { results := [.lit (.bool false)], args := [d] }
  | _ => none }
def SlotsPlayWrongFalsely : Prop := slotsPlayRow.holds Try.pinned (OpenSpec.ofChange slotsPlayWrong)

/-- 'visorlaw48.SlotsKeep': WHATEVER THE INPUT: true; the input reads as it did. -/
def slotsKeepSpec : ChangeSpec := { name := "slotsKeep", fn := fun _ => fun
  | [d1, d2, d3, d4, d5, d6] => { results := [.lit (.bool true)], args := [d1, d2, d3, d4, d5, d6] }
  | _ => none }
def slotsKeepRow : OpenClaim := { program := "ytjjdlidjlepgeaa", sum := "cdde0d3aea6036531665f74dbc1957000eefaf4d87cac646d12810b875845a5a", func := "visor/visorlaw48.SlotsKeep", spec := "slotsKeep", apart := false }
def SlotsKeepSaid : Prop := slotsKeepRow.holds Try.pinned (OpenSpec.ofChange slotsKeepSpec)

/-- ITS FALSE NEIGHBOUR: 'it returns false'. Refute it at one input. -/
def slotsKeepWrong : ChangeSpec := { name := "slotsKeep", fn := fun _ => fun
  | [d1, d2, d3, d4, d5, d6] => { results := [.lit (.bool false)], args := [d1, d2, d3, d4, d5, d6] }
  | _ => none }
def SlotsKeepWrongFalsely : Prop := slotsKeepRow.holds Try.pinned (OpenSpec.ofChange slotsKeepWrong)

/-- 'visorlaw29.ReplayTells': WHATEVER THE INPUT: true; the input reads as it did. -/
def replayTellsSpec : ChangeSpec := { name := "replayTells", fn := fun _ => fun
  | [d1, d2, d3] => { results := [.lit (.bool true)], args := [d1, d2, d3] }
  | _ => none }
def replayTellsRow : OpenClaim := { program := "ytjjdlidjlepgeaa", sum := "cdde0d3aea6036531665f74dbc1957000eefaf4d87cac646d12810b875845a5a", func := "visor/visorlaw29.ReplayTells", spec := "replayTells", unfollowed := true, recurses := true, apart := false }
def ReplayTellsSaid : Prop := replayTellsRow.holds Try.pinned (OpenSpec.ofChange replayTellsSpec)

/-- ITS FALSE NEIGHBOUR: 'it returns false'. Refute it at one input. -/
def replayTellsWrong : ChangeSpec := { name := "replayTells", fn := fun _ => fun
  | [d1, d2, d3] => { results := [.lit (.bool false)], args := [d1, d2, d3] }
  | _ => none }
def ReplayTellsWrongFalsely : Prop := replayTellsRow.holds Try.pinned (OpenSpec.ofChange replayTellsWrong)

/-- 'visorlaw29.ReplayJoins': WHATEVER THE INPUT: true; the input reads as it did. -/
def replayJoinsSpec : ChangeSpec := { name := "replayJoins", fn := fun _ => fun
  | [d1, d2, d3] => { results := [.lit (.bool true)], args := [d1, d2, d3] }
  | _ => none }
def replayJoinsRow : OpenClaim := { program := "ytjjdlidjlepgeaa", sum := "cdde0d3aea6036531665f74dbc1957000eefaf4d87cac646d12810b875845a5a", func := "visor/visorlaw29.ReplayJoins", spec := "replayJoins", unfollowed := true, recurses := true, apart := false }
def ReplayJoinsSaid : Prop := replayJoinsRow.holds Try.pinned (OpenSpec.ofChange replayJoinsSpec)

/-- ITS FALSE NEIGHBOUR: 'it returns false'. Refute it at one input. -/
def replayJoinsWrong : ChangeSpec := { name := "replayJoins", fn := fun _ => fun
  | [d1, d2, d3] => { results := [.lit (.bool false)], args := [d1, d2, d3] }
  | _ => none }
def ReplayJoinsWrongFalsely : Prop := replayJoinsRow.holds Try.pinned (OpenSpec.ofChange replayJoinsWrong)

/-- 'visorlaw20.ShareValues': WHATEVER THE INPUT: true; the input reads as it did. -/
def shareValuesSpec : ChangeSpec := { name := "shareValues", fn := fun _ => fun
  | [d1, d2] => { results := [.lit (.bool true)], args := [d1, d2] }
  | _ => none }
def shareValuesRow : OpenClaim := { program := "ytjjdlidjlepgeaa", sum := "cdde0d3aea6036531665f74dbc1957000eefaf4d87cac646d12810b875845a5a", func := "visor/visorlaw20.ShareValues", spec := "shareValues", inPlace := ["sync/atomic.LoadInt64", "sync/atomic.AddInt64"], unfollowed := true, recurses := true, apart := false }
def ShareValuesSaid : Prop := shareValuesRow.holds Try.pinned (OpenSpec.ofChange shareValuesSpec)

/-- ITS FALSE NEIGHBOUR: 'it returns false'. Refute it at one input. -/
def shareValuesWrong : ChangeSpec := { name := "shareValues", fn := fun _ => fun
  | [d1, d2] => { results := [.lit (.bool false)], args := [d1, d2] }
  | _ => none }
def ShareValuesWrongFalsely : Prop := shareValuesRow.holds Try.pinned (OpenSpec.ofChange shareValuesWrong)

/-- 'visorlaw20.ShareHides': WHATEVER THE INPUT: true; the input reads as it did. -/
def shareHidesSpec : ChangeSpec := { name := "shareHides", fn := fun _ => fun
  | [d1, d2, d3, d4, d5] => { results := [.lit (.bool true)], args := [d1, d2, d3, d4, d5] }
  | _ => none }
def shareHidesRow : OpenClaim := { program := "ytjjdlidjlepgeaa", sum := "cdde0d3aea6036531665f74dbc1957000eefaf4d87cac646d12810b875845a5a", func := "visor/visorlaw20.ShareHides", spec := "shareHides", inPlace := ["sync/atomic.LoadInt64", "sync/atomic.AddInt64"], unfollowed := true, recurses := true, apart := false }
def ShareHidesSaid : Prop := shareHidesRow.holds Try.pinned (OpenSpec.ofChange shareHidesSpec)

/-- ITS FALSE NEIGHBOUR: 'it returns false'. Refute it at one input. -/
def shareHidesWrong : ChangeSpec := { name := "shareHides", fn := fun _ => fun
  | [d1, d2, d3, d4, d5] => { results := [.lit (.bool false)], args := [d1, d2, d3, d4, d5] }
  | _ => none }
def ShareHidesWrongFalsely : Prop := shareHidesRow.holds Try.pinned (OpenSpec.ofChange shareHidesWrong)

/-- 'visorlaw19.WireMakes': WHATEVER THE INPUT: true; the input reads as it did. -/
def wireMakesSpec : ChangeSpec := { name := "wireMakes", fn := fun _ => fun
  | [d1, d2] => { results := [.lit (.bool true)], args := [d1, d2] }
  | _ => none }
def wireMakesRow : OpenClaim := { program := "ytjjdlidjlepgeaa", sum := "cdde0d3aea6036531665f74dbc1957000eefaf4d87cac646d12810b875845a5a", func := "visor/visorlaw19.WireMakes", spec := "wireMakes", inPlace := ["sync/atomic.LoadInt64", "sync/atomic.AddInt64"], apart := false }
def WireMakesSaid : Prop := wireMakesRow.holds Try.pinned (OpenSpec.ofChange wireMakesSpec)

/-- ITS FALSE NEIGHBOUR: 'it returns false'. Refute it at one input. -/
def wireMakesWrong : ChangeSpec := { name := "wireMakes", fn := fun _ => fun
  | [d1, d2] => { results := [.lit (.bool false)], args := [d1, d2] }
  | _ => none }
def WireMakesWrongFalsely : Prop := wireMakesRow.holds Try.pinned (OpenSpec.ofChange wireMakesWrong)

/-- 'visorlaw19.WirePlays': WHATEVER THE INPUT: true; the input reads as it did. -/
def wirePlaysSpec : ChangeSpec := { name := "wirePlays", fn := fun _ => fun
  | [d1, d2, d3, d4] => { results := [.lit (.bool true)], args := [d1, d2, d3, d4] }
  | _ => none }
def wirePlaysRow : OpenClaim := { program := "ytjjdlidjlepgeaa", sum := "cdde0d3aea6036531665f74dbc1957000eefaf4d87cac646d12810b875845a5a", func := "visor/visorlaw19.WirePlays", spec := "wirePlays", inPlace := ["sync/atomic.LoadInt64", "sync/atomic.AddInt64"], apart := false }
def WirePlaysSaid : Prop := wirePlaysRow.holds Try.pinned (OpenSpec.ofChange wirePlaysSpec)

/-- ITS FALSE NEIGHBOUR: 'it returns false'. Refute it at one input. -/
def wirePlaysWrong : ChangeSpec := { name := "wirePlays", fn := fun _ => fun
  | [d1, d2, d3, d4] => { results := [.lit (.bool false)], args := [d1, d2, d3, d4] }
  | _ => none }
def WirePlaysWrongFalsely : Prop := wirePlaysRow.holds Try.pinned (OpenSpec.ofChange wirePlaysWrong)

/- THE SECOND FORM. 'bulk': how many values and letters a reading holds, each counted each time it is reached (what is shared counts as often as it is met; a slice's spare places count too). A statement '..UptoSaid' is the law's where the arguments, and the package variables that the reading takes, are together of bulk at most 1048576: NARROWER than '..Said'. Prove '..Said' where nothing that the law and all that it calls make is longer than what came in: it says more and counts as full. Else prove '..UptoSaid'. A law counts once. -/
mutual
def uptoBulk {H : Type} : DataW H → Nat
  | .lit (.string bytes) => bytes.length + 1
  | .lit _ => 1
  | .nil => 1
  | .ptr d => uptoBulk d + 1
  | .slice elems spare => uptoBulkAll elems + uptoBulkAll spare + 1
  | .agg parts => uptoBulkAll parts + 1
  | .iface _ d => uptoBulk d + 1
  | .map entries => uptoBulkEntries entries + 1
  | .held _ => 1
def uptoBulkAll {H : Type} : List (DataW H) → Nat
  | [] => 0
  | d :: r => uptoBulk d + uptoBulkAll r
def uptoBulkEntries {H : Type} : List (Lit × DataW H) → Nat
  | [] => 0
  | x :: r => uptoBulkEntry x + uptoBulkEntries r
def uptoBulkEntry {H : Type} : Lit × DataW H → Nat
  | (.string bytes, d) => bytes.length + uptoBulk d + 1
  | (_, d) => uptoBulk d + 1
 end
def uptoSmall : (H : Type) → List (DataW H) → Bool := fun _ ds => decide (uptoBulkAll ds ≤ 1048576)
def OpenSpec.upto (s : _root_.Go.ChangeSpec) : _root_.Go.OpenSpec := { _root_.Go.OpenSpec.ofChange s with cond := some uptoSmall }

/-- 'visorlaw33.SliceTells', WHERE WHAT IT READS IS OF BULK AT MOST 1048576: true; the input reads as it did. -/
def sliceTellsUptoRow : OpenClaim := { program := "ytjjdlidjlepgeaa", sum := "cdde0d3aea6036531665f74dbc1957000eefaf4d87cac646d12810b875845a5a", func := "visor/visorlaw33.SliceTells", spec := "sliceTells", apart := false, narrowed := true }
def SliceTellsUptoSaid : Prop := sliceTellsUptoRow.holds Try.pinned (OpenSpec.upto sliceTellsSpec)

/-- 'visorlaw33.SliceBack', WHERE WHAT IT READS IS OF BULK AT MOST 1048576: true; the input reads as it did. -/
def sliceBackUptoRow : OpenClaim := { program := "ytjjdlidjlepgeaa", sum := "cdde0d3aea6036531665f74dbc1957000eefaf4d87cac646d12810b875845a5a", func := "visor/visorlaw33.SliceBack", spec := "sliceBack", apart := false, narrowed := true }
def SliceBackUptoSaid : Prop := sliceBackUptoRow.holds Try.pinned (OpenSpec.upto sliceBackSpec)

/-- 'visorlaw17.OpMakes', WHERE WHAT IT READS IS OF BULK AT MOST 1048576: true; the input reads as it did. -/
def opMakesUptoRow : OpenClaim := { program := "ytjjdlidjlepgeaa", sum := "cdde0d3aea6036531665f74dbc1957000eefaf4d87cac646d12810b875845a5a", func := "visor/visorlaw17.OpMakes", spec := "opMakes", apart := false, narrowed := true }
def OpMakesUptoSaid : Prop := opMakesUptoRow.holds Try.pinned (OpenSpec.upto opMakesSpec)

/-- 'visorlaw17.OpSums', WHERE WHAT IT READS IS OF BULK AT MOST 1048576: true; the input reads as it did. -/
def opSumsUptoRow : OpenClaim := { program := "ytjjdlidjlepgeaa", sum := "cdde0d3aea6036531665f74dbc1957000eefaf4d87cac646d12810b875845a5a", func := "visor/visorlaw17.OpSums", spec := "opSums", apart := false, narrowed := true }
def OpSumsUptoSaid : Prop := opSumsUptoRow.holds Try.pinned (OpenSpec.upto opSumsSpec)

/-- 'visorlaw48.SlotsPlay', WHERE WHAT IT READS IS OF BULK AT MOST 1048576: true; the input reads as it did. -/
def slotsPlayUptoRow : OpenClaim := { program := "ytjjdlidjlepgeaa", sum := "cdde0d3aea6036531665f74dbc1957000eefaf4d87cac646d12810b875845a5a", func := "visor/visorlaw48.SlotsPlay", spec := "slotsPlay", apart := false, narrowed := true }
def SlotsPlayUptoSaid : Prop := slotsPlayUptoRow.holds Try.pinned (OpenSpec.upto slotsPlaySpec)

/-- 'visorlaw48.SlotsKeep', WHERE WHAT IT READS IS OF BULK AT MOST 1048576: true; the input reads as it did. -/
def slotsKeepUptoRow : OpenClaim := { program := "ytjjdlidjlepgeaa", sum := "cdde0d3aea6036531665f74dbc1957000eefaf4d87cac646d12810b875845a5a", func := "visor/visorlaw48.SlotsKeep", spec := "slotsKeep", apart := false, narrowed := true }
def SlotsKeepUptoSaid : Prop := slotsKeepUptoRow.holds Try.pinned (OpenSpec.upto slotsKeepSpec)

/-- 'visorlaw29.ReplayTells', WHERE WHAT IT READS IS OF BULK AT MOST 1048576: true; the input reads as it did. -/
def replayTellsUptoRow : OpenClaim := { program := "ytjjdlidjlepgeaa", sum := "cdde0d3aea6036531665f74dbc1957000eefaf4d87cac646d12810b875845a5a", func := "visor/visorlaw29.ReplayTells", spec := "replayTells", unfollowed := true, recurses := true, apart := false, narrowed := true }
def ReplayTellsUptoSaid : Prop := replayTellsUptoRow.holds Try.pinned (OpenSpec.upto replayTellsSpec)

/-- 'visorlaw29.ReplayJoins', WHERE WHAT IT READS IS OF BULK AT MOST 1048576: true; the input reads as it did. -/
def replayJoinsUptoRow : OpenClaim := { program := "ytjjdlidjlepgeaa", sum := "cdde0d3aea6036531665f74dbc1957000eefaf4d87cac646d12810b875845a5a", func := "visor/visorlaw29.ReplayJoins", spec := "replayJoins", unfollowed := true, recurses := true, apart := false, narrowed := true }
def ReplayJoinsUptoSaid : Prop := replayJoinsUptoRow.holds Try.pinned (OpenSpec.upto replayJoinsSpec)

/-- 'visorlaw20.ShareValues', WHERE WHAT IT READS IS OF BULK AT MOST 1048576: true; the input reads as it did. -/
def shareValuesUptoRow : OpenClaim := { program := "ytjjdlidjlepgeaa", sum := "cdde0d3aea6036531665f74dbc1957000eefaf4d87cac646d12810b875845a5a", func := "visor/visorlaw20.ShareValues", spec := "shareValues", inPlace := ["sync/atomic.LoadInt64", "sync/atomic.AddInt64"], unfollowed := true, recurses := true, apart := false, narrowed := true }
def ShareValuesUptoSaid : Prop := shareValuesUptoRow.holds Try.pinned (OpenSpec.upto shareValuesSpec)

/-- 'visorlaw20.ShareHides', WHERE WHAT IT READS IS OF BULK AT MOST 1048576: true; the input reads as it did. -/
def shareHidesUptoRow : OpenClaim := { program := "ytjjdlidjlepgeaa", sum := "cdde0d3aea6036531665f74dbc1957000eefaf4d87cac646d12810b875845a5a", func := "visor/visorlaw20.ShareHides", spec := "shareHides", inPlace := ["sync/atomic.LoadInt64", "sync/atomic.AddInt64"], unfollowed := true, recurses := true, apart := false, narrowed := true }
def ShareHidesUptoSaid : Prop := shareHidesUptoRow.holds Try.pinned (OpenSpec.upto shareHidesSpec)

/-- 'visorlaw19.WireMakes', WHERE WHAT IT READS IS OF BULK AT MOST 1048576: true; the input reads as it did. -/
def wireMakesUptoRow : OpenClaim := { program := "ytjjdlidjlepgeaa", sum := "cdde0d3aea6036531665f74dbc1957000eefaf4d87cac646d12810b875845a5a", func := "visor/visorlaw19.WireMakes", spec := "wireMakes", inPlace := ["sync/atomic.LoadInt64", "sync/atomic.AddInt64"], apart := false, narrowed := true }
def WireMakesUptoSaid : Prop := wireMakesUptoRow.holds Try.pinned (OpenSpec.upto wireMakesSpec)

/-- 'visorlaw19.WirePlays', WHERE WHAT IT READS IS OF BULK AT MOST 1048576: true; the input reads as it did. -/
def wirePlaysUptoRow : OpenClaim := { program := "ytjjdlidjlepgeaa", sum := "cdde0d3aea6036531665f74dbc1957000eefaf4d87cac646d12810b875845a5a", func := "visor/visorlaw19.WirePlays", spec := "wirePlays", inPlace := ["sync/atomic.LoadInt64", "sync/atomic.AddInt64"], apart := false, narrowed := true }
def WirePlaysUptoSaid : Prop := wirePlaysUptoRow.holds Try.pinned (OpenSpec.upto wirePlaysSpec)

end Rows
end Go.Proofs.Ytjjdlidjlepgeaa
