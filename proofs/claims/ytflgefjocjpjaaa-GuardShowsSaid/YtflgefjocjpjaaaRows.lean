/-
  No cell of these rows narrows 'for every input' (looked for: loops, veiled, ifaces, maps, wideKeys, modest, calm, conditions, laid).
  DERIVED. THE GIVEN ROWS OF THIS SEAT. 10 by the template 'for every input the law returns true; each argument reads behind the call as it read before'; 0 by the template 'total and deterministic' (their statements: YtflgefjocjpjaaaTotals.lean).
  GIVEN WITH THE SEED: the statements are not yours to turn. If you find one false, say at which input.
  Laid BY PROGRAM, IN A SANDBOX (cutbox-rows.mjs): the forced cells as the released guide's own fill.sh prints them over the translation e39da2ecfd27fe60… (all of the seat's roots in one cut). By AI agents, Wed Nov 11 2026. No macro, syntax, notation, axiom, sorry.
-/
import Derived.Test.YtflgefjocjpjaaaChecked
import GoSem.Claim
import GoSem.ClaimJoined
import GoSem.ClaimMapViews
import Derived.JoinedTies
import Derived.KernelRfl
namespace Go.Proofs.Ytflgefjocjpjaaa
/- THE CELL 'sum', in the pinned program and in every row, IS THE sha256 OF THE DUMP (.gsa) THAT YtflgefjocjpjaaaProg.lean LOADS. Nothing in Lean hashes anything: it is a label: what it is worth is what the hold of that sum in a sandbox is worth. -/
noncomputable def Try.pinned : Pinned := { name := "ytflgefjocjpjaaa", sum := "e39da2ecfd27fe605d0a07eed00ee70c7a5b76fe6c82dfee76d04c37752f8691", checked := Try.checked }
namespace Rows
def none {H : Type} : Left H := { results := [], args := [] }

/-- 'visorlaw21.FreshEven': WHATEVER THE INPUT: true; the input reads as it did. -/
def freshEvenSpec : ChangeSpec := { name := "freshEven", fn := fun _ => fun
  | [d1, d2, d3] => { results := [.lit (.bool true)], args := [d1, d2, d3] }
  | _ => none }
def freshEvenRow : OpenClaim := { program := "ytflgefjocjpjaaa", sum := "e39da2ecfd27fe605d0a07eed00ee70c7a5b76fe6c82dfee76d04c37752f8691", func := "visor/visorlaw21.FreshEven", spec := "freshEven", inPlace := ["sync/atomic.LoadInt64", "sync/atomic.AddInt64"], unfollowed := true, recurses := true, plainKeys := false, apart := false }
def FreshEvenSaid : Prop := freshEvenRow.holds Try.pinned (OpenSpec.ofChange freshEvenSpec)

/-- ITS FALSE NEIGHBOUR: 'it returns false'. Refute it at one input. -/
def freshEvenWrong : ChangeSpec := { name := "freshEven", fn := fun _ => fun
  | [d1, d2, d3] => { results := [.lit (.bool false)], args := [d1, d2, d3] }
  | _ => none }
def FreshEvenWrongFalsely : Prop := freshEvenRow.holds Try.pinned (OpenSpec.ofChange freshEvenWrong)

/-- 'visorlaw22.TimesEven': WHATEVER THE INPUT: true; the input reads as it did. -/
def timesEvenSpec : ChangeSpec := { name := "timesEven", fn := fun _ => fun
  | [d1, d2] => { results := [.lit (.bool true)], args := [d1, d2] }
  | _ => none }
def timesEvenRow : OpenClaim := { program := "ytflgefjocjpjaaa", sum := "e39da2ecfd27fe605d0a07eed00ee70c7a5b76fe6c82dfee76d04c37752f8691", func := "visor/visorlaw22.TimesEven", spec := "timesEven", inPlace := ["sync/atomic.LoadInt64", "sync/atomic.AddInt64"], unfollowed := true, recurses := true, plainKeys := false, apart := false }
def TimesEvenSaid : Prop := timesEvenRow.holds Try.pinned (OpenSpec.ofChange timesEvenSpec)

/-- ITS FALSE NEIGHBOUR: 'it returns false'. Refute it at one input. -/
def timesEvenWrong : ChangeSpec := { name := "timesEven", fn := fun _ => fun
  | [d1, d2] => { results := [.lit (.bool false)], args := [d1, d2] }
  | _ => none }
def TimesEvenWrongFalsely : Prop := timesEvenRow.holds Try.pinned (OpenSpec.ofChange timesEvenWrong)

/-- 'visorlaw20.SharePlays': WHATEVER THE INPUT: true; the input reads as it did. -/
def sharePlaysSpec : ChangeSpec := { name := "sharePlays", fn := fun _ => fun
  | [d1, d2, d3] => { results := [.lit (.bool true)], args := [d1, d2, d3] }
  | _ => none }
def sharePlaysRow : OpenClaim := { program := "ytflgefjocjpjaaa", sum := "e39da2ecfd27fe605d0a07eed00ee70c7a5b76fe6c82dfee76d04c37752f8691", func := "visor/visorlaw20.SharePlays", spec := "sharePlays", inPlace := ["sync/atomic.LoadInt64", "sync/atomic.AddInt64"], unfollowed := true, recurses := true, plainKeys := false, apart := false }
def SharePlaysSaid : Prop := sharePlaysRow.holds Try.pinned (OpenSpec.ofChange sharePlaysSpec)

/-- ITS FALSE NEIGHBOUR: 'it returns false'. Refute it at one input. -/
def sharePlaysWrong : ChangeSpec := { name := "sharePlays", fn := fun _ => fun
  | [d1, d2, d3] => { results := [.lit (.bool false)], args := [d1, d2, d3] }
  | _ => none }
def SharePlaysWrongFalsely : Prop := sharePlaysRow.holds Try.pinned (OpenSpec.ofChange sharePlaysWrong)

/-- 'visorlaw34.MapsTells': WHATEVER THE INPUT: true; the input reads as it did. -/
def mapsTellsSpec : ChangeSpec := { name := "mapsTells", fn := fun _ => fun
  | [d1, d2, d3, d4, d5] => { results := [.lit (.bool true)], args := [d1, d2, d3, d4, d5] }
  | _ => none }
def mapsTellsRow : OpenClaim := { program := "ytflgefjocjpjaaa", sum := "e39da2ecfd27fe605d0a07eed00ee70c7a5b76fe6c82dfee76d04c37752f8691", func := "visor/visorlaw34.MapsTells", spec := "mapsTells", inPlace := ["sync/atomic.LoadInt64", "sync/atomic.AddInt64"], unfollowed := true, recurses := true, plainKeys := false, apart := false }
def MapsTellsSaid : Prop := mapsTellsRow.holds Try.pinned (OpenSpec.ofChange mapsTellsSpec)

/-- ITS FALSE NEIGHBOUR: 'it returns false'. Refute it at one input. -/
def mapsTellsWrong : ChangeSpec := { name := "mapsTells", fn := fun _ => fun
  | [d1, d2, d3, d4, d5] => { results := [.lit (.bool false)], args := [d1, d2, d3, d4, d5] }
  | _ => none }
def MapsTellsWrongFalsely : Prop := mapsTellsRow.holds Try.pinned (OpenSpec.ofChange mapsTellsWrong)

/-- 'visorlaw21.FreshTells': WHATEVER THE INPUT: true; the input reads as it did. -/
def freshTellsSpec : ChangeSpec := { name := "freshTells", fn := fun _ => fun
  | [d1, d2, d3, d4] => { results := [.lit (.bool true)], args := [d1, d2, d3, d4] }
  | _ => none }
def freshTellsRow : OpenClaim := { program := "ytflgefjocjpjaaa", sum := "e39da2ecfd27fe605d0a07eed00ee70c7a5b76fe6c82dfee76d04c37752f8691", func := "visor/visorlaw21.FreshTells", spec := "freshTells", inPlace := ["sync/atomic.LoadInt64", "sync/atomic.AddInt64"], unfollowed := true, recurses := true, plainKeys := false, apart := false }
def FreshTellsSaid : Prop := freshTellsRow.holds Try.pinned (OpenSpec.ofChange freshTellsSpec)

/-- ITS FALSE NEIGHBOUR: 'it returns false'. Refute it at one input. -/
def freshTellsWrong : ChangeSpec := { name := "freshTells", fn := fun _ => fun
  | [d1, d2, d3, d4] => { results := [.lit (.bool false)], args := [d1, d2, d3, d4] }
  | _ => none }
def FreshTellsWrongFalsely : Prop := freshTellsRow.holds Try.pinned (OpenSpec.ofChange freshTellsWrong)

/-- 'visorlaw22.TimesTells': WHATEVER THE INPUT: true; the input reads as it did. -/
def timesTellsSpec : ChangeSpec := { name := "timesTells", fn := fun _ => fun
  | [d] => { results := [.lit (.bool true)], args := [d] }
  | _ => none }
def timesTellsRow : OpenClaim := { program := "ytflgefjocjpjaaa", sum := "e39da2ecfd27fe605d0a07eed00ee70c7a5b76fe6c82dfee76d04c37752f8691", func := "visor/visorlaw22.TimesTells", spec := "timesTells", inPlace := ["sync/atomic.LoadInt64", "sync/atomic.AddInt64"], unfollowed := true, recurses := true, plainKeys := false, apart := false }
def TimesTellsSaid : Prop := timesTellsRow.holds Try.pinned (OpenSpec.ofChange timesTellsSpec)

/-- ITS FALSE NEIGHBOUR: 'it returns false'. Refute it at one input. -/
def timesTellsWrong : ChangeSpec := { name := "timesTells", fn := fun _ => fun
  | [d] => { results := [.lit (.bool false)], args := [d] }
  | _ => none }
def TimesTellsWrongFalsely : Prop := timesTellsRow.holds Try.pinned (OpenSpec.ofChange timesTellsWrong)

/-- 'visorlaw24.GuardShows': WHATEVER THE INPUT: true; the input reads as it did. -/
def guardShowsSpec : ChangeSpec := { name := "guardShows", fn := fun _ => fun
  | [d1, d2, d3, d4] => { results := [.lit (.bool true)], args := [d1, d2, d3, d4] }
  | _ => none }
def guardShowsRow : OpenClaim := { program := "ytflgefjocjpjaaa", sum := "e39da2ecfd27fe605d0a07eed00ee70c7a5b76fe6c82dfee76d04c37752f8691", func := "visor/visorlaw24.GuardShows", spec := "guardShows", inPlace := ["sync/atomic.LoadInt64", "sync/atomic.AddInt64"], unfollowed := true, recurses := true, plainKeys := false, apart := false }
def GuardShowsSaid : Prop := guardShowsRow.holds Try.pinned (OpenSpec.ofChange guardShowsSpec)

/-- ITS FALSE NEIGHBOUR: 'it returns false'. Refute it at one input. -/
def guardShowsWrong : ChangeSpec := { name := "guardShows", fn := fun _ => fun
  | [d1, d2, d3, d4] => { results := [.lit (.bool false)], args := [d1, d2, d3, d4] }
  | _ => none }
def GuardShowsWrongFalsely : Prop := guardShowsRow.holds Try.pinned (OpenSpec.ofChange guardShowsWrong)

/-- 'visorlaw24.GuardTells': WHATEVER THE INPUT: true; the input reads as it did. -/
def guardTellsSpec : ChangeSpec := { name := "guardTells", fn := fun _ => fun
  | [d] => { results := [.lit (.bool true)], args := [d] }
  | _ => none }
def guardTellsRow : OpenClaim := { program := "ytflgefjocjpjaaa", sum := "e39da2ecfd27fe605d0a07eed00ee70c7a5b76fe6c82dfee76d04c37752f8691", func := "visor/visorlaw24.GuardTells", spec := "guardTells", inPlace := ["sync/atomic.LoadInt64", "sync/atomic.AddInt64"], unfollowed := true, recurses := true, plainKeys := false, apart := false }
def GuardTellsSaid : Prop := guardTellsRow.holds Try.pinned (OpenSpec.ofChange guardTellsSpec)

/-- ITS FALSE NEIGHBOUR: 'it returns false'. Refute it at one input. -/
def guardTellsWrong : ChangeSpec := { name := "guardTells", fn := fun _ => fun
  | [d] => { results := [.lit (.bool false)], args := [d] }
  | _ => none }
def GuardTellsWrongFalsely : Prop := guardTellsRow.holds Try.pinned (OpenSpec.ofChange guardTellsWrong)

/-- 'visorlaw23.BothFolds': WHATEVER THE INPUT: true; the input reads as it did. -/
def bothFoldsSpec : ChangeSpec := { name := "bothFolds", fn := fun _ => fun
  | [d1, d2, d3, d4, d5] => { results := [.lit (.bool true)], args := [d1, d2, d3, d4, d5] }
  | _ => none }
def bothFoldsRow : OpenClaim := { program := "ytflgefjocjpjaaa", sum := "e39da2ecfd27fe605d0a07eed00ee70c7a5b76fe6c82dfee76d04c37752f8691", func := "visor/visorlaw23.BothFolds", spec := "bothFolds", inPlace := ["sync/atomic.LoadInt64", "sync/atomic.AddInt64"], unfollowed := true, recurses := true, plainKeys := false, apart := false }
def BothFoldsSaid : Prop := bothFoldsRow.holds Try.pinned (OpenSpec.ofChange bothFoldsSpec)

/-- ITS FALSE NEIGHBOUR: 'it returns false'. Refute it at one input. -/
def bothFoldsWrong : ChangeSpec := { name := "bothFolds", fn := fun _ => fun
  | [d1, d2, d3, d4, d5] => { results := [.lit (.bool false)], args := [d1, d2, d3, d4, d5] }
  | _ => none }
def BothFoldsWrongFalsely : Prop := bothFoldsRow.holds Try.pinned (OpenSpec.ofChange bothFoldsWrong)

/-- 'visorlaw23.BothPicks': WHATEVER THE INPUT: true; the input reads as it did. -/
def bothPicksSpec : ChangeSpec := { name := "bothPicks", fn := fun _ => fun
  | [d1, d2, d3, d4] => { results := [.lit (.bool true)], args := [d1, d2, d3, d4] }
  | _ => none }
def bothPicksRow : OpenClaim := { program := "ytflgefjocjpjaaa", sum := "e39da2ecfd27fe605d0a07eed00ee70c7a5b76fe6c82dfee76d04c37752f8691", func := "visor/visorlaw23.BothPicks", spec := "bothPicks", inPlace := ["sync/atomic.LoadInt64", "sync/atomic.AddInt64"], unfollowed := true, recurses := true, plainKeys := false, apart := false }
def BothPicksSaid : Prop := bothPicksRow.holds Try.pinned (OpenSpec.ofChange bothPicksSpec)

/-- ITS FALSE NEIGHBOUR: 'it returns false'. Refute it at one input. -/
def bothPicksWrong : ChangeSpec := { name := "bothPicks", fn := fun _ => fun
  | [d1, d2, d3, d4] => { results := [.lit (.bool false)], args := [d1, d2, d3, d4] }
  | _ => none }
def BothPicksWrongFalsely : Prop := bothPicksRow.holds Try.pinned (OpenSpec.ofChange bothPicksWrong)

/- THE SECOND FORM. 'bulk': how many values and letters a reading holds, each counted each time it is reached (what is shared counts as often as it is met; a slice's spare places count too). A statement '..UptoSaid' is the law's where the arguments, and the package variables that the reading takes, are together of bulk at most 1048576: NARROWER than '..Said'. Prove '..Said' where nothing that the law and all that it calls make is longer than what came in: it says more and counts as full. Else prove '..UptoSaid'. A law counts once. -/
mutual
def uptoBulk {H : Type} : DataW H → Nat
  | .lit (.string bytes) => bytes.length + 1
  | .lit _ => 1
  | .nil => 1
  | .ptr d => uptoBulk d + 1
  | .slice elems spare => uptoBulkAll elems + uptoBulkAll spare + 1
  | .agg parts => uptoBulkAll parts + 1
  | .iface _ d => uptoBulk d + 1
  | .map entries => uptoBulkEntries entries + 1
  | .held _ => 1
def uptoBulkAll {H : Type} : List (DataW H) → Nat
  | [] => 0
  | d :: r => uptoBulk d + uptoBulkAll r
def uptoBulkEntries {H : Type} : List (Lit × DataW H) → Nat
  | [] => 0
  | x :: r => uptoBulkEntry x + uptoBulkEntries r
def uptoBulkEntry {H : Type} : Lit × DataW H → Nat
  | (.string bytes, d) => bytes.length + uptoBulk d + 1
  | (_, d) => uptoBulk d + 1
 end
def uptoSmall : (H : Type) → List (DataW H) → Bool := fun _ ds => decide (uptoBulkAll ds ≤ 1048576)
def OpenSpec.upto (s : _root_.Go.ChangeSpec) : _root_.Go.OpenSpec := { _root_.Go.OpenSpec.ofChange s with cond := some uptoSmall }

/-- 'visorlaw21.FreshEven', WHERE WHAT IT READS IS OF BULK AT MOST 1048576: true; the input reads as it did. -/
def freshEvenUptoRow : OpenClaim := { program := "ytflgefjocjpjaaa", sum := "e39da2ecfd27fe605d0a07eed00ee70c7a5b76fe6c82dfee76d04c37752f8691", func := "visor/visorlaw21.FreshEven", spec := "freshEven", inPlace := ["sync/atomic.LoadInt64", "sync/atomic.AddInt64"], unfollowed := true, recurses := true, plainKeys := false, apart := false, narrowed := true }
def FreshEvenUptoSaid : Prop := freshEvenUptoRow.holds Try.pinned (OpenSpec.upto freshEvenSpec)

/-- 'visorlaw22.TimesEven', WHERE WHAT IT READS IS OF BULK AT MOST 1048576: true; the input reads as it did. -/
def timesEvenUptoRow : OpenClaim := { program := "ytflgefjocjpjaaa", sum := "e39da2ecfd27fe605d0a07eed00ee70c7a5b76fe6c82dfee76d04c37752f8691", func := "visor/visorlaw22.TimesEven", spec := "timesEven", inPlace := ["sync/atomic.LoadInt64", "sync/atomic.AddInt64"], unfollowed := true, recurses := true, plainKeys := false, apart := false, narrowed := true }
def TimesEvenUptoSaid : Prop := timesEvenUptoRow.holds Try.pinned (OpenSpec.upto timesEvenSpec)

/-- 'visorlaw20.SharePlays', WHERE WHAT IT READS IS OF BULK AT MOST 1048576: true; the input reads as it did. -/
def sharePlaysUptoRow : OpenClaim := { program := "ytflgefjocjpjaaa", sum := "e39da2ecfd27fe605d0a07eed00ee70c7a5b76fe6c82dfee76d04c37752f8691", func := "visor/visorlaw20.SharePlays", spec := "sharePlays", inPlace := ["sync/atomic.LoadInt64", "sync/atomic.AddInt64"], unfollowed := true, recurses := true, plainKeys := false, apart := false, narrowed := true }
def SharePlaysUptoSaid : Prop := sharePlaysUptoRow.holds Try.pinned (OpenSpec.upto sharePlaysSpec)

/-- 'visorlaw34.MapsTells', WHERE WHAT IT READS IS OF BULK AT MOST 1048576: true; the input reads as it did. -/
def mapsTellsUptoRow : OpenClaim := { program := "ytflgefjocjpjaaa", sum := "e39da2ecfd27fe605d0a07eed00ee70c7a5b76fe6c82dfee76d04c37752f8691", func := "visor/visorlaw34.MapsTells", spec := "mapsTells", inPlace := ["sync/atomic.LoadInt64", "sync/atomic.AddInt64"], unfollowed := true, recurses := true, plainKeys := false, apart := false, narrowed := true }
def MapsTellsUptoSaid : Prop := mapsTellsUptoRow.holds Try.pinned (OpenSpec.upto mapsTellsSpec)

/-- 'visorlaw21.FreshTells', WHERE WHAT IT READS IS OF BULK AT MOST 1048576: true; the input reads as it did. -/
def freshTellsUptoRow : OpenClaim := { program := "ytflgefjocjpjaaa", sum := "e39da2ecfd27fe605d0a07eed00ee70c7a5b76fe6c82dfee76d04c37752f8691", func := "visor/visorlaw21.FreshTells", spec := "freshTells", inPlace := ["sync/atomic.LoadInt64", "sync/atomic.AddInt64"], unfollowed := true, recurses := true, plainKeys := false, apart := false, narrowed := true }
def FreshTellsUptoSaid : Prop := freshTellsUptoRow.holds Try.pinned (OpenSpec.upto freshTellsSpec)

/-- 'visorlaw22.TimesTells', WHERE WHAT IT READS IS OF BULK AT MOST 1048576: true; the input reads as it did. -/
def timesTellsUptoRow : OpenClaim := { program := "ytflgefjocjpjaaa", sum := "e39da2ecfd27fe605d0a07eed00ee70c7a5b76fe6c82dfee76d04c37752f8691", func := "visor/visorlaw22.TimesTells", spec := "timesTells", inPlace := ["sync/atomic.LoadInt64", "sync/atomic.AddInt64"], unfollowed := true, recurses := true, plainKeys := false, apart := false, narrowed := true }
def TimesTellsUptoSaid : Prop := timesTellsUptoRow.holds Try.pinned (OpenSpec.upto timesTellsSpec)

/-- 'visorlaw24.GuardShows', WHERE WHAT IT READS IS OF BULK AT MOST 1048576: true; the input reads as it did. -/
def guardShowsUptoRow : OpenClaim := { program := "ytflgefjocjpjaaa", sum := "e39da2ecfd27fe605d0a07eed00ee70c7a5b76fe6c82dfee76d04c37752f8691", func := "visor/visorlaw24.GuardShows", spec := "guardShows", inPlace := ["sync/atomic.LoadInt64", "sync/atomic.AddInt64"], unfollowed := true, recurses := true, plainKeys := false, apart := false, narrowed := true }
def GuardShowsUptoSaid : Prop := guardShowsUptoRow.holds Try.pinned (OpenSpec.upto guardShowsSpec)

/-- 'visorlaw24.GuardTells', WHERE WHAT IT READS IS OF BULK AT MOST 1048576: true; the input reads as it did. -/
def guardTellsUptoRow : OpenClaim := { program := "ytflgefjocjpjaaa", sum := "e39da2ecfd27fe605d0a07eed00ee70c7a5b76fe6c82dfee76d04c37752f8691", func := "visor/visorlaw24.GuardTells", spec := "guardTells", inPlace := ["sync/atomic.LoadInt64", "sync/atomic.AddInt64"], unfollowed := true, recurses := true, plainKeys := false, apart := false, narrowed := true }
def GuardTellsUptoSaid : Prop := guardTellsUptoRow.holds Try.pinned (OpenSpec.upto guardTellsSpec)

/-- 'visorlaw23.BothFolds', WHERE WHAT IT READS IS OF BULK AT MOST 1048576: true; the input reads as it did. -/
def bothFoldsUptoRow : OpenClaim := { program := "ytflgefjocjpjaaa", sum := "e39da2ecfd27fe605d0a07eed00ee70c7a5b76fe6c82dfee76d04c37752f8691", func := "visor/visorlaw23.BothFolds", spec := "bothFolds", inPlace := ["sync/atomic.LoadInt64", "sync/atomic.AddInt64"], unfollowed := true, recurses := true, plainKeys := false, apart := false, narrowed := true }
def BothFoldsUptoSaid : Prop := bothFoldsUptoRow.holds Try.pinned (OpenSpec.upto bothFoldsSpec)

/-- 'visorlaw23.BothPicks', WHERE WHAT IT READS IS OF BULK AT MOST 1048576: true; the input reads as it did. -/
def bothPicksUptoRow : OpenClaim := { program := "ytflgefjocjpjaaa", sum := "e39da2ecfd27fe605d0a07eed00ee70c7a5b76fe6c82dfee76d04c37752f8691", func := "visor/visorlaw23.BothPicks", spec := "bothPicks", inPlace := ["sync/atomic.LoadInt64", "sync/atomic.AddInt64"], unfollowed := true, recurses := true, plainKeys := false, apart := false, narrowed := true }
def BothPicksUptoSaid : Prop := bothPicksUptoRow.holds Try.pinned (OpenSpec.upto bothPicksSpec)

end Rows
end Go.Proofs.Ytflgefjocjpjaaa
