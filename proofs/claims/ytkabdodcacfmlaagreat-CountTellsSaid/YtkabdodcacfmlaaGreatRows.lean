/-
  No cell of these rows narrows 'for every input' (looked for: loops, veiled, ifaces, maps, wideKeys, modest, calm, conditions, laid).
  DERIVED. THE GIVEN ROWS OF THIS SEAT. 3 by the template 'for every input the law returns true; each argument reads behind the call as it read before'; 0 by the template 'total and deterministic' (their statements: YtkabdodcacfmlaaGreatTotals.lean).
  GIVEN WITH THE SEED: the statements are not yours to turn. If you find one false, say at which input.
  Laid BY PROGRAM, IN A SANDBOX (cutbox-rows.mjs): the forced cells as the released guide's own fill.sh prints them over the translation b24b9dc9a59106e1… (all of the seat's roots in one cut). By AI agents, Wed Nov 11 2026. No macro, syntax, notation, axiom, sorry.
-/
import Derived.Test.YtkabdodcacfmlaaGreatChecked
import GoSem.Claim
import GoSem.ClaimJoined
import GoSem.ClaimMapViews
import Derived.JoinedTies
import Derived.KernelRfl
namespace Go.Proofs.YtkabdodcacfmlaaGreat
/- THE CELL 'sum', in the pinned program and in every row, IS THE sha256 OF THE DUMP (.gsa) THAT YtkabdodcacfmlaaGreatProg.lean LOADS. Nothing in Lean hashes anything: it is a label: what it is worth is what the hold of that sum in a sandbox is worth. -/
noncomputable def Tryz.pinned : Pinned := { name := "ytkabdodcacfmlaagreat", sum := "b24b9dc9a59106e17b3176660677552408bb6e63edd3c32ffe9333d2bc9a81b0", checked := Tryz.checked }
namespace Rows
def none {H : Type} : Left H := { results := [], args := [] }

/-- 'visorlaw32.TeethTells': WHATEVER THE INPUT: true; the input reads as it did. -/
def teethTellsSpec : ChangeSpec := { name := "teethTells", fn := fun _ => fun
  | [d1, d2, d3, d4] => { results := [.lit (.bool true)], args := [d1, d2, d3, d4] }
  | _ => none }
def teethTellsRow : OpenClaim := { program := "ytkabdodcacfmlaagreat", sum := "b24b9dc9a59106e17b3176660677552408bb6e63edd3c32ffe9333d2bc9a81b0", func := "visor/visorlaw32.TeethTells", spec := "teethTells", inPlace := ["sync/atomic.LoadInt64", "sync/atomic.AddInt64"], unfollowed := true, recurses := true, plainKeys := false, apart := false }
def TeethTellsSaid : Prop := teethTellsRow.holds Tryz.pinned (OpenSpec.ofChange teethTellsSpec)

/-- ITS FALSE NEIGHBOUR: 'it returns false'. Refute it at one input. -/
def teethTellsWrong : ChangeSpec := { name := "teethTells", fn := fun _ => fun
  | [d1, d2, d3, d4] => { results := [.lit (.bool false)], args := [d1, d2, d3, d4] }
  | _ => none }
def TeethTellsWrongFalsely : Prop := teethTellsRow.holds Tryz.pinned (OpenSpec.ofChange teethTellsWrong)

/-- 'visorlaw31.CountTells': WHATEVER THE INPUT: true; the input reads as it did. -/
def countTellsSpec : ChangeSpec := { name := "countTells", fn := fun _ => fun
  | [d1, d2, d3, d4, d5] => { results := [.lit (.bool true)], args := [d1, d2, d3, d4, d5] }
  | _ => none }
def countTellsRow : OpenClaim := { program := "ytkabdodcacfmlaagreat", sum := "b24b9dc9a59106e17b3176660677552408bb6e63edd3c32ffe9333d2bc9a81b0", func := "visor/visorlaw31.CountTells", spec := "countTells", inPlace := ["sync/atomic.LoadInt64", "sync/atomic.AddInt64"], unfollowed := true, recurses := true, plainKeys := false, apart := false }
def CountTellsSaid : Prop := countTellsRow.holds Tryz.pinned (OpenSpec.ofChange countTellsSpec)

/-- ITS FALSE NEIGHBOUR: 'it returns false'. Refute it at one input. -/
def countTellsWrong : ChangeSpec := { name := "countTells", fn := fun _ => fun
  | [d1, d2, d3, d4, d5] => { results := [.lit (.bool false)], args := [d1, d2, d3, d4, d5] }
  | _ => none }
def CountTellsWrongFalsely : Prop := countTellsRow.holds Tryz.pinned (OpenSpec.ofChange countTellsWrong)

/-- 'visorlaw32.TeethBite': WHATEVER THE INPUT: true; the input reads as it did. -/
def teethBiteSpec : ChangeSpec := { name := "teethBite", fn := fun _ => fun
  | [d1, d2, d3, d4, d5] => { results := [.lit (.bool true)], args := [d1, d2, d3, d4, d5] }
  | _ => none }
def teethBiteRow : OpenClaim := { program := "ytkabdodcacfmlaagreat", sum := "b24b9dc9a59106e17b3176660677552408bb6e63edd3c32ffe9333d2bc9a81b0", func := "visor/visorlaw32.TeethBite", spec := "teethBite", inPlace := ["sync/atomic.LoadInt64", "sync/atomic.AddInt64"], unfollowed := true, recurses := true, plainKeys := false, apart := false }
def TeethBiteSaid : Prop := teethBiteRow.holds Tryz.pinned (OpenSpec.ofChange teethBiteSpec)

/-- ITS FALSE NEIGHBOUR: 'it returns false'. Refute it at one input. -/
def teethBiteWrong : ChangeSpec := { name := "teethBite", fn := fun _ => fun
  | [d1, d2, d3, d4, d5] => { results := [.lit (.bool false)], args := [d1, d2, d3, d4, d5] }
  | _ => none }
def TeethBiteWrongFalsely : Prop := teethBiteRow.holds Tryz.pinned (OpenSpec.ofChange teethBiteWrong)

/- THE SECOND FORM. 'bulk': how many values and letters a reading holds, each counted each time it is reached (what is shared counts as often as it is met; a slice's spare places count too). A statement '..UptoSaid' is the law's where the arguments, and the package variables that the reading takes, are together of bulk at most 1048576: NARROWER than '..Said'. Prove '..Said' where nothing that the law and all that it calls make is longer than what came in: it says more and counts as full. Else prove '..UptoSaid'. A law counts once. -/
mutual
def uptoBulk {H : Type} : DataW H → Nat
  | .lit (.string bytes) => bytes.length + 1
  | .lit _ => 1
  | .nil => 1
  | .ptr d => uptoBulk d + 1
  | .slice elems spare => uptoBulkAll elems + uptoBulkAll spare + 1
  | .agg parts => uptoBulkAll parts + 1
  | .iface _ d => uptoBulk d + 1
  | .map entries => uptoBulkEntries entries + 1
  | .held _ => 1
def uptoBulkAll {H : Type} : List (DataW H) → Nat
  | [] => 0
  | d :: r => uptoBulk d + uptoBulkAll r
def uptoBulkEntries {H : Type} : List (Lit × DataW H) → Nat
  | [] => 0
  | x :: r => uptoBulkEntry x + uptoBulkEntries r
def uptoBulkEntry {H : Type} : Lit × DataW H → Nat
  | (.string bytes, d) => bytes.length + uptoBulk d + 1
  | (_, d) => uptoBulk d + 1
 end
def uptoSmall : (H : Type) → List (DataW H) → Bool := fun _ ds => decide (uptoBulkAll ds ≤ 1048576)
def OpenSpec.upto (s : _root_.Go.ChangeSpec) : _root_.Go.OpenSpec := { _root_.Go.OpenSpec.ofChange s with cond := some uptoSmall }

/-- 'visorlaw32.TeethTells', WHERE WHAT IT READS IS OF BULK AT MOST 1048576: true; the input reads as it did. -/
def teethTellsUptoRow : OpenClaim := { program := "ytkabdodcacfmlaagreat", sum := "b24b9dc9a59106e17b3176660677552408bb6e63edd3c32ffe9333d2bc9a81b0", func := "visor/visorlaw32.TeethTells", spec := "teethTells", inPlace := ["sync/atomic.LoadInt64", "sync/atomic.AddInt64"], unfollowed := true, recurses := true, plainKeys := false, apart := false, narrowed := true }
def TeethTellsUptoSaid : Prop := teethTellsUptoRow.holds Tryz.pinned (OpenSpec.upto teethTellsSpec)

/-- 'visorlaw31.CountTells', WHERE WHAT IT READS IS OF BULK AT MOST 1048576: true; the input reads as it did. -/
def countTellsUptoRow : OpenClaim := { program := "ytkabdodcacfmlaagreat", sum := "b24b9dc9a59106e17b3176660677552408bb6e63edd3c32ffe9333d2bc9a81b0", func := "visor/visorlaw31.CountTells", spec := "countTells", inPlace := ["sync/atomic.LoadInt64", "sync/atomic.AddInt64"], unfollowed := true, recurses := true, plainKeys := false, apart := false, narrowed := true }
def CountTellsUptoSaid : Prop := countTellsUptoRow.holds Tryz.pinned (OpenSpec.upto countTellsSpec)

/-- 'visorlaw32.TeethBite', WHERE WHAT IT READS IS OF BULK AT MOST 1048576: true; the input reads as it did. -/
def teethBiteUptoRow : OpenClaim := { program := "ytkabdodcacfmlaagreat", sum := "b24b9dc9a59106e17b3176660677552408bb6e63edd3c32ffe9333d2bc9a81b0", func := "visor/visorlaw32.TeethBite", spec := "teethBite", inPlace := ["sync/atomic.LoadInt64", "sync/atomic.AddInt64"], unfollowed := true, recurses := true, plainKeys := false, apart := false, narrowed := true }
def TeethBiteUptoSaid : Prop := teethBiteUptoRow.holds Tryz.pinned (OpenSpec.upto teethBiteSpec)

end Rows
end Go.Proofs.YtkabdodcacfmlaaGreat
