/-
  No cell of these rows narrows 'for every input' (looked for: loops, veiled, ifaces, maps, wideKeys, modest, calm, conditions, laid).
  DERIVED. THE GIVEN ROWS OF THIS SEAT. 11 by the template 'for every input the law returns true; each argument reads behind the call as it read before'; 0 by the template 'total and deterministic' (their statements: YthcikldhlohjbaaTotals.lean).
  GIVEN WITH THE SEED: the statements are not yours to turn. If you find one false, say at which input.
  Laid BY PROGRAM, IN A SANDBOX (cutbox-rows.mjs): the forced cells as the released guide's own fill.sh prints them over the translation d45e451518e15a7a… (all of the seat's roots in one cut). By AI agents, Wed Nov 11 2026. No macro, syntax, notation, axiom, sorry.
-/
import Derived.Test.YthcikldhlohjbaaChecked
import GoSem.Claim
import GoSem.ClaimJoined
import GoSem.ClaimMapViews
import Derived.JoinedTies
import Derived.KernelRfl
namespace Go.Proofs.Ythcikldhlohjbaa
/- THE CELL 'sum', in the pinned program and in every row, IS THE sha256 OF THE DUMP (.gsa) THAT YthcikldhlohjbaaProg.lean LOADS. Nothing in Lean hashes anything: it is a label: what it is worth is what the hold of that sum in a sandbox is worth. -/
noncomputable def Try.pinned : Pinned := { name := "ythcikldhlohjbaa", sum := "d45e451518e15a7a10f8478e257faf0a0ef53569c9fcd6aa2629dfae9d7438ed", checked := Try.checked }
namespace Rows
def none {H : Type} : Left H := { results := [], args := [] }

/-- 'musterlaw20.DepsTells': WHATEVER THE INPUT: true; the input reads as it did. -/
def depsTellsSpec : ChangeSpec := { name := "depsTells", fn := fun _ => fun
  | [d1, d2, d3] => { results := [.lit (.bool true)], args := [d1, d2, d3] }
  | _ => none }
def depsTellsRow : OpenClaim := { program := "ythcikldhlohjbaa", sum := "d45e451518e15a7a10f8478e257faf0a0ef53569c9fcd6aa2629dfae9d7438ed", func := "muster/musterlaw20.DepsTells", spec := "depsTells", unfollowed := true, recurses := true, apart := false }
def DepsTellsSaid : Prop := depsTellsRow.holds Try.pinned (OpenSpec.ofChange depsTellsSpec)

/-- ITS FALSE NEIGHBOUR: 'it returns false'. Refute it at one input. -/
def depsTellsWrong : ChangeSpec := { name := "depsTells", fn := fun _ => fun
  | [d1, d2, d3] => { results := [.lit (.bool false)], args := [d1, d2, d3] }
  | _ => none }
def DepsTellsWrongFalsely : Prop := depsTellsRow.holds Try.pinned (OpenSpec.ofChange depsTellsWrong)

/-- 'musterlaw20.DepsParts': WHATEVER THE INPUT: true; the input reads as it did. -/
def depsPartsSpec : ChangeSpec := { name := "depsParts", fn := fun _ => fun
  | [d1, d2, d3] => { results := [.lit (.bool true)], args := [d1, d2, d3] }
  | _ => none }
def depsPartsRow : OpenClaim := { program := "ythcikldhlohjbaa", sum := "d45e451518e15a7a10f8478e257faf0a0ef53569c9fcd6aa2629dfae9d7438ed", func := "muster/musterlaw20.DepsParts", spec := "depsParts", unfollowed := true, recurses := true, apart := false }
def DepsPartsSaid : Prop := depsPartsRow.holds Try.pinned (OpenSpec.ofChange depsPartsSpec)

/-- ITS FALSE NEIGHBOUR: 'it returns false'. Refute it at one input. -/
def depsPartsWrong : ChangeSpec := { name := "depsParts", fn := fun _ => fun
  | [d1, d2, d3] => { results := [.lit (.bool false)], args := [d1, d2, d3] }
  | _ => none }
def DepsPartsWrongFalsely : Prop := depsPartsRow.holds Try.pinned (OpenSpec.ofChange depsPartsWrong)

/-- 'musterlaw20.DepsSettle': WHATEVER THE INPUT: true; the input reads as it did. -/
def depsSettleSpec : ChangeSpec := { name := "depsSettle", fn := fun _ => fun
  | [d1, d2, d3] => { results := [.lit (.bool true)], args := [d1, d2, d3] }
  | _ => none }
def depsSettleRow : OpenClaim := { program := "ythcikldhlohjbaa", sum := "d45e451518e15a7a10f8478e257faf0a0ef53569c9fcd6aa2629dfae9d7438ed", func := "muster/musterlaw20.DepsSettle", spec := "depsSettle", unfollowed := true, recurses := true, apart := false }
def DepsSettleSaid : Prop := depsSettleRow.holds Try.pinned (OpenSpec.ofChange depsSettleSpec)

/-- ITS FALSE NEIGHBOUR: 'it returns false'. Refute it at one input. -/
def depsSettleWrong : ChangeSpec := { name := "depsSettle", fn := fun _ => fun
  | [d1, d2, d3] => { results := [.lit (.bool false)], args := [d1, d2, d3] }
  | _ => none }
def DepsSettleWrongFalsely : Prop := depsSettleRow.holds Try.pinned (OpenSpec.ofChange depsSettleWrong)

/-- 'musterlaw13.NodesTurns': WHATEVER THE INPUT: true; the input reads as it did. -/
def nodesTurnsSpec : ChangeSpec := { name := "nodesTurns", fn := fun _ => fun
  | [d1, d2] => { results := [.lit (.bool true)], args := [d1, d2] }
  | _ => none }
def nodesTurnsRow : OpenClaim := { program := "ythcikldhlohjbaa", sum := "d45e451518e15a7a10f8478e257faf0a0ef53569c9fcd6aa2629dfae9d7438ed", func := "muster/musterlaw13.NodesTurns", spec := "nodesTurns", unfollowed := true, recurses := true, apart := false }
def NodesTurnsSaid : Prop := nodesTurnsRow.holds Try.pinned (OpenSpec.ofChange nodesTurnsSpec)

/-- ITS FALSE NEIGHBOUR: 'it returns false'. Refute it at one input. -/
def nodesTurnsWrong : ChangeSpec := { name := "nodesTurns", fn := fun _ => fun
  | [d1, d2] => { results := [.lit (.bool false)], args := [d1, d2] }
  | _ => none }
def NodesTurnsWrongFalsely : Prop := nodesTurnsRow.holds Try.pinned (OpenSpec.ofChange nodesTurnsWrong)

/-- 'musterlaw13.NodesTells': WHATEVER THE INPUT: true; the input reads as it did. -/
def nodesTellsSpec : ChangeSpec := { name := "nodesTells", fn := fun _ => fun
  | [d1, d2, d3] => { results := [.lit (.bool true)], args := [d1, d2, d3] }
  | _ => none }
def nodesTellsRow : OpenClaim := { program := "ythcikldhlohjbaa", sum := "d45e451518e15a7a10f8478e257faf0a0ef53569c9fcd6aa2629dfae9d7438ed", func := "muster/musterlaw13.NodesTells", spec := "nodesTells", unfollowed := true, recurses := true, apart := false }
def NodesTellsSaid : Prop := nodesTellsRow.holds Try.pinned (OpenSpec.ofChange nodesTellsSpec)

/-- ITS FALSE NEIGHBOUR: 'it returns false'. Refute it at one input. -/
def nodesTellsWrong : ChangeSpec := { name := "nodesTells", fn := fun _ => fun
  | [d1, d2, d3] => { results := [.lit (.bool false)], args := [d1, d2, d3] }
  | _ => none }
def NodesTellsWrongFalsely : Prop := nodesTellsRow.holds Try.pinned (OpenSpec.ofChange nodesTellsWrong)

/-- 'musterlaw13.NodesSets': WHATEVER THE INPUT: true; the input reads as it did. -/
def nodesSetsSpec : ChangeSpec := { name := "nodesSets", fn := fun _ => fun
  | [d1, d2, d3] => { results := [.lit (.bool true)], args := [d1, d2, d3] }
  | _ => none }
def nodesSetsRow : OpenClaim := { program := "ythcikldhlohjbaa", sum := "d45e451518e15a7a10f8478e257faf0a0ef53569c9fcd6aa2629dfae9d7438ed", func := "muster/musterlaw13.NodesSets", spec := "nodesSets", unfollowed := true, recurses := true, apart := false }
def NodesSetsSaid : Prop := nodesSetsRow.holds Try.pinned (OpenSpec.ofChange nodesSetsSpec)

/-- ITS FALSE NEIGHBOUR: 'it returns false'. Refute it at one input. -/
def nodesSetsWrong : ChangeSpec := { name := "nodesSets", fn := fun _ => fun
  | [d1, d2, d3] => { results := [.lit (.bool false)], args := [d1, d2, d3] }
  | _ => none }
def NodesSetsWrongFalsely : Prop := nodesSetsRow.holds Try.pinned (OpenSpec.ofChange nodesSetsWrong)

/-- 'musterlaw18.JobOnce': WHATEVER THE INPUT: true; the input reads as it did. -/
def jobOnceSpec : ChangeSpec := { name := "jobOnce", fn := fun _ => fun
  | [d1, d2, d3] => { results := [.lit (.bool true)], args := [d1, d2, d3] }
  | _ => none }
def jobOnceRow : OpenClaim := { program := "ythcikldhlohjbaa", sum := "d45e451518e15a7a10f8478e257faf0a0ef53569c9fcd6aa2629dfae9d7438ed", func := "muster/musterlaw18.JobOnce", spec := "jobOnce", apart := false }
def JobOnceSaid : Prop := jobOnceRow.holds Try.pinned (OpenSpec.ofChange jobOnceSpec)

/-- ITS FALSE NEIGHBOUR: 'it returns false'. Refute it at one input. -/
def jobOnceWrong : ChangeSpec := { name := "jobOnce", fn := fun _ => fun
  | [d1, d2, d3] => { results := [.lit (.bool false)], args := [d1, d2, d3] }
  | _ => none }
def JobOnceWrongFalsely : Prop := jobOnceRow.holds Try.pinned (OpenSpec.ofChange jobOnceWrong)

/-- 'musterlaw18.JobEnds': WHATEVER THE INPUT: true; the input reads as it did. -/
def jobEndsSpec : ChangeSpec := { name := "jobEnds", fn := fun _ => fun
  | [d1, d2, d3] => { results := [.lit (.bool true)], args := [d1, d2, d3] }
  | _ => none }
def jobEndsRow : OpenClaim := { program := "ythcikldhlohjbaa", sum := "d45e451518e15a7a10f8478e257faf0a0ef53569c9fcd6aa2629dfae9d7438ed", func := "muster/musterlaw18.JobEnds", spec := "jobEnds", apart := false }
def JobEndsSaid : Prop := jobEndsRow.holds Try.pinned (OpenSpec.ofChange jobEndsSpec)

/-- ITS FALSE NEIGHBOUR: 'it returns false'. Refute it at one input. -/
def jobEndsWrong : ChangeSpec := { name := "jobEnds", fn := fun _ => fun
  | [d1, d2, d3] => { results := [.lit (.bool false)], args := [d1, d2, d3] }
  | _ => none }
def JobEndsWrongFalsely : Prop := jobEndsRow.holds Try.pinned (OpenSpec.ofChange jobEndsWrong)

/-- 'musterlaw14.TreeTells': WHATEVER THE INPUT: true; the input reads as it did. -/
def treeTellsSpec : ChangeSpec := { name := "treeTells", fn := fun _ => fun
  | [d1, d2, d3] => { results := [.lit (.bool true)], args := [d1, d2, d3] }
  | _ => none }
def treeTellsRow : OpenClaim := { program := "ythcikldhlohjbaa", sum := "d45e451518e15a7a10f8478e257faf0a0ef53569c9fcd6aa2629dfae9d7438ed", func := "muster/musterlaw14.TreeTells", spec := "treeTells", unfollowed := true, recurses := true, apart := false }
def TreeTellsSaid : Prop := treeTellsRow.holds Try.pinned (OpenSpec.ofChange treeTellsSpec)

/-- ITS FALSE NEIGHBOUR: 'it returns false'. Refute it at one input. -/
def treeTellsWrong : ChangeSpec := { name := "treeTells", fn := fun _ => fun
  | [d1, d2, d3] => { results := [.lit (.bool false)], args := [d1, d2, d3] }
  | _ => none }
def TreeTellsWrongFalsely : Prop := treeTellsRow.holds Try.pinned (OpenSpec.ofChange treeTellsWrong)

/-- 'musterlaw14.TreePaths': WHATEVER THE INPUT: true; the input reads as it did. -/
def treePathsSpec : ChangeSpec := { name := "treePaths", fn := fun _ => fun
  | [d1, d2, d3] => { results := [.lit (.bool true)], args := [d1, d2, d3] }
  | _ => none }
def treePathsRow : OpenClaim := { program := "ythcikldhlohjbaa", sum := "d45e451518e15a7a10f8478e257faf0a0ef53569c9fcd6aa2629dfae9d7438ed", func := "muster/musterlaw14.TreePaths", spec := "treePaths", unfollowed := true, recurses := true, apart := false }
def TreePathsSaid : Prop := treePathsRow.holds Try.pinned (OpenSpec.ofChange treePathsSpec)

/-- ITS FALSE NEIGHBOUR: 'it returns false'. Refute it at one input. -/
def treePathsWrong : ChangeSpec := { name := "treePaths", fn := fun _ => fun
  | [d1, d2, d3] => { results := [.lit (.bool false)], args := [d1, d2, d3] }
  | _ => none }
def TreePathsWrongFalsely : Prop := treePathsRow.holds Try.pinned (OpenSpec.ofChange treePathsWrong)

/-- 'musterlaw14.TreeLimits': WHATEVER THE INPUT: true; the input reads as it did. -/
def treeLimitsSpec : ChangeSpec := { name := "treeLimits", fn := fun _ => fun
  | [d1, d2, d3] => { results := [.lit (.bool true)], args := [d1, d2, d3] }
  | _ => none }
def treeLimitsRow : OpenClaim := { program := "ythcikldhlohjbaa", sum := "d45e451518e15a7a10f8478e257faf0a0ef53569c9fcd6aa2629dfae9d7438ed", func := "muster/musterlaw14.TreeLimits", spec := "treeLimits", unfollowed := true, recurses := true, apart := false }
def TreeLimitsSaid : Prop := treeLimitsRow.holds Try.pinned (OpenSpec.ofChange treeLimitsSpec)

/-- ITS FALSE NEIGHBOUR: 'it returns false'. Refute it at one input. -/
def treeLimitsWrong : ChangeSpec := { name := "treeLimits", fn := fun _ => fun
  | [d1, d2, d3] => { results := [.lit (.bool false)], args := [d1, d2, d3] }
  | _ => none }
def TreeLimitsWrongFalsely : Prop := treeLimitsRow.holds Try.pinned (OpenSpec.ofChange treeLimitsWrong)

/- THE SECOND FORM. 'bulk': how many values and letters a reading holds, each counted each time it is reached (what is shared counts as often as it is met; a slice's spare places count too). A statement '..UptoSaid' is the law's where the arguments, and the package variables that the reading takes, are together of bulk at most 1048576: NARROWER than '..Said'. Prove '..Said' where nothing that the law and all that it calls make is longer than what came in: it says more and counts as full. Else prove '..UptoSaid'. A law counts once. -/
mutual
def uptoBulk {H : Type} : DataW H → Nat
  | .lit (.string bytes) => bytes.length + 1
  | .lit _ => 1
  | .nil => 1
  | .ptr d => uptoBulk d + 1
  | .slice elems spare => uptoBulkAll elems + uptoBulkAll spare + 1
  | .agg parts => uptoBulkAll parts + 1
  | .iface _ d => uptoBulk d + 1
  | .map entries => uptoBulkEntries entries + 1
  | .held _ => 1
def uptoBulkAll {H : Type} : List (DataW H) → Nat
  | [] => 0
  | d :: r => uptoBulk d + uptoBulkAll r
def uptoBulkEntries {H : Type} : List (Lit × DataW H) → Nat
  | [] => 0
  | x :: r => uptoBulkEntry x + uptoBulkEntries r
def uptoBulkEntry {H : Type} : Lit × DataW H → Nat
  | (.string bytes, d) => bytes.length + uptoBulk d + 1
  | (_, d) => uptoBulk d + 1
 end
def uptoSmall : (H : Type) → List (DataW H) → Bool := fun _ ds => decide (uptoBulkAll ds ≤ 1048576)
def OpenSpec.upto (s : _root_.Go.ChangeSpec) : _root_.Go.OpenSpec := { _root_.Go.OpenSpec.ofChange s with cond := some uptoSmall }

/-- 'musterlaw20.DepsTells', WHERE WHAT IT READS IS OF BULK AT MOST 1048576: true; the input reads as it did. -/
def depsTellsUptoRow : OpenClaim := { program := "ythcikldhlohjbaa", sum := "d45e451518e15a7a10f8478e257faf0a0ef53569c9fcd6aa2629dfae9d7438ed", func := "muster/musterlaw20.DepsTells", spec := "depsTells", unfollowed := true, recurses := true, apart := false, narrowed := true }
def DepsTellsUptoSaid : Prop := depsTellsUptoRow.holds Try.pinned (OpenSpec.upto depsTellsSpec)

/-- 'musterlaw20.DepsParts', WHERE WHAT IT READS IS OF BULK AT MOST 1048576: true; the input reads as it did. -/
def depsPartsUptoRow : OpenClaim := { program := "ythcikldhlohjbaa", sum := "d45e451518e15a7a10f8478e257faf0a0ef53569c9fcd6aa2629dfae9d7438ed", func := "muster/musterlaw20.DepsParts", spec := "depsParts", unfollowed := true, recurses := true, apart := false, narrowed := true }
def DepsPartsUptoSaid : Prop := depsPartsUptoRow.holds Try.pinned (OpenSpec.upto depsPartsSpec)

/-- 'musterlaw20.DepsSettle', WHERE WHAT IT READS IS OF BULK AT MOST 1048576: true; the input reads as it did. -/
def depsSettleUptoRow : OpenClaim := { program := "ythcikldhlohjbaa", sum := "d45e451518e15a7a10f8478e257faf0a0ef53569c9fcd6aa2629dfae9d7438ed", func := "muster/musterlaw20.DepsSettle", spec := "depsSettle", unfollowed := true, recurses := true, apart := false, narrowed := true }
def DepsSettleUptoSaid : Prop := depsSettleUptoRow.holds Try.pinned (OpenSpec.upto depsSettleSpec)

/-- 'musterlaw13.NodesTurns', WHERE WHAT IT READS IS OF BULK AT MOST 1048576: true; the input reads as it did. -/
def nodesTurnsUptoRow : OpenClaim := { program := "ythcikldhlohjbaa", sum := "d45e451518e15a7a10f8478e257faf0a0ef53569c9fcd6aa2629dfae9d7438ed", func := "muster/musterlaw13.NodesTurns", spec := "nodesTurns", unfollowed := true, recurses := true, apart := false, narrowed := true }
def NodesTurnsUptoSaid : Prop := nodesTurnsUptoRow.holds Try.pinned (OpenSpec.upto nodesTurnsSpec)

/-- 'musterlaw13.NodesTells', WHERE WHAT IT READS IS OF BULK AT MOST 1048576: true; the input reads as it did. -/
def nodesTellsUptoRow : OpenClaim := { program := "ythcikldhlohjbaa", sum := "d45e451518e15a7a10f8478e257faf0a0ef53569c9fcd6aa2629dfae9d7438ed", func := "muster/musterlaw13.NodesTells", spec := "nodesTells", unfollowed := true, recurses := true, apart := false, narrowed := true }
def NodesTellsUptoSaid : Prop := nodesTellsUptoRow.holds Try.pinned (OpenSpec.upto nodesTellsSpec)

/-- 'musterlaw13.NodesSets', WHERE WHAT IT READS IS OF BULK AT MOST 1048576: true; the input reads as it did. -/
def nodesSetsUptoRow : OpenClaim := { program := "ythcikldhlohjbaa", sum := "d45e451518e15a7a10f8478e257faf0a0ef53569c9fcd6aa2629dfae9d7438ed", func := "muster/musterlaw13.NodesSets", spec := "nodesSets", unfollowed := true, recurses := true, apart := false, narrowed := true }
def NodesSetsUptoSaid : Prop := nodesSetsUptoRow.holds Try.pinned (OpenSpec.upto nodesSetsSpec)

/-- 'musterlaw18.JobOnce', WHERE WHAT IT READS IS OF BULK AT MOST 1048576: true; the input reads as it did. -/
def jobOnceUptoRow : OpenClaim := { program := "ythcikldhlohjbaa", sum := "d45e451518e15a7a10f8478e257faf0a0ef53569c9fcd6aa2629dfae9d7438ed", func := "muster/musterlaw18.JobOnce", spec := "jobOnce", apart := false, narrowed := true }
def JobOnceUptoSaid : Prop := jobOnceUptoRow.holds Try.pinned (OpenSpec.upto jobOnceSpec)

/-- 'musterlaw18.JobEnds', WHERE WHAT IT READS IS OF BULK AT MOST 1048576: true; the input reads as it did. -/
def jobEndsUptoRow : OpenClaim := { program := "ythcikldhlohjbaa", sum := "d45e451518e15a7a10f8478e257faf0a0ef53569c9fcd6aa2629dfae9d7438ed", func := "muster/musterlaw18.JobEnds", spec := "jobEnds", apart := false, narrowed := true }
def JobEndsUptoSaid : Prop := jobEndsUptoRow.holds Try.pinned (OpenSpec.upto jobEndsSpec)

/-- 'musterlaw14.TreeTells', WHERE WHAT IT READS IS OF BULK AT MOST 1048576: true; the input reads as it did. -/
def treeTellsUptoRow : OpenClaim := { program := "ythcikldhlohjbaa", sum := "d45e451518e15a7a10f8478e257faf0a0ef53569c9fcd6aa2629dfae9d7438ed", func := "muster/musterlaw14.TreeTells", spec := "treeTells", unfollowed := true, recurses := true, apart := false, narrowed := true }
def TreeTellsUptoSaid : Prop := treeTellsUptoRow.holds Try.pinned (OpenSpec.upto treeTellsSpec)

/-- 'musterlaw14.TreePaths', WHERE WHAT IT READS IS OF BULK AT MOST 1048576: true; the input reads as it did. -/
def treePathsUptoRow : OpenClaim := { program := "ythcikldhlohjbaa", sum := "d45e451518e15a7a10f8478e257faf0a0ef53569c9fcd6aa2629dfae9d7438ed", func := "muster/musterlaw14.TreePaths", spec := "treePaths", unfollowed := true, recurses := true, apart := false, narrowed := true }
def TreePathsUptoSaid : Prop := treePathsUptoRow.holds Try.pinned (OpenSpec.upto treePathsSpec)

/-- 'musterlaw14.TreeLimits', WHERE WHAT IT READS IS OF BULK AT MOST 1048576: true; the input reads as it did. -/
def treeLimitsUptoRow : OpenClaim := { program := "ythcikldhlohjbaa", sum := "d45e451518e15a7a10f8478e257faf0a0ef53569c9fcd6aa2629dfae9d7438ed", func := "muster/musterlaw14.TreeLimits", spec := "treeLimits", unfollowed := true, recurses := true, apart := false, narrowed := true }
def TreeLimitsUptoSaid : Prop := treeLimitsUptoRow.holds Try.pinned (OpenSpec.upto treeLimitsSpec)

end Rows
end Go.Proofs.Ythcikldhlohjbaa
