/-
  No cell of these rows narrows 'for every input' (looked for: loops, veiled, ifaces, maps, wideKeys, modest, calm, conditions, laid).
  DERIVED. THE GIVEN ROWS OF THIS SEAT. 6 by the template 'for every input the law returns true; each argument reads behind the call as it read before'; 0 by the template 'total and deterministic' (their statements: YtfggcdpipolahaaTotals.lean).
  GIVEN WITH THE SEED: the statements are not yours to turn. If you find one false, say at which input.
  Laid BY PROGRAM, IN A SANDBOX (cutbox-rows.mjs): the forced cells as the released guide's own fill.sh prints them over the translation e9e759d57c68cfa0… (all of the seat's roots in one cut). By AI agents, Wed Nov 11 2026. No macro, syntax, notation, axiom, sorry.
-/
import Derived.Test.YtfggcdpipolahaaChecked
import GoSem.Claim
import GoSem.ClaimJoined
import GoSem.ClaimMapViews
import Derived.JoinedTies
import Derived.KernelRfl
namespace Go.Proofs.Ytfggcdpipolahaa
/- THE CELL 'sum', in the pinned program and in every row, IS THE sha256 OF THE DUMP (.gsa) THAT YtfggcdpipolahaaProg.lean LOADS. Nothing in Lean hashes anything: it is a label: what it is worth is what the hold of that sum in a sandbox is worth. -/
noncomputable def Try.pinned : Pinned := { name := "ytfggcdpipolahaa", sum := "e9e759d57c68cfa02f218681284cf3c20d02530d304ecd514fe27da0ecf84b3a", checked := Try.checked }
namespace Rows
def none {H : Type} : Left H := { results := [], args := [] }

/-- 'musterlaw06.FileSpares': WHATEVER THE INPUT: true; the input reads as it did. -/
def fileSparesSpec : ChangeSpec := { name := "fileSpares", fn := fun _ => fun
  | [d] => { results := [.lit (.bool true)], args := [d] }
  | _ => none }
def fileSparesRow : OpenClaim := { program := "ytfggcdpipolahaa", sum := "e9e759d57c68cfa02f218681284cf3c20d02530d304ecd514fe27da0ecf84b3a", func := "muster/musterlaw06.FileSpares", spec := "fileSpares", inPlace := ["sync/atomic.LoadInt64", "sync/atomic.AddInt64", "sync/atomic.StoreInt64"], apart := false }
def FileSparesSaid : Prop := fileSparesRow.holds Try.pinned (OpenSpec.ofChange fileSparesSpec)

/-- ITS FALSE NEIGHBOUR: 'it returns false'. Refute it at one input. -/
def fileSparesWrong : ChangeSpec := { name := "fileSpares", fn := fun _ => fun
  | [d] => { results := [.lit (.bool false)], args := [d] }
  | _ => none }
def FileSparesWrongFalsely : Prop := fileSparesRow.holds Try.pinned (OpenSpec.ofChange fileSparesWrong)

/-- 'musterlaw06.FileSynced': WHATEVER THE INPUT: true; the input reads as it did. -/
def fileSyncedSpec : ChangeSpec := { name := "fileSynced", fn := fun _ => fun
  | [d1, d2, d3] => { results := [.lit (.bool true)], args := [d1, d2, d3] }
  | _ => none }
def fileSyncedRow : OpenClaim := { program := "ytfggcdpipolahaa", sum := "e9e759d57c68cfa02f218681284cf3c20d02530d304ecd514fe27da0ecf84b3a", func := "muster/musterlaw06.FileSynced", spec := "fileSynced", inPlace := ["sync/atomic.LoadInt64", "sync/atomic.AddInt64", "sync/atomic.StoreInt64"], apart := false }
def FileSyncedSaid : Prop := fileSyncedRow.holds Try.pinned (OpenSpec.ofChange fileSyncedSpec)

/-- ITS FALSE NEIGHBOUR: 'it returns false'. Refute it at one input. -/
def fileSyncedWrong : ChangeSpec := { name := "fileSynced", fn := fun _ => fun
  | [d1, d2, d3] => { results := [.lit (.bool false)], args := [d1, d2, d3] }
  | _ => none }
def FileSyncedWrongFalsely : Prop := fileSyncedRow.holds Try.pinned (OpenSpec.ofChange fileSyncedWrong)

/-- 'musterlaw06.FileCrashes': WHATEVER THE INPUT: true; the input reads as it did. -/
def fileCrashesSpec : ChangeSpec := { name := "fileCrashes", fn := fun _ => fun
  | [d] => { results := [.lit (.bool true)], args := [d] }
  | _ => none }
def fileCrashesRow : OpenClaim := { program := "ytfggcdpipolahaa", sum := "e9e759d57c68cfa02f218681284cf3c20d02530d304ecd514fe27da0ecf84b3a", func := "muster/musterlaw06.FileCrashes", spec := "fileCrashes", inPlace := ["sync/atomic.LoadInt64", "sync/atomic.AddInt64", "sync/atomic.StoreInt64"], apart := false }
def FileCrashesSaid : Prop := fileCrashesRow.holds Try.pinned (OpenSpec.ofChange fileCrashesSpec)

/-- ITS FALSE NEIGHBOUR: 'it returns false'. Refute it at one input. -/
def fileCrashesWrong : ChangeSpec := { name := "fileCrashes", fn := fun _ => fun
  | [d] => { results := [.lit (.bool false)], args := [d] }
  | _ => none }
def FileCrashesWrongFalsely : Prop := fileCrashesRow.holds Try.pinned (OpenSpec.ofChange fileCrashesWrong)

/-- 'musterlaw06.FileNumbers': WHATEVER THE INPUT: true; the input reads as it did. -/
def fileNumbersSpec : ChangeSpec := { name := "fileNumbers", fn := fun _ => fun
  | [] => { results := [.lit (.bool true)], args := [] }
  | _ => none }
def fileNumbersRow : OpenClaim := { program := "ytfggcdpipolahaa", sum := "e9e759d57c68cfa02f218681284cf3c20d02530d304ecd514fe27da0ecf84b3a", func := "muster/musterlaw06.FileNumbers", spec := "fileNumbers", inPlace := ["sync/atomic.LoadInt64", "sync/atomic.AddInt64", "sync/atomic.StoreInt64"], apart := false }
def FileNumbersSaid : Prop := fileNumbersRow.holds Try.pinned (OpenSpec.ofChange fileNumbersSpec)

/-- ITS FALSE NEIGHBOUR: 'it returns false'. Refute it at one input. -/
def fileNumbersWrong : ChangeSpec := { name := "fileNumbers", fn := fun _ => fun
  | [] => { results := [.lit (.bool false)], args := [] }
  | _ => none }
def FileNumbersWrongFalsely : Prop := fileNumbersRow.holds Try.pinned (OpenSpec.ofChange fileNumbersWrong)

/-- 'musterlaw06.FilePlays': WHATEVER THE INPUT: true; the input reads as it did. -/
def filePlaysSpec : ChangeSpec := { name := "filePlays", fn := fun _ => fun
  | [d] => { results := [.lit (.bool true)], args := [d] }
  | _ => none }
def filePlaysRow : OpenClaim := { program := "ytfggcdpipolahaa", sum := "e9e759d57c68cfa02f218681284cf3c20d02530d304ecd514fe27da0ecf84b3a", func := "muster/musterlaw06.FilePlays", spec := "filePlays", inPlace := ["sync/atomic.LoadInt64", "sync/atomic.StoreInt64", "sync/atomic.AddInt64"], apart := false }
def FilePlaysSaid : Prop := filePlaysRow.holds Try.pinned (OpenSpec.ofChange filePlaysSpec)

/-- ITS FALSE NEIGHBOUR: 'it returns false'. Refute it at one input. -/
def filePlaysWrong : ChangeSpec := { name := "filePlays", fn := fun _ => fun
  | [d] => { results := [.lit (.bool false)], args := [d] }
  | _ => none }
def FilePlaysWrongFalsely : Prop := filePlaysRow.holds Try.pinned (OpenSpec.ofChange filePlaysWrong)

/-- 'musterlaw06.FileNone': WHATEVER THE INPUT: true; the input reads as it did. -/
def fileNoneSpec : ChangeSpec := { name := "fileNone", fn := fun _ => fun
  | [d1, d2, d3] => { results := [.lit (.bool true)], args := [d1, d2, d3] }
  | _ => none }
def fileNoneRow : OpenClaim := { program := "ytfggcdpipolahaa", sum := "e9e759d57c68cfa02f218681284cf3c20d02530d304ecd514fe27da0ecf84b3a", func := "muster/musterlaw06.FileNone", spec := "fileNone", inPlace := ["sync/atomic.LoadInt64", "sync/atomic.AddInt64", "sync/atomic.StoreInt64"], apart := false }
def FileNoneSaid : Prop := fileNoneRow.holds Try.pinned (OpenSpec.ofChange fileNoneSpec)

/-- ITS FALSE NEIGHBOUR: 'it returns false'. Refute it at one input. -/
def fileNoneWrong : ChangeSpec := { name := "fileNone", fn := fun _ => fun
  | [d1, d2, d3] => { results := [.lit (.bool false)], args := [d1, d2, d3] }
  | _ => none }
def FileNoneWrongFalsely : Prop := fileNoneRow.holds Try.pinned (OpenSpec.ofChange fileNoneWrong)

/- THE SECOND FORM. 'bulk': how many values and letters a reading holds, each counted each time it is reached (what is shared counts as often as it is met; a slice's spare places count too). A statement '..UptoSaid' is the law's where the arguments, and the package variables that the reading takes, are together of bulk at most 1048576: NARROWER than '..Said'. Prove '..Said' where nothing that the law and all that it calls make is longer than what came in: it says more and counts as full. Else prove '..UptoSaid'. A law counts once. -/
mutual
def uptoBulk {H : Type} : DataW H → Nat
  | .lit (.string bytes) => bytes.length + 1
  | .lit _ => 1
  | .nil => 1
  | .ptr d => uptoBulk d + 1
  | .slice elems spare => uptoBulkAll elems + uptoBulkAll spare + 1
  | .agg parts => uptoBulkAll parts + 1
  | .iface _ d => uptoBulk d + 1
  | .map entries => uptoBulkEntries entries + 1
  | .held _ => 1
def uptoBulkAll {H : Type} : List (DataW H) → Nat
  | [] => 0
  | d :: r => uptoBulk d + uptoBulkAll r
def uptoBulkEntries {H : Type} : List (Lit × DataW H) → Nat
  | [] => 0
  | x :: r => uptoBulkEntry x + uptoBulkEntries r
def uptoBulkEntry {H : Type} : Lit × DataW H → Nat
  | (.string bytes, d) => bytes.length + uptoBulk d + 1
  | (_, d) => uptoBulk d + 1
 end
def uptoSmall : (H : Type) → List (DataW H) → Bool := fun _ ds => decide (uptoBulkAll ds ≤ 1048576)
def OpenSpec.upto (s : _root_.Go.ChangeSpec) : _root_.Go.OpenSpec := { _root_.Go.OpenSpec.ofChange s with cond := some uptoSmall }

/-- 'musterlaw06.FileSpares', WHERE WHAT IT READS IS OF BULK AT MOST 1048576: true; the input reads as it did. -/
def fileSparesUptoRow : OpenClaim := { program := "ytfggcdpipolahaa", sum := "e9e759d57c68cfa02f218681284cf3c20d02530d304ecd514fe27da0ecf84b3a", func := "muster/musterlaw06.FileSpares", spec := "fileSpares", inPlace := ["sync/atomic.LoadInt64", "sync/atomic.AddInt64", "sync/atomic.StoreInt64"], apart := false, narrowed := true }
def FileSparesUptoSaid : Prop := fileSparesUptoRow.holds Try.pinned (OpenSpec.upto fileSparesSpec)

/-- 'musterlaw06.FileSynced', WHERE WHAT IT READS IS OF BULK AT MOST 1048576: true; the input reads as it did. -/
def fileSyncedUptoRow : OpenClaim := { program := "ytfggcdpipolahaa", sum := "e9e759d57c68cfa02f218681284cf3c20d02530d304ecd514fe27da0ecf84b3a", func := "muster/musterlaw06.FileSynced", spec := "fileSynced", inPlace := ["sync/atomic.LoadInt64", "sync/atomic.AddInt64", "sync/atomic.StoreInt64"], apart := false, narrowed := true }
def FileSyncedUptoSaid : Prop := fileSyncedUptoRow.holds Try.pinned (OpenSpec.upto fileSyncedSpec)

/-- 'musterlaw06.FileCrashes', WHERE WHAT IT READS IS OF BULK AT MOST 1048576: true; the input reads as it did. -/
def fileCrashesUptoRow : OpenClaim := { program := "ytfggcdpipolahaa", sum := "e9e759d57c68cfa02f218681284cf3c20d02530d304ecd514fe27da0ecf84b3a", func := "muster/musterlaw06.FileCrashes", spec := "fileCrashes", inPlace := ["sync/atomic.LoadInt64", "sync/atomic.AddInt64", "sync/atomic.StoreInt64"], apart := false, narrowed := true }
def FileCrashesUptoSaid : Prop := fileCrashesUptoRow.holds Try.pinned (OpenSpec.upto fileCrashesSpec)

/-- 'musterlaw06.FileNumbers', WHERE WHAT IT READS IS OF BULK AT MOST 1048576: true; the input reads as it did. -/
def fileNumbersUptoRow : OpenClaim := { program := "ytfggcdpipolahaa", sum := "e9e759d57c68cfa02f218681284cf3c20d02530d304ecd514fe27da0ecf84b3a", func := "muster/musterlaw06.FileNumbers", spec := "fileNumbers", inPlace := ["sync/atomic.LoadInt64", "sync/atomic.AddInt64", "sync/atomic.StoreInt64"], apart := false, narrowed := true }
def FileNumbersUptoSaid : Prop := fileNumbersUptoRow.holds Try.pinned (OpenSpec.upto fileNumbersSpec)

/-- 'musterlaw06.FilePlays', WHERE WHAT IT READS IS OF BULK AT MOST 1048576: true; the input reads as it did. -/
def filePlaysUptoRow : OpenClaim := { program := "ytfggcdpipolahaa", sum := "e9e759d57c68cfa02f218681284cf3c20d02530d304ecd514fe27da0ecf84b3a", func := "muster/musterlaw06.FilePlays", spec := "filePlays", inPlace := ["sync/atomic.LoadInt64", "sync/atomic.StoreInt64", "sync/atomic.AddInt64"], apart := false, narrowed := true }
def FilePlaysUptoSaid : Prop := filePlaysUptoRow.holds Try.pinned (OpenSpec.upto filePlaysSpec)

/-- 'musterlaw06.FileNone', WHERE WHAT IT READS IS OF BULK AT MOST 1048576: true; the input reads as it did. -/
def fileNoneUptoRow : OpenClaim := { program := "ytfggcdpipolahaa", sum := "e9e759d57c68cfa02f218681284cf3c20d02530d304ecd514fe27da0ecf84b3a", func := "muster/musterlaw06.FileNone", spec := "fileNone", inPlace := ["sync/atomic.LoadInt64", "sync/atomic.AddInt64", "sync/atomic.StoreInt64"], apart := false, narrowed := true }
def FileNoneUptoSaid : Prop := fileNoneUptoRow.holds Try.pinned (OpenSpec.upto fileNoneSpec)

end Rows
end Go.Proofs.Ytfggcdpipolahaa
