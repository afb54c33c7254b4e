/-
  No cell of these rows narrows 'for every input' (looked for: loops, veiled, ifaces, maps, wideKeys, modest, calm, conditions, laid).
  DERIVED. THE GIVEN ROWS OF THIS SEAT. 8 by the template 'for every input the law returns true; each argument reads behind the call as it read before'; 0 by the template 'total and deterministic' (their statements: YtnipddabgedoaaaTotals.lean).
  GIVEN WITH THE SEED: the statements are not yours to turn. If you find one false, say at which input.
  Laid BY PROGRAM, IN A SANDBOX (cutbox-rows.mjs): the forced cells as the released guide's own fill.sh prints them over the translation 30e6ed5d762b7769… (all of the seat's roots in one cut). By AI agents, Wed Nov 11 2026. No macro, syntax, notation, axiom, sorry.
-/
import Derived.Test.YtnipddabgedoaaaChecked
import GoSem.Claim
import GoSem.ClaimJoined
import GoSem.ClaimMapViews
import Derived.JoinedTies
import Derived.KernelRfl
namespace Go.Proofs.Ytnipddabgedoaaa
/- THE CELL 'sum', in the pinned program and in every row, IS THE sha256 OF THE DUMP (.gsa) THAT YtnipddabgedoaaaProg.lean LOADS. Nothing in Lean hashes anything: it is a label: what it is worth is what the hold of that sum in a sandbox is worth. -/
noncomputable def Try.pinned : Pinned := { name := "ytnipddabgedoaaa", sum := "30e6ed5d762b776931c0408996a86a751217e6706dbf68b2939fa21f8e6bfd86", checked := Try.checked }
namespace Rows
def none {H : Type} : Left H := { results := [], args := [] }

/-- 'musterlaw01.OctetsOrder': WHATEVER THE INPUT: true; the input reads as it did. -/
def octetsOrderSpec : ChangeSpec := { name := "octetsOrder", fn := fun _ => fun
  | [d1, d2] => { results := [.lit (.bool true)], args := [d1, d2] }
  | _ => none }
def octetsOrderRow : OpenClaim := { program := "ytnipddabgedoaaa", sum := "30e6ed5d762b776931c0408996a86a751217e6706dbf68b2939fa21f8e6bfd86", func := "muster/musterlaw01.OctetsOrder", spec := "octetsOrder", apart := false }
def OctetsOrderSaid : Prop := octetsOrderRow.holds Try.pinned (OpenSpec.ofChange octetsOrderSpec)

/-- ITS FALSE NEIGHBOUR: 'it returns false'. Refute it at one input. -/
def octetsOrderWrong : ChangeSpec := { name := "octetsOrder", fn := fun _ => fun
  | [d1, d2] => { results := [.lit (.bool false)], args := [d1, d2] }
  | _ => none }
def OctetsOrderWrongFalsely : Prop := octetsOrderRow.holds Try.pinned (OpenSpec.ofChange octetsOrderWrong)

/-- 'musterlaw01.OctetsNumbers': WHATEVER THE INPUT: true; the input reads as it did. -/
def octetsNumbersSpec : ChangeSpec := { name := "octetsNumbers", fn := fun _ => fun
  | [] => { results := [.lit (.bool true)], args := [] }
  | _ => none }
def octetsNumbersRow : OpenClaim := { program := "ytnipddabgedoaaa", sum := "30e6ed5d762b776931c0408996a86a751217e6706dbf68b2939fa21f8e6bfd86", func := "muster/musterlaw01.OctetsNumbers", spec := "octetsNumbers", apart := false }
def OctetsNumbersSaid : Prop := octetsNumbersRow.holds Try.pinned (OpenSpec.ofChange octetsNumbersSpec)

/-- ITS FALSE NEIGHBOUR: 'it returns false'. Refute it at one input. -/
def octetsNumbersWrong : ChangeSpec := { name := "octetsNumbers", fn := fun _ => fun
  | [] => { results := [.lit (.bool false)], args := [] }
  | _ => none }
def OctetsNumbersWrongFalsely : Prop := octetsNumbersRow.holds Try.pinned (OpenSpec.ofChange octetsNumbersWrong)

/-- 'musterlaw01.OctetsTells': WHATEVER THE INPUT: true; the input reads as it did. -/
def octetsTellsSpec : ChangeSpec := { name := "octetsTells", fn := fun _ => fun
  | [d1, d2, d3, d4] => { results := [.lit (.bool true)], args := [d1, d2, d3, d4] }
  | _ => none }
def octetsTellsRow : OpenClaim := { program := "ytnipddabgedoaaa", sum := "30e6ed5d762b776931c0408996a86a751217e6706dbf68b2939fa21f8e6bfd86", func := "muster/musterlaw01.OctetsTells", spec := "octetsTells", apart := false }
def OctetsTellsSaid : Prop := octetsTellsRow.holds Try.pinned (OpenSpec.ofChange octetsTellsSpec)

/-- ITS FALSE NEIGHBOUR: 'it returns false'. Refute it at one input. -/
def octetsTellsWrong : ChangeSpec := { name := "octetsTells", fn := fun _ => fun
  | [d1, d2, d3, d4] => { results := [.lit (.bool false)], args := [d1, d2, d3, d4] }
  | _ => none }
def OctetsTellsWrongFalsely : Prop := octetsTellsRow.holds Try.pinned (OpenSpec.ofChange octetsTellsWrong)

/-- 'musterlaw01.OctetsBack': WHATEVER THE INPUT: true; the input reads as it did. -/
def octetsBackSpec : ChangeSpec := { name := "octetsBack", fn := fun _ => fun
  | [d1, d2, d3, d4] => { results := [.lit (.bool true)], args := [d1, d2, d3, d4] }
  | _ => none }
def octetsBackRow : OpenClaim := { program := "ytnipddabgedoaaa", sum := "30e6ed5d762b776931c0408996a86a751217e6706dbf68b2939fa21f8e6bfd86", func := "muster/musterlaw01.OctetsBack", spec := "octetsBack", apart := false }
def OctetsBackSaid : Prop := octetsBackRow.holds Try.pinned (OpenSpec.ofChange octetsBackSpec)

/-- ITS FALSE NEIGHBOUR: 'it returns false'. Refute it at one input. -/
def octetsBackWrong : ChangeSpec := { name := "octetsBack", fn := fun _ => fun
  | [d1, d2, d3, d4] => { results := [.lit (.bool false)], args := [d1, d2, d3, d4] }
  | _ => none }
def OctetsBackWrongFalsely : Prop := octetsBackRow.holds Try.pinned (OpenSpec.ofChange octetsBackWrong)

/-- 'musterlaw02.SumsNumbers': WHATEVER THE INPUT: true; the input reads as it did. -/
def sumsNumbersSpec : ChangeSpec := { name := "sumsNumbers", fn := fun _ => fun
  | [] => { results := [.lit (.bool true)], args := [] }
  | _ => none }
def sumsNumbersRow : OpenClaim := { program := "ytnipddabgedoaaa", sum := "30e6ed5d762b776931c0408996a86a751217e6706dbf68b2939fa21f8e6bfd86", func := "muster/musterlaw02.SumsNumbers", spec := "sumsNumbers", unfollowed := true, recurses := true, apart := false }
def SumsNumbersSaid : Prop := sumsNumbersRow.holds Try.pinned (OpenSpec.ofChange sumsNumbersSpec)

/-- ITS FALSE NEIGHBOUR: 'it returns false'. Refute it at one input. -/
def sumsNumbersWrong : ChangeSpec := { name := "sumsNumbers", fn := fun _ => fun
  | [] => { results := [.lit (.bool false)], args := [] }
  | _ => none }
def SumsNumbersWrongFalsely : Prop := sumsNumbersRow.holds Try.pinned (OpenSpec.ofChange sumsNumbersWrong)

/-- 'musterlaw02.SumsTells': WHATEVER THE INPUT: true; the input reads as it did. -/
def sumsTellsSpec : ChangeSpec := { name := "sumsTells", fn := fun _ => fun
  | [d1, d2] => { results := [.lit (.bool true)], args := [d1, d2] }
  | _ => none }
def sumsTellsRow : OpenClaim := { program := "ytnipddabgedoaaa", sum := "30e6ed5d762b776931c0408996a86a751217e6706dbf68b2939fa21f8e6bfd86", func := "muster/musterlaw02.SumsTells", spec := "sumsTells", unfollowed := true, recurses := true, apart := false }
def SumsTellsSaid : Prop := sumsTellsRow.holds Try.pinned (OpenSpec.ofChange sumsTellsSpec)

/-- ITS FALSE NEIGHBOUR: 'it returns false'. Refute it at one input. -/
def sumsTellsWrong : ChangeSpec := { name := "sumsTells", fn := fun _ => fun
  | [d1, d2] => { results := [.lit (.bool false)], args := [d1, d2] }
  | _ => none }
def SumsTellsWrongFalsely : Prop := sumsTellsRow.holds Try.pinned (OpenSpec.ofChange sumsTellsWrong)

/-- 'musterlaw02.SumsBursts': WHATEVER THE INPUT: true; the input reads as it did. -/
def sumsBurstsSpec : ChangeSpec := { name := "sumsBursts", fn := fun _ => fun
  | [d1, d2, d3] => { results := [.lit (.bool true)], args := [d1, d2, d3] }
  | _ => none }
def sumsBurstsRow : OpenClaim := { program := "ytnipddabgedoaaa", sum := "30e6ed5d762b776931c0408996a86a751217e6706dbf68b2939fa21f8e6bfd86", func := "muster/musterlaw02.SumsBursts", spec := "sumsBursts", unfollowed := true, recurses := true, apart := false }
def SumsBurstsSaid : Prop := sumsBurstsRow.holds Try.pinned (OpenSpec.ofChange sumsBurstsSpec)

/-- ITS FALSE NEIGHBOUR: 'it returns false'. Refute it at one input. -/
def sumsBurstsWrong : ChangeSpec := { name := "sumsBursts", fn := fun _ => fun
  | [d1, d2, d3] => { results := [.lit (.bool false)], args := [d1, d2, d3] }
  | _ => none }
def SumsBurstsWrongFalsely : Prop := sumsBurstsRow.holds Try.pinned (OpenSpec.ofChange sumsBurstsWrong)

/-- 'musterlaw02.SumsJoin': WHATEVER THE INPUT: true; the input reads as it did. -/
def sumsJoinSpec : ChangeSpec := { name := "sumsJoin", fn := fun _ => fun
  | [d1, d2, d3] => { results := [.lit (.bool true)], args := [d1, d2, d3] }
  | _ => none }
def sumsJoinRow : OpenClaim := { program := "ytnipddabgedoaaa", sum := "30e6ed5d762b776931c0408996a86a751217e6706dbf68b2939fa21f8e6bfd86", func := "muster/musterlaw02.SumsJoin", spec := "sumsJoin", unfollowed := true, recurses := true, apart := false }
def SumsJoinSaid : Prop := sumsJoinRow.holds Try.pinned (OpenSpec.ofChange sumsJoinSpec)

/-- ITS FALSE NEIGHBOUR: 'it returns false'. Refute it at one input. -/
def sumsJoinWrong : ChangeSpec := { name := "sumsJoin", fn := fun _ => fun
  | [d1, d2, d3] => { results := [.lit (.bool false)], args := [d1, d2, d3] }
  | _ => none }
def SumsJoinWrongFalsely : Prop := sumsJoinRow.holds Try.pinned (OpenSpec.ofChange sumsJoinWrong)

/- THE SECOND FORM. 'bulk': how many values and letters a reading holds, each counted each time it is reached (what is shared counts as often as it is met; a slice's spare places count too). A statement '..UptoSaid' is the law's where the arguments, and the package variables that the reading takes, are together of bulk at most 1048576: NARROWER than '..Said'. Prove '..Said' where nothing that the law and all that it calls make is longer than what came in: it says more and counts as full. Else prove '..UptoSaid'. A law counts once. -/
mutual
def uptoBulk {H : Type} : DataW H → Nat
  | .lit (.string bytes) => bytes.length + 1
  | .lit _ => 1
  | .nil => 1
  | .ptr d => uptoBulk d + 1
  | .slice elems spare => uptoBulkAll elems + uptoBulkAll spare + 1
  | .agg parts => uptoBulkAll parts + 1
  | .iface _ d => uptoBulk d + 1
  | .map entries => uptoBulkEntries entries + 1
  | .held _ => 1
def uptoBulkAll {H : Type} : List (DataW H) → Nat
  | [] => 0
  | d :: r => uptoBulk d + uptoBulkAll r
def uptoBulkEntries {H : Type} : List (Lit × DataW H) → Nat
  | [] => 0
  | x :: r => uptoBulkEntry x + uptoBulkEntries r
def uptoBulkEntry {H : Type} : Lit × DataW H → Nat
  | (.string bytes, d) => bytes.length + uptoBulk d + 1
  | (_, d) => uptoBulk d + 1
 end
def uptoSmall : (H : Type) → List (DataW H) → Bool := fun _ ds => decide (uptoBulkAll ds ≤ 1048576)
def OpenSpec.upto (s : _root_.Go.ChangeSpec) : _root_.Go.OpenSpec := { _root_.Go.OpenSpec.ofChange s with cond := some uptoSmall }

/-- 'musterlaw01.OctetsOrder', WHERE WHAT IT READS IS OF BULK AT MOST 1048576: true; the input reads as it did. -/
def octetsOrderUptoRow : OpenClaim := { program := "ytnipddabgedoaaa", sum := "30e6ed5d762b776931c0408996a86a751217e6706dbf68b2939fa21f8e6bfd86", func := "muster/musterlaw01.OctetsOrder", spec := "octetsOrder", apart := false, narrowed := true }
def OctetsOrderUptoSaid : Prop := octetsOrderUptoRow.holds Try.pinned (OpenSpec.upto octetsOrderSpec)

/-- 'musterlaw01.OctetsNumbers', WHERE WHAT IT READS IS OF BULK AT MOST 1048576: true; the input reads as it did. -/
def octetsNumbersUptoRow : OpenClaim := { program := "ytnipddabgedoaaa", sum := "30e6ed5d762b776931c0408996a86a751217e6706dbf68b2939fa21f8e6bfd86", func := "muster/musterlaw01.OctetsNumbers", spec := "octetsNumbers", apart := false, narrowed := true }
def OctetsNumbersUptoSaid : Prop := octetsNumbersUptoRow.holds Try.pinned (OpenSpec.upto octetsNumbersSpec)

/-- 'musterlaw01.OctetsTells', WHERE WHAT IT READS IS OF BULK AT MOST 1048576: true; the input reads as it did. -/
def octetsTellsUptoRow : OpenClaim := { program := "ytnipddabgedoaaa", sum := "30e6ed5d762b776931c0408996a86a751217e6706dbf68b2939fa21f8e6bfd86", func := "muster/musterlaw01.OctetsTells", spec := "octetsTells", apart := false, narrowed := true }
def OctetsTellsUptoSaid : Prop := octetsTellsUptoRow.holds Try.pinned (OpenSpec.upto octetsTellsSpec)

/-- 'musterlaw01.OctetsBack', WHERE WHAT IT READS IS OF BULK AT MOST 1048576: true; the input reads as it did. -/
def octetsBackUptoRow : OpenClaim := { program := "ytnipddabgedoaaa", sum := "30e6ed5d762b776931c0408996a86a751217e6706dbf68b2939fa21f8e6bfd86", func := "muster/musterlaw01.OctetsBack", spec := "octetsBack", apart := false, narrowed := true }
def OctetsBackUptoSaid : Prop := octetsBackUptoRow.holds Try.pinned (OpenSpec.upto octetsBackSpec)

/-- 'musterlaw02.SumsNumbers', WHERE WHAT IT READS IS OF BULK AT MOST 1048576: true; the input reads as it did. -/
def sumsNumbersUptoRow : OpenClaim := { program := "ytnipddabgedoaaa", sum := "30e6ed5d762b776931c0408996a86a751217e6706dbf68b2939fa21f8e6bfd86", func := "muster/musterlaw02.SumsNumbers", spec := "sumsNumbers", unfollowed := true, recurses := true, apart := false, narrowed := true }
def SumsNumbersUptoSaid : Prop := sumsNumbersUptoRow.holds Try.pinned (OpenSpec.upto sumsNumbersSpec)

/-- 'musterlaw02.SumsTells', WHERE WHAT IT READS IS OF BULK AT MOST 1048576: true; the input reads as it did. -/
def sumsTellsUptoRow : OpenClaim := { program := "ytnipddabgedoaaa", sum := "30e6ed5d762b776931c0408996a86a751217e6706dbf68b2939fa21f8e6bfd86", func := "muster/musterlaw02.SumsTells", spec := "sumsTells", unfollowed := true, recurses := true, apart := false, narrowed := true }
def SumsTellsUptoSaid : Prop := sumsTellsUptoRow.holds Try.pinned (OpenSpec.upto sumsTellsSpec)

/-- 'musterlaw02.SumsBursts', WHERE WHAT IT READS IS OF BULK AT MOST 1048576: true; the input reads as it did. -/
def sumsBurstsUptoRow : OpenClaim := { program := "ytnipddabgedoaaa", sum := "30e6ed5d762b776931c0408996a86a751217e6706dbf68b2939fa21f8e6bfd86", func := "muster/musterlaw02.SumsBursts", spec := "sumsBursts", unfollowed := true, recurses := true, apart := false, narrowed := true }
def SumsBurstsUptoSaid : Prop := sumsBurstsUptoRow.holds Try.pinned (OpenSpec.upto sumsBurstsSpec)

/-- 'musterlaw02.SumsJoin', WHERE WHAT IT READS IS OF BULK AT MOST 1048576: true; the input reads as it did. -/
def sumsJoinUptoRow : OpenClaim := { program := "ytnipddabgedoaaa", sum := "30e6ed5d762b776931c0408996a86a751217e6706dbf68b2939fa21f8e6bfd86", func := "muster/musterlaw02.SumsJoin", spec := "sumsJoin", unfollowed := true, recurses := true, apart := false, narrowed := true }
def SumsJoinUptoSaid : Prop := sumsJoinUptoRow.holds Try.pinned (OpenSpec.upto sumsJoinSpec)

end Rows
end Go.Proofs.Ytnipddabgedoaaa
