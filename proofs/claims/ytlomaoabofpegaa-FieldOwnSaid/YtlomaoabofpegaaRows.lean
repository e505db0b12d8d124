/-
  No cell of these rows narrows 'for every input' (looked for: loops, veiled, ifaces, maps, wideKeys, modest, calm, conditions, laid).
  DERIVED. THE GIVEN ROWS OF THIS SEAT. 4 by the template 'for every input the law returns true; each argument reads behind the call as it read before'; 0 by the template 'total and deterministic' (their statements: YtlomaoabofpegaaTotals.lean).
  GIVEN WITH THE SEED: the statements are not yours to turn. If you find one false, say at which input.
  Laid BY PROGRAM, IN A SANDBOX (cutbox-rows.mjs): the forced cells as the released guide's own fill.sh prints them over the translation eddd66230c7de12f… (all of the seat's roots in one cut). By AI agents, Wed Nov 11 2026. No macro, syntax, notation, axiom, sorry.
-/
import Derived.Test.YtlomaoabofpegaaChecked
import GoSem.Claim
import GoSem.ClaimJoined
import GoSem.ClaimMapViews
import Derived.JoinedTies
import Derived.KernelRfl
namespace Go.Proofs.Ytlomaoabofpegaa
/- THE CELL 'sum', in the pinned program and in every row, IS THE sha256 OF THE DUMP (.gsa) THAT YtlomaoabofpegaaProg.lean LOADS. Nothing in Lean hashes anything: it is a label: what it is worth is what the hold of that sum in a sandbox is worth. -/
noncomputable def Try.pinned : Pinned := { name := "ytlomaoabofpegaa", sum := "eddd66230c7de12f8d86c02dd823ec324d9315c7ca8ff73000a15d0f88e19165", checked := Try.checked }
namespace Rows
def none {H : Type} : Left H := { results := [], args := [] }

/-- 'causeylaw03.FieldTells': WHATEVER THE INPUT: true; the input reads as it did. -/
def fieldTellsSpec : ChangeSpec := { name := "fieldTells", fn := fun _ => fun
  | [d1, d2, d3, d4, d5, d6] => { results := [.lit (.bool true)], args := [d1, d2, d3, d4, d5, d6] }
  | _ => none }
def fieldTellsRow : OpenClaim := { program := "ytlomaoabofpegaa", sum := "eddd66230c7de12f8d86c02dd823ec324d9315c7ca8ff73000a15d0f88e19165", func := "causey/causeylaw03.FieldTells", spec := "fieldTells", unfollowed := true, recurses := true, apart := false }
def FieldTellsSaid : Prop := fieldTellsRow.holds Try.pinned (OpenSpec.ofChange fieldTellsSpec)

/-- ITS FALSE NEIGHBOUR: 'it returns false'. Refute it at one input. -/
def fieldTellsWrong : ChangeSpec := { name := "fieldTells", fn := fun _ => fun
  | [d1, d2, d3, d4, d5, d6] => { results := [.lit (.bool false)], args := [d1, d2, d3, d4, d5, d6] }
  | _ => none }
def FieldTellsWrongFalsely : Prop := fieldTellsRow.holds Try.pinned (OpenSpec.ofChange fieldTellsWrong)

/-- 'causeylaw03.FieldBack': WHATEVER THE INPUT: true; the input reads as it did. -/
def fieldBackSpec : ChangeSpec := { name := "fieldBack", fn := fun _ => fun
  | [d1, d2, d3, d4] => { results := [.lit (.bool true)], args := [d1, d2, d3, d4] }
  | _ => none }
def fieldBackRow : OpenClaim := { program := "ytlomaoabofpegaa", sum := "eddd66230c7de12f8d86c02dd823ec324d9315c7ca8ff73000a15d0f88e19165", func := "causey/causeylaw03.FieldBack", spec := "fieldBack", unfollowed := true, recurses := true, apart := false }
def FieldBackSaid : Prop := fieldBackRow.holds Try.pinned (OpenSpec.ofChange fieldBackSpec)

/-- ITS FALSE NEIGHBOUR: 'it returns false'. Refute it at one input. -/
def fieldBackWrong : ChangeSpec := { name := "fieldBack", fn := fun _ => fun
  | [d1, d2, d3, d4] => { results := [.lit (.bool false)], args := [d1, d2, d3, d4] }
  | _ => none }
def FieldBackWrongFalsely : Prop := fieldBackRow.holds Try.pinned (OpenSpec.ofChange fieldBackWrong)

/-- 'causeylaw03.FieldLast': WHATEVER THE INPUT: true; the input reads as it did. -/
def fieldLastSpec : ChangeSpec := { name := "fieldLast", fn := fun _ => fun
  | [d1, d2, d3] => { results := [.lit (.bool true)], args := [d1, d2, d3] }
  | _ => none }
def fieldLastRow : OpenClaim := { program := "ytlomaoabofpegaa", sum := "eddd66230c7de12f8d86c02dd823ec324d9315c7ca8ff73000a15d0f88e19165", func := "causey/causeylaw03.FieldLast", spec := "fieldLast", unfollowed := true, recurses := true, apart := false }
def FieldLastSaid : Prop := fieldLastRow.holds Try.pinned (OpenSpec.ofChange fieldLastSpec)

/-- ITS FALSE NEIGHBOUR: 'it returns false'. Refute it at one input. -/
def fieldLastWrong : ChangeSpec := { name := "fieldLast", fn := fun _ => fun
  | [d1, d2, d3] => { results := [.lit (.bool false)], args := [d1, d2, d3] }
  | _ => none }
def FieldLastWrongFalsely : Prop := fieldLastRow.holds Try.pinned (OpenSpec.ofChange fieldLastWrong)

/-- 'causeylaw03.FieldOwn': WHATEVER THE INPUT: true; the input reads as it did. -/
def fieldOwnSpec : ChangeSpec := { name := "fieldOwn", fn := fun _ => fun
  | [d1, d2] => { results := [.lit (.bool true)], args := [d1, d2] }
  | _ => none }
def fieldOwnRow : OpenClaim := { program := "ytlomaoabofpegaa", sum := "eddd66230c7de12f8d86c02dd823ec324d9315c7ca8ff73000a15d0f88e19165", func := "causey/causeylaw03.FieldOwn", spec := "fieldOwn", unfollowed := true, recurses := true, apart := false }
def FieldOwnSaid : Prop := fieldOwnRow.holds Try.pinned (OpenSpec.ofChange fieldOwnSpec)

/-- ITS FALSE NEIGHBOUR: 'it returns false'. Refute it at one input. -/
def fieldOwnWrong : ChangeSpec := { name := "fieldOwn", fn := fun _ => fun
  | [d1, d2] => { results := [.lit (.bool false)], args := [d1, d2] }
  | _ => none }
def FieldOwnWrongFalsely : Prop := fieldOwnRow.holds Try.pinned (OpenSpec.ofChange fieldOwnWrong)

/- THE SECOND FORM. 'bulk': how many values and letters a reading holds, each counted each time it is reached (what is shared counts as often as it is met; a slice's spare places count too). A statement '..UptoSaid' is the law's where the arguments, and the package variables that the reading takes, are together of bulk at most 1048576: NARROWER than '..Said'. Prove '..Said' where nothing that the law and all that it calls make is longer than what came in: it says more and counts as full. Else prove '..UptoSaid'. A law counts once. -/
mutual
def uptoBulk {H : Type} : DataW H → Nat
  | .lit (.string bytes) => bytes.length + 1
  | .lit _ => 1
  | .nil => 1
  | .ptr d => uptoBulk d + 1
  | .slice elems spare => uptoBulkAll elems + uptoBulkAll spare + 1
  | .agg parts => uptoBulkAll parts + 1
  | .iface _ d => uptoBulk d + 1
  | .map entries => uptoBulkEntries entries + 1
  | .held _ => 1
def uptoBulkAll {H : Type} : List (DataW H) → Nat
  | [] => 0
  | d :: r => uptoBulk d + uptoBulkAll r
def uptoBulkEntries {H : Type} : List (Lit × DataW H) → Nat
  | [] => 0
  | x :: r => uptoBulkEntry x + uptoBulkEntries r
def uptoBulkEntry {H : Type} : Lit × DataW H → Nat
  | (.string bytes, d) => bytes.length + uptoBulk d + 1
  | (_, d) => uptoBulk d + 1
 end
def uptoSmall : (H : Type) → List (DataW H) → Bool := fun _ ds => decide (uptoBulkAll ds ≤ 1048576)
def OpenSpec.upto (s : _root_.Go.ChangeSpec) : _root_.Go.OpenSpec := { _root_.Go.OpenSpec.ofChange s with cond := some uptoSmall }

/-- 'causeylaw03.FieldTells', WHERE WHAT IT READS IS OF BULK AT MOST 1048576: true; the input reads as it did. -/
def fieldTellsUptoRow : OpenClaim := { program := "ytlomaoabofpegaa", sum := "eddd66230c7de12f8d86c02dd823ec324d9315c7ca8ff73000a15d0f88e19165", func := "causey/causeylaw03.FieldTells", spec := "fieldTells", unfollowed := true, recurses := true, apart := false, narrowed := true }
def FieldTellsUptoSaid : Prop := fieldTellsUptoRow.holds Try.pinned (OpenSpec.upto fieldTellsSpec)

/-- 'causeylaw03.FieldBack', WHERE WHAT IT READS IS OF BULK AT MOST 1048576: true; the input reads as it did. -/
def fieldBackUptoRow : OpenClaim := { program := "ytlomaoabofpegaa", sum := "eddd66230c7de12f8d86c02dd823ec324d9315c7ca8ff73000a15d0f88e19165", func := "causey/causeylaw03.FieldBack", spec := "fieldBack", unfollowed := true, recurses := true, apart := false, narrowed := true }
def FieldBackUptoSaid : Prop := fieldBackUptoRow.holds Try.pinned (OpenSpec.upto fieldBackSpec)

/-- 'causeylaw03.FieldLast', WHERE WHAT IT READS IS OF BULK AT MOST 1048576: true; the input reads as it did. -/
def fieldLastUptoRow : OpenClaim := { program := "ytlomaoabofpegaa", sum := "eddd66230c7de12f8d86c02dd823ec324d9315c7ca8ff73000a15d0f88e19165", func := "causey/causeylaw03.FieldLast", spec := "fieldLast", unfollowed := true, recurses := true, apart := false, narrowed := true }
def FieldLastUptoSaid : Prop := fieldLastUptoRow.holds Try.pinned (OpenSpec.upto fieldLastSpec)

/-- 'causeylaw03.FieldOwn', WHERE WHAT IT READS IS OF BULK AT MOST 1048576: true; the input reads as it did. -/
def fieldOwnUptoRow : OpenClaim := { program := "ytlomaoabofpegaa", sum := "eddd66230c7de12f8d86c02dd823ec324d9315c7ca8ff73000a15d0f88e19165", func := "causey/causeylaw03.FieldOwn", spec := "fieldOwn", unfollowed := true, recurses := true, apart := false, narrowed := true }
def FieldOwnUptoSaid : Prop := fieldOwnUptoRow.holds Try.pinned (OpenSpec.upto fieldOwnSpec)

end Rows
end Go.Proofs.Ytlomaoabofpegaa
