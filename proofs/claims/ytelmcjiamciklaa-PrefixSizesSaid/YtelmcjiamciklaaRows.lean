/-
  No cell of these rows narrows 'for every input' (looked for: loops, veiled, ifaces, maps, wideKeys, modest, calm, conditions, laid).
  DERIVED. THE GIVEN ROWS OF THIS SEAT. 4 by the template 'for every input the law returns true; each argument reads behind the call as it read before'; 0 by the template 'total and deterministic' (their statements: YtelmcjiamciklaaTotals.lean).
  GIVEN WITH THE SEED: the statements are not yours to turn. If you find one false, say at which input.
  Laid BY PROGRAM, IN A SANDBOX (cutbox-rows.mjs): the forced cells as the released guide's own fill.sh prints them over the translation 1ec265c38083600c… (all of the seat's roots in one cut). By AI agents, Wed Nov 11 2026. No macro, syntax, notation, axiom, sorry.
-/
import Derived.Test.YtelmcjiamciklaaChecked
import GoSem.Claim
import GoSem.ClaimJoined
import GoSem.ClaimMapViews
import Derived.JoinedTies
import Derived.KernelRfl
namespace Go.Proofs.Ytelmcjiamciklaa
/- THE CELL 'sum', in the pinned program and in every row, IS THE sha256 OF THE DUMP (.gsa) THAT YtelmcjiamciklaaProg.lean LOADS. Nothing in Lean hashes anything: it is a label: what it is worth is what the hold of that sum in a sandbox is worth. -/
noncomputable def Try.pinned : Pinned := { name := "ytelmcjiamciklaa", sum := "1ec265c38083600c5206af7fe8795573ce753b27b27bbd2cf354a9c2681c5726", checked := Try.checked }
namespace Rows
def none {H : Type} : Left H := { results := [], args := [] }

/-- 'causeylaw06.PrefixTells': WHATEVER THE INPUT: true; the input reads as it did. -/
def prefixTellsSpec : ChangeSpec := { name := "prefixTells", fn := fun _ => fun
  | [d1, d2, d3, d4] => { results := [.lit (.bool true)], args := [d1, d2, d3, d4] }
  | _ => none }
def prefixTellsRow : OpenClaim := { program := "ytelmcjiamciklaa", sum := "1ec265c38083600c5206af7fe8795573ce753b27b27bbd2cf354a9c2681c5726", func := "causey/causeylaw06.PrefixTells", spec := "prefixTells", unfollowed := true, recurses := true, apart := false }
def PrefixTellsSaid : Prop := prefixTellsRow.holds Try.pinned (OpenSpec.ofChange prefixTellsSpec)

/-- ITS FALSE NEIGHBOUR: 'it returns false'. Refute it at one input. -/
def prefixTellsWrong : ChangeSpec := { name := "prefixTells", fn := fun _ => fun
  | [d1, d2, d3, d4] => { results := [.lit (.bool false)], args := [d1, d2, d3, d4] }
  | _ => none }
def PrefixTellsWrongFalsely : Prop := prefixTellsRow.holds Try.pinned (OpenSpec.ofChange prefixTellsWrong)

/-- 'causeylaw06.PrefixBack': WHATEVER THE INPUT: true; the input reads as it did. -/
def prefixBackSpec : ChangeSpec := { name := "prefixBack", fn := fun _ => fun
  | [d1, d2, d3, d4] => { results := [.lit (.bool true)], args := [d1, d2, d3, d4] }
  | _ => none }
def prefixBackRow : OpenClaim := { program := "ytelmcjiamciklaa", sum := "1ec265c38083600c5206af7fe8795573ce753b27b27bbd2cf354a9c2681c5726", func := "causey/causeylaw06.PrefixBack", spec := "prefixBack", unfollowed := true, recurses := true, apart := false }
def PrefixBackSaid : Prop := prefixBackRow.holds Try.pinned (OpenSpec.ofChange prefixBackSpec)

/-- ITS FALSE NEIGHBOUR: 'it returns false'. Refute it at one input. -/
def prefixBackWrong : ChangeSpec := { name := "prefixBack", fn := fun _ => fun
  | [d1, d2, d3, d4] => { results := [.lit (.bool false)], args := [d1, d2, d3, d4] }
  | _ => none }
def PrefixBackWrongFalsely : Prop := prefixBackRow.holds Try.pinned (OpenSpec.ofChange prefixBackWrong)

/-- 'causeylaw06.PrefixOnly': WHATEVER THE INPUT: true; the input reads as it did. -/
def prefixOnlySpec : ChangeSpec := { name := "prefixOnly", fn := fun _ => fun
  | [d1, d2] => { results := [.lit (.bool true)], args := [d1, d2] }
  | _ => none }
def prefixOnlyRow : OpenClaim := { program := "ytelmcjiamciklaa", sum := "1ec265c38083600c5206af7fe8795573ce753b27b27bbd2cf354a9c2681c5726", func := "causey/causeylaw06.PrefixOnly", spec := "prefixOnly", unfollowed := true, recurses := true, apart := false }
def PrefixOnlySaid : Prop := prefixOnlyRow.holds Try.pinned (OpenSpec.ofChange prefixOnlySpec)

/-- ITS FALSE NEIGHBOUR: 'it returns false'. Refute it at one input. -/
def prefixOnlyWrong : ChangeSpec := { name := "prefixOnly", fn := fun _ => fun
  | [d1, d2] => { results := [.lit (.bool false)], args := [d1, d2] }
  | _ => none }
def PrefixOnlyWrongFalsely : Prop := prefixOnlyRow.holds Try.pinned (OpenSpec.ofChange prefixOnlyWrong)

/-- 'causeylaw06.PrefixSizes': WHATEVER THE INPUT: true; the input reads as it did. -/
def prefixSizesSpec : ChangeSpec := { name := "prefixSizes", fn := fun _ => fun
  | [d1, d2, d3] => { results := [.lit (.bool true)], args := [d1, d2, d3] }
  | _ => none }
def prefixSizesRow : OpenClaim := { program := "ytelmcjiamciklaa", sum := "1ec265c38083600c5206af7fe8795573ce753b27b27bbd2cf354a9c2681c5726", func := "causey/causeylaw06.PrefixSizes", spec := "prefixSizes", unfollowed := true, recurses := true, apart := false }
def PrefixSizesSaid : Prop := prefixSizesRow.holds Try.pinned (OpenSpec.ofChange prefixSizesSpec)

/-- ITS FALSE NEIGHBOUR: 'it returns false'. Refute it at one input. -/
def prefixSizesWrong : ChangeSpec := { name := "prefixSizes", fn := fun _ => fun
  | [d1, d2, d3] => { results := [.lit (.bool false)], args := [d1, d2, d3] }
  | _ => none }
def PrefixSizesWrongFalsely : Prop := prefixSizesRow.holds Try.pinned (OpenSpec.ofChange prefixSizesWrong)

/- THE SECOND FORM. 'bulk': how many values and letters a reading holds, each counted each time it is reached (what is shared counts as often as it is met; a slice's spare places count too). A statement '..UptoSaid' is the law's where the arguments, and the package variables that the reading takes, are together of bulk at most 1048576: NARROWER than '..Said'. Prove '..Said' where nothing that the law and all that it calls make is longer than what came in: it says more and counts as full. Else prove '..UptoSaid'. A law counts once. -/
mutual
def uptoBulk {H : Type} : DataW H → Nat
  | .lit (.string bytes) => bytes.length + 1
  | .lit _ => 1
  | .nil => 1
  | .ptr d => uptoBulk d + 1
  | .slice elems spare => uptoBulkAll elems + uptoBulkAll spare + 1
  | .agg parts => uptoBulkAll parts + 1
  | .iface _ d => uptoBulk d + 1
  | .map entries => uptoBulkEntries entries + 1
  | .held _ => 1
def uptoBulkAll {H : Type} : List (DataW H) → Nat
  | [] => 0
  | d :: r => uptoBulk d + uptoBulkAll r
def uptoBulkEntries {H : Type} : List (Lit × DataW H) → Nat
  | [] => 0
  | x :: r => uptoBulkEntry x + uptoBulkEntries r
def uptoBulkEntry {H : Type} : Lit × DataW H → Nat
  | (.string bytes, d) => bytes.length + uptoBulk d + 1
  | (_, d) => uptoBulk d + 1
 end
def uptoSmall : (H : Type) → List (DataW H) → Bool := fun _ ds => decide (uptoBulkAll ds ≤ 1048576)
def OpenSpec.upto (s : _root_.Go.ChangeSpec) : _root_.Go.OpenSpec := { _root_.Go.OpenSpec.ofChange s with cond := some uptoSmall }

/-- 'causeylaw06.PrefixTells', WHERE WHAT IT READS IS OF BULK AT MOST 1048576: true; the input reads as it did. -/
def prefixTellsUptoRow : OpenClaim := { program := "ytelmcjiamciklaa", sum := "1ec265c38083600c5206af7fe8795573ce753b27b27bbd2cf354a9c2681c5726", func := "causey/causeylaw06.PrefixTells", spec := "prefixTells", unfollowed := true, recurses := true, apart := false, narrowed := true }
def PrefixTellsUptoSaid : Prop := prefixTellsUptoRow.holds Try.pinned (OpenSpec.upto prefixTellsSpec)

/-- 'causeylaw06.PrefixBack', WHERE WHAT IT READS IS OF BULK AT MOST 1048576: true; the input reads as it did. -/
def prefixBackUptoRow : OpenClaim := { program := "ytelmcjiamciklaa", sum := "1ec265c38083600c5206af7fe8795573ce753b27b27bbd2cf354a9c2681c5726", func := "causey/causeylaw06.PrefixBack", spec := "prefixBack", unfollowed := true, recurses := true, apart := false, narrowed := true }
def PrefixBackUptoSaid : Prop := prefixBackUptoRow.holds Try.pinned (OpenSpec.upto prefixBackSpec)

/-- 'causeylaw06.PrefixOnly', WHERE WHAT IT READS IS OF BULK AT MOST 1048576: true; the input reads as it did. -/
def prefixOnlyUptoRow : OpenClaim := { program := "ytelmcjiamciklaa", sum := "1ec265c38083600c5206af7fe8795573ce753b27b27bbd2cf354a9c2681c5726", func := "causey/causeylaw06.PrefixOnly", spec := "prefixOnly", unfollowed := true, recurses := true, apart := false, narrowed := true }
def PrefixOnlyUptoSaid : Prop := prefixOnlyUptoRow.holds Try.pinned (OpenSpec.upto prefixOnlySpec)

/-- 'causeylaw06.PrefixSizes', WHERE WHAT IT READS IS OF BULK AT MOST 1048576: true; the input reads as it did. -/
def prefixSizesUptoRow : OpenClaim := { program := "ytelmcjiamciklaa", sum := "1ec265c38083600c5206af7fe8795573ce753b27b27bbd2cf354a9c2681c5726", func := "causey/causeylaw06.PrefixSizes", spec := "prefixSizes", unfollowed := true, recurses := true, apart := false, narrowed := true }
def PrefixSizesUptoSaid : Prop := prefixSizesUptoRow.holds Try.pinned (OpenSpec.upto prefixSizesSpec)

end Rows
end Go.Proofs.Ytelmcjiamciklaa
