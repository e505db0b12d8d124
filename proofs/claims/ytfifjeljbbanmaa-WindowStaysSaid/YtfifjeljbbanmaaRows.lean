/-
  No cell of these rows narrows 'for every input' (looked for: loops, veiled, ifaces, maps, wideKeys, modest, calm, conditions, laid).
  DERIVED. THE GIVEN ROWS OF THIS SEAT. 4 by the template 'for every input the law returns true; each argument reads behind the call as it read before'; 0 by the template 'total and deterministic' (their statements: YtfifjeljbbanmaaTotals.lean).
  GIVEN WITH THE SEED: the statements are not yours to turn. If you find one false, say at which input.
  Laid BY PROGRAM, IN A SANDBOX (cutbox-rows.mjs): the forced cells as the released guide's own fill.sh prints them over the translation fae5fb8b5c4c1183… (all of the seat's roots in one cut). By AI agents, Wed Nov 11 2026. No macro, syntax, notation, axiom, sorry.
-/
import Derived.Test.YtfifjeljbbanmaaChecked
import GoSem.Claim
import GoSem.ClaimJoined
import GoSem.ClaimMapViews
import Derived.JoinedTies
import Derived.KernelRfl
namespace Go.Proofs.Ytfifjeljbbanmaa
/- THE CELL 'sum', in the pinned program and in every row, IS THE sha256 OF THE DUMP (.gsa) THAT YtfifjeljbbanmaaProg.lean LOADS. Nothing in Lean hashes anything: it is a label: what it is worth is what the hold of that sum in a sandbox is worth. -/
noncomputable def Try.pinned : Pinned := { name := "ytfifjeljbbanmaa", sum := "fae5fb8b5c4c1183626431cc78b56dee645116bf2ea6a8eada3a952026f671de", checked := Try.checked }
namespace Rows
def none {H : Type} : Left H := { results := [], args := [] }

/-- 'causeylaw20.WindowTells': WHATEVER THE INPUT: true; the input reads as it did. -/
def windowTellsSpec : ChangeSpec := { name := "windowTells", fn := fun _ => fun
  | [d1, d2, d3, d4, d5] => { results := [.lit (.bool true)], args := [d1, d2, d3, d4, d5] }
  | _ => none }
def windowTellsRow : OpenClaim := { program := "ytfifjeljbbanmaa", sum := "fae5fb8b5c4c1183626431cc78b56dee645116bf2ea6a8eada3a952026f671de", func := "causey/causeylaw20.WindowTells", spec := "windowTells", unfollowed := true, recurses := true, apart := false }
def WindowTellsSaid : Prop := windowTellsRow.holds Try.pinned (OpenSpec.ofChange windowTellsSpec)

/-- ITS FALSE NEIGHBOUR: 'it returns false'. Refute it at one input. -/
def windowTellsWrong : ChangeSpec := { name := "windowTells", fn := fun _ => fun
  | [d1, d2, d3, d4, d5] => { results := [.lit (.bool false)], args := [d1, d2, d3, d4, d5] }
  | _ => none }
def WindowTellsWrongFalsely : Prop := windowTellsRow.holds Try.pinned (OpenSpec.ofChange windowTellsWrong)

/-- 'causeylaw20.WindowBack': WHATEVER THE INPUT: true; the input reads as it did. -/
def windowBackSpec : ChangeSpec := { name := "windowBack", fn := fun _ => fun
  | [d1, d2] => { results := [.lit (.bool true)], args := [d1, d2] }
  | _ => none }
def windowBackRow : OpenClaim := { program := "ytfifjeljbbanmaa", sum := "fae5fb8b5c4c1183626431cc78b56dee645116bf2ea6a8eada3a952026f671de", func := "causey/causeylaw20.WindowBack", spec := "windowBack", unfollowed := true, recurses := true, apart := false }
def WindowBackSaid : Prop := windowBackRow.holds Try.pinned (OpenSpec.ofChange windowBackSpec)

/-- ITS FALSE NEIGHBOUR: 'it returns false'. Refute it at one input. -/
def windowBackWrong : ChangeSpec := { name := "windowBack", fn := fun _ => fun
  | [d1, d2] => { results := [.lit (.bool false)], args := [d1, d2] }
  | _ => none }
def WindowBackWrongFalsely : Prop := windowBackRow.holds Try.pinned (OpenSpec.ofChange windowBackWrong)

/-- 'causeylaw20.WindowStays': WHATEVER THE INPUT: true; the input reads as it did. -/
def windowStaysSpec : ChangeSpec := { name := "windowStays", fn := fun _ => fun
  | [d1, d2] => { results := [.lit (.bool true)], args := [d1, d2] }
  | _ => none }
def windowStaysRow : OpenClaim := { program := "ytfifjeljbbanmaa", sum := "fae5fb8b5c4c1183626431cc78b56dee645116bf2ea6a8eada3a952026f671de", func := "causey/causeylaw20.WindowStays", spec := "windowStays", unfollowed := true, recurses := true, apart := false }
def WindowStaysSaid : Prop := windowStaysRow.holds Try.pinned (OpenSpec.ofChange windowStaysSpec)

/-- ITS FALSE NEIGHBOUR: 'it returns false'. Refute it at one input. -/
def windowStaysWrong : ChangeSpec := { name := "windowStays", fn := fun _ => fun
  | [d1, d2] => { results := [.lit (.bool false)], args := [d1, d2] }
  | _ => none }
def WindowStaysWrongFalsely : Prop := windowStaysRow.holds Try.pinned (OpenSpec.ofChange windowStaysWrong)

/-- 'causeylaw20.WindowCut': WHATEVER THE INPUT: true; the input reads as it did. -/
def windowCutSpec : ChangeSpec := { name := "windowCut", fn := fun _ => fun
  | [d1, d2, d3, d4, d5] => { results := [.lit (.bool true)], args := [d1, d2, d3, d4, d5] }
  | _ => none }
def windowCutRow : OpenClaim := { program := "ytfifjeljbbanmaa", sum := "fae5fb8b5c4c1183626431cc78b56dee645116bf2ea6a8eada3a952026f671de", func := "causey/causeylaw20.WindowCut", spec := "windowCut", unfollowed := true, recurses := true, apart := false }
def WindowCutSaid : Prop := windowCutRow.holds Try.pinned (OpenSpec.ofChange windowCutSpec)

/-- ITS FALSE NEIGHBOUR: 'it returns false'. Refute it at one input. -/
def windowCutWrong : ChangeSpec := { name := "windowCut", fn := fun _ => fun
  | [d1, d2, d3, d4, d5] => { results := [.lit (.bool false)], args := [d1, d2, d3, d4, d5] }
  | _ => none }
def WindowCutWrongFalsely : Prop := windowCutRow.holds Try.pinned (OpenSpec.ofChange windowCutWrong)

/- THE SECOND FORM. 'bulk': how many values and letters a reading holds, each counted each time it is reached (what is shared counts as often as it is met; a slice's spare places count too). A statement '..UptoSaid' is the law's where the arguments, and the package variables that the reading takes, are together of bulk at most 1048576: NARROWER than '..Said'. Prove '..Said' where nothing that the law and all that it calls make is longer than what came in: it says more and counts as full. Else prove '..UptoSaid'. A law counts once. -/
mutual
def uptoBulk {H : Type} : DataW H → Nat
  | .lit (.string bytes) => bytes.length + 1
  | .lit _ => 1
  | .nil => 1
  | .ptr d => uptoBulk d + 1
  | .slice elems spare => uptoBulkAll elems + uptoBulkAll spare + 1
  | .agg parts => uptoBulkAll parts + 1
  | .iface _ d => uptoBulk d + 1
  | .map entries => uptoBulkEntries entries + 1
  | .held _ => 1
def uptoBulkAll {H : Type} : List (DataW H) → Nat
  | [] => 0
  | d :: r => uptoBulk d + uptoBulkAll r
def uptoBulkEntries {H : Type} : List (Lit × DataW H) → Nat
  | [] => 0
  | x :: r => uptoBulkEntry x + uptoBulkEntries r
def uptoBulkEntry {H : Type} : Lit × DataW H → Nat
  | (.string bytes, d) => bytes.length + uptoBulk d + 1
  | (_, d) => uptoBulk d + 1
 end
def uptoSmall : (H : Type) → List (DataW H) → Bool := fun _ ds => decide (uptoBulkAll ds ≤ 1048576)
def OpenSpec.upto (s : _root_.Go.ChangeSpec) : _root_.Go.OpenSpec := { _root_.Go.OpenSpec.ofChange s with cond := some uptoSmall }

/-- 'causeylaw20.WindowTells', WHERE WHAT IT READS IS OF BULK AT MOST 1048576: true; the input reads as it did. -/
def windowTellsUptoRow : OpenClaim := { program := "ytfifjeljbbanmaa", sum := "fae5fb8b5c4c1183626431cc78b56dee645116bf2ea6a8eada3a952026f671de", func := "causey/causeylaw20.WindowTells", spec := "windowTells", unfollowed := true, recurses := true, apart := false, narrowed := true }
def WindowTellsUptoSaid : Prop := windowTellsUptoRow.holds Try.pinned (OpenSpec.upto windowTellsSpec)

/-- 'causeylaw20.WindowBack', WHERE WHAT IT READS IS OF BULK AT MOST 1048576: true; the input reads as it did. -/
def windowBackUptoRow : OpenClaim := { program := "ytfifjeljbbanmaa", sum := "fae5fb8b5c4c1183626431cc78b56dee645116bf2ea6a8eada3a952026f671de", func := "causey/causeylaw20.WindowBack", spec := "windowBack", unfollowed := true, recurses := true, apart := false, narrowed := true }
def WindowBackUptoSaid : Prop := windowBackUptoRow.holds Try.pinned (OpenSpec.upto windowBackSpec)

/-- 'causeylaw20.WindowStays', WHERE WHAT IT READS IS OF BULK AT MOST 1048576: true; the input reads as it did. -/
def windowStaysUptoRow : OpenClaim := { program := "ytfifjeljbbanmaa", sum := "fae5fb8b5c4c1183626431cc78b56dee645116bf2ea6a8eada3a952026f671de", func := "causey/causeylaw20.WindowStays", spec := "windowStays", unfollowed := true, recurses := true, apart := false, narrowed := true }
def WindowStaysUptoSaid : Prop := windowStaysUptoRow.holds Try.pinned (OpenSpec.upto windowStaysSpec)

/-- 'causeylaw20.WindowCut', WHERE WHAT IT READS IS OF BULK AT MOST 1048576: true; the input reads as it did. -/
def windowCutUptoRow : OpenClaim := { program := "ytfifjeljbbanmaa", sum := "fae5fb8b5c4c1183626431cc78b56dee645116bf2ea6a8eada3a952026f671de", func := "causey/causeylaw20.WindowCut", spec := "windowCut", unfollowed := true, recurses := true, apart := false, narrowed := true }
def WindowCutUptoSaid : Prop := windowCutUptoRow.holds Try.pinned (OpenSpec.upto windowCutSpec)

end Rows
end Go.Proofs.Ytfifjeljbbanmaa
