/-
  No cell of these rows narrows 'for every input' (looked for: loops, veiled, ifaces, maps, wideKeys, modest, calm, conditions, laid).
  DERIVED. THE GIVEN ROWS OF THIS SEAT. 4 by the template 'for every input the law returns true; each argument reads behind the call as it read before'; 0 by the template 'total and deterministic' (their statements: YtaaeflomjcpfpaaTotals.lean).
  GIVEN WITH THE SEED: the statements are not yours to turn. If you find one false, say at which input.
  Laid BY PROGRAM, IN A SANDBOX (cutbox-rows.mjs): the forced cells as the released guide's own fill.sh prints them over the translation 9bcd2aef1d1fa650… (all of the seat's roots in one cut). By AI agents, Wed Nov 11 2026. No macro, syntax, notation, axiom, sorry.
-/
import Derived.Test.YtaaeflomjcpfpaaChecked
import GoSem.Claim
import GoSem.ClaimJoined
import GoSem.ClaimMapViews
import Derived.JoinedTies
import Derived.KernelRfl
namespace Go.Proofs.Ytaaeflomjcpfpaa
/- THE CELL 'sum', in the pinned program and in every row, IS THE sha256 OF THE DUMP (.gsa) THAT YtaaeflomjcpfpaaProg.lean LOADS. Nothing in Lean hashes anything: it is a label: what it is worth is what the hold of that sum in a sandbox is worth. -/
noncomputable def Try.pinned : Pinned := { name := "ytaaeflomjcpfpaa", sum := "9bcd2aef1d1fa6501a30a7b1fd91ee3a7c51a1f8b53d69c37363afbe30cd3bd4", checked := Try.checked }
namespace Rows
def none {H : Type} : Left H := { results := [], args := [] }

/-- 'causeylaw22.StreamTells': WHATEVER THE INPUT: true; the input reads as it did. -/
def streamTellsSpec : ChangeSpec := { name := "streamTells", fn := fun _ => fun
  | [d1, d2, d3, d4, d5, d6, d7, d8] => { results := [.lit (.bool true)], args := [d1, d2, d3, d4, d5, d6, d7, d8] }
  | _ => none }
def streamTellsRow : OpenClaim := { program := "ytaaeflomjcpfpaa", sum := "9bcd2aef1d1fa6501a30a7b1fd91ee3a7c51a1f8b53d69c37363afbe30cd3bd4", func := "causey/causeylaw22.StreamTells", spec := "streamTells", unfollowed := true, recurses := true, plainKeys := false, apart := false }
def StreamTellsSaid : Prop := streamTellsRow.holds Try.pinned (OpenSpec.ofChange streamTellsSpec)

/-- ITS FALSE NEIGHBOUR: 'it returns false'. Refute it at one input. -/
def streamTellsWrong : ChangeSpec := { name := "streamTells", fn := fun _ => fun
  | [d1, d2, d3, d4, d5, d6, d7, d8] => { results := [.lit (.bool false)], args := [d1, d2, d3, d4, d5, d6, d7, d8] }
  | _ => none }
def StreamTellsWrongFalsely : Prop := streamTellsRow.holds Try.pinned (OpenSpec.ofChange streamTellsWrong)

/-- 'causeylaw22.StreamEnds': WHATEVER THE INPUT: true; the input reads as it did. -/
def streamEndsSpec : ChangeSpec := { name := "streamEnds", fn := fun _ => fun
  | [d1, d2] => { results := [.lit (.bool true)], args := [d1, d2] }
  | _ => none }
def streamEndsRow : OpenClaim := { program := "ytaaeflomjcpfpaa", sum := "9bcd2aef1d1fa6501a30a7b1fd91ee3a7c51a1f8b53d69c37363afbe30cd3bd4", func := "causey/causeylaw22.StreamEnds", spec := "streamEnds", unfollowed := true, recurses := true, plainKeys := false, apart := false }
def StreamEndsSaid : Prop := streamEndsRow.holds Try.pinned (OpenSpec.ofChange streamEndsSpec)

/-- ITS FALSE NEIGHBOUR: 'it returns false'. Refute it at one input. -/
def streamEndsWrong : ChangeSpec := { name := "streamEnds", fn := fun _ => fun
  | [d1, d2] => { results := [.lit (.bool false)], args := [d1, d2] }
  | _ => none }
def StreamEndsWrongFalsely : Prop := streamEndsRow.holds Try.pinned (OpenSpec.ofChange streamEndsWrong)

/-- 'causeylaw22.StreamStays': WHATEVER THE INPUT: true; the input reads as it did. -/
def streamStaysSpec : ChangeSpec := { name := "streamStays", fn := fun _ => fun
  | [d1, d2] => { results := [.lit (.bool true)], args := [d1, d2] }
  | _ => none }
def streamStaysRow : OpenClaim := { program := "ytaaeflomjcpfpaa", sum := "9bcd2aef1d1fa6501a30a7b1fd91ee3a7c51a1f8b53d69c37363afbe30cd3bd4", func := "causey/causeylaw22.StreamStays", spec := "streamStays", unfollowed := true, recurses := true, plainKeys := false, apart := false }
def StreamStaysSaid : Prop := streamStaysRow.holds Try.pinned (OpenSpec.ofChange streamStaysSpec)

/-- ITS FALSE NEIGHBOUR: 'it returns false'. Refute it at one input. -/
def streamStaysWrong : ChangeSpec := { name := "streamStays", fn := fun _ => fun
  | [d1, d2] => { results := [.lit (.bool false)], args := [d1, d2] }
  | _ => none }
def StreamStaysWrongFalsely : Prop := streamStaysRow.holds Try.pinned (OpenSpec.ofChange streamStaysWrong)

/-- 'causeylaw22.StreamFlow': WHATEVER THE INPUT: true; the input reads as it did. -/
def streamFlowSpec : ChangeSpec := { name := "streamFlow", fn := fun _ => fun
  | [d1, d2, d3] => { results := [.lit (.bool true)], args := [d1, d2, d3] }
  | _ => none }
def streamFlowRow : OpenClaim := { program := "ytaaeflomjcpfpaa", sum := "9bcd2aef1d1fa6501a30a7b1fd91ee3a7c51a1f8b53d69c37363afbe30cd3bd4", func := "causey/causeylaw22.StreamFlow", spec := "streamFlow", unfollowed := true, recurses := true, plainKeys := false, apart := false }
def StreamFlowSaid : Prop := streamFlowRow.holds Try.pinned (OpenSpec.ofChange streamFlowSpec)

/-- ITS FALSE NEIGHBOUR: 'it returns false'. Refute it at one input. -/
def streamFlowWrong : ChangeSpec := { name := "streamFlow", fn := fun _ => fun
  | [d1, d2, d3] => { results := [.lit (.bool false)], args := [d1, d2, d3] }
  | _ => none }
def StreamFlowWrongFalsely : Prop := streamFlowRow.holds Try.pinned (OpenSpec.ofChange streamFlowWrong)

/- THE SECOND FORM. 'bulk': how many values and letters a reading holds, each counted each time it is reached (what is shared counts as often as it is met; a slice's spare places count too). A statement '..UptoSaid' is the law's where the arguments, and the package variables that the reading takes, are together of bulk at most 1048576: NARROWER than '..Said'. Prove '..Said' where nothing that the law and all that it calls make is longer than what came in: it says more and counts as full. Else prove '..UptoSaid'. A law counts once. -/
mutual
def uptoBulk {H : Type} : DataW H → Nat
  | .lit (.string bytes) => bytes.length + 1
  | .lit _ => 1
  | .nil => 1
  | .ptr d => uptoBulk d + 1
  | .slice elems spare => uptoBulkAll elems + uptoBulkAll spare + 1
  | .agg parts => uptoBulkAll parts + 1
  | .iface _ d => uptoBulk d + 1
  | .map entries => uptoBulkEntries entries + 1
  | .held _ => 1
def uptoBulkAll {H : Type} : List (DataW H) → Nat
  | [] => 0
  | d :: r => uptoBulk d + uptoBulkAll r
def uptoBulkEntries {H : Type} : List (Lit × DataW H) → Nat
  | [] => 0
  | x :: r => uptoBulkEntry x + uptoBulkEntries r
def uptoBulkEntry {H : Type} : Lit × DataW H → Nat
  | (.string bytes, d) => bytes.length + uptoBulk d + 1
  | (_, d) => uptoBulk d + 1
 end
def uptoSmall : (H : Type) → List (DataW H) → Bool := fun _ ds => decide (uptoBulkAll ds ≤ 1048576)
def OpenSpec.upto (s : _root_.Go.ChangeSpec) : _root_.Go.OpenSpec := { _root_.Go.OpenSpec.ofChange s with cond := some uptoSmall }

/-- 'causeylaw22.StreamTells', WHERE WHAT IT READS IS OF BULK AT MOST 1048576: true; the input reads as it did. -/
def streamTellsUptoRow : OpenClaim := { program := "ytaaeflomjcpfpaa", sum := "9bcd2aef1d1fa6501a30a7b1fd91ee3a7c51a1f8b53d69c37363afbe30cd3bd4", func := "causey/causeylaw22.StreamTells", spec := "streamTells", unfollowed := true, recurses := true, plainKeys := false, apart := false, narrowed := true }
def StreamTellsUptoSaid : Prop := streamTellsUptoRow.holds Try.pinned (OpenSpec.upto streamTellsSpec)

/-- 'causeylaw22.StreamEnds', WHERE WHAT IT READS IS OF BULK AT MOST 1048576: true; the input reads as it did. -/
def streamEndsUptoRow : OpenClaim := { program := "ytaaeflomjcpfpaa", sum := "9bcd2aef1d1fa6501a30a7b1fd91ee3a7c51a1f8b53d69c37363afbe30cd3bd4", func := "causey/causeylaw22.StreamEnds", spec := "streamEnds", unfollowed := true, recurses := true, plainKeys := false, apart := false, narrowed := true }
def StreamEndsUptoSaid : Prop := streamEndsUptoRow.holds Try.pinned (OpenSpec.upto streamEndsSpec)

/-- 'causeylaw22.StreamStays', WHERE WHAT IT READS IS OF BULK AT MOST 1048576: true; the input reads as it did. -/
def streamStaysUptoRow : OpenClaim := { program := "ytaaeflomjcpfpaa", sum := "9bcd2aef1d1fa6501a30a7b1fd91ee3a7c51a1f8b53d69c37363afbe30cd3bd4", func := "causey/causeylaw22.StreamStays", spec := "streamStays", unfollowed := true, recurses := true, plainKeys := false, apart := false, narrowed := true }
def StreamStaysUptoSaid : Prop := streamStaysUptoRow.holds Try.pinned (OpenSpec.upto streamStaysSpec)

/-- 'causeylaw22.StreamFlow', WHERE WHAT IT READS IS OF BULK AT MOST 1048576: true; the input reads as it did. -/
def streamFlowUptoRow : OpenClaim := { program := "ytaaeflomjcpfpaa", sum := "9bcd2aef1d1fa6501a30a7b1fd91ee3a7c51a1f8b53d69c37363afbe30cd3bd4", func := "causey/causeylaw22.StreamFlow", spec := "streamFlow", unfollowed := true, recurses := true, plainKeys := false, apart := false, narrowed := true }
def StreamFlowUptoSaid : Prop := streamFlowUptoRow.holds Try.pinned (OpenSpec.upto streamFlowSpec)

end Rows
end Go.Proofs.Ytaaeflomjcpfpaa
