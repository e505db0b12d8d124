/- The contracts of Same, of bytes.Equal. -/
import Derived.Test.YthcnfalfhdeflaaS
import Derived.Test.YthcnfalfhdeflaaR
namespace Go.Proofs.Ythcnfalfhdeflaa
open Go.RowKit Go.Shelf
set_option linter.unusedVariables false

theorem rOSame (A : Option Addr) (n c : Nat) (l : List Int) (B : Option Addr) (m d : Nat) (l' : List Int) (w : World) (h : Byt w A n c l) (h' : Byt w B m d l') :
    Calls Try.prog 13 #[.slice A n c, .slice B m d] w (Ret (.bool (eqB l l')) w) := by
  have e1 := h.conv
  have e2 := h'.conv
  have e3 := strOf_eq h.bs h'.bs
  have H := Lib.hid h
  have H' := Lib.hid h'
  clear h h'
  go_enter Try.func13, Try.ntmps13
  go_wp2
  go_ret
  exact ⟨rfl, rfl⟩
end Go.Proofs.Ythcnfalfhdeflaa
