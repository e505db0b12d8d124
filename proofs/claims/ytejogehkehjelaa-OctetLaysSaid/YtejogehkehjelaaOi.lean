/- The contracts of Same, of bytes.Equal. -/
import Derived.Test.YtejogehkehjelaaOh
import Derived.Test.YtejogehkehjelaaS
namespace Go.Proofs.Ytejogehkehjelaa
open Go.RowKit Go.Shelf
set_option linter.unusedVariables false

theorem rOSame (A : Option Addr) (n c : Nat) (l : List Int) (B : Option Addr) (m d : Nat) (l' : List Int) (w : World) (h : Byt w A n c l) (h' : Byt w B m d l') :
    Calls Try.prog 15 #[.slice A n c, .slice B m d] w (Ret (.bool (eqB l l')) w) := by
  have e1 := h.conv
  have e2 := h'.conv
  have e3 := strOf_eq h.bs h'.bs
  have H := Lib.hid h
  have H' := Lib.hid h'
  clear h h'
  go_enter Try.func15, Try.ntmps15
  go_wp2
  go_ret
  exact ⟨rfl, rfl⟩

theorem fEqual (A : Option Addr) (n c : Nat) (l : List Int) (B : Option Addr) (m d : Nat) (l' : List Int) (w : World) (h : Byt w A n c l) (h' : Byt w B m d l') :
    Calls Try.prog 27 #[.slice A n c, .slice B m d] w (Ret (.bool (eqB l l')) w) := by
  have e1 := h.conv
  have e2 := h'.conv
  have e3 := strOf_eq h.bs h'.bs
  have H := Lib.hid h
  have H' := Lib.hid h'
  clear h h'
  go_enter Try.func27, Try.ntmps27
  go_wp2
  go_ret
  exact ⟨rfl, rfl⟩

theorem fOSame (A : Option Addr) (n c : Nat) (l : List Int) (B : Option Addr) (m d : Nat) (l' : List Int) (w : World) (h : Byt w A n c l) (h' : Byt w B m d l') :
    Calls Try.prog 22 #[.slice A n c, .slice B m d] w (Ret (.bool (eqB l l')) w) := by
  have hf := fEqual A n c l B m d l' w h h'
  generalize eqB l l' = b at *
  have HF := Lib.hid hf
  clear hf h h'
  go_enter Try.func22, Try.ntmps22
  go_wp2_with (go_at_call 27; refine HF.out.mono ?_; rintro e w' ⟨rfl, rfl⟩)
  go_ret
  exact ⟨rfl, rfl⟩
end Go.Proofs.Ytejogehkehjelaa
