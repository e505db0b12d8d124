/- The contract of the statements' own same. -/
import Derived.Test.YteghfgjdicmknaaHp
import Derived.Test.YteghfgjdicmknaaS
namespace Go.Proofs.Yteghfgjdicmknaa
open Go.RowKit Go.Shelf
set_option linter.unusedVariables false

theorem fSame (A : Option Addr) (n c : Nat) (l : List Int) (B : Option Addr) (m d : Nat) (l' : List Int) (w : World) (h : Byt w A n c l) (h' : Byt w B m d l') :
    Calls Try.prog 12 #[.slice A n c, .slice B m d] w (Ret (.bool (eqB l l')) w) := by
  have e1 := h.conv
  have e2 := h'.conv
  have e3 := strOf_eq h.bs h'.bs
  have H := Lib.hid h
  have H' := Lib.hid h'
  clear h h'
  go_enter Try.func12, Try.ntmps12
  go_wp2
  go_ret
  exact ⟨rfl, rfl⟩

theorem fSameT {A : Option Addr} {n c : Nat} (l : List Int) {B : Option Addr} {m d : Nat} (w : World) (h : Byt w A n c l) (h' : Byt w B m d l) :
    Calls Try.prog 12 #[.slice A n c, .slice B m d] w (Ret (.bool true) w) := by
  refine (fSame A n c l B m d l w h h').mono fun e W' hp => ?_
  rwa [show eqB l l = true by unfold eqB; simp] at hp
end Go.Proofs.Yteghfgjdicmknaa
