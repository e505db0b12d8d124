/- The document's Stream. -/
import Derived.Test.YthcnfalfhdeflaaOr
namespace Go.Proofs.Ythcnfalfhdeflaa
open Go.RowKit Go.Shelf
set_option linter.unusedVariables false

theorem rOStream (A : Option Addr) (n c : Nat) (l : List Int) (a : Int) (w : World) (a1 : a ≤ 9223372036854775807) (h : Byt w A n c l) :
    Calls Try.prog 27 #[.slice A n c, .int .i64 a] w (Ret (.tuple #[.int .i64 (streamO l a), .int .i64 (takeO l a 4).2]) w) := by
  have hbd := takeO_bd h.bs a 4
  have ht := rOTake A n c l a 4 w a1 h
  unfold streamO
  generalize (takeO l a 4).1 = V at *
  generalize (takeO l a 4).2 = e' at *
  obtain ⟨v0, v1⟩ := hbd
  have HT := Lib.hid ht
  clear ht h
  go_enter Try.func27, Try.ntmps27
  go_wp2_with (go_at_call 26; refine HT.out.mono ?_; rintro e w' ⟨rfl, rfl⟩)
  go_ret2
  exact ⟨rfl, rfl⟩
end Go.Proofs.Ythcnfalfhdeflaa
