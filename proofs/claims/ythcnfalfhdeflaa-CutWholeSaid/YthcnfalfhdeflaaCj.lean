/- A chunk is read: Feed's whole contract. -/
import Derived.Test.YthcnfalfhdeflaaCh
import Derived.Test.YthcnfalfhdeflaaCi
namespace Go.Proofs.Ythcnfalfhdeflaa
open Go.RowKit Go.Shelf
set_option linter.unusedVariables false

theorem fFeed (p : Int) (p0 : -9223372036854775808 ≤ p ∧ p ≤ 9223372036854775807) (A : Option Addr) (n c : Nat) (l : List Int) (B : Option Addr) (m d : Nat) (ch : List Int) (w : World) (h : Byt w A n c l) (hc : Byt w B m d ch) (hn : n ≤ 50000) (hm : m ≤ 50000) (yes : RightC p l) :
    Calls Try.prog 9 #[.agg #[.int .i64 p, .slice A n c], .slice B m d] w (FeedP (feedC p l ch).p (feedC p l ch).l (feedC p l ch).ps (feedC p l ch).fw (feedC p l ch).fc 0 w) := by
  rcases hk : preK p ch with ⟨q, r, b⟩
  cases b
  · rcases hc2 : cutC (l ++ r) with ⟨ps, rest, lg⟩
    have e : feedC p l ch = ⟨q, rest, ps, lg, if lg then 6 else 0⟩ := by
      unfold feedC
      rw [hk]
      simp [hc2]
    rw [e]
    by_cases hr : r = []
    · exact feedRangeK p p0 A n c l B m d ch w h hc hn hm yes q r hk hr ps rest lg hc2 _ rfl
    · exact feedRangeQ p p0 A n c l B m d ch w h hc hn hm yes q r hk hr ps rest lg hc2 _ rfl
  · have e : feedC p l ch = ⟨q, l, [], true, 1⟩ := by
      unfold feedC
      rw [hk]
      simp
    rw [e]
    exact feedBreak p p0 A n c l B m d ch w h hc hn hm yes q r hk
end Go.Proofs.Ythcnfalfhdeflaa
