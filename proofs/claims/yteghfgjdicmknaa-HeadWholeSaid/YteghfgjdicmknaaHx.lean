/- The contract of head.Whole, in the taken head's words. -/
import Derived.Test.YteghfgjdicmknaaHw
namespace Go.Proofs.Yteghfgjdicmknaa
open Go.RowKit Go.Shelf
set_option linter.unusedVariables false

def wOk (l : List Int) : Bool := decide (9 ≤ l.length ∧ hL l ≤ ((hR l).length : Int))
def wE (l : List Int) : Int := if wOk l then 0 else 10
def wP (l : List Int) : List Int := if wOk l then (hR l).take (hL l).toNat else []
def wR (l : List Int) : List Int := if wOk l then (hR l).drop (hL l).toNat else []
def WholeP (l : List Int) (w : World) : Ending → World → Prop := WholeQ (hL l) (hK l) (hF l) (hS l) (wP l) (wR l) (wE l) w
theorem hL_bd {l : List Int} (h : Bs l) : 0 ≤ hL l ∧ hL l < 16777216 := by
  unfold hL
  split
  · exact ⟨by decide, by decide⟩
  · rename_i hn
    unfold takeO
    rw [if_pos (by decide), if_pos (by omega)]
    exact ⟨(num_bd ((h.drop _).take _)).1, num_le ((h.drop _).take _) (by rw [List.length_take]; exact Nat.min_le_left _ _)⟩
theorem hR_len (l : List Int) : (hR l).length ≤ l.length := by
  unfold hR
  split
  · simp
  · rw [List.length_drop]; omega

theorem fHWhole (A : Option Addr) (n c : Nat) (l : List Int) (w : World) (h : Byt w A n c l) (hn2 : n ≤ 140737488355328) :
    Calls Try.prog 13 #[.slice A n c] w (WholeP l w) := by
  have hl := h.len
  have hbd := hL_bd h.bs
  have hrl := hR_len l
  have HT : Hid (∀ X, Calls Try.prog 10 #[.slice A n c] (w.alloc X) (TakeQ (hL l) (hK l) (hF l) (hS l) (hR l) (hE l) (w.alloc X))) := Lib.hid fun X => fHTake A n c l (w.alloc X) (h.alloc X) hn2
  unfold WholeP wP wR wE
  cases ok : wOk l
  · have no := of_decide_eq_false ok
    refine hwNo A n c w _ _ _ _ _ _ HT ?_
    by_cases h9 : l.length < 9
    · exact .inl (by unfold hE; rw [if_pos h9])
    · exact .inr ⟨by unfold hE; rw [if_neg h9], by omega⟩
  · have yes := of_decide_eq_true ok
    have hE0 : hE l = 0 := by unfold hE; rw [if_neg (by omega)]
    rw [hE0] at HT
    generalize hL l = L at *
    generalize hR l = R at *
    obtain ⟨L, rfl⟩ := toNat_lit hbd.1
    simp only [Int.toNat_natCast, if_true]
    by_cases h0 : L = 0
    · subst h0
      simp only [List.take_zero, List.drop_zero]
      exact hwZero A n c w _ _ _ R HT (by omega)
    · exact hwYes A n c w L _ _ _ R HT (by omega) (by omega) (by omega)
end Go.Proofs.Yteghfgjdicmknaa
