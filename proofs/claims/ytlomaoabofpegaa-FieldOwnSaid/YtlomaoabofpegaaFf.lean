/- Whether settings are the same: the contracts. -/
import Derived.Test.YtlomaoabofpegaaFe
import Derived.Deep.QuietTactic
import Derived.BigQuiet
namespace Go.Proofs.Ytlomaoabofpegaa
open Go.RowKit Go.Shelf
set_option linter.unusedVariables false

def eqP (l m : List (Int × Int)) : Bool := l == m
theorem eqP_of {l m : List (Int × Int)} {n : Nat} (hl : l.length = n) (hm : m.length = n) (h : ∀ j, j < n → pid l j = pid m j ∧ pva l j = pva m j) : eqP l m = true := by
  unfold eqP
  rw [beq_iff_eq]
  refine List.ext_getElem (by omega) fun j h1 h2 => ?_
  have := h j (by omega)
  unfold pid pva at this
  rw [List.getElem?_eq_getElem h1, List.getElem?_eq_getElem h2] at this
  exact Prod.ext this.1 this.2
theorem eqP_ne {l m : List (Int × Int)} (j : Nat) (h : pid l j ≠ pid m j ∨ pva l j ≠ pva m j) : eqP l m = false := by
  unfold eqP
  rw [beq_eq_false_iff_ne]
  rintro rfl
  rcases h with h | h <;> exact h rfl
theorem eqP_len {l m : List (Int × Int)} (h : l.length ≠ m.length) : eqP l m = false := by
  unfold eqP
  rw [beq_eq_false_iff_ne]
  rintro rfl
  exact h rfl
theorem draws_bel {B : Nat} {w w' : World} (h : Below B w w') (n : Nat) : Below B w (w'.drewN n) := h.trans ⟨rfl, rfl, rfl, Nat.le_refl _, fun _ _ => rfl⟩

set_option maxHeartbeats 1600000 in
theorem fEqualP (A : Option Addr) (n c : Nat) (l : List (Int × Int)) (A' : Option Addr) (m c' : Nat) (l' : List (Int × Int)) (w : World) (h : Prs w A n c l) (h' : Prs w A' m c' l') :
    Calls Try.prog 32 #[.slice A n c, .slice A' m c'] w fun e W' => e = .returned (.bool (eqP l l')) ∧ Below w.heap.size w W' := by
  have hl := h.len
  have hl' := h'.len
  have hmx : n ≤ 9223372036854775807 := Nat.le_trans h.cap h.mx
  have hmx' : m ≤ 9223372036854775807 := Nat.le_trans h'.cap h'.mx
  by_cases hnm : n = m
  · subst hnm
    have HL := Lib.hid hl
    have HL' := Lib.hid hl'
    clear hl hl'
    go_enter Try.func32, Try.ntmps32
    go_wp2
    go_loopw [13] (fun i wr => ∃ k : Nat, k ≤ n ∧ i = .int .i64 k ∧ Hid (∀ j, j < k → pid l j = pid l' j ∧ pva l j = pva l' j) ∧ Below w.heap.size w wr) (fun i _ => n - (intOf i).toNat)
    case atStart => exact ⟨0, Nat.zero_le _, rfl, Lib.hid fun j hj => absurd hj (Nat.not_lt_zero _), Below.refl _ _⟩
    case round =>
      obtain ⟨k, hk, rfl, hz, hb⟩ := hrel
      by_cases hlt : k < n
      · obtain ⟨b, o, rfl, hbl, hc⟩ := (h.below hb).cell (by omega)
        obtain ⟨b', o', rfl, hbl', hc'⟩ := (h'.below hb).cell (by omega)
        obtain ⟨c1, c2⟩ := hc k hlt
        obtain ⟨c3, c4⟩ := hc' k hlt
        have hb2 := Lib.hid hb
        have i0 : (0 : Int) ≤ (k : Int) := by omega
        have i1 : (k : Int) < (n : Int) := by omega
        clear hc hc' hb h h'
        by_cases e1 : pid l k = pid l' k
        · by_cases e2 : pva l k = pva l' k
          · have hz2 : Hid (∀ j, j < k + 1 → pid l j = pid l' j ∧ pva l j = pva l' j) := Lib.hid fun j hj => by
              by_cases hjk : j = k
              · subst hjk; exact ⟨e1, e2⟩
              · exact hz.out j (by omega)
            rw [← e1] at c3
            rw [← e2] at c4
            clear e1 e2 hz
            generalize pid l k = x at *
            generalize pva l k = y at *
            go_wp2
            go_quiet (fail)
            go_wp2
            exact ⟨⟨k + 1, by omega, by simp, hz2, draws_bel hb2.out _⟩, by simp [intOf]; omega⟩
          · have HN := Lib.hid (eqP_ne k (.inr e2))
            rw [← e1] at c3
            clear e1 hz
            generalize pid l k = x at *
            generalize pva l k = y at *
            generalize pva l' k = y' at *
            have g2 : (y == y') = false := beq_eq_false_iff_ne.2 e2
            have g3 : (y != y') = true := bne_iff_ne.2 e2
            clear e2
            go_wp2
            go_quiet (fail)
            go_wp2
            go_ret
            exact ⟨by rw [HN.out]; rfl, draws_bel hb2.out _⟩
        · have HN := Lib.hid (eqP_ne k (.inl e1))
          clear hz
          generalize pid l k = x at *
          generalize pva l k = y at *
          generalize pid l' k = x' at *
          generalize pva l' k = y' at *
          have g2 : (x == x') = false := beq_eq_false_iff_ne.2 e1
          have g3 : (x != x') = true := bne_iff_ne.2 e1
          clear e1
          go_wp2
          go_quiet (fail)
          go_wp2
          go_ret
          exact ⟨by rw [HN.out]; rfl, draws_bel hb2.out _⟩
      · obtain rfl : n = k := by omega
        have HN := Lib.hid (eqP_of HL.out HL'.out hz.out)
        clear hz
        go_wp2
        go_ret
        exact ⟨by rw [HN.out]; rfl, hb⟩
  · have HN := Lib.hid (eqP_len (l := l) (m := l') (by omega))
    have e0 : ((n : Int) != (m : Int)) = true := by rw [bne_iff_ne]; omega
    clear hnm hl hl'
    go_enter Try.func32, Try.ntmps32
    go_wp2
    go_ret
    exact ⟨by rw [HN.out]; rfl, Below.refl _ _⟩

set_option maxHeartbeats 1600000 in
theorem rPairs (A : Option Addr) (n c : Nat) (l : List (Int × Int)) (A' : Option Addr) (m c' : Nat) (l' : List (Int × Int)) (w : World) (h : Prs w A n c l) (h' : Prs w A' m c' l') :
    Calls Try.prog 23 #[.slice A n c, .slice A' m c'] w fun e W' => e = .returned (.bool (eqP l l')) ∧ Below w.heap.size w W' := by
  have hl := h.len
  have hl' := h'.len
  have hmx : n ≤ 9223372036854775807 := Nat.le_trans h.cap h.mx
  have hmx' : m ≤ 9223372036854775807 := Nat.le_trans h'.cap h'.mx
  by_cases hnm : n = m
  · subst hnm
    have HL := Lib.hid hl
    have HL' := Lib.hid hl'
    clear hl hl'
    go_enter Try.func23, Try.ntmps23
    go_wp2
    go_loopw [5] (fun i wr => ∃ k : Nat, k ≤ n ∧ i = .int .i64 k ∧ Hid (∀ j, j < k → pid l j = pid l' j ∧ pva l j = pva l' j) ∧ Below w.heap.size w wr) (fun i _ => n - (intOf i).toNat)
    case atStart => exact ⟨0, Nat.zero_le _, rfl, Lib.hid fun j hj => absurd hj (Nat.not_lt_zero _), Below.refl _ _⟩
    case round =>
      obtain ⟨k, hk, rfl, hz, hb⟩ := hrel
      by_cases hlt : k < n
      · obtain ⟨b, o, rfl, hbl, hc⟩ := (h.below hb).cell (by omega)
        obtain ⟨b', o', rfl, hbl', hc'⟩ := (h'.below hb).cell (by omega)
        obtain ⟨c1, c2⟩ := hc k hlt
        obtain ⟨c3, c4⟩ := hc' k hlt
        have hb2 := Lib.hid hb
        have i0 : (0 : Int) ≤ (k : Int) := by omega
        have i1 : (k : Int) < (n : Int) := by omega
        clear hc hc' hb h h'
        by_cases e1 : pid l k = pid l' k
        · by_cases e2 : pva l k = pva l' k
          · have hz2 : Hid (∀ j, j < k + 1 → pid l j = pid l' j ∧ pva l j = pva l' j) := Lib.hid fun j hj => by
              by_cases hjk : j = k
              · subst hjk; exact ⟨e1, e2⟩
              · exact hz.out j (by omega)
            rw [← e1] at c3
            rw [← e2] at c4
            clear e1 e2 hz
            generalize pid l k = x at *
            generalize pva l k = y at *
            go_wp2
            go_quiet (fail)
            go_wp2
            exact ⟨⟨k + 1, by omega, by simp, hz2, draws_bel hb2.out _⟩, by simp [intOf]; omega⟩
          · have HN := Lib.hid (eqP_ne k (.inr e2))
            rw [← e1] at c3
            clear e1 hz
            generalize pid l k = x at *
            generalize pva l k = y at *
            generalize pva l' k = y' at *
            have g2 : (y == y') = false := beq_eq_false_iff_ne.2 e2
            have g3 : (y != y') = true := bne_iff_ne.2 e2
            clear e2
            go_wp2
            go_quiet (fail)
            go_wp2
            go_ret
            exact ⟨by rw [HN.out]; rfl, draws_bel hb2.out _⟩
        · have HN := Lib.hid (eqP_ne k (.inl e1))
          clear hz
          generalize pid l k = x at *
          generalize pva l k = y at *
          generalize pid l' k = x' at *
          generalize pva l' k = y' at *
          have g2 : (x == x') = false := beq_eq_false_iff_ne.2 e1
          have g3 : (x != x') = true := bne_iff_ne.2 e1
          clear e1
          go_wp2
          go_quiet (fail)
          go_wp2
          go_ret
          exact ⟨by rw [HN.out]; rfl, draws_bel hb2.out _⟩
      · obtain rfl : n = k := by omega
        have HN := Lib.hid (eqP_of HL.out HL'.out hz.out)
        clear hz
        go_wp2
        go_ret
        exact ⟨by rw [HN.out]; rfl, hb⟩
  · have HN := Lib.hid (eqP_len (l := l) (m := l') (by omega))
    have e0 : ((n : Int) != (m : Int)) = true := by rw [bne_iff_ne]; omega
    clear hnm hl hl'
    go_enter Try.func23, Try.ntmps23
    go_wp2
    go_ret
    exact ⟨by rw [HN.out]; rfl, Below.refl _ _⟩

theorem fPairs (A : Option Addr) (n c : Nat) (l : List (Int × Int)) (A' : Option Addr) (m c' : Nat) (l' : List (Int × Int)) (w : World) (h : Prs w A n c l) (h' : Prs w A' m c' l') :
    Calls Try.prog 24 #[.slice A n c, .slice A' m c'] w fun e W' => e = .returned (.bool (eqP l l')) ∧ Below w.heap.size w W' := by
  have E := Lib.hid fun w h h' => fEqualP A n c l A' m c' l' w h h'
  go_enter Try.func24, Try.ntmps24
  go_wp2_with (go_at_call 32; refine (E.out _ h h').mono ?_; rintro e w1 ⟨rfl, hb⟩)
  go_ret
  exact ⟨rfl, hb⟩
end Go.Proofs.Ytlomaoabofpegaa
