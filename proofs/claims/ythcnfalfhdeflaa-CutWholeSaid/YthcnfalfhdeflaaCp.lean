/- Chunks in two parts: plain. -/
import Derived.Test.YthcnfalfhdeflaaCf
namespace Go.Proofs.Ythcnfalfhdeflaa
open Go.RowKit
set_option linter.unusedVariables false

theorem preK_two (x y : List Int) : ∀ (p : Int), (∀ q r, preK p x = (q, r, true) → preK p (x ++ y) = (q, r ++ y, true)) ∧ (∀ r, preK p x = (24, r, false) → preK p (x ++ y) = (24, r ++ y, false)) ∧ (∀ q r, preK p x = (q, r, false) → q ≠ 24 → r = [] ∧ preK p (x ++ y) = preK q y) := by
  induction x with
  | nil =>
    intro p
    refine ⟨fun q r h => by simp [preK] at h, fun r h => ?_, fun q r h hq => ?_⟩
    · simp [preK] at h
      obtain ⟨rfl, rfl⟩ := h
      simpa using preK_done (p := 24) (l := y) (.inr rfl)
    · simp [preK] at h
      obtain ⟨rfl, rfl⟩ := h
      exact ⟨rfl, rfl⟩
  | cons c x ih =>
    intro p
    by_cases h24 : p = 24
    · subst h24
      simp only [preK, List.cons_append, if_true, Prod.mk.injEq]
      refine ⟨fun q r h => by simp at h, fun r h => ?_, fun q r h hq => absurd h.1.symm hq⟩
      obtain ⟨_, rfl, _⟩ := h
      simp
    · by_cases hc : c = preL[p.toNat]?.getD 0
      · rw [List.cons_append, preK_good h24 hc, preK_good h24 hc]
        exact ih (p + 1)
      · rw [List.cons_append, preK_bad h24 hc, preK_bad h24 hc]
        refine ⟨fun q r h => ?_, fun r h => by simp at h, fun q r h => by simp at h⟩
        simp only [Prod.mk.injEq] at h ⊢
        obtain ⟨rfl, rfl, _⟩ := h
        simp
theorem preK_bd (x : List Int) : ∀ (p q : Int) (r : List Int) (b : Bool), 0 ≤ p ∧ p ≤ 24 → preK p x = (q, r, b) → (0 ≤ q ∧ q ≤ 24) ∧ (b = true → p < 24 ∧ q < 24) ∧ (b = false → q ≠ 24 → r = []) ∧ (p = 24 → q = 24) := by
  induction x with
  | nil =>
    intro p q r b hp h
    simp [preK] at h
    obtain ⟨rfl, rfl, rfl⟩ := h
    exact ⟨hp, fun h => (by cases h), fun _ _ => rfl, id⟩
  | cons c x ih =>
    intro p q r b hp h
    by_cases h24 : p = 24
    · subst h24
      simp [preK] at h
      obtain ⟨rfl, rfl, rfl⟩ := h
      exact ⟨hp, fun h => (by cases h), fun _ h => absurd rfl h, id⟩
    · by_cases hc : c = preL[p.toNat]?.getD 0
      · rw [preK_good h24 hc] at h
        obtain ⟨i1, i2, i3, i4⟩ := ih (p + 1) q r b (by omega) h
        exact ⟨i1, fun hb => ⟨by omega, (i2 hb).2⟩, i3, fun e => absurd e h24⟩
      · rw [preK_bad h24 hc] at h
        simp only [Prod.mk.injEq] at h
        obtain ⟨rfl, rfl, rfl⟩ := h
        exact ⟨hp, fun _ => ⟨by omega, by omega⟩, fun h => (by cases h), fun e => absurd e h24⟩
theorem preK_sub (x : List Int) : ∀ (p q : Int) (r : List Int) (b : Bool), preK p x = (q, r, b) → ∀ z ∈ r, z ∈ x := by
  induction x with
  | nil =>
    intro p q r b h
    simp [preK] at h
    obtain ⟨_, rfl, _⟩ := h
    exact fun z hz => hz
  | cons c x ih =>
    intro p q r b h
    by_cases h24 : p = 24
    · subst h24
      simp [preK] at h
      obtain ⟨_, rfl, _⟩ := h
      exact fun z hz => hz
    · by_cases hc : c = preL[p.toNat]?.getD 0
      · rw [preK_good h24 hc] at h
        exact fun z hz => List.mem_cons_of_mem _ (ih (p + 1) q r b h z hz)
      · rw [preK_bad h24 hc] at h
        simp only [Prod.mk.injEq] at h
        obtain ⟨_, rfl, _⟩ := h
        exact fun z hz => hz
theorem cutK_fuel : ∀ (k j : Nat) (b : List Int), b.length ≤ k → b.length ≤ j → cutK k b = cutK j b
  | 0, j, b, hk, hj => by
    have hb : b = [] := List.eq_nil_of_length_eq_zero (by omega)
    subst hb
    cases j
    · rfl
    · simp [cutK, GoesB, LongB]
  | k + 1, j, b, hk, hj => by
    by_cases hg : GoesB b
    · have hr := restOf_len hg
      have h9 := hg.1
      obtain ⟨j', rfl⟩ : ∃ j', j = j' + 1 := ⟨j - 1, by omega⟩
      simp only [cutK, if_pos hg]
      rw [cutK_fuel k j' (restOf b) (by omega) (by omega)]
    · by_cases hl : LongB b
      · have h9 := hl.1
        obtain ⟨j', rfl⟩ : ∃ j', j = j' + 1 := ⟨j - 1, by omega⟩
        simp [cutK, hg, hl]
      · cases j <;> simp [cutK, hg, hl]
theorem cutC_go {b : List Int} (h : GoesB b) : cutC b = (pcOf b :: (cutC (restOf b)).1, (cutC (restOf b)).2) := by
  have hr := restOf_len h
  unfold cutC
  obtain ⟨k, hk⟩ : ∃ k, b.length = k + 1 := ⟨b.length - 1, by omega⟩
  rw [hk]
  simp only [cutK, if_pos h]
  rw [cutK_fuel k (restOf b).length (restOf b) (by omega) (Nat.le_refl _)]
theorem cutC_long {b : List Int} (h : LongB b) : cutC b = ([], [], true) := by
  have hg : ¬GoesB b := fun g => by have := g.2.1; have := h.2; omega
  have h9 := h.1
  unfold cutC
  obtain ⟨k, hk⟩ : ∃ k, b.length = k + 1 := ⟨b.length - 1, by omega⟩
  rw [hk]
  simp [cutK, hg, h]
theorem cutC_end {b : List Int} (h : ¬GoesB b) (h' : ¬LongB b) : cutC b = ([], b, false) := by
  unfold cutC
  cases hb : b.length <;> simp [cutK, h, h']
theorem hd_app {x : List Int} (h : 9 ≤ x.length) (y : List Int) : hL (x ++ y) = hL x ∧ hK (x ++ y) = hK x ∧ hF (x ++ y) = hF x ∧ hS (x ++ y) = hS x := by
  have h1 : ¬ x.length < 9 := by omega
  have h2 : ¬ (x ++ y).length < 9 := by rw [List.length_append]; omega
  have hd : ∀ k, k ≤ 9 → ((x ++ y).drop k) = x.drop k ++ y := fun k hk => List.drop_append_of_le_length (by omega)
  have tk : ∀ (a s : Int), 0 ≤ a → 1 ≤ s → a + s ≤ 9 → s ≤ 4 → takeO (x ++ y) a s = takeO x a s := by
    intro a s ha hs1 has hs4
    unfold takeO
    have c1 : 1 ≤ s ∧ s ≤ 4 ∧ 0 ≤ a := ⟨hs1, hs4, ha⟩
    rw [if_pos c1, if_pos c1, if_pos (by rw [List.length_append]; omega), if_pos (by omega), hd a.toNat (by omega), List.take_append_of_le_length (by rw [List.length_drop]; omega)]
  refine ⟨?_, ?_, ?_, ?_⟩
  · unfold hL
    rw [if_neg h1, if_neg h2, tk 0 3 (by omega) (by omega) (by omega) (by omega)]
  · unfold hK
    rw [if_neg h1, if_neg h2, List.getElem?_append_left (by omega)]
  · unfold hF
    rw [if_neg h1, if_neg h2, List.getElem?_append_left (by omega)]
  · unfold hS streamO
    rw [if_neg h1, if_neg h2, tk 5 4 (by omega) (by omega) (by omega) (by omega)]
theorem goes_app {x : List Int} (h : GoesB x) (hL0 : 0 ≤ hL x) (y : List Int) : GoesB (x ++ y) ∧ pcOf (x ++ y) = pcOf x ∧ restOf (x ++ y) = restOf x ++ y := by
  obtain ⟨e1, e2, e3, e4⟩ := hd_app h.1 y
  obtain ⟨g1, g2, g3⟩ := h
  refine ⟨⟨by rw [List.length_append]; omega, by rw [e1]; exact g2, by rw [e1, List.length_append]; omega⟩, ?_, ?_⟩
  · unfold pcOf
    rw [e1, e2, e3, e4, List.drop_append_of_le_length (by omega), List.take_append_of_le_length (by rw [List.length_drop]; omega)]
  · unfold restOf
    rw [e1, List.drop_append_of_le_length (by omega)]
theorem long_app {x : List Int} (h : LongB x) (y : List Int) : LongB (x ++ y) := ⟨by have := h.1; rw [List.length_append]; omega, by rw [(hd_app h.1 y).1]; exact h.2⟩
theorem cutC_two : ∀ (n : Nat) (x y : List Int), x.length ≤ n → Bs x → cutC (x ++ y) = (if (cutC x).2.2 then cutC x else ((cutC x).1 ++ (cutC ((cutC x).2.1 ++ y)).1, (cutC ((cutC x).2.1 ++ y)).2))
  | n, x, y, hn, hb => by
    by_cases hg : GoesB x
    · have hr := restOf_len hg
      obtain ⟨g1, g2, g3⟩ := goes_app hg (hL_bd hb).1 y
      obtain ⟨n', rfl⟩ : ∃ n', n = n' + 1 := ⟨n - 1, by omega⟩
      have ih := cutC_two n' (restOf x) y (by omega) (hb.drop _)
      rw [cutC_go g1, cutC_go hg, g2, g3, ih]
      cases h : (cutC (restOf x)).2.2 <;> simp
    · by_cases hl : LongB x
      · rw [cutC_long hl, cutC_long (long_app hl y)]
        rfl
      · rw [cutC_end hg hl]
        simp
theorem cutC_right : ∀ (n : Nat) (b : List Int), b.length ≤ n → (cutC b).2.2 = false → ¬GoesB (cutC b).2.1 ∧ ¬LongB (cutC b).2.1
  | n, b, hn, h => by
    by_cases hg : GoesB b
    · have hr := restOf_len hg
      obtain ⟨n', rfl⟩ : ∃ n', n = n' + 1 := ⟨n - 1, by omega⟩
      rw [cutC_go hg] at h ⊢
      exact cutC_right n' (restOf b) (by omega) h
    · by_cases hl : LongB b
      · rw [cutC_long hl] at h; cases h
      · rw [cutC_end hg hl]
        exact ⟨hg, hl⟩
theorem cutC_broke : ∀ (n : Nat) (b : List Int), b.length ≤ n → (cutC b).2.2 = true → (cutC b).2.1 = []
  | n, b, hn, h => by
    by_cases hg : GoesB b
    · have hr := restOf_len hg
      obtain ⟨n', rfl⟩ : ∃ n', n = n' + 1 := ⟨n - 1, by omega⟩
      rw [cutC_go hg] at h ⊢
      exact cutC_broke n' (restOf b) (by omega) h
    · by_cases hl : LongB b
      · rw [cutC_long hl]
      · rw [cutC_end hg hl] at h; cases h
theorem right_end {b : List Int} (h : ¬GoesB b) (h' : ¬LongB b) : RightC 24 b := by
  unfold GoesB at h
  unfold LongB at h'
  exact ⟨⟨by omega, by omega⟩, fun h => absurd h (by decide), fun h9 => ⟨by omega, by omega⟩⟩
/-- What Feed tells. -/
structure Fd where
  p : Int
  l : List Int
  ps : List Pc
  fw : Bool
  fc : Int
deriving DecidableEq
def feedC (p : Int) (l ch : List Int) : Fd :=
  if (preK p ch).2.2 then ⟨(preK p ch).1, l, [], true, 1⟩ else ⟨(preK p ch).1, (cutC (l ++ (preK p ch).2.1)).2.1, (cutC (l ++ (preK p ch).2.1)).1, (cutC (l ++ (preK p ch).2.1)).2.2, if (cutC (l ++ (preK p ch).2.1)).2.2 then 6 else 0⟩
theorem cutC_nil : cutC [] = ([], [], false) := rfl
theorem feed_right {p : Int} {l ch : List Int} (h : RightC p l) : RightC (feedC p l ch).p (feedC p l ch).l := by
  rcases hk : preK p ch with ⟨q, r, b⟩
  obtain ⟨b1, b2, b3, b4⟩ := preK_bd ch p q r b h.1 hk
  unfold feedC
  rw [hk]
  simp only
  cases b
  · simp only [Bool.false_eq_true, if_false]
    by_cases hq : q = 24
    · subst hq
      cases hl : (cutC (l ++ r)).2.2
      · obtain ⟨r1, r2⟩ := cutC_right _ (l ++ r) (Nat.le_refl _) hl
        exact right_end r1 r2
      · rw [cutC_broke _ (l ++ r) (Nat.le_refl _) hl]
        exact ⟨⟨by omega, by omega⟩, fun _ => rfl, fun h => absurd h (by simp)⟩
    · have hr := b3 rfl hq
      have hp : p < 24 := by
        have := h.1
        rcases Int.lt_or_eq_of_le this.2 with h1 | h1
        · exact h1
        · exact absurd (b4 h1) hq
      have hl : l = [] := List.eq_nil_of_length_eq_zero (h.2.1 hp)
      subst hr hl
      rw [List.append_nil, cutC_nil]
      exact ⟨b1, fun _ => rfl, fun h => absurd h (by simp)⟩
  · simp only [if_true]
    have hl : l = [] := List.eq_nil_of_length_eq_zero (h.2.1 (b2 rfl).1)
    subst hl
    exact ⟨b1, fun _ => rfl, fun h => absurd h (by simp)⟩
/-- A chunk in two parts. -/
theorem feed_two {p : Int} {l x y : List Int} (h : RightC p l) (hb : Bs (l ++ x)) :
    (((feedC p l x).fw = true) → feedC p l (x ++ y) = feedC p l x ∨ ((feedC p l (x ++ y)).fw = true ∧ (feedC p l (x ++ y)).fc = (feedC p l x).fc ∧ (feedC p l (x ++ y)).ps = (feedC p l x).ps)) ∧
    (((feedC p l x).fw = false) → (feedC p l (x ++ y)).p = (feedC (feedC p l x).p (feedC p l x).l y).p ∧ (feedC p l (x ++ y)).l = (feedC (feedC p l x).p (feedC p l x).l y).l ∧ (feedC p l (x ++ y)).fw = (feedC (feedC p l x).p (feedC p l x).l y).fw ∧ (feedC p l (x ++ y)).fc = (feedC (feedC p l x).p (feedC p l x).l y).fc ∧
      (feedC p l (x ++ y)).ps = (feedC p l x).ps ++ (feedC (feedC p l x).p (feedC p l x).l y).ps) := by
  rcases hk : preK p x with ⟨q, r, b⟩
  obtain ⟨b1, b2, b3, b4⟩ := preK_bd x p q r b h.1 hk
  obtain ⟨t1, t2, t3⟩ := preK_two x y p
  cases b
  · by_cases hq : q = 24
    · subst hq
      have hk2 := t2 r hk
      have hbr : Bs (l ++ r) := by
        intro z hz
        rcases List.mem_append.1 hz with hz | hz
        · exact hb z (List.mem_append_left _ hz)
        · exact hb z (List.mem_append_right _ (preK_sub x p 24 r false hk z hz))
      have h2 := cutC_two _ (l ++ r) y (Nat.le_refl _) hbr
      have hk3 : preK 24 y = (24, y, false) := preK_done (.inr rfl)
      unfold feedC
      rw [hk, hk2]
      simp only [Bool.false_eq_true, if_false]
      rw [← List.append_assoc, h2]
      cases hl : (cutC (l ++ r)).2.2
      · simp only [Bool.false_eq_true, if_false]
        refine ⟨fun e => (by cases e), fun _ => ?_⟩
        rw [hk3]
        simp
      · simp only [if_true]
        refine ⟨fun _ => .inr ?_, fun e => (by cases e)⟩
        simp [hl]
    · obtain ⟨hr, hk2⟩ := t3 q r hk hq
      subst hr
      have hp : p < 24 := by
        rcases Int.lt_or_eq_of_le h.1.2 with h1 | h1
        · exact h1
        · exact absurd (b4 h1) hq
      have hl : l = [] := List.eq_nil_of_length_eq_zero (h.2.1 hp)
      subst hl
      have e1 : feedC p [] x = ⟨q, [], [], false, 0⟩ := by
        unfold feedC
        rw [hk]
        simp [cutC_nil]
      have e2 : feedC p [] (x ++ y) = feedC q [] y := by
        unfold feedC
        rw [hk2]
      rw [e1, e2]
      exact ⟨fun e => (by cases e), fun _ => by simp⟩
  · have hk2 := t1 q r hk
    refine ⟨fun _ => .inl ?_, fun e => ?_⟩
    · unfold feedC
      rw [hk, hk2]
      simp
    · unfold feedC at e
      rw [hk] at e
      simp at e
theorem lastR_le : ∀ (k : Nat) (b : List Int), (lastR b (seqs k b)).length ≤ b.length
  | 0, b => by simp [seqs, lastR]
  | k + 1, b => by
    unfold seqs
    split
    · rename_i h
      have := restOf_len h
      have := lastR_le k (restOf b)
      rw [lastR_cons]
      exact Nat.le_trans this (by omega)
    · split
      · rw [lastR_cons]
        simp [lastR]
      · simp [lastR]
/-- The record of what waits to the call's end. -/
def DefAt (W : World) (D : Nat) : Prop := W.heap[D]? = some (.deferred (some []))
theorem DefAt.lt {W : World} {D : Nat} (h : DefAt W D) : D < W.heap.size := (Array.getElem?_eq_some_iff.1 h).1
theorem DefAt.below {W W' : World} {D : Nat} (h : DefAt W D) (hb : Below W.heap.size W W') : DefAt W' D := (hb.block D h.lt).trans h
theorem DefAt.grownB {W W' : World} {D b : Nat} {t : TypeId} {cs : Array Value} (h : DefAt W D) (q : Blk W b t cs) (hg : W.grownBy W' (some b)) : DefAt W' D :=
  (hg.block D h.lt (fun e => by
    have e2 : D = b := Option.some.inj e
    rw [DefAt, e2, show W.heap[b]? = _ from q] at h
    cases h)).trans h
theorem DefAt.drew {W : World} {D : Nat} (h : DefAt W D) : DefAt W.drew D := h
end Go.Proofs.Ythcnfalfhdeflaa
