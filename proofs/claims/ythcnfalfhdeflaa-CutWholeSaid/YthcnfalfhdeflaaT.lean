/- A region within the wide fence that draws its order: all but its last operations (which stand in a forced order) only read. -/
import Derived.Test.YthcnfalfhdeflaaR
import Derived.StillTail
import Derived.StillTactics
import Derived.StillTailTactics
import Derived.OrdersIn
namespace Go.Proofs.Ythcnfalfhdeflaa
open Go.RowKit Go.Shelf
set_option linter.unusedVariables false

/-- The wide fence, in a round or outside all. -/
abbrev wideR (ro : Option Nat) : Fence := { Fence.wide with round := ro }

theorem opIn_of_still {ro : Option Nat} {n : Nat} {P : Program} {ops : Array Oper} {w : World} {i : Nat} {a : Act} {K : Act → Prop} {K' : Act → World → Prop} {Q : Exit → Act → World → Prop} (h : ∀ a, K a → K' a w) (hh : stOp P ops w i K a) :
    wpOpIn (wideR ro) n P ops Q i K' a w := by
  unfold stOp at hh
  unfold wpOpIn
  split at hh
  · rename_i ho
    simp only [ho]
    exact h _ hh
  · rename_i o ho
    simp only [ho]
    split at hh
    · rename_i hw
      rw [if_pos hw]
      refine ⟨fun _ _ => trivial, ?_⟩
      show o.uponIn (wideR ro) n P a K' Q ((o.semAt ro a.eval).run P w)
      by_cases hdf : ∃ c, o.op = .defer c
      · exfalso
        obtain ⟨c, hc⟩ := hdf
        unfold Oper.still execOp at hh
        simp only [hc, Sem.run_bind] at hh
        generalize (resolve a.eval c o.type).run P w = r at hh
        cases r <;> simp [Oper.stillUpon, go_sem] at hh
      rw [Oper.semAt_eq _ _ _ (fun c hc => hdf ⟨c, hc⟩)]
      unfold Oper.still at hh
      generalize (execOp a.eval o).run P w = r at hh ⊢
      cases r with
      | ok x w' =>
        cases x <;> simp only [Oper.stillUpon] at hh
        case value u => obtain ⟨rfl, h2⟩ := hh; exact h _ h2
        case skip => obtain ⟨rfl, h2⟩ := hh; exact h _ h2
        case enter f args =>
          obtain ⟨rfl, v, hc, h2⟩ := hh
          refine ⟨fun e => by simp [Fence.wide] at e, show CallsIn Fence.wide (n - 1) P f args w' _ from callsIn_wide.2 (hc.mono ?_)⟩
          rintro e w2 ⟨rfl, rfl⟩
          exact h _ h2
      | halt x w' => simp only [Oper.stillUpon] at hh
    · rename_i hw
      rw [if_neg hw]
      exact ⟨fun _ _ => trivial, h _ hh⟩

theorem anyIn_of_head {ro : Option Nat} {k : Nat} {P : Program} {ops : Array Oper} {md : Region.Mode} {w : World} {n g : Nat} {L : Array Bool → Act → Prop} {Q : Exit → Act → World → Prop} (hL : ∀ listed a, L listed a → wpAnyIn (wideR ro) k P md ops Q g listed a w) :
    ∀ (f : Nat) (listed : Array Bool) (a : Act), wpAnyL P md ops w n L f listed a → wpAnyIn (wideR ro) k P md ops Q (f + g) listed a w := by
  intro f
  induction f with
  | zero => intro listed a h; rw [Nat.zero_add]; exact hL _ _ h
  | succ f ih =>
    intro listed a h
    rw [show f + 1 + g = (f + g) + 1 by omega]
    refine ⟨fun h0 => absurd h0 h.1, fun i hi => ?_⟩
    exact opIn_of_still (fun a' h' => ih _ a' h') (h.2 i hi).2

theorem anyIn_of_seq {ro : Option Nat} {n : Nat} {P : Program} {ops : Array Oper} {md : Region.Mode} {Q : Exit → Act → World → Prop} : ∀ (l : List Oper) (k : Nat) (listed : Array Bool) (a : Act) (w : World), (∀ j, l[j]? = ops[k + j]?) →
    Region.seqB md ops l.length k listed = true → wpListIn (wideR ro) n P ops Q l a w → wpAnyIn (wideR ro) n P md ops Q l.length listed a w := by
  intro l
  induction l with
  | nil => intro k listed a w _ hB h; exact ⟨by simpa [Region.seqB] using hB, h⟩
  | cons o l ih =>
    intro k listed a w hl hB h
    have h0 : ops[k]? = some o := by simpa using (hl 0).symm
    simp only [List.length_cons, Region.seqB, Bool.and_eq_true, decide_eq_true_eq] at hB
    obtain ⟨hr, hB2⟩ := hB
    refine ⟨fun h1 => (by rw [hr] at h1; cases h1), fun i hi => ?_⟩
    rw [hr, List.mem_singleton] at hi
    subst hi
    have hstep : wpOpIn (wideR ro) n P ops Q i (wpListIn (wideR ro) n P ops Q l) a w := by
      unfold wpOpIn
      simp only [h0]
      exact h
    refine wpOpIn_mono (fun a' w' h' => ih (i + 1) _ a' w' (fun j => ?_) hB2 h') hstep
    have := hl (j + 1)
    rw [show i + 1 + j = i + (j + 1) by omega, ← this]
    rfl

theorem wpIn_region_tailO {ro : Option Nat} {k : Nat} {P : Program} {id : Nat} {Q : Exit → Act → World → Prop} {a : Act} {w : World} {l : List Oper} (n : Nat) (hm : P.follows .mixedOrders = true) (hB : Region.lexTailB .any l.toArray n = true)
    (h : wpStill P l.toArray w.drew (fun a' => wpListIn (wideR ro) k P l.toArray Q (l.drop n) a' w.drew) (l.take n) a) : (Code.region id l.toArray true).wpIn (wideR ro) k P Q a w := by
  simp only [Region.lexTailB, Bool.and_eq_true, decide_eq_true_eq] at hB
  obtain ⟨⟨⟨⟨hsel, hn⟩, hs⟩, hc⟩, hlex⟩ := hB
  have hn' : n < l.length := by simpa using hn
  have htl : (l.take n).length = n := by rw [List.length_take]; omega
  have hdl : (l.drop n).length = l.length - n := List.length_drop
  have inv0 : HeadInv .any l.toArray n (Array.replicate l.toArray.size false) := by
    refine ⟨by simp, fun j oj _ hj => ?_, fun t _ ht => getD_in (by simpa using ht) (getD_replicate_false _ _)⟩
    rw [getD_replicate_false] at hj
    cases hj
  have H := wpAnyL_lex (md := .any) (g := l.toArray.size - n) hsel hs hc hn (l.take n) 0 _ a (fun j hj => by
    rw [htl] at hj
    simp [hj]) (by simpa using htl) inv0 (by rw [htl]; exact hlex) h
  refine wpIn_region_any hm ?_
  have H2 := anyIn_of_head (k := k) (Q := Q) (g := l.toArray.size - n) (fun listed a' hL => by
    have := anyIn_of_seq (n := k) (md := .any) (Q := Q) (l.drop n) n listed a' w.drew (fun j => by simp [List.getElem?_drop]) (by rw [hdl]; simpa using hL.1) hL.2
    rw [hdl] at this
    simpa using this) _ _ _ H
  rw [htl, show n + (l.toArray.size - n) = l.toArray.size by simp; omega] at H2
  exact H2
theorem wpIn_region_tail {k : Nat} {P : Program} {id : Nat} {Q : Exit → Act → World → Prop} {a : Act} {w : World} {l : List Oper} (n : Nat) (hm : P.follows .mixedOrders = true) (hB : Region.lexTailB .any l.toArray n = true)
    (h : wpStill P l.toArray w.drew (fun a' => wpListIn Fence.wide k P l.toArray Q (l.drop n) a' w.drew) (l.take n) a) : (Code.region id l.toArray true).wpIn Fence.wide k P Q a w :=
  wpIn_region_tailO (ro := none) n hm hB h
/-- The same within a round. -/
theorem wpIn_region_tailR {t k : Nat} {P : Program} {id : Nat} {Q : Exit → Act → World → Prop} {a : Act} {w : World} {l : List Oper} (n : Nat) (hm : P.follows .mixedOrders = true) (hB : Region.lexTailB .any l.toArray n = true)
    (h : wpStill P l.toArray w.drew (fun a' => wpListIn (Fence.wide.inRound t) k P l.toArray Q (l.drop n) a' w.drew) (l.take n) a) : (Code.region id l.toArray true).wpIn (Fence.wide.inRound t) k P Q a w :=
  wpIn_region_tailO (ro := some t) n hm hB h
end Go.Proofs.Ythcnfalfhdeflaa
