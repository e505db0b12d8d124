/- A block of memory known whole: its cells; what stores, new blocks, calls leave of it. -/
import Derived.Test.YthcnfalfhdeflaaI
namespace Go.Proofs.Ythcnfalfhdeflaa
open Go.RowKit
set_option linter.unusedVariables false

/-- Block b holds these, and may be written. -/
def Blk (W : World) (b : Nat) (t : TypeId) (cs : Array Value) : Prop := W.heap[b]? = some (.cells cs t (0, 0))
section
variable {W W' : World} {b : Nat} {t : TypeId} {cs : Array Value}
theorem Blk.lt (h : Blk W b t cs) : b < W.heap.size := (Array.getElem?_eq_some_iff.1 h).1
theorem Blk.below (h : Blk W b t cs) (k : Below W.heap.size W W') : Blk W' b t cs := (k.block b h.lt).trans h
theorem Blk.belowB (h : Blk W b t cs) {B : Nat} (k : Below B W W') (hb : b < B) : Blk W' b t cs := (k.block b hb).trans h
theorem Blk.drew (h : Blk W b t cs) : Blk W.drew b t cs := h
theorem Blk.new (W : World) (t : TypeId) (cs : Array Value) : Blk (W.alloc (.cells cs t)) W.heap.size t cs := World.alloc_heap_new W _
theorem Blk.newAt (W : World) (t : TypeId) (cs : Array Value) {b : Nat} (hb : W.heap.size = b) : Blk (W.alloc (.cells cs t)) b t cs := by subst hb; exact Blk.new W t cs
theorem Blk.alloc (h : Blk W b t cs) (o : Obj) : Blk (W.alloc o) b t cs := (Below.heap_alloc W o b h.lt).trans h
theorem Blk.at (h : Blk W b t cs) (i : Nat) {v : Value} (hv : cs[i]? = some v) : W.cell? ⟨b, i, none⟩ = some v := by
  have h' : W.heap[b]? = _ := h
  simp [World.cell?, h', hv]
theorem Blk.frozen (h : Blk W b t cs) (i : Nat) : W.frozen? ⟨b, i, none⟩ = false := by
  have h' : W.heap[b]? = _ := h
  simp [World.frozen?, h']
theorem Blk.drew_frozen (h : Blk W b t cs) (i : Nat) : W.drew.frozen? ⟨b, i, none⟩ = false := h.frozen i
theorem Blk.set (h : Blk W b t cs) (i : Nat) (v : Value) : Blk (W.setCell ⟨b, i, none⟩ v) b t (cs.setIfInBounds i v) := by
  have h' : W.heap[b]? = _ := h
  simp [Blk, World.setCell, Array.getElem?_modify, h']
theorem Blk.setFar (h : Blk W b t cs) {p : Addr} (hp : b ≠ p.block) (v : Value) : Blk (W.setCell p v) b t cs := (Below.heap_setCell W p v b hp).trans h
theorem Blk.same (h : Blk W b t cs) (k : W'.heap[b]? = W.heap[b]?) : Blk W' b t cs := k.trans h
/-- What is stored anew leaves the world as it is. -/
theorem Blk.again (h : Blk W b t cs) (i : Nat) {v : Value} (hv : cs[i]? = some v) : W.setCell ⟨b, i, none⟩ v = W := by
  have e : cs.setIfInBounds i v = cs := by
    apply Array.ext_getElem?
    intro j
    rw [Array.getElem?_setIfInBounds]
    split
    · rename_i hij
      subst hij
      split
      · exact hv.symm
      · rename_i hlt
        rw [Array.getElem?_eq_none (by omega)]
    · rfl
  have h' : W.heap[b]? = _ := h
  have hh : (W.setCell ⟨b, i, none⟩ v).heap = W.heap := by
    apply Array.ext_getElem?
    intro j
    by_cases hj : j = b
    · subst hj
      simp [World.setCell, Array.getElem?_modify, h', e]
    · exact Below.heap_setCell W ⟨b, i, none⟩ v j hj
  unfold World.setCell at hh ⊢
  simp only at hh ⊢
  rw [hh]
theorem Blk.not_row (h : Blk W b t cs) (ht : t ≠ 5) {base : Nat} {A : Option Addr} {n c : Nat} {l : List Int} (hm : Mine base W A n c l) (g : Nat) (e : A = some ⟨g, 0, none⟩) : g ≠ b := fun eg => by
  subst eg
  rcases hm.1.2 with ⟨e', _⟩ | ⟨g', cap, cur, e', _, hg, _⟩
  · rw [e] at e'; simp at e'
  · rw [e] at e'
    simp at e'
    obtain ⟨rfl, _⟩ := e'
    have h' : W.heap[g]? = _ := h
    rw [h'] at hg
    simp at hg
    exact ht hg.2
/-- A store into a block of another type leaves bytes of the call's own as they lay. -/
theorem Mine.farB {base : Nat} {A : Option Addr} {n c : Nat} {l : List Int} (hm : Mine base W A n c l) (h : Blk W b t cs) (ht : t ≠ 5) (i : Nat) (v : Value) : Mine base (W.setCell ⟨b, i, none⟩ v) A n c l :=
  hm.far (p := ⟨b, i, none⟩) (fun g e => h.not_row ht hm g e) v
end
theorem Bel.below {W wa wb : World} (h : Bel W wa) (k : Below wa.heap.size wa wb) : Bel W wb := h.step k
theorem Bel.drew {W w : World} (h : Bel W w) : Bel W w.drew := ⟨h.out.trans ⟨rfl, rfl, rfl, Nat.le_refl _, fun _ _ => rfl⟩⟩
theorem Bel.set {W w : World} (h : Bel W w) {p : Addr} (hp : W.heap.size ≤ p.block) (v : Value) : Bel W (w.setCell p v) := ⟨h.out.setCell hp v⟩
theorem Bel.stepB {W wa wb : World} (h : Bel W wa) {B : Nat} (k : Below B wa wb) (hB : W.heap.size ≤ B) : Bel W wb := ⟨h.out.trans (k.mono hB)⟩
theorem drew_below (B : Nat) (W : World) : Below B W W.drew := ⟨rfl, rfl, rfl, Nat.le_refl _, fun _ _ => rfl⟩
theorem Mine.pos {base : Nat} {w : World} {A : Option Addr} {n c : Nat} {l : List Int} (h : Mine base w A n c l) (hn : 0 < n) : ∃ g, A = some ⟨g, 0, none⟩ ∧ base ≤ g ∧ g < w.heap.size := by
  rcases h.cases with ⟨_, h0, _⟩ | ⟨g, e, hb, hs, _⟩
  · omega
  · exact ⟨g, e, hb, hs⟩
/-- Bytes that lay before the call lie as they lay behind a store into the call's own. -/
theorem Byt.far0 {w : World} {A : Option Addr} {n c : Nat} {l : List Int} (h : Byt w A n c l) {p : Addr} (hp : w.heap.size ≤ p.block) {w' : World} (hb : Below w.heap.size w w') (v : Value) : Byt (w'.setCell p v) A n c l := by
  by_cases hn : 0 < n
  · obtain ⟨b, o, e, hlt, _⟩ := h.cell hn
    refine (h.below hb).far (fun b' o' e' => ?_) v
    rw [e] at e'
    simp at e'
    omega
  · exact ⟨h.len, h.cap, h.mx, h.nn, h.bs, fun h0 => absurd h0 hn⟩
theorem Mine.lt {base : Nat} {W : World} {A : Option Addr} {n c : Nat} {l : List Int} (h : Mine base W A n c l) (g : Nat) (e : A = some ⟨g, 0, none⟩) : g < W.heap.size := by
  rcases h.cases with ⟨rfl, _⟩ | ⟨g', rfl, _, hs, _⟩
  · cases e
  · simp at e
    subst e
    exact hs
theorem Mine.belowB {base : Nat} {W W' : World} {A : Option Addr} {n c : Nat} {l : List Int} (h : Mine base W A n c l) {B : Nat} (k : Below B W W') (hlt : ∀ g, A = some ⟨g, 0, none⟩ → g < B) : Mine base W' A n c l := h.keep fun g _ e => k.block g (hlt g e)
theorem cells3_below {w w' : World} {p0 p1 p2 : Addr} {v0 v1 v2 : Value} (h : w.cell? p0 = some v0 ∧ w.cell? p1 = some v1 ∧ w.cell? p2 = some v2) (hb : Below w.heap.size w w') :
    w'.cell? p0 = some v0 ∧ w'.cell? p1 = some v1 ∧ w'.cell? p2 = some v2 := ⟨(hb.cell (World.block_lt_of_cell? w _ h.1)).trans h.1, (hb.cell (World.block_lt_of_cell? w _ h.2.1)).trans h.2.1, (hb.cell (World.block_lt_of_cell? w _ h.2.2)).trans h.2.2⟩
theorem cell_below {w w' : World} {p : Addr} {v : Value} (hb : Below w.heap.size w w') (h : w.cell? p = some v) : w'.cell? p = some v := (hb.cell (World.block_lt_of_cell? w p h)).trans h
end Go.Proofs.Ythcnfalfhdeflaa
