/- The taking of heads: the contracts. -/
import Derived.Test.YthcnfalfhdeflaaHa
import Derived.Test.YthcnfalfhdeflaaA
import Derived.Test.YthcnfalfhdeflaaS
import Derived.StillTail
import Derived.StillTactics
import Derived.StillTailTactics
namespace Go.Proofs.Ythcnfalfhdeflaa
open Go.RowKit Go.Shelf
set_option linter.unusedVariables false

def hL (l : List Int) : Int := if l.length < 9 then 0 else (takeO l 0 3).1
def hK (l : List Int) : Int := if l.length < 9 then 0 else l[3]?.getD 0
def hF (l : List Int) : Int := if l.length < 9 then 0 else l[4]?.getD 0
def hS (l : List Int) : Int := if l.length < 9 then 0 else streamO l 5
def hR (l : List Int) : List Int := if l.length < 9 then [] else l.drop 9
def hE (l : List Int) : Int := if l.length < 9 then 10 else 0
def TakeP (l : List Int) (w : World) (e : Ending) (W' : World) : Prop :=
  (∃ A m c, e = .returned (.tuple #[.agg #[.int .i64 (hL l), .int .u8 (hK l), .int .u8 (hF l), .int .i64 (hS l)], .slice A m c, .int .i64 (hE l)]) ∧ Mine w.heap.size W' A m c (hR l)) ∧ Below w.heap.size w W'

set_option maxRecDepth 100000 in
set_option maxHeartbeats 4000000 in
theorem htShort (A : Option Addr) (n c : Nat) (w : World) (hn : n < 9) :
    Calls Try.prog 31 #[.slice A n c] w fun e W' => e = .returned (.tuple #[.agg #[.int .i64 0, .int .u8 0, .int .u8 0, .int .i64 0], .slice none 0 0, .int .i64 10]) ∧ Below w.heap.size w W' := by
  have b0 : Below w.heap.size w (w.alloc (.cells #[.int .i64 0, .int .u8 0, .int .u8 0, .int .i64 0] 41)) := (Below.refl _ _).alloc (Nat.le_refl _) _
  go_enter Try.func31, Try.ntmps31
  go_wp2
  refine bodyPost_ret (v := .tuple #[.agg #[.int .i64 0, .int .u8 0, .int .u8 0, .int .i64 0], .slice none 0 0, .int .i64 10]) (by simp [results, Try.f31, go_sem]) rfl ⟨rfl, b0⟩

/-- Block b holds these four, and may be written. -/
def Blk4 (W : World) (b : Nat) (t : TypeId) (x0 x1 x2 x3 : Value) : Prop := W.heap[b]? = some (.cells #[x0, x1, x2, x3] t (0, 0))
section
variable {W W' : World} {b : Nat} {t : TypeId} {x0 x1 x2 x3 : Value}
theorem Blk4.lt (h : Blk4 W b t x0 x1 x2 x3) : b < W.heap.size := (Array.getElem?_eq_some_iff.1 h).1
theorem Blk4.below (h : Blk4 W b t x0 x1 x2 x3) (k : Below W.heap.size W W') : Blk4 W' b t x0 x1 x2 x3 := (k.block b h.lt).trans h
theorem Blk4.drew (h : Blk4 W b t x0 x1 x2 x3) : Blk4 W.drew b t x0 x1 x2 x3 := h
theorem Blk4.new (W : World) (t : TypeId) (x0 x1 x2 x3 : Value) : Blk4 (W.alloc (.cells #[x0, x1, x2, x3] t)) W.heap.size t x0 x1 x2 x3 := World.alloc_heap_new W _
theorem Blk4.alloc (h : Blk4 W b t x0 x1 x2 x3) (o : Obj) : Blk4 (W.alloc o) b t x0 x1 x2 x3 := (Below.heap_alloc W o b h.lt).trans h
theorem Blk4.cells (h : Blk4 W b t x0 x1 x2 x3) : W.cell? ⟨b, 0, none⟩ = some x0 ∧ W.cell? ⟨b, 1, none⟩ = some x1 ∧ W.cell? ⟨b, 2, none⟩ = some x2 ∧ W.cell? ⟨b, 3, none⟩ = some x3 := by
  have h' : W.heap[b]? = _ := h
  refine ⟨?_, ?_, ?_, ?_⟩ <;> simp [World.cell?, h']
/-- What is stored anew leaves the world as it is. -/
theorem set_again {W : World} {b i : Nat} {cs : Array Value} {t : TypeId} {fr : Nat × Nat} {v : Value} (h : W.heap[b]? = some (.cells cs t fr)) (hv : cs[i]? = some v) : W.setCell ⟨b, i, none⟩ v = W := by
  have e : cs.setIfInBounds i v = cs := by
    apply Array.ext_getElem?
    intro j
    rw [Array.getElem?_setIfInBounds]
    split
    · rename_i hij
      subst hij
      split
      · exact hv.symm
      · rename_i hlt
        rw [Array.getElem?_eq_none (by omega)]
    · rfl
  have hh : (W.setCell ⟨b, i, none⟩ v).heap = W.heap := by
    apply Array.ext_getElem?
    intro j
    by_cases hj : j = b
    · subst hj
      simp [World.setCell, Array.getElem?_modify, h, e]
    · exact Below.heap_setCell W ⟨b, i, none⟩ v j hj
  unfold World.setCell at hh ⊢
  simp only at hh ⊢
  rw [hh]
theorem Blk4.again (h : Blk4 W b t x0 x1 x2 x3) : W.setCell ⟨b, 0, none⟩ x0 = W ∧ W.setCell ⟨b, 1, none⟩ x1 = W ∧ W.setCell ⟨b, 2, none⟩ x2 = W ∧ W.setCell ⟨b, 3, none⟩ x3 = W :=
  ⟨set_again h rfl, set_again h rfl, set_again h rfl, set_again h rfl⟩
theorem Blk4.put (h : Blk4 W b t x0 x1 x2 x3) (y0 y1 y2 y3 : Value) : Blk4 ((((W.setCell ⟨b, 0, none⟩ y0).setCell ⟨b, 1, none⟩ y1).setCell ⟨b, 2, none⟩ y2).setCell ⟨b, 3, none⟩ y3) b t y0 y1 y2 y3 := by
  have h' : W.heap[b]? = _ := h
  simp [Blk4, World.setCell, Array.getElem?_modify, h']
/-- Four stores into block b turn no cell of another. -/
theorem put4_far (W : World) (b : Nat) (y0 y1 y2 y3 : Value) {p : Addr} (hp : p.block ≠ b) : ((((W.setCell ⟨b, 0, none⟩ y0).setCell ⟨b, 1, none⟩ y1).setCell ⟨b, 2, none⟩ y2).setCell ⟨b, 3, none⟩ y3).cell? p = W.cell? p := by
  apply World.cell?_of_block
  rw [Below.heap_setCell _ _ _ _ hp, Below.heap_setCell _ _ _ _ hp, Below.heap_setCell _ _ _ _ hp, Below.heap_setCell _ _ _ _ hp]
theorem mine_put4 {base : Nat} {W : World} {A : Option Addr} {n c : Nat} {l : List Int} (h : Mine base W A n c l) {b : Nat} (hb : b < base) (y0 y1 y2 y3 : Value) : Mine base ((((W.setCell ⟨b, 0, none⟩ y0).setCell ⟨b, 1, none⟩ y1).setCell ⟨b, 2, none⟩ y2).setCell ⟨b, 3, none⟩ y3) A n c l := by
  have hf : ∀ g, A = some ⟨g, 0, none⟩ → g ≠ b := fun g e => by
    rcases h.cases with ⟨rfl, _⟩ | ⟨g', rfl, hg, _⟩
    · cases e
    · simp at e
      omega
  exact (((h.far (p := ⟨b, 0, none⟩) hf y0).far (p := ⟨b, 1, none⟩) hf y1).far (p := ⟨b, 2, none⟩) hf y2).far (p := ⟨b, 3, none⟩) hf y3
theorem below_put4 {B : Nat} {X W : World} (h : Below B X W) {b : Nat} (hb : B ≤ b) (y0 y1 y2 y3 : Value) : Below B X ((((W.setCell ⟨b, 0, none⟩ y0).setCell ⟨b, 1, none⟩ y1).setCell ⟨b, 2, none⟩ y2).setCell ⟨b, 3, none⟩ y3) :=
  (((h.setCell (p := ⟨b, 0, none⟩) hb y0).setCell (p := ⟨b, 1, none⟩) hb y1).setCell (p := ⟨b, 2, none⟩) hb y2).setCell (p := ⟨b, 3, none⟩) hb y3
theorem Blk4.frozen (h : Blk4 W b t x0 x1 x2 x3) (i : Nat) : W.frozen? ⟨b, i, none⟩ = false := by
  have h' : W.heap[b]? = _ := h
  simp [World.frozen?, h']
end

set_option maxRecDepth 100000 in
set_option maxHeartbeats 4000000 in
theorem htYes (b o n c : Nat) (l : List Int) (w : World) (h : Byt w (some ⟨b, o, none⟩) n c l) (hn : 9 ≤ n) (hn2 : n ≤ 140737488355328) (hb : b < w.heap.size) (L k f s e1 e2 : Int)
    (c3 : w.cell? ⟨b, o + 3, none⟩ = some (.int .u8 k)) (c4 : w.cell? ⟨b, o + 4, none⟩ = some (.int .u8 f))
    (HT : Hid (∀ X, Calls Try.prog 32 #[.slice (some ⟨b, o, none⟩) n c, .int .i64 0, .int .i64 3] (w.alloc X) (Ret (.tuple #[.int .i64 L, .int .i64 e1]) (w.alloc X))))
    (HS : Hid (∀ X, Calls Try.prog 33 #[.slice (some ⟨b, o, none⟩) n c, .int .i64 5] (w.alloc X) (Ret (.tuple #[.int .i64 s, .int .i64 e2]) (w.alloc X)))) :
    Calls Try.prog 31 #[.slice (some ⟨b, o, none⟩) n c] w fun e W' => (∃ A' m c', e = .returned (.tuple #[.agg #[.int .i64 L, .int .u8 k, .int .u8 f, .int .i64 s], .slice A' m c', .int .i64 0]) ∧ Mine w.heap.size W' A' m c' (l.drop 9)) ∧ Below w.heap.size w W' := by
  have H := Lib.hid h
  have hcap := h.cap
  have hmx := h.mx
  clear h
  have g1 : (3 : Int) < (n : Int) := by omega
  have g2 : (4 : Int) < (n : Int) := by omega
  have g3 : (9 : Int) ≤ (n : Int) := by omega
  have g4 : (n : Int) ≤ (c : Int) := by omega
  by_cases hc : c = 9
  · subst hc
    go_enter Try.func31, Try.ntmps31
    go_wp2_with (first
      | (go_at_call 32; refine (HT.out _).mono ?_; rintro e w' ⟨rfl, rfl⟩)
      | (go_at_call 33; refine (HS.out _).mono ?_; rintro e w' ⟨rfl, rfl⟩))
    go_region
    have q0 : Blk4 (w.alloc (.cells #[.int .i64 L, .int .u8 k, .int .u8 f, .int .i64 s] 41)).drew w.heap.size 41 (.int .i64 L) (.int .u8 k) (.int .u8 f) (.int .i64 s) := (Blk4.new w _ _ _ _ _).drew
    have qb : Below w.heap.size w (w.alloc (.cells #[.int .i64 L, .int .u8 k, .int .u8 f, .int .i64 s] 41)).drew := ((Below.refl _ _).alloc (Nat.le_refl _) _).trans ⟨rfl, rfl, rfl, Nat.le_refl _, fun _ _ => rfl⟩
    have qs : w.heap.size < (w.alloc (.cells #[.int .i64 L, .int .u8 k, .int .u8 f, .int .i64 s] 41)).drew.heap.size := by simp
    have qy : Byt (w.alloc (.cells #[.int .i64 L, .int .u8 k, .int .u8 f, .int .i64 s] 41)).drew (some ⟨b, o, none⟩) 0 0 (l.drop 9) := by
      have := ((H.out.alloc (.cells #[.int .i64 L, .int .u8 k, .int .u8 f, .int .i64 s] 41)).drew).tail_all hn
      rwa [show n - 9 = 0 by omega] at this
    go_wp2_with fail
    generalize (w.alloc (.cells #[.int .i64 L, .int .u8 k, .int .u8 f, .int .i64 s] 41)).drew = W0 at *
    obtain ⟨q1, q2, q3, q4⟩ := q0.cells
    have Q0 := Lib.hid q0
    clear q0
    have QY := Lib.hid qy
    clear qy
    go_region_held3 (fun w' => w'.cell? ⟨w.heap.size, 0, none⟩ = some (.int .i64 L) ∧ w'.cell? ⟨w.heap.size, 1, none⟩ = some (.int .u8 k) ∧ w'.cell? ⟨w.heap.size, 2, none⟩ = some (.int .u8 f) ∧ w'.cell? ⟨w.heap.size, 3, none⟩ = some (.int .i64 s)) (first | exact ⟨q1, q2, q3, q4⟩ | exact s2) (first
      | (go_at_call 23; refine (fClone _ _ _ _ _ QY.out.drew (by omega)).mono ?_; rintro e W2 ⟨A2, c2, rfl, hm2, hb2⟩; have t2 := Q0.out.drew.below hb2; have s2 := t2.cells; have f0 := t2.frozen 0; have f1 := t2.frozen 1; have f2 := t2.frozen 2; have f3 := t2.frozen 3; obtain ⟨a0, a1, a2, a3⟩ := t2.again; have T2 := Lib.hid t2; clear t2))
    go_wp2
    obtain ⟨s0, s1, s3, s4⟩ := s2
    exact bodyPost_ret (v := .tuple #[.agg #[.int .i64 L, .int .u8 k, .int .u8 f, .int .i64 s], .slice A2 0 c2, .int .i64 0]) (by simp [results, Try.f31, go_sem, s0, s1, s3, s4]) rfl ⟨⟨A2, _, c2, rfl, hm2.base_le qb.size⟩, (qb.trans (show Below w.heap.size W0 W0.drew from ⟨rfl, rfl, rfl, Nat.le_refl _, fun _ _ => rfl⟩)).trans (hb2.mono qb.size)⟩
  · go_enter Try.func31, Try.ntmps31
    go_wp2_with (first
      | (go_at_call 32; refine (HT.out _).mono ?_; rintro e w' ⟨rfl, rfl⟩)
      | (go_at_call 33; refine (HS.out _).mono ?_; rintro e w' ⟨rfl, rfl⟩))
    go_region
    have q0 : Blk4 (w.alloc (.cells #[.int .i64 L, .int .u8 k, .int .u8 f, .int .i64 s] 41)).drew w.heap.size 41 (.int .i64 L) (.int .u8 k) (.int .u8 f) (.int .i64 s) := (Blk4.new w _ _ _ _ _).drew
    have qb : Below w.heap.size w (w.alloc (.cells #[.int .i64 L, .int .u8 k, .int .u8 f, .int .i64 s] 41)).drew := ((Below.refl _ _).alloc (Nat.le_refl _) _).trans ⟨rfl, rfl, rfl, Nat.le_refl _, fun _ _ => rfl⟩
    have qs : w.heap.size < (w.alloc (.cells #[.int .i64 L, .int .u8 k, .int .u8 f, .int .i64 s] 41)).drew.heap.size := by simp
    have qy : Byt (w.alloc (.cells #[.int .i64 L, .int .u8 k, .int .u8 f, .int .i64 s] 41)).drew (some ⟨b, o + 9, none⟩) (n - 9) (c - 9) (l.drop 9) := ((H.out.alloc _).drew).tail hn hc
    go_wp2_with fail
    generalize (w.alloc (.cells #[.int .i64 L, .int .u8 k, .int .u8 f, .int .i64 s] 41)).drew = W0 at *
    obtain ⟨q1, q2, q3, q4⟩ := q0.cells
    have Q0 := Lib.hid q0
    clear q0
    have QY := Lib.hid qy
    clear qy
    go_region_held3 (fun w' => w'.cell? ⟨w.heap.size, 0, none⟩ = some (.int .i64 L) ∧ w'.cell? ⟨w.heap.size, 1, none⟩ = some (.int .u8 k) ∧ w'.cell? ⟨w.heap.size, 2, none⟩ = some (.int .u8 f) ∧ w'.cell? ⟨w.heap.size, 3, none⟩ = some (.int .i64 s)) (first | exact ⟨q1, q2, q3, q4⟩ | exact s2) (first
      | (go_at_call 23; refine (fClone _ _ _ _ _ QY.out.drew (by omega)).mono ?_; rintro e W2 ⟨A2, c2, rfl, hm2, hb2⟩; have t2 := Q0.out.drew.below hb2; have s2 := t2.cells; have f0 := t2.frozen 0; have f1 := t2.frozen 1; have f2 := t2.frozen 2; have f3 := t2.frozen 3; obtain ⟨a0, a1, a2, a3⟩ := t2.again; have T2 := Lib.hid t2; clear t2))
    go_wp2
    obtain ⟨s0, s1, s3, s4⟩ := s2
    exact bodyPost_ret (v := .tuple #[.agg #[.int .i64 L, .int .u8 k, .int .u8 f, .int .i64 s], .slice A2 (n - 9) c2, .int .i64 0]) (by simp [results, Try.f31, go_sem, s0, s1, s3, s4]) rfl ⟨⟨A2, _, c2, rfl, hm2.base_le qb.size⟩, (qb.trans (show Below w.heap.size W0 W0.drew from ⟨rfl, rfl, rfl, Nat.le_refl _, fun _ _ => rfl⟩)).trans (hb2.mono qb.size)⟩

theorem fHTake (A : Option Addr) (n c : Nat) (l : List Int) (w : World) (h : Byt w A n c l) (hn2 : n ≤ 140737488355328) :
    Calls Try.prog 31 #[.slice A n c] w (TakeP l w) := by
  have hl := h.len
  unfold TakeP hL hK hF hS hR hE
  by_cases hn : n < 9
  · rw [if_pos (by omega), if_pos (by omega), if_pos (by omega), if_pos (by omega), if_pos (by omega), if_pos (by omega)]
    refine (htShort A n c w hn).mono ?_
    rintro e W' ⟨rfl, hb⟩
    exact ⟨⟨none, 0, 0, rfl, Mine.nil _ _⟩, hb⟩
  · rw [if_neg (by omega), if_neg (by omega), if_neg (by omega), if_neg (by omega), if_neg (by omega), if_neg (by omega)]
    obtain ⟨b, o, rfl, hb, hcell⟩ := h.cell (by omega)
    exact htYes b o n c l w h (by omega) hn2 hb _ _ _ _ _ _ (hcell 3 (by omega)) (hcell 4 (by omega))
      (Lib.hid fun X => fOTake _ _ _ l _ _ _ (by omega) (h.alloc X)) (Lib.hid fun X => fOStream _ _ _ l _ _ (by omega) (h.alloc X))
end Go.Proofs.Ythcnfalfhdeflaa
