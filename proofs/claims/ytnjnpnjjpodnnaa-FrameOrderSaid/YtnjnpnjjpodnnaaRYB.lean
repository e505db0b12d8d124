/- Texts of the layers below, put together. -/
import Derived.Test.YtnjnpnjjpodnnaaRows
import Derived.WalkKit
import Derived.WalkLawsBesides
import Derived.WalkSpells
import Derived.Lib.Hide
import Derived.Laws.OwnMore
import Derived.Laws.BytesArg
import Derived.Deep.AppendLies
import Derived.Deep.Draws
import Derived.Maps.AppendAt
import Derived.ProofKit
import Derived.RangeFuncNested
import Derived.RangeFuncBound
import Derived.RangeFuncCalls
import Derived.RangeFuncLeaves
import Derived.RangeFuncBox
import Derived.Maps.OwnIn
import Derived.Shelf.Abstract
import Derived.Shelf.RegionOpen
import Derived.OwnWalkIn
import Derived.TacticsInMore
import Derived.LoopNIn
import Derived.LoopIn
import Derived.Lib.Bytes
import Derived.Laws.BitsAllLaws
import Derived.Laws.BitsLemmas
import Derived.Deep.OwnRows
import Derived.StillTail
import Derived.StillTactics
import Derived.StillTailTactics
import Derived.OrdersIn
import Derived.Deep.RegionHeld3
import Derived.Maps.Own
import Derived.Maps.OwnOps
import Derived.Laws.CopyOwn
import Derived.Laws.Tables
import Derived.Lib.AppendStr
/- Words for slices of bytes: one that is read, one that the call owns; what append, a cut, a turn into a string do with them. -/

namespace Go.Proofs.Ytnjnpnjjpodnnaa
open Go.RowKit Go.ChangeShapes Go.WideShapes

/-- The call returned this value and the world is as it was. -/
def Ret (v : Value) (W : World) (e : Ending) (w' : World) : Prop := e = .returned v ∧ W = w'
theorem ret_bool {a b : Bool} (h : a = b) : Ending.returned (.bool a) = Ending.returned (.bool b) := by rw [h]
/-- Each number is a byte's. -/
def Bs (l : List Int) : Prop := ∀ x ∈ l, 0 ≤ x ∧ x ≤ 255
theorem Bs.nil : Bs [] := fun _ h => by cases h
theorem Bs.one {x : Int} (h : 0 ≤ x) (k : x ≤ 255) : Bs [x] := fun y hy => by simp at hy; subst hy; exact ⟨h, k⟩
theorem Bs.cons {x : Int} {l : List Int} (h : 0 ≤ x ∧ x ≤ 255) (k : Bs l) : Bs (x :: l) := fun y hy => by
  rcases List.mem_cons.1 hy with rfl | hy
  · exact h
  · exact k y hy
theorem Bs.append {l m : List Int} (h : Bs l) (k : Bs m) : Bs (l ++ m) := fun y hy => (List.mem_append.1 hy).elim (h y) (k y)
theorem Bs.take {l : List Int} (h : Bs l) (n : Nat) : Bs (l.take n) := fun y hy => h y (List.mem_of_mem_take hy)
theorem Bs.drop {l : List Int} (h : Bs l) (n : Nat) : Bs (l.drop n) := fun y hy => h y (List.mem_of_mem_drop hy)
theorem Bs.get {l : List Int} (h : Bs l) (k : Nat) : 0 ≤ l[k]?.getD 0 ∧ l[k]?.getD 0 ≤ 255 := by
  rcases Nat.lt_or_ge k l.length with hk | hk
  · rw [List.getElem?_eq_getElem hk]; exact h _ (List.getElem_mem hk)
  · rw [List.getElem?_eq_none hk]; exact ⟨by decide, by decide⟩

/-- The slice at A of length n, capacity c reads as the bytes l. -/
structure Byt (w : World) (A : Option Addr) (n c : Nat) (l : List Int) : Prop where
  len : l.length = n
  cap : n ≤ c
  mx : c ≤ 9223372036854775807
  nn : A = none → c = 0
  bs : Bs l
  cell : 0 < n → ∃ b o, A = some ⟨b, o, none⟩ ∧ b < w.heap.size ∧ ∀ i, i < n → w.cell? ⟨b, o + i, none⟩ = some (.int .u8 (l[i]?.getD 0))

section
variable {w w' : World} {A : Option Addr} {n c : Nat} {l : List Int}
theorem Byt.nil (w : World) : Byt w none 0 0 [] := ⟨rfl, Nat.le_refl _, by decide, fun _ => rfl, Bs.nil, fun h => absurd h (Nat.lt_irrefl _)⟩
theorem Byt.keep (h : Byt w A n c l) (hs : w.heap.size ≤ w'.heap.size) (hk : ∀ b o, b < w.heap.size → w'.cell? ⟨b, o, none⟩ = w.cell? ⟨b, o, none⟩) : Byt w' A n c l :=
  ⟨h.len, h.cap, h.mx, h.nn, h.bs, fun hn => by
    obtain ⟨b, o, e, hb, hc⟩ := h.cell hn
    exact ⟨b, o, e, by omega, fun i hi => (hk _ _ hb).trans (hc i hi)⟩⟩
theorem Byt.below (h : Byt w A n c l) (hb : Below w.heap.size w w') : Byt w' A n c l := h.keep hb.size fun _ _ k => hb.cell k
theorem Byt.drew (h : Byt w A n c l) : Byt w.drew A n c l := h.keep (Nat.le_refl _) fun _ _ _ => rfl
theorem Byt.alloc (h : Byt w A n c l) (o : Obj) : Byt (w.alloc o) A n c l := h.keep (by simp) fun b q hb => World.cell?_alloc_lt w o ⟨b, q, none⟩ hb
/-- A store into a block that is not the slice's own. -/
theorem Byt.far (h : Byt w A n c l) {p : Addr} (hp : ∀ b o, A = some ⟨b, o, none⟩ → b ≠ p.block) (v : Value) : Byt (w.setCell p v) A n c l :=
  ⟨h.len, h.cap, h.mx, h.nn, h.bs, fun hn => by
    obtain ⟨b, o, e, hb, hc⟩ := h.cell hn
    exact ⟨b, o, e, by simpa [World.setCell] using hb, fun i hi => (World.cell?_of_block (Below.heap_setCell w p v b (hp b o e))).trans (hc i hi)⟩⟩
theorem Byt.grown (h : Byt w A n c l) {row : Option Nat} (hg : w.grownBy w' row) (hr : ∀ b o, A = some ⟨b, o, none⟩ → some b ≠ row) : Byt w' A n c l :=
  ⟨h.len, h.cap, h.mx, h.nn, h.bs, fun hn => by
    obtain ⟨b, o, e, hb, hc⟩ := h.cell hn
    exact ⟨b, o, e, Nat.lt_of_lt_of_le hb hg.size, fun i hi => (World.cell?_of_block (hg.block b hb (hr b o e))).trans (hc i hi)⟩⟩
theorem Byt.at_ (h : Byt w A n c l) {k : Nat} (hk : k < n) : ∃ b o, A = some ⟨b, o, none⟩ ∧ b < w.heap.size ∧ w.cell? ⟨b, o + k, none⟩ = some (.int .u8 (l[k]?.getD 0)) := by
  obtain ⟨b, o, e, hb, hc⟩ := h.cell (by omega)
  exact ⟨b, o, e, hb, hc k hk⟩
end

/-- The value of the slice expression: from lo on, n long. -/
def cutA (A : Option Addr) (c lo : Nat) : Option Addr := if c = lo then A else A.map (·.add lo)
theorem Byt.cut {w : World} {A : Option Addr} {n c : Nat} {l : List Int} (h : Byt w A n c l) {lo hi : Nat} (h1 : lo ≤ hi) (h2 : hi ≤ n) : Byt w (cutA A c lo) (hi - lo) (c - lo) ((l.take hi).drop lo) := by
  have hl := h.len
  have hc := h.cap
  have hm := h.mx
  refine ⟨by rw [List.length_drop, List.length_take]; omega, by omega, by omega, fun e => ?_, (h.bs.take _).drop _, fun hn => ?_⟩
  · unfold cutA at e
    split at e
    · have := h.nn e; omega
    · have : A = none := by simpa using e
      have := h.nn this; omega
  · obtain ⟨b, o, rfl, hb, hcell⟩ := h.cell (by omega)
    refine ⟨b, o + lo, ?_, hb, fun i hi' => ?_⟩
    · unfold cutA
      rw [if_neg (by omega)]
      simp [Go.WideShapes.add_plain]
    · rw [Nat.add_assoc, hcell (lo + i) (by omega), List.getElem?_drop, List.getElem?_take, if_pos (by omega)]

/-- A slice of the call's own: nil, or at the head of a block from base on that is not frozen; it holds the bytes l. -/
def Mine (base : Nat) (w : World) (A : Option Addr) (n c : Nat) (l : List Int) : Prop :=
  w.ownsRow base 5 1 (.slice A n c) n (l.map (Value.int .u8)) ∧ Bs l

section
variable {base : Nat} {w w' : World} {A : Option Addr} {n c : Nat} {l : List Int}
theorem Mine.len (h : Mine base w A n c l) : l.length = n := by have := h.1.1; simpa using this
theorem Mine.nil (base : Nat) (w : World) : Mine base w none 0 0 [] := ⟨World.ownsRow_nil w base _ 1, Bs.nil⟩
theorem Mine.cases (h : Mine base w A n c l) : (A = none ∧ n = 0 ∧ c = 0) ∨ ∃ g, A = some ⟨g, 0, none⟩ ∧ base ≤ g ∧ g < w.heap.size ∧ n ≤ c ∧ c ≤ 9223372036854775807 ∧ (∀ j, j < n → w.cell? ⟨g, j, none⟩ = some (.int .u8 (l[j]?.getD 0))) ∧ ∀ j, w.frozen? ⟨g, j, none⟩ = false := by
  have hl := h.len
  rcases h.1.2 with ⟨e, rfl⟩ | ⟨g, cap, cur, e, hb, hg, hnc, hcm, hcs, htake⟩
  · simp at e
    exact .inl ⟨e.1, rfl, e.2⟩
  · simp at e
    obtain ⟨rfl, rfl⟩ := e
    refine .inr ⟨g, rfl, hb, (Array.getElem?_eq_some_iff.1 hg).1, hnc, by simpa [maxLen] using hcm, fun j hj => ?_, fun j => frozen_of_row w g j cur _ hg⟩
    rw [h.1.cellAt j (by omega)]
    rw [List.getElem?_map, List.getElem?_eq_getElem (by omega)]
    rfl
theorem Mine.byt (h : Mine base w A n c l) : Byt w A n c l := by
  have hl := h.len
  rcases h.cases with ⟨rfl, rfl, rfl⟩ | ⟨g, rfl, hb, hg, hnc, hcm, hcell, _⟩
  · exact ⟨hl, Nat.le_refl _, by decide, fun _ => rfl, h.2, fun k => absurd k (Nat.lt_irrefl _)⟩
  · exact ⟨hl, hnc, hcm, fun e => by simp at e, h.2, fun _ => ⟨g, 0, rfl, hg, fun i hi => by rw [Nat.zero_add]; exact hcell i hi⟩⟩
theorem Mine.keep (h : Mine base w A n c l) (hk : ∀ g, g < w.heap.size → A = some ⟨g, 0, none⟩ → w'.heap[g]? = w.heap[g]?) : Mine base w' A n c l := by
  refine ⟨⟨h.1.1, ?_⟩, h.2⟩
  rcases h.1.2 with h' | ⟨g, cap, cur, e, hb, hg, hr⟩
  · exact .inl h'
  · have e' : A = some ⟨g, 0, none⟩ := by simp at e; exact e.1
    exact .inr ⟨g, cap, cur, e, hb, (hk g (Array.getElem?_eq_some_iff.1 hg).1 e').trans hg, hr⟩
theorem Mine.below (h : Mine base w A n c l) (hb : Below w.heap.size w w') : Mine base w' A n c l := h.keep fun g hg _ => hb.block g hg
theorem Mine.alloc (h : Mine base w A n c l) (o : Obj) : Mine base (w.alloc o) A n c l := h.keep fun g hg _ => Below.heap_alloc w o g hg
theorem Mine.drew (h : Mine base w A n c l) : Mine base w.drew A n c l := h
theorem Mine.far (h : Mine base w A n c l) {p : Addr} (hp : ∀ g, A = some ⟨g, 0, none⟩ → g ≠ p.block) (v : Value) : Mine base (w.setCell p v) A n c l :=
  h.keep fun g _ e => Below.heap_setCell w p v g (hp g e)
theorem Mine.grown (h : Mine base w A n c l) {row : Option Nat} (hg : w.grownBy w' row) (hr : ∀ g, A = some ⟨g, 0, none⟩ → some g ≠ row) : Mine base w' A n c l :=
  h.keep fun g hb e => hg.block g hb (hr g e)
theorem Mine.base_le (h : Mine base w A n c l) {b : Nat} (hb : b ≤ base) : Mine b w A n c l := by
  refine ⟨⟨h.1.1, ?_⟩, h.2⟩
  rcases h.1.2 with h' | ⟨g, cap, cur, e, hg, hr⟩
  · exact .inl h'
  · exact .inr ⟨g, cap, cur, e, by omega, hr⟩
/-- A block that was laid just now, of the bytes l. -/
theorem Mine.lit (w : World) (l : List Int) (hb : base ≤ w.heap.size) (hs : Bs l) (hl : l.length ≤ 65536) (n : Nat) (hn : n = l.length) : Mine base (w.alloc (.cells (l.map (Value.int .u8)).toArray 5)) (some ⟨w.heap.size, 0, none⟩) n n l := by
  subst hn
  have := World.ownsRow_lit (base := base) (e := 5) (size := 1) w (l.map (Value.int .u8)).toArray l.length hb (by simp [maxLen]; omega) (by simp)
  exact ⟨by simpa using this, hs⟩
end

theorem info8 : (Try.prog.info? 5).map (fun i => (i.zero, i.size, i.bytes)) = some (some (.int .u8 0), 1, 1) := by kernel_rfl

/-- append(v, u...): v of the call's own, u whatever slice. -/
theorem wpList_app (w : World) {ops : Array Oper} {rest : List Oper} {o : Oper} {a : Act} {Q : Exit → Act → World → Prop} (hgd : o.guard = none) (s x : Operand)
    (ho : o.op = .call { callee := .builtin .append, args := #[s, x], argTypes := #[24, 24] })
    (base : Nat) (A : Option Addr) (n c : Nat) (l : List Int) (hs : a.eval s = .slice A n c) (hown : Mine base w A n c l)
    (B : Option Addr) (m d : Nat) (l' : List Int) (hx : a.eval x = .slice B m d) (hr : Byt w B m d l')
    (hlen : l.length + l'.length ≤ 140737488355328) (hbase : base ≤ w.heap.size)
    (h : ∀ A' c' w', Mine base w' A' (n + m) c' (l ++ l') → Below base w w' → w.grownBy w' (Value.slice A n c).ownBlock → ((Value.slice A' (n + m) c').ownBlock = (Value.slice A n c).ownBlock ∨ (Value.slice A' (n + m) c').ownBlock = some w.heap.size) → wpList Try.prog ops Q rest (a.put o.dst (.slice A' (n + m) c')) w') : wpList Try.prog ops Q (o :: rest) a w := by
  obtain ⟨i0, hi, hz0, hz1, hz2⟩ := info_parts info8
  have hl := hown.len
  have hl' := hr.len
  have hbel : ∀ w', w.grownBy w' (Value.slice A n c).ownBlock → Below base w w' := fun w' hg => by
    refine (Below.refl _ _).grown hg hbase fun k hk => ?_
    exact (hown.1.lt k hk).1
  by_cases h0 : m = 0
  · subst h0
    have hn' : l' = [] := List.eq_nil_of_length_eq_zero hl'
    subst hn'
    refine wpList_plain hgd fun K hK => ?_
    have hrun : (Builtin.append_ #[24, 24] o.type #[.slice A n c, .slice B 0 d]).run Try.prog w = .ok (.slice A n c) w := by
      have hls : ∀ ad, (loadCells ad 0).run Try.prog w = .ok #[] w := fun ad => by simp [loadCells, loadCellsFrom]
      rcases hown.1.2 with ⟨e, _⟩ | ⟨g, cap, cur, e, _, _, hnc, _⟩
      · simp at e
        obtain ⟨rfl, rfl, rfl⟩ := e
        cases B <;> simp [Builtin.append_, run_underlying Try.underlying24, sizeOf, typeInfo, hi, Builtin.lenOf, Builtin.firstCells, hls]
      · simp at e
        obtain ⟨rfl, rfl⟩ := e
        cases B <;> simp [Builtin.append_, run_underlying Try.underlying24, sizeOf, typeInfo, hi, Builtin.lenOf, Builtin.firstCells, hnc, storeCells, hls]
    unfold Oper.wp execOp
    simp only [ho, resolve, invoke, builtin, Sem.run_bind, Sem.run_pure, Result.andThen_ok, List.map_toArray, List.map_cons, List.map_nil, hs, hx, hrun]
    exact hK _ _ (h A c w (by simpa using hown) (Below.refl _ _) (World.grownBy.refl w _) (.inl rfl))
  · obtain ⟨b, off, rfl, hb, hcell⟩ := hr.cell (by omega)
    refine wpList_append_own_at w hgd s x 24 ho base 5 i0 (.int .u8 0) 1 1 Try.underlying24 hi hz0 hz1 hz2 rfl (by omega) (.slice A n c) n (l.map (Value.int .u8)) hs hown.1
      ⟨b, off, none⟩ m d (l'.map (Value.int .u8)) hx (by simpa using hl') (fun j u hu => ?_) (fun u hu => ?_) (by simp only [maxLen]; omega) (by omega) hbase ?_
    · have hj : j < m := by have := (List.getElem?_eq_some_iff.1 hu).1; simp at this; omega
      rw [Go.WideShapes.add_plain, hcell j hj, ← hu, List.getElem?_map, List.getElem?_eq_getElem (by omega)]
      rfl
    · obtain ⟨y, _, rfl⟩ := List.mem_map.1 hu
      rfl
    · intro v' w' hown' hgrow _ hat
      rcases hown'.2 with ⟨e, he⟩ | ⟨g, cap, cur, e, hr'⟩
      · omega
      · subst e
        exact h _ _ _ ⟨by rw [List.map_append]; exact hown', hown.2.append hr.bs⟩ (hbel _ hgrow) hgrow hat

/-- append(v, y): v of the call's own. -/
theorem wpList_app1 (W : World) {ops : Array Oper} {rest : List Oper} {o : Oper} {a : Act} {Q : Exit → Act → World → Prop} (hgd : o.guard = none) (s x : Operand)
    (ho : o.op = .call { callee := .builtin .append, args := #[s, x], argTypes := #[24, 24] })
    (base : Nat) (A : Option Addr) (n c : Nat) (l : List Int) (hs : a.eval s = .slice A n c) (hown : Mine base W A n c l) (y : Int) {g0 : Nat} (hx : a.eval x = .slice (some ⟨g0, 0, none⟩) 1 1) (hg0 : W.heap.size = g0)
    (hy : 0 ≤ y ∧ y ≤ 255) (hlen : n + 1 ≤ 140737488355328) (hbase : base ≤ W.heap.size)
    (h : ∀ A' c' w', Mine base w' A' (n + 1) c' (l ++ [y]) → Below base W w' → (W.alloc (.cells #[.int .u8 y] 5)).grownBy w' (Value.slice A n c).ownBlock → wpList Try.prog ops Q rest (a.put o.dst (.slice A' (n + 1) c')) w') :
    wpList Try.prog ops Q (o :: rest) a (W.alloc (.cells #[.int .u8 y] 5)) := by
  subst hg0
  have hl := hown.len
  refine wpList_app _ hgd s x ho base A n c l hs (hown.alloc _) (some ⟨W.heap.size, 0, none⟩) 1 1 [y] hx (Mine.lit (base := 0) W [y] (Nat.zero_le _) (Bs.one hy.1 hy.2) (by simp) 1 rfl).byt (by simp; omega) (by simp; omega) ?_
  intro A' c' w' h1 h2 h3 _
  exact h A' c' w' h1 (((Below.refl base W).alloc hbase _).trans h2) h3

/-- Whatever lay in W lies as it lay. -/
structure Bel (W w : World) : Prop where
  out : Below W.heap.size W w
theorem Bel.refl (W : World) : Bel W W := ⟨Below.refl _ _⟩
theorem Bel.step {W wa wb : World} (h : Bel W wa) (k : Below wa.heap.size wa wb) : Bel W wb := ⟨h.out.trans (k.mono h.out.size)⟩
theorem Bel.alloc {W wa : World} (h : Bel W wa) (o : Obj) : Bel W (wa.alloc o) := ⟨h.out.alloc h.out.size o⟩
theorem lit2 {w : World} {g : Nat} {x1 x2 : Int} (hg : w.heap.size = g) (h : Bs [x1, x2]) : Byt (w.alloc (.cells #[.int .u8 x1, .int .u8 x2] 5)) (some ⟨g, 0, none⟩) 2 2 [x1, x2] := by
  subst hg
  exact (Mine.lit (base := 0) w _ (Nat.zero_le _) h (by simp) 2 rfl).byt
theorem lit4 {w : World} {g : Nat} {x1 x2 x3 x4 : Int} (hg : w.heap.size = g) (h : Bs [x1, x2, x3, x4]) : Byt (w.alloc (.cells #[.int .u8 x1, .int .u8 x2, .int .u8 x3, .int .u8 x4] 5)) (some ⟨g, 0, none⟩) 4 4 [x1, x2, x3, x4] := by
  subst hg
  exact (Mine.lit (base := 0) w _ (Nat.zero_le _) h (by simp) 4 rfl).byt
theorem lit5 {w : World} {g : Nat} {x1 x2 x3 x4 x5 : Int} (hg : w.heap.size = g) (h : Bs [x1, x2, x3, x4, x5]) : Byt (w.alloc (.cells #[.int .u8 x1, .int .u8 x2, .int .u8 x3, .int .u8 x4, .int .u8 x5] 5)) (some ⟨g, 0, none⟩) 5 5 [x1, x2, x3, x4, x5] := by
  subst hg
  exact (Mine.lit (base := 0) w _ (Nat.zero_le _) h (by simp) 5 rfl).byt
theorem lit6 {w : World} {g : Nat} {x1 x2 x3 x4 x5 x6 : Int} (hg : w.heap.size = g) (h : Bs [x1, x2, x3, x4, x5, x6]) : Byt (w.alloc (.cells #[.int .u8 x1, .int .u8 x2, .int .u8 x3, .int .u8 x4, .int .u8 x5, .int .u8 x6] 5)) (some ⟨g, 0, none⟩) 6 6 [x1, x2, x3, x4, x5, x6] := by
  subst hg
  exact (Mine.lit (base := 0) w _ (Nat.zero_le _) h (by simp) 6 rfl).byt
end Go.Proofs.Ytnjnpnjjpodnnaa
/- The contracts of bytes.Clone and of the turn of bytes into a string. -/

namespace Go.Proofs.Ytnjnpnjjpodnnaa
open Go.RowKit Go.ChangeShapes Go.WideShapes

theorem fClone (A : Option Addr) (n c : Nat) (l : List Int) (w : World) (h : Byt w A n c l) (hn : n ≤ 140737488355328) :
    Calls Try.prog 41 #[.slice A n c] w fun e w' => ∃ A' c', e = .returned (.slice A' n c') ∧ Mine w.heap.size w' A' n c' l ∧ Below w.heap.size w w' := by
  have q22 : ∀ (w : World) (a : Option Addr) (n c n' c' : Nat), (binOp .eql 24 (.slice a n c) (.slice none n' c')).run Try.prog w = .ok (.bool a.isNone) w := fun w a n c n' c' => Lib.run_eql_slice_nil w _ _ a n c n' c' Try.underlying24
  have hl := h.len
  rcases A with _ | a
  · have hc := h.nn rfl
    have hcap := h.cap
    obtain rfl : n = 0 := by omega
    obtain rfl : l = [] := List.eq_nil_of_length_eq_zero hl
    subst hc
    go_enter Try.func41, Try.ntmps41
    go_wp2
    go_ret
    exact ⟨none, 0, rfl, Mine.nil _ _, Below.refl _ _⟩
  · have H := Lib.hid h
    have Hl := Lib.hid hl
    clear h hl
    go_enter Try.func41, Try.ntmps41
    go_wp2_with (at_builtin; refine wpList_app _ rfl (.tmp 5) (.tmp 6) rfl w.heap.size (some ⟨w.heap.size, 0, none⟩) 0 0 [] rfl (by exact Mine.lit w [] (Nat.le_refl _) Bs.nil (by simp) 0 rfl) (some a) n c l rfl (H.out.alloc _) (by have := Hl.out; simp; omega) (by simp) ?_; intro A' c' w1 hown hbel hgr hat)
    go_ret
    have hb2 : Below w.heap.size w (w.alloc (.cells #[] 5)) := (Below.refl _ _).alloc (Nat.le_refl _) _
    exact ⟨A', c', by simp, by simpa using hown, hb2.trans hbel⟩

/-- A slice of bytes as a string. -/
def strOf (l : List Int) : ByteArray := strOfNums l
theorem Byt.conv {w : World} {A : Option Addr} {n c : Nat} {l : List Int} (h : Byt w A n c l) : (convert 24 9 (.slice A n c)).run Try.prog w = .ok (.string (strOf l)) w := by
  have hl := h.len
  rcases Nat.eq_zero_or_pos n with h0 | h0
  · subst h0
    obtain rfl : l = [] := List.eq_nil_of_length_eq_zero hl
    rw [run_convert_bytes_string w 24 9 5 _ 0 c Try.underlying24 Try.underlying5 Try.underlying9]
    cases A <;> simp [Conv.bytesToString, loadCells, strOf, strOfNums]
    all_goals rfl
  · obtain ⟨b, o, rfl, _, hc⟩ := h.cell h0
    exact run_convert_bytes_arg (P := Try.prog) w 24 5 Try.underlying24 Try.underlying5 b o n c l hl (fun i hi => by rw [hc i hi]; rfl) 9 Try.underlying9
theorem strOf_inj {l m : List Int} (hl : Bs l) (hm : Bs m) (h : strOf l = strOf m) : l = m := by
  have h1 : (strOf l).data.toList = (strOf m).data.toList := by rw [h]
  unfold strOf at h1
  rw [strOfNums_data, strOfNums_data] at h1
  have h2 := congrArg (List.map fun x : UInt8 => (x.toNat : Int)) h1
  have key : ∀ k : List Int, Bs k → (k.map fun n => UInt8.ofNat n.toNat).map (fun x : UInt8 => (x.toNat : Int)) = k := fun k hk => by
    rw [List.map_map]
    conv => rhs; rw [← List.map_id k]
    refine List.map_congr_left fun x hx => ?_
    have := hk x hx
    simp
    omega
  rwa [key l hl, key m hm] at h2
def eqB (l m : List Int) : Bool := l == m

end Go.Proofs.Ytnjnpnjjpodnnaa
/- A range over a function whose iterator keeps state of its own in cells (blocks of which Pv tells): the loop's law for it; gotos within a scope. -/

namespace Go.Proofs.Ytnjnpnjjpodnnaa
open Go.RowKit Go.Shelf

/-- What an iterator keeps to that may write the blocks of which Pv tells: as SeqStopsK, but J abides such stores too. -/
def SeqP {α : Type} (Pv : Nat → Prop) (F : Fence) (n : Nat) (P : Program) (g : Nat) (lb : Array Value) (encs : α → Array Value) (Kp : World → World → Prop) (S Sp : List α → Prop) (N : Nat) (w : World) : Prop :=
  ∀ (l : Nat) (J Jx : List α → World → Prop) (W : World), Below w.heap.size w W → AbidesFrom W.heap.size J → AbidesFrom W.heap.size Jx →
    (∀ (b : Nat), Pv b → ∀ pre W v, J pre W → J pre (W.setCell ⟨b, 0, none⟩ v)) →
    (∀ pre x W1, J pre W1 → pre.length < N → YieldAt F (n - 1) P l (encs x) W1 fun e W' =>
      (e = .returned (.bool true) ∧ J (pre ++ [x]) W' ∧ Kp W1 W') ∨ (e = .returned (.bool false) ∧ Jx (pre ++ [x]) W')) →
    J [] W →
    CallsIn F n P g (#[.func (.yield l) #[] #[]] ++ lb) W fun e W' => (∃ v, e = .returned v) ∧ ((∃ xs, S xs ∧ J xs W') ∨ (∃ pre, Sp pre ∧ Jx pre W'))

theorem heap_set_far (W : World) (b k : Nat) (v : Value) (h : k ≠ b) : (W.setCell ⟨b, 0, none⟩ v).heap[k]? = W.heap[k]? := Below.heap_setCell W ⟨b, 0, none⟩ v k h

/-- The loop's law. -/
theorem wpIn_range_priv {F : Fence} {n : Nat} {P : Program} {α : Type} {Pv : Nat → Prop} {g : Operand} {ps : Array Tmp} {assign body : Code} {Q : Exit → Act → World → Prop} {a : Act} {w : World}
    (hro : F.round = none) (h1 : 1 ≤ n) {gf : Nat} {lb : Array Value} (hg : a.eval g = .func (.func gf) #[] lb) (hFg : F.fn gf) (eg : ∀ args w, (callFunc gf args).run P w = .ok (.enter gf args) w)
    {encs : α → Array Value} {Kp : World → World → Prop} {S Sp : List α → Prop} {N : Nat} (hPv : ∀ b, Pv b → b < w.heap.size) (hseq : SeqP Pv F (n - 1) P gf lb encs Kp S Sp N w)
    (hKt : ∀ {A B C : World}, Kp A B → Kp B C → Kp A C) (hKb : ∀ (W : World) (l : Nat) (o o' : Obj), w.heap.size ≤ l → W.heap[l]? = some o → o.isCells = false → o.isWalk = false → Kp W (W.putObj l o')) (hps : ∀ x, (encs x).size = ps.size)
    (I : List α → World → Prop) (Ix : Code → List α → World → Prop) (hI : OwnFrom w.heap.size I) (hIx : ∀ c, OwnFrom w.heap.size (Ix c))
    (hIp : ∀ (b : Nat), Pv b → ∀ pre W v, I pre W → I pre (W.setCell ⟨b, 0, none⟩ v)) (h0 : I [] w)
    (hround : ∀ x : α, ∃ a₁ : Act, (∀ (l : Nat) (W : World) (K : Act → World → Prop), K a₁ W →
      assign.wpIn (F.inRound l) (n - 1 - 1) P (Exit.then K (fun _ _ _ => False)) { tmps := (ps.zip (encs x)).foldl (fun t (p, v) => t.setIfInBounds p v) a.tmps, defers := [] } W) ∧
      (∀ (l : Nat) (pre : List α) (W : World), I pre W → pre.length < N → body.wpIn (F.inRound l) (n - 1 - 1) P (ownPostG w.heap.size Kp I Ix (pre ++ [x]) W) a₁ W))
    (hdone : ∀ (D : Nat) (xs : List α) (W : World), w.heap.size ≤ D → S xs → I xs W → W.heap[D]? = some (.deferred (some [])) → Q .normal { a with defers := { target := .collected D, args := #[] } :: a.defers } W)
    (hstop : ∀ (D : Nat) (c : Code) (pre : List α) (W : World), w.heap.size ≤ D → Sp pre → Ix c pre W → W.heap[D]? = some (.deferred (some [])) → c.wpIn F n P Q { a with defers := { target := .collected D, args := #[] } :: a.defers } W) :
    (Code.rangeFunc g ps assign body).wpIn F n P Q a w := by
  refine wpIn_rangeFunc fun fn hfn => ?_
  rw [hro]
  -- the loop's record, in whatever state
  obtain ⟨rc, hrc⟩ : ∃ rc : LoopState → Option Code → Loop, rc = fun st pe => { state := st, pending := pe, fn, tmps := a.tmps, params := ps, assign, body, defers := w.heap.size } := ⟨_, rfl⟩
  have two : ∀ {A B : World} {row : Option Nat} {k : Nat} {o : Obj}, A.grownBy B row → (∀ r, row = some r → ∃ o : Obj, A.heap[r]? = some o ∧ o.isWalk = true) → A.heap[k]? = some o → o.isWalk = false → B.heap[k]? = some o :=
    fun hg' hr hk ho => (grownBy_keeps hg' hr hk ho).trans hk
  have hD : ((w.alloc (.deferred (some []))).alloc (.loop (rc .ready none))).heap[w.heap.size]? = some (.deferred (some [])) :=
    (Below.heap_alloc _ _ _ (by simp)).trans (World.alloc_heap_new w _)
  have hL : ((w.alloc (.deferred (some []))).alloc (.loop (rc .ready none))).heap[w.heap.size + 1]? = some (.loop (rc .ready none)) := by
    have := World.alloc_heap_new (w.alloc (.deferred (some []))) (.loop (rc .ready none))
    rwa [World.size_alloc] at this
  have hI2 : I [] ((w.alloc (.deferred (some []))).alloc (.loop (rc .ready none))) := hI.alloc _ (hI.alloc _ h0)
  have hb2 : Below w.heap.size w ((w.alloc (.deferred (some []))).alloc (.loop (rc .ready none))) := ((Below.refl _ w).alloc (Nat.le_refl _) _).alloc (by simp) _
  have henter := run_enterLoop_outer (P := P) (w := w) fn a.tmps ps assign body
  have hz2 : ((w.alloc (.deferred (some []))).alloc (.loop (rc .ready none))).heap.size = w.heap.size + 2 := by simp
  generalize hW1 : (w.alloc (.deferred (some []))).alloc (.loop (rc .ready none)) = W1 at hD hL hI2 hb2 hz2
  refine ⟨w.heap.size + 1, [{ target := .collected w.heap.size, args := #[] }], W1, { target := .fn (.func gf) lb, args := #[.func (.yield (w.heap.size + 1)) #[] #[]] }, W1, gf,
    #[.func (.yield (w.heap.size + 1)) #[] #[]] ++ lb, W1, ?_, ?_, ?_, ?_, fun _ => h1, ?_⟩
  · rw [← hW1, hrc]; exact henter
  · simp only [resolve, hg]
    simp [go_sem]
  · intro f' hf'; simp [Target.leads] at hf'; subst hf'; exact hFg
  · simp [invoke, go_sem, eg]
  refine (hseq (w.heap.size + 1)
    (fun pre W => I pre W ∧ W.heap[w.heap.size + 1]? = some (.loop (rc .ready none)) ∧ W.heap[w.heap.size]? = some (.deferred (some [])))
    (fun pre W => ∃ c, Ix c pre W ∧ W.heap[w.heap.size + 1]? = some (.loop (rc .done (some c))) ∧ W.heap[w.heap.size]? = some (.deferred (some [])))
    W1 hb2 ?abJ ?abX ?priv ?rounds ⟨hI2, hL, hD⟩).mono ?behind
  case abJ =>
    intro s A B row hs hg' hr
    refine ⟨hI s A B row hs.1 hg' fun r e => ?_, two hg' (fun r e => (hr r e).2) hs.2.1 rfl, two hg' (fun r e => (hr r e).2) hs.2.2 rfl⟩
    obtain ⟨hB, o, ho, hw⟩ := hr r e
    exact ⟨by omega, o, ho, Obj.not_cells_of_walk hw⟩
  case abX =>
    rintro s A B row ⟨c, hc, hl, hk⟩ hg' hr
    refine ⟨c, hIx c s A B row hc hg' fun r e => ?_, two hg' (fun r e => (hr r e).2) hl rfl, two hg' (fun r e => (hr r e).2) hk rfl⟩
    obtain ⟨hB, o, ho, hw⟩ := hr r e
    exact ⟨by omega, o, ho, Obj.not_cells_of_walk hw⟩
  case priv =>
    rintro b hb pre W v ⟨hi, hl, hk⟩
    have := hPv b hb
    exact ⟨hIp b hb pre W v hi, (heap_set_far W b _ v (by omega)).trans hl, (heap_set_far W b _ v (by omega)).trans hk⟩
  case rounds =>
    rintro pre x W ⟨hi, hl, hk⟩ hlen
    have hlt : w.heap.size + 1 < W.heap.size := (Array.getElem?_eq_some_iff.1 hl).1
    have hy := run_yield (P := P) (args := encs x) hl (by rw [hrc]; exact hps x)
    rw [hrc] at hy
    obtain ⟨a₁, hassign, hbody⟩ := hround x
    refine ⟨fn, _, assign, body, hy, roundIn_of_wpIn hfn (hassign _ W _ ⟨_, run_beginRound hl (by rw [hrc]), ?_⟩)⟩
    obtain ⟨W2, hW2⟩ : ∃ W2, W.putObj (w.heap.size + 1) (.loop { rc .ready none with state := .busy }) = W2 := ⟨_, rfl⟩
    have hl2 : W2.heap[w.heap.size + 1]? = some (.loop { rc .ready none with state := .busy }) := by rw [← hW2]; exact World.putObj_heap_same hlt
    have hk2 : W2.heap[w.heap.size]? = some (.deferred (some [])) := by rw [← hW2]; exact (World.putObj_heap_other (by omega)).trans hk
    have hKp2 : Kp W W2 := by rw [← hW2]; exact hKb _ _ _ _ (by omega) hl rfl rfl
    have hI3 : I pre W2 := by rw [← hW2]; exact hI.putObj _ hi (by omega) hl rfl
    have close : ∀ (jump : Option Code) (W3 : World), KeepsFrom w.heap.size W2 W3 →
        (Instr.endRound (w.heap.size + 1) jump).run P W3 = .ok (.bool jump.isNone) (W3.putObj (w.heap.size + 1) (.loop (rc (if jump.isNone then .ready else .done) jump))) ∧
        W3.heap[w.heap.size + 1]? = some (.loop { rc .ready none with state := .busy }) ∧
        (W3.putObj (w.heap.size + 1) (.loop (rc (if jump.isNone then .ready else .done) jump))).heap[w.heap.size + 1]? = some (.loop (rc (if jump.isNone then .ready else .done) jump)) ∧
        (W3.putObj (w.heap.size + 1) (.loop (rc (if jump.isNone then .ready else .done) jump))).heap[w.heap.size]? = some (.deferred (some [])) := by
      intro jump W3 hk3
      have hl3 := hk3.same _ _ (by omega) hl2 rfl
      have hend := run_endRound (P := P) jump hl3
      rw [hrc] at hend hl3 ⊢
      exact ⟨hend, hl3, World.putObj_heap_same (Array.getElem?_eq_some_iff.1 hl3).1, (World.putObj_heap_other (by omega)).trans (hk3.same _ _ (Nat.le_refl _) hk2 rfl)⟩
    rw [hW2]
    refine wpIn_mono (hbody _ pre _ hI3 hlen) ?_
    intro e a3 W3 hp
    cases e with
    | normal =>
      obtain ⟨hk3, hkp3, hi3⟩ := hp
      obtain ⟨hr, hl3, hl4, hk4⟩ := close none W3 hk3
      exact ⟨_, _, hr, .inl ⟨rfl, ⟨hI.putObj _ hi3 (by omega) hl3 rfl, hl4, hk4⟩, hKt (hKt hKp2 hkp3) (hKb _ _ _ _ (by omega) hl3 rfl rfl)⟩⟩
    | ret =>
      obtain ⟨hr, hl3, hl4, hk4⟩ := close (some .ret) W3 hp.1
      exact ⟨_, _, hr, .inr ⟨rfl, .ret, (hIx _).putObj _ hp.2 (by omega) hl3 rfl, hl4, hk4⟩⟩
    | exit id =>
      obtain ⟨hr, hl3, hl4, hk4⟩ := close (some (.exit id)) W3 hp.1
      exact ⟨_, _, hr, .inr ⟨rfl, (.exit id), (hIx _).putObj _ hp.2 (by omega) hl3 rfl, hl4, hk4⟩⟩
    | goto t =>
      obtain ⟨hr, hl3, hl4, hk4⟩ := close (some (.goto t)) W3 hp.1
      exact ⟨_, _, hr, .inr ⟨rfl, (.goto t), (hIx _).putObj _ hp.2 (by omega) hl3 rfl, hl4, hk4⟩⟩
    | panic ch => exact hp.elim
    | outgrown => exact hp.elim
  case behind =>
    rintro e W2 ⟨⟨v, rfl⟩, ⟨xs, hS, hi, hl, hk⟩ | ⟨pre, hSp, c, hi, hl, hk⟩⟩
    · have hend := run_endLoop (P := P) hl (by rw [hrc]; simp)
      rw [hrc] at hend
      exact ⟨none, _, hend, hdone _ xs _ (Nat.le_refl _) hS (hI.putObj _ hi (by omega) hl rfl) ((World.putObj_heap_other (by omega)).trans hk)⟩
    · have hend := run_endLoop (P := P) hl (by rw [hrc]; simp)
      rw [hrc] at hend
      exact ⟨some c, _, hend, hstop _ c pre _ (Nat.le_refl _) hSp ((hIx c).putObj _ hi (by omega) hl rfl) ((World.putObj_heap_other (by omega)).trans hk)⟩
/-- A scope in which the run jumps forward by goto at most n times. -/
def hop (P : Program) (c : Code) (Q : Exit → Act → World → Prop) : Nat → Exit → Act → World → Prop
  | n + 1, .goto l, a, w => ∃ rest, findLabel c l = some rest ∧ rest.wp P (hop P c Q n) a w
  | 0, .goto _, _, _ => False
  | _, e, a, w => Q e a w

theorem hop_jumps {P : Program} {c : Code} {b : Frame} {k : List Item} {cs : List Frame} {Q : Exit → Act → World → Prop} :
    ∀ (n : Nat) (d : Code) (a : Act) (w : World), d.wp P (hop P c Q n) a w →
      ∃ e a' w', Q e a' w' ∧ Arrives P (lone (b.at a (.code d :: .inScope c :: k)) cs w) b k cs e a' w' := by
  intro n
  induction n with
  | zero =>
    intro d a w h
    obtain ⟨e, a₁, w₁, hq, harr⟩ := h b (.inScope c :: k) cs
    cases e with
    | normal => exact ⟨.normal, a₁, w₁, hq, Steps.trans harr (.one step_inScope)⟩
    | exit id => exact ⟨.exit id, a₁, w₁, hq, fun k' hk => harr k' (by simp [exitTo, hk])⟩
    | goto l => exact hq.elim
    | ret => exact ⟨_, a₁, w₁, hq, harr⟩
    | panic ch => exact ⟨_, a₁, w₁, hq, harr⟩
    | outgrown => exact ⟨_, a₁, w₁, hq, harr⟩
  | succ n ih =>
    intro d a w h
    obtain ⟨e, a₁, w₁, hq, harr⟩ := h b (.inScope c :: k) cs
    cases e with
    | normal => exact ⟨.normal, a₁, w₁, hq, Steps.trans harr (.one step_inScope)⟩
    | exit id => exact ⟨.exit id, a₁, w₁, hq, fun k' hk => harr k' (by simp [exitTo, hk])⟩
    | goto l =>
      obtain ⟨rest, hf, hw⟩ := hq
      obtain ⟨e₂, a₂, w₂, hq₂, harr₂⟩ := ih rest a₁ w₁ hw
      have hg : gotoIn l (.inScope c :: k) = some (.code rest :: .inScope c :: k) := by simp [gotoIn, hf]
      exact ⟨e₂, a₂, w₂, hq₂, .of_steps (harr _ hg) harr₂⟩
    | ret => exact ⟨_, a₁, w₁, hq, harr⟩
    | panic ch => exact ⟨_, a₁, w₁, hq, harr⟩
    | outgrown => exact ⟨_, a₁, w₁, hq, harr⟩

theorem wp_scope_hop {P : Program} {c : Code} {Q : Exit → Act → World → Prop} {a : Act} {w : World} (n : Nat) (h : c.wp P (hop P c Q n) a w) :
    (Code.scope c).wp P Q a w := by
  intro b k cs
  obtain ⟨e, a', w', hq, harr⟩ := hop_jumps (b := b) (k := k) (cs := cs) n c a w h
  exact ⟨e, a', w', hq, .of_steps (.one step_scope) harr⟩

theorem hop_goto {P : Program} {c rest : Code} {Q : Exit → Act → World → Prop} {a : Act} {w : World} {n l : Nat} (hf : findLabel c l = some rest)
    (h : rest.wp P (hop P c Q n) a w) : hop P c Q (n + 1) (.goto l) a w := ⟨rest, hf, h⟩
theorem hop_ret {P : Program} {c : Code} {Q : Exit → Act → World → Prop} {a : Act} {w : World} {n : Nat} (h : Q .ret a w) : hop P c Q n .ret a w := by
  cases n <;> exact h
theorem wp_goto_then {P : Program} {c rest : Code} {Q : Exit → Act → World → Prop} {K : Act → World → Prop} {a : Act} {w : World} {n l : Nat} (hf : findLabel c l = some rest)
    (h : rest.wp P (hop P c Q n) a w) : (Code.goto l).wp P (Exit.then K (hop P c Q (n + 1))) a w := wp_goto (hop_goto (n := n) hf h)

/-- Block b lies as it lay. -/
def Same1 (b : Nat) (W W' : World) : Prop := W'.heap[b]? = W.heap[b]?
theorem Same1.refl (b : Nat) (W : World) : Same1 b W W := rfl
theorem Same1.trans {b : Nat} {A B C : World} (h : Same1 b A B) (k : Same1 b B C) : Same1 b A C := Eq.trans k h
theorem Same1.cell {b : Nat} {A B : World} (h : Same1 b A B) (off : Nat) : B.cell? ⟨b, off, none⟩ = A.cell? ⟨b, off, none⟩ := World.cell?_of_block h
theorem Same1.frozen {b : Nat} {A B : World} (h : Same1 b A B) (off : Nat) : B.frozen? ⟨b, off, none⟩ = A.frozen? ⟨b, off, none⟩ := World.frozen?_of_block h
theorem Same1.setCell {b : Nat} (W : World) {p : Addr} (h : b ≠ p.block) (v : Value) : Same1 b W (W.setCell p v) := Below.heap_setCell W p v b h
theorem Same1.below {b B : Nat} {W W' : World} (h : Below B W W') (hb : b < B) : Same1 b W W' := h.block b hb
theorem Same1.grown {b : Nat} {W W' : World} {row : Option Nat} (h : W.grownBy W' row) (hb : b < W.heap.size) (hr : some b ≠ row) : Same1 b W W' := h.block b hb hr
theorem Same1.put {b : Nat} {w : World} (hb : b < w.heap.size) (W : World) (l : Nat) (o o' : Obj) (hl : w.heap.size ≤ l) (_h : W.heap[l]? = some o) (_ : o.isCells = false) (_ : o.isWalk = false) : Same1 b W (W.putObj l o') :=
  World.putObj_heap_other (by omega)
/-- What holds one value in block b holds it still. -/
def KB (b : Nat) (t : TypeId) (W W' : World) : Prop := ∀ v, Boxed W b t v → Boxed W' b t v
theorem KB.trans {b : Nat} {t : TypeId} {A B C : World} (h : KB b t A B) (k : KB b t B C) : KB b t A C := fun v hv => k v (h v hv)
theorem KB.put {b : Nat} {t : TypeId} {w : World} (hb : b < w.heap.size) (W : World) (l : Nat) (o o' : Obj) (hl : w.heap.size ≤ l) (_h : W.heap[l]? = some o) (_ : o.isCells = false) (_ : o.isWalk = false) : KB b t W (W.putObj l o') :=
  fun _ hv => (World.putObj_heap_other (by omega)).trans hv
theorem boxed_keptN {W W' : World} {B : Nat} {t : TypeId} {v : Value} {row : Option Nat} (h : Boxed W B t v) (hg : W.grownBy W' row) (hr : ∀ r, row = some r → ∃ o : Obj, W.heap[r]? = some o ∧ o.isCells = false) : Boxed W' B t v :=
  h.kept hg fun e => by
    obtain ⟨o, ho, hc⟩ := hr B e.symm
    rw [show W.heap[B]? = _ from h] at ho
    cases ho
    cases hc
theorem Mine.keptN {base : Nat} {W W' : World} {A : Option Addr} {n c : Nat} {l : List Int} {row : Option Nat} (h : Mine base W A n c l) (hg : W.grownBy W' row) (hr : ∀ r, row = some r → ∃ o : Obj, W.heap[r]? = some o ∧ o.isCells = false) : Mine base W' A n c l := by
  refine ⟨⟨h.1.1, ?_⟩, h.2⟩
  rcases h.1.2 with h' | ⟨g, cap, cur, e, hb, hgk, hrest⟩
  · exact .inl h'
  · exact .inr ⟨g, cap, cur, e, hb, (grownBy_keeps_cells hg hr hgk rfl).trans hgk, hrest⟩
/-- A store into a box of another type leaves it as it lay. -/
theorem Mine.box {base : Nat} {W : World} {A : Option Addr} {n c : Nat} {l : List Int} (h : Mine base W A n c l) {B : Nat} {t : TypeId} {u : Value} (hb : Boxed W B t u) (ht : t ≠ 5) (v : Value) : Mine base (W.setCell ⟨B, 0, none⟩ v) A n c l :=
  h.far (fun g e e' => by
    have := hb.not_row ht h.1
    subst e
    exact this (by simp only at e'; simp [Value.ownBlock, e'])) v

end Go.Proofs.Ytnjnpnjjpodnnaa
/- Equality of strings of bytes. -/

namespace Go.Proofs.Ytnjnpnjjpodnnaa
open Go.RowKit

theorem strOf_eq {l m : List Int} (hl : Bs l) (hm : Bs m) : ((strOf l).toList == (strOf m).toList) = eqB l m := by
  unfold eqB
  rw [Bool.eq_iff_iff]
  simp only [beq_iff_eq]
  refine ⟨fun h => ?_, fun h => by rw [h]⟩
  unfold strOf at h
  rw [Lib.strOfNums_toList, Lib.strOfNums_toList] at h
  refine strOf_inj hl hm ?_
  unfold strOf strOfNums
  unfold Lib.bytesOf at h
  rw [h]
end Go.Proofs.Ytnjnpnjjpodnnaa
/- Bits of bytes and of ints, as arithmetic. -/

namespace Go.Proofs.Ytnjnpnjjpodnnaa

theorem toNat_lit {a : Int} (h : 0 ≤ a) : ∃ n : Nat, a = n := Int.eq_ofNat_of_zero_le h
end Go.Proofs.Ytnjnpnjjpodnnaa
/- An argument of type []byte, opened. -/

namespace Go.Proofs.Ytnjnpnjjpodnnaa
open Go.RowKit Go.ChangeShapes Go.WideShapes

end Go.Proofs.Ytnjnpnjjpodnnaa
/- Bytes that are made at once: make([]byte, n), and stores into it. -/

namespace Go.Proofs.Ytnjnpnjjpodnnaa
open Go.RowKit Go.Shelf
set_option linter.unusedVariables false

theorem make8 (n : Nat) (h : n ≤ 281474976710656) (w : World) :
    (Instr.makeSlice 24 (.int .i64 (n : Int)) (.int .i64 (n : Int))).run Try.prog w = .ok (.slice (some ⟨w.heap.size, 0, none⟩) n n) (w.alloc (.cells (madeCells #[.int .u8 0] n) 5)) :=
  run_make_row' (P := Try.prog) 24 5 (.int .u8 0) 1 (by kernel_rfl) info8 rfl .i64 .i64 n (by omega) (by omega) w

section
variable {base : Nat} {w : World} {g n c : Nat} {l : List Int}
theorem Mine.make (w : World) (n : Nat) (hb : base ≤ w.heap.size) (hn : n ≤ 281474976710656) : Mine base (w.alloc (.cells (madeCells #[.int .u8 0] n) 5)) (some ⟨w.heap.size, 0, none⟩) n n (List.replicate n 0) := by
  have h := World.ownsRow_lit (base := base) (e := 5) (size := 1) w (madeCells #[.int .u8 0] n) n hb (by simp [maxLen]; omega) (by rw [size_madeCells]; omega)
  rw [toList_madeCells_one] at h
  exact ⟨by simpa using h, fun c hc => by simp at hc; omega⟩
theorem Mine.cellAt (h : Mine base w (some ⟨g, 0, none⟩) n c l) {j : Nat} (hj : j < n) : w.cell? ⟨g, j, none⟩ = some (.int .u8 (l[j]?.getD 0)) := by
  have hl := h.len
  rw [h.1.cellAt j (by omega)]
  simp [show j < l.length by omega]
theorem Mine.frozenAt (h : Mine base w (some ⟨g, 0, none⟩) n c l) (j : Nat) : w.frozen? ⟨g, j, none⟩ = false := h.1.frozenAt j
theorem Mine.stored (h : Mine base w (some ⟨g, 0, none⟩) n c l) (j : Nat) {y : Int} (y0 : 0 ≤ y) (y1 : y ≤ 255) : Mine base (w.setCell ⟨g, j, none⟩ (.int .u8 y)) (some ⟨g, 0, none⟩) n c (l.set j y) := by
  have := (h.1.stored j (.int .u8 y)).1
  rw [← List.map_set] at this
  refine ⟨this, fun c hc => ?_⟩
  rcases List.mem_or_eq_of_mem_set hc with h' | rfl
  · exact h.2 c h'
  · exact ⟨y0, y1⟩
end
end Go.Proofs.Ytnjnpnjjpodnnaa
/- A region within the wide fence that draws its order: all but its last operations (which stand in a forced order) only read. -/

namespace Go.Proofs.Ytnjnpnjjpodnnaa
open Go.RowKit Go.Shelf
set_option linter.unusedVariables false

/-- The wide fence, in a round or outside all. -/
abbrev wideR (ro : Option Nat) : Fence := { Fence.wide with round := ro }

end Go.Proofs.Ytnjnpnjjpodnnaa
/- append([]byte, ..) of bytes that are made empty just now: a copy. -/

namespace Go.Proofs.Ytnjnpnjjpodnnaa
open Go.RowKit Go.ChangeShapes Go.WideShapes

/-- append as one run. -/
theorem run_app (w : World) (ty : TypeId) (base : Nat) (A : Option Addr) (n c : Nat) (l : List Int) (hown : Mine base w A n c l) (B : Option Addr) (m d : Nat) (l' : List Int) (hr : Byt w B m d l')
    (hlen : l.length + l'.length ≤ 140737488355328) (hbase : base ≤ w.heap.size) :
    ∃ A' c' w', (Builtin.append_ #[24, 24] ty #[.slice A n c, .slice B m d]).run Try.prog w = .ok (.slice A' (n + m) c') w' ∧ Mine base w' A' (n + m) c' (l ++ l') ∧ Below base w w' ∧ w.grownBy w' (Value.slice A n c).ownBlock ∧ (A' = A ∨ ∃ g, A' = some ⟨g, 0, none⟩ ∧ w.heap.size ≤ g) := by
  obtain ⟨i0, hi, hz0, hz1, hz2⟩ := info_parts info8
  have hl := hown.len
  have hl' := hr.len
  by_cases h0 : m = 0
  · subst h0
    have hn' : l' = [] := List.eq_nil_of_length_eq_zero hl'
    subst hn'
    refine ⟨A, c, w, ?_, by simpa using hown, Below.refl _ _, World.grownBy.refl w _, .inl rfl⟩
    have hls : ∀ ad, (loadCells ad 0).run Try.prog w = .ok #[] w := fun ad => by simp [loadCells, loadCellsFrom]
    rcases hown.1.2 with ⟨e, _⟩ | ⟨g, cap, cur, e, _, _, hnc, _⟩
    · simp at e
      obtain ⟨rfl, rfl, rfl⟩ := e
      cases B <;> simp [Builtin.append_, run_underlying Try.underlying24, sizeOf, typeInfo, hi, Builtin.lenOf, Builtin.firstCells, hls]
    · simp at e
      obtain ⟨rfl, rfl⟩ := e
      cases B <;> simp [Builtin.append_, run_underlying Try.underlying24, sizeOf, typeInfo, hi, Builtin.lenOf, Builtin.firstCells, hnc, storeCells, hls]
  · obtain ⟨b, off, rfl, hb, hcell⟩ := hr.cell (by omega)
    obtain ⟨g, cap, w', hrun, hown', hgrow, hat, hlt⟩ := run_append_lies (P := Try.prog) w 24 ty base 5 i0 (.int .u8 0) 1 1 Try.underlying24 hi hz0 hz1 hz2 rfl (by omega) (.slice A n c) n (l.map (Value.int .u8)) hown.1
      ⟨b, off, none⟩ m d (l'.map (Value.int .u8)) (by simpa using hl') (fun j u hu => by
        have hj : j < m := by have := (List.getElem?_eq_some_iff.1 hu).1; simp at this; omega
        rw [Go.WideShapes.add_plain, hcell j hj, ← hu, List.getElem?_map, List.getElem?_eq_getElem (by omega)]
        rfl) (fun u hu => by
        obtain ⟨y, _, rfl⟩ := List.mem_map.1 hu
        rfl) (by omega) (by simp only [maxLen]; omega) (by omega) hbase w.heap.size rfl
    refine ⟨_, cap, w', hrun, ⟨by rw [List.map_append]; exact hown', hown.2.append hr.bs⟩, (Below.refl _ _).grown hgrow hbase fun k hk => (hown.1.lt k hk).1, hgrow, ?_⟩
    rcases hat with hat | hat
    · rcases hown.cases with ⟨rfl, _⟩ | ⟨g', rfl, _⟩
      · simp [Value.ownBlock] at hat
      · simp [Value.ownBlock] at hat
        exact .inl (by rw [hat])
    · exact .inr ⟨g, rfl, by omega⟩

/-- append(v, u...) at a step of a region that draws its order: v of the call's own, u whatever slice. -/
theorem step_app (w : World) {ops : Array Oper} {o : Oper} {a : Act} {K : Act → World → Prop} {Q : Exit → Act → World → Prop} {E : Prop} (hgd : o.guard = none) (s x : Operand)
    (ho : o.op = .call { callee := .builtin .append, args := #[s, x], argTypes := #[24, 24] })
    (base : Nat) (A : Option Addr) (n c : Nat) (l : List Int) (hs : a.eval s = .slice A n c) (hown : Mine base w A n c l)
    (B : Option Addr) (m d : Nat) (l' : List Int) (hx : a.eval x = .slice B m d) (hr : Byt w B m d l')
    (hlen : l.length + l'.length ≤ 140737488355328) (hbase : base ≤ w.heap.size)
    (h : ∀ A' c' w', Mine base w' A' (n + m) c' (l ++ l') → Below base w w' → (A' = A ∨ ∃ g, A' = some ⟨g, 0, none⟩ ∧ w.heap.size ≤ g) → K (a.put o.dst (.slice A' (n + m) c')) w') :
    if Go.Region.wanted o (Go.yielded ops a.tmps) = true then Go.Oper.wp Try.prog o a w K Q else E := by
  have hw : Go.Region.wanted o (Go.yielded ops a.tmps) = true := by simp [Go.Region.wanted, hgd]
  rw [if_pos hw]
  obtain ⟨A', c', w', hrun, h1, h2, _, h4⟩ := run_app w o.type base A n c l hown B m d l' hr hlen hbase
  unfold Oper.wp execOp
  simp only [ho, resolve, invoke, builtin, Sem.run_bind, Sem.run_pure, Result.andThen_ok, List.map_toArray, List.map_cons, List.map_nil, hs, hx, hrun]
  exact h A' c' w' h1 h2 h4

/-- The same, and what has grown. -/
theorem step_appG (w : World) {ops : Array Oper} {o : Oper} {a : Act} {K : Act → World → Prop} {Q : Exit → Act → World → Prop} {E : Prop} (hgd : o.guard = none) (s x : Operand)
    (ho : o.op = .call { callee := .builtin .append, args := #[s, x], argTypes := #[24, 24] })
    (base : Nat) (A : Option Addr) (n c : Nat) (l : List Int) (hs : a.eval s = .slice A n c) (hown : Mine base w A n c l)
    (B : Option Addr) (m d : Nat) (l' : List Int) (hx : a.eval x = .slice B m d) (hr : Byt w B m d l')
    (hlen : l.length + l'.length ≤ 140737488355328) (hbase : base ≤ w.heap.size)
    (h : ∀ A' c' w', Mine base w' A' (n + m) c' (l ++ l') → Below base w w' → w.grownBy w' (Value.slice A n c).ownBlock → (A' = A ∨ ∃ g, A' = some ⟨g, 0, none⟩ ∧ w.heap.size ≤ g) → K (a.put o.dst (.slice A' (n + m) c')) w') :
    if Go.Region.wanted o (Go.yielded ops a.tmps) = true then Go.Oper.wp Try.prog o a w K Q else E := by
  have hw : Go.Region.wanted o (Go.yielded ops a.tmps) = true := by simp [Go.Region.wanted, hgd]
  rw [if_pos hw]
  obtain ⟨A', c', w', hrun, h1, h2, h3, h4⟩ := run_app w o.type base A n c l hown B m d l' hr hlen hbase
  unfold Oper.wp execOp
  simp only [ho, resolve, invoke, builtin, Sem.run_bind, Sem.run_pure, Result.andThen_ok, List.map_toArray, List.map_cons, List.map_nil, hs, hx, hrun]
  exact h A' c' w' h1 h2 h3 h4

theorem Byt.init {w : World} {A : Option Addr} {n c : Nat} {l : List Int} (h : Byt w A n c l) {k : Nat} (hk : k ≤ n) : Byt w A k c (l.take k) := by
  have hl := h.len
  have hc := h.cap
  refine ⟨by rw [List.length_take]; omega, by omega, h.mx, h.nn, h.bs.take _, fun hn => ?_⟩
  obtain ⟨b, o, e, hb, hcell⟩ := h.cell (by omega)
  exact ⟨b, o, e, hb, fun i hi => by rw [hcell i (by omega), List.getElem?_take, if_pos hi]⟩
end Go.Proofs.Ytnjnpnjjpodnnaa
/- A map that the call made, as a function of its keys: what making, storing, looking up do with it; whatever the keys' type. -/

namespace Go.Proofs.Ytnjnpnjjpodnnaa
open Go.RowKit Go.ChangeMaps
set_option linter.unusedVariables false

section
variable {κ : Type} [DecidableEq κ]
/-- The first entry of a key. -/
def look (x : κ) : List (κ × Value × Nat) → Nat → Option (Nat × Value)
  | [], _ => none
  | e :: r, i => if x = e.1 then some (i, e.2.1) else look x r (i + 1)
def upd (x : κ) (v : Value) (clock : Nat) : List (κ × Value × Nat) → List (κ × Value × Nat)
  | [] => [(x, v, clock)]
  | e :: r => if x = e.1 then (e.1, v, e.2.2) :: r else e :: upd x v clock r
def ent (enc : κ → Value) (e : κ × Value × Nat) : MapEntry := { key := enc e.1, val := e.2.1, born := e.2.2 }
theorem look_shift (x : κ) : ∀ (l : List (κ × Value × Nat)) (i : Nat), look x l i = (look x l 0).map fun p => (p.1 + i, p.2)
  | [], _ => rfl
  | e :: r, i => by
    unfold look
    split
    · simp
    · rw [look_shift x r (i + 1), look_shift x r (0 + 1)]
      cases look x r 0 <;> simp
      omega
theorem look_upd (x y : κ) (v : Value) (clock : Nat) : ∀ l : List (κ × Value × Nat), (look y (upd x v clock l) 0).map (·.2) = if y = x then some v else (look y l 0).map (·.2)
  | [] => by
    simp only [upd, look]
    split <;> rfl
  | e :: r => by
    unfold upd
    have ih := look_upd x y v clock r
    by_cases h : x = e.1
    · rw [if_pos h]
      unfold look
      simp only
      by_cases h2 : y = e.1
      · rw [if_pos h2, if_pos (by rw [h2, h]), Option.map_some]
      · rw [if_neg h2, if_neg (by rw [h]; exact h2), if_neg h2]
    · rw [if_neg h]
      unfold look
      by_cases h2 : y = e.1
      · rw [if_pos h2, if_pos h2, if_neg (by rw [h2]; exact fun e' => h e'.symm)]
      · rw [if_neg h2, if_neg h2, look_shift y _ 1, look_shift y r 1]
        cases h3 : look y (upd x v clock r) 0 <;> cases h4 : look y r 0 <;> simp [h3, h4] at ih ⊢ <;> exact ih
theorem upd_new (enc : κ → Value) (x : κ) (v : Value) (clock : Nat) : ∀ l : List (κ × Value × Nat), look x l 0 = none → upd x v clock l = l ++ [(x, v, clock)]
  | [], _ => rfl
  | e :: r, h => by
    unfold look at h
    split at h
    · cases h
    · rename_i h1
      unfold upd
      rw [if_neg h1, upd_new enc x v clock r (by rw [look_shift] at h; cases h2 : look x r 0 <;> simp [h2] at h ⊢)]
      rfl
theorem upd_old (enc : κ → Value) (x : κ) (v : Value) (clock : Nat) : ∀ (l : List (κ × Value × Nat)) (i : Nat) (u : Value), look x l 0 = some (i, u) →
    (l.map (ent enc)).modify i (fun e => { e with key := enc x, val := v }) = (upd x v clock l).map (ent enc) ∧ ∃ e, (l.map (ent enc))[i]? = some e ∧ e.key = enc x
  | [], _, _, h => by cases h
  | e :: r, i, u, h => by
    unfold look at h
    unfold upd
    split at h
    · rename_i h1
      simp at h
      obtain ⟨rfl, rfl⟩ := h
      rw [if_pos h1]
      exact ⟨by simp [ent, h1], _, rfl, by simp [ent, h1]⟩
    · rename_i h1
      rw [if_neg h1]
      rw [look_shift] at h
      cases h2 : look x r 0 with
      | none => simp [h2] at h
      | some p =>
        simp [h2] at h
        obtain ⟨rfl, rfl⟩ := h
        obtain ⟨h3, e', h4, h5⟩ := upd_old enc x v clock r p.1 p.2 h2
        exact ⟨by simp only [List.map_cons, List.modify_succ_cons, h3], e', by simpa using h4, h5⟩

/-- Keys of such a type: they may be keys; one is found as look finds it; it stays. -/
structure KeyOf (P : Program) (K : TypeId) (enc : κ → Value) : Prop where
  check : ∀ (w : World) (em : Bool) (x : κ), (Instr.checkKey em 10000 K (enc x)).run P w = .ok () w
  find : ∀ (w : World) (x : κ) (l : List (κ × Value × Nat)), (Instr.findKey K (enc x) (l.map (ent enc))).run P w = .ok (look x l 0) w
  stays : ∀ (w : World) (x : κ), (Instr.keyThatStays (enc x) (enc x)).run P w = .ok (enc x) w

/-- Block b is a map that holds m. -/
def MapF (enc : κ → Value) (w : World) (b : Nat) (m : κ → Option Value) : Prop :=
  ∃ (l : List (κ × Value × Nat)) (clock : Nat), w.heap[b]? = some (.map (l.map (ent enc)).toArray clock) ∧ ∀ x, (look x l 0).map (·.2) = m x

variable {enc : κ → Value} {w w' : World} {b : Nat} {m : κ → Option Value}
theorem MapF.made (w : World) : MapF enc (w.alloc (.map #[] 0)) w.heap.size (fun _ => none) := ⟨[], 0, (MapKept.heap_alloc w _).1, fun _ => rfl⟩
theorem MapF.lt (h : MapF enc w b m) : b < w.heap.size := by
  obtain ⟨l, c, hb, _⟩ := h
  exact (Array.getElem?_eq_some_iff.1 hb).1
theorem MapF.kept (h : MapF enc w b m) (hk : w'.heap[b]? = w.heap[b]?) : MapF enc w' b m := by
  obtain ⟨l, c, hb, hm⟩ := h
  exact ⟨l, c, hk.trans hb, hm⟩
theorem MapF.below (h : MapF enc w b m) (hb : Below w.heap.size w w') : MapF enc w' b m := h.kept (hb.block b h.lt)
theorem MapF.alloc (h : MapF enc w b m) (o : Obj) : MapF enc (w.alloc o) b m := h.kept (Below.heap_alloc w o b h.lt)

theorem MapF.lookup {P : Program} {t K e : TypeId} (h : MapF enc w b m) (KO : KeyOf P K enc) (ht : P.underlying t = some (.map K e)) {z : Value} (hz : (zeroValue e).run P w = .ok z w) (x : κ) :
    (Instr.lookup t (.map (some b)) (enc x) false).run P w = .ok ((m x).getD z) w := by
  obtain ⟨l, c, hb, hm⟩ := h
  have := hm x
  simp only [Instr.lookup, Sem.run_bind, run_underlying ht, Result.andThen_ok, MapKept.run_getObj_map hb, Sem.run_pure, KO.check, KO.find]
  cases hl : look x l 0 with
  | none => rw [hl] at this; simp [← this, hz]
  | some p => rw [hl] at this; simp [← this]
theorem MapF.lookup_ok {P : Program} {t K e : TypeId} (h : MapF enc w b m) (KO : KeyOf P K enc) (ht : P.underlying t = some (.map K e)) {z : Value} (hz : (zeroValue e).run P w = .ok z w) (x : κ) :
    (Instr.lookup t (.map (some b)) (enc x) true).run P w = .ok (.tuple #[(m x).getD z, .bool (m x).isSome]) w := by
  obtain ⟨l, c, hb, hm⟩ := h
  have := hm x
  simp only [Instr.lookup, Sem.run_bind, run_underlying ht, Result.andThen_ok, MapKept.run_getObj_map hb, Sem.run_pure, KO.check, KO.find]
  cases hl : look x l 0 with
  | none => rw [hl] at this; simp [← this, hz, Result.andThen]
  | some p => rw [hl] at this; simp [← this]

theorem MapF.update {P : Program} {t K e : TypeId} (h : MapF enc w b m) (KO : KeyOf P K enc) (ht : P.underlying t = some (.map K e)) (x : κ) (v : Value) :
    ∃ w', (Instr.mapUpdate t (.map (some b)) (enc x) v).run P w = .ok () w' ∧ MapF enc w' b (fun y => if y = x then some v else m y) ∧ w.grownBy w' (some b) := by
  obtain ⟨l, c, hb, hm⟩ := h
  have fin : ∀ c' : Nat, MapF enc (setBlock w b (.map ((upd x v c l).map (ent enc)).toArray c')) b (fun y => if y = x then some v else m y) ∧ w.grownBy (setBlock w b (.map ((upd x v c l).map (ent enc)).toArray c')) (some b) := fun c' =>
    ⟨⟨upd x v c l, c', heap_setBlock_same hb _, fun y => by rw [look_upd, hm y]⟩, ⟨rfl, rfl, rfl, by simp [setBlock], fun i _ hi => heap_setBlock_other hb _ (fun e => hi (by rw [e]))⟩⟩
  cases hl : look x l 0 with
  | none =>
    refine ⟨setBlock w b (.map ((upd x v c l).map (ent enc)).toArray (c + 1)), ?_, fin (c + 1)⟩
    have e1 : ((upd x v c l).map (ent enc)).toArray = (l.map (ent enc)).toArray.push { key := enc x, val := v, born := c } := by
      rw [upd_new enc x v c l hl]
      simp [ent]
    rw [e1]
    simp only [Instr.mapUpdate, Sem.run_bind, run_underlying ht, Result.andThen_ok, MapKept.run_getObj_map hb, KO.check, KO.find, hl]
    simp [MapKept.run_setObj_map _ hb, setBlock]
  | some p =>
    refine ⟨setBlock w b (.map ((upd x v c l).map (ent enc)).toArray c), ?_, fin c⟩
    obtain ⟨h1, e', h2, h3⟩ := upd_old enc x v c l p.1 p.2 hl
    have e1 : ((upd x v c l).map (ent enc)).toArray = (l.map (ent enc)).toArray.modify p.1 (fun e => { e with key := enc x, val := v }) := by
      rw [← h1]
      simp
    rw [e1]
    have h4 : ((((l.map (ent enc)).toArray[p.1]?).map (·.key)).getD (enc x)) = enc x := by
      rw [List.getElem?_toArray, h2, Option.map_some, Option.getD_some, h3]
    simp only [Instr.mapUpdate, Sem.run_bind, run_underlying ht, Result.andThen_ok, MapKept.run_getObj_map hb, KO.check, KO.find, hl, h4, KO.stays]
    simp [MapKept.run_setObj_map _ hb, setBlock]

/-- An entry of a literal, at the operation. -/
theorem wpList_ins {P : Program} (w : World) {ops : Array Oper} {rest : List Oper} {o : Oper} {a : Act} {Q : Exit → Act → World → Prop}
    (hg : o.guard = none) (mo xo vo : Operand) (t : TypeId) (hop : o.op = Op.insert t mo xo vo) {K e : TypeId} (KO : KeyOf P K enc) (ht : P.underlying t = some (.map K e))
    (b : Nat) (m : κ → Option Value) (hm : a.eval mo = .map (some b)) (hown : MapF enc w b m) (x : κ) (v : Value) (hx : a.eval xo = enc x) (hv : a.eval vo = v)
    (hK : ∀ w', MapF enc w' b (fun y => if y = x then some v else m y) → w.grownBy w' (some b) → wpList P ops Q rest (a.put o.dst undef) w') :
    wpList P ops Q (o :: rest) a w := by
  refine wpList_plain hg fun K' hK' => ?_
  obtain ⟨w', hrun, r1, r2⟩ := hown.update KO ht x v
  unfold Oper.wp
  simp [execOp, hop, hm, hx, hv, hrun, Result.andThen]
  exact hK' _ _ (hK w' r1 r2)
end

/-- Keys of an integer type. -/
theorem intKey {P : Program} {K : TypeId} {q : IntKind} (hk : P.underlying K = some (.int q)) : KeyOf P K (fun x : Int => Value.int q x) where
  check w em x := by
    show (Instr.checkKey em (9999 + 1) K (Value.int q x)).run P w = _
    rw [Instr.checkKey]
    simp [run_underlying hk]
  find w x l := by
    have h : ∀ (l : List (Int × Value × Nat)) (i : Nat), Instr.findNow (.int q) (Value.int q x) (l.map (ent fun x => Value.int q x)) i = some (look x l i) := by
      intro l
      induction l with
      | nil => intro i; rfl
      | cons e r ih =>
        intro i
        simp only [List.map_cons, Instr.findNow, ent, Instr.sameNow, if_true, look]
        by_cases h1 : x = e.1
        · rw [if_pos h1, h1]
          simp
        · have h2 : (x == e.1) = false := beq_eq_false_iff_ne.2 h1
          rw [if_neg h1, h2]
          exact ih (i + 1)
    simp [Instr.findKey, run_underlying hk, h]
  stays w x := by
    have h : Instr.sameBits (9999 + 1) (Value.int q x) (Value.int q x) = true := by simp [Instr.sameBits]
    unfold Instr.keyThatStays
    rw [show (10000 : Nat) = 9999 + 1 from rfl, h]
    rfl
end Go.Proofs.Ytnjnpnjjpodnnaa
/- A region that draws its order, walked by hand: a load may be taken first though an operation that waits for it writes its cell; the same within a round of a range over a function. -/

namespace Go.Proofs.Ytnjnpnjjpodnnaa
open Go.RowKit Go.Shelf
set_option linter.unusedVariables false

/-- Slots of a frame that is written out: rules with short names (they stand in many rows). -/
theorem rA {α : Type} (l : List α) (i : Nat) (h : i < l.toArray.size) : l.toArray[i] = l[i]'(by simpa using h) := rfl
theorem rB {α : Type} (x : α) (l : List α) (i : Nat) (h : i + 1 < (x :: l).length) : (x :: l)[i + 1] = l[i]'(by simpa using h) := rfl
theorem rC {α : Type} (x : α) (l : List α) (h : 0 < (x :: l).length) : (x :: l)[0] = x := rfl
theorem rD (l : List Value) (i : Nat) (a : Value) : l.toArray.setIfInBounds i a = (l.set i a).toArray := List.setIfInBounds_toArray l i a
theorem rE (x a : Value) (l : List Value) : (x :: l).set 0 a = a :: l := rfl
theorem rF (x a : Value) (l : List Value) (i : Nat) : (x :: l).set (i + 1) a = x :: l.set i a := rfl
section
variable {P : Program} {ops : Array Oper} {Q : Exit → Act → World → Prop} {md : Region.Mode} {S : World → Prop} {ex : List Nat}

/-- Whatever order is picked from here on, and S holds behind every operation that is carried out, but for those of ex. -/
def wpAnyG (P : Program) (md : Region.Mode) (ops : Array Oper) (Q : Exit → Act → World → Prop) (S : World → Prop) (ex : List Nat) : Nat → Array Bool → Act → World → Prop
  | 0, listed, a, w => Region.ready md ops listed = [] ∧ Q .normal a w
  | fuel + 1, listed, a, w =>
    (Region.ready md ops listed = [] → Q .normal a w) ∧
    ∀ i ∈ Region.ready md ops listed, wpOp P ops Q i (fun a' w' => (ex.contains i = false → S w') ∧ wpAnyG P md ops Q S ex fuel (listed.setIfInBounds i true) a' w') a w

theorem wpAny_of_G : ∀ (fuel : Nat) (listed : Array Bool) (a : Act) (w : World), wpAnyG P md ops Q S ex fuel listed a w → wpAny P md ops Q fuel listed a w
  | 0, _, _, _, h => h
  | fuel + 1, _, _, _, h => ⟨h.1, fun i hi => wpOp_mono (fun a' w' h' => wpAny_of_G fuel _ a' w' h'.2) (h.2 i hi)⟩

theorem wpAnyG_first {i : Nat} {oi : Oper} {v : Value} (hi : ops[i]? = some oi) (hsel : ∀ (j : Nat) (o : Oper) cs b, ops[j]? = some o → o.op ≠ .select cs b)
    (hex : ∀ j oj, ops[j]? = some oj → ex.contains j = true → ∃ e ∈ oj.after, Region.binds md e = true ∧ e.on = i)
    (hQ : ∀ c a w, Q (.panic c) (a.put oi.dst v) w → Q (.panic c) a w) :
    ∀ (fuel : Nat) (listed : Array Bool) (a : Act) (w : World),
      (∀ j oj, ops[j]? = some oj → j ≠ i → listed.getD j true = false → (∀ e ∈ oj.after, Region.binds md e = true → e.on ≠ i) → oi.apart ops oj = true) →
      i ∈ Region.ready md ops listed → ex.contains i = false → YieldsIf P ops S oi v a → S w →
      wpAnyG P md ops Q S ex fuel (listed.setIfInBounds i true) (a.put oi.dst v) w → wpAnyG P md ops Q S ex (fuel + 1) listed a w := by
  intro fuel
  induction fuel with
  | zero =>
    intro listed a w _ hr hxi hy hS H
    refine ⟨fun h => (by rw [h] at hr; cases hr), fun j hj => ?_⟩
    by_cases hji : j = i
    · subst hji; exact hy.wpOp hi hS ⟨fun _ => hS, H⟩
    · have := ready_mono hj hji
      rw [H.1] at this
      cases this
  | succ fuel ih =>
    intro listed a w hfree hr hxi hy hS H
    refine ⟨fun h => (by rw [h] at hr; cases hr), fun j hj => ?_⟩
    by_cases hji : j = i
    · subst hji; exact hy.wpOp hi hS ⟨fun _ => hS, H⟩
    · have h1 := H.2 j (ready_mono hj hji)
      obtain ⟨hjun, oj, hoj, hall⟩ := mem_ready.1 hj
      have hnot : ∀ e ∈ oj.after, Region.binds md e = true → e.on ≠ i := fun e he hb heq => by
        have h1 := hall e he hb
        have h0 := (mem_ready.1 hr).1
        rw [heq] at h1
        rcases Nat.lt_or_ge i listed.size with h' | h'
        · simp [h'] at h0 h1; rw [h0] at h1; cases h1
        · simp [Array.getElem?_eq_none h'] at h1
      have hxj : ex.contains j = false := by
        cases hx : ex.contains j
        · rfl
        · obtain ⟨e, he, hb, hon⟩ := hex j oj hoj hx
          exact absurd hon (hnot e he hb)
      have h2 := wpOp_putIf hoj (hfree j oj hoj hji hjun hnot) (fun cs b => hsel i oi cs b hi) (fun cs b => hsel j oj cs b hoj) hQ hy h1
      have hfree' : ∀ k ok, ops[k]? = some ok → k ≠ i → (listed.setIfInBounds j true).getD k true = false →
          (∀ e ∈ ok.after, Region.binds md e = true → e.on ≠ i) → oi.apart ops ok = true := fun k ok hk hki hun hno => by
        refine hfree k ok hk hki ?_ hno
        by_cases hjk : j = k
        · subst hjk; exact hjun
        · rw [getD_set_ne true hjk] at hun; exact hun
      refine wpOp_mono (fun a' w' h3 => ⟨h3.2.1, ih (listed.setIfInBounds j true) a' w' hfree' (ready_mono hr (Ne.symm hji)) hxi h3.1 (h3.2.1 hxj) ?_⟩) h2
      rw [Array.setIfInBounds_comm _ _ hji]
      exact h3.2.2

/-- Each of those of ex waits for i. -/
def waitB (md : Region.Mode) (ops : Array Oper) (ex : List Nat) (i : Nat) : Bool :=
  !ex.contains i && ex.all fun j => match ops[j]? with | some o => o.after.any (fun e => Region.binds md e && e.on == i) | none => true
/-- Take number i first. -/
theorem wpAnyG_take (i : Nat) {oi : Oper} {v : Value} {fuel : Nat} {listed : Array Bool} {a : Act} {w : World} (hi : ops[i]? = some oi)
    (hc : (Region.noSelect ops && Region.free md ops listed i && (Region.ready md ops listed).contains i && waitB md ops ex i) = true)
    (hQ : ∀ c a w, Q (.panic c) (a.put oi.dst v) w → Q (.panic c) a w) (hS : S w) (hy : YieldsIf P ops S oi v a)
    (h : wpAnyG P md ops Q S ex fuel (listed.setIfInBounds i true) (a.put oi.dst v) w) : wpAnyG P md ops Q S ex (fuel + 1) listed a w := by
  simp only [Bool.and_eq_true, waitB, Bool.not_eq_true', List.all_eq_true] at hc
  obtain ⟨⟨⟨h1, h2⟩, h3⟩, h4, h5⟩ := hc
  refine wpAnyG_first hi (Region.noSelect_spec h1) (fun j oj hj hx => ?_) hQ fuel listed a w (Region.free_spec hi h2) (by simpa using h3) h4 hy hS h
  have := h5 j (by simpa using hx)
  simp only [hj] at this
  obtain ⟨e, he, hb⟩ := Array.any_eq_true'.1 this
  simp only [Bool.and_eq_true, beq_iff_eq] at hb
  exact ⟨e, he, hb.1, hb.2⟩

/-- Number i alone may come up. -/
theorem wpAnyG_one (i : Nat) {o : Oper} {fuel : Nat} {listed : Array Bool} {a : Act} {w : World} (hr : Region.ready md ops listed = [i]) (ho : ops[i]? = some o)
    (h : ∀ K : Act → World → Prop, Shut (∀ a w, (ex.contains i = false → S w) → wpAnyG P md ops Q S ex fuel (listed.setIfInBounds i true) a w → K a w) → if Region.wanted o (yielded ops a.tmps) = true then Oper.wp P o a w K Q else K (a.put o.dst undef) w) :
    wpAnyG P md ops Q S ex (fuel + 1) listed a w :=
  ⟨fun h0 => (by rw [hr] at h0; cases h0), fun j hj => by
    rw [hr, List.mem_singleton] at hj
    subst hj
    exact wpOp_step ho (fun K' hK => h K' (fun a w hS hW => hK a w ⟨hS, hW⟩))⟩
/-- Two may come up. -/
theorem wpAnyG_two (i j : Nat) {oi oj : Oper} {fuel : Nat} {listed : Array Bool} {a : Act} {w : World} (hr : Region.ready md ops listed = [i, j]) (hoi : ops[i]? = some oi) (hoj : ops[j]? = some oj)
    (hi : ∀ K : Act → World → Prop, Shut (∀ a w, (ex.contains i = false → S w) → wpAnyG P md ops Q S ex fuel (listed.setIfInBounds i true) a w → K a w) → if Region.wanted oi (yielded ops a.tmps) = true then Oper.wp P oi a w K Q else K (a.put oi.dst undef) w)
    (hj : ∀ K : Act → World → Prop, Shut (∀ a w, (ex.contains j = false → S w) → wpAnyG P md ops Q S ex fuel (listed.setIfInBounds j true) a w → K a w) → if Region.wanted oj (yielded ops a.tmps) = true then Oper.wp P oj a w K Q else K (a.put oj.dst undef) w) :
    wpAnyG P md ops Q S ex (fuel + 1) listed a w :=
  ⟨fun h0 => (by rw [hr] at h0; cases h0), fun k hk => by
    rw [hr] at hk
    simp only [List.mem_cons, List.not_mem_nil, or_false] at hk
    rcases hk with rfl | rfl
    · exact wpOp_step hoi (fun K' hK => hi K' (fun a w hS hW => hK a w ⟨hS, hW⟩))
    · exact wpOp_step hoj (fun K' hK => hj K' (fun a w hS hW => hK a w ⟨hS, hW⟩))⟩
theorem wpAnyG_done {listed : Array Bool} {a : Act} {w : World} (hr : Region.ready md ops listed = []) (h : Q .normal a w) :
    ∀ fuel, wpAnyG P md ops Q S ex fuel listed a w
  | 0 => ⟨hr, h⟩
  | _ + 1 => ⟨fun _ => h, by rw [hr]; simp⟩
/-- The beginning. -/
theorem wp_region_G (S : World → Prop) (ex : List Nat) {id : Nat} {a : Act} {w : World} (hm : P.follows .mixedOrders = true)
    (h : wpAnyG P .any ops Q S ex ops.size (Array.replicate ops.size false) a w.drew) : (Code.region id ops true).wp P Q a w :=
  wp_region_any hm (wpAny_of_G _ _ _ _ h)

/-- No operation of these defers. -/
def noDefer (ops : Array Oper) : Bool := ops.all fun o => match o.op with | .defer _ => false | _ => true
theorem opIn_of_op {ro : Option Nat} {n : Nat} {o : Oper} {a : Act} {w : World} {K : Act → World → Prop} (hd : ∀ c, o.op ≠ .defer c) (h : o.wp P a w K Q) : o.wpIn (wideR ro) n P a w K Q := by
  refine ⟨fun _ _ => trivial, ?_⟩
  show o.uponIn (wideR ro) n P a K Q ((o.semAt ro a.eval).run P w)
  rw [Oper.semAt_eq _ _ _ hd]
  unfold Oper.wp at h
  generalize (execOp a.eval o).run P w = r at h ⊢
  cases r with
  | ok x w' =>
    cases x <;> simp only [Oper.upon] at h
    case value u => exact h
    case skip => exact h
    case defer d => exact h
    case enter f args => exact ⟨fun e => by simp [Fence.wide] at e, show CallsIn Fence.wide (n - 1) P f args w' _ from callsIn_wide.2 (h.mono fun e w'' he => by cases e <;> exact he)⟩
    case row r args => exact ⟨fun e => by simp [Fence.wide] at e, fun c cs _ => let ⟨v, w'', hr, hs⟩ := h c cs; ⟨v, w'', hr, stepsIn_wide.2 hs⟩⟩
  | halt x w' =>
    cases x <;> simp only [Oper.upon] at h
    case panic u => exact h
theorem anyIn_of_any {ro : Option Nat} {n : Nat} (hnd : noDefer ops = true) (hlo : ¬ LetsOut Q) : ∀ (fuel : Nat) (listed : Array Bool) (a : Act) (w : World), wpAny P md ops Q fuel listed a w → wpAnyIn (wideR ro) n P md ops Q fuel listed a w
  | 0, _, _, _, h => h
  | fuel + 1, listed, a, w, h => by
    refine ⟨h.1, fun i hi => ?_⟩
    have h2 := h.2 i hi
    unfold wpOp at h2
    unfold wpOpIn
    split at h2
    · rename_i hn
      simp only [hn]
      exact anyIn_of_any hnd hlo fuel _ _ _ h2
    · rename_i o ho
      simp only [ho]
      have hd : ∀ c, o.op ≠ .defer c := fun c hc => by
        have := Array.all_eq_true_iff_forall_mem.1 hnd o (Array.mem_of_getElem? ho)
        simp [hc] at this
      split at h2
      · rename_i hw
        rw [if_pos hw]
        rcases h2 with h2 | h2
        · exact opIn_of_op hd (Oper.wp_mono (fun a' w' h' => anyIn_of_any hnd hlo fuel _ a' w' h') h2)
        · exact absurd h2.2 hlo
      · rename_i hw
        rw [if_neg hw]
        exact ⟨fun _ _ => trivial, anyIn_of_any hnd hlo fuel _ _ _ h2⟩
/-- The beginning within a round. -/
theorem wpIn_region_GR (S : World → Prop) (ex : List Nat) {t n : Nat} {id : Nat} {a : Act} {w : World} (hm : P.follows .mixedOrders = true) (hnd : noDefer ops = true) (hlo : ¬ LetsOut Q)
    (h : wpAnyG P .any ops Q S ex ops.size (Array.replicate ops.size false) a w.drew) : (Code.region id ops true).wpIn (Fence.wide.inRound t) n P Q a w :=
  wpIn_region_any hm (anyIn_of_any (ro := some t) hnd hlo _ _ _ _ (wpAny_of_G _ _ _ _ h))
end

/-- append(v, y) at a step of a region. -/
theorem step_app1 (w : World) {ops : Array Oper} {o : Oper} {a : Act} {K : Act → World → Prop} {Q : Exit → Act → World → Prop} {E : Prop} (hgd : o.guard = none) (s x : Operand)
    (ho : o.op = .call { callee := .builtin .append, args := #[s, x], argTypes := #[24, 24] })
    (base : Nat) (A : Option Addr) (n c : Nat) (l : List Int) (hs : a.eval s = .slice A n c) (hown : Mine base w A n c l) (y : Int) {g0 : Nat} (hx : a.eval x = .slice (some ⟨g0, 0, none⟩) 1 1) (hg0 : w.heap.size = g0)
    (hy : 0 ≤ y ∧ y ≤ 255) (hlen : n + 1 ≤ 140737488355328) (hbase : base ≤ w.heap.size)
    (h : ∀ A' c' w', Mine base w' A' (n + 1) c' (l ++ [y]) → (w.alloc (.cells #[.int .u8 y] 5)).grownBy w' (Value.slice A n c).ownBlock → K (a.put o.dst (.slice A' (n + 1) c')) w') :
    if Go.Region.wanted o (Go.yielded ops a.tmps) = true then Go.Oper.wp Try.prog o a (w.alloc (.cells #[.int .u8 y] 5)) K Q else E := by
  subst hg0
  have hl := hown.len
  refine step_appG _ hgd s x ho base A n c l hs (hown.alloc _) (some ⟨w.heap.size, 0, none⟩) 1 1 [y] hx (Mine.lit (base := 0) w [y] (Nat.zero_le _) (Bs.one hy.1 hy.2) (by simp) 1 rfl).byt (by simp; omega) (by simp; omega) ?_
  intro A' c' w' h1 h2 h3 _
  exact h A' c' w' h1 h3
end Go.Proofs.Ytnjnpnjjpodnnaa
/- A map literal whose entries may be laid in any order: a region's insertions, of distinct keys, taken as one. -/

namespace Go.Proofs.Ytnjnpnjjpodnnaa
open Go.RowKit Go.Shelf Go.ChangeMaps
set_option linter.unusedVariables false

section
variable {κ : Type} [DecidableEq κ] {enc : κ → Value} {P : Program} {ops : Array Oper} {Q : Exit → Act → World → Prop}

end
end Go.Proofs.Ytnjnpnjjpodnnaa
/- A block of memory known whole: its cells; what stores, new blocks, calls leave of it. -/

namespace Go.Proofs.Ytnjnpnjjpodnnaa
open Go.RowKit
set_option linter.unusedVariables false

/-- Block b holds these, and may be written. -/
def Blk (W : World) (b : Nat) (t : TypeId) (cs : Array Value) : Prop := W.heap[b]? = some (.cells cs t (0, 0))
section
variable {W W' : World} {b : Nat} {t : TypeId} {cs : Array Value}
theorem Blk.lt (h : Blk W b t cs) : b < W.heap.size := (Array.getElem?_eq_some_iff.1 h).1
theorem Blk.below (h : Blk W b t cs) (k : Below W.heap.size W W') : Blk W' b t cs := (k.block b h.lt).trans h
theorem Blk.belowB (h : Blk W b t cs) {B : Nat} (k : Below B W W') (hb : b < B) : Blk W' b t cs := (k.block b hb).trans h
theorem Blk.drew (h : Blk W b t cs) : Blk W.drew b t cs := h
theorem Blk.new (W : World) (t : TypeId) (cs : Array Value) : Blk (W.alloc (.cells cs t)) W.heap.size t cs := World.alloc_heap_new W _
theorem Blk.newAt (W : World) (t : TypeId) (cs : Array Value) {b : Nat} (hb : W.heap.size = b) : Blk (W.alloc (.cells cs t)) b t cs := by subst hb; exact Blk.new W t cs
theorem Blk.alloc (h : Blk W b t cs) (o : Obj) : Blk (W.alloc o) b t cs := (Below.heap_alloc W o b h.lt).trans h
theorem Blk.at (h : Blk W b t cs) (i : Nat) {v : Value} (hv : cs[i]? = some v) : W.cell? ⟨b, i, none⟩ = some v := by
  have h' : W.heap[b]? = _ := h
  simp [World.cell?, h', hv]
theorem Blk.frozen (h : Blk W b t cs) (i : Nat) : W.frozen? ⟨b, i, none⟩ = false := by
  have h' : W.heap[b]? = _ := h
  simp [World.frozen?, h']
theorem Blk.set (h : Blk W b t cs) (i : Nat) (v : Value) : Blk (W.setCell ⟨b, i, none⟩ v) b t (cs.setIfInBounds i v) := by
  have h' : W.heap[b]? = _ := h
  simp [Blk, World.setCell, Array.getElem?_modify, h']
theorem Blk.setFar (h : Blk W b t cs) {p : Addr} (hp : b ≠ p.block) (v : Value) : Blk (W.setCell p v) b t cs := (Below.heap_setCell W p v b hp).trans h
theorem Blk.same (h : Blk W b t cs) (k : W'.heap[b]? = W.heap[b]?) : Blk W' b t cs := k.trans h
/-- What is stored anew leaves the world as it is. -/
theorem Blk.again (h : Blk W b t cs) (i : Nat) {v : Value} (hv : cs[i]? = some v) : W.setCell ⟨b, i, none⟩ v = W := by
  have e : cs.setIfInBounds i v = cs := by
    apply Array.ext_getElem?
    intro j
    rw [Array.getElem?_setIfInBounds]
    split
    · rename_i hij
      subst hij
      split
      · exact hv.symm
      · rename_i hlt
        rw [Array.getElem?_eq_none (by omega)]
    · rfl
  have h' : W.heap[b]? = _ := h
  have hh : (W.setCell ⟨b, i, none⟩ v).heap = W.heap := by
    apply Array.ext_getElem?
    intro j
    by_cases hj : j = b
    · subst hj
      simp [World.setCell, Array.getElem?_modify, h', e]
    · exact Below.heap_setCell W ⟨b, i, none⟩ v j hj
  unfold World.setCell at hh ⊢
  simp only at hh ⊢
  rw [hh]
theorem Blk.not_row (h : Blk W b t cs) (ht : t ≠ 5) {base : Nat} {A : Option Addr} {n c : Nat} {l : List Int} (hm : Mine base W A n c l) (g : Nat) (e : A = some ⟨g, 0, none⟩) : g ≠ b := fun eg => by
  subst eg
  rcases hm.1.2 with ⟨e', _⟩ | ⟨g', cap, cur, e', _, hg, _⟩
  · rw [e] at e'; simp at e'
  · rw [e] at e'
    simp at e'
    obtain ⟨rfl, _⟩ := e'
    have h' : W.heap[g]? = _ := h
    rw [h'] at hg
    simp at hg
    exact ht hg.2
end
theorem Bel.below {W wa wb : World} (h : Bel W wa) (k : Below wa.heap.size wa wb) : Bel W wb := h.step k
theorem Bel.drew {W w : World} (h : Bel W w) : Bel W w.drew := ⟨h.out.trans ⟨rfl, rfl, rfl, Nat.le_refl _, fun _ _ => rfl⟩⟩
theorem Bel.set {W w : World} (h : Bel W w) {p : Addr} (hp : W.heap.size ≤ p.block) (v : Value) : Bel W (w.setCell p v) := ⟨h.out.setCell hp v⟩
theorem Bel.stepB {W wa wb : World} (h : Bel W wa) {B : Nat} (k : Below B wa wb) (hB : W.heap.size ≤ B) : Bel W wb := ⟨h.out.trans (k.mono hB)⟩
theorem drew_below (B : Nat) (W : World) : Below B W W.drew := ⟨rfl, rfl, rfl, Nat.le_refl _, fun _ _ => rfl⟩
/-- Bytes that lay before the call lie as they lay behind a store into the call's own. -/
theorem Byt.far0 {w : World} {A : Option Addr} {n c : Nat} {l : List Int} (h : Byt w A n c l) {p : Addr} (hp : w.heap.size ≤ p.block) {w' : World} (hb : Below w.heap.size w w') (v : Value) : Byt (w'.setCell p v) A n c l := by
  by_cases hn : 0 < n
  · obtain ⟨b, o, e, hlt, _⟩ := h.cell hn
    refine (h.below hb).far (fun b' o' e' => ?_) v
    rw [e] at e'
    simp at e'
    omega
  · exact ⟨h.len, h.cap, h.mx, h.nn, h.bs, fun h0 => absurd h0 hn⟩
theorem Mine.lt {base : Nat} {W : World} {A : Option Addr} {n c : Nat} {l : List Int} (h : Mine base W A n c l) (g : Nat) (e : A = some ⟨g, 0, none⟩) : g < W.heap.size := by
  rcases h.cases with ⟨rfl, _⟩ | ⟨g', rfl, _, hs, _⟩
  · cases e
  · simp at e
    subst e
    exact hs
theorem Mine.belowB {base : Nat} {W W' : World} {A : Option Addr} {n c : Nat} {l : List Int} (h : Mine base W A n c l) {B : Nat} (k : Below B W W') (hlt : ∀ g, A = some ⟨g, 0, none⟩ → g < B) : Mine base W' A n c l := h.keep fun g _ e => k.block g (hlt g e)
end Go.Proofs.Ytnjnpnjjpodnnaa
/- A region that draws its order, walked by hand: many operations that only read or reckon, taken at once. -/

namespace Go.Proofs.Ytnjnpnjjpodnnaa
open Go.RowKit Go.Shelf
set_option linter.unusedVariables false

section
variable {P : Program} {ops : Array Oper} {Q : Exit → Act → World → Prop} {md : Region.Mode} {S : World → Prop} {ex : List Nat}
/-- These operations, one behind the other, yield their values in every world that meets S; behind them K. -/
def pureW (P : Program) (ops : Array Oper) (S : World → Prop) : List Nat → (Act → Prop) → Act → Prop
  | [], K, a => K a
  | i :: r, K, a => ∃ o v, ops[i]? = some o ∧ YieldsIf P ops S o v a ∧ pureW P ops S r K (a.put o.dst v)
theorem pureW_nil {K : Act → Prop} {a : Act} (h : K a) : pureW P ops S [] K a := h
theorem pureW_step {i : Nat} {r : List Nat} {K : Act → Prop} {a : Act} {o : Oper} {v : Value} (ho : ops[i]? = some o) (hw : Region.wanted o (yielded ops a.tmps) = true) (hy : ∀ w, S w → (execOp a.eval o).run P w = .ok (.value v) w)
    (h : pureW P ops S r K (a.put o.dst v)) : pureW P ops S (i :: r) K a := ⟨o, v, ho, .inl ⟨hw, hy⟩, h⟩
/-- They may be taken so, by computation. -/
def takesB (md : Region.Mode) (ops : Array Oper) (ex : List Nat) : List Nat → Array Bool → Bool
  | [], _ => true
  | i :: r, L => Region.noSelect ops && Region.free md ops L i && (Region.ready md ops L).contains i && waitB md ops ex i && takesB md ops ex r (L.setIfInBounds i true)
theorem wpAnyG_takes (js : List Nat) {fuel : Nat} {listed : Array Bool} {a : Act} {w : World} (hc : takesB md ops ex js listed = true)
    (hQ : ∀ d v c a w, Q (.panic c) (a.put d v) w → Q (.panic c) a w) (hS : S w)
    (h : pureW P ops S js (fun a' => wpAnyG P md ops Q S ex fuel (js.foldl (fun L i => L.setIfInBounds i true) listed) a' w) a) : wpAnyG P md ops Q S ex (fuel + js.length) listed a w := by
  induction js generalizing listed a with
  | nil => exact h
  | cons i r ih =>
    obtain ⟨o, v, ho, hy, hr⟩ := h
    simp only [takesB, Bool.and_eq_true] at hc
    obtain ⟨⟨⟨⟨h1, h2⟩, h3⟩, h4⟩, h5⟩ := hc
    refine wpAnyG_take i ho (by simp only [Bool.and_eq_true]; exact ⟨⟨⟨h1, h2⟩, h3⟩, h4⟩) (fun c a w => hQ _ _ _ _ _) hS hy ?_
    exact ih h5 hr
/-- The same, how many are left by computation. -/
theorem wpAnyG_takesF (js : List Nat) (fuel : Nat) {fuel' : Nat} {listed : Array Bool} {a : Act} {w : World} (hf : fuel' = fuel + js.length) (hc : takesB md ops ex js listed = true)
    (hQ : ∀ d v c a w, Q (.panic c) (a.put d v) w → Q (.panic c) a w) (hS : S w)
    (h : pureW P ops S js (fun a' => wpAnyG P md ops Q S ex fuel (js.foldl (fun L i => L.setIfInBounds i true) listed) a' w) a) : wpAnyG P md ops Q S ex fuel' listed a w := by
  subst hf
  exact wpAnyG_takes js hc hQ hS h
end
/-- The regions of a code, in the order of the text. -/
def regsOf : Code → List (Array Oper)
  | .region _ ops _ => [ops]
  | .seq a b => regsOf a ++ regsOf b
  | .cond _ a b => regsOf a ++ regsOf b
  | .block _ c => regsOf c
  | .loop c => regsOf c
  | .rangeFunc _ _ x y => regsOf x ++ regsOf y
  | .scope c => regsOf c
  | _ => []
section
variable {P : Program} {ops : Array Oper} {Q : Exit → Act → World → Prop}
/-- The beginning, with the operations and what follows behind names. -/
theorem wp_region_N (ops' : Array Oper) (S : World → Prop) {id : Nat} {a : Act} {w : World} (hm : P.follows .mixedOrders = true) (ho : ops = ops')
    (hp : ∀ d v c a w, Q (.panic c) (a.put d v) w → Q (.panic c) a w)
    (h : ∀ Q' : Exit → Act → World → Prop, Hid (Q' = Q) → (∀ d v c a w, Q' (.panic c) (a.put d v) w → Q' (.panic c) a w) → wpAnyG P .any ops' Q' S [] ops'.size (Array.replicate ops'.size false) a w.drew) : (Code.region id ops true).wp P Q a w := by
  subst ho
  exact wp_region_G S [] hm (h Q (Lib.hid rfl) hp)
/-- Number i is carried out, a call or an allocation. -/
theorem wpAnyG_oneN {md : Region.Mode} {S : World → Prop} (i fuel : Nat) {o : Oper} {fuel' : Nat} {listed : Array Bool} {a : Act} {w : World} (hf : fuel' = fuel + 1) (hr : Region.ready md ops listed = [i]) (ho : ops[i]? = some o)
    (hw : Region.wanted o (yielded ops a.tmps) = true)
    (h : ∀ K : Act → World → Prop, Shut (∀ a w, S w → wpAnyG P md ops Q S [] fuel (listed.setIfInBounds i true) a w → K a w) → Oper.wp P o a w K Q) :
    wpAnyG P md ops Q S [] fuel' listed a w := by
  subst hf
  refine wpAnyG_one i hr ho fun K hK => ?_
  rw [if_pos hw]
  exact h K (fun a w hS => hK.out a w (fun _ => hS))
end
end Go.Proofs.Ytnjnpnjjpodnnaa
/- A region that draws its order, walked by hand: cells that hold values; operations that are not carried out. -/

namespace Go.Proofs.Ytnjnpnjjpodnnaa
open Go.RowKit Go.Shelf
set_option linter.unusedVariables false

/-- These cells hold these values. -/
def CellsAt : List (Addr × Value) → World → Prop
  | [], _ => True
  | x :: r, w => w.cell? x.1 = some x.2 ∧ CellsAt r w
theorem CellsAt.below {l : List (Addr × Value)} {w w' : World} (h : CellsAt l w) (hb : Below w.heap.size w w') : CellsAt l w' := by
  induction l with
  | nil => trivial
  | cons x r ih => exact ⟨(hb.cell (World.block_lt_of_cell? w x.1 h.1)).trans h.1, ih h.2⟩
section
variable {P : Program} {ops : Array Oper} {Q : Exit → Act → World → Prop}
end
/-- What an operation yields hangs on its operands alone. -/
structure Rho (ρ : Operand → Value) : Prop where
  const : ∀ v, ρ (.const v) = v
  global : ∀ g, ρ (.global g) = .pointer (some ⟨g, 0, none⟩)
  func : ∀ f, ρ (.func f) = .func (.func f) #[] #[]
theorem Rho.eval (a : Act) : Rho a.eval := ⟨fun _ => rfl, fun _ => rfl, fun _ => rfl⟩
section
variable {P : Program} {ops : Array Oper} {S : World → Prop} {i : Nat} {r : List Nat} {K : Act → Prop} {a : Act} {o : Oper} {v : Value}
theorem pureW_e0 (ho : ops[i]? = some o) (hw : Region.wanted o (yielded ops a.tmps) = true) (hy : ∀ ρ, Rho ρ → ∀ w, S w → (execOp ρ o).run P w = .ok (.value v) w)
    (h : pureW P ops S r K (a.put o.dst v)) : pureW P ops S (i :: r) K a := pureW_step ho hw (fun w => hy a.eval (Rho.eval a) w) h
theorem pureW_e1 (n1 : Nat) {v1 : Value} (ho : ops[i]? = some o) (hw : Region.wanted o (yielded ops a.tmps) = true) (h1 : a.eval (.tmp n1) = v1) (hy : ∀ ρ, Rho ρ → ρ (.tmp n1) = v1 → ∀ w, S w → (execOp ρ o).run P w = .ok (.value v) w)
    (h : pureW P ops S r K (a.put o.dst v)) : pureW P ops S (i :: r) K a := pureW_step ho hw (fun w => hy a.eval (Rho.eval a) h1 w) h
theorem pureW_e2 (n1 n2 : Nat) {v1 v2 : Value} (ho : ops[i]? = some o) (hw : Region.wanted o (yielded ops a.tmps) = true) (h1 : a.eval (.tmp n1) = v1) (h2 : a.eval (.tmp n2) = v2) (hy : ∀ ρ, Rho ρ → ρ (.tmp n1) = v1 → ρ (.tmp n2) = v2 → ∀ w, S w → (execOp ρ o).run P w = .ok (.value v) w)
    (h : pureW P ops S r K (a.put o.dst v)) : pureW P ops S (i :: r) K a := pureW_step ho hw (fun w => hy a.eval (Rho.eval a) h1 h2 w) h
end
end Go.Proofs.Ytnjnpnjjpodnnaa
/- A region that draws its order, walked by hand: a region by its number. -/

namespace Go.Proofs.Ytnjnpnjjpodnnaa
open Go.RowKit Go.Shelf
set_option linter.unusedVariables false

/-- Region number k of a function, in the order of the text. -/
noncomputable def regAt (f : Func) (k : Nat) : Array Oper := ((f.body.map regsOf).getD [])[k]?.getD #[]
end Go.Proofs.Ytnjnpnjjpodnnaa
/- A region that draws its order: two operations are ready: two ways. -/

namespace Go.Proofs.Ytnjnpnjjpodnnaa
open Go.RowKit
section
variable {P : Program} {ops : Array Oper} {Q : Exit → Act → World → Prop}
end
end Go.Proofs.Ytnjnpnjjpodnnaa
/- Slice expressions of bytes with their address behind a name; copy into bytes of the call's own. -/

namespace Go.Proofs.Ytnjnpnjjpodnnaa
open Go.RowKit Go.Shelf
set_option linter.unusedVariables false

theorem run_cut_lh (w : World) (A : Option Addr) (n c : Nat) (l h : Int) (h0 : 0 ≤ l) (h1 : l ≤ h) (h2 : h ≤ c) :
    (Instr.slice 24 (.slice A n c) (some (.int .i64 l)) (some (.int .i64 h)) none).run Try.prog w = .ok (.slice (cutA A c l.toNat) (h.toNat - l.toNat) (c - l.toNat)) w := by
  rw [run_slice_lh (P := Try.prog) w 24 A n c (by kernel_rfl) .i64 .i64 l h h0 h1 h2]
  rw [show ∀ w, (sizeOf (Try.prog.elem 24)).run Try.prog w = .ok 1 w from fun w => by kernel_rfl]
  simp [Result.andThen, sliced, cutA]
theorem run_cut_h (w : World) (A : Option Addr) (n c : Nat) (h : Int) (h0 : 0 ≤ h) (h2 : h ≤ c) :
    (Instr.slice 24 (.slice A n c) none (some (.int .i64 h)) none).run Try.prog w = .ok (.slice (cutA A c 0) h.toNat c) w := by
  rw [run_slice_h (P := Try.prog) w 24 A n c (by kernel_rfl) .i64 h h0 h2]
  rw [show ∀ w, (sizeOf (Try.prog.elem 24)).run Try.prog w = .ok 1 w from fun w => by kernel_rfl]
  simp [Result.andThen, sliced, cutA]
theorem run_cut_l (w : World) (A : Option Addr) (n c : Nat) (l : Int) (h0 : 0 ≤ l) (h1 : l ≤ n) :
    (Instr.slice 24 (.slice A n c) (some (.int .i64 l)) none none).run Try.prog w = .ok (.slice (cutA A c l.toNat) (n - l.toNat) (c - l.toNat)) w := by
  rw [run_slice_l (P := Try.prog) w 24 A n c (by kernel_rfl) .i64 l h0 h1]
  rw [show ∀ w, (sizeOf (Try.prog.elem 24)).run Try.prog w = .ok 1 w from fun w => by kernel_rfl]
  simp [Result.andThen, sliced, cutA]

/-- The slice expression where its bounds are not right: as it is. -/
noncomputable def cutElse (w : World) (A : Option Addr) (n c : Nat) (l h : Option Value) : Result Value := (Instr.slice 24 (.slice A n c) l h none).run Try.prog w
theorem run_cutI_lh (w : World) (A : Option Addr) (n c : Nat) (l h : Int) :
    (Instr.slice 24 (.slice A n c) (some (.int .i64 l)) (some (.int .i64 h)) none).run Try.prog w = if 0 ≤ l ∧ l ≤ h ∧ h ≤ c then .ok (.slice (cutA A c l.toNat) (h.toNat - l.toNat) (c - l.toNat)) w else cutElse w A n c (some (.int .i64 l)) (some (.int .i64 h)) := by
  split
  · rename_i hh
    exact run_cut_lh w A n c l h hh.1 hh.2.1 hh.2.2
  · rfl
theorem run_cutI_h (w : World) (A : Option Addr) (n c : Nat) (h : Int) :
    (Instr.slice 24 (.slice A n c) none (some (.int .i64 h)) none).run Try.prog w = if 0 ≤ h ∧ h ≤ c then .ok (.slice (cutA A c 0) h.toNat c) w else cutElse w A n c none (some (.int .i64 h)) := by
  split
  · rename_i hh
    exact run_cut_h w A n c h hh.1 hh.2
  · rfl
theorem run_cutI_l (w : World) (A : Option Addr) (n c : Nat) (l : Int) :
    (Instr.slice 24 (.slice A n c) (some (.int .i64 l)) none none).run Try.prog w = if 0 ≤ l ∧ l ≤ n then .ok (.slice (cutA A c l.toNat) (n - l.toNat) (c - l.toNat)) w else cutElse w A n c (some (.int .i64 l)) none := by
  split
  · rename_i hh
    exact run_cut_l w A n c l hh.1 hh.2
  · rfl
theorem Byt.cutL {w : World} {A : Option Addr} {n c : Nat} {l : List Int} (h : Byt w A n c l) {lo : Nat} (h1 : lo ≤ n) : Byt w (cutA A c lo) (n - lo) (c - lo) (l.drop lo) := by
  have := h.cut h1 (Nat.le_refl n)
  rwa [List.take_of_length_le (by rw [h.len]; exact Nat.le_refl _)] at this
/-- Bytes of the call's own that are as long as their block: the block. -/
theorem Mine.whole {base : Nat} {W : World} {g n : Nat} {l : List Int} (h : Mine base W (some ⟨g, 0, none⟩) n n l) : Blk W g 5 (l.map (Value.int .u8)).toArray := by
  have hl := h.len
  rcases h.1.2 with ⟨e, _⟩ | ⟨g', cap, cur, e, _, hg, _, _, hcs, htake⟩
  · cases e
  · simp at e
    obtain ⟨rfl, rfl⟩ := e
    rw [List.take_of_length_le (by simp; omega)] at htake
    unfold Blk
    rw [hg, ← htake]
theorem Mine.ofBlk {base : Nat} {W : World} {g n : Nat} {l : List Int} (h : Blk W g 5 (l.map (Value.int .u8)).toArray) (hb : base ≤ g) (hs : Bs l) (hl : l.length = n) (hn : n ≤ 9223372036854775807) : Mine base W (some ⟨g, 0, none⟩) n n l := by
  refine ⟨⟨by simp [hl], .inr ⟨g, n, _, rfl, hb, h, Nat.le_refl _, by simpa [maxLen] using hn, by simp [hl], ?_⟩⟩, hs⟩
  rw [List.take_of_length_le (by simp [hl])]

/-- copy(o[off:], u): o of the call's own, as long as its block. -/
theorem wpList_fill (W : World) {ops : Array Oper} {rest : List Oper} {o : Oper} {a : Act} {Q : Exit → Act → World → Prop} (hgd : o.guard = none) (d s : Operand)
    (ho : o.op = .call { callee := .builtin .copy, args := #[d, s], argTypes := #[24, 24] })
    (base g n off : Nat) (l : List Int) (hown : Mine base W (some ⟨g, 0, none⟩) n n l) (hd : a.eval d = .slice (cutA (some ⟨g, 0, none⟩) n off) (n - off) (n - off))
    (B : Option Addr) (m dd : Nat) (l' : List Int) (hs : a.eval s = .slice B m dd) (hr : Byt W B m dd l') (hfit : off + m ≤ n) (hbg : base ≤ g)
    (h : ∀ w', Mine base w' (some ⟨g, 0, none⟩) n n (l.take off ++ l' ++ l.drop (off + m)) → Below base W w' → wpList Try.prog ops Q rest (a.put o.dst (.int .i64 m)) w') : wpList Try.prog ops Q (o :: rest) a W := by
  have hl := hown.len
  have hl' := hr.len
  have hmx : n ≤ 9223372036854775807 := by
    rcases hown.cases with ⟨e, _⟩ | ⟨_, _, _, _, h1, h2, _⟩
    · cases e
    · omega
  refine wpList_copy_splice hgd d s 24 24 ho 5 Try.underlying24 (by kernel_rfl) _ B (n - off) (n - off) m dd hd hs g off (l.map (Value.int .u8)) 5 hown.whole (l'.map (Value.int .u8)) (by simp [hl', Nat.min_eq_left (show m ≤ n - off by omega)]) (fun hp => ?_) (by simp; omega) (fun v hv => ?_) base W (Below.refl _ _) hbg ?_
  · have hm : 0 < m := by simpa [hl'] using hp
    obtain ⟨b, q, rfl, _, hc⟩ := hr.cell hm
    refine ⟨?_, _, rfl, fun j v hj => ?_⟩
    · unfold cutA
      rw [if_neg (by omega)]
      simp [Go.WideShapes.add_plain]
    · have hj' : j < m := by have := (List.getElem?_eq_some_iff.1 hj).1; simpa [hl'] using this
      rw [Go.WideShapes.add_plain, hc j hj', ← hj, List.getElem?_map, List.getElem?_eq_getElem (by omega)]
      rfl
  · obtain ⟨y, _, rfl⟩ := List.mem_map.1 hv
    rfl
  · intro w' hg hb
    have e : goInt (l'.map (Value.int .u8)).length = .int .i64 m := by simp [goInt, hl']
    rw [e]
    refine h w' (Mine.ofBlk ?_ hbg ((hown.2.take _).append hr.bs |>.append (hown.2.drop _)) (by simp; omega) hmx) hb
    have := hg.out
    unfold Blk
    rw [this]
    simp [splice, hl']
end Go.Proofs.Ytnjnpnjjpodnnaa
/- Whole structs: stored into a block, loaded out of it, handed back out of it. -/

namespace Go.Proofs.Ytnjnpnjjpodnnaa
open Go.RowKit
set_option linter.unusedVariables false

theorem Bel.grown {W w w' : World} (h : Bel W w) {g : Nat} (hg : w.grownBy w' (some g)) (hle : W.heap.size ≤ g) : Bel W w' :=
  ⟨h.out.grown hg h.out.size (fun k e => by simp at e; omega)⟩
theorem Blk.grown {W W' : World} {b g : Nat} {t : TypeId} {cs : Array Value} (h : Blk W b t cs) (hg : W.grownBy W' (some g)) (hne : b ≠ g) : Blk W' b t cs :=
  (hg.block b h.lt (fun e => hne (by simpa using e))).trans h
theorem Mine.grownB {W W' : World} {g : Nat} {t : TypeId} {cs : Array Value} {base : Nat} {A : Option Addr} {n c : Nat} {l : List Int} (hm : Mine base W A n c l) (q : Blk W g t cs) (ht : t ≠ 5) (hg : W.grownBy W' (some g)) : Mine base W' A n c l :=
  hm.grown hg (fun g' e e' => q.not_row ht hm g' e (by simpa using e'))
theorem setRow_grown (w : World) (g : Nat) (cs : Array Value) : w.grownBy (w.setRow g cs) (some g) := ⟨rfl, rfl, rfl, by simp, fun k _ hk => setRow_other w g k cs (fun e => hk (by rw [e]))⟩
section
variable {P : Program} {W : World} {ops : Array Oper} {rest : List Oper} {o : Oper} {a : Act} {Q : Exit → Act → World → Prop} {g : Nat} {t : TypeId} {old cells : Array Value}
/-- A whole value is stored. -/
theorem wpList_putB (hgd : o.guard = none) (ty : TypeId) (x y : Operand) (ho : o.op = .store ty x y) (hx : a.eval x = .pointer (some ⟨g, 0, none⟩)) (hy : a.eval y = .agg cells)
    (q : Blk W g t old) (hi : (P.info? ty).map (·.size) = some cells.size) (hold : old.size = cells.size) (h1 : cells.toList.all (·.oneCell') = true)
    (h : ∀ W', Blk W' g t cells → W.grownBy W' (some g) → wpList P ops Q rest (a.put o.dst undef) W') : wpList P ops Q (o :: rest) a W :=
  wpList_plain hgd fun K hK => wp_store_row ty x y ho g cells hx hy t old q hi hold (by rw [← Array.all_toList]; exact h1) (hK _ _ (h _ (setRow_heap W g old cells t (0, 0) q) (setRow_grown W g cells)))
/-- A whole value is loaded. -/
theorem wpList_getB (hgd : o.guard = none) (ty : TypeId) (x : Operand) (ho : o.op = .load ty x) (hx : a.eval x = .pointer (some ⟨g, 0, none⟩))
    (q : Blk W g t old) {d : TypeDesc} (hu : P.underlying ty = some d) (hd : (match d with | .struct _ | .array _ _ => true | _ => false) = true) (hi : (P.info? ty).map (·.size) = some old.size)
    (h : wpList P ops Q rest (a.put o.dst (.agg old)) W) : wpList P ops Q (o :: rest) a W := by
  refine wpList_plain hgd fun K hK => ?_
  unfold Oper.wp execOp
  simp only [ho, hx, Instr.loadAt, Instr.sureAddr, Sem.run_bind, Sem.run_pure, Result.andThen_ok, run_loadVar_row W g t ty old (0, 0) d q hu hd hi]
  exact hK _ _ h
end
/-- What a cell of a result holds. -/
theorem Blk.out {P : Program} {W : World} {g : Nat} {t : TypeId} {cs : Array Value} (q : Blk W g t cs) {ty : TypeId} {d : TypeDesc} (hu : P.underlying ty = some d) (hd : (match d with | .struct _ | .array _ _ => true | _ => false) = true)
    (hi : (P.info? ty).map (·.size) = some cs.size) : (loadVar ty ⟨g, 0, none⟩).run P W = .ok (.agg cs) W := run_loadVar_row W g t ty cs (0, 0) d q hu hd hi
/-- How a result is handed back out of its cell: alone, ahead of another result, ahead of another cell. -/
theorem res1 {P : Program} {f : Func} {n : Nat} {ty : TypeId} {d : TypeDesc} (hf : f.results = #[.cell n ty]) {R : Ending → World → Prop} {a : Act} {W : World} {g : Nat} {t : TypeId} {cs : Array Value} (ha : a.tmps[n]?.getD undef = .pointer (some ⟨g, 0, none⟩)) (hd : a.defers = [])
    (q : Blk W g t cs) (hu : P.underlying ty = some d) (hdd : (match d with | .struct _ | .array _ _ => true | _ => false) = true) (hi : (P.info? ty).map (·.size) = some cs.size) (hR : R (.returned (.agg cs)) W) : bodyPost P f R .ret a W := by
  have := q.out hu hdd hi
  exact bodyPost_ret (v := .agg cs) (by simp [results, hf, asAddr, ha, this]) hd hR
theorem res2cc {P : Program} {f : Func} {n m : Nat} {ty ty' : TypeId} {d d' : TypeDesc} (hf : f.results = #[.cell n ty, .cell m ty']) {R : Ending → World → Prop} {a : Act} {W : World} {g g' : Nat} {t t' : TypeId} {cs cs' : Array Value} (ha : a.tmps[n]?.getD undef = .pointer (some ⟨g, 0, none⟩)) (ha' : a.tmps[m]?.getD undef = .pointer (some ⟨g', 0, none⟩)) (hd : a.defers = [])
    (q : Blk W g t cs) (hu : P.underlying ty = some d) (hdd : (match d with | .struct _ | .array _ _ => true | _ => false) = true) (hi : (P.info? ty).map (·.size) = some cs.size)
    (q' : Blk W g' t' cs') (hu' : P.underlying ty' = some d') (hdd' : (match d' with | .struct _ | .array _ _ => true | _ => false) = true) (hi' : (P.info? ty').map (·.size) = some cs'.size) (hR : R (.returned (.tuple #[.agg cs, .agg cs'])) W) : bodyPost P f R .ret a W := by
  have h1 := q.out hu hdd hi
  have h2 := q'.out hu' hdd' hi'
  exact bodyPost_ret (v := .tuple #[.agg cs, .agg cs']) (by simp [results, hf, asAddr, ha, ha', h1, h2]) hd hR
end Go.Proofs.Ytnjnpnjjpodnnaa
/- One field of a struct in a block: stored, loaded. -/

namespace Go.Proofs.Ytnjnpnjjpodnnaa
open Go.RowKit
set_option linter.unusedVariables false

section
variable {P : Program} {W : World} {ops : Array Oper} {rest : List Oper} {o : Oper} {a : Act} {Q : Exit → Act → World → Prop} {g i : Nat} {t : TypeId} {old : Array Value} {v u : Value}
theorem run_storeVar_fld (q : Blk W g t old) (hi : old[i]? = some u) {ty : TypeId} (hs : (P.info? ty).map (·.size) = some 1) (h1 : v.oneCell' = true) : (storeVar ty ⟨g, i, none⟩ v).run P W = .ok () (W.setCell ⟨g, i, none⟩ v) := by
  have hc := q.at i hi
  have hf := q.frozen i
  cases hq : P.info? ty with
  | none => simp [hq] at hs
  | some j =>
    have hs' : j.size = 1 := by simpa [hq] using hs
    have hv : v.cells = #[v] := by cases v <;> first | rfl | (simp [Value.oneCell'] at h1)
    have h2 : (storeCells ⟨g, i, none⟩ [v] 0).run P W = .ok () (W.setCell ⟨g, i, none⟩ v) := by
      have hst := run_store P W ⟨g, i, none⟩ v .plain h1
      rw [hc] at hst
      simp only [hf] at hst
      have e0 : (⟨g, i, none⟩ : Addr).add 0 = ⟨g, i, none⟩ := by simp [Addr.add]
      simp [storeCells, e0, hst]
    simp [storeVar, sizeOf, typeInfo, hq, hs', hv, h2]
/-- A field is stored. -/
theorem wpList_putF (hgd : o.guard = none) (ty : TypeId) (x y : Operand) (ho : o.op = .store ty x y) (hx : a.eval x = .pointer (some ⟨g, i, none⟩)) (hy : a.eval y = v)
    (q : Blk W g t old) (hi : old[i]? = some u) (hs : (P.info? ty).map (·.size) = some 1) (h1 : v.oneCell' = true)
    (h : ∀ W', Blk W' g t (old.setIfInBounds i v) → W.grownBy W' (some g) → wpList P ops Q rest (a.put o.dst undef) W') : wpList P ops Q (o :: rest) a W := by
  refine wpList_plain hgd fun K hK => ?_
  unfold Oper.wp execOp
  simp only [ho, hx, hy, Instr.storeAt, Instr.sureAddr, Sem.run_bind, Sem.run_pure, Result.andThen_ok, run_storeVar_fld q hi hs h1]
  exact hK _ _ (h _ (q.set i v) ⟨rfl, rfl, rfl, by simp, fun k _ hk => Below.heap_setCell W ⟨g, i, none⟩ v k (fun e => hk (by rw [e]))⟩)
end
end Go.Proofs.Ytnjnpnjjpodnnaa
/- Whole structs at an operation that comes up alone. -/

namespace Go.Proofs.Ytnjnpnjjpodnnaa
open Go.RowKit
set_option linter.unusedVariables false

section
variable {P : Program} {W : World} {ops : Array Oper} {o : Oper} {a : Act} {Q : Exit → Act → World → Prop} {K : Act → World → Prop} {g : Nat} {t : TypeId} {old cells : Array Value}
theorem exec_getB {ty : TypeId} {x : Operand} (ho : o.op = .load ty x) (hx : a.eval x = .pointer (some ⟨g, 0, none⟩)) (q : Blk W g t old) {d : TypeDesc} (hu : P.underlying ty = some d) (hd : (match d with | .struct _ | .array _ _ => true | _ => false) = true)
    (hi : (P.info? ty).map (·.size) = some old.size) : (execOp a.eval o).run P W = .ok (.value (.agg old)) W := by
  unfold execOp
  simp only [ho, hx, Instr.loadAt, Instr.sureAddr, Sem.run_bind, Sem.run_pure, Result.andThen_ok, run_loadVar_row W g t ty old (0, 0) d q hu hd hi]
theorem wp_putB (ty : TypeId) (x y : Operand) (ho : o.op = .store ty x y) (hx : a.eval x = .pointer (some ⟨g, 0, none⟩)) (hy : a.eval y = .agg cells)
    (q : Blk W g t old) (hi : (P.info? ty).map (·.size) = some cells.size) (hold : old.size = cells.size) (h1 : cells.toList.all (·.oneCell') = true)
    (h : ∀ W', Blk W' g t cells → W.grownBy W' (some g) → K (a.put o.dst undef) W') : Oper.wp P o a W K Q :=
  wp_store_row ty x y ho g cells hx hy t old q hi hold (by rw [← Array.all_toList]; exact h1) (h _ (setRow_heap W g old cells t (0, 0) q) (setRow_grown W g cells))
theorem wpList_id {rest : List Oper} (h : wpList P ops Q rest a W) : wpList P ops Q rest a W := h
end
end Go.Proofs.Ytnjnpnjjpodnnaa
/- A region that draws its order, by what holds whichever of its operations have been carried out. -/

namespace Go.Proofs.Ytnjnpnjjpodnnaa
open Go.RowKit
set_option linter.unusedVariables false

section
variable {P : Program} {ops : Array Oper} {Q : Exit → Act → World → Prop} {md : Region.Mode} {S : World → Prop} {ex : List Nat}
/-- How many are still to come. -/
def left (L : List Bool) : Nat := (L.filter fun b => !b).length
end
section
variable {P : Program} {ops : Array Oper} {Q : Exit → Act → World → Prop} {md : Region.Mode} {S : World → Prop} {ex : List Nat} {I : Array Bool → Act → World → Prop}
end
end Go.Proofs.Ytnjnpnjjpodnnaa
/- Guarded loads of whole structs, calls' results' fields. -/

namespace Go.Proofs.Ytnjnpnjjpodnnaa
open Go.RowKit
set_option linter.unusedVariables false

section
variable {P : Program} {W : World} {ops : Array Oper} {rest : List Oper} {o : Oper} {a : Act} {Q : Exit → Act → World → Prop} {g : Nat} {t : TypeId} {old : Array Value}
/-- A whole value is loaded, under a guard that stands. -/
theorem wpList_getG (hw : Region.wanted o (yielded ops a.tmps) = true) (ty : TypeId) (x : Operand) (ho : o.op = .load ty x) (hx : a.eval x = .pointer (some ⟨g, 0, none⟩))
    (q : Blk W g t old) {d : TypeDesc} (hu : P.underlying ty = some d) (hd : (match d with | .struct _ | .array _ _ => true | _ => false) = true) (hi : (P.info? ty).map (·.size) = some old.size)
    (h : wpList P ops Q rest (a.put o.dst (.agg old)) W) : wpList P ops Q (o :: rest) a W := by
  refine wpList_step fun K hK => ?_
  rw [if_pos hw]
  unfold Oper.wp
  rw [exec_getB ho hx q hu hd hi]
  exact hK _ _ h
end
end Go.Proofs.Ytnjnpnjjpodnnaa
/- append(v, make([]byte, k)...): as that of a string of k noughts. -/

namespace Go.Proofs.Ytnjnpnjjpodnnaa
open Go.RowKit Go.Shelf
set_option linter.unusedVariables false

def zstr (k : Nat) : ByteArray := ⟨(List.replicate k (0 : UInt8)).toArray⟩
theorem zstr_size (k : Nat) : (zstr k).size = k := by simp [zstr, ByteArray.size]
theorem zeros_eq (k : Nat) : Builtin.zeroCells (Value.int .u8 0).cells k = (Array.map (fun b : UInt8 => Value.int .u8 b.toNat) (zstr k).data).extract 0 k := by
  unfold zstr Builtin.zeroCells
  apply Array.ext
  · simp [Value.cells]
  · intro i h1 h2
    simp [Value.cells, Nat.mod_one]
theorem run_append_zeros (w : World) (ty : TypeId) (A : Option Addr) (n c k : Nat) (hk : n + k ≤ 1000000) (k1 : 0 < k) :
    (Builtin.append_ #[24, 3] ty #[.slice A n c, .int .i64 k]).run Try.prog w = (Builtin.append_ #[24, 9] ty #[.slice A n c, .string (zstr k)]).run Try.prog w := by
  obtain ⟨i0, hi, hz0, hz1, hz2⟩ := info_parts info8
  have hw : IntKind.i64.wrap (k : Int) = k := IntWalk.i64_in _ (by omega)
  have h1 : ¬ ((k : Int) < 0) := by omega
  have h2 : ¬ (281474976710656 < (k : Int)) := by omega
  have h5 : ¬ (9223372036854775807 < (n : Int) + (k : Int)) := by omega
  have h6 : ¬ (k = 0) := by omega
  have hs := zstr_size k
  by_cases hroom : n + k ≤ c
  · simp [Builtin.append_, run_underlying Try.underlying24, run_underlying Try.underlying3, run_underlying Try.underlying9, sizeOf, typeInfo, hi, hz1, hz2, asInt, asIntOf, hw, Builtin.lenOf, Builtin.firstCells, h1, h2, h6, hs, hroom, zeros_eq]
  · have h7 : ¬ (281474976710656 < Builtin.nextslicecap (n + k) c) := by
      have := growslice_fits (need := n + k) (old := c) (bytes := 1) (by omega) (by omega)
      omega
    simp [Builtin.append_, run_underlying Try.underlying24, run_underlying Try.underlying3, run_underlying Try.underlying9, sizeOf, typeInfo, hi, hz1, hz2, asInt, asIntOf, hw, Builtin.lenOf, Builtin.firstCells, h1, h2, h5, h6, hs, hroom, h7, zeros_eq]
theorem run_append_none (w : World) (ty : TypeId) (A : Option Addr) (n c : Nat) (hn : n ≤ c) :
    (Builtin.append_ #[24, 3] ty #[.slice A n c, .int .i64 0]).run Try.prog w = .ok (.slice A n c) w := by
  obtain ⟨i0, hi, hz0, hz1, hz2⟩ := info_parts info8
  have hw : IntKind.i64.wrap 0 = 0 := rfl
  cases A <;> simp [Builtin.append_, run_underlying Try.underlying24, run_underlying Try.underlying3, sizeOf, typeInfo, hi, hz2, asInt, asIntOf, hw, hn, storeCells]
theorem strCells_zstr (k : Nat) : Lib.strCells (zstr k) = (List.replicate k (0 : Int)).map (Value.int .u8) := by
  simp [Lib.strCells, zstr]

/-- append(v, make([]byte, k)...): v of the call's own. -/
theorem wpList_appZ (w : World) {ops : Array Oper} {rest : List Oper} {o : Oper} {a : Act} {Q : Exit → Act → World → Prop} (hgd : o.guard = none) (s x : Operand)
    (ho : o.op = .call { callee := .builtin .append, args := #[s, x], argTypes := #[24, 3] })
    (base : Nat) (A : Option Addr) (n c : Nat) (l : List Int) (hs : a.eval s = .slice A n c) (hown : Mine base w A n c l) (k : Nat) (hx : a.eval x = .int .i64 k)
    (hlen : n + k ≤ 1000000) (hbase : base ≤ w.heap.size)
    (h : ∀ A' c' w', Mine base w' A' (n + k) c' (l ++ List.replicate k 0) → Below base w w' → wpList Try.prog ops Q rest (a.put o.dst (.slice A' (n + k) c')) w') : wpList Try.prog ops Q (o :: rest) a w := by
  obtain ⟨i0, hi, hz0, hz1, hz2⟩ := info_parts info8
  refine wpList_plain hgd fun K hK => ?_
  have hrun : ∃ A' c' w', (Builtin.append_ #[24, 3] o.type #[.slice A n c, .int .i64 k]).run Try.prog w = .ok (.slice A' (n + k) c') w' ∧ Mine base w' A' (n + k) c' (l ++ List.replicate k 0) ∧ Below base w w' := by
    rcases Nat.eq_zero_or_pos k with rfl | k1
    · exact ⟨A, c, w, run_append_none w o.type A n c hown.byt.cap, by simpa using hown, Below.refl _ _⟩
    · rw [run_append_zeros w o.type A n c k hlen k1]
      obtain ⟨v', w', hr, h2, h3, _⟩ := Lib.run_append_own_string (P := Try.prog) w base 24 9 o.type 5 i0 Try.underlying24 Try.underlying9 hi hz0 hz1 hz2 (.slice A n c) n (l.map (Value.int .u8)) hown.1 (zstr k) (by rw [zstr_size]; simp [maxLen]; omega) (by rw [zstr_size]; omega) hbase
      rw [strCells_zstr, ← List.map_append, zstr_size] at h2
      rcases h2.2 with ⟨rfl, h0⟩ | ⟨g, cap, cur, rfl, hr'⟩
      · omega
      · exact ⟨_, _, w', hr, ⟨h2, hown.2.append (fun y hy => by simp at hy; omega)⟩, (Below.refl _ _).grown h3 hbase fun q hq => (hown.1.lt q hq).1⟩
  obtain ⟨A', c', w', hr, h2, h3⟩ := hrun
  unfold Oper.wp execOp
  simp only [ho, resolve, invoke, builtin, Sem.run_bind, Sem.run_pure, Result.andThen_ok, List.map_toArray, List.map_cons, List.map_nil, hs, hx, hr]
  exact hK _ _ (h A' c' w' h2 h3)
end Go.Proofs.Ytnjnpnjjpodnnaa
/- A range over a function whose iterator keeps state of its own, the round's variable laid in memory anew each time: the loop's law. -/

namespace Go.Proofs.Ytnjnpnjjpodnnaa
open Go.RowKit Go.Shelf

/-- The loop's law, where the round's own variable is laid in memory: Ea is what the laying leaves. -/
theorem wpIn_range_privA {F : Fence} {n : Nat} {P : Program} {α : Type} {Pv : Nat → Prop} {g : Operand} {ps : Array Tmp} {assign body : Code} {Q : Exit → Act → World → Prop} {a : Act} {w : World}
    (hro : F.round = none) (h1 : 1 ≤ n) {gf : Nat} {lb : Array Value} (hg : a.eval g = .func (.func gf) #[] lb) (hFg : F.fn gf) (eg : ∀ args w, (callFunc gf args).run P w = .ok (.enter gf args) w)
    {encs : α → Array Value} {Kp : World → World → Prop} {S Sp : List α → Prop} {N : Nat} (hPv : ∀ b, Pv b → b < w.heap.size) (hseq : SeqP Pv F (n - 1) P gf lb encs Kp S Sp N w)
    (hKt : ∀ {A B C : World}, Kp A B → Kp B C → Kp A C) (hKb : ∀ (W : World) (l : Nat) (o o' : Obj), w.heap.size ≤ l → W.heap[l]? = some o → o.isCells = false → o.isWalk = false → Kp W (W.putObj l o')) (hps : ∀ x, (encs x).size = ps.size)
    (I : List α → World → Prop) (Ix : Code → List α → World → Prop) (hI : OwnFrom w.heap.size I) (hIx : ∀ c, OwnFrom w.heap.size (Ix c))
    (hIp : ∀ (b : Nat), Pv b → ∀ pre W v, I pre W → I pre (W.setCell ⟨b, 0, none⟩ v)) (h0 : I [] w)
    (Ea : α → Act → World → Prop) (hEa : ∀ x a₁ W (l : Nat) (o o' : Obj), Ea x a₁ W → W.heap[l]? = some o → o.isCells = false → Ea x a₁ (W.putObj l o'))
    (hassign : ∀ (x : α) (l : Nat) (pre : List α) (W : World) (K : Act → World → Prop), I pre W → (∀ a₁ W1, KeepsFrom w.heap.size W W1 → Kp W W1 → I pre W1 → Ea x a₁ W1 → K a₁ W1) →
      assign.wpIn (F.inRound l) (n - 1 - 1) P (Exit.then K (fun _ _ _ => False)) { tmps := (ps.zip (encs x)).foldl (fun t (p, v) => t.setIfInBounds p v) a.tmps, defers := [] } W)
    (hbody : ∀ (x : α) (l : Nat) (pre : List α) (W : World) (a₁ : Act), I pre W → Ea x a₁ W → pre.length < N → body.wpIn (F.inRound l) (n - 1 - 1) P (ownPostG w.heap.size Kp I Ix (pre ++ [x]) W) a₁ W)
    (hdone : ∀ (D : Nat) (xs : List α) (W : World), w.heap.size ≤ D → S xs → I xs W → W.heap[D]? = some (.deferred (some [])) → Q .normal { a with defers := { target := .collected D, args := #[] } :: a.defers } W)
    (hstop : ∀ (D : Nat) (c : Code) (pre : List α) (W : World), w.heap.size ≤ D → Sp pre → Ix c pre W → W.heap[D]? = some (.deferred (some [])) → c.wpIn F n P Q { a with defers := { target := .collected D, args := #[] } :: a.defers } W) :
    (Code.rangeFunc g ps assign body).wpIn F n P Q a w := by
  refine wpIn_rangeFunc fun fn hfn => ?_
  rw [hro]
  -- the loop's record, in whatever state
  obtain ⟨rc, hrc⟩ : ∃ rc : LoopState → Option Code → Loop, rc = fun st pe => { state := st, pending := pe, fn, tmps := a.tmps, params := ps, assign, body, defers := w.heap.size } := ⟨_, rfl⟩
  have two : ∀ {A B : World} {row : Option Nat} {k : Nat} {o : Obj}, A.grownBy B row → (∀ r, row = some r → ∃ o : Obj, A.heap[r]? = some o ∧ o.isWalk = true) → A.heap[k]? = some o → o.isWalk = false → B.heap[k]? = some o :=
    fun hg' hr hk ho => (grownBy_keeps hg' hr hk ho).trans hk
  have hD : ((w.alloc (.deferred (some []))).alloc (.loop (rc .ready none))).heap[w.heap.size]? = some (.deferred (some [])) :=
    (Below.heap_alloc _ _ _ (by simp)).trans (World.alloc_heap_new w _)
  have hL : ((w.alloc (.deferred (some []))).alloc (.loop (rc .ready none))).heap[w.heap.size + 1]? = some (.loop (rc .ready none)) := by
    have := World.alloc_heap_new (w.alloc (.deferred (some []))) (.loop (rc .ready none))
    rwa [World.size_alloc] at this
  have hI2 : I [] ((w.alloc (.deferred (some []))).alloc (.loop (rc .ready none))) := hI.alloc _ (hI.alloc _ h0)
  have hb2 : Below w.heap.size w ((w.alloc (.deferred (some []))).alloc (.loop (rc .ready none))) := ((Below.refl _ w).alloc (Nat.le_refl _) _).alloc (by simp) _
  have henter := run_enterLoop_outer (P := P) (w := w) fn a.tmps ps assign body
  have hz2 : ((w.alloc (.deferred (some []))).alloc (.loop (rc .ready none))).heap.size = w.heap.size + 2 := by simp
  generalize hW1 : (w.alloc (.deferred (some []))).alloc (.loop (rc .ready none)) = W1 at hD hL hI2 hb2 hz2
  refine ⟨w.heap.size + 1, [{ target := .collected w.heap.size, args := #[] }], W1, { target := .fn (.func gf) lb, args := #[.func (.yield (w.heap.size + 1)) #[] #[]] }, W1, gf,
    #[.func (.yield (w.heap.size + 1)) #[] #[]] ++ lb, W1, ?_, ?_, ?_, ?_, fun _ => h1, ?_⟩
  · rw [← hW1, hrc]; exact henter
  · simp only [resolve, hg]
    simp [go_sem]
  · intro f' hf'; simp [Target.leads] at hf'; subst hf'; exact hFg
  · simp [invoke, go_sem, eg]
  refine (hseq (w.heap.size + 1)
    (fun pre W => I pre W ∧ W.heap[w.heap.size + 1]? = some (.loop (rc .ready none)) ∧ W.heap[w.heap.size]? = some (.deferred (some [])))
    (fun pre W => ∃ c, Ix c pre W ∧ W.heap[w.heap.size + 1]? = some (.loop (rc .done (some c))) ∧ W.heap[w.heap.size]? = some (.deferred (some [])))
    W1 hb2 ?abJ ?abX ?priv ?rounds ⟨hI2, hL, hD⟩).mono ?behind
  case abJ =>
    intro s A B row hs hg' hr
    refine ⟨hI s A B row hs.1 hg' fun r e => ?_, two hg' (fun r e => (hr r e).2) hs.2.1 rfl, two hg' (fun r e => (hr r e).2) hs.2.2 rfl⟩
    obtain ⟨hB, o, ho, hw⟩ := hr r e
    exact ⟨by omega, o, ho, Obj.not_cells_of_walk hw⟩
  case abX =>
    rintro s A B row ⟨c, hc, hl, hk⟩ hg' hr
    refine ⟨c, hIx c s A B row hc hg' fun r e => ?_, two hg' (fun r e => (hr r e).2) hl rfl, two hg' (fun r e => (hr r e).2) hk rfl⟩
    obtain ⟨hB, o, ho, hw⟩ := hr r e
    exact ⟨by omega, o, ho, Obj.not_cells_of_walk hw⟩
  case priv =>
    rintro b hb pre W v ⟨hi, hl, hk⟩
    have := hPv b hb
    exact ⟨hIp b hb pre W v hi, (heap_set_far W b _ v (by omega)).trans hl, (heap_set_far W b _ v (by omega)).trans hk⟩
  case rounds =>
    rintro pre x W ⟨hi, hl, hk⟩ hlen
    have hlt : w.heap.size + 1 < W.heap.size := (Array.getElem?_eq_some_iff.1 hl).1
    have hyy := run_yield (P := P) (args := encs x) hl (by rw [hrc]; exact hps x)
    rw [hrc] at hyy
    refine ⟨fn, _, assign, body, hyy, roundIn_of_wpIn hfn (hassign x _ pre W _ hi fun a₁ W1 hkf hkp1 hi1 he1 => ?_)⟩
    have hl1 := hkf.same _ _ (by omega) hl rfl
    have hk1 := hkf.same _ _ (Nat.le_refl _) hk rfl
    have hlt1 : w.heap.size + 1 < W1.heap.size := (Array.getElem?_eq_some_iff.1 hl1).1
    refine ⟨_, run_beginRound hl1 (by rw [hrc]), ?_⟩
    obtain ⟨W2, hW2⟩ : ∃ W2, W1.putObj (w.heap.size + 1) (.loop { rc .ready none with state := .busy }) = W2 := ⟨_, rfl⟩
    have hl2 : W2.heap[w.heap.size + 1]? = some (.loop { rc .ready none with state := .busy }) := by rw [← hW2]; exact World.putObj_heap_same hlt1
    have hk2 : W2.heap[w.heap.size]? = some (.deferred (some [])) := by rw [← hW2]; exact (World.putObj_heap_other (by omega)).trans hk1
    have hKp2 : Kp W W2 := by rw [← hW2]; exact hKt hkp1 (hKb _ _ _ _ (by omega) hl1 rfl rfl)
    have hI3 : I pre W2 := by rw [← hW2]; exact hI.putObj _ hi1 (by omega) hl1 rfl
    have hE3 : Ea x a₁ W2 := by rw [← hW2]; exact hEa _ _ _ _ _ _ he1 hl1 rfl
    have close : ∀ (jump : Option Code) (W3 : World), KeepsFrom w.heap.size W2 W3 →
        (Instr.endRound (w.heap.size + 1) jump).run P W3 = .ok (.bool jump.isNone) (W3.putObj (w.heap.size + 1) (.loop (rc (if jump.isNone then .ready else .done) jump))) ∧
        W3.heap[w.heap.size + 1]? = some (.loop { rc .ready none with state := .busy }) ∧
        (W3.putObj (w.heap.size + 1) (.loop (rc (if jump.isNone then .ready else .done) jump))).heap[w.heap.size + 1]? = some (.loop (rc (if jump.isNone then .ready else .done) jump)) ∧
        (W3.putObj (w.heap.size + 1) (.loop (rc (if jump.isNone then .ready else .done) jump))).heap[w.heap.size]? = some (.deferred (some [])) := by
      intro jump W3 hk3
      have hl3 := hk3.same _ _ (by omega) hl2 rfl
      have hend := run_endRound (P := P) jump hl3
      rw [hrc] at hend hl3 ⊢
      exact ⟨hend, hl3, World.putObj_heap_same (Array.getElem?_eq_some_iff.1 hl3).1, (World.putObj_heap_other (by omega)).trans (hk3.same _ _ (Nat.le_refl _) hk2 rfl)⟩
    rw [hW2]
    refine wpIn_mono (hbody x _ pre _ a₁ hI3 hE3 hlen) ?_
    intro e a3 W3 hp
    cases e with
    | normal =>
      obtain ⟨hk3, hkp3, hi3⟩ := hp
      obtain ⟨hr, hl3, hl4, hk4⟩ := close none W3 hk3
      exact ⟨_, _, hr, .inl ⟨rfl, ⟨hI.putObj _ hi3 (by omega) hl3 rfl, hl4, hk4⟩, hKt (hKt hKp2 hkp3) (hKb _ _ _ _ (by omega) hl3 rfl rfl)⟩⟩
    | ret =>
      obtain ⟨hr, hl3, hl4, hk4⟩ := close (some .ret) W3 hp.1
      exact ⟨_, _, hr, .inr ⟨rfl, .ret, (hIx _).putObj _ hp.2 (by omega) hl3 rfl, hl4, hk4⟩⟩
    | exit id =>
      obtain ⟨hr, hl3, hl4, hk4⟩ := close (some (.exit id)) W3 hp.1
      exact ⟨_, _, hr, .inr ⟨rfl, (.exit id), (hIx _).putObj _ hp.2 (by omega) hl3 rfl, hl4, hk4⟩⟩
    | goto t =>
      obtain ⟨hr, hl3, hl4, hk4⟩ := close (some (.goto t)) W3 hp.1
      exact ⟨_, _, hr, .inr ⟨rfl, (.goto t), (hIx _).putObj _ hp.2 (by omega) hl3 rfl, hl4, hk4⟩⟩
    | panic ch => exact hp.elim
    | outgrown => exact hp.elim
  case behind =>
    rintro e W2 ⟨⟨v, rfl⟩, ⟨xs, hS, hi, hl, hk⟩ | ⟨pre, hSp, c, hi, hl, hk⟩⟩
    · have hend := run_endLoop (P := P) hl (by rw [hrc]; simp)
      rw [hrc] at hend
      exact ⟨none, _, hend, hdone _ xs _ (Nat.le_refl _) hS (hI.putObj _ hi (by omega) hl rfl) ((World.putObj_heap_other (by omega)).trans hk)⟩
    · have hend := run_endLoop (P := P) hl (by rw [hrc]; simp)
      rw [hrc] at hend
      exact ⟨some c, _, hend, hstop _ c pre _ (Nat.le_refl _) hSp ((hIx c).putObj _ hi (by omega) hl rfl) ((World.putObj_heap_other (by omega)).trans hk)⟩
end Go.Proofs.Ytnjnpnjjpodnnaa
/- A range over a function whose iterator makes memory of its own and yields what lies in it: what is known of an item when it is yielded (E); the loop's law. -/

namespace Go.Proofs.Ytnjnpnjjpodnnaa
open Go.RowKit Go.Shelf

end Go.Proofs.Ytnjnpnjjpodnnaa
