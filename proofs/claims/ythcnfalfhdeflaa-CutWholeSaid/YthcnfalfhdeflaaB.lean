/- Words for slices of bytes: one that is read, one that the call owns; what append, a cut, a turn into a string do with them. -/
import Derived.Test.YthcnfalfhdeflaaRows
import Derived.WalkKit
import Derived.WalkLawsBesides
import Derived.WalkSpells
import Derived.Lib.Hide
import Derived.Laws.OwnMore
import Derived.Laws.BytesArg
import Derived.Deep.AppendLies
import Derived.Deep.Draws
import Derived.Maps.AppendAt
import Derived.ProofKit
namespace Go.Proofs.Ythcnfalfhdeflaa
open Go.RowKit Go.ChangeShapes Go.WideShapes

/-- The call returned this value and the world is as it was. -/
def Ret (v : Value) (W : World) (e : Ending) (w' : World) : Prop := e = .returned v ∧ W = w'
theorem ret_bool {a b : Bool} (h : a = b) : Ending.returned (.bool a) = Ending.returned (.bool b) := by rw [h]
theorem ret_int {k : IntKind} {a b : Int} (h : a = b) : Ending.returned (.int k a) = Ending.returned (.int k b) := by rw [h]

/-- Each number is a byte's. -/
def Bs (l : List Int) : Prop := ∀ x ∈ l, 0 ≤ x ∧ x ≤ 255
theorem Bs.nil : Bs [] := fun _ h => by cases h
theorem Bs.one {x : Int} (h : 0 ≤ x) (k : x ≤ 255) : Bs [x] := fun y hy => by simp at hy; subst hy; exact ⟨h, k⟩
theorem Bs.cons {x : Int} {l : List Int} (h : 0 ≤ x ∧ x ≤ 255) (k : Bs l) : Bs (x :: l) := fun y hy => by
  rcases List.mem_cons.1 hy with rfl | hy
  · exact h
  · exact k y hy
theorem Bs.append {l m : List Int} (h : Bs l) (k : Bs m) : Bs (l ++ m) := fun y hy => (List.mem_append.1 hy).elim (h y) (k y)
theorem Bs.take {l : List Int} (h : Bs l) (n : Nat) : Bs (l.take n) := fun y hy => h y (List.mem_of_mem_take hy)
theorem Bs.drop {l : List Int} (h : Bs l) (n : Nat) : Bs (l.drop n) := fun y hy => h y (List.mem_of_mem_drop hy)
theorem Bs.get {l : List Int} (h : Bs l) (k : Nat) : 0 ≤ l[k]?.getD 0 ∧ l[k]?.getD 0 ≤ 255 := by
  rcases Nat.lt_or_ge k l.length with hk | hk
  · rw [List.getElem?_eq_getElem hk]; exact h _ (List.getElem_mem hk)
  · rw [List.getElem?_eq_none hk]; exact ⟨by decide, by decide⟩

/-- The slice at A of length n, capacity c reads as the bytes l. -/
structure Byt (w : World) (A : Option Addr) (n c : Nat) (l : List Int) : Prop where
  len : l.length = n
  cap : n ≤ c
  mx : c ≤ 9223372036854775807
  nn : A = none → c = 0
  bs : Bs l
  cell : 0 < n → ∃ b o, A = some ⟨b, o, none⟩ ∧ b < w.heap.size ∧ ∀ i, i < n → w.cell? ⟨b, o + i, none⟩ = some (.int .u8 (l[i]?.getD 0))

section
variable {w w' : World} {A : Option Addr} {n c : Nat} {l : List Int}
theorem Byt.nil (w : World) : Byt w none 0 0 [] := ⟨rfl, Nat.le_refl _, by decide, fun _ => rfl, Bs.nil, fun h => absurd h (Nat.lt_irrefl _)⟩
theorem Byt.keep (h : Byt w A n c l) (hs : w.heap.size ≤ w'.heap.size) (hk : ∀ b o, b < w.heap.size → w'.cell? ⟨b, o, none⟩ = w.cell? ⟨b, o, none⟩) : Byt w' A n c l :=
  ⟨h.len, h.cap, h.mx, h.nn, h.bs, fun hn => by
    obtain ⟨b, o, e, hb, hc⟩ := h.cell hn
    exact ⟨b, o, e, by omega, fun i hi => (hk _ _ hb).trans (hc i hi)⟩⟩
theorem Byt.below (h : Byt w A n c l) (hb : Below w.heap.size w w') : Byt w' A n c l := h.keep hb.size fun _ _ k => hb.cell k
theorem Byt.drew (h : Byt w A n c l) : Byt w.drew A n c l := h.keep (Nat.le_refl _) fun _ _ _ => rfl
theorem Byt.alloc (h : Byt w A n c l) (o : Obj) : Byt (w.alloc o) A n c l := h.keep (by simp) fun b q hb => World.cell?_alloc_lt w o ⟨b, q, none⟩ hb
/-- A store into a block that is not the slice's own. -/
theorem Byt.far (h : Byt w A n c l) {p : Addr} (hp : ∀ b o, A = some ⟨b, o, none⟩ → b ≠ p.block) (v : Value) : Byt (w.setCell p v) A n c l :=
  ⟨h.len, h.cap, h.mx, h.nn, h.bs, fun hn => by
    obtain ⟨b, o, e, hb, hc⟩ := h.cell hn
    exact ⟨b, o, e, by simpa [World.setCell] using hb, fun i hi => (World.cell?_of_block (Below.heap_setCell w p v b (hp b o e))).trans (hc i hi)⟩⟩
theorem Byt.grown (h : Byt w A n c l) {row : Option Nat} (hg : w.grownBy w' row) (hr : ∀ b o, A = some ⟨b, o, none⟩ → some b ≠ row) : Byt w' A n c l :=
  ⟨h.len, h.cap, h.mx, h.nn, h.bs, fun hn => by
    obtain ⟨b, o, e, hb, hc⟩ := h.cell hn
    exact ⟨b, o, e, Nat.lt_of_lt_of_le hb hg.size, fun i hi => (World.cell?_of_block (hg.block b hb (hr b o e))).trans (hc i hi)⟩⟩
theorem Byt.at_ (h : Byt w A n c l) {k : Nat} (hk : k < n) : ∃ b o, A = some ⟨b, o, none⟩ ∧ b < w.heap.size ∧ w.cell? ⟨b, o + k, none⟩ = some (.int .u8 (l[k]?.getD 0)) := by
  obtain ⟨b, o, e, hb, hc⟩ := h.cell (by omega)
  exact ⟨b, o, e, hb, hc k hk⟩
end

/-- The value of the slice expression: from lo on, n long. -/
def cutA (A : Option Addr) (c lo : Nat) : Option Addr := if c = lo then A else A.map (·.add lo)
theorem Byt.cut {w : World} {A : Option Addr} {n c : Nat} {l : List Int} (h : Byt w A n c l) {lo hi : Nat} (h1 : lo ≤ hi) (h2 : hi ≤ n) : Byt w (cutA A c lo) (hi - lo) (c - lo) ((l.take hi).drop lo) := by
  have hl := h.len
  have hc := h.cap
  have hm := h.mx
  refine ⟨by rw [List.length_drop, List.length_take]; omega, by omega, by omega, fun e => ?_, (h.bs.take _).drop _, fun hn => ?_⟩
  · unfold cutA at e
    split at e
    · have := h.nn e; omega
    · have : A = none := by simpa using e
      have := h.nn this; omega
  · obtain ⟨b, o, rfl, hb, hcell⟩ := h.cell (by omega)
    refine ⟨b, o + lo, ?_, hb, fun i hi' => ?_⟩
    · unfold cutA
      rw [if_neg (by omega)]
      simp [Go.WideShapes.add_plain]
    · rw [Nat.add_assoc, hcell (lo + i) (by omega), List.getElem?_drop, List.getElem?_take, if_pos (by omega)]

theorem Byt.tail_all {w : World} {A : Option Addr} {n k : Nat} {l : List Int} (h : Byt w A n k l) (hk : k ≤ n) : Byt w A (n - k) 0 (l.drop k) := by
  have hc := h.cap
  have h1 := h.cut (lo := k) (hi := n) hk (Nat.le_refl _)
  unfold cutA at h1
  rw [if_pos rfl, List.take_of_length_le (by rw [h.len]; exact Nat.le_refl _), Nat.sub_self] at h1
  exact h1
theorem Byt.tail {w : World} {b o n c k : Nat} {l : List Int} (h : Byt w (some ⟨b, o, none⟩) n c l) (hk : k ≤ n) (hne : ¬ c = k) : Byt w (some ⟨b, o + k, none⟩) (n - k) (c - k) (l.drop k) := by
  have h1 := h.cut (lo := k) (hi := n) hk (Nat.le_refl _)
  unfold cutA at h1
  rw [if_neg hne, List.take_of_length_le (by rw [h.len]; exact Nat.le_refl _)] at h1
  simpa [Go.WideShapes.add_plain] using h1

/-- A slice of the call's own: nil, or at the head of a block from base on that is not frozen; it holds the bytes l. -/
def Mine (base : Nat) (w : World) (A : Option Addr) (n c : Nat) (l : List Int) : Prop :=
  w.ownsRow base 5 1 (.slice A n c) n (l.map (Value.int .u8)) ∧ Bs l

section
variable {base : Nat} {w w' : World} {A : Option Addr} {n c : Nat} {l : List Int}
theorem Mine.len (h : Mine base w A n c l) : l.length = n := by have := h.1.1; simpa using this
theorem Mine.nil (base : Nat) (w : World) : Mine base w none 0 0 [] := ⟨World.ownsRow_nil w base _ 1, Bs.nil⟩
theorem Mine.cases (h : Mine base w A n c l) : (A = none ∧ n = 0 ∧ c = 0) ∨ ∃ g, A = some ⟨g, 0, none⟩ ∧ base ≤ g ∧ g < w.heap.size ∧ n ≤ c ∧ c ≤ 9223372036854775807 ∧ (∀ j, j < n → w.cell? ⟨g, j, none⟩ = some (.int .u8 (l[j]?.getD 0))) ∧ ∀ j, w.frozen? ⟨g, j, none⟩ = false := by
  have hl := h.len
  rcases h.1.2 with ⟨e, rfl⟩ | ⟨g, cap, cur, e, hb, hg, hnc, hcm, hcs, htake⟩
  · simp at e
    exact .inl ⟨e.1, rfl, e.2⟩
  · simp at e
    obtain ⟨rfl, rfl⟩ := e
    refine .inr ⟨g, rfl, hb, (Array.getElem?_eq_some_iff.1 hg).1, hnc, by simpa [maxLen] using hcm, fun j hj => ?_, fun j => frozen_of_row w g j cur _ hg⟩
    rw [h.1.cellAt j (by omega)]
    rw [List.getElem?_map, List.getElem?_eq_getElem (by omega)]
    rfl
theorem Mine.byt (h : Mine base w A n c l) : Byt w A n c l := by
  have hl := h.len
  rcases h.cases with ⟨rfl, rfl, rfl⟩ | ⟨g, rfl, hb, hg, hnc, hcm, hcell, _⟩
  · exact ⟨hl, Nat.le_refl _, by decide, fun _ => rfl, h.2, fun k => absurd k (Nat.lt_irrefl _)⟩
  · exact ⟨hl, hnc, hcm, fun e => by simp at e, h.2, fun _ => ⟨g, 0, rfl, hg, fun i hi => by rw [Nat.zero_add]; exact hcell i hi⟩⟩
theorem Mine.keep (h : Mine base w A n c l) (hk : ∀ g, g < w.heap.size → A = some ⟨g, 0, none⟩ → w'.heap[g]? = w.heap[g]?) : Mine base w' A n c l := by
  refine ⟨⟨h.1.1, ?_⟩, h.2⟩
  rcases h.1.2 with h' | ⟨g, cap, cur, e, hb, hg, hr⟩
  · exact .inl h'
  · have e' : A = some ⟨g, 0, none⟩ := by simp at e; exact e.1
    exact .inr ⟨g, cap, cur, e, hb, (hk g (Array.getElem?_eq_some_iff.1 hg).1 e').trans hg, hr⟩
theorem Mine.below (h : Mine base w A n c l) (hb : Below w.heap.size w w') : Mine base w' A n c l := h.keep fun g hg _ => hb.block g hg
theorem Mine.alloc (h : Mine base w A n c l) (o : Obj) : Mine base (w.alloc o) A n c l := h.keep fun g hg _ => Below.heap_alloc w o g hg
theorem Mine.drew (h : Mine base w A n c l) : Mine base w.drew A n c l := h
theorem Mine.far (h : Mine base w A n c l) {p : Addr} (hp : ∀ g, A = some ⟨g, 0, none⟩ → g ≠ p.block) (v : Value) : Mine base (w.setCell p v) A n c l :=
  h.keep fun g _ e => Below.heap_setCell w p v g (hp g e)
theorem Mine.grown (h : Mine base w A n c l) {row : Option Nat} (hg : w.grownBy w' row) (hr : ∀ g, A = some ⟨g, 0, none⟩ → some g ≠ row) : Mine base w' A n c l :=
  h.keep fun g hb e => hg.block g hb (hr g e)
theorem Mine.base_le (h : Mine base w A n c l) {b : Nat} (hb : b ≤ base) : Mine b w A n c l := by
  refine ⟨⟨h.1.1, ?_⟩, h.2⟩
  rcases h.1.2 with h' | ⟨g, cap, cur, e, hg, hr⟩
  · exact .inl h'
  · exact .inr ⟨g, cap, cur, e, by omega, hr⟩
/-- A block that was laid just now, of the bytes l. -/
theorem Mine.lit (w : World) (l : List Int) (hb : base ≤ w.heap.size) (hs : Bs l) (hl : l.length ≤ 65536) (n : Nat) (hn : n = l.length) : Mine base (w.alloc (.cells (l.map (Value.int .u8)).toArray 5)) (some ⟨w.heap.size, 0, none⟩) n n l := by
  subst hn
  have := World.ownsRow_lit (base := base) (e := 5) (size := 1) w (l.map (Value.int .u8)).toArray l.length hb (by simp [maxLen]; omega) (by simp)
  exact ⟨by simpa using this, hs⟩
end

theorem info8 : (Try.prog.info? 5).map (fun i => (i.zero, i.size, i.bytes)) = some (some (.int .u8 0), 1, 1) := by kernel_rfl

/-- append(v, u...): v of the call's own, u whatever slice. -/
theorem wpList_app (w : World) {ops : Array Oper} {rest : List Oper} {o : Oper} {a : Act} {Q : Exit → Act → World → Prop} (hgd : o.guard = none) (s x : Operand)
    (ho : o.op = .call { callee := .builtin .append, args := #[s, x], argTypes := #[22, 22] })
    (base : Nat) (A : Option Addr) (n c : Nat) (l : List Int) (hs : a.eval s = .slice A n c) (hown : Mine base w A n c l)
    (B : Option Addr) (m d : Nat) (l' : List Int) (hx : a.eval x = .slice B m d) (hr : Byt w B m d l')
    (hlen : l.length + l'.length ≤ 140737488355328) (hbase : base ≤ w.heap.size)
    (h : ∀ A' c' w', Mine base w' A' (n + m) c' (l ++ l') → Below base w w' → w.grownBy w' (Value.slice A n c).ownBlock → ((Value.slice A' (n + m) c').ownBlock = (Value.slice A n c).ownBlock ∨ (Value.slice A' (n + m) c').ownBlock = some w.heap.size) → wpList Try.prog ops Q rest (a.put o.dst (.slice A' (n + m) c')) w') : wpList Try.prog ops Q (o :: rest) a w := by
  obtain ⟨i0, hi, hz0, hz1, hz2⟩ := info_parts info8
  have hl := hown.len
  have hl' := hr.len
  have hbel : ∀ w', w.grownBy w' (Value.slice A n c).ownBlock → Below base w w' := fun w' hg => by
    refine (Below.refl _ _).grown hg hbase fun k hk => ?_
    exact (hown.1.lt k hk).1
  by_cases h0 : m = 0
  · subst h0
    have hn' : l' = [] := List.eq_nil_of_length_eq_zero hl'
    subst hn'
    refine wpList_plain hgd fun K hK => ?_
    have hrun : (Builtin.append_ #[22, 22] o.type #[.slice A n c, .slice B 0 d]).run Try.prog w = .ok (.slice A n c) w := by
      have hls : ∀ ad, (loadCells ad 0).run Try.prog w = .ok #[] w := fun ad => by simp [loadCells, loadCellsFrom]
      rcases hown.1.2 with ⟨e, _⟩ | ⟨g, cap, cur, e, _, _, hnc, _⟩
      · simp at e
        obtain ⟨rfl, rfl, rfl⟩ := e
        cases B <;> simp [Builtin.append_, run_underlying Try.underlying22, sizeOf, typeInfo, hi, Builtin.lenOf, Builtin.firstCells, hls]
      · simp at e
        obtain ⟨rfl, rfl⟩ := e
        cases B <;> simp [Builtin.append_, run_underlying Try.underlying22, sizeOf, typeInfo, hi, Builtin.lenOf, Builtin.firstCells, hnc, storeCells, hls]
    unfold Oper.wp execOp
    simp only [ho, resolve, invoke, builtin, Sem.run_bind, Sem.run_pure, Result.andThen_ok, List.map_toArray, List.map_cons, List.map_nil, hs, hx, hrun]
    exact hK _ _ (h A c w (by simpa using hown) (Below.refl _ _) (World.grownBy.refl w _) (.inl rfl))
  · obtain ⟨b, off, rfl, hb, hcell⟩ := hr.cell (by omega)
    refine wpList_append_own_at w hgd s x 22 ho base 5 i0 (.int .u8 0) 1 1 Try.underlying22 hi hz0 hz1 hz2 rfl (by omega) (.slice A n c) n (l.map (Value.int .u8)) hs hown.1
      ⟨b, off, none⟩ m d (l'.map (Value.int .u8)) hx (by simpa using hl') (fun j u hu => ?_) (fun u hu => ?_) (by simp only [maxLen]; omega) (by omega) hbase ?_
    · have hj : j < m := by have := (List.getElem?_eq_some_iff.1 hu).1; simp at this; omega
      rw [Go.WideShapes.add_plain, hcell j hj, ← hu, List.getElem?_map, List.getElem?_eq_getElem (by omega)]
      rfl
    · obtain ⟨y, _, rfl⟩ := List.mem_map.1 hu
      rfl
    · intro v' w' hown' hgrow _ hat
      rcases hown'.2 with ⟨e, he⟩ | ⟨g, cap, cur, e, hr'⟩
      · omega
      · subst e
        exact h _ _ _ ⟨by rw [List.map_append]; exact hown', hown.2.append hr.bs⟩ (hbel _ hgrow) hgrow hat

/-- append(v, y): v of the call's own. -/
theorem wpList_app1 (W : World) {ops : Array Oper} {rest : List Oper} {o : Oper} {a : Act} {Q : Exit → Act → World → Prop} (hgd : o.guard = none) (s x : Operand)
    (ho : o.op = .call { callee := .builtin .append, args := #[s, x], argTypes := #[22, 22] })
    (base : Nat) (A : Option Addr) (n c : Nat) (l : List Int) (hs : a.eval s = .slice A n c) (hown : Mine base W A n c l) (y : Int) {g0 : Nat} (hx : a.eval x = .slice (some ⟨g0, 0, none⟩) 1 1) (hg0 : W.heap.size = g0)
    (hy : 0 ≤ y ∧ y ≤ 255) (hlen : n + 1 ≤ 140737488355328) (hbase : base ≤ W.heap.size)
    (h : ∀ A' c' w', Mine base w' A' (n + 1) c' (l ++ [y]) → Below base W w' → (W.alloc (.cells #[.int .u8 y] 5)).grownBy w' (Value.slice A n c).ownBlock → wpList Try.prog ops Q rest (a.put o.dst (.slice A' (n + 1) c')) w') :
    wpList Try.prog ops Q (o :: rest) a (W.alloc (.cells #[.int .u8 y] 5)) := by
  subst hg0
  have hl := hown.len
  refine wpList_app _ hgd s x ho base A n c l hs (hown.alloc _) (some ⟨W.heap.size, 0, none⟩) 1 1 [y] hx (Mine.lit (base := 0) W [y] (Nat.zero_le _) (Bs.one hy.1 hy.2) (by simp) 1 rfl).byt (by simp; omega) (by simp; omega) ?_
  intro A' c' w' h1 h2 h3 _
  exact h A' c' w' h1 (((Below.refl base W).alloc hbase _).trans h2) h3

/-- Whatever lay in W lies as it lay. -/
structure Bel (W w : World) : Prop where
  out : Below W.heap.size W w
theorem Bel.refl (W : World) : Bel W W := ⟨Below.refl _ _⟩
theorem Bel.step {W wa wb : World} (h : Bel W wa) (k : Below wa.heap.size wa wb) : Bel W wb := ⟨h.out.trans (k.mono h.out.size)⟩
theorem Bel.alloc {W wa : World} (h : Bel W wa) (o : Obj) : Bel W (wa.alloc o) := ⟨h.out.alloc h.out.size o⟩
theorem lit1 {w : World} {g : Nat} {x1 : Int} (hg : w.heap.size = g) (h : Bs [x1]) : Byt (w.alloc (.cells #[.int .u8 x1] 5)) (some ⟨g, 0, none⟩) 1 1 [x1] := by
  subst hg
  exact (Mine.lit (base := 0) w _ (Nat.zero_le _) h (by simp) 1 rfl).byt
theorem lit2 {w : World} {g : Nat} {x1 x2 : Int} (hg : w.heap.size = g) (h : Bs [x1, x2]) : Byt (w.alloc (.cells #[.int .u8 x1, .int .u8 x2] 5)) (some ⟨g, 0, none⟩) 2 2 [x1, x2] := by
  subst hg
  exact (Mine.lit (base := 0) w _ (Nat.zero_le _) h (by simp) 2 rfl).byt
theorem lit3 {w : World} {g : Nat} {x1 x2 x3 : Int} (hg : w.heap.size = g) (h : Bs [x1, x2, x3]) : Byt (w.alloc (.cells #[.int .u8 x1, .int .u8 x2, .int .u8 x3] 5)) (some ⟨g, 0, none⟩) 3 3 [x1, x2, x3] := by
  subst hg
  exact (Mine.lit (base := 0) w _ (Nat.zero_le _) h (by simp) 3 rfl).byt
theorem lit4 {w : World} {g : Nat} {x1 x2 x3 x4 : Int} (hg : w.heap.size = g) (h : Bs [x1, x2, x3, x4]) : Byt (w.alloc (.cells #[.int .u8 x1, .int .u8 x2, .int .u8 x3, .int .u8 x4] 5)) (some ⟨g, 0, none⟩) 4 4 [x1, x2, x3, x4] := by
  subst hg
  exact (Mine.lit (base := 0) w _ (Nat.zero_le _) h (by simp) 4 rfl).byt
theorem lit5 {w : World} {g : Nat} {x1 x2 x3 x4 x5 : Int} (hg : w.heap.size = g) (h : Bs [x1, x2, x3, x4, x5]) : Byt (w.alloc (.cells #[.int .u8 x1, .int .u8 x2, .int .u8 x3, .int .u8 x4, .int .u8 x5] 5)) (some ⟨g, 0, none⟩) 5 5 [x1, x2, x3, x4, x5] := by
  subst hg
  exact (Mine.lit (base := 0) w _ (Nat.zero_le _) h (by simp) 5 rfl).byt
theorem lit6 {w : World} {g : Nat} {x1 x2 x3 x4 x5 x6 : Int} (hg : w.heap.size = g) (h : Bs [x1, x2, x3, x4, x5, x6]) : Byt (w.alloc (.cells #[.int .u8 x1, .int .u8 x2, .int .u8 x3, .int .u8 x4, .int .u8 x5, .int .u8 x6] 5)) (some ⟨g, 0, none⟩) 6 6 [x1, x2, x3, x4, x5, x6] := by
  subst hg
  exact (Mine.lit (base := 0) w _ (Nat.zero_le _) h (by simp) 6 rfl).byt
theorem lit7 {w : World} {g : Nat} {x1 x2 x3 x4 x5 x6 x7 : Int} (hg : w.heap.size = g) (h : Bs [x1, x2, x3, x4, x5, x6, x7]) : Byt (w.alloc (.cells #[.int .u8 x1, .int .u8 x2, .int .u8 x3, .int .u8 x4, .int .u8 x5, .int .u8 x6, .int .u8 x7] 5)) (some ⟨g, 0, none⟩) 7 7 [x1, x2, x3, x4, x5, x6, x7] := by
  subst hg
  exact (Mine.lit (base := 0) w _ (Nat.zero_le _) h (by simp) 7 rfl).byt
theorem lit8 {w : World} {g : Nat} {x1 x2 x3 x4 x5 x6 x7 x8 : Int} (hg : w.heap.size = g) (h : Bs [x1, x2, x3, x4, x5, x6, x7, x8]) : Byt (w.alloc (.cells #[.int .u8 x1, .int .u8 x2, .int .u8 x3, .int .u8 x4, .int .u8 x5, .int .u8 x6, .int .u8 x7, .int .u8 x8] 5)) (some ⟨g, 0, none⟩) 8 8 [x1, x2, x3, x4, x5, x6, x7, x8] := by
  subst hg
  exact (Mine.lit (base := 0) w _ (Nat.zero_le _) h (by simp) 8 rfl).byt
theorem lit0 {w : World} {g : Nat} (hg : w.heap.size = g) : Byt (w.alloc (.cells #[] 5)) (some ⟨g, 0, none⟩) 0 0 [] := by
  subst hg
  exact (Mine.lit (base := 0) w _ (Nat.zero_le _) Bs.nil (by simp) 0 rfl).byt
end Go.Proofs.Ythcnfalfhdeflaa
