/- Words for slices of pieces: one that is read, one that the call owns; append to it. -/
import Derived.Test.YthcnfalfhdeflaaCa
import Derived.Test.YthcnfalfhdeflaaR
import Derived.Test.YthcnfalfhdeflaaA
namespace Go.Proofs.Ythcnfalfhdeflaa
open Go.RowKit Go.ChangeShapes Go.WideShapes
set_option linter.unusedVariables false

/-- A frame: its head, its payload. -/
structure Pc where
  L : Int
  k : Int
  f : Int
  s : Int
  d : List Int
deriving DecidableEq
structure PcOk (p : Pc) : Prop where
  L : 0 ≤ p.L ∧ p.L < 16777216
  k : 0 ≤ p.k ∧ p.k ≤ 255
  f : 0 ≤ p.f ∧ p.f ≤ 255
  s : 0 ≤ p.s ∧ p.s < 2147483648
  d : Bs p.d
/-- A piece as it lies: where its payload is. -/
structure Pe where
  p : Pc
  A : Option Addr
  c : Nat
def peV (e : Pe) : List Value := [.int .i64 e.p.L, .int .u8 e.p.k, .int .u8 e.p.f, .int .i64 e.p.s, .slice e.A e.p.d.length e.c]
def pecells (l : List Pe) : List Value := l.flatMap peV
theorem pecells_len (l : List Pe) : (pecells l).length = l.length * 5 := by
  induction l with
  | nil => rfl
  | cons x r ih => simp only [pecells, List.flatMap_cons, List.length_append, List.length_cons, peV, List.length_nil] at ih ⊢; omega
theorem pecells_app (l m : List Pe) : pecells (l ++ m) = pecells l ++ pecells m := by simp [pecells]
theorem pecells_at (l : List Pe) : ∀ i (e : Pe), l[i]? = some e → ∀ j v, (peV e)[j]? = some v → (pecells l)[i * 5 + j]? = some v := by
  induction l with
  | nil => intro i e h; simp at h
  | cons x r ih =>
    intro i e h j v hv
    have hj : j < 5 := by have := (List.getElem?_eq_some_iff.1 hv).1; simpa [peV] using this
    have e0 : pecells (x :: r) = peV x ++ pecells r := by simp [pecells]
    rw [e0]
    rcases i with _ | i
    · simp at h
      subst h
      rw [List.getElem?_append_left (by simp [peV]; omega)]
      simpa using hv
    · have hl : (peV x).length = 5 := rfl
      rw [List.getElem?_append_right (by rw [hl]; omega), hl, show (i + 1) * 5 + j - 5 = i * 5 + j by omega]
      exact ih i e (by simpa using h) j v hv

/-- The slice at A of length n reads as the pieces l. -/
structure Pcs (w : World) (A : Option Addr) (n c : Nat) (l : List Pe) : Prop where
  len : l.length = n
  cap : n ≤ c
  mx : c ≤ 9223372036854775807
  cell : 0 < n → ∃ b o, A = some ⟨b, o, none⟩ ∧ b < w.heap.size ∧ ∀ i e, l[i]? = some e → ∀ j v, (peV e)[j]? = some v → w.cell? ⟨b, o + i * 5 + j, none⟩ = some v
  byt : ∀ e ∈ l, PcOk e.p ∧ Byt w e.A e.p.d.length e.c e.p.d
section
variable {w w' : World} {A : Option Addr} {n c : Nat} {l : List Pe}
theorem Pcs.below (h : Pcs w A n c l) (hb : Below w.heap.size w w') : Pcs w' A n c l :=
  ⟨h.len, h.cap, h.mx, fun hn => by
    obtain ⟨b, o, e, hs, hc⟩ := h.cell hn
    exact ⟨b, o, e, Nat.lt_of_lt_of_le hs hb.size, fun i e he j v hv => (hb.cell (p := ⟨b, o + i * 5 + j, none⟩) hs).trans (hc i e he j v hv)⟩, fun e he => ⟨(h.byt e he).1, (h.byt e he).2.below hb⟩⟩
end

/-- A slice of the call's own. -/
def MineC (base : Nat) (w : World) (A : Option Addr) (n c : Nat) (l : List Pe) : Prop :=
  w.ownsRow base 43 5 (.slice A n c) n (pecells l) ∧ ∀ e ∈ l, PcOk e.p ∧ Mine base w e.A e.p.d.length e.c e.p.d
section
variable {base : Nat} {w w' : World} {A : Option Addr} {n c : Nat} {l : List Pe}
theorem MineC.len (h : MineC base w A n c l) : l.length = n := by have := h.1.1; rw [pecells_len] at this; omega
theorem MineC.nil (base : Nat) (w : World) : MineC base w none 0 0 [] := ⟨World.ownsRow_nil w base _ 5, fun _ h => by cases h⟩
theorem MineC.keep (h : MineC base w A n c l) (hk : ∀ g, g < w.heap.size → A = some ⟨g, 0, none⟩ → w'.heap[g]? = w.heap[g]?) (hp : ∀ e ∈ l, Mine base w' e.A e.p.d.length e.c e.p.d) : MineC base w' A n c l := by
  refine ⟨⟨h.1.1, ?_⟩, fun e he => ⟨(h.2 e he).1, hp e he⟩⟩
  rcases h.1.2 with h' | ⟨g, cap, cur, e, hb, hg, hr⟩
  · exact .inl h'
  · have e' : A = some ⟨g, 0, none⟩ := by simp at e; exact e.1
    exact .inr ⟨g, cap, cur, e, hb, (hk g (Array.getElem?_eq_some_iff.1 hg).1 e').trans hg, hr⟩
theorem MineC.below (h : MineC base w A n c l) (hb : Below w.heap.size w w') : MineC base w' A n c l := h.keep (fun g hg _ => hb.block g hg) (fun e he => (h.2 e he).2.below hb)
theorem MineC.alloc (h : MineC base w A n c l) (o : Obj) : MineC base (w.alloc o) A n c l := h.below ((Below.refl _ w).alloc (Nat.le_refl _) o)
theorem MineC.drew (h : MineC base w A n c l) : MineC base w.drew A n c l := h.below (drew_below _ _)
theorem MineC.base_le (h : MineC base w A n c l) {b : Nat} (hb : b ≤ base) : MineC b w A n c l := by
  refine ⟨⟨h.1.1, ?_⟩, fun e he => ⟨(h.2 e he).1, (h.2 e he).2.base_le hb⟩⟩
  rcases h.1.2 with h' | ⟨g, cap, cur, e, hg, hr⟩
  · exact .inl h'
  · exact .inr ⟨g, cap, cur, e, by omega, hr⟩
theorem MineC.lt (h : MineC base w A n c l) (g : Nat) (e : A = some ⟨g, 0, none⟩) : base ≤ g ∧ g < w.heap.size := by
  subst e
  exact h.1.lt g rfl
/-- The row's block is one of pieces. -/
theorem MineC.row {g : Nat} (h : MineC base w (some ⟨g, 0, none⟩) n c l) : ∃ cur, w.heap[g]? = some (.cells cur 43 (0, 0)) := by
  rcases h.1.2 with ⟨e, _⟩ | ⟨g', cap, cur, e, hb, hg, _⟩
  · simp at e
  · simp at e
    obtain ⟨rfl, _⟩ := e
    exact ⟨_, hg⟩
/-- A block of another type is written. -/
theorem MineC.grownB {g : Nat} {t : TypeId} {cs : Array Value} (h : MineC base w A n c l) (q : Blk w g t cs) (ht : t ≠ 43) (ht' : t ≠ 5) (hg : w.grownBy w' (some g)) : MineC base w' A n c l :=
  h.keep (fun k hk e => hg.block k hk (fun e' => by
    subst e
    obtain ⟨cur, hc⟩ := h.row
    simp at e'
    subst e'
    rw [show w.heap[k]? = _ from q] at hc
    simp at hc
    exact ht hc.2)) (fun e he => (h.2 e he).2.grownB q ht' hg)
theorem MineC.pcs (h : MineC base w A n c l) : Pcs w A n c l := by
  have hl := h.len
  rcases h.1.2 with ⟨e, h0⟩ | ⟨g, cap, cur, e, hb, hg, hnc, hcm, hcs, htake⟩
  · simp at e
    obtain ⟨rfl, _, rfl⟩ := e
    subst h0
    exact ⟨hl, Nat.le_refl _, by decide, fun k => absurd k (Nat.lt_irrefl _), fun e he => ⟨(h.2 e he).1, (h.2 e he).2.byt⟩⟩
  · simp at e
    obtain ⟨rfl, rfl⟩ := e
    refine ⟨hl, hnc, by simpa [maxLen] using hcm, fun _ => ⟨g, 0, rfl, (Array.getElem?_eq_some_iff.1 hg).1, fun i e he j v hv => ?_⟩, fun e he => ⟨(h.2 e he).1, (h.2 e he).2.byt⟩⟩
    have hc := h.1.cells (g := g) rfl
    have c1 := hc (i * 5 + j) _ (pecells_at l i e he j v hv)
    rw [add_plain] at c1
    rw [Nat.zero_add] at c1 ⊢
    exact c1
end

theorem infoC : (Try.prog.info? 43).map (fun i => (i.zero, i.size, i.bytes)) = some (some (.agg #[.int .i64 0, .int .u8 0, .int .u8 0, .int .i64 0, .slice none 0 0]), 5, 48) := by kernel_rfl

theorem MineC.far {base : Nat} {w w' : World} {A : Option Addr} {n c : Nat} {l : List Pe} (h : MineC base w A n c l) {b : Nat} {A' : Option Addr} {n' c' : Nat} {d : List Int} (hm : Mine b w A' n' c' d) (hg : w.grownBy w' (Value.slice A n c).ownBlock) : Mine b w' A' n' c' d :=
  hm.grown hg (fun g' e e' => by
    rcases A with _ | ⟨g, o, sp⟩
    · simp [Value.ownBlock] at e'
    · rcases h.1.2 with ⟨e0, _⟩ | ⟨g1, cap, cur, e0, _, hg1, _⟩
      · simp at e0
      · simp at e0
        obtain ⟨⟨rfl, rfl, rfl⟩, _⟩ := e0
        simp [Value.ownBlock] at e'
        exact Blk.not_row (W := w) (b := g) (t := 43) (cs := cur) hg1 (by decide) hm g' e e')
theorem pe_one (l : List Pe) : ∀ u ∈ pecells l, u.oneCell' = true := fun u hu => by
  obtain ⟨e, _, he⟩ := List.mem_flatMap.1 hu
  simp [peV] at he
  rcases he with rfl | rfl | rfl | rfl | rfl <;> rfl

/-- append as one run. -/
theorem run_appC (w : World) (ty : TypeId) (base : Nat) (A : Option Addr) (n c : Nat) (l : List Pe) (hown : MineC base w A n c l) (B : Option Addr) (m d : Nat) (l' : List Pe) (hr : Pcs w B m d l') (hm : ∀ e ∈ l', Mine base w e.A e.p.d.length e.c e.p.d)
    (hlen : l.length + l'.length ≤ 1000000) (hbase : base ≤ w.heap.size) :
    ∃ A' c' w', (Builtin.append_ #[28, 28] ty #[.slice A n c, .slice B m d]).run Try.prog w = .ok (.slice A' (n + m) c') w' ∧ MineC base w' A' (n + m) c' (l ++ l') ∧ Below base w w' ∧ w.grownBy w' (Value.slice A n c).ownBlock ∧ ((Value.slice A' (n + m) c').ownBlock = (Value.slice A n c).ownBlock ∨ (Value.slice A' (n + m) c').ownBlock = some w.heap.size) := by
  obtain ⟨i0, hi, hz0, hz1, hz2⟩ := info_parts infoC
  have hl := hown.len
  have hl' := hr.len
  by_cases h0 : m = 0
  · subst h0
    have hn' : l' = [] := List.eq_nil_of_length_eq_zero hl'
    subst hn'
    refine ⟨A, c, w, ?_, by simpa using hown, Below.refl _ _, World.grownBy.refl w _, .inl rfl⟩
    have hls : ∀ ad, (loadCells ad 0).run Try.prog w = .ok #[] w := fun ad => by simp [loadCells, loadCellsFrom]
    rcases hown.1.2 with ⟨e, _⟩ | ⟨g, cap, cur, e, _, _, hnc, _⟩
    · simp at e
      obtain ⟨rfl, rfl, rfl⟩ := e
      cases B <;> simp [Builtin.append_, run_underlying Try.underlying28, sizeOf, typeInfo, hi, Builtin.lenOf, Builtin.firstCells, hls]
    · simp at e
      obtain ⟨rfl, rfl⟩ := e
      cases B <;> simp [Builtin.append_, run_underlying Try.underlying28, sizeOf, typeInfo, hi, Builtin.lenOf, Builtin.firstCells, hnc, storeCells, hls]
  · obtain ⟨b, off, rfl, hb, hcell⟩ := hr.cell (by omega)
    obtain ⟨v', w', hrun, hown', hgrow, hz, hat⟩ := run_append_own_at (P := Try.prog) w base 28 ty 43 i0 (.agg #[.int .i64 0, .int .u8 0, .int .u8 0, .int .i64 0, .slice none 0 0]) 5 48 Try.underlying28 hi hz0 hz1 hz2 rfl (by omega) (.slice A n c) n (pecells l) hown.1
      ⟨b, off, none⟩ m d (pecells l') (by rw [pecells_len]; omega) (fun j u hu => by
        have hj : j < m * 5 := by have := (List.getElem?_eq_some_iff.1 hu).1; rw [pecells_len] at this; omega
        have hi5 : j / 5 < l'.length := by omega
        obtain ⟨e, he⟩ : ∃ e, l'[j / 5]? = some e := ⟨l'[j / 5], List.getElem?_eq_getElem hi5⟩
        have hv : ∃ v, (peV e)[j % 5]? = some v := ⟨(peV e)[j % 5]'(by simp [peV]; omega), List.getElem?_eq_getElem _⟩
        obtain ⟨v, hv⟩ := hv
        have h1 := pecells_at l' (j / 5) e he (j % 5) v hv
        rw [show j / 5 * 5 + j % 5 = j by omega] at h1
        rw [Go.WideShapes.add_plain]
        have h2 := hcell (j / 5) e he (j % 5) v hv
        rw [show off + j / 5 * 5 + j % 5 = off + j by omega] at h2
        rw [h2, ← hu, h1]) (pe_one l') (by simp only [maxLen]; omega) (by omega) hbase
    rcases hown'.2 with ⟨e, he⟩ | ⟨g, cap, cur, e, hr'⟩
    · omega
    · subst e
      refine ⟨_, cap, w', hrun, ⟨by rw [pecells_app]; exact hown', fun e he => ?_⟩, (Below.refl _ _).grown hgrow hbase fun k hk => (hown.1.lt k hk).1, hgrow, hat⟩
      rcases List.mem_append.1 he with he | he
      · exact ⟨(hown.2 e he).1, hown.far (hown.2 e he).2 hgrow⟩
      · exact ⟨(hr.byt e he).1, hown.far (hm e he) hgrow⟩
/-- append(v, u...) at an operation of whatever guard that is asked. -/
theorem wpList_appC (w : World) {ops : Array Oper} {rest : List Oper} {o : Oper} {a : Act} {Q : Exit → Act → World → Prop} (hw : Region.wanted o (yielded ops a.tmps) = true) (s x : Operand)
    (ho : o.op = .call { callee := .builtin .append, args := #[s, x], argTypes := #[28, 28] })
    (base : Nat) (A : Option Addr) (n c : Nat) (l : List Pe) (hs : a.eval s = .slice A n c) (hown : MineC base w A n c l)
    (B : Option Addr) (m d : Nat) (l' : List Pe) (hx : a.eval x = .slice B m d) (hr : Pcs w B m d l') (hm : ∀ e ∈ l', Mine base w e.A e.p.d.length e.c e.p.d)
    (hlen : l.length + l'.length ≤ 1000000) (hbase : base ≤ w.heap.size)
    (h : ∀ A' c' w', MineC base w' A' (n + m) c' (l ++ l') → Below base w w' → w.grownBy w' (Value.slice A n c).ownBlock → wpList Try.prog ops Q rest (a.put o.dst (.slice A' (n + m) c')) w') : wpList Try.prog ops Q (o :: rest) a w := by
  refine wpList_step fun K hK => ?_
  rw [if_pos hw]
  obtain ⟨A', c', w', hrun, h1, h2, h3, _⟩ := run_appC w o.type base A n c l hown B m d l' hr hm hlen hbase
  unfold Oper.wp execOp
  simp only [ho, resolve, invoke, builtin, Sem.run_bind, Sem.run_pure, Result.andThen_ok, List.map_toArray, List.map_cons, List.map_nil, hs, hx, hrun]
  exact hK _ _ (h A' c' w' h1 h2 h3)
/-- A piece that was laid just now. -/
theorem Pcs.lit (w : World) (e : Pe) (ok : PcOk e.p) (hb : Byt w e.A e.p.d.length e.c e.p.d) : Pcs (w.alloc (.cells (peV e).toArray 43)) (some ⟨w.heap.size, 0, none⟩) 1 1 [e] := by
  refine ⟨rfl, Nat.le_refl _, by decide, fun _ => ⟨_, 0, rfl, by simp, fun i e' he j v hv => ?_⟩, fun e' he => ?_⟩
  · rcases i with _ | i
    · simp at he
      subst he
      have := (Blk.new w 43 (peV e).toArray).at j (v := v) (by simpa using hv)
      simpa using this
    · simp at he
  · simp at he
    subst he
    exact ⟨ok, hb.alloc _⟩
/-- append(v, p) within a fence: v of the call's own. -/
theorem wpListIn_appC {F : Fence} {nF : Nat} (W : World) {ops : Array Oper} {rest : List Oper} {o : Oper} {a : Act} {Q : Exit → Act → World → Prop} (hgd : o.guard = none) (s x : Operand)
    (ho : o.op = .call { callee := .builtin .append, args := #[s, x], argTypes := #[28, 28] })
    (base : Nat) (A : Option Addr) (n c : Nat) (l : List Pe) (hs : a.eval s = .slice A n c) (hown : MineC base W A n c l) (e : Pe) {g0 : Nat} (hx : a.eval x = .slice (some ⟨g0, 0, none⟩) 1 1) (hg0 : W.heap.size = g0)
    (ok : PcOk e.p) (hm : Mine base W e.A e.p.d.length e.c e.p.d) (hlen : n + 1 ≤ 1000000) (hbase : base ≤ W.heap.size)
    (h : ∀ A' c' w', MineC base w' A' (n + 1) c' (l ++ [e]) → Below base W w' → (W.alloc (.cells (peV e).toArray 43)).grownBy w' (Value.slice A n c).ownBlock → wpListIn F nF Try.prog ops Q rest (a.put o.dst (.slice A' (n + 1) c')) w') :
    wpListIn F nF Try.prog ops Q (o :: rest) a (W.alloc (.cells (peV e).toArray 43)) := by
  subst hg0
  have hl := hown.len
  obtain ⟨A', c', w', hrun, h1, h2, h3, _⟩ := run_appC _ o.type base A n c l (hown.alloc _) (some ⟨W.heap.size, 0, none⟩) 1 1 [e] (Pcs.lit W e ok hm.byt) (fun e' he => by simp at he; subst he; exact hm.alloc _) (by simp; omega) (by simp; omega)
  refine wpListIn_plain hgd fun K hK => ?_
  unfold Oper.wpIn
  refine ⟨by simp [Oper.about, ho, resolve, Target.leads, Sem.run_pure], ?_⟩
  rw [Oper.semAt_plain F _ _ (by rw [ho]; intro c hc'; cases hc')]
  simp [execOp, ho, resolve, invoke, builtin, hs, hx, hrun, Result.andThen]
  exact hK _ _ (h A' c' w' h1 (((Below.refl base W).alloc hbase _).trans h2) h3)
end Go.Proofs.Ythcnfalfhdeflaa
