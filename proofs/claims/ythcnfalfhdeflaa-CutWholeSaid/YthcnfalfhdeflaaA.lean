/- append([]byte, ..) of bytes that are made empty just now: a copy. -/
import Derived.Test.YthcnfalfhdeflaaBf
import Derived.Deep.RegionHeld3
namespace Go.Proofs.Ythcnfalfhdeflaa
open Go.RowKit Go.ChangeShapes Go.WideShapes

/-- append([]byte (of none), u...). -/
theorem wpList_copy (W : World) {ops : Array Oper} {rest : List Oper} {o : Oper} {a : Act} {Q : Exit → Act → World → Prop} (hgd : o.guard = none) (s x : Operand)
    (ho : o.op = .call { callee := .builtin .append, args := #[s, x], argTypes := #[22, 22] })
    {g0 : Nat} (hs : a.eval s = .slice (some ⟨g0, 0, none⟩) 0 0) (hg0 : W.heap.size = g0)
    (B : Option Addr) (m d : Nat) (l' : List Int) (hx : a.eval x = .slice B m d) (hr : Byt W B m d l') (hlen : m ≤ 140737488355328)
    (h : ∀ A' c' w', Mine W.heap.size w' A' m c' l' → Below W.heap.size W w' → wpList Try.prog ops Q rest (a.put o.dst (.slice A' m c')) w') : wpList Try.prog ops Q (o :: rest) a (W.alloc (.cells #[] 5)) := by
  subst hg0
  have hl' := hr.len
  refine wpList_app _ hgd s x ho W.heap.size (some ⟨W.heap.size, 0, none⟩) 0 0 [] hs (by exact Mine.lit W [] (Nat.le_refl _) Bs.nil (by simp) 0 rfl) B m d l' hx (hr.alloc _) (by simp; omega) (by simp) ?_
  intro A' c' w' h1 h2 _ _
  rw [Nat.zero_add] at h1 ⊢
  exact h A' c' w' (by simpa using h1) (((Below.refl _ _).alloc (Nat.le_refl _) _).trans h2)

/-- append as one run. -/
theorem run_app (w : World) (ty : TypeId) (base : Nat) (A : Option Addr) (n c : Nat) (l : List Int) (hown : Mine base w A n c l) (B : Option Addr) (m d : Nat) (l' : List Int) (hr : Byt w B m d l')
    (hlen : l.length + l'.length ≤ 140737488355328) (hbase : base ≤ w.heap.size) :
    ∃ A' c' w', (Builtin.append_ #[22, 22] ty #[.slice A n c, .slice B m d]).run Try.prog w = .ok (.slice A' (n + m) c') w' ∧ Mine base w' A' (n + m) c' (l ++ l') ∧ Below base w w' ∧ w.grownBy w' (Value.slice A n c).ownBlock ∧ (A' = A ∨ ∃ g, A' = some ⟨g, 0, none⟩ ∧ w.heap.size ≤ g) := by
  obtain ⟨i0, hi, hz0, hz1, hz2⟩ := info_parts info8
  have hl := hown.len
  have hl' := hr.len
  by_cases h0 : m = 0
  · subst h0
    have hn' : l' = [] := List.eq_nil_of_length_eq_zero hl'
    subst hn'
    refine ⟨A, c, w, ?_, by simpa using hown, Below.refl _ _, World.grownBy.refl w _, .inl rfl⟩
    have hls : ∀ ad, (loadCells ad 0).run Try.prog w = .ok #[] w := fun ad => by simp [loadCells, loadCellsFrom]
    rcases hown.1.2 with ⟨e, _⟩ | ⟨g, cap, cur, e, _, _, hnc, _⟩
    · simp at e
      obtain ⟨rfl, rfl, rfl⟩ := e
      cases B <;> simp [Builtin.append_, run_underlying Try.underlying22, sizeOf, typeInfo, hi, Builtin.lenOf, Builtin.firstCells, hls]
    · simp at e
      obtain ⟨rfl, rfl⟩ := e
      cases B <;> simp [Builtin.append_, run_underlying Try.underlying22, sizeOf, typeInfo, hi, Builtin.lenOf, Builtin.firstCells, hnc, storeCells, hls]
  · obtain ⟨b, off, rfl, hb, hcell⟩ := hr.cell (by omega)
    obtain ⟨g, cap, w', hrun, hown', hgrow, hat, hlt⟩ := run_append_lies (P := Try.prog) w 22 ty base 5 i0 (.int .u8 0) 1 1 Try.underlying22 hi hz0 hz1 hz2 rfl (by omega) (.slice A n c) n (l.map (Value.int .u8)) hown.1
      ⟨b, off, none⟩ m d (l'.map (Value.int .u8)) (by simpa using hl') (fun j u hu => by
        have hj : j < m := by have := (List.getElem?_eq_some_iff.1 hu).1; simp at this; omega
        rw [Go.WideShapes.add_plain, hcell j hj, ← hu, List.getElem?_map, List.getElem?_eq_getElem (by omega)]
        rfl) (fun u hu => by
        obtain ⟨y, _, rfl⟩ := List.mem_map.1 hu
        rfl) (by omega) (by simp only [maxLen]; omega) (by omega) hbase w.heap.size rfl
    refine ⟨_, cap, w', hrun, ⟨by rw [List.map_append]; exact hown', hown.2.append hr.bs⟩, (Below.refl _ _).grown hgrow hbase fun k hk => (hown.1.lt k hk).1, hgrow, ?_⟩
    rcases hat with hat | hat
    · rcases hown.cases with ⟨rfl, _⟩ | ⟨g', rfl, _⟩
      · simp [Value.ownBlock] at hat
      · simp [Value.ownBlock] at hat
        exact .inl (by rw [hat])
    · exact .inr ⟨g, rfl, by omega⟩

/-- append(v, u...) at a step of a region that draws its order: v of the call's own, u whatever slice. -/
theorem step_app (w : World) {ops : Array Oper} {o : Oper} {a : Act} {K : Act → World → Prop} {Q : Exit → Act → World → Prop} {E : Prop} (hgd : o.guard = none) (s x : Operand)
    (ho : o.op = .call { callee := .builtin .append, args := #[s, x], argTypes := #[22, 22] })
    (base : Nat) (A : Option Addr) (n c : Nat) (l : List Int) (hs : a.eval s = .slice A n c) (hown : Mine base w A n c l)
    (B : Option Addr) (m d : Nat) (l' : List Int) (hx : a.eval x = .slice B m d) (hr : Byt w B m d l')
    (hlen : l.length + l'.length ≤ 140737488355328) (hbase : base ≤ w.heap.size)
    (h : ∀ A' c' w', Mine base w' A' (n + m) c' (l ++ l') → Below base w w' → (A' = A ∨ ∃ g, A' = some ⟨g, 0, none⟩ ∧ w.heap.size ≤ g) → K (a.put o.dst (.slice A' (n + m) c')) w') :
    if Go.Region.wanted o (Go.yielded ops a.tmps) = true then Go.Oper.wp Try.prog o a w K Q else E := by
  have hw : Go.Region.wanted o (Go.yielded ops a.tmps) = true := by simp [Go.Region.wanted, hgd]
  rw [if_pos hw]
  obtain ⟨A', c', w', hrun, h1, h2, _, h4⟩ := run_app w o.type base A n c l hown B m d l' hr hlen hbase
  unfold Oper.wp execOp
  simp only [ho, resolve, invoke, builtin, Sem.run_bind, Sem.run_pure, Result.andThen_ok, List.map_toArray, List.map_cons, List.map_nil, hs, hx, hrun]
  exact h A' c' w' h1 h2 h4

/-- The same, and what has grown. -/
theorem step_appG (w : World) {ops : Array Oper} {o : Oper} {a : Act} {K : Act → World → Prop} {Q : Exit → Act → World → Prop} {E : Prop} (hgd : o.guard = none) (s x : Operand)
    (ho : o.op = .call { callee := .builtin .append, args := #[s, x], argTypes := #[22, 22] })
    (base : Nat) (A : Option Addr) (n c : Nat) (l : List Int) (hs : a.eval s = .slice A n c) (hown : Mine base w A n c l)
    (B : Option Addr) (m d : Nat) (l' : List Int) (hx : a.eval x = .slice B m d) (hr : Byt w B m d l')
    (hlen : l.length + l'.length ≤ 140737488355328) (hbase : base ≤ w.heap.size)
    (h : ∀ A' c' w', Mine base w' A' (n + m) c' (l ++ l') → Below base w w' → w.grownBy w' (Value.slice A n c).ownBlock → (A' = A ∨ ∃ g, A' = some ⟨g, 0, none⟩ ∧ w.heap.size ≤ g) → K (a.put o.dst (.slice A' (n + m) c')) w') :
    if Go.Region.wanted o (Go.yielded ops a.tmps) = true then Go.Oper.wp Try.prog o a w K Q else E := by
  have hw : Go.Region.wanted o (Go.yielded ops a.tmps) = true := by simp [Go.Region.wanted, hgd]
  rw [if_pos hw]
  obtain ⟨A', c', w', hrun, h1, h2, h3, h4⟩ := run_app w o.type base A n c l hown B m d l' hr hlen hbase
  unfold Oper.wp execOp
  simp only [ho, resolve, invoke, builtin, Sem.run_bind, Sem.run_pure, Result.andThen_ok, List.map_toArray, List.map_cons, List.map_nil, hs, hx, hrun]
  exact h A' c' w' h1 h2 h3 h4

theorem step_copy (W : World) {ops : Array Oper} {o : Oper} {a : Act} {K : Act → World → Prop} {Q : Exit → Act → World → Prop} {E : Prop} (hgd : o.guard = none) (s x : Operand)
    (ho : o.op = .call { callee := .builtin .append, args := #[s, x], argTypes := #[22, 22] })
    {g0 : Nat} (hs : a.eval s = .slice (some ⟨g0, 0, none⟩) 0 0) (hg0 : W.heap.size = g0)
    (B : Option Addr) (m d : Nat) (l' : List Int) (hx : a.eval x = .slice B m d) (hr : Byt W B m d l') (hlen : m ≤ 140737488355328)
    (h : ∀ A' c' w', Mine W.heap.size w' A' m c' l' → Below W.heap.size W w' → K (a.put o.dst (.slice A' m c')) w') :
    if Go.Region.wanted o (Go.yielded ops a.tmps) = true then Go.Oper.wp Try.prog o a (W.alloc (.cells #[] 5)) K Q else E := by
  subst hg0
  have hl' := hr.len
  refine step_app _ hgd s x ho W.heap.size (some ⟨W.heap.size, 0, none⟩) 0 0 [] hs (by exact Mine.lit W [] (Nat.le_refl _) Bs.nil (by simp) 0 rfl) B m d l' hx (hr.alloc _) (by simp; omega) (by simp) ?_
  intro A' c' w' h1 h2 _
  rw [Nat.zero_add] at h1 ⊢
  exact h A' c' w' (by simpa using h1) (((Below.refl _ _).alloc (Nat.le_refl _) _).trans h2)

theorem Byt.init {w : World} {A : Option Addr} {n c : Nat} {l : List Int} (h : Byt w A n c l) {k : Nat} (hk : k ≤ n) : Byt w A k c (l.take k) := by
  have hl := h.len
  have hc := h.cap
  refine ⟨by rw [List.length_take]; omega, by omega, h.mx, h.nn, h.bs.take _, fun hn => ?_⟩
  obtain ⟨b, o, e, hb, hcell⟩ := h.cell (by omega)
  exact ⟨b, o, e, hb, fun i hi => by rw [hcell i (by omega), List.getElem?_take, if_pos hi]⟩
end Go.Proofs.Ythcnfalfhdeflaa
