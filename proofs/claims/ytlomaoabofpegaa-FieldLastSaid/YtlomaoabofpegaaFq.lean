/- append of settings: any slice behind a slice of the call's own. -/
import Derived.Test.YtlomaoabofpegaaPr
import Derived.Deep.RegionHeld3
namespace Go.Proofs.Ytlomaoabofpegaa
open Go.RowKit Go.ChangeShapes Go.WideShapes

theorem Prs.pcell {w : World} {b o n : Nat} {l : List (Int × Int)} (hlen : l.length = n) (hc : ∀ i, i < n → w.cell? ⟨b, o + i * 2, none⟩ = some (.int .u16 (pid l i)) ∧ w.cell? ⟨b, o + i * 2 + 1, none⟩ = some (.int .u32 (pva l i)))
    (j : Nat) (u : Value) (hu : (pcells l)[j]? = some u) : w.cell? ⟨b, o + j, none⟩ = some u := by
  have hj : j < l.length * 2 := by have := (List.getElem?_eq_some_iff.1 hu).1; rwa [pcells_len] at this
  have h1 := pcells_at l (j / 2) (by omega)
  have h2 := hc (j / 2) (by omega)
  rcases Nat.mod_two_eq_zero_or_one j with e | e
  · have ej : j / 2 * 2 = j := by omega
    rw [ej] at h1 h2
    rw [h2.1, ← h1.1, hu]
  · have ej : j / 2 * 2 + 1 = j := by omega
    rw [ej] at h1
    rw [Nat.add_assoc, ej] at h2
    rw [h2.2, ← h1.2, hu]
theorem pcells_int {l : List (Int × Int)} {u : Value} (h : u ∈ pcells l) : (∃ x, u = .int .u16 x) ∨ ∃ x, u = .int .u32 x := by
  simp only [pcells, List.mem_flatMap] at h
  obtain ⟨p, _, hp⟩ := h
  simp at hp
  rcases hp with rfl | rfl
  · exact .inl ⟨_, rfl⟩
  · exact .inr ⟨_, rfl⟩

theorem run_appP (w : World) (ty : TypeId) (base : Nat) (A : Option Addr) (n c : Nat) (l : List (Int × Int)) (hown : MineP base w A n c l) (B : Option Addr) (m d : Nat) (l' : List (Int × Int)) (hr : Prs w B m d l')
    (hlen : n + m ≤ 1000000) (hbase : base ≤ w.heap.size) :
    ∃ A' c' w', (Builtin.append_ #[25, 25] ty #[.slice A n c, .slice B m d]).run Try.prog w = .ok (.slice A' (n + m) c') w' ∧ MineP base w' A' (n + m) c' (l ++ l') ∧ Below base w w' ∧ w.grownBy w' (Value.slice A n c).ownBlock := by
  obtain ⟨i0, hi, hz0, hz1, hz2⟩ := info_parts infoP
  have hl := hown.len
  have hl' := hr.len
  by_cases h0 : m = 0
  · subst h0
    have hn' : l' = [] := List.eq_nil_of_length_eq_zero hl'
    subst hn'
    refine ⟨A, c, w, ?_, by simpa using hown, Below.refl _ _, World.grownBy.refl w _⟩
    have hls : ∀ ad, (loadCells ad 0).run Try.prog w = .ok #[] w := fun ad => by simp [loadCells, loadCellsFrom]
    rcases hown.1.2 with ⟨e, _⟩ | ⟨g, cap, cur, e, _, _, hnc, _⟩
    · simp at e
      obtain ⟨rfl, rfl, rfl⟩ := e
      cases B <;> simp [Builtin.append_, run_underlying Try.underlying25, sizeOf, typeInfo, hi, Builtin.lenOf, Builtin.firstCells, hls]
    · simp at e
      obtain ⟨rfl, rfl⟩ := e
      cases B <;> simp [Builtin.append_, run_underlying Try.underlying25, sizeOf, typeInfo, hi, Builtin.lenOf, Builtin.firstCells, hnc, storeCells, hls]
  · obtain ⟨b, off, rfl, hb, hcell⟩ := hr.cell (by omega)
    obtain ⟨g, cap, w', hrun, hown', hgrow, hat, hlt⟩ := run_append_lies (P := Try.prog) w 25 ty base 47 i0 (.agg #[.int .u16 0, .int .u32 0]) 2 8 Try.underlying25 hi hz0 hz1 hz2 rfl (by omega) (.slice A n c) n (pcells l) hown.1
      ⟨b, off, none⟩ m d (pcells l') (by rw [pcells_len]; omega) (fun j u hu => by
        rw [Go.WideShapes.add_plain]
        exact Prs.pcell hl' hcell j u hu) (fun u hu => by
        rcases pcells_int hu with ⟨x, rfl⟩ | ⟨x, rfl⟩ <;> rfl) (by omega) (by simp only [maxLen]; omega) (by omega) hbase w.heap.size rfl
    exact ⟨_, cap, w', hrun, ⟨by rw [pcells_app]; exact hown', hown.2.append hr.bs⟩, (Below.refl _ _).grown hgrow hbase fun k hk => (hown.1.lt k hk).1, hgrow⟩

/-- append(v, u...) at a step of a region that draws its order. -/
theorem step_appP (w : World) {ops : Array Oper} {o : Oper} {a : Act} {K : Act → World → Prop} {Q : Exit → Act → World → Prop} {E : Prop} (hgd : o.guard = none) (s x : Operand)
    (ho : o.op = .call { callee := .builtin .append, args := #[s, x], argTypes := #[25, 25] })
    (base : Nat) (A : Option Addr) (n c : Nat) (l : List (Int × Int)) (hs : a.eval s = .slice A n c) (hown : MineP base w A n c l)
    (B : Option Addr) (m d : Nat) (l' : List (Int × Int)) (hx : a.eval x = .slice B m d) (hr : Prs w B m d l')
    (hlen : n + m ≤ 1000000) (hbase : base ≤ w.heap.size)
    (h : ∀ A' c' w', MineP base w' A' (n + m) c' (l ++ l') → Below base w w' → w.grownBy w' (Value.slice A n c).ownBlock → K (a.put o.dst (.slice A' (n + m) c')) w') :
    if Go.Region.wanted o (Go.yielded ops a.tmps) = true then Go.Oper.wp Try.prog o a w K Q else E := by
  have hw : Go.Region.wanted o (Go.yielded ops a.tmps) = true := by simp [Go.Region.wanted, hgd]
  rw [if_pos hw]
  obtain ⟨A', c', w', hrun, h1, h2, h3⟩ := run_appP w o.type base A n c l hown B m d l' hr hlen hbase
  unfold Oper.wp execOp
  simp only [ho, resolve, invoke, builtin, Sem.run_bind, Sem.run_pure, Result.andThen_ok, List.map_toArray, List.map_cons, List.map_nil, hs, hx, hrun]
  exact h A' c' w' h1 h2 h3
theorem Prs.grown {w w' : World} {A : Option Addr} {n c : Nat} {l : List (Int × Int)} (h : Prs w A n c l) {row : Option Nat} (hg : w.grownBy w' row) (hr : ∀ b o, A = some ⟨b, o, none⟩ → some b ≠ row) : Prs w' A n c l :=
  ⟨h.len, h.cap, h.mx, h.nn, h.bs, fun hn => by
    obtain ⟨b, o, e, hb, hc⟩ := h.cell hn
    exact ⟨b, o, e, Nat.lt_of_lt_of_le hb hg.size, fun i hi => ⟨(World.cell?_of_block (hg.block b hb (hr b o e))).trans (hc i hi).1, (World.cell?_of_block (hg.block b hb (hr b o e))).trans (hc i hi).2⟩⟩⟩
/-- A slice of settings made empty just now is the call's own. -/
theorem MineP.lit0 (w : World) : MineP w.heap.size (w.alloc (.cells #[] 47)) (some ⟨w.heap.size, 0, none⟩) 0 0 [] := by
  refine ⟨⟨rfl, .inr ⟨w.heap.size, 0, #[], rfl, Nat.le_refl _, heap_alloc_new w _, ?_⟩⟩, PBs.nil⟩
  simp [pcells, maxLen]
theorem litP1 {w : World} {g : Nat} {a b : Int} (hg : w.heap.size = g) (h : PBs [(a, b)]) : Prs (w.alloc (.cells #[.int .u16 a, .int .u32 b] 47)) (some ⟨g, 0, none⟩) 1 1 [(a, b)] := by
  subst hg
  have q := Blk.new w 47 #[.int .u16 a, .int .u32 b]
  refine ⟨rfl, Nat.le_refl _, by decide, (fun e => by cases e), h, fun _ => ⟨_, 0, rfl, by simp, fun i hi => ?_⟩⟩
  obtain rfl : i = 0 := by omega
  exact ⟨q.at 0 rfl, q.at 1 rfl⟩
end Go.Proofs.Ytlomaoabofpegaa
