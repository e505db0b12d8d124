/- Laws for CutParts: an append to pieces that are read; regions in several orders; plain bounds. -/
import Derived.Test.YthcnfalfhdeflaaCl
import Derived.Test.YthcnfalfhdeflaaCj
import Derived.Test.YthcnfalfhdeflaaJe
import Derived.Test.YthcnfalfhdeflaaJd
namespace Go.Proofs.Ythcnfalfhdeflaa
open Go.RowKit Go.ChangeShapes Go.WideShapes
set_option linter.unusedVariables false

theorem partsTo (zi : Int) (a n : Nat) (han : a ≤ n) : ∃ (M : Int) (t : Nat), a ≤ t ∧ t ≤ n ∧ (∀ ts ty w, (Builtin.max_ ts ty #[.int .i64 zi, .int .i64 a]).run Try.prog w = .ok (.int .i64 M) w) ∧ (∀ ts ty w, (Builtin.min_ ts ty #[.int .i64 M, .int .i64 n]).run Try.prog w = .ok (.int .i64 t) w) := by
  refine ⟨if (a : Int) > zi then a else zi, (if (n : Int) < (if (a : Int) > zi then (a : Int) else zi) then (n : Int) else (if (a : Int) > zi then (a : Int) else zi)).toNat, ?_, ?_, fun ts ty w => run_max_int2 w ts ty .i64 .i64 zi a, fun ts ty w => ?_⟩
  · split <;> split <;> omega
  · split <;> split <;> omega
  · rw [run_min_int2 w ts ty .i64 .i64]
    congr 2
    split <;> split <;> omega
theorem sameC_self (p : Int) (l : List Int) : sameC p l p l = true := by simp [sameC, eqB]
theorem eqPc_self {l m : List Pe} {ps : List Pc} (h : l.map (·.p) = ps) (h' : m.map (·.p) = ps) : eqPc l m = true := decide_eq_true (h.trans h'.symm)
/-- A code's walk is cut: what it leaves is told, whatever order it drew. -/
theorem wp_cutR {P : Program} {code : Code} {Q : Exit → Act → World → Prop} {a : Act} {w : World} (R : Act → Act → World → Prop)
    (h : code.wp P (fun e a' w' => e = .normal ∧ R a a' w') a w) (k : ∀ a' w', R a a' w' → Q .normal a' w') : code.wp P Q a w :=
  Code.wp_mono (fun e a' w' h => by obtain ⟨rfl, hr⟩ := h; exact k a' w' hr) h
section
variable {P : Program} {ops : Array Oper} {Q : Exit → Act → World → Prop} {md : Region.Mode} {S : World → Prop} {ex : List Nat}
/-- Three may come up. -/
theorem wpAnyG_three (i j l : Nat) {oi oj ol : Oper} {fuel : Nat} {listed : Array Bool} {a : Act} {w : World} (hr : Region.ready md ops listed = [i, j, l]) (hoi : ops[i]? = some oi) (hoj : ops[j]? = some oj) (hol : ops[l]? = some ol)
    (hi : ∀ K : Act → World → Prop, Shut (∀ a w, (ex.contains i = false → S w) → wpAnyG P md ops Q S ex fuel (listed.setIfInBounds i true) a w → K a w) → if Region.wanted oi (yielded ops a.tmps) = true then Oper.wp P oi a w K Q else K (a.put oi.dst undef) w)
    (hj : ∀ K : Act → World → Prop, Shut (∀ a w, (ex.contains j = false → S w) → wpAnyG P md ops Q S ex fuel (listed.setIfInBounds j true) a w → K a w) → if Region.wanted oj (yielded ops a.tmps) = true then Oper.wp P oj a w K Q else K (a.put oj.dst undef) w)
    (hl : ∀ K : Act → World → Prop, Shut (∀ a w, (ex.contains l = false → S w) → wpAnyG P md ops Q S ex fuel (listed.setIfInBounds l true) a w → K a w) → if Region.wanted ol (yielded ops a.tmps) = true then Oper.wp P ol a w K Q else K (a.put ol.dst undef) w) :
    wpAnyG P md ops Q S ex (fuel + 1) listed a w :=
  ⟨fun h0 => (by rw [hr] at h0; cases h0), fun k hk => by
    rw [hr] at hk
    simp only [List.mem_cons, List.not_mem_nil, or_false] at hk
    rcases hk with rfl | rfl | rfl
    · exact wpOp_step hoi (fun K' hK => hi K' (fun a w hS hW => hK a w ⟨hS, hW⟩))
    · exact wpOp_step hoj (fun K' hK => hj K' (fun a w hS hW => hK a w ⟨hS, hW⟩))
    · exact wpOp_step hol (fun K' hK => hl K' (fun a w hS hW => hK a w ⟨hS, hW⟩))⟩
end
/-- A row of pieces of the call's own, its payloads wherever they lie. -/
def RowC (base : Nat) (w : World) (A : Option Addr) (n c : Nat) (l : List Pe) : Prop := w.ownsRow base 43 5 (.slice A n c) n (pecells l)
theorem rowC0 (w : World) : RowC w.heap.size (w.alloc (.cells #[] 43)) (some ⟨w.heap.size, 0, none⟩) 0 0 [] := by
  have := World.ownsRow_lit (base := w.heap.size) (e := 43) (size := 5) w #[] 0 (Nat.le_refl _) (by simp [maxLen]) (by simp)
  simpa [RowC, pecells] using this
theorem pcs_of_row {base : Nat} {w : World} {A : Option Addr} {n c : Nat} {l : List Pe} (h : RowC base w A n c l) (hy : ∀ e ∈ l, PcOk e.p ∧ Byt w e.A e.p.d.length e.c e.p.d) : Pcs w A n c l := by
  have hl : l.length = n := by have := h.1; rw [pecells_len] at this; omega
  rcases h.2 with ⟨e, h0⟩ | ⟨g, cap, cur, e, hb, hg, hnc, hcm, hcs, htake⟩
  · simp at e
    obtain ⟨rfl, _, rfl⟩ := e
    subst h0
    exact ⟨hl, Nat.le_refl _, by decide, fun k => absurd k (Nat.lt_irrefl _), hy⟩
  · simp at e
    obtain ⟨rfl, rfl⟩ := e
    refine ⟨hl, hnc, by simpa [maxLen] using hcm, fun _ => ⟨g, 0, rfl, (Array.getElem?_eq_some_iff.1 hg).1, fun i e he j v hv => ?_⟩, hy⟩
    have hc := World.ownsRow.cells h (g := g) rfl
    have c1 := hc (i * 5 + j) _ (pecells_at l i e he j v hv)
    rw [add_plain] at c1
    rw [Nat.zero_add] at c1 ⊢
    exact c1
theorem byts_app {w : World} {l m : List Pe} (h : ∀ e ∈ l, PcOk e.p ∧ Byt w e.A e.p.d.length e.c e.p.d) (k : ∀ e ∈ m, PcOk e.p ∧ Byt w e.A e.p.d.length e.c e.p.d) : ∀ e ∈ l ++ m, PcOk e.p ∧ Byt w e.A e.p.d.length e.c e.p.d :=
  fun e he => (List.mem_append.1 he).elim (h e) (k e)
theorem run_appR (w : World) (ty : TypeId) (base : Nat) (A : Option Addr) (n c : Nat) (l : List Pe) (hown : RowC base w A n c l) (B : Option Addr) (m d : Nat) (l' : List Pe) (hr : Pcs w B m d l')
    (hlen : l.length + l'.length ≤ 1000000) (hbase : base ≤ w.heap.size) :
    ∃ A' c' w', (Builtin.append_ #[28, 28] ty #[.slice A n c, .slice B m d]).run Try.prog w = .ok (.slice A' (n + m) c') w' ∧ RowC base w' A' (n + m) c' (l ++ l') ∧ Below base w w' := by
  obtain ⟨i0, hi, hz0, hz1, hz2⟩ := info_parts infoC
  have hl : l.length = n := by have := hown.1; rw [pecells_len] at this; omega
  have hl' := hr.len
  by_cases h0 : m = 0
  · subst h0
    have hn' : l' = [] := List.eq_nil_of_length_eq_zero hl'
    subst hn'
    refine ⟨A, c, w, ?_, by simpa using hown, Below.refl _ _⟩
    have hls : ∀ ad, (loadCells ad 0).run Try.prog w = .ok #[] w := fun ad => by simp [loadCells, loadCellsFrom]
    rcases hown.2 with ⟨e, _⟩ | ⟨g, cap, cur, e, _, _, hnc, _⟩
    · simp at e
      obtain ⟨rfl, rfl, rfl⟩ := e
      cases B <;> simp [Builtin.append_, run_underlying Try.underlying28, sizeOf, typeInfo, hi, Builtin.lenOf, Builtin.firstCells, hls]
    · simp at e
      obtain ⟨rfl, rfl⟩ := e
      cases B <;> simp [Builtin.append_, run_underlying Try.underlying28, sizeOf, typeInfo, hi, Builtin.lenOf, Builtin.firstCells, hnc, storeCells, hls]
  · obtain ⟨b, off, rfl, hb, hcell⟩ := hr.cell (by omega)
    obtain ⟨v', w', hrun, hown', hgrow, hz, hat⟩ := run_append_own_at (P := Try.prog) w base 28 ty 43 i0 (.agg #[.int .i64 0, .int .u8 0, .int .u8 0, .int .i64 0, .slice none 0 0]) 5 48 Try.underlying28 hi hz0 hz1 hz2 rfl (by omega) (.slice A n c) n (pecells l) hown
      ⟨b, off, none⟩ m d (pecells l') (by rw [pecells_len]; omega) (fun j u hu => by
        have hj : j < m * 5 := by have := (List.getElem?_eq_some_iff.1 hu).1; rw [pecells_len] at this; omega
        have hi5 : j / 5 < l'.length := by omega
        obtain ⟨e, he⟩ : ∃ e, l'[j / 5]? = some e := ⟨l'[j / 5], List.getElem?_eq_getElem hi5⟩
        have hv : ∃ v, (peV e)[j % 5]? = some v := ⟨(peV e)[j % 5]'(by simp [peV]; omega), List.getElem?_eq_getElem _⟩
        obtain ⟨v, hv⟩ := hv
        have h1 := pecells_at l' (j / 5) e he (j % 5) v hv
        rw [show j / 5 * 5 + j % 5 = j by omega] at h1
        rw [Go.WideShapes.add_plain]
        have h2 := hcell (j / 5) e he (j % 5) v hv
        rw [show off + j / 5 * 5 + j % 5 = off + j by omega] at h2
        rw [h2, ← hu, h1]) (pe_one l') (by simp only [maxLen]; omega) (by omega) hbase
    rcases hown'.2 with ⟨e, he⟩ | ⟨g, cap, cur, e, hr'⟩
    · omega
    · subst e
      exact ⟨_, cap, w', hrun, by unfold RowC; rw [pecells_app]; exact hown', (Below.refl _ _).grown hgrow hbase fun k hk => (World.ownsRow.lt hown k hk).1⟩
theorem wpList_appR (w0 w : World) {ops : Array Oper} {rest : List Oper} {o : Oper} {a : Act} {Q : Exit → Act → World → Prop} (hw : Region.wanted o (yielded ops a.tmps) = true) (s x : Operand)
    (ho : o.op = .call { callee := .builtin .append, args := #[s, x], argTypes := #[28, 28] })
    (A : Option Addr) (n c : Nat) (l : List Pe) (hs : a.eval s = .slice A n c) (hown : RowC w0.heap.size w A n c l)
    (B : Option Addr) (m d : Nat) (l' : List Pe) (hx : a.eval x = .slice B m d) (hr : Pcs w B m d l')
    (hlen : l.length + l'.length ≤ 1000000) (hb0 : Below w0.heap.size w0 w)
    (h : ∀ A' c' w', RowC w0.heap.size w' A' (n + m) c' (l ++ l') → Below w0.heap.size w0 w' → wpList Try.prog ops Q rest (a.put o.dst (.slice A' (n + m) c')) w') : wpList Try.prog ops Q (o :: rest) a w := by
  refine wpList_step fun K hK => ?_
  rw [if_pos hw]
  obtain ⟨A', c', w', hrun, h1, h2⟩ := run_appR w o.type w0.heap.size A n c l hown B m d l' hr hlen hb0.size
  unfold Oper.wp execOp
  simp only [ho, resolve, invoke, builtin, Sem.run_bind, Sem.run_pure, Result.andThen_ok, List.map_toArray, List.map_cons, List.map_nil, hs, hx, hrun]
  exact hK _ _ (h A' c' w' h1 (hb0.trans h2))

theorem preK_len (x : List Int) : ∀ (p q : Int) (r : List Int) (b : Bool), preK p x = (q, r, b) → r.length ≤ x.length := by
  induction x with
  | nil =>
    intro p q r b h
    simp [preK] at h
    obtain ⟨_, rfl, _⟩ := h
    exact Nat.le_refl _
  | cons c x ih =>
    intro p q r b h
    by_cases h24 : p = 24
    · subst h24
      simp [preK] at h
      obtain ⟨_, rfl, _⟩ := h
      exact Nat.le_refl _
    · by_cases hc : c = preL[p.toNat]?.getD 0
      · rw [preK_good h24 hc] at h
        have := ih (p + 1) q r b h
        simp only [List.length_cons]
        omega
      · rw [preK_bad h24 hc] at h
        simp only [Prod.mk.injEq] at h
        obtain ⟨_, rfl, _⟩ := h
        exact Nat.le_refl _
theorem cutC_len : ∀ (n : Nat) (b : List Int), b.length ≤ n → (cutC b).2.1.length ≤ b.length ∧ (cutC b).1.length ≤ b.length
  | n, b, hn => by
    by_cases hg : GoesB b
    · have hr := restOf_len hg
      obtain ⟨n', rfl⟩ : ∃ n', n = n' + 1 := ⟨n - 1, by omega⟩
      have ih := cutC_len n' (restOf b) (by omega)
      rw [cutC_go hg]
      simp only [List.length_cons]
      omega
    · by_cases hl : LongB b
      · rw [cutC_long hl]
        simp
      · rw [cutC_end hg hl]
        simp
theorem feed_len {p : Int} {l ch : List Int} : (feedC p l ch).l.length ≤ l.length + ch.length ∧ (feedC p l ch).ps.length ≤ l.length + ch.length := by
  rcases hk : preK p ch with ⟨q, r, b⟩
  have h1 := preK_len ch p q r b hk
  have h2 := cutC_len _ (l ++ r) (Nat.le_refl _)
  rw [List.length_append] at h2
  unfold feedC
  rw [hk]
  cases b
  · simp only [Bool.false_eq_true, if_false]
    omega
  · simp
theorem feed_fc {p : Int} {l ch : List Int} (h : (feedC p l ch).fw = false) : (feedC p l ch).fc = 0 := by
  rcases hk : preK p ch with ⟨q, r, b⟩
  unfold feedC at h ⊢
  rw [hk] at h ⊢
  cases b
  · simp only [Bool.false_eq_true, if_false] at h ⊢
    rw [h]
    rfl
  · simp at h
theorem feed_brk {p : Int} {l x c : List Int} {X : Prop} (h : (((feedC p l x).fw = true) → feedC p l c = feedC p l x ∨ ((feedC p l c).fw = true ∧ (feedC p l c).fc = (feedC p l x).fc ∧ (feedC p l c).ps = (feedC p l x).ps)) ∧ X) (hg : (feedC p l x).fw = true) :
    (feedC p l c).fw = true ∧ (feedC p l c).fc = (feedC p l x).fc ∧ (feedC p l c).ps = (feedC p l x).ps := by
  rcases h.1 hg with e | e
  · rw [e]
    exact ⟨hg, rfl, rfl⟩
  · exact e
theorem feed_pslen {p : Int} {l x y : List Int} (h : l.length + x.length + y.length ≤ 2000) : (feedC p l x).ps.length + (feedC (feedC p l x).p (feedC p l x).l y).ps.length ≤ 1000000 := by
  have h1 := feed_len (p := p) (l := l) (ch := x)
  have h2 := feed_len (p := (feedC p l x).p) (l := (feedC p l x).l) (ch := y)
  omega
end Go.Proofs.Ythcnfalfhdeflaa
