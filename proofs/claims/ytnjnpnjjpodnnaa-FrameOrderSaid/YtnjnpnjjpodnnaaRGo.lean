/- Frames in memory of their own; whether frames are the same. -/
import Derived.Test.YtnjnpnjjpodnnaaRGs
import Derived.Test.YtnjnpnjjpodnnaaRGa
namespace Go.Proofs.Ytnjnpnjjpodnnaa
open Go.RowKit Go.Shelf
set_option linter.unusedVariables false
set_option linter.unusedSimpArgs false

/-- append(v, u...) of settings: v of the call's own, u whatever slice. -/
theorem wpList_appPs (w : World) {ops : Array Oper} {rest : List Oper} {o : Oper} {a : Act} {Q : Exit → Act → World → Prop} (hgd : o.guard = none) (s x : Operand)
    (ho : o.op = .call { callee := .builtin .append, args := #[s, x], argTypes := #[26, 26] })
    (base : Nat) (A : Option Addr) (n c : Nat) (l : List (Int × Int)) (hs : a.eval s = .slice A n c) (hown : MineP base w A n c l)
    (B : Option Addr) (m d : Nat) (l' : List (Int × Int)) (hx : a.eval x = .slice B m d) (hr : Prs w B m d l') (hlen : n + m ≤ 1000000) (hbase : base ≤ w.heap.size)
    (h : ∀ A' c' w', MineP base w' A' (n + m) c' (l ++ l') → Below base w w' → wpList Try.prog ops Q rest (a.put o.dst (.slice A' (n + m) c')) w') :
    wpList Try.prog ops Q (o :: rest) a w := by
  obtain ⟨i0, hi, hz0, hz1, hz2⟩ := info_parts infoP
  have hl := hown.len
  have hl' := hr.len
  by_cases h0 : m = 0
  · subst h0
    have hn' : l' = [] := List.eq_nil_of_length_eq_zero hl'
    subst hn'
    refine wpList_plain hgd fun K hK => ?_
    have hrun : (Builtin.append_ #[26, 26] o.type #[.slice A n c, .slice B 0 d]).run Try.prog w = .ok (.slice A n c) w := by
      have hls : ∀ ad, (loadCells ad 0).run Try.prog w = .ok #[] w := fun ad => by simp [loadCells, loadCellsFrom]
      rcases hown.1.2 with ⟨e, _⟩ | ⟨g, cap, cur, e, _, _, hnc, _⟩
      · simp at e
        obtain ⟨rfl, rfl, rfl⟩ := e
        cases B <;> simp [Builtin.append_, run_underlying Try.underlying26, sizeOf, typeInfo, hi, Builtin.lenOf, Builtin.firstCells, hls]
      · simp at e
        obtain ⟨rfl, rfl⟩ := e
        cases B <;> simp [Builtin.append_, run_underlying Try.underlying26, sizeOf, typeInfo, hi, Builtin.lenOf, Builtin.firstCells, hnc, storeCells, hls]
    unfold Oper.wp execOp
    simp only [ho, resolve, invoke, builtin, Sem.run_bind, Sem.run_pure, Result.andThen_ok, List.map_toArray, List.map_cons, List.map_nil, hs, hx, hrun]
    exact hK _ _ (h A c w (by simpa using hown) (Below.refl _ _))
  · obtain ⟨b, off, rfl, hb, hcell⟩ := hr.cell (by omega)
    have hpl : (pcells l').length = m * 2 := by rw [pcells_len]; omega
    refine wpList_append_own_at w hgd s x 26 ho base 55 i0 (.agg #[.int .u16 0, .int .u32 0]) 2 8 Try.underlying26 hi hz0 hz1 hz2 rfl (by omega) (.slice A n c) n (pcells l) hs hown.1
      ⟨b, off, none⟩ m d (pcells l') hx hpl (fun j u hu => ?_) (fun u hu => ?_) (by simp only [maxLen]; omega) (by omega) hbase ?_
    · have hj : j < m * 2 := by have := (List.getElem?_eq_some_iff.1 hu).1; omega
      have hp := pcells_at l' (j / 2) (by omega)
      have hc := hcell (j / 2) (by omega)
      rw [Go.WideShapes.add_plain]
      rcases Nat.mod_two_eq_zero_or_one j with e | e
      · have ej : j / 2 * 2 = j := by omega
        rw [ej] at hp hc
        rw [hp.1] at hu
        cases hu
        exact hc.1
      · have ej : j / 2 * 2 + 1 = j := by omega
        rw [ej] at hp
        rw [show off + j / 2 * 2 + 1 = off + j by omega] at hc
        rw [hp.2] at hu
        cases hu
        exact hc.2
    · unfold pcells at hu
      rw [List.mem_flatMap] at hu
      obtain ⟨p, _, hp⟩ := hu
      simp at hp
      rcases hp with rfl | rfl <;> rfl
    · intro v' w' hown' hgrow _ _
      rcases hown'.2 with ⟨e, he⟩ | ⟨g, cap, cur, e, hr'⟩
      · omega
      · subst e
        have happ : pcells l ++ pcells l' = pcells (l ++ l') := by unfold pcells; rw [List.flatMap_append]
        exact h _ _ _ ⟨by rw [← happ]; exact hown', hown.2.append hr.bs⟩ ((Below.refl _ _).grown hgrow hbase fun k hk => (hown.1.lt k hk).1)
theorem MineP.empty (w : World) : MineP w.heap.size (w.alloc (.cells #[] 55)) (some ⟨w.heap.size, 0, none⟩) 0 0 [] :=
  ⟨⟨by simp [pcells], .inr ⟨w.heap.size, 0, #[], rfl, Nat.le_refl _, World.alloc_heap_new w _, Nat.le_refl _, by decide, rfl, by simp [pcells]⟩⟩, PBs.nil⟩
set_option maxRecDepth 100000 in
/-- slices.Clone of settings. -/
theorem fCloneP (A : Option Addr) (n c : Nat) (l : List (Int × Int)) (w : World) (h : Prs w A n c l) (hn : n ≤ 100000) :
    Calls Try.prog 42 #[.slice A n c] w fun e w' => ∃ A' c', e = .returned (.slice A' n c') ∧ MineP w.heap.size w' A' n c' l ∧ Below w.heap.size w w' := by
  have q22 : ∀ (w : World) (a : Option Addr) (n c n' c' : Nat), (binOp .eql 26 (.slice a n c) (.slice none n' c')).run Try.prog w = .ok (.bool a.isNone) w := fun w a n c n' c' => Lib.run_eql_slice_nil w _ _ a n c n' c' Try.underlying26
  cases A with
  | none =>
    have hc := h.nn rfl
    have hk := h.cap
    obtain rfl : c = 0 := hc
    obtain rfl : n = 0 := by omega
    have hl := h.len
    obtain rfl : l = [] := List.eq_nil_of_length_eq_zero hl
    clear h hk hl
    go_enter Try.func42, Try.ntmps42
    go_wp2
    go_ret
    exact ⟨_, _, rfl, MineP.nil _ _, Below.refl _ _⟩
  | some a =>
    have hb := (Below.refl w.heap.size w).alloc (Nat.le_refl _) (.cells #[] 55)
    have h1 := h.alloc (.cells #[] 55)
    clear h
    go_enter Try.func42, Try.ntmps42
    go_wp2_with (at_builtin; go_must (refine wpList_appPs _ rfl (.tmp 5) (.tmp 6) rfl w.heap.size (some ⟨w.heap.size, 0, none⟩) 0 0 [] rfl (MineP.empty w) (some a) n c l rfl h1 (by omega) (by simp) ?_); intro A' c' w' m1 hb1)
    go_ret
    exact ⟨_, _, rfl, by simpa using m1, hb.trans hb1⟩
end Go.Proofs.Ytnjnpnjjpodnnaa
