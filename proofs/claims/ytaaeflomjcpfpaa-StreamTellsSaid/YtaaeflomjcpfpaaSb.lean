/- The table of what becomes of frames. -/
import Derived.Test.YtaaeflomjcpfpaaSa
import Derived.Test.YtaaeflomjcpfpaaV
import Derived.Test.YtaaeflomjcpfpaaMi
import Derived.Test.YtaaeflomjcpfpaaJd
namespace Go.Proofs.Ytaaeflomjcpfpaa
open Go.RowKit Go.Shelf Go.ChangeMaps
attribute [local go_sem] Oper.semAt_some
set_option linter.unusedVariables false
set_option linter.unusedSimpArgs false

abbrev FK := Int × Int × Bool
abbrev frV (x : FK) : Value := .agg #[.int .u8 x.1, .int .u8 x.2.1, .bool x.2.2]
abbrev cmV (c : Cm) : Value := .agg #[.int .u8 (c).st, .bool (c).take, .bool (c).whole, .int .u32 (c).code]
theorem frKey : KeyOf Try.prog 64 frV where
  check w em x := by
    show (Instr.checkKey em (9999 + 1) 64 (frV x)).run Try.prog w = _
    rw [Instr.checkKey]
    have p0 : (Go.part 5 #[.int .u8 x.1, .int .u8 x.2.1, .bool x.2.2] 0).run Try.prog w = .ok (.int .u8 x.1) w := by kernel_rfl
    have p1 : (Go.part 5 #[.int .u8 x.1, .int .u8 x.2.1, .bool x.2.2] 1).run Try.prog w = .ok (.int .u8 x.2.1) w := by kernel_rfl
    have p2 : (Go.part 4 #[.int .u8 x.1, .int .u8 x.2.1, .bool x.2.2] 2).run Try.prog w = .ok (.bool x.2.2) w := by kernel_rfl
    have c0 : ∀ y : Int, (Instr.checkKey em 9999 5 (.int .u8 y)).run Try.prog w = .ok () w := fun y => by
      rw [show (9999 : Nat) = 9998 + 1 from rfl, Instr.checkKey]
      simp [run_underlying Try.underlying5]
    have c2 : (Instr.checkKey em 9999 4 (.bool x.2.2)).run Try.prog w = .ok () w := by
      rw [show (9999 : Nat) = 9998 + 1 from rfl, Instr.checkKey]
      simp [run_underlying Try.underlying4]
    simp [run_underlying Try.underlying64, p0, p1, p2, c0, c2]
  find w x l := by
    have h : ∀ (l : List (FK × Value × Nat)) (i : Nat), (Instr.findAsking 64 (frV x) (l.map (ent frV)) i).run Try.prog w = .ok (look x l i) w := by
      intro l
      induction l with
      | nil => intro i; rfl
      | cons e r ih =>
        intro i
        have he : (Go.Op.equal 64 (frV x) (frV e.1)).run Try.prog w = .ok (decide (x = e.1)) w := by
          have p0 : ∀ (a b : Int) (c : Bool), (Go.part 5 #[.int .u8 a, .int .u8 b, .bool c] 0).run Try.prog w = .ok (.int .u8 a) w := fun a b c => by kernel_rfl
          have p1 : ∀ (a b : Int) (c : Bool), (Go.part 5 #[.int .u8 a, .int .u8 b, .bool c] 1).run Try.prog w = .ok (.int .u8 b) w := fun a b c => by kernel_rfl
          have p2 : ∀ (a b : Int) (c : Bool), (Go.part 4 #[.int .u8 a, .int .u8 b, .bool c] 2).run Try.prog w = .ok (.bool c) w := fun a b c => by kernel_rfl
          have q0 : ∀ (a b : Bool), (Go.Op.equalIn 9999 4 (.bool a) (.bool b)).run Try.prog w = .ok (a == b) w := fun a b => run_equalIn_bool w 9998 _ a b Try.underlying4
          have q1 : ∀ (a b : Int), (Go.Op.equalIn 9999 5 (.int .u8 a) (.int .u8 b)).run Try.prog w = .ok (a == b) w := fun a b => by
            rw [show (9999 : Nat) = 9998 + 1 from rfl, Go.Op.equalIn]
            simp [run_underlying Try.underlying5]
          have hst : Try.prog.stoodInHeld 64 = false := by kernel_rfl
          show (Go.Op.equalIn (9999 + 1) 64 (frV x) (frV e.1)).run Try.prog w = _
          rw [Go.Op.equalIn]
          obtain ⟨x1, x2, x3⟩ := x
          obtain ⟨⟨e1, e2, e3⟩, _, _⟩ := e
          by_cases h1 : x1 = e1 <;> by_cases h2 : x2 = e2 <;> by_cases h3 : x3 = e3 <;> simp [run_underlying Try.underlying64, hst, p0, p1, p2, q0, q1, h1, h2, h3]
        rw [List.map_cons, Instr.findAsking]
        simp only [ent, Sem.run_bind, he, Result.andThen_ok, look]
        by_cases h1 : x = e.1
        · rw [if_pos h1, decide_eq_true h1]; rfl
        · rw [if_neg h1, decide_eq_false h1]; exact ih (i + 1)
    cases l with
    | nil => simp [Instr.findKey, run_underlying Try.underlying64, Instr.findNow, look]
    | cons e r =>
      have := h (e :: r) 0
      simp only [Instr.findKey, Sem.run_bind, run_underlying Try.underlying64, Result.andThen_ok, List.map_cons, Instr.findNow, ent, Instr.sameNow]
      exact this
  stays w x := by
    have h : Instr.sameBits (9999 + 1) (frV x) (frV x) = true := by simp [Instr.sameBits]
    unfold Instr.keyThatStays
    rw [show (10000 : Nat) = 9999 + 1 from rfl, h]
    rfl

/-- The literal's entries. -/
def tabJ : List (Ent FK) := [(3, (0, 1, false), cmV ⟨1, true, false, 0⟩), (6, (0, 1, true), cmV ⟨2, true, false, 0⟩), (9, (1, 1, false), cmV ⟨5, false, false, 1⟩), (12, (1, 1, true), cmV ⟨2, true, false, 0⟩), (15, (3, 1, false), cmV ⟨5, false, false, 1⟩),
  (18, (3, 1, true), cmV ⟨4, true, false, 0⟩), (21, (1, 0, false), cmV ⟨1, true, false, 0⟩), (24, (1, 0, true), cmV ⟨2, true, false, 0⟩), (27, (3, 0, false), cmV ⟨3, true, false, 0⟩), (30, (3, 0, true), cmV ⟨4, true, false, 0⟩)]
noncomputable def tabOps : Array Oper := regAt Try.f39 1

theorem tabSize : tabOps.size = 34 := by kernel_rfl
theorem tabJ_dist : ∀ a ∈ tabJ, ∀ b ∈ tabJ, a.1 = b.1 ↔ a.2.1 = b.2.1 := by
  have h : (tabJ.all fun a => tabJ.all fun b => decide (a.1 = b.1) == decide (a.2.1 = b.2.1)) = true := by kernel_rfl
  intro a ha b hb
  have := List.all_eq_true.1 (List.all_eq_true.1 h a ha) b hb
  rw [beq_iff_eq, decide_eq_decide] at this
  exact this
theorem tabJ_one : ∀ a ∈ tabJ, ∀ b ∈ tabJ, a.1 = b.1 → a = b := inj_of_nodup tabJ (by decide)
/-- An entry of a literal, at the operation. -/
theorem wp_insert {P : Program} {W : World} {o : Oper} {a : Act} {K : Act → World → Prop} {Q : Exit → Act → World → Prop} {t T e : TypeId} {mo xo vo : Operand} {b : Nat} {m : FK → Option Value}
    (KO : KeyOf P T frV) (ht : P.underlying t = some (.map T e)) (hop : o.op = Op.insert t mo xo vo) (hmo : a.eval mo = .map (some b)) (hown : MapF frV W b m) (x : FK) (v : Value) (hx : a.eval xo = frV x) (hv : a.eval vo = v)
    (h : ∀ w', MapF frV w' b (fun y => if y = x then some v else m y) → W.grownBy w' (some b) → K (a.put o.dst undef) w') : Oper.wp P o a W K Q := by
  obtain ⟨w', hrun, r1, r2⟩ := hown.update KO ht x v
  unfold Oper.wp
  simp [execOp, hop, hmo, hx, hv, hrun, Result.andThen]
  exact h w' r1 r2
/-- The frame, when these have been carried out. -/
noncomputable def tabFrm (L : Array Bool) (b bA : Nat) : Array Value := #[.map none, sl L 32 (.pointer (some ⟨bA, 0, none⟩)), undef, undef, undef, undef, undef, undef, sl L 0 (.map (some b)), sl L 1 (.agg #[.int .u8 0, .int .u8 1, .bool false]), sl L 2 (.agg #[.int .u8 1, .bool true, .bool false, .int .u32 0]), sl L 4 (.agg #[.int .u8 0, .int .u8 1, .bool true]), sl L 5 (.agg #[.int .u8 2, .bool true, .bool false, .int .u32 0]), sl L 7 (.agg #[.int .u8 1, .int .u8 1, .bool false]), sl L 8 (.agg #[.int .u8 5, .bool false, .bool false, .int .u32 1]), sl L 10 (.agg #[.int .u8 1, .int .u8 1, .bool true]), sl L 11 (.agg #[.int .u8 2, .bool true, .bool false, .int .u32 0]), sl L 13 (.agg #[.int .u8 3, .int .u8 1, .bool false]), sl L 14 (.agg #[.int .u8 5, .bool false, .bool false, .int .u32 1]), sl L 16 (.agg #[.int .u8 3, .int .u8 1, .bool true]), sl L 17 (.agg #[.int .u8 4, .bool true, .bool false, .int .u32 0]), sl L 19 (.agg #[.int .u8 1, .int .u8 0, .bool false]), sl L 20 (.agg #[.int .u8 1, .bool true, .bool false, .int .u32 0]), sl L 22 (.agg #[.int .u8 1, .int .u8 0, .bool true]), sl L 23 (.agg #[.int .u8 2, .bool true, .bool false, .int .u32 0]), sl L 25 (.agg #[.int .u8 3, .int .u8 0, .bool false]), sl L 26 (.agg #[.int .u8 3, .bool true, .bool false, .int .u32 0]), sl L 28 (.agg #[.int .u8 3, .int .u8 0, .bool true]), sl L 29 (.agg #[.int .u8 4, .bool true, .bool false, .int .u32 0]), sl L 31 (.map (some b)), undef, undef, undef, undef, undef, undef, undef, undef, undef, undef, undef, undef, undef, undef, undef, undef, undef, undef, undef, undef, undef, undef, undef, undef, undef, undef, undef, undef, undef, undef, undef, undef, undef, undef, undef, undef, undef, undef, undef, undef, undef, undef, undef, undef, undef, undef, undef, undef, undef, undef, undef]
/-- Behind all of them. -/
noncomputable def tabFrm1 (b bA : Nat) : Array Value := #[.map none, .pointer (some ⟨bA, 0, none⟩), undef, undef, undef, undef, undef, undef, .map (some b), .agg #[.int .u8 0, .int .u8 1, .bool false], .agg #[.int .u8 1, .bool true, .bool false, .int .u32 0], .agg #[.int .u8 0, .int .u8 1, .bool true], .agg #[.int .u8 2, .bool true, .bool false, .int .u32 0], .agg #[.int .u8 1, .int .u8 1, .bool false], .agg #[.int .u8 5, .bool false, .bool false, .int .u32 1], .agg #[.int .u8 1, .int .u8 1, .bool true], .agg #[.int .u8 2, .bool true, .bool false, .int .u32 0], .agg #[.int .u8 3, .int .u8 1, .bool false], .agg #[.int .u8 5, .bool false, .bool false, .int .u32 1], .agg #[.int .u8 3, .int .u8 1, .bool true], .agg #[.int .u8 4, .bool true, .bool false, .int .u32 0], .agg #[.int .u8 1, .int .u8 0, .bool false], .agg #[.int .u8 1, .bool true, .bool false, .int .u32 0], .agg #[.int .u8 1, .int .u8 0, .bool true], .agg #[.int .u8 2, .bool true, .bool false, .int .u32 0], .agg #[.int .u8 3, .int .u8 0, .bool false], .agg #[.int .u8 3, .bool true, .bool false, .int .u32 0], .agg #[.int .u8 3, .int .u8 0, .bool true], .agg #[.int .u8 4, .bool true, .bool false, .int .u32 0], .map (some b), undef, undef, undef, undef, undef, undef, undef, undef, undef, undef, undef, undef, undef, undef, undef, undef, undef, undef, undef, undef, undef, undef, undef, undef, undef, undef, undef, undef, undef, undef, undef, undef, undef, undef, undef, undef, undef, undef, undef, undef, undef, undef, undef, undef, undef, undef, undef, undef, undef, undef, undef]

/-- What holds, whichever have been carried out. -/
structure TabM (L : Array Bool) (b bA : Nat) (w W : World) : Prop where
  below : Below w.heap.size w W
  map : L[0]?.getD true = true → w.heap.size ≤ b ∧ MapF frV W b (mapOf tabJ (fun _ => none) L)
  nov : L[0]?.getD true = false → (∀ j ∈ tabJ, L[j.1]?.getD true = false) ∧ L[31]?.getD true = false ∧ L[33]?.getD true = false
  box : L[32]?.getD true = true → w.heap.size ≤ bA ∧ Boxed W bA 61 (if L[33]?.getD true then .map (some b) else .map none)
  none2 : L[32]?.getD true = false → L[33]?.getD true = false
  lst : ∀ j ∈ tabJ, L[j.1]?.getD true = false → L[33]?.getD true = false
theorem tabJ_mem {j : Ent FK} (h : j ∈ tabJ) : j.1 = 3 ∨ j.1 = 6 ∨ j.1 = 9 ∨ j.1 = 12 ∨ j.1 = 15 ∨ j.1 = 18 ∨ j.1 = 21 ∨ j.1 = 24 ∨ j.1 = 27 ∨ j.1 = 30 := by
  simp only [tabJ, List.mem_cons, List.not_mem_nil, or_false] at h
  rcases h with rfl | rfl | rfl | rfl | rfl | rfl | rfl | rfl | rfl | rfl <;> simp
theorem lst_far {L : Array Bool} (h : ∀ j ∈ tabJ, L[j.1]?.getD true = false → L[33]?.getD true = false) {i : Nat} (hi : 33 ≠ i) : ∀ j ∈ tabJ, (L.setIfInBounds i true)[j.1]?.getD true = false → (L.setIfInBounds i true)[33]?.getD true = false := by
  intro j hj h0
  rw [getD_far true hi]
  by_cases e : j.1 = i
  · rw [e, getD_same] at h0
    cases h0
  · rw [getD_far true e] at h0
    exact h j hj h0
theorem mapOf_far {J : List (Ent FK)} {m0 : FK → Option Value} {L : Array Bool} {i : Nat} (h : ∀ j ∈ J, j.1 ≠ i) : mapOf J m0 (L.setIfInBounds i true) = mapOf J m0 L := by
  funext y
  unfold mapOf
  have : ∀ J' : List (Ent FK), (∀ j ∈ J', j.1 ≠ i) → (J'.find? fun j => decide (j.2.1 = y) && (L.setIfInBounds i true).getD j.1 false) = (J'.find? fun j => decide (j.2.1 = y) && L.getD j.1 false) := by
    intro J'
    induction J' with
    | nil => intro _; rfl
    | cons x r ih =>
      intro h'
      rw [List.find?_cons, List.find?_cons, ih fun j hj => h' j (by simp [hj])]
      simp only [Array.getD_eq_getD_getElem?]
      rw [getD_far false (h' x (by simp))]
  rw [this J h]
theorem Boxed.below {W W' : World} {B : Nat} {t : TypeId} {v : Value} (h : Boxed W B t v) (k : Below W.heap.size W W') : Boxed W' B t v := (k.block B (Array.getElem?_eq_some_iff.1 (show W.heap[B]? = some _ from h)).1).trans h
theorem TabM.other {L : Array Bool} {b bA : Nat} {w W W' : World} (h : TabM L b bA w W) {i : Nat} (hi : i ≠ 0 ∧ i ≠ 31 ∧ i ≠ 32 ∧ i ≠ 33 ∧ i ≠ 3 ∧ i ≠ 6 ∧ i ≠ 9 ∧ i ≠ 12 ∧ i ≠ 15 ∧ i ≠ 18 ∧ i ≠ 21 ∧ i ≠ 24 ∧ i ≠ 27 ∧ i ≠ 30) (hb : Below W.heap.size W W') : TabM (L.setIfInBounds i true) b bA w W' := by
  have hj : ∀ j ∈ tabJ, j.1 ≠ i := fun j hj => by have := tabJ_mem hj; omega
  refine ⟨h.below.trans (hb.mono h.below.size), fun h0 => ?_, fun h0 => ?_, fun h0 => ?_, fun h0 => ?_, lst_far h.lst (by omega)⟩
  · rw [getD_far true (by omega)] at h0
    rw [mapOf_far hj]
    exact ⟨(h.map h0).1, MapF.below (h.map h0).2 hb⟩
  · rw [getD_far true (by omega)] at h0
    rw [getD_far true (by omega), getD_far true (by omega)]
    exact ⟨fun j hm => by rw [getD_far true (hj j hm)]; exact (h.nov h0).1 j hm, (h.nov h0).2⟩
  · rw [getD_far true (by omega)] at h0
    rw [getD_far true (by omega)]
    exact ⟨(h.box h0).1, Boxed.below (h.box h0).2 hb⟩
  · rw [getD_far true (by omega)] at h0 ⊢
    exact h.none2 h0
theorem TabM.move {L : Array Bool} {b bA : Nat} {w W : World} (h : TabM L b bA w W) (h0 : L[0]?.getD true = true) : TabM (L.setIfInBounds 31 true) b bA w W := by
  have hj : ∀ j ∈ tabJ, j.1 ≠ 31 := fun j hj => by have := tabJ_mem hj; omega
  refine ⟨h.below, fun _ => ?_, fun h1 => ?_, fun h1 => ?_, fun h1 => ?_, lst_far h.lst (by omega)⟩
  · rw [mapOf_far hj]
    exact h.map h0
  · rw [getD_far true (by omega), h0] at h1
    cases h1
  · rw [getD_far true (by omega)] at h1
    rw [getD_far true (by omega)]
    exact h.box h1
  · rw [getD_far true (by omega)] at h1 ⊢
    exact h.none2 h1
theorem TabM.make {L : Array Bool} {b bA : Nat} {w W : World} (h : TabM L b bA w W) (h0 : L[0]?.getD true = false) : TabM (L.setIfInBounds 0 true) W.heap.size bA w (W.alloc (.map #[] 0)) := by
  have hj : ∀ j ∈ tabJ, j.1 ≠ 0 := fun j hj => by have := tabJ_mem hj; omega
  have h33 := (h.nov h0).2.2
  refine ⟨h.below.alloc h.below.size _, fun _ => ⟨h.below.size, ?_⟩, fun h1 => ?_, fun h1 => ?_, fun h1 => ?_, lst_far h.lst (by omega)⟩
  · rw [mapOf_far hj, mapOf_none]
    · exact MapF.made W
    · intro j hm
      have := (h.nov h0).1 j hm
      cases hq : L[j.1]? with
      | none => rw [Array.getD_eq_getD_getElem?, hq]; rfl
      | some q => rw [hq] at this; rw [Array.getD_eq_getD_getElem?, hq]; exact this
  · rw [getD_same] at h1
    cases h1
  · rw [getD_far true (by omega)] at h1
    rw [getD_far true (by omega), h33]
    have := h.box h1
    rw [h33] at this
    exact ⟨this.1, this.2.alloc _⟩
  · rw [getD_far true (by omega)] at h1 ⊢
    exact h.none2 h1
theorem TabM.box1 {L : Array Bool} {b bA : Nat} {w W : World} (h : TabM L b bA w W) (h0 : L[32]?.getD true = false) : TabM (L.setIfInBounds 32 true) b W.heap.size w (W.alloc (.cells #[.map none] 61)) := by
  have hj : ∀ j ∈ tabJ, j.1 ≠ 32 := fun j hj => by have := tabJ_mem hj; omega
  have h33 := h.none2 h0
  refine ⟨h.below.alloc h.below.size _, fun h1 => ?_, fun h1 => ?_, fun _ => ⟨h.below.size, ?_⟩, fun h1 => ?_, lst_far h.lst (by omega)⟩
  · rw [getD_far true (by omega)] at h1
    rw [mapOf_far hj]
    exact ⟨(h.map h1).1, (h.map h1).2.alloc _⟩
  · rw [getD_far true (by omega)] at h1
    rw [getD_far true (by omega), getD_far true (by omega)]
    exact ⟨fun j hm => by rw [getD_far true (hj j hm)]; exact (h.nov h1).1 j hm, (h.nov h1).2⟩
  · rw [getD_far true (by omega), h33]
    exact Boxed.new W _ _
  · rw [getD_same] at h1
    cases h1
theorem TabM.ins {L : Array Bool} {b bA : Nat} {w W W' : World} (h : TabM L b bA w W) {j : Ent FK} (hj : j ∈ tabJ) (h0 : L[0]?.getD true = true) (hjl : L[j.1]?.getD true = false) (hs : j.1 < L.size)
    (hm : MapF frV W' b (fun y => if y = j.2.1 then some j.2.2 else mapOf tabJ (fun _ => .none) L y)) (hg : W.grownBy W' (some b)) : TabM (L.setIfInBounds j.1 true) b bA w W' := by
  have hn := tabJ_mem hj
  have h33 := h.lst j hj hjl
  have hb := (h.map h0).1
  refine ⟨h.below.grown hg h.below.size (fun k e => by simp at e; omega), fun _ => ⟨hb, ?_⟩, fun h1 => ?_, fun h1 => ?_, fun h1 => ?_, lst_far h.lst (by omega)⟩
  · rw [mapOf_set tabJ _ L hj hs tabJ_dist tabJ_one] at hm
    exact hm
  · rw [getD_far true (by omega), h0] at h1
    cases h1
  · rw [getD_far true (by omega)] at h1
    rw [getD_far true (by omega), h33]
    have := h.box h1
    rw [h33] at this
    refine ⟨this.1, this.2.kept hg (fun e => ?_)⟩
    have e' : bA = b := by simpa using e
    obtain ⟨l, c, hl, _⟩ := (h.map h0).2
    rw [← e', show W.heap[bA]? = _ from this.2] at hl
    cases hl
  · rw [getD_far true (by omega)] at h1 ⊢
    exact h.none2 h1
theorem TabM.put {L : Array Bool} {b bA : Nat} {w W : World} (h : TabM L b bA w W) (h0 : L[0]?.getD true = true) (h32 : L[32]?.getD true = true) (hall : ∀ j ∈ tabJ, L[j.1]?.getD true = true) : TabM (L.setIfInBounds 33 true) b bA w (W.setCell ⟨bA, 0, none⟩ (.map (some b))) := by
  have hj : ∀ j ∈ tabJ, j.1 ≠ 33 := fun j hj => by have := tabJ_mem hj; omega
  have hbx := h.box h32
  have hmp := h.map h0
  have hne : b ≠ bA := fun e => by
    obtain ⟨l, c, hl, _⟩ := hmp.2
    rw [e, show W.heap[bA]? = _ from hbx.2] at hl
    cases hl
  refine ⟨h.below.setCell hbx.1 _, fun h1 => ⟨hmp.1, ?_⟩, fun h1 => ?_, fun h1 => ⟨hbx.1, ?_⟩, fun h1 => ?_, fun j hm h1 => ?_⟩
  · rw [mapOf_far hj]
    exact hmp.2.kept (Below.heap_setCell W ⟨bA, 0, none⟩ _ b hne)
  · rw [getD_far true (by omega), h0] at h1
    cases h1
  · rw [getD_same]
    exact hbx.2.set _
  · rw [getD_far true (by omega), h32] at h1
    cases h1
  · rw [getD_far true (hj j hm), hall j hm] at h1
    cases h1
def TabI (w : World) (L : Array Bool) (a : Act) (W : World) : Prop := ∃ b bA, a = ⟨tabFrm L b bA, []⟩ ∧ TabM L b bA w W

set_option maxRecDepth 100000 in
theorem tabStep0 (w : World) (Q : Exit → Act → World → Prop) : StepAt Try.prog .any tabOps Q (TabI w) 0 := by
  refine StepAt.of (by (conv => lhs; whnf; arg 1; whnf)) (fun _ => rfl) ?_
  rintro L a W ⟨b, bA, rfl, M⟩ hs h0 hd K hK
  have hmm := @run_makeMap Try.prog
  have e31 := fun v => sl_no (M.nov h0).2.1 v
  unfold tabFrm
  go_simp
  refine hK.out _ _ ⟨W.heap.size, bA, ?_, M.make h0⟩
  simp [tabFrm, sl_set, sl_same, e31]
set_option maxRecDepth 100000 in
theorem tabStep1 (w : World) (Q : Exit → Act → World → Prop) : StepAt Try.prog .any tabOps Q (TabI w) 1 := by
  refine StepAt.of (by (conv => lhs; whnf; arg 1; whnf)) (fun _ => rfl) ?_
  rintro L a W ⟨b, bA, rfl, M⟩ hs h0 hd K hK
  unfold tabFrm
  go_simp
  refine hK.out _ _ ⟨b, bA, ?_, M.other (by decide) (Below.refl _ _)⟩
  simp [tabFrm, sl_set, sl_same]
set_option maxRecDepth 100000 in
theorem tabStep2 (w : World) (Q : Exit → Act → World → Prop) : StepAt Try.prog .any tabOps Q (TabI w) 2 := by
  refine StepAt.of (by (conv => lhs; whnf; arg 1; whnf)) (fun _ => rfl) ?_
  rintro L a W ⟨b, bA, rfl, M⟩ hs h0 hd K hK
  unfold tabFrm
  go_simp
  refine (fTook _ _).mono ?_
  rintro e w1 ⟨rfl, hb⟩
  (try go_simp)
  refine hK.out _ _ ⟨b, bA, ?_, M.other (by decide) hb⟩
  simp [tabFrm, sl_set, sl_same]
set_option maxRecDepth 100000 in
theorem tabStep3 (w : World) (Q : Exit → Act → World → Prop) : StepAt Try.prog .any tabOps Q (TabI w) 3 := by
  refine StepAt.of (by (conv => lhs; whnf; arg 1; whnf)) (fun _ => rfl) ?_
  rintro L a W ⟨b, bA, rfl, M⟩ hs h0 hd K hK
  have d0 : L[0]?.getD true = true := hd ⟨0, .data⟩ (by simp) rfl
  have d1 : L[1]?.getD true = true := hd ⟨1, .data⟩ (by simp) rfl
  have d2 : L[2]?.getD true = true := hd ⟨2, .data⟩ (by simp) rfl
  have e0 := sl_yes d0 (.map (some b))
  have e1 := sl_yes d1 (.agg #[.int .u8 0, .int .u8 1, .bool false])
  have e2 := sl_yes d2 (.agg #[.int .u8 1, .bool true, .bool false, .int .u32 0])
  unfold tabFrm
  refine wp_insert frKey Try.underlying61 rfl (by simp [Act.eval, e0]) (M.map d0).2 (0, 1, false) (.agg #[.int .u8 1, .bool true, .bool false, .int .u32 0]) (by simp [Act.eval, e1]) (by simp [Act.eval, e2]) ?_
  intro W1 hm hg
  refine hK.out _ _ ⟨b, bA, ?_, M.ins (j := (3, (0, 1, false), .agg #[.int .u8 1, .bool true, .bool false, .int .u32 0])) (by simp [tabJ]) d0 h0 (by rw [hs, tabSize]; decide) hm hg⟩
  simp [Act.put, tabFrm, sl_set]
set_option maxRecDepth 100000 in
theorem tabStep4 (w : World) (Q : Exit → Act → World → Prop) : StepAt Try.prog .any tabOps Q (TabI w) 4 := by
  refine StepAt.of (by (conv => lhs; whnf; arg 1; whnf)) (fun _ => rfl) ?_
  rintro L a W ⟨b, bA, rfl, M⟩ hs h0 hd K hK
  unfold tabFrm
  go_simp
  refine hK.out _ _ ⟨b, bA, ?_, M.other (by decide) (Below.refl _ _)⟩
  simp [tabFrm, sl_set, sl_same]
set_option maxRecDepth 100000 in
theorem tabStep5 (w : World) (Q : Exit → Act → World → Prop) : StepAt Try.prog .any tabOps Q (TabI w) 5 := by
  refine StepAt.of (by (conv => lhs; whnf; arg 1; whnf)) (fun _ => rfl) ?_
  rintro L a W ⟨b, bA, rfl, M⟩ hs h0 hd K hK
  unfold tabFrm
  go_simp
  refine (fTook _ _).mono ?_
  rintro e w1 ⟨rfl, hb⟩
  (try go_simp)
  refine hK.out _ _ ⟨b, bA, ?_, M.other (by decide) hb⟩
  simp [tabFrm, sl_set, sl_same]
set_option maxRecDepth 100000 in
theorem tabStep6 (w : World) (Q : Exit → Act → World → Prop) : StepAt Try.prog .any tabOps Q (TabI w) 6 := by
  refine StepAt.of (by (conv => lhs; whnf; arg 1; whnf)) (fun _ => rfl) ?_
  rintro L a W ⟨b, bA, rfl, M⟩ hs h0 hd K hK
  have d0 : L[0]?.getD true = true := hd ⟨0, .data⟩ (by simp) rfl
  have d4 : L[4]?.getD true = true := hd ⟨4, .data⟩ (by simp) rfl
  have d5 : L[5]?.getD true = true := hd ⟨5, .data⟩ (by simp) rfl
  have e0 := sl_yes d0 (.map (some b))
  have e1 := sl_yes d4 (.agg #[.int .u8 0, .int .u8 1, .bool true])
  have e2 := sl_yes d5 (.agg #[.int .u8 2, .bool true, .bool false, .int .u32 0])
  unfold tabFrm
  refine wp_insert frKey Try.underlying61 rfl (by simp [Act.eval, e0]) (M.map d0).2 (0, 1, true) (.agg #[.int .u8 2, .bool true, .bool false, .int .u32 0]) (by simp [Act.eval, e1]) (by simp [Act.eval, e2]) ?_
  intro W1 hm hg
  refine hK.out _ _ ⟨b, bA, ?_, M.ins (j := (6, (0, 1, true), .agg #[.int .u8 2, .bool true, .bool false, .int .u32 0])) (by simp [tabJ]) d0 h0 (by rw [hs, tabSize]; decide) hm hg⟩
  simp [Act.put, tabFrm, sl_set]
set_option maxRecDepth 100000 in
theorem tabStep7 (w : World) (Q : Exit → Act → World → Prop) : StepAt Try.prog .any tabOps Q (TabI w) 7 := by
  refine StepAt.of (by (conv => lhs; whnf; arg 1; whnf)) (fun _ => rfl) ?_
  rintro L a W ⟨b, bA, rfl, M⟩ hs h0 hd K hK
  unfold tabFrm
  go_simp
  refine hK.out _ _ ⟨b, bA, ?_, M.other (by decide) (Below.refl _ _)⟩
  simp [tabFrm, sl_set, sl_same]
set_option maxRecDepth 100000 in
theorem tabStep8 (w : World) (Q : Exit → Act → World → Prop) : StepAt Try.prog .any tabOps Q (TabI w) 8 := by
  refine StepAt.of (by (conv => lhs; whnf; arg 1; whnf)) (fun _ => rfl) ?_
  rintro L a W ⟨b, bA, rfl, M⟩ hs h0 hd K hK
  unfold tabFrm
  go_simp
  refine (fReset _ _).mono ?_
  rintro e w1 ⟨rfl, hb⟩
  (try go_simp)
  refine hK.out _ _ ⟨b, bA, ?_, M.other (by decide) hb⟩
  simp [tabFrm, sl_set, sl_same]
set_option maxRecDepth 100000 in
theorem tabStep9 (w : World) (Q : Exit → Act → World → Prop) : StepAt Try.prog .any tabOps Q (TabI w) 9 := by
  refine StepAt.of (by (conv => lhs; whnf; arg 1; whnf)) (fun _ => rfl) ?_
  rintro L a W ⟨b, bA, rfl, M⟩ hs h0 hd K hK
  have d0 : L[0]?.getD true = true := hd ⟨0, .data⟩ (by simp) rfl
  have d7 : L[7]?.getD true = true := hd ⟨7, .data⟩ (by simp) rfl
  have d8 : L[8]?.getD true = true := hd ⟨8, .data⟩ (by simp) rfl
  have e0 := sl_yes d0 (.map (some b))
  have e1 := sl_yes d7 (.agg #[.int .u8 1, .int .u8 1, .bool false])
  have e2 := sl_yes d8 (.agg #[.int .u8 5, .bool false, .bool false, .int .u32 1])
  unfold tabFrm
  refine wp_insert frKey Try.underlying61 rfl (by simp [Act.eval, e0]) (M.map d0).2 (1, 1, false) (.agg #[.int .u8 5, .bool false, .bool false, .int .u32 1]) (by simp [Act.eval, e1]) (by simp [Act.eval, e2]) ?_
  intro W1 hm hg
  refine hK.out _ _ ⟨b, bA, ?_, M.ins (j := (9, (1, 1, false), .agg #[.int .u8 5, .bool false, .bool false, .int .u32 1])) (by simp [tabJ]) d0 h0 (by rw [hs, tabSize]; decide) hm hg⟩
  simp [Act.put, tabFrm, sl_set]
set_option maxRecDepth 100000 in
theorem tabStep10 (w : World) (Q : Exit → Act → World → Prop) : StepAt Try.prog .any tabOps Q (TabI w) 10 := by
  refine StepAt.of (by (conv => lhs; whnf; arg 1; whnf)) (fun _ => rfl) ?_
  rintro L a W ⟨b, bA, rfl, M⟩ hs h0 hd K hK
  unfold tabFrm
  go_simp
  refine hK.out _ _ ⟨b, bA, ?_, M.other (by decide) (Below.refl _ _)⟩
  simp [tabFrm, sl_set, sl_same]
set_option maxRecDepth 100000 in
theorem tabStep11 (w : World) (Q : Exit → Act → World → Prop) : StepAt Try.prog .any tabOps Q (TabI w) 11 := by
  refine StepAt.of (by (conv => lhs; whnf; arg 1; whnf)) (fun _ => rfl) ?_
  rintro L a W ⟨b, bA, rfl, M⟩ hs h0 hd K hK
  unfold tabFrm
  go_simp
  refine (fTook _ _).mono ?_
  rintro e w1 ⟨rfl, hb⟩
  (try go_simp)
  refine hK.out _ _ ⟨b, bA, ?_, M.other (by decide) hb⟩
  simp [tabFrm, sl_set, sl_same]
set_option maxRecDepth 100000 in
theorem tabStep12 (w : World) (Q : Exit → Act → World → Prop) : StepAt Try.prog .any tabOps Q (TabI w) 12 := by
  refine StepAt.of (by (conv => lhs; whnf; arg 1; whnf)) (fun _ => rfl) ?_
  rintro L a W ⟨b, bA, rfl, M⟩ hs h0 hd K hK
  have d0 : L[0]?.getD true = true := hd ⟨0, .data⟩ (by simp) rfl
  have d10 : L[10]?.getD true = true := hd ⟨10, .data⟩ (by simp) rfl
  have d11 : L[11]?.getD true = true := hd ⟨11, .data⟩ (by simp) rfl
  have e0 := sl_yes d0 (.map (some b))
  have e1 := sl_yes d10 (.agg #[.int .u8 1, .int .u8 1, .bool true])
  have e2 := sl_yes d11 (.agg #[.int .u8 2, .bool true, .bool false, .int .u32 0])
  unfold tabFrm
  refine wp_insert frKey Try.underlying61 rfl (by simp [Act.eval, e0]) (M.map d0).2 (1, 1, true) (.agg #[.int .u8 2, .bool true, .bool false, .int .u32 0]) (by simp [Act.eval, e1]) (by simp [Act.eval, e2]) ?_
  intro W1 hm hg
  refine hK.out _ _ ⟨b, bA, ?_, M.ins (j := (12, (1, 1, true), .agg #[.int .u8 2, .bool true, .bool false, .int .u32 0])) (by simp [tabJ]) d0 h0 (by rw [hs, tabSize]; decide) hm hg⟩
  simp [Act.put, tabFrm, sl_set]
set_option maxRecDepth 100000 in
theorem tabStep13 (w : World) (Q : Exit → Act → World → Prop) : StepAt Try.prog .any tabOps Q (TabI w) 13 := by
  refine StepAt.of (by (conv => lhs; whnf; arg 1; whnf)) (fun _ => rfl) ?_
  rintro L a W ⟨b, bA, rfl, M⟩ hs h0 hd K hK
  unfold tabFrm
  go_simp
  refine hK.out _ _ ⟨b, bA, ?_, M.other (by decide) (Below.refl _ _)⟩
  simp [tabFrm, sl_set, sl_same]
set_option maxRecDepth 100000 in
theorem tabStep14 (w : World) (Q : Exit → Act → World → Prop) : StepAt Try.prog .any tabOps Q (TabI w) 14 := by
  refine StepAt.of (by (conv => lhs; whnf; arg 1; whnf)) (fun _ => rfl) ?_
  rintro L a W ⟨b, bA, rfl, M⟩ hs h0 hd K hK
  unfold tabFrm
  go_simp
  refine (fReset _ _).mono ?_
  rintro e w1 ⟨rfl, hb⟩
  (try go_simp)
  refine hK.out _ _ ⟨b, bA, ?_, M.other (by decide) hb⟩
  simp [tabFrm, sl_set, sl_same]
set_option maxRecDepth 100000 in
theorem tabStep15 (w : World) (Q : Exit → Act → World → Prop) : StepAt Try.prog .any tabOps Q (TabI w) 15 := by
  refine StepAt.of (by (conv => lhs; whnf; arg 1; whnf)) (fun _ => rfl) ?_
  rintro L a W ⟨b, bA, rfl, M⟩ hs h0 hd K hK
  have d0 : L[0]?.getD true = true := hd ⟨0, .data⟩ (by simp) rfl
  have d13 : L[13]?.getD true = true := hd ⟨13, .data⟩ (by simp) rfl
  have d14 : L[14]?.getD true = true := hd ⟨14, .data⟩ (by simp) rfl
  have e0 := sl_yes d0 (.map (some b))
  have e1 := sl_yes d13 (.agg #[.int .u8 3, .int .u8 1, .bool false])
  have e2 := sl_yes d14 (.agg #[.int .u8 5, .bool false, .bool false, .int .u32 1])
  unfold tabFrm
  refine wp_insert frKey Try.underlying61 rfl (by simp [Act.eval, e0]) (M.map d0).2 (3, 1, false) (.agg #[.int .u8 5, .bool false, .bool false, .int .u32 1]) (by simp [Act.eval, e1]) (by simp [Act.eval, e2]) ?_
  intro W1 hm hg
  refine hK.out _ _ ⟨b, bA, ?_, M.ins (j := (15, (3, 1, false), .agg #[.int .u8 5, .bool false, .bool false, .int .u32 1])) (by simp [tabJ]) d0 h0 (by rw [hs, tabSize]; decide) hm hg⟩
  simp [Act.put, tabFrm, sl_set]
set_option maxRecDepth 100000 in
theorem tabStep16 (w : World) (Q : Exit → Act → World → Prop) : StepAt Try.prog .any tabOps Q (TabI w) 16 := by
  refine StepAt.of (by (conv => lhs; whnf; arg 1; whnf)) (fun _ => rfl) ?_
  rintro L a W ⟨b, bA, rfl, M⟩ hs h0 hd K hK
  unfold tabFrm
  go_simp
  refine hK.out _ _ ⟨b, bA, ?_, M.other (by decide) (Below.refl _ _)⟩
  simp [tabFrm, sl_set, sl_same]
set_option maxRecDepth 100000 in
theorem tabStep17 (w : World) (Q : Exit → Act → World → Prop) : StepAt Try.prog .any tabOps Q (TabI w) 17 := by
  refine StepAt.of (by (conv => lhs; whnf; arg 1; whnf)) (fun _ => rfl) ?_
  rintro L a W ⟨b, bA, rfl, M⟩ hs h0 hd K hK
  unfold tabFrm
  go_simp
  refine (fTook _ _).mono ?_
  rintro e w1 ⟨rfl, hb⟩
  (try go_simp)
  refine hK.out _ _ ⟨b, bA, ?_, M.other (by decide) hb⟩
  simp [tabFrm, sl_set, sl_same]
set_option maxRecDepth 100000 in
theorem tabStep18 (w : World) (Q : Exit → Act → World → Prop) : StepAt Try.prog .any tabOps Q (TabI w) 18 := by
  refine StepAt.of (by (conv => lhs; whnf; arg 1; whnf)) (fun _ => rfl) ?_
  rintro L a W ⟨b, bA, rfl, M⟩ hs h0 hd K hK
  have d0 : L[0]?.getD true = true := hd ⟨0, .data⟩ (by simp) rfl
  have d16 : L[16]?.getD true = true := hd ⟨16, .data⟩ (by simp) rfl
  have d17 : L[17]?.getD true = true := hd ⟨17, .data⟩ (by simp) rfl
  have e0 := sl_yes d0 (.map (some b))
  have e1 := sl_yes d16 (.agg #[.int .u8 3, .int .u8 1, .bool true])
  have e2 := sl_yes d17 (.agg #[.int .u8 4, .bool true, .bool false, .int .u32 0])
  unfold tabFrm
  refine wp_insert frKey Try.underlying61 rfl (by simp [Act.eval, e0]) (M.map d0).2 (3, 1, true) (.agg #[.int .u8 4, .bool true, .bool false, .int .u32 0]) (by simp [Act.eval, e1]) (by simp [Act.eval, e2]) ?_
  intro W1 hm hg
  refine hK.out _ _ ⟨b, bA, ?_, M.ins (j := (18, (3, 1, true), .agg #[.int .u8 4, .bool true, .bool false, .int .u32 0])) (by simp [tabJ]) d0 h0 (by rw [hs, tabSize]; decide) hm hg⟩
  simp [Act.put, tabFrm, sl_set]
set_option maxRecDepth 100000 in
theorem tabStep19 (w : World) (Q : Exit → Act → World → Prop) : StepAt Try.prog .any tabOps Q (TabI w) 19 := by
  refine StepAt.of (by (conv => lhs; whnf; arg 1; whnf)) (fun _ => rfl) ?_
  rintro L a W ⟨b, bA, rfl, M⟩ hs h0 hd K hK
  unfold tabFrm
  go_simp
  refine hK.out _ _ ⟨b, bA, ?_, M.other (by decide) (Below.refl _ _)⟩
  simp [tabFrm, sl_set, sl_same]
set_option maxRecDepth 100000 in
theorem tabStep20 (w : World) (Q : Exit → Act → World → Prop) : StepAt Try.prog .any tabOps Q (TabI w) 20 := by
  refine StepAt.of (by (conv => lhs; whnf; arg 1; whnf)) (fun _ => rfl) ?_
  rintro L a W ⟨b, bA, rfl, M⟩ hs h0 hd K hK
  unfold tabFrm
  go_simp
  refine (fTook _ _).mono ?_
  rintro e w1 ⟨rfl, hb⟩
  (try go_simp)
  refine hK.out _ _ ⟨b, bA, ?_, M.other (by decide) hb⟩
  simp [tabFrm, sl_set, sl_same]
set_option maxRecDepth 100000 in
theorem tabStep21 (w : World) (Q : Exit → Act → World → Prop) : StepAt Try.prog .any tabOps Q (TabI w) 21 := by
  refine StepAt.of (by (conv => lhs; whnf; arg 1; whnf)) (fun _ => rfl) ?_
  rintro L a W ⟨b, bA, rfl, M⟩ hs h0 hd K hK
  have d0 : L[0]?.getD true = true := hd ⟨0, .data⟩ (by simp) rfl
  have d19 : L[19]?.getD true = true := hd ⟨19, .data⟩ (by simp) rfl
  have d20 : L[20]?.getD true = true := hd ⟨20, .data⟩ (by simp) rfl
  have e0 := sl_yes d0 (.map (some b))
  have e1 := sl_yes d19 (.agg #[.int .u8 1, .int .u8 0, .bool false])
  have e2 := sl_yes d20 (.agg #[.int .u8 1, .bool true, .bool false, .int .u32 0])
  unfold tabFrm
  refine wp_insert frKey Try.underlying61 rfl (by simp [Act.eval, e0]) (M.map d0).2 (1, 0, false) (.agg #[.int .u8 1, .bool true, .bool false, .int .u32 0]) (by simp [Act.eval, e1]) (by simp [Act.eval, e2]) ?_
  intro W1 hm hg
  refine hK.out _ _ ⟨b, bA, ?_, M.ins (j := (21, (1, 0, false), .agg #[.int .u8 1, .bool true, .bool false, .int .u32 0])) (by simp [tabJ]) d0 h0 (by rw [hs, tabSize]; decide) hm hg⟩
  simp [Act.put, tabFrm, sl_set]
set_option maxRecDepth 100000 in
theorem tabStep22 (w : World) (Q : Exit → Act → World → Prop) : StepAt Try.prog .any tabOps Q (TabI w) 22 := by
  refine StepAt.of (by (conv => lhs; whnf; arg 1; whnf)) (fun _ => rfl) ?_
  rintro L a W ⟨b, bA, rfl, M⟩ hs h0 hd K hK
  unfold tabFrm
  go_simp
  refine hK.out _ _ ⟨b, bA, ?_, M.other (by decide) (Below.refl _ _)⟩
  simp [tabFrm, sl_set, sl_same]
set_option maxRecDepth 100000 in
theorem tabStep23 (w : World) (Q : Exit → Act → World → Prop) : StepAt Try.prog .any tabOps Q (TabI w) 23 := by
  refine StepAt.of (by (conv => lhs; whnf; arg 1; whnf)) (fun _ => rfl) ?_
  rintro L a W ⟨b, bA, rfl, M⟩ hs h0 hd K hK
  unfold tabFrm
  go_simp
  refine (fTook _ _).mono ?_
  rintro e w1 ⟨rfl, hb⟩
  (try go_simp)
  refine hK.out _ _ ⟨b, bA, ?_, M.other (by decide) hb⟩
  simp [tabFrm, sl_set, sl_same]
set_option maxRecDepth 100000 in
theorem tabStep24 (w : World) (Q : Exit → Act → World → Prop) : StepAt Try.prog .any tabOps Q (TabI w) 24 := by
  refine StepAt.of (by (conv => lhs; whnf; arg 1; whnf)) (fun _ => rfl) ?_
  rintro L a W ⟨b, bA, rfl, M⟩ hs h0 hd K hK
  have d0 : L[0]?.getD true = true := hd ⟨0, .data⟩ (by simp) rfl
  have d22 : L[22]?.getD true = true := hd ⟨22, .data⟩ (by simp) rfl
  have d23 : L[23]?.getD true = true := hd ⟨23, .data⟩ (by simp) rfl
  have e0 := sl_yes d0 (.map (some b))
  have e1 := sl_yes d22 (.agg #[.int .u8 1, .int .u8 0, .bool true])
  have e2 := sl_yes d23 (.agg #[.int .u8 2, .bool true, .bool false, .int .u32 0])
  unfold tabFrm
  refine wp_insert frKey Try.underlying61 rfl (by simp [Act.eval, e0]) (M.map d0).2 (1, 0, true) (.agg #[.int .u8 2, .bool true, .bool false, .int .u32 0]) (by simp [Act.eval, e1]) (by simp [Act.eval, e2]) ?_
  intro W1 hm hg
  refine hK.out _ _ ⟨b, bA, ?_, M.ins (j := (24, (1, 0, true), .agg #[.int .u8 2, .bool true, .bool false, .int .u32 0])) (by simp [tabJ]) d0 h0 (by rw [hs, tabSize]; decide) hm hg⟩
  simp [Act.put, tabFrm, sl_set]
set_option maxRecDepth 100000 in
theorem tabStep25 (w : World) (Q : Exit → Act → World → Prop) : StepAt Try.prog .any tabOps Q (TabI w) 25 := by
  refine StepAt.of (by (conv => lhs; whnf; arg 1; whnf)) (fun _ => rfl) ?_
  rintro L a W ⟨b, bA, rfl, M⟩ hs h0 hd K hK
  unfold tabFrm
  go_simp
  refine hK.out _ _ ⟨b, bA, ?_, M.other (by decide) (Below.refl _ _)⟩
  simp [tabFrm, sl_set, sl_same]
set_option maxRecDepth 100000 in
theorem tabStep26 (w : World) (Q : Exit → Act → World → Prop) : StepAt Try.prog .any tabOps Q (TabI w) 26 := by
  refine StepAt.of (by (conv => lhs; whnf; arg 1; whnf)) (fun _ => rfl) ?_
  rintro L a W ⟨b, bA, rfl, M⟩ hs h0 hd K hK
  unfold tabFrm
  go_simp
  refine (fTook _ _).mono ?_
  rintro e w1 ⟨rfl, hb⟩
  (try go_simp)
  refine hK.out _ _ ⟨b, bA, ?_, M.other (by decide) hb⟩
  simp [tabFrm, sl_set, sl_same]
set_option maxRecDepth 100000 in
theorem tabStep27 (w : World) (Q : Exit → Act → World → Prop) : StepAt Try.prog .any tabOps Q (TabI w) 27 := by
  refine StepAt.of (by (conv => lhs; whnf; arg 1; whnf)) (fun _ => rfl) ?_
  rintro L a W ⟨b, bA, rfl, M⟩ hs h0 hd K hK
  have d0 : L[0]?.getD true = true := hd ⟨0, .data⟩ (by simp) rfl
  have d25 : L[25]?.getD true = true := hd ⟨25, .data⟩ (by simp) rfl
  have d26 : L[26]?.getD true = true := hd ⟨26, .data⟩ (by simp) rfl
  have e0 := sl_yes d0 (.map (some b))
  have e1 := sl_yes d25 (.agg #[.int .u8 3, .int .u8 0, .bool false])
  have e2 := sl_yes d26 (.agg #[.int .u8 3, .bool true, .bool false, .int .u32 0])
  unfold tabFrm
  refine wp_insert frKey Try.underlying61 rfl (by simp [Act.eval, e0]) (M.map d0).2 (3, 0, false) (.agg #[.int .u8 3, .bool true, .bool false, .int .u32 0]) (by simp [Act.eval, e1]) (by simp [Act.eval, e2]) ?_
  intro W1 hm hg
  refine hK.out _ _ ⟨b, bA, ?_, M.ins (j := (27, (3, 0, false), .agg #[.int .u8 3, .bool true, .bool false, .int .u32 0])) (by simp [tabJ]) d0 h0 (by rw [hs, tabSize]; decide) hm hg⟩
  simp [Act.put, tabFrm, sl_set]
set_option maxRecDepth 100000 in
theorem tabStep28 (w : World) (Q : Exit → Act → World → Prop) : StepAt Try.prog .any tabOps Q (TabI w) 28 := by
  refine StepAt.of (by (conv => lhs; whnf; arg 1; whnf)) (fun _ => rfl) ?_
  rintro L a W ⟨b, bA, rfl, M⟩ hs h0 hd K hK
  unfold tabFrm
  go_simp
  refine hK.out _ _ ⟨b, bA, ?_, M.other (by decide) (Below.refl _ _)⟩
  simp [tabFrm, sl_set, sl_same]
set_option maxRecDepth 100000 in
theorem tabStep29 (w : World) (Q : Exit → Act → World → Prop) : StepAt Try.prog .any tabOps Q (TabI w) 29 := by
  refine StepAt.of (by (conv => lhs; whnf; arg 1; whnf)) (fun _ => rfl) ?_
  rintro L a W ⟨b, bA, rfl, M⟩ hs h0 hd K hK
  unfold tabFrm
  go_simp
  refine (fTook _ _).mono ?_
  rintro e w1 ⟨rfl, hb⟩
  (try go_simp)
  refine hK.out _ _ ⟨b, bA, ?_, M.other (by decide) hb⟩
  simp [tabFrm, sl_set, sl_same]
set_option maxRecDepth 100000 in
theorem tabStep30 (w : World) (Q : Exit → Act → World → Prop) : StepAt Try.prog .any tabOps Q (TabI w) 30 := by
  refine StepAt.of (by (conv => lhs; whnf; arg 1; whnf)) (fun _ => rfl) ?_
  rintro L a W ⟨b, bA, rfl, M⟩ hs h0 hd K hK
  have d0 : L[0]?.getD true = true := hd ⟨0, .data⟩ (by simp) rfl
  have d28 : L[28]?.getD true = true := hd ⟨28, .data⟩ (by simp) rfl
  have d29 : L[29]?.getD true = true := hd ⟨29, .data⟩ (by simp) rfl
  have e0 := sl_yes d0 (.map (some b))
  have e1 := sl_yes d28 (.agg #[.int .u8 3, .int .u8 0, .bool true])
  have e2 := sl_yes d29 (.agg #[.int .u8 4, .bool true, .bool false, .int .u32 0])
  unfold tabFrm
  refine wp_insert frKey Try.underlying61 rfl (by simp [Act.eval, e0]) (M.map d0).2 (3, 0, true) (.agg #[.int .u8 4, .bool true, .bool false, .int .u32 0]) (by simp [Act.eval, e1]) (by simp [Act.eval, e2]) ?_
  intro W1 hm hg
  refine hK.out _ _ ⟨b, bA, ?_, M.ins (j := (30, (3, 0, true), .agg #[.int .u8 4, .bool true, .bool false, .int .u32 0])) (by simp [tabJ]) d0 h0 (by rw [hs, tabSize]; decide) hm hg⟩
  simp [Act.put, tabFrm, sl_set]
set_option maxRecDepth 100000 in
theorem tabStep31 (w : World) (Q : Exit → Act → World → Prop) : StepAt Try.prog .any tabOps Q (TabI w) 31 := by
  refine StepAt.of (by (conv => lhs; whnf; arg 1; whnf)) (fun _ => rfl) ?_
  rintro L a W ⟨b, bA, rfl, M⟩ hs h0 hd K hK
  have d0 : L[0]?.getD true = true := hd ⟨0, .data⟩ (by simp) rfl
  have e0 := sl_yes d0 (.map (some b))
  unfold tabFrm
  go_simp
  refine hK.out _ _ ⟨b, bA, ?_, M.move d0⟩
  simp [tabFrm, sl_set, sl_same, e0]
set_option maxRecDepth 100000 in
theorem tabStep32 (w : World) (Q : Exit → Act → World → Prop) : StepAt Try.prog .any tabOps Q (TabI w) 32 := by
  refine StepAt.of (by (conv => lhs; whnf; arg 1; whnf)) (fun _ => rfl) ?_
  rintro L a W ⟨b, bA, rfl, M⟩ hs h0 hd K hK
  unfold tabFrm
  go_simp
  refine hK.out _ _ ⟨b, W.heap.size, ?_, M.box1 h0⟩
  simp [tabFrm, sl_set, sl_same]
set_option maxRecDepth 100000 in
theorem tabStep33 (w : World) (Q : Exit → Act → World → Prop) : StepAt Try.prog .any tabOps Q (TabI w) 33 := by
  refine StepAt.of (by (conv => lhs; whnf; arg 1; whnf)) (fun _ => rfl) ?_
  rintro L a W ⟨b, bA, rfl, M⟩ hs h0 hd K hK
  have d0 : L[0]?.getD true = true := hd ⟨0, .phase⟩ (by simp) rfl
  have d1 : L[1]?.getD true = true := hd ⟨1, .phase⟩ (by simp) rfl
  have d2 : L[2]?.getD true = true := hd ⟨2, .phase⟩ (by simp) rfl
  have d3 : L[3]?.getD true = true := hd ⟨3, .phase⟩ (by simp) rfl
  have d4 : L[4]?.getD true = true := hd ⟨4, .phase⟩ (by simp) rfl
  have d5 : L[5]?.getD true = true := hd ⟨5, .phase⟩ (by simp) rfl
  have d6 : L[6]?.getD true = true := hd ⟨6, .phase⟩ (by simp) rfl
  have d7 : L[7]?.getD true = true := hd ⟨7, .phase⟩ (by simp) rfl
  have d8 : L[8]?.getD true = true := hd ⟨8, .phase⟩ (by simp) rfl
  have d9 : L[9]?.getD true = true := hd ⟨9, .phase⟩ (by simp) rfl
  have d10 : L[10]?.getD true = true := hd ⟨10, .phase⟩ (by simp) rfl
  have d11 : L[11]?.getD true = true := hd ⟨11, .phase⟩ (by simp) rfl
  have d12 : L[12]?.getD true = true := hd ⟨12, .phase⟩ (by simp) rfl
  have d13 : L[13]?.getD true = true := hd ⟨13, .phase⟩ (by simp) rfl
  have d14 : L[14]?.getD true = true := hd ⟨14, .phase⟩ (by simp) rfl
  have d15 : L[15]?.getD true = true := hd ⟨15, .phase⟩ (by simp) rfl
  have d16 : L[16]?.getD true = true := hd ⟨16, .phase⟩ (by simp) rfl
  have d17 : L[17]?.getD true = true := hd ⟨17, .phase⟩ (by simp) rfl
  have d18 : L[18]?.getD true = true := hd ⟨18, .phase⟩ (by simp) rfl
  have d19 : L[19]?.getD true = true := hd ⟨19, .phase⟩ (by simp) rfl
  have d20 : L[20]?.getD true = true := hd ⟨20, .phase⟩ (by simp) rfl
  have d21 : L[21]?.getD true = true := hd ⟨21, .phase⟩ (by simp) rfl
  have d22 : L[22]?.getD true = true := hd ⟨22, .phase⟩ (by simp) rfl
  have d23 : L[23]?.getD true = true := hd ⟨23, .phase⟩ (by simp) rfl
  have d24 : L[24]?.getD true = true := hd ⟨24, .phase⟩ (by simp) rfl
  have d25 : L[25]?.getD true = true := hd ⟨25, .phase⟩ (by simp) rfl
  have d26 : L[26]?.getD true = true := hd ⟨26, .phase⟩ (by simp) rfl
  have d27 : L[27]?.getD true = true := hd ⟨27, .phase⟩ (by simp) rfl
  have d28 : L[28]?.getD true = true := hd ⟨28, .phase⟩ (by simp) rfl
  have d29 : L[29]?.getD true = true := hd ⟨29, .chain⟩ (by simp) rfl
  have d30 : L[30]?.getD true = true := hd ⟨30, .phase⟩ (by simp) rfl
  have d31 : L[31]?.getD true = true := hd ⟨31, .data⟩ (by simp) rfl
  have d32 : L[32]?.getD true = true := hd ⟨32, .data⟩ (by simp) rfl
  have e0 := sl_yes d31 (.map (some b))
  have e1 := sl_yes d32 (.pointer (some ⟨bA, 0, none⟩))
  have h33 := h0
  have hall : ∀ j ∈ tabJ, L[j.1]?.getD true = true := by
    intro j hj
    simp only [tabJ, List.mem_cons, List.not_mem_nil, or_false] at hj
    rcases hj with rfl | rfl | rfl | rfl | rfl | rfl | rfl | rfl | rfl | rfl <;> assumption
  have bx := (M.box d32).2
  rw [h33] at bx
  have bc := bx.cell
  have bf := bx.frozen
  unfold tabFrm
  go_simp
  refine hK.out _ _ ⟨b, bA, ?_, M.put d0 d32 hall⟩
  simp [tabFrm, sl_set, e0, e1]
theorem tabSteps (w : World) (Q : Exit → Act → World → Prop) : ∀ i, i < tabOps.size → StepAt Try.prog .any tabOps Q (TabI w) i := by
  intro i hi
  rw [tabSize] at hi
  rcases (by omega : i = 0 ∨ i = 1 ∨ i = 2 ∨ i = 3 ∨ i = 4 ∨ i = 5 ∨ i = 6 ∨ i = 7 ∨ i = 8 ∨ i = 9 ∨ i = 10 ∨ i = 11 ∨ i = 12 ∨ i = 13 ∨ i = 14 ∨ i = 15 ∨ i = 16 ∨ i = 17 ∨ i = 18 ∨ i = 19 ∨ i = 20 ∨ i = 21 ∨ i = 22 ∨ i = 23 ∨ i = 24 ∨ i = 25 ∨ i = 26 ∨ i = 27 ∨ i = 28 ∨ i = 29 ∨ i = 30 ∨ i = 31 ∨ i = 32 ∨ i = 33) with rfl | rfl | rfl | rfl | rfl | rfl | rfl | rfl | rfl | rfl | rfl | rfl | rfl | rfl | rfl | rfl | rfl | rfl | rfl | rfl | rfl | rfl | rfl | rfl | rfl | rfl | rfl | rfl | rfl | rfl | rfl | rfl | rfl | rfl
  · exact tabStep0 w Q
  · exact tabStep1 w Q
  · exact tabStep2 w Q
  · exact tabStep3 w Q
  · exact tabStep4 w Q
  · exact tabStep5 w Q
  · exact tabStep6 w Q
  · exact tabStep7 w Q
  · exact tabStep8 w Q
  · exact tabStep9 w Q
  · exact tabStep10 w Q
  · exact tabStep11 w Q
  · exact tabStep12 w Q
  · exact tabStep13 w Q
  · exact tabStep14 w Q
  · exact tabStep15 w Q
  · exact tabStep16 w Q
  · exact tabStep17 w Q
  · exact tabStep18 w Q
  · exact tabStep19 w Q
  · exact tabStep20 w Q
  · exact tabStep21 w Q
  · exact tabStep22 w Q
  · exact tabStep23 w Q
  · exact tabStep24 w Q
  · exact tabStep25 w Q
  · exact tabStep26 w Q
  · exact tabStep27 w Q
  · exact tabStep28 w Q
  · exact tabStep29 w Q
  · exact tabStep30 w Q
  · exact tabStep31 w Q
  · exact tabStep32 w Q
  · exact tabStep33 w Q
/-- The region. -/
theorem tabRegion (w : World) (Q : Exit → Act → World → Prop) (h : ∀ b bA W, Below w.heap.size w W → w.heap.size ≤ b → MapF frV W b (allOf tabJ fun _ => none) → w.heap.size ≤ bA → Boxed W bA 61 (.map (some b)) → Q .normal ⟨tabFrm1 b bA, []⟩ W) :
    wpAnyG Try.prog .any tabOps Q (fun _ => True) [] tabOps.size (Array.replicate tabOps.size false) ⟨#[.map none, undef, undef, undef, undef, undef, undef, undef, undef, undef, undef, undef, undef, undef, undef, undef, undef, undef, undef, undef, undef, undef, undef, undef, undef, undef, undef, undef, undef, undef, undef, undef, undef, undef, undef, undef, undef, undef, undef, undef, undef, undef, undef, undef, undef, undef, undef, undef, undef, undef, undef, undef, undef, undef, undef, undef, undef, undef, undef, undef, undef, undef, undef, undef, undef, undef, undef, undef, undef, undef, undef, undef, undef, undef, undef, undef, undef, undef, undef, undef, undef], []⟩ w.drew := by
  refine wpAnyG_steps (I := TabI w) (by as_aux_lemma => kernel_rfl) (tabSteps w Q) ?_ ?_
  · rintro L a W ⟨b, bA, rfl, M⟩ hs hall
    rw [tabSize] at hall
    have e : tabFrm L b bA = tabFrm1 b bA := by
      unfold tabFrm tabFrm1
      simp [sl, hall]
    rw [e]
    have hm := M.map (hall 0 (by decide))
    have hb := M.box (hall 32 (by decide))
    rw [hall 33 (by decide)] at hb
    refine h b bA W M.below hm.1 ?_ hb.1 hb.2
    have := hm.2
    rw [mapOf_all] at this
    · exact this
    · intro j hj
      have h1 := tabJ_mem hj
      have h2 := hall j.1 (by omega)
      have h3 : j.1 < L.size := by rw [hs, tabSize]; omega
      simp only [Array.getD_eq_getD_getElem?, Array.getElem?_eq_getElem h3, Option.getD_some] at h2 ⊢
      exact h2
  · refine ⟨0, 0, ?_, ?_⟩
    · rw [tabSize]
      unfold tabFrm
      simp [sl_start]
    · rw [tabSize]
      refine ⟨drew_below _ _, fun h => ?_, fun _ => ⟨fun j hj => ?_, ?_, ?_⟩, fun h => ?_, fun _ => ?_, fun _ _ _ => ?_⟩
      · simp at h
      · have h1 := tabJ_mem hj
        have h2 : j.1 < 34 := by omega
        simp [h2]
      · simp
      · simp
      · simp at h
      · simp
      · simp
end Go.Proofs.Ytaaeflomjcpfpaa
