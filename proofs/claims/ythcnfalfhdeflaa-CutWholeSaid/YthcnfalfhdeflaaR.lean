/- A range over a function whose iterator keeps state of its own in cells (blocks of which Pv tells): the loop's law for it; gotos within a scope. -/
import Derived.RangeFuncNested
import Derived.RangeFuncBound
import Derived.RangeFuncCalls
import Derived.RangeFuncLeaves
import Derived.RangeFuncBox
import Derived.Maps.OwnIn
import Derived.Shelf.Abstract
import Derived.Shelf.RegionOpen
import Derived.WalkKit
import Derived.OwnWalkIn
import Derived.TacticsInMore
import Derived.LoopNIn
import Derived.LoopIn
import Derived.Test.YthcnfalfhdeflaaBf
namespace Go.Proofs.Ythcnfalfhdeflaa
open Go.RowKit Go.Shelf

/-- What an iterator keeps to that may write the blocks of which Pv tells: as SeqStopsK, but J abides such stores too. -/
def SeqP {α : Type} (Pv : Nat → Prop) (F : Fence) (n : Nat) (P : Program) (g : Nat) (lb : Array Value) (encs : α → Array Value) (Kp : World → World → Prop) (S Sp : List α → Prop) (N : Nat) (w : World) : Prop :=
  ∀ (l : Nat) (J Jx : List α → World → Prop) (W : World), Below w.heap.size w W → AbidesFrom W.heap.size J → AbidesFrom W.heap.size Jx →
    (∀ (b : Nat), Pv b → ∀ pre W v, J pre W → J pre (W.setCell ⟨b, 0, none⟩ v)) →
    (∀ pre x W1, J pre W1 → pre.length < N → YieldAt F (n - 1) P l (encs x) W1 fun e W' =>
      (e = .returned (.bool true) ∧ J (pre ++ [x]) W' ∧ Kp W1 W') ∨ (e = .returned (.bool false) ∧ Jx (pre ++ [x]) W')) →
    J [] W →
    CallsIn F n P g (#[.func (.yield l) #[] #[]] ++ lb) W fun e W' => (∃ v, e = .returned v) ∧ ((∃ xs, S xs ∧ J xs W') ∨ (∃ pre, Sp pre ∧ Jx pre W'))

theorem heap_set_far (W : World) (b k : Nat) (v : Value) (h : k ≠ b) : (W.setCell ⟨b, 0, none⟩ v).heap[k]? = W.heap[k]? := Below.heap_setCell W ⟨b, 0, none⟩ v k h

/-- The loop's law. -/
theorem wpIn_range_priv {F : Fence} {n : Nat} {P : Program} {α : Type} {Pv : Nat → Prop} {g : Operand} {ps : Array Tmp} {assign body : Code} {Q : Exit → Act → World → Prop} {a : Act} {w : World}
    (hro : F.round = none) (h1 : 1 ≤ n) {gf : Nat} {lb : Array Value} (hg : a.eval g = .func (.func gf) #[] lb) (hFg : F.fn gf) (eg : ∀ args w, (callFunc gf args).run P w = .ok (.enter gf args) w)
    {encs : α → Array Value} {Kp : World → World → Prop} {S Sp : List α → Prop} {N : Nat} (hPv : ∀ b, Pv b → b < w.heap.size) (hseq : SeqP Pv F (n - 1) P gf lb encs Kp S Sp N w)
    (hKt : ∀ {A B C : World}, Kp A B → Kp B C → Kp A C) (hKb : ∀ (W : World) (l : Nat) (o o' : Obj), w.heap.size ≤ l → W.heap[l]? = some o → o.isCells = false → o.isWalk = false → Kp W (W.putObj l o')) (hps : ∀ x, (encs x).size = ps.size)
    (I : List α → World → Prop) (Ix : Code → List α → World → Prop) (hI : OwnFrom w.heap.size I) (hIx : ∀ c, OwnFrom w.heap.size (Ix c))
    (hIp : ∀ (b : Nat), Pv b → ∀ pre W v, I pre W → I pre (W.setCell ⟨b, 0, none⟩ v)) (h0 : I [] w)
    (hround : ∀ x : α, ∃ a₁ : Act, (∀ (l : Nat) (W : World) (K : Act → World → Prop), K a₁ W →
      assign.wpIn (F.inRound l) (n - 1 - 1) P (Exit.then K (fun _ _ _ => False)) { tmps := (ps.zip (encs x)).foldl (fun t (p, v) => t.setIfInBounds p v) a.tmps, defers := [] } W) ∧
      (∀ (l : Nat) (pre : List α) (W : World), I pre W → pre.length < N → body.wpIn (F.inRound l) (n - 1 - 1) P (ownPostG w.heap.size Kp I Ix (pre ++ [x]) W) a₁ W))
    (hdone : ∀ (D : Nat) (xs : List α) (W : World), w.heap.size ≤ D → S xs → I xs W → W.heap[D]? = some (.deferred (some [])) → Q .normal { a with defers := { target := .collected D, args := #[] } :: a.defers } W)
    (hstop : ∀ (D : Nat) (c : Code) (pre : List α) (W : World), w.heap.size ≤ D → Sp pre → Ix c pre W → W.heap[D]? = some (.deferred (some [])) → c.wpIn F n P Q { a with defers := { target := .collected D, args := #[] } :: a.defers } W) :
    (Code.rangeFunc g ps assign body).wpIn F n P Q a w := by
  refine wpIn_rangeFunc fun fn hfn => ?_
  rw [hro]
  -- the loop's record, in whatever state
  obtain ⟨rc, hrc⟩ : ∃ rc : LoopState → Option Code → Loop, rc = fun st pe => { state := st, pending := pe, fn, tmps := a.tmps, params := ps, assign, body, defers := w.heap.size } := ⟨_, rfl⟩
  have two : ∀ {A B : World} {row : Option Nat} {k : Nat} {o : Obj}, A.grownBy B row → (∀ r, row = some r → ∃ o : Obj, A.heap[r]? = some o ∧ o.isWalk = true) → A.heap[k]? = some o → o.isWalk = false → B.heap[k]? = some o :=
    fun hg' hr hk ho => (grownBy_keeps hg' hr hk ho).trans hk
  have hD : ((w.alloc (.deferred (some []))).alloc (.loop (rc .ready none))).heap[w.heap.size]? = some (.deferred (some [])) :=
    (Below.heap_alloc _ _ _ (by simp)).trans (World.alloc_heap_new w _)
  have hL : ((w.alloc (.deferred (some []))).alloc (.loop (rc .ready none))).heap[w.heap.size + 1]? = some (.loop (rc .ready none)) := by
    have := World.alloc_heap_new (w.alloc (.deferred (some []))) (.loop (rc .ready none))
    rwa [World.size_alloc] at this
  have hI2 : I [] ((w.alloc (.deferred (some []))).alloc (.loop (rc .ready none))) := hI.alloc _ (hI.alloc _ h0)
  have hb2 : Below w.heap.size w ((w.alloc (.deferred (some []))).alloc (.loop (rc .ready none))) := ((Below.refl _ w).alloc (Nat.le_refl _) _).alloc (by simp) _
  have henter := run_enterLoop_outer (P := P) (w := w) fn a.tmps ps assign body
  have hz2 : ((w.alloc (.deferred (some []))).alloc (.loop (rc .ready none))).heap.size = w.heap.size + 2 := by simp
  generalize hW1 : (w.alloc (.deferred (some []))).alloc (.loop (rc .ready none)) = W1 at hD hL hI2 hb2 hz2
  refine ⟨w.heap.size + 1, [{ target := .collected w.heap.size, args := #[] }], W1, { target := .fn (.func gf) lb, args := #[.func (.yield (w.heap.size + 1)) #[] #[]] }, W1, gf,
    #[.func (.yield (w.heap.size + 1)) #[] #[]] ++ lb, W1, ?_, ?_, ?_, ?_, fun _ => h1, ?_⟩
  · rw [← hW1, hrc]; exact henter
  · simp only [resolve, hg]
    simp [go_sem]
  · intro f' hf'; simp [Target.leads] at hf'; subst hf'; exact hFg
  · simp [invoke, go_sem, eg]
  refine (hseq (w.heap.size + 1)
    (fun pre W => I pre W ∧ W.heap[w.heap.size + 1]? = some (.loop (rc .ready none)) ∧ W.heap[w.heap.size]? = some (.deferred (some [])))
    (fun pre W => ∃ c, Ix c pre W ∧ W.heap[w.heap.size + 1]? = some (.loop (rc .done (some c))) ∧ W.heap[w.heap.size]? = some (.deferred (some [])))
    W1 hb2 ?abJ ?abX ?priv ?rounds ⟨hI2, hL, hD⟩).mono ?behind
  case abJ =>
    intro s A B row hs hg' hr
    refine ⟨hI s A B row hs.1 hg' fun r e => ?_, two hg' (fun r e => (hr r e).2) hs.2.1 rfl, two hg' (fun r e => (hr r e).2) hs.2.2 rfl⟩
    obtain ⟨hB, o, ho, hw⟩ := hr r e
    exact ⟨by omega, o, ho, Obj.not_cells_of_walk hw⟩
  case abX =>
    rintro s A B row ⟨c, hc, hl, hk⟩ hg' hr
    refine ⟨c, hIx c s A B row hc hg' fun r e => ?_, two hg' (fun r e => (hr r e).2) hl rfl, two hg' (fun r e => (hr r e).2) hk rfl⟩
    obtain ⟨hB, o, ho, hw⟩ := hr r e
    exact ⟨by omega, o, ho, Obj.not_cells_of_walk hw⟩
  case priv =>
    rintro b hb pre W v ⟨hi, hl, hk⟩
    have := hPv b hb
    exact ⟨hIp b hb pre W v hi, (heap_set_far W b _ v (by omega)).trans hl, (heap_set_far W b _ v (by omega)).trans hk⟩
  case rounds =>
    rintro pre x W ⟨hi, hl, hk⟩ hlen
    have hlt : w.heap.size + 1 < W.heap.size := (Array.getElem?_eq_some_iff.1 hl).1
    have hy := run_yield (P := P) (args := encs x) hl (by rw [hrc]; exact hps x)
    rw [hrc] at hy
    obtain ⟨a₁, hassign, hbody⟩ := hround x
    refine ⟨fn, _, assign, body, hy, roundIn_of_wpIn hfn (hassign _ W _ ⟨_, run_beginRound hl (by rw [hrc]), ?_⟩)⟩
    obtain ⟨W2, hW2⟩ : ∃ W2, W.putObj (w.heap.size + 1) (.loop { rc .ready none with state := .busy }) = W2 := ⟨_, rfl⟩
    have hl2 : W2.heap[w.heap.size + 1]? = some (.loop { rc .ready none with state := .busy }) := by rw [← hW2]; exact World.putObj_heap_same hlt
    have hk2 : W2.heap[w.heap.size]? = some (.deferred (some [])) := by rw [← hW2]; exact (World.putObj_heap_other (by omega)).trans hk
    have hKp2 : Kp W W2 := by rw [← hW2]; exact hKb _ _ _ _ (by omega) hl rfl rfl
    have hI3 : I pre W2 := by rw [← hW2]; exact hI.putObj _ hi (by omega) hl rfl
    have close : ∀ (jump : Option Code) (W3 : World), KeepsFrom w.heap.size W2 W3 →
        (Instr.endRound (w.heap.size + 1) jump).run P W3 = .ok (.bool jump.isNone) (W3.putObj (w.heap.size + 1) (.loop (rc (if jump.isNone then .ready else .done) jump))) ∧
        W3.heap[w.heap.size + 1]? = some (.loop { rc .ready none with state := .busy }) ∧
        (W3.putObj (w.heap.size + 1) (.loop (rc (if jump.isNone then .ready else .done) jump))).heap[w.heap.size + 1]? = some (.loop (rc (if jump.isNone then .ready else .done) jump)) ∧
        (W3.putObj (w.heap.size + 1) (.loop (rc (if jump.isNone then .ready else .done) jump))).heap[w.heap.size]? = some (.deferred (some [])) := by
      intro jump W3 hk3
      have hl3 := hk3.same _ _ (by omega) hl2 rfl
      have hend := run_endRound (P := P) jump hl3
      rw [hrc] at hend hl3 ⊢
      exact ⟨hend, hl3, World.putObj_heap_same (Array.getElem?_eq_some_iff.1 hl3).1, (World.putObj_heap_other (by omega)).trans (hk3.same _ _ (Nat.le_refl _) hk2 rfl)⟩
    rw [hW2]
    refine wpIn_mono (hbody _ pre _ hI3 hlen) ?_
    intro e a3 W3 hp
    cases e with
    | normal =>
      obtain ⟨hk3, hkp3, hi3⟩ := hp
      obtain ⟨hr, hl3, hl4, hk4⟩ := close none W3 hk3
      exact ⟨_, _, hr, .inl ⟨rfl, ⟨hI.putObj _ hi3 (by omega) hl3 rfl, hl4, hk4⟩, hKt (hKt hKp2 hkp3) (hKb _ _ _ _ (by omega) hl3 rfl rfl)⟩⟩
    | ret =>
      obtain ⟨hr, hl3, hl4, hk4⟩ := close (some .ret) W3 hp.1
      exact ⟨_, _, hr, .inr ⟨rfl, .ret, (hIx _).putObj _ hp.2 (by omega) hl3 rfl, hl4, hk4⟩⟩
    | exit id =>
      obtain ⟨hr, hl3, hl4, hk4⟩ := close (some (.exit id)) W3 hp.1
      exact ⟨_, _, hr, .inr ⟨rfl, (.exit id), (hIx _).putObj _ hp.2 (by omega) hl3 rfl, hl4, hk4⟩⟩
    | goto t =>
      obtain ⟨hr, hl3, hl4, hk4⟩ := close (some (.goto t)) W3 hp.1
      exact ⟨_, _, hr, .inr ⟨rfl, (.goto t), (hIx _).putObj _ hp.2 (by omega) hl3 rfl, hl4, hk4⟩⟩
    | panic ch => exact hp.elim
    | outgrown => exact hp.elim
  case behind =>
    rintro e W2 ⟨⟨v, rfl⟩, ⟨xs, hS, hi, hl, hk⟩ | ⟨pre, hSp, c, hi, hl, hk⟩⟩
    · have hend := run_endLoop (P := P) hl (by rw [hrc]; simp)
      rw [hrc] at hend
      exact ⟨none, _, hend, hdone _ xs _ (Nat.le_refl _) hS (hI.putObj _ hi (by omega) hl rfl) ((World.putObj_heap_other (by omega)).trans hk)⟩
    · have hend := run_endLoop (P := P) hl (by rw [hrc]; simp)
      rw [hrc] at hend
      exact ⟨some c, _, hend, hstop _ c pre _ (Nat.le_refl _) hSp ((hIx c).putObj _ hi (by omega) hl rfl) ((World.putObj_heap_other (by omega)).trans hk)⟩
/-- A scope in which the run jumps forward by goto at most n times. -/
def hop (P : Program) (c : Code) (Q : Exit → Act → World → Prop) : Nat → Exit → Act → World → Prop
  | n + 1, .goto l, a, w => ∃ rest, findLabel c l = some rest ∧ rest.wp P (hop P c Q n) a w
  | 0, .goto _, _, _ => False
  | _, e, a, w => Q e a w

theorem hop_jumps {P : Program} {c : Code} {b : Frame} {k : List Item} {cs : List Frame} {Q : Exit → Act → World → Prop} :
    ∀ (n : Nat) (d : Code) (a : Act) (w : World), d.wp P (hop P c Q n) a w →
      ∃ e a' w', Q e a' w' ∧ Arrives P (lone (b.at a (.code d :: .inScope c :: k)) cs w) b k cs e a' w' := by
  intro n
  induction n with
  | zero =>
    intro d a w h
    obtain ⟨e, a₁, w₁, hq, harr⟩ := h b (.inScope c :: k) cs
    cases e with
    | normal => exact ⟨.normal, a₁, w₁, hq, Steps.trans harr (.one step_inScope)⟩
    | exit id => exact ⟨.exit id, a₁, w₁, hq, fun k' hk => harr k' (by simp [exitTo, hk])⟩
    | goto l => exact hq.elim
    | ret => exact ⟨_, a₁, w₁, hq, harr⟩
    | panic ch => exact ⟨_, a₁, w₁, hq, harr⟩
    | outgrown => exact ⟨_, a₁, w₁, hq, harr⟩
  | succ n ih =>
    intro d a w h
    obtain ⟨e, a₁, w₁, hq, harr⟩ := h b (.inScope c :: k) cs
    cases e with
    | normal => exact ⟨.normal, a₁, w₁, hq, Steps.trans harr (.one step_inScope)⟩
    | exit id => exact ⟨.exit id, a₁, w₁, hq, fun k' hk => harr k' (by simp [exitTo, hk])⟩
    | goto l =>
      obtain ⟨rest, hf, hw⟩ := hq
      obtain ⟨e₂, a₂, w₂, hq₂, harr₂⟩ := ih rest a₁ w₁ hw
      have hg : gotoIn l (.inScope c :: k) = some (.code rest :: .inScope c :: k) := by simp [gotoIn, hf]
      exact ⟨e₂, a₂, w₂, hq₂, .of_steps (harr _ hg) harr₂⟩
    | ret => exact ⟨_, a₁, w₁, hq, harr⟩
    | panic ch => exact ⟨_, a₁, w₁, hq, harr⟩
    | outgrown => exact ⟨_, a₁, w₁, hq, harr⟩

theorem wp_scope_hop {P : Program} {c : Code} {Q : Exit → Act → World → Prop} {a : Act} {w : World} (n : Nat) (h : c.wp P (hop P c Q n) a w) :
    (Code.scope c).wp P Q a w := by
  intro b k cs
  obtain ⟨e, a', w', hq, harr⟩ := hop_jumps (b := b) (k := k) (cs := cs) n c a w h
  exact ⟨e, a', w', hq, .of_steps (.one step_scope) harr⟩

theorem hop_goto {P : Program} {c rest : Code} {Q : Exit → Act → World → Prop} {a : Act} {w : World} {n l : Nat} (hf : findLabel c l = some rest)
    (h : rest.wp P (hop P c Q n) a w) : hop P c Q (n + 1) (.goto l) a w := ⟨rest, hf, h⟩
theorem hop_ret {P : Program} {c : Code} {Q : Exit → Act → World → Prop} {a : Act} {w : World} {n : Nat} (h : Q .ret a w) : hop P c Q n .ret a w := by
  cases n <;> exact h
theorem wp_goto_hop {P : Program} {c rest : Code} {Q : Exit → Act → World → Prop} {a : Act} {w : World} {n l : Nat} (hf : findLabel c l = some rest)
    (h : rest.wp P (hop P c Q n) a w) : (Code.goto l).wp P (hop P c Q (n + 1)) a w := wp_goto (hop_goto hf h)
theorem wp_goto_then {P : Program} {c rest : Code} {Q : Exit → Act → World → Prop} {K : Act → World → Prop} {a : Act} {w : World} {n l : Nat} (hf : findLabel c l = some rest)
    (h : rest.wp P (hop P c Q n) a w) : (Code.goto l).wp P (Exit.then K (hop P c Q (n + 1))) a w := wp_goto (hop_goto (n := n) hf h)

/-- Block b lies as it lay. -/
def Same1 (b : Nat) (W W' : World) : Prop := W'.heap[b]? = W.heap[b]?
theorem Same1.refl (b : Nat) (W : World) : Same1 b W W := rfl
theorem Same1.trans {b : Nat} {A B C : World} (h : Same1 b A B) (k : Same1 b B C) : Same1 b A C := Eq.trans k h
theorem Same1.cell {b : Nat} {A B : World} (h : Same1 b A B) (off : Nat) : B.cell? ⟨b, off, none⟩ = A.cell? ⟨b, off, none⟩ := World.cell?_of_block h
theorem Same1.frozen {b : Nat} {A B : World} (h : Same1 b A B) (off : Nat) : B.frozen? ⟨b, off, none⟩ = A.frozen? ⟨b, off, none⟩ := World.frozen?_of_block h
theorem Same1.setCell {b : Nat} (W : World) {p : Addr} (h : b ≠ p.block) (v : Value) : Same1 b W (W.setCell p v) := Below.heap_setCell W p v b h
theorem Same1.below {b B : Nat} {W W' : World} (h : Below B W W') (hb : b < B) : Same1 b W W' := h.block b hb
theorem Same1.grown {b : Nat} {W W' : World} {row : Option Nat} (h : W.grownBy W' row) (hb : b < W.heap.size) (hr : some b ≠ row) : Same1 b W W' := h.block b hb hr
theorem Same1.put {b : Nat} {w : World} (hb : b < w.heap.size) (W : World) (l : Nat) (o o' : Obj) (hl : w.heap.size ≤ l) (_h : W.heap[l]? = some o) (_ : o.isCells = false) (_ : o.isWalk = false) : Same1 b W (W.putObj l o') :=
  World.putObj_heap_other (by omega)
/-- What holds one value in block b holds it still. -/
def KB (b : Nat) (t : TypeId) (W W' : World) : Prop := ∀ v, Boxed W b t v → Boxed W' b t v
theorem KB.trans {b : Nat} {t : TypeId} {A B C : World} (h : KB b t A B) (k : KB b t B C) : KB b t A C := fun v hv => k v (h v hv)
theorem KB.put {b : Nat} {t : TypeId} {w : World} (hb : b < w.heap.size) (W : World) (l : Nat) (o o' : Obj) (hl : w.heap.size ≤ l) (_h : W.heap[l]? = some o) (_ : o.isCells = false) (_ : o.isWalk = false) : KB b t W (W.putObj l o') :=
  fun _ hv => (World.putObj_heap_other (by omega)).trans hv
theorem boxed_keptN {W W' : World} {B : Nat} {t : TypeId} {v : Value} {row : Option Nat} (h : Boxed W B t v) (hg : W.grownBy W' row) (hr : ∀ r, row = some r → ∃ o : Obj, W.heap[r]? = some o ∧ o.isCells = false) : Boxed W' B t v :=
  h.kept hg fun e => by
    obtain ⟨o, ho, hc⟩ := hr B e.symm
    rw [show W.heap[B]? = _ from h] at ho
    cases ho
    cases hc
theorem Mine.keptN {base : Nat} {W W' : World} {A : Option Addr} {n c : Nat} {l : List Int} {row : Option Nat} (h : Mine base W A n c l) (hg : W.grownBy W' row) (hr : ∀ r, row = some r → ∃ o : Obj, W.heap[r]? = some o ∧ o.isCells = false) : Mine base W' A n c l := by
  refine ⟨⟨h.1.1, ?_⟩, h.2⟩
  rcases h.1.2 with h' | ⟨g, cap, cur, e, hb, hgk, hrest⟩
  · exact .inl h'
  · exact .inr ⟨g, cap, cur, e, hb, (grownBy_keeps_cells hg hr hgk rfl).trans hgk, hrest⟩
/-- A store into a box of another type leaves it as it lay. -/
theorem Mine.box {base : Nat} {W : World} {A : Option Addr} {n c : Nat} {l : List Int} (h : Mine base W A n c l) {B : Nat} {t : TypeId} {u : Value} (hb : Boxed W B t u) (ht : t ≠ 5) (v : Value) : Mine base (W.setCell ⟨B, 0, none⟩ v) A n c l :=
  h.far (fun g e e' => by
    have := hb.not_row ht h.1
    subst e
    exact this (by simp only at e'; simp [Value.ownBlock, e'])) v

/-- append(v, y) within a fence: v of the call's own. -/
theorem wpListIn_app1 {F : Fence} {nF : Nat} (W : World) {ops : Array Oper} {rest : List Oper} {o : Oper} {a : Act} {Q : Exit → Act → World → Prop} (hgd : o.guard = none) (s x : Operand)
    (ho : o.op = .call { callee := .builtin .append, args := #[s, x], argTypes := #[22, 22] })
    (base : Nat) (A : Option Addr) (n c : Nat) (l : List Int) (hs : a.eval s = .slice A n c) (hown : Mine base W A n c l) (y : Int) {g0 : Nat} (hx : a.eval x = .slice (some ⟨g0, 0, none⟩) 1 1) (hg0 : W.heap.size = g0)
    (hy : 0 ≤ y ∧ y ≤ 255) (hlen : n + 1 ≤ 140737488355328) (hbase : base ≤ W.heap.size)
    (h : ∀ A' c' w', Mine base w' A' (n + 1) c' (l ++ [y]) → (W.alloc (.cells #[.int .u8 y] 5)).grownBy w' (Value.slice A n c).ownBlock → (A' = A ∨ ∃ g, A' = some ⟨g, 0, none⟩ ∧ W.heap.size ≤ g) → wpListIn F nF Try.prog ops Q rest (a.put o.dst (.slice A' (n + 1) c')) w') :
    wpListIn F nF Try.prog ops Q (o :: rest) a (W.alloc (.cells #[.int .u8 y] 5)) := by
  subst hg0
  obtain ⟨i0, hi, hz0, hz1, hz2⟩ := info_parts info8
  refine wpListIn_append_own_at _ hgd s x 22 ho base 5 i0 (.int .u8 0) 1 1 Try.underlying22 hi hz0 hz1 hz2 rfl (by omega) (.slice A n c) n (l.map (Value.int .u8)) hs (hown.alloc _).1
    ⟨W.heap.size, 0, none⟩ 1 1 [.int .u8 y] hx rfl (cell_one_new _ _ _) (fun u hu => by simp at hu; subst hu; rfl) (by simp only [maxLen]; omega) (by omega) (by simp; omega) ?_
  intro v' w' hown' hgrow _ hat
  rcases hown'.2 with ⟨e, he⟩ | ⟨g, cap, cur, e, hr'⟩
  · omega
  · subst e
    refine h _ _ _ ⟨by rw [List.map_append]; exact hown', hown.2.append (Bs.one hy.1 hy.2)⟩ hgrow ?_
    rcases hat with hat | hat
    · rcases hown.cases with ⟨rfl, _⟩ | ⟨g', rfl, _⟩
      · simp [Value.ownBlock] at hat
      · simp [Value.ownBlock] at hat
        exact .inl (by rw [hat])
    · simp [Value.ownBlock] at hat
      exact .inr ⟨g, rfl, by omega⟩

/-- A byte. -/
abbrev Byte := { x : Int // 0 ≤ x ∧ x ≤ 255 }
theorem bs_val (l : List Byte) : Bs (l.map (·.1)) := fun y hy => by
  obtain ⟨x, _, rfl⟩ := List.mem_map.1 hy
  exact x.2
end Go.Proofs.Ythcnfalfhdeflaa
