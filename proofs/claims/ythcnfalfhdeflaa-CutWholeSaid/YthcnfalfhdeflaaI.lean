/- A region that draws its order, walked by hand: a load may be taken first though an operation that waits for it writes its cell; the same within a round of a range over a function. -/
import Derived.Test.YthcnfalfhdeflaaA
import Derived.Test.YthcnfalfhdeflaaT
namespace Go.Proofs.Ythcnfalfhdeflaa
open Go.RowKit Go.Shelf
set_option linter.unusedVariables false

section
variable {P : Program} {ops : Array Oper} {Q : Exit → Act → World → Prop} {md : Region.Mode} {S : World → Prop} {ex : List Nat}

/-- Whatever order is picked from here on, and S holds behind every operation that is carried out, but for those of ex. -/
def wpAnyG (P : Program) (md : Region.Mode) (ops : Array Oper) (Q : Exit → Act → World → Prop) (S : World → Prop) (ex : List Nat) : Nat → Array Bool → Act → World → Prop
  | 0, listed, a, w => Region.ready md ops listed = [] ∧ Q .normal a w
  | fuel + 1, listed, a, w =>
    (Region.ready md ops listed = [] → Q .normal a w) ∧
    ∀ i ∈ Region.ready md ops listed, wpOp P ops Q i (fun a' w' => (ex.contains i = false → S w') ∧ wpAnyG P md ops Q S ex fuel (listed.setIfInBounds i true) a' w') a w

theorem wpAny_of_G : ∀ (fuel : Nat) (listed : Array Bool) (a : Act) (w : World), wpAnyG P md ops Q S ex fuel listed a w → wpAny P md ops Q fuel listed a w
  | 0, _, _, _, h => h
  | fuel + 1, _, _, _, h => ⟨h.1, fun i hi => wpOp_mono (fun a' w' h' => wpAny_of_G fuel _ a' w' h'.2) (h.2 i hi)⟩

theorem wpAnyG_first {i : Nat} {oi : Oper} {v : Value} (hi : ops[i]? = some oi) (hsel : ∀ (j : Nat) (o : Oper) cs b, ops[j]? = some o → o.op ≠ .select cs b)
    (hex : ∀ j oj, ops[j]? = some oj → ex.contains j = true → ∃ e ∈ oj.after, Region.binds md e = true ∧ e.on = i)
    (hQ : ∀ c a w, Q (.panic c) (a.put oi.dst v) w → Q (.panic c) a w) :
    ∀ (fuel : Nat) (listed : Array Bool) (a : Act) (w : World),
      (∀ j oj, ops[j]? = some oj → j ≠ i → listed.getD j true = false → (∀ e ∈ oj.after, Region.binds md e = true → e.on ≠ i) → oi.apart ops oj = true) →
      i ∈ Region.ready md ops listed → ex.contains i = false → YieldsIf P ops S oi v a → S w →
      wpAnyG P md ops Q S ex fuel (listed.setIfInBounds i true) (a.put oi.dst v) w → wpAnyG P md ops Q S ex (fuel + 1) listed a w := by
  intro fuel
  induction fuel with
  | zero =>
    intro listed a w _ hr hxi hy hS H
    refine ⟨fun h => (by rw [h] at hr; cases hr), fun j hj => ?_⟩
    by_cases hji : j = i
    · subst hji; exact hy.wpOp hi hS ⟨fun _ => hS, H⟩
    · have := ready_mono hj hji
      rw [H.1] at this
      cases this
  | succ fuel ih =>
    intro listed a w hfree hr hxi hy hS H
    refine ⟨fun h => (by rw [h] at hr; cases hr), fun j hj => ?_⟩
    by_cases hji : j = i
    · subst hji; exact hy.wpOp hi hS ⟨fun _ => hS, H⟩
    · have h1 := H.2 j (ready_mono hj hji)
      obtain ⟨hjun, oj, hoj, hall⟩ := mem_ready.1 hj
      have hnot : ∀ e ∈ oj.after, Region.binds md e = true → e.on ≠ i := fun e he hb heq => by
        have h1 := hall e he hb
        have h0 := (mem_ready.1 hr).1
        rw [heq] at h1
        rcases Nat.lt_or_ge i listed.size with h' | h'
        · simp [h'] at h0 h1; rw [h0] at h1; cases h1
        · simp [Array.getElem?_eq_none h'] at h1
      have hxj : ex.contains j = false := by
        cases hx : ex.contains j
        · rfl
        · obtain ⟨e, he, hb, hon⟩ := hex j oj hoj hx
          exact absurd hon (hnot e he hb)
      have h2 := wpOp_putIf hoj (hfree j oj hoj hji hjun hnot) (fun cs b => hsel i oi cs b hi) (fun cs b => hsel j oj cs b hoj) hQ hy h1
      have hfree' : ∀ k ok, ops[k]? = some ok → k ≠ i → (listed.setIfInBounds j true).getD k true = false →
          (∀ e ∈ ok.after, Region.binds md e = true → e.on ≠ i) → oi.apart ops ok = true := fun k ok hk hki hun hno => by
        refine hfree k ok hk hki ?_ hno
        by_cases hjk : j = k
        · subst hjk; exact hjun
        · rw [getD_set_ne true hjk] at hun; exact hun
      refine wpOp_mono (fun a' w' h3 => ⟨h3.2.1, ih (listed.setIfInBounds j true) a' w' hfree' (ready_mono hr (Ne.symm hji)) hxi h3.1 (h3.2.1 hxj) ?_⟩) h2
      rw [Array.setIfInBounds_comm _ _ hji]
      exact h3.2.2

/-- Each of those of ex waits for i. -/
def waitB (md : Region.Mode) (ops : Array Oper) (ex : List Nat) (i : Nat) : Bool :=
  !ex.contains i && ex.all fun j => match ops[j]? with | some o => o.after.any (fun e => Region.binds md e && e.on == i) | none => true
/-- Take number i first. -/
theorem wpAnyG_take (i : Nat) {oi : Oper} {v : Value} {fuel : Nat} {listed : Array Bool} {a : Act} {w : World} (hi : ops[i]? = some oi)
    (hc : (Region.noSelect ops && Region.free md ops listed i && (Region.ready md ops listed).contains i && waitB md ops ex i) = true)
    (hQ : ∀ c a w, Q (.panic c) (a.put oi.dst v) w → Q (.panic c) a w) (hS : S w) (hy : YieldsIf P ops S oi v a)
    (h : wpAnyG P md ops Q S ex fuel (listed.setIfInBounds i true) (a.put oi.dst v) w) : wpAnyG P md ops Q S ex (fuel + 1) listed a w := by
  simp only [Bool.and_eq_true, waitB, Bool.not_eq_true', List.all_eq_true] at hc
  obtain ⟨⟨⟨h1, h2⟩, h3⟩, h4, h5⟩ := hc
  refine wpAnyG_first hi (Region.noSelect_spec h1) (fun j oj hj hx => ?_) hQ fuel listed a w (Region.free_spec hi h2) (by simpa using h3) h4 hy hS h
  have := h5 j (by simpa using hx)
  simp only [hj] at this
  obtain ⟨e, he, hb⟩ := Array.any_eq_true'.1 this
  simp only [Bool.and_eq_true, beq_iff_eq] at hb
  exact ⟨e, he, hb.1, hb.2⟩

/-- Number i alone may come up. -/
theorem wpAnyG_one (i : Nat) {o : Oper} {fuel : Nat} {listed : Array Bool} {a : Act} {w : World} (hr : Region.ready md ops listed = [i]) (ho : ops[i]? = some o)
    (h : ∀ K : Act → World → Prop, Shut (∀ a w, (ex.contains i = false → S w) → wpAnyG P md ops Q S ex fuel (listed.setIfInBounds i true) a w → K a w) → if Region.wanted o (yielded ops a.tmps) = true then Oper.wp P o a w K Q else K (a.put o.dst undef) w) :
    wpAnyG P md ops Q S ex (fuel + 1) listed a w :=
  ⟨fun h0 => (by rw [hr] at h0; cases h0), fun j hj => by
    rw [hr, List.mem_singleton] at hj
    subst hj
    exact wpOp_step ho (fun K' hK => h K' (fun a w hS hW => hK a w ⟨hS, hW⟩))⟩
/-- Two may come up. -/
theorem wpAnyG_two (i j : Nat) {oi oj : Oper} {fuel : Nat} {listed : Array Bool} {a : Act} {w : World} (hr : Region.ready md ops listed = [i, j]) (hoi : ops[i]? = some oi) (hoj : ops[j]? = some oj)
    (hi : ∀ K : Act → World → Prop, Shut (∀ a w, (ex.contains i = false → S w) → wpAnyG P md ops Q S ex fuel (listed.setIfInBounds i true) a w → K a w) → if Region.wanted oi (yielded ops a.tmps) = true then Oper.wp P oi a w K Q else K (a.put oi.dst undef) w)
    (hj : ∀ K : Act → World → Prop, Shut (∀ a w, (ex.contains j = false → S w) → wpAnyG P md ops Q S ex fuel (listed.setIfInBounds j true) a w → K a w) → if Region.wanted oj (yielded ops a.tmps) = true then Oper.wp P oj a w K Q else K (a.put oj.dst undef) w) :
    wpAnyG P md ops Q S ex (fuel + 1) listed a w :=
  ⟨fun h0 => (by rw [hr] at h0; cases h0), fun k hk => by
    rw [hr] at hk
    simp only [List.mem_cons, List.not_mem_nil, or_false] at hk
    rcases hk with rfl | rfl
    · exact wpOp_step hoi (fun K' hK => hi K' (fun a w hS hW => hK a w ⟨hS, hW⟩))
    · exact wpOp_step hoj (fun K' hK => hj K' (fun a w hS hW => hK a w ⟨hS, hW⟩))⟩
theorem wpAnyG_done {listed : Array Bool} {a : Act} {w : World} (hr : Region.ready md ops listed = []) (h : Q .normal a w) :
    ∀ fuel, wpAnyG P md ops Q S ex fuel listed a w
  | 0 => ⟨hr, h⟩
  | _ + 1 => ⟨fun _ => h, by rw [hr]; simp⟩
/-- The beginning. -/
theorem wp_region_G (S : World → Prop) (ex : List Nat) {id : Nat} {a : Act} {w : World} (hm : P.follows .mixedOrders = true)
    (h : wpAnyG P .any ops Q S ex ops.size (Array.replicate ops.size false) a w.drew) : (Code.region id ops true).wp P Q a w :=
  wp_region_any hm (wpAny_of_G _ _ _ _ h)

/-- No operation of these defers. -/
def noDefer (ops : Array Oper) : Bool := ops.all fun o => match o.op with | .defer _ => false | _ => true
theorem opIn_of_op {ro : Option Nat} {n : Nat} {o : Oper} {a : Act} {w : World} {K : Act → World → Prop} (hd : ∀ c, o.op ≠ .defer c) (h : o.wp P a w K Q) : o.wpIn (wideR ro) n P a w K Q := by
  refine ⟨fun _ _ => trivial, ?_⟩
  show o.uponIn (wideR ro) n P a K Q ((o.semAt ro a.eval).run P w)
  rw [Oper.semAt_eq _ _ _ hd]
  unfold Oper.wp at h
  generalize (execOp a.eval o).run P w = r at h ⊢
  cases r with
  | ok x w' =>
    cases x <;> simp only [Oper.upon] at h
    case value u => exact h
    case skip => exact h
    case defer d => exact h
    case enter f args => exact ⟨fun e => by simp [Fence.wide] at e, show CallsIn Fence.wide (n - 1) P f args w' _ from callsIn_wide.2 (h.mono fun e w'' he => by cases e <;> exact he)⟩
    case row r args => exact ⟨fun e => by simp [Fence.wide] at e, fun c cs _ => let ⟨v, w'', hr, hs⟩ := h c cs; ⟨v, w'', hr, stepsIn_wide.2 hs⟩⟩
  | halt x w' =>
    cases x <;> simp only [Oper.upon] at h
    case panic u => exact h
theorem anyIn_of_any {ro : Option Nat} {n : Nat} (hnd : noDefer ops = true) (hlo : ¬ LetsOut Q) : ∀ (fuel : Nat) (listed : Array Bool) (a : Act) (w : World), wpAny P md ops Q fuel listed a w → wpAnyIn (wideR ro) n P md ops Q fuel listed a w
  | 0, _, _, _, h => h
  | fuel + 1, listed, a, w, h => by
    refine ⟨h.1, fun i hi => ?_⟩
    have h2 := h.2 i hi
    unfold wpOp at h2
    unfold wpOpIn
    split at h2
    · rename_i hn
      simp only [hn]
      exact anyIn_of_any hnd hlo fuel _ _ _ h2
    · rename_i o ho
      simp only [ho]
      have hd : ∀ c, o.op ≠ .defer c := fun c hc => by
        have := Array.all_eq_true_iff_forall_mem.1 hnd o (Array.mem_of_getElem? ho)
        simp [hc] at this
      split at h2
      · rename_i hw
        rw [if_pos hw]
        rcases h2 with h2 | h2
        · exact opIn_of_op hd (Oper.wp_mono (fun a' w' h' => anyIn_of_any hnd hlo fuel _ a' w' h') h2)
        · exact absurd h2.2 hlo
      · rename_i hw
        rw [if_neg hw]
        exact ⟨fun _ _ => trivial, anyIn_of_any hnd hlo fuel _ _ _ h2⟩
/-- The beginning within a round. -/
theorem wpIn_region_GR (S : World → Prop) (ex : List Nat) {t n : Nat} {id : Nat} {a : Act} {w : World} (hm : P.follows .mixedOrders = true) (hnd : noDefer ops = true) (hlo : ¬ LetsOut Q)
    (h : wpAnyG P .any ops Q S ex ops.size (Array.replicate ops.size false) a w.drew) : (Code.region id ops true).wpIn (Fence.wide.inRound t) n P Q a w :=
  wpIn_region_any hm (anyIn_of_any (ro := some t) hnd hlo _ _ _ _ (wpAny_of_G _ _ _ _ h))
end

/-- append(v, y) at a step of a region. -/
theorem step_app1 (w : World) {ops : Array Oper} {o : Oper} {a : Act} {K : Act → World → Prop} {Q : Exit → Act → World → Prop} {E : Prop} (hgd : o.guard = none) (s x : Operand)
    (ho : o.op = .call { callee := .builtin .append, args := #[s, x], argTypes := #[22, 22] })
    (base : Nat) (A : Option Addr) (n c : Nat) (l : List Int) (hs : a.eval s = .slice A n c) (hown : Mine base w A n c l) (y : Int) {g0 : Nat} (hx : a.eval x = .slice (some ⟨g0, 0, none⟩) 1 1) (hg0 : w.heap.size = g0)
    (hy : 0 ≤ y ∧ y ≤ 255) (hlen : n + 1 ≤ 140737488355328) (hbase : base ≤ w.heap.size)
    (h : ∀ A' c' w', Mine base w' A' (n + 1) c' (l ++ [y]) → (w.alloc (.cells #[.int .u8 y] 5)).grownBy w' (Value.slice A n c).ownBlock → K (a.put o.dst (.slice A' (n + 1) c')) w') :
    if Go.Region.wanted o (Go.yielded ops a.tmps) = true then Go.Oper.wp Try.prog o a (w.alloc (.cells #[.int .u8 y] 5)) K Q else E := by
  subst hg0
  have hl := hown.len
  refine step_appG _ hgd s x ho base A n c l hs (hown.alloc _) (some ⟨w.heap.size, 0, none⟩) 1 1 [y] hx (Mine.lit (base := 0) w [y] (Nat.zero_le _) (Bs.one hy.1 hy.2) (by simp) 1 rfl).byt (by simp; omega) (by simp; omega) ?_
  intro A' c' w' h1 h2 h3 _
  exact h A' c' w' h1 h3
end Go.Proofs.Ythcnfalfhdeflaa
