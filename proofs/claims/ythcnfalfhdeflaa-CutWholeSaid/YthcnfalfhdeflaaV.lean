/- A region that draws its order, by what holds whichever of its operations have been carried out. -/
import Derived.Test.YthcnfalfhdeflaaJ
namespace Go.Proofs.Ythcnfalfhdeflaa
open Go.RowKit
set_option linter.unusedVariables false

section
variable {P : Program} {ops : Array Oper} {Q : Exit → Act → World → Prop} {md : Region.Mode} {S : World → Prop} {ex : List Nat}
/-- Each operation waits for such alone as stand ahead of it in the text. -/
def aheadB (ops : Array Oper) : Bool := (List.range ops.size).all fun i => match ops[i]? with | some o => o.after.all (fun e => decide (e.on < i)) | none => true
/-- How many are still to come. -/
def left (L : List Bool) : Nat := (L.filter fun b => !b).length
theorem left_set : ∀ (L : List Bool) (i : Nat), L[i]? = some false → left (L.set i true) + 1 = left L
  | [], i, h => by simp at h
  | b :: r, 0, h => by
    simp at h
    subst h
    simp [left]
  | b :: r, i + 1, h => by
    have ih := left_set r i (by simpa using h)
    cases b <;> simp only [left, List.set_cons_succ, List.filter_cons] at ih ⊢ <;> simp at ih ⊢ <;> omega
theorem left_zero : ∀ (L : List Bool), left L = 0 → ∀ (i : Nat) b, L[i]? = some b → b = true
  | [], _, i, b, h => by simp at h
  | c :: r, h0, i, b, h => by
    cases c
    · simp [left] at h0
    · have h1 : left r = 0 := by simpa [left] using h0
      cases i with
      | zero => simpa using h.symm
      | succ i => exact left_zero r h1 i b (by simpa using h)

theorem ready_all {L : Array Bool} (ha : aheadB ops = true) (hs : L.size = ops.size) (hr : Region.ready md ops L = []) : ∀ i, i < ops.size → L.getD i true = true := by
  intro i
  induction i using Nat.strongRecOn with
  | _ i ih =>
    intro hi
    cases h : L.getD i true with
    | true => rfl
    | false =>
      have hm : i ∈ Region.ready md ops L := by
        refine mem_ready.2 ⟨h, ops[i], Array.getElem?_eq_getElem hi, fun e he _ => ?_⟩
        have h1 := List.all_eq_true.1 ha i (List.mem_range.2 hi)
        rw [Array.getElem?_eq_getElem hi] at h1
        have h2 : e.on < i := by simpa using Array.all_eq_true_iff_forall_mem.1 h1 e he
        have h3 := ih e.on h2 (by omega)
        have h4 : e.on < L.size := by omega
        simp only [Array.getD_eq_getD_getElem?, Array.getElem?_eq_getElem h4, Option.getD_some] at h3 ⊢
        exact h3
      rw [hr] at hm
      cases hm

/-- The law. -/
theorem wpAnyG_inv (I : Array Bool → Act → World → Prop) (ha : aheadB ops = true) (hS : ∀ L a w, I L a w → S w)
    (hstep : ∀ (L : Array Bool) (a : Act) (w : World) (i : Nat) (o : Oper), I L a w → L.size = ops.size → i < ops.size → L.getD i true = false → ops[i]? = some o →
      (∀ e ∈ o.after, Region.binds md e = true → L.getD e.on true = true) → ∀ K : Act → World → Prop, Shut (∀ a' w', I (L.setIfInBounds i true) a' w' → K a' w') →
      if Region.wanted o (yielded ops a.tmps) = true then Oper.wp P o a w K Q else K (a.put o.dst undef) w)
    (hend : ∀ (L : Array Bool) (a : Act) (w : World), I L a w → L.size = ops.size → (∀ i, i < ops.size → L.getD i true = true) → Q .normal a w) :
    ∀ (fuel : Nat) (L : Array Bool) (a : Act) (w : World), L.size = ops.size → left L.toList ≤ fuel → I L a w → wpAnyG P md ops Q S ex fuel L a w := by
  intro fuel
  induction fuel with
  | zero =>
    intro L a w hs hf hi
    have h0 : ∀ i, i < ops.size → L.getD i true = true := fun i hlt => by
      have hl : i < L.size := by omega
      have := left_zero L.toList (by omega) i L[i] (by simp [hl])
      simp [Array.getD_eq_getD_getElem?, Array.getElem?_eq_getElem hl, this]
    refine ⟨List.eq_nil_iff_forall_not_mem.2 fun j hj => ?_, hend L a w hi hs h0⟩
    obtain ⟨h1, o, ho, _⟩ := mem_ready.1 hj
    have hlt := (Array.getElem?_eq_some_iff.1 ho).1
    rw [h0 j hlt] at h1
    cases h1
  | succ fuel ih =>
    intro L a w hs hf hi
    refine ⟨fun hr => hend L a w hi hs (ready_all ha hs hr), fun i hmem => ?_⟩
    obtain ⟨h1, o, ho, h2⟩ := mem_ready.1 hmem
    have hlt := (Array.getElem?_eq_some_iff.1 ho).1
    refine wpOp_step ho fun K' hK => hstep L a w i o hi hs hlt h1 ho (fun e he hb => ?_) K' (Lib.hid fun a' w' h' => hK a' w' ⟨fun _ => hS _ _ _ h', ih _ a' w' (by simpa using hs) ?_ h'⟩)
    · have h3 := h2 e he hb
      rcases Nat.lt_or_ge e.on L.size with h4 | h4
      · simpa only [Array.getD_eq_getD_getElem?, Array.getElem?_eq_getElem h4, Option.getD_some] using h3
      · simp [Array.getElem?_eq_none h4] at h3
    · have hl : i < L.size := by omega
      have h3 : L.toList[i]? = some false := by
        simp only [Array.getD_eq_getD_getElem?, Array.getElem?_eq_getElem hl, Option.getD_some] at h1
        simp [hl, h1]
      have := left_set L.toList i h3
      rw [Array.toList_setIfInBounds]
      omega
end
/-- What is owed for one operation: whatever has been carried out, if all that it waits for has, what holds goes on holding. -/
def StepAt (P : Program) (md : Region.Mode) (ops : Array Oper) (Q : Exit → Act → World → Prop) (I : Array Bool → Act → World → Prop) (i : Nat) : Prop :=
  ∀ (o : Oper), ops[i]? = some o → ∀ (L : Array Bool) (a : Act) (w : World), I L a w → L.size = ops.size → L[i]?.getD true = false →
    (∀ e ∈ o.after, Region.binds md e = true → L[e.on]?.getD true = true) → ∀ K : Act → World → Prop, Shut (∀ a' w', I (L.setIfInBounds i true) a' w' → K a' w') →
    if Region.wanted o (yielded ops a.tmps) = true then Oper.wp P o a w K Q else K (a.put o.dst undef) w
section
variable {P : Program} {ops : Array Oper} {Q : Exit → Act → World → Prop} {md : Region.Mode} {S : World → Prop} {ex : List Nat} {I : Array Bool → Act → World → Prop}
theorem StepAt.of {i : Nat} {o : Oper} (ho : ops[i]? = some o) (hw : ∀ t : Nat → Option Bool, Region.wanted o t = true) (h : ∀ (L : Array Bool) (a : Act) (w : World), I L a w → L.size = ops.size → L[i]?.getD true = false →
    (∀ e ∈ o.after, Region.binds md e = true → L[e.on]?.getD true = true) → ∀ K : Act → World → Prop, Shut (∀ a' w', I (L.setIfInBounds i true) a' w' → K a' w') → Oper.wp P o a w K Q) : StepAt P md ops Q I i := by
  intro o' ho' L a w hi hs h0 hd K hK
  cases ho.symm.trans ho'
  rw [if_pos (hw _)]
  exact h L a w hi hs h0 hd K hK
theorem wpAnyG_steps (ha : aheadB ops = true) (hstep : ∀ i, i < ops.size → StepAt P md ops Q I i)
    (hend : ∀ (L : Array Bool) (a : Act) (w : World), I L a w → L.size = ops.size → (∀ i, i < ops.size → L[i]?.getD true = true) → Q .normal a w) {a : Act} {w : World} (h0 : I (Array.replicate ops.size false) a w) :
    wpAnyG P md ops Q (fun _ => True) ex ops.size (Array.replicate ops.size false) a w := by
  refine wpAnyG_inv I ha (fun _ _ _ _ => trivial) (fun L a w i o hi hs hlt h1 ho hd K hK => hstep i hlt o ho L a w hi hs (by simpa using h1) (fun e he hb => by simpa using hd e he hb) K hK)
    (fun L a w hi hs h => hend L a w hi hs (fun i hi => by simpa using h i hi)) _ _ _ _ (by simp) ?_ h0
  simp only [Array.toList_replicate, left]
  exact Nat.le_trans (List.length_filter_le _ _) (by simp)
end
/-- What a slot holds that an operation fills: nothing ahead of it. -/
def sl (L : Array Bool) (k : Nat) (v : Value) : Value := if L[k]?.getD true then v else undef
theorem sl_yes {L : Array Bool} {k : Nat} (h : L[k]?.getD true = true) (v : Value) : sl L k v = v := by simp [sl, h]
theorem sl_no {L : Array Bool} {k : Nat} (h : L[k]?.getD true = false) (v : Value) : sl L k v = undef := by simp [sl, h]
theorem getD_far {L : Array Bool} {i k : Nat} (d : Bool) (hk : k ≠ i) : (L.setIfInBounds i true)[k]?.getD d = L[k]?.getD d := by
  rw [Array.getElem?_setIfInBounds, if_neg (fun e => hk e.symm)]
theorem getD_same {L : Array Bool} {i : Nat} : (L.setIfInBounds i true)[i]?.getD true = true := by
  rw [Array.getElem?_setIfInBounds]
  simp only [if_true]
  split <;> rfl
theorem sl_set {L : Array Bool} {i : Nat} (k : Nat) (v : Value) (hk : k ≠ i) : sl (L.setIfInBounds i true) k v = sl L k v := by
  unfold sl
  rw [getD_far true hk]
theorem sl_same {L : Array Bool} {i : Nat} (v : Value) : sl (L.setIfInBounds i true) i v = v := sl_yes getD_same v
theorem sl_start (n k : Nat) (v : Value) (hk : k < n) : sl (Array.replicate n false) k v = undef := sl_no (by simp [hk]) v
/-- The beginning, within the wide fence. -/
theorem wpIn_region_GW {P : Program} {ops : Array Oper} {Q : Exit → Act → World → Prop} (S : World → Prop) (ex : List Nat) {n : Nat} {id : Nat} {a : Act} {w : World} (hm : P.follows .mixedOrders = true) (hnd : noDefer ops = true) (hlo : ¬ LetsOut Q)
    (h : wpAnyG P .any ops Q S ex ops.size (Array.replicate ops.size false) a w.drew) : (Code.region id ops true).wpIn Fence.wide n P Q a w :=
  wpIn_region_any hm (anyIn_of_any (ro := none) hnd hlo _ _ _ _ (wpAny_of_G _ _ _ _ h))
end Go.Proofs.Ythcnfalfhdeflaa
