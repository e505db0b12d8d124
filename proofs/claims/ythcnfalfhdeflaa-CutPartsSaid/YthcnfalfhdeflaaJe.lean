/- A region that draws its order: two operations are ready: two ways. -/
import Derived.Test.YthcnfalfhdeflaaJ
namespace Go.Proofs.Ythcnfalfhdeflaa
open Go.RowKit
section
variable {P : Program} {ops : Array Oper} {Q : Exit → Act → World → Prop}
theorem wpAnyG_twoN {md : Region.Mode} {S : World → Prop} (i j fuel : Nat) {oi oj : Oper} {fuel' : Nat} {listed : Array Bool} {a : Act} {w : World} (hf : fuel' = fuel + 1) (hr : Region.ready md ops listed = [i, j]) (hoi : ops[i]? = some oi) (hoj : ops[j]? = some oj)
    (hwi : Region.wanted oi (yielded ops a.tmps) = true) (hwj : Region.wanted oj (yielded ops a.tmps) = true)
    (hi : ∀ K : Act → World → Prop, Shut (∀ a w, S w → wpAnyG P md ops Q S [] fuel (listed.setIfInBounds i true) a w → K a w) → Oper.wp P oi a w K Q)
    (hj : ∀ K : Act → World → Prop, Shut (∀ a w, S w → wpAnyG P md ops Q S [] fuel (listed.setIfInBounds j true) a w → K a w) → Oper.wp P oj a w K Q) :
    wpAnyG P md ops Q S [] fuel' listed a w := by
  subst hf
  refine ⟨fun h0 => (by rw [hr] at h0; cases h0), fun k hk => ?_⟩
  rw [hr] at hk
  simp only [List.mem_cons, List.not_mem_nil, or_false] at hk
  rcases hk with rfl | rfl
  · refine wpOp_step hoi (fun K' hK => ?_)
    rw [if_pos hwi]
    exact hi K' (fun a w hS hW => hK a w ⟨fun _ => hS, hW⟩)
  · refine wpOp_step hoj (fun K' hK => ?_)
    rw [if_pos hwj]
    exact hj K' (fun a w hS hW => hK a w ⟨fun _ => hS, hW⟩)
end
end Go.Proofs.Ythcnfalfhdeflaa
