/- Which frames may be: plain facts; laws for the walks. -/
import Derived.Test.YtnjnpnjjpodnnaaRGxe
namespace Go.Proofs.Ytnjnpnjjpodnnaa
open Go.RowKit Go.Shelf
set_option linter.unusedVariables false
set_option linter.unusedSimpArgs false

/-- A code's walk is cut: what it leaves is told, whatever order it drew. -/
theorem wp_cutR {P : Program} {code : Code} {Q : Exit → Act → World → Prop} {a : Act} {w : World} (R : Act → Act → World → Prop)
    (h : code.wp P (fun e a' w' => e = .normal ∧ R a a' w') a w) (k : ∀ a' w', R a a' w' → Q .normal a' w') : code.wp P Q a w :=
  Code.wp_mono (fun e a' w' h => by obtain ⟨rfl, hr⟩ := h; exact k a' w' hr) h
section
variable {P : Program} {ops : Array Oper} {Q : Exit → Act → World → Prop} {md : Region.Mode} {S : World → Prop} {ex : List Nat}
/-- Three may come up. -/
theorem wpAnyG_three (i j l : Nat) {oi oj ol : Oper} {fuel : Nat} {listed : Array Bool} {a : Act} {w : World} (hr : Region.ready md ops listed = [i, j, l]) (hoi : ops[i]? = some oi) (hoj : ops[j]? = some oj) (hol : ops[l]? = some ol)
    (hi : ∀ K : Act → World → Prop, Shut (∀ a w, (ex.contains i = false → S w) → wpAnyG P md ops Q S ex fuel (listed.setIfInBounds i true) a w → K a w) → if Region.wanted oi (yielded ops a.tmps) = true then Oper.wp P oi a w K Q else K (a.put oi.dst undef) w)
    (hj : ∀ K : Act → World → Prop, Shut (∀ a w, (ex.contains j = false → S w) → wpAnyG P md ops Q S ex fuel (listed.setIfInBounds j true) a w → K a w) → if Region.wanted oj (yielded ops a.tmps) = true then Oper.wp P oj a w K Q else K (a.put oj.dst undef) w)
    (hl : ∀ K : Act → World → Prop, Shut (∀ a w, (ex.contains l = false → S w) → wpAnyG P md ops Q S ex fuel (listed.setIfInBounds l true) a w → K a w) → if Region.wanted ol (yielded ops a.tmps) = true then Oper.wp P ol a w K Q else K (a.put ol.dst undef) w) :
    wpAnyG P md ops Q S ex (fuel + 1) listed a w :=
  ⟨fun h0 => (by rw [hr] at h0; cases h0), fun k hk => by
    rw [hr] at hk
    simp only [List.mem_cons, List.not_mem_nil, or_false] at hk
    rcases hk with rfl | rfl | rfl
    · exact wpOp_step hoi (fun K' hK => hi K' (fun a w hS hW => hK a w ⟨hS, hW⟩))
    · exact wpOp_step hoj (fun K' hK => hj K' (fun a w hS hW => hK a w ⟨hS, hW⟩))
    · exact wpOp_step hol (fun K' hK => hl K' (fun a w hS hW => hK a w ⟨hS, hW⟩))⟩
end
theorem valS_fine (f : Fm) (h : (valS f).cd = 0) : valS f = ⟨false, 0, 0⟩ := by
  unfold valS at h ⊢
  by_cases h1 : firstS f.prs ≠ 0
  · rw [if_pos h1] at h
    exact absurd h h1
  rw [if_neg h1] at h ⊢
  by_cases h2 : f.kd = 8 ∧ f.ic = 0
  · rw [if_pos h2] at h
    simp at h
  rw [if_neg h2] at h ⊢
  by_cases h3 : f.kd = 16 ∧ f.la = 0
  · rw [if_pos h3] at h
    simp at h
  rw [if_neg h3] at h ⊢
  by_cases h4 : f.rk = true ∧ f.dp = f.st
  · rw [if_pos h4] at h
    simp at h
  rw [if_neg h4]
/-- The ways of a payload. -/
theorem parse_ways (kd fl st : Int) (b : List Int) : (∃ c, c ≠ 0 ∧ parseS kd fl st b = (Fm0, ⟨true, 0, c⟩)) ∨ (kd = 2 ∧ parseS kd fl st b = (fm0 kd fl st, ⟨false, st, 6⟩)) ∨
    (∃ f, okH 0 st = true ∧ b.length ≤ 16384 ∧ ¬(kd = 5 ∨ farK kd st = true) ∧ longOk kd fl b.length = true ∧ readS kd fl st b = some f ∧ (((valS f).wh = true ∧ parseS kd fl st b = (Fm0, valS f)) ∨ ((valS f).wh = false ∧ parseS kd fl st b = (f, valS f)))) := by
  cases h1 : okH 0 st
  · exact .inl ⟨2, by decide, by unfold parseS; rw [if_pos h1]⟩
  by_cases h2 : 16384 < b.length
  · exact .inl ⟨6, by decide, by unfold parseS; rw [if_neg (by rw [h1]; decide), if_pos h2]⟩
  have h2' : b.length ≤ 16384 := by omega
  by_cases h3 : kd = 5 ∨ farK kd st = true
  · exact .inl ⟨1, by decide, parse_far h1 h2' h3⟩
  cases h4 : longOk kd fl b.length
  · have e := parse_short h1 h2' h3 h4
    by_cases hk : kd = 2
    · rw [if_pos hk] at e
      exact .inr (.inl ⟨hk, e⟩)
    · rw [if_neg hk] at e
      exact .inl ⟨6, by decide, e⟩
  have e := parse_go h1 h2' h3 h4
  cases hr : readS kd fl st b with
  | none =>
    rw [hr] at e
    exact .inl ⟨1, by decide, e⟩
  | some f =>
    rw [hr] at e
    refine .inr (.inr ⟨f, rfl, h2', h3, rfl, rfl, ?_⟩)
    cases hw : (valS f).wh
    · right
      simp only [hw] at e
      exact ⟨rfl, by simpa using e⟩
    · left
      simp only [hw] at e
      exact ⟨rfl, by simpa using e⟩
theorem parse_fine (kd fl st : Int) (b : List Int) (h : (parseS kd fl st b).2.cd = 0) : (parseS kd fl st b).2 = ⟨false, 0, 0⟩ := by
  rcases parse_ways kd fl st b with ⟨c, hc, e⟩ | ⟨_, e⟩ | ⟨f, _, _, _, _, _, ⟨_, e⟩ | ⟨_, e⟩⟩
  · rw [e] at h; exact absurd h hc
  · rw [e] at h; simp at h
  · rw [e] at h ⊢; exact valS_fine f h
  · rw [e] at h ⊢; exact valS_fine f h
/-- A frame's cells, all noughts. -/
abbrev zF : Array Value := #[.int .u8 0, .int .u8 0, .int .i64 0, .slice none 0 0, .int .i64 0, .int .i64 0, .int .i64 0, .int .u32 0, .slice none 0 0, .bool false, .bool false, .int .i64 0, .int .u8 0]
theorem Bel.newE {w W : World} (h : Bel w W) (t : TypeId) (cs : Array Value) : ∃ g, W.heap.size = g ∧ Blk (W.alloc (.cells cs t)) g t cs ∧ w.heap.size ≤ g ∧ ∀ b t' cs', Blk W b t' cs' → b ≠ g :=
  ⟨_, rfl, Blk.new W t cs, h.out.size, fun b t' cs' q => Nat.ne_of_lt q.lt⟩
theorem padL_len (l : List Int) (m : Int) : (padL l m).length ≤ l.length + 256 := by
  unfold padL
  by_cases h : padB m = true
  · rw [if_pos h]
    have := of_decide_eq_true h
    simp only [List.length_cons, List.length_append, List.length_replicate]
    omega
  · rw [if_neg h]; simp
theorem payS_len (f : Fm) (h1 : f.da.length ≤ 90000) (h2 : f.prs.length ≤ 10000) : (payS f).length ≤ 100000 := by
  have hp : ∀ l : List Int, (padP f l).length ≤ l.length + 256 := fun l => by
    unfold padP
    split
    · exact padL_len _ _
    · omega
  have hr := rankL_len f.al f.dp f.wt
  have h4 := putO_len
  have a1 := hp f.da
  have a2 := hp (rankL f.al f.dp f.wt ++ f.da)
  have a3 := hp ([] ++ f.da)
  have a4 := h4 f.cd
  have a5 := h4 f.la
  have a6 := h4 f.ic
  have a7 := putPs_len f.prs
  rw [List.length_append] at a2
  rw [List.nil_append] at a3
  clear hp h4
  unfold payS
  repeat' split
  all_goals (try simp only [List.length_append, List.nil_append])
  all_goals omega
end Go.Proofs.Ytnjnpnjjpodnnaa
