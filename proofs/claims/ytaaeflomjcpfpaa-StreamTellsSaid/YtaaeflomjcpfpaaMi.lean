/- A map literal whose entries may be laid in any order: a region's insertions, of distinct keys, taken as one. -/
import Derived.Test.YtaaeflomjcpfpaaI
import Derived.Test.YtaaeflomjcpfpaaMp
namespace Go.Proofs.Ytaaeflomjcpfpaa
open Go.RowKit Go.Shelf Go.ChangeMaps
set_option linter.unusedVariables false

theorem inj_of_nodup {κ : Type} : ∀ (J : List (Nat × κ × Value)), (J.map (·.1)).Nodup → ∀ a ∈ J, ∀ b ∈ J, a.1 = b.1 → a = b
  | [], _, a, ha, _, _, _ => by cases ha
  | i :: r, h, a, ha, b, hb, e => by
    rw [List.map_cons, List.nodup_cons] at h
    rcases List.mem_cons.1 ha with rfl | ha' <;> rcases List.mem_cons.1 hb with rfl | hb'
    · rfl
    · exact absurd (show a.1 ∈ r.map (·.1) from List.mem_map.2 ⟨b, hb', e.symm⟩) h.1
    · exact absurd (show b.1 ∈ r.map (·.1) from List.mem_map.2 ⟨a, ha', e⟩) h.1
    · exact inj_of_nodup r h.2 a ha' b hb' e


section
variable {κ : Type} [DecidableEq κ] {enc : κ → Value} {P : Program} {ops : Array Oper} {Q : Exit → Act → World → Prop}

/-- m[x] = v in a literal, at a step of a region. -/
theorem step_ins (w : World) {ops : Array Oper} {o : Oper} {a : Act} {K : Act → World → Prop} {Q : Exit → Act → World → Prop} {E : Prop}
    (hg : o.guard = none) (mo xo vo : Operand) (t : TypeId) (hop : o.op = Op.insert t mo xo vo) {K' e : TypeId} (KO : KeyOf P K' enc) (ht : P.underlying t = some (.map K' e))
    (b : Nat) (m : κ → Option Value) (hm : a.eval mo = .map (some b)) (hown : MapF enc w b m) (x : κ) (v : Value) (hx : a.eval xo = enc x) (hv : a.eval vo = v)
    (hK : ∀ w', MapF enc w' b (fun y => if y = x then some v else m y) → w.grownBy w' (some b) → K (a.put o.dst undef) w') :
    if Go.Region.wanted o (Go.yielded ops a.tmps) = true then Go.Oper.wp P o a w K Q else E := by
  have hw : Go.Region.wanted o (Go.yielded ops a.tmps) = true := by simp [Go.Region.wanted, hg]
  rw [if_pos hw]
  obtain ⟨w', hrun, r1, r2⟩ := hown.update KO ht x v
  unfold Oper.wp
  simp [execOp, hop, hm, hx, hv, hrun, Result.andThen]
  exact hK w' r1 r2

/-- An entry: which operation lays it, its key, its value. -/
abbrev Ent (κ : Type) := Nat × κ × Value
/-- What the map holds, of these entries those that are listed. -/
def mapOf (J : List (Ent κ)) (m0 : κ → Option Value) (listed : Array Bool) (y : κ) : Option Value :=
  match J.find? (fun j => decide (j.2.1 = y) && listed.getD j.1 false) with
  | some j => some j.2.2
  | none => m0 y
def allOf (J : List (Ent κ)) (m0 : κ → Option Value) (y : κ) : Option Value :=
  match J.find? (fun j => decide (j.2.1 = y)) with
  | some j => some j.2.2
  | none => m0 y
/-- What the law asks of a region, by computation: the entries' places differ, their keys too; whoever is none of them and not listed waits for each. -/
def insB (ops : Array Oper) (J : List (Ent κ)) (L0 : Array Bool) : Bool :=
  L0.size == ops.size && J.all (fun j => L0.getD j.1 true == false && decide (j.1 < L0.size)) &&
  (List.range ops.size).all (fun k => L0.getD k true || J.any (fun j => j.1 == k) || match ops[k]? with | some o => J.all (fun j => o.after.any fun e => Region.binds .any e && e.on == j.1) | none => true) &&
  J.all (fun j => J.all fun i => (decide (i.1 = j.1)) == decide (i.2.1 = j.2.1)) && decide (J.map (·.1)).Nodup &&
  J.all (fun j => match ops[j.1]? with | some o => o.after.all (fun e => !Region.binds .any e || L0.getD e.on false) | none => false)
theorem mapOf_none (J : List (Ent κ)) (m0 : κ → Option Value) {L0 : Array Bool} (h : ∀ j ∈ J, L0.getD j.1 false = false) : mapOf J m0 L0 = m0 := by
  funext y
  unfold mapOf
  rw [List.find?_eq_none.2 fun j hj => by simp [h j hj]]
theorem mapOf_all (J : List (Ent κ)) (m0 : κ → Option Value) {L : Array Bool} (h : ∀ j ∈ J, L.getD j.1 false = true) : mapOf J m0 L = allOf J m0 := by
  funext y
  unfold mapOf allOf
  have e : J.find? (fun j => decide (j.2.1 = y) && L.getD j.1 false) = J.find? (fun j => decide (j.2.1 = y)) := by
    have : ∀ J' : List (Ent κ), (∀ j ∈ J', L.getD j.1 false = true) → J'.find? (fun j => decide (j.2.1 = y) && L.getD j.1 false) = J'.find? (fun j => decide (j.2.1 = y)) := by
      intro J'
      induction J' with
      | nil => intro _; rfl
      | cons i r ih =>
        intro h'
        rw [List.find?_cons, List.find?_cons, h' i (by simp), Bool.and_true, ih fun j hj => h' j (by simp [hj])]
    exact this J h
  rw [e]
theorem getD_set (L : Array Bool) (i k : Nat) (d : Bool) (hi : i < L.size) : (L.setIfInBounds i true).getD k d = if k = i then true else L.getD k d := by
  simp only [Array.getD_eq_getD_getElem?, Array.getElem?_setIfInBounds]
  by_cases h : i = k
  · subst h; simp [hi]
  · rw [if_neg h, if_neg (fun e => h e.symm)]
theorem mapOf_set (J : List (Ent κ)) (m0 : κ → Option Value) (L : Array Bool) {j : Ent κ} (hj : j ∈ J) (hlt : j.1 < L.size) (hd : ∀ a ∈ J, ∀ b ∈ J, a.1 = b.1 ↔ a.2.1 = b.2.1) (hv : ∀ a ∈ J, ∀ b ∈ J, a.1 = b.1 → a = b) :
    (fun y => if y = j.2.1 then some j.2.2 else mapOf J m0 L y) = mapOf J m0 (L.setIfInBounds j.1 true) := by
  funext y
  unfold mapOf
  by_cases hy : y = j.2.1
  · subst hy
    rw [if_pos rfl]
    have : (J.find? fun i => decide (i.2.1 = j.2.1) && (L.setIfInBounds j.1 true).getD i.1 false) = some j := by
      cases hf : J.find? fun i => decide (i.2.1 = j.2.1) && (L.setIfInBounds j.1 true).getD i.1 false with
      | none =>
        have := List.find?_eq_none.1 hf j hj
        rw [getD_set _ _ _ _ hlt] at this
        simp at this
      | some i =>
        have h1 := List.find?_some hf
        have h2 := List.mem_of_find?_eq_some hf
        simp at h1
        rw [hv i h2 j hj ((hd i h2 j hj).2 h1.1)]
    rw [this]
  · rw [if_neg hy]
    have : ∀ J' : List (Ent κ), (∀ i ∈ J', i ∈ J) → (J'.find? fun i => decide (i.2.1 = y) && L.getD i.1 false) = (J'.find? fun i => decide (i.2.1 = y) && (L.setIfInBounds j.1 true).getD i.1 false) := by
      intro J'
      induction J' with
      | nil => intro _; rfl
      | cons i r ih =>
        intro hs
        have e : (decide (i.2.1 = y) && L.getD i.1 false) = (decide (i.2.1 = y) && (L.setIfInBounds j.1 true).getD i.1 false) := by
          by_cases h1 : i.2.1 = y
          · have : i.1 ≠ j.1 := fun h2 => hy (by rw [← h1]; exact (hd i (hs i (by simp)) j hj).1 h2)
            rw [getD_set _ _ _ _ hlt, if_neg this]
          · simp [h1]
        rw [List.find?_cons, List.find?_cons, e, ih fun x hx => hs x (by simp [hx])]
    rw [this J fun i hi => hi]

/-- The law: from a state in which of these operations none has come up and whoever else is left waits for all of them, to one in which all have. -/
theorem wpAnyG_inserts (J : List (Ent κ)) (L0 L1 : Array Bool) {S : World → Prop} {ex : List Nat} (a : Act) (t : TypeId) (mo : Operand) {K e : TypeId} (KO : KeyOf P K enc) (ht : P.underlying t = some (.map K e)) (b : Nat) (hm : a.eval mo = .map (some b)) (m0 : κ → Option Value)
    (hB : insB ops J L0 = true)
    (hops : ∀ j ∈ J, ∃ o xo vo, ops[j.1]? = some o ∧ o.guard = none ∧ o.dst = none ∧ o.op = Op.insert t mo xo vo ∧ a.eval xo = enc j.2.1 ∧ a.eval vo = j.2.2)
    (hL1 : L1 = J.foldl (fun l j => l.setIfInBounds j.1 true) L0)
    (I : World → Prop) (hI : ∀ w w', I w → w.grownBy w' (some b) → I w') (hSI : ∀ w, I w → S w) (f0 : Nat)
    (hend : ∀ w', MapF enc w' b (allOf J m0) → I w' → wpAnyG P .any ops Q S ex f0 L1 a w') (w : World) (hown : MapF enc w b m0) (hIw : I w) :
    wpAnyG P .any ops Q S ex (J.length + f0) L0 a w := by
  unfold insB at hB
  simp only [Bool.and_eq_true, beq_iff_eq, List.all_eq_true, List.mem_range, decide_eq_true_eq, Bool.or_eq_true] at hB
  obtain ⟨⟨⟨⟨⟨hsz, hJ0⟩, hwait⟩, hdist⟩, hnodup⟩, hrdy⟩ := hB
  have hv := inj_of_nodup J hnodup
  have hd : ∀ a ∈ J, ∀ b ∈ J, a.1 = b.1 ↔ a.2.1 = b.2.1 := fun a ha b hb => by
    have := hdist b hb a ha
    rw [decide_eq_decide] at this
    exact this
  have put0 : ∀ u, a.put none u = a := fun u => rfl
  -- of a list of those that are still to come
  have key : ∀ (n : Nat) (listed : Array Bool) (R : List Nat) (w : World), R.length = n → R.Nodup → (∀ p ∈ R, ∃ j ∈ J, j.1 = p) → (∀ j ∈ J, listed.getD j.1 true = false ↔ j.1 ∈ R) → listed.size = L0.size → (∀ k, (∀ j ∈ J, j.1 ≠ k) → listed.getD k true = L0.getD k true) →
      MapF enc w b (mapOf J m0 listed) → I w → wpAnyG P .any ops Q S ex (n + f0) listed a w := by
    intro n
    induction n with
    | zero =>
      intro listed R w hR _ _ hlist hls hrest hmap hi
      obtain rfl : R = [] := List.eq_nil_of_length_eq_zero hR
      have hall : ∀ j ∈ J, listed.getD j.1 true = true := fun j hj => by
        cases h : listed.getD j.1 true
        · have := (hlist j hj).1 h
          cases this
        · rfl
      have hin : ∀ j ∈ J, j.1 < listed.size := fun j hj => by rw [hls]; exact (hJ0 j hj).2
      have eqL : listed = L1 := by
        have hf : ∀ (J' : List (Ent κ)) (l : Array Bool), (J'.foldl (fun l j => l.setIfInBounds j.1 true) l).size = l.size := by
          intro J'
          induction J' with
          | nil => intro l; rfl
          | cons i r ih => intro l; rw [List.foldl_cons, ih]; simp
        have hg : ∀ (J' : List (Ent κ)) (l : Array Bool) (k : Nat), (∀ j ∈ J', j.1 < l.size) → (J'.foldl (fun l j => l.setIfInBounds j.1 true) l).getD k true = if J'.any (fun j => j.1 == k) then true else l.getD k true := by
          intro J'
          induction J' with
          | nil => intro l k _; rfl
          | cons i r ih =>
            intro l k hl
            rw [List.foldl_cons, ih _ _ (fun j hj => by simpa using hl j (by simp [hj])), getD_set _ _ _ _ (hl i (by simp))]
            by_cases h1 : i.1 = k
            · subst h1; simp
            · have : (i.1 == k) = false := beq_eq_false_iff_ne.2 h1
              rw [List.any_cons, this, Bool.false_or, if_neg (fun h : k = i.1 => h1 h.symm)]
        apply Array.ext
        · rw [hL1, hf, hls]
        · intro k h1 h2
          have e1 : listed[k] = listed.getD k true := by simp [h1]
          have e2 : L1[k] = L1.getD k true := by simp [h2]
          rw [e1, e2, hL1, hg J L0 k fun j hj => (hJ0 j hj).2]
          by_cases hk : J.any (fun j => j.1 == k) = true
          · rw [if_pos hk]
            obtain ⟨j, hj, hjk⟩ := List.any_eq_true.1 hk
            rw [← beq_iff_eq.1 hjk]
            exact hall j hj
          · rw [if_neg hk]
            exact hrest k fun j hj e => hk (List.any_eq_true.2 ⟨j, hj, beq_iff_eq.2 e⟩)
      rw [Nat.zero_add, eqL]
      refine hend w ?_ hi
      rw [mapOf_all J m0 (fun j hj => ?_)] at hmap
      · exact hmap
      · have h1 := hall j hj
        have h2 := hin j hj
        simp only [Array.getD_eq_getD_getElem?, Array.getElem?_eq_getElem h2, Option.getD_some] at h1 ⊢
        exact h1
    | succ n ih =>
      intro listed R w hR hnd hsub hlist hls hrest hmap hi
      rw [show n + 1 + f0 = (n + f0) + 1 by omega]
      obtain ⟨p0, hp0⟩ : ∃ p0, p0 ∈ R := List.exists_mem_of_length_pos (by omega)
      obtain ⟨j0, hj0J, rfl⟩ := hsub p0 hp0
      refine ⟨fun h0 => ?_, fun i hi' => ?_⟩
      · have hr0 := hrdy j0 hj0J
        have : j0.1 ∈ Region.ready .any ops listed := by
          cases ho : ops[j0.1]? with
          | none => rw [ho] at hr0; cases hr0
          | some o =>
            rw [ho] at hr0
            refine mem_ready.2 ⟨(hlist j0 hj0J).2 hp0, o, ho, fun e he hb => ?_⟩
            have h1 := Array.all_eq_true_iff_forall_mem.1 hr0 e he
            rw [hb] at h1
            simp only [Bool.not_true, Bool.false_or] at h1
            have hlt1 : e.on < L0.size := by
              rcases Nat.lt_or_ge e.on L0.size with h | h
              · exact h
              · simp [Array.getElem?_eq_none h] at h1
            have h2 := hrest e.on fun j hj ej => by
              have := (hJ0 j hj).1
              rw [ej] at this
              simp only [Array.getD_eq_getD_getElem?, Array.getElem?_eq_getElem hlt1, Option.getD_some] at h1 this
              rw [h1] at this
              cases this
            have hlt2 : e.on < listed.size := by rw [hls]; exact hlt1
            simp only [Array.getD_eq_getD_getElem?, Array.getElem?_eq_getElem hlt1, Array.getElem?_eq_getElem hlt2, Option.getD_some] at h1 h2 ⊢
            rw [h2, h1]
        rw [h0] at this
        cases this
      · obtain ⟨hun, oi, hoi, hall⟩ := mem_ready.1 hi'
        have hlt : i < listed.size := by
          rcases Nat.lt_or_ge i listed.size with h | h
          · exact h
          · simp [Array.getElem?_eq_none h] at hun
        -- it is one of them
        obtain ⟨j, hj, rfl⟩ : ∃ j ∈ J, j.1 = i := by
          rcases hwait i (by rw [← hsz, ← hls]; exact hlt) with (h1 | h1) | h1
          · by_cases hex : ∃ j ∈ J, j.1 = i
            · exact hex
            · rw [hrest i (fun j hj e => hex ⟨j, hj, e⟩), h1] at hun
              cases hun
          · obtain ⟨j, hj, e⟩ := List.any_eq_true.1 h1
            exact ⟨j, hj, beq_iff_eq.1 e⟩
          · rw [hoi] at h1
            have := List.all_eq_true.1 h1 j0 hj0J
            obtain ⟨e, he, hb⟩ := Array.any_eq_true'.1 this
            simp only [Bool.and_eq_true, beq_iff_eq] at hb
            have h2 := hall e he hb.1
            rw [hb.2] at h2
            have h3 := (hlist j0 hj0J).2 hp0
            have h4 : j0.1 < listed.size := by rw [hls]; exact (hJ0 j0 hj0J).2
            simp only [Array.getD_eq_getD_getElem?, Array.getElem?_eq_getElem h4, Option.getD_some] at h2 h3
            rw [h2] at h3
            cases h3
        obtain ⟨o, xo, vo, ho, hg, hdst, hop, hx, hvv⟩ := hops j hj
        rw [ho] at hoi
        cases hoi
        have hjR := (hlist j hj).1 hun
        refine wpOp_step ho fun K' hK => ?_
        refine step_ins w hg mo xo vo t hop KO ht b (mapOf J m0 listed) hm hmap j.2.1 j.2.2 hx hvv ?_
        intro w' hmap' hgr
        rw [mapOf_set J m0 listed hj hlt hd hv] at hmap'
        have hi2 := hI w w' hi hgr
        refine hK _ _ ⟨fun _ => hSI _ hi2, ?_⟩
        rw [hdst, put0]
        refine ih (listed.setIfInBounds j.1 true) (R.erase j.1) w' (by rw [List.length_erase_of_mem hjR]; omega) (hnd.erase j.1) (fun x hx => hsub x (List.mem_of_mem_erase hx)) (fun x hx => ?_) (by simpa using hls) (fun k hk => ?_) hmap' hi2
        · rw [getD_set _ _ _ _ hlt, hnd.mem_erase_iff]
          by_cases e : x.1 = j.1
          · rw [if_pos e]
            simp [e]
          · rw [if_neg e, hlist x hx]
            exact ⟨fun h => ⟨e, h⟩, fun h => h.2⟩
        · rw [getD_set _ _ _ _ hlt, if_neg (fun e => hk j hj e.symm)]
          exact hrest k hk
  refine key J.length L0 (J.map (·.1)) w (by simp) hnodup (fun p hp => ?_) (fun j hj => ?_) rfl (fun _ _ => rfl) ?_ hIw
  · obtain ⟨j, hj, e⟩ := List.mem_map.1 hp
    exact ⟨j, hj, e⟩
  · exact ⟨fun _ => List.mem_map.2 ⟨j, hj, rfl⟩, fun _ => (hJ0 j hj).1⟩
  · rw [mapOf_none J m0 fun j hj => ?_]
    · exact hown
    · have := (hJ0 j hj).1
      have hlt := (hJ0 j hj).2
      simp only [Array.getD_eq_getD_getElem?, Array.getElem?_eq_getElem hlt, Option.getD_some] at this ⊢
      exact this
end
end Go.Proofs.Ytaaeflomjcpfpaa
