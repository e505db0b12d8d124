/- What becomes of a frame, what is sent: the contracts. -/
import Derived.Test.YtaaeflomjcpfpaaSc
namespace Go.Proofs.Ytaaeflomjcpfpaa
open Go.RowKit Go.Shelf Go.ChangeMaps
set_option linter.unusedVariables false
set_option linter.unusedSimpArgs false

def tabM : FK → Option Value := foldR [false, true]
theorem fTable (w : World) : Calls Try.prog 39 #[] w fun e W' => ∃ b, e = .returned (.map (some b)) ∧ MapF frV W' b tabM ∧ Below w.heap.size w W' :=
  callsIn_wide.1 (table_in 8 (Nat.le_refl _) w)
/-- What the map tells, and what is told where it tells nothing. -/
def tabOr (st kd : Int) (en : Bool) : Value := (tabM (st, kd, en)).getD (cmV ⟨st, false, false, 0⟩)
theorem up_ne {x y : FK} {c : Cm} {m : FK → Option Value} (h : y ≠ x) : up x c m y = m y := by simp [up, h]
theorem tab_kd (st kd : Int) (en : Bool) (h : kd ≠ 0 ∧ kd ≠ 1 ∧ kd ≠ 3 ∧ kd ≠ 8) : tabM (st, kd, en) = none := by
  obtain ⟨h0, h1, h3, h8⟩ := h
  simp [tabM, foldR, roundM, fold3, fold2, foldK, in3, in2, inK, up, litM, allOf, tabJ, h0, h1, h3, h8, Ne.symm h0, Ne.symm h1, Ne.symm h3, Ne.symm h8]
theorem tab_st (st kd : Int) (en : Bool) (h : st ≠ 0 ∧ st ≠ 1 ∧ st ≠ 2 ∧ st ≠ 3 ∧ st ≠ 4 ∧ st ≠ 6) : tabM (st, kd, en) = none := by
  obtain ⟨h0, h1, h2, h3, h4, h6⟩ := h
  simp [tabM, foldR, roundM, fold3, fold2, foldK, in3, in2, inK, up, litM, allOf, tabJ, h0, h1, h2, h3, h4, h6, Ne.symm h0, Ne.symm h1, Ne.symm h2, Ne.symm h3, Ne.symm h4, Ne.symm h6]
theorem tab_comes (st kd : Int) (en : Bool) (h0 : 0 ≤ st) : tabOr st kd en = cmV (comesF st kd en) := by
  unfold tabOr
  by_cases hk : kd ≠ 0 ∧ kd ≠ 1 ∧ kd ≠ 3 ∧ kd ≠ 8
  · rw [tab_kd st kd en hk]
    have : comesF st kd en = ⟨st, false, false, 0⟩ := by unfold comesF; rw [if_pos (.inl (by omega))]
    rw [this]
    rfl
  by_cases hs : st ≠ 0 ∧ st ≠ 1 ∧ st ≠ 2 ∧ st ≠ 3 ∧ st ≠ 4 ∧ st ≠ 6
  · rw [tab_st st kd en hs]
    have : comesF st kd en = ⟨st, false, false, 0⟩ := by unfold comesF; rw [if_pos (.inr (by omega))]
    rw [this]
    rfl
  rcases (by omega : kd = 0 ∨ kd = 1 ∨ kd = 3 ∨ kd = 8) with rfl | rfl | rfl | rfl <;> rcases (by omega : st = 0 ∨ st = 1 ∨ st = 2 ∨ st = 3 ∨ st = 4 ∨ st = 6) with rfl | rfl | rfl | rfl | rfl | rfl <;> cases en <;> kernel_rfl
theorem up_val {m : FK → Option Value} (hm : ∀ y v, m y = some v → ∃ c, v = cmV c) (x : FK) (c : Cm) : ∀ y v, up x c m y = some v → ∃ c, v = cmV c := by
  intro y v h
  unfold up at h
  split at h
  · exact ⟨c, by simpa using h.symm⟩
  · exact hm y v h
theorem litM_val : ∀ y v, litM y = some v → ∃ c, v = cmV c := by
  intro y v h
  unfold litM allOf at h
  split at h
  · rename_i j hj
    have hm := List.mem_of_find?_eq_some hj
    have hv : v = j.2.2 := by simpa using h.symm
    rw [hv]
    simp only [tabJ, List.mem_cons, List.not_mem_nil, or_false] at hm
    rcases hm with rfl | rfl | rfl | rfl | rfl | rfl | rfl | rfl | rfl | rfl <;> exact ⟨_, rfl⟩
  · cases h

theorem zCame (w : World) : (zeroValue 32).run Try.prog w = .ok (.agg #[.int .u8 0, .bool false, .bool false, .int .u32 0]) w := by kernel_rfl
theorem tab_look {W : World} {b : Nat} (h : MapF frV W b tabM) (st kd : Int) (en : Bool) :
    (Instr.lookup 61 (.map (some b)) (.agg #[.int .u8 st, .int .u8 kd, .bool en]) true).run Try.prog W = .ok (.tuple #[(tabM (st, kd, en)).getD (.agg #[.int .u8 0, .bool false, .bool false, .int .u32 0]), .bool (tabM (st, kd, en)).isSome]) W :=
  h.lookup_ok frKey Try.underlying61 (zCame W) (st, kd, en)

set_option maxHeartbeats 1000000 in
theorem fComes (st kd : Int) (en : Bool) (h0 : 0 ≤ st) (w : World) : Calls Try.prog 14 #[.int .u8 st, .int .u8 kd, .bool en] w (CmP (comesF st kd en) w) := by
  have b0 := (Bel.refl w).alloc (.cells #[.int .u8 0, .bool false, .bool false, .int .u32 0] 32)
  have q0 := Blk.new w 32 #[.int .u8 0, .bool false, .bool false, .int .u32 0]
  have hc := tab_comes st kd en h0
  unfold tabOr at hc
  cases ht : tabM (st, kd, en) with
  | none =>
    rw [ht] at hc
    have hc' : Ending.returned (.agg #[.int .u8 st, .bool false, .bool false, .int .u32 0]) = .returned (.agg #[.int .u8 (comesF st kd en).st, .bool (comesF st kd en).take, .bool (comesF st kd en).whole, .int .u32 (comesF st kd en).code]) := congrArg Ending.returned hc
    have HL := Lib.hid fun W b (h : MapF frV W b tabM) => tab_look h st kd en
    rw [ht] at HL
    have HC := Lib.hid hc'
    clear hc hc' ht
    go_enter Try.func14, Try.ntmps14
    go_wp2_with (first
      | (go_at_call 39; refine (fTable _).mono ?_; rintro e w1 ⟨b, rfl, hm, hb⟩; replace b0 := b0.below hb; replace q0 := q0.below hb; have hl := HL.out w1 b hm; simp only [Option.getD_none, Option.isSome_none] at hl)
      | (refine wpList_putB rfl _ _ _ rfl rfl rfl (q0.alloc _) (by rfl) (by rfl) (by rfl) ?_; intro w2 q1 hg; replace b0 := (b0.alloc _).grown hg (Nat.le_refl _)))
    exact resC rfl rfl rfl q1 ⟨HC.out, b0.out⟩
  | some v =>
    rw [ht] at hc
    obtain rfl : v = cmV (comesF st kd en) := hc
    have HL := Lib.hid fun W b (h : MapF frV W b tabM) => tab_look h st kd en
    rw [ht] at HL
    clear ht
    generalize comesF st kd en = c at *
    go_enter Try.func14, Try.ntmps14
    go_wp2_with (first
      | (go_at_call 39; refine (fTable _).mono ?_; rintro e w1 ⟨b, rfl, hm, hb⟩; replace b0 := b0.below hb; replace q0 := q0.below hb; have hl := HL.out w1 b hm; simp only [Option.getD_some, Option.isSome_some] at hl)
      | (refine wpList_putB rfl _ _ _ rfl rfl rfl (q0.alloc _) (by rfl) (by rfl) (by rfl) ?_; intro w2 q1 hg; replace b0 := (b0.alloc _).grown hg (Nat.le_refl _)))
    exact resC rfl rfl rfl q1 ⟨rfl, b0.out⟩

/-- What is sent, as a map. -/
def oursM (ks : List Int) : FK → Option Value := ks.foldl (fun m k => fun y => if y = (2, k, true) then some (.int .u8 4) else if y = (2, k, false) then some (.int .u8 2) else if y = (1, k, true) then some (.int .u8 3) else if y = (1, k, false) then some (.int .u8 1) else m y) (fun _ => none)
theorem zU8 (w : World) : (zeroValue 5).run Try.prog w = .ok (.int .u8 0) w := by kernel_rfl
theorem ours_look {W : World} {b : Nat} (h : MapF frV W b (oursM [1, 0])) (st kd : Int) (en : Bool) :
    (Instr.lookup 71 (.map (some b)) (.agg #[.int .u8 st, .int .u8 kd, .bool en]) true).run Try.prog W = .ok (.tuple #[(oursM [1, 0] (st, kd, en)).getD (.int .u8 0), .bool (oursM [1, 0] (st, kd, en)).isSome]) W :=
  h.lookup_ok frKey Try.underlying71 (zU8 W) (st, kd, en)
theorem ours_none (st kd : Int) (en : Bool) (h : ¬((st = 1 ∨ st = 2) ∧ (kd = 0 ∨ kd = 1))) : oursM [1, 0] (st, kd, en) = none := by
  by_cases hk : kd = 0 ∨ kd = 1
  · have h1 : st ≠ 1 ∧ st ≠ 2 := by omega
    simp [oursM, h1.1, h1.2]
  · have h1 : kd ≠ 1 ∧ kd ≠ 0 := by omega
    simp [oursM, h1.1, h1.2]
theorem ours_some (st kd : Int) (en : Bool) (h : (st = 1 ∨ st = 2) ∧ (kd = 0 ∨ kd = 1)) : oursM [1, 0] (st, kd, en) = some (.int .u8 (sendsF st kd en).1) ∧ (sendsF st kd en).2 = true := by
  obtain ⟨h1, h2⟩ := h
  rcases h1 with rfl | rfl <;> rcases h2 with rfl | rfl <;> cases en <;> exact ⟨by kernel_rfl, by kernel_rfl⟩

set_option maxHeartbeats 2000000 in
theorem fSends (st kd : Int) (en : Bool) (h0 : 0 ≤ st) (w : World) : Calls Try.prog 22 #[.int .u8 st, .int .u8 kd, .bool en] w (SnP (sendsF st kd en) w) := by
  have hmm := @run_makeMap Try.prog
  have b0 := Bel.refl w
  go_enter Try.func22, Try.ntmps22
  go_wp2_with fail
  have q : Blk ((w.alloc (.map #[] 0)).alloc (.cells #[.int .u8 1, .int .u8 0] 5)) (w.heap.size + 1) 5 #[.int .u8 1, .int .u8 0] := Blk.newAt _ _ _ (by simp)
  have hm0 : MapF frV ((w.alloc (.map #[] 0)).alloc (.cells #[.int .u8 1, .int .u8 0] 5)) w.heap.size (fun _ => none) := (MapF.made w).alloc _
  replace b0 := (b0.alloc (.map #[] 0)).alloc (.cells #[.int .u8 1, .int .u8 0] 5)
  clear hmm
  go_loopw [16] (fun v wr => ∃ k : Nat, k ≤ 2 ∧ v = .int .i64 k ∧ MapF frV wr w.heap.size (oursM ([1, 0].take k)) ∧ Blk wr (w.heap.size + 1) 5 #[.int .u8 1, .int .u8 0] ∧ Bel w wr) (fun v _ => 2 - (intOf v).toNat)
  case atStart => exact ⟨0, by omega, rfl, hm0, q, b0⟩
  case round =>
    clear hm0 q b0
    obtain ⟨k, hk, rfl, hm, q, b0⟩ := hrel
    rcases (by omega : k = 0 ∨ k = 1 ∨ k = 2) with rfl | rfl | rfl
    · have zq := q.at 0 rfl
      go_wp2_with (first
        | (at_mapUpdate; refine wpList_upd _ rfl _ _ _ 71 rfl frKey Try.underlying71 _ _ rfl hm (1, 1, false) (.int .u8 1) rfl rfl ?_; intro w2 hm2 hg; replace b0 := b0.grown hg (Nat.le_refl _); replace q := q.grown hg (by omega); clear hg hm; have hm := hm2; clear hm2)
        | (at_mapUpdate; refine wpList_upd _ rfl _ _ _ 71 rfl frKey Try.underlying71 _ _ rfl hm (1, 1, true) (.int .u8 3) rfl rfl ?_; intro w2 hm2 hg; replace b0 := b0.grown hg (Nat.le_refl _); replace q := q.grown hg (by omega); clear hg hm; have hm := hm2; clear hm2)
        | (at_mapUpdate; refine wpList_upd _ rfl _ _ _ 71 rfl frKey Try.underlying71 _ _ rfl hm (2, 1, false) (.int .u8 2) rfl rfl ?_; intro w2 hm2 hg; replace b0 := b0.grown hg (Nat.le_refl _); replace q := q.grown hg (by omega); clear hg hm; have hm := hm2; clear hm2)
        | (at_mapUpdate; refine wpList_upd _ rfl _ _ _ 71 rfl frKey Try.underlying71 _ _ rfl hm (2, 1, true) (.int .u8 4) rfl rfl ?_; intro w2 hm2 hg; replace b0 := b0.grown hg (Nat.le_refl _); replace q := q.grown hg (by omega); clear hg hm; have hm := hm2; clear hm2))
      exact ⟨⟨1, by omega, by simp, hm, q, b0⟩, by simp [intOf]⟩
    · have zq := q.at 1 rfl
      go_wp2_with (first
        | (at_mapUpdate; refine wpList_upd _ rfl _ _ _ 71 rfl frKey Try.underlying71 _ _ rfl hm (1, 0, false) (.int .u8 1) rfl rfl ?_; intro w2 hm2 hg; replace b0 := b0.grown hg (Nat.le_refl _); replace q := q.grown hg (by omega); clear hg hm; have hm := hm2; clear hm2)
        | (at_mapUpdate; refine wpList_upd _ rfl _ _ _ 71 rfl frKey Try.underlying71 _ _ rfl hm (1, 0, true) (.int .u8 3) rfl rfl ?_; intro w2 hm2 hg; replace b0 := b0.grown hg (Nat.le_refl _); replace q := q.grown hg (by omega); clear hg hm; have hm := hm2; clear hm2)
        | (at_mapUpdate; refine wpList_upd _ rfl _ _ _ 71 rfl frKey Try.underlying71 _ _ rfl hm (2, 0, false) (.int .u8 2) rfl rfl ?_; intro w2 hm2 hg; replace b0 := b0.grown hg (Nat.le_refl _); replace q := q.grown hg (by omega); clear hg hm; have hm := hm2; clear hm2)
        | (at_mapUpdate; refine wpList_upd _ rfl _ _ _ 71 rfl frKey Try.underlying71 _ _ rfl hm (2, 0, true) (.int .u8 4) rfl rfl ?_; intro w2 hm2 hg; replace b0 := b0.grown hg (Nat.le_refl _); replace q := q.grown hg (by omega); clear hg hm; have hm := hm2; clear hm2))
      exact ⟨⟨2, by omega, by simp, hm, q, b0⟩, by simp [intOf]⟩
    · have hl := ours_look hm st kd en
      clear q hm
      by_cases h3 : kd = 3
      · have e3 : (kd == 3) = true := beq_iff_eq.2 h3
        have hn := ours_none st kd en (by omega)
        rw [hn] at hl
        simp only [Option.getD_none, Option.isSome_none] at hl
        cases hv : liveB st
        · have hr : sendsF st kd en = (st, false) := by
            unfold liveB at hv
            unfold sendsF
            rw [decide_eq_false_iff_not] at hv
            rw [if_neg (by omega), if_pos (by omega)]
          have HR := Lib.hid (snR hr)
          have L := Lib.hid fun W => fLive st h0 W
          rw [hv] at L
          clear hv hr h3 hn
          go_wp2_with (go_at_call 26; refine (L.out _).mono ?_; rintro e w1 ⟨rfl, rfl⟩)
          go_ret2
          exact ⟨HR.out, b0.out⟩
        · have hr : sendsF st kd en = (5, true) := by
            unfold liveB at hv
            unfold sendsF
            rw [decide_eq_true_eq] at hv
            rw [if_pos ⟨h3, hv⟩]
          have HR := Lib.hid (snR hr)
          have L := Lib.hid fun W => fLive st h0 W
          rw [hv] at L
          clear hv hr h3 hn
          go_wp2_with (go_at_call 26; refine (L.out _).mono ?_; rintro e w1 ⟨rfl, rfl⟩)
          go_ret2
          exact ⟨HR.out, b0.out⟩
      · have e3 : (kd == 3) = false := beq_eq_false_iff_ne.2 h3
        by_cases ho : (st = 1 ∨ st = 2) ∧ (kd = 0 ∨ kd = 1)
        · obtain ⟨o1, o2⟩ := ours_some st kd en ho
          rw [o1] at hl
          simp only [Option.getD_some, Option.isSome_some] at hl
          generalize hs : sendsF st kd en = p at *
          obtain ⟨p1, p2⟩ := p
          simp only at o2 hl
          subst o2
          clear hs o1 ho h3
          go_wp2
          go_ret2
          exact ⟨rfl, b0.out⟩
        · have hn := ours_none st kd en ho
          rw [hn] at hl
          simp only [Option.getD_none, Option.isSome_none] at hl
          have hr : sendsF st kd en = (st, false) := by
            unfold sendsF
            rw [if_neg (by omega), if_pos (by omega)]
          have HR := Lib.hid (snR hr)
          clear hr h3 hn ho
          go_wp2
          go_ret2
          exact ⟨HR.out, b0.out⟩
end Go.Proofs.Ytaaeflomjcpfpaa
