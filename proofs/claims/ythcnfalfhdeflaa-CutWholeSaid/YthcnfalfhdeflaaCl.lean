/- Whether pieces are the same: the document's contract. -/
import Derived.Test.YthcnfalfhdeflaaCp
import Derived.Deep.MidRow
namespace Go.Proofs.Ythcnfalfhdeflaa
open Go.RowKit Go.Shelf
attribute [local go_sem] Oper.semAt_some
set_option linter.unusedVariables false
set_option linter.unusedSimpArgs false

def eqPc (l m : List Pe) : Bool := decide (l.map (·.p) = m.map (·.p))
theorem eqPc_of {l m : List Pe} {n : Nat} (hl : l.length = n) (hm : m.length = n) (h : ∀ (j : Nat) (x y : Pe), l[j]? = some x → m[j]? = some y → x.p = y.p) : eqPc l m = true := by
  refine decide_eq_true (List.ext_getElem (by simp; omega) fun j h1 h2 => ?_)
  have h1' : j < l.length := by simpa using h1
  have h2' : j < m.length := by simpa using h2
  simpa using h j _ _ (List.getElem?_eq_getElem h1') (List.getElem?_eq_getElem h2')
theorem eqPc_ne {l m : List Pe} {j : Nat} {x y : Pe} (hx : l[j]? = some x) (hy : m[j]? = some y) (h : x.p ≠ y.p) : eqPc l m = false := by
  refine decide_eq_false fun e => h ?_
  have := congrArg (fun z => z[j]?) e
  simpa [List.getElem?_map, hx, hy] using this
theorem eqPc_len {l m : List Pe} (h : l.length ≠ m.length) : eqPc l m = false := decide_eq_false fun e => h (by simpa using congrArg List.length e)
section
variable {P : Program} {W : World} {o : Oper} {a : Act} {b off : Nat} {cs : List Value}
theorem exec_getM {ty : TypeId} {x : Operand} (ho : o.op = .load ty x) (hx : a.eval x = .pointer (some ⟨b, off, none⟩)) (hc : W.rangeAt b off cs) {d : TypeDesc} (hu : P.underlying ty = some d) (hd : d.isRow = true)
    (hi : (P.info? ty).map (·.size) = some cs.length) : (execOp a.eval o).run P W = .ok (.value (.agg cs.toArray)) W := by
  unfold execOp
  simp only [ho, hx, run_loadAt_mid W b off ty cs d hc hu hd hi, Sem.run_bind, Sem.run_pure, Result.andThen_ok]
end
theorem exec_headNe {W : World} {o : Oper} {a : Act} {x y : Operand} {L k f s L' k' f' s' : Int} {bb : Bool} (ho : o.op = .binOp .neq 41 x y 41) (hx : a.eval x = .agg #[.int .i64 L, .int .u8 k, .int .u8 f, .int .i64 s]) (hy : a.eval y = .agg #[.int .i64 L', .int .u8 k', .int .u8 f', .int .i64 s'])
    (hb : decide (¬(L = L' ∧ k = k' ∧ f = f' ∧ s = s')) = bb) : (execOp a.eval o).run Try.prog W = .ok (.value (.bool bb)) W := by
  subst hb
  unfold execOp
  simp only [ho, hx, hy]
  go_simp
  by_cases e1 : L = L' <;> by_cases e2 : k = k' <;> by_cases e3 : f = f' <;> by_cases e4 : s = s' <;> simp [e1, e2, e3, e4]
theorem draws_bel1 {B : Nat} {w w' : World} (h : Below B w w') (u : Unit) : Below B w w'.drew := h.trans ⟨rfl, rfl, rfl, Nat.le_refl _, fun _ _ => rfl⟩
set_option maxRecDepth 100000 in
set_option maxHeartbeats 4000000 in
theorem rPieces (A : Option Addr) (n c : Nat) (l : List Pe) (A' : Option Addr) (m c' : Nat) (l' : List Pe) (w : World) (h : Pcs w A n c l) (h' : Pcs w A' m c' l') :
    Calls Try.prog 10 #[.slice A n c, .slice A' m c'] w (BoolP (eqPc l l') w) := by
  have hl := h.len
  have hl' := h'.len
  have hmx : n ≤ 9223372036854775807 := Nat.le_trans h.cap h.mx
  have hmx' : m ≤ 9223372036854775807 := Nat.le_trans h'.cap h'.mx
  by_cases hnm : n = m
  · as_aux_lemma =>
      subst hnm
      have HL := Lib.hid hl
      have HL' := Lib.hid hl'
      have HH := Lib.hid h
      have HH' := Lib.hid h'
      clear hl hl' h h'
      go_enter Try.func10, Try.ntmps10
      go_wp2
      go_loopw [5] (fun i wr => ∃ k : Nat, k ≤ n ∧ i = .int .i64 k ∧ Hid (∀ (j : Nat) (x y : Pe), j < k → l[j]? = some x → l'[j]? = some y → x.p = y.p) ∧ Below w.heap.size w wr) (fun i _ => n - (intOf i).toNat)
      case atStart => exact ⟨0, Nat.zero_le _, rfl, Lib.hid fun j x y hj => absurd hj (Nat.not_lt_zero _), Below.refl _ _⟩
      case round =>
        obtain ⟨k, hk, rfl, hz, hb⟩ := hrel
        by_cases hlt : k < n
        · obtain ⟨b, o, rfl, hbl, hcell⟩ := (HH.out.below hb).cell (by omega)
          obtain ⟨b', o', rfl, hbl', hcell'⟩ := (HH'.out.below hb).cell (by omega)
          obtain ⟨x, hx⟩ : ∃ x, l[k]? = some x := ⟨l[k]'(by rw [HL.out]; exact hlt), List.getElem?_eq_getElem _⟩
          obtain ⟨y, hy⟩ : ∃ y, l'[k]? = some y := ⟨l'[k]'(by rw [HL'.out]; exact hlt), List.getElem?_eq_getElem _⟩
          have cx := hcell k x hx
          have cy := hcell' k y hy
          have yx := ((HH.out.byt x (List.mem_of_getElem? hx)).2).below hb
          have yy := ((HH'.out.byt y (List.mem_of_getElem? hy)).2).below hb
          have hb2 := Lib.hid hb
          have i0 : (0 : Int) ≤ (k : Int) := by omega
          have i1 : (k : Int) < (n : Int) := by omega
          have HX := Lib.hid hx
          have HY := Lib.hid hy
          clear hcell hcell' hb hx hy
          obtain ⟨⟨L, kk, f, s, dl⟩, dA, dc⟩ := x
          obtain ⟨⟨L', kk', f', s', dl'⟩, dA', dc'⟩ := y
          simp only at cx cy yx yy
          have R1 : wr.rangeAt b (o + k * 5) [.int .i64 L, .int .u8 kk, .int .u8 f, .int .i64 s] := by
            intro j v hv
            have hj : j < 4 := (List.getElem?_eq_some_iff.1 hv).1
            refine cx j v ?_
            rw [← hv]
            have : j = 0 ∨ j = 1 ∨ j = 2 ∨ j = 3 := by omega
            rcases this with rfl | rfl | rfl | rfl <;> rfl
          have R2 : wr.rangeAt b' (o' + k * 5) [.int .i64 L', .int .u8 kk', .int .u8 f', .int .i64 s'] := by
            intro j v hv
            have hj : j < 4 := (List.getElem?_eq_some_iff.1 hv).1
            refine cy j v ?_
            rw [← hv]
            have : j = 0 ∨ j = 1 ∨ j = 2 ∨ j = 3 := by omega
            rcases this with rfl | rfl | rfl | rfl <;> rfl
          have c4 : wr.cell? ⟨b, o + k * 5 + 4, none⟩ = some (.slice dA dl.length dc) := cx 4 _ rfl
          have c5 : wr.cell? ⟨b', o' + k * 5 + 4, none⟩ = some (.slice dA' dl'.length dc') := cy 4 _ rfl
          clear cx cy
          have e3 := strOf_eq yx.bs yy.bs
          have S1 := Lib.hid (And.intro R1 (And.intro R2 (And.intro c4 (And.intro c5 (And.intro yx yy)))))
          clear R1 R2 c4 c5 yx yy
          generalize dl.length = dn at *
          generalize dl'.length = dn' at *
          have HS0 : Hid ((fun w' => w'.rangeAt b (o + k * 5) [.int .i64 L, .int .u8 kk, .int .u8 f, .int .i64 s] ∧ w'.rangeAt b' (o' + k * 5) [.int .i64 L', .int .u8 kk', .int .u8 f', .int .i64 s'] ∧ w'.cell? ⟨b, o + k * 5 + 4, none⟩ = some (.slice dA dn dc) ∧ w'.cell? ⟨b', o' + k * 5 + 4, none⟩ = some (.slice dA' dn' dc') ∧ Byt w' dA dn dc dl ∧ Byt w' dA' dn' dc' dl') wr.drew) := Lib.hid ⟨fun j v hv => S1.out.1 j v hv, fun j v hv => S1.out.2.1 j v hv, S1.out.2.2.1, S1.out.2.2.2.1, S1.out.2.2.2.2.1.drew, S1.out.2.2.2.2.2.drew⟩
          clear S1
          by_cases hh : L = L' ∧ kk = kk' ∧ f = f' ∧ s = s'
          · have hhd : decide (¬(L = L' ∧ kk = kk' ∧ f = f' ∧ s = s')) = false := decide_eq_false (fun h => h hh)
            have HH0 := Lib.hid hh
            clear hh
            by_cases hd : dl = dl'
            · as_aux_lemma =>
                have E4 : Hid ((strOf dl).toList = (strOf dl').toList) := Lib.hid (by rw [hd])
                have HD := Lib.hid hd
                have HZ2 : Hid (∀ (j : Nat) (x y : Pe), j < k + 1 → l[j]? = some x → l'[j]? = some y → x.p = y.p) := Lib.hid fun j x y hj h1 h2 => by
                  by_cases hjk : j = k
                  · subst hjk
                    cases HX.out.symm.trans h1
                    cases HY.out.symm.trans h2
                    obtain ⟨r1, r2, r3, r4⟩ := HH0.out
                    simp only [r1, r2, r3, r4, HD.out]
                  · exact hz.out j x y (by omega) h1 h2
                clear hd hz e3
                go_wp2_with fail
                refine wp_region_noPanic ?_
                refine wp_region_G (fun w' => w'.rangeAt b (o + k * 5) [.int .i64 L, .int .u8 kk, .int .u8 f, .int .i64 s] ∧ w'.rangeAt b' (o' + k * 5) [.int .i64 L', .int .u8 kk', .int .u8 f', .int .i64 s'] ∧ w'.cell? ⟨b, o + k * 5 + 4, none⟩ = some (.slice dA dn dc) ∧ w'.cell? ⟨b', o' + k * 5 + 4, none⟩ = some (.slice dA' dn' dc') ∧ Byt w' dA dn dc dl ∧ Byt w' dA' dn' dc' dl') [] (by kernel_rfl) ?_
                have S0 := HS0.out
                refine wpAnyG_take 0 (v := ?_) rfl (by kernel_rfl) (fun _ _ _ h => nomatch h) S0 (Or.inl ⟨by rfl, by intro w' hSw; go_simp; try with_reducible rfl⟩) ?_; (try simp only [Act.put, List.getElem_toArray, List.getElem_cons_succ, List.getElem_cons_zero, List.setIfInBounds_toArray, List.set_cons_zero, List.set_cons_succ])
                refine wpAnyG_take 1 (v := ?_) rfl (by kernel_rfl) (fun _ _ _ h => nomatch h) S0 (Or.inl ⟨by rfl, by intro w' hSw; go_simp; try with_reducible rfl⟩) ?_; (try simp only [Act.put, List.getElem_toArray, List.getElem_cons_succ, List.getElem_cons_zero, List.setIfInBounds_toArray, List.set_cons_zero, List.set_cons_succ])
                refine wpAnyG_take 2 (v := ?_) rfl (by kernel_rfl) (fun _ _ _ h => nomatch h) S0 (Or.inl ⟨by rfl, by intro w' hSw; go_simp; try with_reducible rfl⟩) ?_; (try simp only [Act.put, List.getElem_toArray, List.getElem_cons_succ, List.getElem_cons_zero, List.setIfInBounds_toArray, List.set_cons_zero, List.set_cons_succ])
                refine wpAnyG_take 3 (v := ?_) rfl (by kernel_rfl) (fun _ _ _ h => nomatch h) S0 (Or.inl ⟨by rfl, by intro w' hSw; go_simp; try with_reducible rfl⟩) ?_; (try simp only [Act.put, List.getElem_toArray, List.getElem_cons_succ, List.getElem_cons_zero, List.setIfInBounds_toArray, List.set_cons_zero, List.set_cons_succ])
                refine wpAnyG_take 4 (v := .agg #[.int .i64 L, .int .u8 kk, .int .u8 f, .int .i64 s]) rfl (by kernel_rfl) (fun _ _ _ h => nomatch h) S0 (Or.inl ⟨by rfl, by intro w' hSw; exact exec_getM (by rfl) (by rfl) hSw.1 Try.underlying41 rfl (by rfl)⟩) ?_; (try simp only [Act.put, List.getElem_toArray, List.getElem_cons_succ, List.getElem_cons_zero, List.setIfInBounds_toArray, List.set_cons_zero, List.set_cons_succ])
                refine wpAnyG_take 5 (v := ?_) rfl (by kernel_rfl) (fun _ _ _ h => nomatch h) S0 (Or.inl ⟨by rfl, by intro w' hSw; go_simp; try with_reducible rfl⟩) ?_; (try simp only [Act.put, List.getElem_toArray, List.getElem_cons_succ, List.getElem_cons_zero, List.setIfInBounds_toArray, List.set_cons_zero, List.set_cons_succ])
                refine wpAnyG_take 6 (v := ?_) rfl (by kernel_rfl) (fun _ _ _ h => nomatch h) S0 (Or.inl ⟨by rfl, by intro w' hSw; go_simp; try with_reducible rfl⟩) ?_; (try simp only [Act.put, List.getElem_toArray, List.getElem_cons_succ, List.getElem_cons_zero, List.setIfInBounds_toArray, List.set_cons_zero, List.set_cons_succ])
                refine wpAnyG_take 7 (v := ?_) rfl (by kernel_rfl) (fun _ _ _ h => nomatch h) S0 (Or.inl ⟨by rfl, by intro w' hSw; go_simp; try with_reducible rfl⟩) ?_; (try simp only [Act.put, List.getElem_toArray, List.getElem_cons_succ, List.getElem_cons_zero, List.setIfInBounds_toArray, List.set_cons_zero, List.set_cons_succ])
                refine wpAnyG_take 8 (v := ?_) rfl (by kernel_rfl) (fun _ _ _ h => nomatch h) S0 (Or.inl ⟨by rfl, by intro w' hSw; go_simp; try with_reducible rfl⟩) ?_; (try simp only [Act.put, List.getElem_toArray, List.getElem_cons_succ, List.getElem_cons_zero, List.setIfInBounds_toArray, List.set_cons_zero, List.set_cons_succ])
                refine wpAnyG_take 9 (v := .agg #[.int .i64 L', .int .u8 kk', .int .u8 f', .int .i64 s']) rfl (by kernel_rfl) (fun _ _ _ h => nomatch h) S0 (Or.inl ⟨by rfl, by intro w' hSw; exact exec_getM (by rfl) (by rfl) hSw.2.1 Try.underlying41 rfl (by rfl)⟩) ?_; (try simp only [Act.put, List.getElem_toArray, List.getElem_cons_succ, List.getElem_cons_zero, List.setIfInBounds_toArray, List.set_cons_zero, List.set_cons_succ])
                refine wpAnyG_take 10 (v := .bool false) rfl (by kernel_rfl) (fun _ _ _ h => nomatch h) S0 (Or.inl ⟨by rfl, by intro w' hSw; exact exec_headNe (by rfl) (by rfl) (by rfl) hhd⟩) ?_; (try simp only [Act.put, List.getElem_toArray, List.getElem_cons_succ, List.getElem_cons_zero, List.setIfInBounds_toArray, List.set_cons_zero, List.set_cons_succ])
                refine wpAnyG_take 11 (v := ?_) rfl (by kernel_rfl) (fun _ _ _ h => nomatch h) S0 (Or.inl ⟨by rfl, by intro w' hSw; go_simp; try with_reducible rfl⟩) ?_; (try simp only [Act.put, List.getElem_toArray, List.getElem_cons_succ, List.getElem_cons_zero, List.setIfInBounds_toArray, List.set_cons_zero, List.set_cons_succ])
                refine wpAnyG_take 12 (v := ?_) rfl (by kernel_rfl) (fun _ _ _ h => nomatch h) S0 (Or.inl ⟨by rfl, by intro w' hSw; go_simp; try with_reducible rfl⟩) ?_; (try simp only [Act.put, List.getElem_toArray, List.getElem_cons_succ, List.getElem_cons_zero, List.setIfInBounds_toArray, List.set_cons_zero, List.set_cons_succ])
                refine wpAnyG_take 13 (v := ?_) rfl (by kernel_rfl) (fun _ _ _ h => nomatch h) S0 (Or.inl ⟨by rfl, by intro w' hSw; go_simp; try with_reducible rfl⟩) ?_; (try simp only [Act.put, List.getElem_toArray, List.getElem_cons_succ, List.getElem_cons_zero, List.setIfInBounds_toArray, List.set_cons_zero, List.set_cons_succ])
                refine wpAnyG_take 14 (v := ?_) rfl (by kernel_rfl) (fun _ _ _ h => nomatch h) S0 (Or.inl ⟨by rfl, by intro w' hSw; go_simp; try with_reducible rfl⟩) ?_; (try simp only [Act.put, List.getElem_toArray, List.getElem_cons_succ, List.getElem_cons_zero, List.setIfInBounds_toArray, List.set_cons_zero, List.set_cons_succ])
                refine wpAnyG_take 15 (v := ?_) rfl (by kernel_rfl) (fun _ _ _ h => nomatch h) S0 (Or.inl ⟨by rfl, by intro w' hSw; go_simp; try with_reducible rfl⟩) ?_; (try simp only [Act.put, List.getElem_toArray, List.getElem_cons_succ, List.getElem_cons_zero, List.setIfInBounds_toArray, List.set_cons_zero, List.set_cons_succ])
                refine wpAnyG_take 16 (v := ?_) rfl (by kernel_rfl) (fun _ _ _ h => nomatch h) S0 (Or.inl ⟨by rfl, by intro w' hSw; have z0 := hSw.2.2.1; have z1 := hSw.2.2.2.1; go_simp; try with_reducible rfl⟩) ?_; (try simp only [Act.put, List.getElem_toArray, List.getElem_cons_succ, List.getElem_cons_zero, List.setIfInBounds_toArray, List.set_cons_zero, List.set_cons_succ])
                refine wpAnyG_take 17 (v := ?_) rfl (by kernel_rfl) (fun _ _ _ h => nomatch h) S0 (Or.inl ⟨by rfl, by intro w' hSw; have z0 := hSw.2.2.2.2.1.conv; have z1 := hSw.2.2.2.2.2.conv; go_simp; try with_reducible rfl⟩) ?_; (try simp only [Act.put, List.getElem_toArray, List.getElem_cons_succ, List.getElem_cons_zero, List.setIfInBounds_toArray, List.set_cons_zero, List.set_cons_succ])
                refine wpAnyG_take 18 (v := ?_) rfl (by kernel_rfl) (fun _ _ _ h => nomatch h) S0 (Or.inl ⟨by rfl, by intro w' hSw; go_simp; try with_reducible rfl⟩) ?_; (try simp only [Act.put, List.getElem_toArray, List.getElem_cons_succ, List.getElem_cons_zero, List.setIfInBounds_toArray, List.set_cons_zero, List.set_cons_succ])
                refine wpAnyG_take 19 (v := ?_) rfl (by kernel_rfl) (fun _ _ _ h => nomatch h) S0 (Or.inl ⟨by rfl, by intro w' hSw; go_simp; try with_reducible rfl⟩) ?_; (try simp only [Act.put, List.getElem_toArray, List.getElem_cons_succ, List.getElem_cons_zero, List.setIfInBounds_toArray, List.set_cons_zero, List.set_cons_succ])
                refine wpAnyG_take 20 (v := ?_) rfl (by kernel_rfl) (fun _ _ _ h => nomatch h) S0 (Or.inl ⟨by rfl, by intro w' hSw; go_simp; try with_reducible rfl⟩) ?_; (try simp only [Act.put, List.getElem_toArray, List.getElem_cons_succ, List.getElem_cons_zero, List.setIfInBounds_toArray, List.set_cons_zero, List.set_cons_succ])
                refine wpAnyG_take 21 (v := ?_) rfl (by kernel_rfl) (fun _ _ _ h => nomatch h) S0 (Or.inl ⟨by rfl, by intro w' hSw; go_simp; try with_reducible rfl⟩) ?_; (try simp only [Act.put, List.getElem_toArray, List.getElem_cons_succ, List.getElem_cons_zero, List.setIfInBounds_toArray, List.set_cons_zero, List.set_cons_succ])
                refine wpAnyG_take 22 (v := ?_) rfl (by kernel_rfl) (fun _ _ _ h => nomatch h) S0 (Or.inl ⟨by rfl, by intro w' hSw; have z0 := hSw.2.2.1; have z1 := hSw.2.2.2.1; go_simp; try with_reducible rfl⟩) ?_; (try simp only [Act.put, List.getElem_toArray, List.getElem_cons_succ, List.getElem_cons_zero, List.setIfInBounds_toArray, List.set_cons_zero, List.set_cons_succ])
                refine wpAnyG_take 23 (v := ?_) rfl (by kernel_rfl) (fun _ _ _ h => nomatch h) S0 (Or.inl ⟨by rfl, by intro w' hSw; have z0 := hSw.2.2.2.2.1.conv; have z1 := hSw.2.2.2.2.2.conv; go_simp; try with_reducible rfl⟩) ?_; (try simp only [Act.put, List.getElem_toArray, List.getElem_cons_succ, List.getElem_cons_zero, List.setIfInBounds_toArray, List.set_cons_zero, List.set_cons_succ])
                refine wpAnyG_take 24 (v := .bool false) rfl (by kernel_rfl) (fun _ _ _ h => nomatch h) S0 (Or.inl ⟨by rfl, by intro w' hSw; go_simp; exact E4.out⟩) ?_; (try simp only [Act.put, List.getElem_toArray, List.getElem_cons_succ, List.getElem_cons_zero, List.setIfInBounds_toArray, List.set_cons_zero, List.set_cons_succ])
                refine wpAnyG_take 25 (v := ?_) rfl (by kernel_rfl) (fun _ _ _ h => nomatch h) S0 (Or.inl ⟨by rfl, by intro w' hSw; go_simp; try with_reducible rfl⟩) ?_; (try simp only [Act.put, List.getElem_toArray, List.getElem_cons_succ, List.getElem_cons_zero, List.setIfInBounds_toArray, List.set_cons_zero, List.set_cons_succ])
                clear S0
                refine wpAnyG_done (by kernel_rfl) ?_ _
                refine NoPanic.normal ?_
                go_wp2
                exact ⟨⟨k + 1, by omega, by simp, HZ2, draws_bel1 hb2.out ()⟩, by simp [intOf]; omega⟩
            · as_aux_lemma =>
                have e4 : ¬(strOf dl).toList = (strOf dl').toList := by
                  have h1 : eqB dl dl' = false := by simp [eqB, hd]
                  rw [h1] at e3
                  simpa using e3
                have E4 := Lib.hid e4
                clear e4
                have HN := Lib.hid (eqPc_ne HX.out HY.out (fun e => hd (by injection e)))
                clear hd hz e3
                go_wp2_with fail
                refine wp_region_noPanic ?_
                refine wp_region_G (fun w' => w'.rangeAt b (o + k * 5) [.int .i64 L, .int .u8 kk, .int .u8 f, .int .i64 s] ∧ w'.rangeAt b' (o' + k * 5) [.int .i64 L', .int .u8 kk', .int .u8 f', .int .i64 s'] ∧ w'.cell? ⟨b, o + k * 5 + 4, none⟩ = some (.slice dA dn dc) ∧ w'.cell? ⟨b', o' + k * 5 + 4, none⟩ = some (.slice dA' dn' dc') ∧ Byt w' dA dn dc dl ∧ Byt w' dA' dn' dc' dl') [] (by kernel_rfl) ?_
                have S0 := HS0.out
                refine wpAnyG_take 0 (v := ?_) rfl (by kernel_rfl) (fun _ _ _ h => nomatch h) S0 (Or.inl ⟨by rfl, by intro w' hSw; go_simp; try with_reducible rfl⟩) ?_; (try simp only [Act.put, List.getElem_toArray, List.getElem_cons_succ, List.getElem_cons_zero, List.setIfInBounds_toArray, List.set_cons_zero, List.set_cons_succ])
                refine wpAnyG_take 1 (v := ?_) rfl (by kernel_rfl) (fun _ _ _ h => nomatch h) S0 (Or.inl ⟨by rfl, by intro w' hSw; go_simp; try with_reducible rfl⟩) ?_; (try simp only [Act.put, List.getElem_toArray, List.getElem_cons_succ, List.getElem_cons_zero, List.setIfInBounds_toArray, List.set_cons_zero, List.set_cons_succ])
                refine wpAnyG_take 2 (v := ?_) rfl (by kernel_rfl) (fun _ _ _ h => nomatch h) S0 (Or.inl ⟨by rfl, by intro w' hSw; go_simp; try with_reducible rfl⟩) ?_; (try simp only [Act.put, List.getElem_toArray, List.getElem_cons_succ, List.getElem_cons_zero, List.setIfInBounds_toArray, List.set_cons_zero, List.set_cons_succ])
                refine wpAnyG_take 3 (v := ?_) rfl (by kernel_rfl) (fun _ _ _ h => nomatch h) S0 (Or.inl ⟨by rfl, by intro w' hSw; go_simp; try with_reducible rfl⟩) ?_; (try simp only [Act.put, List.getElem_toArray, List.getElem_cons_succ, List.getElem_cons_zero, List.setIfInBounds_toArray, List.set_cons_zero, List.set_cons_succ])
                refine wpAnyG_take 4 (v := .agg #[.int .i64 L, .int .u8 kk, .int .u8 f, .int .i64 s]) rfl (by kernel_rfl) (fun _ _ _ h => nomatch h) S0 (Or.inl ⟨by rfl, by intro w' hSw; exact exec_getM (by rfl) (by rfl) hSw.1 Try.underlying41 rfl (by rfl)⟩) ?_; (try simp only [Act.put, List.getElem_toArray, List.getElem_cons_succ, List.getElem_cons_zero, List.setIfInBounds_toArray, List.set_cons_zero, List.set_cons_succ])
                refine wpAnyG_take 5 (v := ?_) rfl (by kernel_rfl) (fun _ _ _ h => nomatch h) S0 (Or.inl ⟨by rfl, by intro w' hSw; go_simp; try with_reducible rfl⟩) ?_; (try simp only [Act.put, List.getElem_toArray, List.getElem_cons_succ, List.getElem_cons_zero, List.setIfInBounds_toArray, List.set_cons_zero, List.set_cons_succ])
                refine wpAnyG_take 6 (v := ?_) rfl (by kernel_rfl) (fun _ _ _ h => nomatch h) S0 (Or.inl ⟨by rfl, by intro w' hSw; go_simp; try with_reducible rfl⟩) ?_; (try simp only [Act.put, List.getElem_toArray, List.getElem_cons_succ, List.getElem_cons_zero, List.setIfInBounds_toArray, List.set_cons_zero, List.set_cons_succ])
                refine wpAnyG_take 7 (v := ?_) rfl (by kernel_rfl) (fun _ _ _ h => nomatch h) S0 (Or.inl ⟨by rfl, by intro w' hSw; go_simp; try with_reducible rfl⟩) ?_; (try simp only [Act.put, List.getElem_toArray, List.getElem_cons_succ, List.getElem_cons_zero, List.setIfInBounds_toArray, List.set_cons_zero, List.set_cons_succ])
                refine wpAnyG_take 8 (v := ?_) rfl (by kernel_rfl) (fun _ _ _ h => nomatch h) S0 (Or.inl ⟨by rfl, by intro w' hSw; go_simp; try with_reducible rfl⟩) ?_; (try simp only [Act.put, List.getElem_toArray, List.getElem_cons_succ, List.getElem_cons_zero, List.setIfInBounds_toArray, List.set_cons_zero, List.set_cons_succ])
                refine wpAnyG_take 9 (v := .agg #[.int .i64 L', .int .u8 kk', .int .u8 f', .int .i64 s']) rfl (by kernel_rfl) (fun _ _ _ h => nomatch h) S0 (Or.inl ⟨by rfl, by intro w' hSw; exact exec_getM (by rfl) (by rfl) hSw.2.1 Try.underlying41 rfl (by rfl)⟩) ?_; (try simp only [Act.put, List.getElem_toArray, List.getElem_cons_succ, List.getElem_cons_zero, List.setIfInBounds_toArray, List.set_cons_zero, List.set_cons_succ])
                refine wpAnyG_take 10 (v := .bool false) rfl (by kernel_rfl) (fun _ _ _ h => nomatch h) S0 (Or.inl ⟨by rfl, by intro w' hSw; exact exec_headNe (by rfl) (by rfl) (by rfl) hhd⟩) ?_; (try simp only [Act.put, List.getElem_toArray, List.getElem_cons_succ, List.getElem_cons_zero, List.setIfInBounds_toArray, List.set_cons_zero, List.set_cons_succ])
                refine wpAnyG_take 11 (v := ?_) rfl (by kernel_rfl) (fun _ _ _ h => nomatch h) S0 (Or.inl ⟨by rfl, by intro w' hSw; go_simp; try with_reducible rfl⟩) ?_; (try simp only [Act.put, List.getElem_toArray, List.getElem_cons_succ, List.getElem_cons_zero, List.setIfInBounds_toArray, List.set_cons_zero, List.set_cons_succ])
                refine wpAnyG_take 12 (v := ?_) rfl (by kernel_rfl) (fun _ _ _ h => nomatch h) S0 (Or.inl ⟨by rfl, by intro w' hSw; go_simp; try with_reducible rfl⟩) ?_; (try simp only [Act.put, List.getElem_toArray, List.getElem_cons_succ, List.getElem_cons_zero, List.setIfInBounds_toArray, List.set_cons_zero, List.set_cons_succ])
                refine wpAnyG_take 13 (v := ?_) rfl (by kernel_rfl) (fun _ _ _ h => nomatch h) S0 (Or.inl ⟨by rfl, by intro w' hSw; go_simp; try with_reducible rfl⟩) ?_; (try simp only [Act.put, List.getElem_toArray, List.getElem_cons_succ, List.getElem_cons_zero, List.setIfInBounds_toArray, List.set_cons_zero, List.set_cons_succ])
                refine wpAnyG_take 14 (v := ?_) rfl (by kernel_rfl) (fun _ _ _ h => nomatch h) S0 (Or.inl ⟨by rfl, by intro w' hSw; go_simp; try with_reducible rfl⟩) ?_; (try simp only [Act.put, List.getElem_toArray, List.getElem_cons_succ, List.getElem_cons_zero, List.setIfInBounds_toArray, List.set_cons_zero, List.set_cons_succ])
                refine wpAnyG_take 15 (v := ?_) rfl (by kernel_rfl) (fun _ _ _ h => nomatch h) S0 (Or.inl ⟨by rfl, by intro w' hSw; go_simp; try with_reducible rfl⟩) ?_; (try simp only [Act.put, List.getElem_toArray, List.getElem_cons_succ, List.getElem_cons_zero, List.setIfInBounds_toArray, List.set_cons_zero, List.set_cons_succ])
                refine wpAnyG_take 16 (v := ?_) rfl (by kernel_rfl) (fun _ _ _ h => nomatch h) S0 (Or.inl ⟨by rfl, by intro w' hSw; have z0 := hSw.2.2.1; have z1 := hSw.2.2.2.1; go_simp; try with_reducible rfl⟩) ?_; (try simp only [Act.put, List.getElem_toArray, List.getElem_cons_succ, List.getElem_cons_zero, List.setIfInBounds_toArray, List.set_cons_zero, List.set_cons_succ])
                refine wpAnyG_take 17 (v := ?_) rfl (by kernel_rfl) (fun _ _ _ h => nomatch h) S0 (Or.inl ⟨by rfl, by intro w' hSw; have z0 := hSw.2.2.2.2.1.conv; have z1 := hSw.2.2.2.2.2.conv; go_simp; try with_reducible rfl⟩) ?_; (try simp only [Act.put, List.getElem_toArray, List.getElem_cons_succ, List.getElem_cons_zero, List.setIfInBounds_toArray, List.set_cons_zero, List.set_cons_succ])
                refine wpAnyG_take 18 (v := ?_) rfl (by kernel_rfl) (fun _ _ _ h => nomatch h) S0 (Or.inl ⟨by rfl, by intro w' hSw; go_simp; try with_reducible rfl⟩) ?_; (try simp only [Act.put, List.getElem_toArray, List.getElem_cons_succ, List.getElem_cons_zero, List.setIfInBounds_toArray, List.set_cons_zero, List.set_cons_succ])
                refine wpAnyG_take 19 (v := ?_) rfl (by kernel_rfl) (fun _ _ _ h => nomatch h) S0 (Or.inl ⟨by rfl, by intro w' hSw; go_simp; try with_reducible rfl⟩) ?_; (try simp only [Act.put, List.getElem_toArray, List.getElem_cons_succ, List.getElem_cons_zero, List.setIfInBounds_toArray, List.set_cons_zero, List.set_cons_succ])
                refine wpAnyG_take 20 (v := ?_) rfl (by kernel_rfl) (fun _ _ _ h => nomatch h) S0 (Or.inl ⟨by rfl, by intro w' hSw; go_simp; try with_reducible rfl⟩) ?_; (try simp only [Act.put, List.getElem_toArray, List.getElem_cons_succ, List.getElem_cons_zero, List.setIfInBounds_toArray, List.set_cons_zero, List.set_cons_succ])
                refine wpAnyG_take 21 (v := ?_) rfl (by kernel_rfl) (fun _ _ _ h => nomatch h) S0 (Or.inl ⟨by rfl, by intro w' hSw; go_simp; try with_reducible rfl⟩) ?_; (try simp only [Act.put, List.getElem_toArray, List.getElem_cons_succ, List.getElem_cons_zero, List.setIfInBounds_toArray, List.set_cons_zero, List.set_cons_succ])
                refine wpAnyG_take 22 (v := ?_) rfl (by kernel_rfl) (fun _ _ _ h => nomatch h) S0 (Or.inl ⟨by rfl, by intro w' hSw; have z0 := hSw.2.2.1; have z1 := hSw.2.2.2.1; go_simp; try with_reducible rfl⟩) ?_; (try simp only [Act.put, List.getElem_toArray, List.getElem_cons_succ, List.getElem_cons_zero, List.setIfInBounds_toArray, List.set_cons_zero, List.set_cons_succ])
                refine wpAnyG_take 23 (v := ?_) rfl (by kernel_rfl) (fun _ _ _ h => nomatch h) S0 (Or.inl ⟨by rfl, by intro w' hSw; have z0 := hSw.2.2.2.2.1.conv; have z1 := hSw.2.2.2.2.2.conv; go_simp; try with_reducible rfl⟩) ?_; (try simp only [Act.put, List.getElem_toArray, List.getElem_cons_succ, List.getElem_cons_zero, List.setIfInBounds_toArray, List.set_cons_zero, List.set_cons_succ])
                refine wpAnyG_take 24 (v := .bool true) rfl (by kernel_rfl) (fun _ _ _ h => nomatch h) S0 (Or.inl ⟨by rfl, by intro w' hSw; go_simp; exact E4.out⟩) ?_; (try simp only [Act.put, List.getElem_toArray, List.getElem_cons_succ, List.getElem_cons_zero, List.setIfInBounds_toArray, List.set_cons_zero, List.set_cons_succ])
                refine wpAnyG_take 25 (v := ?_) rfl (by kernel_rfl) (fun _ _ _ h => nomatch h) S0 (Or.inl ⟨by rfl, by intro w' hSw; go_simp; try with_reducible rfl⟩) ?_; (try simp only [Act.put, List.getElem_toArray, List.getElem_cons_succ, List.getElem_cons_zero, List.setIfInBounds_toArray, List.set_cons_zero, List.set_cons_succ])
                clear S0
                refine wpAnyG_done (by kernel_rfl) ?_ _
                refine NoPanic.normal ?_
                go_wp2
                go_ret
                exact ⟨by rw [HN.out]; rfl, draws_bel1 hb2.out ()⟩
          · as_aux_lemma =>
              have hhd : decide (¬(L = L' ∧ kk = kk' ∧ f = f' ∧ s = s')) = true := decide_eq_true hh
              have HN := Lib.hid (eqPc_ne HX.out HY.out (fun e => hh (by injection e with a b c d e; exact ⟨a, b, c, d⟩)))
              clear hh hz e3
              go_wp2_with fail
              refine wp_region_noPanic ?_
              refine wp_region_G (fun w' => w'.rangeAt b (o + k * 5) [.int .i64 L, .int .u8 kk, .int .u8 f, .int .i64 s] ∧ w'.rangeAt b' (o' + k * 5) [.int .i64 L', .int .u8 kk', .int .u8 f', .int .i64 s'] ∧ w'.cell? ⟨b, o + k * 5 + 4, none⟩ = some (.slice dA dn dc) ∧ w'.cell? ⟨b', o' + k * 5 + 4, none⟩ = some (.slice dA' dn' dc') ∧ Byt w' dA dn dc dl ∧ Byt w' dA' dn' dc' dl') [] (by kernel_rfl) ?_
              have S0 := HS0.out
              refine wpAnyG_take 0 (v := ?_) rfl (by kernel_rfl) (fun _ _ _ h => nomatch h) S0 (Or.inl ⟨by rfl, by intro w' hSw; go_simp; try with_reducible rfl⟩) ?_; (try simp only [Act.put, List.getElem_toArray, List.getElem_cons_succ, List.getElem_cons_zero, List.setIfInBounds_toArray, List.set_cons_zero, List.set_cons_succ])
              refine wpAnyG_take 1 (v := ?_) rfl (by kernel_rfl) (fun _ _ _ h => nomatch h) S0 (Or.inl ⟨by rfl, by intro w' hSw; go_simp; try with_reducible rfl⟩) ?_; (try simp only [Act.put, List.getElem_toArray, List.getElem_cons_succ, List.getElem_cons_zero, List.setIfInBounds_toArray, List.set_cons_zero, List.set_cons_succ])
              refine wpAnyG_take 2 (v := ?_) rfl (by kernel_rfl) (fun _ _ _ h => nomatch h) S0 (Or.inl ⟨by rfl, by intro w' hSw; go_simp; try with_reducible rfl⟩) ?_; (try simp only [Act.put, List.getElem_toArray, List.getElem_cons_succ, List.getElem_cons_zero, List.setIfInBounds_toArray, List.set_cons_zero, List.set_cons_succ])
              refine wpAnyG_take 3 (v := ?_) rfl (by kernel_rfl) (fun _ _ _ h => nomatch h) S0 (Or.inl ⟨by rfl, by intro w' hSw; go_simp; try with_reducible rfl⟩) ?_; (try simp only [Act.put, List.getElem_toArray, List.getElem_cons_succ, List.getElem_cons_zero, List.setIfInBounds_toArray, List.set_cons_zero, List.set_cons_succ])
              refine wpAnyG_take 4 (v := .agg #[.int .i64 L, .int .u8 kk, .int .u8 f, .int .i64 s]) rfl (by kernel_rfl) (fun _ _ _ h => nomatch h) S0 (Or.inl ⟨by rfl, by intro w' hSw; exact exec_getM (by rfl) (by rfl) hSw.1 Try.underlying41 rfl (by rfl)⟩) ?_; (try simp only [Act.put, List.getElem_toArray, List.getElem_cons_succ, List.getElem_cons_zero, List.setIfInBounds_toArray, List.set_cons_zero, List.set_cons_succ])
              refine wpAnyG_take 5 (v := ?_) rfl (by kernel_rfl) (fun _ _ _ h => nomatch h) S0 (Or.inl ⟨by rfl, by intro w' hSw; go_simp; try with_reducible rfl⟩) ?_; (try simp only [Act.put, List.getElem_toArray, List.getElem_cons_succ, List.getElem_cons_zero, List.setIfInBounds_toArray, List.set_cons_zero, List.set_cons_succ])
              refine wpAnyG_take 6 (v := ?_) rfl (by kernel_rfl) (fun _ _ _ h => nomatch h) S0 (Or.inl ⟨by rfl, by intro w' hSw; go_simp; try with_reducible rfl⟩) ?_; (try simp only [Act.put, List.getElem_toArray, List.getElem_cons_succ, List.getElem_cons_zero, List.setIfInBounds_toArray, List.set_cons_zero, List.set_cons_succ])
              refine wpAnyG_take 7 (v := ?_) rfl (by kernel_rfl) (fun _ _ _ h => nomatch h) S0 (Or.inl ⟨by rfl, by intro w' hSw; go_simp; try with_reducible rfl⟩) ?_; (try simp only [Act.put, List.getElem_toArray, List.getElem_cons_succ, List.getElem_cons_zero, List.setIfInBounds_toArray, List.set_cons_zero, List.set_cons_succ])
              refine wpAnyG_take 8 (v := ?_) rfl (by kernel_rfl) (fun _ _ _ h => nomatch h) S0 (Or.inl ⟨by rfl, by intro w' hSw; go_simp; try with_reducible rfl⟩) ?_; (try simp only [Act.put, List.getElem_toArray, List.getElem_cons_succ, List.getElem_cons_zero, List.setIfInBounds_toArray, List.set_cons_zero, List.set_cons_succ])
              refine wpAnyG_take 9 (v := .agg #[.int .i64 L', .int .u8 kk', .int .u8 f', .int .i64 s']) rfl (by kernel_rfl) (fun _ _ _ h => nomatch h) S0 (Or.inl ⟨by rfl, by intro w' hSw; exact exec_getM (by rfl) (by rfl) hSw.2.1 Try.underlying41 rfl (by rfl)⟩) ?_; (try simp only [Act.put, List.getElem_toArray, List.getElem_cons_succ, List.getElem_cons_zero, List.setIfInBounds_toArray, List.set_cons_zero, List.set_cons_succ])
              refine wpAnyG_take 10 (v := .bool true) rfl (by kernel_rfl) (fun _ _ _ h => nomatch h) S0 (Or.inl ⟨by rfl, by intro w' hSw; exact exec_headNe (by rfl) (by rfl) (by rfl) hhd⟩) ?_; (try simp only [Act.put, List.getElem_toArray, List.getElem_cons_succ, List.getElem_cons_zero, List.setIfInBounds_toArray, List.set_cons_zero, List.set_cons_succ])
              refine wpAnyG_take 11 (v := ?_) rfl (by kernel_rfl) (fun _ _ _ h => nomatch h) S0 (Or.inl ⟨by rfl, by intro w' hSw; go_simp; try with_reducible rfl⟩) ?_; (try simp only [Act.put, List.getElem_toArray, List.getElem_cons_succ, List.getElem_cons_zero, List.setIfInBounds_toArray, List.set_cons_zero, List.set_cons_succ])
              refine wpAnyG_take 12 (v := undef) rfl (by kernel_rfl) (fun _ _ _ h => nomatch h) S0 (Or.inr ⟨by rfl, rfl⟩) ?_; (try simp only [Act.put, List.getElem_toArray, List.getElem_cons_succ, List.getElem_cons_zero, List.setIfInBounds_toArray, List.set_cons_zero, List.set_cons_succ])
              refine wpAnyG_take 13 (v := undef) rfl (by kernel_rfl) (fun _ _ _ h => nomatch h) S0 (Or.inr ⟨by rfl, rfl⟩) ?_; (try simp only [Act.put, List.getElem_toArray, List.getElem_cons_succ, List.getElem_cons_zero, List.setIfInBounds_toArray, List.set_cons_zero, List.set_cons_succ])
              refine wpAnyG_take 14 (v := undef) rfl (by kernel_rfl) (fun _ _ _ h => nomatch h) S0 (Or.inr ⟨by rfl, rfl⟩) ?_; (try simp only [Act.put, List.getElem_toArray, List.getElem_cons_succ, List.getElem_cons_zero, List.setIfInBounds_toArray, List.set_cons_zero, List.set_cons_succ])
              refine wpAnyG_take 15 (v := undef) rfl (by kernel_rfl) (fun _ _ _ h => nomatch h) S0 (Or.inr ⟨by rfl, rfl⟩) ?_; (try simp only [Act.put, List.getElem_toArray, List.getElem_cons_succ, List.getElem_cons_zero, List.setIfInBounds_toArray, List.set_cons_zero, List.set_cons_succ])
              refine wpAnyG_take 16 (v := undef) rfl (by kernel_rfl) (fun _ _ _ h => nomatch h) S0 (Or.inr ⟨by rfl, rfl⟩) ?_; (try simp only [Act.put, List.getElem_toArray, List.getElem_cons_succ, List.getElem_cons_zero, List.setIfInBounds_toArray, List.set_cons_zero, List.set_cons_succ])
              refine wpAnyG_take 17 (v := undef) rfl (by kernel_rfl) (fun _ _ _ h => nomatch h) S0 (Or.inr ⟨by rfl, rfl⟩) ?_; (try simp only [Act.put, List.getElem_toArray, List.getElem_cons_succ, List.getElem_cons_zero, List.setIfInBounds_toArray, List.set_cons_zero, List.set_cons_succ])
              refine wpAnyG_take 18 (v := undef) rfl (by kernel_rfl) (fun _ _ _ h => nomatch h) S0 (Or.inr ⟨by rfl, rfl⟩) ?_; (try simp only [Act.put, List.getElem_toArray, List.getElem_cons_succ, List.getElem_cons_zero, List.setIfInBounds_toArray, List.set_cons_zero, List.set_cons_succ])
              refine wpAnyG_take 19 (v := undef) rfl (by kernel_rfl) (fun _ _ _ h => nomatch h) S0 (Or.inr ⟨by rfl, rfl⟩) ?_; (try simp only [Act.put, List.getElem_toArray, List.getElem_cons_succ, List.getElem_cons_zero, List.setIfInBounds_toArray, List.set_cons_zero, List.set_cons_succ])
              refine wpAnyG_take 20 (v := undef) rfl (by kernel_rfl) (fun _ _ _ h => nomatch h) S0 (Or.inr ⟨by rfl, rfl⟩) ?_; (try simp only [Act.put, List.getElem_toArray, List.getElem_cons_succ, List.getElem_cons_zero, List.setIfInBounds_toArray, List.set_cons_zero, List.set_cons_succ])
              refine wpAnyG_take 21 (v := undef) rfl (by kernel_rfl) (fun _ _ _ h => nomatch h) S0 (Or.inr ⟨by rfl, rfl⟩) ?_; (try simp only [Act.put, List.getElem_toArray, List.getElem_cons_succ, List.getElem_cons_zero, List.setIfInBounds_toArray, List.set_cons_zero, List.set_cons_succ])
              refine wpAnyG_take 22 (v := undef) rfl (by kernel_rfl) (fun _ _ _ h => nomatch h) S0 (Or.inr ⟨by rfl, rfl⟩) ?_; (try simp only [Act.put, List.getElem_toArray, List.getElem_cons_succ, List.getElem_cons_zero, List.setIfInBounds_toArray, List.set_cons_zero, List.set_cons_succ])
              refine wpAnyG_take 23 (v := undef) rfl (by kernel_rfl) (fun _ _ _ h => nomatch h) S0 (Or.inr ⟨by rfl, rfl⟩) ?_; (try simp only [Act.put, List.getElem_toArray, List.getElem_cons_succ, List.getElem_cons_zero, List.setIfInBounds_toArray, List.set_cons_zero, List.set_cons_succ])
              refine wpAnyG_take 24 (v := undef) rfl (by kernel_rfl) (fun _ _ _ h => nomatch h) S0 (Or.inr ⟨by rfl, rfl⟩) ?_; (try simp only [Act.put, List.getElem_toArray, List.getElem_cons_succ, List.getElem_cons_zero, List.setIfInBounds_toArray, List.set_cons_zero, List.set_cons_succ])
              refine wpAnyG_take 25 (v := ?_) rfl (by kernel_rfl) (fun _ _ _ h => nomatch h) S0 (Or.inl ⟨by rfl, by intro w' hSw; go_simp; try with_reducible rfl⟩) ?_; (try simp only [Act.put, List.getElem_toArray, List.getElem_cons_succ, List.getElem_cons_zero, List.setIfInBounds_toArray, List.set_cons_zero, List.set_cons_succ])
              clear S0
              refine wpAnyG_done (by kernel_rfl) ?_ _
              refine NoPanic.normal ?_
              go_wp2
              go_ret
              exact ⟨by rw [HN.out]; rfl, draws_bel1 hb2.out ()⟩
        · obtain rfl : k = n := by omega
          have HE := Lib.hid (eqPc_of HL.out HL'.out (fun j x y h1 h2 => hz.out j x y (by have := (List.getElem?_eq_some_iff.1 h1).1; rw [HL.out] at this; exact this) h1 h2))
          clear hz HH HH'
          go_wp2
          go_ret
          exact ⟨by rw [HE.out]; rfl, hb⟩
  · as_aux_lemma =>
      rw [eqPc_len (by omega)]
      have hne : ((n : Int) != (m : Int)) = true := bne_iff_ne.2 (by omega)
      clear h h' hl hl'
      go_enter Try.func10, Try.ntmps10
      go_wp2
      go_ret
      exact ⟨rfl, Below.refl _ _⟩
end Go.Proofs.Ythcnfalfhdeflaa
