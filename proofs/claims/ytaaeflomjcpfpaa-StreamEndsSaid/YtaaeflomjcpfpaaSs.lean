/- StreamEnds: whatever comes and goes: the walk. -/
import Derived.Test.YtaaeflomjcpfpaaSd
import Derived.Test.YtaaeflomjcpfpaaSr
import Derived.Test.YtaaeflomjcpfpaaJe
import Derived.Test.YtaaeflomjcpfpaaSy
import Derived.Test.YtaaeflomjcpfpaaSp
import Derived.StillTailTactics
import Derived.Deep.QuietTactic
import Derived.BigQuiet
namespace Go.Proofs.Ytaaeflomjcpfpaa
open Go.RowKit Go.Shelf
set_option linter.unusedVariables false
set_option linter.unusedSimpArgs false

theorem drewN_below (B : Nat) (w : World) (n : Nat) : Below B w (w.drewN n) := ⟨rfl, rfl, rfl, Nat.le_refl _, fun _ _ => rfl⟩
def rk (st : Int) : Int := if st = 0 then 0 else if st = 1 then 1 else if st = 2 ∨ st = 3 then 2 else 3
set_option maxHeartbeats 2000000 in
theorem ends_sends {st kd : Int} {en : Bool} {o : Int} {ok : Bool} (h0 : 0 ≤ st) (h1 : st < 7) (h : sendsF st kd en = (o, ok)) :
    (ok = false ∧ o = st) ∨ (ok = true ∧ liveB st = true ∧ rk st ≠ 3 ∧ o = st) ∨ (ok = true ∧ liveB st = true ∧ rk st ≠ 3 ∧ o ≠ st ∧ 0 ≤ o ∧ o < 7 ∧ rk st < rk o) := by
  have hs : st = 0 ∨ st = 1 ∨ st = 2 ∨ st = 3 ∨ st = 4 ∨ st = 5 ∨ st = 6 := by omega
  unfold sendsF at h
  rcases hs with rfl | rfl | rfl | rfl | rfl | rfl | rfl <;> simp at h <;> (repeat' split at h) <;> simp_all [rk, liveB] <;> omega
set_option maxHeartbeats 2000000 in
theorem ends_comes {st kd : Int} {en : Bool} {cs : Int} {ct cw : Bool} {cc : Int} (h0 : 0 ≤ st) (h1 : st < 7) (h : comesF st kd en = ⟨cs, ct, cw, cc⟩) :
    (ct = true ∧ cw = false ∧ cc = 0 ∧ cs = st ∧ rk st ≠ 3) ∨ (ct = true ∧ cw = false ∧ cc = 0 ∧ cs ≠ st ∧ 0 ≤ cs ∧ cs < 7 ∧ rk st < rk cs ∧ rk st ≠ 3) ∨ (ct = false ∧ cw = true ∧ cc ≠ 0 ∧ cs = st) ∨ (ct = false ∧ cw = false ∧ cc = 0 ∧ cs = st) ∨
      (ct = false ∧ cw = false ∧ cc ≠ 0 ∧ cs = 5 ∧ st ≠ 5 ∧ rk st < 3) := by
  have hs : st = 0 ∨ st = 1 ∨ st = 2 ∨ st = 3 ∨ st = 4 ∨ st = 5 ∨ st = 6 := by omega
  unfold comesF at h
  rcases hs with rfl | rfl | rfl | rfl | rfl | rfl | rfl <;> simp at h <;> (repeat' split at h) <;> (try simp only [Cm.mk.injEq] at h) <;> (obtain ⟨rfl, rfl, rfl, rfl⟩ := h) <;> simp [rk]
theorem rank_at {w : World} {g : Nat} {st : Int} (q : Blk w g 48 #[.int .i64 0, .int .i64 1, .int .i64 2, .int .i64 2, .int .i64 3, .int .i64 3, .int .i64 3]) (s0 : 0 ≤ st) (s1 : st < 7) : w.cell? ⟨g, st.toNat, none⟩ = some (.int .i64 (rk st)) := by
  have hs : st = 0 ∨ st = 1 ∨ st = 2 ∨ st = 3 ∨ st = 4 ∨ st = 5 ∨ st = 6 := by omega
  rcases hs with rfl | rfl | rfl | rfl | rfl | rfl | rfl
  · exact q.at 0 rfl
  · exact q.at 1 rfl
  · exact q.at 2 rfl
  · exact q.at 3 rfl
  · exact q.at 4 rfl
  · exact q.at 5 rfl
  · exact q.at 6 rfl
set_option maxRecDepth 100000 in
set_option maxHeartbeats 12000000 in
theorem endsOk (st0 : Int) (h0 : 0 ≤ st0) (h1 : st0 < 7) (A : Option Addr) (n c : Nat) (z : Nat → Int × Bool × Bool) (hz : ∀ i, 0 ≤ (z i).1 ∧ (z i).1 ≤ 255) (W : World) (h : Tri W A n c (fun i => .int .u8 (z i).1) (fun i => .bool (z i).2.1) (fun i => .bool (z i).2.2)) (g : n ≤ 60) :
    Calls Try.prog 4 #[.int .u8 st0, .slice A n c] W fun e w' => e = .returned (.bool true) ∧ Below W.heap.size W w' := by
  have b0 := (Bel.refl W).alloc (.cells #[.int .i64 0, .int .i64 1, .int .i64 2, .int .i64 2, .int .i64 3, .int .i64 3, .int .i64 3] 48)
  have qr := Blk.new W 48 #[.int .i64 0, .int .i64 1, .int .i64 2, .int .i64 2, .int .i64 3, .int .i64 3, .int .i64 3]
  have y := h.alloc (.cells #[.int .i64 0, .int .i64 1, .int .i64 2, .int .i64 2, .int .i64 3, .int .i64 3, .int .i64 3] 48)
  have f0 : decide ((60 : Int) < n) = false := decide_eq_false (by omega)
  have f1 : decide (7 ≤ st0) = false := decide_eq_false (by omega)
  clear h
  go_enter Try.func4, Try.ntmps4
  go_wp2_with fail
  go_loopw [0, 6] (fun v u wr => ∃ (i : Nat) (st : Int), i ≤ n ∧ 0 ≤ st ∧ st < 7 ∧ v = .int .u8 st ∧ u = .int .i64 i ∧ Bel W wr ∧ Blk wr W.heap.size 48 #[.int .i64 0, .int .i64 1, .int .i64 2, .int .i64 2, .int .i64 3, .int .i64 3, .int .i64 3] ∧ Tri wr A n c (fun i => .int .u8 (z i).1) (fun i => .bool (z i).2.1) (fun i => .bool (z i).2.2)) (fun v u _ => n - (intOf u).toNat)
  case atStart => exact ⟨0, st0, Nat.zero_le _, h0, h1, rfl, rfl, b0, qr, y⟩
  case round =>
    clear b0 qr y f1
    obtain ⟨i, st, hi, s0, s1, rfl, rfl, b0, qr, y⟩ := hrel
    by_cases hlt : i < n
    case neg =>
      as_aux_lemma =>
        obtain rfl : i = n := by omega
        have i1 : decide ((i : Int) < (i : Int)) = false := by simp
        have LV := Lib.hid fun w => fLive st s0 w
        have hl : liveB st = (rk st == 1 || rk st == 2) := by
          have hs : st = 0 ∨ st = 1 ∨ st = 2 ∨ st = 3 ∨ st = 4 ∨ st = 5 ∨ st = 6 := by omega
          rcases hs with rfl | rfl | rfl | rfl | rfl | rfl | rfl <;> rfl
        rw [hl] at LV
        have rs := rank_at qr s0 s1
        clear y hl
        cases r1 : (rk st == 1)
        · cases r2 : (rk st == 2)
          · rw [r1, r2] at LV
            simp only [Bool.or_true, Bool.true_or, Bool.or_false, Bool.or_self] at LV
            go_wp2_with fail
            go_region_held3 (fun w' => w'.cell? ⟨W.heap.size, st.toNat, none⟩ = some (.int .i64 (rk st))) (exact rs) (first | (go_at_call 26; (with_reducible refine (LV.out _).mono ?_); rintro e w8 ⟨rfl, rfl⟩) | (go_at_call 8; (with_reducible refine (fWakes _).mono ?_); rintro e w8 ⟨rfl, hb⟩; replace rs := (hb.cell (p := ⟨W.heap.size, st.toNat, none⟩) qr.lt).trans rs; replace b0 := b0.drew.below hb; replace qr := qr.drew.below hb))
            go_wp2_with fail
            go_ret
            exact ⟨rfl, b0.out⟩
          · rw [r1, r2] at LV
            simp only [Bool.or_true, Bool.true_or, Bool.or_false, Bool.or_self] at LV
            go_wp2_with fail
            go_region_held3 (fun w' => w'.cell? ⟨W.heap.size, st.toNat, none⟩ = some (.int .i64 (rk st))) (exact rs) (first | (go_at_call 26; (with_reducible refine (LV.out _).mono ?_); rintro e w8 ⟨rfl, rfl⟩) | (go_at_call 8; (with_reducible refine (fWakes _).mono ?_); rintro e w8 ⟨rfl, hb⟩; replace rs := (hb.cell (p := ⟨W.heap.size, st.toNat, none⟩) qr.lt).trans rs; replace b0 := b0.drew.below hb; replace qr := qr.drew.below hb))
            go_wp2_with fail
            go_ret
            exact ⟨rfl, b0.out⟩
        · rw [r1] at LV
          simp only [Bool.or_true, Bool.true_or, Bool.or_false, Bool.or_self] at LV
          have e1 : rk st = 1 := by simpa using r1
          rw [e1] at rs
          clear r1 e1
          go_wp2_with fail
          refine wp_region_G (fun w' => w'.cell? ⟨W.heap.size, st.toNat, none⟩ = some (.int .i64 1)) [] (by kernel_rfl) ?_
          have S0 : wr.drew.cell? ⟨W.heap.size, st.toNat, none⟩ = some (.int .i64 1) := rs
          clear rs
          refine wpAnyG_take 0 (v := ?_) rfl (by kernel_rfl) (fun _ _ _ h => h) S0 (Or.inl ⟨by rfl, by intro w' hSw; have z0 := hSw; go_simp; try with_reducible rfl⟩) ?_; (try simp only [Act.put, List.getElem_toArray, List.getElem_cons_succ, List.getElem_cons_zero, List.setIfInBounds_toArray, List.set_cons_zero, List.set_cons_succ])
          refine wpAnyG_take 2 (v := ?_) rfl (by kernel_rfl) (fun _ _ _ h => h) S0 (Or.inl ⟨by rfl, by intro w' hSw; have z0 := hSw; go_simp; try with_reducible rfl⟩) ?_; (try simp only [Act.put, List.getElem_toArray, List.getElem_cons_succ, List.getElem_cons_zero, List.setIfInBounds_toArray, List.set_cons_zero, List.set_cons_succ])
          refine wpAnyG_take 3 (v := ?_) rfl (by kernel_rfl) (fun _ _ _ h => h) S0 (Or.inl ⟨by rfl, by intro w' hSw; have z0 := hSw; go_simp; try with_reducible rfl⟩) ?_; (try simp only [Act.put, List.getElem_toArray, List.getElem_cons_succ, List.getElem_cons_zero, List.setIfInBounds_toArray, List.set_cons_zero, List.set_cons_succ])
          refine wpAnyG_take 4 (v := ?_) rfl (by kernel_rfl) (fun _ _ _ h => h) S0 (Or.inl ⟨by rfl, by intro w' hSw; have z0 := hSw; go_simp; try with_reducible rfl⟩) ?_; (try simp only [Act.put, List.getElem_toArray, List.getElem_cons_succ, List.getElem_cons_zero, List.setIfInBounds_toArray, List.set_cons_zero, List.set_cons_succ])
          refine wpAnyG_take 5 (v := ?_) rfl (by kernel_rfl) (fun _ _ _ h => h) S0 (Or.inl ⟨by rfl, by intro w' hSw; have z0 := hSw; go_simp; try with_reducible rfl⟩) ?_; (try simp only [Act.put, List.getElem_toArray, List.getElem_cons_succ, List.getElem_cons_zero, List.setIfInBounds_toArray, List.set_cons_zero, List.set_cons_succ])
          refine wpAnyG_one 1 (by kernel_rfl) rfl (fun K hK => ?_)
          go_simp
          (with_reducible refine (LV.out _).mono ?_)
          rintro e w8 ⟨rfl, rfl⟩
          (try go_simp)
          refine hK.out _ _ (fun _ => S0) ?_
          clear hK K
          (try simp only [Act.put, List.getElem_toArray, List.getElem_cons_succ, List.getElem_cons_zero, List.setIfInBounds_toArray, List.set_cons_zero, List.set_cons_succ])
          refine wpAnyG_take 6 (v := ?_) rfl (by kernel_rfl) (fun _ _ _ h => h) S0 (Or.inl ⟨by rfl, by intro w' hSw; have z0 := hSw; go_simp; try with_reducible rfl⟩) ?_; (try simp only [Act.put, List.getElem_toArray, List.getElem_cons_succ, List.getElem_cons_zero, List.setIfInBounds_toArray, List.set_cons_zero, List.set_cons_succ])
          refine wpAnyG_take 7 (v := undef) rfl (by kernel_rfl) (fun _ _ _ h => h) S0 (Or.inr ⟨by rfl, rfl⟩) ?_; (try simp only [Act.put, List.getElem_toArray, List.getElem_cons_succ, List.getElem_cons_zero, List.setIfInBounds_toArray, List.set_cons_zero, List.set_cons_succ])
          refine wpAnyG_take 8 (v := undef) rfl (by kernel_rfl) (fun _ _ _ h => h) S0 (Or.inr ⟨by rfl, rfl⟩) ?_; (try simp only [Act.put, List.getElem_toArray, List.getElem_cons_succ, List.getElem_cons_zero, List.setIfInBounds_toArray, List.set_cons_zero, List.set_cons_succ])
          refine wpAnyG_take 9 (v := undef) rfl (by kernel_rfl) (fun _ _ _ h => h) S0 (Or.inr ⟨by rfl, rfl⟩) ?_; (try simp only [Act.put, List.getElem_toArray, List.getElem_cons_succ, List.getElem_cons_zero, List.setIfInBounds_toArray, List.set_cons_zero, List.set_cons_succ])
          refine wpAnyG_take 10 (v := undef) rfl (by kernel_rfl) (fun _ _ _ h => h) S0 (Or.inr ⟨by rfl, rfl⟩) ?_; (try simp only [Act.put, List.getElem_toArray, List.getElem_cons_succ, List.getElem_cons_zero, List.setIfInBounds_toArray, List.set_cons_zero, List.set_cons_succ])
          refine wpAnyG_take 11 (v := ?_) rfl (by kernel_rfl) (fun _ _ _ h => h) S0 (Or.inl ⟨by rfl, by intro w' hSw; have z0 := hSw; go_simp; try with_reducible rfl⟩) ?_; (try simp only [Act.put, List.getElem_toArray, List.getElem_cons_succ, List.getElem_cons_zero, List.setIfInBounds_toArray, List.set_cons_zero, List.set_cons_succ])
          refine wpAnyG_take 12 (v := ?_) rfl (by kernel_rfl) (fun _ _ _ h => h) S0 (Or.inl ⟨by rfl, by intro w' hSw; have z0 := hSw; go_simp; try with_reducible rfl⟩) ?_; (try simp only [Act.put, List.getElem_toArray, List.getElem_cons_succ, List.getElem_cons_zero, List.setIfInBounds_toArray, List.set_cons_zero, List.set_cons_succ])
          refine wpAnyG_take 13 (v := ?_) rfl (by kernel_rfl) (fun _ _ _ h => h) S0 (Or.inl ⟨by rfl, by intro w' hSw; have z0 := hSw; go_simp; try with_reducible rfl⟩) ?_; (try simp only [Act.put, List.getElem_toArray, List.getElem_cons_succ, List.getElem_cons_zero, List.setIfInBounds_toArray, List.set_cons_zero, List.set_cons_succ])
          refine wpAnyG_one 14 (by kernel_rfl) rfl (fun K hK => ?_)
          rw [if_pos (by rfl)]
          go_simp
          (with_reducible refine (fWakes _).mono ?_)
          rintro e w8 ⟨rfl, hb⟩
          have S1 := (hb.cell (p := ⟨W.heap.size, st.toNat, none⟩) qr.lt).trans S0
          clear S0
          have S0 := S1
          clear S1
          replace b0 := b0.drew.below hb
          (try go_simp)
          refine hK.out _ _ (fun _ => S0) ?_
          clear hK K
          (try simp only [Act.put, List.getElem_toArray, List.getElem_cons_succ, List.getElem_cons_zero, List.setIfInBounds_toArray, List.set_cons_zero, List.set_cons_succ])
          refine wpAnyG_take 15 (v := ?_) rfl (by kernel_rfl) (fun _ _ _ h => h) S0 (Or.inl ⟨by rfl, by intro w' hSw; have z0 := hSw; go_simp; try with_reducible rfl⟩) ?_; (try simp only [Act.put, List.getElem_toArray, List.getElem_cons_succ, List.getElem_cons_zero, List.setIfInBounds_toArray, List.set_cons_zero, List.set_cons_succ])
          refine wpAnyG_take 16 (v := ?_) rfl (by kernel_rfl) (fun _ _ _ h => h) S0 (Or.inl ⟨by rfl, by intro w' hSw; have z0 := hSw; go_simp; try with_reducible rfl⟩) ?_; (try simp only [Act.put, List.getElem_toArray, List.getElem_cons_succ, List.getElem_cons_zero, List.setIfInBounds_toArray, List.set_cons_zero, List.set_cons_succ])
          refine wpAnyG_done (by kernel_rfl) ?_ _
          go_wp2_with fail
          go_ret
          exact ⟨rfl, b0.out⟩
    obtain ⟨b, o, rfl, hbs, hcell⟩ := y.at' (by omega)
    obtain ⟨k0, k1, k2⟩ := hcell i hlt
    have hk := hz i
    generalize hzi : z i = zi at k0 k1 k2 hk
    obtain ⟨kd, en, ou⟩ := zi
    simp only at k0 k1 k2 hk
    clear hcell
    have i0 : (0 : Int) ≤ (i : Int) := by omega
    have i1 : (i : Int) < (n : Int) := by omega
    have hl1 : n ≤ c := y.le
    have hl2 := y.mx
    have Y := Lib.hid y
    have qlt := qr.lt
    have rs := rank_at qr s0 s1
    clear y hzi
    cases ou
    case false =>
      rcases hc0 : comesF st kd en with ⟨cs, ct, cw, cc⟩
      have CM := Lib.hid fun w => fComes st kd en s0 w
      rw [hc0] at CM
      have hE := ends_comes s0 s1 hc0
      clear hc0
      go_wp2_with fail
      have bw := (Bel.refl wr).drew
      refine wp_region_G (fun w' => w'.cell? ⟨b, o + i * 3, none⟩ = some (.int .u8 kd) ∧ w'.cell? ⟨b, o + i * 3 + 1, none⟩ = some (.bool en)) [] (by kernel_rfl) ?_
      have S0 : wr.drew.cell? ⟨b, o + i * 3, none⟩ = some (.int .u8 kd) ∧ wr.drew.cell? ⟨b, o + i * 3 + 1, none⟩ = some (.bool en) := ⟨(bw.out.cell (p := ⟨b, o + i * 3, none⟩) hbs).trans k0, (bw.out.cell (p := ⟨b, o + i * 3 + 1, none⟩) hbs).trans k1⟩
      refine wpAnyG_take 0 (v := ?_) rfl (by kernel_rfl) (fun _ _ _ h => h) S0 (Or.inl ⟨by rfl, by intro w' hSw; have z0 := hSw.1; have z1 := hSw.2; go_simp; try with_reducible rfl⟩) ?_; (try simp only [Act.put, go_sem])
      refine wpAnyG_take 1 (v := ?_) rfl (by kernel_rfl) (fun _ _ _ h => h) S0 (Or.inl ⟨by rfl, by intro w' hSw; have z0 := hSw.1; have z1 := hSw.2; go_simp; try with_reducible rfl⟩) ?_; (try simp only [Act.put, go_sem])
      refine wpAnyG_take 2 (v := ?_) rfl (by kernel_rfl) (fun _ _ _ h => h) S0 (Or.inl ⟨by rfl, by intro w' hSw; have z0 := hSw.1; have z1 := hSw.2; go_simp; try with_reducible rfl⟩) ?_; (try simp only [Act.put, go_sem])
      refine wpAnyG_take 3 (v := ?_) rfl (by kernel_rfl) (fun _ _ _ h => h) S0 (Or.inl ⟨by rfl, by intro w' hSw; have z0 := hSw.1; have z1 := hSw.2; go_simp; try with_reducible rfl⟩) ?_; (try simp only [Act.put, go_sem])
      refine wpAnyG_take 4 (v := ?_) rfl (by kernel_rfl) (fun _ _ _ h => h) S0 (Or.inl ⟨by rfl, by intro w' hSw; have z0 := hSw.1; have z1 := hSw.2; go_simp; try with_reducible rfl⟩) ?_; (try simp only [Act.put, go_sem])
      refine wpAnyG_take 5 (v := ?_) rfl (by kernel_rfl) (fun _ _ _ h => h) S0 (Or.inl ⟨by rfl, by intro w' hSw; have z0 := hSw.1; have z1 := hSw.2; go_simp; try with_reducible rfl⟩) ?_; (try simp only [Act.put, go_sem])
      refine wpAnyG_take 6 (v := ?_) rfl (by kernel_rfl) (fun _ _ _ h => h) S0 (Or.inl ⟨by rfl, by intro w' hSw; have z0 := hSw.1; have z1 := hSw.2; go_simp; try with_reducible rfl⟩) ?_; (try simp only [Act.put, go_sem])
      refine wpAnyG_take 7 (v := ?_) rfl (by kernel_rfl) (fun _ _ _ h => h) S0 (Or.inl ⟨by rfl, by intro w' hSw; have z0 := hSw.1; have z1 := hSw.2; go_simp; try with_reducible rfl⟩) ?_; (try simp only [Act.put, go_sem])
      refine wpAnyG_take 8 (v := ?_) rfl (by kernel_rfl) (fun _ _ _ h => h) S0 (Or.inl ⟨by rfl, by intro w' hSw; have z0 := hSw.1; have z1 := hSw.2; go_simp; try with_reducible rfl⟩) ?_; (try simp only [Act.put, go_sem])
      refine wpAnyG_take 9 (v := ?_) rfl (by kernel_rfl) (fun _ _ _ h => h) S0 (Or.inl ⟨by rfl, by intro w' hSw; have z0 := hSw.1; have z1 := hSw.2; go_simp; try with_reducible rfl⟩) ?_; (try simp only [Act.put, go_sem])
      refine wpAnyG_take 10 (v := ?_) rfl (by kernel_rfl) (fun _ _ _ h => h) S0 (Or.inl ⟨by rfl, by intro w' hSw; have z0 := hSw.1; have z1 := hSw.2; go_simp; try with_reducible rfl⟩) ?_; (try simp only [Act.put, go_sem])
      clear S0
      refine wpAnyG_two 11 12 (by kernel_rfl) rfl rfl (fun K hK => ?_) (fun K hK => ?_)
      · as_aux_lemma =>
          rw [if_pos (by rfl)]
          go_simp
          refine (CM.out _).mono ?_
          rintro e w9 ⟨rfl, hb⟩
          replace bw := bw.below hb
          (try go_simp)
          refine hK.out _ _ (fun _ => ⟨(bw.out.cell (p := ⟨b, o + i * 3, none⟩) hbs).trans k0, (bw.out.cell (p := ⟨b, o + i * 3 + 1, none⟩) hbs).trans k1⟩) ?_
          clear hK K
          clear hb
          refine wpAnyG_one 12 (by kernel_rfl) rfl (fun K hK => ?_)
          rw [if_pos (by rfl)]
          go_simp
          have hsz : wr.heap.size ≤ w9.heap.size := bw.out.size
          have qc := Blk.new w9 32 #[.int .u8 0, .bool false, .bool false, .int .u32 0]
          replace bw := bw.alloc (.cells #[.int .u8 0, .bool false, .bool false, .int .u32 0] 32)
          (try go_simp)
          refine hK.out _ _ (fun _ => ⟨(bw.out.cell (p := ⟨b, o + i * 3, none⟩) hbs).trans k0, (bw.out.cell (p := ⟨b, o + i * 3 + 1, none⟩) hbs).trans k1⟩) ?_
          clear hK K
          refine wpAnyG_one 13 (by kernel_rfl) rfl (fun K hK => ?_)
          rw [if_pos (by rfl)]
          refine wp_putB _ _ _ rfl rfl rfl qc (by rfl) (by rfl) (by rfl) ?_
          intro w8 qn hg
          replace bw := bw.grown hg (by first | exact Nat.le_refl _ | exact hsz)
          clear hg qc
          have qc := qn
          clear qn
          (try go_simp)
          refine hK.out _ _ (fun _ => ⟨(bw.out.cell (p := ⟨b, o + i * 3, none⟩) hbs).trans k0, (bw.out.cell (p := ⟨b, o + i * 3 + 1, none⟩) hbs).trans k1⟩) ?_
          clear hK K
          refine wpAnyG_done (by kernel_rfl) ?_ _
          have qc_0 := qc.at 0 rfl
          have qc_1 := qc.at 1 rfl
          have qc_2 := qc.at 2 rfl
          have qc_3 := qc.at 3 rfl
          replace b0 := b0.below bw.out
          replace qr := qr.below bw.out
          replace rs := (bw.out.cell (p := ⟨W.heap.size, st.toNat, none⟩) qlt).trans rs
          replace Y := Lib.hid (Y.out.below bw.out)
          clear k0 k1 k2 bw qc
          rcases hE with ⟨rfl, rfl, rfl, hcs, hr⟩ | ⟨rfl, rfl, rfl, hne, n0, n1, hgt, hr⟩ | ⟨rfl, rfl, hcc, hcs⟩ | ⟨rfl, rfl, rfl, hcs⟩ | ⟨rfl, rfl, hcc, rfl, hne, hr⟩
          · as_aux_lemma =>
              have hcs' := hcs.symm
              clear hcs
              subst hcs'
              have r3 : (rk st == 3) = false := beq_eq_false_iff_ne.2 hr
              have f7 : decide (7 ≤ st) = false := decide_eq_false (by omega)
              clear hr
              go_wp2_with fail
              go_quiet (fail)
              go_wp2_with fail
              go_roundw
              case rel => exact ⟨i + 1, st, by omega, s0, s1, rfl, by simp, b0.below (drewN_below _ _ _), qr.below (drewN_below _ _ _), Y.out.below (drewN_below _ _ _)⟩
              case measure => simp [intOf]; omega
          · as_aux_lemma =>
              have r3 : (rk st == 3) = false := beq_eq_false_iff_ne.2 hr
              have f7 : decide (7 ≤ cs) = false := decide_eq_false (by omega)
              have hne' : (cs != st) = true := bne_iff_ne.2 hne
              have rs2 := rank_at qr n0 n1
              have hle : decide (rk cs ≤ rk st) = false := decide_eq_false (by omega)
              clear hr hne hgt
              go_wp2_with fail
              go_quiet (fail)
              go_wp2_with fail
              go_roundw
              case rel => exact ⟨i + 1, cs, by omega, n0, n1, rfl, by simp, b0.below (drewN_below _ _ _), qr.below (drewN_below _ _ _), Y.out.below (drewN_below _ _ _)⟩
              case measure => simp [intOf]; omega
          · as_aux_lemma =>
              have hcs' := hcs.symm
              clear hcs
              subst hcs'
              have hc1 : (cc != 0) = true := bne_iff_ne.2 hcc
              have hc2 : (cc == 0) = false := beq_eq_false_iff_ne.2 hcc
              have f7 : decide (7 ≤ st) = false := decide_eq_false (by omega)
              clear hcc
              cases r3 : (rk st == 3)
              all_goals
                go_wp2_with fail
                go_quiet (fail)
                go_wp2_with fail
                go_roundw
                case rel => exact ⟨i + 1, st, by omega, s0, s1, rfl, by simp, b0.below (drewN_below _ _ _), qr.below (drewN_below _ _ _), Y.out.below (drewN_below _ _ _)⟩
                case measure => simp [intOf]; omega
          · as_aux_lemma =>
              have hcs' := hcs.symm
              clear hcs
              subst hcs'
              have f7 : decide (7 ≤ st) = false := decide_eq_false (by omega)
              cases r3 : (rk st == 3)
              all_goals
                go_wp2_with fail
                go_quiet (fail)
                go_wp2_with fail
                go_roundw
                case rel => exact ⟨i + 1, st, by omega, s0, s1, rfl, by simp, b0.below (drewN_below _ _ _), qr.below (drewN_below _ _ _), Y.out.below (drewN_below _ _ _)⟩
                case measure => simp [intOf]; omega
          · as_aux_lemma =>
              have r3 : (rk st == 3) = false := beq_eq_false_iff_ne.2 (by omega)
              have hc1 : (cc != 0) = true := bne_iff_ne.2 hcc
              have hc2 : (cc == 0) = false := beq_eq_false_iff_ne.2 hcc
              have hne' : (5 != st) = true := bne_iff_ne.2 (fun e => hne e.symm)
              have rs2 := qr.at 5 rfl
              have hle : decide (3 ≤ rk st) = false := decide_eq_false (by omega)
              clear hcc hne hr
              go_wp2_with fail
              go_quiet (fail)
              go_wp2_with fail
              go_roundw
              case rel => exact ⟨i + 1, 5, by omega, (by omega), (by omega), rfl, by simp, b0.below (drewN_below _ _ _), qr.below (drewN_below _ _ _), Y.out.below (drewN_below _ _ _)⟩
              case measure => simp [intOf]; omega
      · as_aux_lemma =>
          rw [if_pos (by rfl)]
          go_simp
          have qc := Blk.new wr.drew 32 #[.int .u8 0, .bool false, .bool false, .int .u32 0]
          replace bw := bw.alloc (.cells #[.int .u8 0, .bool false, .bool false, .int .u32 0] 32)
          (try go_simp)
          refine hK.out _ _ (fun _ => ⟨(bw.out.cell (p := ⟨b, o + i * 3, none⟩) hbs).trans k0, (bw.out.cell (p := ⟨b, o + i * 3 + 1, none⟩) hbs).trans k1⟩) ?_
          clear hK K
          refine wpAnyG_one 11 (by kernel_rfl) rfl (fun K hK => ?_)
          rw [if_pos (by rfl)]
          go_simp
          refine (CM.out _).mono ?_
          rintro e w9 ⟨rfl, hb⟩
          replace bw := bw.below hb
          replace qc := qc.below hb
          clear hb
          (try go_simp)
          refine hK.out _ _ (fun _ => ⟨(bw.out.cell (p := ⟨b, o + i * 3, none⟩) hbs).trans k0, (bw.out.cell (p := ⟨b, o + i * 3 + 1, none⟩) hbs).trans k1⟩) ?_
          clear hK K
          refine wpAnyG_one 13 (by kernel_rfl) rfl (fun K hK => ?_)
          rw [if_pos (by rfl)]
          refine wp_putB _ _ _ rfl rfl rfl qc (by rfl) (by rfl) (by rfl) ?_
          intro w8 qn hg
          replace bw := bw.grown hg (by first | exact Nat.le_refl _ | exact hsz)
          clear hg qc
          have qc := qn
          clear qn
          (try go_simp)
          refine hK.out _ _ (fun _ => ⟨(bw.out.cell (p := ⟨b, o + i * 3, none⟩) hbs).trans k0, (bw.out.cell (p := ⟨b, o + i * 3 + 1, none⟩) hbs).trans k1⟩) ?_
          clear hK K
          refine wpAnyG_done (by kernel_rfl) ?_ _
          have qc_0 := qc.at 0 rfl
          have qc_1 := qc.at 1 rfl
          have qc_2 := qc.at 2 rfl
          have qc_3 := qc.at 3 rfl
          replace b0 := b0.below bw.out
          replace qr := qr.below bw.out
          replace rs := (bw.out.cell (p := ⟨W.heap.size, st.toNat, none⟩) qlt).trans rs
          replace Y := Lib.hid (Y.out.below bw.out)
          clear k0 k1 k2 bw qc
          rcases hE with ⟨rfl, rfl, rfl, hcs, hr⟩ | ⟨rfl, rfl, rfl, hne, n0, n1, hgt, hr⟩ | ⟨rfl, rfl, hcc, hcs⟩ | ⟨rfl, rfl, rfl, hcs⟩ | ⟨rfl, rfl, hcc, rfl, hne, hr⟩
          · as_aux_lemma =>
              have hcs' := hcs.symm
              clear hcs
              subst hcs'
              have r3 : (rk st == 3) = false := beq_eq_false_iff_ne.2 hr
              have f7 : decide (7 ≤ st) = false := decide_eq_false (by omega)
              clear hr
              go_wp2_with fail
              go_quiet (fail)
              go_wp2_with fail
              go_roundw
              case rel => exact ⟨i + 1, st, by omega, s0, s1, rfl, by simp, b0.below (drewN_below _ _ _), qr.below (drewN_below _ _ _), Y.out.below (drewN_below _ _ _)⟩
              case measure => simp [intOf]; omega
          · as_aux_lemma =>
              have r3 : (rk st == 3) = false := beq_eq_false_iff_ne.2 hr
              have f7 : decide (7 ≤ cs) = false := decide_eq_false (by omega)
              have hne' : (cs != st) = true := bne_iff_ne.2 hne
              have rs2 := rank_at qr n0 n1
              have hle : decide (rk cs ≤ rk st) = false := decide_eq_false (by omega)
              clear hr hne hgt
              go_wp2_with fail
              go_quiet (fail)
              go_wp2_with fail
              go_roundw
              case rel => exact ⟨i + 1, cs, by omega, n0, n1, rfl, by simp, b0.below (drewN_below _ _ _), qr.below (drewN_below _ _ _), Y.out.below (drewN_below _ _ _)⟩
              case measure => simp [intOf]; omega
          · as_aux_lemma =>
              have hcs' := hcs.symm
              clear hcs
              subst hcs'
              have hc1 : (cc != 0) = true := bne_iff_ne.2 hcc
              have hc2 : (cc == 0) = false := beq_eq_false_iff_ne.2 hcc
              have f7 : decide (7 ≤ st) = false := decide_eq_false (by omega)
              clear hcc
              cases r3 : (rk st == 3)
              all_goals
                go_wp2_with fail
                go_quiet (fail)
                go_wp2_with fail
                go_roundw
                case rel => exact ⟨i + 1, st, by omega, s0, s1, rfl, by simp, b0.below (drewN_below _ _ _), qr.below (drewN_below _ _ _), Y.out.below (drewN_below _ _ _)⟩
                case measure => simp [intOf]; omega
          · as_aux_lemma =>
              have hcs' := hcs.symm
              clear hcs
              subst hcs'
              have f7 : decide (7 ≤ st) = false := decide_eq_false (by omega)
              cases r3 : (rk st == 3)
              all_goals
                go_wp2_with fail
                go_quiet (fail)
                go_wp2_with fail
                go_roundw
                case rel => exact ⟨i + 1, st, by omega, s0, s1, rfl, by simp, b0.below (drewN_below _ _ _), qr.below (drewN_below _ _ _), Y.out.below (drewN_below _ _ _)⟩
                case measure => simp [intOf]; omega
          · as_aux_lemma =>
              have r3 : (rk st == 3) = false := beq_eq_false_iff_ne.2 (by omega)
              have hc1 : (cc != 0) = true := bne_iff_ne.2 hcc
              have hc2 : (cc == 0) = false := beq_eq_false_iff_ne.2 hcc
              have hne' : (5 != st) = true := bne_iff_ne.2 (fun e => hne e.symm)
              have rs2 := qr.at 5 rfl
              have hle : decide (3 ≤ rk st) = false := decide_eq_false (by omega)
              clear hcc hne hr
              go_wp2_with fail
              go_quiet (fail)
              go_wp2_with fail
              go_roundw
              case rel => exact ⟨i + 1, 5, by omega, (by omega), (by omega), rfl, by simp, b0.below (drewN_below _ _ _), qr.below (drewN_below _ _ _), Y.out.below (drewN_below _ _ _)⟩
              case measure => simp [intOf]; omega
    case true =>
      rcases hsn : sendsF st kd en with ⟨nx, ok⟩
      have SN := Lib.hid fun w => fSends st kd en s0 w
      rw [hsn] at SN
      have hE := ends_sends s0 s1 hsn
      clear hsn
      rcases hE with ⟨rfl, hnx⟩ | ⟨rfl, hl, hr, hnx⟩ | ⟨rfl, hl, hr, hne, n0, n1, hlt'⟩
      · as_aux_lemma =>
          have hnx' := hnx.symm
          clear hnx
          subst hnx'
          cases r3 : (rk st == 3)
          all_goals
            go_wp2_with fail
            go_region_held3 (fun w' => w'.cell? ⟨b, o + i * 3, none⟩ = some (.int .u8 kd) ∧ w'.cell? ⟨b, o + i * 3 + 1, none⟩ = some (.bool en)) (exact ⟨k0, k1⟩) (first | (go_at_call 22; (with_reducible refine (SN.out _).mono ?_); rintro e w9 ⟨rfl, hb⟩; replace k0 := (hb.cell (p := ⟨b, o + i * 3, none⟩) hbs).trans k0; replace k1 := (hb.cell (p := ⟨b, o + i * 3 + 1, none⟩) hbs).trans k1; replace rs := (hb.cell (p := ⟨W.heap.size, st.toNat, none⟩) qr.lt).trans rs; replace b0 := b0.drew.below hb; replace qr := qr.drew.below hb; replace Y := Lib.hid (Y.out.drew.below hb)))
            clear k0 k1 k2
            have f7 : decide (7 ≤ st) = false := decide_eq_false (by omega)
            go_wp2_with fail
            go_quiet (fail)
            go_wp2_with fail
            go_roundw
            case rel => exact ⟨i + 1, st, by omega, s0, s1, rfl, by simp, b0.below (drewN_below _ _ _), qr.below (drewN_below _ _ _), Y.out.below (drewN_below _ _ _)⟩
            case measure => simp [intOf]; omega
      · as_aux_lemma =>
          have hnx' := hnx.symm
          clear hnx
          subst hnx'
          have LV := Lib.hid fun w => fLive st s0 w
          rw [hl] at LV
          have r3 : (rk st == 3) = false := beq_eq_false_iff_ne.2 hr
          clear hl hr
          go_wp2_with fail
          go_region_held3 (fun w' => w'.cell? ⟨b, o + i * 3, none⟩ = some (.int .u8 kd) ∧ w'.cell? ⟨b, o + i * 3 + 1, none⟩ = some (.bool en)) (exact ⟨k0, k1⟩) (first | (go_at_call 22; (with_reducible refine (SN.out _).mono ?_); rintro e w9 ⟨rfl, hb⟩; replace k0 := (hb.cell (p := ⟨b, o + i * 3, none⟩) hbs).trans k0; replace k1 := (hb.cell (p := ⟨b, o + i * 3 + 1, none⟩) hbs).trans k1; replace rs := (hb.cell (p := ⟨W.heap.size, st.toNat, none⟩) qr.lt).trans rs; replace b0 := b0.drew.below hb; replace qr := qr.drew.below hb; replace Y := Lib.hid (Y.out.drew.below hb)))
          clear k0 k1 k2
          have f7 : decide (7 ≤ st) = false := decide_eq_false (by omega)
          go_wp2_with (first | (go_at_call 26; (with_reducible refine (LV.out _).mono ?_); rintro e w8 ⟨rfl, rfl⟩))
          go_quiet (fail)
          go_wp2_with fail
          go_roundw
          case rel => exact ⟨i + 1, st, by omega, s0, s1, rfl, by simp, b0.below (drewN_below _ _ _), qr.below (drewN_below _ _ _), Y.out.below (drewN_below _ _ _)⟩
          case measure => simp [intOf]; omega
      · as_aux_lemma =>
          have LV := Lib.hid fun w => fLive st s0 w
          rw [hl] at LV
          have r3 : (rk st == 3) = false := beq_eq_false_iff_ne.2 hr
          have hne' : (nx != st) = true := bne_iff_ne.2 hne
          have f7 : decide (7 ≤ nx) = false := decide_eq_false (by omega)
          have rs2 := rank_at qr n0 n1
          have hle : decide (rk nx ≤ rk st) = false := decide_eq_false (by omega)
          clear hl hr hne hlt'
          go_wp2_with fail
          go_region_held3 (fun w' => w'.cell? ⟨b, o + i * 3, none⟩ = some (.int .u8 kd) ∧ w'.cell? ⟨b, o + i * 3 + 1, none⟩ = some (.bool en)) (exact ⟨k0, k1⟩) (first | (go_at_call 22; (with_reducible refine (SN.out _).mono ?_); rintro e w9 ⟨rfl, hb⟩; replace k0 := (hb.cell (p := ⟨b, o + i * 3, none⟩) hbs).trans k0; replace k1 := (hb.cell (p := ⟨b, o + i * 3 + 1, none⟩) hbs).trans k1; replace rs := (hb.cell (p := ⟨W.heap.size, st.toNat, none⟩) qr.lt).trans rs; replace b0 := b0.drew.below hb; replace qr := qr.drew.below hb; replace Y := Lib.hid (Y.out.drew.below hb)))
          clear k0 k1 k2
          clear rs2
          have rs2 := rank_at qr n0 n1
          go_wp2_with (first | (go_at_call 26; (with_reducible refine (LV.out _).mono ?_); rintro e w8 ⟨rfl, rfl⟩))
          go_quiet (fail)
          go_wp2_with fail
          go_roundw
          case rel => exact ⟨i + 1, nx, by omega, n0, n1, rfl, by simp, b0.below (drewN_below _ _ _), qr.below (drewN_below _ _ _), Y.out.below (drewN_below _ _ _)⟩
          case measure => simp [intOf]; omega
end Go.Proofs.Ytaaeflomjcpfpaa
