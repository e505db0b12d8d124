/- The contract of the document's Take. -/
import Derived.Test.YtelmcjiamciklaaPu
namespace Go.Proofs.Ytelmcjiamciklaa
open Go.RowKit Go.Shelf
set_option linter.unusedVariables false

set_option maxRecDepth 100000 in
set_option maxHeartbeats 8000000 in
theorem rtakeOne (b0 o n c : Nat) (x : Int) (r : List Int) (k : Nat) (M v0' : Int) (mo0 : Bool) (R : Int × List Int × Int) (w : World) (h : Byt w (some ⟨b0, o, none⟩) n c (x :: r)) (hn : n ≤ 140737488355328) (hk1 : 1 ≤ k) (hk2 : k ≤ 8)
    (M1 : 2 ≤ M) (M2 : M ≤ 256) (hsh : wrap64 (2 ^ k) = M) (x0 : 0 ≤ x) (x1 : x ≤ 255) (hv : x % M = v0') (v00 : 0 ≤ v0') (v01 : v0' ≤ 255) (hmo : (v0' == M - 1) = mo0)
    (hyes : mo0 = true → R = lp r 0 v0') (hno : mo0 = false → R = (v0', r, 0)) :
    Calls Try.prog 11 #[.slice (some ⟨b0, o, none⟩) n c, .int .i64 k] w (TakeP w R) := by
  have hl := h.len
  have hn0 : 0 < n := by simp at hl; omega
  have hne : ((n : Int) == 0) = false := by simp; omega
  obtain ⟨b', o', e', hb', hc0⟩ := h.cell hn0
  obtain ⟨rfl, rfl⟩ : b0 = b' ∧ o = o' := by simpa using e'
  have hcx := hc0 0 hn0
  simp only [Nat.add_zero, List.getElem?_cons_zero, Option.getD_some] at hcx
  have Hc := Lib.hid hc0
  have H := Lib.hid h
  have Hl := Lib.hid hl
  have Hyes := Lib.hid hyes
  have Hno := Lib.hid hno
  clear hc0 h hl e' hyes hno
  have hMM : M - 1 + 1 = M := by omega
  have z1 : decide ((k : Int) < 1) = false := decide_eq_false (by omega)
  have z2 : decide (8 < (k : Int)) = false := decide_eq_false (by omega)
  go_enter Try.func11, Try.ntmps11
  go_wp2_with (first
    | (go_at_call 20; refine (fMost k M (by omega) (by omega) (by omega) hsh _).mono ?_; rintro e w' ⟨rfl, rfl⟩))
  go_loop [8, 9, 10, 11] (fun m at_ mo sh => ∃ (j : Nat) (v : Int) (b : Bool), m = .int .i64 v ∧ at_ = .int .i64 ((j : Int) + 1) ∧ mo = .bool b ∧ sh = .int .i64 (7 * (j : Int)) ∧ j ≤ r.length ∧ 0 ≤ v ∧ v ≤ 2147483647 ∧
      (b = true → R = lp (r.drop j) j v ∧ j ≤ 5) ∧ (b = false → R = (v, r.drop j, 0)))
    (fun _ at_ mo _ => 2 * (n + 1 - (intOf at_).toNat) + match mo with | .bool true => 1 | _ => 0)
  case atStart => exact ⟨0, v0', mo0, by rw [hv], rfl, rfl, rfl, by omega, by omega, by omega, fun e => ⟨Hyes.out e, by omega⟩, fun e => Hno.out e⟩
  case round =>
    obtain ⟨j, v, b, rfl, rfl, rfl, rfl, hjr, v0, v1, hyes, hno⟩ := hrel
    have hnr1 : n ≤ r.length + 1 := by have := Hl.out; simp at this; omega
    have hnr2 : r.length + 1 ≤ n := by have := Hl.out; simp at this; omega
    cases b with
    | false =>
      have hR := hno rfl
      clear hyes hno
      have HR := Lib.hid hR
      clear hR
      by_cases hcap : c = j + 1
      · subst hcap
        have HT := Lib.hid (H.out.tail_all (k := j + 1) (by omega))
        go_wp2_with (at_builtin; refine wpList_app _ rfl (.tmp 65) (.tmp 68) rfl w.heap.size (some ⟨w.heap.size, 0, none⟩) 0 0 [] rfl (Mine.lit w [] (Nat.le_refl _) Bs.nil (by simp) 0 rfl) (some ⟨b0, o, none⟩) (n - (j + 1)) 0 _ rfl (HT.out.alloc _) (by have := HT.out.len; simp at this ⊢; omega) (by simp) ?_; intro A' c' w1 hown hbel hgr hat)
        go_ret3
        unfold TakeP
        have e2 : 0 + (n - (j + 1)) = (r.drop j).length := by simp; omega
        rw [show (x :: r).drop (j + 1) = r.drop j from rfl, e2] at hown
        rw [HR.out]
        exact ⟨A', c', by rw [← e2]; simp, by simpa using hown, ((Below.refl _ _).alloc (Nat.le_refl _) _).trans hbel⟩
      · have HT := Lib.hid (H.out.tail (k := j + 1) (by omega) hcap)
        go_wp2_with (at_builtin; refine wpList_app _ rfl (.tmp 65) (.tmp 68) rfl w.heap.size (some ⟨w.heap.size, 0, none⟩) 0 0 [] rfl (Mine.lit w [] (Nat.le_refl _) Bs.nil (by simp) 0 rfl) (some ⟨b0, o + (j + 1), none⟩) (n - (j + 1)) (c - (j + 1)) _ rfl (HT.out.alloc _) (by have := HT.out.len; simp at this ⊢; omega) (by simp) ?_; intro A' c' w1 hown hbel hgr hat)
        go_ret3
        unfold TakeP
        have e2 : 0 + (n - (j + 1)) = (r.drop j).length := by simp; omega
        rw [show (x :: r).drop (j + 1) = r.drop j from rfl, e2] at hown
        rw [HR.out]
        exact ⟨A', c', by rw [← e2]; simp, by simpa using hown, ((Below.refl _ _).alloc (Nat.le_refl _) _).trans hbel⟩
    | true =>
      obtain ⟨hR, hj5⟩ := hyes rfl
      clear hyes hno
      have HR := Lib.hid hR
      clear hR
      by_cases hlt : j < r.length
      · have hy := (H.out.bs).get (j + 1)
        have hcy := Hc.out (j + 1) (by omega)
        have ey : (x :: r)[j + 1]?.getD 0 = r[j]?.getD 0 := by simp
        rw [ey] at hy hcy
        have hdrop : r.drop j = r[j]?.getD 0 :: r.drop (j + 1) := by
          rw [List.drop_eq_getElem_cons hlt]; simp [hlt]
        have Hdrop := Lib.hid hdrop
        clear hdrop ey
        generalize r[j]?.getD 0 = y at *
        obtain ⟨N, hN⟩ : ∃ N, N = v + y % 128 * ((2 ^ (7 * j) : Nat) : Int) := ⟨_, rfl⟩
        have hp : 2 ^ (7 * j) ≤ 2 ^ 35 := Nat.pow_le_pow_right (by decide) (by omega)
        have hp0 : 0 < 2 ^ (7 * j) := Nat.two_pow_pos _
        have hS : 0 ≤ y % 128 * ((2 ^ (7 * j) : Nat) : Int) ∧ y % 128 * ((2 ^ (7 * j) : Nat) : Int) ≤ 128 * 34359738368 :=
          ⟨Int.mul_nonneg (by omega) (by omega), Int.mul_le_mul (by omega) (by omega) (by omega) (by omega)⟩
        have hsum : wrap64 (v + wrap64 (y % 128 * 2 ^ (7 * j))) = N := by
          rw [show ((2 : Int) ^ (7 * j)) = ((2 ^ (7 * j) : Nat) : Int) by simp, hN]
          generalize y % 128 * ((2 ^ (7 * j) : Nat) : Int) = S at *
          unfold wrap64
          omega
        have hN0 : 0 ≤ N ∧ N ≤ 5000000000000 := by omega
        have hlpe : lp (r.drop j) j v = if 5 ≤ j ∨ 2147483648 ≤ N then (0, [], 60) else if y < 128 then (N, r.drop (j + 1), 0) else lp (r.drop (j + 1)) (j + 1) N := by
          rw [Hdrop.out, lp, ← hN]
        rw [← HR.out] at hlpe
        clear hN hp hp0 hS
        have Hlpe := Lib.hid hlpe
        clear hlpe
        by_cases h5 : 5 ≤ j ∨ 2147483648 ≤ N
        · have hR : R = (0, [], 60) := by rw [Hlpe.out, if_pos h5]
          have HR2 := Lib.hid hR
          clear Hlpe hR
          by_cases hj : j = 5
          · subst hj
            clear h5
            go_wp2
            go_ret3
            unfold TakeP
            rw [HR2.out]
            exact ⟨none, 0, rfl, Mine.nil _ _, Below.refl _ _⟩
          · have h5' : 2147483648 ≤ N := by omega
            have hj6 : ((j : Int) + 1 == 6) = false := by simp; omega
            clear h5 hj
            go_wp2
            go_ret3
            unfold TakeP
            rw [HR2.out]
            exact ⟨none, 0, rfl, Mine.nil _ _, Below.refl _ _⟩
        · have hj6 : ((j : Int) + 1 == 6) = false := by simp; omega
          have h5b : decide (2147483648 ≤ N) = false := decide_eq_false (by omega)
          have h5c : N < 2147483648 := by omega
          have h5a : j < 5 := by omega
          by_cases hy2 : y < 128
          · have hR : R = (N, r.drop (j + 1), 0) := by rw [Hlpe.out, if_neg h5, if_pos hy2]
            have HR2 := Lib.hid hR
            have hy3 : decide (128 ≤ y) = false := decide_eq_false (by omega)
            clear Hlpe hR h5
            go_wp2
            exact ⟨⟨j + 1, N, false, by rw [hsum], by simp, rfl, by simp; omega, by omega, by omega, by omega, fun e => by simp at e, fun _ => HR2.out⟩, by simp [intOf]; omega⟩
          · have hR : R = lp (r.drop (j + 1)) (j + 1) N := by rw [Hlpe.out, if_neg h5, if_neg hy2]
            have HR2 := Lib.hid hR
            have hy3 : 128 ≤ y := by omega
            clear Hlpe hR h5 hy2
            go_wp2
            exact ⟨⟨j + 1, N, true, by rw [hsum], by simp, rfl, by simp; omega, by omega, by omega, by omega, fun _ => ⟨HR2.out, by omega⟩, fun e => by simp at e⟩, by simp [intOf]; omega⟩
      · obtain rfl : j = r.length := by omega
        have hR : R = (0, [], 10) := by rw [HR.out, List.drop_length, lp]
        have HR2 := Lib.hid hR
        clear hR
        have hge : (n : Int) ≤ (r.length : Int) + 1 := by omega
        go_wp2
        go_ret3
        unfold TakeP
        rw [HR2.out]
        exact ⟨none, 0, rfl, Mine.nil _ _, Below.refl _ _⟩

theorem rtakeNil (A : Option Addr) (c : Nat) (b : Int) (w : World) (h1 : 1 ≤ b) (h2 : b ≤ 8) :
    Calls Try.prog 11 #[.slice A 0 c, .int .i64 b] w (TakeP w (0, [], 10)) := by
  have z1 : decide (b < 1) = false := decide_eq_false (by omega)
  have z2 : decide (8 < b) = false := decide_eq_false (by omega)
  go_enter Try.func11, Try.ntmps11
  go_wp2
  go_ret3
  unfold TakeP
  exact ⟨none, 0, rfl, Mine.nil _ _, Below.refl _ _⟩
theorem rtakeNo (A : Option Addr) (n c : Nat) (b : Int) (w : World) (hb : ¬(1 ≤ b ∧ b ≤ 8)) :
    Calls Try.prog 11 #[.slice A n c, .int .i64 b] w (TakeP w (0, [], 2)) := by
  by_cases h1 : b < 1
  · clear hb
    go_enter Try.func11, Try.ntmps11
    go_wp2
    go_ret3
    unfold TakeP
    exact ⟨none, 0, rfl, Mine.nil _ _, Below.refl _ _⟩
  · have h2 : 8 < b := by omega
    have z1 : decide (b < 1) = false := decide_eq_false (by omega)
    clear hb h1
    go_enter Try.func11, Try.ntmps11
    go_wp2
    go_ret3
    unfold TakeP
    exact ⟨none, 0, rfl, Mine.nil _ _, Below.refl _ _⟩

theorem rTake (A : Option Addr) (n c : Nat) (l : List Int) (b : Int) (w : World) (h : Byt w A n c l) (hn : n ≤ 140737488355328) :
    Calls Try.prog 11 #[.slice A n c, .int .i64 b] w (TakeP w (takeR l b)) := by
  unfold takeR
  by_cases hb : 1 ≤ b ∧ b ≤ 8
  · rw [if_pos hb]
    cases l with
    | nil =>
      have hl := h.len
      simp at hl
      subst hl
      exact rtakeNil A c b w hb.1 hb.2
    | cons x r =>
      have hl := h.len
      simp at hl
      obtain ⟨b0, o, rfl, _, _⟩ := h.cell (by omega)
      obtain ⟨k, rfl⟩ := toNat_lit (show 0 ≤ b by omega)
      have hx := h.bs x (by simp)
      have hp : 2 ^ k ≤ 2 ^ 8 := Nat.pow_le_pow_right (by decide) (by omega)
      have hp1 := pow_ge (k := k) (by omega)
      have hm1 := Int.emod_nonneg x (show ((2 ^ k : Nat) : Int) ≠ 0 by omega)
      have hm2 := Int.emod_lt_of_pos x (show (0 : Int) < ((2 ^ k : Nat) : Int) by omega)
      simp only [Int.toNat_natCast]
      refine rtakeOne b0 o n c x r k ((2 ^ k : Nat) : Int) (x % ((2 ^ k : Nat) : Int)) _ _ w h hn (by omega) (by omega) (by omega) (by omega) (wrap_pow (by omega)) hx.1 hx.2 rfl hm1 (by omega) rfl ?_ ?_
      · intro e
        rw [if_neg (by simp only [beq_iff_eq] at e; omega)]
      · intro e
        rw [if_pos (by simp only [beq_eq_false_iff_ne, ne_eq] at e; omega)]
  · rw [if_neg hb]
    exact rtakeNo A n c b w hb
end Go.Proofs.Ytelmcjiamciklaa
