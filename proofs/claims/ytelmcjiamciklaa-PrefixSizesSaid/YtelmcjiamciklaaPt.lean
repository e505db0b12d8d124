/- The contract of Take. -/
import Derived.Test.YtelmcjiamciklaaPp
namespace Go.Proofs.Ytelmcjiamciklaa
open Go.RowKit Go.Shelf
set_option linter.unusedVariables false

/-- What Take comes to. -/
def TakeP (w : World) (R : Int × List Int × Int) (e : Ending) (W' : World) : Prop :=
  ∃ A c, e = .returned (.tuple #[.int .i64 R.1, .slice A R.2.1.length c, .int .i64 R.2.2]) ∧ Mine w.heap.size W' A R.2.1.length c R.2.1 ∧ Below w.heap.size w W'

set_option maxRecDepth 100000 in
set_option maxHeartbeats 4000000 in
theorem takeMore (b0 o n c : Nat) (x : Int) (r : List Int) (k : Nat) (M : Int) (w : World) (h : Byt w (some ⟨b0, o, none⟩) n c (x :: r)) (hn : n ≤ 140737488355328) (hk1 : 1 ≤ k) (hk2 : k ≤ 8)
    (M1 : 2 ≤ M) (M2 : M ≤ 256) (hsh : wrap64 (2 ^ k) = M) (x0 : 0 ≤ x) (x1 : x ≤ 255) (hand : bits .and .i64 x (M - 1) = M - 1) :
    Calls Try.prog 10 #[.slice (some ⟨b0, o, none⟩) n c, .int .i64 k] w (TakeP w (lp r 0 (M - 1))) := by
  have ok : okBits k = true := decide_eq_true (by omega)
  have hl := h.len
  have hn0 : 0 < n := by simp at hl; omega
  have hne : ((n : Int) == 0) = false := by simp; omega
  obtain ⟨b', o', e', hb', hc0⟩ := h.cell hn0
  obtain ⟨rfl, rfl⟩ : b0 = b' ∧ o = o' := by simpa using e'
  have hcx := hc0 0 hn0
  simp only [Nat.add_zero, List.getElem?_cons_zero, Option.getD_some] at hcx
  have Hc := Lib.hid hc0
  have H := Lib.hid h
  have Hl := Lib.hid hl
  clear hc0 h hl e'
  have hself : decide (M - 1 < M - 1) = false := decide_eq_false (by omega)
  go_enter Try.func10, Try.ntmps10
  go_wp2_with fail
  refine wp_scope_hop 2 ?_
  go_wp2_with (first
    | (go_at_call 17; refine (fRight _ _).mono ?_; rintro e w' ⟨rfl, rfl⟩)
    | (refine wp_goto_then rfl ?_) | (refine wp_label ?_) | (refine hop_ret ?_))
  go_loop [4, 8] (fun m at_ => ∃ (k : Nat) (v : Int), m = .int .i64 v ∧ at_ = .int .i64 ((k : Int) + 1) ∧ lp (r.drop k) k v = lp r 0 (M - 1) ∧ k ≤ 5 ∧ 0 ≤ v ∧ v ≤ 2147483647 ∧ k ≤ r.length)
    (fun _ at_ => n + 1 - (intOf at_).toNat)
  case atStart => exact ⟨0, M - 1, rfl, rfl, rfl, by omega, by omega, by omega, by omega⟩
  case round =>
    obtain ⟨j, v, rfl, rfl, hlp, hj5, v0, v1, hjr⟩ := hrel
    have Hlp := Lib.hid hlp
    clear hlp
    have hnr : n = r.length + 1 := by have := Hl.out; simpa using this.symm
    have hnr1 : n ≤ r.length + 1 := by omega
    have hnr2 : r.length + 1 ≤ n := by omega
    clear hnr
    by_cases hlt : j < r.length
    · have hy := (H.out.bs).get (j + 1)
      have hcy := Hc.out (j + 1) (by omega)
      have ey : (x :: r)[j + 1]?.getD 0 = r[j]?.getD 0 := by simp
      rw [ey] at hy hcy
      have hdrop : r.drop j = r[j]?.getD 0 :: r.drop (j + 1) := by
        rw [List.drop_eq_getElem_cons hlt]; simp [hlt]
      have Hdrop := Lib.hid hdrop
      clear hdrop ey
      generalize r[j]?.getD 0 = y at *
      have a127 : bits .and .u8 y 127 = y % 128 := and_mask y 7 hy.1 hy.2 (by omega)
      have a128 : bits .and .u8 y 128 = y / 128 * 128 := and128 y hy.1 hy.2
      obtain ⟨N, hN⟩ : ∃ N, N = v + y % 128 * ((2 ^ (7 * j) : Nat) : Int) := ⟨_, rfl⟩
      have hp : 2 ^ (7 * j) ≤ 2 ^ 35 := Nat.pow_le_pow_right (by decide) (by omega)
      have hp0 : 0 < 2 ^ (7 * j) := Nat.two_pow_pos _
      have hS : 0 ≤ y % 128 * ((2 ^ (7 * j) : Nat) : Int) ∧ y % 128 * ((2 ^ (7 * j) : Nat) : Int) ≤ 128 * 34359738368 :=
        ⟨Int.mul_nonneg (by omega) (by omega), Int.mul_le_mul (by omega) (by omega) (by omega) (by omega)⟩
      have hsum : wrap64 (v + wrap64 (y % 128 * 2 ^ (7 * j))) = N := by
        rw [show ((2 : Int) ^ (7 * j)) = ((2 ^ (7 * j) : Nat) : Int) by simp, hN]
        generalize y % 128 * ((2 ^ (7 * j) : Nat) : Int) = S at *
        unfold wrap64
        omega
      have hN0 : 0 ≤ N ∧ N ≤ 5000000000000 := by omega
      have hlpe : lp (r.drop j) j v = if 5 ≤ j ∨ 2147483648 ≤ N then (0, [], 60) else if y < 128 then (N, r.drop (j + 1), 0) else lp (r.drop (j + 1)) (j + 1) N := by
        rw [Hdrop.out, lp, ← hN]
      rw [Hlp.out] at hlpe
      clear hN hp hp0 hS
      have Hlpe := Lib.hid hlpe
      clear hlpe
      by_cases h5 : 5 ≤ j ∨ 2147483648 ≤ N
      · have hR : lp r 0 (M - 1) = (0, [], 60) := by rw [Hlpe.out, if_pos h5]
        rw [hR]
        clear Hlpe Hlp hR
        by_cases hj : 5 ≤ j
        · clear h5
          go_wp2_with (first | (refine wp_goto ?_; refine hop_goto rfl ?_) | (refine wp_label ?_) | (refine hop_ret ?_))
          go_ret3
          unfold TakeP
          exact ⟨none, 0, rfl, Mine.nil _ _, Below.refl _ _⟩
        · have h5' : 2147483648 ≤ N := by omega
          have hd : (N / 2147483648 != 0) = true := by simp; omega
          clear h5
          go_wp2_with (first | (refine wp_goto ?_; refine hop_goto rfl ?_) | (refine wp_label ?_) | (refine hop_ret ?_))
          go_ret3
          unfold TakeP
          exact ⟨none, 0, rfl, Mine.nil _ _, Below.refl _ _⟩
      · have h5a : ¬ 5 ≤ j := by omega
        have h5b : N < 2147483648 := by omega
        have hd : (N / 2147483648 != 0) = false := by simp; omega
        clear h5
        by_cases hy2 : y < 128
        · have hR : lp r 0 (M - 1) = (N, r.drop (j + 1), 0) := by rw [Hlpe.out, if_neg (by omega), if_pos hy2]
          rw [hR]
          clear Hlpe Hlp hR
          have hyz : (y / 128 * 128 == 0) = true := by simp; omega
          by_cases hcap : c = j + 1 + 1
          · subst hcap
            have HT := Lib.hid (H.out.tail_all (by omega))
            go_wp2_with (first
              | (go_at_call 21; refine (fClone _ _ _ _ _ HT.out (by omega)).mono ?_; rintro e w' ⟨A', c', rfl, hm', hb'⟩)
              | (refine wp_goto ?_; refine hop_goto rfl ?_) | (refine wp_label ?_) | (refine hop_ret ?_))
            go_ret3
            unfold TakeP
            have e2 : n - (j + 1 + 1) = (r.drop (j + 1)).length := by simp; omega
            rw [show (x :: r).drop (j + 1 + 1) = r.drop (j + 1) from rfl, e2] at hm'
            exact ⟨A', c', by rw [← e2]; rfl, hm', hb'⟩
          · have HT := Lib.hid (H.out.tail (k := j + 1 + 1) (by omega) hcap)
            go_wp2_with (first
              | (go_at_call 21; refine (fClone _ _ _ _ _ HT.out (by omega)).mono ?_; rintro e w' ⟨A', c', rfl, hm', hb'⟩)
              | (refine wp_goto ?_; refine hop_goto rfl ?_) | (refine wp_label ?_) | (refine hop_ret ?_))
            go_ret3
            unfold TakeP
            have e2 : n - (j + 1 + 1) = (r.drop (j + 1)).length := by simp; omega
            rw [show (x :: r).drop (j + 1 + 1) = r.drop (j + 1) from rfl, e2] at hm'
            exact ⟨A', c', by rw [← e2]; rfl, hm', hb'⟩
        · have hyz : (y / 128 * 128 == 0) = false := by simp; omega
          have hR : lp r 0 (M - 1) = lp (r.drop (j + 1)) (j + 1) N := by rw [Hlpe.out, if_neg (by omega), if_neg hy2]
          have HR := Lib.hid hR
          clear hR Hlpe
          go_wp2_with fail
          exact ⟨⟨_, _, _, _, ⟨j + 1, N, rfl, by simp, HR.out.symm, by omega, by omega, by omega, by omega⟩, rfl, rfl, rfl, rfl⟩, by simp [intOf]; omega⟩
    · obtain rfl : j = r.length := by omega
      have hR : lp r 0 (M - 1) = (0, [], 10) := by rw [← Hlp.out, List.drop_length, lp]
      rw [hR]
      clear hR Hlp
      have hge : (n : Int) ≤ (r.length : Int) + 1 := by omega
      go_wp2_with (first | (refine wp_goto ?_; refine hop_goto rfl ?_) | (refine wp_label ?_) | (refine hop_ret ?_))
      go_ret3
      unfold TakeP
      exact ⟨none, 0, rfl, Mine.nil _ _, Below.refl _ _⟩

set_option maxRecDepth 100000 in
set_option maxHeartbeats 4000000 in
theorem takeLess (b0 o n c : Nat) (x : Int) (r : List Int) (k : Nat) (M v : Int) (w : World) (h : Byt w (some ⟨b0, o, none⟩) n c (x :: r)) (hn : n ≤ 140737488355328) (hk1 : 1 ≤ k) (hk2 : k ≤ 8)
    (M1 : 2 ≤ M) (M2 : M ≤ 256) (hsh : wrap64 (2 ^ k) = M) (x0 : 0 ≤ x) (x1 : x ≤ 255) (hand : bits .and .i64 x (M - 1) = v) (hv : v < M - 1) :
    Calls Try.prog 10 #[.slice (some ⟨b0, o, none⟩) n c, .int .i64 k] w (TakeP w (v, r, 0)) := by
  have ok : okBits k = true := decide_eq_true (by omega)
  have hl := h.len
  have hn0 : 0 < n := by simp at hl; omega
  have hne : ((n : Int) == 0) = false := by simp; omega
  obtain ⟨b', o', e', hb', hc0⟩ := h.cell hn0
  obtain ⟨rfl, rfl⟩ : b0 = b' ∧ o = o' := by simpa using e'
  have hcx := hc0 0 hn0
  simp only [Nat.add_zero, List.getElem?_cons_zero, Option.getD_some] at hcx
  have H := Lib.hid h
  have Hl := Lib.hid hl
  clear hc0 h hl e'
  by_cases hcap : c = 1
  · subst hcap
    have HT := Lib.hid (H.out.tail_all (by omega))
    go_enter Try.func10, Try.ntmps10
    go_wp2_with fail
    refine wp_scope_hop 2 ?_
    go_wp2_with (first
      | (go_at_call 17; refine (fRight _ _).mono ?_; rintro e w' ⟨rfl, rfl⟩) | (go_at_call 21; refine (fClone _ _ _ _ _ HT.out (by omega)).mono ?_; rintro e w' ⟨A', c', rfl, hm', hb'⟩)
      | (refine wp_goto ?_; refine hop_goto rfl ?_) | (refine wp_label ?_) | (refine hop_ret ?_))
    go_ret3
    unfold TakeP
    have e2 : n - 1 = r.length := by have := Hl.out; simp at this; omega
    rw [show (x :: r).drop 1 = r from rfl, e2] at hm'
    exact ⟨A', c', by rw [← e2]; rfl, hm', hb'⟩
  · have HT := Lib.hid (H.out.tail (k := 1) (by omega) hcap)
    go_enter Try.func10, Try.ntmps10
    go_wp2_with fail
    refine wp_scope_hop 2 ?_
    go_wp2_with (first
      | (go_at_call 17; refine (fRight _ _).mono ?_; rintro e w' ⟨rfl, rfl⟩) | (go_at_call 21; refine (fClone _ _ _ _ _ HT.out (by omega)).mono ?_; rintro e w' ⟨A', c', rfl, hm', hb'⟩)
      | (refine wp_goto ?_; refine hop_goto rfl ?_) | (refine wp_label ?_) | (refine hop_ret ?_))
    go_ret3
    unfold TakeP
    have e2 : n - 1 = r.length := by have := Hl.out; simp at this; omega
    rw [show (x :: r).drop 1 = r from rfl, e2] at hm'
    exact ⟨A', c', by rw [← e2]; rfl, hm', hb'⟩

set_option maxRecDepth 100000 in
theorem takeNil (A : Option Addr) (c : Nat) (k : Int) (w : World) (ok : okBits k = true) :
    Calls Try.prog 10 #[.slice A 0 c, .int .i64 k] w (TakeP w (0, [], 10)) := by
  go_enter Try.func10, Try.ntmps10
  go_wp2_with fail
  refine wp_scope_hop 2 ?_
  go_wp2_with (first
    | (go_at_call 17; refine (fRight _ _).mono ?_; rintro e w' ⟨rfl, rfl⟩) | (refine wp_goto ?_; refine hop_goto rfl ?_) | (refine wp_label ?_) | (refine hop_ret ?_))
  go_ret3
  unfold TakeP
  exact ⟨none, 0, rfl, Mine.nil _ _, Below.refl _ _⟩

set_option maxRecDepth 100000 in
theorem takeNo (A : Option Addr) (n c : Nat) (k : Int) (w : World) (ok : okBits k = false) :
    Calls Try.prog 10 #[.slice A n c, .int .i64 k] w (TakeP w (0, [], 2)) := by
  go_enter Try.func10, Try.ntmps10
  go_wp2_with fail
  refine wp_scope_hop 2 ?_
  go_wp2_with (first
    | (go_at_call 17; refine (fRight _ _).mono ?_; rintro e w' ⟨rfl, rfl⟩) | (refine wp_goto ?_; refine hop_goto rfl ?_) | (refine wp_label ?_) | (refine hop_ret ?_))
  go_ret3
  unfold TakeP
  exact ⟨none, 0, rfl, Mine.nil _ _, Below.refl _ _⟩

theorem fTake (A : Option Addr) (n c : Nat) (l : List Int) (b : Int) (w : World) (h : Byt w A n c l) (hn : n ≤ 140737488355328) :
    Calls Try.prog 10 #[.slice A n c, .int .i64 b] w (TakeP w (takeR l b)) := by
  unfold takeR
  by_cases hb : 1 ≤ b ∧ b ≤ 8
  · rw [if_pos hb]
    have ok : okBits b = true := decide_eq_true hb
    cases l with
    | nil =>
      have hl := h.len
      simp at hl
      subst hl
      exact takeNil A c b w ok
    | cons x r =>
      have hl := h.len
      simp at hl
      obtain ⟨b0, o, rfl, _, _⟩ := h.cell (by omega)
      obtain ⟨k, rfl⟩ := toNat_lit (show 0 ≤ b by omega)
      have hx := h.bs x (by simp)
      have hp : 2 ^ k ≤ 2 ^ 8 := Nat.pow_le_pow_right (by decide) (by omega)
      have hp1 := pow_ge (k := k) (by omega)
      have hM : ((2 ^ k : Nat) : Int) - 1 = ((2 ^ k - 1 : Nat) : Int) := by omega
      have hand : bits .and .i64 x (((2 ^ k : Nat) : Int) - 1) = x % ((2 ^ k : Nat) : Int) := by rw [hM]; exact and_mask64 x k hx.1 (by omega) (by omega)
      simp only [Int.toNat_natCast]
      by_cases hlt : x % ((2 ^ k : Nat) : Int) < ((2 ^ k : Nat) : Int) - 1
      · rw [if_pos hlt]
        exact takeLess b0 o n c x r k _ _ w h hn (by omega) (by omega) (by omega) (by omega) (wrap_pow (by omega)) hx.1 hx.2 hand hlt
      · rw [if_neg hlt]
        have he : x % ((2 ^ k : Nat) : Int) = ((2 ^ k : Nat) : Int) - 1 := by
          have := Int.emod_lt_of_pos x (show (0 : Int) < ((2 ^ k : Nat) : Int) by omega)
          omega
        rw [he] at hand ⊢
        exact takeMore b0 o n c x r k _ w h hn (by omega) (by omega) (by omega) (by omega) (wrap_pow (by omega)) hx.1 hx.2 hand
  · rw [if_neg hb]
    exact takeNo A n c b w (decide_eq_false hb)
end Go.Proofs.Ytelmcjiamciklaa
