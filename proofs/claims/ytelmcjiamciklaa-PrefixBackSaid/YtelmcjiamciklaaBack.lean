/- PrefixBack: what is put is taken, whatever stands behind it: the walk. -/
import Derived.Test.YtelmcjiamciklaaPw
import Derived.Test.YtelmcjiamciklaaPq
import Derived.Test.YtelmcjiamciklaaO
namespace Go.Proofs.Ytelmcjiamciklaa
open Go.RowKit Go.Shelf
set_option linter.unusedVariables false

theorem Byt.init {w : World} {A : Option Addr} {n c : Nat} {l : List Int} (h : Byt w A n c l) {k : Nat} (hk : k ≤ n) : Byt w A k c (l.take k) := by
  have hl := h.len
  have hc := h.cap
  refine ⟨by rw [List.length_take]; omega, by omega, h.mx, h.nn, h.bs.take _, fun hn => ?_⟩
  obtain ⟨b, o, e, hb, hcell⟩ := h.cell (by omega)
  exact ⟨b, o, e, hb, fun i hi => by rw [hcell i (by omega), List.getElem?_take, if_pos hi]⟩

theorem upperPut {x k : Nat} {u : Int} (hk1 : 1 ≤ k) (hk2 : k ≤ 8) : upperR (putL x k u) k = (u / ((2 ^ k : Nat) : Int) * ((2 ^ k : Nat) : Int), 0) := by
  have hp1 := pow_ge hk1
  unfold upperR putL
  rw [if_pos (by omega)]
  simp only [Int.toNat_natCast]
  by_cases hl : x < 2 ^ k - 1
  · rw [if_pos hl]
    simp only
    rw [mul_add_div _ _ _ (by omega) (by omega)]
  · rw [if_neg hl]
    simp only
    rw [mul_add_div _ _ _ (by omega) (by omega)]

set_option maxRecDepth 100000 in
set_option maxHeartbeats 8000000 in
theorem backNo (n b u : Int) (n0 : -9223372036854775808 ≤ n) (n1 : n ≤ 9223372036854775807) (u0 : 0 ≤ u) (u1 : u ≤ 255) (A : Option Addr) (len cap : Nat) (W : World) (hlen : len ≤ 300)
    (hno : b < 1 ∨ 8 < b ∨ n < 0 ∨ 2147483647 < n) :
    Calls Try.prog 4 #[.int .i64 n, .int .i64 b, .int .u8 u, .slice A len cap] W fun e w' => e = .returned (.bool true) ∧ Below W.heap.size W w' := by
  have b0 := Bel.refl W
  have ok : okNum n b = false := decide_eq_false (by omega)
  have hP : putR n b u = [] := by unfold putR; rw [ok]; rfl
  have hE : putE n b = 2 := by unfold putE; rw [ok]; rfl
  have hZ : ((putR n b 0).length : Int) = 0 := by unfold putR; rw [ok]; rfl
  clear ok
  by_cases h1 : b < 1
  · have f1 : decide (1 ≤ b) = false := decide_eq_false (by omega)
    clear hno
    go_enter Try.func4, Try.ntmps4
    go_wp2_with (first
      | (go_at_call 8; refine (fPutE hP hE (by omega) (by omega) (by omega) (by omega) _).mono ?_; rintro e w' ⟨A', c', rfl, hm, hb⟩; replace b0 := Bel.step (W := W) (by repeat (first | exact b0 | refine Bel.alloc ?_ _)) hb)
      | (go_at_call 15; refine (fSizeE hZ (by omega) (by omega) _).mono ?_; rintro e w' ⟨rfl, hb⟩; replace b0 := Bel.step (W := W) (by repeat (first | exact b0 | refine Bel.alloc ?_ _)) hb)
      | (go_at_call 7; refine (fWakes _).mono ?_; rintro e w' ⟨rfl, hb⟩; replace b0 := Bel.step (W := W) (by repeat (first | exact b0 | refine Bel.alloc ?_ _)) hb))
    go_ret
    exact ⟨rfl, (by repeat (first | exact b0 | refine Bel.alloc ?_ _) : Bel W _).out⟩
  · have f1 : decide (1 ≤ b) = true := decide_eq_true (by omega)
    by_cases h2 : 8 < b
    · have f2 : decide (b ≤ 8) = false := decide_eq_false (by omega)
      clear hno h1
      go_enter Try.func4, Try.ntmps4
      go_wp2_with (first
        | (go_at_call 8; refine (fPutE hP hE (by omega) (by omega) (by omega) (by omega) _).mono ?_; rintro e w' ⟨A', c', rfl, hm, hb⟩; replace b0 := Bel.step (W := W) (by repeat (first | exact b0 | refine Bel.alloc ?_ _)) hb)
        | (go_at_call 15; refine (fSizeE hZ (by omega) (by omega) _).mono ?_; rintro e w' ⟨rfl, hb⟩; replace b0 := Bel.step (W := W) (by repeat (first | exact b0 | refine Bel.alloc ?_ _)) hb)
        | (go_at_call 7; refine (fWakes _).mono ?_; rintro e w' ⟨rfl, hb⟩; replace b0 := Bel.step (W := W) (by repeat (first | exact b0 | refine Bel.alloc ?_ _)) hb))
      go_ret
      exact ⟨rfl, (by repeat (first | exact b0 | refine Bel.alloc ?_ _) : Bel W _).out⟩
    · have f2 : decide (b ≤ 8) = true := decide_eq_true (by omega)
      by_cases h3 : n < 0
      · have f3 : decide (0 ≤ n) = false := decide_eq_false (by omega)
        clear hno h1 h2
        go_enter Try.func4, Try.ntmps4
        go_wp2_with (first
          | (go_at_call 8; refine (fPutE hP hE (by omega) (by omega) (by omega) (by omega) _).mono ?_; rintro e w' ⟨A', c', rfl, hm, hb⟩; replace b0 := Bel.step (W := W) (by repeat (first | exact b0 | refine Bel.alloc ?_ _)) hb)
          | (go_at_call 15; refine (fSizeE hZ (by omega) (by omega) _).mono ?_; rintro e w' ⟨rfl, hb⟩; replace b0 := Bel.step (W := W) (by repeat (first | exact b0 | refine Bel.alloc ?_ _)) hb)
          | (go_at_call 7; refine (fWakes _).mono ?_; rintro e w' ⟨rfl, hb⟩; replace b0 := Bel.step (W := W) (by repeat (first | exact b0 | refine Bel.alloc ?_ _)) hb))
        go_ret
        exact ⟨rfl, (by repeat (first | exact b0 | refine Bel.alloc ?_ _) : Bel W _).out⟩
      · have f3 : decide (0 ≤ n) = true := decide_eq_true (by omega)
        have f4 : decide (n ≤ 2147483647) = false := decide_eq_false (by omega)
        clear hno h1 h2 h3
        go_enter Try.func4, Try.ntmps4
        go_wp2_with (first
          | (go_at_call 8; refine (fPutE hP hE (by omega) (by omega) (by omega) (by omega) _).mono ?_; rintro e w' ⟨A', c', rfl, hm, hb⟩; replace b0 := Bel.step (W := W) (by repeat (first | exact b0 | refine Bel.alloc ?_ _)) hb)
          | (go_at_call 15; refine (fSizeE hZ (by omega) (by omega) _).mono ?_; rintro e w' ⟨rfl, hb⟩; replace b0 := Bel.step (W := W) (by repeat (first | exact b0 | refine Bel.alloc ?_ _)) hb)
          | (go_at_call 7; refine (fWakes _).mono ?_; rintro e w' ⟨rfl, hb⟩; replace b0 := Bel.step (W := W) (by repeat (first | exact b0 | refine Bel.alloc ?_ _)) hb))
        go_ret
        exact ⟨rfl, (by repeat (first | exact b0 | refine Bel.alloc ?_ _) : Bel W _).out⟩

set_option maxRecDepth 100000 in
set_option maxHeartbeats 8000000 in
theorem backYes (x k : Nat) (u M U : Int) (P : List Int) (hk1 : 1 ≤ k) (hk2 : k ≤ 8) (hx : x ≤ 2147483647) (u0 : 0 ≤ u) (u1 : u ≤ 255) (A : Option Addr) (len cap : Nat) (l : List Int) (W : World) (hlen : len ≤ 300) (h : Byt W A len cap l)
    (hP : putR x k u = P) (hE : putE x k = 0) (hZ : ((putR x k 0).length : Int) = (P.length : Int)) (hp1 : 1 ≤ P.length) (hp2 : P.length ≤ 6) (hT : takeR (P ++ l) k = ((x : Int), l, 0)) (hS : takeR P.dropLast k = (0, [], 10)) (hU : upperR P k = (U, 0))
    (hsh : wrap64 (u / 2 ^ k * 2 ^ k) = U) (hsw : wrap64 U = U) :
    Calls Try.prog 4 #[.int .i64 x, .int .i64 k, .int .u8 u, .slice A len cap] W fun e w' => e = .returned (.bool true) ∧ Below W.heap.size W w' := by
  have b0 := Bel.refl W
  have f1 : decide (1 ≤ (k : Int)) = true := decide_eq_true (by omega)
  have f2 : decide ((k : Int) ≤ 8) = true := decide_eq_true (by omega)
  have f4 : decide ((x : Int) ≤ 2147483647) = true := decide_eq_true (by omega)
  have f5 : ((P.length : Int) == 0) = false := by rw [beq_eq_false_iff_ne]; omega
  have HP := Lib.hid hP
  have HE := Lib.hid hE
  have HZ := Lib.hid hZ
  have HT := Lib.hid hT
  have HS := Lib.hid hS
  have HU := Lib.hid hU
  clear hP hE hZ hT hS hU
  go_enter Try.func4, Try.ntmps4
  go_wp2_with fail
  refine (fPutE HP.out HE.out (by omega) (by omega) (by omega) (by omega) _).mono ?_
  rintro e w1 ⟨A1, c1, rfl, m1, hb⟩
  replace b0 := Bel.step (W := W) (by repeat (first | exact b0 | refine Bel.alloc ?_ _)) hb
  rcases m1.cases with ⟨_, hq, _⟩ | ⟨g, rfl, hg1, hg2, hg3, hg4, hg5, hg6⟩
  · omega
  clear hg5 hg6
  have hw1 : Byt w1 A len cap l := h.below hb
  go_wp2_with (first
    | (at_builtin; have _t := hw1; clear _t; refine wpList_app _ rfl (.tmp 66) (.tmp 67) rfl w1.heap.size (some ⟨w1.heap.size, 0, none⟩) 0 0 [] rfl (Mine.lit w1 [] (Nat.le_refl _) Bs.nil (by simp) 0 rfl) (some ⟨g, 0, none⟩) P.length c1 P rfl (m1.byt.alloc _) (by simp; omega) (by simp) ?_; intro A2 c2 w2 m2 hb2 hg2 hat2; rw [Nat.zero_add] at m2; have hb2' : Below w1.heap.size w1 w2 := ((Below.refl _ _).alloc (Nat.le_refl _) _).trans hb2; replace hw1 := hw1.below hb2')
    | (at_builtin; go_must (refine wpList_app w2 rfl (.tmp 68) (.tmp 69) rfl w1.heap.size A2 P.length c2 ([] ++ P) rfl m2 A len cap l rfl hw1 (by have := hw1.len; simp; omega) hb2'.size ?_; intro A3 c3 w3 m3 hb3 hg3 hat3)))
  have hb13 : Below w1.heap.size w1 w3 := hb2'.trans hb3
  have m3' : Byt w3 A3 (P.length + len) c3 (P ++ l) := by simpa using m3.byt
  have m1' : Byt w3 (some ⟨g, 0, none⟩) P.length c1 P := m1.byt.below hb13
  have h3 : Byt w3 A len cap l := (h.below hb).below hb13
  replace b0 := Bel.step b0 hb13
  clear m1 m2 m3 hb2 hb3 hb2' hb13 hw1 hb
  refine (fTakeE HT.out _ (by simpa using m3') (by omega)).mono ?_
  rintro e w4 ⟨A4, c4, rfl, m4, hb⟩
  replace b0 := Bel.step b0 hb
  have m1'' := m1'.below hb
  have h4 := h3.below hb
  clear hb
  go_wp2_with fail
  refine (fUpperE HU.out _ m1'').mono ?_
  rintro e w5 ⟨rfl, hb⟩
  replace b0 := Bel.step b0 hb
  have m1s := m1''.below hb
  have h5 := h4.below hb
  have m5 := m4.byt.below hb
  clear hb
  go_wp2_with fail
  refine (fSameT _ _ _ l _ _ _ _ m5 h5).mono ?_
  rintro e w' ⟨rfl, rfl⟩
  go_wp2_with fail
  refine (fSizeE HZ.out (by omega) (by omega) _).mono ?_
  rintro e w6 ⟨rfl, hb⟩
  replace b0 := Bel.step b0 hb
  have m1f := m1s.below hb
  clear hb
  go_wp2_with fail
  have HI : Hid (Byt w6 (some ⟨g, 0, none⟩) (P.length - 1) c1 P.dropLast) := by
    rw [List.dropLast_eq_take]
    exact m1f.init (by omega)
  refine (fTakeE HS.out _ (by simpa using HI.out) (by omega)).mono ?_
  rintro e w7 ⟨A5, c5, rfl, m7, hb⟩
  replace b0 := Bel.step b0 hb
  clear hb
  go_wp2_with fail
  refine (fWakes _).mono ?_
  rintro e w8 ⟨rfl, hb⟩
  replace b0 := Bel.step b0 hb
  go_wp2_with fail
  go_ret
  exact ⟨rfl, b0.out⟩

theorem putL_len (x k : Nat) (u u' : Int) : (putL x k u).length = (putL x k u').length := by
  unfold putL
  split <;> simp
theorem putL_pos (x k : Nat) (u : Int) : 1 ≤ (putL x k u).length := by
  unfold putL
  split <;> simp
theorem putL_le (x k : Nat) (u : Int) (hx : x ≤ 2147483647) : (putL x k u).length ≤ 6 := by
  unfold putL
  have := septs_len 4 (x - (2 ^ k - 1)) (by omega)
  split <;> simp
  omega

theorem wBack {W : World} (n : Int) (n0 : -9223372036854775808 ≤ n) (n1 : n ≤ 9223372036854775807) (b : Int) (_ : -9223372036854775808 ≤ b) (_ : b ≤ 9223372036854775807) (u : Int) (u0 : 0 ≤ u) (u1 : u ≤ 255)
    (A : Option Addr) (len cap : Nat) (l : List Int) (h : Byt W A len cap l) :
    Calls Try.prog 4 #[.int .i64 n, .int .i64 b, .int .u8 u, .slice A len cap] W fun e w' => e = .returned (.bool true) ∧ Below W.heap.size W w' := by
  by_cases hl : 300 < len
  · clear h
    go_enter Try.func4, Try.ntmps4
    go_wp2_with (go_at_call 7; refine (fWakes _).mono ?_; rintro e w' ⟨rfl, hb⟩)
    go_ret
    exact ⟨rfl, hb⟩
  · by_cases hok : 1 ≤ b ∧ b ≤ 8 ∧ 0 ≤ n ∧ n ≤ 2147483647
    · obtain ⟨k, rfl⟩ := toNat_lit (show 0 ≤ b by omega)
      obtain ⟨x, rfl⟩ := toNat_lit hok.2.2.1
      have ok : okNum x k = true := decide_eq_true hok
      have eP : ∀ v, putR x k v = putL x k v := fun v => by unfold putR; rw [if_pos ok]; simp
      have hbd := div_mul_bd u _ u0 u1 k (by omega) rfl
      have hp1 := pow_ge (k := k) (by omega)
      refine backYes x k u ((2 ^ k : Nat) : Int) (u / ((2 ^ k : Nat) : Int) * ((2 ^ k : Nat) : Int)) (putL x k u) (by omega) (by omega) (by omega) u0 u1 A len cap l W (by omega) h (eP u) (by unfold putE; rw [if_pos ok])
        (by rw [eP, putL_len x k 0 u]) (putL_pos x k u) (putL_le x k u (by omega)) (takePut (by omega) (by omega) (by omega) l) (takeShort (by omega) (by omega) (by omega)) (upperPut (by omega) (by omega)) ?_ ?_
      · rw [show ((2 : Int) ^ k) = ((2 ^ k : Nat) : Int) by simp]
        generalize u / ((2 ^ k : Nat) : Int) * ((2 ^ k : Nat) : Int) = V at *
        unfold wrap64
        omega
      · generalize u / ((2 ^ k : Nat) : Int) * ((2 ^ k : Nat) : Int) = V at *
        unfold wrap64
        omega
    · exact backNo n b u n0 n1 u0 u1 A len cap W (by omega) (by omega)
end Go.Proofs.Ytelmcjiamciklaa
