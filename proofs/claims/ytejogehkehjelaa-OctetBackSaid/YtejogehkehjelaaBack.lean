/- OctetBack: what is put is taken, wherever it stands: the walk. -/
import Derived.Test.YtejogehkehjelaaBk
namespace Go.Proofs.Ytejogehkehjelaa
open Go.RowKit Go.Shelf
set_option linter.unusedVariables false

theorem and31 (n : Nat) (h : n < 4294967296) : bits .and .i64 (n : Int) 2147483647 = (n : Int) % 2147483648 := by
  have := and_mask64 (n : Int) 31 (by omega) (by omega) (by decide)
  simpa using this

set_option maxRecDepth 100000 in
set_option maxHeartbeats 8000000 in
theorem backYes (n s : Nat) (s1 : 1 ≤ s) (s4 : s ≤ 4) (hn : n < 256 ^ s) (A : Option Addr) (p c : Nat) (l : List Int) (B : Option Addr) (q d : Nat) (l' : List Int) (W : World) (h : Byt W A p c l) (h' : Byt W B q d l') (h1 : p ≤ 100) (h2 : q ≤ 100) :
    Calls Try.prog 4 #[.int .i64 n, .int .i64 s, .slice A p c, .slice B q d] W fun e w' => e = .returned (.bool true) ∧ Below W.heap.size W w' := by
  have b0 := Bel.refl W
  have n1 : n < 4294967296 := by
    have : 256 ^ s ≤ 256 ^ 4 := Nat.pow_le_pow_right (by decide) s4
    omega
  have ok : okO n s = true := decide_eq_true (by simp only [Int.toNat_natCast]; omega)
  have hc := fOPutE (show putO n s = bigE s n by unfold putO; rw [ok]; simp) (show putOe n s = 0 by unfold putOe; rw [ok]; rfl) (by omega) W
  rw [bigE_len] at hc
  have HC := Lib.hid hc
  have hl := h.len
  have ht := take_all (la := l) (lb := l') s1 s4 hn
  have hs := take_short (la := l) (s := s) (n := n) s1 s4
  rw [hl] at ht hs
  have HT := Lib.hid ht
  have HS := Lib.hid hs
  have HW := Lib.hid (wrapP (s := s) (by omega) (by omega))
  have g4 : decide ((n : Int) < wrap64 (2 ^ (8 * s))) = true := by
    rw [HW.out]
    exact decide_eq_true (by omega)
  have HL := Lib.hid hl
  have H := Lib.hid h
  have H' := Lib.hid h'
  clear hc ok hl h h' hn ht hs
  have g1 : decide ((1 : Int) ≤ (s : Int)) = true := decide_eq_true (by omega)
  have g2 : decide ((s : Int) ≤ 4) = true := decide_eq_true (by omega)
  have g3 : decide ((0 : Int) ≤ (n : Int)) = true := decide_eq_true (by omega)
  have hmm : min (max (s : Int) 1) 4 = s := by omega
  go_enter Try.func4, Try.ntmps4
  go_wp2_with (first
    | (go_at_call 9; refine HC.out.mono ?_; rintro e w1 ⟨A1, c1, rfl, m1, hb⟩; have y1 := H.out.below hb; have y1' := H'.out.below hb; replace b0 := Bel.step (W := W) b0 hb)
    | (at_builtin; refine wpList_copy w1 rfl (.tmp 74) (.tmp 75) rfl rfl rfl A p c l rfl y1 (by omega) ?_; intro A2 c2 w2 m2 hb2; have k1 := m1.byt.below hb2; have k2 := y1'.below hb2)
    | (at_builtin; refine wpList_app w2 rfl (.tmp 76) (.tmp 77) rfl w1.heap.size A2 p c2 l rfl m2 A1 s c1 (bigE s n) rfl k1 (by have := bigE_len s n; have := HL.out; omega) hb2.size ?_; intro A3 c3 w3 m3 hb3 _ _; have k3 := y1'.below (hb2.trans hb3))
    | (at_builtin; refine wpList_app w3 rfl (.tmp 78) (.tmp 79) rfl w1.heap.size A3 (p + s) c3 (l ++ bigE s n) rfl m3 B q d l' rfl k3 (by have := bigE_len s n; have := HL.out; have := k3.len; simp; omega) (hb2.trans hb3).size ?_; intro A4 c4 w4 m4 hb4 _ _))
  refine (fOTakeE HT.out _ (by omega) m4.byt).mono ?_
  rintro e w' ⟨rfl, rfl⟩
  have hb34 : Below w1.heap.size w1 w4 := (hb2.trans hb3).trans hb4
  have k5 := m1.byt.below hb34
  have k6 := y1.below hb34
  have k7 := y1'.below hb34
  have b4 : Bel W w4 := Bel.step (W := W) b0 hb34
  have k4 := m4.byt
  obtain ⟨h00, _⟩ | ⟨g, rfl, hgb, hg, hnc, hcm, _, _⟩ := m1.cases
  · subst h00
    obtain ⟨b', o', e', _⟩ := k5.cell (by omega)
    cases e'
  have hgw : g < w4.heap.size := by have := hb34.size; omega
  have HM4 := Lib.hid k4
  have HM5 := Lib.hid k5
  have HM6 := Lib.hid k6
  have HM7 := Lib.hid k7
  have HB34 := Lib.hid hb34
  clear k1 k2 k3 m1 m2 m3 m4 k4 k5 k6 k7 y1 y1' b0 hb hb2 hb3 hb4 hb34
  have HI := Lib.hid (HM5.out.init (k := s - 1) (by omega))
  have x1 : IntKind.i64.wrap ((s : Int) - 1) = ((s - 1 : Nat) : Int) := by rw [IntKind.wrap_i64]; omega
  have x2 : (0 : Int) ≤ ((s - 1 : Nat) : Int) := by omega
  have x3 : ((s - 1 : Nat) : Int) ≤ (s : Int) := by omega
  have x4 : (s : Int) ≤ (c1 : Int) := by omega
  have x5 : s - 1 ≤ c1 := by omega
  have hn0 : l.length + ((bigE s n).take (s - 1)).length ≤ 140737488355328 := by have := HL.out; rw [List.length_take]; omega
  have HN := Lib.hid hn0
  clear hn0
  go_wp2_with fail
  go_region_held3 (fun w' => True) (trivial) (first
    | (refine step_copy _ (by rfl) (.tmp 90) (.tmp 91) (by rfl) (by rfl) (by rfl) A p c l (by rfl) (HM6.out.drew) (by omega) ?_; intro A5 c5 w5 m5 hb5)
    | (refine step_app _ (by rfl) (.tmp 92) (.tmp 96) (by rfl) w4.heap.size A5 p c5 l (by rfl) m5 (some ⟨g, 0, none⟩) (s - 1) c1 ((bigE s n).take (s - 1)) (by rfl) (HI.out.drew.below hb5) HN.out hb5.size ?_; intro A6 c6 w6 m6 hb6 _)
    | (go_at_call 11; refine (fOTakeE HS.out _ (by omega) m6.byt).mono ?_; rintro e w' ⟨rfl, rfl⟩))
  have e1 : Below w4.heap.size w4 w5 := (show Below w4.heap.size w4 w4.drew from ⟨rfl, rfl, rfl, Nat.le_refl _, fun _ _ => rfl⟩).trans hb5
  have e2 := e1.trans hb6
  have b5 : Bel W w6 := Bel.step (W := W) b4 e2
  have HM8 := Lib.hid (HM4.out.below e2)
  clear m5 m6 hb5 hb6 b4 e1 e2
  have ha := and31 n n1
  have b0 := b5
  by_cases h4 : s = 4
  · have f4 : ((s : Int) == 4) = true := by rw [h4]; rfl
    have hst : streamO (l ++ bigE s n ++ l') p = (n : Int) % 2147483648 := by
      unfold streamO
      have := HT.out
      rw [h4] at this ⊢
      rw [show ((4 : Nat) : Int) = 4 from rfl] at this
      rw [this]
    have hs2 : (takeO (l ++ bigE s n ++ l') p 4).2 = 0 := by
      have := HT.out
      rw [h4] at this ⊢
      rw [show ((4 : Nat) : Int) = 4 from rfl] at this
      rw [this]
    have HST := Lib.hid hst
    have HS2 := Lib.hid hs2
    clear h4 hst hs2
    go_wp2_with (first
      | (go_at_call 13; refine (fOStreamE HST.out HS2.out _ (by omega) HM8.out).mono ?_; rintro e w' ⟨rfl, rfl⟩)
      | (go_at_call 8; refine (fWakes _).mono ?_; rintro e w' ⟨rfl, hb⟩; replace b0 := Bel.step (W := W) (by repeat (first | exact b0 | refine Bel.alloc ?_ _)) hb))
    go_ret
    exact ⟨rfl, ((by repeat (first | exact b0 | refine Bel.alloc ?_ _)) : Bel W _).out⟩
  · have f4 : ((s : Int) == 4) = false := beq_eq_false_iff_ne.2 (by omega)
    clear h4
    go_wp2_with (first
      | (go_at_call 8; refine (fWakes _).mono ?_; rintro e w' ⟨rfl, hb⟩; replace b0 := Bel.step (W := W) (by repeat (first | exact b0 | refine Bel.alloc ?_ _)) hb))
    go_ret
    exact ⟨rfl, ((by repeat (first | exact b0 | refine Bel.alloc ?_ _)) : Bel W _).out⟩

theorem wBack {W : World} (n : Int) (_ : -9223372036854775808 ≤ n) (n1 : n ≤ 9223372036854775807) (s : Int) (_ : -9223372036854775808 ≤ s) (_ : s ≤ 9223372036854775807) (A : Option Addr) (p c : Nat) (l : List Int) (h : Byt W A p c l) (B : Option Addr) (q d : Nat) (l' : List Int) (h' : Byt W B q d l') :
    Calls Try.prog 4 #[.int .i64 n, .int .i64 s, .slice A p c, .slice B q d] W fun e w' => e = .returned (.bool true) ∧ Below W.heap.size W w' := by
  by_cases hl : 100 < p ∨ 100 < q
  · exact backBig n s A p c B q d W hl
  cases ok : okO n s
  · exact backNo n s n1 A p c B q d W (by omega) (by omega) ok
  · have yes := of_decide_eq_true ok
    obtain ⟨s, rfl⟩ := toNat_lit (show 0 ≤ s by omega)
    obtain ⟨n, rfl⟩ := toNat_lit yes.2.2.1
    simp only [Int.toNat_natCast] at yes
    exact backYes n s (by omega) (by omega) (by omega) A p c l B q d l' W h h' (by omega) (by omega)
end Go.Proofs.Ytejogehkehjelaa
