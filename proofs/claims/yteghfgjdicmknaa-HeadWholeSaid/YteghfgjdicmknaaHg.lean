/- The statements' own wakes returns true. -/
import Derived.Test.YteghfgjdicmknaaHo
import Derived.Test.YteghfgjdicmknaaHk
import Derived.Test.YteghfgjdicmknaaHx
import Derived.Test.YteghfgjdicmknaaHs
namespace Go.Proofs.Yteghfgjdicmknaa
open Go.RowKit Go.Shelf
set_option linter.unusedVariables false

theorem fHRightE {L k f s : Int} {b : Bool} (hr : okH L s = b) (w : World) (L0 : -9223372036854775808 ≤ L) (L1 : L ≤ 9223372036854775807) (s0 : -9223372036854775808 ≤ s) (s1 : s ≤ 9223372036854775807) :
    Calls Try.prog 15 #[.agg #[.int .i64 L, .int .u8 k, .int .u8 f, .int .i64 s]] w (BoolP b w) := by subst hr; exact fHRight L k f s w L0 L1 s0 s1
theorem fHasE {L k f s flag : Int} {b : Bool} (hr : hasB f flag = b) (w : World) (f0 : 0 ≤ f) (f1 : f ≤ 255) (g0 : 0 ≤ flag) (g1 : flag ≤ 255) :
    Calls Try.prog 17 #[.agg #[.int .i64 L, .int .u8 k, .int .u8 f, .int .i64 s], .int .u8 flag] w (BoolP b w) := by subst hr; exact fHas L k f s flag w f0 f1 g0 g1
theorem fKnownE {x : Int} {b : Bool} (hr : knownB x = b) (w : World) : Calls Try.prog 19 #[.int .u8 x] w (BoolP b w) := by subst hr; exact fKnown x w

instance : DecidablePred Bs := fun l => inferInstanceAs (Decidable (∀ x ∈ l, 0 ≤ x ∧ x ≤ 255))

theorem fHPutE {L k f s : Int} {l : List Int} {e' : Int} {n' : Nat} (hl : l.length = n') (hr : putH L k f s = l) (he : putHe L s = e') (w : World) (L0 : -9223372036854775808 ≤ L) (L1 : L ≤ 9223372036854775807) (s0 : -9223372036854775808 ≤ s) (s1 : s ≤ 9223372036854775807) (k0 : 0 ≤ k ∧ k ≤ 255) (f0 : 0 ≤ f ∧ f ≤ 255) :
    Calls Try.prog 8 #[.agg #[.int .i64 L, .int .u8 k, .int .u8 f, .int .i64 s]] w fun e W' => ∃ A c, e = .returned (.tuple #[.slice A n' c, .int .i64 e']) ∧ Mine w.heap.size W' A n' c l ∧ Below w.heap.size w W' := by
  subst hr he hl
  refine (fHPut L k f s w L0 L1 s0 s1 k0 f0).mono ?_
  rintro e W' ⟨⟨A, m, c, rfl, hm⟩, hb⟩
  have := hm.len
  subst this
  exact ⟨A, c, rfl, hm, hb⟩
theorem fHTakeE {A : Option Addr} {n c : Nat} {l : List Int} {L k f s : Int} {R : List Int} {E : Int} {n' : Nat} (hl : R.length = n') (hr : (hL l, hK l, hF l, hS l, hR l, hE l) = (L, k, f, s, R, E)) (w : World) (h : Byt w A n c l) (hn2 : n ≤ 140737488355328) :
    Calls Try.prog 10 #[.slice A n c] w fun e W' => ∃ A c, e = .returned (.tuple #[.agg #[.int .i64 L, .int .u8 k, .int .u8 f, .int .i64 s], .slice A n' c, .int .i64 E]) ∧ Mine w.heap.size W' A n' c R ∧ Below w.heap.size w W' := by
  subst hl
  simp only [Prod.mk.injEq] at hr
  obtain ⟨rfl, rfl, rfl, rfl, rfl, rfl⟩ := hr
  refine (fHTake A n c l w h hn2).mono ?_
  rintro e W' ⟨⟨A, m, c, rfl, hm⟩, hb⟩
  have := hm.len
  subst this
  exact ⟨A, c, rfl, hm, hb⟩
theorem fHWholeE {A : Option Addr} {n c : Nat} {l : List Int} {L k f s : Int} {P R : List Int} {E : Int} {n' m' : Nat} (hl : P.length = n') (hl' : R.length = m') (hr : (hL l, hK l, hF l, hS l, wP l, wR l, wE l) = (L, k, f, s, P, R, E)) (w : World) (h : Byt w A n c l) (hn2 : n ≤ 140737488355328) :
    Calls Try.prog 13 #[.slice A n c] w fun e W' => ∃ A c B d, e = .returned (.tuple #[.agg #[.int .i64 L, .int .u8 k, .int .u8 f, .int .i64 s], .slice A n' c, .slice B m' d, .int .i64 E]) ∧ Mine w.heap.size W' A n' c P ∧ Mine w.heap.size W' B m' d R ∧ Below w.heap.size w W' := by
  subst hl hl'
  simp only [Prod.mk.injEq] at hr
  obtain ⟨rfl, rfl, rfl, rfl, rfl, rfl, rfl⟩ := hr
  refine (fHWhole A n c l w h hn2).mono ?_
  rintro e W' ⟨⟨A, m, c, B, k, d, rfl, hm, hm'⟩, hb⟩
  have := hm.len
  subst this
  have := hm'.len
  subst this
  exact ⟨A, c, B, d, rfl, hm, hm', hb⟩
theorem fSameE {A : Option Addr} {n c : Nat} {l : List Int} {B : Option Addr} {m d : Nat} {l' : List Int} {b : Bool} (hr : eqB l l' = b) (w : World) (h : Byt w A n c l) (h' : Byt w B m d l') :
    Calls Try.prog 12 #[.slice A n c, .slice B m d] w (Ret (.bool b) w) := by
  subst hr
  exact fSame A n c l B m d l' w h h'

theorem lit9 {w : World} {g : Nat} {x1 x2 x3 x4 x5 x6 x7 x8 x9 : Int} (hg : w.heap.size = g) (h : Bs [x1, x2, x3, x4, x5, x6, x7, x8, x9]) : Byt (w.alloc (.cells #[.int .u8 x1, .int .u8 x2, .int .u8 x3, .int .u8 x4, .int .u8 x5, .int .u8 x6, .int .u8 x7, .int .u8 x8, .int .u8 x9] 5)) (some ⟨g, 0, none⟩) 9 9 [x1, x2, x3, x4, x5, x6, x7, x8, x9] := by
  subst hg
  exact (Mine.lit (base := 0) w _ (Nat.zero_le _) h (by simp) 9 rfl).byt
theorem Bel.stepB {W wa wb : World} (h : Bel W wa) {B : Nat} (k : Below B wa wb) (hB : W.heap.size ≤ B) : Bel W wb := ⟨h.out.trans (k.mono hB)⟩

set_option maxRecDepth 100000 in
set_option maxHeartbeats 8000000 in
theorem fWakes (W : World) : Calls Try.prog 7 #[] W fun e w' => e = .returned (.bool true) ∧ Below W.heap.size W w' := by
  have b0 := Bel.refl W
  go_enter Try.func7, Try.ntmps7
  go_wp2_with fail
  refine (fHPutE (n' := 9) rfl (show putH 5 0 1 3 = [0, 0, 5, 0, 1, 0, 0, 0, 3] by decide) (show putHe 5 3 = 0 by decide) _ (by decide) (by decide) (by decide) (by decide) (by decide) (by decide)).mono ?_
  rintro e w1 ⟨A1, c1, rfl, m1, hb⟩
  replace b0 := Bel.step (W := W) (by repeat (first | exact b0 | refine Bel.alloc ?_ _)) hb
  have s1 := b0.out.size
  go_wp2_with (first
    | (at_builtin; refine wpList_copy w1 rfl (.tmp 25) (.tmp 26) rfl rfl (by rfl) A1 9 c1 [0, 0, 5, 0, 1, 0, 0, 0, 3] rfl m1.byt (by decide) ?_; intro A2 c2 w2 m2 hb2; replace b0 := b0.step hb2)
    | (at_builtin; refine wpList_app1 w2 rfl (.tmp 27) (.tmp 28) rfl w1.heap.size A2 9 c2 [0, 0, 5, 0, 1, 0, 0, 0, 3] rfl m2 7 rfl (by rfl) (by decide) (by decide) hb2.size ?_; intro A3 c3 w3 m3 hb3 _; replace b0 := b0.stepB hb3 s1))
  refine (fHTakeE (n' := 1) rfl (show (hL [0, 0, 5, 0, 1, 0, 0, 0, 3, 7], hK [0, 0, 5, 0, 1, 0, 0, 0, 3, 7], hF [0, 0, 5, 0, 1, 0, 0, 0, 3, 7], hS [0, 0, 5, 0, 1, 0, 0, 0, 3, 7], hR [0, 0, 5, 0, 1, 0, 0, 0, 3, 7], hE [0, 0, 5, 0, 1, 0, 0, 0, 3, 7]) = (5, 0, 1, 3, [7], 0) by decide) _ m3.byt (by decide)).mono ?_
  rintro e w4 ⟨A4, c4, rfl, m4, hb⟩
  replace b0 := Bel.step (W := W) (by repeat (first | exact b0 | refine Bel.alloc ?_ _)) hb
  have q4 := Blk4.new w4 23 (.int .i64 5) (.int .u8 0) (.int .u8 1) (.int .i64 3)
  have y1 := (m1.byt.below (hb2.trans hb3)).below hb
  have y4 := m4.byt
  have k1 : (8 : Int) ≤ (c1 : Int) := by have := m1.byt.cap; omega
  go_wp2_with fail
  refine (fHTakeE (n' := 0) rfl (show (hL [0, 0, 5, 0, 1, 0, 0, 0], hK [0, 0, 5, 0, 1, 0, 0, 0], hF [0, 0, 5, 0, 1, 0, 0, 0], hS [0, 0, 5, 0, 1, 0, 0, 0], hR [0, 0, 5, 0, 1, 0, 0, 0], hE [0, 0, 5, 0, 1, 0, 0, 0]) = (0, 0, 0, 0, [], 10) by decide) _ ((y1.alloc _).init (k := 8) (by decide)) (by decide)).mono ?_
  rintro e w5 ⟨A5, c5, rfl, m5, hb⟩
  replace b0 := Bel.step (W := W) (by repeat (first | exact b0 | refine Bel.alloc ?_ _)) hb
  replace q4 := q4.below hb
  replace y1 := (y1.alloc _).below hb
  replace y4 := (y4.alloc _).below hb
  have s5 := b0.out.size
  have q5 := (Bel.refl w5).alloc (.cells #[.int .i64 0, .int .u8 0, .int .u8 0, .int .i64 0] 23)
  go_wp2_with (first
    | (at_builtin; refine wpList_copy (w5.alloc (.cells #[.int .i64 0, .int .u8 0, .int .u8 0, .int .i64 0] 23)) rfl (.tmp 45) (.tmp 46) rfl rfl (by simp) A1 9 c1 [0, 0, 5, 0, 1, 0, 0, 0, 3] rfl (y1.alloc _) (by decide) ?_; intro A6 c6 w6 m6 hb6)
    | (at_builtin; go_must (refine wpList_app _ rfl (.tmp 47) (.tmp 48) rfl (w5.alloc (.cells #[.int .i64 0, .int .u8 0, .int .u8 0, .int .i64 0] 23)).heap.size A6 9 c6 [0, 0, 5, 0, 1, 0, 0, 0, 3] rfl (m6.alloc _) (some ⟨w6.heap.size, 0, none⟩) 6 6 [1, 2, 3, 4, 5, 6] rfl (lit6 rfl (by decide)) (by decide) (by have := hb6.size; simp at this ⊢; omega) ?_); intro A7 c7 w7 m7 hb7 _ _))
  have hb67 := hb6.trans (((Below.refl _ w6).alloc hb6.size (.cells #[.int .u8 1, .int .u8 2, .int .u8 3, .int .u8 4, .int .u8 5, .int .u8 6] 5)).trans hb7)
  replace b0 := (b0.alloc (.cells #[.int .i64 0, .int .u8 0, .int .u8 0, .int .i64 0] 23)).step hb67
  replace q4 := (q4.alloc (.cells #[.int .i64 0, .int .u8 0, .int .u8 0, .int .i64 0] 23)).below hb67
  replace y1 := (y1.alloc (.cells #[.int .i64 0, .int .u8 0, .int .u8 0, .int .i64 0] 23)).below hb67
  replace y4 := (y4.alloc (.cells #[.int .i64 0, .int .u8 0, .int .u8 0, .int .i64 0] 23)).below hb67
  clear hb6 hb7 hb67 m6
  refine (fHWholeE (n' := 5) (m' := 1) rfl rfl (show (hL [0, 0, 5, 0, 1, 0, 0, 0, 3, 1, 2, 3, 4, 5, 6], hK [0, 0, 5, 0, 1, 0, 0, 0, 3, 1, 2, 3, 4, 5, 6], hF [0, 0, 5, 0, 1, 0, 0, 0, 3, 1, 2, 3, 4, 5, 6], hS [0, 0, 5, 0, 1, 0, 0, 0, 3, 1, 2, 3, 4, 5, 6], wP [0, 0, 5, 0, 1, 0, 0, 0, 3, 1, 2, 3, 4, 5, 6], wR [0, 0, 5, 0, 1, 0, 0, 0, 3, 1, 2, 3, 4, 5, 6], wE [0, 0, 5, 0, 1, 0, 0, 0, 3, 1, 2, 3, 4, 5, 6]) = (5, 0, 1, 3, [1, 2, 3, 4, 5], [6], 0) by decide) _ m7.byt (by decide)).mono ?_
  rintro e w8 ⟨A8, c8, B8, d8, rfl, m8, m8', hb⟩
  replace b0 := b0.step hb
  replace q4 := q4.below hb
  replace y1 := y1.below hb
  replace y4 := y4.below hb
  have y8 := m8.byt
  have y8' := m8'.byt
  go_wp2_with fail
  refine (fHWholeE (n' := 0) (m' := 0) rfl rfl (show (hL [0, 0, 5, 0, 1, 0, 0, 0, 3], hK [0, 0, 5, 0, 1, 0, 0, 0, 3], hF [0, 0, 5, 0, 1, 0, 0, 0, 3], hS [0, 0, 5, 0, 1, 0, 0, 0, 3], wP [0, 0, 5, 0, 1, 0, 0, 0, 3], wR [0, 0, 5, 0, 1, 0, 0, 0, 3], wE [0, 0, 5, 0, 1, 0, 0, 0, 3]) = (5, 0, 1, 3, [], [], 10) by decide) _ (y1.alloc _) (by decide)).mono ?_
  rintro e w9 ⟨A9, c9, B9, d9, rfl, m9, m9', hb⟩
  replace b0 := (b0.alloc _).step hb
  replace q4 := (q4.alloc _).below hb
  replace y1 := (y1.alloc _).below hb
  replace y4 := (y4.alloc _).below hb
  replace y8 := (y8.alloc _).below hb
  replace y8' := (y8'.alloc _).below hb
  have q9 := Blk4.new w9 23 (.int .i64 5) (.int .u8 0) (.int .u8 1) (.int .i64 3)
  go_wp2_with fail
  refine (fHPutE (n' := 0) rfl (show putH 16777216 0 0 0 = [] by decide) (show putHe 16777216 0 = 2 by decide) _ (by decide) (by decide) (by decide) (by decide) (by decide) (by decide)).mono ?_
  rintro e w10 ⟨A10, c10, rfl, m10, hb⟩
  replace b0 := (b0.alloc _).step hb
  replace q4 := (q4.alloc _).below hb
  replace q9 := q9.below hb
  replace y1 := (y1.alloc _).below hb
  replace y4 := (y4.alloc _).below hb
  replace y8 := (y8.alloc _).below hb
  replace y8' := (y8'.alloc _).below hb
  go_wp2_with fail
  refine (fSameE (show eqB [0, 0, 5, 0, 1, 0, 0, 0, 3] [0, 0, 5, 0, 1, 0, 0, 0, 3] = true by decide) _ (y1.alloc _) (lit9 (by simp) (by decide))).mono ?_
  rintro e w' ⟨rfl, rfl⟩
  replace b0 := b0.alloc (.cells #[.int .u8 0, .int .u8 0, .int .u8 5, .int .u8 0, .int .u8 1, .int .u8 0, .int .u8 0, .int .u8 0, .int .u8 3] 5)
  replace q4 := q4.alloc (.cells #[.int .u8 0, .int .u8 0, .int .u8 5, .int .u8 0, .int .u8 1, .int .u8 0, .int .u8 0, .int .u8 0, .int .u8 3] 5)
  replace q9 := q9.alloc (.cells #[.int .u8 0, .int .u8 0, .int .u8 5, .int .u8 0, .int .u8 1, .int .u8 0, .int .u8 0, .int .u8 0, .int .u8 3] 5)
  replace y4 := y4.alloc (.cells #[.int .u8 0, .int .u8 0, .int .u8 5, .int .u8 0, .int .u8 1, .int .u8 0, .int .u8 0, .int .u8 0, .int .u8 3] 5)
  replace y8 := y8.alloc (.cells #[.int .u8 0, .int .u8 0, .int .u8 5, .int .u8 0, .int .u8 1, .int .u8 0, .int .u8 0, .int .u8 0, .int .u8 3] 5)
  replace y8' := y8'.alloc (.cells #[.int .u8 0, .int .u8 0, .int .u8 5, .int .u8 0, .int .u8 1, .int .u8 0, .int .u8 0, .int .u8 0, .int .u8 3] 5)
  obtain ⟨z0, z1, z2, z3⟩ := q4.cells
  go_wp2_with fail
  refine (fSameE (show eqB [7] [7] = true by decide) _ (y4.alloc _) (lit1 (by simp) (by decide))).mono ?_
  rintro e w' ⟨rfl, rfl⟩
  clear z0 z1 z2 z3
  replace b0 := b0.alloc (.cells #[.int .u8 7] 5)
  replace q4 := q4.alloc (.cells #[.int .u8 7] 5)
  replace q9 := q9.alloc (.cells #[.int .u8 7] 5)
  replace y8 := y8.alloc (.cells #[.int .u8 7] 5)
  replace y8' := y8'.alloc (.cells #[.int .u8 7] 5)
  go_wp2_with fail
  refine (fSameE (show eqB [1, 2, 3, 4, 5] [1, 2, 3, 4, 5] = true by decide) _ (y8.alloc _) (lit5 (by simp) (by decide))).mono ?_
  rintro e w' ⟨rfl, rfl⟩
  replace b0 := b0.alloc (.cells #[.int .u8 1, .int .u8 2, .int .u8 3, .int .u8 4, .int .u8 5] 5)
  replace q4 := q4.alloc (.cells #[.int .u8 1, .int .u8 2, .int .u8 3, .int .u8 4, .int .u8 5] 5)
  replace q9 := q9.alloc (.cells #[.int .u8 1, .int .u8 2, .int .u8 3, .int .u8 4, .int .u8 5] 5)
  replace y8' := y8'.alloc (.cells #[.int .u8 1, .int .u8 2, .int .u8 3, .int .u8 4, .int .u8 5] 5)
  go_wp2_with fail
  refine (fSameE (show eqB [6] [6] = true by decide) _ (y8'.alloc _) (lit1 (by simp) (by decide))).mono ?_
  rintro e w' ⟨rfl, rfl⟩
  replace b0 := b0.alloc (.cells #[.int .u8 6] 5)
  replace q4 := q4.alloc (.cells #[.int .u8 6] 5)
  replace q9 := q9.alloc (.cells #[.int .u8 6] 5)
  obtain ⟨z0, z1, z2, z3⟩ := q4.cells
  obtain ⟨x0, x1, x2, x3⟩ := q9.cells
  go_wp2_with fail
  refine (fHRightE (show okH 5 3 = true by decide) _ (by decide) (by decide) (by decide) (by decide)).mono ?_
  rintro e w11 ⟨rfl, hb⟩
  replace b0 := b0.step hb
  replace q4 := q4.below hb
  clear z0 z1 z2 z3 x0 x1 x2 x3
  obtain ⟨z0, z1, z2, z3⟩ := q4.cells
  go_wp2_with fail
  refine (fHasE (show hasB 1 1 = true by decide) _ (by decide) (by decide) (by decide) (by decide)).mono ?_
  rintro e w12 ⟨rfl, hb⟩
  replace b0 := b0.step hb
  replace q4 := q4.below hb
  clear z0 z1 z2 z3
  obtain ⟨z0, z1, z2, z3⟩ := q4.cells
  go_wp2_with fail
  refine (fHasE (show hasB 1 9 = false by decide) _ (by decide) (by decide) (by decide) (by decide)).mono ?_
  rintro e w13 ⟨rfl, hb⟩
  replace b0 := b0.step hb
  go_wp2_with fail
  refine (fKnownE (show knownB 16 = true by decide) _).mono ?_
  rintro e w14 ⟨rfl, hb⟩
  replace b0 := b0.step hb
  go_wp2_with fail
  refine (fKnownE (show knownB 10 = false by decide) _).mono ?_
  rintro e w15 ⟨rfl, hb⟩
  replace b0 := b0.step hb
  go_wp2_with fail
  go_ret
  exact ⟨rfl, b0.out⟩
end Go.Proofs.Yteghfgjdicmknaa
