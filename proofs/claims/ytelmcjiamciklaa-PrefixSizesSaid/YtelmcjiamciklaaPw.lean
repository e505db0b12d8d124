/- The statements' own wakes returns true. -/
import Derived.Test.YtelmcjiamciklaaPv
namespace Go.Proofs.Ytelmcjiamciklaa
open Go.RowKit Go.Shelf
set_option linter.unusedVariables false

instance : DecidablePred Bs := fun l => inferInstanceAs (Decidable (∀ x ∈ l, 0 ≤ x ∧ x ≤ 255))

theorem fPutE {n b u : Int} {l : List Int} {e' : Int} (hr : putR n b u = l) (he : putE n b = e') (n0 : -9223372036854775808 ≤ n) (n1 : n ≤ 9223372036854775807) (u0 : 0 ≤ u) (u1 : u ≤ 255) (w : World) :
    Calls Try.prog 8 #[.int .i64 n, .int .i64 b, .int .u8 u] w fun e W' => ∃ A c, e = .returned (.tuple #[.slice A l.length c, .int .i64 e']) ∧ Mine w.heap.size W' A l.length c l ∧ Below w.heap.size w W' := by
  subst hr he
  exact fPut n b u n0 n1 u0 u1 w
theorem fTakeE {A : Option Addr} {n c : Nat} {l : List Int} {b v e' : Int} {l' : List Int} (hr : takeR l b = (v, l', e')) (w : World) (h : Byt w A n c l) (hn : n ≤ 140737488355328) :
    Calls Try.prog 10 #[.slice A n c, .int .i64 b] w fun e W' => ∃ A c, e = .returned (.tuple #[.int .i64 v, .slice A l'.length c, .int .i64 e']) ∧ Mine w.heap.size W' A l'.length c l' ∧ Below w.heap.size w W' := by
  refine (fTake A n c l b w h hn).mono fun e W' hp => ?_
  rw [hr] at hp
  exact hp
theorem fUpperE {A : Option Addr} {n c : Nat} {l : List Int} {b v e' : Int} (hr : upperR l b = (v, e')) (w : World) (h : Byt w A n c l) :
    Calls Try.prog 12 #[.slice A n c, .int .i64 b] w fun e W' => e = .returned (.tuple #[.int .u8 v, .int .i64 e']) ∧ Below w.heap.size w W' := by
  refine (fUpper A n c l b w h).mono fun e W' hp => ?_
  rw [hr] at hp
  exact hp
theorem fSizeE {n b : Int} {k : Int} (hr : ((putR n b 0).length : Int) = k) (n0 : -9223372036854775808 ≤ n) (n1 : n ≤ 9223372036854775807) (w : World) :
    Calls Try.prog 15 #[.int .i64 n, .int .i64 b] w fun e W' => e = .returned (.int .i64 k) ∧ Below w.heap.size w W' := by
  subst hr
  exact fSize n b n0 n1 w
theorem fSameT (A : Option Addr) (n c : Nat) (l : List Int) (B : Option Addr) (m d : Nat) (w : World) (h : Byt w A n c l) (h' : Byt w B m d l) :
    Calls Try.prog 14 #[.slice A n c, .slice B m d] w (Ret (.bool true) w) := by
  refine (fSame A n c l B m d l w h h').mono fun e W' hp => ?_
  rwa [show eqB l l = true by unfold eqB; simp] at hp

theorem p1 : putR 10 5 255 = [234] := by decide
theorem p2 : putR 1337 5 0 = [31, 154, 10] := by
  show putL 1337 5 0 = _
  unfold putL
  rw [if_neg (by decide), septs_ge (by decide), septs_lt (by decide)]
  rfl
theorem p3 : putR 42 8 0 = [42] := by decide
theorem p4 : putR 1 9 0 = [] := by decide
theorem p5 : ((putR 1337 5 0).length : Int) = 3 := by rw [p2]; rfl
theorem p6 : ((putR (-1) 5 0).length : Int) = 0 := by decide
theorem t1 : takeR [255, 154, 10, 7] 5 = (1337, [7], 0) := by decide
theorem t2 : takeR [31, 154] 5 = (0, [], 10) := by decide
theorem t3 : takeR [31, 255, 255, 255, 255, 255, 0] 5 = (0, [], 60) := by decide
theorem t4 : takeR [31, 128, 128, 0] 5 = (31, [], 0) := by decide
theorem u1 : upperR [234] 5 = (224, 0) := by decide

set_option maxRecDepth 100000 in
set_option maxHeartbeats 8000000 in
theorem fWakes (W : World) : Calls Try.prog 7 #[] W fun e w' => e = .returned (.bool true) ∧ Below W.heap.size W w' := by
  have b0 := Bel.refl W
  go_enter Try.func7, Try.ntmps7
  go_wp2_with fail
  refine (fPutE p1 (show putE 10 5 = 0 by decide) (by decide) (by decide) (by decide) (by decide) _).mono ?_
  rintro e w' ⟨A, c, rfl, hm, hb⟩
  replace b0 := Bel.step (W := W) (by repeat (first | exact b0 | refine Bel.alloc ?_ _)) hb
  go_wp2_with fail
  refine (fPutE p2 (show putE 1337 5 = 0 by decide) (by decide) (by decide) (by decide) (by decide) _).mono ?_
  rintro e w' ⟨A, c, rfl, hm, hb⟩
  replace b0 := Bel.step (W := W) (by repeat (first | exact b0 | refine Bel.alloc ?_ _)) hb
  go_wp2_with fail
  refine (fPutE p3 (show putE 42 8 = 0 by decide) (by decide) (by decide) (by decide) (by decide) _).mono ?_
  rintro e w' ⟨A, c, rfl, hm, hb⟩
  replace b0 := Bel.step (W := W) (by repeat (first | exact b0 | refine Bel.alloc ?_ _)) hb
  go_wp2_with fail
  refine (fPutE p4 (show putE 1 9 = 2 by decide) (by decide) (by decide) (by decide) (by decide) _).mono ?_
  rintro e w' ⟨A, c, rfl, hm, hb⟩
  replace b0 := Bel.step (W := W) (by repeat (first | exact b0 | refine Bel.alloc ?_ _)) hb
  go_wp2_with fail
  refine (fTakeE t1 _ (by repeat (first | exact Mine.byt (by assumption) | assumption | exact lit1 (by simp) (by decide) | exact lit2 (by simp) (by decide) | exact lit3 (by simp) (by decide) | exact lit4 (by simp) (by decide) | exact lit7 (by simp) (by decide) | refine Byt.alloc ?_ _ | refine Byt.below ?_ (by assumption))) (by decide)).mono ?_
  rintro e w' ⟨A, c, rfl, hm, hb⟩
  replace b0 := Bel.step (W := W) (by repeat (first | exact b0 | refine Bel.alloc ?_ _)) hb
  go_wp2_with fail
  refine (fTakeE t2 _ (by repeat (first | exact Mine.byt (by assumption) | assumption | exact lit1 (by simp) (by decide) | exact lit2 (by simp) (by decide) | exact lit3 (by simp) (by decide) | exact lit4 (by simp) (by decide) | exact lit7 (by simp) (by decide) | refine Byt.alloc ?_ _ | refine Byt.below ?_ (by assumption))) (by decide)).mono ?_
  rintro e w' ⟨A, c, rfl, hm, hb⟩
  replace b0 := Bel.step (W := W) (by repeat (first | exact b0 | refine Bel.alloc ?_ _)) hb
  go_wp2_with fail
  refine (fTakeE t3 _ (by repeat (first | exact Mine.byt (by assumption) | assumption | exact lit1 (by simp) (by decide) | exact lit2 (by simp) (by decide) | exact lit3 (by simp) (by decide) | exact lit4 (by simp) (by decide) | exact lit7 (by simp) (by decide) | refine Byt.alloc ?_ _ | refine Byt.below ?_ (by assumption))) (by decide)).mono ?_
  rintro e w' ⟨A, c, rfl, hm, hb⟩
  replace b0 := Bel.step (W := W) (by repeat (first | exact b0 | refine Bel.alloc ?_ _)) hb
  go_wp2_with fail
  refine (fUpperE u1 _ (by repeat (first | exact Mine.byt (by assumption) | assumption | exact lit1 (by simp) (by decide) | exact lit2 (by simp) (by decide) | exact lit3 (by simp) (by decide) | exact lit4 (by simp) (by decide) | exact lit7 (by simp) (by decide) | refine Byt.alloc ?_ _ | refine Byt.below ?_ (by assumption)))).mono ?_
  rintro e w' ⟨rfl, hb⟩
  replace b0 := Bel.step (W := W) (by repeat (first | exact b0 | refine Bel.alloc ?_ _)) hb
  go_wp2_with fail
  refine (fTakeE t4 _ (by repeat (first | exact Mine.byt (by assumption) | assumption | exact lit1 (by simp) (by decide) | exact lit2 (by simp) (by decide) | exact lit3 (by simp) (by decide) | exact lit4 (by simp) (by decide) | exact lit7 (by simp) (by decide) | refine Byt.alloc ?_ _ | refine Byt.below ?_ (by assumption))) (by decide)).mono ?_
  rintro e w' ⟨A, c, rfl, hm, hb⟩
  replace b0 := Bel.step (W := W) (by repeat (first | exact b0 | refine Bel.alloc ?_ _)) hb
  go_wp2_with fail
  refine (fSameT _ _ _ [234] _ _ _ _ (by repeat (first | exact Mine.byt (by assumption) | assumption | exact lit1 (by simp) (by decide) | exact lit2 (by simp) (by decide) | exact lit3 (by simp) (by decide) | exact lit4 (by simp) (by decide) | exact lit7 (by simp) (by decide) | refine Byt.alloc ?_ _ | refine Byt.below ?_ (by assumption))) (by repeat (first | exact Mine.byt (by assumption) | assumption | exact lit1 (by simp) (by decide) | exact lit2 (by simp) (by decide) | exact lit3 (by simp) (by decide) | exact lit4 (by simp) (by decide) | exact lit7 (by simp) (by decide) | refine Byt.alloc ?_ _ | refine Byt.below ?_ (by assumption)))).mono ?_
  rintro e w' ⟨rfl, rfl⟩
  go_wp2_with fail
  refine (fSameT _ _ _ [31, 154, 10] _ _ _ _ (by repeat (first | exact Mine.byt (by assumption) | assumption | exact lit1 (by simp) (by decide) | exact lit2 (by simp) (by decide) | exact lit3 (by simp) (by decide) | exact lit4 (by simp) (by decide) | exact lit7 (by simp) (by decide) | refine Byt.alloc ?_ _ | refine Byt.below ?_ (by assumption))) (by repeat (first | exact Mine.byt (by assumption) | assumption | exact lit1 (by simp) (by decide) | exact lit2 (by simp) (by decide) | exact lit3 (by simp) (by decide) | exact lit4 (by simp) (by decide) | exact lit7 (by simp) (by decide) | refine Byt.alloc ?_ _ | refine Byt.below ?_ (by assumption)))).mono ?_
  rintro e w' ⟨rfl, rfl⟩
  go_wp2_with fail
  refine (fSameT _ _ _ [42] _ _ _ _ (by repeat (first | exact Mine.byt (by assumption) | assumption | exact lit1 (by simp) (by decide) | exact lit2 (by simp) (by decide) | exact lit3 (by simp) (by decide) | exact lit4 (by simp) (by decide) | exact lit7 (by simp) (by decide) | refine Byt.alloc ?_ _ | refine Byt.below ?_ (by assumption))) (by repeat (first | exact Mine.byt (by assumption) | assumption | exact lit1 (by simp) (by decide) | exact lit2 (by simp) (by decide) | exact lit3 (by simp) (by decide) | exact lit4 (by simp) (by decide) | exact lit7 (by simp) (by decide) | refine Byt.alloc ?_ _ | refine Byt.below ?_ (by assumption)))).mono ?_
  rintro e w' ⟨rfl, rfl⟩
  go_wp2_with fail
  refine (fSameT _ _ _ [7] _ _ _ _ (by repeat (first | exact Mine.byt (by assumption) | assumption | exact lit1 (by simp) (by decide) | exact lit2 (by simp) (by decide) | exact lit3 (by simp) (by decide) | exact lit4 (by simp) (by decide) | exact lit7 (by simp) (by decide) | refine Byt.alloc ?_ _ | refine Byt.below ?_ (by assumption))) (by repeat (first | exact Mine.byt (by assumption) | assumption | exact lit1 (by simp) (by decide) | exact lit2 (by simp) (by decide) | exact lit3 (by simp) (by decide) | exact lit4 (by simp) (by decide) | exact lit7 (by simp) (by decide) | refine Byt.alloc ?_ _ | refine Byt.below ?_ (by assumption)))).mono ?_
  rintro e w' ⟨rfl, rfl⟩
  go_wp2_with fail
  refine (fSizeE p5 (by decide) (by decide) _).mono ?_
  rintro e w' ⟨rfl, hb⟩
  replace b0 := Bel.step (W := W) (by repeat (first | exact b0 | refine Bel.alloc ?_ _)) hb
  go_wp2_with fail
  refine (fSizeE p6 (by decide) (by decide) _).mono ?_
  rintro e w' ⟨rfl, hb⟩
  replace b0 := Bel.step (W := W) (by repeat (first | exact b0 | refine Bel.alloc ?_ _)) hb
  go_wp2_with fail
  go_ret
  exact ⟨rfl, (by repeat (first | exact b0 | refine Bel.alloc ?_ _) : Bel W _).out⟩
end Go.Proofs.Ytelmcjiamciklaa
