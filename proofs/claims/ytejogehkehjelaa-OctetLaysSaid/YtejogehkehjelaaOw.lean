/- The statements' own wakes returns true. -/
import Derived.Test.YtejogehkehjelaaOo
import Derived.Test.YtejogehkehjelaaOq
import Derived.Test.YtejogehkehjelaaOh
namespace Go.Proofs.Ytejogehkehjelaa
open Go.RowKit Go.Shelf
set_option linter.unusedVariables false

instance : DecidablePred Bs := fun l => inferInstanceAs (Decidable (∀ x ∈ l, 0 ≤ x ∧ x ≤ 255))

theorem fOPutE {n s : Int} {l : List Int} {e' : Int} (hr : putO n s = l) (he : putOe n s = e') (n1 : n ≤ 9223372036854775807) (w : World) :
    Calls Try.prog 9 #[.int .i64 n, .int .i64 s] w fun e W' => ∃ A c, e = .returned (.tuple #[.slice A l.length c, .int .i64 e']) ∧ Mine w.heap.size W' A l.length c l ∧ Below w.heap.size w W' := by
  subst hr he
  refine (fOPut n s w n1).mono ?_
  rintro e W' ⟨⟨A, m, c, rfl, hm⟩, hb⟩
  have := hm.len
  subst this
  exact ⟨A, c, rfl, hm, hb⟩
theorem fOTakeE {A : Option Addr} {n c : Nat} {l : List Int} {a s v e' : Int} (hr : takeO l a s = (v, e')) (w : World) (a1 : a ≤ 9223372036854775807) (h : Byt w A n c l) :
    Calls Try.prog 11 #[.slice A n c, .int .i64 a, .int .i64 s] w (Ret (.tuple #[.int .i64 v, .int .i64 e']) w) := by
  have := fOTake A n c l a s w a1 h
  rwa [hr] at this
theorem fOStreamE {A : Option Addr} {n c : Nat} {l : List Int} {a v e' : Int} (hr : streamO l a = v) (he : (takeO l a 4).2 = e') (w : World) (a1 : a ≤ 9223372036854775807) (h : Byt w A n c l) :
    Calls Try.prog 13 #[.slice A n c, .int .i64 a] w (Ret (.tuple #[.int .i64 v, .int .i64 e']) w) := by
  subst hr he
  exact fOStream A n c l a w a1 h
theorem fOBitsE {A : Option Addr} {n c : Nat} {l : List Int} {a s v : Int} {k : Bool} (hr : valB l a s = v) (he : okB l a s = k) (w : World) (h : Byt w A n c l) (hm : n ≤ 100000000) (a1 : a ≤ 9223372036854775807) :
    Calls Try.prog 18 #[.slice A n c, .int .i64 a, .int .i64 s] w fun e W' => e = .returned (.tuple #[.int .i64 v, .bool k]) ∧ Below w.heap.size w W' := by
  subst hr he
  exact fOBits A n c l a s w h hm a1
theorem fOBitE {A : Option Addr} {n c : Nat} {l : List Int} {a v : Int} {k : Bool} (hr : valB l a 1 = v) (he : okB l a 1 = k) (w : World) (h : Byt w A n c l) (hm : n ≤ 100000000) (a1 : a ≤ 9223372036854775807) :
    Calls Try.prog 16 #[.slice A n c, .int .i64 a] w fun e W' => e = .returned (.tuple #[.int .i64 v, .bool k]) ∧ Below w.heap.size w W' := by
  subst hr he
  exact fOBit A n c l a w h hm a1
theorem fOLayE {A : Option Addr} {n c : Nat} {l : List Int} {used code many : Int} {l' : List Int} {v e' : Int} (hr : layO l used code many = l') (hv : layN l used code many = v) (he : layE l used code many = e') (w : World) (h : Byt w A n c l) (hn : n ≤ 90000000) (u1 : used ≤ 9223372036854775807) :
    Calls Try.prog 20 #[.slice A n c, .int .i64 used, .int .i64 code, .int .i64 many] w fun e W' => ∃ A c, e = .returned (.tuple #[.slice A l'.length c, .int .i64 v, .int .i64 e']) ∧ Mine w.heap.size W' A l'.length c l' ∧ Below w.heap.size w W' := by
  subst hr hv he
  refine (fOLay A n c l used code many w h hn u1).mono ?_
  rintro e W' ⟨⟨A, m, c, rfl, hm⟩, hb⟩
  have := hm.len
  subst this
  exact ⟨A, c, rfl, hm, hb⟩
theorem fOSameE {A : Option Addr} {n c : Nat} {l : List Int} {B : Option Addr} {m d : Nat} {l' : List Int} {b : Bool} (hr : eqB l l' = b) (w : World) (h : Byt w A n c l) (h' : Byt w B m d l') :
    Calls Try.prog 22 #[.slice A n c, .slice B m d] w (Ret (.bool b) w) := by
  subst hr
  exact fOSame A n c l B m d l' w h h'

set_option maxRecDepth 100000 in
set_option maxHeartbeats 8000000 in
theorem fWakes (W : World) : Calls Try.prog 8 #[] W fun e w' => e = .returned (.bool true) ∧ Below W.heap.size W w' := by
  have b0 := Bel.refl W
  go_enter Try.func8, Try.ntmps8
  go_wp2_with fail
  refine (fOPutE (show putO 258 3 = [0, 1, 2] by decide) (show putOe 258 3 = 0 by decide) (by decide) _).mono ?_
  rintro e w' ⟨A1, c1, rfl, m1, hb⟩
  replace b0 := Bel.step (W := W) (by repeat (first | exact b0 | refine Bel.alloc ?_ _)) hb
  go_wp2_with fail
  refine (fOTakeE (show takeO [9, 0, 1, 2] 1 3 = (258, 0) by decide) _ (by decide) (by repeat (first | exact Mine.byt (by assumption) | assumption | exact lit0 (by simp) | exact lit1 (by simp) (by decide) | exact lit2 (by simp) (by decide) | exact lit3 (by simp) (by decide) | exact lit4 (by simp) (by decide) | exact lit5 (by simp) (by decide) | exact lit6 (by simp) (by decide) | refine Byt.alloc ?_ _ | refine Byt.below ?_ (by assumption)))).mono ?_
  rintro e w' ⟨rfl, rfl⟩
  go_wp2_with fail
  refine (fOPutE (show putO 256 1 = [] by decide) (show putOe 256 1 = 2 by decide) (by decide) _).mono ?_
  rintro e w' ⟨A2, c2, rfl, m2, hb⟩
  replace b0 := Bel.step (W := W) (by repeat (first | exact b0 | refine Bel.alloc ?_ _)) hb
  go_wp2_with fail
  refine (fOTakeE (show takeO [] 0 1 = (0, 10) by decide) _ (by decide) (Byt.nil _)).mono ?_
  rintro e w' ⟨rfl, rfl⟩
  go_wp2_with fail
  refine (fOStreamE (show streamO [128, 0, 0, 7] 0 = 7 by decide) (show (takeO [128, 0, 0, 7] 0 4).2 = 0 by decide) _ (by decide) (by repeat (first | exact Mine.byt (by assumption) | assumption | exact lit0 (by simp) | exact lit1 (by simp) (by decide) | exact lit2 (by simp) (by decide) | exact lit3 (by simp) (by decide) | exact lit4 (by simp) (by decide) | exact lit5 (by simp) (by decide) | exact lit6 (by simp) (by decide) | refine Byt.alloc ?_ _ | refine Byt.below ?_ (by assumption)))).mono ?_
  rintro e w' ⟨rfl, rfl⟩
  go_wp2_with fail
  refine (fOBitsE (show valB [165] 1 3 = 2 by decide) (show okB [165] 1 3 = true by decide) _ (by repeat (first | exact Mine.byt (by assumption) | assumption | exact lit0 (by simp) | exact lit1 (by simp) (by decide) | exact lit2 (by simp) (by decide) | exact lit3 (by simp) (by decide) | exact lit4 (by simp) (by decide) | exact lit5 (by simp) (by decide) | exact lit6 (by simp) (by decide) | refine Byt.alloc ?_ _ | refine Byt.below ?_ (by assumption))) (by decide) (by decide)).mono ?_
  rintro e w' ⟨rfl, hb⟩
  replace b0 := Bel.step (W := W) (by repeat (first | exact b0 | refine Bel.alloc ?_ _)) hb
  go_wp2_with fail
  refine (fOBitE (show valB [165] 7 1 = 1 by decide) (show okB [165] 7 1 = true by decide) _ (by repeat (first | exact Mine.byt (by assumption) | assumption | exact lit0 (by simp) | exact lit1 (by simp) (by decide) | exact lit2 (by simp) (by decide) | exact lit3 (by simp) (by decide) | exact lit4 (by simp) (by decide) | exact lit5 (by simp) (by decide) | exact lit6 (by simp) (by decide) | refine Byt.alloc ?_ _ | refine Byt.below ?_ (by assumption))) (by decide) (by decide)).mono ?_
  rintro e w' ⟨rfl, hb⟩
  replace b0 := Bel.step (W := W) (by repeat (first | exact b0 | refine Bel.alloc ?_ _)) hb
  go_wp2_with fail
  refine (fOBitE (show valB [165] 8 1 = 0 by decide) (show okB [165] 8 1 = false by decide) _ (by repeat (first | exact Mine.byt (by assumption) | assumption | exact lit0 (by simp) | exact lit1 (by simp) (by decide) | exact lit2 (by simp) (by decide) | exact lit3 (by simp) (by decide) | exact lit4 (by simp) (by decide) | exact lit5 (by simp) (by decide) | exact lit6 (by simp) (by decide) | refine Byt.alloc ?_ _ | refine Byt.below ?_ (by assumption))) (by decide) (by decide)).mono ?_
  rintro e w' ⟨rfl, hb⟩
  replace b0 := Bel.step (W := W) (by repeat (first | exact b0 | refine Bel.alloc ?_ _)) hb
  go_wp2_with fail
  refine (fOLayE (show layO [] 0 5 3 = [160] by decide) (show layN [] 0 5 3 = 3 by decide) (show layE [] 0 5 3 = 0 by decide) _ (Byt.nil _) (by decide) (by decide)).mono ?_
  rintro e w' ⟨A3, c3, rfl, m3, hb⟩
  replace b0 := Bel.step (W := W) (by repeat (first | exact b0 | refine Bel.alloc ?_ _)) hb
  go_wp2_with fail
  refine (fOLayE (show layO [160] 3 1 7 = [160, 64] by decide) (show layN [160] 3 1 7 = 10 by decide) (show layE [160] 3 1 7 = 0 by decide) _ m3.byt (by decide) (by decide)).mono ?_
  rintro e w' ⟨A4, c4, rfl, m4, hb⟩
  replace b0 := Bel.step (W := W) (by repeat (first | exact b0 | refine Bel.alloc ?_ _)) hb
  go_wp2_with fail
  refine (fOLayE (show layO [] 0 4 2 = [] by decide) (show layN [] 0 4 2 = 0 by decide) (show layE [] 0 4 2 = 2 by decide) _ (Byt.nil _) (by decide) (by decide)).mono ?_
  rintro e w' ⟨A5, c5, rfl, m5, hb⟩
  replace b0 := Bel.step (W := W) (by repeat (first | exact b0 | refine Bel.alloc ?_ _)) hb
  go_wp2_with fail
  refine (fOSameE (show eqB [0, 1, 2] [0, 1, 2] = true by decide) _ (by repeat (first | exact Mine.byt (by assumption) | assumption | exact lit0 (by simp) | exact lit1 (by simp) (by decide) | exact lit2 (by simp) (by decide) | exact lit3 (by simp) (by decide) | exact lit4 (by simp) (by decide) | exact lit5 (by simp) (by decide) | exact lit6 (by simp) (by decide) | refine Byt.alloc ?_ _ | refine Byt.below ?_ (by assumption))) (by repeat (first | exact Mine.byt (by assumption) | assumption | exact lit0 (by simp) | exact lit1 (by simp) (by decide) | exact lit2 (by simp) (by decide) | exact lit3 (by simp) (by decide) | exact lit4 (by simp) (by decide) | exact lit5 (by simp) (by decide) | exact lit6 (by simp) (by decide) | refine Byt.alloc ?_ _ | refine Byt.below ?_ (by assumption)))).mono ?_
  rintro e w' ⟨rfl, rfl⟩
  go_wp2_with fail
  refine (fOSameE (show eqB [160] [160] = true by decide) _ (by repeat (first | exact Mine.byt (by assumption) | assumption | exact lit0 (by simp) | exact lit1 (by simp) (by decide) | exact lit2 (by simp) (by decide) | exact lit3 (by simp) (by decide) | exact lit4 (by simp) (by decide) | exact lit5 (by simp) (by decide) | exact lit6 (by simp) (by decide) | refine Byt.alloc ?_ _ | refine Byt.below ?_ (by assumption))) (by repeat (first | exact Mine.byt (by assumption) | assumption | exact lit0 (by simp) | exact lit1 (by simp) (by decide) | exact lit2 (by simp) (by decide) | exact lit3 (by simp) (by decide) | exact lit4 (by simp) (by decide) | exact lit5 (by simp) (by decide) | exact lit6 (by simp) (by decide) | refine Byt.alloc ?_ _ | refine Byt.below ?_ (by assumption)))).mono ?_
  rintro e w' ⟨rfl, rfl⟩
  go_wp2_with fail
  refine (fOSameE (show eqB [160, 64] [160, 64] = true by decide) _ (by repeat (first | exact Mine.byt (by assumption) | assumption | exact lit0 (by simp) | exact lit1 (by simp) (by decide) | exact lit2 (by simp) (by decide) | exact lit3 (by simp) (by decide) | exact lit4 (by simp) (by decide) | exact lit5 (by simp) (by decide) | exact lit6 (by simp) (by decide) | refine Byt.alloc ?_ _ | refine Byt.below ?_ (by assumption))) (by repeat (first | exact Mine.byt (by assumption) | assumption | exact lit0 (by simp) | exact lit1 (by simp) (by decide) | exact lit2 (by simp) (by decide) | exact lit3 (by simp) (by decide) | exact lit4 (by simp) (by decide) | exact lit5 (by simp) (by decide) | exact lit6 (by simp) (by decide) | refine Byt.alloc ?_ _ | refine Byt.below ?_ (by assumption)))).mono ?_
  rintro e w' ⟨rfl, rfl⟩
  go_wp2_with fail
  refine (fOSameE (show eqB [160] [160, 64] = false by decide) _ (by repeat (first | exact Mine.byt (by assumption) | assumption | exact lit0 (by simp) | exact lit1 (by simp) (by decide) | exact lit2 (by simp) (by decide) | exact lit3 (by simp) (by decide) | exact lit4 (by simp) (by decide) | exact lit5 (by simp) (by decide) | exact lit6 (by simp) (by decide) | refine Byt.alloc ?_ _ | refine Byt.below ?_ (by assumption))) (by repeat (first | exact Mine.byt (by assumption) | assumption | exact lit0 (by simp) | exact lit1 (by simp) (by decide) | exact lit2 (by simp) (by decide) | exact lit3 (by simp) (by decide) | exact lit4 (by simp) (by decide) | exact lit5 (by simp) (by decide) | exact lit6 (by simp) (by decide) | refine Byt.alloc ?_ _ | refine Byt.below ?_ (by assumption)))).mono ?_
  rintro e w' ⟨rfl, rfl⟩
  go_wp2_with fail
  go_ret
  exact ⟨rfl, ((by repeat (first | exact b0 | refine Bel.alloc ?_ _)) : Bel W _).out⟩
end Go.Proofs.Ytejogehkehjelaa
