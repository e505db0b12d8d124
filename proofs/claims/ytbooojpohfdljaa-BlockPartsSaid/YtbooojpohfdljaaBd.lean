/- The contract of the document's Take. -/
import Derived.Test.YtbooojpohfdljaaBra
import Derived.Test.YtbooojpohfdljaaBrb
import Derived.Test.YtbooojpohfdljaaBrc
import Derived.Test.YtbooojpohfdljaaBrd
import Derived.Test.YtbooojpohfdljaaBre
import Derived.Test.YtbooojpohfdljaaBrf
import Derived.Test.YtbooojpohfdljaaBrg
import Derived.Test.YtbooojpohfdljaaBrh
import Derived.Test.YtbooojpohfdljaaBri
import Derived.Test.YtbooojpohfdljaaBits
namespace Go.Proofs.Ytbooojpohfdljaa
open Go.RowKit Go.Shelf
set_option linter.unusedVariables false

theorem tmod2 (F : Int) (f0 : 0 ≤ F) : (F.tmod 2 == 1) = decide (F % 2 = 1) := by
  rw [Int.tmod_eq_emod_of_nonneg f0, Bool.eq_iff_iff]
  simp
theorem nat_and4 : ∀ i : Fin 256, (i.1 &&& 4 != 0) = decide (i.1 / 4 % 2 = 1) := by decide +kernel
theorem and4 (F : Int) (f0 : 0 ≤ F) (f1 : F ≤ 255) : (bits .and .u8 F 4 != 0) = decide (F / 4 % 2 = 1) := by
  obtain ⟨i, rfl⟩ := toNat_lit f0
  rw [u8_and _ _ f0 (by omega) (by decide) (by decide)]
  have := nat_and4 ⟨i, by omega⟩
  simp only [Int.toNat_natCast]
  rw [show (Int.toNat 4) = 4 from rfl, show (((i &&& 4 : Nat) : Int) != 0) = (i &&& 4 != 0) by rw [Bool.eq_iff_iff]; simp, show (i &&& 4 != 0) = decide (i / 4 % 2 = 1) from this]
  rw [decide_eq_decide]
  omega

theorem rBTake (S : Int) (E : Bool) (A : Option Addr) (n c : Nat) (D : List Int) (K F St : Int) (B : Option Addr) (m d : Nat) (X : List Int) (pd la ic cd : Int) (Pa : Option Addr) (Pn Pc : Nat) (rk al : Bool) (dp wt : Int) (w : World)
    (h : Byt w A n c D) (h' : Byt w B m d X) (hn : n ≤ 5000) (hm : m ≤ 5000) (f0 : 0 ≤ F) (f1 : F ≤ 255) :
    Calls Try.prog 10 #[.agg #[.int .i64 S, .bool E, .slice A n c], .agg #[.int .u8 K, .int .u8 F, .int .i64 St, .slice B m d, .int .i64 pd, .int .i64 la, .int .i64 ic, .int .u32 cd, .slice Pa Pn Pc, .bool rk, .bool al, .int .i64 dp, .int .u8 wt]] w (TakeP (takeB S E D K F St X) w) := by
  have O1 : Hid (∀ w A c, Byt w A n c D → Calls Try.prog 20 #[.agg #[.int .i64 S, .bool E, .slice A n c]] w (OwnP S E n D w)) := Lib.hid fun w A c hw => rBOwn S E A n c D w hw (by omega)
  have R1 : ∀ b, rightB S E D = b → Hid (∀ w A c, Byt w A n c D → Calls Try.prog 13 #[.agg #[.int .i64 S, .bool E, .slice A n c]] w (BoolP b w)) := fun b e => Lib.hid fun w A c hw => by subst e; exact rBRight S E A n c D w hw
  have O2 : ∀ b, openB S = b → Hid (∀ w A c, Calls Try.prog 15 #[.agg #[.int .i64 S, .bool E, .slice A n c]] w (BoolP b w)) := fun b e => Lib.hid fun w A c => by subst e; exact rBOpen S E A n c w
  have S1 : ∀ b, strB St = b → Hid (∀ w, Calls Try.prog 21 #[.int .i64 St] w (Ret (.bool b) w)) := fun b e => Lib.hid fun w => by subst e; exact rBStream St w
  have hl := h.len
  have hl' := h'.len
  cases hr : rightB S E D
  · have e : takeB S E D K F St X = ⟨S, E, D, 0, false, [], false, false, 0, 2⟩ := by unfold takeB; rw [if_pos (.inl hr)]
    rw [e]
    exact rkBad S E A n c D F St B m d X pd la ic cd Pa Pn Pc rk al dp wt w K O1 (R1 _ hr) h h' hn hm
  have nr : ¬ (rightB S E D = false) := by rw [hr]; decide
  by_cases hbad : (K = 1 ∨ K = 9) ∧ strB St = false
  · have e : takeB S E D K F St X = ⟨S, E, D, 0, false, [], false, false, 0, 2⟩ := by unfold takeB; rw [if_pos (.inr hbad)]
    rw [e]
    rcases hbad.1 with rfl | rfl
    · exact rkStreamOne S E A n c D F St B m d X pd la ic cd Pa Pn Pc rk al dp wt w O1 (R1 _ hr) h h' hn hm (S1 _ hbad.2)
    · exact rkStreamNine S E A n c D F St B m d X pd la ic cd Pa Pn Pc rk al dp wt w O1 (R1 _ hr) h h' hn hm (S1 _ hbad.2)
  have nb : ¬ (rightB S E D = false ∨ (K = 1 ∨ K = 9) ∧ strB St = false) := fun h => h.elim nr hbad
  have hst : K = 1 ∨ K = 9 → strB St = true := fun hk => by
    cases hs : strB St
    · exact absurd ⟨hk, hs⟩ hbad
    · rfl
  have fl4 := and4 F f0 f1
  by_cases hS : 0 < S
  · have o := O2 true (decide_eq_true hS)
    by_cases k9 : K = 9
    · subst k9
      have s := S1 _ (hst (.inr rfl))
      by_cases hss : St = S
      · have g3 : (St == S) = true := by rw [beq_iff_eq]; exact hss
        have e0 : takeB S E D 9 F St X = finB S E D S E (D ++ X) F := by unfold takeB; rw [if_neg nb, if_pos hS, if_pos ⟨rfl, hss⟩]
        rw [e0]
        unfold finB
        by_cases g4 : 4096 < (D ++ X).length
        · rw [if_pos g4]
          exact rkGoMany S E A n c D F St B m d X pd la ic cd Pa Pn Pc rk al dp wt w O1 (R1 _ hr) h h' hn hm s o g3 (decide_eq_true (by rw [List.length_append] at g4; omega))
        · rw [if_neg g4]
          have g4' : decide (4096 < (n : Int) + m) = false := decide_eq_false (by rw [List.length_append] at g4; omega)
          by_cases g5 : F / 4 % 2 = 1
          · rw [if_pos g5]
            exact rkGoDone S E A n c D F St B m d X pd la ic cd Pa Pn Pc rk al dp wt w O1 (R1 _ hr) h h' hn hm s o g3 g4' (by rw [fl4]; exact decide_eq_true g5)
          · rw [if_neg g5]
            exact rkGoOpen S E A n c D F St B m d X pd la ic cd Pa Pn Pc rk al dp wt w O1 (R1 _ hr) h h' hn hm s o g3 g4' (by rw [fl4]; exact decide_eq_false g5)
      · have e0 : takeB S E D 9 F St X = ⟨S, E, D, 0, false, [], false, true, 1, 0⟩ := by unfold takeB; rw [if_neg nb, if_pos hS, if_neg (fun h => hss h.2)]
        rw [e0]
        exact rkOpenNine S E A n c D F St B m d X pd la ic cd Pa Pn Pc rk al dp wt w O1 (R1 _ hr) h h' hn hm s o (by simpa using hss)
    · have e0 : takeB S E D K F St X = ⟨S, E, D, 0, false, [], false, true, 1, 0⟩ := by unfold takeB; rw [if_neg nb, if_pos hS, if_neg (fun h => k9 h.1)]
      rw [e0]
      by_cases k1 : K = 1
      · subst k1
        exact rkOpenOne S E A n c D F St B m d X pd la ic cd Pa Pn Pc rk al dp wt w O1 (R1 _ hr) h h' hn hm (S1 _ (hst (.inl rfl))) o
      · exact rkOpenOther S E A n c D F St B m d X pd la ic cd Pa Pn Pc rk al dp wt w K O1 (R1 _ hr) h h' hn hm o (by simpa using k1) (by simpa using k1) (by simpa using k9)
  · have o := O2 false (decide_eq_false hS)
    by_cases k1 : K = 1
    · subst k1
      have s := S1 _ (hst (.inl rfl))
      have e0 : takeB S E D 1 F St X = finB S E D St (decide (F % 2 = 1)) X F := by unfold takeB; rw [if_neg nb, if_neg hS, if_pos rfl]
      rw [e0]
      unfold finB
      by_cases g4 : 4096 < X.length
      · rw [if_pos g4]
        exact rkBegMany S E A n c D F St B m d X pd la ic cd Pa Pn Pc rk al dp wt w O1 (R1 _ hr) h h' hn hm s o _ (tmod2 F f0) (decide_eq_true (by omega))
      · rw [if_neg g4]
        have g4' : decide (4096 < (m : Int)) = false := decide_eq_false (by omega)
        by_cases g5 : F / 4 % 2 = 1
        · rw [if_pos g5]
          exact rkBegDone S E A n c D F St B m d X pd la ic cd Pa Pn Pc rk al dp wt w O1 (R1 _ hr) h h' hn hm s o _ (tmod2 F f0) g4' (by rw [fl4]; exact decide_eq_true g5)
        · rw [if_neg g5]
          exact rkBegOpen S E A n c D F St B m d X pd la ic cd Pa Pn Pc rk al dp wt w O1 (R1 _ hr) h h' hn hm s o _ (tmod2 F f0) g4' (by rw [fl4]; exact decide_eq_false g5)
    by_cases k9 : K = 9
    · subst k9
      have e0 : takeB S E D 9 F St X = ⟨S, E, D, 0, false, [], false, true, 1, 0⟩ := by unfold takeB; rw [if_neg nb, if_neg hS, if_neg (by decide), if_pos rfl]
      rw [e0]
      exact rkShutNine S E A n c D F St B m d X pd la ic cd Pa Pn Pc rk al dp wt w O1 (R1 _ hr) h h' hn hm (S1 _ (hst (.inr rfl))) o
    · have e0 : takeB S E D K F St X = ⟨S, E, D, 0, false, [], false, false, 0, 0⟩ := by unfold takeB; rw [if_neg nb, if_neg hS, if_neg k1, if_neg k9]
      rw [e0]
      exact rkNone S E A n c D F St B m d X pd la ic cd Pa Pn Pc rk al dp wt w K O1 (R1 _ hr) h h' hn hm o (by simpa using k1) (by simpa using k1) (by simpa using k9)
end Go.Proofs.Ytbooojpohfdljaa
