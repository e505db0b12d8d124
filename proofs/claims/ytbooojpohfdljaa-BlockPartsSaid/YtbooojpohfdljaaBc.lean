/- The contract of block.Take. -/
import Derived.Test.YtbooojpohfdljaaBu
import Derived.Test.YtbooojpohfdljaaBv
import Derived.Test.YtbooojpohfdljaaBw
import Derived.Test.YtbooojpohfdljaaBy
import Derived.Test.YtbooojpohfdljaaBz
import Derived.Test.YtbooojpohfdljaaBzo
import Derived.Test.YtbooojpohfdljaaBzd
import Derived.Test.YtbooojpohfdljaaBits
namespace Go.Proofs.Ytbooojpohfdljaa
open Go.RowKit Go.Shelf
set_option linter.unusedVariables false

theorem flag1 (F : Int) (f0 : 0 ≤ F) (f1 : F ≤ 255) : (bits .and .u8 F 1 != 0) = decide (F % 2 = 1) := by
  have := and_mask F 1 f0 f1 (by omega)
  rw [show ((2 ^ 1 - 1 : Nat) : Int) = 1 from rfl] at this
  rw [this, Bool.eq_iff_iff]
  simp
  omega
theorem flag4 (F : Int) (f0 : 0 ≤ F) (f1 : F ≤ 255) : (bits .and .u8 (F / 4) 1 == 1) = decide (F / 4 % 2 = 1) := by
  have := and_mask (F / 4) 1 (by omega) (by omega) (by omega)
  rw [show ((2 ^ 1 - 1 : Nat) : Int) = 1 from rfl] at this
  rw [this, Bool.eq_iff_iff]
  simp

theorem fBTake (S : Int) (E : Bool) (A : Option Addr) (n c : Nat) (D : List Int) (K F St : Int) (B : Option Addr) (m d : Nat) (X : List Int) (pd la ic cd : Int) (Pa : Option Addr) (Pn Pc : Nat) (rk al : Bool) (dp wt : Int) (w : World)
    (h : Byt w A n c D) (h' : Byt w B m d X) (hn : n ≤ 5000) (hm : m ≤ 5000) (S0 : -9223372036854775808 ≤ S) (S1 : S ≤ 9223372036854775807) (f0 : 0 ≤ F) (f1 : F ≤ 255) :
    Calls Try.prog 9 #[.agg #[.int .i64 S, .bool E, .slice A n c], .agg #[.int .u8 K, .int .u8 F, .int .i64 St, .slice B m d, .int .i64 pd, .int .i64 la, .int .i64 ic, .int .u32 cd, .slice Pa Pn Pc, .bool rk, .bool al, .int .i64 dp, .int .u8 wt]] w (TakeP (takeB S E D K F St X) w) := by
  have O1 : Hid (∀ w, Byt w A n c D → Calls Try.prog 17 #[.agg #[.int .i64 S, .bool E, .slice A n c]] w (OwnP S E n D w)) := Lib.hid fun w hw => fBOwn S E A n c D w hw (by omega)
  have R1 : ∀ b, rightB S E D = b → Hid (∀ w, Byt w A n c D → Calls Try.prog 12 #[.agg #[.int .i64 S, .bool E, .slice A n c]] w (BoolP b w)) := fun b e => Lib.hid fun w hw => by subst e; exact fBRight S E A n c D w hw S0 S1
  have O2 : ∀ b, openB S = b → Hid (∀ w, Calls Try.prog 14 #[.agg #[.int .i64 S, .bool E, .slice A n c]] w (BoolP b w)) := fun b e => Lib.hid fun w => by subst e; exact fBOpen S E A n c w
  have hl := h.len
  have hl' := h'.len
  cases hr : rightB S E D
  · have e : takeB S E D K F St X = ⟨S, E, D, 0, false, [], false, false, 0, 2⟩ := by unfold takeB; rw [if_pos (.inl hr)]
    rw [e]
    by_cases k1 : K = 1
    · subst k1; exact tkBadOne S E A n c D F St B m d X pd la ic cd Pa Pn Pc rk al dp wt w O1 (R1 _ hr) h h' hn hm
    by_cases k9 : K = 9
    · subst k9; exact tkBadNine S E A n c D F St B m d X pd la ic cd Pa Pn Pc rk al dp wt w O1 (R1 _ hr) h h' hn hm
    · exact tkBadOther S E A n c D F St B m d X pd la ic cd Pa Pn Pc rk al dp wt w K O1 (R1 _ hr) h h' hn hm (by simpa using k1) (by simpa using k9)
  have nr : ¬ (rightB S E D = false) := by rw [hr]; decide
  by_cases hbad : (K = 1 ∨ K = 9) ∧ strB St = false
  · have e : takeB S E D K F St X = ⟨S, E, D, 0, false, [], false, false, 0, 2⟩ := by unfold takeB; rw [if_pos (.inr hbad)]
    rw [e]
    have no := of_decide_eq_false hbad.2
    rcases hbad.1 with rfl | rfl
    · by_cases hlo : St < 1
      · exact tkLowOne S E A n c D F St B m d X pd la ic cd Pa Pn Pc rk al dp wt w O1 (R1 _ hr) h h' hn hm (decide_eq_true hlo)
      · exact tkHighOne S E A n c D F St B m d X pd la ic cd Pa Pn Pc rk al dp wt w O1 (R1 _ hr) h h' hn hm (decide_eq_false hlo) (decide_eq_true (by omega))
    · by_cases hlo : St < 1
      · exact tkLowNine S E A n c D F St B m d X pd la ic cd Pa Pn Pc rk al dp wt w O1 (R1 _ hr) h h' hn hm (decide_eq_true hlo)
      · exact tkHighNine S E A n c D F St B m d X pd la ic cd Pa Pn Pc rk al dp wt w O1 (R1 _ hr) h h' hn hm (decide_eq_false hlo) (decide_eq_true (by omega))
  have nb : ¬ (rightB S E D = false ∨ (K = 1 ∨ K = 9) ∧ strB St = false) := fun h => h.elim nr hbad
  have hst : K = 1 ∨ K = 9 → decide (St < 1) = false ∧ decide (2147483647 < St) = false := fun hk => by
    cases hs : strB St
    · exact absurd ⟨hk, hs⟩ hbad
    · have := of_decide_eq_true hs
      exact ⟨decide_eq_false (by omega), decide_eq_false (by omega)⟩
  have fl4 := flag4 F f0 f1
  by_cases hS : 0 < S
  · have o := O2 true (decide_eq_true hS)
    by_cases k9 : K = 9
    · subst k9
      obtain ⟨g1, g2⟩ := hst (.inr rfl)
      by_cases hss : St = S
      · have g3 : (St == S) = true := by rw [beq_iff_eq]; exact hss
        have e0 : takeB S E D 9 F St X = finB S E D S E (D ++ X) F := by unfold takeB; rw [if_neg nb, if_pos hS, if_pos ⟨rfl, hss⟩]
        rw [e0]
        unfold finB
        by_cases g4 : 4096 < (D ++ X).length
        · rw [if_pos g4]
          exact tkGoMany S E A n c D F St B m d X pd la ic cd Pa Pn Pc rk al dp wt w O1 (R1 _ hr) h h' hn hm o g1 g2 g3 (decide_eq_true (by rw [List.length_append] at g4; omega))
        · rw [if_neg g4]
          have g4' : decide (4096 < (n : Int) + m) = false := decide_eq_false (by rw [List.length_append] at g4; omega)
          by_cases g5 : F / 4 % 2 = 1
          · rw [if_pos g5]
            exact tkGoDone S E A n c D F St B m d X pd la ic cd Pa Pn Pc rk al dp wt w O1 (R1 _ hr) h h' hn hm o g1 g2 g3 g4' (by rw [fl4]; exact decide_eq_true g5)
          · rw [if_neg g5]
            exact tkGoOpen S E A n c D F St B m d X pd la ic cd Pa Pn Pc rk al dp wt w O1 (R1 _ hr) h h' hn hm o g1 g2 g3 g4' (by rw [fl4]; exact decide_eq_false g5)
      · have e0 : takeB S E D 9 F St X = ⟨S, E, D, 0, false, [], false, true, 1, 0⟩ := by unfold takeB; rw [if_neg nb, if_pos hS, if_neg (fun h => hss h.2)]
        rw [e0]
        exact tkWrongOpenNine S E A n c D F St B m d X pd la ic cd Pa Pn Pc rk al dp wt w O1 (R1 _ hr) h h' hn hm o g1 g2 (by simpa using hss)
    · have e0 : takeB S E D K F St X = ⟨S, E, D, 0, false, [], false, true, 1, 0⟩ := by unfold takeB; rw [if_neg nb, if_pos hS, if_neg (fun h => k9 h.1)]
      rw [e0]
      by_cases k1 : K = 1
      · subst k1
        obtain ⟨g1, g2⟩ := hst (.inl rfl)
        exact tkWrongOpenOne S E A n c D F St B m d X pd la ic cd Pa Pn Pc rk al dp wt w O1 (R1 _ hr) h h' hn hm o g1 g2
      · exact tkWrongOpenOther S E A n c D F St B m d X pd la ic cd Pa Pn Pc rk al dp wt w K O1 (R1 _ hr) h h' hn hm o (by simpa using k1) (by simpa using k9)
  · have o := O2 false (decide_eq_false hS)
    by_cases k1 : K = 1
    · subst k1
      obtain ⟨g1, g2⟩ := hst (.inl rfl)
      have e0 : takeB S E D 1 F St X = finB S E D St (decide (F % 2 = 1)) X F := by unfold takeB; rw [if_neg nb, if_neg hS, if_pos rfl]
      rw [e0]
      unfold finB
      by_cases g4 : 4096 < X.length
      · rw [if_pos g4]
        exact tkBegMany S E A n c D F St B m d X pd la ic cd Pa Pn Pc rk al dp wt w O1 (R1 _ hr) h h' hn hm o g1 g2 _ (flag1 F f0 f1) (decide_eq_true (by omega))
      · rw [if_neg g4]
        have g4' : decide (4096 < (m : Int)) = false := decide_eq_false (by omega)
        by_cases g5 : F / 4 % 2 = 1
        · rw [if_pos g5]
          exact tkBegDone S E A n c D F St B m d X pd la ic cd Pa Pn Pc rk al dp wt w O1 (R1 _ hr) h h' hn hm o g1 g2 _ (flag1 F f0 f1) g4' (by rw [fl4]; exact decide_eq_true g5)
        · rw [if_neg g5]
          exact tkBegOpen S E A n c D F St B m d X pd la ic cd Pa Pn Pc rk al dp wt w O1 (R1 _ hr) h h' hn hm o g1 g2 _ (flag1 F f0 f1) g4' (by rw [fl4]; exact decide_eq_false g5)
    by_cases k9 : K = 9
    · subst k9
      obtain ⟨g1, g2⟩ := hst (.inr rfl)
      have e0 : takeB S E D 9 F St X = ⟨S, E, D, 0, false, [], false, true, 1, 0⟩ := by unfold takeB; rw [if_neg nb, if_neg hS, if_neg (by decide), if_pos rfl]
      rw [e0]
      exact tkWrongShutNine S E A n c D F St B m d X pd la ic cd Pa Pn Pc rk al dp wt w O1 (R1 _ hr) h h' hn hm o g1 g2
    · have e0 : takeB S E D K F St X = ⟨S, E, D, 0, false, [], false, false, 0, 0⟩ := by unfold takeB; rw [if_neg nb, if_neg hS, if_neg k1, if_neg k9]
      rw [e0]
      exact tkNone S E A n c D F St B m d X pd la ic cd Pa Pn Pc rk al dp wt w K O1 (R1 _ hr) h h' hn hm o (by simpa using k1) (by simpa using k9)
end Go.Proofs.Ytbooojpohfdljaa
