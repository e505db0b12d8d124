/- Blocks: the contracts of the small functions. -/
import Derived.Test.YtbooojpohfdljaaL
import Derived.Test.YtbooojpohfdljaaS
namespace Go.Proofs.Ytbooojpohfdljaa
open Go.RowKit Go.Shelf
set_option linter.unusedVariables false

def BoolP (b : Bool) (w : World) (e : Ending) (w' : World) : Prop := e = .returned (.bool b) ∧ Below w.heap.size w w'
def openB (S : Int) : Bool := decide (0 < S)
def sameB (S : Int) (E : Bool) (D : List Int) (S' : Int) (E' : Bool) (D' : List Int) : Bool := S == S' && (E == E' && eqB D D')
def rightB (S : Int) (E : Bool) (D : List Int) : Bool := if 0 < S then decide (S ≤ 2147483647 ∧ D.length ≤ 4096) else S == 0 && (E == false && D.length == 0)

theorem fEqual (A : Option Addr) (n c : Nat) (l : List Int) (B : Option Addr) (m d : Nat) (l' : List Int) (w : World) (h : Byt w A n c l) (h' : Byt w B m d l') :
    Calls Try.prog 22 #[.slice A n c, .slice B m d] w (Ret (.bool (eqB l l')) w) := by
  have e1 := h.conv
  have e2 := h'.conv
  have e3 := strOf_eq h.bs h'.bs
  have H := Lib.hid h
  have H' := Lib.hid h'
  clear h h'
  go_enter Try.func22, Try.ntmps22
  go_wp2
  go_ret
  exact ⟨rfl, rfl⟩

theorem fBOpen (S : Int) (E : Bool) (A : Option Addr) (n c : Nat) (w : World) :
    Calls Try.prog 14 #[.agg #[.int .i64 S, .bool E, .slice A n c]] w (BoolP (openB S) w) := by
  have b0 := (Bel.refl w).alloc (.cells #[.int .i64 S, .bool E, .slice A n c] 24)
  go_enter Try.func14, Try.ntmps14
  go_wp2
  go_ret
  exact ⟨rfl, b0.out⟩
theorem rBOpen (S : Int) (E : Bool) (A : Option Addr) (n c : Nat) (w : World) :
    Calls Try.prog 15 #[.agg #[.int .i64 S, .bool E, .slice A n c]] w (BoolP (openB S) w) := by
  have b0 := (Bel.refl w).alloc (.cells #[.int .i64 S, .bool E, .slice A n c] 24)
  go_enter Try.func15, Try.ntmps15
  go_wp2
  go_ret
  exact ⟨rfl, b0.out⟩

set_option maxHeartbeats 600000 in
theorem fBSame (S : Int) (E : Bool) (A : Option Addr) (n c : Nat) (D : List Int) (S' : Int) (E' : Bool) (B : Option Addr) (m d : Nat) (D' : List Int) (w : World) (h : Byt w A n c D) (h' : Byt w B m d D') :
    Calls Try.prog 16 #[.agg #[.int .i64 S, .bool E, .slice A n c], .agg #[.int .i64 S', .bool E', .slice B m d]] w (BoolP (sameB S E D S' E' D') w) := by
  have b0 := ((Bel.refl w).alloc (.cells #[.int .i64 S, .bool E, .slice A n c] 24)).alloc (.cells #[.int .i64 S', .bool E', .slice B m d] 24)
  have y := (h.alloc (.cells #[.int .i64 S, .bool E, .slice A n c] 24)).alloc (.cells #[.int .i64 S', .bool E', .slice B m d] 24)
  have y' := (h'.alloc (.cells #[.int .i64 S, .bool E, .slice A n c] 24)).alloc (.cells #[.int .i64 S', .bool E', .slice B m d] 24)
  clear h h'
  unfold sameB
  cases g1 : (S == S')
  · go_enter Try.func16, Try.ntmps16
    go_wp2
    go_ret
    exact ⟨rfl, b0.out⟩
  cases g2 : (E == E')
  · go_enter Try.func16, Try.ntmps16
    go_wp2
    go_ret
    exact ⟨rfl, b0.out⟩
  go_enter Try.func16, Try.ntmps16
  go_wp2_with (go_at_call 22; refine (fEqual _ _ _ _ _ _ _ _ _ y y').mono ?_; rintro e w' ⟨rfl, rfl⟩)
  go_ret
  exact ⟨by simp, b0.out⟩

set_option maxHeartbeats 600000 in
theorem rBSame (S : Int) (E : Bool) (A : Option Addr) (n c : Nat) (D : List Int) (S' : Int) (E' : Bool) (B : Option Addr) (m d : Nat) (D' : List Int) (w : World) (h : Byt w A n c D) (h' : Byt w B m d D') :
    Calls Try.prog 11 #[.agg #[.int .i64 S, .bool E, .slice A n c], .agg #[.int .i64 S', .bool E', .slice B m d]] w (BoolP (sameB S E D S' E' D') w) := by
  have b0 := ((Bel.refl w).alloc (.cells #[.int .i64 S, .bool E, .slice A n c] 24)).alloc (.cells #[.int .i64 S', .bool E', .slice B m d] 24)
  have y := (h.alloc (.cells #[.int .i64 S, .bool E, .slice A n c] 24)).alloc (.cells #[.int .i64 S', .bool E', .slice B m d] 24)
  have y' := (h'.alloc (.cells #[.int .i64 S, .bool E, .slice A n c] 24)).alloc (.cells #[.int .i64 S', .bool E', .slice B m d] 24)
  have e1 := y.conv
  have e2 := y'.conv
  have e3 := strOf_eq h.bs h'.bs
  clear h h' y y'
  unfold sameB
  cases g1 : (S == S')
  · go_enter Try.func11, Try.ntmps11
    go_wp2
    go_ret
    exact ⟨rfl, b0.out⟩
  cases g2 : (E == E')
  · go_enter Try.func11, Try.ntmps11
    go_wp2
    go_ret
    exact ⟨rfl, b0.out⟩
  go_enter Try.func11, Try.ntmps11
  go_wp2
  go_ret
  exact ⟨by simp, b0.out⟩

def OwnP (S : Int) (E : Bool) (n : Nat) (D : List Int) (w : World) (e : Ending) (W' : World) : Prop :=
  ∃ A' c', e = .returned (.agg #[.int .i64 S, .bool E, .slice A' n c']) ∧ Mine w.heap.size W' A' n c' D ∧ Below w.heap.size w W'

set_option maxHeartbeats 600000 in
theorem fBOwn (S : Int) (E : Bool) (A : Option Addr) (n c : Nat) (D : List Int) (w : World) (h : Byt w A n c D) (hn : n ≤ 140737488355328) :
    Calls Try.prog 17 #[.agg #[.int .i64 S, .bool E, .slice A n c]] w (OwnP S E n D w) := by
  have b0 := ((Bel.refl w).alloc (.cells #[.int .i64 S, .bool E, .slice A n c] 24)).alloc (.cells #[.int .i64 0, .bool false, .slice none 0 0] 24)
  have y := (h.alloc (.cells #[.int .i64 S, .bool E, .slice A n c] 24)).alloc (.cells #[.int .i64 0, .bool false, .slice none 0 0] 24)
  have q0 := (Blk.new w 24 #[.int .i64 S, .bool E, .slice A n c]).alloc (.cells #[.int .i64 0, .bool false, .slice none 0 0] 24)
  have q1 := Blk.newAt (b := w.heap.size + 1) (w.alloc (.cells #[.int .i64 S, .bool E, .slice A n c] 24)) 24 #[.int .i64 0, .bool false, .slice none 0 0] (by simp)
  have sz := b0.out.size
  clear h
  go_enter Try.func17, Try.ntmps17
  go_wp2_with fail
  refine (fClone _ _ _ _ _ y hn).mono ?_
  rintro e w1 ⟨A1, c1, rfl, m1, hb⟩
  replace b0 := (b0).below hb; replace q0 := (q0).below hb; replace q1 := (q1).below hb
  have f2 := q0.frozen 2
  have z2 := q0.at 2 rfl
  have q2 : Blk (w1.setCell ⟨w.heap.size, 2, none⟩ (.slice A1 n c1)) w.heap.size 24 #[.int .i64 S, .bool E, .slice A1 n c1] := q0.set 2 (.slice A1 n c1)
  have q3 := q1.setFar (p := ⟨w.heap.size, 2, none⟩) (by simp) (.slice A1 n c1)
  have x0 := q2.at 0 rfl
  have x1 := q2.at 1 rfl
  have x2 := q2.at 2 rfl
  have f0 := q3.frozen
  have y0 := q3.at 0 rfl
  have y1 := q3.at 1 rfl
  have y2 := q3.at 2 rfl
  have m2 := m1.farB q0 (by decide) 2 (.slice A1 n c1)
  have b2 := b0.set (p := ⟨w.heap.size, 2, none⟩) (Nat.le_refl _) (.slice A1 n c1)
  go_wp2
  have q4 : Blk ((((w1.setCell ⟨w.heap.size, 2, none⟩ (.slice A1 n c1)).setCell ⟨w.heap.size + 1, 0, none⟩ (.int .i64 S)).setCell ⟨w.heap.size + 1, 1, none⟩ (.bool E)).setCell ⟨w.heap.size + 1, 2, none⟩ (.slice A1 n c1)) (w.heap.size + 1) 24 #[.int .i64 S, .bool E, .slice A1 n c1] := ((q3.set 0 (.int .i64 S)).set 1 (.bool E)).set 2 (.slice A1 n c1)
  have m4 := ((m2.farB q3 (by decide) 0 (.int .i64 S)).farB (q3.set 0 (.int .i64 S)) (by decide) 1 (.bool E)).farB ((q3.set 0 (.int .i64 S)).set 1 (.bool E)) (by decide) 2 (.slice A1 n c1)
  have b4 := ((b2.set (p := ⟨w.heap.size + 1, 0, none⟩) (by simp) (.int .i64 S)).set (p := ⟨w.heap.size + 1, 1, none⟩) (by simp) (.bool E)).set (p := ⟨w.heap.size + 1, 2, none⟩) (by simp) (.slice A1 n c1)
  clear x0 x1 x2 y0 y1 y2 z2 f0 f2 q0 q1 q2 q3 m1 m2
  generalize ((((w1.setCell ⟨w.heap.size, 2, none⟩ (.slice A1 n c1)).setCell ⟨w.heap.size + 1, 0, none⟩ (.int .i64 S)).setCell ⟨w.heap.size + 1, 1, none⟩ (.bool E)).setCell ⟨w.heap.size + 1, 2, none⟩ (.slice A1 n c1)) = W4 at *
  have x0 := q4.at 0 rfl
  have x1 := q4.at 1 rfl
  have x2 := q4.at 2 rfl
  exact bodyPost_ret (v := .agg #[.int .i64 S, .bool E, .slice A1 n c1]) (by simp [results, Try.f17, go_sem, x0, x1, x2]) rfl ⟨A1, c1, rfl, m4.base_le (by simp; omega), b4.out⟩

set_option maxHeartbeats 600000 in
theorem rBOwn (S : Int) (E : Bool) (A : Option Addr) (n c : Nat) (D : List Int) (w : World) (h : Byt w A n c D) (hn : n ≤ 140737488355328) :
    Calls Try.prog 20 #[.agg #[.int .i64 S, .bool E, .slice A n c]] w (OwnP S E n D w) := by
  have b0 := ((Bel.refl w).alloc (.cells #[.int .i64 S, .bool E, .slice A n c] 24)).alloc (.cells #[.int .i64 0, .bool false, .slice none 0 0] 24)
  have y := (h.alloc (.cells #[.int .i64 S, .bool E, .slice A n c] 24)).alloc (.cells #[.int .i64 0, .bool false, .slice none 0 0] 24)
  have q0 := (Blk.new w 24 #[.int .i64 S, .bool E, .slice A n c]).alloc (.cells #[.int .i64 0, .bool false, .slice none 0 0] 24)
  have q1 := Blk.newAt (b := w.heap.size + 1) (w.alloc (.cells #[.int .i64 S, .bool E, .slice A n c] 24)) 24 #[.int .i64 0, .bool false, .slice none 0 0] (by simp)
  have sz := b0.out.size
  clear h
  go_enter Try.func20, Try.ntmps20
  go_wp2_with (at_builtin; go_must (refine wpList_copy _ rfl (.tmp 3) (.tmp 5) rfl rfl (by simp) A n c D rfl y hn ?_); intro A1 c1 w1 m1 hb; replace b0 := (b0).below hb; replace q0 := (q0).below hb; replace q1 := (q1).below hb; have f2 := q0.frozen 2; have z2 := q0.at 2 rfl; have q2 : Blk (w1.setCell ⟨w.heap.size, 2, none⟩ (.slice A1 n c1)) w.heap.size 24 #[.int .i64 S, .bool E, .slice A1 n c1] := q0.set 2 (.slice A1 n c1); have q3 := q1.setFar (p := ⟨w.heap.size, 2, none⟩) (by simp) (.slice A1 n c1); have x0 := q2.at 0 rfl; have x1 := q2.at 1 rfl; have x2 := q2.at 2 rfl; have f0 := q3.frozen; have y0 := q3.at 0 rfl; have y1 := q3.at 1 rfl; have y2 := q3.at 2 rfl; have m2 := m1.farB q0 (by decide) 2 (.slice A1 n c1); have b2 := b0.set (p := ⟨w.heap.size, 2, none⟩) (Nat.le_refl _) (.slice A1 n c1))
  have q4 : Blk ((((w1.setCell ⟨w.heap.size, 2, none⟩ (.slice A1 n c1)).setCell ⟨w.heap.size + 1, 0, none⟩ (.int .i64 S)).setCell ⟨w.heap.size + 1, 1, none⟩ (.bool E)).setCell ⟨w.heap.size + 1, 2, none⟩ (.slice A1 n c1)) (w.heap.size + 1) 24 #[.int .i64 S, .bool E, .slice A1 n c1] := ((q3.set 0 (.int .i64 S)).set 1 (.bool E)).set 2 (.slice A1 n c1)
  have m4 := ((m2.farB q3 (by decide) 0 (.int .i64 S)).farB (q3.set 0 (.int .i64 S)) (by decide) 1 (.bool E)).farB ((q3.set 0 (.int .i64 S)).set 1 (.bool E)) (by decide) 2 (.slice A1 n c1)
  have b4 := ((b2.set (p := ⟨w.heap.size + 1, 0, none⟩) (by simp) (.int .i64 S)).set (p := ⟨w.heap.size + 1, 1, none⟩) (by simp) (.bool E)).set (p := ⟨w.heap.size + 1, 2, none⟩) (by simp) (.slice A1 n c1)
  clear x0 x1 x2 y0 y1 y2 z2 f0 f2 q0 q1 q2 q3 m1 m2
  generalize ((((w1.setCell ⟨w.heap.size, 2, none⟩ (.slice A1 n c1)).setCell ⟨w.heap.size + 1, 0, none⟩ (.int .i64 S)).setCell ⟨w.heap.size + 1, 1, none⟩ (.bool E)).setCell ⟨w.heap.size + 1, 2, none⟩ (.slice A1 n c1)) = W4 at *
  have x0 := q4.at 0 rfl
  have x1 := q4.at 1 rfl
  have x2 := q4.at 2 rfl
  exact bodyPost_ret (v := .agg #[.int .i64 S, .bool E, .slice A1 n c1]) (by simp [results, Try.f20, go_sem, x0, x1, x2]) rfl ⟨A1, c1, rfl, m4.base_le (by simp; omega), b4.out⟩


set_option maxHeartbeats 600000 in
theorem fBRight (S : Int) (E : Bool) (A : Option Addr) (n c : Nat) (D : List Int) (w : World) (h : Byt w A n c D) (S0 : -9223372036854775808 ≤ S) (S1 : S ≤ 9223372036854775807) :
    Calls Try.prog 12 #[.agg #[.int .i64 S, .bool E, .slice A n c]] w (BoolP (rightB S E D) w) := by
  have hl := h.len
  have b0 := (Bel.refl w).alloc (.cells #[.int .i64 S, .bool E, .slice A n c] 24)
  have y := h.alloc (.cells #[.int .i64 S, .bool E, .slice A n c] 24)
  have q0 := Blk.new w 24 #[.int .i64 S, .bool E, .slice A n c]
  clear h
  by_cases hS : 0 < S
  · have O1 := Lib.hid fun w => fBOpen S E A n c w
    rw [show openB S = true from decide_eq_true hS] at O1
    by_cases g1 : S ≤ 2147483647
    · have hr : rightB S E D = decide ((n : Int) ≤ 4096) := by
        unfold rightB
        rw [if_pos hS, Bool.eq_iff_iff]
        simp
        omega
      have HR := Lib.hid hr
      clear hr
      go_enter Try.func12, Try.ntmps12
      go_wp2_with (go_at_call 14; refine (O1.out _).mono ?_; rintro e w1 ⟨rfl, hb⟩; replace b0 := (b0).below hb; replace q0 := (q0).below hb; have x0 := q0.at 0 rfl; have x1 := q0.at 1 rfl; have x2 := q0.at 2 rfl)
      go_ret
      exact ⟨ret_bool HR.out.symm, b0.out⟩
    · have hr : rightB S E D = false := by
        unfold rightB
        rw [if_pos hS]
        exact decide_eq_false (by omega)
      have HR := Lib.hid hr
      clear hr
      go_enter Try.func12, Try.ntmps12
      go_wp2_with (go_at_call 14; refine (O1.out _).mono ?_; rintro e w1 ⟨rfl, hb⟩; replace b0 := (b0).below hb; replace q0 := (q0).below hb; have x0 := q0.at 0 rfl; have x1 := q0.at 1 rfl; have x2 := q0.at 2 rfl)
      go_ret
      exact ⟨ret_bool HR.out.symm, b0.out⟩
  · have O1 := Lib.hid fun w => fBOpen S E A n c w
    rw [show openB S = false from decide_eq_false hS] at O1
    have hr : rightB S E D = sameB S E D 0 false [] := by
      unfold rightB sameB eqB
      rw [if_neg hS, Bool.eq_iff_iff]
      simp
    have HR := Lib.hid hr
    clear hr
    go_enter Try.func12, Try.ntmps12
    go_wp2_with (first
      | (go_at_call 14; refine (O1.out _).mono ?_; rintro e w1 ⟨rfl, hb⟩; replace b0 := (b0).below hb; replace q0 := (q0).below hb; replace y := (y).below hb; have x0 := q0.at 0 rfl; have x1 := q0.at 1 rfl; have x2 := q0.at 2 rfl)
      | (go_at_call 16; refine (fBSame _ _ _ _ _ _ _ _ _ _ _ _ _ y (Byt.nil _)).mono ?_; rintro e w2 ⟨rfl, hb⟩; replace b0 := b0.below hb))
    go_ret
    exact ⟨ret_bool HR.out.symm, b0.out⟩

def strB (n : Int) : Bool := decide (1 ≤ n ∧ n < 2147483648)
theorem rBStream (n : Int) (w : World) : Calls Try.prog 21 #[.int .i64 n] w (Ret (.bool (strB n)) w) := by
  unfold strB
  by_cases h1 : 1 ≤ n
  · have e : decide (1 ≤ n ∧ n < 2147483648) = decide (n < 2147483648) := by simp [h1]
    have E := Lib.hid e
    clear e
    go_enter Try.func21, Try.ntmps21
    go_wp2
    go_ret
    exact ⟨ret_bool E.out.symm, rfl⟩
  · have e : decide (1 ≤ n ∧ n < 2147483648) = false := decide_eq_false (by omega)
    have E := Lib.hid e
    have g : decide (1 ≤ n) = false := decide_eq_false h1
    clear e
    go_enter Try.func21, Try.ntmps21
    go_wp2
    go_ret
    exact ⟨rfl, rfl⟩

set_option maxHeartbeats 600000 in
theorem rBRight (S : Int) (E : Bool) (A : Option Addr) (n c : Nat) (D : List Int) (w : World) (h : Byt w A n c D) :
    Calls Try.prog 13 #[.agg #[.int .i64 S, .bool E, .slice A n c]] w (BoolP (rightB S E D) w) := by
  have hl := h.len
  have b0 := (Bel.refl w).alloc (.cells #[.int .i64 S, .bool E, .slice A n c] 24)
  clear h
  by_cases h0 : S = 0
  · subst h0
    cases E
    · have hr : rightB 0 false D = ((n : Int) == 0) := by
        unfold rightB
        rw [if_neg (by decide), Bool.eq_iff_iff]
        simp
        rw [← hl]
        simp
      have HR := Lib.hid hr
      clear hr
      go_enter Try.func13, Try.ntmps13
      go_wp2
      go_ret
      exact ⟨ret_bool (by rw [HR.out]), b0.out⟩
    · have hr : rightB 0 true D = false := by
        unfold rightB
        rw [if_neg (by decide)]
        rfl
      have HR := Lib.hid hr
      clear hr
      go_enter Try.func13, Try.ntmps13
      go_wp2
      go_ret
      exact ⟨ret_bool HR.out.symm, b0.out⟩
  · have g0 : (S == 0) = false := beq_eq_false_iff_ne.2 h0
    have S1 := Lib.hid fun w => rBStream S w
    cases hs : strB S
    · rw [hs] at S1
      have no := of_decide_eq_false hs
      have hr : rightB S E D = false := by
        unfold rightB
        by_cases hS : 0 < S
        · rw [if_pos hS]; exact decide_eq_false (by omega)
        · rw [if_neg hS, g0]; rfl
      have HR := Lib.hid hr
      clear hr h0 no hs
      go_enter Try.func13, Try.ntmps13
      go_wp2_with (go_at_call 21; refine (S1.out _).mono ?_; rintro e w1 ⟨rfl, rfl⟩)
      go_ret
      exact ⟨ret_bool HR.out.symm, b0.out⟩
    · rw [hs] at S1
      have yes := of_decide_eq_true hs
      have hr : rightB S E D = decide ((n : Int) ≤ 4096) := by
        unfold rightB
        rw [if_pos (by omega), Bool.eq_iff_iff]
        simp
        omega
      have HR := Lib.hid hr
      clear hr h0 yes hs
      go_enter Try.func13, Try.ntmps13
      go_wp2_with (go_at_call 21; refine (S1.out _).mono ?_; rintro e w1 ⟨rfl, rfl⟩)
      go_ret
      exact ⟨ret_bool HR.out.symm, b0.out⟩
end Go.Proofs.Ytbooojpohfdljaa
