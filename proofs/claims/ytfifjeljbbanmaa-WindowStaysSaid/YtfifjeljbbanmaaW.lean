/- The contracts of the window's functions and of the document's: what each returns, the world left as it was. -/
import Derived.Test.YtfifjeljbbanmaaRows
import Derived.WalkKit
import Derived.WalkLawsBesides
import Derived.WalkSpells
import Derived.Lib.Hide
namespace Go.Proofs.Ytfifjeljbbanmaa
open Go.RowKit

/-- The call returned this value and the world is as it was. -/
def Ret (v : Value) (W : World) (e : Ending) (w' : World) : Prop := e = .returned v ∧ W = w'
def bl (b : Bool) : Value := .bool b
def nt (n : Int) : Value := .int .i64 n

theorem ret_bool {a b : Bool} (h : a = b) : Ending.returned (.bool a) = Ending.returned (.bool b) := by rw [h]
theorem ret_int {a b : Int} (h : a = b) : Ending.returned (.int .i64 a) = Ending.returned (.int .i64 b) := by rw [h]
theorem ret_two {a b : Int} {c d : Bool} (h : a = b) (k : c = d) : Ending.returned (.tuple #[.int .i64 a, .bool c]) = Ending.returned (.tuple #[.int .i64 b, .bool d]) := by rw [h, k]

def rgt (w : Int) : Bool := decide (-2147483647 ≤ w ∧ w ≤ 2147483647)
def can (w : Int) : Int := if 0 ≤ w ∧ w ≤ 2147483647 then w else 0
def takeB (w n : Int) : Bool := decide (-2147483647 ≤ w ∧ w ≤ 2147483647 ∧ 0 ≤ n ∧ n ≤ can w)
def takeV (w n : Int) : Int := if -2147483647 ≤ w ∧ w ≤ 2147483647 ∧ 0 ≤ n ∧ n ≤ can w then w - n else w
def giveB (w n : Int) : Bool := decide (-2147483647 ≤ w ∧ w ≤ 2147483647 ∧ 1 ≤ n ∧ n ≤ 2147483647 ∧ w + n ≤ 2147483647)
def giveV (w n : Int) : Int := if -2147483647 ≤ w ∧ w ≤ 2147483647 ∧ 1 ≤ n ∧ n ≤ 2147483647 ∧ w + n ≤ 2147483647 then w + n else w
def shiftB (w n : Int) : Bool := decide (-2147483647 ≤ w ∧ w ≤ 2147483647 ∧ -2147483647 ≤ n ∧ n ≤ 2147483647 ∧ -2147483647 ≤ w + n ∧ w + n ≤ 2147483647)
def shiftV (w n : Int) : Int := if -2147483647 ≤ w ∧ w ≤ 2147483647 ∧ -2147483647 ≤ n ∧ n ≤ 2147483647 ∧ -2147483647 ≤ w + n ∧ w + n ≤ 2147483647 then w + n else w
def movB (w by' : Int) (so : Bool) : Bool := so && rgt w && rgt (w + by')
def movV (w by' : Int) (so : Bool) : Int := if movB w by' so then w + by' else w

theorem rgt_eq {w : Int} {b : Bool} (h : b = true ↔ (-2147483647 ≤ w ∧ w ≤ 2147483647)) : b = rgt w := by
  cases b <;> simp_all [rgt]
theorem rgt_t {w : Int} (h : -2147483647 ≤ w ∧ w ≤ 2147483647) : rgt w = true := (rgt_eq (b := true) (by simpa using h)).symm
theorem rgt_n {w : Int} (h : ¬(-2147483647 ≤ w ∧ w ≤ 2147483647)) : rgt w = false := (rgt_eq (b := false) (by simpa using h)).symm

theorem fRight (w : Int) (h0 : -9223372036854775808 ≤ w) (h1 : w ≤ 9223372036854775807) (W : World) :
    Calls Try.prog 13 #[.int .i64 w] W (Ret (.bool (rgt w)) W) := by
  go_enter Try.func13, Try.ntmps13
  go_wp2
  all_goals go_ret
  all_goals refine ⟨ret_bool (rgt_eq ?_), rfl⟩
  all_goals simp [wrap64] at *
  all_goals omega

theorem fRightR (w : Int) (h0 : -9223372036854775808 ≤ w) (h1 : w ≤ 9223372036854775807) (W : World) :
    Calls Try.prog 14 #[.int .i64 w] W (Ret (.bool (rgt w)) W) := by
  go_enter Try.func14, Try.ntmps14
  go_wp2
  all_goals go_ret
  all_goals refine ⟨ret_bool (rgt_eq ?_), rfl⟩
  all_goals simp at *
  all_goals omega

theorem fCan (w : Int) (h0 : -9223372036854775808 ≤ w) (h1 : w ≤ 9223372036854775807) (W : World) :
    Calls Try.prog 15 #[.int .i64 w] W (Ret (.int .i64 (can w)) W) := by
  go_enter Try.func15, Try.ntmps15
  go_wp2
  all_goals go_ret
  all_goals refine ⟨ret_int ?_, rfl⟩
  all_goals (try go_tidy)
  all_goals simp at *
  all_goals unfold can
  all_goals split <;> omega

theorem fCanR (w : Int) (h0 : -9223372036854775808 ≤ w) (h1 : w ≤ 9223372036854775807) (W : World) :
    Calls Try.prog 16 #[.int .i64 w] W (Ret (.int .i64 (can w)) W) := by
  by_cases hr : -2147483647 ≤ w ∧ w ≤ 2147483647
  · have hb := rgt_t hr
    obtain ⟨r1, r2⟩ := hr
    by_cases hn : w < 0
    all_goals
      go_enter Try.func16, Try.ntmps16
      go_wp2_with (go_at_call 14; refine (fRightR _ (by omega) (by omega) _).mono ?_; rintro e w' ⟨rfl, rfl⟩)
      go_ret
      refine ⟨ret_int ?_, rfl⟩
      unfold can
      split <;> omega
  · have hb := rgt_n hr
    go_enter Try.func16, Try.ntmps16
    go_wp2_with (go_at_call 14; refine (fRightR _ (by omega) (by omega) _).mono ?_; rintro e w' ⟨rfl, rfl⟩)
    go_ret
    refine ⟨ret_int ?_, rfl⟩
    unfold can
    split <;> omega

/-- A scope in which the run jumps forward by goto at most n times. -/
def hop (P : Program) (c : Code) (Q : Exit → Act → World → Prop) : Nat → Exit → Act → World → Prop
  | n + 1, .goto l, a, w => ∃ rest, findLabel c l = some rest ∧ rest.wp P (hop P c Q n) a w
  | 0, .goto _, _, _ => False
  | _, e, a, w => Q e a w

theorem hop_jumps {P : Program} {c : Code} {b : Frame} {k : List Item} {cs : List Frame} {Q : Exit → Act → World → Prop} :
    ∀ (n : Nat) (d : Code) (a : Act) (w : World), d.wp P (hop P c Q n) a w →
      ∃ e a' w', Q e a' w' ∧ Arrives P (lone (b.at a (.code d :: .inScope c :: k)) cs w) b k cs e a' w' := by
  intro n
  induction n with
  | zero =>
    intro d a w h
    obtain ⟨e, a₁, w₁, hq, harr⟩ := h b (.inScope c :: k) cs
    cases e with
    | normal => exact ⟨.normal, a₁, w₁, hq, Steps.trans harr (.one step_inScope)⟩
    | exit id => exact ⟨.exit id, a₁, w₁, hq, fun k' hk => harr k' (by simp [exitTo, hk])⟩
    | goto l => exact hq.elim
    | ret => exact ⟨_, a₁, w₁, hq, harr⟩
    | panic ch => exact ⟨_, a₁, w₁, hq, harr⟩
    | outgrown => exact ⟨_, a₁, w₁, hq, harr⟩
  | succ n ih =>
    intro d a w h
    obtain ⟨e, a₁, w₁, hq, harr⟩ := h b (.inScope c :: k) cs
    cases e with
    | normal => exact ⟨.normal, a₁, w₁, hq, Steps.trans harr (.one step_inScope)⟩
    | exit id => exact ⟨.exit id, a₁, w₁, hq, fun k' hk => harr k' (by simp [exitTo, hk])⟩
    | goto l =>
      obtain ⟨rest, hf, hw⟩ := hq
      obtain ⟨e₂, a₂, w₂, hq₂, harr₂⟩ := ih rest a₁ w₁ hw
      have hg : gotoIn l (.inScope c :: k) = some (.code rest :: .inScope c :: k) := by simp [gotoIn, hf]
      exact ⟨e₂, a₂, w₂, hq₂, .of_steps (harr _ hg) harr₂⟩
    | ret => exact ⟨_, a₁, w₁, hq, harr⟩
    | panic ch => exact ⟨_, a₁, w₁, hq, harr⟩
    | outgrown => exact ⟨_, a₁, w₁, hq, harr⟩

theorem wp_scope_hop {P : Program} {c : Code} {Q : Exit → Act → World → Prop} {a : Act} {w : World} (n : Nat) (h : c.wp P (hop P c Q n) a w) :
    (Code.scope c).wp P Q a w := by
  intro b k cs
  obtain ⟨e, a', w', hq, harr⟩ := hop_jumps (b := b) (k := k) (cs := cs) n c a w h
  exact ⟨e, a', w', hq, .of_steps (.one step_scope) harr⟩

theorem hop_goto {P : Program} {c rest : Code} {Q : Exit → Act → World → Prop} {a : Act} {w : World} {n l : Nat} (hf : findLabel c l = some rest)
    (h : rest.wp P (hop P c Q n) a w) : hop P c Q (n + 1) (.goto l) a w := ⟨rest, hf, h⟩
theorem hop_ret {P : Program} {c : Code} {Q : Exit → Act → World → Prop} {a : Act} {w : World} {n : Nat} (h : Q .ret a w) : hop P c Q n .ret a w := by
  cases n <;> exact h
theorem wp_goto_hop {P : Program} {c rest : Code} {Q : Exit → Act → World → Prop} {a : Act} {w : World} {n l : Nat} (hf : findLabel c l = some rest)
    (h : rest.wp P (hop P c Q n) a w) : (Code.goto l).wp P (hop P c Q (n + 1)) a w := wp_goto (hop_goto hf h)
theorem wp_goto_then {P : Program} {c rest : Code} {Q : Exit → Act → World → Prop} {K : Act → World → Prop} {a : Act} {w : World} {n l : Nat} (hf : findLabel c l = some rest)
    (h : rest.wp P (hop P c Q n) a w) : (Code.goto l).wp P (Exit.then K (hop P c Q (n + 1))) a w := wp_goto (hop_goto (n := n) hf h)

theorem fMoved_no (w y : Int) (W : World) :
    Calls Try.prog 20 #[.int .i64 w, .int .i64 y, .bool false] W (Ret (.tuple #[.int .i64 w, .bool false]) W) := by
  go_enter Try.func20, Try.ntmps20
  go_wp2_with fail
  refine wp_scope_hop 1 ?_
  go_wp2_with (first | (refine wp_goto_then rfl ?_) | (refine wp_label ?_) | (refine hop_ret ?_))
  go_ret2
  exact ⟨rfl, rfl⟩

theorem fMoved (w y : Int) (h0 : -9223372036854775808 ≤ w) (h1 : w ≤ 9223372036854775807) (y0 : -2147483648 ≤ y) (y1 : y ≤ 2147483648) (W : World) :
    Calls Try.prog 20 #[.int .i64 w, .int .i64 y, .bool true] W (Ret (.tuple #[.int .i64 (movV w y true), .bool (movB w y true)]) W) := by
  by_cases hr : -2147483647 ≤ w ∧ w ≤ 2147483647
  · have hb := rgt_t hr
    obtain ⟨r1, r2⟩ := hr
    by_cases hs : -2147483647 ≤ w + y ∧ w + y ≤ 2147483647
    · have hc := rgt_t hs
      have e1 : movV w y true = w + y := by simp [movV, movB, hb, hc]
      have e2 : movB w y true = true := by simp [movB, hb, hc]
      rw [e1, e2]
      clear e1 e2
      obtain ⟨s1, s2⟩ := hs
      go_enter Try.func20, Try.ntmps20
      go_wp2_with fail
      refine wp_scope_hop 1 ?_
      go_wp2_with (first | (go_at_call 13; refine (fRight _ (by omega) (by omega) _).mono ?_; rintro e w' ⟨rfl, rfl⟩) | (refine wp_goto_then rfl ?_) | (refine wp_label ?_) | (refine hop_ret ?_))
      go_ret2
      exact ⟨rfl, rfl⟩
    · have hc := rgt_n hs
      have e1 : movV w y true = w := by simp [movV, movB, hb, hc]
      have e2 : movB w y true = false := by simp [movB, hb, hc]
      rw [e1, e2]
      clear e1 e2
      go_enter Try.func20, Try.ntmps20
      go_wp2_with fail
      refine wp_scope_hop 1 ?_
      go_wp2_with (first | (go_at_call 13; refine (fRight _ (by omega) (by omega) _).mono ?_; rintro e w' ⟨rfl, rfl⟩) | (refine wp_goto_then rfl ?_) | (refine wp_label ?_) | (refine hop_ret ?_))
      go_ret2
      exact ⟨rfl, rfl⟩
  · have hb := rgt_n hr
    have e1 : movV w y true = w := by simp [movV, movB, hb]
    have e2 : movB w y true = false := by simp [movB, hb]
    rw [e1, e2]
    clear e1 e2
    go_enter Try.func20, Try.ntmps20
    go_wp2_with fail
    refine wp_scope_hop 1 ?_
    go_wp2_with (first | (go_at_call 13; refine (fRight _ (by omega) (by omega) _).mono ?_; rintro e w' ⟨rfl, rfl⟩) | (refine wp_goto_then rfl ?_) | (refine wp_label ?_) | (refine hop_ret ?_))
    go_ret2
    exact ⟨rfl, rfl⟩
theorem can_le (w : Int) : 0 ≤ can w ∧ can w ≤ 2147483647 := by unfold can; split <;> omega
theorem can_of {w : Int} (h : 1 ≤ can w) : can w = w ∧ 0 ≤ w ∧ w ≤ 2147483647 := by unfold can at *; split <;> simp_all
theorem movTake {w n : Int} (a : 0 ≤ n) (b : n ≤ can w) : movV w (-n) true = takeV w n ∧ movB w (-n) true = takeB w n := by
  have c := can_le w
  have hb : movB w (-n) true = takeB w n := by
    rw [Bool.eq_iff_iff]; simp only [movB, takeB, rgt, Bool.true_and, Bool.and_eq_true, decide_eq_true_eq]
    by_cases h1 : 1 ≤ can w
    · obtain ⟨d, e, f⟩ := can_of h1; omega
    · have hn : n = 0 := by omega
      subst hn; omega
  refine ⟨?_, hb⟩
  unfold movV
  rw [hb]
  simp only [takeB, takeV, decide_eq_true_eq]
  split <;> omega
theorem noTake {w n : Int} (h : ¬(0 ≤ n ∧ n ≤ can w)) : takeV w n = w ∧ takeB w n = false := by
  simp only [takeV, takeB, decide_eq_false_iff_not]
  exact ⟨if_neg (fun k => h ⟨k.2.2.1, k.2.2.2⟩), fun k => h ⟨k.2.2.1, k.2.2.2⟩⟩
theorem movGive {w n : Int} (a : 1 ≤ n) (b : n ≤ 2147483647) : movV w n true = giveV w n ∧ movB w n true = giveB w n := by
  have hb : movB w n true = giveB w n := by
    rw [Bool.eq_iff_iff]; simp only [movB, giveB, rgt, Bool.true_and, Bool.and_eq_true, decide_eq_true_eq]; omega
  refine ⟨?_, hb⟩
  unfold movV
  rw [hb]
  simp only [giveB, giveV, decide_eq_true_eq]
theorem noGive {w n : Int} (h : ¬(1 ≤ n ∧ n ≤ 2147483647)) : giveV w n = w ∧ giveB w n = false := by
  simp only [giveV, giveB, decide_eq_false_iff_not]
  exact ⟨if_neg (fun k => h ⟨k.2.2.1, k.2.2.2.1⟩), fun k => h ⟨k.2.2.1, k.2.2.2.1⟩⟩
theorem movShift {w n : Int} (a : -2147483647 ≤ n ∧ n ≤ 2147483647) : movV w n true = shiftV w n ∧ movB w n true = shiftB w n := by
  have hb : movB w n true = shiftB w n := by
    rw [Bool.eq_iff_iff]; simp only [movB, shiftB, rgt, Bool.true_and, Bool.and_eq_true, decide_eq_true_eq]; omega
  refine ⟨?_, hb⟩
  unfold movV
  rw [hb]
  simp only [shiftB, shiftV, decide_eq_true_eq]
theorem noShift {w n : Int} (h : ¬(-2147483647 ≤ n ∧ n ≤ 2147483647)) : shiftV w n = w ∧ shiftB w n = false := by
  simp only [shiftV, shiftB, decide_eq_false_iff_not]
  exact ⟨if_neg (fun k => h ⟨k.2.2.1, k.2.2.2.1⟩), fun k => h ⟨k.2.2.1, k.2.2.2.1⟩⟩

theorem fTake (w n : Int) (h0 : -9223372036854775808 ≤ w) (h1 : w ≤ 9223372036854775807) (n0 : -9223372036854775808 ≤ n) (n1 : n ≤ 9223372036854775807) (W : World) :
    Calls Try.prog 7 #[.int .i64 w, .int .i64 n] W (Ret (.tuple #[.int .i64 (takeV w n), .bool (takeB w n)]) W) := by
  have cl := can_le w
  by_cases hs : 0 ≤ n ∧ n ≤ can w
  · rw [← (movTake hs.1 hs.2).1, ← (movTake hs.1 hs.2).2]
    obtain ⟨s1, s2⟩ := hs
    go_enter Try.func7, Try.ntmps7
    go_wp2_with (first | (go_at_call 15; refine (fCan _ (by omega) (by omega) _).mono ?_; rintro e w' ⟨rfl, rfl⟩) | (go_at_call 20; refine (fMoved _ _ (by omega) (by omega) (by omega) (by omega) _).mono ?_; rintro e w' ⟨rfl, rfl⟩))
    go_ret2
    exact ⟨rfl, rfl⟩
  · rw [(noTake hs).1, (noTake hs).2]
    by_cases hn : 0 ≤ n
    · have hc : decide (n ≤ can w) = false := decide_eq_false (by omega)
      clear hs
      go_enter Try.func7, Try.ntmps7
      go_wp2_with (first | (go_at_call 15; refine (fCan _ (by omega) (by omega) _).mono ?_; rintro e w' ⟨rfl, rfl⟩) | (go_at_call 20; refine (fMoved_no _ _ _).mono ?_; rintro e w' ⟨rfl, rfl⟩))
      go_ret2
      exact ⟨rfl, rfl⟩
    · have hc : n < 0 := by omega
      clear hs hn
      go_enter Try.func7, Try.ntmps7
      go_wp2_with (first | (go_at_call 15; refine (fCan _ (by omega) (by omega) _).mono ?_; rintro e w' ⟨rfl, rfl⟩) | (go_at_call 20; refine (fMoved_no _ _ _).mono ?_; rintro e w' ⟨rfl, rfl⟩))
      go_ret2
      exact ⟨rfl, rfl⟩

theorem fGive (w n : Int) (h0 : -9223372036854775808 ≤ w) (h1 : w ≤ 9223372036854775807) (n0 : -9223372036854775808 ≤ n) (n1 : n ≤ 9223372036854775807) (W : World) :
    Calls Try.prog 9 #[.int .i64 w, .int .i64 n] W (Ret (.tuple #[.int .i64 (giveV w n), .bool (giveB w n)]) W) := by
  by_cases hs : 1 ≤ n ∧ n ≤ 2147483647
  · rw [← (movGive hs.1 hs.2).1, ← (movGive hs.1 hs.2).2]
    obtain ⟨s1, s2⟩ := hs
    go_enter Try.func9, Try.ntmps9
    go_wp2_with (first | (go_at_call 20; refine (fMoved _ _ (by omega) (by omega) (by omega) (by omega) _).mono ?_; rintro e w' ⟨rfl, rfl⟩))
    go_ret2
    exact ⟨rfl, rfl⟩
  · rw [(noGive hs).1, (noGive hs).2]
    by_cases hn : 1 ≤ n
    · have hc : decide (n ≤ 2147483647) = false := decide_eq_false (by omega)
      clear hs
      go_enter Try.func9, Try.ntmps9
      go_wp2_with (first | (go_at_call 20; refine (fMoved_no _ _ _).mono ?_; rintro e w' ⟨rfl, rfl⟩))
      go_ret2
      exact ⟨rfl, rfl⟩
    · have hc : n < 1 := by omega
      clear hs hn
      go_enter Try.func9, Try.ntmps9
      go_wp2_with (first | (go_at_call 20; refine (fMoved_no _ _ _).mono ?_; rintro e w' ⟨rfl, rfl⟩))
      go_ret2
      exact ⟨rfl, rfl⟩

theorem fShift (w n : Int) (h0 : -9223372036854775808 ≤ w) (h1 : w ≤ 9223372036854775807) (n0 : -9223372036854775808 ≤ n) (n1 : n ≤ 9223372036854775807) (W : World) :
    Calls Try.prog 11 #[.int .i64 w, .int .i64 n] W (Ret (.tuple #[.int .i64 (shiftV w n), .bool (shiftB w n)]) W) := by
  by_cases hs : -2147483647 ≤ n ∧ n ≤ 2147483647
  · rw [← (movShift hs).1, ← (movShift hs).2]
    have hb := rgt_t hs
    obtain ⟨s1, s2⟩ := hs
    go_enter Try.func11, Try.ntmps11
    go_wp2_with (first | (go_at_call 13; refine (fRight _ (by omega) (by omega) _).mono ?_; rintro e w' ⟨rfl, rfl⟩) | (go_at_call 20; refine (fMoved _ _ (by omega) (by omega) (by omega) (by omega) _).mono ?_; rintro e w' ⟨rfl, rfl⟩))
    go_ret2
    exact ⟨rfl, rfl⟩
  · rw [(noShift hs).1, (noShift hs).2]
    have hb := rgt_n hs
    go_enter Try.func11, Try.ntmps11
    go_wp2_with (first | (go_at_call 13; refine (fRight _ (by omega) (by omega) _).mono ?_; rintro e w' ⟨rfl, rfl⟩) | (go_at_call 20; refine (fMoved_no _ _ _).mono ?_; rintro e w' ⟨rfl, rfl⟩))
    go_ret2
    exact ⟨rfl, rfl⟩

theorem fTakeR (w n : Int) (h0 : -9223372036854775808 ≤ w) (h1 : w ≤ 9223372036854775807) (n0 : -9223372036854775808 ≤ n) (n1 : n ≤ 9223372036854775807) (W : World) :
    Calls Try.prog 8 #[.int .i64 w, .int .i64 n] W (Ret (.tuple #[.int .i64 (takeV w n), .bool (takeB w n)]) W) := by
  have cl := can_le w
  by_cases hr : -2147483647 ≤ w ∧ w ≤ 2147483647
  · have hb := rgt_t hr
    by_cases hs : 0 ≤ n ∧ n ≤ can w
    · have e1 : takeV w n = w - n := if_pos ⟨hr.1, hr.2, hs.1, hs.2⟩
      have e2 : takeB w n = true := decide_eq_true ⟨hr.1, hr.2, hs.1, hs.2⟩
      rw [e1, e2]
      clear e1 e2
      obtain ⟨r1, r2⟩ := hr
      obtain ⟨s1, s2⟩ := hs
      go_enter Try.func8, Try.ntmps8
      go_wp2_with (first | (go_at_call 16; refine (fCanR _ (by omega) (by omega) _).mono ?_; rintro e w' ⟨rfl, rfl⟩) | (go_at_call 14; refine (fRightR _ (by omega) (by omega) _).mono ?_; rintro e w' ⟨rfl, rfl⟩))
      go_ret2
      exact ⟨rfl, rfl⟩
    · rw [(noTake hs).1, (noTake hs).2]
      by_cases hn : 0 ≤ n
      · have hc : can w < n := by omega
        clear hs
        go_enter Try.func8, Try.ntmps8
        go_wp2_with (first | (go_at_call 16; refine (fCanR _ (by omega) (by omega) _).mono ?_; rintro e w' ⟨rfl, rfl⟩) | (go_at_call 14; refine (fRightR _ (by omega) (by omega) _).mono ?_; rintro e w' ⟨rfl, rfl⟩))
        go_ret2
        exact ⟨rfl, rfl⟩
      · have hc : n < 0 := by omega
        clear hs hn
        go_enter Try.func8, Try.ntmps8
        go_wp2_with (first | (go_at_call 16; refine (fCanR _ (by omega) (by omega) _).mono ?_; rintro e w' ⟨rfl, rfl⟩) | (go_at_call 14; refine (fRightR _ (by omega) (by omega) _).mono ?_; rintro e w' ⟨rfl, rfl⟩))
        go_ret2
        exact ⟨rfl, rfl⟩
  · have hb := rgt_n hr
    have e1 : takeV w n = w := if_neg (fun k => hr ⟨k.1, k.2.1⟩)
    have e2 : takeB w n = false := decide_eq_false (fun k => hr ⟨k.1, k.2.1⟩)
    rw [e1, e2]
    clear e1 e2
    go_enter Try.func8, Try.ntmps8
    go_wp2_with (first | (go_at_call 16; refine (fCanR _ (by omega) (by omega) _).mono ?_; rintro e w' ⟨rfl, rfl⟩) | (go_at_call 14; refine (fRightR _ (by omega) (by omega) _).mono ?_; rintro e w' ⟨rfl, rfl⟩))
    go_ret2
    exact ⟨rfl, rfl⟩

theorem fGiveR (w n : Int) (h0 : -9223372036854775808 ≤ w) (h1 : w ≤ 9223372036854775807) (n0 : -9223372036854775808 ≤ n) (n1 : n ≤ 9223372036854775807) (W : World) :
    Calls Try.prog 10 #[.int .i64 w, .int .i64 n] W (Ret (.tuple #[.int .i64 (giveV w n), .bool (giveB w n)]) W) := by
  by_cases hr : -2147483647 ≤ w ∧ w ≤ 2147483647
  · have hb := rgt_t hr
    by_cases hs : 1 ≤ n ∧ n ≤ 2147483647
    · by_cases ht : w + n ≤ 2147483647
      · have e1 : giveV w n = w + n := if_pos ⟨hr.1, hr.2, hs.1, hs.2, ht⟩
        have e2 : giveB w n = true := decide_eq_true ⟨hr.1, hr.2, hs.1, hs.2, ht⟩
        rw [e1, e2]
        clear e1 e2
        obtain ⟨r1, r2⟩ := hr
        obtain ⟨s1, s2⟩ := hs
        go_enter Try.func10, Try.ntmps10
        go_wp2_with (first | (go_at_call 16; refine (fCanR _ (by omega) (by omega) _).mono ?_; rintro e w' ⟨rfl, rfl⟩) | (go_at_call 14; refine (fRightR _ (by omega) (by omega) _).mono ?_; rintro e w' ⟨rfl, rfl⟩))
        go_ret2
        exact ⟨rfl, rfl⟩
      · have e1 : giveV w n = w := if_neg (fun k => ht k.2.2.2.2)
        have e2 : giveB w n = false := decide_eq_false (fun k => ht k.2.2.2.2)
        rw [e1, e2]
        clear e1 e2
        obtain ⟨r1, r2⟩ := hr
        obtain ⟨s1, s2⟩ := hs
        go_enter Try.func10, Try.ntmps10
        go_wp2_with (first | (go_at_call 16; refine (fCanR _ (by omega) (by omega) _).mono ?_; rintro e w' ⟨rfl, rfl⟩) | (go_at_call 14; refine (fRightR _ (by omega) (by omega) _).mono ?_; rintro e w' ⟨rfl, rfl⟩))
        go_ret2
        exact ⟨rfl, rfl⟩
    · rw [(noGive hs).1, (noGive hs).2]
      by_cases hn : 1 ≤ n
      · have hc : 2147483647 < n := by omega
        clear hs
        go_enter Try.func10, Try.ntmps10
        go_wp2_with (first | (go_at_call 16; refine (fCanR _ (by omega) (by omega) _).mono ?_; rintro e w' ⟨rfl, rfl⟩) | (go_at_call 14; refine (fRightR _ (by omega) (by omega) _).mono ?_; rintro e w' ⟨rfl, rfl⟩))
        go_ret2
        exact ⟨rfl, rfl⟩
      · have hc : n < 1 := by omega
        clear hs hn
        go_enter Try.func10, Try.ntmps10
        go_wp2_with (first | (go_at_call 16; refine (fCanR _ (by omega) (by omega) _).mono ?_; rintro e w' ⟨rfl, rfl⟩) | (go_at_call 14; refine (fRightR _ (by omega) (by omega) _).mono ?_; rintro e w' ⟨rfl, rfl⟩))
        go_ret2
        exact ⟨rfl, rfl⟩
  · have hb := rgt_n hr
    have e1 : giveV w n = w := if_neg (fun k => hr ⟨k.1, k.2.1⟩)
    have e2 : giveB w n = false := decide_eq_false (fun k => hr ⟨k.1, k.2.1⟩)
    rw [e1, e2]
    clear e1 e2
    go_enter Try.func10, Try.ntmps10
    go_wp2_with (first | (go_at_call 16; refine (fCanR _ (by omega) (by omega) _).mono ?_; rintro e w' ⟨rfl, rfl⟩) | (go_at_call 14; refine (fRightR _ (by omega) (by omega) _).mono ?_; rintro e w' ⟨rfl, rfl⟩))
    go_ret2
    exact ⟨rfl, rfl⟩

theorem fShiftR (w n : Int) (h0 : -9223372036854775808 ≤ w) (h1 : w ≤ 9223372036854775807) (n0 : -9223372036854775808 ≤ n) (n1 : n ≤ 9223372036854775807) (W : World) :
    Calls Try.prog 12 #[.int .i64 w, .int .i64 n] W (Ret (.tuple #[.int .i64 (shiftV w n), .bool (shiftB w n)]) W) := by
  by_cases hr : -2147483647 ≤ w ∧ w ≤ 2147483647
  · have hb := rgt_t hr
    by_cases hs : -2147483647 ≤ n ∧ n ≤ 2147483647
    · have hc := rgt_t hs
      by_cases ht : -2147483647 ≤ w + n ∧ w + n ≤ 2147483647
      · have hd := rgt_t ht
        have e1 : shiftV w n = w + n := if_pos ⟨hr.1, hr.2, hs.1, hs.2, ht.1, ht.2⟩
        have e2 : shiftB w n = true := decide_eq_true ⟨hr.1, hr.2, hs.1, hs.2, ht.1, ht.2⟩
        rw [e1, e2]
        clear e1 e2
        obtain ⟨r1, r2⟩ := hr
        obtain ⟨s1, s2⟩ := hs
        go_enter Try.func12, Try.ntmps12
        go_wp2_with (first | (go_at_call 14; refine (fRightR _ (by omega) (by omega) _).mono ?_; rintro e w' ⟨rfl, rfl⟩))
        go_ret2
        exact ⟨rfl, rfl⟩
      · have hd := rgt_n ht
        have e1 : shiftV w n = w := if_neg (fun k => ht k.2.2.2.2)
        have e2 : shiftB w n = false := decide_eq_false (fun k => ht k.2.2.2.2)
        rw [e1, e2]
        clear e1 e2
        obtain ⟨r1, r2⟩ := hr
        obtain ⟨s1, s2⟩ := hs
        go_enter Try.func12, Try.ntmps12
        go_wp2_with (first | (go_at_call 14; refine (fRightR _ (by omega) (by omega) _).mono ?_; rintro e w' ⟨rfl, rfl⟩))
        go_ret2
        exact ⟨rfl, rfl⟩
    · have hc := rgt_n hs
      rw [(noShift hs).1, (noShift hs).2]
      go_enter Try.func12, Try.ntmps12
      go_wp2_with (first | (go_at_call 14; refine (fRightR _ (by omega) (by omega) _).mono ?_; rintro e w' ⟨rfl, rfl⟩))
      go_ret2
      exact ⟨rfl, rfl⟩
  · have hb := rgt_n hr
    have e1 : shiftV w n = w := if_neg (fun k => hr ⟨k.1, k.2.1⟩)
    have e2 : shiftB w n = false := decide_eq_false (fun k => hr ⟨k.1, k.2.1⟩)
    rw [e1, e2]
    clear e1 e2
    go_enter Try.func12, Try.ntmps12
    go_wp2_with (first | (go_at_call 14; refine (fRightR _ (by omega) (by omega) _).mono ?_; rintro e w' ⟨rfl, rfl⟩))
    go_ret2
    exact ⟨rfl, rfl⟩
end Go.Proofs.Ytfifjeljbbanmaa
