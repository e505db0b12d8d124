/- Which kinds are known: the contracts. -/
import Derived.Test.YteghfgjdicmknaaHa
import Derived.Test.YteghfgjdicmknaaMp
namespace Go.Proofs.Yteghfgjdicmknaa
open Go.RowKit Go.Shelf Go.ChangeMaps
set_option linter.unusedVariables false

def knownB (x : Int) : Bool := decide ((0 ≤ x ∧ x ≤ 9) ∨ x = 16)
/-- The map of kinds, when the first k are in. -/
def kindM (k : Nat) (x : Int) : Option Value := if (0 ≤ x ∧ x < k) ∨ x = 16 then some (.int .i64 1) else none
abbrev u8V (x : Int) : Value := Value.int .u8 x
theorem kindM_zero : (fun y : Int => if y = 16 then some (Value.int .i64 1) else none) = kindM 0 := by
  funext y
  unfold kindM
  by_cases h : y = 16
  · rw [if_pos h, if_pos (.inr h)]
  · rw [if_neg h, if_neg (by omega)]
theorem kindM_succ (k : Nat) : (fun y : Int => if y = (k : Int) then some (Value.int .i64 1) else kindM k y) = kindM (k + 1) := by
  funext y
  unfold kindM
  by_cases h : y = (k : Int)
  · rw [if_pos h, if_pos (by omega)]
  · rw [if_neg h]
    by_cases h2 : (0 ≤ y ∧ y < (k : Int)) ∨ y = 16
    · rw [if_pos h2, if_pos (by omega)]
    · rw [if_neg h2, if_neg (by omega)]

set_option maxRecDepth 100000 in
set_option maxHeartbeats 4000000 in
theorem fKinds (w : World) : Calls Try.prog 28 #[] w fun e W' => ∃ b, e = .returned (.map (some b)) ∧ MapF u8V W' b (kindM 10) ∧ Below w.heap.size w W' := by
  have hmm := @run_makeMap Try.prog
  go_enter Try.func28, Try.ntmps28
  go_wp2_with (refine wpList_ins _ rfl (.tmp 3) _ _ 50 rfl (intKey (q := .u8) Try.underlying5) Try.underlying50 _ _ rfl (MapF.made _) 16 (.int .i64 1) rfl rfl ?_; intro w1 hm1 hg1)
  rw [kindM_zero] at hm1
  have hb1 : Below w.heap.size w w1 := ((Below.refl _ _).alloc (Nat.le_refl _) _).grown hg1 (by simp) (fun k hk => by simp at hk; omega)
  clear hg1 hmm
  go_loopw [2] (fun v wr => ∃ k : Nat, k ≤ 10 ∧ v = .int .u8 k ∧ MapF u8V wr w.heap.size (kindM k) ∧ Below w.heap.size w wr) (fun v _ => 10 - (intOf v).toNat)
  case atStart => exact ⟨0, by omega, rfl, hm1, hb1⟩
  case round =>
    obtain ⟨k, hk, rfl, hmk, hbk⟩ := hrel
    by_cases hlt : k < 10
    · have hlt2 : decide ((k : Int) ≤ 9) = true := decide_eq_true (by omega)
      go_wp2_with (at_mapUpdate; refine wpList_upd _ rfl _ _ _ 50 rfl (intKey (q := .u8) Try.underlying5) Try.underlying50 _ _ rfl hmk (k : Int) (.int .i64 1) rfl rfl ?_; intro w2 hm2 hg2)
      rw [kindM_succ] at hm2
      exact ⟨⟨k + 1, by omega, by simp, hm2, hbk.grown hg2 hbk.size (fun j hj => by simp at hj; omega)⟩, by simp [intOf]; omega⟩
    · obtain rfl : k = 10 := by omega
      go_wp2
      go_ret
      exact ⟨_, rfl, hmk, hbk⟩

theorem zInt (w : World) : (zeroValue 3).run Try.prog w = .ok (.int .i64 0) w := by kernel_rfl

theorem fKnown (x : Int) (w : World) : Calls Try.prog 19 #[.int .u8 x] w (BoolP (knownB x) w) := by
  have key : ∀ (W' : World) (b : Nat), MapF u8V W' b (kindM 10) → (Instr.lookup 50 (.map (some b)) (.int .u8 x) false).run Try.prog W' = .ok (.int .i64 (if knownB x then 1 else 0)) W' := fun W' b hm => by
    have := hm.lookup (intKey (q := .u8) Try.underlying5) Try.underlying50 (zInt W') x
    rw [this]
    unfold kindM knownB
    by_cases h : (0 ≤ x ∧ x < ((10 : Nat) : Int)) ∨ x = 16
    · rw [if_pos h, if_pos (decide_eq_true (by omega))]
      rfl
    · rw [if_neg h, if_neg (by rw [decide_eq_true_eq]; omega)]
      rfl
  cases hk : knownB x
  · rw [hk] at key
    have K := Lib.hid key
    clear key
    go_enter Try.func19, Try.ntmps19
    go_wp2_with (go_at_call 28; refine (fKinds _).mono ?_; rintro e W' ⟨b, rfl, hm, hb⟩; have hr := K.out W' b hm; simp only [if_false, Bool.false_eq_true] at hr)
    go_ret
    exact ⟨rfl, hb⟩
  · rw [hk] at key
    have K := Lib.hid key
    clear key
    go_enter Try.func19, Try.ntmps19
    go_wp2_with (go_at_call 28; refine (fKinds _).mono ?_; rintro e W' ⟨b, rfl, hm, hb⟩; have hr := K.out W' b hm; simp only [if_true] at hr)
    go_ret
    exact ⟨rfl, hb⟩

theorem rKnown (x : Int) (w : World) (x0 : 0 ≤ x) : Calls Try.prog 20 #[.int .u8 x] w (BoolP (knownB x) w) := by
  by_cases h1 : x ≤ 9
  · have e : knownB x = true := decide_eq_true (by omega)
    rw [e]
    go_enter Try.func20, Try.ntmps20
    go_wp2
    go_ret
    exact ⟨rfl, Below.refl _ _⟩
  have g1 : decide (x ≤ 9) = false := decide_eq_false h1
  by_cases h2 : x = 16
  · have e : knownB x = true := decide_eq_true (by omega)
    rw [e]
    have g2 : (x == 16) = true := by rw [beq_iff_eq]; exact h2
    clear h2 h1
    go_enter Try.func20, Try.ntmps20
    go_wp2
    go_ret
    exact ⟨rfl, Below.refl _ _⟩
  · have e : knownB x = false := decide_eq_false (by omega)
    rw [e]
    have g2 : (x == 16) = false := beq_eq_false_iff_ne.2 h2
    clear h2 h1
    go_enter Try.func20, Try.ntmps20
    go_wp2
    go_ret
    exact ⟨rfl, Below.refl _ _⟩
end Go.Proofs.Yteghfgjdicmknaa
