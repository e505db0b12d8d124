/- The map of rules: keys that are structs of a bool and a byte. -/
import Derived.Test.YtbooojpohfdljaaBa
import Derived.Test.YtbooojpohfdljaaMi
namespace Go.Proofs.Ytbooojpohfdljaa
open Go.RowKit Go.Shelf Go.ChangeMaps
set_option linter.unusedVariables false

abbrev camV (x : Bool × Int) : Value := .agg #[.bool x.1, .int .u8 x.2]
theorem camKey : KeyOf Try.prog 48 camV where
  check w em x := by
    show (Instr.checkKey em (9999 + 1) 48 (camV x)).run Try.prog w = _
    rw [Instr.checkKey]
    have p0 : (Go.part 4 #[.bool x.1, .int .u8 x.2] 0).run Try.prog w = .ok (.bool x.1) w := by kernel_rfl
    have p1 : (Go.part 5 #[.bool x.1, .int .u8 x.2] 1).run Try.prog w = .ok (.int .u8 x.2) w := by kernel_rfl
    have c0 : (Instr.checkKey em 9999 4 (.bool x.1)).run Try.prog w = .ok () w := by
      rw [show (9999 : Nat) = 9998 + 1 from rfl, Instr.checkKey]
      simp [run_underlying Try.underlying4]
    have c1 : (Instr.checkKey em 9999 5 (.int .u8 x.2)).run Try.prog w = .ok () w := by
      rw [show (9999 : Nat) = 9998 + 1 from rfl, Instr.checkKey]
      simp [run_underlying Try.underlying5]
    simp [run_underlying Try.underlying48, p0, p1, c0, c1]
  find w x l := by
    have h : ∀ (l : List ((Bool × Int) × Value × Nat)) (i : Nat), (Instr.findAsking 48 (camV x) (l.map (ent camV)) i).run Try.prog w = .ok (look x l i) w := by
      intro l
      induction l with
      | nil => intro i; rfl
      | cons e r ih =>
        intro i
        have he : (Go.Op.equal 48 (camV x) (camV e.1)).run Try.prog w = .ok (decide (x = e.1)) w := by
          have p0 : ∀ (a : Bool) (b : Int), (Go.part 4 #[.bool a, .int .u8 b] 0).run Try.prog w = .ok (.bool a) w := fun a b => by kernel_rfl
          have p1 : ∀ (a : Bool) (b : Int), (Go.part 5 #[.bool a, .int .u8 b] 1).run Try.prog w = .ok (.int .u8 b) w := fun a b => by kernel_rfl
          have q0 : ∀ (a b : Bool), (Go.Op.equalIn 9999 4 (.bool a) (.bool b)).run Try.prog w = .ok (a == b) w := fun a b => run_equalIn_bool w 9998 _ a b Try.underlying4
          have q1 : ∀ (a b : Int), (Go.Op.equalIn 9999 5 (.int .u8 a) (.int .u8 b)).run Try.prog w = .ok (a == b) w := fun a b => by
            rw [show (9999 : Nat) = 9998 + 1 from rfl, Go.Op.equalIn]
            simp [run_underlying Try.underlying5]
          have hst : Try.prog.stoodInHeld 48 = false := by kernel_rfl
          show (Go.Op.equalIn (9999 + 1) 48 (camV x) (camV e.1)).run Try.prog w = _
          rw [Go.Op.equalIn]
          obtain ⟨x1, x2⟩ := x
          obtain ⟨⟨e1, e2⟩, _, _⟩ := e
          by_cases h1 : x1 = e1 <;> by_cases h2 : x2 = e2 <;> simp [run_underlying Try.underlying48, hst, p0, p1, q0, q1, h1, h2]
        rw [List.map_cons, Instr.findAsking]
        simp only [ent, Sem.run_bind, he, Result.andThen_ok, look]
        by_cases h1 : x = e.1
        · rw [if_pos h1, decide_eq_true h1]; rfl
        · rw [if_neg h1, decide_eq_false h1]; exact ih (i + 1)
    cases l with
    | nil => simp [Instr.findKey, run_underlying Try.underlying48, Instr.findNow, look]
    | cons e r =>
      have := h (e :: r) 0
      simp only [Instr.findKey, Sem.run_bind, run_underlying Try.underlying48, Result.andThen_ok, List.map_cons, Instr.findNow, ent, Instr.sameNow]
      exact this
  stays w x := by
    have h : Instr.sameBits (9999 + 1) (camV x) (camV x) = true := by simp [Instr.sameBits]
    unfold Instr.keyThatStays
    rw [show (10000 : Nat) = 9999 + 1 from rfl, h]
    rfl

/-- The rules: what comes of what comes. -/
def ruleJ : List (Ent (Bool × Int)) := [(2, (false, 1), .int .i64 1), (4, (false, 9), .int .i64 3), (6, (true, 9), .int .i64 2), (8, (true, 1), .int .i64 3), (10, (true, 6), .int .i64 3)]
def ruleM : Bool × Int → Option Value := allOf ruleJ fun _ => none

set_option maxRecDepth 100000 in
set_option maxHeartbeats 1000000 in
theorem fRules (w : World) : Calls Try.prog 18 #[] w fun e W' => ∃ b, e = .returned (.map (some b)) ∧ MapF camV W' b ruleM ∧ Below w.heap.size w W' := by
  have hmm := @run_makeMap Try.prog
  go_enter Try.func18, Try.ntmps18
  go_wp2_with fail
  refine wp_region_G (fun _ => True) [] (by kernel_rfl) ?_
  refine wpAnyG_take 1 (v := ?_) rfl (by kernel_rfl) (fun _ _ _ h => h) trivial (Or.inl ⟨by rfl, by intro w' hSw; (try dsimp only at hSw); go_simp; try with_reducible rfl⟩) ?_; (try simp only [Act.put, go_sem])
  refine wpAnyG_take 3 (v := ?_) rfl (by kernel_rfl) (fun _ _ _ h => h) trivial (Or.inl ⟨by rfl, by intro w' hSw; (try dsimp only at hSw); go_simp; try with_reducible rfl⟩) ?_; (try simp only [Act.put, go_sem])
  refine wpAnyG_take 5 (v := ?_) rfl (by kernel_rfl) (fun _ _ _ h => h) trivial (Or.inl ⟨by rfl, by intro w' hSw; (try dsimp only at hSw); go_simp; try with_reducible rfl⟩) ?_; (try simp only [Act.put, go_sem])
  refine wpAnyG_take 7 (v := ?_) rfl (by kernel_rfl) (fun _ _ _ h => h) trivial (Or.inl ⟨by rfl, by intro w' hSw; (try dsimp only at hSw); go_simp; try with_reducible rfl⟩) ?_; (try simp only [Act.put, go_sem])
  refine wpAnyG_take 9 (v := ?_) rfl (by kernel_rfl) (fun _ _ _ h => h) trivial (Or.inl ⟨by rfl, by intro w' hSw; (try dsimp only at hSw); go_simp; try with_reducible rfl⟩) ?_; (try simp only [Act.put, go_sem])
  refine wpAnyG_one 0 (by kernel_rfl) rfl (fun K hK => ?_)
  go_simp
  refine hK.out _ _ (fun _ => trivial) ?_
  clear hK K hmm
  (try simp only [Act.put, go_sem])
  refine wpAnyG_inserts ruleJ _ (List.toArray [true, true, true, true, true, true, true, true, true, true, true, false, false]) _ 45 (.tmp 1) camKey Try.underlying45 w.heap.size rfl (fun _ => none) (by kernel_rfl) ?jops (by kernel_rfl) (fun W => Below w.heap.size w W) ?I (fun _ _ => trivial) 2 ?end_ _ (MapF.made _) ?start
  case jops =>
    intro j hj
    simp only [ruleJ, List.mem_cons, List.not_mem_nil, or_false] at hj
    rcases hj with rfl | rfl | rfl | rfl | rfl <;> exact ⟨_, _, _, rfl, rfl, rfl, rfl, rfl, rfl⟩
  case I => exact fun W W' hb hg => hb.grown hg hb.size (fun r e => by simp at e; omega)
  case start => exact ((Below.refl _ _).alloc (Nat.le_refl _) _).trans (drew_below _ _)
  case end_ =>
    intro w' hm hb
    refine wpAnyG_one 11 (by kernel_rfl) rfl (fun K hK => ?_)
    go_simp
    refine hK.out _ _ (fun _ => trivial) ?_
    clear hK K
    refine wpAnyG_one 12 (by kernel_rfl) rfl (fun K hK => ?_)
    go_simp
    refine hK.out _ _ (fun _ => trivial) ?_
    clear hK K
    refine wpAnyG_done (by kernel_rfl) ?_ _
    go_wp2
    go_ret
    exact ⟨_, rfl, hm, hb⟩
end Go.Proofs.Ytbooojpohfdljaa
