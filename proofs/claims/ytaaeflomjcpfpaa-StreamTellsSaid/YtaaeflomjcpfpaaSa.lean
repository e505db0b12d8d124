/- Streams: what becomes of frames: the small functions' contracts. -/
import Derived.Test.YtaaeflomjcpfpaaS
import Derived.Test.YtaaeflomjcpfpaaR
import Derived.Test.YtaaeflomjcpfpaaSv
namespace Go.Proofs.Ytaaeflomjcpfpaa
open Go.RowKit Go.Shelf
set_option linter.unusedVariables false

def BoolP (b : Bool) (w : World) (e : Ending) (w' : World) : Prop := e = .returned (.bool b) ∧ Below w.heap.size w w'
/-- What becomes of a frame. -/
structure Cm where
  st : Int
  take : Bool
  whole : Bool
  code : Int
deriving DecidableEq
def comesF (st kd : Int) (en : Bool) : Cm :=
  if ¬(kd = 0 ∨ kd = 1 ∨ kd = 3 ∨ kd = 8) ∨ 7 ≤ st ∨ st = 5 then ⟨st, false, false, 0⟩
  else if st = 0 then (if kd = 1 then ⟨if en then 2 else 1, true, false, 0⟩ else ⟨0, false, true, 1⟩)
  else if st = 4 ∨ st = 6 then (if kd = 0 ∨ kd = 1 then ⟨st, false, true, 5⟩ else ⟨st, false, false, 0⟩)
  else if kd = 3 then ⟨6, true, false, 0⟩
  else if kd = 8 then ⟨st, true, false, 0⟩
  else if st = 2 then ⟨5, false, false, 5⟩
  else if en then ⟨if st = 1 then 2 else 4, true, false, 0⟩
  else if kd = 1 then ⟨5, false, false, 1⟩
  else ⟨st, true, false, 0⟩
def liveB (st : Int) : Bool := decide (st = 1 ∨ st = 2 ∨ st = 3)
def ansB (st : Int) : Bool := decide (st = 1 ∨ st = 2)
def withinB (n m : Int) : Bool := decide (0 ≤ n ∧ n ≤ m)
def CmP (c : Cm) (w : World) (e : Ending) (w' : World) : Prop := e = .returned (.agg #[.int .u8 (c).st, .bool (c).take, .bool (c).whole, .int .u32 (c).code]) ∧ Below w.heap.size w w'

theorem fTook (st : Int) (w : World) : Calls Try.prog 53 #[.int .u8 st] w (CmP ⟨st, true, false, 0⟩ w) := by
  go_enter Try.func53, Try.ntmps53
  go_wp2
  exact bodyPost_ret (v := .agg #[.int .u8 st, .bool true, .bool false, .int .u32 0]) (by simp [results, Try.f53, go_sem]) rfl ⟨rfl, (Below.refl _ _).alloc (Nat.le_refl _) _⟩
theorem fWhole (st c : Int) (w : World) : Calls Try.prog 56 #[.int .u8 st, .int .u32 c] w (CmP ⟨st, false, true, c⟩ w) := by
  go_enter Try.func56, Try.ntmps56
  go_wp2
  exact bodyPost_ret (v := .agg #[.int .u8 st, .bool false, .bool true, .int .u32 c]) (by simp [results, Try.f56, go_sem]) rfl ⟨rfl, (Below.refl _ _).alloc (Nat.le_refl _) _⟩
theorem fReset (c : Int) (w : World) : Calls Try.prog 35 #[.int .u32 c] w (CmP ⟨5, false, false, c⟩ w) := by
  go_enter Try.func35, Try.ntmps35
  go_wp2
  exact bodyPost_ret (v := .agg #[.int .u8 (5), .bool false, .bool false, .int .u32 c]) (by simp [results, Try.f35, go_sem]) rfl ⟨rfl, (Below.refl _ _).alloc (Nat.le_refl _) _⟩
theorem rTook (st : Int) (w : World) : Calls Try.prog 42 #[.int .u8 st] w (CmP ⟨st, true, false, 0⟩ w) := by
  go_enter Try.func42, Try.ntmps42
  go_wp2
  exact bodyPost_ret (v := .agg #[.int .u8 st, .bool true, .bool false, .int .u32 0]) (by simp [results, Try.f42, go_sem]) rfl ⟨rfl, (Below.refl _ _).alloc (Nat.le_refl _) _⟩
theorem rWhole (st c : Int) (w : World) : Calls Try.prog 41 #[.int .u8 st, .int .u32 c] w (CmP ⟨st, false, true, c⟩ w) := by
  go_enter Try.func41, Try.ntmps41
  go_wp2
  exact bodyPost_ret (v := .agg #[.int .u8 st, .bool false, .bool true, .int .u32 c]) (by simp [results, Try.f41, go_sem]) rfl ⟨rfl, (Below.refl _ _).alloc (Nat.le_refl _) _⟩
theorem rReset (c : Int) (w : World) : Calls Try.prog 38 #[.int .u32 c] w (CmP ⟨5, false, false, c⟩ w) := by
  go_enter Try.func38, Try.ntmps38
  go_wp2
  exact bodyPost_ret (v := .agg #[.int .u8 (5), .bool false, .bool false, .int .u32 c]) (by simp [results, Try.f38, go_sem]) rfl ⟨rfl, (Below.refl _ _).alloc (Nat.le_refl _) _⟩
theorem rIgnored (st : Int) (w : World) : Calls Try.prog 37 #[.int .u8 st] w (CmP ⟨st, false, false, 0⟩ w) := by
  go_enter Try.func37, Try.ntmps37
  go_wp2
  exact bodyPost_ret (v := .agg #[.int .u8 st, .bool false, .bool false, .int .u32 0]) (by simp [results, Try.f37, go_sem]) rfl ⟨rfl, (Below.refl _ _).alloc (Nat.le_refl _) _⟩
theorem live_bits : ((List.range 65).all fun k => (bits .and .i64 (wrap64 (2 ^ k)) 14 != 0) == decide (k = 1 ∨ k = 2 ∨ k = 3)) = true := by kernel_rfl
theorem ans_bits : ((List.range 65).all fun k => (bits .and .i64 (wrap64 (2 ^ k)) 6 != 0) == decide (k = 1 ∨ k = 2)) = true := by kernel_rfl
theorem live_eq (st : Int) (h0 : 0 ≤ st) : (bits .and .i64 (wrap64 (2 ^ min st.toNat 64)) 14 != 0) = liveB st := by
  have h := List.all_eq_true.1 live_bits (min st.toNat 64) (List.mem_range.2 (by omega))
  rw [beq_iff_eq.1 h]
  exact decide_eq_decide.2 (by omega)
theorem ans_eq (st : Int) (h0 : 0 ≤ st) : (bits .and .i64 (wrap64 (2 ^ min st.toNat 64)) 6 != 0) = ansB st := by
  have h := List.all_eq_true.1 ans_bits (min st.toNat 64) (List.mem_range.2 (by omega))
  rw [beq_iff_eq.1 h]
  exact decide_eq_decide.2 (by omega)
theorem fLive (st : Int) (h0 : 0 ≤ st) (w : World) : Calls Try.prog 26 #[.int .u8 st] w (Ret (.bool (liveB st)) w) := by
  rw [← live_eq st h0]
  go_enter Try.func26, Try.ntmps26
  go_wp2
  go_ret
  exact ⟨rfl, rfl⟩
theorem fAnswers (st : Int) (h0 : 0 ≤ st) (w : World) : Calls Try.prog 28 #[.int .u8 st] w (Ret (.bool (ansB st)) w) := by
  rw [← ans_eq st h0]
  go_enter Try.func28, Try.ntmps28
  go_wp2
  go_ret
  exact ⟨rfl, rfl⟩
theorem liveB_iff {st : Int} {b : Bool} (h : b = true ↔ (st = 1 ∨ st = 2 ∨ st = 3)) : b = liveB st := by cases b <;> simp_all [liveB]
theorem ansB_iff {st : Int} {b : Bool} (h : b = true ↔ (st = 1 ∨ st = 2)) : b = ansB st := by cases b <;> simp_all [ansB]
theorem withinB_iff {n m : Int} {b : Bool} (h : b = true ↔ (0 ≤ n ∧ n ≤ m)) : b = withinB n m := by cases b <;> simp_all [withinB]
theorem rLive (st : Int) (w : World) : Calls Try.prog 27 #[.int .u8 st] w (Ret (.bool (liveB st)) w) := by
  go_enter Try.func27, Try.ntmps27
  go_wp2
  all_goals go_ret
  all_goals refine ⟨ret_bool (liveB_iff ?_), rfl⟩
  all_goals simp at *
  all_goals omega
theorem rAnswers (st : Int) (w : World) : Calls Try.prog 29 #[.int .u8 st] w (Ret (.bool (ansB st)) w) := by
  go_enter Try.func29, Try.ntmps29
  go_wp2
  all_goals go_ret
  all_goals refine ⟨ret_bool (ansB_iff ?_), rfl⟩
  all_goals simp at *
  all_goals omega
theorem fWithin (n m : Int) (w : World) : Calls Try.prog 34 #[.int .i64 n, .int .i64 m] w (Ret (.bool (withinB n m)) w) := by
  go_enter Try.func34, Try.ntmps34
  go_wp2
  all_goals go_ret
  all_goals refine ⟨ret_bool (withinB_iff ?_), rfl⟩
  all_goals simp at *
  all_goals omega
theorem rEnded (st : Int) (w : World) : Calls Try.prog 43 #[.int .u8 st] w (Ret (.int .u8 (if st = 1 then 2 else 4)) w) := by
  by_cases h : st = 1
  · rw [if_pos h]
    have h1 : (st == 1) = true := beq_iff_eq.2 h
    clear h
    go_enter Try.func43, Try.ntmps43
    go_wp2
    go_ret
    exact ⟨rfl, rfl⟩
  · rw [if_neg h]
    have h1 : (st == 1) = false := beq_eq_false_iff_ne.2 h
    clear h
    go_enter Try.func43, Try.ntmps43
    go_wp2
    go_ret
    exact ⟨rfl, rfl⟩
theorem resC {f : Func} {n : Nat} (hf : f.results = #[.cell n 32]) {R : Ending → World → Prop} {a : Act} {W : World} {g : Nat} {t : TypeId} {x0 x1 x2 x3 : Value} (ha : a.tmps[n]?.getD undef = .pointer (some ⟨g, 0, none⟩)) (hd : a.defers = [])
    (q : Blk W g t #[x0, x1, x2, x3]) (hR : R (.returned (.agg #[x0, x1, x2, x3])) W) : bodyPost Try.prog f R .ret a W := by
  have := q.out (P := Try.prog) (ty := 32) Try.underlying32 rfl (by rfl)
  exact bodyPost_ret (v := .agg #[x0, x1, x2, x3]) (by simp [results, hf, asAddr, ha, this]) hd hR

theorem rIdle (kd : Int) (en : Bool) (w : World) : Calls Try.prog 40 #[.int .u8 kd, .bool en] w (CmP (if kd = 1 then ⟨if en then 2 else 1, true, false, 0⟩ else ⟨0, false, true, 1⟩) w) := by
  have b0 := (Bel.refl w).alloc (.cells #[.int .u8 0, .bool false, .bool false, .int .u32 0] 32)
  have q0 := Blk.new w 32 #[.int .u8 0, .bool false, .bool false, .int .u32 0]
  by_cases h : kd = 1
  · rw [if_pos h]
    have h1 : (kd == 1) = true := beq_iff_eq.2 h
    clear h
    cases en
    all_goals
      go_enter Try.func40, Try.ntmps40
      go_wp2_with (first | (go_at_call 42; refine (rTook _ _).mono ?_; rintro e w1 ⟨rfl, hb⟩; replace b0 := b0.below hb; replace q0 := q0.below hb) | (refine wpList_putB rfl _ _ _ rfl rfl rfl q0 (by rfl) (by rfl) (by rfl) ?_; intro w2 q1 hg; replace b0 := b0.grown hg (Nat.le_refl _)))
      exact resC rfl rfl rfl q1 ⟨rfl, b0.out⟩
  · rw [if_neg h]
    have h1 : (kd == 1) = false := beq_eq_false_iff_ne.2 h
    clear h
    go_enter Try.func40, Try.ntmps40
    go_wp2_with (first | (go_at_call 41; refine (rWhole _ _ _).mono ?_; rintro e w1 ⟨rfl, hb⟩; replace b0 := b0.below hb; replace q0 := q0.below hb) | (refine wpList_putB rfl _ _ _ rfl rfl rfl q0 (by rfl) (by rfl) (by rfl) ?_; intro w2 q1 hg; replace b0 := b0.grown hg (Nat.le_refl _)))
    exact resC rfl rfl rfl q1 ⟨rfl, b0.out⟩
theorem cmR {st kd : Int} {en : Bool} {a : Int} {b c : Bool} {d : Int} (h : comesF st kd en = ⟨a, b, c, d⟩) : Ending.returned (.agg #[.int .u8 a, .bool b, .bool c, .int .u32 d]) = .returned (.agg #[.int .u8 (comesF st kd en).st, .bool (comesF st kd en).take, .bool (comesF st kd en).whole, .int .u32 (comesF st kd en).code]) := by rw [h]
set_option maxHeartbeats 4000000 in
theorem rComes (st kd : Int) (en : Bool) (w : World) : Calls Try.prog 15 #[.int .u8 st, .int .u8 kd, .bool en] w (CmP (comesF st kd en) w) := by
  have b0 := (Bel.refl w).alloc (.cells #[.int .u8 0, .bool false, .bool false, .int .u32 0] 32)
  have q0 := Blk.new w 32 #[.int .u8 0, .bool false, .bool false, .int .u32 0]
  go_enter Try.func15, Try.ntmps15
  go_wp2_with (first | (go_at_call 42; refine (rTook _ _).mono ?_; rintro e w1 ⟨rfl, hb⟩; replace b0 := b0.below hb; replace q0 := q0.below hb) | (go_at_call 41; refine (rWhole _ _ _).mono ?_; rintro e w1 ⟨rfl, hb⟩; replace b0 := b0.below hb; replace q0 := q0.below hb) | (go_at_call 38; refine (rReset _ _).mono ?_; rintro e w1 ⟨rfl, hb⟩; replace b0 := b0.below hb; replace q0 := q0.below hb) | (go_at_call 37; refine (rIgnored _ _).mono ?_; rintro e w1 ⟨rfl, hb⟩; replace b0 := b0.below hb; replace q0 := q0.below hb) | (go_at_call 40; refine (rIdle _ _ _).mono ?_; rintro e w1 ⟨rfl, hb⟩; replace b0 := b0.below hb; replace q0 := q0.below hb) | (go_at_call 43; refine (rEnded _ _).mono ?_; rintro e w1 ⟨rfl, rfl⟩) | (refine wpList_putB rfl _ _ _ rfl rfl rfl q0 (by rfl) (by rfl) (by rfl) ?_; intro w2 q1 hg; replace b0 := b0.grown hg (Nat.le_refl _)))
  all_goals refine resC rfl rfl rfl q1 ⟨cmR ?_, b0.out⟩
  all_goals clear q0 q1 b0 hg
  all_goals (try simp only [beq_iff_eq, beq_eq_false_iff_ne, ne_eq] at *)
  all_goals unfold comesF
  all_goals (repeat' split)
  all_goals first | rfl | omega | (exfalso; simp_all; done) | (simp_all; done) | (simp_all; omega)
def sendsF (st kd : Int) (en : Bool) : Int × Bool :=
  if kd = 3 ∧ (st = 1 ∨ st = 2 ∨ st = 3) then (5, true) else if ¬(kd = 0 ∨ kd = 1) ∨ ¬(st = 1 ∨ st = 2) then (st, false) else if en = false then (st, true) else if st = 1 then (3, true) else (4, true)
def SnP (p : Int × Bool) (w : World) (e : Ending) (w' : World) : Prop := e = .returned (.tuple #[.int .u8 p.1, .bool p.2]) ∧ Below w.heap.size w w'
theorem snR {st kd : Int} {en : Bool} {a : Int} {b : Bool} (h : sendsF st kd en = (a, b)) : Ending.returned (.tuple #[.int .u8 a, .bool b]) = .returned (.tuple #[.int .u8 (sendsF st kd en).1, .bool (sendsF st kd en).2]) := by rw [h]
set_option maxHeartbeats 4000000 in
theorem rSends (st kd : Int) (en : Bool) (w : World) : Calls Try.prog 23 #[.int .u8 st, .int .u8 kd, .bool en] w (SnP (sendsF st kd en) w) := by
  go_enter Try.func23, Try.ntmps23
  go_wp2_with (first | (go_at_call 27; refine (rLive _ _).mono ?_; rintro e w1 ⟨rfl, rfl⟩) | (go_at_call 29; refine (rAnswers _ _).mono ?_; rintro e w1 ⟨rfl, rfl⟩))
  all_goals go_ret2
  all_goals refine ⟨snR ?_, Below.refl _ _⟩
  all_goals (try simp only [beq_iff_eq, beq_eq_false_iff_ne, ne_eq, liveB, ansB, decide_eq_true_eq, decide_eq_false_iff_not] at *)
  all_goals unfold sendsF
  all_goals (repeat' split)
  all_goals first | rfl | omega | (exfalso; simp_all; done) | (simp_all; done) | (simp_all; omega)
end Go.Proofs.Ytaaeflomjcpfpaa
