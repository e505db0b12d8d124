/- The iterator over a head's numbers. -/
import Derived.Test.YteghfgjdicmknaaHu
import Derived.Test.YteghfgjdicmknaaT
namespace Go.Proofs.Yteghfgjdicmknaa
open Go.RowKit Go.Shelf
set_option linter.unusedVariables false

abbrev Part := { x : Nat × Nat // x.1 < 4294967296 ∧ x.2 ≤ 4 }
def part (n c : Nat) (h : n < 4294967296) (h' : c ≤ 4) : Part := ⟨(n, c), h, h'⟩
def partsL (L k f s : Nat) (hL : L < 4294967296) (hk : k < 4294967296) (hf : f < 4294967296) (hs : s < 4294967296) : List Part := [part L 3 hL (by decide), part k 1 hk (by decide), part f 1 hf (by decide), part s 4 hs (by decide)]
def encP (x : Part) : Array Value := #[.int .u64 x.1.1, .int .i64 (8 * (x.1.2 : Int))]
theorem encP_part (n c : Nat) (h : n < 4294967296) (h' : c ≤ 4) (b : Int) (hb : 8 * (c : Int) = b) : encP (part n c h h') = #[.int .u64 n, .int .i64 b] := by subst hb; rfl

set_option maxRecDepth 100000 in
set_option maxHeartbeats 1000000 in
theorem parts1_in (n : Nat) (hn : 1 ≤ n) (l Bh : Nat) (L k f s : Nat) (hL : L < 4294967296) (hk : k < 4294967296) (hf : f < 4294967296) (hs : s < 4294967296) (L1 : L < 16777216) (k0 : k ≤ 255) (f0 : f ≤ 255) (s1 : s < 2147483648)
    (J Jx : List Part → World → Prop)
    (hY : ∀ pre x W, J pre W → pre.length < 4 → YieldAt Fence.wide (n - 1) Try.prog l (encP x) W fun e W' =>
      (e = .returned (.bool true) ∧ J (pre ++ [x]) W' ∧ Same1 Bh W W') ∨ (e = .returned (.bool false) ∧ Jx (pre ++ [x]) W'))
    (W : World) (hb : Blk4 W Bh 23 (.int .i64 L) (.int .u8 k) (.int .u8 f) (.int .i64 s)) (h0 : J [] W) :
    CallsIn Fence.wide n Try.prog 29 #[.func (.yield l) #[] #[], .pointer (some ⟨Bh, 0, none⟩)] W fun e W' => (∃ v, e = .returned v) ∧
      ((∃ ys, ys = partsL L k f s hL hk hf hs ∧ J ys W') ∨ (∃ pre : List Part, True ∧ Jx pre W')) := by
  refine callsIn_of_wp Try.func29 rfl trivial ?_ rfl
  simp only [Try.ntmps29, List.size_toArray, List.length_cons, List.length_nil, Nat.reduceAdd, Nat.reduceSub, Array.replicate_succ, Array.replicate_zero, List.push_toArray, List.append_toArray, List.nil_append, List.cons_append]
  obtain ⟨d0, d1, d2, d3⟩ := hb.cells
  have HB := Lib.hid hb
  clear hb
  obtain ⟨fn1, tmps1, assign1, body1, hyy1, hR1⟩ := hY [] (part L 3 hL (by decide)) W h0 (by decide)
  rw [encP_part _ _ _ _ 24 (by decide)] at hyy1
  gi_wp2
  refine hR1.mono ?_
  rintro e W1 (⟨rfl, hJ1, hk1⟩ | ⟨rfl, hJx1⟩)
  case inr =>
    gi_wp2
    repeat (refine ⟨(by intro f h; cases h), ?_⟩; try gi_wp2)
    go_end0
    exact ⟨⟨_, rfl⟩, .inr ⟨_, trivial, hJx1⟩⟩
  have q1 : Blk4 W1 Bh 23 (.int .i64 L) (.int .u8 k) (.int .u8 f) (.int .i64 s) := Eq.trans hk1 HB.out
  clear hyy1 hR1 d0 d1 d2 d3 hk1
  obtain ⟨d0, d1, d2, d3⟩ := q1.cells
  have Q1 := Lib.hid q1
  clear q1
  obtain ⟨fn2, tmps2, assign2, body2, hyy2, hR2⟩ := hY [part L 3 hL (by decide)] (part k 1 hk (by decide)) W1 hJ1 (by simp)
  rw [encP_part _ _ _ _ 8 (by decide)] at hyy2
  gi_wp2
  refine hR2.mono ?_
  rintro e W2 (⟨rfl, hJ2, hk2⟩ | ⟨rfl, hJx2⟩)
  case inr =>
    gi_wp2
    repeat (refine ⟨(by intro f h; cases h), ?_⟩; try gi_wp2)
    go_end0
    exact ⟨⟨_, rfl⟩, .inr ⟨_, trivial, hJx2⟩⟩
  have q2 : Blk4 W2 Bh 23 (.int .i64 L) (.int .u8 k) (.int .u8 f) (.int .i64 s) := Eq.trans hk2 Q1.out
  clear hyy2 hR2 d0 d1 d2 d3 hk2
  obtain ⟨d0, d1, d2, d3⟩ := q2.cells
  have Q2 := Lib.hid q2
  clear q2
  obtain ⟨fn3, tmps3, assign3, body3, hyy3, hR3⟩ := hY [part L 3 hL (by decide), part k 1 hk (by decide)] (part f 1 hf (by decide)) W2 hJ2 (by simp)
  rw [encP_part _ _ _ _ 8 (by decide)] at hyy3
  gi_wp2
  refine hR3.mono ?_
  rintro e W3 (⟨rfl, hJ3, hk3⟩ | ⟨rfl, hJx3⟩)
  case inr =>
    gi_wp2
    repeat (refine ⟨(by intro f h; cases h), ?_⟩; try gi_wp2)
    go_end0
    exact ⟨⟨_, rfl⟩, .inr ⟨_, trivial, hJx3⟩⟩
  have q3 : Blk4 W3 Bh 23 (.int .i64 L) (.int .u8 k) (.int .u8 f) (.int .i64 s) := Eq.trans hk3 Q2.out
  clear hyy3 hR3 d0 d1 d2 d3 hk3
  obtain ⟨d0, d1, d2, d3⟩ := q3.cells
  have Q3 := Lib.hid q3
  clear q3
  obtain ⟨fn4, tmps4, assign4, body4, hyy4, hR4⟩ := hY [part L 3 hL (by decide), part k 1 hk (by decide), part f 1 hf (by decide)] (part s 4 hs (by decide)) W3 hJ3 (by simp)
  rw [encP_part _ _ _ _ 32 (by decide)] at hyy4
  gi_wp2
  refine hR4.mono ?_
  rintro e W4 (⟨rfl, hJ4, hk4⟩ | ⟨rfl, hJx4⟩)
  case inr =>
    gi_wp2
    repeat (refine ⟨(by intro f h; cases h), ?_⟩; try gi_wp2)
    go_end0
    exact ⟨⟨_, rfl⟩, .inr ⟨_, trivial, hJx4⟩⟩
  gi_wp2
  go_end0
  exact ⟨⟨_, rfl⟩, .inl ⟨_, rfl, hJ4⟩⟩

theorem parts_stops (n : Nat) (hn : 1 ≤ n) (Bh : Nat) (L k f s : Nat) (hL : L < 4294967296) (hk : k < 4294967296) (hf : f < 4294967296) (hs : s < 4294967296) (L1 : L < 16777216) (k0 : k ≤ 255) (f0 : f ≤ 255) (s1 : s < 2147483648) (w : World)
    (hb : Blk4 w Bh 23 (.int .i64 L) (.int .u8 k) (.int .u8 f) (.int .i64 s)) :
    SeqP (fun _ => False) Fence.wide n Try.prog 29 #[.pointer (some ⟨Bh, 0, none⟩)] encP (Same1 Bh) (fun ys => ys = partsL L k f s hL hk hf hs) (fun _ => True) 4 w :=
  fun l J Jx W hW hJ _ hJp hY h0 => parts1_in n hn l Bh L k f s hL hk hf hs L1 k0 f0 s1 J Jx hY W (hb.below hW) h0

set_option maxHeartbeats 1000000 in
theorem parts_in (n : Nat) (L k f s : Int) (w : World) :
    CallsIn Fence.wide n Try.prog 21 #[.agg #[.int .i64 L, .int .u8 k, .int .u8 f, .int .i64 s]] w fun e w' => e = .returned (.func (.func 29) #[] #[.pointer (some ⟨w.heap.size, 0, none⟩)]) ∧ w' = w.alloc (.cells #[.int .i64 L, .int .u8 k, .int .u8 f, .int .i64 s] 23) := by
  refine callsIn_of_wp Try.func21 rfl trivial ?_ rfl
  simp only [Try.ntmps21, List.size_toArray, List.length_cons, List.length_nil, Nat.reduceAdd, Nat.reduceSub, Array.replicate_succ, Array.replicate_zero, List.push_toArray, List.append_toArray, List.nil_append, List.cons_append]
  gi_wp2
  go_ret
  exact ⟨by simp, rfl⟩
end Go.Proofs.Yteghfgjdicmknaa
