/- The contract of window.Cut, which ranges over the function value that each hands back; and of the document's Cut. -/
import Derived.RangeFuncNested
import Derived.RangeFuncBound
import Derived.RangeFuncCalls
import Derived.RangeFuncLeaves
import Derived.RangeFuncBox
import Derived.Shelf.Abstract
import Derived.Shelf.RegionOpen
import Derived.WalkKit
import Derived.OwnWalkIn
import Derived.TacticsInMore
import Derived.LoopNIn
import Derived.LoopIn
import Derived.Test.YtfifjeljbbanmaaW
namespace Go.Proofs.Ytfifjeljbbanmaa
open Go.RowKit Go.Shelf
attribute [local go_sem] Oper.semAt_some

def upto {α : Type} (f : Nat → α) (k : Nat) : List α := (List.range k).map f
theorem upto_succ {α : Type} (f : Nat → α) (k : Nat) : upto f (k + 1) = upto f k ++ [f k] := by simp [upto, List.range_succ]
theorem upto_length {α : Type} (f : Nat → α) (k : Nat) : (upto f k).length = k := by simp [upto]
theorem upto_all (zs : List Int) : upto (fun j => zs[j]?.getD 0) zs.length = zs := by
  apply List.ext_getElem
  · simp [upto]
  · intro i h1 h2
    simp [upto, h2]
theorem upto_take (zs : List Int) {k : Nat} (hk : k ≤ zs.length) : upto (fun j => zs[j]?.getD 0) k = zs.take k := by
  apply List.ext_getElem
  · simp [upto, hk]
  · intro i h1 h2
    have : i < zs.length := by simp [upto] at h1; omega
    simp [upto, this]

/-- Block b lies as it lay. -/
def Same1 (b : Nat) (W W' : World) : Prop := W'.heap[b]? = W.heap[b]?
theorem Same1.refl (b : Nat) (W : World) : Same1 b W W := rfl
theorem Same1.trans {b : Nat} {A B C : World} (h : Same1 b A B) (k : Same1 b B C) : Same1 b A C := Eq.trans k h
theorem Same1.cell {b : Nat} {A B : World} (h : Same1 b A B) (off : Nat) : B.cell? ⟨b, off, none⟩ = A.cell? ⟨b, off, none⟩ := World.cell?_of_block h
theorem Same1.setCell {b : Nat} (W : World) {p : Addr} (h : b ≠ p.block) (v : Value) : Same1 b W (W.setCell p v) := Below.heap_setCell W p v b h
theorem Same1.put {b : Nat} {w : World} (hb : b < w.heap.size) (W : World) (l : Nat) (o o' : Obj) (hl : w.heap.size ≤ l) (_h : W.heap[l]? = some o) (_ : o.isCells = false) (_ : o.isWalk = false) : Same1 b W (W.putObj l o') :=
  World.putObj_heap_other (by omega)

set_option maxRecDepth 100000 in
set_option maxHeartbeats 2000000 in
/-- The closure of each: it hands the slice's numbers to yield, one behind the other, till it says no. -/
theorem each1_in (F : Fence) (n : Nat) (h7 : F.fn 22) (hro : F.round = none) (hn : 1 ≤ n) (l Bs b off len cap : Nat) (zs : List Int) (hreach : len * 8 ≤ 140737488351232) (J Jx : List Int → World → Prop)
    (hY : ∀ pre x W, J pre W → pre.length < len → YieldAt F (n - 1) Try.prog l #[.int .i64 x] W fun e W' =>
      (e = .returned (.bool true) ∧ J (pre ++ [x]) W' ∧ Same1 b W W') ∨ (e = .returned (.bool false) ∧ Jx (pre ++ [x]) W'))
    (W : World) (hBs : W.cell? ⟨Bs, 0, none⟩ = some (.slice (some ⟨b, off, none⟩) len cap)) (hc : ∀ j, j < len → W.cell? ⟨b, off + j, none⟩ = some (.int .i64 (zs[j]?.getD 0))) (h0 : J [] W) :
    CallsIn F n Try.prog 22 #[.func (.yield l) #[] #[], .pointer (some ⟨Bs, 0, none⟩)] W fun e W' => (∃ v, e = .returned v) ∧
      ((∃ ys, ys = upto (fun j => zs[j]?.getD 0) len ∧ J ys W') ∨ (∃ pre, (∃ k, k ≤ len ∧ pre = upto (fun j => zs[j]?.getD 0) k) ∧ Jx pre W')) := by
  refine callsIn_of_wp Try.func22 rfl h7 ?_ hro
  simp only [Try.ntmps22, List.size_toArray, List.length_cons, List.length_nil, Nat.reduceAdd, Nat.reduceSub, Array.replicate_succ, Array.replicate_zero, List.push_toArray, List.append_toArray, List.nil_append, List.cons_append]
  gi_wp2
  gi_loopw [7] (fun i wr => ∃ k : Nat, k ≤ len ∧ i = .int .i64 k ∧ J (upto (fun j => zs[j]?.getD 0) k) wr ∧ Same1 b W wr)
    (fun i _ => len - (intOf i).toNat)
  case atStart => exact ⟨0, Nat.zero_le _, rfl, h0, Same1.refl _ _⟩
  case round =>
    obtain ⟨k, hk, rfl, hJs, hnx⟩ := hrel
    have hcx : k < len → wr.cell? ⟨b, off + k, none⟩ = some (.int .i64 (zs[k]?.getD 0)) := fun h => (hnx.cell (off + k)).trans (hc k h)
    by_cases hlt : k < len
    · obtain ⟨fn, tmps, assign, body, hy, hR⟩ := hY _ (zs[k]?.getD 0) wr hJs (by rw [upto_length]; exact hlt)
      have hcx' := hcx hlt
      gi_wp2
      refine hR.mono ?_
      rintro e W3 (⟨rfl, hJ3, hk3⟩ | ⟨rfl, hJx3⟩)
      · gi_wp2
        go_roundw
        case rel => exact ⟨k + 1, by omega, by simp, by rw [upto_succ]; exact hJ3, hnx.trans hk3⟩
        case measure => simp [intOf]; omega
      · gi_wp2
        refine bodyPost_ret (results_none rfl _ _ _) rfl ?_
        exact ⟨⟨_, rfl⟩, .inr ⟨_, ⟨k + 1, by omega, (upto_succ _ _).symm⟩, hJx3⟩⟩
    · obtain rfl : k = len := by omega
      gi_wp2
      go_end0
      exact ⟨⟨_, rfl⟩, .inl ⟨_, rfl, hJs⟩⟩

theorem each_stops (F : Fence) (n : Nat) (h7 : F.fn 22) (hro : F.round = none) (hn : 1 ≤ n) (Bs b cap : Nat) (zs : List Int) (hreach : zs.length * 8 ≤ 140737488351232) (w : World) (hBs : Bs < w.heap.size) (hb : b < w.heap.size)
    (hc : w.cell? ⟨Bs, 0, none⟩ = some (.slice (some ⟨b, 0, none⟩) zs.length cap)) (hI : ∀ j, j < zs.length → w.cell? ⟨b, 0 + j, none⟩ = some (.int .i64 (zs[j]?.getD 0))) :
    SeqStopsK F n Try.prog 22 #[.pointer (some ⟨Bs, 0, none⟩)] (fun x : Int => #[Value.int .i64 x]) (Same1 b) (fun ys => ys = zs) (fun pre => pre <+: zs) zs.length w := fun l J Jx W hW _ _ hY h0 => by
  have hc' := (hW.cell (p := ⟨Bs, 0, none⟩) hBs).trans hc
  refine (each1_in F n h7 hro hn l Bs b 0 zs.length cap zs hreach J Jx hY W hc' (fun j hj => (hW.cell (p := ⟨b, 0 + j, none⟩) hb).trans (hI j hj)) h0).mono ?_
  rintro e W' ⟨he, ⟨ys, rfl, hj⟩ | ⟨pre, ⟨k, hk, rfl⟩, hj⟩⟩
  · exact ⟨he, .inl ⟨_, upto_all zs, hj⟩⟩
  · exact ⟨he, .inr ⟨_, by rw [upto_take zs hk]; exact List.take_prefix _ _, hj⟩⟩

set_option maxHeartbeats 1000000 in
theorem each_in (F : Fence) (n : Nat) (h5 : F.fn 21) (hro : F.round = none) (a : Option Addr) (len cap : Nat) (w : World) :
    CallsIn F n Try.prog 21 #[.slice a len cap] w fun e w' => e = .returned (.func (.func 22) #[] #[.pointer (some ⟨w.heap.size, 0, none⟩)]) ∧ w' = w.alloc (.cells #[.slice a len cap] 39) := by
  refine callsIn_of_wp Try.func21 rfl h5 ?_ hro
  simp only [Try.ntmps21, List.size_toArray, List.length_cons, List.length_nil, Nat.reduceAdd, Nat.reduceSub, Array.replicate_succ, Array.replicate_zero, List.push_toArray, List.append_toArray, List.nil_append, List.cons_append]
  gi_wp2
  go_ret
  exact ⟨rfl, rfl⟩

def leastOf (a : Int) (l : List Int) : Int := l.foldl min a
theorem leastOf_snoc (a : Int) (l : List Int) (x : Int) : leastOf a (l ++ [x]) = min (leastOf a l) x := by simp [leastOf]
def cutV (s c f k p : Int) : Int := max (leastOf (can s) [can c, f, k, p]) 0

set_option maxRecDepth 100000 in
set_option maxHeartbeats 2000000 in
theorem Cut_in (F : Fence) (n : Nat) (h3 : F.fn 17) (h5 : F.fn 21) (h6 : F.fn 22) (h15 : F.fn 15) (hro : F.round = none) (hn : 3 ≤ n)
    (hcan : ∀ w, -9223372036854775808 ≤ w → w ≤ 9223372036854775807 → ∀ W, CallsIn F (n - 1) Try.prog 15 #[.int .i64 w] W (Ret (.int .i64 (can w)) W))
    (s c f k p : Int) (s0 : -9223372036854775808 ≤ s) (s1 : s ≤ 9223372036854775807) (c0 : -9223372036854775808 ≤ c) (c1 : c ≤ 9223372036854775807) (w : World) :
    CallsIn F n Try.prog 17 #[.int .i64 s, .int .i64 c, .int .i64 f, .int .i64 k, .int .i64 p] w fun e W' => e = .returned (.int .i64 (cutV s c f k p)) ∧ Below w.heap.size w W' := by
  have h1 : 1 ≤ n := by omega
  have Hcan := Lib.hid hcan
  clear hcan
  refine callsIn_of_wp_marks Try.func17 rfl h3 ?_ hro
  simp only [Try.ntmps17, List.size_toArray, List.length_cons, List.length_nil, Nat.reduceAdd, Nat.reduceSub, Array.replicate_succ, Array.replicate_zero, List.push_toArray, List.append_toArray, List.nil_append, List.cons_append]
  gi_wp2_with (first | (gi_at_call 15; refine (Hcan.out _ (by omega) (by omega) _).mono ?_; rintro e w' ⟨rfl, rfl⟩) | (gi_at_call 21; refine (each_in F (n - 1) h5 hro _ _ _ _).mono ?_; rintro e w' ⟨rfl, rfl⟩))
  have bS := Boxed.new w 3 (.int .i64 (can s))
  have bN := Boxed.new ((w.alloc (.cells #[.int .i64 (can s)] 3)).alloc (.cells #[.int .i64 (can c), .int .i64 f, .int .i64 k, .int .i64 p] 3)) 39 (.slice (some ⟨w.heap.size + 1, 0, none⟩) 4 4)
  simp only [World.size_alloc] at bN
  have hB0 : Below w.heap.size w (((w.alloc (.cells #[.int .i64 (can s)] 3)).alloc (.cells #[.int .i64 (can c), .int .i64 f, .int .i64 k, .int .i64 p] 3)).alloc (.cells #[.slice (some ⟨w.heap.size + 1, 0, none⟩) 4 4] 39)) :=
    (((Below.refl _ w).alloc (Nat.le_refl _) _).alloc (by simp) _).alloc (by simp; omega) _
  have hrow : ∀ j, j < 4 → (((w.alloc (.cells #[.int .i64 (can s)] 3)).alloc (.cells #[.int .i64 (can c), .int .i64 f, .int .i64 k, .int .i64 p] 3)).alloc (.cells #[.slice (some ⟨w.heap.size + 1, 0, none⟩) 4 4] 39)).cell? ⟨w.heap.size + 1, 0 + j, none⟩ = some (.int .i64 (([can c, f, k, p] : List Int)[j]?.getD 0)) := by
    intro j hj
    have hnew := heap_alloc_new (w.alloc (.cells #[.int .i64 (can s)] 3)) (.cells #[.int .i64 (can c), .int .i64 f, .int .i64 k, .int .i64 p] 3)
    simp only [World.size_alloc] at hnew
    rw [World.cell?_alloc_lt _ _ _ (by simp), cell_of_row _ _ _ _ _ _ hnew]
    match j, hj with
    | 0, _ => rfl
    | 1, _ => rfl
    | 2, _ => rfl
    | 3, _ => rfl
  refine wpIn_rangeFunc_ownG hro h1 (gf := 22) (lb := #[.pointer (some ⟨w.heap.size + 1 + 1, 0, none⟩)]) rfl h6 (enters_of Try.func22 (by kernel_rfl) rfl)
    (each_stops F (n - 1) h6 hro (by omega) (w.heap.size + 1 + 1) (w.heap.size + 1) 4 [can c, f, k, p] (by simp) _ (by simp) (by simp) bN.cell hrow) (fun h k => Same1.trans h k) (Same1.put (by simp)) (Below.refl _ _) (fun _ => rfl)
    (fun pre W => (W.cell? ⟨w.heap.size, 0, none⟩ = some (.int .i64 (leastOf (can s) pre)) ∧ W.frozen? ⟨w.heap.size, 0, none⟩ = false) ∧ Below w.heap.size w W)
    (fun _ _ _ => False)
    (OwnFrom.and (Own.from (fun s A B row hs hg hr => ⟨cell_kept hs.1 hg hr, (frozen_kept hs.1 hg hr).trans hs.2⟩) _) (ownFrom_below (Nat.le_refl _) (by simp; omega)))
    (fun _ _ _ _ _ hs _ _ => hs)
    ⟨⟨((bS.alloc _).alloc _).cell, ((bS.alloc _).alloc _).frozen⟩, hB0⟩
    (fun x => { tmps := #[.int .i64 s, .int .i64 c, .int .i64 f, .int .i64 k, .int .i64 p, undef, undef, undef, undef, undef, .int .i64 0, .pointer (some ⟨w.heap.size, 0, none⟩), .int .i64 x, .int .i64 s, .int .i64 (can s), .int .i64 c, .int .i64 (can c), .int .i64 f, .int .i64 k, .int .i64 p, .slice (some ⟨w.heap.size + 1, 0, none⟩) 4 4, .func (.func 22) #[] #[.pointer (some ⟨w.heap.size + 1 + 1, 0, none⟩)], .int .i64 x, undef, undef, undef, undef, undef], defers := [] }) ?assign ?body ?done ?stop
  case assign =>
    intro l x W K hK
    gi_wp2
    exact hK
  case body =>
    rintro l pre x W ⟨⟨hc, hf⟩, hB⟩ _
    gi_wp2
    all_goals exact ⟨(KeepsOthers.setCell _ _ _).from _, Same1.setCell W (by simp) _, ⟨(World.cell?_setCell_same' _ _ _ (by rw [hc]; rfl)).trans (by rw [leastOf_snoc]; congr 2; omega), by rw [World.frozen?_setCell]; exact hf⟩, hB.setCell (p := ⟨w.heap.size, 0, none⟩) (Nat.le_refl _) _⟩
  case done =>
    rintro D ys W hD rfl ⟨⟨hc, _⟩, hB⟩ hK
    gi_wp2
    all_goals refine ⟨by simp, .inl ⟨_, _, rfl, run_takeDeferred hK, ?_⟩⟩
    all_goals refine ⟨_, results_tmp rfl _ _ _, ?_, hB.trans (belowK_b (w := w) (Nat.le_refl _) W D _ _ (by simp at hD; omega) hK rfl rfl)⟩
    all_goals refine ret_int ?_
    all_goals unfold cutV
    all_goals omega
  case stop =>
    rintro D c pre W _ _ h _
    exact h.elim

theorem fCut (s c f k p : Int) (s0 : -9223372036854775808 ≤ s) (s1 : s ≤ 9223372036854775807) (c0 : -9223372036854775808 ≤ c) (c1 : c ≤ 9223372036854775807) (w : World) :
    Calls Try.prog 17 #[.int .i64 s, .int .i64 c, .int .i64 f, .int .i64 k, .int .i64 p] w fun e W' => e = .returned (.int .i64 (cutV s c f k p)) ∧ Below w.heap.size w W' :=
  callsIn_wide.1 (Cut_in Fence.wide 3 trivial trivial trivial trivial rfl (Nat.le_refl _) (fun w h0 h1 W => callsIn_wide.2 (fCan w h0 h1 W)) s c f k p s0 s1 c0 c1 w)

theorem min_step (a b : Int) : (if b < a then b else a) = min a b := by split <;> omega
theorem run_min_int5 {P : Program} (ts : Array TypeId) (t : TypeId) (x1 x2 x3 x4 x5 : Int) (w : World) :
    (Builtin.min_ ts t #[.int .i64 x1, .int .i64 x2, .int .i64 x3, .int .i64 x4, .int .i64 x5]).run P w = .ok (.int .i64 (leastOf x1 [x2, x3, x4, x5])) w := by
  simp [Builtin.min_, Builtin.min2, leastOf, min_step]

theorem fCutR (s c f k p : Int) (s0 : -9223372036854775808 ≤ s) (s1 : s ≤ 9223372036854775807) (c0 : -9223372036854775808 ≤ c) (c1 : c ≤ 9223372036854775807) (W : World) :
    Calls Try.prog 18 #[.int .i64 s, .int .i64 c, .int .i64 f, .int .i64 k, .int .i64 p] W (Ret (.int .i64 (cutV s c f k p)) W) := by
  have hmin := fun ts t (x1 x2 x3 x4 x5 : Int) w => run_min_int5 (P := Try.prog) ts t x1 x2 x3 x4 x5 w
  go_enter Try.func18, Try.ntmps18
  go_wp2_with (go_at_call 16; refine (fCanR _ (by omega) (by omega) _).mono ?_; rintro e w' ⟨rfl, rfl⟩)
  all_goals go_ret
  all_goals refine ⟨ret_int ?_, rfl⟩
  all_goals unfold cutV
  all_goals omega
end Go.Proofs.Ytfifjeljbbanmaa
