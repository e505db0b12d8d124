/- Streams in memory of one's own; the same: the contracts. -/
import Derived.Test.YtaaeflomjcpfpaaSf
import Derived.Test.YtaaeflomjcpfpaaA
namespace Go.Proofs.Ytaaeflomjcpfpaa
open Go.RowKit Go.Shelf
set_option linter.unusedVariables false

def StP (s : Str) (w : World) (e : Ending) (W' : World) : Prop := ∃ A n c, e = .returned (.agg #[.int .i64 (s).id, .int .u8 (s).st, .int .i64 (s).sd, .int .i64 (s).rc, .int .i64 (s).ow, .bool (s).an, .bool (s).en, .slice A n c, .int .u8 (s).ur, .bool (s).inc, .int .i64 (s).sl]) ∧ Mine w.heap.size W' A n c s.out ∧ Below w.heap.size w W'
theorem fEqual (A : Option Addr) (n c : Nat) (l : List Int) (B : Option Addr) (m d : Nat) (l' : List Int) (w : World) (h : Byt w A n c l) (h' : Byt w B m d l') :
    Calls Try.prog 51 #[.slice A n c, .slice B m d] w (Ret (.bool (eqB l l')) w) := by
  have e1 := h.conv
  have e2 := h'.conv
  have e3 := strOf_eq h.bs h'.bs
  have H := Lib.hid h
  have H' := Lib.hid h'
  clear h h'
  go_enter Try.func51, Try.ntmps51
  go_wp2
  go_ret
  exact ⟨rfl, rfl⟩

set_option maxHeartbeats 1000000 in
theorem fSOwn (s : Str) (A : Option Addr) (n c : Nat) (w : World) (h : Byt w A n c s.out) (hn : n ≤ 140737488355328) : Calls Try.prog 33 #[.agg #[.int .i64 (s).id, .int .u8 (s).st, .int .i64 (s).sd, .int .i64 (s).rc, .int .i64 (s).ow, .bool (s).an, .bool (s).en, .slice A n c, .int .u8 (s).ur, .bool (s).inc, .int .i64 (s).sl]] w (StP s w) := by
  have b0 := ((Bel.refl w).alloc (.cells #[.int .i64 (s).id, .int .u8 (s).st, .int .i64 (s).sd, .int .i64 (s).rc, .int .i64 (s).ow, .bool (s).an, .bool (s).en, .slice A n c, .int .u8 (s).ur, .bool (s).inc, .int .i64 (s).sl] 24)).alloc (.cells #[.int .i64 0, .int .u8 0, .int .i64 0, .int .i64 0, .int .i64 0, .bool false, .bool false, .slice none 0 0, .int .u8 0, .bool false, .int .i64 0] 24)
  have y := (h.alloc (.cells #[.int .i64 (s).id, .int .u8 (s).st, .int .i64 (s).sd, .int .i64 (s).rc, .int .i64 (s).ow, .bool (s).an, .bool (s).en, .slice A n c, .int .u8 (s).ur, .bool (s).inc, .int .i64 (s).sl] 24)).alloc (.cells #[.int .i64 0, .int .u8 0, .int .i64 0, .int .i64 0, .int .i64 0, .bool false, .bool false, .slice none 0 0, .int .u8 0, .bool false, .int .i64 0] 24)
  have q0 := (Blk.new w 24 #[.int .i64 (s).id, .int .u8 (s).st, .int .i64 (s).sd, .int .i64 (s).rc, .int .i64 (s).ow, .bool (s).an, .bool (s).en, .slice A n c, .int .u8 (s).ur, .bool (s).inc, .int .i64 (s).sl]).alloc (.cells #[.int .i64 0, .int .u8 0, .int .i64 0, .int .i64 0, .int .i64 0, .bool false, .bool false, .slice none 0 0, .int .u8 0, .bool false, .int .i64 0] 24)
  have q1 := Blk.newAt (b := w.heap.size + 1) (w.alloc (.cells #[.int .i64 (s).id, .int .u8 (s).st, .int .i64 (s).sd, .int .i64 (s).rc, .int .i64 (s).ow, .bool (s).an, .bool (s).en, .slice A n c, .int .u8 (s).ur, .bool (s).inc, .int .i64 (s).sl] 24)) 24 #[.int .i64 0, .int .u8 0, .int .i64 0, .int .i64 0, .int .i64 0, .bool false, .bool false, .slice none 0 0, .int .u8 0, .bool false, .int .i64 0] (by simp)
  have sz := b0.out.size
  have z7 := q0.at 7 rfl
  clear h
  go_enter Try.func33, Try.ntmps33
  go_wp2_with fail
  refine (fClone _ _ _ _ _ y hn).mono ?_
  rintro e w1 ⟨A1, c1, rfl, m1, hb⟩
  replace b0 := (b0).below hb; replace q0 := (q0).below hb; replace q1 := (q1).below hb
  clear z7 y
  have z7 := q0.at 7 rfl
  have f7 := q0.frozen 7
  have q2 : Blk (w1.setCell ⟨w.heap.size, 7, none⟩ (.slice A1 n c1)) w.heap.size 24 #[.int .i64 (s).id, .int .u8 (s).st, .int .i64 (s).sd, .int .i64 (s).rc, .int .i64 (s).ow, .bool (s).an, .bool (s).en, .slice A1 n c1, .int .u8 (s).ur, .bool (s).inc, .int .i64 (s).sl] := q0.set 7 (.slice A1 n c1)
  have q3 := q1.setFar (p := ⟨w.heap.size, 7, none⟩) (by simp) (.slice A1 n c1)
  have m2 := m1.farB q0 (by decide) 7 (.slice A1 n c1)
  have b2 := b0.set (p := ⟨w.heap.size, 7, none⟩) (Nat.le_refl _) (.slice A1 n c1)
  clear q0 q1 m1 b0 hb
  go_wp2_with (first | (refine wpList_getB rfl _ _ rfl rfl q2 Try.underlying24 rfl (by rfl) ?_) | (refine wpList_putB rfl _ _ _ rfl rfl rfl q3 (by rfl) (by rfl) (by rfl) ?_; intro w2 q4 hg; replace b2 := b2.grown hg (Nat.le_succ _); replace m2 := m2.grownB q3 (by decide) hg))
  exact res1 rfl rfl rfl q4 Try.underlying24 rfl (by rfl) ⟨A1, n, c1, rfl, m2.base_le (by simp; omega), b2.out⟩
set_option maxHeartbeats 1000000 in
theorem rSOwn (s : Str) (A : Option Addr) (n c : Nat) (w : World) (h : Byt w A n c s.out) (hn : n ≤ 140737488355328) : Calls Try.prog 36 #[.agg #[.int .i64 (s).id, .int .u8 (s).st, .int .i64 (s).sd, .int .i64 (s).rc, .int .i64 (s).ow, .bool (s).an, .bool (s).en, .slice A n c, .int .u8 (s).ur, .bool (s).inc, .int .i64 (s).sl]] w (StP s w) := by
  have b0 := ((Bel.refl w).alloc (.cells #[.int .i64 (s).id, .int .u8 (s).st, .int .i64 (s).sd, .int .i64 (s).rc, .int .i64 (s).ow, .bool (s).an, .bool (s).en, .slice A n c, .int .u8 (s).ur, .bool (s).inc, .int .i64 (s).sl] 24)).alloc (.cells #[.int .i64 0, .int .u8 0, .int .i64 0, .int .i64 0, .int .i64 0, .bool false, .bool false, .slice none 0 0, .int .u8 0, .bool false, .int .i64 0] 24)
  have y := (h.alloc (.cells #[.int .i64 (s).id, .int .u8 (s).st, .int .i64 (s).sd, .int .i64 (s).rc, .int .i64 (s).ow, .bool (s).an, .bool (s).en, .slice A n c, .int .u8 (s).ur, .bool (s).inc, .int .i64 (s).sl] 24)).alloc (.cells #[.int .i64 0, .int .u8 0, .int .i64 0, .int .i64 0, .int .i64 0, .bool false, .bool false, .slice none 0 0, .int .u8 0, .bool false, .int .i64 0] 24)
  have q0 := (Blk.new w 24 #[.int .i64 (s).id, .int .u8 (s).st, .int .i64 (s).sd, .int .i64 (s).rc, .int .i64 (s).ow, .bool (s).an, .bool (s).en, .slice A n c, .int .u8 (s).ur, .bool (s).inc, .int .i64 (s).sl]).alloc (.cells #[.int .i64 0, .int .u8 0, .int .i64 0, .int .i64 0, .int .i64 0, .bool false, .bool false, .slice none 0 0, .int .u8 0, .bool false, .int .i64 0] 24)
  have q1 := Blk.newAt (b := w.heap.size + 1) (w.alloc (.cells #[.int .i64 (s).id, .int .u8 (s).st, .int .i64 (s).sd, .int .i64 (s).rc, .int .i64 (s).ow, .bool (s).an, .bool (s).en, .slice A n c, .int .u8 (s).ur, .bool (s).inc, .int .i64 (s).sl] 24)) 24 #[.int .i64 0, .int .u8 0, .int .i64 0, .int .i64 0, .int .i64 0, .bool false, .bool false, .slice none 0 0, .int .u8 0, .bool false, .int .i64 0] (by simp)
  have sz := b0.out.size
  clear h
  go_enter Try.func36, Try.ntmps36
  go_wp2_with (first
    | (at_builtin; go_must (refine wpList_copy _ rfl (.tmp 3) (.tmp 5) rfl rfl (by simp) A n c s.out rfl y hn ?_); intro A1 c1 w1 m1 hb; replace b0 := (b0).below hb; replace q0 := (q0).below hb; replace q1 := (q1).below hb; have f7 := q0.frozen 7; have z7 := q0.at 7 rfl; have q2 : Blk (w1.setCell ⟨w.heap.size, 7, none⟩ (.slice A1 n c1)) w.heap.size 24 #[.int .i64 (s).id, .int .u8 (s).st, .int .i64 (s).sd, .int .i64 (s).rc, .int .i64 (s).ow, .bool (s).an, .bool (s).en, .slice A1 n c1, .int .u8 (s).ur, .bool (s).inc, .int .i64 (s).sl] := q0.set 7 (.slice A1 n c1); have q3 := q1.setFar (p := ⟨w.heap.size, 7, none⟩) (by simp) (.slice A1 n c1); have m2 := m1.farB q0 (by decide) 7 (.slice A1 n c1); have b2 := b0.set (p := ⟨w.heap.size, 7, none⟩) (Nat.le_refl _) (.slice A1 n c1))
    | (refine wpList_getB rfl _ _ rfl rfl q2 Try.underlying24 rfl (by rfl) ?_)
    | (refine wpList_putB rfl _ _ _ rfl rfl rfl q3 (by rfl) (by rfl) (by rfl) ?_; intro w2 q4 hg; replace b2 := b2.grown hg (Nat.le_succ _); replace m2 := m2.grownB q3 (by decide) hg))
  exact res1 rfl rfl rfl q4 Try.underlying24 rfl (by rfl) ⟨A1, n, c1, rfl, m2.base_le (by simp; omega), b2.out⟩
end Go.Proofs.Ytaaeflomjcpfpaa
