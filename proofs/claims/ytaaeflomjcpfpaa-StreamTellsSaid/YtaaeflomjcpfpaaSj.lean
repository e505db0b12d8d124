/- The same streams: the contracts. -/
import Derived.Test.YtaaeflomjcpfpaaSi
namespace Go.Proofs.Ytaaeflomjcpfpaa
open Go.RowKit Go.Shelf
set_option linter.unusedVariables false

def sameS (s t : Str) : Bool := decide (s = t)
theorem sameS_no {s t : Str} (h : s ≠ t) : sameS s t = false := decide_eq_false h
theorem sameS_yes {s t : Str} (h0 : (s.id == t.id) = true) (h1 : (s.st == t.st) = true) (h2 : (s.sd == t.sd) = true) (h3 : (s.rc == t.rc) = true) (h4 : (s.ow == t.ow) = true) (h5 : (s.an == t.an) = true) (h6 : (s.en == t.en) = true) (h7 : eqB s.out t.out = true)
    (h8 : (s.ur == t.ur) = true) (h9 : (s.inc == t.inc) = true) (h10 : (s.sl == t.sl) = true) : sameS s t = true := by
  refine decide_eq_true ?_
  obtain ⟨s0, s1, s2, s3, s4, s5, s6, s7, s8, s9, s10⟩ := s
  obtain ⟨t0, t1, t2, t3, t4, t5, t6, t7, t8, t9, t10⟩ := t
  simp only [eqB, beq_iff_eq] at h0 h1 h2 h3 h4 h5 h6 h7 h8 h9 h10
  subst h0 h1 h2 h3 h4 h5 h6 h7 h8 h9 h10
  rfl
theorem sameS_self (s : Str) : sameS s s = true := decide_eq_true rfl
set_option maxHeartbeats 4000000 in
theorem fSSame (s t : Str) (A : Option Addr) (n c : Nat) (B : Option Addr) (m d : Nat) (w : World) (h : Byt w A n c s.out) (h' : Byt w B m d t.out) : Calls Try.prog 32 #[.agg #[.int .i64 (s).id, .int .u8 (s).st, .int .i64 (s).sd, .int .i64 (s).rc, .int .i64 (s).ow, .bool (s).an, .bool (s).en, .slice A n c, .int .u8 (s).ur, .bool (s).inc, .int .i64 (s).sl], .agg #[.int .i64 (t).id, .int .u8 (t).st, .int .i64 (t).sd, .int .i64 (t).rc, .int .i64 (t).ow, .bool (t).an, .bool (t).en, .slice B m d, .int .u8 (t).ur, .bool (t).inc, .int .i64 (t).sl]] w (BoolP (sameS s t) w) := by
  have b0 := ((Bel.refl w).alloc (.cells #[.int .i64 (s).id, .int .u8 (s).st, .int .i64 (s).sd, .int .i64 (s).rc, .int .i64 (s).ow, .bool (s).an, .bool (s).en, .slice A n c, .int .u8 (s).ur, .bool (s).inc, .int .i64 (s).sl] 24)).alloc (.cells #[.int .i64 (t).id, .int .u8 (t).st, .int .i64 (t).sd, .int .i64 (t).rc, .int .i64 (t).ow, .bool (t).an, .bool (t).en, .slice B m d, .int .u8 (t).ur, .bool (t).inc, .int .i64 (t).sl] 24)
  have y := (h.alloc (.cells #[.int .i64 (s).id, .int .u8 (s).st, .int .i64 (s).sd, .int .i64 (s).rc, .int .i64 (s).ow, .bool (s).an, .bool (s).en, .slice A n c, .int .u8 (s).ur, .bool (s).inc, .int .i64 (s).sl] 24)).alloc (.cells #[.int .i64 (t).id, .int .u8 (t).st, .int .i64 (t).sd, .int .i64 (t).rc, .int .i64 (t).ow, .bool (t).an, .bool (t).en, .slice B m d, .int .u8 (t).ur, .bool (t).inc, .int .i64 (t).sl] 24)
  have y' := (h'.alloc (.cells #[.int .i64 (s).id, .int .u8 (s).st, .int .i64 (s).sd, .int .i64 (s).rc, .int .i64 (s).ow, .bool (s).an, .bool (s).en, .slice A n c, .int .u8 (s).ur, .bool (s).inc, .int .i64 (s).sl] 24)).alloc (.cells #[.int .i64 (t).id, .int .u8 (t).st, .int .i64 (t).sd, .int .i64 (t).rc, .int .i64 (t).ow, .bool (t).an, .bool (t).en, .slice B m d, .int .u8 (t).ur, .bool (t).inc, .int .i64 (t).sl] 24)
  have EQ := Lib.hid (fEqual _ _ _ _ _ _ _ _ _ y y')
  clear y y'
  clear h h'
  cases g0 : s.id == t.id
  case false =>
    rw [sameS_no (fun h => by rw [h] at g0; simp at g0)]
    go_enter Try.func32, Try.ntmps32
    go_wp2_with (go_at_call 51; refine EQ.out.mono ?_; rintro e w' ⟨rfl, rfl⟩)
    go_ret
    exact ⟨rfl, b0.out⟩
  cases g1 : s.st == t.st
  case false =>
    rw [sameS_no (fun h => by rw [h] at g1; simp at g1)]
    go_enter Try.func32, Try.ntmps32
    go_wp2_with (go_at_call 51; refine EQ.out.mono ?_; rintro e w' ⟨rfl, rfl⟩)
    go_ret
    exact ⟨rfl, b0.out⟩
  cases g2 : s.sd == t.sd
  case false =>
    rw [sameS_no (fun h => by rw [h] at g2; simp at g2)]
    go_enter Try.func32, Try.ntmps32
    go_wp2_with (go_at_call 51; refine EQ.out.mono ?_; rintro e w' ⟨rfl, rfl⟩)
    go_ret
    exact ⟨rfl, b0.out⟩
  cases g3 : s.rc == t.rc
  case false =>
    rw [sameS_no (fun h => by rw [h] at g3; simp at g3)]
    go_enter Try.func32, Try.ntmps32
    go_wp2_with (go_at_call 51; refine EQ.out.mono ?_; rintro e w' ⟨rfl, rfl⟩)
    go_ret
    exact ⟨rfl, b0.out⟩
  cases g4 : s.ow == t.ow
  case false =>
    rw [sameS_no (fun h => by rw [h] at g4; simp at g4)]
    go_enter Try.func32, Try.ntmps32
    go_wp2_with (go_at_call 51; refine EQ.out.mono ?_; rintro e w' ⟨rfl, rfl⟩)
    go_ret
    exact ⟨rfl, b0.out⟩
  cases g5 : s.sl == t.sl
  case false =>
    rw [sameS_no (fun h => by rw [h] at g5; simp at g5)]
    go_enter Try.func32, Try.ntmps32
    go_wp2_with (go_at_call 51; refine EQ.out.mono ?_; rintro e w' ⟨rfl, rfl⟩)
    go_ret
    exact ⟨rfl, b0.out⟩
  cases g6 : s.an == t.an
  case false =>
    rw [sameS_no (fun h => by rw [h] at g6; simp at g6)]
    go_enter Try.func32, Try.ntmps32
    go_wp2_with (go_at_call 51; refine EQ.out.mono ?_; rintro e w' ⟨rfl, rfl⟩)
    go_ret
    exact ⟨rfl, b0.out⟩
  cases g7 : s.en == t.en
  case false =>
    rw [sameS_no (fun h => by rw [h] at g7; simp at g7)]
    go_enter Try.func32, Try.ntmps32
    go_wp2_with (go_at_call 51; refine EQ.out.mono ?_; rintro e w' ⟨rfl, rfl⟩)
    go_ret
    exact ⟨rfl, b0.out⟩
  cases g8 : s.ur == t.ur
  case false =>
    rw [sameS_no (fun h => by rw [h] at g8; simp at g8)]
    go_enter Try.func32, Try.ntmps32
    go_wp2_with (go_at_call 51; refine EQ.out.mono ?_; rintro e w' ⟨rfl, rfl⟩)
    go_ret
    exact ⟨rfl, b0.out⟩
  cases g9 : s.inc == t.inc
  case false =>
    rw [sameS_no (fun h => by rw [h] at g9; simp at g9)]
    go_enter Try.func32, Try.ntmps32
    go_wp2_with (go_at_call 51; refine EQ.out.mono ?_; rintro e w' ⟨rfl, rfl⟩)
    go_ret
    exact ⟨rfl, b0.out⟩
  cases g10 : eqB s.out t.out
  case false =>
    rw [sameS_no (fun h => by rw [h] at g10; simp [eqB] at g10)]
    rw [g10] at EQ
    go_enter Try.func32, Try.ntmps32
    go_wp2_with (go_at_call 51; refine EQ.out.mono ?_; rintro e w' ⟨rfl, rfl⟩)
    go_ret
    exact ⟨rfl, b0.out⟩
  rw [g10] at EQ
  rw [sameS_yes g0 g1 g2 g3 g4 g6 g7 g10 g8 g9 g5]
  go_enter Try.func32, Try.ntmps32
  go_wp2_with (go_at_call 51; refine EQ.out.mono ?_; rintro e w' ⟨rfl, rfl⟩)
  go_ret
  exact ⟨rfl, b0.out⟩
set_option maxHeartbeats 4000000 in
theorem rSSame (s t : Str) (A : Option Addr) (n c : Nat) (B : Option Addr) (m d : Nat) (w : World) (h : Byt w A n c s.out) (h' : Byt w B m d t.out) : Calls Try.prog 13 #[.agg #[.int .i64 (s).id, .int .u8 (s).st, .int .i64 (s).sd, .int .i64 (s).rc, .int .i64 (s).ow, .bool (s).an, .bool (s).en, .slice A n c, .int .u8 (s).ur, .bool (s).inc, .int .i64 (s).sl], .agg #[.int .i64 (t).id, .int .u8 (t).st, .int .i64 (t).sd, .int .i64 (t).rc, .int .i64 (t).ow, .bool (t).an, .bool (t).en, .slice B m d, .int .u8 (t).ur, .bool (t).inc, .int .i64 (t).sl]] w (BoolP (sameS s t) w) := by
  have b0 := ((Bel.refl w).alloc (.cells #[.int .i64 (s).id, .int .u8 (s).st, .int .i64 (s).sd, .int .i64 (s).rc, .int .i64 (s).ow, .bool (s).an, .bool (s).en, .slice A n c, .int .u8 (s).ur, .bool (s).inc, .int .i64 (s).sl] 24)).alloc (.cells #[.int .i64 (t).id, .int .u8 (t).st, .int .i64 (t).sd, .int .i64 (t).rc, .int .i64 (t).ow, .bool (t).an, .bool (t).en, .slice B m d, .int .u8 (t).ur, .bool (t).inc, .int .i64 (t).sl] 24)
  have y := (h.alloc (.cells #[.int .i64 (s).id, .int .u8 (s).st, .int .i64 (s).sd, .int .i64 (s).rc, .int .i64 (s).ow, .bool (s).an, .bool (s).en, .slice A n c, .int .u8 (s).ur, .bool (s).inc, .int .i64 (s).sl] 24)).alloc (.cells #[.int .i64 (t).id, .int .u8 (t).st, .int .i64 (t).sd, .int .i64 (t).rc, .int .i64 (t).ow, .bool (t).an, .bool (t).en, .slice B m d, .int .u8 (t).ur, .bool (t).inc, .int .i64 (t).sl] 24)
  have y' := (h'.alloc (.cells #[.int .i64 (s).id, .int .u8 (s).st, .int .i64 (s).sd, .int .i64 (s).rc, .int .i64 (s).ow, .bool (s).an, .bool (s).en, .slice A n c, .int .u8 (s).ur, .bool (s).inc, .int .i64 (s).sl] 24)).alloc (.cells #[.int .i64 (t).id, .int .u8 (t).st, .int .i64 (t).sd, .int .i64 (t).rc, .int .i64 (t).ow, .bool (t).an, .bool (t).en, .slice B m d, .int .u8 (t).ur, .bool (t).inc, .int .i64 (t).sl] 24)
  have e1 := y.conv
  have e2 := y'.conv
  have e3 := strOf_eq h.bs h'.bs
  clear y y'
  clear h h'
  cases g0 : s.id == t.id
  case false =>
    rw [sameS_no (fun h => by rw [h] at g0; simp at g0)]
    go_enter Try.func13, Try.ntmps13
    go_wp2_with fail
    go_ret
    exact ⟨rfl, b0.out⟩
  cases g1 : s.st == t.st
  case false =>
    rw [sameS_no (fun h => by rw [h] at g1; simp at g1)]
    go_enter Try.func13, Try.ntmps13
    go_wp2_with fail
    go_ret
    exact ⟨rfl, b0.out⟩
  cases g2 : s.sd == t.sd
  case false =>
    rw [sameS_no (fun h => by rw [h] at g2; simp at g2)]
    go_enter Try.func13, Try.ntmps13
    go_wp2_with fail
    go_ret
    exact ⟨rfl, b0.out⟩
  cases g3 : s.rc == t.rc
  case false =>
    rw [sameS_no (fun h => by rw [h] at g3; simp at g3)]
    go_enter Try.func13, Try.ntmps13
    go_wp2_with fail
    go_ret
    exact ⟨rfl, b0.out⟩
  cases g4 : s.ow == t.ow
  case false =>
    rw [sameS_no (fun h => by rw [h] at g4; simp at g4)]
    go_enter Try.func13, Try.ntmps13
    go_wp2_with fail
    go_ret
    exact ⟨rfl, b0.out⟩
  cases g5 : s.an == t.an
  case false =>
    rw [sameS_no (fun h => by rw [h] at g5; simp at g5)]
    go_enter Try.func13, Try.ntmps13
    go_wp2_with fail
    go_ret
    exact ⟨rfl, b0.out⟩
  cases g6 : s.en == t.en
  case false =>
    rw [sameS_no (fun h => by rw [h] at g6; simp at g6)]
    go_enter Try.func13, Try.ntmps13
    go_wp2_with fail
    go_ret
    exact ⟨rfl, b0.out⟩
  cases g7 : eqB s.out t.out
  case false =>
    rw [sameS_no (fun h => by rw [h] at g7; simp [eqB] at g7)]
    rw [g7] at e3
    go_enter Try.func13, Try.ntmps13
    go_wp2_with fail
    go_ret
    exact ⟨rfl, b0.out⟩
  rw [g7] at e3
  cases g8 : s.ur == t.ur
  case false =>
    rw [sameS_no (fun h => by rw [h] at g8; simp at g8)]
    go_enter Try.func13, Try.ntmps13
    go_wp2_with fail
    go_ret
    exact ⟨rfl, b0.out⟩
  cases g9 : s.inc == t.inc
  case false =>
    rw [sameS_no (fun h => by rw [h] at g9; simp at g9)]
    go_enter Try.func13, Try.ntmps13
    go_wp2_with fail
    go_ret
    exact ⟨rfl, b0.out⟩
  cases g10 : s.sl == t.sl
  case false =>
    rw [sameS_no (fun h => by rw [h] at g10; simp at g10)]
    go_enter Try.func13, Try.ntmps13
    go_wp2_with fail
    go_ret
    exact ⟨rfl, b0.out⟩
  rw [sameS_yes g0 g1 g2 g3 g4 g5 g6 g7 g8 g9 g10]
  go_enter Try.func13, Try.ntmps13
  go_wp2_with fail
  go_ret
  exact ⟨rfl, b0.out⟩
end Go.Proofs.Ytaaeflomjcpfpaa
