/- Which streams may be (the document): a lemma a way. -/
import Derived.Test.YtaaeflomjcpfpaaSf
namespace Go.Proofs.Ytaaeflomjcpfpaa
open Go.RowKit Go.Shelf
set_option linter.unusedVariables false
set_option linter.unusedSimpArgs false

set_option maxHeartbeats 4000000 in
theorem rSRi0 (s : Str) (ok : StrOk s) (A : Option Addr) (n c : Nat) (w : World) (hm : n ≤ 9223372036854775807) (e0 : decide (s.id < 1) = true) :
    Calls Try.prog 31 #[.agg #[.int .i64 (s).id, .int .u8 (s).st, .int .i64 (s).sd, .int .i64 (s).rc, .int .i64 (s).ow, .bool (s).an, .bool (s).en, .slice A n c, .int .u8 (s).ur, .bool (s).inc, .int .i64 (s).sl]] w (BoolP false w) := by
  have b0 := (Bel.refl w).alloc (.cells #[.int .i64 (s).id, .int .u8 (s).st, .int .i64 (s).sd, .int .i64 (s).rc, .int .i64 (s).ow, .bool (s).an, .bool (s).en, .slice A n c, .int .u8 (s).ur, .bool (s).inc, .int .i64 (s).sl] 24)
  obtain ⟨⟨i0, i1⟩, ⟨t0, t1⟩, ⟨d0, d1⟩, ⟨r0, r1⟩, ⟨o0, o1⟩, ⟨u0, u1⟩, ⟨l0, l1⟩, _⟩ := ok
  go_enter Try.func31, Try.ntmps31
  go_wp2_with fail
  go_ret
  exact ⟨rfl, b0.out⟩
set_option maxHeartbeats 4000000 in
theorem rSRi1 (s : Str) (ok : StrOk s) (A : Option Addr) (n c : Nat) (w : World) (hm : n ≤ 9223372036854775807) (e0 : decide (s.id < 1) = false) (e1 : decide (2147483647 < s.id) = true) :
    Calls Try.prog 31 #[.agg #[.int .i64 (s).id, .int .u8 (s).st, .int .i64 (s).sd, .int .i64 (s).rc, .int .i64 (s).ow, .bool (s).an, .bool (s).en, .slice A n c, .int .u8 (s).ur, .bool (s).inc, .int .i64 (s).sl]] w (BoolP false w) := by
  have b0 := (Bel.refl w).alloc (.cells #[.int .i64 (s).id, .int .u8 (s).st, .int .i64 (s).sd, .int .i64 (s).rc, .int .i64 (s).ow, .bool (s).an, .bool (s).en, .slice A n c, .int .u8 (s).ur, .bool (s).inc, .int .i64 (s).sl] 24)
  obtain ⟨⟨i0, i1⟩, ⟨t0, t1⟩, ⟨d0, d1⟩, ⟨r0, r1⟩, ⟨o0, o1⟩, ⟨u0, u1⟩, ⟨l0, l1⟩, _⟩ := ok
  go_enter Try.func31, Try.ntmps31
  go_wp2_with fail
  go_ret
  exact ⟨rfl, b0.out⟩
set_option maxHeartbeats 4000000 in
theorem rSRi2 (s : Str) (ok : StrOk s) (A : Option Addr) (n c : Nat) (w : World) (hm : n ≤ 9223372036854775807) (e0 : decide (s.id < 1) = false) (e1 : decide (2147483647 < s.id) = false) (e2 : (s.id.tmod 2 == 0) = true) :
    Calls Try.prog 31 #[.agg #[.int .i64 (s).id, .int .u8 (s).st, .int .i64 (s).sd, .int .i64 (s).rc, .int .i64 (s).ow, .bool (s).an, .bool (s).en, .slice A n c, .int .u8 (s).ur, .bool (s).inc, .int .i64 (s).sl]] w (BoolP false w) := by
  have b0 := (Bel.refl w).alloc (.cells #[.int .i64 (s).id, .int .u8 (s).st, .int .i64 (s).sd, .int .i64 (s).rc, .int .i64 (s).ow, .bool (s).an, .bool (s).en, .slice A n c, .int .u8 (s).ur, .bool (s).inc, .int .i64 (s).sl] 24)
  obtain ⟨⟨i0, i1⟩, ⟨t0, t1⟩, ⟨d0, d1⟩, ⟨r0, r1⟩, ⟨o0, o1⟩, ⟨u0, u1⟩, ⟨l0, l1⟩, _⟩ := ok
  go_enter Try.func31, Try.ntmps31
  go_wp2_with fail
  go_ret
  exact ⟨rfl, b0.out⟩
set_option maxHeartbeats 4000000 in
theorem rSRst7 (s : Str) (ok : StrOk s) (A : Option Addr) (n c : Nat) (w : World) (hm : n ≤ 9223372036854775807) (e0 : decide (s.id < 1) = false) (e1 : decide (2147483647 < s.id) = false) (e2 : (s.id.tmod 2 == 0) = false) (e3 : decide (7 ≤ s.st) = true) :
    Calls Try.prog 31 #[.agg #[.int .i64 (s).id, .int .u8 (s).st, .int .i64 (s).sd, .int .i64 (s).rc, .int .i64 (s).ow, .bool (s).an, .bool (s).en, .slice A n c, .int .u8 (s).ur, .bool (s).inc, .int .i64 (s).sl]] w (BoolP false w) := by
  have b0 := (Bel.refl w).alloc (.cells #[.int .i64 (s).id, .int .u8 (s).st, .int .i64 (s).sd, .int .i64 (s).rc, .int .i64 (s).ow, .bool (s).an, .bool (s).en, .slice A n c, .int .u8 (s).ur, .bool (s).inc, .int .i64 (s).sl] 24)
  obtain ⟨⟨i0, i1⟩, ⟨t0, t1⟩, ⟨d0, d1⟩, ⟨r0, r1⟩, ⟨o0, o1⟩, ⟨u0, u1⟩, ⟨l0, l1⟩, _⟩ := ok
  go_enter Try.func31, Try.ntmps31
  go_wp2_with fail
  go_ret
  exact ⟨rfl, b0.out⟩
set_option maxHeartbeats 4000000 in
theorem rSRst0 (s : Str) (ok : StrOk s) (A : Option Addr) (n c : Nat) (w : World) (hm : n ≤ 9223372036854775807) (e0 : decide (s.id < 1) = false) (e1 : decide (2147483647 < s.id) = false) (e2 : (s.id.tmod 2 == 0) = false) (e3 : decide (7 ≤ s.st) = false) (e4 : (s.st == 0) = true) :
    Calls Try.prog 31 #[.agg #[.int .i64 (s).id, .int .u8 (s).st, .int .i64 (s).sd, .int .i64 (s).rc, .int .i64 (s).ow, .bool (s).an, .bool (s).en, .slice A n c, .int .u8 (s).ur, .bool (s).inc, .int .i64 (s).sl]] w (BoolP false w) := by
  have b0 := (Bel.refl w).alloc (.cells #[.int .i64 (s).id, .int .u8 (s).st, .int .i64 (s).sd, .int .i64 (s).rc, .int .i64 (s).ow, .bool (s).an, .bool (s).en, .slice A n c, .int .u8 (s).ur, .bool (s).inc, .int .i64 (s).sl] 24)
  obtain ⟨⟨i0, i1⟩, ⟨t0, t1⟩, ⟨d0, d1⟩, ⟨r0, r1⟩, ⟨o0, o1⟩, ⟨u0, u1⟩, ⟨l0, l1⟩, _⟩ := ok
  go_enter Try.func31, Try.ntmps31
  go_wp2_with fail
  go_ret
  exact ⟨rfl, b0.out⟩
set_option maxHeartbeats 4000000 in
theorem rSRsd (s : Str) (ok : StrOk s) (A : Option Addr) (n c : Nat) (w : World) (hm : n ≤ 9223372036854775807) (e0 : decide (s.id < 1) = false) (e1 : decide (2147483647 < s.id) = false) (e2 : (s.id.tmod 2 == 0) = false) (e3 : decide (7 ≤ s.st) = false) (e4 : (s.st == 0) = false) (e5 : rgt s.sd = false) :
    Calls Try.prog 31 #[.agg #[.int .i64 (s).id, .int .u8 (s).st, .int .i64 (s).sd, .int .i64 (s).rc, .int .i64 (s).ow, .bool (s).an, .bool (s).en, .slice A n c, .int .u8 (s).ur, .bool (s).inc, .int .i64 (s).sl]] w (BoolP false w) := by
  have b0 := (Bel.refl w).alloc (.cells #[.int .i64 (s).id, .int .u8 (s).st, .int .i64 (s).sd, .int .i64 (s).rc, .int .i64 (s).ow, .bool (s).an, .bool (s).en, .slice A n c, .int .u8 (s).ur, .bool (s).inc, .int .i64 (s).sl] 24)
  have K5 := Lib.hid fun W => wnRightR s.sd ok.sd.1 ok.sd.2 W
  rw [e5] at K5
  obtain ⟨⟨i0, i1⟩, ⟨t0, t1⟩, ⟨d0, d1⟩, ⟨r0, r1⟩, ⟨o0, o1⟩, ⟨u0, u1⟩, ⟨l0, l1⟩, _⟩ := ok
  clear e5
  go_enter Try.func31, Try.ntmps31
  go_wp2_with (first | (go_at_call 50; (with_reducible refine (K5.out _).mono ?_); rintro e w1 ⟨rfl, rfl⟩))
  go_ret
  exact ⟨rfl, b0.out⟩
set_option maxHeartbeats 4000000 in
theorem rSRr0 (s : Str) (ok : StrOk s) (A : Option Addr) (n c : Nat) (w : World) (hm : n ≤ 9223372036854775807) (e0 : decide (s.id < 1) = false) (e1 : decide (2147483647 < s.id) = false) (e2 : (s.id.tmod 2 == 0) = false) (e3 : decide (7 ≤ s.st) = false) (e4 : (s.st == 0) = false) (e5 : rgt s.sd = true) (e6 : decide (s.rc < 0) = true) :
    Calls Try.prog 31 #[.agg #[.int .i64 (s).id, .int .u8 (s).st, .int .i64 (s).sd, .int .i64 (s).rc, .int .i64 (s).ow, .bool (s).an, .bool (s).en, .slice A n c, .int .u8 (s).ur, .bool (s).inc, .int .i64 (s).sl]] w (BoolP false w) := by
  have b0 := (Bel.refl w).alloc (.cells #[.int .i64 (s).id, .int .u8 (s).st, .int .i64 (s).sd, .int .i64 (s).rc, .int .i64 (s).ow, .bool (s).an, .bool (s).en, .slice A n c, .int .u8 (s).ur, .bool (s).inc, .int .i64 (s).sl] 24)
  have K5 := Lib.hid fun W => wnRightR s.sd ok.sd.1 ok.sd.2 W
  rw [e5] at K5
  obtain ⟨⟨i0, i1⟩, ⟨t0, t1⟩, ⟨d0, d1⟩, ⟨r0, r1⟩, ⟨o0, o1⟩, ⟨u0, u1⟩, ⟨l0, l1⟩, _⟩ := ok
  clear e5
  go_enter Try.func31, Try.ntmps31
  go_wp2_with (first | (go_at_call 50; (with_reducible refine (K5.out _).mono ?_); rintro e w1 ⟨rfl, rfl⟩))
  go_ret
  exact ⟨rfl, b0.out⟩
set_option maxHeartbeats 4000000 in
theorem rSRr1 (s : Str) (ok : StrOk s) (A : Option Addr) (n c : Nat) (w : World) (hm : n ≤ 9223372036854775807) (e0 : decide (s.id < 1) = false) (e1 : decide (2147483647 < s.id) = false) (e2 : (s.id.tmod 2 == 0) = false) (e3 : decide (7 ≤ s.st) = false) (e4 : (s.st == 0) = false) (e5 : rgt s.sd = true) (e6 : decide (s.rc < 0) = false) (e7 : decide (2147483647 < s.rc) = true) :
    Calls Try.prog 31 #[.agg #[.int .i64 (s).id, .int .u8 (s).st, .int .i64 (s).sd, .int .i64 (s).rc, .int .i64 (s).ow, .bool (s).an, .bool (s).en, .slice A n c, .int .u8 (s).ur, .bool (s).inc, .int .i64 (s).sl]] w (BoolP false w) := by
  have b0 := (Bel.refl w).alloc (.cells #[.int .i64 (s).id, .int .u8 (s).st, .int .i64 (s).sd, .int .i64 (s).rc, .int .i64 (s).ow, .bool (s).an, .bool (s).en, .slice A n c, .int .u8 (s).ur, .bool (s).inc, .int .i64 (s).sl] 24)
  have K5 := Lib.hid fun W => wnRightR s.sd ok.sd.1 ok.sd.2 W
  rw [e5] at K5
  obtain ⟨⟨i0, i1⟩, ⟨t0, t1⟩, ⟨d0, d1⟩, ⟨r0, r1⟩, ⟨o0, o1⟩, ⟨u0, u1⟩, ⟨l0, l1⟩, _⟩ := ok
  clear e5
  go_enter Try.func31, Try.ntmps31
  go_wp2_with (first | (go_at_call 50; (with_reducible refine (K5.out _).mono ?_); rintro e w1 ⟨rfl, rfl⟩))
  go_ret
  exact ⟨rfl, b0.out⟩
set_option maxHeartbeats 4000000 in
theorem rSRo0 (s : Str) (ok : StrOk s) (A : Option Addr) (n c : Nat) (w : World) (hm : n ≤ 9223372036854775807) (e0 : decide (s.id < 1) = false) (e1 : decide (2147483647 < s.id) = false) (e2 : (s.id.tmod 2 == 0) = false) (e3 : decide (7 ≤ s.st) = false) (e4 : (s.st == 0) = false) (e5 : rgt s.sd = true) (e6 : decide (s.rc < 0) = false) (e7 : decide (2147483647 < s.rc) = false) (e8 : decide (s.ow < 0) = true) :
    Calls Try.prog 31 #[.agg #[.int .i64 (s).id, .int .u8 (s).st, .int .i64 (s).sd, .int .i64 (s).rc, .int .i64 (s).ow, .bool (s).an, .bool (s).en, .slice A n c, .int .u8 (s).ur, .bool (s).inc, .int .i64 (s).sl]] w (BoolP false w) := by
  have b0 := (Bel.refl w).alloc (.cells #[.int .i64 (s).id, .int .u8 (s).st, .int .i64 (s).sd, .int .i64 (s).rc, .int .i64 (s).ow, .bool (s).an, .bool (s).en, .slice A n c, .int .u8 (s).ur, .bool (s).inc, .int .i64 (s).sl] 24)
  have K5 := Lib.hid fun W => wnRightR s.sd ok.sd.1 ok.sd.2 W
  rw [e5] at K5
  obtain ⟨⟨i0, i1⟩, ⟨t0, t1⟩, ⟨d0, d1⟩, ⟨r0, r1⟩, ⟨o0, o1⟩, ⟨u0, u1⟩, ⟨l0, l1⟩, _⟩ := ok
  clear e5
  go_enter Try.func31, Try.ntmps31
  go_wp2_with (first | (go_at_call 50; (with_reducible refine (K5.out _).mono ?_); rintro e w1 ⟨rfl, rfl⟩))
  go_ret
  exact ⟨rfl, b0.out⟩
set_option maxHeartbeats 4000000 in
theorem rSRo1 (s : Str) (ok : StrOk s) (A : Option Addr) (n c : Nat) (w : World) (hm : n ≤ 9223372036854775807) (e0 : decide (s.id < 1) = false) (e1 : decide (2147483647 < s.id) = false) (e2 : (s.id.tmod 2 == 0) = false) (e3 : decide (7 ≤ s.st) = false) (e4 : (s.st == 0) = false) (e5 : rgt s.sd = true) (e6 : decide (s.rc < 0) = false) (e7 : decide (2147483647 < s.rc) = false) (e8 : decide (s.ow < 0) = false) (e9 : decide (2147483647 < s.ow) = true) :
    Calls Try.prog 31 #[.agg #[.int .i64 (s).id, .int .u8 (s).st, .int .i64 (s).sd, .int .i64 (s).rc, .int .i64 (s).ow, .bool (s).an, .bool (s).en, .slice A n c, .int .u8 (s).ur, .bool (s).inc, .int .i64 (s).sl]] w (BoolP false w) := by
  have b0 := (Bel.refl w).alloc (.cells #[.int .i64 (s).id, .int .u8 (s).st, .int .i64 (s).sd, .int .i64 (s).rc, .int .i64 (s).ow, .bool (s).an, .bool (s).en, .slice A n c, .int .u8 (s).ur, .bool (s).inc, .int .i64 (s).sl] 24)
  have K5 := Lib.hid fun W => wnRightR s.sd ok.sd.1 ok.sd.2 W
  rw [e5] at K5
  obtain ⟨⟨i0, i1⟩, ⟨t0, t1⟩, ⟨d0, d1⟩, ⟨r0, r1⟩, ⟨o0, o1⟩, ⟨u0, u1⟩, ⟨l0, l1⟩, _⟩ := ok
  clear e5
  go_enter Try.func31, Try.ntmps31
  go_wp2_with (first | (go_at_call 50; (with_reducible refine (K5.out _).mono ?_); rintro e w1 ⟨rfl, rfl⟩))
  go_ret
  exact ⟨rfl, b0.out⟩
set_option maxHeartbeats 4000000 in
theorem rSRlen (s : Str) (ok : StrOk s) (A : Option Addr) (n c : Nat) (w : World) (hm : n ≤ 9223372036854775807) (e0 : decide (s.id < 1) = false) (e1 : decide (2147483647 < s.id) = false) (e2 : (s.id.tmod 2 == 0) = false) (e3 : decide (7 ≤ s.st) = false) (e4 : (s.st == 0) = false) (e5 : rgt s.sd = true) (e6 : decide (s.rc < 0) = false) (e7 : decide (2147483647 < s.rc) = false) (e8 : decide (s.ow < 0) = false) (e9 : decide (2147483647 < s.ow) = false) (e10 : decide ((65535 : Int) < (n : Int)) = true) :
    Calls Try.prog 31 #[.agg #[.int .i64 (s).id, .int .u8 (s).st, .int .i64 (s).sd, .int .i64 (s).rc, .int .i64 (s).ow, .bool (s).an, .bool (s).en, .slice A n c, .int .u8 (s).ur, .bool (s).inc, .int .i64 (s).sl]] w (BoolP false w) := by
  have b0 := (Bel.refl w).alloc (.cells #[.int .i64 (s).id, .int .u8 (s).st, .int .i64 (s).sd, .int .i64 (s).rc, .int .i64 (s).ow, .bool (s).an, .bool (s).en, .slice A n c, .int .u8 (s).ur, .bool (s).inc, .int .i64 (s).sl] 24)
  have K5 := Lib.hid fun W => wnRightR s.sd ok.sd.1 ok.sd.2 W
  rw [e5] at K5
  obtain ⟨⟨i0, i1⟩, ⟨t0, t1⟩, ⟨d0, d1⟩, ⟨r0, r1⟩, ⟨o0, o1⟩, ⟨u0, u1⟩, ⟨l0, l1⟩, _⟩ := ok
  clear e5
  go_enter Try.func31, Try.ntmps31
  go_wp2_with (first | (go_at_call 50; (with_reducible refine (K5.out _).mono ?_); rintro e w1 ⟨rfl, rfl⟩))
  go_ret
  exact ⟨rfl, b0.out⟩
set_option maxHeartbeats 4000000 in
theorem rSRur (s : Str) (ok : StrOk s) (A : Option Addr) (n c : Nat) (w : World) (hm : n ≤ 9223372036854775807) (e0 : decide (s.id < 1) = false) (e1 : decide (2147483647 < s.id) = false) (e2 : (s.id.tmod 2 == 0) = false) (e3 : decide (7 ≤ s.st) = false) (e4 : (s.st == 0) = false) (e5 : rgt s.sd = true) (e6 : decide (s.rc < 0) = false) (e7 : decide (2147483647 < s.rc) = false) (e8 : decide (s.ow < 0) = false) (e9 : decide (2147483647 < s.ow) = false) (e10 : decide ((65535 : Int) < (n : Int)) = false) (e11 : decide (7 < s.ur) = true) :
    Calls Try.prog 31 #[.agg #[.int .i64 (s).id, .int .u8 (s).st, .int .i64 (s).sd, .int .i64 (s).rc, .int .i64 (s).ow, .bool (s).an, .bool (s).en, .slice A n c, .int .u8 (s).ur, .bool (s).inc, .int .i64 (s).sl]] w (BoolP false w) := by
  have b0 := (Bel.refl w).alloc (.cells #[.int .i64 (s).id, .int .u8 (s).st, .int .i64 (s).sd, .int .i64 (s).rc, .int .i64 (s).ow, .bool (s).an, .bool (s).en, .slice A n c, .int .u8 (s).ur, .bool (s).inc, .int .i64 (s).sl] 24)
  have K5 := Lib.hid fun W => wnRightR s.sd ok.sd.1 ok.sd.2 W
  rw [e5] at K5
  obtain ⟨⟨i0, i1⟩, ⟨t0, t1⟩, ⟨d0, d1⟩, ⟨r0, r1⟩, ⟨o0, o1⟩, ⟨u0, u1⟩, ⟨l0, l1⟩, _⟩ := ok
  clear e5
  go_enter Try.func31, Try.ntmps31
  go_wp2_with (first | (go_at_call 50; (with_reducible refine (K5.out _).mono ?_); rintro e w1 ⟨rfl, rfl⟩))
  go_ret
  exact ⟨rfl, b0.out⟩
set_option maxHeartbeats 4000000 in
theorem rSRsl0 (s : Str) (ok : StrOk s) (A : Option Addr) (n c : Nat) (w : World) (hm : n ≤ 9223372036854775807) (e0 : decide (s.id < 1) = false) (e1 : decide (2147483647 < s.id) = false) (e2 : (s.id.tmod 2 == 0) = false) (e3 : decide (7 ≤ s.st) = false) (e4 : (s.st == 0) = false) (e5 : rgt s.sd = true) (e6 : decide (s.rc < 0) = false) (e7 : decide (2147483647 < s.rc) = false) (e8 : decide (s.ow < 0) = false) (e9 : decide (2147483647 < s.ow) = false) (e10 : decide ((65535 : Int) < (n : Int)) = false) (e11 : decide (7 < s.ur) = false) (e12 : decide (s.sl < -1) = true) :
    Calls Try.prog 31 #[.agg #[.int .i64 (s).id, .int .u8 (s).st, .int .i64 (s).sd, .int .i64 (s).rc, .int .i64 (s).ow, .bool (s).an, .bool (s).en, .slice A n c, .int .u8 (s).ur, .bool (s).inc, .int .i64 (s).sl]] w (BoolP false w) := by
  have b0 := (Bel.refl w).alloc (.cells #[.int .i64 (s).id, .int .u8 (s).st, .int .i64 (s).sd, .int .i64 (s).rc, .int .i64 (s).ow, .bool (s).an, .bool (s).en, .slice A n c, .int .u8 (s).ur, .bool (s).inc, .int .i64 (s).sl] 24)
  have K5 := Lib.hid fun W => wnRightR s.sd ok.sd.1 ok.sd.2 W
  rw [e5] at K5
  obtain ⟨⟨i0, i1⟩, ⟨t0, t1⟩, ⟨d0, d1⟩, ⟨r0, r1⟩, ⟨o0, o1⟩, ⟨u0, u1⟩, ⟨l0, l1⟩, _⟩ := ok
  clear e5
  go_enter Try.func31, Try.ntmps31
  go_wp2_with (first | (go_at_call 50; (with_reducible refine (K5.out _).mono ?_); rintro e w1 ⟨rfl, rfl⟩))
  go_ret
  exact ⟨rfl, b0.out⟩
set_option maxHeartbeats 4000000 in
theorem rSRsl7 (s : Str) (ok : StrOk s) (A : Option Addr) (n c : Nat) (w : World) (hm : n ≤ 9223372036854775807) (e0 : decide (s.id < 1) = false) (e1 : decide (2147483647 < s.id) = false) (e2 : (s.id.tmod 2 == 0) = false) (e3 : decide (7 ≤ s.st) = false) (e4 : (s.st == 0) = false) (e5 : rgt s.sd = true) (e6 : decide (s.rc < 0) = false) (e7 : decide (2147483647 < s.rc) = false) (e8 : decide (s.ow < 0) = false) (e9 : decide (2147483647 < s.ow) = false) (e10 : decide ((65535 : Int) < (n : Int)) = false) (e11 : decide (7 < s.ur) = false) (e12 : decide (s.sl < -1) = false) (e13 : decide (7 < s.sl) = true) :
    Calls Try.prog 31 #[.agg #[.int .i64 (s).id, .int .u8 (s).st, .int .i64 (s).sd, .int .i64 (s).rc, .int .i64 (s).ow, .bool (s).an, .bool (s).en, .slice A n c, .int .u8 (s).ur, .bool (s).inc, .int .i64 (s).sl]] w (BoolP false w) := by
  have b0 := (Bel.refl w).alloc (.cells #[.int .i64 (s).id, .int .u8 (s).st, .int .i64 (s).sd, .int .i64 (s).rc, .int .i64 (s).ow, .bool (s).an, .bool (s).en, .slice A n c, .int .u8 (s).ur, .bool (s).inc, .int .i64 (s).sl] 24)
  have K5 := Lib.hid fun W => wnRightR s.sd ok.sd.1 ok.sd.2 W
  rw [e5] at K5
  obtain ⟨⟨i0, i1⟩, ⟨t0, t1⟩, ⟨d0, d1⟩, ⟨r0, r1⟩, ⟨o0, o1⟩, ⟨u0, u1⟩, ⟨l0, l1⟩, _⟩ := ok
  clear e5
  go_enter Try.func31, Try.ntmps31
  go_wp2_with (first | (go_at_call 50; (with_reducible refine (K5.out _).mono ?_); rintro e w1 ⟨rfl, rfl⟩))
  go_ret
  exact ⟨rfl, b0.out⟩
set_option maxHeartbeats 4000000 in
theorem rSRa (s : Str) (ok : StrOk s) (A : Option Addr) (n c : Nat) (w : World) (hm : n ≤ 9223372036854775807) (e0 : decide (s.id < 1) = false) (e1 : decide (2147483647 < s.id) = false) (e2 : (s.id.tmod 2 == 0) = false) (e3 : decide (7 ≤ s.st) = false) (e4 : (s.st == 0) = false) (e5 : rgt s.sd = true) (e6 : decide (s.rc < 0) = false) (e7 : decide (2147483647 < s.rc) = false) (e8 : decide (s.ow < 0) = false) (e9 : decide (2147483647 < s.ow) = false) (e10 : decide ((65535 : Int) < (n : Int)) = false) (e11 : decide (7 < s.ur) = false) (e12 : decide (s.sl < -1) = false) (e13 : decide (7 < s.sl) = false) (e14 : ansB s.st = true) :
    Calls Try.prog 31 #[.agg #[.int .i64 (s).id, .int .u8 (s).st, .int .i64 (s).sd, .int .i64 (s).rc, .int .i64 (s).ow, .bool (s).an, .bool (s).en, .slice A n c, .int .u8 (s).ur, .bool (s).inc, .int .i64 (s).sl]] w (BoolP true w) := by
  have b0 := (Bel.refl w).alloc (.cells #[.int .i64 (s).id, .int .u8 (s).st, .int .i64 (s).sd, .int .i64 (s).rc, .int .i64 (s).ow, .bool (s).an, .bool (s).en, .slice A n c, .int .u8 (s).ur, .bool (s).inc, .int .i64 (s).sl] 24)
  have K5 := Lib.hid fun W => wnRightR s.sd ok.sd.1 ok.sd.2 W
  rw [e5] at K5
  have K14 := Lib.hid fun W => rAnswers s.st W
  rw [e14] at K14
  obtain ⟨⟨i0, i1⟩, ⟨t0, t1⟩, ⟨d0, d1⟩, ⟨r0, r1⟩, ⟨o0, o1⟩, ⟨u0, u1⟩, ⟨l0, l1⟩, _⟩ := ok
  clear e5 e14
  go_enter Try.func31, Try.ntmps31
  go_wp2_with (first | (go_at_call 50; (with_reducible refine (K5.out _).mono ?_); rintro e w1 ⟨rfl, rfl⟩) | (go_at_call 29; (with_reducible refine (K14.out _).mono ?_); rintro e w1 ⟨rfl, rfl⟩))
  go_ret
  exact ⟨rfl, b0.out⟩
set_option maxHeartbeats 4000000 in
theorem rSRb (s : Str) (ok : StrOk s) (A : Option Addr) (n c : Nat) (w : World) (hm : n ≤ 9223372036854775807) (e0 : decide (s.id < 1) = false) (e1 : decide (2147483647 < s.id) = false) (e2 : (s.id.tmod 2 == 0) = false) (e3 : decide (7 ≤ s.st) = false) (e4 : (s.st == 0) = false) (e5 : rgt s.sd = true) (e6 : decide (s.rc < 0) = false) (e7 : decide (2147483647 < s.rc) = false) (e8 : decide (s.ow < 0) = false) (e9 : decide (2147483647 < s.ow) = false) (e10 : decide ((65535 : Int) < (n : Int)) = false) (e11 : decide (7 < s.ur) = false) (e12 : decide (s.sl < -1) = false) (e13 : decide (7 < s.sl) = false) (e14 : ansB s.st = false) (e15 : ((n : Int) == 0) = false) :
    Calls Try.prog 31 #[.agg #[.int .i64 (s).id, .int .u8 (s).st, .int .i64 (s).sd, .int .i64 (s).rc, .int .i64 (s).ow, .bool (s).an, .bool (s).en, .slice A n c, .int .u8 (s).ur, .bool (s).inc, .int .i64 (s).sl]] w (BoolP false w) := by
  have b0 := (Bel.refl w).alloc (.cells #[.int .i64 (s).id, .int .u8 (s).st, .int .i64 (s).sd, .int .i64 (s).rc, .int .i64 (s).ow, .bool (s).an, .bool (s).en, .slice A n c, .int .u8 (s).ur, .bool (s).inc, .int .i64 (s).sl] 24)
  have K5 := Lib.hid fun W => wnRightR s.sd ok.sd.1 ok.sd.2 W
  rw [e5] at K5
  have K14 := Lib.hid fun W => rAnswers s.st W
  rw [e14] at K14
  obtain ⟨⟨i0, i1⟩, ⟨t0, t1⟩, ⟨d0, d1⟩, ⟨r0, r1⟩, ⟨o0, o1⟩, ⟨u0, u1⟩, ⟨l0, l1⟩, _⟩ := ok
  clear e5 e14
  go_enter Try.func31, Try.ntmps31
  go_wp2_with (first | (go_at_call 50; (with_reducible refine (K5.out _).mono ?_); rintro e w1 ⟨rfl, rfl⟩) | (go_at_call 29; (with_reducible refine (K14.out _).mono ?_); rintro e w1 ⟨rfl, rfl⟩))
  go_ret
  exact ⟨rfl, b0.out⟩
set_option maxHeartbeats 4000000 in
theorem rSRc (s : Str) (ok : StrOk s) (A : Option Addr) (n c : Nat) (w : World) (hm : n ≤ 9223372036854775807) (e0 : decide (s.id < 1) = false) (e1 : decide (2147483647 < s.id) = false) (e2 : (s.id.tmod 2 == 0) = false) (e3 : decide (7 ≤ s.st) = false) (e4 : (s.st == 0) = false) (e5 : rgt s.sd = true) (e6 : decide (s.rc < 0) = false) (e7 : decide (2147483647 < s.rc) = false) (e8 : decide (s.ow < 0) = false) (e9 : decide (2147483647 < s.ow) = false) (e10 : decide ((65535 : Int) < (n : Int)) = false) (e11 : decide (7 < s.ur) = false) (e12 : decide (s.sl < -1) = false) (e13 : decide (7 < s.sl) = false) (e14 : ansB s.st = false) (e15 : ((n : Int) == 0) = true) (e16 : s.en = false) :
    Calls Try.prog 31 #[.agg #[.int .i64 (s).id, .int .u8 (s).st, .int .i64 (s).sd, .int .i64 (s).rc, .int .i64 (s).ow, .bool (s).an, .bool (s).en, .slice A n c, .int .u8 (s).ur, .bool (s).inc, .int .i64 (s).sl]] w (BoolP true w) := by
  have b0 := (Bel.refl w).alloc (.cells #[.int .i64 (s).id, .int .u8 (s).st, .int .i64 (s).sd, .int .i64 (s).rc, .int .i64 (s).ow, .bool (s).an, .bool (s).en, .slice A n c, .int .u8 (s).ur, .bool (s).inc, .int .i64 (s).sl] 24)
  have K5 := Lib.hid fun W => wnRightR s.sd ok.sd.1 ok.sd.2 W
  rw [e5] at K5
  have K14 := Lib.hid fun W => rAnswers s.st W
  rw [e14] at K14
  rw [e16] at b0
  obtain ⟨⟨i0, i1⟩, ⟨t0, t1⟩, ⟨d0, d1⟩, ⟨r0, r1⟩, ⟨o0, o1⟩, ⟨u0, u1⟩, ⟨l0, l1⟩, _⟩ := ok
  clear e5 e14
  go_enter Try.func31, Try.ntmps31
  go_wp2_with (first | (go_at_call 50; (with_reducible refine (K5.out _).mono ?_); rintro e w1 ⟨rfl, rfl⟩) | (go_at_call 29; (with_reducible refine (K14.out _).mono ?_); rintro e w1 ⟨rfl, rfl⟩))
  go_ret
  exact ⟨rfl, b0.out⟩
set_option maxHeartbeats 4000000 in
theorem rSRd (s : Str) (ok : StrOk s) (A : Option Addr) (n c : Nat) (w : World) (hm : n ≤ 9223372036854775807) (e0 : decide (s.id < 1) = false) (e1 : decide (2147483647 < s.id) = false) (e2 : (s.id.tmod 2 == 0) = false) (e3 : decide (7 ≤ s.st) = false) (e4 : (s.st == 0) = false) (e5 : rgt s.sd = true) (e6 : decide (s.rc < 0) = false) (e7 : decide (2147483647 < s.rc) = false) (e8 : decide (s.ow < 0) = false) (e9 : decide (2147483647 < s.ow) = false) (e10 : decide ((65535 : Int) < (n : Int)) = false) (e11 : decide (7 < s.ur) = false) (e12 : decide (s.sl < -1) = false) (e13 : decide (7 < s.sl) = false) (e14 : ansB s.st = false) (e15 : ((n : Int) == 0) = true) (e16 : s.en = true) :
    Calls Try.prog 31 #[.agg #[.int .i64 (s).id, .int .u8 (s).st, .int .i64 (s).sd, .int .i64 (s).rc, .int .i64 (s).ow, .bool (s).an, .bool (s).en, .slice A n c, .int .u8 (s).ur, .bool (s).inc, .int .i64 (s).sl]] w (BoolP false w) := by
  have b0 := (Bel.refl w).alloc (.cells #[.int .i64 (s).id, .int .u8 (s).st, .int .i64 (s).sd, .int .i64 (s).rc, .int .i64 (s).ow, .bool (s).an, .bool (s).en, .slice A n c, .int .u8 (s).ur, .bool (s).inc, .int .i64 (s).sl] 24)
  have K5 := Lib.hid fun W => wnRightR s.sd ok.sd.1 ok.sd.2 W
  rw [e5] at K5
  have K14 := Lib.hid fun W => rAnswers s.st W
  rw [e14] at K14
  rw [e16] at b0
  obtain ⟨⟨i0, i1⟩, ⟨t0, t1⟩, ⟨d0, d1⟩, ⟨r0, r1⟩, ⟨o0, o1⟩, ⟨u0, u1⟩, ⟨l0, l1⟩, _⟩ := ok
  clear e5 e14
  go_enter Try.func31, Try.ntmps31
  go_wp2_with (first | (go_at_call 50; (with_reducible refine (K5.out _).mono ?_); rintro e w1 ⟨rfl, rfl⟩) | (go_at_call 29; (with_reducible refine (K14.out _).mono ?_); rintro e w1 ⟨rfl, rfl⟩))
  go_ret
  exact ⟨rfl, b0.out⟩
theorem right_notr0 {s : Str} {n : Nat} (hn : s.out.length = n) (ok : StrOk s) (h : RightS s) (e : decide (s.id < 1) = true) : False := by
  obtain ⟨⟨a0, a1, a2⟩, ⟨a3, a4⟩, ⟨a5, a6⟩, ⟨a7, a8⟩, ⟨a9, a10⟩, a11, a12, ⟨a13, a14⟩, _⟩ := h
  have t0 := ok.st.1; have u0 := ok.ur.1
  simp only [decide_eq_true_eq, decide_eq_false_iff_not] at e; omega
theorem right_notr1 {s : Str} {n : Nat} (hn : s.out.length = n) (ok : StrOk s) (h : RightS s) (e : decide (2147483647 < s.id) = true) : False := by
  obtain ⟨⟨a0, a1, a2⟩, ⟨a3, a4⟩, ⟨a5, a6⟩, ⟨a7, a8⟩, ⟨a9, a10⟩, a11, a12, ⟨a13, a14⟩, _⟩ := h
  have t0 := ok.st.1; have u0 := ok.ur.1
  simp only [decide_eq_true_eq, decide_eq_false_iff_not] at e; omega
theorem right_notr2 {s : Str} {n : Nat} (hn : s.out.length = n) (ok : StrOk s) (h : RightS s) (e : (s.id.tmod 2 == 0) = true) : False := by
  obtain ⟨⟨a0, a1, a2⟩, ⟨a3, a4⟩, ⟨a5, a6⟩, ⟨a7, a8⟩, ⟨a9, a10⟩, a11, a12, ⟨a13, a14⟩, _⟩ := h
  have t0 := ok.st.1; have u0 := ok.ur.1
  simp only [beq_iff_eq, beq_eq_false_iff_ne, ne_eq] at e; rw [Int.tmod_eq_emod_of_nonneg (by omega)] at e; omega
theorem right_notr3 {s : Str} {n : Nat} (hn : s.out.length = n) (ok : StrOk s) (h : RightS s) (e : decide (7 ≤ s.st) = true) : False := by
  obtain ⟨⟨a0, a1, a2⟩, ⟨a3, a4⟩, ⟨a5, a6⟩, ⟨a7, a8⟩, ⟨a9, a10⟩, a11, a12, ⟨a13, a14⟩, _⟩ := h
  have t0 := ok.st.1; have u0 := ok.ur.1
  simp only [decide_eq_true_eq, decide_eq_false_iff_not] at e; omega
theorem right_notr4 {s : Str} {n : Nat} (hn : s.out.length = n) (ok : StrOk s) (h : RightS s) (e : (s.st == 0) = true) : False := by
  obtain ⟨⟨a0, a1, a2⟩, ⟨a3, a4⟩, ⟨a5, a6⟩, ⟨a7, a8⟩, ⟨a9, a10⟩, a11, a12, ⟨a13, a14⟩, _⟩ := h
  have t0 := ok.st.1; have u0 := ok.ur.1
  simp only [beq_iff_eq, beq_eq_false_iff_ne, ne_eq] at e; omega
theorem right_notr5 {s : Str} {n : Nat} (hn : s.out.length = n) (ok : StrOk s) (h : RightS s) (e : rgt s.sd = false) : False := by
  obtain ⟨⟨a0, a1, a2⟩, ⟨a3, a4⟩, ⟨a5, a6⟩, ⟨a7, a8⟩, ⟨a9, a10⟩, a11, a12, ⟨a13, a14⟩, _⟩ := h
  have t0 := ok.st.1; have u0 := ok.ur.1
  simp only [rgt, decide_eq_true_eq, decide_eq_false_iff_not] at e; omega
theorem right_notr6 {s : Str} {n : Nat} (hn : s.out.length = n) (ok : StrOk s) (h : RightS s) (e : decide (s.rc < 0) = true) : False := by
  obtain ⟨⟨a0, a1, a2⟩, ⟨a3, a4⟩, ⟨a5, a6⟩, ⟨a7, a8⟩, ⟨a9, a10⟩, a11, a12, ⟨a13, a14⟩, _⟩ := h
  have t0 := ok.st.1; have u0 := ok.ur.1
  simp only [decide_eq_true_eq, decide_eq_false_iff_not] at e; omega
theorem right_notr7 {s : Str} {n : Nat} (hn : s.out.length = n) (ok : StrOk s) (h : RightS s) (e : decide (2147483647 < s.rc) = true) : False := by
  obtain ⟨⟨a0, a1, a2⟩, ⟨a3, a4⟩, ⟨a5, a6⟩, ⟨a7, a8⟩, ⟨a9, a10⟩, a11, a12, ⟨a13, a14⟩, _⟩ := h
  have t0 := ok.st.1; have u0 := ok.ur.1
  simp only [decide_eq_true_eq, decide_eq_false_iff_not] at e; omega
theorem right_notr8 {s : Str} {n : Nat} (hn : s.out.length = n) (ok : StrOk s) (h : RightS s) (e : decide (s.ow < 0) = true) : False := by
  obtain ⟨⟨a0, a1, a2⟩, ⟨a3, a4⟩, ⟨a5, a6⟩, ⟨a7, a8⟩, ⟨a9, a10⟩, a11, a12, ⟨a13, a14⟩, _⟩ := h
  have t0 := ok.st.1; have u0 := ok.ur.1
  simp only [decide_eq_true_eq, decide_eq_false_iff_not] at e; omega
theorem right_notr9 {s : Str} {n : Nat} (hn : s.out.length = n) (ok : StrOk s) (h : RightS s) (e : decide (2147483647 < s.ow) = true) : False := by
  obtain ⟨⟨a0, a1, a2⟩, ⟨a3, a4⟩, ⟨a5, a6⟩, ⟨a7, a8⟩, ⟨a9, a10⟩, a11, a12, ⟨a13, a14⟩, _⟩ := h
  have t0 := ok.st.1; have u0 := ok.ur.1
  simp only [decide_eq_true_eq, decide_eq_false_iff_not] at e; omega
theorem right_notr10 {s : Str} {n : Nat} (hn : s.out.length = n) (ok : StrOk s) (h : RightS s) (e : decide ((65535 : Int) < (n : Int)) = true) : False := by
  obtain ⟨⟨a0, a1, a2⟩, ⟨a3, a4⟩, ⟨a5, a6⟩, ⟨a7, a8⟩, ⟨a9, a10⟩, a11, a12, ⟨a13, a14⟩, _⟩ := h
  have t0 := ok.st.1; have u0 := ok.ur.1
  simp only [decide_eq_true_eq, decide_eq_false_iff_not] at e; omega
theorem right_notr11 {s : Str} {n : Nat} (hn : s.out.length = n) (ok : StrOk s) (h : RightS s) (e : decide (7 < s.ur) = true) : False := by
  obtain ⟨⟨a0, a1, a2⟩, ⟨a3, a4⟩, ⟨a5, a6⟩, ⟨a7, a8⟩, ⟨a9, a10⟩, a11, a12, ⟨a13, a14⟩, _⟩ := h
  have t0 := ok.st.1; have u0 := ok.ur.1
  simp only [decide_eq_true_eq, decide_eq_false_iff_not] at e; omega
theorem right_notr12 {s : Str} {n : Nat} (hn : s.out.length = n) (ok : StrOk s) (h : RightS s) (e : decide (s.sl < -1) = true) : False := by
  obtain ⟨⟨a0, a1, a2⟩, ⟨a3, a4⟩, ⟨a5, a6⟩, ⟨a7, a8⟩, ⟨a9, a10⟩, a11, a12, ⟨a13, a14⟩, _⟩ := h
  have t0 := ok.st.1; have u0 := ok.ur.1
  simp only [decide_eq_true_eq, decide_eq_false_iff_not] at e; omega
theorem right_notr13 {s : Str} {n : Nat} (hn : s.out.length = n) (ok : StrOk s) (h : RightS s) (e : decide (7 < s.sl) = true) : False := by
  obtain ⟨⟨a0, a1, a2⟩, ⟨a3, a4⟩, ⟨a5, a6⟩, ⟨a7, a8⟩, ⟨a9, a10⟩, a11, a12, ⟨a13, a14⟩, _⟩ := h
  have t0 := ok.st.1; have u0 := ok.ur.1
  simp only [decide_eq_true_eq, decide_eq_false_iff_not] at e; omega
theorem right_allr {s : Str} {n : Nat} (hn : s.out.length = n) (ok : StrOk s) (e0 : decide (s.id < 1) = false) (e1 : decide (2147483647 < s.id) = false) (e2 : (s.id.tmod 2 == 0) = false) (e3 : decide (7 ≤ s.st) = false) (e4 : (s.st == 0) = false) (e5 : rgt s.sd = true) (e6 : decide (s.rc < 0) = false) (e7 : decide (2147483647 < s.rc) = false) (e8 : decide (s.ow < 0) = false) (e9 : decide (2147483647 < s.ow) = false) (e10 : decide ((65535 : Int) < (n : Int)) = false) (e11 : decide (7 < s.ur) = false) (e12 : decide (s.sl < -1) = false) (e13 : decide (7 < s.sl) = false) (z : (s.st = 1 ∨ s.st = 2) ∨ (s.out.length = 0 ∧ s.en = false)) : RightS s := by
  simp only [decide_eq_true_eq, decide_eq_false_iff_not] at e0
  simp only [decide_eq_true_eq, decide_eq_false_iff_not] at e1
  simp only [beq_iff_eq, beq_eq_false_iff_ne, ne_eq] at e2; rw [Int.tmod_eq_emod_of_nonneg (by omega)] at e2
  simp only [decide_eq_true_eq, decide_eq_false_iff_not] at e3
  simp only [beq_iff_eq, beq_eq_false_iff_ne, ne_eq] at e4
  simp only [rgt, decide_eq_true_eq, decide_eq_false_iff_not] at e5
  simp only [decide_eq_true_eq, decide_eq_false_iff_not] at e6
  simp only [decide_eq_true_eq, decide_eq_false_iff_not] at e7
  simp only [decide_eq_true_eq, decide_eq_false_iff_not] at e8
  simp only [decide_eq_true_eq, decide_eq_false_iff_not] at e9
  simp only [decide_eq_true_eq, decide_eq_false_iff_not] at e10
  simp only [decide_eq_true_eq, decide_eq_false_iff_not] at e11
  simp only [decide_eq_true_eq, decide_eq_false_iff_not] at e12
  simp only [decide_eq_true_eq, decide_eq_false_iff_not] at e13
  have t0 := ok.st.1; have u0 := ok.ur.1
  exact ⟨⟨by omega, by omega, by omega⟩, ⟨by omega, by omega⟩, ⟨by omega, by omega⟩, ⟨by omega, by omega⟩, ⟨by omega, by omega⟩, by omega, by omega, ⟨by omega, by omega⟩, z⟩
set_option maxHeartbeats 1000000 in
theorem rSRight (s : Str) (ok : StrOk s) (A : Option Addr) (n c : Nat) (w : World) (hn : s.out.length = n) (hm : n ≤ 9223372036854775807) : Calls Try.prog 31 #[.agg #[.int .i64 (s).id, .int .u8 (s).st, .int .i64 (s).sd, .int .i64 (s).rc, .int .i64 (s).ow, .bool (s).an, .bool (s).en, .slice A n c, .int .u8 (s).ur, .bool (s).inc, .int .i64 (s).sl]] w (BoolP (rightS s) w) := by
  cases e0 : decide (s.id < 1)
  case true => exact (by rw [rightS_no (fun h => right_notr0 hn ok h e0)]; exact rSRi0 s ok A n c w hm e0)
  cases e1 : decide (2147483647 < s.id)
  case true => exact (by rw [rightS_no (fun h => right_notr1 hn ok h e1)]; exact rSRi1 s ok A n c w hm e0 e1)
  cases e2 : (s.id.tmod 2 == 0)
  case true => exact (by rw [rightS_no (fun h => right_notr2 hn ok h e2)]; exact rSRi2 s ok A n c w hm e0 e1 e2)
  cases e3 : decide (7 ≤ s.st)
  case true => exact (by rw [rightS_no (fun h => right_notr3 hn ok h e3)]; exact rSRst7 s ok A n c w hm e0 e1 e2 e3)
  cases e4 : (s.st == 0)
  case true => exact (by rw [rightS_no (fun h => right_notr4 hn ok h e4)]; exact rSRst0 s ok A n c w hm e0 e1 e2 e3 e4)
  cases e5 : rgt s.sd
  case false => exact (by rw [rightS_no (fun h => right_notr5 hn ok h e5)]; exact rSRsd s ok A n c w hm e0 e1 e2 e3 e4 e5)
  cases e6 : decide (s.rc < 0)
  case true => exact (by rw [rightS_no (fun h => right_notr6 hn ok h e6)]; exact rSRr0 s ok A n c w hm e0 e1 e2 e3 e4 e5 e6)
  cases e7 : decide (2147483647 < s.rc)
  case true => exact (by rw [rightS_no (fun h => right_notr7 hn ok h e7)]; exact rSRr1 s ok A n c w hm e0 e1 e2 e3 e4 e5 e6 e7)
  cases e8 : decide (s.ow < 0)
  case true => exact (by rw [rightS_no (fun h => right_notr8 hn ok h e8)]; exact rSRo0 s ok A n c w hm e0 e1 e2 e3 e4 e5 e6 e7 e8)
  cases e9 : decide (2147483647 < s.ow)
  case true => exact (by rw [rightS_no (fun h => right_notr9 hn ok h e9)]; exact rSRo1 s ok A n c w hm e0 e1 e2 e3 e4 e5 e6 e7 e8 e9)
  cases e10 : decide ((65535 : Int) < (n : Int))
  case true => exact (by rw [rightS_no (fun h => right_notr10 hn ok h e10)]; exact rSRlen s ok A n c w hm e0 e1 e2 e3 e4 e5 e6 e7 e8 e9 e10)
  cases e11 : decide (7 < s.ur)
  case true => exact (by rw [rightS_no (fun h => right_notr11 hn ok h e11)]; exact rSRur s ok A n c w hm e0 e1 e2 e3 e4 e5 e6 e7 e8 e9 e10 e11)
  cases e12 : decide (s.sl < -1)
  case true => exact (by rw [rightS_no (fun h => right_notr12 hn ok h e12)]; exact rSRsl0 s ok A n c w hm e0 e1 e2 e3 e4 e5 e6 e7 e8 e9 e10 e11 e12)
  cases e13 : decide (7 < s.sl)
  case true => exact (by rw [rightS_no (fun h => right_notr13 hn ok h e13)]; exact rSRsl7 s ok A n c w hm e0 e1 e2 e3 e4 e5 e6 e7 e8 e9 e10 e11 e12 e13)
  cases f0 : ansB s.st
  case true => exact (by rw [rightS_yes (right_allr hn ok e0 e1 e2 e3 e4 e5 e6 e7 e8 e9 e10 e11 e12 e13 (.inl (ansB_yes f0)))]; exact rSRa s ok A n c w hm e0 e1 e2 e3 e4 e5 e6 e7 e8 e9 e10 e11 e12 e13 f0)
  cases f1 : ((n : Int) == 0)
  case false => exact (by rw [rightS_no (fun h => by have h9 := h.2.2.2.2.2.2.2.2; have hx := ansB_no f0; have hy := beq_eq_false_iff_ne.1 f1; omega)]; exact rSRb s ok A n c w hm e0 e1 e2 e3 e4 e5 e6 e7 e8 e9 e10 e11 e12 e13 f0 f1)
  by_cases f2 : s.en = false
  · exact (by rw [rightS_yes (right_allr hn ok e0 e1 e2 e3 e4 e5 e6 e7 e8 e9 e10 e11 e12 e13 (.inr ⟨by have := beq_iff_eq.1 f1; omega, f2⟩))]; exact rSRc s ok A n c w hm e0 e1 e2 e3 e4 e5 e6 e7 e8 e9 e10 e11 e12 e13 f0 f1 f2)
  · have f3 : s.en = true := by simpa using f2
    exact (by rw [rightS_no (fun h => by rcases h.2.2.2.2.2.2.2.2 with h9 | h9; exact ansB_no f0 h9; exact f2 h9.2)]; exact rSRd s ok A n c w hm e0 e1 e2 e3 e4 e5 e6 e7 e8 e9 e10 e11 e12 e13 f0 f1 f3)
end Go.Proofs.Ytaaeflomjcpfpaa
