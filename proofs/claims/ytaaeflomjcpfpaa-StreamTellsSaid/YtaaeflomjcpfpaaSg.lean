/- Which streams may be (the program): a lemma a way. -/
import Derived.Test.YtaaeflomjcpfpaaSf
namespace Go.Proofs.Ytaaeflomjcpfpaa
open Go.RowKit Go.Shelf
set_option linter.unusedVariables false
set_option linter.unusedSimpArgs false

set_option maxHeartbeats 4000000 in
theorem fSRid1 (s : Str) (ok : StrOk s) (A : Option Addr) (n c : Nat) (w : World) (hm : n ≤ 9223372036854775807) (e0 : (bits .and .i64 s.id 1 == 0) = true) :
    Calls Try.prog 30 #[.agg #[.int .i64 (s).id, .int .u8 (s).st, .int .i64 (s).sd, .int .i64 (s).rc, .int .i64 (s).ow, .bool (s).an, .bool (s).en, .slice A n c, .int .u8 (s).ur, .bool (s).inc, .int .i64 (s).sl]] w (BoolP false w) := by
  have b0 := (Bel.refl w).alloc (.cells #[.int .i64 (s).id, .int .u8 (s).st, .int .i64 (s).sd, .int .i64 (s).rc, .int .i64 (s).ow, .bool (s).an, .bool (s).en, .slice A n c, .int .u8 (s).ur, .bool (s).inc, .int .i64 (s).sl] 24)
  obtain ⟨⟨i0, i1⟩, ⟨t0, t1⟩, ⟨d0, d1⟩, ⟨r0, r1⟩, ⟨o0, o1⟩, ⟨u0, u1⟩, ⟨l0, l1⟩, _⟩ := ok
  go_enter Try.func30, Try.ntmps30
  go_wp2_with fail
  refine wp_scope_hop 1 ?_
  go_wp2_with (first | ((with_reducible refine wp_goto_then rfl ?_)) | ((with_reducible refine wp_goto ?_); refine hop_goto rfl ?_) | ((with_reducible refine wp_label ?_)) | ((with_reducible refine hop_ret ?_)))
  go_ret
  exact ⟨rfl, b0.out⟩
set_option maxHeartbeats 4000000 in
theorem fSRid2 (s : Str) (ok : StrOk s) (A : Option Addr) (n c : Nat) (w : World) (hm : n ≤ 9223372036854775807) (e0 : (bits .and .i64 s.id 1 == 0) = false) (e1 : withinB s.id 2147483647 = false) :
    Calls Try.prog 30 #[.agg #[.int .i64 (s).id, .int .u8 (s).st, .int .i64 (s).sd, .int .i64 (s).rc, .int .i64 (s).ow, .bool (s).an, .bool (s).en, .slice A n c, .int .u8 (s).ur, .bool (s).inc, .int .i64 (s).sl]] w (BoolP false w) := by
  have b0 := (Bel.refl w).alloc (.cells #[.int .i64 (s).id, .int .u8 (s).st, .int .i64 (s).sd, .int .i64 (s).rc, .int .i64 (s).ow, .bool (s).an, .bool (s).en, .slice A n c, .int .u8 (s).ur, .bool (s).inc, .int .i64 (s).sl] 24)
  have K1 := Lib.hid fun W => fWithin s.id 2147483647 W
  rw [e1] at K1
  obtain ⟨⟨i0, i1⟩, ⟨t0, t1⟩, ⟨d0, d1⟩, ⟨r0, r1⟩, ⟨o0, o1⟩, ⟨u0, u1⟩, ⟨l0, l1⟩, _⟩ := ok
  clear e1
  go_enter Try.func30, Try.ntmps30
  go_wp2_with fail
  refine wp_scope_hop 1 ?_
  go_wp2_with (first | (go_at_call 34; (with_reducible refine (K1.out _).mono ?_); rintro e w1 ⟨rfl, rfl⟩) | ((with_reducible refine wp_goto_then rfl ?_)) | ((with_reducible refine wp_goto ?_); refine hop_goto rfl ?_) | ((with_reducible refine wp_label ?_)) | ((with_reducible refine hop_ret ?_)))
  go_ret
  exact ⟨rfl, b0.out⟩
set_option maxHeartbeats 4000000 in
theorem fSRst0 (s : Str) (ok : StrOk s) (A : Option Addr) (n c : Nat) (w : World) (hm : n ≤ 9223372036854775807) (e0 : (bits .and .i64 s.id 1 == 0) = false) (e1 : withinB s.id 2147483647 = true) (e2 : (s.st == 0) = true) :
    Calls Try.prog 30 #[.agg #[.int .i64 (s).id, .int .u8 (s).st, .int .i64 (s).sd, .int .i64 (s).rc, .int .i64 (s).ow, .bool (s).an, .bool (s).en, .slice A n c, .int .u8 (s).ur, .bool (s).inc, .int .i64 (s).sl]] w (BoolP false w) := by
  have b0 := (Bel.refl w).alloc (.cells #[.int .i64 (s).id, .int .u8 (s).st, .int .i64 (s).sd, .int .i64 (s).rc, .int .i64 (s).ow, .bool (s).an, .bool (s).en, .slice A n c, .int .u8 (s).ur, .bool (s).inc, .int .i64 (s).sl] 24)
  have K1 := Lib.hid fun W => fWithin s.id 2147483647 W
  rw [e1] at K1
  obtain ⟨⟨i0, i1⟩, ⟨t0, t1⟩, ⟨d0, d1⟩, ⟨r0, r1⟩, ⟨o0, o1⟩, ⟨u0, u1⟩, ⟨l0, l1⟩, _⟩ := ok
  clear e1
  go_enter Try.func30, Try.ntmps30
  go_wp2_with fail
  refine wp_scope_hop 1 ?_
  go_wp2_with (first | (go_at_call 34; (with_reducible refine (K1.out _).mono ?_); rintro e w1 ⟨rfl, rfl⟩) | ((with_reducible refine wp_goto_then rfl ?_)) | ((with_reducible refine wp_goto ?_); refine hop_goto rfl ?_) | ((with_reducible refine wp_label ?_)) | ((with_reducible refine hop_ret ?_)))
  go_ret
  exact ⟨rfl, b0.out⟩
set_option maxHeartbeats 4000000 in
theorem fSRst7 (s : Str) (ok : StrOk s) (A : Option Addr) (n c : Nat) (w : World) (hm : n ≤ 9223372036854775807) (e0 : (bits .and .i64 s.id 1 == 0) = false) (e1 : withinB s.id 2147483647 = true) (e2 : (s.st == 0) = false) (e3 : decide (7 ≤ s.st) = true) :
    Calls Try.prog 30 #[.agg #[.int .i64 (s).id, .int .u8 (s).st, .int .i64 (s).sd, .int .i64 (s).rc, .int .i64 (s).ow, .bool (s).an, .bool (s).en, .slice A n c, .int .u8 (s).ur, .bool (s).inc, .int .i64 (s).sl]] w (BoolP false w) := by
  have b0 := (Bel.refl w).alloc (.cells #[.int .i64 (s).id, .int .u8 (s).st, .int .i64 (s).sd, .int .i64 (s).rc, .int .i64 (s).ow, .bool (s).an, .bool (s).en, .slice A n c, .int .u8 (s).ur, .bool (s).inc, .int .i64 (s).sl] 24)
  have K1 := Lib.hid fun W => fWithin s.id 2147483647 W
  rw [e1] at K1
  obtain ⟨⟨i0, i1⟩, ⟨t0, t1⟩, ⟨d0, d1⟩, ⟨r0, r1⟩, ⟨o0, o1⟩, ⟨u0, u1⟩, ⟨l0, l1⟩, _⟩ := ok
  clear e1
  go_enter Try.func30, Try.ntmps30
  go_wp2_with fail
  refine wp_scope_hop 1 ?_
  go_wp2_with (first | (go_at_call 34; (with_reducible refine (K1.out _).mono ?_); rintro e w1 ⟨rfl, rfl⟩) | ((with_reducible refine wp_goto_then rfl ?_)) | ((with_reducible refine wp_goto ?_); refine hop_goto rfl ?_) | ((with_reducible refine wp_label ?_)) | ((with_reducible refine hop_ret ?_)))
  go_ret
  exact ⟨rfl, b0.out⟩
set_option maxHeartbeats 4000000 in
theorem fSRsd (s : Str) (ok : StrOk s) (A : Option Addr) (n c : Nat) (w : World) (hm : n ≤ 9223372036854775807) (e0 : (bits .and .i64 s.id 1 == 0) = false) (e1 : withinB s.id 2147483647 = true) (e2 : (s.st == 0) = false) (e3 : decide (7 ≤ s.st) = false) (e4 : rgt s.sd = false) :
    Calls Try.prog 30 #[.agg #[.int .i64 (s).id, .int .u8 (s).st, .int .i64 (s).sd, .int .i64 (s).rc, .int .i64 (s).ow, .bool (s).an, .bool (s).en, .slice A n c, .int .u8 (s).ur, .bool (s).inc, .int .i64 (s).sl]] w (BoolP false w) := by
  have b0 := (Bel.refl w).alloc (.cells #[.int .i64 (s).id, .int .u8 (s).st, .int .i64 (s).sd, .int .i64 (s).rc, .int .i64 (s).ow, .bool (s).an, .bool (s).en, .slice A n c, .int .u8 (s).ur, .bool (s).inc, .int .i64 (s).sl] 24)
  have K1 := Lib.hid fun W => fWithin s.id 2147483647 W
  rw [e1] at K1
  have K4 := Lib.hid fun W => wnRight s.sd ok.sd.1 ok.sd.2 W
  rw [e4] at K4
  obtain ⟨⟨i0, i1⟩, ⟨t0, t1⟩, ⟨d0, d1⟩, ⟨r0, r1⟩, ⟨o0, o1⟩, ⟨u0, u1⟩, ⟨l0, l1⟩, _⟩ := ok
  clear e1 e4
  go_enter Try.func30, Try.ntmps30
  go_wp2_with fail
  refine wp_scope_hop 1 ?_
  go_wp2_with (first | (go_at_call 34; (with_reducible refine (K1.out _).mono ?_); rintro e w1 ⟨rfl, rfl⟩) | (go_at_call 49; (with_reducible refine (K4.out _).mono ?_); rintro e w1 ⟨rfl, rfl⟩) | ((with_reducible refine wp_goto_then rfl ?_)) | ((with_reducible refine wp_goto ?_); refine hop_goto rfl ?_) | ((with_reducible refine wp_label ?_)) | ((with_reducible refine hop_ret ?_)))
  go_ret
  exact ⟨rfl, b0.out⟩
set_option maxHeartbeats 4000000 in
theorem fSRrc (s : Str) (ok : StrOk s) (A : Option Addr) (n c : Nat) (w : World) (hm : n ≤ 9223372036854775807) (e0 : (bits .and .i64 s.id 1 == 0) = false) (e1 : withinB s.id 2147483647 = true) (e2 : (s.st == 0) = false) (e3 : decide (7 ≤ s.st) = false) (e4 : rgt s.sd = true) (e5 : withinB s.rc 2147483647 = false) :
    Calls Try.prog 30 #[.agg #[.int .i64 (s).id, .int .u8 (s).st, .int .i64 (s).sd, .int .i64 (s).rc, .int .i64 (s).ow, .bool (s).an, .bool (s).en, .slice A n c, .int .u8 (s).ur, .bool (s).inc, .int .i64 (s).sl]] w (BoolP false w) := by
  have b0 := (Bel.refl w).alloc (.cells #[.int .i64 (s).id, .int .u8 (s).st, .int .i64 (s).sd, .int .i64 (s).rc, .int .i64 (s).ow, .bool (s).an, .bool (s).en, .slice A n c, .int .u8 (s).ur, .bool (s).inc, .int .i64 (s).sl] 24)
  have K1 := Lib.hid fun W => fWithin s.id 2147483647 W
  rw [e1] at K1
  have K4 := Lib.hid fun W => wnRight s.sd ok.sd.1 ok.sd.2 W
  rw [e4] at K4
  have K5 := Lib.hid fun W => fWithin s.rc 2147483647 W
  rw [e5] at K5
  obtain ⟨⟨i0, i1⟩, ⟨t0, t1⟩, ⟨d0, d1⟩, ⟨r0, r1⟩, ⟨o0, o1⟩, ⟨u0, u1⟩, ⟨l0, l1⟩, _⟩ := ok
  clear e1 e4 e5
  go_enter Try.func30, Try.ntmps30
  go_wp2_with fail
  refine wp_scope_hop 1 ?_
  go_wp2_with (first | (go_at_call 34; (with_reducible refine (K1.out _).mono ?_); rintro e w1 ⟨rfl, rfl⟩) | (go_at_call 49; (with_reducible refine (K4.out _).mono ?_); rintro e w1 ⟨rfl, rfl⟩) | (go_at_call 34; (with_reducible refine (K5.out _).mono ?_); rintro e w1 ⟨rfl, rfl⟩) | ((with_reducible refine wp_goto_then rfl ?_)) | ((with_reducible refine wp_goto ?_); refine hop_goto rfl ?_) | ((with_reducible refine wp_label ?_)) | ((with_reducible refine hop_ret ?_)))
  go_ret
  exact ⟨rfl, b0.out⟩
set_option maxHeartbeats 4000000 in
theorem fSRow (s : Str) (ok : StrOk s) (A : Option Addr) (n c : Nat) (w : World) (hm : n ≤ 9223372036854775807) (e0 : (bits .and .i64 s.id 1 == 0) = false) (e1 : withinB s.id 2147483647 = true) (e2 : (s.st == 0) = false) (e3 : decide (7 ≤ s.st) = false) (e4 : rgt s.sd = true) (e5 : withinB s.rc 2147483647 = true) (e6 : withinB s.ow 2147483647 = false) :
    Calls Try.prog 30 #[.agg #[.int .i64 (s).id, .int .u8 (s).st, .int .i64 (s).sd, .int .i64 (s).rc, .int .i64 (s).ow, .bool (s).an, .bool (s).en, .slice A n c, .int .u8 (s).ur, .bool (s).inc, .int .i64 (s).sl]] w (BoolP false w) := by
  have b0 := (Bel.refl w).alloc (.cells #[.int .i64 (s).id, .int .u8 (s).st, .int .i64 (s).sd, .int .i64 (s).rc, .int .i64 (s).ow, .bool (s).an, .bool (s).en, .slice A n c, .int .u8 (s).ur, .bool (s).inc, .int .i64 (s).sl] 24)
  have K1 := Lib.hid fun W => fWithin s.id 2147483647 W
  rw [e1] at K1
  have K4 := Lib.hid fun W => wnRight s.sd ok.sd.1 ok.sd.2 W
  rw [e4] at K4
  have K5 := Lib.hid fun W => fWithin s.rc 2147483647 W
  rw [e5] at K5
  have K6 := Lib.hid fun W => fWithin s.ow 2147483647 W
  rw [e6] at K6
  obtain ⟨⟨i0, i1⟩, ⟨t0, t1⟩, ⟨d0, d1⟩, ⟨r0, r1⟩, ⟨o0, o1⟩, ⟨u0, u1⟩, ⟨l0, l1⟩, _⟩ := ok
  clear e1 e4 e5 e6
  go_enter Try.func30, Try.ntmps30
  go_wp2_with fail
  refine wp_scope_hop 1 ?_
  go_wp2_with (first | (go_at_call 34; (with_reducible refine (K1.out _).mono ?_); rintro e w1 ⟨rfl, rfl⟩) | (go_at_call 49; (with_reducible refine (K4.out _).mono ?_); rintro e w1 ⟨rfl, rfl⟩) | (go_at_call 34; (with_reducible refine (K5.out _).mono ?_); rintro e w1 ⟨rfl, rfl⟩) | (go_at_call 34; (with_reducible refine (K6.out _).mono ?_); rintro e w1 ⟨rfl, rfl⟩) | ((with_reducible refine wp_goto_then rfl ?_)) | ((with_reducible refine wp_goto ?_); refine hop_goto rfl ?_) | ((with_reducible refine wp_label ?_)) | ((with_reducible refine hop_ret ?_)))
  go_ret
  exact ⟨rfl, b0.out⟩
set_option maxHeartbeats 4000000 in
theorem fSRlen (s : Str) (ok : StrOk s) (A : Option Addr) (n c : Nat) (w : World) (hm : n ≤ 9223372036854775807) (e0 : (bits .and .i64 s.id 1 == 0) = false) (e1 : withinB s.id 2147483647 = true) (e2 : (s.st == 0) = false) (e3 : decide (7 ≤ s.st) = false) (e4 : rgt s.sd = true) (e5 : withinB s.rc 2147483647 = true) (e6 : withinB s.ow 2147483647 = true) (e7 : decide ((65535 : Int) < (n : Int)) = true) :
    Calls Try.prog 30 #[.agg #[.int .i64 (s).id, .int .u8 (s).st, .int .i64 (s).sd, .int .i64 (s).rc, .int .i64 (s).ow, .bool (s).an, .bool (s).en, .slice A n c, .int .u8 (s).ur, .bool (s).inc, .int .i64 (s).sl]] w (BoolP false w) := by
  have b0 := (Bel.refl w).alloc (.cells #[.int .i64 (s).id, .int .u8 (s).st, .int .i64 (s).sd, .int .i64 (s).rc, .int .i64 (s).ow, .bool (s).an, .bool (s).en, .slice A n c, .int .u8 (s).ur, .bool (s).inc, .int .i64 (s).sl] 24)
  have K1 := Lib.hid fun W => fWithin s.id 2147483647 W
  rw [e1] at K1
  have K4 := Lib.hid fun W => wnRight s.sd ok.sd.1 ok.sd.2 W
  rw [e4] at K4
  have K5 := Lib.hid fun W => fWithin s.rc 2147483647 W
  rw [e5] at K5
  have K6 := Lib.hid fun W => fWithin s.ow 2147483647 W
  rw [e6] at K6
  obtain ⟨⟨i0, i1⟩, ⟨t0, t1⟩, ⟨d0, d1⟩, ⟨r0, r1⟩, ⟨o0, o1⟩, ⟨u0, u1⟩, ⟨l0, l1⟩, _⟩ := ok
  clear e1 e4 e5 e6
  go_enter Try.func30, Try.ntmps30
  go_wp2_with fail
  refine wp_scope_hop 1 ?_
  go_wp2_with (first | (go_at_call 34; (with_reducible refine (K1.out _).mono ?_); rintro e w1 ⟨rfl, rfl⟩) | (go_at_call 49; (with_reducible refine (K4.out _).mono ?_); rintro e w1 ⟨rfl, rfl⟩) | (go_at_call 34; (with_reducible refine (K5.out _).mono ?_); rintro e w1 ⟨rfl, rfl⟩) | (go_at_call 34; (with_reducible refine (K6.out _).mono ?_); rintro e w1 ⟨rfl, rfl⟩) | ((with_reducible refine wp_goto_then rfl ?_)) | ((with_reducible refine wp_goto ?_); refine hop_goto rfl ?_) | ((with_reducible refine wp_label ?_)) | ((with_reducible refine hop_ret ?_)))
  go_ret
  exact ⟨rfl, b0.out⟩
set_option maxHeartbeats 4000000 in
theorem fSRur (s : Str) (ok : StrOk s) (A : Option Addr) (n c : Nat) (w : World) (hm : n ≤ 9223372036854775807) (e0 : (bits .and .i64 s.id 1 == 0) = false) (e1 : withinB s.id 2147483647 = true) (e2 : (s.st == 0) = false) (e3 : decide (7 ≤ s.st) = false) (e4 : rgt s.sd = true) (e5 : withinB s.rc 2147483647 = true) (e6 : withinB s.ow 2147483647 = true) (e7 : decide ((65535 : Int) < (n : Int)) = false) (e8 : (s.ur / 8 != 0) = true) :
    Calls Try.prog 30 #[.agg #[.int .i64 (s).id, .int .u8 (s).st, .int .i64 (s).sd, .int .i64 (s).rc, .int .i64 (s).ow, .bool (s).an, .bool (s).en, .slice A n c, .int .u8 (s).ur, .bool (s).inc, .int .i64 (s).sl]] w (BoolP false w) := by
  have b0 := (Bel.refl w).alloc (.cells #[.int .i64 (s).id, .int .u8 (s).st, .int .i64 (s).sd, .int .i64 (s).rc, .int .i64 (s).ow, .bool (s).an, .bool (s).en, .slice A n c, .int .u8 (s).ur, .bool (s).inc, .int .i64 (s).sl] 24)
  have K1 := Lib.hid fun W => fWithin s.id 2147483647 W
  rw [e1] at K1
  have K4 := Lib.hid fun W => wnRight s.sd ok.sd.1 ok.sd.2 W
  rw [e4] at K4
  have K5 := Lib.hid fun W => fWithin s.rc 2147483647 W
  rw [e5] at K5
  have K6 := Lib.hid fun W => fWithin s.ow 2147483647 W
  rw [e6] at K6
  obtain ⟨⟨i0, i1⟩, ⟨t0, t1⟩, ⟨d0, d1⟩, ⟨r0, r1⟩, ⟨o0, o1⟩, ⟨u0, u1⟩, ⟨l0, l1⟩, _⟩ := ok
  clear e1 e4 e5 e6
  go_enter Try.func30, Try.ntmps30
  go_wp2_with fail
  refine wp_scope_hop 1 ?_
  go_wp2_with (first | (go_at_call 34; (with_reducible refine (K1.out _).mono ?_); rintro e w1 ⟨rfl, rfl⟩) | (go_at_call 49; (with_reducible refine (K4.out _).mono ?_); rintro e w1 ⟨rfl, rfl⟩) | (go_at_call 34; (with_reducible refine (K5.out _).mono ?_); rintro e w1 ⟨rfl, rfl⟩) | (go_at_call 34; (with_reducible refine (K6.out _).mono ?_); rintro e w1 ⟨rfl, rfl⟩) | ((with_reducible refine wp_goto_then rfl ?_)) | ((with_reducible refine wp_goto ?_); refine hop_goto rfl ?_) | ((with_reducible refine wp_label ?_)) | ((with_reducible refine hop_ret ?_)))
  go_ret
  exact ⟨rfl, b0.out⟩
set_option maxHeartbeats 4000000 in
theorem fSRsl0 (s : Str) (ok : StrOk s) (A : Option Addr) (n c : Nat) (w : World) (hm : n ≤ 9223372036854775807) (e0 : (bits .and .i64 s.id 1 == 0) = false) (e1 : withinB s.id 2147483647 = true) (e2 : (s.st == 0) = false) (e3 : decide (7 ≤ s.st) = false) (e4 : rgt s.sd = true) (e5 : withinB s.rc 2147483647 = true) (e6 : withinB s.ow 2147483647 = true) (e7 : decide ((65535 : Int) < (n : Int)) = false) (e8 : (s.ur / 8 != 0) = false) (e9 : decide (s.sl < -1) = true) :
    Calls Try.prog 30 #[.agg #[.int .i64 (s).id, .int .u8 (s).st, .int .i64 (s).sd, .int .i64 (s).rc, .int .i64 (s).ow, .bool (s).an, .bool (s).en, .slice A n c, .int .u8 (s).ur, .bool (s).inc, .int .i64 (s).sl]] w (BoolP false w) := by
  have b0 := (Bel.refl w).alloc (.cells #[.int .i64 (s).id, .int .u8 (s).st, .int .i64 (s).sd, .int .i64 (s).rc, .int .i64 (s).ow, .bool (s).an, .bool (s).en, .slice A n c, .int .u8 (s).ur, .bool (s).inc, .int .i64 (s).sl] 24)
  have K1 := Lib.hid fun W => fWithin s.id 2147483647 W
  rw [e1] at K1
  have K4 := Lib.hid fun W => wnRight s.sd ok.sd.1 ok.sd.2 W
  rw [e4] at K4
  have K5 := Lib.hid fun W => fWithin s.rc 2147483647 W
  rw [e5] at K5
  have K6 := Lib.hid fun W => fWithin s.ow 2147483647 W
  rw [e6] at K6
  obtain ⟨⟨i0, i1⟩, ⟨t0, t1⟩, ⟨d0, d1⟩, ⟨r0, r1⟩, ⟨o0, o1⟩, ⟨u0, u1⟩, ⟨l0, l1⟩, _⟩ := ok
  clear e1 e4 e5 e6
  go_enter Try.func30, Try.ntmps30
  go_wp2_with fail
  refine wp_scope_hop 1 ?_
  go_wp2_with (first | (go_at_call 34; (with_reducible refine (K1.out _).mono ?_); rintro e w1 ⟨rfl, rfl⟩) | (go_at_call 49; (with_reducible refine (K4.out _).mono ?_); rintro e w1 ⟨rfl, rfl⟩) | (go_at_call 34; (with_reducible refine (K5.out _).mono ?_); rintro e w1 ⟨rfl, rfl⟩) | (go_at_call 34; (with_reducible refine (K6.out _).mono ?_); rintro e w1 ⟨rfl, rfl⟩) | ((with_reducible refine wp_goto_then rfl ?_)) | ((with_reducible refine wp_goto ?_); refine hop_goto rfl ?_) | ((with_reducible refine wp_label ?_)) | ((with_reducible refine hop_ret ?_)))
  go_ret
  exact ⟨rfl, b0.out⟩
set_option maxHeartbeats 4000000 in
theorem fSRsl7 (s : Str) (ok : StrOk s) (A : Option Addr) (n c : Nat) (w : World) (hm : n ≤ 9223372036854775807) (e0 : (bits .and .i64 s.id 1 == 0) = false) (e1 : withinB s.id 2147483647 = true) (e2 : (s.st == 0) = false) (e3 : decide (7 ≤ s.st) = false) (e4 : rgt s.sd = true) (e5 : withinB s.rc 2147483647 = true) (e6 : withinB s.ow 2147483647 = true) (e7 : decide ((65535 : Int) < (n : Int)) = false) (e8 : (s.ur / 8 != 0) = false) (e9 : decide (s.sl < -1) = false) (e10 : decide (7 < s.sl) = true) :
    Calls Try.prog 30 #[.agg #[.int .i64 (s).id, .int .u8 (s).st, .int .i64 (s).sd, .int .i64 (s).rc, .int .i64 (s).ow, .bool (s).an, .bool (s).en, .slice A n c, .int .u8 (s).ur, .bool (s).inc, .int .i64 (s).sl]] w (BoolP false w) := by
  have b0 := (Bel.refl w).alloc (.cells #[.int .i64 (s).id, .int .u8 (s).st, .int .i64 (s).sd, .int .i64 (s).rc, .int .i64 (s).ow, .bool (s).an, .bool (s).en, .slice A n c, .int .u8 (s).ur, .bool (s).inc, .int .i64 (s).sl] 24)
  have K1 := Lib.hid fun W => fWithin s.id 2147483647 W
  rw [e1] at K1
  have K4 := Lib.hid fun W => wnRight s.sd ok.sd.1 ok.sd.2 W
  rw [e4] at K4
  have K5 := Lib.hid fun W => fWithin s.rc 2147483647 W
  rw [e5] at K5
  have K6 := Lib.hid fun W => fWithin s.ow 2147483647 W
  rw [e6] at K6
  obtain ⟨⟨i0, i1⟩, ⟨t0, t1⟩, ⟨d0, d1⟩, ⟨r0, r1⟩, ⟨o0, o1⟩, ⟨u0, u1⟩, ⟨l0, l1⟩, _⟩ := ok
  clear e1 e4 e5 e6
  go_enter Try.func30, Try.ntmps30
  go_wp2_with fail
  refine wp_scope_hop 1 ?_
  go_wp2_with (first | (go_at_call 34; (with_reducible refine (K1.out _).mono ?_); rintro e w1 ⟨rfl, rfl⟩) | (go_at_call 49; (with_reducible refine (K4.out _).mono ?_); rintro e w1 ⟨rfl, rfl⟩) | (go_at_call 34; (with_reducible refine (K5.out _).mono ?_); rintro e w1 ⟨rfl, rfl⟩) | (go_at_call 34; (with_reducible refine (K6.out _).mono ?_); rintro e w1 ⟨rfl, rfl⟩) | ((with_reducible refine wp_goto_then rfl ?_)) | ((with_reducible refine wp_goto ?_); refine hop_goto rfl ?_) | ((with_reducible refine wp_label ?_)) | ((with_reducible refine hop_ret ?_)))
  go_ret
  exact ⟨rfl, b0.out⟩
set_option maxHeartbeats 4000000 in
theorem fSRa (s : Str) (ok : StrOk s) (A : Option Addr) (n c : Nat) (w : World) (hm : n ≤ 9223372036854775807) (e0 : (bits .and .i64 s.id 1 == 0) = false) (e1 : withinB s.id 2147483647 = true) (e2 : (s.st == 0) = false) (e3 : decide (7 ≤ s.st) = false) (e4 : rgt s.sd = true) (e5 : withinB s.rc 2147483647 = true) (e6 : withinB s.ow 2147483647 = true) (e7 : decide ((65535 : Int) < (n : Int)) = false) (e8 : (s.ur / 8 != 0) = false) (e9 : decide (s.sl < -1) = false) (e10 : decide (7 < s.sl) = false) (e11 : ansB s.st = true) :
    Calls Try.prog 30 #[.agg #[.int .i64 (s).id, .int .u8 (s).st, .int .i64 (s).sd, .int .i64 (s).rc, .int .i64 (s).ow, .bool (s).an, .bool (s).en, .slice A n c, .int .u8 (s).ur, .bool (s).inc, .int .i64 (s).sl]] w (BoolP true w) := by
  have b0 := (Bel.refl w).alloc (.cells #[.int .i64 (s).id, .int .u8 (s).st, .int .i64 (s).sd, .int .i64 (s).rc, .int .i64 (s).ow, .bool (s).an, .bool (s).en, .slice A n c, .int .u8 (s).ur, .bool (s).inc, .int .i64 (s).sl] 24)
  have K1 := Lib.hid fun W => fWithin s.id 2147483647 W
  rw [e1] at K1
  have K4 := Lib.hid fun W => wnRight s.sd ok.sd.1 ok.sd.2 W
  rw [e4] at K4
  have K5 := Lib.hid fun W => fWithin s.rc 2147483647 W
  rw [e5] at K5
  have K6 := Lib.hid fun W => fWithin s.ow 2147483647 W
  rw [e6] at K6
  have K11 := Lib.hid fun W => fAnswers s.st ok.st.1 W
  rw [e11] at K11
  obtain ⟨⟨i0, i1⟩, ⟨t0, t1⟩, ⟨d0, d1⟩, ⟨r0, r1⟩, ⟨o0, o1⟩, ⟨u0, u1⟩, ⟨l0, l1⟩, _⟩ := ok
  clear e1 e4 e5 e6 e11
  go_enter Try.func30, Try.ntmps30
  go_wp2_with fail
  refine wp_scope_hop 1 ?_
  go_wp2_with (first | (go_at_call 34; (with_reducible refine (K1.out _).mono ?_); rintro e w1 ⟨rfl, rfl⟩) | (go_at_call 49; (with_reducible refine (K4.out _).mono ?_); rintro e w1 ⟨rfl, rfl⟩) | (go_at_call 34; (with_reducible refine (K5.out _).mono ?_); rintro e w1 ⟨rfl, rfl⟩) | (go_at_call 34; (with_reducible refine (K6.out _).mono ?_); rintro e w1 ⟨rfl, rfl⟩) | (go_at_call 28; (with_reducible refine (K11.out _).mono ?_); rintro e w1 ⟨rfl, rfl⟩) | ((with_reducible refine wp_goto_then rfl ?_)) | ((with_reducible refine wp_goto ?_); refine hop_goto rfl ?_) | ((with_reducible refine wp_label ?_)) | ((with_reducible refine hop_ret ?_)))
  go_ret
  exact ⟨rfl, b0.out⟩
set_option maxHeartbeats 4000000 in
theorem fSRb (s : Str) (ok : StrOk s) (A : Option Addr) (n c : Nat) (w : World) (hm : n ≤ 9223372036854775807) (e0 : (bits .and .i64 s.id 1 == 0) = false) (e1 : withinB s.id 2147483647 = true) (e2 : (s.st == 0) = false) (e3 : decide (7 ≤ s.st) = false) (e4 : rgt s.sd = true) (e5 : withinB s.rc 2147483647 = true) (e6 : withinB s.ow 2147483647 = true) (e7 : decide ((65535 : Int) < (n : Int)) = false) (e8 : (s.ur / 8 != 0) = false) (e9 : decide (s.sl < -1) = false) (e10 : decide (7 < s.sl) = false) (e11 : ansB s.st = false) (e12 : ((n : Int) == 0) = false) :
    Calls Try.prog 30 #[.agg #[.int .i64 (s).id, .int .u8 (s).st, .int .i64 (s).sd, .int .i64 (s).rc, .int .i64 (s).ow, .bool (s).an, .bool (s).en, .slice A n c, .int .u8 (s).ur, .bool (s).inc, .int .i64 (s).sl]] w (BoolP false w) := by
  have b0 := (Bel.refl w).alloc (.cells #[.int .i64 (s).id, .int .u8 (s).st, .int .i64 (s).sd, .int .i64 (s).rc, .int .i64 (s).ow, .bool (s).an, .bool (s).en, .slice A n c, .int .u8 (s).ur, .bool (s).inc, .int .i64 (s).sl] 24)
  have K1 := Lib.hid fun W => fWithin s.id 2147483647 W
  rw [e1] at K1
  have K4 := Lib.hid fun W => wnRight s.sd ok.sd.1 ok.sd.2 W
  rw [e4] at K4
  have K5 := Lib.hid fun W => fWithin s.rc 2147483647 W
  rw [e5] at K5
  have K6 := Lib.hid fun W => fWithin s.ow 2147483647 W
  rw [e6] at K6
  have K11 := Lib.hid fun W => fAnswers s.st ok.st.1 W
  rw [e11] at K11
  obtain ⟨⟨i0, i1⟩, ⟨t0, t1⟩, ⟨d0, d1⟩, ⟨r0, r1⟩, ⟨o0, o1⟩, ⟨u0, u1⟩, ⟨l0, l1⟩, _⟩ := ok
  clear e1 e4 e5 e6 e11
  go_enter Try.func30, Try.ntmps30
  go_wp2_with fail
  refine wp_scope_hop 1 ?_
  go_wp2_with (first | (go_at_call 34; (with_reducible refine (K1.out _).mono ?_); rintro e w1 ⟨rfl, rfl⟩) | (go_at_call 49; (with_reducible refine (K4.out _).mono ?_); rintro e w1 ⟨rfl, rfl⟩) | (go_at_call 34; (with_reducible refine (K5.out _).mono ?_); rintro e w1 ⟨rfl, rfl⟩) | (go_at_call 34; (with_reducible refine (K6.out _).mono ?_); rintro e w1 ⟨rfl, rfl⟩) | (go_at_call 28; (with_reducible refine (K11.out _).mono ?_); rintro e w1 ⟨rfl, rfl⟩) | ((with_reducible refine wp_goto_then rfl ?_)) | ((with_reducible refine wp_goto ?_); refine hop_goto rfl ?_) | ((with_reducible refine wp_label ?_)) | ((with_reducible refine hop_ret ?_)))
  go_ret
  exact ⟨rfl, b0.out⟩
set_option maxHeartbeats 4000000 in
theorem fSRc (s : Str) (ok : StrOk s) (A : Option Addr) (n c : Nat) (w : World) (hm : n ≤ 9223372036854775807) (e0 : (bits .and .i64 s.id 1 == 0) = false) (e1 : withinB s.id 2147483647 = true) (e2 : (s.st == 0) = false) (e3 : decide (7 ≤ s.st) = false) (e4 : rgt s.sd = true) (e5 : withinB s.rc 2147483647 = true) (e6 : withinB s.ow 2147483647 = true) (e7 : decide ((65535 : Int) < (n : Int)) = false) (e8 : (s.ur / 8 != 0) = false) (e9 : decide (s.sl < -1) = false) (e10 : decide (7 < s.sl) = false) (e11 : ansB s.st = false) (e12 : ((n : Int) == 0) = true) (e13 : s.en = false) :
    Calls Try.prog 30 #[.agg #[.int .i64 (s).id, .int .u8 (s).st, .int .i64 (s).sd, .int .i64 (s).rc, .int .i64 (s).ow, .bool (s).an, .bool (s).en, .slice A n c, .int .u8 (s).ur, .bool (s).inc, .int .i64 (s).sl]] w (BoolP true w) := by
  have b0 := (Bel.refl w).alloc (.cells #[.int .i64 (s).id, .int .u8 (s).st, .int .i64 (s).sd, .int .i64 (s).rc, .int .i64 (s).ow, .bool (s).an, .bool (s).en, .slice A n c, .int .u8 (s).ur, .bool (s).inc, .int .i64 (s).sl] 24)
  have K1 := Lib.hid fun W => fWithin s.id 2147483647 W
  rw [e1] at K1
  have K4 := Lib.hid fun W => wnRight s.sd ok.sd.1 ok.sd.2 W
  rw [e4] at K4
  have K5 := Lib.hid fun W => fWithin s.rc 2147483647 W
  rw [e5] at K5
  have K6 := Lib.hid fun W => fWithin s.ow 2147483647 W
  rw [e6] at K6
  have K11 := Lib.hid fun W => fAnswers s.st ok.st.1 W
  rw [e11] at K11
  rw [e13] at b0
  obtain ⟨⟨i0, i1⟩, ⟨t0, t1⟩, ⟨d0, d1⟩, ⟨r0, r1⟩, ⟨o0, o1⟩, ⟨u0, u1⟩, ⟨l0, l1⟩, _⟩ := ok
  clear e1 e4 e5 e6 e11
  go_enter Try.func30, Try.ntmps30
  go_wp2_with fail
  refine wp_scope_hop 1 ?_
  go_wp2_with (first | (go_at_call 34; (with_reducible refine (K1.out _).mono ?_); rintro e w1 ⟨rfl, rfl⟩) | (go_at_call 49; (with_reducible refine (K4.out _).mono ?_); rintro e w1 ⟨rfl, rfl⟩) | (go_at_call 34; (with_reducible refine (K5.out _).mono ?_); rintro e w1 ⟨rfl, rfl⟩) | (go_at_call 34; (with_reducible refine (K6.out _).mono ?_); rintro e w1 ⟨rfl, rfl⟩) | (go_at_call 28; (with_reducible refine (K11.out _).mono ?_); rintro e w1 ⟨rfl, rfl⟩) | ((with_reducible refine wp_goto_then rfl ?_)) | ((with_reducible refine wp_goto ?_); refine hop_goto rfl ?_) | ((with_reducible refine wp_label ?_)) | ((with_reducible refine hop_ret ?_)))
  go_ret
  exact ⟨rfl, b0.out⟩
set_option maxHeartbeats 4000000 in
theorem fSRd (s : Str) (ok : StrOk s) (A : Option Addr) (n c : Nat) (w : World) (hm : n ≤ 9223372036854775807) (e0 : (bits .and .i64 s.id 1 == 0) = false) (e1 : withinB s.id 2147483647 = true) (e2 : (s.st == 0) = false) (e3 : decide (7 ≤ s.st) = false) (e4 : rgt s.sd = true) (e5 : withinB s.rc 2147483647 = true) (e6 : withinB s.ow 2147483647 = true) (e7 : decide ((65535 : Int) < (n : Int)) = false) (e8 : (s.ur / 8 != 0) = false) (e9 : decide (s.sl < -1) = false) (e10 : decide (7 < s.sl) = false) (e11 : ansB s.st = false) (e12 : ((n : Int) == 0) = true) (e13 : s.en = true) :
    Calls Try.prog 30 #[.agg #[.int .i64 (s).id, .int .u8 (s).st, .int .i64 (s).sd, .int .i64 (s).rc, .int .i64 (s).ow, .bool (s).an, .bool (s).en, .slice A n c, .int .u8 (s).ur, .bool (s).inc, .int .i64 (s).sl]] w (BoolP false w) := by
  have b0 := (Bel.refl w).alloc (.cells #[.int .i64 (s).id, .int .u8 (s).st, .int .i64 (s).sd, .int .i64 (s).rc, .int .i64 (s).ow, .bool (s).an, .bool (s).en, .slice A n c, .int .u8 (s).ur, .bool (s).inc, .int .i64 (s).sl] 24)
  have K1 := Lib.hid fun W => fWithin s.id 2147483647 W
  rw [e1] at K1
  have K4 := Lib.hid fun W => wnRight s.sd ok.sd.1 ok.sd.2 W
  rw [e4] at K4
  have K5 := Lib.hid fun W => fWithin s.rc 2147483647 W
  rw [e5] at K5
  have K6 := Lib.hid fun W => fWithin s.ow 2147483647 W
  rw [e6] at K6
  have K11 := Lib.hid fun W => fAnswers s.st ok.st.1 W
  rw [e11] at K11
  rw [e13] at b0
  obtain ⟨⟨i0, i1⟩, ⟨t0, t1⟩, ⟨d0, d1⟩, ⟨r0, r1⟩, ⟨o0, o1⟩, ⟨u0, u1⟩, ⟨l0, l1⟩, _⟩ := ok
  clear e1 e4 e5 e6 e11
  go_enter Try.func30, Try.ntmps30
  go_wp2_with fail
  refine wp_scope_hop 1 ?_
  go_wp2_with (first | (go_at_call 34; (with_reducible refine (K1.out _).mono ?_); rintro e w1 ⟨rfl, rfl⟩) | (go_at_call 49; (with_reducible refine (K4.out _).mono ?_); rintro e w1 ⟨rfl, rfl⟩) | (go_at_call 34; (with_reducible refine (K5.out _).mono ?_); rintro e w1 ⟨rfl, rfl⟩) | (go_at_call 34; (with_reducible refine (K6.out _).mono ?_); rintro e w1 ⟨rfl, rfl⟩) | (go_at_call 28; (with_reducible refine (K11.out _).mono ?_); rintro e w1 ⟨rfl, rfl⟩) | ((with_reducible refine wp_goto_then rfl ?_)) | ((with_reducible refine wp_goto ?_); refine hop_goto rfl ?_) | ((with_reducible refine wp_label ?_)) | ((with_reducible refine hop_ret ?_)))
  go_ret
  exact ⟨rfl, b0.out⟩
theorem right_notf0 {s : Str} {n : Nat} (hn : s.out.length = n) (ok : StrOk s) (h : RightS s) (e : (bits .and .i64 s.id 1 == 0) = true) : False := by
  obtain ⟨⟨a0, a1, a2⟩, ⟨a3, a4⟩, ⟨a5, a6⟩, ⟨a7, a8⟩, ⟨a9, a10⟩, a11, a12, ⟨a13, a14⟩, _⟩ := h
  have t0 := ok.st.1; have u0 := ok.ur.1
  rw [and_one s.id] at e; simp at e; omega
theorem right_notf1 {s : Str} {n : Nat} (hn : s.out.length = n) (ok : StrOk s) (h : RightS s) (e : withinB s.id 2147483647 = false) : False := by
  obtain ⟨⟨a0, a1, a2⟩, ⟨a3, a4⟩, ⟨a5, a6⟩, ⟨a7, a8⟩, ⟨a9, a10⟩, a11, a12, ⟨a13, a14⟩, _⟩ := h
  have t0 := ok.st.1; have u0 := ok.ur.1
  simp only [withinB, decide_eq_true_eq, decide_eq_false_iff_not] at e; omega
theorem right_notf2 {s : Str} {n : Nat} (hn : s.out.length = n) (ok : StrOk s) (h : RightS s) (e : (s.st == 0) = true) : False := by
  obtain ⟨⟨a0, a1, a2⟩, ⟨a3, a4⟩, ⟨a5, a6⟩, ⟨a7, a8⟩, ⟨a9, a10⟩, a11, a12, ⟨a13, a14⟩, _⟩ := h
  have t0 := ok.st.1; have u0 := ok.ur.1
  simp only [beq_iff_eq, beq_eq_false_iff_ne, ne_eq] at e; omega
theorem right_notf3 {s : Str} {n : Nat} (hn : s.out.length = n) (ok : StrOk s) (h : RightS s) (e : decide (7 ≤ s.st) = true) : False := by
  obtain ⟨⟨a0, a1, a2⟩, ⟨a3, a4⟩, ⟨a5, a6⟩, ⟨a7, a8⟩, ⟨a9, a10⟩, a11, a12, ⟨a13, a14⟩, _⟩ := h
  have t0 := ok.st.1; have u0 := ok.ur.1
  simp only [decide_eq_true_eq, decide_eq_false_iff_not] at e; omega
theorem right_notf4 {s : Str} {n : Nat} (hn : s.out.length = n) (ok : StrOk s) (h : RightS s) (e : rgt s.sd = false) : False := by
  obtain ⟨⟨a0, a1, a2⟩, ⟨a3, a4⟩, ⟨a5, a6⟩, ⟨a7, a8⟩, ⟨a9, a10⟩, a11, a12, ⟨a13, a14⟩, _⟩ := h
  have t0 := ok.st.1; have u0 := ok.ur.1
  simp only [rgt, decide_eq_true_eq, decide_eq_false_iff_not] at e; omega
theorem right_notf5 {s : Str} {n : Nat} (hn : s.out.length = n) (ok : StrOk s) (h : RightS s) (e : withinB s.rc 2147483647 = false) : False := by
  obtain ⟨⟨a0, a1, a2⟩, ⟨a3, a4⟩, ⟨a5, a6⟩, ⟨a7, a8⟩, ⟨a9, a10⟩, a11, a12, ⟨a13, a14⟩, _⟩ := h
  have t0 := ok.st.1; have u0 := ok.ur.1
  simp only [withinB, decide_eq_true_eq, decide_eq_false_iff_not] at e; omega
theorem right_notf6 {s : Str} {n : Nat} (hn : s.out.length = n) (ok : StrOk s) (h : RightS s) (e : withinB s.ow 2147483647 = false) : False := by
  obtain ⟨⟨a0, a1, a2⟩, ⟨a3, a4⟩, ⟨a5, a6⟩, ⟨a7, a8⟩, ⟨a9, a10⟩, a11, a12, ⟨a13, a14⟩, _⟩ := h
  have t0 := ok.st.1; have u0 := ok.ur.1
  simp only [withinB, decide_eq_true_eq, decide_eq_false_iff_not] at e; omega
theorem right_notf7 {s : Str} {n : Nat} (hn : s.out.length = n) (ok : StrOk s) (h : RightS s) (e : decide ((65535 : Int) < (n : Int)) = true) : False := by
  obtain ⟨⟨a0, a1, a2⟩, ⟨a3, a4⟩, ⟨a5, a6⟩, ⟨a7, a8⟩, ⟨a9, a10⟩, a11, a12, ⟨a13, a14⟩, _⟩ := h
  have t0 := ok.st.1; have u0 := ok.ur.1
  simp only [decide_eq_true_eq, decide_eq_false_iff_not] at e; omega
theorem right_notf8 {s : Str} {n : Nat} (hn : s.out.length = n) (ok : StrOk s) (h : RightS s) (e : (s.ur / 8 != 0) = true) : False := by
  obtain ⟨⟨a0, a1, a2⟩, ⟨a3, a4⟩, ⟨a5, a6⟩, ⟨a7, a8⟩, ⟨a9, a10⟩, a11, a12, ⟨a13, a14⟩, _⟩ := h
  have t0 := ok.st.1; have u0 := ok.ur.1
  simp only [bne_iff_ne, bne_eq_false_iff_eq, ne_eq] at e; omega
theorem right_notf9 {s : Str} {n : Nat} (hn : s.out.length = n) (ok : StrOk s) (h : RightS s) (e : decide (s.sl < -1) = true) : False := by
  obtain ⟨⟨a0, a1, a2⟩, ⟨a3, a4⟩, ⟨a5, a6⟩, ⟨a7, a8⟩, ⟨a9, a10⟩, a11, a12, ⟨a13, a14⟩, _⟩ := h
  have t0 := ok.st.1; have u0 := ok.ur.1
  simp only [decide_eq_true_eq, decide_eq_false_iff_not] at e; omega
theorem right_notf10 {s : Str} {n : Nat} (hn : s.out.length = n) (ok : StrOk s) (h : RightS s) (e : decide (7 < s.sl) = true) : False := by
  obtain ⟨⟨a0, a1, a2⟩, ⟨a3, a4⟩, ⟨a5, a6⟩, ⟨a7, a8⟩, ⟨a9, a10⟩, a11, a12, ⟨a13, a14⟩, _⟩ := h
  have t0 := ok.st.1; have u0 := ok.ur.1
  simp only [decide_eq_true_eq, decide_eq_false_iff_not] at e; omega
theorem right_allf {s : Str} {n : Nat} (hn : s.out.length = n) (ok : StrOk s) (e0 : (bits .and .i64 s.id 1 == 0) = false) (e1 : withinB s.id 2147483647 = true) (e2 : (s.st == 0) = false) (e3 : decide (7 ≤ s.st) = false) (e4 : rgt s.sd = true) (e5 : withinB s.rc 2147483647 = true) (e6 : withinB s.ow 2147483647 = true) (e7 : decide ((65535 : Int) < (n : Int)) = false) (e8 : (s.ur / 8 != 0) = false) (e9 : decide (s.sl < -1) = false) (e10 : decide (7 < s.sl) = false) (z : (s.st = 1 ∨ s.st = 2) ∨ (s.out.length = 0 ∧ s.en = false)) : RightS s := by
  rw [and_one s.id] at e0; simp at e0
  simp only [withinB, decide_eq_true_eq, decide_eq_false_iff_not] at e1
  simp only [beq_iff_eq, beq_eq_false_iff_ne, ne_eq] at e2
  simp only [decide_eq_true_eq, decide_eq_false_iff_not] at e3
  simp only [rgt, decide_eq_true_eq, decide_eq_false_iff_not] at e4
  simp only [withinB, decide_eq_true_eq, decide_eq_false_iff_not] at e5
  simp only [withinB, decide_eq_true_eq, decide_eq_false_iff_not] at e6
  simp only [decide_eq_true_eq, decide_eq_false_iff_not] at e7
  simp only [bne_iff_ne, bne_eq_false_iff_eq, ne_eq] at e8
  simp only [decide_eq_true_eq, decide_eq_false_iff_not] at e9
  simp only [decide_eq_true_eq, decide_eq_false_iff_not] at e10
  have t0 := ok.st.1; have u0 := ok.ur.1
  exact ⟨⟨by omega, by omega, by omega⟩, ⟨by omega, by omega⟩, ⟨by omega, by omega⟩, ⟨by omega, by omega⟩, ⟨by omega, by omega⟩, by omega, by omega, ⟨by omega, by omega⟩, z⟩
set_option maxHeartbeats 1000000 in
theorem fSRight (s : Str) (ok : StrOk s) (A : Option Addr) (n c : Nat) (w : World) (hn : s.out.length = n) (hm : n ≤ 9223372036854775807) : Calls Try.prog 30 #[.agg #[.int .i64 (s).id, .int .u8 (s).st, .int .i64 (s).sd, .int .i64 (s).rc, .int .i64 (s).ow, .bool (s).an, .bool (s).en, .slice A n c, .int .u8 (s).ur, .bool (s).inc, .int .i64 (s).sl]] w (BoolP (rightS s) w) := by
  cases e0 : (bits .and .i64 s.id 1 == 0)
  case true => exact (by rw [rightS_no (fun h => right_notf0 hn ok h e0)]; exact fSRid1 s ok A n c w hm e0)
  cases e1 : withinB s.id 2147483647
  case false => exact (by rw [rightS_no (fun h => right_notf1 hn ok h e1)]; exact fSRid2 s ok A n c w hm e0 e1)
  cases e2 : (s.st == 0)
  case true => exact (by rw [rightS_no (fun h => right_notf2 hn ok h e2)]; exact fSRst0 s ok A n c w hm e0 e1 e2)
  cases e3 : decide (7 ≤ s.st)
  case true => exact (by rw [rightS_no (fun h => right_notf3 hn ok h e3)]; exact fSRst7 s ok A n c w hm e0 e1 e2 e3)
  cases e4 : rgt s.sd
  case false => exact (by rw [rightS_no (fun h => right_notf4 hn ok h e4)]; exact fSRsd s ok A n c w hm e0 e1 e2 e3 e4)
  cases e5 : withinB s.rc 2147483647
  case false => exact (by rw [rightS_no (fun h => right_notf5 hn ok h e5)]; exact fSRrc s ok A n c w hm e0 e1 e2 e3 e4 e5)
  cases e6 : withinB s.ow 2147483647
  case false => exact (by rw [rightS_no (fun h => right_notf6 hn ok h e6)]; exact fSRow s ok A n c w hm e0 e1 e2 e3 e4 e5 e6)
  cases e7 : decide ((65535 : Int) < (n : Int))
  case true => exact (by rw [rightS_no (fun h => right_notf7 hn ok h e7)]; exact fSRlen s ok A n c w hm e0 e1 e2 e3 e4 e5 e6 e7)
  cases e8 : (s.ur / 8 != 0)
  case true => exact (by rw [rightS_no (fun h => right_notf8 hn ok h e8)]; exact fSRur s ok A n c w hm e0 e1 e2 e3 e4 e5 e6 e7 e8)
  cases e9 : decide (s.sl < -1)
  case true => exact (by rw [rightS_no (fun h => right_notf9 hn ok h e9)]; exact fSRsl0 s ok A n c w hm e0 e1 e2 e3 e4 e5 e6 e7 e8 e9)
  cases e10 : decide (7 < s.sl)
  case true => exact (by rw [rightS_no (fun h => right_notf10 hn ok h e10)]; exact fSRsl7 s ok A n c w hm e0 e1 e2 e3 e4 e5 e6 e7 e8 e9 e10)
  cases f0 : ansB s.st
  case true => exact (by rw [rightS_yes (right_allf hn ok e0 e1 e2 e3 e4 e5 e6 e7 e8 e9 e10 (.inl (ansB_yes f0)))]; exact fSRa s ok A n c w hm e0 e1 e2 e3 e4 e5 e6 e7 e8 e9 e10 f0)
  cases f1 : ((n : Int) == 0)
  case false => exact (by rw [rightS_no (fun h => by have h9 := h.2.2.2.2.2.2.2.2; have hx := ansB_no f0; have hy := beq_eq_false_iff_ne.1 f1; omega)]; exact fSRb s ok A n c w hm e0 e1 e2 e3 e4 e5 e6 e7 e8 e9 e10 f0 f1)
  by_cases f2 : s.en = false
  · exact (by rw [rightS_yes (right_allf hn ok e0 e1 e2 e3 e4 e5 e6 e7 e8 e9 e10 (.inr ⟨by have := beq_iff_eq.1 f1; omega, f2⟩))]; exact fSRc s ok A n c w hm e0 e1 e2 e3 e4 e5 e6 e7 e8 e9 e10 f0 f1 f2)
  · have f3 : s.en = true := by simpa using f2
    exact (by rw [rightS_no (fun h => by rcases h.2.2.2.2.2.2.2.2 with h9 | h9; exact ansB_no f0 h9; exact f2 h9.2)]; exact fSRd s ok A n c w hm e0 e1 e2 e3 e4 e5 e6 e7 e8 e9 e10 f0 f1 f3)
end Go.Proofs.Ytaaeflomjcpfpaa
