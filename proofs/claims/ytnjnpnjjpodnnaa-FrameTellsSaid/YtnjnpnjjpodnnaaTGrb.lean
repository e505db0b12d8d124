/- The document's frames: what is put. -/
import Derived.Test.YtnjnpnjjpodnnaaTGra
namespace Go.Proofs.Ytnjnpnjjpodnnaa
open Go.RowKit Go.Shelf
set_option linter.unusedVariables false
set_option linter.unusedSimpArgs false

set_option maxRecDepth 100000 in
set_option maxHeartbeats 1000000 in
theorem rFour8 (fl st pd la ic cd dp wt : Int) (rk al : Bool) (A : Option Addr) (n c : Nat) (P : Option Addr) (pn pc : Nat) (w : World) (hx : -9223372036854775808 ≤ ic ∧ ic ≤ 9223372036854775807) (hcd : 0 ≤ cd ∧ cd ≤ 4294967295) : Calls Try.prog 58 #[.agg #[.int .u8 8, .int .u8 fl, .int .i64 st, .slice A n c, .int .i64 pd, .int .i64 la, .int .i64 ic, .int .u32 cd, .slice P pn pc, .bool rk, .bool al, .int .i64 dp, .int .u8 wt]] w (SlP (putO ic 4) w) := by
  have TK := Lib.hid fun w => rOPut ic 4 w hx.2
  have hw : IntKind.i64.wrap cd = cd := by rw [IntKind.wrap_i64]; omega
  clear hx hcd
  have gr := (Bel.refl w).alloc (.cells #[.int .u8 8, .int .u8 fl, .int .i64 st, .slice A n c, .int .i64 pd, .int .i64 la, .int .i64 ic, .int .u32 cd, .slice P pn pc, .bool rk, .bool al, .int .i64 dp, .int .u8 wt] 30)
  have q := Blk.new w 30 #[.int .u8 8, .int .u8 fl, .int .i64 st, .slice A n c, .int .i64 pd, .int .i64 la, .int .i64 ic, .int .u32 cd, .slice P pn pc, .bool rk, .bool al, .int .i64 dp, .int .u8 wt]
  have z0 := q.at 0 rfl
  have z5 := q.at 5 rfl
  have z6 := q.at 6 rfl
  have z7 := q.at 7 rfl
  go_enter Try.func58, Try.ntmps58
  go_wp2_with (go_at_call 44; (with_reducible refine (TK.out _).mono ?_); rintro e w9 ⟨⟨B, m, d, rfl, m1⟩, hb⟩; replace gr := gr.below hb)
  go_ret
  exact ⟨_, _, _, rfl, m1.base_le (by simp), gr.out⟩
set_option maxRecDepth 100000 in
set_option maxHeartbeats 1000000 in
theorem rFour16 (fl st pd la ic cd dp wt : Int) (rk al : Bool) (A : Option Addr) (n c : Nat) (P : Option Addr) (pn pc : Nat) (w : World) (hx : -9223372036854775808 ≤ la ∧ la ≤ 9223372036854775807) (hcd : 0 ≤ cd ∧ cd ≤ 4294967295) : Calls Try.prog 58 #[.agg #[.int .u8 16, .int .u8 fl, .int .i64 st, .slice A n c, .int .i64 pd, .int .i64 la, .int .i64 ic, .int .u32 cd, .slice P pn pc, .bool rk, .bool al, .int .i64 dp, .int .u8 wt]] w (SlP (putO la 4) w) := by
  have TK := Lib.hid fun w => rOPut la 4 w hx.2
  have hw : IntKind.i64.wrap cd = cd := by rw [IntKind.wrap_i64]; omega
  clear hx hcd
  have gr := (Bel.refl w).alloc (.cells #[.int .u8 16, .int .u8 fl, .int .i64 st, .slice A n c, .int .i64 pd, .int .i64 la, .int .i64 ic, .int .u32 cd, .slice P pn pc, .bool rk, .bool al, .int .i64 dp, .int .u8 wt] 30)
  have q := Blk.new w 30 #[.int .u8 16, .int .u8 fl, .int .i64 st, .slice A n c, .int .i64 pd, .int .i64 la, .int .i64 ic, .int .u32 cd, .slice P pn pc, .bool rk, .bool al, .int .i64 dp, .int .u8 wt]
  have z0 := q.at 0 rfl
  have z5 := q.at 5 rfl
  have z6 := q.at 6 rfl
  have z7 := q.at 7 rfl
  go_enter Try.func58, Try.ntmps58
  go_wp2_with (go_at_call 44; (with_reducible refine (TK.out _).mono ?_); rintro e w9 ⟨⟨B, m, d, rfl, m1⟩, hb⟩; replace gr := gr.below hb)
  go_ret
  exact ⟨_, _, _, rfl, m1.base_le (by simp), gr.out⟩
set_option maxRecDepth 100000 in
set_option maxHeartbeats 1000000 in
theorem rFouro (kd fl st pd la ic cd dp wt : Int) (rk al : Bool) (A : Option Addr) (n c : Nat) (P : Option Addr) (pn pc : Nat) (w : World) (hx : -9223372036854775808 ≤ cd ∧ cd ≤ 9223372036854775807) (hcd : 0 ≤ cd ∧ cd ≤ 4294967295) (n8 : (kd == 8) = false) (n16 : (kd == 16) = false) : Calls Try.prog 58 #[.agg #[.int .u8 kd, .int .u8 fl, .int .i64 st, .slice A n c, .int .i64 pd, .int .i64 la, .int .i64 ic, .int .u32 cd, .slice P pn pc, .bool rk, .bool al, .int .i64 dp, .int .u8 wt]] w (SlP (putO cd 4) w) := by
  have TK := Lib.hid fun w => rOPut cd 4 w hx.2
  have hw : IntKind.i64.wrap cd = cd := by rw [IntKind.wrap_i64]; omega
  clear hx hcd
  have gr := (Bel.refl w).alloc (.cells #[.int .u8 kd, .int .u8 fl, .int .i64 st, .slice A n c, .int .i64 pd, .int .i64 la, .int .i64 ic, .int .u32 cd, .slice P pn pc, .bool rk, .bool al, .int .i64 dp, .int .u8 wt] 30)
  have q := Blk.new w 30 #[.int .u8 kd, .int .u8 fl, .int .i64 st, .slice A n c, .int .i64 pd, .int .i64 la, .int .i64 ic, .int .u32 cd, .slice P pn pc, .bool rk, .bool al, .int .i64 dp, .int .u8 wt]
  have z0 := q.at 0 rfl
  have z5 := q.at 5 rfl
  have z6 := q.at 6 rfl
  have z7 := q.at 7 rfl
  go_enter Try.func58, Try.ntmps58
  go_wp2_with (go_at_call 44; (with_reducible refine (TK.out _).mono ?_); rintro e w9 ⟨⟨B, m, d, rfl, m1⟩, hb⟩; replace gr := gr.below hb)
  go_ret
  exact ⟨_, _, _, rfl, m1.base_le (by simp), gr.out⟩
def quadS (kd la ic cd : Int) : List Int := putO (if kd = 8 then ic else if kd = 16 then la else cd) 4
theorem rFour (kd fl st pd la ic cd dp wt : Int) (rk al : Bool) (A : Option Addr) (n c : Nat) (P : Option Addr) (pn pc : Nat) (w : World) (hl : -9223372036854775808 ≤ la ∧ la ≤ 9223372036854775807) (hi : -9223372036854775808 ≤ ic ∧ ic ≤ 9223372036854775807) (hcd : 0 ≤ cd ∧ cd ≤ 4294967295) : Calls Try.prog 58 #[.agg #[.int .u8 kd, .int .u8 fl, .int .i64 st, .slice A n c, .int .i64 pd, .int .i64 la, .int .i64 ic, .int .u32 cd, .slice P pn pc, .bool rk, .bool al, .int .i64 dp, .int .u8 wt]] w (SlP (quadS kd la ic cd) w) := by
  by_cases h8 : kd = 8
  · subst h8
    exact rFour8 fl st pd la ic cd dp wt rk al A n c P pn pc w hi hcd
  · by_cases h16 : kd = 16
    · subst h16
      exact rFour16 fl st pd la ic cd dp wt rk al A n c P pn pc w hl hcd
    · have e : quadS kd la ic cd = putO cd 4 := by unfold quadS; rw [if_neg h8, if_neg h16]
      rw [e]
      exact rFouro kd fl st pd la ic cd dp wt rk al A n c P pn pc w (by omega) hcd (by simpa using h8) (by simpa using h16)
set_option maxRecDepth 100000 in
set_option maxHeartbeats 1000000 in
theorem rPay2 (fl st pd la ic cd dp wt : Int) (rk al : Bool) (A : Option Addr) (n c : Nat) (P : Option Addr) (pn pc : Nat) (da : List Int) (prs : List (Int × Int)) (w : World) (hfl : 0 ≤ fl ∧ fl ≤ 255) (hpdb : -9223372036854775808 ≤ pd ∧ pd ≤ 9223372036854775807) (hla : -9223372036854775808 ≤ la ∧ la ≤ 9223372036854775807) (hic : -9223372036854775808 ≤ ic ∧ ic ≤ 9223372036854775807) (hcd : 0 ≤ cd ∧ cd ≤ 4294967295) (hdp : -9223372036854775808 ≤ dp ∧ dp ≤ 9223372036854775807) (hwt : 0 ≤ wt ∧ wt ≤ 255) (h : Byt w A n c da) (hn : n ≤ 90000) (hp : Prs w P pn pc prs) (hpn : pn ≤ 100000) : Calls Try.prog 37 #[.agg #[.int .u8 2, .int .u8 fl, .int .i64 st, .slice A n c, .int .i64 pd, .int .i64 la, .int .i64 ic, .int .u32 cd, .slice P pn pc, .bool rk, .bool al, .int .i64 dp, .int .u8 wt]] w (SlP (rankL al dp wt) w) := by
  have hl := Lib.hid h.len
  have HQ := Lib.hid fun w => rFour 2 fl st pd la ic cd dp wt rk al A n c P pn pc w hla hic hcd
  have HR := Lib.hid fun w => rPutRank al dp wt w hwt.1 hwt.2
  clear hla hic hcd hfl hpdb hdp hwt
  have gr := (Bel.refl w).alloc (.cells #[.int .u8 2, .int .u8 fl, .int .i64 st, .slice A n c, .int .i64 pd, .int .i64 la, .int .i64 ic, .int .u32 cd, .slice P pn pc, .bool rk, .bool al, .int .i64 dp, .int .u8 wt] 30)
  have q := Blk.new w 30 #[.int .u8 2, .int .u8 fl, .int .i64 st, .slice A n c, .int .i64 pd, .int .i64 la, .int .i64 ic, .int .u32 cd, .slice P pn pc, .bool rk, .bool al, .int .i64 dp, .int .u8 wt]
  replace h := h.alloc (.cells #[.int .u8 2, .int .u8 fl, .int .i64 st, .slice A n c, .int .i64 pd, .int .i64 la, .int .i64 ic, .int .u32 cd, .slice P pn pc, .bool rk, .bool al, .int .i64 dp, .int .u8 wt] 30)
  replace hp := hp.alloc (.cells #[.int .u8 2, .int .u8 fl, .int .i64 st, .slice A n c, .int .i64 pd, .int .i64 la, .int .i64 ic, .int .u32 cd, .slice P pn pc, .bool rk, .bool al, .int .i64 dp, .int .u8 wt] 30)
  have z0 := q.at 0 rfl
  have z1 := q.at 1 rfl
  have z3 := q.at 3 rfl
  have z4 := q.at 4 rfl
  have z5 := q.at 5 rfl
  have z8 := q.at 8 rfl
  have z9 := q.at 9 rfl
  go_enter Try.func37, Try.ntmps37
  go_wp2_with (first | (go_at_call 58; (with_reducible refine (HQ.out _).mono ?_); rintro e w9 ⟨Bq, mq, dq, rfl, mqq, hb⟩; have mq1 := mqq.base_le (b := w.heap.size + 1) (Nat.succ_le_of_lt q.lt); clear mqq; replace gr := gr.below hb; replace q := q.below hb; replace h := h.below hb; (try replace hp := hp.below hb); (try replace m1 := m1.below hb); (try clear z0); have z0 := q.at 0 rfl; (try clear z1); have z1 := q.at 1 rfl; (try clear z3); have z3 := q.at 3 rfl; (try clear z4); have z4 := q.at 4 rfl; (try clear z5); have z5 := q.at 5 rfl; (try clear z8); have z8 := q.at 8 rfl; (try clear z9); have z9 := q.at 9 rfl; clear hb) | (refine wpList_getM (cs := [.bool al, .int .i64 dp, .int .u8 wt]) (by rfl) _ _ rfl rfl q rfl Try.underlying28 rfl (by rfl) ?_) | (go_at_call 59; (with_reducible refine (HR.out _).mono ?_); rintro e w9 ⟨B, m, d, rfl, m1h, hb⟩; have m1 := m1h.base_le (b := w.heap.size + 1) (Nat.succ_le_of_lt q.lt); clear m1h; replace gr := gr.below hb; replace q := q.below hb; replace h := h.below hb; (try replace hp := hp.below hb); skip; (try clear z0); have z0 := q.at 0 rfl; (try clear z1); have z1 := q.at 1 rfl; (try clear z3); have z3 := q.at 3 rfl; (try clear z4); have z4 := q.at 4 rfl; (try clear z5); have z5 := q.at 5 rfl; (try clear z8); have z8 := q.at 8 rfl; (try clear z9); have z9 := q.at 9 rfl; clear hb; have hL2 := m1.len))
  go_ret
  exact ⟨_, _, _, rfl, m1.base_le (Nat.le_succ _), gr.out⟩
set_option maxRecDepth 100000 in
set_option maxHeartbeats 1000000 in
theorem rPay4 (fl st pd la ic cd dp wt : Int) (rk al : Bool) (A : Option Addr) (n c : Nat) (P : Option Addr) (pn pc : Nat) (da : List Int) (prs : List (Int × Int)) (w : World) (hfl : 0 ≤ fl ∧ fl ≤ 255) (hpdb : -9223372036854775808 ≤ pd ∧ pd ≤ 9223372036854775807) (hla : -9223372036854775808 ≤ la ∧ la ≤ 9223372036854775807) (hic : -9223372036854775808 ≤ ic ∧ ic ≤ 9223372036854775807) (hcd : 0 ≤ cd ∧ cd ≤ 4294967295) (hdp : -9223372036854775808 ≤ dp ∧ dp ≤ 9223372036854775807) (hwt : 0 ≤ wt ∧ wt ≤ 255) (h : Byt w A n c da) (hn : n ≤ 90000) (hp : Prs w P pn pc prs) (hpn : pn ≤ 100000) : Calls Try.prog 37 #[.agg #[.int .u8 4, .int .u8 fl, .int .i64 st, .slice A n c, .int .i64 pd, .int .i64 la, .int .i64 ic, .int .u32 cd, .slice P pn pc, .bool rk, .bool al, .int .i64 dp, .int .u8 wt]] w (SlP (putPs prs) w) := by
  have hl := Lib.hid h.len
  have HQ := Lib.hid fun w => rFour 4 fl st pd la ic cd dp wt rk al A n c P pn pc w hla hic hcd
  clear hla hic hcd hfl hpdb hdp hwt
  have gr := (Bel.refl w).alloc (.cells #[.int .u8 4, .int .u8 fl, .int .i64 st, .slice A n c, .int .i64 pd, .int .i64 la, .int .i64 ic, .int .u32 cd, .slice P pn pc, .bool rk, .bool al, .int .i64 dp, .int .u8 wt] 30)
  have q := Blk.new w 30 #[.int .u8 4, .int .u8 fl, .int .i64 st, .slice A n c, .int .i64 pd, .int .i64 la, .int .i64 ic, .int .u32 cd, .slice P pn pc, .bool rk, .bool al, .int .i64 dp, .int .u8 wt]
  replace h := h.alloc (.cells #[.int .u8 4, .int .u8 fl, .int .i64 st, .slice A n c, .int .i64 pd, .int .i64 la, .int .i64 ic, .int .u32 cd, .slice P pn pc, .bool rk, .bool al, .int .i64 dp, .int .u8 wt] 30)
  replace hp := hp.alloc (.cells #[.int .u8 4, .int .u8 fl, .int .i64 st, .slice A n c, .int .i64 pd, .int .i64 la, .int .i64 ic, .int .u32 cd, .slice P pn pc, .bool rk, .bool al, .int .i64 dp, .int .u8 wt] 30)
  have z0 := q.at 0 rfl
  have z1 := q.at 1 rfl
  have z3 := q.at 3 rfl
  have z4 := q.at 4 rfl
  have z5 := q.at 5 rfl
  have z8 := q.at 8 rfl
  have z9 := q.at 9 rfl
  go_enter Try.func37, Try.ntmps37
  go_wp2_with (first | (go_at_call 58; (with_reducible refine (HQ.out _).mono ?_); rintro e w9 ⟨Bq, mq, dq, rfl, mqq, hb⟩; have mq1 := mqq.base_le (b := w.heap.size + 1) (Nat.succ_le_of_lt q.lt); clear mqq; replace gr := gr.below hb; replace q := q.below hb; replace h := h.below hb; (try replace hp := hp.below hb); (try replace m1 := m1.below hb); (try clear z0); have z0 := q.at 0 rfl; (try clear z1); have z1 := q.at 1 rfl; (try clear z3); have z3 := q.at 3 rfl; (try clear z4); have z4 := q.at 4 rfl; (try clear z5); have z5 := q.at 5 rfl; (try clear z8); have z8 := q.at 8 rfl; (try clear z9); have z9 := q.at 9 rfl; clear hb) | (go_at_call 27; (with_reducible refine (rPutPairs P pn pc prs _ hp hpn).mono ?_); rintro e w9 ⟨B, d, rfl, m1h, hb⟩; have m1 := m1h.base_le (b := w.heap.size + 1) (Nat.succ_le_of_lt q.lt); clear m1h; replace gr := gr.below hb; replace q := q.below hb; replace h := h.below hb; (try replace hp := hp.below hb); skip; (try clear z0); have z0 := q.at 0 rfl; (try clear z1); have z1 := q.at 1 rfl; (try clear z3); have z3 := q.at 3 rfl; (try clear z4); have z4 := q.at 4 rfl; (try clear z5); have z5 := q.at 5 rfl; (try clear z8); have z8 := q.at 8 rfl; (try clear z9); have z9 := q.at 9 rfl; clear hb))
  go_ret
  exact ⟨_, _, _, rfl, m1.base_le (Nat.le_succ _), gr.out⟩
set_option maxRecDepth 100000 in
set_option maxHeartbeats 1000000 in
theorem rPay3 (fl st pd la ic cd dp wt : Int) (rk al : Bool) (A : Option Addr) (n c : Nat) (P : Option Addr) (pn pc : Nat) (da : List Int) (prs : List (Int × Int)) (w : World) (hfl : 0 ≤ fl ∧ fl ≤ 255) (hpdb : -9223372036854775808 ≤ pd ∧ pd ≤ 9223372036854775807) (hla : -9223372036854775808 ≤ la ∧ la ≤ 9223372036854775807) (hic : -9223372036854775808 ≤ ic ∧ ic ≤ 9223372036854775807) (hcd : 0 ≤ cd ∧ cd ≤ 4294967295) (hdp : -9223372036854775808 ≤ dp ∧ dp ≤ 9223372036854775807) (hwt : 0 ≤ wt ∧ wt ≤ 255) (h : Byt w A n c da) (hn : n ≤ 90000) (hp : Prs w P pn pc prs) (hpn : pn ≤ 100000) : Calls Try.prog 37 #[.agg #[.int .u8 3, .int .u8 fl, .int .i64 st, .slice A n c, .int .i64 pd, .int .i64 la, .int .i64 ic, .int .u32 cd, .slice P pn pc, .bool rk, .bool al, .int .i64 dp, .int .u8 wt]] w (SlP (quadS 3 la ic cd) w) := by
  have hl := Lib.hid h.len
  have HQ := Lib.hid fun w => rFour 3 fl st pd la ic cd dp wt rk al A n c P pn pc w hla hic hcd
  clear hla hic hcd hfl hpdb hdp hwt
  have gr := (Bel.refl w).alloc (.cells #[.int .u8 3, .int .u8 fl, .int .i64 st, .slice A n c, .int .i64 pd, .int .i64 la, .int .i64 ic, .int .u32 cd, .slice P pn pc, .bool rk, .bool al, .int .i64 dp, .int .u8 wt] 30)
  have q := Blk.new w 30 #[.int .u8 3, .int .u8 fl, .int .i64 st, .slice A n c, .int .i64 pd, .int .i64 la, .int .i64 ic, .int .u32 cd, .slice P pn pc, .bool rk, .bool al, .int .i64 dp, .int .u8 wt]
  replace h := h.alloc (.cells #[.int .u8 3, .int .u8 fl, .int .i64 st, .slice A n c, .int .i64 pd, .int .i64 la, .int .i64 ic, .int .u32 cd, .slice P pn pc, .bool rk, .bool al, .int .i64 dp, .int .u8 wt] 30)
  replace hp := hp.alloc (.cells #[.int .u8 3, .int .u8 fl, .int .i64 st, .slice A n c, .int .i64 pd, .int .i64 la, .int .i64 ic, .int .u32 cd, .slice P pn pc, .bool rk, .bool al, .int .i64 dp, .int .u8 wt] 30)
  have z0 := q.at 0 rfl
  have z1 := q.at 1 rfl
  have z3 := q.at 3 rfl
  have z4 := q.at 4 rfl
  have z5 := q.at 5 rfl
  have z8 := q.at 8 rfl
  have z9 := q.at 9 rfl
  go_enter Try.func37, Try.ntmps37
  go_wp2_with (first | (go_at_call 58; (with_reducible refine (HQ.out _).mono ?_); rintro e w9 ⟨Bq, mq, dq, rfl, mqq, hb⟩; have mq1 := mqq.base_le (b := w.heap.size + 1) (Nat.succ_le_of_lt q.lt); clear mqq; replace gr := gr.below hb; replace q := q.below hb; replace h := h.below hb; (try replace hp := hp.below hb); (try replace m1 := m1.below hb); (try clear z0); have z0 := q.at 0 rfl; (try clear z1); have z1 := q.at 1 rfl; (try clear z3); have z3 := q.at 3 rfl; (try clear z4); have z4 := q.at 4 rfl; (try clear z5); have z5 := q.at 5 rfl; (try clear z8); have z8 := q.at 8 rfl; (try clear z9); have z9 := q.at 9 rfl; clear hb))
  go_ret
  exact ⟨_, _, _, rfl, mq1.base_le (Nat.le_succ _), gr.out⟩
set_option maxRecDepth 100000 in
set_option maxHeartbeats 1000000 in
theorem rPay8 (fl st pd la ic cd dp wt : Int) (rk al : Bool) (A : Option Addr) (n c : Nat) (P : Option Addr) (pn pc : Nat) (da : List Int) (prs : List (Int × Int)) (w : World) (hfl : 0 ≤ fl ∧ fl ≤ 255) (hpdb : -9223372036854775808 ≤ pd ∧ pd ≤ 9223372036854775807) (hla : -9223372036854775808 ≤ la ∧ la ≤ 9223372036854775807) (hic : -9223372036854775808 ≤ ic ∧ ic ≤ 9223372036854775807) (hcd : 0 ≤ cd ∧ cd ≤ 4294967295) (hdp : -9223372036854775808 ≤ dp ∧ dp ≤ 9223372036854775807) (hwt : 0 ≤ wt ∧ wt ≤ 255) (h : Byt w A n c da) (hn : n ≤ 90000) (hp : Prs w P pn pc prs) (hpn : pn ≤ 100000) : Calls Try.prog 37 #[.agg #[.int .u8 8, .int .u8 fl, .int .i64 st, .slice A n c, .int .i64 pd, .int .i64 la, .int .i64 ic, .int .u32 cd, .slice P pn pc, .bool rk, .bool al, .int .i64 dp, .int .u8 wt]] w (SlP (quadS 8 la ic cd) w) := by
  have hl := Lib.hid h.len
  have HQ := Lib.hid fun w => rFour 8 fl st pd la ic cd dp wt rk al A n c P pn pc w hla hic hcd
  clear hla hic hcd hfl hpdb hdp hwt
  have gr := (Bel.refl w).alloc (.cells #[.int .u8 8, .int .u8 fl, .int .i64 st, .slice A n c, .int .i64 pd, .int .i64 la, .int .i64 ic, .int .u32 cd, .slice P pn pc, .bool rk, .bool al, .int .i64 dp, .int .u8 wt] 30)
  have q := Blk.new w 30 #[.int .u8 8, .int .u8 fl, .int .i64 st, .slice A n c, .int .i64 pd, .int .i64 la, .int .i64 ic, .int .u32 cd, .slice P pn pc, .bool rk, .bool al, .int .i64 dp, .int .u8 wt]
  replace h := h.alloc (.cells #[.int .u8 8, .int .u8 fl, .int .i64 st, .slice A n c, .int .i64 pd, .int .i64 la, .int .i64 ic, .int .u32 cd, .slice P pn pc, .bool rk, .bool al, .int .i64 dp, .int .u8 wt] 30)
  replace hp := hp.alloc (.cells #[.int .u8 8, .int .u8 fl, .int .i64 st, .slice A n c, .int .i64 pd, .int .i64 la, .int .i64 ic, .int .u32 cd, .slice P pn pc, .bool rk, .bool al, .int .i64 dp, .int .u8 wt] 30)
  have z0 := q.at 0 rfl
  have z1 := q.at 1 rfl
  have z3 := q.at 3 rfl
  have z4 := q.at 4 rfl
  have z5 := q.at 5 rfl
  have z8 := q.at 8 rfl
  have z9 := q.at 9 rfl
  go_enter Try.func37, Try.ntmps37
  go_wp2_with (first | (go_at_call 58; (with_reducible refine (HQ.out _).mono ?_); rintro e w9 ⟨Bq, mq, dq, rfl, mqq, hb⟩; have mq1 := mqq.base_le (b := w.heap.size + 1) (Nat.succ_le_of_lt q.lt); clear mqq; replace gr := gr.below hb; replace q := q.below hb; replace h := h.below hb; (try replace hp := hp.below hb); (try replace m1 := m1.below hb); (try clear z0); have z0 := q.at 0 rfl; (try clear z1); have z1 := q.at 1 rfl; (try clear z3); have z3 := q.at 3 rfl; (try clear z4); have z4 := q.at 4 rfl; (try clear z5); have z5 := q.at 5 rfl; (try clear z8); have z8 := q.at 8 rfl; (try clear z9); have z9 := q.at 9 rfl; clear hb))
  go_ret
  exact ⟨_, _, _, rfl, mq1.base_le (Nat.le_succ _), gr.out⟩
set_option maxRecDepth 100000 in
set_option maxHeartbeats 1000000 in
theorem rPay16 (fl st pd la ic cd dp wt : Int) (rk al : Bool) (A : Option Addr) (n c : Nat) (P : Option Addr) (pn pc : Nat) (da : List Int) (prs : List (Int × Int)) (w : World) (hfl : 0 ≤ fl ∧ fl ≤ 255) (hpdb : -9223372036854775808 ≤ pd ∧ pd ≤ 9223372036854775807) (hla : -9223372036854775808 ≤ la ∧ la ≤ 9223372036854775807) (hic : -9223372036854775808 ≤ ic ∧ ic ≤ 9223372036854775807) (hcd : 0 ≤ cd ∧ cd ≤ 4294967295) (hdp : -9223372036854775808 ≤ dp ∧ dp ≤ 9223372036854775807) (hwt : 0 ≤ wt ∧ wt ≤ 255) (h : Byt w A n c da) (hn : n ≤ 90000) (hp : Prs w P pn pc prs) (hpn : pn ≤ 100000) : Calls Try.prog 37 #[.agg #[.int .u8 16, .int .u8 fl, .int .i64 st, .slice A n c, .int .i64 pd, .int .i64 la, .int .i64 ic, .int .u32 cd, .slice P pn pc, .bool rk, .bool al, .int .i64 dp, .int .u8 wt]] w (SlP (quadS 16 la ic cd ++ da) w) := by
  have hl := Lib.hid h.len
  have HQ := Lib.hid fun w => rFour 16 fl st pd la ic cd dp wt rk al A n c P pn pc w hla hic hcd
  have hL : Hid ((quadS 16 la ic cd).length ≤ 4) := Lib.hid (putO_len _)
  clear hla hic hcd hfl hpdb hdp hwt
  have gr := (Bel.refl w).alloc (.cells #[.int .u8 16, .int .u8 fl, .int .i64 st, .slice A n c, .int .i64 pd, .int .i64 la, .int .i64 ic, .int .u32 cd, .slice P pn pc, .bool rk, .bool al, .int .i64 dp, .int .u8 wt] 30)
  have q := Blk.new w 30 #[.int .u8 16, .int .u8 fl, .int .i64 st, .slice A n c, .int .i64 pd, .int .i64 la, .int .i64 ic, .int .u32 cd, .slice P pn pc, .bool rk, .bool al, .int .i64 dp, .int .u8 wt]
  replace h := h.alloc (.cells #[.int .u8 16, .int .u8 fl, .int .i64 st, .slice A n c, .int .i64 pd, .int .i64 la, .int .i64 ic, .int .u32 cd, .slice P pn pc, .bool rk, .bool al, .int .i64 dp, .int .u8 wt] 30)
  replace hp := hp.alloc (.cells #[.int .u8 16, .int .u8 fl, .int .i64 st, .slice A n c, .int .i64 pd, .int .i64 la, .int .i64 ic, .int .u32 cd, .slice P pn pc, .bool rk, .bool al, .int .i64 dp, .int .u8 wt] 30)
  have z0 := q.at 0 rfl
  have z1 := q.at 1 rfl
  have z3 := q.at 3 rfl
  have z4 := q.at 4 rfl
  have z5 := q.at 5 rfl
  have z8 := q.at 8 rfl
  have z9 := q.at 9 rfl
  go_enter Try.func37, Try.ntmps37
  go_wp2_with (first | (go_at_call 58; (with_reducible refine (HQ.out _).mono ?_); rintro e w9 ⟨Bq, mq, dq, rfl, mqq, hb⟩; have mq1 := mqq.base_le (b := w.heap.size + 1) (Nat.succ_le_of_lt q.lt); clear mqq; replace gr := gr.below hb; replace q := q.below hb; replace h := h.below hb; (try replace hp := hp.below hb); (try replace m1 := m1.below hb); (try clear z0); have z0 := q.at 0 rfl; (try clear z1); have z1 := q.at 1 rfl; (try clear z3); have z3 := q.at 3 rfl; (try clear z4); have z4 := q.at 4 rfl; (try clear z5); have z5 := q.at 5 rfl; (try clear z8); have z8 := q.at 8 rfl; (try clear z9); have z9 := q.at 9 rfl; clear hb) | (at_builtin; go_must (refine wpList_app _ rfl (.tmp 48) (.tmp 50) rfl (w.heap.size + 1) Bq mq dq (quadS 16 la ic cd) rfl mq1 A n c da rfl h (by have := hl.out; have := hL.out; (try rw [List.length_nil]); omega) (Nat.succ_le_of_lt q.lt) ?_); intro B3 d3 w9 m3 hb _ _; replace q := q.belowB hb (Nat.lt_succ_self _); replace gr := gr.stepB hb (Nat.le_succ _); clear hb; (try clear z0); have z0 := q.at 0 rfl; (try clear z1); have z1 := q.at 1 rfl; (try clear z4); have z4 := q.at 4 rfl))
  go_ret
  exact ⟨_, _, _, rfl, m3.base_le (Nat.le_succ _), gr.out⟩
set_option maxRecDepth 100000 in
set_option maxHeartbeats 1000000 in
theorem rPay6 (fl st pd la ic cd dp wt : Int) (rk al : Bool) (A : Option Addr) (n c : Nat) (P : Option Addr) (pn pc : Nat) (da : List Int) (prs : List (Int × Int)) (w : World) (hfl : 0 ≤ fl ∧ fl ≤ 255) (hpdb : -9223372036854775808 ≤ pd ∧ pd ≤ 9223372036854775807) (hla : -9223372036854775808 ≤ la ∧ la ≤ 9223372036854775807) (hic : -9223372036854775808 ≤ ic ∧ ic ≤ 9223372036854775807) (hcd : 0 ≤ cd ∧ cd ≤ 4294967295) (hdp : -9223372036854775808 ≤ dp ∧ dp ≤ 9223372036854775807) (hwt : 0 ≤ wt ∧ wt ≤ 255) (h : Byt w A n c da) (hn : n ≤ 90000) (hp : Prs w P pn pc prs) (hpn : pn ≤ 100000) : Calls Try.prog 37 #[.agg #[.int .u8 6, .int .u8 fl, .int .i64 st, .slice A n c, .int .i64 pd, .int .i64 la, .int .i64 ic, .int .u32 cd, .slice P pn pc, .bool rk, .bool al, .int .i64 dp, .int .u8 wt]] w (SlP da w) := by
  have hl := Lib.hid h.len
  have HQ := Lib.hid fun w => rFour 6 fl st pd la ic cd dp wt rk al A n c P pn pc w hla hic hcd
  have hL : Hid (0 ≤ 4) := Lib.hid (by omega)
  clear hla hic hcd hfl hpdb hdp hwt
  have gr := (Bel.refl w).alloc (.cells #[.int .u8 6, .int .u8 fl, .int .i64 st, .slice A n c, .int .i64 pd, .int .i64 la, .int .i64 ic, .int .u32 cd, .slice P pn pc, .bool rk, .bool al, .int .i64 dp, .int .u8 wt] 30)
  have q := Blk.new w 30 #[.int .u8 6, .int .u8 fl, .int .i64 st, .slice A n c, .int .i64 pd, .int .i64 la, .int .i64 ic, .int .u32 cd, .slice P pn pc, .bool rk, .bool al, .int .i64 dp, .int .u8 wt]
  replace h := h.alloc (.cells #[.int .u8 6, .int .u8 fl, .int .i64 st, .slice A n c, .int .i64 pd, .int .i64 la, .int .i64 ic, .int .u32 cd, .slice P pn pc, .bool rk, .bool al, .int .i64 dp, .int .u8 wt] 30)
  replace hp := hp.alloc (.cells #[.int .u8 6, .int .u8 fl, .int .i64 st, .slice A n c, .int .i64 pd, .int .i64 la, .int .i64 ic, .int .u32 cd, .slice P pn pc, .bool rk, .bool al, .int .i64 dp, .int .u8 wt] 30)
  have z0 := q.at 0 rfl
  have z1 := q.at 1 rfl
  have z3 := q.at 3 rfl
  have z4 := q.at 4 rfl
  have z5 := q.at 5 rfl
  have z8 := q.at 8 rfl
  have z9 := q.at 9 rfl
  go_enter Try.func37, Try.ntmps37
  go_wp2_with (first | (go_at_call 58; (with_reducible refine (HQ.out _).mono ?_); rintro e w9 ⟨Bq, mq, dq, rfl, mqq, hb⟩; have mq1 := mqq.base_le (b := w.heap.size + 1) (Nat.succ_le_of_lt q.lt); clear mqq; replace gr := gr.below hb; replace q := q.below hb; replace h := h.below hb; (try replace hp := hp.below hb); (try replace m1 := m1.below hb); (try clear z0); have z0 := q.at 0 rfl; (try clear z1); have z1 := q.at 1 rfl; (try clear z3); have z3 := q.at 3 rfl; (try clear z4); have z4 := q.at 4 rfl; (try clear z5); have z5 := q.at 5 rfl; (try clear z8); have z8 := q.at 8 rfl; (try clear z9); have z9 := q.at 9 rfl; clear hb) | (at_builtin; go_must (refine wpList_app _ rfl (.tmp 11) (.tmp 13) rfl (w.heap.size + 1) none 0 0 ([]) rfl (Mine.nil _ _) A n c da rfl h (by have := hl.out; have := hL.out; (try rw [List.length_nil]); omega) (Nat.succ_le_of_lt q.lt) ?_); intro B3 d3 w9 m3 hb _ _; replace q := q.belowB hb (Nat.lt_succ_self _); replace gr := gr.stepB hb (Nat.le_succ _); clear hb; (try clear z0); have z0 := q.at 0 rfl; (try clear z1); have z1 := q.at 1 rfl; (try clear z4); have z4 := q.at 4 rfl))
  go_ret
  exact ⟨_, _, _, rfl, by simpa using m3.base_le (Nat.le_succ _), gr.out⟩
set_option maxRecDepth 100000 in
set_option maxHeartbeats 1000000 in
theorem rPay9 (fl st pd la ic cd dp wt : Int) (rk al : Bool) (A : Option Addr) (n c : Nat) (P : Option Addr) (pn pc : Nat) (da : List Int) (prs : List (Int × Int)) (w : World) (hfl : 0 ≤ fl ∧ fl ≤ 255) (hpdb : -9223372036854775808 ≤ pd ∧ pd ≤ 9223372036854775807) (hla : -9223372036854775808 ≤ la ∧ la ≤ 9223372036854775807) (hic : -9223372036854775808 ≤ ic ∧ ic ≤ 9223372036854775807) (hcd : 0 ≤ cd ∧ cd ≤ 4294967295) (hdp : -9223372036854775808 ≤ dp ∧ dp ≤ 9223372036854775807) (hwt : 0 ≤ wt ∧ wt ≤ 255) (h : Byt w A n c da) (hn : n ≤ 90000) (hp : Prs w P pn pc prs) (hpn : pn ≤ 100000) : Calls Try.prog 37 #[.agg #[.int .u8 9, .int .u8 fl, .int .i64 st, .slice A n c, .int .i64 pd, .int .i64 la, .int .i64 ic, .int .u32 cd, .slice P pn pc, .bool rk, .bool al, .int .i64 dp, .int .u8 wt]] w (SlP da w) := by
  have hl := Lib.hid h.len
  have HQ := Lib.hid fun w => rFour 9 fl st pd la ic cd dp wt rk al A n c P pn pc w hla hic hcd
  have hL : Hid (0 ≤ 4) := Lib.hid (by omega)
  clear hla hic hcd hfl hpdb hdp hwt
  have gr := (Bel.refl w).alloc (.cells #[.int .u8 9, .int .u8 fl, .int .i64 st, .slice A n c, .int .i64 pd, .int .i64 la, .int .i64 ic, .int .u32 cd, .slice P pn pc, .bool rk, .bool al, .int .i64 dp, .int .u8 wt] 30)
  have q := Blk.new w 30 #[.int .u8 9, .int .u8 fl, .int .i64 st, .slice A n c, .int .i64 pd, .int .i64 la, .int .i64 ic, .int .u32 cd, .slice P pn pc, .bool rk, .bool al, .int .i64 dp, .int .u8 wt]
  replace h := h.alloc (.cells #[.int .u8 9, .int .u8 fl, .int .i64 st, .slice A n c, .int .i64 pd, .int .i64 la, .int .i64 ic, .int .u32 cd, .slice P pn pc, .bool rk, .bool al, .int .i64 dp, .int .u8 wt] 30)
  replace hp := hp.alloc (.cells #[.int .u8 9, .int .u8 fl, .int .i64 st, .slice A n c, .int .i64 pd, .int .i64 la, .int .i64 ic, .int .u32 cd, .slice P pn pc, .bool rk, .bool al, .int .i64 dp, .int .u8 wt] 30)
  have z0 := q.at 0 rfl
  have z1 := q.at 1 rfl
  have z3 := q.at 3 rfl
  have z4 := q.at 4 rfl
  have z5 := q.at 5 rfl
  have z8 := q.at 8 rfl
  have z9 := q.at 9 rfl
  go_enter Try.func37, Try.ntmps37
  go_wp2_with (first | (go_at_call 58; (with_reducible refine (HQ.out _).mono ?_); rintro e w9 ⟨Bq, mq, dq, rfl, mqq, hb⟩; have mq1 := mqq.base_le (b := w.heap.size + 1) (Nat.succ_le_of_lt q.lt); clear mqq; replace gr := gr.below hb; replace q := q.below hb; replace h := h.below hb; (try replace hp := hp.below hb); (try replace m1 := m1.below hb); (try clear z0); have z0 := q.at 0 rfl; (try clear z1); have z1 := q.at 1 rfl; (try clear z3); have z3 := q.at 3 rfl; (try clear z4); have z4 := q.at 4 rfl; (try clear z5); have z5 := q.at 5 rfl; (try clear z8); have z8 := q.at 8 rfl; (try clear z9); have z9 := q.at 9 rfl; clear hb) | (at_builtin; go_must (refine wpList_app _ rfl (.tmp 11) (.tmp 13) rfl (w.heap.size + 1) none 0 0 ([]) rfl (Mine.nil _ _) A n c da rfl h (by have := hl.out; have := hL.out; (try rw [List.length_nil]); omega) (Nat.succ_le_of_lt q.lt) ?_); intro B3 d3 w9 m3 hb _ _; replace q := q.belowB hb (Nat.lt_succ_self _); replace gr := gr.stepB hb (Nat.le_succ _); clear hb; (try clear z0); have z0 := q.at 0 rfl; (try clear z1); have z1 := q.at 1 rfl; (try clear z4); have z4 := q.at 4 rfl))
  go_ret
  exact ⟨_, _, _, rfl, by simpa using m3.base_le (Nat.le_succ _), gr.out⟩
set_option maxRecDepth 100000 in
set_option maxHeartbeats 1000000 in
theorem rPayo (kd fl st pd la ic cd dp wt : Int) (rk al : Bool) (A : Option Addr) (n c : Nat) (P : Option Addr) (pn pc : Nat) (da : List Int) (prs : List (Int × Int)) (w : World) (hfl : 0 ≤ fl ∧ fl ≤ 255) (hpdb : -9223372036854775808 ≤ pd ∧ pd ≤ 9223372036854775807) (hla : -9223372036854775808 ≤ la ∧ la ≤ 9223372036854775807) (hic : -9223372036854775808 ≤ ic ∧ ic ≤ 9223372036854775807) (hcd : 0 ≤ cd ∧ cd ≤ 4294967295) (hdp : -9223372036854775808 ≤ dp ∧ dp ≤ 9223372036854775807) (hwt : 0 ≤ wt ∧ wt ≤ 255) (h : Byt w A n c da) (hn : n ≤ 90000) (hp : Prs w P pn pc prs) (hpn : pn ≤ 100000) (n0 : (kd == 0) = false) (n1 : (kd == 1) = false) (n2 : (kd == 2) = false) (n3 : (kd == 3) = false) (n4 : (kd == 4) = false) (n6 : (kd == 6) = false) (n7 : (kd == 7) = false) (n8 : (kd == 8) = false) (n9 : (kd == 9) = false) (n16 : (kd == 16) = false) : Calls Try.prog 37 #[.agg #[.int .u8 kd, .int .u8 fl, .int .i64 st, .slice A n c, .int .i64 pd, .int .i64 la, .int .i64 ic, .int .u32 cd, .slice P pn pc, .bool rk, .bool al, .int .i64 dp, .int .u8 wt]] w (SlP da w) := by
  have hl := Lib.hid h.len
  have HQ := Lib.hid fun w => rFour kd fl st pd la ic cd dp wt rk al A n c P pn pc w hla hic hcd
  have hL : Hid (0 ≤ 4) := Lib.hid (by omega)
  clear hla hic hcd hfl hpdb hdp hwt
  have gr := (Bel.refl w).alloc (.cells #[.int .u8 kd, .int .u8 fl, .int .i64 st, .slice A n c, .int .i64 pd, .int .i64 la, .int .i64 ic, .int .u32 cd, .slice P pn pc, .bool rk, .bool al, .int .i64 dp, .int .u8 wt] 30)
  have q := Blk.new w 30 #[.int .u8 kd, .int .u8 fl, .int .i64 st, .slice A n c, .int .i64 pd, .int .i64 la, .int .i64 ic, .int .u32 cd, .slice P pn pc, .bool rk, .bool al, .int .i64 dp, .int .u8 wt]
  replace h := h.alloc (.cells #[.int .u8 kd, .int .u8 fl, .int .i64 st, .slice A n c, .int .i64 pd, .int .i64 la, .int .i64 ic, .int .u32 cd, .slice P pn pc, .bool rk, .bool al, .int .i64 dp, .int .u8 wt] 30)
  replace hp := hp.alloc (.cells #[.int .u8 kd, .int .u8 fl, .int .i64 st, .slice A n c, .int .i64 pd, .int .i64 la, .int .i64 ic, .int .u32 cd, .slice P pn pc, .bool rk, .bool al, .int .i64 dp, .int .u8 wt] 30)
  have z0 := q.at 0 rfl
  have z1 := q.at 1 rfl
  have z3 := q.at 3 rfl
  have z4 := q.at 4 rfl
  have z5 := q.at 5 rfl
  have z8 := q.at 8 rfl
  have z9 := q.at 9 rfl
  go_enter Try.func37, Try.ntmps37
  go_wp2_with (first | (go_at_call 58; (with_reducible refine (HQ.out _).mono ?_); rintro e w9 ⟨Bq, mq, dq, rfl, mqq, hb⟩; have mq1 := mqq.base_le (b := w.heap.size + 1) (Nat.succ_le_of_lt q.lt); clear mqq; replace gr := gr.below hb; replace q := q.below hb; replace h := h.below hb; (try replace hp := hp.below hb); (try replace m1 := m1.below hb); (try clear z0); have z0 := q.at 0 rfl; (try clear z1); have z1 := q.at 1 rfl; (try clear z3); have z3 := q.at 3 rfl; (try clear z4); have z4 := q.at 4 rfl; (try clear z5); have z5 := q.at 5 rfl; (try clear z8); have z8 := q.at 8 rfl; (try clear z9); have z9 := q.at 9 rfl; clear hb) | (at_builtin; go_must (refine wpList_app _ rfl (.tmp 11) (.tmp 13) rfl (w.heap.size + 1) none 0 0 ([]) rfl (Mine.nil _ _) A n c da rfl h (by have := hl.out; have := hL.out; (try rw [List.length_nil]); omega) (Nat.succ_le_of_lt q.lt) ?_); intro B3 d3 w9 m3 hb _ _; replace q := q.belowB hb (Nat.lt_succ_self _); replace gr := gr.stepB hb (Nat.le_succ _); clear hb; (try clear z0); have z0 := q.at 0 rfl; (try clear z1); have z1 := q.at 1 rfl; (try clear z4); have z4 := q.at 4 rfl))
  go_ret
  exact ⟨_, _, _, rfl, by simpa using m3.base_le (Nat.le_succ _), gr.out⟩
set_option maxRecDepth 100000 in
set_option maxHeartbeats 1000000 in
theorem rPay0f (fl st pd la ic cd dp wt : Int) (rk al : Bool) (A : Option Addr) (n c : Nat) (P : Option Addr) (pn pc : Nat) (da : List Int) (prs : List (Int × Int)) (w : World) (hfl : 0 ≤ fl ∧ fl ≤ 255) (hpdb : -9223372036854775808 ≤ pd ∧ pd ≤ 9223372036854775807) (hla : -9223372036854775808 ≤ la ∧ la ≤ 9223372036854775807) (hic : -9223372036854775808 ≤ ic ∧ ic ≤ 9223372036854775807) (hcd : 0 ≤ cd ∧ cd ≤ 4294967295) (hdp : -9223372036854775808 ≤ dp ∧ dp ≤ 9223372036854775807) (hwt : 0 ≤ wt ∧ wt ≤ 255) (h : Byt w A n c da) (hn : n ≤ 90000) (hp : Prs w P pn pc prs) (hpn : pn ≤ 100000) (hpd : hasB fl 8 = false) : Calls Try.prog 37 #[.agg #[.int .u8 0, .int .u8 fl, .int .i64 st, .slice A n c, .int .i64 pd, .int .i64 la, .int .i64 ic, .int .u32 cd, .slice P pn pc, .bool rk, .bool al, .int .i64 dp, .int .u8 wt]] w (SlP da w) := by
  have hl := Lib.hid h.len
  have HQ := Lib.hid fun w => rFour 0 fl st pd la ic cd dp wt rk al A n c P pn pc w hla hic hcd
  have hL : Hid (0 ≤ 4) := Lib.hid (by omega)
  have ha := and8 fl hfl.1 hfl.2
  rw [hpd] at ha
  clear hpd
  clear hla hic hcd hfl hpdb hdp hwt
  have gr := (Bel.refl w).alloc (.cells #[.int .u8 0, .int .u8 fl, .int .i64 st, .slice A n c, .int .i64 pd, .int .i64 la, .int .i64 ic, .int .u32 cd, .slice P pn pc, .bool rk, .bool al, .int .i64 dp, .int .u8 wt] 30)
  have q := Blk.new w 30 #[.int .u8 0, .int .u8 fl, .int .i64 st, .slice A n c, .int .i64 pd, .int .i64 la, .int .i64 ic, .int .u32 cd, .slice P pn pc, .bool rk, .bool al, .int .i64 dp, .int .u8 wt]
  replace h := h.alloc (.cells #[.int .u8 0, .int .u8 fl, .int .i64 st, .slice A n c, .int .i64 pd, .int .i64 la, .int .i64 ic, .int .u32 cd, .slice P pn pc, .bool rk, .bool al, .int .i64 dp, .int .u8 wt] 30)
  replace hp := hp.alloc (.cells #[.int .u8 0, .int .u8 fl, .int .i64 st, .slice A n c, .int .i64 pd, .int .i64 la, .int .i64 ic, .int .u32 cd, .slice P pn pc, .bool rk, .bool al, .int .i64 dp, .int .u8 wt] 30)
  have z0 := q.at 0 rfl
  have z1 := q.at 1 rfl
  have z3 := q.at 3 rfl
  have z4 := q.at 4 rfl
  have z5 := q.at 5 rfl
  have z8 := q.at 8 rfl
  have z9 := q.at 9 rfl
  go_enter Try.func37, Try.ntmps37
  go_wp2_with (first | (go_at_call 58; (with_reducible refine (HQ.out _).mono ?_); rintro e w9 ⟨Bq, mq, dq, rfl, mqq, hb⟩; have mq1 := mqq.base_le (b := w.heap.size + 1) (Nat.succ_le_of_lt q.lt); clear mqq; replace gr := gr.below hb; replace q := q.below hb; replace h := h.below hb; (try replace hp := hp.below hb); (try replace m1 := m1.below hb); (try clear z0); have z0 := q.at 0 rfl; (try clear z1); have z1 := q.at 1 rfl; (try clear z3); have z3 := q.at 3 rfl; (try clear z4); have z4 := q.at 4 rfl; (try clear z5); have z5 := q.at 5 rfl; (try clear z8); have z8 := q.at 8 rfl; (try clear z9); have z9 := q.at 9 rfl; clear hb) | (at_builtin; go_must (refine wpList_app _ rfl (.tmp 11) (.tmp 13) rfl (w.heap.size + 1) none 0 0 ([]) rfl (Mine.nil _ _) A n c da rfl h (by have := hl.out; have := hL.out; (try rw [List.length_nil]); omega) (Nat.succ_le_of_lt q.lt) ?_); intro B3 d3 w9 m3 hb _ _; replace q := q.belowB hb (Nat.lt_succ_self _); replace gr := gr.stepB hb (Nat.le_succ _); clear hb; simp only [Nat.zero_add, List.nil_append] at m3; (try clear z0); have z0 := q.at 0 rfl; (try clear z1); have z1 := q.at 1 rfl; (try clear z4); have z4 := q.at 4 rfl))
  go_ret
  exact ⟨_, _, _, rfl, m3.base_le (Nat.le_succ _), gr.out⟩
set_option maxRecDepth 100000 in
set_option maxHeartbeats 1000000 in
theorem rPay0t (fl st pd la ic cd dp wt : Int) (rk al : Bool) (A : Option Addr) (n c : Nat) (P : Option Addr) (pn pc : Nat) (da : List Int) (prs : List (Int × Int)) (w : World) (hfl : 0 ≤ fl ∧ fl ≤ 255) (hpdb : -9223372036854775808 ≤ pd ∧ pd ≤ 9223372036854775807) (hla : -9223372036854775808 ≤ la ∧ la ≤ 9223372036854775807) (hic : -9223372036854775808 ≤ ic ∧ ic ≤ 9223372036854775807) (hcd : 0 ≤ cd ∧ cd ≤ 4294967295) (hdp : -9223372036854775808 ≤ dp ∧ dp ≤ 9223372036854775807) (hwt : 0 ≤ wt ∧ wt ≤ 255) (h : Byt w A n c da) (hn : n ≤ 90000) (hp : Prs w P pn pc prs) (hpn : pn ≤ 100000) (hpd : hasB fl 8 = true) : Calls Try.prog 37 #[.agg #[.int .u8 0, .int .u8 fl, .int .i64 st, .slice A n c, .int .i64 pd, .int .i64 la, .int .i64 ic, .int .u32 cd, .slice P pn pc, .bool rk, .bool al, .int .i64 dp, .int .u8 wt]] w (SlP (padL da (wrap64 (pd - 1))) w) := by
  have hl := Lib.hid h.len
  have HQ := Lib.hid fun w => rFour 0 fl st pd la ic cd dp wt rk al A n c P pn pc w hla hic hcd
  have hL : Hid (0 ≤ 4) := Lib.hid (by omega)
  have HD := Lib.hid fun w B m d h hm => rPad B m d (da) (wrap64 (pd - 1)) w h hm
  have ha := and8 fl hfl.1 hfl.2
  rw [hpd] at ha
  clear hpd
  clear hla hic hcd hfl hpdb hdp hwt
  have gr := (Bel.refl w).alloc (.cells #[.int .u8 0, .int .u8 fl, .int .i64 st, .slice A n c, .int .i64 pd, .int .i64 la, .int .i64 ic, .int .u32 cd, .slice P pn pc, .bool rk, .bool al, .int .i64 dp, .int .u8 wt] 30)
  have q := Blk.new w 30 #[.int .u8 0, .int .u8 fl, .int .i64 st, .slice A n c, .int .i64 pd, .int .i64 la, .int .i64 ic, .int .u32 cd, .slice P pn pc, .bool rk, .bool al, .int .i64 dp, .int .u8 wt]
  replace h := h.alloc (.cells #[.int .u8 0, .int .u8 fl, .int .i64 st, .slice A n c, .int .i64 pd, .int .i64 la, .int .i64 ic, .int .u32 cd, .slice P pn pc, .bool rk, .bool al, .int .i64 dp, .int .u8 wt] 30)
  replace hp := hp.alloc (.cells #[.int .u8 0, .int .u8 fl, .int .i64 st, .slice A n c, .int .i64 pd, .int .i64 la, .int .i64 ic, .int .u32 cd, .slice P pn pc, .bool rk, .bool al, .int .i64 dp, .int .u8 wt] 30)
  have z0 := q.at 0 rfl
  have z1 := q.at 1 rfl
  have z3 := q.at 3 rfl
  have z4 := q.at 4 rfl
  have z5 := q.at 5 rfl
  have z8 := q.at 8 rfl
  have z9 := q.at 9 rfl
  go_enter Try.func37, Try.ntmps37
  go_wp2_with (first | (go_at_call 58; (with_reducible refine (HQ.out _).mono ?_); rintro e w9 ⟨Bq, mq, dq, rfl, mqq, hb⟩; have mq1 := mqq.base_le (b := w.heap.size + 1) (Nat.succ_le_of_lt q.lt); clear mqq; replace gr := gr.below hb; replace q := q.below hb; replace h := h.below hb; (try replace hp := hp.below hb); (try replace m1 := m1.below hb); (try clear z0); have z0 := q.at 0 rfl; (try clear z1); have z1 := q.at 1 rfl; (try clear z3); have z3 := q.at 3 rfl; (try clear z4); have z4 := q.at 4 rfl; (try clear z5); have z5 := q.at 5 rfl; (try clear z8); have z8 := q.at 8 rfl; (try clear z9); have z9 := q.at 9 rfl; clear hb) | (at_builtin; go_must (refine wpList_app _ rfl (.tmp 11) (.tmp 13) rfl (w.heap.size + 1) none 0 0 ([]) rfl (Mine.nil _ _) A n c da rfl h (by have := hl.out; have := hL.out; (try rw [List.length_nil]); omega) (Nat.succ_le_of_lt q.lt) ?_); intro B3 d3 w9 m3 hb _ _; replace q := q.belowB hb (Nat.lt_succ_self _); replace gr := gr.stepB hb (Nat.le_succ _); clear hb; simp only [Nat.zero_add, List.nil_append] at m3; (try clear z0); have z0 := q.at 0 rfl; (try clear z1); have z1 := q.at 1 rfl; (try clear z4); have z4 := q.at 4 rfl) | (go_at_call 60; (with_reducible refine (HD.out _ _ _ _ m3.byt (by have := hL.out; omega)).mono ?_); rintro e w9 ⟨B4, m4, d4, rfl, m4h, hb⟩; have m5 := m4h.base_le (b := w.heap.size) (Nat.le_of_lt q.lt); replace gr := gr.below hb; clear hb))
  go_ret
  exact ⟨_, _, _, rfl, m5, gr.out⟩
set_option maxRecDepth 100000 in
set_option maxHeartbeats 1000000 in
theorem rPay1ff (fl st pd la ic cd dp wt : Int) (al : Bool) (A : Option Addr) (n c : Nat) (P : Option Addr) (pn pc : Nat) (da : List Int) (prs : List (Int × Int)) (w : World) (hfl : 0 ≤ fl ∧ fl ≤ 255) (hpdb : -9223372036854775808 ≤ pd ∧ pd ≤ 9223372036854775807) (hla : -9223372036854775808 ≤ la ∧ la ≤ 9223372036854775807) (hic : -9223372036854775808 ≤ ic ∧ ic ≤ 9223372036854775807) (hcd : 0 ≤ cd ∧ cd ≤ 4294967295) (hdp : -9223372036854775808 ≤ dp ∧ dp ≤ 9223372036854775807) (hwt : 0 ≤ wt ∧ wt ≤ 255) (h : Byt w A n c da) (hn : n ≤ 90000) (hp : Prs w P pn pc prs) (hpn : pn ≤ 100000) (hpd : hasB fl 8 = false) : Calls Try.prog 37 #[.agg #[.int .u8 1, .int .u8 fl, .int .i64 st, .slice A n c, .int .i64 pd, .int .i64 la, .int .i64 ic, .int .u32 cd, .slice P pn pc, .bool false, .bool al, .int .i64 dp, .int .u8 wt]] w (SlP (da) w) := by
  have hl := Lib.hid h.len
  have HQ := Lib.hid fun w => rFour 1 fl st pd la ic cd dp wt false al A n c P pn pc w hla hic hcd
  have hL : Hid (0 ≤ 4) := Lib.hid (by omega)
  have ha := and8 fl hfl.1 hfl.2
  rw [hpd] at ha
  clear hpd
  clear hla hic hcd hfl hpdb hdp hwt
  have gr := (Bel.refl w).alloc (.cells #[.int .u8 1, .int .u8 fl, .int .i64 st, .slice A n c, .int .i64 pd, .int .i64 la, .int .i64 ic, .int .u32 cd, .slice P pn pc, .bool false, .bool al, .int .i64 dp, .int .u8 wt] 30)
  have q := Blk.new w 30 #[.int .u8 1, .int .u8 fl, .int .i64 st, .slice A n c, .int .i64 pd, .int .i64 la, .int .i64 ic, .int .u32 cd, .slice P pn pc, .bool false, .bool al, .int .i64 dp, .int .u8 wt]
  replace h := h.alloc (.cells #[.int .u8 1, .int .u8 fl, .int .i64 st, .slice A n c, .int .i64 pd, .int .i64 la, .int .i64 ic, .int .u32 cd, .slice P pn pc, .bool false, .bool al, .int .i64 dp, .int .u8 wt] 30)
  replace hp := hp.alloc (.cells #[.int .u8 1, .int .u8 fl, .int .i64 st, .slice A n c, .int .i64 pd, .int .i64 la, .int .i64 ic, .int .u32 cd, .slice P pn pc, .bool false, .bool al, .int .i64 dp, .int .u8 wt] 30)
  have z0 := q.at 0 rfl
  have z1 := q.at 1 rfl
  have z3 := q.at 3 rfl
  have z4 := q.at 4 rfl
  have z5 := q.at 5 rfl
  have z8 := q.at 8 rfl
  have z9 := q.at 9 rfl
  go_enter Try.func37, Try.ntmps37
  go_wp2_with (first | (go_at_call 58; (with_reducible refine (HQ.out _).mono ?_); rintro e w9 ⟨Bq, mq, dq, rfl, mqq, hb⟩; have mq1 := mqq.base_le (b := w.heap.size + 1) (Nat.succ_le_of_lt q.lt); clear mqq; replace gr := gr.below hb; replace q := q.below hb; replace h := h.below hb; (try replace hp := hp.below hb); (try replace m1 := m1.below hb); (try clear z0); have z0 := q.at 0 rfl; (try clear z1); have z1 := q.at 1 rfl; (try clear z3); have z3 := q.at 3 rfl; (try clear z4); have z4 := q.at 4 rfl; (try clear z5); have z5 := q.at 5 rfl; (try clear z8); have z8 := q.at 8 rfl; (try clear z9); have z9 := q.at 9 rfl; clear hb) | (at_builtin; go_must (refine wpList_app _ rfl (.tmp 62) (.tmp 64) rfl (w.heap.size + 1) none 0 0 ([]) rfl (Mine.nil _ _) A n c da rfl h (by have := hl.out; have := hL.out; (try rw [List.length_nil]); omega) (Nat.succ_le_of_lt q.lt) ?_); intro B3 d3 w9 m3 hb _ _; replace q := q.belowB hb (Nat.lt_succ_self _); replace gr := gr.stepB hb (Nat.le_succ _); clear hb; simp only [Nat.zero_add, List.nil_append] at m3; (try clear z0); have z0 := q.at 0 rfl; (try clear z1); have z1 := q.at 1 rfl; (try clear z4); have z4 := q.at 4 rfl))
  go_ret
  exact ⟨_, _, _, rfl, m3.base_le (Nat.le_succ _), gr.out⟩
set_option maxRecDepth 100000 in
set_option maxHeartbeats 1000000 in
theorem rPay1ft (fl st pd la ic cd dp wt : Int) (al : Bool) (A : Option Addr) (n c : Nat) (P : Option Addr) (pn pc : Nat) (da : List Int) (prs : List (Int × Int)) (w : World) (hfl : 0 ≤ fl ∧ fl ≤ 255) (hpdb : -9223372036854775808 ≤ pd ∧ pd ≤ 9223372036854775807) (hla : -9223372036854775808 ≤ la ∧ la ≤ 9223372036854775807) (hic : -9223372036854775808 ≤ ic ∧ ic ≤ 9223372036854775807) (hcd : 0 ≤ cd ∧ cd ≤ 4294967295) (hdp : -9223372036854775808 ≤ dp ∧ dp ≤ 9223372036854775807) (hwt : 0 ≤ wt ∧ wt ≤ 255) (h : Byt w A n c da) (hn : n ≤ 90000) (hp : Prs w P pn pc prs) (hpn : pn ≤ 100000) (hpd : hasB fl 8 = true) : Calls Try.prog 37 #[.agg #[.int .u8 1, .int .u8 fl, .int .i64 st, .slice A n c, .int .i64 pd, .int .i64 la, .int .i64 ic, .int .u32 cd, .slice P pn pc, .bool false, .bool al, .int .i64 dp, .int .u8 wt]] w (SlP (padL (da) (wrap64 (pd - 1))) w) := by
  have hl := Lib.hid h.len
  have HQ := Lib.hid fun w => rFour 1 fl st pd la ic cd dp wt false al A n c P pn pc w hla hic hcd
  have hL : Hid (0 ≤ 4) := Lib.hid (by omega)
  have HD := Lib.hid fun w B m d h hm => rPad B m d (da) (wrap64 (pd - 1)) w h hm
  have ha := and8 fl hfl.1 hfl.2
  rw [hpd] at ha
  clear hpd
  clear hla hic hcd hfl hpdb hdp hwt
  have gr := (Bel.refl w).alloc (.cells #[.int .u8 1, .int .u8 fl, .int .i64 st, .slice A n c, .int .i64 pd, .int .i64 la, .int .i64 ic, .int .u32 cd, .slice P pn pc, .bool false, .bool al, .int .i64 dp, .int .u8 wt] 30)
  have q := Blk.new w 30 #[.int .u8 1, .int .u8 fl, .int .i64 st, .slice A n c, .int .i64 pd, .int .i64 la, .int .i64 ic, .int .u32 cd, .slice P pn pc, .bool false, .bool al, .int .i64 dp, .int .u8 wt]
  replace h := h.alloc (.cells #[.int .u8 1, .int .u8 fl, .int .i64 st, .slice A n c, .int .i64 pd, .int .i64 la, .int .i64 ic, .int .u32 cd, .slice P pn pc, .bool false, .bool al, .int .i64 dp, .int .u8 wt] 30)
  replace hp := hp.alloc (.cells #[.int .u8 1, .int .u8 fl, .int .i64 st, .slice A n c, .int .i64 pd, .int .i64 la, .int .i64 ic, .int .u32 cd, .slice P pn pc, .bool false, .bool al, .int .i64 dp, .int .u8 wt] 30)
  have z0 := q.at 0 rfl
  have z1 := q.at 1 rfl
  have z3 := q.at 3 rfl
  have z4 := q.at 4 rfl
  have z5 := q.at 5 rfl
  have z8 := q.at 8 rfl
  have z9 := q.at 9 rfl
  go_enter Try.func37, Try.ntmps37
  go_wp2_with (first | (go_at_call 58; (with_reducible refine (HQ.out _).mono ?_); rintro e w9 ⟨Bq, mq, dq, rfl, mqq, hb⟩; have mq1 := mqq.base_le (b := w.heap.size + 1) (Nat.succ_le_of_lt q.lt); clear mqq; replace gr := gr.below hb; replace q := q.below hb; replace h := h.below hb; (try replace hp := hp.below hb); (try replace m1 := m1.below hb); (try clear z0); have z0 := q.at 0 rfl; (try clear z1); have z1 := q.at 1 rfl; (try clear z3); have z3 := q.at 3 rfl; (try clear z4); have z4 := q.at 4 rfl; (try clear z5); have z5 := q.at 5 rfl; (try clear z8); have z8 := q.at 8 rfl; (try clear z9); have z9 := q.at 9 rfl; clear hb) | (at_builtin; go_must (refine wpList_app _ rfl (.tmp 62) (.tmp 64) rfl (w.heap.size + 1) none 0 0 ([]) rfl (Mine.nil _ _) A n c da rfl h (by have := hl.out; have := hL.out; (try rw [List.length_nil]); omega) (Nat.succ_le_of_lt q.lt) ?_); intro B3 d3 w9 m3 hb _ _; replace q := q.belowB hb (Nat.lt_succ_self _); replace gr := gr.stepB hb (Nat.le_succ _); clear hb; simp only [Nat.zero_add, List.nil_append] at m3; (try clear z0); have z0 := q.at 0 rfl; (try clear z1); have z1 := q.at 1 rfl; (try clear z4); have z4 := q.at 4 rfl) | (go_at_call 60; (with_reducible refine (HD.out _ _ _ _ m3.byt (by have := hL.out; omega)).mono ?_); rintro e w9 ⟨B4, m4, d4, rfl, m4h, hb⟩; have m5 := m4h.base_le (b := w.heap.size) (Nat.le_of_lt q.lt); replace gr := gr.below hb; clear hb))
  go_ret
  exact ⟨_, _, _, rfl, m5, gr.out⟩
set_option maxRecDepth 100000 in
set_option maxHeartbeats 1000000 in
theorem rPay1tf (fl st pd la ic cd dp wt : Int) (al : Bool) (A : Option Addr) (n c : Nat) (P : Option Addr) (pn pc : Nat) (da : List Int) (prs : List (Int × Int)) (w : World) (hfl : 0 ≤ fl ∧ fl ≤ 255) (hpdb : -9223372036854775808 ≤ pd ∧ pd ≤ 9223372036854775807) (hla : -9223372036854775808 ≤ la ∧ la ≤ 9223372036854775807) (hic : -9223372036854775808 ≤ ic ∧ ic ≤ 9223372036854775807) (hcd : 0 ≤ cd ∧ cd ≤ 4294967295) (hdp : -9223372036854775808 ≤ dp ∧ dp ≤ 9223372036854775807) (hwt : 0 ≤ wt ∧ wt ≤ 255) (h : Byt w A n c da) (hn : n ≤ 90000) (hp : Prs w P pn pc prs) (hpn : pn ≤ 100000) (hpd : hasB fl 8 = false) : Calls Try.prog 37 #[.agg #[.int .u8 1, .int .u8 fl, .int .i64 st, .slice A n c, .int .i64 pd, .int .i64 la, .int .i64 ic, .int .u32 cd, .slice P pn pc, .bool true, .bool al, .int .i64 dp, .int .u8 wt]] w (SlP (rankL al dp wt ++ da) w) := by
  have hl := Lib.hid h.len
  have HQ := Lib.hid fun w => rFour 1 fl st pd la ic cd dp wt true al A n c P pn pc w hla hic hcd
  have HR := Lib.hid fun w => rPutRank al dp wt w hwt.1 hwt.2
  have hL := Lib.hid (rankL_len al dp wt)
  have ha := and8 fl hfl.1 hfl.2
  rw [hpd] at ha
  clear hpd
  clear hla hic hcd hfl hpdb hdp hwt
  have gr := (Bel.refl w).alloc (.cells #[.int .u8 1, .int .u8 fl, .int .i64 st, .slice A n c, .int .i64 pd, .int .i64 la, .int .i64 ic, .int .u32 cd, .slice P pn pc, .bool true, .bool al, .int .i64 dp, .int .u8 wt] 30)
  have q := Blk.new w 30 #[.int .u8 1, .int .u8 fl, .int .i64 st, .slice A n c, .int .i64 pd, .int .i64 la, .int .i64 ic, .int .u32 cd, .slice P pn pc, .bool true, .bool al, .int .i64 dp, .int .u8 wt]
  replace h := h.alloc (.cells #[.int .u8 1, .int .u8 fl, .int .i64 st, .slice A n c, .int .i64 pd, .int .i64 la, .int .i64 ic, .int .u32 cd, .slice P pn pc, .bool true, .bool al, .int .i64 dp, .int .u8 wt] 30)
  replace hp := hp.alloc (.cells #[.int .u8 1, .int .u8 fl, .int .i64 st, .slice A n c, .int .i64 pd, .int .i64 la, .int .i64 ic, .int .u32 cd, .slice P pn pc, .bool true, .bool al, .int .i64 dp, .int .u8 wt] 30)
  have z0 := q.at 0 rfl
  have z1 := q.at 1 rfl
  have z3 := q.at 3 rfl
  have z4 := q.at 4 rfl
  have z5 := q.at 5 rfl
  have z8 := q.at 8 rfl
  have z9 := q.at 9 rfl
  go_enter Try.func37, Try.ntmps37
  go_wp2_with (first | (go_at_call 58; (with_reducible refine (HQ.out _).mono ?_); rintro e w9 ⟨Bq, mq, dq, rfl, mqq, hb⟩; have mq1 := mqq.base_le (b := w.heap.size + 1) (Nat.succ_le_of_lt q.lt); clear mqq; replace gr := gr.below hb; replace q := q.below hb; replace h := h.below hb; (try replace hp := hp.below hb); (try replace m1 := m1.below hb); (try clear z0); have z0 := q.at 0 rfl; (try clear z1); have z1 := q.at 1 rfl; (try clear z3); have z3 := q.at 3 rfl; (try clear z4); have z4 := q.at 4 rfl; (try clear z5); have z5 := q.at 5 rfl; (try clear z8); have z8 := q.at 8 rfl; (try clear z9); have z9 := q.at 9 rfl; clear hb) | (refine wpList_getM (cs := [.bool al, .int .i64 dp, .int .u8 wt]) (by rfl) _ _ rfl rfl q rfl Try.underlying28 rfl (by rfl) ?_) | (go_at_call 59; (with_reducible refine (HR.out _).mono ?_); rintro e w9 ⟨B, m, d, rfl, m1h, hb⟩; have m1 := m1h.base_le (b := w.heap.size + 1) (Nat.succ_le_of_lt q.lt); clear m1h; replace gr := gr.below hb; replace q := q.below hb; replace h := h.below hb; (try replace hp := hp.below hb); skip; (try clear z0); have z0 := q.at 0 rfl; (try clear z1); have z1 := q.at 1 rfl; (try clear z3); have z3 := q.at 3 rfl; (try clear z4); have z4 := q.at 4 rfl; (try clear z5); have z5 := q.at 5 rfl; (try clear z8); have z8 := q.at 8 rfl; (try clear z9); have z9 := q.at 9 rfl; clear hb; have hL2 := m1.len) | (at_builtin; go_must (refine wpList_app _ rfl (.tmp 62) (.tmp 64) rfl (w.heap.size + 1) B m d (rankL al dp wt) rfl m1 A n c da rfl h (by have := hl.out; have := hL.out; (try rw [List.length_nil]); omega) (Nat.succ_le_of_lt q.lt) ?_); intro B3 d3 w9 m3 hb _ _; replace q := q.belowB hb (Nat.lt_succ_self _); replace gr := gr.stepB hb (Nat.le_succ _); clear hb; (try clear z0); have z0 := q.at 0 rfl; (try clear z1); have z1 := q.at 1 rfl; (try clear z4); have z4 := q.at 4 rfl))
  go_ret
  exact ⟨_, _, _, rfl, m3.base_le (Nat.le_succ _), gr.out⟩
set_option maxRecDepth 100000 in
set_option maxHeartbeats 1000000 in
theorem rPay1tt (fl st pd la ic cd dp wt : Int) (al : Bool) (A : Option Addr) (n c : Nat) (P : Option Addr) (pn pc : Nat) (da : List Int) (prs : List (Int × Int)) (w : World) (hfl : 0 ≤ fl ∧ fl ≤ 255) (hpdb : -9223372036854775808 ≤ pd ∧ pd ≤ 9223372036854775807) (hla : -9223372036854775808 ≤ la ∧ la ≤ 9223372036854775807) (hic : -9223372036854775808 ≤ ic ∧ ic ≤ 9223372036854775807) (hcd : 0 ≤ cd ∧ cd ≤ 4294967295) (hdp : -9223372036854775808 ≤ dp ∧ dp ≤ 9223372036854775807) (hwt : 0 ≤ wt ∧ wt ≤ 255) (h : Byt w A n c da) (hn : n ≤ 90000) (hp : Prs w P pn pc prs) (hpn : pn ≤ 100000) (hpd : hasB fl 8 = true) : Calls Try.prog 37 #[.agg #[.int .u8 1, .int .u8 fl, .int .i64 st, .slice A n c, .int .i64 pd, .int .i64 la, .int .i64 ic, .int .u32 cd, .slice P pn pc, .bool true, .bool al, .int .i64 dp, .int .u8 wt]] w (SlP (padL (rankL al dp wt ++ da) (wrap64 (pd - 1))) w) := by
  have hl := Lib.hid h.len
  have HQ := Lib.hid fun w => rFour 1 fl st pd la ic cd dp wt true al A n c P pn pc w hla hic hcd
  have HR := Lib.hid fun w => rPutRank al dp wt w hwt.1 hwt.2
  have hL := Lib.hid (rankL_len al dp wt)
  have HD := Lib.hid fun w B m d h hm => rPad B m d (rankL al dp wt ++ da) (wrap64 (pd - 1)) w h hm
  have ha := and8 fl hfl.1 hfl.2
  rw [hpd] at ha
  clear hpd
  clear hla hic hcd hfl hpdb hdp hwt
  have gr := (Bel.refl w).alloc (.cells #[.int .u8 1, .int .u8 fl, .int .i64 st, .slice A n c, .int .i64 pd, .int .i64 la, .int .i64 ic, .int .u32 cd, .slice P pn pc, .bool true, .bool al, .int .i64 dp, .int .u8 wt] 30)
  have q := Blk.new w 30 #[.int .u8 1, .int .u8 fl, .int .i64 st, .slice A n c, .int .i64 pd, .int .i64 la, .int .i64 ic, .int .u32 cd, .slice P pn pc, .bool true, .bool al, .int .i64 dp, .int .u8 wt]
  replace h := h.alloc (.cells #[.int .u8 1, .int .u8 fl, .int .i64 st, .slice A n c, .int .i64 pd, .int .i64 la, .int .i64 ic, .int .u32 cd, .slice P pn pc, .bool true, .bool al, .int .i64 dp, .int .u8 wt] 30)
  replace hp := hp.alloc (.cells #[.int .u8 1, .int .u8 fl, .int .i64 st, .slice A n c, .int .i64 pd, .int .i64 la, .int .i64 ic, .int .u32 cd, .slice P pn pc, .bool true, .bool al, .int .i64 dp, .int .u8 wt] 30)
  have z0 := q.at 0 rfl
  have z1 := q.at 1 rfl
  have z3 := q.at 3 rfl
  have z4 := q.at 4 rfl
  have z5 := q.at 5 rfl
  have z8 := q.at 8 rfl
  have z9 := q.at 9 rfl
  go_enter Try.func37, Try.ntmps37
  go_wp2_with (first | (go_at_call 58; (with_reducible refine (HQ.out _).mono ?_); rintro e w9 ⟨Bq, mq, dq, rfl, mqq, hb⟩; have mq1 := mqq.base_le (b := w.heap.size + 1) (Nat.succ_le_of_lt q.lt); clear mqq; replace gr := gr.below hb; replace q := q.below hb; replace h := h.below hb; (try replace hp := hp.below hb); (try replace m1 := m1.below hb); (try clear z0); have z0 := q.at 0 rfl; (try clear z1); have z1 := q.at 1 rfl; (try clear z3); have z3 := q.at 3 rfl; (try clear z4); have z4 := q.at 4 rfl; (try clear z5); have z5 := q.at 5 rfl; (try clear z8); have z8 := q.at 8 rfl; (try clear z9); have z9 := q.at 9 rfl; clear hb) | (refine wpList_getM (cs := [.bool al, .int .i64 dp, .int .u8 wt]) (by rfl) _ _ rfl rfl q rfl Try.underlying28 rfl (by rfl) ?_) | (go_at_call 59; (with_reducible refine (HR.out _).mono ?_); rintro e w9 ⟨B, m, d, rfl, m1h, hb⟩; have m1 := m1h.base_le (b := w.heap.size + 1) (Nat.succ_le_of_lt q.lt); clear m1h; replace gr := gr.below hb; replace q := q.below hb; replace h := h.below hb; (try replace hp := hp.below hb); skip; (try clear z0); have z0 := q.at 0 rfl; (try clear z1); have z1 := q.at 1 rfl; (try clear z3); have z3 := q.at 3 rfl; (try clear z4); have z4 := q.at 4 rfl; (try clear z5); have z5 := q.at 5 rfl; (try clear z8); have z8 := q.at 8 rfl; (try clear z9); have z9 := q.at 9 rfl; clear hb; have hL2 := m1.len) | (at_builtin; go_must (refine wpList_app _ rfl (.tmp 62) (.tmp 64) rfl (w.heap.size + 1) B m d (rankL al dp wt) rfl m1 A n c da rfl h (by have := hl.out; have := hL.out; (try rw [List.length_nil]); omega) (Nat.succ_le_of_lt q.lt) ?_); intro B3 d3 w9 m3 hb _ _; replace q := q.belowB hb (Nat.lt_succ_self _); replace gr := gr.stepB hb (Nat.le_succ _); clear hb; (try clear z0); have z0 := q.at 0 rfl; (try clear z1); have z1 := q.at 1 rfl; (try clear z4); have z4 := q.at 4 rfl) | (go_at_call 60; (with_reducible refine (HD.out _ _ _ _ m3.byt (by have := hL.out; omega)).mono ?_); rintro e w9 ⟨B4, m4, d4, rfl, m4h, hb⟩; have m5 := m4h.base_le (b := w.heap.size) (Nat.le_of_lt q.lt); replace gr := gr.below hb; clear hb))
  go_ret
  exact ⟨_, _, _, rfl, m5, gr.out⟩
set_option maxRecDepth 100000 in
set_option maxHeartbeats 1000000 in
theorem rPay7 (fl st pd la ic cd dp wt : Int) (rk al : Bool) (A : Option Addr) (n c : Nat) (P : Option Addr) (pn pc : Nat) (da : List Int) (prs : List (Int × Int)) (w : World) (hfl : 0 ≤ fl ∧ fl ≤ 255) (hpdb : -9223372036854775808 ≤ pd ∧ pd ≤ 9223372036854775807) (hla : -9223372036854775808 ≤ la ∧ la ≤ 9223372036854775807) (hic : -9223372036854775808 ≤ ic ∧ ic ≤ 9223372036854775807) (hcd : 0 ≤ cd ∧ cd ≤ 4294967295) (hdp : -9223372036854775808 ≤ dp ∧ dp ≤ 9223372036854775807) (hwt : 0 ≤ wt ∧ wt ≤ 255) (h : Byt w A n c da) (hn : n ≤ 90000) (hp : Prs w P pn pc prs) (hpn : pn ≤ 100000) : Calls Try.prog 37 #[.agg #[.int .u8 7, .int .u8 fl, .int .i64 st, .slice A n c, .int .i64 pd, .int .i64 la, .int .i64 ic, .int .u32 cd, .slice P pn pc, .bool rk, .bool al, .int .i64 dp, .int .u8 wt]] w (SlP (putO la 4 ++ quadS 7 la ic cd ++ da) w) := by
  have hl := Lib.hid h.len
  have HQ := Lib.hid fun w => rFour 7 fl st pd la ic cd dp wt rk al A n c P pn pc w hla hic hcd
  have HP := Lib.hid fun w => rOPut la 4 w hla.2
  have hL : Hid ((quadS 7 la ic cd).length ≤ 4) := Lib.hid (putO_len _)
  clear hla hic hcd hfl hpdb hdp hwt
  have gr := (Bel.refl w).alloc (.cells #[.int .u8 7, .int .u8 fl, .int .i64 st, .slice A n c, .int .i64 pd, .int .i64 la, .int .i64 ic, .int .u32 cd, .slice P pn pc, .bool rk, .bool al, .int .i64 dp, .int .u8 wt] 30)
  have q := Blk.new w 30 #[.int .u8 7, .int .u8 fl, .int .i64 st, .slice A n c, .int .i64 pd, .int .i64 la, .int .i64 ic, .int .u32 cd, .slice P pn pc, .bool rk, .bool al, .int .i64 dp, .int .u8 wt]
  replace h := h.alloc (.cells #[.int .u8 7, .int .u8 fl, .int .i64 st, .slice A n c, .int .i64 pd, .int .i64 la, .int .i64 ic, .int .u32 cd, .slice P pn pc, .bool rk, .bool al, .int .i64 dp, .int .u8 wt] 30)
  replace hp := hp.alloc (.cells #[.int .u8 7, .int .u8 fl, .int .i64 st, .slice A n c, .int .i64 pd, .int .i64 la, .int .i64 ic, .int .u32 cd, .slice P pn pc, .bool rk, .bool al, .int .i64 dp, .int .u8 wt] 30)
  have z0 := q.at 0 rfl
  have z1 := q.at 1 rfl
  have z3 := q.at 3 rfl
  have z4 := q.at 4 rfl
  have z5 := q.at 5 rfl
  have z8 := q.at 8 rfl
  have z9 := q.at 9 rfl
  go_enter Try.func37, Try.ntmps37
  go_wp2_with (first | (go_at_call 58; (with_reducible refine (HQ.out _).mono ?_); rintro e w7 ⟨Bq, mq, dq, rfl, mqq, hb⟩; have mq1 := mqq.base_le (b := w.heap.size + 1) (Nat.succ_le_of_lt q.lt); clear mqq; replace gr := gr.below hb; replace q := q.below hb; replace h := h.below hb; (try replace hp := hp.below hb); (try replace m1 := m1.below hb); (try clear z0); have z0 := q.at 0 rfl; (try clear z1); have z1 := q.at 1 rfl; (try clear z3); have z3 := q.at 3 rfl; (try clear z4); have z4 := q.at 4 rfl; (try clear z5); have z5 := q.at 5 rfl; (try clear z8); have z8 := q.at 8 rfl; (try clear z9); have z9 := q.at 9 rfl; clear hb) | (go_at_call 44; have h7 := h; have hq7 := q.lt; (with_reducible refine (HP.out _).mono ?_); rintro e w8 ⟨⟨B, m, d, rfl, m1⟩, hb⟩; have b7 := hb; replace gr := gr.below hb; replace q := q.below hb; replace mq1 := mq1.below hb; clear hb h))
  have hL2 := m1.len
  have hL3 := mq1.len
  have hL4 := putO_len la
  replace b7 := b7.trans (drew_below _ _)
  replace q := q.drew
  replace gr := gr.drew
  replace m1 := m1.drew
  replace mq1 := mq1.drew
  have hwz : w.heap.size ≤ w7.heap.size := Nat.le_of_lt hq7
  refine wp_region_G (fun w' => Blk w' w.heap.size 30 #[.int .u8 7, .int .u8 fl, .int .i64 st, .slice A n c, .int .i64 pd, .int .i64 la, .int .i64 ic, .int .u32 cd, .slice P pn pc, .bool rk, .bool al, .int .i64 dp, .int .u8 wt]) [] (by kernel_rfl) ?_
  have S0 := q
  refine wpAnyG_take 0 (v := ?_) rfl (by kernel_rfl) (fun _ _ _ h => h) S0 (Or.inl ⟨by rfl, by intro w' hSw; go_simp; try with_reducible rfl⟩) ?_; (try simp only [Act.put, rA, rB, rC, rD, rE, rF])
  refine wpAnyG_take 1 (v := ?_) rfl (by kernel_rfl) (fun _ _ _ h => h) S0 (Or.inl ⟨by rfl, by intro w' hSw; go_simp; try with_reducible rfl⟩) ?_; (try simp only [Act.put, rA, rB, rC, rD, rE, rF])
  refine wpAnyG_take 3 (v := ?_) rfl (by kernel_rfl) (fun _ _ _ h => h) S0 (Or.inl ⟨by rfl, by intro w' hSw; go_simp; try with_reducible rfl⟩) ?_; (try simp only [Act.put, rA, rB, rC, rD, rE, rF])
  refine wpAnyG_take 4 (v := ?_) rfl (by kernel_rfl) (fun _ _ _ h => h) S0 (Or.inl ⟨by rfl, by intro w' hSw; have z3 := hSw.at 3 rfl; go_simp; try with_reducible rfl⟩) ?_; (try simp only [Act.put, rA, rB, rC, rD, rE, rF])
  clear S0
  refine wpAnyG_one 2 (by kernel_rfl) rfl (fun K hK => ?_)
  refine step_app _ rfl (.tmp 40) (.tmp 41) rfl w7.heap.size B m d (putO la 4) rfl m1 Bq mq dq (quadS 7 la ic cd) rfl mq1.byt (by have := hL.out; omega) b7.size ?_
  intro B3 d3 w9 m3 hb _
  replace q := q.belowB hb hq7
  replace gr := gr.stepB hb hwz
  replace b7 := b7.trans hb
  clear hb mq1 m1
  refine hK.out _ _ (fun _ => q) ?_
  clear hK K
  (try simp only [Act.put, rA, rB, rC, rD, rE, rF])
  refine wpAnyG_one 5 (by kernel_rfl) rfl (fun K hK => ?_)
  refine step_app _ rfl (.tmp 42) (.tmp 44) rfl w7.heap.size B3 (m + mq) d3 (putO la 4 ++ quadS 7 la ic cd) rfl m3 A n c da rfl (h7.below b7) (by have := hL.out; have := hl.out; rw [List.length_append]; omega) b7.size ?_
  intro B4 d4 w9 m4 hb _
  replace q := q.belowB hb hq7
  replace gr := gr.stepB hb hwz
  replace b7 := b7.trans hb
  clear hb m3
  refine hK.out _ _ (fun _ => q) ?_
  clear hK K
  (try simp only [Act.put, rA, rB, rC, rD, rE, rF])
  have S0 := q
  refine wpAnyG_take 6 (v := ?_) rfl (by kernel_rfl) (fun _ _ _ h => h) S0 (Or.inl ⟨by rfl, by intro w' hSw; go_simp; try with_reducible rfl⟩) ?_; (try simp only [Act.put, rA, rB, rC, rD, rE, rF])
  clear S0
  refine wpAnyG_done (by kernel_rfl) ?_ _
  have z0 := q.at 0 rfl
  have z1 := q.at 1 rfl
  go_wp2
  go_ret
  exact ⟨_, _, _, rfl, m4.base_le hwz, gr.out⟩
theorem rPayload (f : Fm) (hf : FmOk f) (A : Option Addr) (n c : Nat) (P : Option Addr) (pn pc : Nat) (w : World) (h : Byt w A n c f.da) (hn : n ≤ 90000) (hp : Prs w P pn pc f.prs) (hpn : pn ≤ 100000) :
    Calls Try.prog 37 #[.agg #[.int .u8 (f).kd, .int .u8 (f).fl, .int .i64 (f).st, .slice A n c, .int .i64 (f).pd, .int .i64 (f).la, .int .i64 (f).ic, .int .u32 (f).cd, .slice P pn pc, .bool (f).rk, .bool (f).al, .int .i64 (f).dp, .int .u8 (f).wt]] w (SlP (payS f) w) := by
  have hcd := hf.cd
  rcases k10 f.kd with e | e | e | e | e | e | e | e | e | e | ⟨h0, h1, h2, h3, h4, h6, h7, h8, h9, h16⟩
  · rw [e]
    cases hp8 : hasB f.fl 8
    · exact (rPay0f f.fl f.st f.pd f.la f.ic f.cd f.dp f.wt f.rk f.al A n c P pn pc f.da f.prs w hf.fl hf.pd hf.la hf.ic hf.cd hf.dp hf.wt h hn hp hpn hp8).mono (slP_eq (by simp [payS, padP, e, hp8]))
    · exact (rPay0t f.fl f.st f.pd f.la f.ic f.cd f.dp f.wt f.rk f.al A n c P pn pc f.da f.prs w hf.fl hf.pd hf.la hf.ic hf.cd hf.dp hf.wt h hn hp hpn hp8).mono (slP_eq (by simp [payS, padP, e, hp8]))
  · rw [e]
    rcases Bool.eq_false_or_eq_true f.rk with hk | hk
    · rw [hk]
      cases hp8 : hasB f.fl 8
      · exact (rPay1tf f.fl f.st f.pd f.la f.ic f.cd f.dp f.wt f.al A n c P pn pc f.da f.prs w hf.fl hf.pd hf.la hf.ic hf.cd hf.dp hf.wt h hn hp hpn hp8).mono (slP_eq (by simp [payS, padP, e, hp8, hk]))
      · exact (rPay1tt f.fl f.st f.pd f.la f.ic f.cd f.dp f.wt f.al A n c P pn pc f.da f.prs w hf.fl hf.pd hf.la hf.ic hf.cd hf.dp hf.wt h hn hp hpn hp8).mono (slP_eq (by simp [payS, padP, e, hp8, hk]))
    · rw [hk]
      cases hp8 : hasB f.fl 8
      · exact (rPay1ff f.fl f.st f.pd f.la f.ic f.cd f.dp f.wt f.al A n c P pn pc f.da f.prs w hf.fl hf.pd hf.la hf.ic hf.cd hf.dp hf.wt h hn hp hpn hp8).mono (slP_eq (by simp [payS, padP, e, hp8, hk]))
      · exact (rPay1ft f.fl f.st f.pd f.la f.ic f.cd f.dp f.wt f.al A n c P pn pc f.da f.prs w hf.fl hf.pd hf.la hf.ic hf.cd hf.dp hf.wt h hn hp hpn hp8).mono (slP_eq (by simp [payS, padP, e, hp8, hk]))
  · rw [e]
    exact (rPay2 f.fl f.st f.pd f.la f.ic f.cd f.dp f.wt f.rk f.al A n c P pn pc f.da f.prs w hf.fl hf.pd hf.la hf.ic hf.cd hf.dp hf.wt h hn hp hpn).mono (slP_eq (by simp [payS, quadS, e]))
  · rw [e]
    exact (rPay3 f.fl f.st f.pd f.la f.ic f.cd f.dp f.wt f.rk f.al A n c P pn pc f.da f.prs w hf.fl hf.pd hf.la hf.ic hf.cd hf.dp hf.wt h hn hp hpn).mono (slP_eq (by simp [payS, quadS, e]))
  · rw [e]
    exact (rPay4 f.fl f.st f.pd f.la f.ic f.cd f.dp f.wt f.rk f.al A n c P pn pc f.da f.prs w hf.fl hf.pd hf.la hf.ic hf.cd hf.dp hf.wt h hn hp hpn).mono (slP_eq (by simp [payS, quadS, e]))
  · rw [e]
    exact (rPay6 f.fl f.st f.pd f.la f.ic f.cd f.dp f.wt f.rk f.al A n c P pn pc f.da f.prs w hf.fl hf.pd hf.la hf.ic hf.cd hf.dp hf.wt h hn hp hpn).mono (slP_eq (by simp [payS, quadS, e]))
  · rw [e]
    exact (rPay7 f.fl f.st f.pd f.la f.ic f.cd f.dp f.wt f.rk f.al A n c P pn pc f.da f.prs w hf.fl hf.pd hf.la hf.ic hf.cd hf.dp hf.wt h hn hp hpn).mono (slP_eq (by simp [payS, quadS, e]))
  · rw [e]
    exact (rPay8 f.fl f.st f.pd f.la f.ic f.cd f.dp f.wt f.rk f.al A n c P pn pc f.da f.prs w hf.fl hf.pd hf.la hf.ic hf.cd hf.dp hf.wt h hn hp hpn).mono (slP_eq (by simp [payS, quadS, e]))
  · rw [e]
    exact (rPay9 f.fl f.st f.pd f.la f.ic f.cd f.dp f.wt f.rk f.al A n c P pn pc f.da f.prs w hf.fl hf.pd hf.la hf.ic hf.cd hf.dp hf.wt h hn hp hpn).mono (slP_eq (by simp [payS, quadS, e]))
  · rw [e]
    exact (rPay16 f.fl f.st f.pd f.la f.ic f.cd f.dp f.wt f.rk f.al A n c P pn pc f.da f.prs w hf.fl hf.pd hf.la hf.ic hf.cd hf.dp hf.wt h hn hp hpn).mono (slP_eq (by simp [payS, quadS, e]))
  · exact (rPayo f.kd f.fl f.st f.pd f.la f.ic f.cd f.dp f.wt f.rk f.al A n c P pn pc f.da f.prs w hf.fl hf.pd hf.la hf.ic hf.cd hf.dp hf.wt h hn hp hpn (by simpa using h0) (by simpa using h1) (by simpa using h2) (by simpa using h3) (by simpa using h4) (by simpa using h6) (by simpa using h7) (by simpa using h8) (by simpa using h9) (by simpa using h16)).mono (slP_eq (by simp [payS, h0, h1, h2, h3, h4, h6, h7, h8, h9, h16]))
end Go.Proofs.Ytnjnpnjjpodnnaa
