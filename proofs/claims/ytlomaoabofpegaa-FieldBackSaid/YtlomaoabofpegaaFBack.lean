/- FieldBack: what is put is taken, what is not right is a fault: the walk. -/
import Derived.Test.YtlomaoabofpegaaFTells
import Derived.Test.YtlomaoabofpegaaFp
import Derived.Test.YtlomaoabofpegaaA
namespace Go.Proofs.Ytlomaoabofpegaa
open Go.RowKit Go.Shelf
set_option linter.unusedVariables false

set_option maxRecDepth 100000 in
set_option maxHeartbeats 8000000 in
theorem backBig1 (A : Option Addr) (n c : Nat) (D : List Int) (m0 : Int) (al : Bool) (dp : Int) (wt : Int) (B : Option Addr) (m d : Nat) (l : List (Int × Int)) (W : World)
    (h : Byt W A n c D) (hl : Prs W B m d l) (w0 : 0 ≤ wt) (w1 : wt ≤ 255) (g0 : 300 < n) :
    Calls Try.prog 4 #[.slice A n c, .int .i64 m0, .agg #[.bool al, .int .i64 dp, .int .u8 wt], .slice B m d] W fun e w' => e = .returned (.bool true) ∧ Below W.heap.size W w' := by
  have b0 := Bel.refl W
  replace b0 := b0.alloc (.cells #[.bool al, .int .i64 dp, .int .u8 wt] 24)
  have qr := Blk.newAt (b := W.heap.size) W 24 #[.bool al, .int .i64 dp, .int .u8 wt] rfl
  have zqr0 := qr.at 0 rfl
  have zqr1 := qr.at 1 rfl
  have zqr2 := qr.at 2 rfl
  have cpb := hl.cap; have cpm := hl.mx; have chb := h.cap; have chm := h.mx
  have y0 : decide ((300 : Int) < n) = true := decide_eq_true (by omega)
  go_enter Try.func4, Try.ntmps4
  go_wp2_with (first | (go_at_call 7; refine (fWakes _).mono ?_; rintro e w1 ⟨rfl, hb⟩; replace b0 := b0.below hb))
  go_ret
  exact ⟨rfl, b0.out⟩

set_option maxRecDepth 100000 in
set_option maxHeartbeats 8000000 in
theorem backBig2 (A : Option Addr) (n c : Nat) (D : List Int) (m0 : Int) (al : Bool) (dp : Int) (wt : Int) (B : Option Addr) (m d : Nat) (l : List (Int × Int)) (W : World)
    (h : Byt W A n c D) (hl : Prs W B m d l) (w0 : 0 ≤ wt) (w1 : wt ≤ 255) (g0 : n ≤ 300) (g1 : 60 < m) :
    Calls Try.prog 4 #[.slice A n c, .int .i64 m0, .agg #[.bool al, .int .i64 dp, .int .u8 wt], .slice B m d] W fun e w' => e = .returned (.bool true) ∧ Below W.heap.size W w' := by
  have b0 := Bel.refl W
  replace b0 := b0.alloc (.cells #[.bool al, .int .i64 dp, .int .u8 wt] 24)
  have qr := Blk.newAt (b := W.heap.size) W 24 #[.bool al, .int .i64 dp, .int .u8 wt] rfl
  have zqr0 := qr.at 0 rfl
  have zqr1 := qr.at 1 rfl
  have zqr2 := qr.at 2 rfl
  have cpb := hl.cap; have cpm := hl.mx; have chb := h.cap; have chm := h.mx
  have y0 : decide ((300 : Int) < n) = false := decide_eq_false (by omega)
  have y1 : decide ((60 : Int) < m) = true := decide_eq_true (by omega)
  go_enter Try.func4, Try.ntmps4
  go_wp2_with (first | (go_at_call 7; refine (fWakes _).mono ?_; rintro e w1 ⟨rfl, hb⟩; replace b0 := b0.below hb))
  go_ret
  exact ⟨rfl, b0.out⟩

set_option maxRecDepth 100000 in
set_option maxHeartbeats 16000000 in
theorem back11 (A : Option Addr) (n c : Nat) (D : List Int) (m0 : Nat) (al : Bool) (dp : Int) (wt : Int) (B : Option Addr) (m d : Nat) (l : List (Int × Int)) (W : World)
    (h : Byt W A n c D) (hl : Prs W B m d l) (w0 : 0 ≤ wt) (w1 : wt ≤ 255) (g0 : n ≤ 300) (g1 : m ≤ 60) (M1 : m0 ≤ 255) (d0 : 0 ≤ dp) (d1 : dp < 2147483648) :
    Calls Try.prog 4 #[.slice A n c, .int .i64 m0, .agg #[.bool al, .int .i64 dp, .int .u8 wt], .slice B m d] W fun e w' => e = .returned (.bool true) ∧ Below W.heap.size W w' := by
  have b0 := Bel.refl W
  replace b0 := b0.alloc (.cells #[.bool al, .int .i64 dp, .int .u8 wt] 24)
  replace h := h.alloc (.cells #[.bool al, .int .i64 dp, .int .u8 wt] 24)
  replace hl := hl.alloc (.cells #[.bool al, .int .i64 dp, .int .u8 wt] 24)
  have qr := Blk.newAt (b := W.heap.size) W 24 #[.bool al, .int .i64 dp, .int .u8 wt] rfl
  have zqr0 := qr.at 0 rfl
  have zqr1 := qr.at 1 rfl
  have zqr2 := qr.at 2 rfl
  have cpb := hl.cap; have cpm := hl.mx; have chb := h.cap; have chm := h.mx
  have y0 : decide ((300 : Int) < n) = false := decide_eq_false (by omega)
  have y1 : decide ((60 : Int) < m) = false := decide_eq_false (by omega)
  have hlen := h.len
  have hll := hl.len
  have y2 : decide ((0 : Int) ≤ (m0 : Int)) = true := decide_eq_true (by omega)
  have y3 : decide ((m0 : Int) ≤ 255) = true := decide_eq_true (by omega)
  obtain ⟨k, hk⟩ : ∃ k, n + 1 + m0 = k := ⟨_, rfl⟩
  have y4 : decide (0 ≤ dp) = true := decide_eq_true (by omega)
  have y5 : decide (dp < 2147483648) = true := decide_eq_true (by omega)
  go_enter Try.func4, Try.ntmps4
  go_wp2_with fail
  refine (fPad _ _ _ _ _ _ h (by omega) (by omega) (by omega)).mono ?_
  intro e wr1 hpost
  obtain ⟨Ax, cx, rfl, xm, hb⟩ := hpost.e (padL_yes M1) (padE_yes M1) (N := k) (by simp; omega)
  replace b0 := (b0).below hb; replace h := (h).below hb; replace hl := (hl).below hb; replace qr := (qr).below hb
  have x := xm.byt
  clear xm
  clear zqr0 zqr1 zqr2
  go_wp2_with fail
  refine (fUnpad _ _ _ _ _ x (by omega)).mono ?_
  intro e wr2 hpost
  obtain ⟨Ap, cp, rfl, pm, hb⟩ := hpost.e (unO_pad D m0) (unN_pad D m0) (unE_pad D m0) hlen
  replace b0 := (b0).below hb; replace h := (h).below hb; replace hl := (hl).below hb; replace qr := (qr).below hb; replace x := (x).below hb
  have p := pm.byt
  clear pm
  have y6 : (k : Int) = (n : Int) + ((m0 : Int) + 1) := by omega
  have y7 : ((k : Int) != (n : Int) + ((m0 : Int) + 1)) = false := by simp [y6]
  go_wp2_with fail
  refine (rOSameE (eqB_self _) _ p h).mono ?_
  rintro e ws ⟨rfl, rfl⟩
  clear x p
  have zqr0 := qr.at 0 rfl
  have zqr1 := qr.at 1 rfl
  have zqr2 := qr.at 2 rfl
  go_wp2_with fail
  refine (fPutRank _ _ _ _ (by omega) (by omega) w0 w1).mono ?_
  intro e wr4 hpost
  obtain ⟨Ar, cr, rfl, rm, hb⟩ := hpost.e (rankL_yesI d0 d1) (rankE_yesI d0 d1) (N := 5) (by simp [bigE_len])
  replace b0 := (b0).below hb; replace h := (h).below hb; replace hl := (hl).below hb; replace qr := (qr).below hb
  have r := rm.byt
  clear rm
  clear zqr0 zqr1 zqr2
  have zqr0 := qr.at 0 rfl
  have zqr1 := qr.at 1 rfl
  have zqr2 := qr.at 2 rfl
  go_wp2_with (first
    | (at_builtin; refine wpList_copy wr4 rfl (.tmp 114) (.tmp 115) rfl rfl rfl Ar 5 cr _ rfl r (by omega) ?_; intro Ay cy wy ym hb)
    | (at_builtin; refine wpList_app wy rfl (.tmp 116) (.tmp 117) rfl wr4.heap.size Ay 5 cy _ rfl ym A n c D rfl (h.below hb) (by simp [bigE_len]; omega) hb.size ?_; intro Az cz wz zm hb2 _ _; replace hb2 := hb.trans hb2; have z := zm.byt; clear zm ym hb))
  clear zqr0 zqr1 zqr2
  replace b0 := (b0).below hb2; replace h := (h).below hb2; replace hl := (hl).below hb2; replace qr := (qr).below hb2; replace r := (r).below hb2
  refine (fTakeRank _ _ _ _ _ z (by omega)).mono ?_
  intro e wr5 hpost
  obtain ⟨Aq, cq, rfl, qm, hb⟩ := hpost.e (tr_rankI d0 d1).1 (tr_rankI d0 d1).2.1 (tr_rankI d0 d1).2.2.1 (tr_rankI d0 d1).2.2.2.1 (tr_rankI d0 d1).2.2.2.2 hlen
  replace b0 := (b0).below hb; replace h := (h).below hb; replace hl := (hl).below hb; replace qr := (qr).below hb; replace r := (r).below hb; replace z := (z).below hb
  have q := qm.byt
  clear qm
  replace b0 := b0.alloc (.cells #[.bool al, .int .i64 dp, .int .u8 wt] 24)
  replace h := h.alloc (.cells #[.bool al, .int .i64 dp, .int .u8 wt] 24)
  replace hl := hl.alloc (.cells #[.bool al, .int .i64 dp, .int .u8 wt] 24)
  replace qr := qr.alloc (.cells #[.bool al, .int .i64 dp, .int .u8 wt] 24)
  replace r := r.alloc (.cells #[.bool al, .int .i64 dp, .int .u8 wt] 24)
  replace z := z.alloc (.cells #[.bool al, .int .i64 dp, .int .u8 wt] 24)
  replace q := q.alloc (.cells #[.bool al, .int .i64 dp, .int .u8 wt] 24)
  have qs := Blk.newAt (b := wr5.heap.size) wr5 24 #[.bool al, .int .i64 dp, .int .u8 wt] rfl
  have zqr0 := qr.at 0 rfl
  have zqr1 := qr.at 1 rfl
  have zqr2 := qr.at 2 rfl
  have zqs0 := qs.at 0 rfl
  have zqs1 := qs.at 1 rfl
  have zqs2 := qs.at 2 rfl
  go_wp2_with fail
  refine (rOSameE (eqB_self _) _ q h).mono ?_
  rintro e ws ⟨rfl, rfl⟩
  clear r z q qs qr
  clear zqr0 zqr1 zqr2 zqs0 zqs1 zqs2
  go_wp2_with fail
  -- pairs
  refine (fPutPairs _ _ _ _ _ hl (by omega)).mono ?_
  rintro e wr6 ⟨Au, cu, rfl, um, hb⟩
  replace b0 := (b0).below hb; replace h := (h).below hb; replace hl := (hl).below hb
  have u := um.byt
  clear um
  go_wp2_with fail
  refine (fTakePairs _ _ _ _ _ u (by omega)).mono ?_
  intro e wr7 hpost
  obtain ⟨Av, cv, rfl, vm, hb⟩ := hpost.e (take_putPs hl.bs) (takePe_putPs l) hll
  replace b0 := (b0).below hb; replace h := (h).below hb; replace hl := (hl).below hb; replace u := (u).below hb
  have v := vm.prs
  clear vm
  have y8 : ((m * 6 : Nat) : Int) = 6 * (m : Int) := by omega
  go_wp2_with fail
  refine (rPairs _ _ _ _ _ _ _ _ _ v hl).mono ?_
  rintro e wr8 ⟨rfl, hb⟩
  replace b0 := (b0).below hb; replace h := (h).below hb; replace hl := (hl).below hb; replace u := (u).below hb; replace v := (v).below hb
  rw [eqP_self]
  go_wp2_with fail
  refine (fWakes _).mono ?_
  rintro e wr9 ⟨rfl, hb⟩
  replace b0 := (b0).below hb; replace h := (h).below hb; replace hl := (hl).below hb; replace u := (u).below hb; replace v := (v).below hb
  go_wp2
  go_ret
  exact ⟨rfl, b0.out⟩

set_option maxRecDepth 100000 in
set_option maxHeartbeats 16000000 in
theorem back10 (A : Option Addr) (n c : Nat) (D : List Int) (m0 : Nat) (al : Bool) (dp : Int) (wt : Int) (B : Option Addr) (m d : Nat) (l : List (Int × Int)) (W : World)
    (h : Byt W A n c D) (hl : Prs W B m d l) (w0 : 0 ≤ wt) (w1 : wt ≤ 255) (g0 : n ≤ 300) (g1 : m ≤ 60) (M1 : m0 ≤ 255) (d0 : -9223372036854775808 ≤ dp) (d1 : dp ≤ 9223372036854775807) (nr : dp < 0) :
    Calls Try.prog 4 #[.slice A n c, .int .i64 m0, .agg #[.bool al, .int .i64 dp, .int .u8 wt], .slice B m d] W fun e w' => e = .returned (.bool true) ∧ Below W.heap.size W w' := by
  have b0 := Bel.refl W
  replace b0 := b0.alloc (.cells #[.bool al, .int .i64 dp, .int .u8 wt] 24)
  replace h := h.alloc (.cells #[.bool al, .int .i64 dp, .int .u8 wt] 24)
  replace hl := hl.alloc (.cells #[.bool al, .int .i64 dp, .int .u8 wt] 24)
  have qr := Blk.newAt (b := W.heap.size) W 24 #[.bool al, .int .i64 dp, .int .u8 wt] rfl
  have zqr0 := qr.at 0 rfl
  have zqr1 := qr.at 1 rfl
  have zqr2 := qr.at 2 rfl
  have cpb := hl.cap; have cpm := hl.mx; have chb := h.cap; have chm := h.mx
  have y0 : decide ((300 : Int) < n) = false := decide_eq_false (by omega)
  have y1 : decide ((60 : Int) < m) = false := decide_eq_false (by omega)
  have hlen := h.len
  have hll := hl.len
  have y2 : decide ((0 : Int) ≤ (m0 : Int)) = true := decide_eq_true (by omega)
  have y3 : decide ((m0 : Int) ≤ 255) = true := decide_eq_true (by omega)
  obtain ⟨k, hk⟩ : ∃ k, n + 1 + m0 = k := ⟨_, rfl⟩
  have y4 : decide ((0 : Int) ≤ dp) = false := decide_eq_false (by omega)
  go_enter Try.func4, Try.ntmps4
  go_wp2_with fail
  refine (fPad _ _ _ _ _ _ h (by omega) (by omega) (by omega)).mono ?_
  intro e wr1 hpost
  obtain ⟨Ax, cx, rfl, xm, hb⟩ := hpost.e (padL_yes M1) (padE_yes M1) (N := k) (by simp; omega)
  replace b0 := (b0).below hb; replace h := (h).below hb; replace hl := (hl).below hb; replace qr := (qr).below hb
  have x := xm.byt
  clear xm
  clear zqr0 zqr1 zqr2
  go_wp2_with fail
  refine (fUnpad _ _ _ _ _ x (by omega)).mono ?_
  intro e wr2 hpost
  obtain ⟨Ap, cp, rfl, pm, hb⟩ := hpost.e (unO_pad D m0) (unN_pad D m0) (unE_pad D m0) hlen
  replace b0 := (b0).below hb; replace h := (h).below hb; replace hl := (hl).below hb; replace qr := (qr).below hb; replace x := (x).below hb
  have p := pm.byt
  clear pm
  have y6 : (k : Int) = (n : Int) + ((m0 : Int) + 1) := by omega
  have y7 : ((k : Int) != (n : Int) + ((m0 : Int) + 1)) = false := by simp [y6]
  go_wp2_with fail
  refine (rOSameE (eqB_self _) _ p h).mono ?_
  rintro e ws ⟨rfl, rfl⟩
  clear x p
  have zqr0 := qr.at 0 rfl
  have zqr1 := qr.at 1 rfl
  have zqr2 := qr.at 2 rfl
  go_wp2_with fail
  refine (fPutRankNo _ _ _ _ d0 d1 (by omega)).mono ?_
  intro e wr4 hpost
  obtain ⟨Ar, cr, rfl, rm, hb⟩ := hpost.e rfl rfl (N := 0) rfl
  replace b0 := (b0).below hb; replace h := (h).below hb; replace hl := (hl).below hb; replace qr := (qr).below hb
  have r := rm.byt
  clear rm
  clear zqr0 zqr1 zqr2
  have zqr0 := qr.at 0 rfl
  have zqr1 := qr.at 1 rfl
  have zqr2 := qr.at 2 rfl
  go_wp2_with fail
  -- pairs
  refine (fPutPairs _ _ _ _ _ hl (by omega)).mono ?_
  rintro e wr5 ⟨Au, cu, rfl, um, hb⟩
  replace b0 := (b0).below hb; replace h := (h).below hb; replace hl := (hl).below hb; replace qr := (qr).below hb; replace r := (r).below hb
  have u := um.byt
  clear um
  clear zqr0 zqr1 zqr2
  go_wp2_with fail
  refine (fTakePairs _ _ _ _ _ u (by omega)).mono ?_
  intro e wr6 hpost
  obtain ⟨Av, cv, rfl, vm, hb⟩ := hpost.e (take_putPs hl.bs) (takePe_putPs l) hll
  replace b0 := (b0).below hb; replace h := (h).below hb; replace hl := (hl).below hb; replace qr := (qr).below hb; replace r := (r).below hb; replace u := (u).below hb
  have v := vm.prs
  clear vm
  have y8 : ((m * 6 : Nat) : Int) = 6 * (m : Int) := by omega
  go_wp2_with fail
  refine (rPairs _ _ _ _ _ _ _ _ _ v hl).mono ?_
  rintro e wr7 ⟨rfl, hb⟩
  replace b0 := (b0).below hb; replace h := (h).below hb; replace hl := (hl).below hb; replace qr := (qr).below hb; replace r := (r).below hb; replace u := (u).below hb; replace v := (v).below hb
  rw [eqP_self]
  go_wp2_with fail
  refine (fWakes _).mono ?_
  rintro e wr8 ⟨rfl, hb⟩
  replace b0 := (b0).below hb; replace h := (h).below hb; replace hl := (hl).below hb; replace qr := (qr).below hb; replace r := (r).below hb; replace u := (u).below hb; replace v := (v).below hb
  go_wp2
  go_ret
  exact ⟨rfl, b0.out⟩

set_option maxRecDepth 100000 in
set_option maxHeartbeats 16000000 in
theorem back12 (A : Option Addr) (n c : Nat) (D : List Int) (m0 : Nat) (al : Bool) (dp : Int) (wt : Int) (B : Option Addr) (m d : Nat) (l : List (Int × Int)) (W : World)
    (h : Byt W A n c D) (hl : Prs W B m d l) (w0 : 0 ≤ wt) (w1 : wt ≤ 255) (g0 : n ≤ 300) (g1 : m ≤ 60) (M1 : m0 ≤ 255) (d0 : -9223372036854775808 ≤ dp) (d1 : dp ≤ 9223372036854775807) (nr : 2147483648 ≤ dp) :
    Calls Try.prog 4 #[.slice A n c, .int .i64 m0, .agg #[.bool al, .int .i64 dp, .int .u8 wt], .slice B m d] W fun e w' => e = .returned (.bool true) ∧ Below W.heap.size W w' := by
  have b0 := Bel.refl W
  replace b0 := b0.alloc (.cells #[.bool al, .int .i64 dp, .int .u8 wt] 24)
  replace h := h.alloc (.cells #[.bool al, .int .i64 dp, .int .u8 wt] 24)
  replace hl := hl.alloc (.cells #[.bool al, .int .i64 dp, .int .u8 wt] 24)
  have qr := Blk.newAt (b := W.heap.size) W 24 #[.bool al, .int .i64 dp, .int .u8 wt] rfl
  have zqr0 := qr.at 0 rfl
  have zqr1 := qr.at 1 rfl
  have zqr2 := qr.at 2 rfl
  have cpb := hl.cap; have cpm := hl.mx; have chb := h.cap; have chm := h.mx
  have y0 : decide ((300 : Int) < n) = false := decide_eq_false (by omega)
  have y1 : decide ((60 : Int) < m) = false := decide_eq_false (by omega)
  have hlen := h.len
  have hll := hl.len
  have y2 : decide ((0 : Int) ≤ (m0 : Int)) = true := decide_eq_true (by omega)
  have y3 : decide ((m0 : Int) ≤ 255) = true := decide_eq_true (by omega)
  obtain ⟨k, hk⟩ : ∃ k, n + 1 + m0 = k := ⟨_, rfl⟩
  have y4 : decide ((0 : Int) ≤ dp) = true := decide_eq_true (by omega)
  have y5 : decide (dp < 2147483648) = false := decide_eq_false (by omega)
  go_enter Try.func4, Try.ntmps4
  go_wp2_with fail
  refine (fPad _ _ _ _ _ _ h (by omega) (by omega) (by omega)).mono ?_
  intro e wr1 hpost
  obtain ⟨Ax, cx, rfl, xm, hb⟩ := hpost.e (padL_yes M1) (padE_yes M1) (N := k) (by simp; omega)
  replace b0 := (b0).below hb; replace h := (h).below hb; replace hl := (hl).below hb; replace qr := (qr).below hb
  have x := xm.byt
  clear xm
  clear zqr0 zqr1 zqr2
  go_wp2_with fail
  refine (fUnpad _ _ _ _ _ x (by omega)).mono ?_
  intro e wr2 hpost
  obtain ⟨Ap, cp, rfl, pm, hb⟩ := hpost.e (unO_pad D m0) (unN_pad D m0) (unE_pad D m0) hlen
  replace b0 := (b0).below hb; replace h := (h).below hb; replace hl := (hl).below hb; replace qr := (qr).below hb; replace x := (x).below hb
  have p := pm.byt
  clear pm
  have y6 : (k : Int) = (n : Int) + ((m0 : Int) + 1) := by omega
  have y7 : ((k : Int) != (n : Int) + ((m0 : Int) + 1)) = false := by simp [y6]
  go_wp2_with fail
  refine (rOSameE (eqB_self _) _ p h).mono ?_
  rintro e ws ⟨rfl, rfl⟩
  clear x p
  have zqr0 := qr.at 0 rfl
  have zqr1 := qr.at 1 rfl
  have zqr2 := qr.at 2 rfl
  go_wp2_with fail
  refine (fPutRankNo _ _ _ _ d0 d1 (by omega)).mono ?_
  intro e wr4 hpost
  obtain ⟨Ar, cr, rfl, rm, hb⟩ := hpost.e rfl rfl (N := 0) rfl
  replace b0 := (b0).below hb; replace h := (h).below hb; replace hl := (hl).below hb; replace qr := (qr).below hb
  have r := rm.byt
  clear rm
  clear zqr0 zqr1 zqr2
  have zqr0 := qr.at 0 rfl
  have zqr1 := qr.at 1 rfl
  have zqr2 := qr.at 2 rfl
  go_wp2_with fail
  -- pairs
  refine (fPutPairs _ _ _ _ _ hl (by omega)).mono ?_
  rintro e wr5 ⟨Au, cu, rfl, um, hb⟩
  replace b0 := (b0).below hb; replace h := (h).below hb; replace hl := (hl).below hb; replace qr := (qr).below hb; replace r := (r).below hb
  have u := um.byt
  clear um
  clear zqr0 zqr1 zqr2
  go_wp2_with fail
  refine (fTakePairs _ _ _ _ _ u (by omega)).mono ?_
  intro e wr6 hpost
  obtain ⟨Av, cv, rfl, vm, hb⟩ := hpost.e (take_putPs hl.bs) (takePe_putPs l) hll
  replace b0 := (b0).below hb; replace h := (h).below hb; replace hl := (hl).below hb; replace qr := (qr).below hb; replace r := (r).below hb; replace u := (u).below hb
  have v := vm.prs
  clear vm
  have y8 : ((m * 6 : Nat) : Int) = 6 * (m : Int) := by omega
  go_wp2_with fail
  refine (rPairs _ _ _ _ _ _ _ _ _ v hl).mono ?_
  rintro e wr7 ⟨rfl, hb⟩
  replace b0 := (b0).below hb; replace h := (h).below hb; replace hl := (hl).below hb; replace qr := (qr).below hb; replace r := (r).below hb; replace u := (u).below hb; replace v := (v).below hb
  rw [eqP_self]
  go_wp2_with fail
  refine (fWakes _).mono ?_
  rintro e wr8 ⟨rfl, hb⟩
  replace b0 := (b0).below hb; replace h := (h).below hb; replace hl := (hl).below hb; replace qr := (qr).below hb; replace r := (r).below hb; replace u := (u).below hb; replace v := (v).below hb
  go_wp2
  go_ret
  exact ⟨rfl, b0.out⟩

set_option maxRecDepth 100000 in
set_option maxHeartbeats 16000000 in
theorem back01 (A : Option Addr) (n c : Nat) (D : List Int) (m0 : Int) (al : Bool) (dp : Int) (wt : Int) (B : Option Addr) (m d : Nat) (l : List (Int × Int)) (W : World)
    (h : Byt W A n c D) (hl : Prs W B m d l) (w0 : 0 ≤ wt) (w1 : wt ≤ 255) (g0 : n ≤ 300) (g1 : m ≤ 60) (M0 : -9223372036854775808 ≤ m0) (M1 : m0 ≤ 9223372036854775807) (no : m0 < 0) (d0 : 0 ≤ dp) (d1 : dp < 2147483648) :
    Calls Try.prog 4 #[.slice A n c, .int .i64 m0, .agg #[.bool al, .int .i64 dp, .int .u8 wt], .slice B m d] W fun e w' => e = .returned (.bool true) ∧ Below W.heap.size W w' := by
  have b0 := Bel.refl W
  replace b0 := b0.alloc (.cells #[.bool al, .int .i64 dp, .int .u8 wt] 24)
  replace h := h.alloc (.cells #[.bool al, .int .i64 dp, .int .u8 wt] 24)
  replace hl := hl.alloc (.cells #[.bool al, .int .i64 dp, .int .u8 wt] 24)
  have qr := Blk.newAt (b := W.heap.size) W 24 #[.bool al, .int .i64 dp, .int .u8 wt] rfl
  have zqr0 := qr.at 0 rfl
  have zqr1 := qr.at 1 rfl
  have zqr2 := qr.at 2 rfl
  have cpb := hl.cap; have cpm := hl.mx; have chb := h.cap; have chm := h.mx
  have y0 : decide ((300 : Int) < n) = false := decide_eq_false (by omega)
  have y1 : decide ((60 : Int) < m) = false := decide_eq_false (by omega)
  have hlen := h.len
  have hll := hl.len
  have y2 : decide ((0 : Int) ≤ m0) = false := decide_eq_false (by omega)
  have y4 : decide (0 ≤ dp) = true := decide_eq_true (by omega)
  have y5 : decide (dp < 2147483648) = true := decide_eq_true (by omega)
  go_enter Try.func4, Try.ntmps4
  go_wp2_with fail
  refine (fPadNo _ _ _ _ _ M0 M1 (by omega)).mono ?_
  intro e wr1 hpost
  obtain ⟨Ax, cx, rfl, xm, hb⟩ := hpost.e rfl rfl (N := 0) rfl
  replace b0 := (b0).below hb; replace h := (h).below hb; replace hl := (hl).below hb; replace qr := (qr).below hb
  have x := xm.byt
  clear xm
  clear zqr0 zqr1 zqr2
  have zqr0 := qr.at 0 rfl
  have zqr1 := qr.at 1 rfl
  have zqr2 := qr.at 2 rfl
  go_wp2_with fail
  refine (fPutRank _ _ _ _ (by omega) (by omega) w0 w1).mono ?_
  intro e wr2 hpost
  obtain ⟨Ar, cr, rfl, rm, hb⟩ := hpost.e (rankL_yesI d0 d1) (rankE_yesI d0 d1) (N := 5) (by simp [bigE_len])
  replace b0 := (b0).below hb; replace h := (h).below hb; replace hl := (hl).below hb; replace qr := (qr).below hb; replace x := (x).below hb
  have r := rm.byt
  clear rm
  clear zqr0 zqr1 zqr2
  have zqr0 := qr.at 0 rfl
  have zqr1 := qr.at 1 rfl
  have zqr2 := qr.at 2 rfl
  go_wp2_with (first
    | (at_builtin; refine wpList_copy wr2 rfl (.tmp 114) (.tmp 115) rfl rfl rfl Ar 5 cr _ rfl r (by omega) ?_; intro Ay cy wy ym hb)
    | (at_builtin; refine wpList_app wy rfl (.tmp 116) (.tmp 117) rfl wr2.heap.size Ay 5 cy _ rfl ym A n c D rfl (h.below hb) (by simp [bigE_len]; omega) hb.size ?_; intro Az cz wz zm hb2 _ _; replace hb2 := hb.trans hb2; have z := zm.byt; clear zm ym hb))
  clear zqr0 zqr1 zqr2
  replace b0 := (b0).below hb2; replace h := (h).below hb2; replace hl := (hl).below hb2; replace qr := (qr).below hb2; replace x := (x).below hb2; replace r := (r).below hb2
  refine (fTakeRank _ _ _ _ _ z (by omega)).mono ?_
  intro e wr3 hpost
  obtain ⟨Aq, cq, rfl, qm, hb⟩ := hpost.e (tr_rankI d0 d1).1 (tr_rankI d0 d1).2.1 (tr_rankI d0 d1).2.2.1 (tr_rankI d0 d1).2.2.2.1 (tr_rankI d0 d1).2.2.2.2 hlen
  replace b0 := (b0).below hb; replace h := (h).below hb; replace hl := (hl).below hb; replace qr := (qr).below hb; replace x := (x).below hb; replace r := (r).below hb; replace z := (z).below hb
  have q := qm.byt
  clear qm
  replace b0 := b0.alloc (.cells #[.bool al, .int .i64 dp, .int .u8 wt] 24)
  replace h := h.alloc (.cells #[.bool al, .int .i64 dp, .int .u8 wt] 24)
  replace hl := hl.alloc (.cells #[.bool al, .int .i64 dp, .int .u8 wt] 24)
  replace qr := qr.alloc (.cells #[.bool al, .int .i64 dp, .int .u8 wt] 24)
  replace x := x.alloc (.cells #[.bool al, .int .i64 dp, .int .u8 wt] 24)
  replace r := r.alloc (.cells #[.bool al, .int .i64 dp, .int .u8 wt] 24)
  replace z := z.alloc (.cells #[.bool al, .int .i64 dp, .int .u8 wt] 24)
  replace q := q.alloc (.cells #[.bool al, .int .i64 dp, .int .u8 wt] 24)
  have qs := Blk.newAt (b := wr3.heap.size) wr3 24 #[.bool al, .int .i64 dp, .int .u8 wt] rfl
  have zqr0 := qr.at 0 rfl
  have zqr1 := qr.at 1 rfl
  have zqr2 := qr.at 2 rfl
  have zqs0 := qs.at 0 rfl
  have zqs1 := qs.at 1 rfl
  have zqs2 := qs.at 2 rfl
  go_wp2_with fail
  refine (rOSameE (eqB_self _) _ q h).mono ?_
  rintro e ws ⟨rfl, rfl⟩
  clear r z q qs qr
  clear zqr0 zqr1 zqr2 zqs0 zqs1 zqs2
  go_wp2_with fail
  -- pairs
  refine (fPutPairs _ _ _ _ _ hl (by omega)).mono ?_
  rintro e wr4 ⟨Au, cu, rfl, um, hb⟩
  replace b0 := (b0).below hb; replace h := (h).below hb; replace hl := (hl).below hb; replace x := (x).below hb
  have u := um.byt
  clear um
  go_wp2_with fail
  refine (fTakePairs _ _ _ _ _ u (by omega)).mono ?_
  intro e wr5 hpost
  obtain ⟨Av, cv, rfl, vm, hb⟩ := hpost.e (take_putPs hl.bs) (takePe_putPs l) hll
  replace b0 := (b0).below hb; replace h := (h).below hb; replace hl := (hl).below hb; replace x := (x).below hb; replace u := (u).below hb
  have v := vm.prs
  clear vm
  have y8 : ((m * 6 : Nat) : Int) = 6 * (m : Int) := by omega
  go_wp2_with fail
  refine (rPairs _ _ _ _ _ _ _ _ _ v hl).mono ?_
  rintro e wr6 ⟨rfl, hb⟩
  replace b0 := (b0).below hb; replace h := (h).below hb; replace hl := (hl).below hb; replace x := (x).below hb; replace u := (u).below hb; replace v := (v).below hb
  rw [eqP_self]
  go_wp2_with fail
  refine (fWakes _).mono ?_
  rintro e wr7 ⟨rfl, hb⟩
  replace b0 := (b0).below hb; replace h := (h).below hb; replace hl := (hl).below hb; replace x := (x).below hb; replace u := (u).below hb; replace v := (v).below hb
  go_wp2
  go_ret
  exact ⟨rfl, b0.out⟩

set_option maxRecDepth 100000 in
set_option maxHeartbeats 16000000 in
theorem back00 (A : Option Addr) (n c : Nat) (D : List Int) (m0 : Int) (al : Bool) (dp : Int) (wt : Int) (B : Option Addr) (m d : Nat) (l : List (Int × Int)) (W : World)
    (h : Byt W A n c D) (hl : Prs W B m d l) (w0 : 0 ≤ wt) (w1 : wt ≤ 255) (g0 : n ≤ 300) (g1 : m ≤ 60) (M0 : -9223372036854775808 ≤ m0) (M1 : m0 ≤ 9223372036854775807) (no : m0 < 0) (d0 : -9223372036854775808 ≤ dp) (d1 : dp ≤ 9223372036854775807) (nr : dp < 0) :
    Calls Try.prog 4 #[.slice A n c, .int .i64 m0, .agg #[.bool al, .int .i64 dp, .int .u8 wt], .slice B m d] W fun e w' => e = .returned (.bool true) ∧ Below W.heap.size W w' := by
  have b0 := Bel.refl W
  replace b0 := b0.alloc (.cells #[.bool al, .int .i64 dp, .int .u8 wt] 24)
  replace h := h.alloc (.cells #[.bool al, .int .i64 dp, .int .u8 wt] 24)
  replace hl := hl.alloc (.cells #[.bool al, .int .i64 dp, .int .u8 wt] 24)
  have qr := Blk.newAt (b := W.heap.size) W 24 #[.bool al, .int .i64 dp, .int .u8 wt] rfl
  have zqr0 := qr.at 0 rfl
  have zqr1 := qr.at 1 rfl
  have zqr2 := qr.at 2 rfl
  have cpb := hl.cap; have cpm := hl.mx; have chb := h.cap; have chm := h.mx
  have y0 : decide ((300 : Int) < n) = false := decide_eq_false (by omega)
  have y1 : decide ((60 : Int) < m) = false := decide_eq_false (by omega)
  have hlen := h.len
  have hll := hl.len
  have y2 : decide ((0 : Int) ≤ m0) = false := decide_eq_false (by omega)
  have y4 : decide ((0 : Int) ≤ dp) = false := decide_eq_false (by omega)
  go_enter Try.func4, Try.ntmps4
  go_wp2_with fail
  refine (fPadNo _ _ _ _ _ M0 M1 (by omega)).mono ?_
  intro e wr1 hpost
  obtain ⟨Ax, cx, rfl, xm, hb⟩ := hpost.e rfl rfl (N := 0) rfl
  replace b0 := (b0).below hb; replace h := (h).below hb; replace hl := (hl).below hb; replace qr := (qr).below hb
  have x := xm.byt
  clear xm
  clear zqr0 zqr1 zqr2
  have zqr0 := qr.at 0 rfl
  have zqr1 := qr.at 1 rfl
  have zqr2 := qr.at 2 rfl
  go_wp2_with fail
  refine (fPutRankNo _ _ _ _ d0 d1 (by omega)).mono ?_
  intro e wr2 hpost
  obtain ⟨Ar, cr, rfl, rm, hb⟩ := hpost.e rfl rfl (N := 0) rfl
  replace b0 := (b0).below hb; replace h := (h).below hb; replace hl := (hl).below hb; replace qr := (qr).below hb; replace x := (x).below hb
  have r := rm.byt
  clear rm
  clear zqr0 zqr1 zqr2
  have zqr0 := qr.at 0 rfl
  have zqr1 := qr.at 1 rfl
  have zqr2 := qr.at 2 rfl
  go_wp2_with fail
  -- pairs
  refine (fPutPairs _ _ _ _ _ hl (by omega)).mono ?_
  rintro e wr3 ⟨Au, cu, rfl, um, hb⟩
  replace b0 := (b0).below hb; replace h := (h).below hb; replace hl := (hl).below hb; replace qr := (qr).below hb; replace x := (x).below hb; replace r := (r).below hb
  have u := um.byt
  clear um
  clear zqr0 zqr1 zqr2
  go_wp2_with fail
  refine (fTakePairs _ _ _ _ _ u (by omega)).mono ?_
  intro e wr4 hpost
  obtain ⟨Av, cv, rfl, vm, hb⟩ := hpost.e (take_putPs hl.bs) (takePe_putPs l) hll
  replace b0 := (b0).below hb; replace h := (h).below hb; replace hl := (hl).below hb; replace qr := (qr).below hb; replace x := (x).below hb; replace r := (r).below hb; replace u := (u).below hb
  have v := vm.prs
  clear vm
  have y8 : ((m * 6 : Nat) : Int) = 6 * (m : Int) := by omega
  go_wp2_with fail
  refine (rPairs _ _ _ _ _ _ _ _ _ v hl).mono ?_
  rintro e wr5 ⟨rfl, hb⟩
  replace b0 := (b0).below hb; replace h := (h).below hb; replace hl := (hl).below hb; replace qr := (qr).below hb; replace x := (x).below hb; replace r := (r).below hb; replace u := (u).below hb; replace v := (v).below hb
  rw [eqP_self]
  go_wp2_with fail
  refine (fWakes _).mono ?_
  rintro e wr6 ⟨rfl, hb⟩
  replace b0 := (b0).below hb; replace h := (h).below hb; replace hl := (hl).below hb; replace qr := (qr).below hb; replace x := (x).below hb; replace r := (r).below hb; replace u := (u).below hb; replace v := (v).below hb
  go_wp2
  go_ret
  exact ⟨rfl, b0.out⟩

set_option maxRecDepth 100000 in
set_option maxHeartbeats 16000000 in
theorem back02 (A : Option Addr) (n c : Nat) (D : List Int) (m0 : Int) (al : Bool) (dp : Int) (wt : Int) (B : Option Addr) (m d : Nat) (l : List (Int × Int)) (W : World)
    (h : Byt W A n c D) (hl : Prs W B m d l) (w0 : 0 ≤ wt) (w1 : wt ≤ 255) (g0 : n ≤ 300) (g1 : m ≤ 60) (M0 : -9223372036854775808 ≤ m0) (M1 : m0 ≤ 9223372036854775807) (no : m0 < 0) (d0 : -9223372036854775808 ≤ dp) (d1 : dp ≤ 9223372036854775807) (nr : 2147483648 ≤ dp) :
    Calls Try.prog 4 #[.slice A n c, .int .i64 m0, .agg #[.bool al, .int .i64 dp, .int .u8 wt], .slice B m d] W fun e w' => e = .returned (.bool true) ∧ Below W.heap.size W w' := by
  have b0 := Bel.refl W
  replace b0 := b0.alloc (.cells #[.bool al, .int .i64 dp, .int .u8 wt] 24)
  replace h := h.alloc (.cells #[.bool al, .int .i64 dp, .int .u8 wt] 24)
  replace hl := hl.alloc (.cells #[.bool al, .int .i64 dp, .int .u8 wt] 24)
  have qr := Blk.newAt (b := W.heap.size) W 24 #[.bool al, .int .i64 dp, .int .u8 wt] rfl
  have zqr0 := qr.at 0 rfl
  have zqr1 := qr.at 1 rfl
  have zqr2 := qr.at 2 rfl
  have cpb := hl.cap; have cpm := hl.mx; have chb := h.cap; have chm := h.mx
  have y0 : decide ((300 : Int) < n) = false := decide_eq_false (by omega)
  have y1 : decide ((60 : Int) < m) = false := decide_eq_false (by omega)
  have hlen := h.len
  have hll := hl.len
  have y2 : decide ((0 : Int) ≤ m0) = false := decide_eq_false (by omega)
  have y4 : decide ((0 : Int) ≤ dp) = true := decide_eq_true (by omega)
  have y5 : decide (dp < 2147483648) = false := decide_eq_false (by omega)
  go_enter Try.func4, Try.ntmps4
  go_wp2_with fail
  refine (fPadNo _ _ _ _ _ M0 M1 (by omega)).mono ?_
  intro e wr1 hpost
  obtain ⟨Ax, cx, rfl, xm, hb⟩ := hpost.e rfl rfl (N := 0) rfl
  replace b0 := (b0).below hb; replace h := (h).below hb; replace hl := (hl).below hb; replace qr := (qr).below hb
  have x := xm.byt
  clear xm
  clear zqr0 zqr1 zqr2
  have zqr0 := qr.at 0 rfl
  have zqr1 := qr.at 1 rfl
  have zqr2 := qr.at 2 rfl
  go_wp2_with fail
  refine (fPutRankNo _ _ _ _ d0 d1 (by omega)).mono ?_
  intro e wr2 hpost
  obtain ⟨Ar, cr, rfl, rm, hb⟩ := hpost.e rfl rfl (N := 0) rfl
  replace b0 := (b0).below hb; replace h := (h).below hb; replace hl := (hl).below hb; replace qr := (qr).below hb; replace x := (x).below hb
  have r := rm.byt
  clear rm
  clear zqr0 zqr1 zqr2
  have zqr0 := qr.at 0 rfl
  have zqr1 := qr.at 1 rfl
  have zqr2 := qr.at 2 rfl
  go_wp2_with fail
  -- pairs
  refine (fPutPairs _ _ _ _ _ hl (by omega)).mono ?_
  rintro e wr3 ⟨Au, cu, rfl, um, hb⟩
  replace b0 := (b0).below hb; replace h := (h).below hb; replace hl := (hl).below hb; replace qr := (qr).below hb; replace x := (x).below hb; replace r := (r).below hb
  have u := um.byt
  clear um
  clear zqr0 zqr1 zqr2
  go_wp2_with fail
  refine (fTakePairs _ _ _ _ _ u (by omega)).mono ?_
  intro e wr4 hpost
  obtain ⟨Av, cv, rfl, vm, hb⟩ := hpost.e (take_putPs hl.bs) (takePe_putPs l) hll
  replace b0 := (b0).below hb; replace h := (h).below hb; replace hl := (hl).below hb; replace qr := (qr).below hb; replace x := (x).below hb; replace r := (r).below hb; replace u := (u).below hb
  have v := vm.prs
  clear vm
  have y8 : ((m * 6 : Nat) : Int) = 6 * (m : Int) := by omega
  go_wp2_with fail
  refine (rPairs _ _ _ _ _ _ _ _ _ v hl).mono ?_
  rintro e wr5 ⟨rfl, hb⟩
  replace b0 := (b0).below hb; replace h := (h).below hb; replace hl := (hl).below hb; replace qr := (qr).below hb; replace x := (x).below hb; replace r := (r).below hb; replace u := (u).below hb; replace v := (v).below hb
  rw [eqP_self]
  go_wp2_with fail
  refine (fWakes _).mono ?_
  rintro e wr6 ⟨rfl, hb⟩
  replace b0 := (b0).below hb; replace h := (h).below hb; replace hl := (hl).below hb; replace qr := (qr).below hb; replace x := (x).below hb; replace r := (r).below hb; replace u := (u).below hb; replace v := (v).below hb
  go_wp2
  go_ret
  exact ⟨rfl, b0.out⟩

set_option maxRecDepth 100000 in
set_option maxHeartbeats 16000000 in
theorem back21 (A : Option Addr) (n c : Nat) (D : List Int) (m0 : Int) (al : Bool) (dp : Int) (wt : Int) (B : Option Addr) (m d : Nat) (l : List (Int × Int)) (W : World)
    (h : Byt W A n c D) (hl : Prs W B m d l) (w0 : 0 ≤ wt) (w1 : wt ≤ 255) (g0 : n ≤ 300) (g1 : m ≤ 60) (M0 : -9223372036854775808 ≤ m0) (M1 : m0 ≤ 9223372036854775807) (no : 255 < m0) (d0 : 0 ≤ dp) (d1 : dp < 2147483648) :
    Calls Try.prog 4 #[.slice A n c, .int .i64 m0, .agg #[.bool al, .int .i64 dp, .int .u8 wt], .slice B m d] W fun e w' => e = .returned (.bool true) ∧ Below W.heap.size W w' := by
  have b0 := Bel.refl W
  replace b0 := b0.alloc (.cells #[.bool al, .int .i64 dp, .int .u8 wt] 24)
  replace h := h.alloc (.cells #[.bool al, .int .i64 dp, .int .u8 wt] 24)
  replace hl := hl.alloc (.cells #[.bool al, .int .i64 dp, .int .u8 wt] 24)
  have qr := Blk.newAt (b := W.heap.size) W 24 #[.bool al, .int .i64 dp, .int .u8 wt] rfl
  have zqr0 := qr.at 0 rfl
  have zqr1 := qr.at 1 rfl
  have zqr2 := qr.at 2 rfl
  have cpb := hl.cap; have cpm := hl.mx; have chb := h.cap; have chm := h.mx
  have y0 : decide ((300 : Int) < n) = false := decide_eq_false (by omega)
  have y1 : decide ((60 : Int) < m) = false := decide_eq_false (by omega)
  have hlen := h.len
  have hll := hl.len
  have y2 : decide ((0 : Int) ≤ m0) = true := decide_eq_true (by omega)
  have y3 : decide (m0 ≤ 255) = false := decide_eq_false (by omega)
  have y4 : decide (0 ≤ dp) = true := decide_eq_true (by omega)
  have y5 : decide (dp < 2147483648) = true := decide_eq_true (by omega)
  go_enter Try.func4, Try.ntmps4
  go_wp2_with fail
  refine (fPadNo _ _ _ _ _ M0 M1 (by omega)).mono ?_
  intro e wr1 hpost
  obtain ⟨Ax, cx, rfl, xm, hb⟩ := hpost.e rfl rfl (N := 0) rfl
  replace b0 := (b0).below hb; replace h := (h).below hb; replace hl := (hl).below hb; replace qr := (qr).below hb
  have x := xm.byt
  clear xm
  clear zqr0 zqr1 zqr2
  have zqr0 := qr.at 0 rfl
  have zqr1 := qr.at 1 rfl
  have zqr2 := qr.at 2 rfl
  go_wp2_with fail
  refine (fPutRank _ _ _ _ (by omega) (by omega) w0 w1).mono ?_
  intro e wr2 hpost
  obtain ⟨Ar, cr, rfl, rm, hb⟩ := hpost.e (rankL_yesI d0 d1) (rankE_yesI d0 d1) (N := 5) (by simp [bigE_len])
  replace b0 := (b0).below hb; replace h := (h).below hb; replace hl := (hl).below hb; replace qr := (qr).below hb; replace x := (x).below hb
  have r := rm.byt
  clear rm
  clear zqr0 zqr1 zqr2
  have zqr0 := qr.at 0 rfl
  have zqr1 := qr.at 1 rfl
  have zqr2 := qr.at 2 rfl
  go_wp2_with (first
    | (at_builtin; refine wpList_copy wr2 rfl (.tmp 114) (.tmp 115) rfl rfl rfl Ar 5 cr _ rfl r (by omega) ?_; intro Ay cy wy ym hb)
    | (at_builtin; refine wpList_app wy rfl (.tmp 116) (.tmp 117) rfl wr2.heap.size Ay 5 cy _ rfl ym A n c D rfl (h.below hb) (by simp [bigE_len]; omega) hb.size ?_; intro Az cz wz zm hb2 _ _; replace hb2 := hb.trans hb2; have z := zm.byt; clear zm ym hb))
  clear zqr0 zqr1 zqr2
  replace b0 := (b0).below hb2; replace h := (h).below hb2; replace hl := (hl).below hb2; replace qr := (qr).below hb2; replace x := (x).below hb2; replace r := (r).below hb2
  refine (fTakeRank _ _ _ _ _ z (by omega)).mono ?_
  intro e wr3 hpost
  obtain ⟨Aq, cq, rfl, qm, hb⟩ := hpost.e (tr_rankI d0 d1).1 (tr_rankI d0 d1).2.1 (tr_rankI d0 d1).2.2.1 (tr_rankI d0 d1).2.2.2.1 (tr_rankI d0 d1).2.2.2.2 hlen
  replace b0 := (b0).below hb; replace h := (h).below hb; replace hl := (hl).below hb; replace qr := (qr).below hb; replace x := (x).below hb; replace r := (r).below hb; replace z := (z).below hb
  have q := qm.byt
  clear qm
  replace b0 := b0.alloc (.cells #[.bool al, .int .i64 dp, .int .u8 wt] 24)
  replace h := h.alloc (.cells #[.bool al, .int .i64 dp, .int .u8 wt] 24)
  replace hl := hl.alloc (.cells #[.bool al, .int .i64 dp, .int .u8 wt] 24)
  replace qr := qr.alloc (.cells #[.bool al, .int .i64 dp, .int .u8 wt] 24)
  replace x := x.alloc (.cells #[.bool al, .int .i64 dp, .int .u8 wt] 24)
  replace r := r.alloc (.cells #[.bool al, .int .i64 dp, .int .u8 wt] 24)
  replace z := z.alloc (.cells #[.bool al, .int .i64 dp, .int .u8 wt] 24)
  replace q := q.alloc (.cells #[.bool al, .int .i64 dp, .int .u8 wt] 24)
  have qs := Blk.newAt (b := wr3.heap.size) wr3 24 #[.bool al, .int .i64 dp, .int .u8 wt] rfl
  have zqr0 := qr.at 0 rfl
  have zqr1 := qr.at 1 rfl
  have zqr2 := qr.at 2 rfl
  have zqs0 := qs.at 0 rfl
  have zqs1 := qs.at 1 rfl
  have zqs2 := qs.at 2 rfl
  go_wp2_with fail
  refine (rOSameE (eqB_self _) _ q h).mono ?_
  rintro e ws ⟨rfl, rfl⟩
  clear r z q qs qr
  clear zqr0 zqr1 zqr2 zqs0 zqs1 zqs2
  go_wp2_with fail
  -- pairs
  refine (fPutPairs _ _ _ _ _ hl (by omega)).mono ?_
  rintro e wr4 ⟨Au, cu, rfl, um, hb⟩
  replace b0 := (b0).below hb; replace h := (h).below hb; replace hl := (hl).below hb; replace x := (x).below hb
  have u := um.byt
  clear um
  go_wp2_with fail
  refine (fTakePairs _ _ _ _ _ u (by omega)).mono ?_
  intro e wr5 hpost
  obtain ⟨Av, cv, rfl, vm, hb⟩ := hpost.e (take_putPs hl.bs) (takePe_putPs l) hll
  replace b0 := (b0).below hb; replace h := (h).below hb; replace hl := (hl).below hb; replace x := (x).below hb; replace u := (u).below hb
  have v := vm.prs
  clear vm
  have y8 : ((m * 6 : Nat) : Int) = 6 * (m : Int) := by omega
  go_wp2_with fail
  refine (rPairs _ _ _ _ _ _ _ _ _ v hl).mono ?_
  rintro e wr6 ⟨rfl, hb⟩
  replace b0 := (b0).below hb; replace h := (h).below hb; replace hl := (hl).below hb; replace x := (x).below hb; replace u := (u).below hb; replace v := (v).below hb
  rw [eqP_self]
  go_wp2_with fail
  refine (fWakes _).mono ?_
  rintro e wr7 ⟨rfl, hb⟩
  replace b0 := (b0).below hb; replace h := (h).below hb; replace hl := (hl).below hb; replace x := (x).below hb; replace u := (u).below hb; replace v := (v).below hb
  go_wp2
  go_ret
  exact ⟨rfl, b0.out⟩

set_option maxRecDepth 100000 in
set_option maxHeartbeats 16000000 in
theorem back20 (A : Option Addr) (n c : Nat) (D : List Int) (m0 : Int) (al : Bool) (dp : Int) (wt : Int) (B : Option Addr) (m d : Nat) (l : List (Int × Int)) (W : World)
    (h : Byt W A n c D) (hl : Prs W B m d l) (w0 : 0 ≤ wt) (w1 : wt ≤ 255) (g0 : n ≤ 300) (g1 : m ≤ 60) (M0 : -9223372036854775808 ≤ m0) (M1 : m0 ≤ 9223372036854775807) (no : 255 < m0) (d0 : -9223372036854775808 ≤ dp) (d1 : dp ≤ 9223372036854775807) (nr : dp < 0) :
    Calls Try.prog 4 #[.slice A n c, .int .i64 m0, .agg #[.bool al, .int .i64 dp, .int .u8 wt], .slice B m d] W fun e w' => e = .returned (.bool true) ∧ Below W.heap.size W w' := by
  have b0 := Bel.refl W
  replace b0 := b0.alloc (.cells #[.bool al, .int .i64 dp, .int .u8 wt] 24)
  replace h := h.alloc (.cells #[.bool al, .int .i64 dp, .int .u8 wt] 24)
  replace hl := hl.alloc (.cells #[.bool al, .int .i64 dp, .int .u8 wt] 24)
  have qr := Blk.newAt (b := W.heap.size) W 24 #[.bool al, .int .i64 dp, .int .u8 wt] rfl
  have zqr0 := qr.at 0 rfl
  have zqr1 := qr.at 1 rfl
  have zqr2 := qr.at 2 rfl
  have cpb := hl.cap; have cpm := hl.mx; have chb := h.cap; have chm := h.mx
  have y0 : decide ((300 : Int) < n) = false := decide_eq_false (by omega)
  have y1 : decide ((60 : Int) < m) = false := decide_eq_false (by omega)
  have hlen := h.len
  have hll := hl.len
  have y2 : decide ((0 : Int) ≤ m0) = true := decide_eq_true (by omega)
  have y3 : decide (m0 ≤ 255) = false := decide_eq_false (by omega)
  have y4 : decide ((0 : Int) ≤ dp) = false := decide_eq_false (by omega)
  go_enter Try.func4, Try.ntmps4
  go_wp2_with fail
  refine (fPadNo _ _ _ _ _ M0 M1 (by omega)).mono ?_
  intro e wr1 hpost
  obtain ⟨Ax, cx, rfl, xm, hb⟩ := hpost.e rfl rfl (N := 0) rfl
  replace b0 := (b0).below hb; replace h := (h).below hb; replace hl := (hl).below hb; replace qr := (qr).below hb
  have x := xm.byt
  clear xm
  clear zqr0 zqr1 zqr2
  have zqr0 := qr.at 0 rfl
  have zqr1 := qr.at 1 rfl
  have zqr2 := qr.at 2 rfl
  go_wp2_with fail
  refine (fPutRankNo _ _ _ _ d0 d1 (by omega)).mono ?_
  intro e wr2 hpost
  obtain ⟨Ar, cr, rfl, rm, hb⟩ := hpost.e rfl rfl (N := 0) rfl
  replace b0 := (b0).below hb; replace h := (h).below hb; replace hl := (hl).below hb; replace qr := (qr).below hb; replace x := (x).below hb
  have r := rm.byt
  clear rm
  clear zqr0 zqr1 zqr2
  have zqr0 := qr.at 0 rfl
  have zqr1 := qr.at 1 rfl
  have zqr2 := qr.at 2 rfl
  go_wp2_with fail
  -- pairs
  refine (fPutPairs _ _ _ _ _ hl (by omega)).mono ?_
  rintro e wr3 ⟨Au, cu, rfl, um, hb⟩
  replace b0 := (b0).below hb; replace h := (h).below hb; replace hl := (hl).below hb; replace qr := (qr).below hb; replace x := (x).below hb; replace r := (r).below hb
  have u := um.byt
  clear um
  clear zqr0 zqr1 zqr2
  go_wp2_with fail
  refine (fTakePairs _ _ _ _ _ u (by omega)).mono ?_
  intro e wr4 hpost
  obtain ⟨Av, cv, rfl, vm, hb⟩ := hpost.e (take_putPs hl.bs) (takePe_putPs l) hll
  replace b0 := (b0).below hb; replace h := (h).below hb; replace hl := (hl).below hb; replace qr := (qr).below hb; replace x := (x).below hb; replace r := (r).below hb; replace u := (u).below hb
  have v := vm.prs
  clear vm
  have y8 : ((m * 6 : Nat) : Int) = 6 * (m : Int) := by omega
  go_wp2_with fail
  refine (rPairs _ _ _ _ _ _ _ _ _ v hl).mono ?_
  rintro e wr5 ⟨rfl, hb⟩
  replace b0 := (b0).below hb; replace h := (h).below hb; replace hl := (hl).below hb; replace qr := (qr).below hb; replace x := (x).below hb; replace r := (r).below hb; replace u := (u).below hb; replace v := (v).below hb
  rw [eqP_self]
  go_wp2_with fail
  refine (fWakes _).mono ?_
  rintro e wr6 ⟨rfl, hb⟩
  replace b0 := (b0).below hb; replace h := (h).below hb; replace hl := (hl).below hb; replace qr := (qr).below hb; replace x := (x).below hb; replace r := (r).below hb; replace u := (u).below hb; replace v := (v).below hb
  go_wp2
  go_ret
  exact ⟨rfl, b0.out⟩

set_option maxRecDepth 100000 in
set_option maxHeartbeats 16000000 in
theorem back22 (A : Option Addr) (n c : Nat) (D : List Int) (m0 : Int) (al : Bool) (dp : Int) (wt : Int) (B : Option Addr) (m d : Nat) (l : List (Int × Int)) (W : World)
    (h : Byt W A n c D) (hl : Prs W B m d l) (w0 : 0 ≤ wt) (w1 : wt ≤ 255) (g0 : n ≤ 300) (g1 : m ≤ 60) (M0 : -9223372036854775808 ≤ m0) (M1 : m0 ≤ 9223372036854775807) (no : 255 < m0) (d0 : -9223372036854775808 ≤ dp) (d1 : dp ≤ 9223372036854775807) (nr : 2147483648 ≤ dp) :
    Calls Try.prog 4 #[.slice A n c, .int .i64 m0, .agg #[.bool al, .int .i64 dp, .int .u8 wt], .slice B m d] W fun e w' => e = .returned (.bool true) ∧ Below W.heap.size W w' := by
  have b0 := Bel.refl W
  replace b0 := b0.alloc (.cells #[.bool al, .int .i64 dp, .int .u8 wt] 24)
  replace h := h.alloc (.cells #[.bool al, .int .i64 dp, .int .u8 wt] 24)
  replace hl := hl.alloc (.cells #[.bool al, .int .i64 dp, .int .u8 wt] 24)
  have qr := Blk.newAt (b := W.heap.size) W 24 #[.bool al, .int .i64 dp, .int .u8 wt] rfl
  have zqr0 := qr.at 0 rfl
  have zqr1 := qr.at 1 rfl
  have zqr2 := qr.at 2 rfl
  have cpb := hl.cap; have cpm := hl.mx; have chb := h.cap; have chm := h.mx
  have y0 : decide ((300 : Int) < n) = false := decide_eq_false (by omega)
  have y1 : decide ((60 : Int) < m) = false := decide_eq_false (by omega)
  have hlen := h.len
  have hll := hl.len
  have y2 : decide ((0 : Int) ≤ m0) = true := decide_eq_true (by omega)
  have y3 : decide (m0 ≤ 255) = false := decide_eq_false (by omega)
  have y4 : decide ((0 : Int) ≤ dp) = true := decide_eq_true (by omega)
  have y5 : decide (dp < 2147483648) = false := decide_eq_false (by omega)
  go_enter Try.func4, Try.ntmps4
  go_wp2_with fail
  refine (fPadNo _ _ _ _ _ M0 M1 (by omega)).mono ?_
  intro e wr1 hpost
  obtain ⟨Ax, cx, rfl, xm, hb⟩ := hpost.e rfl rfl (N := 0) rfl
  replace b0 := (b0).below hb; replace h := (h).below hb; replace hl := (hl).below hb; replace qr := (qr).below hb
  have x := xm.byt
  clear xm
  clear zqr0 zqr1 zqr2
  have zqr0 := qr.at 0 rfl
  have zqr1 := qr.at 1 rfl
  have zqr2 := qr.at 2 rfl
  go_wp2_with fail
  refine (fPutRankNo _ _ _ _ d0 d1 (by omega)).mono ?_
  intro e wr2 hpost
  obtain ⟨Ar, cr, rfl, rm, hb⟩ := hpost.e rfl rfl (N := 0) rfl
  replace b0 := (b0).below hb; replace h := (h).below hb; replace hl := (hl).below hb; replace qr := (qr).below hb; replace x := (x).below hb
  have r := rm.byt
  clear rm
  clear zqr0 zqr1 zqr2
  have zqr0 := qr.at 0 rfl
  have zqr1 := qr.at 1 rfl
  have zqr2 := qr.at 2 rfl
  go_wp2_with fail
  -- pairs
  refine (fPutPairs _ _ _ _ _ hl (by omega)).mono ?_
  rintro e wr3 ⟨Au, cu, rfl, um, hb⟩
  replace b0 := (b0).below hb; replace h := (h).below hb; replace hl := (hl).below hb; replace qr := (qr).below hb; replace x := (x).below hb; replace r := (r).below hb
  have u := um.byt
  clear um
  clear zqr0 zqr1 zqr2
  go_wp2_with fail
  refine (fTakePairs _ _ _ _ _ u (by omega)).mono ?_
  intro e wr4 hpost
  obtain ⟨Av, cv, rfl, vm, hb⟩ := hpost.e (take_putPs hl.bs) (takePe_putPs l) hll
  replace b0 := (b0).below hb; replace h := (h).below hb; replace hl := (hl).below hb; replace qr := (qr).below hb; replace x := (x).below hb; replace r := (r).below hb; replace u := (u).below hb
  have v := vm.prs
  clear vm
  have y8 : ((m * 6 : Nat) : Int) = 6 * (m : Int) := by omega
  go_wp2_with fail
  refine (rPairs _ _ _ _ _ _ _ _ _ v hl).mono ?_
  rintro e wr5 ⟨rfl, hb⟩
  replace b0 := (b0).below hb; replace h := (h).below hb; replace hl := (hl).below hb; replace qr := (qr).below hb; replace x := (x).below hb; replace r := (r).below hb; replace u := (u).below hb; replace v := (v).below hb
  rw [eqP_self]
  go_wp2_with fail
  refine (fWakes _).mono ?_
  rintro e wr6 ⟨rfl, hb⟩
  replace b0 := (b0).below hb; replace h := (h).below hb; replace hl := (hl).below hb; replace qr := (qr).below hb; replace x := (x).below hb; replace r := (r).below hb; replace u := (u).below hb; replace v := (v).below hb
  go_wp2
  go_ret
  exact ⟨rfl, b0.out⟩

theorem wBack {W : World} (A : Option Addr) (n c : Nat) (D : List Int) (h : Byt W A n c D) (m0 : Int) (M0 : -9223372036854775808 ≤ m0) (M1 : m0 ≤ 9223372036854775807) (al : Bool) (dp wt : Int) (bd : -9223372036854775808 ≤ dp ∧ dp ≤ 9223372036854775807) (bw : 0 ≤ wt ∧ wt ≤ 255)
    (B : Option Addr) (m d : Nat) (l : List (Int × Int)) (hl : Prs W B m d l) :
    Calls Try.prog 4 #[.slice A n c, .int .i64 m0, .agg #[.bool al, .int .i64 dp, .int .u8 wt], .slice B m d] W fun e w' => e = .returned (.bool true) ∧ Below W.heap.size W w' := by
  obtain ⟨d0, d1⟩ := bd
  obtain ⟨w0, w1⟩ := bw
  by_cases g0 : 300 < n
  · exact backBig1 A n c D m0 al dp wt B m d l W h hl w0 w1 g0
  by_cases g1 : 60 < m
  · exact backBig2 A n c D m0 al dp wt B m d l W h hl w0 w1 (by omega) g1
  rcases Int.lt_or_le m0 0 with no | no
  · rcases Int.lt_or_le dp 0 with nr | nr
    · exact back00 A n c D m0 al dp wt B m d l W h hl w0 w1 (by omega) (by omega) M0 M1 no d0 d1 nr
    by_cases ns : dp < 2147483648
    · exact back01 A n c D m0 al dp wt B m d l W h hl w0 w1 (by omega) (by omega) M0 M1 no nr ns
    · exact back02 A n c D m0 al dp wt B m d l W h hl w0 w1 (by omega) (by omega) M0 M1 no d0 d1 (by omega)
  by_cases np : m0 ≤ 255
  · obtain ⟨j, rfl⟩ := Int.eq_ofNat_of_zero_le no
    rcases Int.lt_or_le dp 0 with nr | nr
    · exact back10 A n c D j al dp wt B m d l W h hl w0 w1 (by omega) (by omega) (by omega) d0 d1 nr
    by_cases ns : dp < 2147483648
    · exact back11 A n c D j al dp wt B m d l W h hl w0 w1 (by omega) (by omega) (by omega) nr ns
    · exact back12 A n c D j al dp wt B m d l W h hl w0 w1 (by omega) (by omega) (by omega) d0 d1 (by omega)
  · replace no : 255 < m0 := by omega
    rcases Int.lt_or_le dp 0 with nr | nr
    · exact back20 A n c D m0 al dp wt B m d l W h hl w0 w1 (by omega) (by omega) M0 M1 no d0 d1 nr
    by_cases ns : dp < 2147483648
    · exact back21 A n c D m0 al dp wt B m d l W h hl w0 w1 (by omega) (by omega) M0 M1 no nr ns
    · exact back22 A n c D m0 al dp wt B m d l W h hl w0 w1 (by omega) (by omega) M0 M1 no d0 d1 (by omega)
end Go.Proofs.Ytlomaoabofpegaa
