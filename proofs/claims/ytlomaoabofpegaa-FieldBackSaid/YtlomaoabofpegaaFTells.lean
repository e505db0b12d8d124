/- FieldTells: what the functions answer is what the document's answer: the walk. -/
import Derived.Test.YtlomaoabofpegaaFw
import Derived.Test.YtlomaoabofpegaaFo
namespace Go.Proofs.Ytlomaoabofpegaa
open Go.RowKit Go.Shelf
set_option linter.unusedVariables false

theorem eqB_self (l : List Int) : eqB l l = true := by simp [eqB]
theorem eqP_self (l : List (Int × Int)) : eqP l l = true := by simp [eqP]

set_option maxRecDepth 100000 in
set_option maxHeartbeats 8000000 in
theorem tellsBig1 (A : Option Addr) (n c : Nat) (D : List Int) (m0 : Int) (al : Bool) (dp wt : Int) (B : Option Addr) (m d : Nat) (l : List (Int × Int)) (C : Option Addr) (k e' : Nat) (l' : List (Int × Int)) (id : Int) (W : World)
    (h : Byt W A n c D) (hl : Prs W B m d l) (hm : Prs W C k e' l') (M0 : -9223372036854775808 ≤ m0) (M1 : m0 ≤ 9223372036854775807) (d0 : -9223372036854775808 ≤ dp) (d1 : dp ≤ 9223372036854775807) (w0 : 0 ≤ wt) (w1 : wt ≤ 255) (g0 : 600 < n) :
    Calls Try.prog 3 #[.slice A n c, .int .i64 m0, .agg #[.bool al, .int .i64 dp, .int .u8 wt], .slice B m d, .slice C k e', .int .u16 id] W fun e w' => e = .returned (.bool true) ∧ Below W.heap.size W w' := by
  have b0 := Bel.refl W
  replace b0 := b0.alloc (.cells #[.bool al, .int .i64 dp, .int .u8 wt] 24)
  have qr := Blk.newAt (b := W.heap.size) W 24 #[.bool al, .int .i64 dp, .int .u8 wt] rfl
  have zqr0 := qr.at 0 rfl
  have zqr1 := qr.at 1 rfl
  have zqr2 := qr.at 2 rfl
  have cpb := hl.cap; have cpm := hl.mx; have cqb := hm.cap; have cqm := hm.mx; have chb := h.cap; have chm := h.mx
  have z0 : decide ((600 : Int) < n) = true := decide_eq_true (by omega)
  go_enter Try.func3, Try.ntmps3
  go_wp2_with (first | (go_at_call 7; refine (fWakes _).mono ?_; rintro e w1 ⟨rfl, hb⟩; replace b0 := b0.below hb))
  go_ret
  exact ⟨rfl, b0.out⟩

set_option maxRecDepth 100000 in
set_option maxHeartbeats 8000000 in
theorem tellsBig2 (A : Option Addr) (n c : Nat) (D : List Int) (m0 : Int) (al : Bool) (dp wt : Int) (B : Option Addr) (m d : Nat) (l : List (Int × Int)) (C : Option Addr) (k e' : Nat) (l' : List (Int × Int)) (id : Int) (W : World)
    (h : Byt W A n c D) (hl : Prs W B m d l) (hm : Prs W C k e' l') (M0 : -9223372036854775808 ≤ m0) (M1 : m0 ≤ 9223372036854775807) (d0 : -9223372036854775808 ≤ dp) (d1 : dp ≤ 9223372036854775807) (w0 : 0 ≤ wt) (w1 : wt ≤ 255) (g0 : n ≤ 600) (g1 : 60 < m) :
    Calls Try.prog 3 #[.slice A n c, .int .i64 m0, .agg #[.bool al, .int .i64 dp, .int .u8 wt], .slice B m d, .slice C k e', .int .u16 id] W fun e w' => e = .returned (.bool true) ∧ Below W.heap.size W w' := by
  have b0 := Bel.refl W
  replace b0 := b0.alloc (.cells #[.bool al, .int .i64 dp, .int .u8 wt] 24)
  have qr := Blk.newAt (b := W.heap.size) W 24 #[.bool al, .int .i64 dp, .int .u8 wt] rfl
  have zqr0 := qr.at 0 rfl
  have zqr1 := qr.at 1 rfl
  have zqr2 := qr.at 2 rfl
  have cpb := hl.cap; have cpm := hl.mx; have cqb := hm.cap; have cqm := hm.mx; have chb := h.cap; have chm := h.mx
  have z0 : decide ((600 : Int) < n) = false := decide_eq_false (by omega)
  have z1 : decide ((60 : Int) < m) = true := decide_eq_true (by omega)
  go_enter Try.func3, Try.ntmps3
  go_wp2_with (first | (go_at_call 7; refine (fWakes _).mono ?_; rintro e w1 ⟨rfl, hb⟩; replace b0 := b0.below hb))
  go_ret
  exact ⟨rfl, b0.out⟩

set_option maxRecDepth 100000 in
set_option maxHeartbeats 8000000 in
theorem tellsBig3 (A : Option Addr) (n c : Nat) (D : List Int) (m0 : Int) (al : Bool) (dp wt : Int) (B : Option Addr) (m d : Nat) (l : List (Int × Int)) (C : Option Addr) (k e' : Nat) (l' : List (Int × Int)) (id : Int) (W : World)
    (h : Byt W A n c D) (hl : Prs W B m d l) (hm : Prs W C k e' l') (M0 : -9223372036854775808 ≤ m0) (M1 : m0 ≤ 9223372036854775807) (d0 : -9223372036854775808 ≤ dp) (d1 : dp ≤ 9223372036854775807) (w0 : 0 ≤ wt) (w1 : wt ≤ 255) (g0 : n ≤ 600) (g1 : m ≤ 60) (g2 : 60 < k) :
    Calls Try.prog 3 #[.slice A n c, .int .i64 m0, .agg #[.bool al, .int .i64 dp, .int .u8 wt], .slice B m d, .slice C k e', .int .u16 id] W fun e w' => e = .returned (.bool true) ∧ Below W.heap.size W w' := by
  have b0 := Bel.refl W
  replace b0 := b0.alloc (.cells #[.bool al, .int .i64 dp, .int .u8 wt] 24)
  have qr := Blk.newAt (b := W.heap.size) W 24 #[.bool al, .int .i64 dp, .int .u8 wt] rfl
  have zqr0 := qr.at 0 rfl
  have zqr1 := qr.at 1 rfl
  have zqr2 := qr.at 2 rfl
  have cpb := hl.cap; have cpm := hl.mx; have cqb := hm.cap; have cqm := hm.mx; have chb := h.cap; have chm := h.mx
  have z0 : decide ((600 : Int) < n) = false := decide_eq_false (by omega)
  have z1 : decide ((60 : Int) < m) = false := decide_eq_false (by omega)
  have z2 : decide ((60 : Int) < k) = true := decide_eq_true (by omega)
  go_enter Try.func3, Try.ntmps3
  go_wp2_with (first | (go_at_call 7; refine (fWakes _).mono ?_; rintro e w1 ⟨rfl, hb⟩; replace b0 := b0.below hb))
  go_ret
  exact ⟨rfl, b0.out⟩

set_option maxRecDepth 100000 in
set_option maxHeartbeats 16000000 in
theorem tellsOk (A : Option Addr) (n c : Nat) (D : List Int) (m0 : Int) (al : Bool) (dp wt : Int) (B : Option Addr) (m d : Nat) (l : List (Int × Int)) (C : Option Addr) (k e' : Nat) (l' : List (Int × Int)) (id : Int) (W : World)
    (h : Byt W A n c D) (hl : Prs W B m d l) (hm : Prs W C k e' l') (M0 : -9223372036854775808 ≤ m0) (M1 : m0 ≤ 9223372036854775807) (d0 : -9223372036854775808 ≤ dp) (d1 : dp ≤ 9223372036854775807) (w0 : 0 ≤ wt) (w1 : wt ≤ 255) (g0 : n ≤ 600) (g1 : m ≤ 60) (g2 : k ≤ 60) :
    Calls Try.prog 3 #[.slice A n c, .int .i64 m0, .agg #[.bool al, .int .i64 dp, .int .u8 wt], .slice B m d, .slice C k e', .int .u16 id] W fun e w' => e = .returned (.bool true) ∧ Below W.heap.size W w' := by
  obtain ⟨uA, huA⟩ : ∃ x, trA D = x := ⟨_, rfl⟩
  obtain ⟨uD, huD⟩ : ∃ x, trD D = x := ⟨_, rfl⟩
  obtain ⟨uW, huW⟩ : ∃ x, trW D = x := ⟨_, rfl⟩
  obtain ⟨pV, pB, hpV⟩ : ∃ x y, lastF l id = (x, y) := ⟨_, _, rfl⟩
  obtain ⟨pe, hpe⟩ : ∃ x, padE m0 = x := ⟨_, rfl⟩
  obtain ⟨ue, hue⟩ : ∃ x, unE D = x := ⟨_, rfl⟩
  obtain ⟨un, hun⟩ : ∃ x, unN D = x := ⟨_, rfl⟩
  obtain ⟨re, hre⟩ : ∃ x, rankE dp = x := ⟨_, rfl⟩
  obtain ⟨te, hte⟩ : ∃ x, trE D = x := ⟨_, rfl⟩
  obtain ⟨ke, hke⟩ : ∃ x, takePe D = x := ⟨_, rfl⟩
  obtain ⟨eb, heb⟩ : ∃ x, eqP l l' = x := ⟨_, rfl⟩
  have b0 := Bel.refl W
  replace b0 := b0.alloc (.cells #[.bool al, .int .i64 dp, .int .u8 wt] 24)
  replace h := h.alloc (.cells #[.bool al, .int .i64 dp, .int .u8 wt] 24)
  replace hl := hl.alloc (.cells #[.bool al, .int .i64 dp, .int .u8 wt] 24)
  replace hm := hm.alloc (.cells #[.bool al, .int .i64 dp, .int .u8 wt] 24)
  have qr := Blk.newAt (b := W.heap.size) W 24 #[.bool al, .int .i64 dp, .int .u8 wt] rfl
  have zqr0 := qr.at 0 rfl
  have zqr1 := qr.at 1 rfl
  have zqr2 := qr.at 2 rfl
  have cpb := hl.cap; have cpm := hl.mx; have cqb := hm.cap; have cqm := hm.mx; have chb := h.cap; have chm := h.mx
  have z0 : decide ((600 : Int) < n) = false := decide_eq_false (by omega)
  have z1 : decide ((60 : Int) < m) = false := decide_eq_false (by omega)
  have z2 : decide ((60 : Int) < k) = false := decide_eq_false (by omega)
  go_enter Try.func3, Try.ntmps3
  go_wp2_with fail
  refine (fPad _ _ _ _ _ _ h (by omega) M0 M1).mono ?_
  rintro e wr1 ⟨Ax, nx, cx, rfl, xm, hb⟩
  replace b0 := (b0).below hb; replace h := (h).below hb; replace hl := (hl).below hb; replace hm := (hm).below hb; replace qr := (qr).below hb
  have x := xm.byt
  clear xm
  rw [hpe]
  clear zqr0 zqr1 zqr2
  go_wp2_with fail
  refine (rPad _ _ _ _ _ _ h (by omega)).mono ?_
  rintro e wr2 ⟨Ay, ny, cy, rfl, ym, hb⟩
  replace b0 := (b0).below hb; replace h := (h).below hb; replace hl := (hl).below hb; replace hm := (hm).below hb; replace qr := (qr).below hb; replace x := (x).below hb
  have y := ym.byt
  clear ym
  rw [hpe]
  go_wp2_with fail
  refine (fUnpad _ _ _ _ _ h (by omega)).mono ?_
  rintro e wr3 ⟨Ap, np, cp, rfl, pm, hb⟩
  replace b0 := (b0).below hb; replace h := (h).below hb; replace hl := (hl).below hb; replace hm := (hm).below hb; replace qr := (qr).below hb; replace x := (x).below hb; replace y := (y).below hb
  have p := pm.byt
  clear pm
  rw [hun, hue]
  go_wp2_with fail
  refine (rUnpad _ _ _ _ _ h (by omega)).mono ?_
  rintro e wr4 ⟨Aq, nq, cq, rfl, qm, hb⟩
  replace b0 := (b0).below hb; replace h := (h).below hb; replace hl := (hl).below hb; replace hm := (hm).below hb; replace qr := (qr).below hb; replace x := (x).below hb; replace y := (y).below hb; replace p := (p).below hb
  have q := qm.byt
  clear qm
  rw [hun, hue]
  go_wp2_with fail
  refine (rOSameE (eqB_self _) _ x y).mono ?_
  rintro e wr5 ⟨rfl, rfl⟩
  go_wp2_with fail
  refine (rOSameE (eqB_self _) _ p q).mono ?_
  rintro e wr6 ⟨rfl, rfl⟩
  clear x y p q
  have zqr0 := qr.at 0 rfl
  have zqr1 := qr.at 1 rfl
  have zqr2 := qr.at 2 rfl
  go_wp2_with fail
  refine (fPutRank _ _ _ _ d0 d1 w0 w1).mono ?_
  rintro e wr7 ⟨Ax, nx, cx, rfl, xm, hb⟩
  replace b0 := (b0).below hb; replace h := (h).below hb; replace hl := (hl).below hb; replace hm := (hm).below hb; replace qr := (qr).below hb
  have x := xm.byt
  clear xm
  rw [hre]
  clear zqr0 zqr1 zqr2
  have zqr0 := qr.at 0 rfl
  have zqr1 := qr.at 1 rfl
  have zqr2 := qr.at 2 rfl
  go_wp2_with fail
  refine (rPutRank _ _ _ _ w0 w1).mono ?_
  rintro e wr8 ⟨Ay, ny, cy, rfl, ym, hb⟩
  replace b0 := (b0).below hb; replace h := (h).below hb; replace hl := (hl).below hb; replace hm := (hm).below hb; replace qr := (qr).below hb; replace x := (x).below hb
  have y := ym.byt
  clear ym
  rw [hre]
  clear zqr0 zqr1 zqr2
  go_wp2_with fail
  refine (fTakeRank _ _ _ _ _ h (by omega)).mono ?_
  rintro e wr9 ⟨Ap, np, cp, rfl, pm, hb⟩
  replace b0 := (b0).below hb; replace h := (h).below hb; replace hl := (hl).below hb; replace hm := (hm).below hb; replace qr := (qr).below hb; replace x := (x).below hb; replace y := (y).below hb
  have p := pm.byt
  clear pm
  rw [huA, huD, huW, hte]
  replace b0 := b0.alloc (.cells #[.bool uA, .int .i64 uD, .int .u8 uW] 24)
  replace h := h.alloc (.cells #[.bool uA, .int .i64 uD, .int .u8 uW] 24)
  replace hl := hl.alloc (.cells #[.bool uA, .int .i64 uD, .int .u8 uW] 24)
  replace hm := hm.alloc (.cells #[.bool uA, .int .i64 uD, .int .u8 uW] 24)
  replace qr := qr.alloc (.cells #[.bool uA, .int .i64 uD, .int .u8 uW] 24)
  replace x := x.alloc (.cells #[.bool uA, .int .i64 uD, .int .u8 uW] 24)
  replace y := y.alloc (.cells #[.bool uA, .int .i64 uD, .int .u8 uW] 24)
  replace p := p.alloc (.cells #[.bool uA, .int .i64 uD, .int .u8 uW] 24)
  have qs := Blk.newAt (b := wr9.heap.size) wr9 24 #[.bool uA, .int .i64 uD, .int .u8 uW] rfl
  go_wp2_with fail
  refine (rTakeRank _ _ _ _ _ h (by omega)).mono ?_
  rintro e wr10 ⟨Aq, nq, cq, rfl, qm, hb⟩
  replace b0 := (b0).below hb; replace h := (h).below hb; replace hl := (hl).below hb; replace hm := (hm).below hb; replace qr := (qr).below hb; replace x := (x).below hb; replace y := (y).below hb; replace p := (p).below hb; replace qs := (qs).below hb
  have q := qm.byt
  clear qm
  rw [huA, huD, huW, hte]
  replace b0 := b0.alloc (.cells #[.bool uA, .int .i64 uD, .int .u8 uW] 24)
  replace h := h.alloc (.cells #[.bool uA, .int .i64 uD, .int .u8 uW] 24)
  replace hl := hl.alloc (.cells #[.bool uA, .int .i64 uD, .int .u8 uW] 24)
  replace hm := hm.alloc (.cells #[.bool uA, .int .i64 uD, .int .u8 uW] 24)
  replace qr := qr.alloc (.cells #[.bool uA, .int .i64 uD, .int .u8 uW] 24)
  replace x := x.alloc (.cells #[.bool uA, .int .i64 uD, .int .u8 uW] 24)
  replace y := y.alloc (.cells #[.bool uA, .int .i64 uD, .int .u8 uW] 24)
  replace p := p.alloc (.cells #[.bool uA, .int .i64 uD, .int .u8 uW] 24)
  replace qs := qs.alloc (.cells #[.bool uA, .int .i64 uD, .int .u8 uW] 24)
  replace q := q.alloc (.cells #[.bool uA, .int .i64 uD, .int .u8 uW] 24)
  have qt := Blk.newAt (b := wr10.heap.size) wr10 24 #[.bool uA, .int .i64 uD, .int .u8 uW] rfl
  have zqs0 := qs.at 0 rfl
  have zqs1 := qs.at 1 rfl
  have zqs2 := qs.at 2 rfl
  have zqt0 := qt.at 0 rfl
  have zqt1 := qt.at 1 rfl
  have zqt2 := qt.at 2 rfl
  go_wp2_with fail
  refine (rOSameE (eqB_self _) _ x y).mono ?_
  rintro e wr11 ⟨rfl, rfl⟩
  clear zqs0 zqs1 zqs2 zqt0 zqt1 zqt2
  have zqs0 := qs.at 0 rfl
  have zqs1 := qs.at 1 rfl
  have zqs2 := qs.at 2 rfl
  have zqt0 := qt.at 0 rfl
  have zqt1 := qt.at 1 rfl
  have zqt2 := qt.at 2 rfl
  go_wp2_with fail
  refine (rOSameE (eqB_self _) _ p q).mono ?_
  rintro e wr12 ⟨rfl, rfl⟩
  clear x y p q qs qt qr
  clear zqs0 zqs1 zqs2 zqt0 zqt1 zqt2
  go_wp2_with fail
  refine (fTakePairs _ _ _ _ _ h (by omega)).mono ?_
  rintro e wr13 ⟨Ax, nx, cx, rfl, xm, hb⟩
  replace b0 := (b0).below hb; replace h := (h).below hb; replace hl := (hl).below hb; replace hm := (hm).below hb
  have x := xm.prs
  clear xm
  rw [hke]
  go_wp2_with fail
  refine (rTakePairs _ _ _ _ _ h (by omega)).mono ?_
  rintro e wr14 ⟨Ay, ny, cy, rfl, ym, hb⟩
  replace b0 := (b0).below hb; replace h := (h).below hb; replace hl := (hl).below hb; replace hm := (hm).below hb; replace x := (x).below hb
  have y := ym.prs
  clear ym
  rw [hke]
  go_wp2_with fail
  refine (fLastE hpV _ hl).mono ?_
  rintro e wr15 ⟨rfl, hb⟩
  replace b0 := (b0).below hb; replace h := (h).below hb; replace hl := (hl).below hb; replace hm := (hm).below hb; replace x := (x).below hb; replace y := (y).below hb
  go_wp2_with fail
  refine (rLast _ _ _ _ id _ hl).mono ?_
  rintro e wr16 ⟨rfl, hb⟩
  replace b0 := (b0).below hb; replace h := (h).below hb; replace hl := (hl).below hb; replace hm := (hm).below hb; replace x := (x).below hb; replace y := (y).below hb
  rw [hpV]
  go_wp2_with fail
  refine (fPutPairs _ _ _ _ _ hl (by omega)).mono ?_
  rintro e wr17 ⟨Ap, cp, rfl, pm, hb⟩
  replace b0 := (b0).below hb; replace h := (h).below hb; replace hl := (hl).below hb; replace hm := (hm).below hb; replace x := (x).below hb; replace y := (y).below hb
  have p := pm.byt
  clear pm
  go_wp2_with fail
  refine (rPutPairs _ _ _ _ _ hl (by omega)).mono ?_
  rintro e wr18 ⟨Aq, cq, rfl, qm, hb⟩
  replace b0 := (b0).below hb; replace h := (h).below hb; replace hl := (hl).below hb; replace hm := (hm).below hb; replace x := (x).below hb; replace y := (y).below hb; replace p := (p).below hb
  have q := qm.byt
  clear qm
  go_wp2_with fail
  refine (rOSameE (eqB_self _) _ p q).mono ?_
  rintro e wr19 ⟨rfl, rfl⟩
  go_wp2_with fail
  refine (rPairs _ _ _ _ _ _ _ _ _ x y).mono ?_
  rintro e wr20 ⟨rfl, hb⟩
  replace b0 := (b0).below hb; replace h := (h).below hb; replace hl := (hl).below hb; replace hm := (hm).below hb; replace x := (x).below hb; replace y := (y).below hb; replace p := (p).below hb; replace q := (q).below hb
  rw [eqP_self]
  clear x y p q
  go_wp2_with fail
  refine (fPairsE heb _ hl hm).mono ?_
  rintro e wr21 ⟨rfl, hb⟩
  replace b0 := (b0).below hb; replace h := (h).below hb; replace hl := (hl).below hb; replace hm := (hm).below hb
  go_wp2_with fail
  refine (rPairs _ _ _ _ _ _ _ _ _ hl hm).mono ?_
  rintro e wr22 ⟨rfl, hb⟩
  replace b0 := (b0).below hb; replace h := (h).below hb; replace hl := (hl).below hb; replace hm := (hm).below hb
  rw [heb]
  go_wp2_with fail
  refine (fWakes _).mono ?_
  rintro e wr23 ⟨rfl, hb⟩
  replace b0 := (b0).below hb; replace h := (h).below hb; replace hl := (hl).below hb; replace hm := (hm).below hb
  go_wp2
  go_ret
  exact ⟨rfl, b0.out⟩

theorem wTells {W : World} (A : Option Addr) (n c : Nat) (D : List Int) (h : Byt W A n c D) (m0 : Int) (M0 : -9223372036854775808 ≤ m0) (M1 : m0 ≤ 9223372036854775807) (al : Bool) (dp wt : Int) (bd : -9223372036854775808 ≤ dp ∧ dp ≤ 9223372036854775807) (bw : 0 ≤ wt ∧ wt ≤ 255)
    (B : Option Addr) (m d : Nat) (l : List (Int × Int)) (hl : Prs W B m d l) (C : Option Addr) (k e' : Nat) (l' : List (Int × Int)) (hm : Prs W C k e' l') (id : Int) :
    Calls Try.prog 3 #[.slice A n c, .int .i64 m0, .agg #[.bool al, .int .i64 dp, .int .u8 wt], .slice B m d, .slice C k e', .int .u16 id] W fun e w' => e = .returned (.bool true) ∧ Below W.heap.size W w' := by
  obtain ⟨d0, d1⟩ := bd
  obtain ⟨w0, w1⟩ := bw
  by_cases g0 : 600 < n
  · exact tellsBig1 A n c D m0 al dp wt B m d l C k e' l' id W h hl hm M0 M1 d0 d1 w0 w1 g0
  by_cases g1 : 60 < m
  · exact tellsBig2 A n c D m0 al dp wt B m d l C k e' l' id W h hl hm M0 M1 d0 d1 w0 w1 (by omega) g1
  by_cases g2 : 60 < k
  · exact tellsBig3 A n c D m0 al dp wt B m d l C k e' l' id W h hl hm M0 M1 d0 d1 w0 w1 (by omega) (by omega) g2
  · exact tellsOk A n c D m0 al dp wt B m d l C k e' l' id W h hl hm M0 M1 d0 d1 w0 w1 (by omega) (by omega) (by omega)
end Go.Proofs.Ytlomaoabofpegaa
