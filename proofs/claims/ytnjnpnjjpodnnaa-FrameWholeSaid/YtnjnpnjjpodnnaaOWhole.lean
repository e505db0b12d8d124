/- FrameWhole: every payload is a frame, or a fault: the walk. -/
import Derived.Test.YtnjnpnjjpodnnaaOGz
import Derived.Test.YtnjnpnjjpodnnaaOGn
import Derived.Test.YtnjnpnjjpodnnaaOGu
import Derived.Test.YtnjnpnjjpodnnaaOGwk
namespace Go.Proofs.Ytnjnpnjjpodnnaa
open Go.RowKit Go.Shelf
set_option linter.unusedVariables false
set_option linter.unusedSimpArgs false

section
variable {W : World}
set_option maxRecDepth 100000 in
set_option maxHeartbeats 4000000 in
theorem wBig (L k fl st : Int) (hk : 0 ≤ k ∧ k ≤ 255) (hst : -9223372036854775808 ≤ st ∧ st ≤ 9223372036854775807) (hfl : 0 ≤ fl ∧ fl ≤ 255) (A : Option Addr) (n c : Nat) (D : List Int) (h : Byt W A n c D) (g0 : 3000 < n) :
    Calls Try.prog 5 #[.agg #[.int .i64 L, .int .u8 k, .int .u8 fl, .int .i64 st], .slice A n c] W fun e w' => e = .returned (.bool true) ∧ Below W.heap.size W w' := by
  have cn := Nat.le_trans h.cap h.mx
  have b0 := (Bel.refl W).alloc (.cells #[.int .i64 L, .int .u8 k, .int .u8 fl, .int .i64 st] 23)
  have qh := Blk.new W 23 #[.int .i64 L, .int .u8 k, .int .u8 fl, .int .i64 st]
  have z : decide ((3000 : Int) < n) = true := decide_eq_true (by omega)
  clear g0 h hk hfl
  go_enter Try.func5, Try.ntmps5
  go_wp2_with (go_at_call 9; (with_reducible refine (fWakes _).mono ?_); rintro e w9 ⟨rfl, hb⟩; replace b0 := b0.below hb)
  go_ret
  exact ⟨rfl, b0.out⟩
set_option maxRecDepth 100000 in
set_option maxHeartbeats 4000000 in
theorem wAll (L k fl st : Int) (hk : 0 ≤ k ∧ k ≤ 255) (hst : -9223372036854775808 ≤ st ∧ st ≤ 9223372036854775807) (hfl : 0 ≤ fl ∧ fl ≤ 255) (A : Option Addr) (n c : Nat) (D : List Int) (h : Byt W A n c D) (g0 : n ≤ 3000) (r1 : Fm) (xc : Int) (hr : parseS k fl st D = (r1, ⟨true, 0, xc⟩)) (hs : sameF r1 Fm0 = true) (hc : xc ≠ 0) :
    Calls Try.prog 5 #[.agg #[.int .i64 L, .int .u8 k, .int .u8 fl, .int .i64 st], .slice A n c] W fun e w' => e = .returned (.bool true) ∧ Below W.heap.size W w' := by
  have cn := Nat.le_trans h.cap h.mx
  have PF := Lib.hid fun w h => fParse L k fl st A n c D w h (by omega) hst.1 hst.2 hfl.1 hfl.2
  rw [hr] at PF
  have SX := Lib.hid fun B m d Q qn qc w h1 h2 h3 h4 => rSameF r1 Fm0 B m d Q qn qc none 0 0 none 0 0 w h1 h2 h3 h4
  rw [hs] at SX
  simp only [Fm0] at SX
  have hc2 : (xc != 0) = true := by simpa using hc
  have H0 := Lib.hid h
  have b0 := (Bel.refl W).alloc (.cells #[.int .i64 L, .int .u8 k, .int .u8 fl, .int .i64 st] 23)
  have qh := Blk.new W 23 #[.int .i64 L, .int .u8 k, .int .u8 fl, .int .i64 st]
  have z : decide ((3000 : Int) < n) = false := decide_eq_false (by omega)
  clear g0 h hr hs hc hk hfl
  go_enter Try.func5, Try.ntmps5
  go_wp2_with (first | ((with_reducible refine wpList_id ?_); refine wpList_getG (by rfl) _ _ rfl rfl qh Try.underlying23 rfl (by rfl) ?_))
  refine (PF.out _ (H0.out.below b0.out)).mono ?_
  rintro e wx ⟨B, m, d, Q, qn, qc, rfl, mm, mp, hb⟩
  replace b0 := b0.below hb
  replace qh := qh.below hb
  clear hb
  replace b0 := (b0.alloc (.cells #[.int .u8 (r1).kd, .int .u8 (r1).fl, .int .i64 (r1).st, .slice B m d, .int .i64 (r1).pd, .int .i64 (r1).la, .int .i64 (r1).ic, .int .u32 (r1).cd, .slice Q qn qc, .bool (r1).rk, .bool (r1).al, .int .i64 (r1).dp, .int .u8 (r1).wt] 30)).alloc (.cells #[.bool true, .int .i64 0, .int .u32 xc] 34)
  replace qh := (qh.alloc (.cells #[.int .u8 (r1).kd, .int .u8 (r1).fl, .int .i64 (r1).st, .slice B m d, .int .i64 (r1).pd, .int .i64 (r1).la, .int .i64 (r1).ic, .int .u32 (r1).cd, .slice Q qn qc, .bool (r1).rk, .bool (r1).al, .int .i64 (r1).dp, .int .u8 (r1).wt] 30)).alloc (.cells #[.bool true, .int .i64 0, .int .u32 xc] 34)
  replace mm := (mm.alloc (.cells #[.int .u8 (r1).kd, .int .u8 (r1).fl, .int .i64 (r1).st, .slice B m d, .int .i64 (r1).pd, .int .i64 (r1).la, .int .i64 (r1).ic, .int .u32 (r1).cd, .slice Q qn qc, .bool (r1).rk, .bool (r1).al, .int .i64 (r1).dp, .int .u8 (r1).wt] 30)).alloc (.cells #[.bool true, .int .i64 0, .int .u32 xc] 34)
  replace mp := (mp.alloc (.cells #[.int .u8 (r1).kd, .int .u8 (r1).fl, .int .i64 (r1).st, .slice B m d, .int .i64 (r1).pd, .int .i64 (r1).la, .int .i64 (r1).ic, .int .u32 (r1).cd, .slice Q qn qc, .bool (r1).rk, .bool (r1).al, .int .i64 (r1).dp, .int .u8 (r1).wt] 30)).alloc (.cells #[.bool true, .int .i64 0, .int .u32 xc] 34)
  have qx := (Blk.new wx 30 #[.int .u8 (r1).kd, .int .u8 (r1).fl, .int .i64 (r1).st, .slice B m d, .int .i64 (r1).pd, .int .i64 (r1).la, .int .i64 (r1).ic, .int .u32 (r1).cd, .slice Q qn qc, .bool (r1).rk, .bool (r1).al, .int .i64 (r1).dp, .int .u8 (r1).wt]).alloc (.cells #[.bool true, .int .i64 0, .int .u32 xc] 34)
  have ux := Blk.newAt (b := wx.heap.size + 1) (wx.alloc (.cells #[.int .u8 (r1).kd, .int .u8 (r1).fl, .int .i64 (r1).st, .slice B m d, .int .i64 (r1).pd, .int .i64 (r1).la, .int .i64 (r1).ic, .int .u32 (r1).cd, .slice Q qn qc, .bool (r1).rk, .bool (r1).al, .int .i64 (r1).dp, .int .u8 (r1).wt] 30)) 34 #[.bool true, .int .i64 0, .int .u32 xc] (by simp)
  have zux0 := ux.at 0 rfl
  have zux1 := ux.at 1 rfl
  have zux2 := ux.at 2 rfl
  go_wp2_with (first | ((with_reducible refine wpList_id ?_); refine wpList_getG (by rfl) _ _ rfl rfl qx Try.underlying30 rfl (by rfl) ?_) | (go_at_call 14; (with_reducible refine (SX.out _ _ _ _ _ _ _ mm.byt mp.prs (Byt.nil _) (Prs.nil _)).mono ?_); rintro e w9 ⟨rfl, hb⟩; replace b0 := b0.below hb; replace qh := qh.below hb; replace mm := mm.below hb; replace mp := mp.below hb; replace qx := qx.below hb; replace ux := ux.below hb; clear hb) | (go_at_call 9; (with_reducible refine (fWakes _).mono ?_); rintro e w9 ⟨rfl, hb⟩; replace b0 := b0.below hb))
  go_ret
  exact ⟨rfl, b0.out⟩
set_option maxRecDepth 100000 in
set_option maxHeartbeats 4000000 in
theorem wPart2 (L k fl st : Int) (hk : 0 ≤ k ∧ k ≤ 255) (hst : -9223372036854775808 ≤ st ∧ st ≤ 9223372036854775807) (hfl : 0 ≤ fl ∧ fl ≤ 255) (A : Option Addr) (n c : Nat) (D : List Int) (h : Byt W A n c D) (g0 : n ≤ 3000) (r1 : Fm) (xc : Int) (hr : parseS k fl st D = (r1, ⟨false, st, xc⟩)) (hc : xc ≠ 0) (hk3 : k = 2) (k1 : r1.kd = k) (k2 : r1.st = st) :
    Calls Try.prog 5 #[.agg #[.int .i64 L, .int .u8 k, .int .u8 fl, .int .i64 st], .slice A n c] W fun e w' => e = .returned (.bool true) ∧ Below W.heap.size W w' := by
  subst hk3
  have j2 : (r1.kd == 2) = true := by rw [k1]; rfl
  have cn := Nat.le_trans h.cap h.mx
  have PF := Lib.hid fun w h => fParse L 2 fl st A n c D w h (by omega) hst.1 hst.2 hfl.1 hfl.2
  rw [hr] at PF
  have hc2 : (xc != 0) = true := by simpa using hc
  have k2b : (r1.st == st) = true := by simpa using k2
  have H0 := Lib.hid h
  have b0 := (Bel.refl W).alloc (.cells #[.int .i64 L, .int .u8 2, .int .u8 fl, .int .i64 st] 23)
  have qh := Blk.new W 23 #[.int .i64 L, .int .u8 2, .int .u8 fl, .int .i64 st]
  have z : decide ((3000 : Int) < n) = false := decide_eq_false (by omega)
  clear g0 h hr hc k1 k2 hk hfl
  go_enter Try.func5, Try.ntmps5
  go_wp2_with (first | ((with_reducible refine wpList_id ?_); refine wpList_getG (by rfl) _ _ rfl rfl qh Try.underlying23 rfl (by rfl) ?_))
  refine (PF.out _ (H0.out.below b0.out)).mono ?_
  rintro e wx ⟨B, m, d, Q, qn, qc, rfl, mm, mp, hb⟩
  replace b0 := b0.below hb
  replace qh := qh.below hb
  clear hb
  replace b0 := (b0.alloc (.cells #[.int .u8 (r1).kd, .int .u8 (r1).fl, .int .i64 (r1).st, .slice B m d, .int .i64 (r1).pd, .int .i64 (r1).la, .int .i64 (r1).ic, .int .u32 (r1).cd, .slice Q qn qc, .bool (r1).rk, .bool (r1).al, .int .i64 (r1).dp, .int .u8 (r1).wt] 30)).alloc (.cells #[.bool false, .int .i64 st, .int .u32 xc] 34)
  replace qh := (qh.alloc (.cells #[.int .u8 (r1).kd, .int .u8 (r1).fl, .int .i64 (r1).st, .slice B m d, .int .i64 (r1).pd, .int .i64 (r1).la, .int .i64 (r1).ic, .int .u32 (r1).cd, .slice Q qn qc, .bool (r1).rk, .bool (r1).al, .int .i64 (r1).dp, .int .u8 (r1).wt] 30)).alloc (.cells #[.bool false, .int .i64 st, .int .u32 xc] 34)
  replace mm := (mm.alloc (.cells #[.int .u8 (r1).kd, .int .u8 (r1).fl, .int .i64 (r1).st, .slice B m d, .int .i64 (r1).pd, .int .i64 (r1).la, .int .i64 (r1).ic, .int .u32 (r1).cd, .slice Q qn qc, .bool (r1).rk, .bool (r1).al, .int .i64 (r1).dp, .int .u8 (r1).wt] 30)).alloc (.cells #[.bool false, .int .i64 st, .int .u32 xc] 34)
  replace mp := (mp.alloc (.cells #[.int .u8 (r1).kd, .int .u8 (r1).fl, .int .i64 (r1).st, .slice B m d, .int .i64 (r1).pd, .int .i64 (r1).la, .int .i64 (r1).ic, .int .u32 (r1).cd, .slice Q qn qc, .bool (r1).rk, .bool (r1).al, .int .i64 (r1).dp, .int .u8 (r1).wt] 30)).alloc (.cells #[.bool false, .int .i64 st, .int .u32 xc] 34)
  have qx := (Blk.new wx 30 #[.int .u8 (r1).kd, .int .u8 (r1).fl, .int .i64 (r1).st, .slice B m d, .int .i64 (r1).pd, .int .i64 (r1).la, .int .i64 (r1).ic, .int .u32 (r1).cd, .slice Q qn qc, .bool (r1).rk, .bool (r1).al, .int .i64 (r1).dp, .int .u8 (r1).wt]).alloc (.cells #[.bool false, .int .i64 st, .int .u32 xc] 34)
  have ux := Blk.newAt (b := wx.heap.size + 1) (wx.alloc (.cells #[.int .u8 (r1).kd, .int .u8 (r1).fl, .int .i64 (r1).st, .slice B m d, .int .i64 (r1).pd, .int .i64 (r1).la, .int .i64 (r1).ic, .int .u32 (r1).cd, .slice Q qn qc, .bool (r1).rk, .bool (r1).al, .int .i64 (r1).dp, .int .u8 (r1).wt] 30)) 34 #[.bool false, .int .i64 st, .int .u32 xc] (by simp)
  have zux0 := ux.at 0 rfl
  have zux1 := ux.at 1 rfl
  have zux2 := ux.at 2 rfl
  have zqx0 := qx.at 0 rfl
  have zqx2 := qx.at 2 rfl
  have zqh1 := qh.at 1 rfl
  have zqh3 := qh.at 3 rfl
  go_wp2_with (first | (go_at_call 9; (with_reducible refine (fWakes _).mono ?_); rintro e w9 ⟨rfl, hb⟩; replace b0 := b0.below hb))
  go_ret
  exact ⟨rfl, b0.out⟩
set_option maxRecDepth 100000 in
set_option maxHeartbeats 4000000 in
theorem wPart1 (L k fl st : Int) (hk : 0 ≤ k ∧ k ≤ 255) (hst : -9223372036854775808 ≤ st ∧ st ≤ 9223372036854775807) (hfl : 0 ≤ fl ∧ fl ≤ 255) (A : Option Addr) (n c : Nat) (D : List Int) (h : Byt W A n c D) (g0 : n ≤ 3000) (r1 : Fm) (xc : Int) (hr : parseS k fl st D = (r1, ⟨false, st, xc⟩)) (hc : xc ≠ 0) (hk3 : k = 1) (k1 : r1.kd = k) (k2 : r1.st = st) :
    Calls Try.prog 5 #[.agg #[.int .i64 L, .int .u8 k, .int .u8 fl, .int .i64 st], .slice A n c] W fun e w' => e = .returned (.bool true) ∧ Below W.heap.size W w' := by
  subst hk3
  have j2 : (r1.kd == 2) = false := by rw [k1]; rfl
  have j1 : (r1.kd == 1) = true := by rw [k1]; rfl
  have cn := Nat.le_trans h.cap h.mx
  have PF := Lib.hid fun w h => fParse L 1 fl st A n c D w h (by omega) hst.1 hst.2 hfl.1 hfl.2
  rw [hr] at PF
  have hc2 : (xc != 0) = true := by simpa using hc
  have k2b : (r1.st == st) = true := by simpa using k2
  have H0 := Lib.hid h
  have b0 := (Bel.refl W).alloc (.cells #[.int .i64 L, .int .u8 1, .int .u8 fl, .int .i64 st] 23)
  have qh := Blk.new W 23 #[.int .i64 L, .int .u8 1, .int .u8 fl, .int .i64 st]
  have z : decide ((3000 : Int) < n) = false := decide_eq_false (by omega)
  clear g0 h hr hc k1 k2 hk hfl
  go_enter Try.func5, Try.ntmps5
  go_wp2_with (first | ((with_reducible refine wpList_id ?_); refine wpList_getG (by rfl) _ _ rfl rfl qh Try.underlying23 rfl (by rfl) ?_))
  refine (PF.out _ (H0.out.below b0.out)).mono ?_
  rintro e wx ⟨B, m, d, Q, qn, qc, rfl, mm, mp, hb⟩
  replace b0 := b0.below hb
  replace qh := qh.below hb
  clear hb
  replace b0 := (b0.alloc (.cells #[.int .u8 (r1).kd, .int .u8 (r1).fl, .int .i64 (r1).st, .slice B m d, .int .i64 (r1).pd, .int .i64 (r1).la, .int .i64 (r1).ic, .int .u32 (r1).cd, .slice Q qn qc, .bool (r1).rk, .bool (r1).al, .int .i64 (r1).dp, .int .u8 (r1).wt] 30)).alloc (.cells #[.bool false, .int .i64 st, .int .u32 xc] 34)
  replace qh := (qh.alloc (.cells #[.int .u8 (r1).kd, .int .u8 (r1).fl, .int .i64 (r1).st, .slice B m d, .int .i64 (r1).pd, .int .i64 (r1).la, .int .i64 (r1).ic, .int .u32 (r1).cd, .slice Q qn qc, .bool (r1).rk, .bool (r1).al, .int .i64 (r1).dp, .int .u8 (r1).wt] 30)).alloc (.cells #[.bool false, .int .i64 st, .int .u32 xc] 34)
  replace mm := (mm.alloc (.cells #[.int .u8 (r1).kd, .int .u8 (r1).fl, .int .i64 (r1).st, .slice B m d, .int .i64 (r1).pd, .int .i64 (r1).la, .int .i64 (r1).ic, .int .u32 (r1).cd, .slice Q qn qc, .bool (r1).rk, .bool (r1).al, .int .i64 (r1).dp, .int .u8 (r1).wt] 30)).alloc (.cells #[.bool false, .int .i64 st, .int .u32 xc] 34)
  replace mp := (mp.alloc (.cells #[.int .u8 (r1).kd, .int .u8 (r1).fl, .int .i64 (r1).st, .slice B m d, .int .i64 (r1).pd, .int .i64 (r1).la, .int .i64 (r1).ic, .int .u32 (r1).cd, .slice Q qn qc, .bool (r1).rk, .bool (r1).al, .int .i64 (r1).dp, .int .u8 (r1).wt] 30)).alloc (.cells #[.bool false, .int .i64 st, .int .u32 xc] 34)
  have qx := (Blk.new wx 30 #[.int .u8 (r1).kd, .int .u8 (r1).fl, .int .i64 (r1).st, .slice B m d, .int .i64 (r1).pd, .int .i64 (r1).la, .int .i64 (r1).ic, .int .u32 (r1).cd, .slice Q qn qc, .bool (r1).rk, .bool (r1).al, .int .i64 (r1).dp, .int .u8 (r1).wt]).alloc (.cells #[.bool false, .int .i64 st, .int .u32 xc] 34)
  have ux := Blk.newAt (b := wx.heap.size + 1) (wx.alloc (.cells #[.int .u8 (r1).kd, .int .u8 (r1).fl, .int .i64 (r1).st, .slice B m d, .int .i64 (r1).pd, .int .i64 (r1).la, .int .i64 (r1).ic, .int .u32 (r1).cd, .slice Q qn qc, .bool (r1).rk, .bool (r1).al, .int .i64 (r1).dp, .int .u8 (r1).wt] 30)) 34 #[.bool false, .int .i64 st, .int .u32 xc] (by simp)
  have zux0 := ux.at 0 rfl
  have zux1 := ux.at 1 rfl
  have zux2 := ux.at 2 rfl
  have zqx0 := qx.at 0 rfl
  have zqx2 := qx.at 2 rfl
  have zqh1 := qh.at 1 rfl
  have zqh3 := qh.at 3 rfl
  go_wp2_with (first | (go_at_call 9; (with_reducible refine (fWakes _).mono ?_); rintro e w9 ⟨rfl, hb⟩; replace b0 := b0.below hb))
  go_ret
  exact ⟨rfl, b0.out⟩
set_option maxRecDepth 100000 in
set_option maxHeartbeats 4000000 in
theorem wPart8 (L k fl st : Int) (hk : 0 ≤ k ∧ k ≤ 255) (hst : -9223372036854775808 ≤ st ∧ st ≤ 9223372036854775807) (hfl : 0 ≤ fl ∧ fl ≤ 255) (A : Option Addr) (n c : Nat) (D : List Int) (h : Byt W A n c D) (g0 : n ≤ 3000) (r1 : Fm) (xc : Int) (hr : parseS k fl st D = (r1, ⟨false, st, xc⟩)) (hc : xc ≠ 0) (hk3 : k = 8) (k1 : r1.kd = k) (k2 : r1.st = st) :
    Calls Try.prog 5 #[.agg #[.int .i64 L, .int .u8 k, .int .u8 fl, .int .i64 st], .slice A n c] W fun e w' => e = .returned (.bool true) ∧ Below W.heap.size W w' := by
  subst hk3
  have j2 : (r1.kd == 2) = false := by rw [k1]; rfl
  have j1 : (r1.kd == 1) = false := by rw [k1]; rfl
  have j8 : (r1.kd == 8) = true := by rw [k1]; rfl
  have cn := Nat.le_trans h.cap h.mx
  have PF := Lib.hid fun w h => fParse L 8 fl st A n c D w h (by omega) hst.1 hst.2 hfl.1 hfl.2
  rw [hr] at PF
  have hc2 : (xc != 0) = true := by simpa using hc
  have k2b : (r1.st == st) = true := by simpa using k2
  have H0 := Lib.hid h
  have b0 := (Bel.refl W).alloc (.cells #[.int .i64 L, .int .u8 8, .int .u8 fl, .int .i64 st] 23)
  have qh := Blk.new W 23 #[.int .i64 L, .int .u8 8, .int .u8 fl, .int .i64 st]
  have z : decide ((3000 : Int) < n) = false := decide_eq_false (by omega)
  clear g0 h hr hc k1 k2 hk hfl
  go_enter Try.func5, Try.ntmps5
  go_wp2_with (first | ((with_reducible refine wpList_id ?_); refine wpList_getG (by rfl) _ _ rfl rfl qh Try.underlying23 rfl (by rfl) ?_))
  refine (PF.out _ (H0.out.below b0.out)).mono ?_
  rintro e wx ⟨B, m, d, Q, qn, qc, rfl, mm, mp, hb⟩
  replace b0 := b0.below hb
  replace qh := qh.below hb
  clear hb
  replace b0 := (b0.alloc (.cells #[.int .u8 (r1).kd, .int .u8 (r1).fl, .int .i64 (r1).st, .slice B m d, .int .i64 (r1).pd, .int .i64 (r1).la, .int .i64 (r1).ic, .int .u32 (r1).cd, .slice Q qn qc, .bool (r1).rk, .bool (r1).al, .int .i64 (r1).dp, .int .u8 (r1).wt] 30)).alloc (.cells #[.bool false, .int .i64 st, .int .u32 xc] 34)
  replace qh := (qh.alloc (.cells #[.int .u8 (r1).kd, .int .u8 (r1).fl, .int .i64 (r1).st, .slice B m d, .int .i64 (r1).pd, .int .i64 (r1).la, .int .i64 (r1).ic, .int .u32 (r1).cd, .slice Q qn qc, .bool (r1).rk, .bool (r1).al, .int .i64 (r1).dp, .int .u8 (r1).wt] 30)).alloc (.cells #[.bool false, .int .i64 st, .int .u32 xc] 34)
  replace mm := (mm.alloc (.cells #[.int .u8 (r1).kd, .int .u8 (r1).fl, .int .i64 (r1).st, .slice B m d, .int .i64 (r1).pd, .int .i64 (r1).la, .int .i64 (r1).ic, .int .u32 (r1).cd, .slice Q qn qc, .bool (r1).rk, .bool (r1).al, .int .i64 (r1).dp, .int .u8 (r1).wt] 30)).alloc (.cells #[.bool false, .int .i64 st, .int .u32 xc] 34)
  replace mp := (mp.alloc (.cells #[.int .u8 (r1).kd, .int .u8 (r1).fl, .int .i64 (r1).st, .slice B m d, .int .i64 (r1).pd, .int .i64 (r1).la, .int .i64 (r1).ic, .int .u32 (r1).cd, .slice Q qn qc, .bool (r1).rk, .bool (r1).al, .int .i64 (r1).dp, .int .u8 (r1).wt] 30)).alloc (.cells #[.bool false, .int .i64 st, .int .u32 xc] 34)
  have qx := (Blk.new wx 30 #[.int .u8 (r1).kd, .int .u8 (r1).fl, .int .i64 (r1).st, .slice B m d, .int .i64 (r1).pd, .int .i64 (r1).la, .int .i64 (r1).ic, .int .u32 (r1).cd, .slice Q qn qc, .bool (r1).rk, .bool (r1).al, .int .i64 (r1).dp, .int .u8 (r1).wt]).alloc (.cells #[.bool false, .int .i64 st, .int .u32 xc] 34)
  have ux := Blk.newAt (b := wx.heap.size + 1) (wx.alloc (.cells #[.int .u8 (r1).kd, .int .u8 (r1).fl, .int .i64 (r1).st, .slice B m d, .int .i64 (r1).pd, .int .i64 (r1).la, .int .i64 (r1).ic, .int .u32 (r1).cd, .slice Q qn qc, .bool (r1).rk, .bool (r1).al, .int .i64 (r1).dp, .int .u8 (r1).wt] 30)) 34 #[.bool false, .int .i64 st, .int .u32 xc] (by simp)
  have zux0 := ux.at 0 rfl
  have zux1 := ux.at 1 rfl
  have zux2 := ux.at 2 rfl
  have zqx0 := qx.at 0 rfl
  have zqx2 := qx.at 2 rfl
  have zqh1 := qh.at 1 rfl
  have zqh3 := qh.at 3 rfl
  go_wp2_with (first | (go_at_call 9; (with_reducible refine (fWakes _).mono ?_); rintro e w9 ⟨rfl, hb⟩; replace b0 := b0.below hb))
  go_ret
  exact ⟨rfl, b0.out⟩
set_option maxRecDepth 100000 in
set_option maxHeartbeats 4000000 in
theorem wFine (L k fl st : Int) (hk : 0 ≤ k ∧ k ≤ 255) (hst : -9223372036854775808 ≤ st ∧ st ≤ 9223372036854775807) (hfl : 0 ≤ fl ∧ fl ≤ 255) (A : Option Addr) (n c : Nat) (D : List Int) (h : Byt W A n c D) (g0 : n ≤ 3000) (r1 : Fm) (hr : parseS k fl st D = (r1, ⟨false, 0, 0⟩)) (hf1 : FmOk r1) (hrt : rightS r1 = true) (hl9 : (putS r1).length = D.length + 9) (hb1 : r1.da.length ≤ 16384 ∧ r1.prs.length ≤ 10000) (k1 : r1.kd = k) (k2 : r1.st = st) (k3 : r1.fl = fl) :
    Calls Try.prog 5 #[.agg #[.int .i64 L, .int .u8 k, .int .u8 fl, .int .i64 st], .slice A n c] W fun e w' => e = .returned (.bool true) ∧ Below W.heap.size W w' := by
  have cn := Nat.le_trans h.cap h.mx
  have PF := Lib.hid fun w h => fParse L k fl st A n c D w h (by omega) hst.1 hst.2 hfl.1 hfl.2
  rw [hr] at PF
  have HN := Lib.hid g0
  have PT := Lib.hid fun B m d Q qn qc w h1 h2 h3 h4 => fPutF r1 hf1 B m d Q qn qc w h1 h2 h3 h4
  have RT := Lib.hid fun B m d Q qn qc w h1 h2 h3 h4 => fRight r1 hf1 B m d Q qn qc w h1 h2 h3 h4
  have hpe : putSe r1 = 0 := (putS_yes hrt).2
  rw [hpe] at PT
  rw [hrt] at RT
  have hlen := h.len
  have hlp : (putS r1).length = n + 9 := by rw [hl9]; omega
  have HL := Lib.hid hlp
  have HB := Lib.hid (show r1.da.length ≤ 16384 ∧ r1.prs.length ≤ 10000 from hb1)
  have k1b : (r1.kd == k) = true := by simpa using k1
  have k2b : (r1.st == st) = true := by simpa using k2
  have k3b : (r1.fl == fl) = true := by simpa using k3
  have H0 := Lib.hid h
  have b0 := (Bel.refl W).alloc (.cells #[.int .i64 L, .int .u8 k, .int .u8 fl, .int .i64 st] 23)
  have qh := Blk.new W 23 #[.int .i64 L, .int .u8 k, .int .u8 fl, .int .i64 st]
  have z : decide ((3000 : Int) < n) = false := decide_eq_false (by omega)
  clear g0 h hr hrt hl9 hb1 k1 k2 k3 hk hf1 hlen hlp hpe
  go_enter Try.func5, Try.ntmps5
  go_wp2_with (first | ((with_reducible refine wpList_id ?_); refine wpList_getG (by rfl) _ _ rfl rfl qh Try.underlying23 rfl (by rfl) ?_))
  refine (PF.out _ (H0.out.below b0.out)).mono ?_
  rintro e wx ⟨B, m, d, Q, qn, qc, rfl, mm, mp, hb⟩
  replace b0 := b0.below hb
  replace qh := qh.below hb
  clear hb
  replace b0 := (b0.alloc (.cells #[.int .u8 (r1).kd, .int .u8 (r1).fl, .int .i64 (r1).st, .slice B m d, .int .i64 (r1).pd, .int .i64 (r1).la, .int .i64 (r1).ic, .int .u32 (r1).cd, .slice Q qn qc, .bool (r1).rk, .bool (r1).al, .int .i64 (r1).dp, .int .u8 (r1).wt] 30)).alloc (.cells #[.bool false, .int .i64 0, .int .u32 0] 34)
  replace qh := (qh.alloc (.cells #[.int .u8 (r1).kd, .int .u8 (r1).fl, .int .i64 (r1).st, .slice B m d, .int .i64 (r1).pd, .int .i64 (r1).la, .int .i64 (r1).ic, .int .u32 (r1).cd, .slice Q qn qc, .bool (r1).rk, .bool (r1).al, .int .i64 (r1).dp, .int .u8 (r1).wt] 30)).alloc (.cells #[.bool false, .int .i64 0, .int .u32 0] 34)
  replace mm := (mm.alloc (.cells #[.int .u8 (r1).kd, .int .u8 (r1).fl, .int .i64 (r1).st, .slice B m d, .int .i64 (r1).pd, .int .i64 (r1).la, .int .i64 (r1).ic, .int .u32 (r1).cd, .slice Q qn qc, .bool (r1).rk, .bool (r1).al, .int .i64 (r1).dp, .int .u8 (r1).wt] 30)).alloc (.cells #[.bool false, .int .i64 0, .int .u32 0] 34)
  replace mp := (mp.alloc (.cells #[.int .u8 (r1).kd, .int .u8 (r1).fl, .int .i64 (r1).st, .slice B m d, .int .i64 (r1).pd, .int .i64 (r1).la, .int .i64 (r1).ic, .int .u32 (r1).cd, .slice Q qn qc, .bool (r1).rk, .bool (r1).al, .int .i64 (r1).dp, .int .u8 (r1).wt] 30)).alloc (.cells #[.bool false, .int .i64 0, .int .u32 0] 34)
  have qx := (Blk.new wx 30 #[.int .u8 (r1).kd, .int .u8 (r1).fl, .int .i64 (r1).st, .slice B m d, .int .i64 (r1).pd, .int .i64 (r1).la, .int .i64 (r1).ic, .int .u32 (r1).cd, .slice Q qn qc, .bool (r1).rk, .bool (r1).al, .int .i64 (r1).dp, .int .u8 (r1).wt]).alloc (.cells #[.bool false, .int .i64 0, .int .u32 0] 34)
  have ux := Blk.newAt (b := wx.heap.size + 1) (wx.alloc (.cells #[.int .u8 (r1).kd, .int .u8 (r1).fl, .int .i64 (r1).st, .slice B m d, .int .i64 (r1).pd, .int .i64 (r1).la, .int .i64 (r1).ic, .int .u32 (r1).cd, .slice Q qn qc, .bool (r1).rk, .bool (r1).al, .int .i64 (r1).dp, .int .u8 (r1).wt] 30)) 34 #[.bool false, .int .i64 0, .int .u32 0] (by simp)
  have zux0 := ux.at 0 rfl
  have zux1 := ux.at 1 rfl
  have zux2 := ux.at 2 rfl
  have zqx0 := qx.at 0 rfl
  have zqx1 := qx.at 1 rfl
  have zqx2 := qx.at 2 rfl
  have zqh1 := qh.at 1 rfl
  have zqh2 := qh.at 2 rfl
  have zqh3 := qh.at 3 rfl
  skip
  go_upto_region 9 with (first | ((with_reducible refine wpList_id ?_); refine wpList_getG (by rfl) _ _ rfl rfl qx Try.underlying30 rfl (by rfl) ?_) | (go_at_call 12; (with_reducible refine (PT.out _ _ _ _ _ _ _ mm.byt (by have := HB.out; have := mm.len; omega) mp.prs (by have := HB.out; have := mp.prs.len; omega)).mono ?_); rintro e w9 ⟨A7, n7, c7, rfl, kp, hb⟩; obtain rfl : n7 = n + 9 := by (have := HL.out; have := kp.len; omega)))
  clear zux0 zux1 zux2 zqx0 zqx1 zqx2 zqh1 zqh2 zqh3
  replace b0 := b0.below hb
  replace qh := qh.below hb
  replace mm := mm.below hb
  replace mp := mp.below hb
  replace qx := qx.below hb
  replace ux := ux.below hb
  clear hb
  have hm9 : m ≤ 90000 := by have := HB.out; have := mm.len; omega
  have hq9 : qn ≤ 10000 := by have := HB.out; have := mp.prs.len; omega
  have e9 : IntKind.i64.wrap ((n : Int) + 9) = (n : Int) + 9 := by have := HN.out; rw [IntKind.wrap_i64]; omega
  clear cn
  have zqx0 := qx.at 0 rfl
  have zqx1 := qx.at 1 rfl
  have zqx2 := qx.at 2 rfl
  have zqh1 := qh.at 1 rfl
  have zqh2 := qh.at 2 rfl
  have zqh3 := qh.at 3 rfl
  go_wp2_with (first | ((with_reducible refine wpList_id ?_); refine wpList_getG (by rfl) _ _ rfl rfl qx Try.underlying30 rfl (by rfl) ?_) | (go_at_call 16; (with_reducible refine (RT.out _ _ _ _ _ _ _ mm.byt hm9 mp.prs hq9).mono ?_); rintro e w9 ⟨rfl, hb⟩; replace b0 := b0.below hb; replace qh := qh.below hb; replace mm := mm.below hb; replace mp := mp.below hb; replace qx := qx.below hb; replace ux := ux.below hb; clear hb) | (go_at_call 9; (with_reducible refine (fWakes _).mono ?_); rintro e w9 ⟨rfl, hb⟩; replace b0 := b0.below hb))
  go_ret
  exact ⟨rfl, b0.out⟩
theorem wWhole (L k fl st : Int) (hk : 0 ≤ k ∧ k ≤ 255) (hst : -9223372036854775808 ≤ st ∧ st ≤ 9223372036854775807) (hfl : 0 ≤ fl ∧ fl ≤ 255) (A : Option Addr) (n c : Nat) (D : List Int) (h : Byt W A n c D) :
    Calls Try.prog 5 #[.agg #[.int .i64 L, .int .u8 k, .int .u8 fl, .int .i64 st], .slice A n c] W fun e w' => e = .returned (.bool true) ∧ Below W.heap.size W w' := by
  by_cases g0 : 3000 < n
  · exact wBig L k fl st hk hst hfl A n c D h g0
  have hl := h.len
  rcases parse_three k fl st D with ⟨y, hc, e⟩ | ⟨r, y, hc, e, k1, k2, k3⟩ | ⟨r, e, _, _, h3, h4⟩
  · exact wAll L k fl st hk hst hfl A n c D h (by omega) Fm0 y e (decide_eq_true rfl) hc
  · rcases k3 with k3 | k3 | k3
    · exact wPart2 L k fl st hk hst hfl A n c D h (by omega) r y e hc k3 k1 k2
    · exact wPart1 L k fl st hk hst hfl A n c D h (by omega) r y e hc k3 k1 k2
    · exact wPart8 L k fl st hk hst hfl A n c D h (by omega) r y e hc k3 k1 k2
  · obtain ⟨i1, i2, i3, i4, i5, i6, i7⟩ := parse_right h.bs e rfl
    have hf := (readS_ok h.bs hk hfl hst h4).1
    obtain ⟨_, _, _, _, _, _, _, p8⟩ := put_taken i6 hf
    have hp := readS_prs h4
    exact wFine L k fl st hk hst hfl A n c D h (by omega) r e hf i6 (by rw [p8, i4]) ⟨by omega, by omega⟩ i1 i3 i2
end
end Go.Proofs.Ytnjnpnjjpodnnaa
