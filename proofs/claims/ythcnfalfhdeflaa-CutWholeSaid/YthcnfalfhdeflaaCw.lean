/- CutWhole: all bytes stand in frames and in what is left: the walk. -/
import Derived.Test.YthcnfalfhdeflaaCm
import Derived.Test.YthcnfalfhdeflaaCt
import Derived.Test.YthcnfalfhdeflaaOir
import Derived.Deep.MidRow
import Derived.StillTailTactics
import Derived.Deep.QuietTactic
import Derived.BigQuiet
namespace Go.Proofs.Ythcnfalfhdeflaa
open Go.RowKit Go.Shelf
set_option linter.unusedVariables false
set_option linter.unusedSimpArgs false

theorem feed24 {l ch : List Int} {ps : List Pc} {r : List Int} {b : Bool} (h : cutC (l ++ ch) = (ps, r, b)) : feedC 24 l ch = ⟨24, r, ps, b, if b then 6 else 0⟩ := by
  unfold feedC
  rw [preK_done (.inr rfl)]
  simp [h]
theorem draws_belN {B : Nat} {w w' : World} (h : Below B w w') (n : Nat) : Below B w (w'.drewN n) := h.trans ⟨rfl, rfl, rfl, Nat.le_refl _, fun _ _ => rfl⟩
theorem eqB_self (l : List Int) : eqB l l = true := by simp [eqB]
/-- A head that is put. -/
theorem put_head {b : List Int} (h : Bs b) (h9 : 9 ≤ b.length) (w : World) : Calls Try.prog 12 #[.agg #[.int .i64 (hL b), .int .u8 (hK b), .int .u8 (hF b), .int .i64 (hS b)]] w fun e W' => ∃ A c, e = .returned (.tuple #[.slice A 9 c, .int .i64 0]) ∧ Mine w.heap.size W' A 9 c ((b.take 9).set 5 (b[5]?.getD 0 % 128)) ∧ Below w.heap.size w W' := by
  have hp := head_put h h9
  have ok := pcOf_ok h
  have o1 : 0 ≤ hL b ∧ hL b < 16777216 := ok.L
  have o2 : 0 ≤ hK b ∧ hK b ≤ 255 := ok.k
  have o3 : 0 ≤ hF b ∧ hF b ≤ 255 := ok.f
  have o4 : 0 ≤ hS b ∧ hS b < 2147483648 := ok.s
  refine (rHPut (hL b) (hK b) (hF b) (hS b) w (by omega) (by omega) (by omega) (by omega) o2 o3).mono ?_
  rintro e W' ⟨⟨A, k, c, rfl, hm⟩, hb⟩
  rw [hp.2] at hm
  have hl := hm.len
  rw [List.length_set, List.length_take] at hl
  obtain rfl : k = 9 := by omega
  refine ⟨A, c, ?_, hm, hb⟩
  simp only [putHe, hp.1, if_true]
set_option maxRecDepth 100000 in
set_option maxHeartbeats 1600000 in
theorem whole1 (p : Int) (p0 : -9223372036854775808 ≤ p) (p1 : p ≤ 9223372036854775807) (A : Option Addr) (n c : Nat) (l : List Int) (B : Option Addr) (m d : Nat) (ch : List Int) (W : World) (h : Byt W A n c l) (hc : Byt W B m d ch) (g0 : 600 < n) :
    Calls Try.prog 4 #[.agg #[.int .i64 p, .slice A n c], .slice B m d] W fun e w' => e = .returned (.bool true) ∧ Below W.heap.size W w' := by
  have b0 := (Bel.refl W).alloc (.cells #[.int .i64 p, .slice A n c] 24)
  have q0 := Blk.new W 24 #[.int .i64 p, .slice A n c]
  have q0_0 := q0.at 0 rfl
  have q0_1 := q0.at 1 rfl
  have HY := Lib.hid h
  have HC := Lib.hid hc
  have GR := Lib.hid fun w => fGreat A n c w
  rw [show decide ((600 : Int) < n) = true from decide_eq_true (by omega)] at GR
  clear h hc
  go_enter Try.func4, Try.ntmps4
  go_wp2_with (first | (go_at_call 6; (with_reducible refine (GR.out _).mono ?_); rintro e w9 ⟨rfl, rfl⟩) | (go_at_call 6; (with_reducible refine (GS.out _).mono ?_); rintro e w9 ⟨rfl, rfl⟩) | ((with_reducible refine wpList_id ?_); refine wpList_getG (by rfl) _ _ rfl rfl q0 Try.underlying24 rfl (by rfl) ?_) | (go_at_call 7; (with_reducible refine (RG.out _ (HY.out.below b0.out)).mono ?_); rintro e w9 ⟨rfl, hb⟩; replace b0 := b0.below hb; replace q0 := q0.below hb; (try clear q0_0); (try clear q0_1); have q0_0 := q0.at 0 rfl; have q0_1 := q0.at 1 rfl; clear hb) | (go_at_call 8; (with_reducible refine (fWakes _).mono ?_); rintro e w9 ⟨rfl, hb⟩; replace b0 := b0.below hb))
  go_ret
  exact ⟨rfl, b0.out⟩
set_option maxRecDepth 100000 in
set_option maxHeartbeats 1600000 in
theorem whole2 (p : Int) (p0 : -9223372036854775808 ≤ p) (p1 : p ≤ 9223372036854775807) (A : Option Addr) (n c : Nat) (l : List Int) (B : Option Addr) (m d : Nat) (ch : List Int) (W : World) (h : Byt W A n c l) (hc : Byt W B m d ch) (g0 : n ≤ 600) (g1 : 600 < m) :
    Calls Try.prog 4 #[.agg #[.int .i64 p, .slice A n c], .slice B m d] W fun e w' => e = .returned (.bool true) ∧ Below W.heap.size W w' := by
  have b0 := (Bel.refl W).alloc (.cells #[.int .i64 p, .slice A n c] 24)
  have q0 := Blk.new W 24 #[.int .i64 p, .slice A n c]
  have q0_0 := q0.at 0 rfl
  have q0_1 := q0.at 1 rfl
  have HY := Lib.hid h
  have HC := Lib.hid hc
  have GR := Lib.hid fun w => fGreat A n c w
  rw [show decide ((600 : Int) < n) = false from decide_eq_false (by omega)] at GR
  have GS := Lib.hid fun w => fGreat B m d w
  rw [show decide ((600 : Int) < m) = true from decide_eq_true (by omega)] at GS
  clear h hc
  go_enter Try.func4, Try.ntmps4
  go_wp2_with (first | (go_at_call 6; (with_reducible refine (GR.out _).mono ?_); rintro e w9 ⟨rfl, rfl⟩) | (go_at_call 6; (with_reducible refine (GS.out _).mono ?_); rintro e w9 ⟨rfl, rfl⟩) | ((with_reducible refine wpList_id ?_); refine wpList_getG (by rfl) _ _ rfl rfl q0 Try.underlying24 rfl (by rfl) ?_) | (go_at_call 7; (with_reducible refine (RG.out _ (HY.out.below b0.out)).mono ?_); rintro e w9 ⟨rfl, hb⟩; replace b0 := b0.below hb; replace q0 := q0.below hb; (try clear q0_0); (try clear q0_1); have q0_0 := q0.at 0 rfl; have q0_1 := q0.at 1 rfl; clear hb) | (go_at_call 8; (with_reducible refine (fWakes _).mono ?_); rintro e w9 ⟨rfl, hb⟩; replace b0 := b0.below hb))
  go_ret
  exact ⟨rfl, b0.out⟩
set_option maxRecDepth 100000 in
set_option maxHeartbeats 1600000 in
theorem whole3 (p : Int) (p0 : -9223372036854775808 ≤ p) (p1 : p ≤ 9223372036854775807) (A : Option Addr) (n c : Nat) (l : List Int) (B : Option Addr) (m d : Nat) (ch : List Int) (W : World) (h : Byt W A n c l) (hc : Byt W B m d ch) (g0 : n ≤ 600) (g1 : m ≤ 600) (hr : ¬RightC p l) :
    Calls Try.prog 4 #[.agg #[.int .i64 p, .slice A n c], .slice B m d] W fun e w' => e = .returned (.bool true) ∧ Below W.heap.size W w' := by
  have b0 := (Bel.refl W).alloc (.cells #[.int .i64 p, .slice A n c] 24)
  have q0 := Blk.new W 24 #[.int .i64 p, .slice A n c]
  have q0_0 := q0.at 0 rfl
  have q0_1 := q0.at 1 rfl
  have HY := Lib.hid h
  have HC := Lib.hid hc
  have GR := Lib.hid fun w => fGreat A n c w
  rw [show decide ((600 : Int) < n) = false from decide_eq_false (by omega)] at GR
  have GS := Lib.hid fun w => fGreat B m d w
  rw [show decide ((600 : Int) < m) = false from decide_eq_false (by omega)] at GS
  have RG := Lib.hid fun w (h : Byt w A n c l) => rRRight p A n c l w h (by omega)
  rw [show rightC p l = false from decide_eq_false hr] at RG
  clear h hc
  go_enter Try.func4, Try.ntmps4
  go_wp2_with (first | (go_at_call 6; (with_reducible refine (GR.out _).mono ?_); rintro e w9 ⟨rfl, rfl⟩) | (go_at_call 6; (with_reducible refine (GS.out _).mono ?_); rintro e w9 ⟨rfl, rfl⟩) | ((with_reducible refine wpList_id ?_); refine wpList_getG (by rfl) _ _ rfl rfl q0 Try.underlying24 rfl (by rfl) ?_) | (go_at_call 7; (with_reducible refine (RG.out _ (HY.out.below b0.out)).mono ?_); rintro e w9 ⟨rfl, hb⟩; replace b0 := b0.below hb; replace q0 := q0.below hb; (try clear q0_0); (try clear q0_1); have q0_0 := q0.at 0 rfl; have q0_1 := q0.at 1 rfl; clear hb) | (go_at_call 8; (with_reducible refine (fWakes _).mono ?_); rintro e w9 ⟨rfl, hb⟩; replace b0 := b0.below hb))
  go_ret
  exact ⟨rfl, b0.out⟩
set_option maxRecDepth 100000 in
set_option maxHeartbeats 1600000 in
theorem whole4 (p : Int) (p0 : -9223372036854775808 ≤ p) (p1 : p ≤ 9223372036854775807) (A : Option Addr) (n c : Nat) (l : List Int) (B : Option Addr) (m d : Nat) (ch : List Int) (W : World) (h : Byt W A n c l) (hc : Byt W B m d ch) (g0 : n ≤ 600) (g1 : m ≤ 600) (hr : RightC p l) (hp : p ≠ 24) :
    Calls Try.prog 4 #[.agg #[.int .i64 p, .slice A n c], .slice B m d] W fun e w' => e = .returned (.bool true) ∧ Below W.heap.size W w' := by
  have b0 := (Bel.refl W).alloc (.cells #[.int .i64 p, .slice A n c] 24)
  have q0 := Blk.new W 24 #[.int .i64 p, .slice A n c]
  have q0_0 := q0.at 0 rfl
  have q0_1 := q0.at 1 rfl
  have HY := Lib.hid h
  have HC := Lib.hid hc
  have GR := Lib.hid fun w => fGreat A n c w
  rw [show decide ((600 : Int) < n) = false from decide_eq_false (by omega)] at GR
  have GS := Lib.hid fun w => fGreat B m d w
  rw [show decide ((600 : Int) < m) = false from decide_eq_false (by omega)] at GS
  have RG := Lib.hid fun w (h : Byt w A n c l) => rRRight p A n c l w h (by omega)
  rw [show rightC p l = true from decide_eq_true hr] at RG
  have hp4 : (p != 24) = true := bne_iff_ne.2 hp
  clear hp
  clear h hc
  go_enter Try.func4, Try.ntmps4
  go_wp2_with (first | (go_at_call 6; (with_reducible refine (GR.out _).mono ?_); rintro e w9 ⟨rfl, rfl⟩) | (go_at_call 6; (with_reducible refine (GS.out _).mono ?_); rintro e w9 ⟨rfl, rfl⟩) | ((with_reducible refine wpList_id ?_); refine wpList_getG (by rfl) _ _ rfl rfl q0 Try.underlying24 rfl (by rfl) ?_) | (go_at_call 7; (with_reducible refine (RG.out _ (HY.out.below b0.out)).mono ?_); rintro e w9 ⟨rfl, hb⟩; replace b0 := b0.below hb; replace q0 := q0.below hb; (try clear q0_0); (try clear q0_1); have q0_0 := q0.at 0 rfl; have q0_1 := q0.at 1 rfl; clear hb) | (go_at_call 8; (with_reducible refine (fWakes _).mono ?_); rintro e w9 ⟨rfl, hb⟩; replace b0 := b0.below hb))
  go_ret
  exact ⟨rfl, b0.out⟩
theorem wrap8 {x : Int} (h0 : 0 ≤ x) (h1 : x ≤ 255) : IntKind.u8.wrap x = x := by
  rw [show IntKind.u8.wrap x = x % 256 from rfl]
  omega
set_option maxRecDepth 100000 in
set_option maxHeartbeats 4000000 in
theorem wholeM (A : Option Addr) (n c : Nat) (l : List Int) (B : Option Addr) (m d : Nat) (ch : List Int) (W : World) (h : Byt W A n c l) (hc : Byt W B m d ch) (g0 : n ≤ 600) (g1 : m ≤ 600) (hr : RightC 24 l) :
    Calls Try.prog 4 #[.agg #[.int .i64 24, .slice A n c], .slice B m d] W fun e w' => e = .returned (.bool true) ∧ Below W.heap.size W w' := by
  have b0 := (Bel.refl W).alloc (.cells #[.int .i64 24, .slice A n c] 24)
  have q0 := Blk.new W 24 #[.int .i64 24, .slice A n c]
  have q0_0 := q0.at 0 rfl
  have q0_1 := q0.at 1 rfl
  have HY := Lib.hid h
  have HC := Lib.hid hc
  have GR := Lib.hid fun w => fGreat A n c w
  rw [show decide ((600 : Int) < n) = false from decide_eq_false (by omega)] at GR
  have GS := Lib.hid fun w => fGreat B m d w
  rw [show decide ((600 : Int) < m) = false from decide_eq_false (by omega)] at GS
  have RG := Lib.hid fun w (h : Byt w A n c l) => rRRight 24 A n c l w h (by omega)
  rw [show rightC 24 l = true from decide_eq_true hr] at RG
  have hl := h.len; have hcl0 := hc.len
  have hba : Bs (l ++ ch) := h.bs.append hc.bs
  rcases hcu : cutC (l ++ ch) with ⟨ps, rr, FW⟩
  have hf24 := feed24 hcu
  generalize hFC : (if FW then (6 : Int) else 0) = FC at hf24
  have F1 := Lib.hid fun w (h : Byt w A n c l) (hc : Byt w B m d ch) => fFeed 24 ⟨by omega, by omega⟩ A n c l B m d ch w h hc (by omega) (by omega) hr
  rw [hf24] at F1
  have cat := cutC_at
  have cfin := cutC_fin _ (l ++ ch) (Nat.le_refl _)
  rw [hcu] at cfin
  have CAT : Hid (∀ k, k < ps.length → GoesB (restN (l ++ ch) k) ∧ ps[k]? = some (pcOf (restN (l ++ ch) k))) := Lib.hid fun k hk => by have := cat k (l ++ ch); rw [hcu] at this; exact this hk
  clear cat
  simp only at cfin
  have CFIN := Lib.hid cfin
  have HFC := Lib.hid hFC
  have hal : (l ++ ch).length = n + m := by rw [List.length_append, hl, hcl0]
  have HN := Lib.hid (And.intro g0 g1)
  clear h hc hr hl hcl0 hcu hf24 cfin hFC g0 g1
  go_enter Try.func4, Try.ntmps4
  go_upto_region 3 with (first | (go_at_call 6; (with_reducible refine (GR.out _).mono ?_); rintro e w9 ⟨rfl, rfl⟩) | (go_at_call 6; (with_reducible refine (GS.out _).mono ?_); rintro e w9 ⟨rfl, rfl⟩) | ((with_reducible refine wpList_id ?_); refine wpList_getG (by rfl) _ _ rfl rfl q0 Try.underlying24 rfl (by rfl) ?_) | (go_at_call 7; (with_reducible refine (RG.out _ (HY.out.below b0.out)).mono ?_); rintro e w9 ⟨rfl, hb⟩; replace b0 := b0.below hb; replace q0 := q0.below hb; (try clear q0_0); (try clear q0_1); have q0_0 := q0.at 0 rfl; have q0_1 := q0.at 1 rfl; clear hb))
  clear GR GS RG
  go_wp2_with ((with_reducible refine wpList_id ?_); refine wpList_getG (by rfl) _ _ rfl rfl q0 Try.underlying24 rfl (by rfl) ?_)
  refine (F1.out _ (HY.out.below b0.out) (HC.out.below b0.out)).mono ?_
  rintro e w1 ⟨A1, n1, c1, B1, m1, d1, es, rfl, mA1, mC1, hps1, hb⟩
  replace b0 := b0.below hb
  replace q0 := q0.below hb
  clear hb F1 q0_0 q0_1
  have q5 := (Blk.new w1 24 #[.int .i64 24, .slice A1 n1 c1]).alloc (.cells #[.bool FW, .int .i64 0, .int .u32 FC] 31)
  have q7 := Blk.newAt (b := w1.heap.size + 1) (w1.alloc (.cells #[.int .i64 24, .slice A1 n1 c1] 24)) 31 #[.bool FW, .int .i64 0, .int .u32 FC] (by simp)
  replace b0 := (b0.alloc (.cells #[.int .i64 24, .slice A1 n1 c1] 24)).alloc (.cells #[.bool FW, .int .i64 0, .int .u32 FC] 31)
  replace q0 := (q0.alloc (.cells #[.int .i64 24, .slice A1 n1 c1] 24)).alloc (.cells #[.bool FW, .int .i64 0, .int .u32 FC] 31)
  replace mA1 := (mA1.alloc (.cells #[.int .i64 24, .slice A1 n1 c1] 24)).alloc (.cells #[.bool FW, .int .i64 0, .int .u32 FC] 31)
  replace mC1 := (mC1.alloc (.cells #[.int .i64 24, .slice A1 n1 c1] 24)).alloc (.cells #[.bool FW, .int .i64 0, .int .u32 FC] 31)
  have q0_1 : (((w1.alloc (.cells #[.int .i64 24, .slice A1 n1 c1] 24)).alloc (.cells #[.bool FW, .int .i64 0, .int .u32 FC] 31)).alloc (.cells #[] 5)).cell? ⟨W.heap.size, 1, none⟩ = some (.slice A n c) := (q0.alloc _).at 1 rfl
  have tok1 : True := trivial
  have hW3 := b0.out.size
  have q5l := q5.lt
  have q7l := q7.lt
  have mC1k := Lib.hid mC1
  have mA1k := Lib.hid mA1
  have q5k := Lib.hid q5
  have q7k := Lib.hid q7
  clear q5l q7l
  go_upto_region 6 with (first | (at_builtin; have _t := tok1; clear tok1 _t; go_must (refine wpList_copy _ rfl (.tmp 45) (.tmp 47) rfl rfl (by simp) A n c l rfl (HY.out.below b0.out) (by have := HN.out; omega) ?_); intro A2 c2 w2 m2 hb2; replace b0 := b0.step hb2; have tok2 : True := trivial) | (at_builtin; have _t := tok2; clear tok2 _t; go_must (refine wpList_app _ rfl (.tmp 48) (.tmp 49) rfl _ A2 n c2 l rfl m2 B m d ch rfl (HC.out.below b0.out) (by rw [← List.length_append, hal]; have := HN.out; omega) hb2.size ?_); intro A4 c4 w4 m4 hb4 hg4 _; have hb34 := hb2.trans hb4; replace q5 := q5k.out.below hb34; replace q7 := q7k.out.below hb34; replace b0 := b0.stepB hb4 hW3; replace mA1 := mA1k.out.below hb34; replace mC1 := mC1k.out.below hb34; clear hb4 hb34 hb2 hg4))
  clear mC1k mA1k q5k q7k hW3 q0 q0_1
  have HNM := Lib.hid HN.out
  have hN1 : n + m ≤ 1200 := by have := HN.out; omega
  generalize hNN : n + m = N at *
  have HNN := Lib.hid hNN
  clear hNN
  have pcs := mC1.pcs
  have hml := pcs.len
  have hpl : ps.length = m1 := by rw [← hps1, List.length_map]; exact hml
  have PCS := Lib.hid pcs
  have HPS := Lib.hid hps1
  have M4 := Lib.hid m4
  have c4b := m4.byt.cap; have c4x := m4.byt.mx
  clear pcs hps1 m4 mC1 hml
  have HPL := Lib.hid hpl
  clear hpl
  have q5w := Lib.hid q5
  have q7w := Lib.hid q7
  have mA1w := Lib.hid mA1
  have b0w := Lib.hid b0
  clear q5 q7 mA1 b0
  go_wp2_with fail
  go_loopw [10, 11] (fun told i wr => ∃ (k t : Nat) (T : Option Addr) (e : Nat), told = .slice T t e ∧ i = .int .i64 k ∧ k ≤ m1 ∧ Hid (restN (l ++ ch) k = (l ++ ch).drop t) ∧ t ≤ N ∧ Mine w4.heap.size wr T t e ((l ++ ch).take t) ∧ Below w4.heap.size w4 wr) (fun _ i _ => m1 - (intOf i).toNat)
  case atStart => exact ⟨0, 0, none, 0, rfl, rfl, Nat.zero_le _, Lib.hid rfl, Nat.zero_le _, Mine.nil _ _, Below.refl _ _⟩
  case round =>
    obtain ⟨k, t, T, e, rfl, rfl, hk, hdr, htn, mT, hbw⟩ := hrel
    by_cases hlt : k < m1
    · obtain ⟨hgo, hpk⟩ := CAT.out k (by rw [HPL.out]; exact hlt)
      rw [hdr.out] at hgo hpk
      obtain ⟨x, hx⟩ : ∃ x, es[k]? = some x := ⟨es[k]'(by rw [PCS.out.len]; exact hlt), List.getElem?_eq_getElem _⟩
      have hxp : x.p = pcOf ((l ++ ch).drop t) := by
        have h1 := hpk
        rw [← HPS.out, List.getElem?_map, hx] at h1
        simpa using h1
      obtain ⟨s1, s2, s3, s4⟩ := told_step hba (by rw [hal]; exact htn) hgo
      rw [hal] at s1
      have h9 := hgo.1
      have g9 := hgo.2.1
      obtain ⟨bb, oo, eB, hbb4, hcell⟩ := PCS.out.cell (by omega)
      have hbb := Nat.lt_of_lt_of_le hbb4 hbw.size
      have cx := fun j v hv => (hbw.cell (p := ⟨bb, oo + k * 5 + j, none⟩) hbb4).trans (hcell k x hx j v hv)
      have yx := (PCS.out.byt x (List.mem_of_getElem? hx)).2
      clear hcell hx hpk hgo
      have PH := Lib.hid fun w => put_head (hba.drop t) h9 w
      have hlo := head_lo (hba.drop t)
      have hhi := fun (x : Int) (hx : ((l ++ ch).drop t)[5]?.getD 0 = x) => head_hi (hba.drop t) hx
      rw [← at_drop] at hlo PH
      have hx5 := hba.get (t + 5)
      generalize hb5 : (l ++ ch)[t + 5]?.getD 0 = x5 at *
      replace hhi := hhi x5 (by rw [← at_drop]; exact hb5)
      have hc5 := (M4.out.byt.below hbw)
      obtain ⟨ba, oa, eA, hba4, hcA⟩ := hc5.cell (by omega)
      have ca5 := hcA (t + 5) (by omega)
      rw [hb5] at ca5
      clear hc5 hcA hb5
      obtain ⟨⟨L, kk, f, s, dl⟩, PA, PC⟩ := x
      simp only at hxp cx yx
      have eL : L = hL ((l ++ ch).drop t) := congrArg Pc.L hxp
      have ek : kk = hK ((l ++ ch).drop t) := congrArg Pc.k hxp
      have ef : f = hF ((l ++ ch).drop t) := congrArg Pc.f hxp
      have es : s = hS ((l ++ ch).drop t) := congrArg Pc.s hxp
      have ed : dl = (pcOf ((l ++ ch).drop t)).d := congrArg Pc.d hxp
      rw [← ed] at s3 s4
      rw [← eL, ← ek, ← ef, ← es] at PH
      rw [← eL] at s1 s2 s3 s4 g9
      have L0 : 0 ≤ L := by rw [eL]; exact hL_pos (hba.drop t)
      obtain ⟨Lk, rfl⟩ : ∃ Lk : Nat, L = Lk := ⟨L.toNat, by omega⟩
      simp only [Int.toNat_natCast] at s1 s2 s3 s4
      have R1 : wr.rangeAt bb (oo + k * 5) [.int .i64 Lk, .int .u8 kk, .int .u8 f, .int .i64 s] := by
        intro j v hv
        have hj : j < 4 := (List.getElem?_eq_some_iff.1 hv).1
        refine cx j v ?_
        rw [← hv]
        have : j = 0 ∨ j = 1 ∨ j = 2 ∨ j = 3 := by omega
        rcases this with rfl | rfl | rfl | rfl <;> rfl
      have cp4 : wr.cell? ⟨bb, oo + k * 5 + 4, none⟩ = some (.slice PA Lk PC) := by have := cx 4 _ rfl; simpa [s4] using this
      have cp0 : wr.cell? ⟨bb, oo + k * 5, none⟩ = some (.int .i64 Lk) := cx 0 _ rfl
      rw [s4] at yx
      clear cx eL ek ef es ed hxp
      have d1 : decide (16384 < (Lk : Int)) = false := decide_eq_false (by omega)
      have w9e : IntKind.i64.wrap ((t : Int) + 9) = (t : Int) + 9 := by rw [IntKind.wrap_i64]; omega
      have w5e : IntKind.i64.wrap ((t : Int) + 5) = (t : Int) + 5 := by rw [IntKind.wrap_i64]; omega
      have d2 : decide ((t : Int) + 9 ≤ (N : Int)) = true := decide_eq_true (by omega)
      have hwk : IntKind.i64.wrap ((k : Int) + 1) = (k : Int) + 1 := by have h1 := Nat.le_trans PCS.out.cap PCS.out.mx; rw [IntKind.wrap_i64]; omega
      have i0 : (0 : Int) ≤ (k : Int) := by omega
      have i1 : (k : Int) < (m1 : Int) := by omega
      have i2 : (0 : Int) ≤ (t : Int) + 5 := by omega
      have i3 : (t : Int) + 5 < (N : Int) := by omega
      subst eB eA
      have Y4 := yx
      have S12 := Lib.hid (And.intro s1 (And.intro s2 (And.intro s3 s4)))
      have HBW := Lib.hid hbw
      have HLT := Lib.hid hlt
      have HTN := Lib.hid htn
      clear yx s1 s2 s3 s4 hbw hlt htn h9 g9 L0
      by_cases hc127 : 127 < x5
      · as_aux_lemma =>
          have d3 : decide (127 < x5) = true := decide_eq_true hc127
          have HC127 := Lib.hid hc127
          clear hc127
          obtain ⟨e1, e2, e3⟩ := hhi HC127.out
          have hu8 : IntKind.u8.wrap (x5 % 128 + 128) = x5 % 128 + 128 := wrap8 (by omega) e3
          have E1 := Lib.hid e1
          clear hlo hhi e1
          go_upto_region 10 with (first | ((with_reducible refine wpList_id ?_); refine wpList_load_mid rfl _ _ rfl bb (oo + k * 5) rfl [.int .i64 Lk, .int .u8 kk, .int .u8 f, .int .i64 s] _ R1 Try.underlying41 rfl (by rfl) ?_) | (go_at_call 12; (with_reducible refine (PH.out _).mono ?_); rintro e wp ⟨Ab, cb, rfl, mB, hb⟩; have hbp := hb; have cp4p := (hb.cell (p := ⟨bb, oo + k * 5 + 4, none⟩) hbb).trans cp4; have cp0p := (hb.cell (p := ⟨bb, oo + k * 5, none⟩) hbb).trans cp0; have ca5p := (hb.cell (p := ⟨ba, oa + (t + 5), none⟩) hba4).trans ca5; clear hb cp4 cp0 ca5 R1))
          clear PH
          go_quiet (fail)
          have hq : Below wp.heap.size wp (wp.drewN nq) := draws_belN (Below.refl _ _) nq
          replace mB := mB.below hq
          replace cp4p := (hq.cell (p := ⟨bb, oo + k * 5 + 4, none⟩) (Nat.lt_of_lt_of_le hbb hbp.size)).trans cp4p
          replace ca5p := (hq.cell (p := ⟨ba, oa + (t + 5), none⟩) (Nat.lt_of_lt_of_le hba4 hbp.size)).trans ca5p
          replace hbp := hbp.trans (hq.mono hbp.size)
          clear hq cp0p
          generalize wp.drewN nq = wq at *
          obtain ⟨gb, rfl, hgb, hgb2⟩ := mB.pos (by decide)
          have cb5 := mB.cellAt (j := 5) (by decide)
          have fb5 := mB.frozenAt 5
          rw [e2] at cb5
          clear hgb2
          go_upto_region 14 with fail
          skip
          have mB2 := mB.stored 5 (y := x5 % 128 + 128) (by omega) e3
          rw [E1.out] at mB2
          have mT2 := (mT.below hbp).far (p := ⟨gb, 5, none⟩) (fun g eg => by have := mT.lt g eg; simp only; omega) (.int .u8 (x5 % 128 + 128))
          have cp4q : (wq.setCell ⟨gb, 5, none⟩ (.int .u8 (x5 % 128 + 128))).cell? ⟨bb, oo + k * 5 + 4, none⟩ = some (.slice PA Lk PC) := (World.cell?_of_block (Below.heap_setCell wq ⟨gb, 5, none⟩ _ bb (by simp only; omega))).trans cp4p
          have bq : Below wr.heap.size wr (wq.setCell ⟨gb, 5, none⟩ (.int .u8 (x5 % 128 + 128))) := hbp.setCell (p := ⟨gb, 5, none⟩) hgb _
          have hbb2 : bb < (wq.setCell ⟨gb, 5, none⟩ (.int .u8 (x5 % 128 + 128))).heap.size := Nat.lt_of_lt_of_le hbb bq.size
          have sz6 : w4.heap.size ≤ (wq.setCell ⟨gb, 5, none⟩ (.int .u8 (x5 % 128 + 128))).heap.size := Nat.le_trans HBW.out.size bq.size
          generalize (wq.setCell ⟨gb, 5, none⟩ (.int .u8 (x5 % 128 + 128))) = wz at *
          have b4 : Below w4.heap.size w4 wz.drew := (HBW.out.trans (bq.mono HBW.out.size)).trans (drew_below _ _)
          replace mB2 := mB2.drew; replace mT2 := mT2.drew
          refine wp_region_noPanic ?_
          refine wp_region_G (fun w' => w'.cell? ⟨bb, oo + k * 5 + 4, none⟩ = some (.slice PA Lk PC)) [] (by kernel_rfl) ?_
          have S0 : wz.drew.cell? ⟨bb, oo + k * 5 + 4, none⟩ = some (.slice PA Lk PC) := cp4q
          refine wpAnyG_take 0 (v := ?_) rfl (by kernel_rfl) (by intro _ _ _ h; cases h) S0 (Or.inl ⟨by rfl, by intro w' hSw; go_simp; try with_reducible rfl⟩) ?_; (try simp only [Act.put, List.getElem_toArray, List.getElem_cons_succ, List.getElem_cons_zero, List.setIfInBounds_toArray, List.set_cons_zero, List.set_cons_succ])
          refine wpAnyG_take 1 (v := ?_) rfl (by kernel_rfl) (by intro _ _ _ h; cases h) S0 (Or.inl ⟨by rfl, by intro w' hSw; go_simp; try with_reducible rfl⟩) ?_; (try simp only [Act.put, List.getElem_toArray, List.getElem_cons_succ, List.getElem_cons_zero, List.setIfInBounds_toArray, List.set_cons_zero, List.set_cons_succ])
          refine wpAnyG_take 3 (v := ?_) rfl (by kernel_rfl) (by intro _ _ _ h; cases h) S0 (Or.inl ⟨by rfl, by intro w' hSw; go_simp; try with_reducible rfl⟩) ?_; (try simp only [Act.put, List.getElem_toArray, List.getElem_cons_succ, List.getElem_cons_zero, List.setIfInBounds_toArray, List.set_cons_zero, List.set_cons_succ])
          refine wpAnyG_take 4 (v := ?_) rfl (by kernel_rfl) (by intro _ _ _ h; cases h) S0 (Or.inl ⟨by rfl, by intro w' hSw; go_simp; try with_reducible rfl⟩) ?_; (try simp only [Act.put, List.getElem_toArray, List.getElem_cons_succ, List.getElem_cons_zero, List.setIfInBounds_toArray, List.set_cons_zero, List.set_cons_succ])
          refine wpAnyG_take 5 (v := ?_) rfl (by kernel_rfl) (by intro _ _ _ h; cases h) S0 (Or.inl ⟨by rfl, by intro w' hSw; go_simp; try with_reducible rfl⟩) ?_; (try simp only [Act.put, List.getElem_toArray, List.getElem_cons_succ, List.getElem_cons_zero, List.setIfInBounds_toArray, List.set_cons_zero, List.set_cons_succ])
          refine wpAnyG_take 6 (v := ?_) rfl (by kernel_rfl) (by intro _ _ _ h; cases h) S0 (Or.inl ⟨by rfl, by intro w' hSw; go_simp; try with_reducible rfl⟩) ?_; (try simp only [Act.put, List.getElem_toArray, List.getElem_cons_succ, List.getElem_cons_zero, List.setIfInBounds_toArray, List.set_cons_zero, List.set_cons_succ])
          refine wpAnyG_take 7 (v := ?_) rfl (by kernel_rfl) (by intro _ _ _ h; cases h) S0 (Or.inl ⟨by rfl, by intro w' hSw; go_simp; try with_reducible rfl⟩) ?_; (try simp only [Act.put, List.getElem_toArray, List.getElem_cons_succ, List.getElem_cons_zero, List.setIfInBounds_toArray, List.set_cons_zero, List.set_cons_succ])
          refine wpAnyG_one 2 (by kernel_rfl) rfl (fun K hK => ?_)
          refine step_app _ rfl (.tmp 113) (.tmp 114) rfl w4.heap.size T t e ((l ++ ch).take t) rfl mT2 (some ⟨gb, 0, none⟩) 9 cb _ rfl mB2.byt (by have := HTN.out; rw [List.length_take, List.length_take]; omega) sz6 ?_
          intro A6 c6 w6 m6 hb6 hd6
          have S1 : w6.cell? ⟨bb, oo + k * 5 + 4, none⟩ = some (.slice PA Lk PC) := ((hb6.cell (p := ⟨bb, oo + k * 5 + 4, none⟩) hbb4).trans S0)
          (try go_simp)
          refine hK.out _ _ (fun _ => S1) ?_
          clear hK K S0
          (try simp only [Act.put, List.getElem_toArray, List.getElem_cons_succ, List.getElem_cons_zero, List.setIfInBounds_toArray, List.set_cons_zero, List.set_cons_succ])
          refine wpAnyG_one 8 (by kernel_rfl) rfl (fun K hK => ?_)
          refine step_app _ rfl (.tmp 115) (.tmp 120) rfl w4.heap.size A6 (t + 9) c6 _ rfl m6 PA Lk PC dl rfl (Y4.below (b4.trans hb6)) (by have := HTN.out; have := S12.out.1; rw [List.length_append, List.length_take, List.length_take, S12.out.2.2.2]; omega) (Nat.le_trans sz6 hb6.size) ?_
          intro A7 c7 w7 m7 hb7 hd7
          have S2 : w7.cell? ⟨bb, oo + k * 5 + 4, none⟩ = some (.slice PA Lk PC) := ((hb7.cell (p := ⟨bb, oo + k * 5 + 4, none⟩) hbb4).trans S1)
          (try go_simp)
          refine hK.out _ _ (fun _ => S2) ?_
          clear hK K
          (try simp only [Act.put, List.getElem_toArray, List.getElem_cons_succ, List.getElem_cons_zero, List.setIfInBounds_toArray, List.set_cons_zero, List.set_cons_succ])
          refine wpAnyG_take 9 (v := ?_) rfl (by kernel_rfl) (by intro _ _ _ h; cases h) S2 (Or.inl ⟨by rfl, by intro w' hSw; go_simp; try with_reducible rfl⟩) ?_; (try simp only [Act.put, List.getElem_toArray, List.getElem_cons_succ, List.getElem_cons_zero, List.setIfInBounds_toArray, List.set_cons_zero, List.set_cons_succ])
          refine wpAnyG_done (by kernel_rfl) ?_ _
          refine NoPanic.normal ?_
          rw [S12.out.2.2.1] at m7
          go_wp2_with fail
          go_roundw
          case rel => exact ⟨k + 1, t + 9 + Lk, A7, c7, rfl, by simp, by have := HLT.out; omega, Lib.hid (by rw [← S12.out.2.1, ← hdr.out]; rfl), S12.out.1, m7, b4.trans (hb6.trans hb7)⟩
          case measure => have := HLT.out; simp [intOf]; omega
      · as_aux_lemma =>
          have d3 : decide (127 < x5) = false := decide_eq_false hc127
          have HC127 := Lib.hid hc127
          clear hc127
          have e1 := hlo (by have := HC127.out; omega)
          have E1 := Lib.hid e1
          clear hlo hhi e1
          go_upto_region 10 with (first | ((with_reducible refine wpList_id ?_); refine wpList_load_mid rfl _ _ rfl bb (oo + k * 5) rfl [.int .i64 Lk, .int .u8 kk, .int .u8 f, .int .i64 s] _ R1 Try.underlying41 rfl (by rfl) ?_) | (go_at_call 12; (with_reducible refine (PH.out _).mono ?_); rintro e wp ⟨Ab, cb, rfl, mB, hb⟩; have hbp := hb; have cp4p := (hb.cell (p := ⟨bb, oo + k * 5 + 4, none⟩) hbb).trans cp4; have cp0p := (hb.cell (p := ⟨bb, oo + k * 5, none⟩) hbb).trans cp0; have ca5p := (hb.cell (p := ⟨ba, oa + (t + 5), none⟩) hba4).trans ca5; clear hb cp4 cp0 ca5 R1))
          clear PH
          go_quiet (fail)
          have hq : Below wp.heap.size wp (wp.drewN nq) := draws_belN (Below.refl _ _) nq
          replace mB := mB.below hq
          replace cp4p := (hq.cell (p := ⟨bb, oo + k * 5 + 4, none⟩) (Nat.lt_of_lt_of_le hbb hbp.size)).trans cp4p
          replace ca5p := (hq.cell (p := ⟨ba, oa + (t + 5), none⟩) (Nat.lt_of_lt_of_le hba4 hbp.size)).trans ca5p
          replace hbp := hbp.trans (hq.mono hbp.size)
          clear hq cp0p
          generalize wp.drewN nq = wq at *
          obtain ⟨gb, rfl, hgb, hgb2⟩ := mB.pos (by decide)
          have cb5 := mB.cellAt (j := 5) (by decide)
          have fb5 := mB.frozenAt 5
          clear hgb2
          go_upto_region 14 with fail
          skip
          have mB2 := mB
          rw [E1.out] at mB2
          have mT2 := mT.below hbp
          have cp4q := cp4p
          have bq := hbp
          have hbb2 : bb < wq.heap.size := Nat.lt_of_lt_of_le hbb bq.size
          have sz6 : w4.heap.size ≤ wq.heap.size := Nat.le_trans HBW.out.size bq.size
          have b4 : Below w4.heap.size w4 wq.drew := (HBW.out.trans (bq.mono HBW.out.size)).trans (drew_below _ _)
          replace mB2 := mB2.drew; replace mT2 := mT2.drew
          refine wp_region_noPanic ?_
          refine wp_region_G (fun w' => w'.cell? ⟨bb, oo + k * 5 + 4, none⟩ = some (.slice PA Lk PC)) [] (by kernel_rfl) ?_
          have S0 : wq.drew.cell? ⟨bb, oo + k * 5 + 4, none⟩ = some (.slice PA Lk PC) := cp4q
          refine wpAnyG_take 0 (v := ?_) rfl (by kernel_rfl) (by intro _ _ _ h; cases h) S0 (Or.inl ⟨by rfl, by intro w' hSw; go_simp; try with_reducible rfl⟩) ?_; (try simp only [Act.put, List.getElem_toArray, List.getElem_cons_succ, List.getElem_cons_zero, List.setIfInBounds_toArray, List.set_cons_zero, List.set_cons_succ])
          refine wpAnyG_take 1 (v := ?_) rfl (by kernel_rfl) (by intro _ _ _ h; cases h) S0 (Or.inl ⟨by rfl, by intro w' hSw; go_simp; try with_reducible rfl⟩) ?_; (try simp only [Act.put, List.getElem_toArray, List.getElem_cons_succ, List.getElem_cons_zero, List.setIfInBounds_toArray, List.set_cons_zero, List.set_cons_succ])
          refine wpAnyG_take 3 (v := ?_) rfl (by kernel_rfl) (by intro _ _ _ h; cases h) S0 (Or.inl ⟨by rfl, by intro w' hSw; go_simp; try with_reducible rfl⟩) ?_; (try simp only [Act.put, List.getElem_toArray, List.getElem_cons_succ, List.getElem_cons_zero, List.setIfInBounds_toArray, List.set_cons_zero, List.set_cons_succ])
          refine wpAnyG_take 4 (v := ?_) rfl (by kernel_rfl) (by intro _ _ _ h; cases h) S0 (Or.inl ⟨by rfl, by intro w' hSw; go_simp; try with_reducible rfl⟩) ?_; (try simp only [Act.put, List.getElem_toArray, List.getElem_cons_succ, List.getElem_cons_zero, List.setIfInBounds_toArray, List.set_cons_zero, List.set_cons_succ])
          refine wpAnyG_take 5 (v := ?_) rfl (by kernel_rfl) (by intro _ _ _ h; cases h) S0 (Or.inl ⟨by rfl, by intro w' hSw; go_simp; try with_reducible rfl⟩) ?_; (try simp only [Act.put, List.getElem_toArray, List.getElem_cons_succ, List.getElem_cons_zero, List.setIfInBounds_toArray, List.set_cons_zero, List.set_cons_succ])
          refine wpAnyG_take 6 (v := ?_) rfl (by kernel_rfl) (by intro _ _ _ h; cases h) S0 (Or.inl ⟨by rfl, by intro w' hSw; go_simp; try with_reducible rfl⟩) ?_; (try simp only [Act.put, List.getElem_toArray, List.getElem_cons_succ, List.getElem_cons_zero, List.setIfInBounds_toArray, List.set_cons_zero, List.set_cons_succ])
          refine wpAnyG_take 7 (v := ?_) rfl (by kernel_rfl) (by intro _ _ _ h; cases h) S0 (Or.inl ⟨by rfl, by intro w' hSw; go_simp; try with_reducible rfl⟩) ?_; (try simp only [Act.put, List.getElem_toArray, List.getElem_cons_succ, List.getElem_cons_zero, List.setIfInBounds_toArray, List.set_cons_zero, List.set_cons_succ])
          refine wpAnyG_one 2 (by kernel_rfl) rfl (fun K hK => ?_)
          refine step_app _ rfl (.tmp 113) (.tmp 114) rfl w4.heap.size T t e ((l ++ ch).take t) rfl mT2 (some ⟨gb, 0, none⟩) 9 cb _ rfl mB2.byt (by have := HTN.out; rw [List.length_take, List.length_take]; omega) sz6 ?_
          intro A6 c6 w6 m6 hb6 hd6
          have S1 : w6.cell? ⟨bb, oo + k * 5 + 4, none⟩ = some (.slice PA Lk PC) := ((hb6.cell (p := ⟨bb, oo + k * 5 + 4, none⟩) hbb4).trans S0)
          (try go_simp)
          refine hK.out _ _ (fun _ => S1) ?_
          clear hK K S0
          (try simp only [Act.put, List.getElem_toArray, List.getElem_cons_succ, List.getElem_cons_zero, List.setIfInBounds_toArray, List.set_cons_zero, List.set_cons_succ])
          refine wpAnyG_one 8 (by kernel_rfl) rfl (fun K hK => ?_)
          refine step_app _ rfl (.tmp 115) (.tmp 120) rfl w4.heap.size A6 (t + 9) c6 _ rfl m6 PA Lk PC dl rfl (Y4.below (b4.trans hb6)) (by have := HTN.out; have := S12.out.1; rw [List.length_append, List.length_take, List.length_take, S12.out.2.2.2]; omega) (Nat.le_trans sz6 hb6.size) ?_
          intro A7 c7 w7 m7 hb7 hd7
          have S2 : w7.cell? ⟨bb, oo + k * 5 + 4, none⟩ = some (.slice PA Lk PC) := ((hb7.cell (p := ⟨bb, oo + k * 5 + 4, none⟩) hbb4).trans S1)
          (try go_simp)
          refine hK.out _ _ (fun _ => S2) ?_
          clear hK K
          (try simp only [Act.put, List.getElem_toArray, List.getElem_cons_succ, List.getElem_cons_zero, List.setIfInBounds_toArray, List.set_cons_zero, List.set_cons_succ])
          refine wpAnyG_take 9 (v := ?_) rfl (by kernel_rfl) (by intro _ _ _ h; cases h) S2 (Or.inl ⟨by rfl, by intro w' hSw; go_simp; try with_reducible rfl⟩) ?_; (try simp only [Act.put, List.getElem_toArray, List.getElem_cons_succ, List.getElem_cons_zero, List.setIfInBounds_toArray, List.set_cons_zero, List.set_cons_succ])
          refine wpAnyG_done (by kernel_rfl) ?_ _
          refine NoPanic.normal ?_
          rw [S12.out.2.2.1] at m7
          go_wp2_with fail
          go_roundw
          case rel => exact ⟨k + 1, t + 9 + Lk, A7, c7, rfl, by simp, by have := HLT.out; omega, Lib.hid (by rw [← S12.out.2.1, ← hdr.out]; rfl), S12.out.1, m7, b4.trans (hb6.trans hb7)⟩
          case measure => have := HLT.out; simp [intOf]; omega
    · have hkm : k = m1 := by omega
      have hfin : restN (l ++ ch) ps.length = (l ++ ch).drop t := by rw [HPL.out, ← hkm]; exact hdr.out
      obtain ⟨f1, f2, f3, f4⟩ := CFIN.out
      rw [hfin] at f1 f2 f3
      have b0 := b0w.out.below hbw
      have q5 := q5w.out.below hbw
      have q7 := q7w.out.below hbw
      have mA1 := mA1w.out.below hbw
      have yA := M4.out.byt.below hbw
      have yB := yA.cutL htn
      have HTN := Lib.hid htn
      have hbB := hba.drop t
      have hlB : ((l ++ ch).drop t).length = N - t := by rw [List.length_drop, hal]
      have hcl : ∀ w, (Instr.slice 22 (.slice A4 N c4) none (some (.int .i64 (t : Int))) none).run Try.prog w = .ok (.slice (cutA A4 c4 0) t c4) w := fun w => by
        have h1 := run_cut_h w A4 N c4 t (by omega) (by omega)
        rwa [Int.toNat_natCast] at h1
      have hcl2 : ∀ w, (Instr.slice 22 (.slice A4 N c4) (some (.int .i64 (t : Int))) none none).run Try.prog w = .ok (.slice (cutA A4 c4 t) (N - t) (c4 - t)) w := fun w => by
        have h1 := run_cut_l w A4 N c4 t (by omega) (by omega)
        rwa [Int.toNat_natCast] at h1
      have d1 : decide ((N : Int) < (t : Int)) = false := decide_eq_false (by omega)
      have i1 : decide ((k : Int) < (m1 : Int)) = false := decide_eq_false (by omega)
      have tok1 : True := trivial
      have SA := Lib.hid fun w (h : Byt w T t e ((l ++ ch).take t)) (h2 : Byt w (cutA A4 c4 0) t c4 ((l ++ ch).take t)) => rOSame T t e ((l ++ ch).take t) (cutA A4 c4 0) t c4 ((l ++ ch).take t) w h h2
      rw [eqB_self] at SA
      generalize hX : (l ++ ch).drop t = X at *
      have TA := Lib.hid fun w (h : Byt w (cutA A4 c4 t) (N - t) (c4 - t) X) => rHTake (cutA A4 c4 t) (N - t) (c4 - t) X w h (by omega)
      have hLX := hL_bd hbB
      have NW := not_whole f1
      have HF2 := Lib.hid f2
      have HF3 := Lib.hid f3
      have HF4 := Lib.hid f4
      have HNW := Lib.hid NW
      have HLX := Lib.hid hLX
      have HLB := Lib.hid hlB
      have HX := Lib.hid hX
      have HKM := Lib.hid hkm
      clear f1 f2 f3 f4 NW hLX hlB hX hkm hfin htn hbw hk hdr hba hbB
      go_upto_region 19 with (first | (go_at_call 13; have _t := tok1; clear tok1 _t; (with_reducible refine (SA.out _ mT.byt (yA.cutH HTN.out)).mono ?_); rintro e w9 ⟨rfl, rfl⟩) | (go_at_call 14; unfold TakeP at TA; (with_reducible refine (TA.out _ yB).mono ?_); rintro e wt ⟨⟨Ar, mr, cr, rfl, mR⟩, hb⟩; replace b0 := (b0.below hb).alloc (.cells #[.int .i64 (hL X), .int .u8 (hK X), .int .u8 (hF X), .int .i64 (hS X)] 41); replace q5 := (q5.below hb).alloc (.cells #[.int .i64 (hL X), .int .u8 (hK X), .int .u8 (hF X), .int .i64 (hS X)] 41); replace q7 := (q7.below hb).alloc (.cells #[.int .i64 (hL X), .int .u8 (hK X), .int .u8 (hF X), .int .i64 (hS X)] 41); replace mA1 := (mA1.below hb).alloc (.cells #[.int .i64 (hL X), .int .u8 (hK X), .int .u8 (hF X), .int .i64 (hS X)] 41); replace yB := (yB.below hb).alloc (.cells #[.int .i64 (hL X), .int .u8 (hK X), .int .u8 (hF X), .int .i64 (hS X)] 41); have q15 := Blk.new wt 41 #[.int .i64 (hL X), .int .u8 (hK X), .int .u8 (hF X), .int .i64 (hS X)]; clear hb mR))
      clear SA TA hcl hcl2
      have q15_0 := q15.at 0 rfl
      have q5_1 := q5.at 1 rfl
      by_cases hl : LongB X
      · as_aux_lemma =>
          have eF : FW = true := by rw [HF2.out]; exact decide_eq_true hl
          have eC : FC = 6 := by rw [← HFC.out, eF]; rfl
          have er := HF4.out eF
          rw [eF, eC] at q7
          have hn0 : ((n1 : Int) == 0) = true := by have h := mA1.len; rw [er] at h; rw [beq_iff_eq]; simp at h; omega
          have hE0 : hE X = 0 := by unfold hE; rw [if_neg (by have := hl.1; omega)]
          have hL0 : decide (16384 < hL X) = true := decide_eq_true hl.2
          clear eF eC er hl
          go_wp2_with (first | ((with_reducible refine wpList_id ?_); refine wpList_getG (by rfl) _ _ rfl rfl q7 Try.underlying31 rfl (by rfl) ?_) | (go_at_call 8; (with_reducible refine (fWakes _).mono ?_); rintro e w9 ⟨rfl, hb⟩; replace b0 := b0.below hb))
          go_ret
          exact ⟨rfl, b0.out⟩
      · have eF : FW = false := by rw [HF2.out]; exact decide_eq_false hl
        have eC : FC = 0 := by rw [← HFC.out, eF]; rfl
        have er := HF3.out eF
        rw [eF, eC] at q7
        rw [er] at mA1
        have SB := Lib.hid fun w (h : Byt w A1 n1 c1 X) (h2 : Byt w (cutA A4 c4 t) (N - t) (c4 - t) X) => rOSame A1 n1 c1 X (cutA A4 c4 t) (N - t) (c4 - t) X w h h2
        rw [eqB_self] at SB
        have hw := HNW.out hl
        clear eF eC er
        by_cases hE0 : hE X = 0
        · as_aux_lemma =>
            have hlt := hw.resolve_left (fun h => h hE0)
            rw [HLB.out] at hlt
            have hle : ¬16384 < hL X := fun h => hl ⟨by unfold hE at hE0; split at hE0 <;> omega, h⟩
            have hL0 : decide (16384 < hL X) = false := decide_eq_false hle
            have hLb := HLX.out
            have hwr : IntKind.i64.wrap (9 + hL X) = 9 + hL X := by rw [IntKind.wrap_i64]; omega
            have hd : decide (((N - t : Nat) : Int) < 9 + hL X) = true := decide_eq_true hlt
            clear hlt hle hl hw hLb
            go_wp2_with (first | ((with_reducible refine wpList_id ?_); refine wpList_getG (by rfl) _ _ rfl rfl q7 Try.underlying31 rfl (by rfl) ?_) | (go_at_call 13; (with_reducible refine (SB.out _ mA1.byt yB).mono ?_); rintro e w9 ⟨rfl, rfl⟩) | (go_at_call 8; (with_reducible refine (fWakes _).mono ?_); rintro e w9 ⟨rfl, hb⟩; replace b0 := b0.below hb))
            go_ret
            exact ⟨rfl, b0.out⟩
        · as_aux_lemma =>
            have hE1 : (hE X == 0) = false := beq_eq_false_iff_ne.2 hE0
            have hE2 : (hE X != 0) = true := bne_iff_ne.2 hE0
            clear hE0 hl hw
            go_wp2_with (first | ((with_reducible refine wpList_id ?_); refine wpList_getG (by rfl) _ _ rfl rfl q7 Try.underlying31 rfl (by rfl) ?_) | (go_at_call 13; (with_reducible refine (SB.out _ mA1.byt yB).mono ?_); rintro e w9 ⟨rfl, rfl⟩) | (go_at_call 8; (with_reducible refine (fWakes _).mono ?_); rintro e w9 ⟨rfl, hb⟩; replace b0 := b0.below hb))
            go_ret
            exact ⟨rfl, b0.out⟩
theorem wWholeR {W : World} (p : Int) (p0 : -9223372036854775808 ≤ p) (p1 : p ≤ 9223372036854775807) (A : Option Addr) (n c : Nat) (l : List Int) (h : Byt W A n c l) (B : Option Addr) (m d : Nat) (ch : List Int) (hc : Byt W B m d ch) :
    Calls Try.prog 4 #[.agg #[.int .i64 p, .slice A n c], .slice B m d] W fun e w' => e = .returned (.bool true) ∧ Below W.heap.size W w' := by
  by_cases g0 : 600 < n
  · exact whole1 p p0 p1 A n c l B m d ch W h hc g0
  by_cases g1 : 600 < m
  · exact whole2 p p0 p1 A n c l B m d ch W h hc (by omega) g1
  by_cases hr : RightC p l
  · by_cases hp : p = 24
    · subst hp
      exact wholeM A n c l B m d ch W h hc (by omega) (by omega) hr
    · exact whole4 p p0 p1 A n c l B m d ch W h hc (by omega) (by omega) hr hp
  · exact whole3 p p0 p1 A n c l B m d ch W h hc (by omega) (by omega) hr
end Go.Proofs.Ythcnfalfhdeflaa
