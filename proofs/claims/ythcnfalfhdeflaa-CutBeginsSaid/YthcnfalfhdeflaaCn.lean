/- CutBegins: the preface is taken byte by byte, another byte breaks it: the walk. -/
import Derived.Test.YthcnfalfhdeflaaCl
import Derived.Test.YthcnfalfhdeflaaCm
import Derived.Lib.SlBytesConst
namespace Go.Proofs.Ythcnfalfhdeflaa
open Go.RowKit Go.Shelf
set_option linter.unusedVariables false
set_option linter.unusedSimpArgs false

theorem feed_good {k : Nat} (hk : k < 24) {c : Int} {l : List Int} (hc : c = preL[k]?.getD 0) : feedC (k : Int) [] (c :: l) = feedC ((k : Int) + 1) [] l := by
  unfold feedC
  rw [preK_good (by omega) (by simpa using hc)]
theorem feed_bad {k : Nat} (hk : k < 24) {c : Int} {l : List Int} (hc : c ≠ preL[k]?.getD 0) : feedC (k : Int) [] (c :: l) = ⟨k, [], [], true, 1⟩ := by
  unfold feedC
  rw [preK_bad (by omega) (by simpa using hc)]
  simp
theorem right_pre {p : Int} (h : 0 ≤ p ∧ p ≤ 24) : RightC p [] := ⟨h, fun _ => rfl, fun h => absurd h (by simp)⟩
theorem sameC_self (p : Int) (l : List Int) : sameC p l p l = true := by simp [sameC, eqB]
theorem eqPc_self {l m : List Pe} {ps : List Pc} (h : l.map (·.p) = ps) (h' : m.map (·.p) = ps) : eqPc l m = true := decide_eq_true (h.trans h'.symm)
set_option maxHeartbeats 1000000 in
theorem begins1 (k : Int) (k0 : -9223372036854775808 ≤ k) (k1 : k ≤ 9223372036854775807) (c : Int) (c0 : 0 ≤ c) (c1 : c ≤ 255) (A : Option Addr) (n d : Nat) (l : List Int) (W : World) (h : Byt W A n d l) (g0 : k < 0) :
    Calls Try.prog 5 #[.int .i64 k, .int .u8 c, .slice A n d] W fun e w' => e = .returned (.bool true) ∧ Below W.heap.size W w' := by
  have b0 := Bel.refl W
  have d0 : decide (k < 0) = true := decide_eq_true g0
  clear h
  go_enter Try.func5, Try.ntmps5
  go_wp2_with (first | (go_at_call 8; (with_reducible refine (fWakes _).mono ?_); rintro e w9 ⟨rfl, hb⟩; replace b0 := b0.below hb))
  go_ret
  exact ⟨rfl, b0.out⟩
set_option maxHeartbeats 1000000 in
theorem begins2 (k : Int) (k0 : -9223372036854775808 ≤ k) (k1 : k ≤ 9223372036854775807) (c : Int) (c0 : 0 ≤ c) (c1 : c ≤ 255) (A : Option Addr) (n d : Nat) (l : List Int) (W : World) (h : Byt W A n d l) (g0 : 0 ≤ k) (g1 : 23 < k) :
    Calls Try.prog 5 #[.int .i64 k, .int .u8 c, .slice A n d] W fun e w' => e = .returned (.bool true) ∧ Below W.heap.size W w' := by
  have b0 := Bel.refl W
  have d0 : decide (k < 0) = false := decide_eq_false (by omega)
  have d1 : decide (23 < k) = true := decide_eq_true g1
  clear h
  go_enter Try.func5, Try.ntmps5
  go_wp2_with (first | (go_at_call 8; (with_reducible refine (fWakes _).mono ?_); rintro e w9 ⟨rfl, hb⟩; replace b0 := b0.below hb))
  go_ret
  exact ⟨rfl, b0.out⟩
set_option maxHeartbeats 1000000 in
theorem begins3 (k : Int) (k0 : -9223372036854775808 ≤ k) (k1 : k ≤ 9223372036854775807) (c : Int) (c0 : 0 ≤ c) (c1 : c ≤ 255) (A : Option Addr) (n d : Nat) (l : List Int) (W : World) (h : Byt W A n d l) (g0 : 0 ≤ k) (g1 : k ≤ 23) (g2 : 600 < n) :
    Calls Try.prog 5 #[.int .i64 k, .int .u8 c, .slice A n d] W fun e w' => e = .returned (.bool true) ∧ Below W.heap.size W w' := by
  have b0 := Bel.refl W
  have d0 : decide (k < 0) = false := decide_eq_false (by omega)
  have d1 : decide (23 < k) = false := decide_eq_false (by omega)
  have GR := Lib.hid fun w => fGreat A n d w
  rw [show decide ((600 : Int) < n) = true from decide_eq_true (by omega)] at GR
  clear h
  go_enter Try.func5, Try.ntmps5
  go_wp2_with (first | (go_at_call 6; (with_reducible refine (GR.out _).mono ?_); rintro e w9 ⟨rfl, rfl⟩) | (go_at_call 8; (with_reducible refine (fWakes _).mono ?_); rintro e w9 ⟨rfl, hb⟩; replace b0 := b0.below hb))
  go_ret
  exact ⟨rfl, b0.out⟩
set_option maxRecDepth 100000 in
set_option maxHeartbeats 1600000 in
theorem begins4 (k : Nat) (hk : k < 24) (c : Int) (c0 : 0 ≤ c) (c1 : c ≤ 255) (A : Option Addr) (n d : Nat) (l : List Int) (W : World) (h : Byt W A n d l) (hn : n ≤ 600) (hc : c ≠ preL[k]?.getD 0) :
    Calls Try.prog 5 #[.int .i64 k, .int .u8 c, .slice A n d] W fun e w' => e = .returned (.bool true) ∧ Below W.heap.size W w' := by
  have hl := h.len; have hcp := h.cap; have hmx := h.mx
  have d0 : decide ((k : Int) < 0) = false := decide_eq_false (by omega)
  have d1 : decide (23 < (k : Int)) = false := decide_eq_false (by omega)
  have GR := Lib.hid fun w => fGreat A n d w
  rw [show decide ((600 : Int) < n) = false from decide_eq_false (by omega)] at GR
  have F1 := Lib.hid fun (B : Option Addr) (e : Nat) w (hc : Byt w B (1 + n) e ([c] ++ l)) => fFeed k ⟨by omega, by omega⟩ none 0 0 [] B (1 + n) e ([c] ++ l) w (Byt.nil w) hc (by omega) (by omega) (right_pre ⟨by omega, by omega⟩)
  have HY := Lib.hid h
  have hbs : Bs [c] := Bs.one c0 c1
  have b0 := Bel.refl W
  rw [show feedC (k : Int) [] ([c] ++ l) = ⟨k, [], [], true, 1⟩ from feed_bad hk hc] at F1
  have e1 : (c != preL[k]?.getD 0) = true := bne_iff_ne.2 hc
  skip
  have i0 : (0 : Int) ≤ (k : Int) := by omega
  have i1 : (k : Int) < 24 := by omega
  have tok1 : True := trivial
  have hll : l.length ≤ 600 := by omega
  clear h hc c0 c1 hl hcp hmx
  go_enter Try.func5, Try.ntmps5
  go_upto_region 6 with (first | (go_at_call 6; (with_reducible refine (GR.out _).mono ?_); rintro e w9 ⟨rfl, rfl⟩) | (go_at_call 15; (with_reducible refine (fPreface _).mono ?_); rintro e wp ⟨Ap, cp, rfl, yp, hb⟩; replace b0 := b0.below hb; have bp := Bel.refl wp; clear hb))
  obtain ⟨bb, oo, rfl, hbb, hcell⟩ := yp.cell (by omega)
  have hc0 := hcell k hk
  have hbp := Lib.hid hbb
  generalize hpv : preL[k]?.getD 0 = pv at *
  clear hcell yp hpv
  go_upto_region 7 with (first | (at_builtin; go_must (refine wpList_app _ rfl _ _ rfl wp.heap.size (some ⟨wp.heap.size, 0, none⟩) 1 1 [c] rfl (Mine.lit wp [c] (Nat.le_refl _) hbs (by simp) 1 rfl) A n d l rfl ((HY.out.below b0.out).alloc _) (by simp; omega) (by simp) ?_); intro A2 c2 w2 mL hb hg hat; replace b0 : Bel W w2 := (b0.alloc (.cells #[.int .u8 c] 5)).stepB hb (by have := b0.out.size; omega); replace bp : Bel wp w2 := (bp.alloc (.cells #[.int .u8 c] 5)).stepB hb (Nat.le_refl _); clear hb hg hat) | (go_at_call 9; have _t := tok1; clear tok1 _t; (with_reducible refine (F1.out _ _ _ mL.byt).mono ?_); rintro e w1 ⟨A1, n1, c1, B1, m1, d1, es1, rfl, mA, mC, hps, hb⟩; replace b0 := b0.below hb; replace bp := bp.below hb; replace mA := (mA.alloc (.cells #[.int .i64 0, .slice none 0 0] 24)).alloc (.cells #[.bool false, .int .i64 0, .int .u32 0] 31); replace mC := (mC.alloc (.cells #[.int .i64 0, .slice none 0 0] 24)).alloc (.cells #[.bool false, .int .i64 0, .int .u32 0] 31); have q8 := (Blk.new w1 24 #[.int .i64 0, .slice none 0 0]).alloc (.cells #[.bool false, .int .i64 0, .int .u32 0] 31); have q10 := Blk.newAt (b := w1.heap.size + 1) (w1.alloc (.cells #[.int .i64 0, .slice none 0 0] 24)) 31 #[.bool false, .int .i64 0, .int .u32 0] (by simp); have hs0 := b0.out.size; have hs1 := bp.out.size; replace b0 := (b0.alloc (.cells #[.int .i64 0, .slice none 0 0] 24)).alloc (.cells #[.bool false, .int .i64 0, .int .u32 0] 31); replace bp := (bp.alloc (.cells #[.int .i64 0, .slice none 0 0] 24)).alloc (.cells #[.bool false, .int .i64 0, .int .u32 0] 31); clear hb mL) | ((with_reducible refine wpList_id ?_); refine wpList_putB rfl _ _ _ rfl rfl rfl q8 (by rfl) (by rfl) (by rfl) ?_; intro w9 qn hg; replace b0 := b0.grown hg (by omega); (try replace q10 := q10.grown hg (by omega)); replace bp := bp.grown hg (by omega); (try replace mC := mC.grownB q8 (by decide) (by decide) hg); (try replace mA := mA.grownB q8 (by decide) hg); clear hg q8; have q8 := qn; clear qn) | ((with_reducible refine wpList_id ?_); refine wpList_putB rfl _ _ _ rfl rfl rfl q10 (by rfl) (by rfl) (by rfl) ?_; intro w9 qn hg; replace b0 := b0.grown hg (by omega); (try replace q8 := q8.grown hg (by omega)); replace bp := bp.grown hg (by omega); (try replace mC := mC.grownB q10 (by decide) (by decide) hg); (try replace mA := mA.grownB q10 (by decide) hg); clear hg q10; have q10 := qn; clear qn))
  have hcc := (bp.out.cell (p := ⟨bb, oo + k, none⟩) hbp.out).trans hc0
  clear hc0
  skip
  have hm0 : m1 = 0 := by
    have h1 := mC.len
    have h2 : es1 = [] := by simpa using hps
    rw [h2] at h1
    exact h1.symm
  subst hm0
  have HPS := Lib.hid hps
  clear hps
  skip
  have hss := sameC_self (k : Int) []
  go_wp2_with (first | ((with_reducible refine wpList_id ?_); refine wpList_getG (by rfl) _ _ rfl rfl q8 Try.underlying24 rfl (by rfl) ?_) | ((with_reducible refine wpList_id ?_); refine wpList_getG (by rfl) _ _ rfl rfl q10 Try.underlying31 rfl (by rfl) ?_) | (go_at_call 11; (with_reducible refine (rRSame k A1 n1 c1 [] k none 0 0 [] _ mA.byt (Byt.nil _)).mono ?_); rintro e w9 ⟨rfl, hb⟩; replace b0 := b0.below hb; clear hb) | (go_at_call 8; (with_reducible refine (fWakes _).mono ?_); rintro e w9 ⟨rfl, hb⟩; replace b0 := b0.below hb))
  go_ret
  exact ⟨by simp [hss], b0.out⟩
set_option maxRecDepth 100000 in
set_option maxHeartbeats 1600000 in
theorem begins5 (k : Nat) (hk : k < 24) (c : Int) (c0 : 0 ≤ c) (c1 : c ≤ 255) (A : Option Addr) (n d : Nat) (l : List Int) (W : World) (h : Byt W A n d l) (hn : n ≤ 600) (hc : c = preL[k]?.getD 0) :
    Calls Try.prog 5 #[.int .i64 k, .int .u8 c, .slice A n d] W fun e w' => e = .returned (.bool true) ∧ Below W.heap.size W w' := by
  have hl := h.len; have hcp := h.cap; have hmx := h.mx
  have d0 : decide ((k : Int) < 0) = false := decide_eq_false (by omega)
  have d1 : decide (23 < (k : Int)) = false := decide_eq_false (by omega)
  have GR := Lib.hid fun w => fGreat A n d w
  rw [show decide ((600 : Int) < n) = false from decide_eq_false (by omega)] at GR
  have F1 := Lib.hid fun (B : Option Addr) (e : Nat) w (hc : Byt w B (1 + n) e ([c] ++ l)) => fFeed k ⟨by omega, by omega⟩ none 0 0 [] B (1 + n) e ([c] ++ l) w (Byt.nil w) hc (by omega) (by omega) (right_pre ⟨by omega, by omega⟩)
  have HY := Lib.hid h
  have hbs : Bs [c] := Bs.one c0 c1
  have b0 := Bel.refl W
  rw [show feedC (k : Int) [] ([c] ++ l) = feedC ((k : Int) + 1) [] l from feed_good hk hc] at F1
  have F2 := Lib.hid fun w (hc : Byt w A n d l) => fFeed ((k : Int) + 1) ⟨by omega, by omega⟩ none 0 0 [] A n d l w (Byt.nil w) hc (by omega) (by omega) (right_pre ⟨by omega, by omega⟩)
  generalize feedC ((k : Int) + 1) [] l = F at *
  have hwr : IntKind.i64.wrap ((k : Int) + 1) = (k : Int) + 1 := by rw [IntKind.wrap_i64]; omega
  have e1 : (c != preL[k]?.getD 0) = false := bne_eq_false_iff_eq.2 hc
  skip
  have i0 : (0 : Int) ≤ (k : Int) := by omega
  have i1 : (k : Int) < 24 := by omega
  have tok1 : True := trivial
  have hll : l.length ≤ 600 := by omega
  clear h hc c0 c1 hl hcp hmx
  go_enter Try.func5, Try.ntmps5
  go_upto_region 6 with (first | (go_at_call 6; (with_reducible refine (GR.out _).mono ?_); rintro e w9 ⟨rfl, rfl⟩) | (go_at_call 15; (with_reducible refine (fPreface _).mono ?_); rintro e wp ⟨Ap, cp, rfl, yp, hb⟩; replace b0 := b0.below hb; have bp := Bel.refl wp; clear hb))
  obtain ⟨bb, oo, rfl, hbb, hcell⟩ := yp.cell (by omega)
  have hc0 := hcell k hk
  have hbp := Lib.hid hbb
  generalize hpv : preL[k]?.getD 0 = pv at *
  clear hcell yp hpv
  go_upto_region 7 with (first | (at_builtin; go_must (refine wpList_app _ rfl _ _ rfl wp.heap.size (some ⟨wp.heap.size, 0, none⟩) 1 1 [c] rfl (Mine.lit wp [c] (Nat.le_refl _) hbs (by simp) 1 rfl) A n d l rfl ((HY.out.below b0.out).alloc _) (by simp; omega) (by simp) ?_); intro A2 c2 w2 mL hb hg hat; replace b0 : Bel W w2 := (b0.alloc (.cells #[.int .u8 c] 5)).stepB hb (by have := b0.out.size; omega); replace bp : Bel wp w2 := (bp.alloc (.cells #[.int .u8 c] 5)).stepB hb (Nat.le_refl _); clear hb hg hat) | (go_at_call 9; have _t := tok1; clear tok1 _t; (with_reducible refine (F1.out _ _ _ mL.byt).mono ?_); rintro e w1 ⟨A1, n1, c1, B1, m1, d1, es1, rfl, mA, mC, hps, hb⟩; replace b0 := b0.below hb; replace bp := bp.below hb; replace mA := (mA.alloc (.cells #[.int .i64 0, .slice none 0 0] 24)).alloc (.cells #[.bool false, .int .i64 0, .int .u32 0] 31); replace mC := (mC.alloc (.cells #[.int .i64 0, .slice none 0 0] 24)).alloc (.cells #[.bool false, .int .i64 0, .int .u32 0] 31); have q8 := (Blk.new w1 24 #[.int .i64 0, .slice none 0 0]).alloc (.cells #[.bool false, .int .i64 0, .int .u32 0] 31); have q10 := Blk.newAt (b := w1.heap.size + 1) (w1.alloc (.cells #[.int .i64 0, .slice none 0 0] 24)) 31 #[.bool false, .int .i64 0, .int .u32 0] (by simp); have hs0 := b0.out.size; have hs1 := bp.out.size; replace b0 := (b0.alloc (.cells #[.int .i64 0, .slice none 0 0] 24)).alloc (.cells #[.bool false, .int .i64 0, .int .u32 0] 31); replace bp := (bp.alloc (.cells #[.int .i64 0, .slice none 0 0] 24)).alloc (.cells #[.bool false, .int .i64 0, .int .u32 0] 31); clear hb mL) | ((with_reducible refine wpList_id ?_); refine wpList_putB rfl _ _ _ rfl rfl rfl q8 (by rfl) (by rfl) (by rfl) ?_; intro w9 qn hg; replace b0 := b0.grown hg (by omega); (try replace q10 := q10.grown hg (by omega)); replace bp := bp.grown hg (by omega); (try replace mC := mC.grownB q8 (by decide) (by decide) hg); (try replace mA := mA.grownB q8 (by decide) hg); clear hg q8; have q8 := qn; clear qn) | ((with_reducible refine wpList_id ?_); refine wpList_putB rfl _ _ _ rfl rfl rfl q10 (by rfl) (by rfl) (by rfl) ?_; intro w9 qn hg; replace b0 := b0.grown hg (by omega); (try replace q8 := q8.grown hg (by omega)); replace bp := bp.grown hg (by omega); (try replace mC := mC.grownB q10 (by decide) (by decide) hg); (try replace mA := mA.grownB q10 (by decide) hg); clear hg q10; have q10 := qn; clear qn))
  have hcc := (bp.out.cell (p := ⟨bb, oo + k, none⟩) hbp.out).trans hc0
  clear hc0
  skip
  have HPS := Lib.hid hps
  clear hps
  go_upto_region 10 with (first | (go_at_call 9; (with_reducible refine (F2.out _ (HY.out.below b0.out)).mono ?_); rintro e w3 ⟨A3, n3, c3, B3, m3, d3, es3, rfl, mA3, mC3, hps3, hb⟩; replace b0 := b0.below hb; replace mA := mA.below hb; replace mC := mC.below hb; replace q8 := q8.below hb; replace q10 := q10.below hb; have hl8 := q8.lt; have hl10 := q10.lt; have hs3 := b0.out.size; replace mA := (mA.alloc (.cells #[.int .i64 0, .slice none 0 0] 24)).alloc (.cells #[.bool false, .int .i64 0, .int .u32 0] 31); replace mC := (mC.alloc (.cells #[.int .i64 0, .slice none 0 0] 24)).alloc (.cells #[.bool false, .int .i64 0, .int .u32 0] 31); replace mA3 := (mA3.alloc (.cells #[.int .i64 0, .slice none 0 0] 24)).alloc (.cells #[.bool false, .int .i64 0, .int .u32 0] 31); replace mC3 := (mC3.alloc (.cells #[.int .i64 0, .slice none 0 0] 24)).alloc (.cells #[.bool false, .int .i64 0, .int .u32 0] 31); replace q8 := (q8.alloc (.cells #[.int .i64 0, .slice none 0 0] 24)).alloc (.cells #[.bool false, .int .i64 0, .int .u32 0] 31); replace q10 := (q10.alloc (.cells #[.int .i64 0, .slice none 0 0] 24)).alloc (.cells #[.bool false, .int .i64 0, .int .u32 0] 31); replace b0 := (b0.alloc (.cells #[.int .i64 0, .slice none 0 0] 24)).alloc (.cells #[.bool false, .int .i64 0, .int .u32 0] 31); have q12 := (Blk.new w3 24 #[.int .i64 0, .slice none 0 0]).alloc (.cells #[.bool false, .int .i64 0, .int .u32 0] 31); have q14 := Blk.newAt (b := w3.heap.size + 1) (w3.alloc (.cells #[.int .i64 0, .slice none 0 0] 24)) 31 #[.bool false, .int .i64 0, .int .u32 0] (by simp); clear hb) | ((with_reducible refine wpList_id ?_); refine wpList_putB rfl _ _ _ rfl rfl rfl q12 (by rfl) (by rfl) (by rfl) ?_; intro w9 qn hg; replace b0 := b0.grown hg (by omega); (try replace mA := mA.grownB q12 (by decide) hg); (try replace mA3 := mA3.grownB q12 (by decide) hg); (try replace q8 := q8.grown hg (by omega)); (try replace q10 := q10.grown hg (by omega)); (try replace q14 := q14.grown hg (by omega)); replace mC := mC.grownB q12 (by decide) (by decide) hg; replace mC3 := mC3.grownB q12 (by decide) (by decide) hg; clear hg q12; have q12 := qn; clear qn) | ((with_reducible refine wpList_id ?_); refine wpList_putB rfl _ _ _ rfl rfl rfl q14 (by rfl) (by rfl) (by rfl) ?_; intro w9 qn hg; replace b0 := b0.grown hg (by omega); (try replace mA := mA.grownB q14 (by decide) hg); (try replace mA3 := mA3.grownB q14 (by decide) hg); (try replace q8 := q8.grown hg (by omega)); (try replace q10 := q10.grown hg (by omega)); (try replace q12 := q12.grown hg (by omega)); replace mC := mC.grownB q14 (by decide) (by decide) hg; replace mC3 := mC3.grownB q14 (by decide) (by decide) hg; clear hg q14; have q14 := qn; clear qn))
  have hss := sameC_self F.p F.l
  have hpc := eqPc_self HPS.out hps3
  clear hps3
  go_wp2_with (first | ((with_reducible refine wpList_id ?_); refine wpList_getG (by rfl) _ _ rfl rfl q8 Try.underlying24 rfl (by rfl) ?_) | ((with_reducible refine wpList_id ?_); refine wpList_getG (by rfl) _ _ rfl rfl q10 Try.underlying31 rfl (by rfl) ?_) | ((with_reducible refine wpList_id ?_); refine wpList_getG (by rfl) _ _ rfl rfl q12 Try.underlying24 rfl (by rfl) ?_) | ((with_reducible refine wpList_id ?_); refine wpList_getG (by rfl) _ _ rfl rfl q14 Try.underlying31 rfl (by rfl) ?_) | (go_at_call 11; (with_reducible refine (rRSame F.p A1 n1 c1 F.l F.p A3 n3 c3 F.l _ mA.byt mA3.byt).mono ?_); rintro e w9 ⟨rfl, hb⟩; replace b0 := b0.below hb; replace mC := mC.below hb; replace mC3 := mC3.below hb; clear hb) | (go_at_call 10; (with_reducible refine (rPieces B1 m1 d1 es1 B3 m3 d3 es3 _ mC.pcs mC3.pcs).mono ?_); rintro e w9 ⟨rfl, hb⟩; replace b0 := b0.below hb; clear hb) | (go_at_call 8; (with_reducible refine (fWakes _).mono ?_); rintro e w9 ⟨rfl, hb⟩; replace b0 := b0.below hb))
  go_ret
  exact ⟨by simp [hss, hpc], b0.out⟩
theorem wBegins (k : Int) (k0 : -9223372036854775808 ≤ k) (k1 : k ≤ 9223372036854775807) (c : Int) (c0 : 0 ≤ c) (c1 : c ≤ 255) (A : Option Addr) (n d : Nat) (l : List Int) (W : World) (h : Byt W A n d l) :
    Calls Try.prog 5 #[.int .i64 k, .int .u8 c, .slice A n d] W fun e w' => e = .returned (.bool true) ∧ Below W.heap.size W w' := by
  by_cases g0 : k < 0
  · exact begins1 k k0 k1 c c0 c1 A n d l W h g0
  by_cases g1 : 23 < k
  · exact begins2 k k0 k1 c c0 c1 A n d l W h (by omega) g1
  by_cases g2 : 600 < n
  · exact begins3 k k0 k1 c c0 c1 A n d l W h (by omega) (by omega) g2
  obtain ⟨j, rfl⟩ : ∃ j : Nat, k = j := ⟨k.toNat, by omega⟩
  by_cases hc : c = preL[j]?.getD 0
  · exact begins5 j (by omega) c c0 c1 A n d l W h (by omega) hc
  · exact begins4 j (by omega) c c0 c1 A n d l W h (by omega) hc
theorem wBeginsR {W : World} (k : Int) (k0 : -9223372036854775808 ≤ k) (k1 : k ≤ 9223372036854775807) (c : Int) (c0 : 0 ≤ c) (c1 : c ≤ 255) (A : Option Addr) (n d : Nat) (l : List Int) (h : Byt W A n d l) :
    Calls Try.prog 5 #[.int .i64 k, .int .u8 c, .slice A n d] W fun e w' => e = .returned (.bool true) ∧ Below W.heap.size W w' := by
  exact wBegins k k0 k1 c c0 c1 A n d l W h
end Go.Proofs.Ythcnfalfhdeflaa
