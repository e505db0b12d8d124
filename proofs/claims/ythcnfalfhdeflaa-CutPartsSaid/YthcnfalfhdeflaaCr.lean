/- CutParts: a chunk in two parts: the walk. -/
import Derived.Test.YthcnfalfhdeflaaCs
import Derived.Test.YthcnfalfhdeflaaCm
import Derived.StillTailTactics
import Derived.Deep.QuietTactic
namespace Go.Proofs.Ythcnfalfhdeflaa
open Go.RowKit Go.Shelf
set_option linter.unusedVariables false
set_option linter.unusedSimpArgs false

set_option maxHeartbeats 1600000 in
theorem parts1 (p : Int) (p0 : -9223372036854775808 ≤ p) (p1 : p ≤ 9223372036854775807) (A : Option Addr) (n c : Nat) (l : List Int) (B : Option Addr) (m d : Nat) (ch : List Int) (z : Int) (W : World) (h : Byt W A n c l) (hc : Byt W B m d ch) (g0 : 600 < n) :
    Calls Try.prog 3 #[.agg #[.int .i64 p, .slice A n c], .slice B m d, .int .i64 z] W fun e w' => e = .returned (.bool true) ∧ Below W.heap.size W w' := by
  have b0 := (Bel.refl W).alloc (.cells #[.int .i64 p, .slice A n c] 24)
  have q0 := Blk.new W 24 #[.int .i64 p, .slice A n c]
  have q0_1 := q0.at 1 rfl
  have HY := Lib.hid h
  have HC := Lib.hid hc
  have GR := Lib.hid fun w => fGreat A n c w
  rw [show decide ((600 : Int) < n) = true from decide_eq_true (by omega)] at GR
  clear h hc
  go_enter Try.func3, Try.ntmps3
  go_wp2_with (first | (go_at_call 6; (with_reducible refine (GR.out _).mono ?_); rintro e w9 ⟨rfl, rfl⟩) | (go_at_call 6; (with_reducible refine (GS.out _).mono ?_); rintro e w9 ⟨rfl, rfl⟩) | ((with_reducible refine wpList_id ?_); refine wpList_getG (by rfl) _ _ rfl rfl q0 Try.underlying24 rfl (by rfl) ?_) | (go_at_call 7; (with_reducible refine (RG.out _ (HY.out.below b0.out)).mono ?_); rintro e w9 ⟨rfl, hb⟩; replace b0 := b0.below hb; replace q0 := q0.below hb; clear hb) | (go_at_call 8; (with_reducible refine (fWakes _).mono ?_); rintro e w9 ⟨rfl, hb⟩; replace b0 := b0.below hb))
  go_ret
  exact ⟨rfl, b0.out⟩
set_option maxHeartbeats 1600000 in
theorem parts2 (p : Int) (p0 : -9223372036854775808 ≤ p) (p1 : p ≤ 9223372036854775807) (A : Option Addr) (n c : Nat) (l : List Int) (B : Option Addr) (m d : Nat) (ch : List Int) (z : Int) (W : World) (h : Byt W A n c l) (hc : Byt W B m d ch) (g0 : n ≤ 600) (g1 : 600 < m) :
    Calls Try.prog 3 #[.agg #[.int .i64 p, .slice A n c], .slice B m d, .int .i64 z] W fun e w' => e = .returned (.bool true) ∧ Below W.heap.size W w' := by
  have b0 := (Bel.refl W).alloc (.cells #[.int .i64 p, .slice A n c] 24)
  have q0 := Blk.new W 24 #[.int .i64 p, .slice A n c]
  have q0_1 := q0.at 1 rfl
  have HY := Lib.hid h
  have HC := Lib.hid hc
  have GR := Lib.hid fun w => fGreat A n c w
  rw [show decide ((600 : Int) < n) = false from decide_eq_false (by omega)] at GR
  have GS := Lib.hid fun w => fGreat B m d w
  rw [show decide ((600 : Int) < m) = true from decide_eq_true (by omega)] at GS
  clear h hc
  go_enter Try.func3, Try.ntmps3
  go_wp2_with (first | (go_at_call 6; (with_reducible refine (GR.out _).mono ?_); rintro e w9 ⟨rfl, rfl⟩) | (go_at_call 6; (with_reducible refine (GS.out _).mono ?_); rintro e w9 ⟨rfl, rfl⟩) | ((with_reducible refine wpList_id ?_); refine wpList_getG (by rfl) _ _ rfl rfl q0 Try.underlying24 rfl (by rfl) ?_) | (go_at_call 7; (with_reducible refine (RG.out _ (HY.out.below b0.out)).mono ?_); rintro e w9 ⟨rfl, hb⟩; replace b0 := b0.below hb; replace q0 := q0.below hb; clear hb) | (go_at_call 8; (with_reducible refine (fWakes _).mono ?_); rintro e w9 ⟨rfl, hb⟩; replace b0 := b0.below hb))
  go_ret
  exact ⟨rfl, b0.out⟩
set_option maxHeartbeats 1600000 in
theorem parts3 (p : Int) (p0 : -9223372036854775808 ≤ p) (p1 : p ≤ 9223372036854775807) (A : Option Addr) (n c : Nat) (l : List Int) (B : Option Addr) (m d : Nat) (ch : List Int) (z : Int) (W : World) (h : Byt W A n c l) (hc : Byt W B m d ch) (g0 : n ≤ 600) (g1 : m ≤ 600) (hr : ¬RightC p l) :
    Calls Try.prog 3 #[.agg #[.int .i64 p, .slice A n c], .slice B m d, .int .i64 z] W fun e w' => e = .returned (.bool true) ∧ Below W.heap.size W w' := by
  have b0 := (Bel.refl W).alloc (.cells #[.int .i64 p, .slice A n c] 24)
  have q0 := Blk.new W 24 #[.int .i64 p, .slice A n c]
  have q0_1 := q0.at 1 rfl
  have HY := Lib.hid h
  have HC := Lib.hid hc
  have GR := Lib.hid fun w => fGreat A n c w
  rw [show decide ((600 : Int) < n) = false from decide_eq_false (by omega)] at GR
  have GS := Lib.hid fun w => fGreat B m d w
  rw [show decide ((600 : Int) < m) = false from decide_eq_false (by omega)] at GS
  have RG := Lib.hid fun w (h : Byt w A n c l) => rRRight p A n c l w h (by omega)
  rw [show rightC p l = false from decide_eq_false hr] at RG
  clear h hc
  go_enter Try.func3, Try.ntmps3
  go_wp2_with (first | (go_at_call 6; (with_reducible refine (GR.out _).mono ?_); rintro e w9 ⟨rfl, rfl⟩) | (go_at_call 6; (with_reducible refine (GS.out _).mono ?_); rintro e w9 ⟨rfl, rfl⟩) | ((with_reducible refine wpList_id ?_); refine wpList_getG (by rfl) _ _ rfl rfl q0 Try.underlying24 rfl (by rfl) ?_) | (go_at_call 7; (with_reducible refine (RG.out _ (HY.out.below b0.out)).mono ?_); rintro e w9 ⟨rfl, hb⟩; replace b0 := b0.below hb; replace q0 := q0.below hb; clear hb) | (go_at_call 8; (with_reducible refine (fWakes _).mono ?_); rintro e w9 ⟨rfl, hb⟩; replace b0 := b0.below hb))
  go_ret
  exact ⟨rfl, b0.out⟩
set_option maxRecDepth 100000 in
set_option maxHeartbeats 8000000 in
theorem partsA (p : Int) (p0 : -9223372036854775808 ≤ p) (p1 : p ≤ 9223372036854775807) (A : Option Addr) (n c : Nat) (l : List Int) (B : Option Addr) (m d : Nat) (ch : List Int) (z : Int) (W : World) (h : Byt W A n c l) (hc : Byt W B m d ch) (g0 : n ≤ 600) (g1 : m ≤ 600) (hr : RightC p l) (j : Nat) (j1 : j ≤ m) (M : Int) (hMx : ∀ ts ty w, (Builtin.max_ ts ty #[.int .i64 z, .int .i64 0]).run Try.prog w = .ok (.int .i64 M) w) (hMn : ∀ ts ty w, (Builtin.min_ ts ty #[.int .i64 M, .int .i64 m]).run Try.prog w = .ok (.int .i64 j) w) (hg : (feedC p l (ch.take j)).fw = true) :
    Calls Try.prog 3 #[.agg #[.int .i64 p, .slice A n c], .slice B m d, .int .i64 z] W fun e w' => e = .returned (.bool true) ∧ Below W.heap.size W w' := by
  have b0 := (Bel.refl W).alloc (.cells #[.int .i64 p, .slice A n c] 24)
  have q0 := Blk.new W 24 #[.int .i64 p, .slice A n c]
  have q0_1 := q0.at 1 rfl
  have HY := Lib.hid h
  have HC := Lib.hid hc
  have GR := Lib.hid fun w => fGreat A n c w
  rw [show decide ((600 : Int) < n) = false from decide_eq_false (by omega)] at GR
  have GS := Lib.hid fun w => fGreat B m d w
  rw [show decide ((600 : Int) < m) = false from decide_eq_false (by omega)] at GS
  have RG := Lib.hid fun w (h : Byt w A n c l) => rRRight p A n c l w h (by omega)
  rw [show rightC p l = true from decide_eq_true hr] at RG
  have hl := h.len; have hcl0 := hc.len; have hcp := hc.cap; have hmx := hc.mx; have hnp := h.cap; have hnx := h.mx
  have hsp : ch = ch.take j ++ ch.drop j := (List.take_append_drop j ch).symm
  have hbl : Bs (l ++ ch.take j) := h.bs.append (hc.bs.take j)
  have hlx : (ch.take j).length = j := by rw [List.length_take]; omega
  have hly : (ch.drop j).length = m - j := by rw [List.length_drop]; omega
  have ftwo := feed_two (y := ch.drop j) hr hbl
  rw [← hsp] at ftwo
  have fr1 := feed_right (ch := ch) hr
  have fr2 := feed_right (ch := ch.take j) hr
  have ln2 := feed_len (p := p) (l := l) (ch := ch.take j)
  have ln1 := feed_len (p := p) (l := l) (ch := ch)
  have F1 := Lib.hid fun w (h : Byt w A n c l) (hc : Byt w B m d ch) => fFeed p ⟨p0, p1⟩ A n c l B m d ch w h hc (by omega) (by omega) hr
  have F2 := Lib.hid fun w (h : Byt w A n c l) (hc : Byt w (cutA B d 0) j d (ch.take j)) => fFeed p ⟨p0, p1⟩ A n c l (cutA B d 0) j d (ch.take j) w h hc (by omega) (by omega) hr
  obtain ⟨u1, u2, u3⟩ := feed_brk ftwo hg
  rw [u1, u2, u3] at F1
  rw [hg] at F2
  clear ftwo u1 u2 u3 hg
  generalize (feedC p l ch).p = P1 at *
  generalize (feedC p l ch).l = L1 at *
  generalize (feedC p l (ch.take j)).ps = PS at *
  generalize (feedC p l (ch.take j)).fc = FC at *
  generalize (feedC p l (ch.take j)).p = P2 at *
  generalize (feedC p l (ch.take j)).l = L2 at *
  have hcl : ∀ w, (Instr.slice 22 (.slice B m d) none (some (.int .i64 (j : Int))) none).run Try.prog w = .ok (.slice (cutA B d 0) j d) w := fun w => by
    have h1 := run_cut_h w B m d j (by omega) (by omega)
    rwa [Int.toNat_natCast] at h1
  have FR1 := Lib.hid fr1
  have FR2 := Lib.hid fr2
  have HJ := Lib.hid j1
  have HLN := Lib.hid (And.intro g0 g1)
  have LN := Lib.hid (And.intro ln1 ln2)
  have HLL := Lib.hid (And.intro hl (And.intro hcl0 (And.intro hlx hly)))
  clear h hc hr fr1 fr2 hl hcl0 hcp hmx hnp hnx hsp hbl hlx hly ln1 ln2 j1 g0 g1 p0 p1
  go_enter Try.func3, Try.ntmps3
  go_upto_region 4 with (first | (go_at_call 6; (with_reducible refine (GR.out _).mono ?_); rintro e w9 ⟨rfl, rfl⟩) | (go_at_call 6; (with_reducible refine (GS.out _).mono ?_); rintro e w9 ⟨rfl, rfl⟩) | ((with_reducible refine wpList_id ?_); refine wpList_getG (by rfl) _ _ rfl rfl q0 Try.underlying24 rfl (by rfl) ?_) | (go_at_call 7; (with_reducible refine (RG.out _ (HY.out.below b0.out)).mono ?_); rintro e w9 ⟨rfl, hb⟩; replace b0 := b0.below hb; replace q0 := q0.below hb; clear hb))
  clear hMx hMn q0_1 GR GS RG
  go_wp2_with ((with_reducible refine wpList_id ?_); refine wpList_getG (by rfl) _ _ rfl rfl q0 Try.underlying24 rfl (by rfl) ?_)
  refine (F1.out _ (HY.out.below b0.out) (HC.out.below b0.out)).mono ?_
  rintro e w1 ⟨A1, n1, c1, B1, m1, d1, es1, rfl, mA1, mC1, hps1, hb⟩
  replace b0 := b0.below hb
  replace q0 := q0.below hb
  have HPS1 := Lib.hid hps1
  clear hps1 hb
  replace mA1 := mA1.base_le (Nat.zero_le _)
  replace mC1 := mC1.base_le (Nat.zero_le _)
  have q7 := (Blk.new w1 24 #[.int .i64 P1, .slice A1 n1 c1]).alloc (.cells #[.bool true, .int .i64 0, .int .u32 FC] 31)
  have q9 := Blk.newAt (b := w1.heap.size + 1) (w1.alloc (.cells #[.int .i64 P1, .slice A1 n1 c1] 24)) 31 #[.bool true, .int .i64 0, .int .u32 FC] (by simp)
  replace b0 := (b0.alloc (.cells #[.int .i64 P1, .slice A1 n1 c1] 24)).alloc (.cells #[.bool true, .int .i64 0, .int .u32 FC] 31)
  replace q0 := (q0.alloc (.cells #[.int .i64 P1, .slice A1 n1 c1] 24)).alloc (.cells #[.bool true, .int .i64 0, .int .u32 FC] 31)
  replace mA1 := (mA1.alloc (.cells #[.int .i64 P1, .slice A1 n1 c1] 24)).alloc (.cells #[.bool true, .int .i64 0, .int .u32 FC] 31)
  replace mC1 := (mC1.alloc (.cells #[.int .i64 P1, .slice A1 n1 c1] 24)).alloc (.cells #[.bool true, .int .i64 0, .int .u32 FC] 31)
  go_wp2_with fail
  generalize (w1.alloc (.cells #[.int .i64 P1, .slice A1 n1 c1] 24)).alloc (.cells #[.bool true, .int .i64 0, .int .u32 FC] 31) = w5 at *
  refine wp_cutR (fun a a' w' => ∃ gR gF A2 n2 c2 B2 m2 d2 es2, a' = ((((((((((((((a.put (some 46) (.agg #[.int .i64 p, .slice A n c])).put (some 47) (.slice B m d)).put (some 48) (.int .i64 (j : Int))).put (some 49) (.slice (cutA B d 0) j d)).put (some 50) (.tuple #[.agg #[.int .i64 P2, .slice A2 n2 c2], .slice B2 m2 d2, .agg #[.bool true, .int .i64 0, .int .u32 FC], .int .i64 0])).put (some 45) (.tuple #[.agg #[.int .i64 P2, .slice A2 n2 c2], .slice B2 m2 d2, .agg #[.bool true, .int .i64 0, .int .u32 FC], .int .i64 0])).put (some 51) (.agg #[.int .i64 P2, .slice A2 n2 c2])).put (some 52) (.slice B2 m2 d2)).put (some 53) (.agg #[.bool true, .int .i64 0, .int .u32 FC])).put (some 54) (.int .i64 0)).put (some 11) (.pointer (some ⟨gR, 0, none⟩))).put (some 13) (.pointer (some ⟨gF, 0, none⟩))).put (some 12) (.slice B2 m2 d2)).put (some 14) (.int .i64 0)) ∧ Blk w' gR 24 #[.int .i64 P2, .slice A2 n2 c2] ∧ Blk w' gF 31 #[.bool true, .int .i64 0, .int .u32 FC] ∧ Mine 0 w' A2 n2 c2 L2 ∧ MineC 0 w' B2 m2 d2 es2 ∧ es2.map (·.p) = PS ∧ Below w5.heap.size w5 w' ∧ w5.heap.size ≤ gR ∧ w5.heap.size ≤ gF ∧ gR ≠ gF) ?reg ?rest
  case reg =>
    as_aux_lemma =>
      have bw := (Bel.refl w5).drew
      have hbx : W.heap.size < w5.heap.size := q0.lt
      have S0 : Blk w5.drew W.heap.size 24 #[.int .i64 p, .slice A n c] := q0.drew
      refine wp_region_noPanic ?_
      refine wp_region_G (fun w' => Blk w' W.heap.size 24 #[.int .i64 p, .slice A n c]) [] (by kernel_rfl) ?_
      refine wpAnyG_take 0 (v := .agg #[.int .i64 p, .slice A n c]) rfl (by kernel_rfl) (by intro _ _ _ h; cases h) S0 (Or.inl ⟨by rfl, by intro w' hSw; exact exec_getB (by rfl) (by rfl) hSw Try.underlying24 (by rfl) (by rfl)⟩) ?_; (try simp only [Act.put, List.getElem_toArray, List.getElem_cons_succ, List.getElem_cons_zero, List.setIfInBounds_toArray, List.set_cons_zero, List.set_cons_succ])
      refine wpAnyG_take 1 (v := ?_) rfl (by kernel_rfl) (by intro _ _ _ h; cases h) S0 (Or.inl ⟨by rfl, by intro w' hSw; go_simp; try with_reducible rfl⟩) ?_; (try simp only [Act.put, List.getElem_toArray, List.getElem_cons_succ, List.getElem_cons_zero, List.setIfInBounds_toArray, List.set_cons_zero, List.set_cons_succ])
      refine wpAnyG_take 2 (v := ?_) rfl (by kernel_rfl) (by intro _ _ _ h; cases h) S0 (Or.inl ⟨by rfl, by intro w' hSw; go_simp; try with_reducible rfl⟩) ?_; (try simp only [Act.put, List.getElem_toArray, List.getElem_cons_succ, List.getElem_cons_zero, List.setIfInBounds_toArray, List.set_cons_zero, List.set_cons_succ])
      refine wpAnyG_take 3 (v := ?_) rfl (by kernel_rfl) (by intro _ _ _ h; cases h) S0 (Or.inl ⟨by rfl, by intro w' hSw; go_simp; try with_reducible rfl⟩) ?_; (try simp only [Act.put, List.getElem_toArray, List.getElem_cons_succ, List.getElem_cons_zero, List.setIfInBounds_toArray, List.set_cons_zero, List.set_cons_succ])
      refine wpAnyG_three 4 10 11 (by kernel_rfl) rfl rfl rfl (fun K hK => ?_) (fun K hK => ?_) (fun K hK => ?_)
      · rw [if_pos (by rfl)]
        go_simp
        (with_reducible refine (F2.out _ (HY.out.below (b0.out.trans (bw.out.mono b0.out.size))) ((HC.out.below (b0.out.trans (bw.out.mono b0.out.size))).cutH HJ.out)).mono ?_)
        rintro e wd ⟨A2, n2, c2, B2, m2, d2, es2, rfl, mA2, mC2, hps2, hb⟩
        replace mA2 := mA2.base_le (Nat.zero_le _)
        replace mC2 := mC2.base_le (Nat.zero_le _)
        have HPS2 := Lib.hid hps2
        clear hps2
        replace bw := bw.below hb
        replace S0 : Blk wd W.heap.size 24 #[.int .i64 p, .slice A n c] := S0.below hb
        clear hb
        (try go_simp)
        refine hK.out _ _ (fun _ => S0) ?_
        clear hK K
        (try simp only [Act.put, List.getElem_toArray, List.getElem_cons_succ, List.getElem_cons_zero, List.setIfInBounds_toArray, List.set_cons_zero, List.set_cons_succ])
        refine wpAnyG_take 5 (v := ?_) rfl (by kernel_rfl) (by intro _ _ _ h; cases h) S0 (Or.inl ⟨by rfl, by intro w' hSw; go_simp; try with_reducible rfl⟩) ?_; (try simp only [Act.put, List.getElem_toArray, List.getElem_cons_succ, List.getElem_cons_zero, List.setIfInBounds_toArray, List.set_cons_zero, List.set_cons_succ])
        refine wpAnyG_take 6 (v := ?_) rfl (by kernel_rfl) (by intro _ _ _ h; cases h) S0 (Or.inl ⟨by rfl, by intro w' hSw; go_simp; try with_reducible rfl⟩) ?_; (try simp only [Act.put, List.getElem_toArray, List.getElem_cons_succ, List.getElem_cons_zero, List.setIfInBounds_toArray, List.set_cons_zero, List.set_cons_succ])
        refine wpAnyG_take 7 (v := ?_) rfl (by kernel_rfl) (by intro _ _ _ h; cases h) S0 (Or.inl ⟨by rfl, by intro w' hSw; go_simp; try with_reducible rfl⟩) ?_; (try simp only [Act.put, List.getElem_toArray, List.getElem_cons_succ, List.getElem_cons_zero, List.setIfInBounds_toArray, List.set_cons_zero, List.set_cons_succ])
        refine wpAnyG_take 8 (v := ?_) rfl (by kernel_rfl) (by intro _ _ _ h; cases h) S0 (Or.inl ⟨by rfl, by intro w' hSw; go_simp; try with_reducible rfl⟩) ?_; (try simp only [Act.put, List.getElem_toArray, List.getElem_cons_succ, List.getElem_cons_zero, List.setIfInBounds_toArray, List.set_cons_zero, List.set_cons_succ])
        refine wpAnyG_take 9 (v := ?_) rfl (by kernel_rfl) (by intro _ _ _ h; cases h) S0 (Or.inl ⟨by rfl, by intro w' hSw; go_simp; try with_reducible rfl⟩) ?_; (try simp only [Act.put, List.getElem_toArray, List.getElem_cons_succ, List.getElem_cons_zero, List.setIfInBounds_toArray, List.set_cons_zero, List.set_cons_succ])
        refine wpAnyG_two 10 11 (by kernel_rfl) rfl rfl (fun K hK => ?_) (fun K hK => ?_)
        · rw [if_pos (by rfl)]
          go_simp
          have hR : w5.heap.size ≤ wd.heap.size := by first | omega | (have hs := bw.out.size; (try simp at hs); omega)
          have qgR : Blk (wd.alloc (.cells #[.int .i64 0, .slice none 0 0] 24)) (wd.heap.size) 24 #[.int .i64 0, .slice none 0 0] := Blk.newAt (b := wd.heap.size) wd 24 #[.int .i64 0, .slice none 0 0] (by simp)
          replace bw : Bel w5 (wd.alloc (.cells #[.int .i64 0, .slice none 0 0] 24)) := ⟨(bw.alloc (.cells #[.int .i64 0, .slice none 0 0] 24)).out⟩
          replace S0 : Blk (wd.alloc (.cells #[.int .i64 0, .slice none 0 0] 24)) W.heap.size 24 #[.int .i64 p, .slice A n c] := S0.alloc (.cells #[.int .i64 0, .slice none 0 0] 24)
          replace mA2 : Mine 0 (wd.alloc (.cells #[.int .i64 0, .slice none 0 0] 24)) A2 n2 c2 L2 := mA2.alloc (.cells #[.int .i64 0, .slice none 0 0] 24)
          replace mC2 : MineC 0 (wd.alloc (.cells #[.int .i64 0, .slice none 0 0] 24)) B2 m2 d2 es2 := mC2.alloc (.cells #[.int .i64 0, .slice none 0 0] 24)
          (try go_simp)
          refine hK.out _ _ (fun _ => S0) ?_
          clear hK K
          (try simp only [Act.put, List.getElem_toArray, List.getElem_cons_succ, List.getElem_cons_zero, List.setIfInBounds_toArray, List.set_cons_zero, List.set_cons_succ])
          refine wpAnyG_one 11 (by kernel_rfl) rfl (fun K hK => ?_)
          rw [if_pos (by rfl)]
          go_simp
          have hF : w5.heap.size ≤ wd.heap.size + 1 := by first | omega | (have hs := bw.out.size; (try simp at hs); omega)
          have hne : wd.heap.size ≠ wd.heap.size + 1 := Nat.ne_of_lt (by have hs := qgR.lt; (try simp at hs); omega)
          have qgF : Blk ((wd.alloc (.cells #[.int .i64 0, .slice none 0 0] 24)).alloc (.cells #[.bool false, .int .i64 0, .int .u32 0] 31)) (wd.heap.size + 1) 31 #[.bool false, .int .i64 0, .int .u32 0] := Blk.newAt (b := wd.heap.size + 1) (wd.alloc (.cells #[.int .i64 0, .slice none 0 0] 24)) 31 #[.bool false, .int .i64 0, .int .u32 0] (by simp)
          replace bw : Bel w5 ((wd.alloc (.cells #[.int .i64 0, .slice none 0 0] 24)).alloc (.cells #[.bool false, .int .i64 0, .int .u32 0] 31)) := ⟨(bw.alloc (.cells #[.bool false, .int .i64 0, .int .u32 0] 31)).out⟩
          replace S0 : Blk ((wd.alloc (.cells #[.int .i64 0, .slice none 0 0] 24)).alloc (.cells #[.bool false, .int .i64 0, .int .u32 0] 31)) W.heap.size 24 #[.int .i64 p, .slice A n c] := S0.alloc (.cells #[.bool false, .int .i64 0, .int .u32 0] 31)
          replace mA2 : Mine 0 ((wd.alloc (.cells #[.int .i64 0, .slice none 0 0] 24)).alloc (.cells #[.bool false, .int .i64 0, .int .u32 0] 31)) A2 n2 c2 L2 := mA2.alloc (.cells #[.bool false, .int .i64 0, .int .u32 0] 31)
          replace mC2 : MineC 0 ((wd.alloc (.cells #[.int .i64 0, .slice none 0 0] 24)).alloc (.cells #[.bool false, .int .i64 0, .int .u32 0] 31)) B2 m2 d2 es2 := mC2.alloc (.cells #[.bool false, .int .i64 0, .int .u32 0] 31)
          replace qgR : Blk ((wd.alloc (.cells #[.int .i64 0, .slice none 0 0] 24)).alloc (.cells #[.bool false, .int .i64 0, .int .u32 0] 31)) (wd.heap.size) 24 #[.int .i64 0, .slice none 0 0] := qgR.alloc (.cells #[.bool false, .int .i64 0, .int .u32 0] 31)
          (try go_simp)
          refine hK.out _ _ (fun _ => S0) ?_
          clear hK K
          (try simp only [Act.put, List.getElem_toArray, List.getElem_cons_succ, List.getElem_cons_zero, List.setIfInBounds_toArray, List.set_cons_zero, List.set_cons_succ])
          refine wpAnyG_one 12 (by kernel_rfl) rfl (fun K hK => ?_)
          rw [if_pos (by rfl)]
          refine wp_putB _ _ _ rfl rfl rfl qgR (by rfl) (by rfl) (by rfl) ?_
          intro w8 qn hg
          replace bw := bw.grown hg hR
          replace mA2 := mA2.grownB qgR (by decide) hg
          replace mC2 := mC2.grownB qgR (by decide) (by decide) hg
          replace qgF := qgF.grown hg ((hne).symm)
          replace S0 : Blk w8 W.heap.size 24 #[.int .i64 p, .slice A n c] := S0.grown hg (by have := hbx; omega)
          clear hg qgR
          have qgR := qn
          clear qn
          (try go_simp)
          refine hK.out _ _ (fun _ => S0) ?_
          clear hK K
          (try simp only [Act.put, List.getElem_toArray, List.getElem_cons_succ, List.getElem_cons_zero, List.setIfInBounds_toArray, List.set_cons_zero, List.set_cons_succ])
          refine wpAnyG_take 13 (v := ?_) rfl (by kernel_rfl) (by intro _ _ _ h; cases h) S0 (Or.inl ⟨by rfl, by intro w' hSw; go_simp; try with_reducible rfl⟩) ?_; (try simp only [Act.put, List.getElem_toArray, List.getElem_cons_succ, List.getElem_cons_zero, List.setIfInBounds_toArray, List.set_cons_zero, List.set_cons_succ])
          refine wpAnyG_one 14 (by kernel_rfl) rfl (fun K hK => ?_)
          rw [if_pos (by rfl)]
          refine wp_putB _ _ _ rfl rfl rfl qgF (by rfl) (by rfl) (by rfl) ?_
          intro w8 qn hg
          replace bw := bw.grown hg hF
          replace mA2 := mA2.grownB qgF (by decide) hg
          replace mC2 := mC2.grownB qgF (by decide) (by decide) hg
          replace qgR := qgR.grown hg (hne)
          replace S0 : Blk w8 W.heap.size 24 #[.int .i64 p, .slice A n c] := S0.grown hg (by have := hbx; omega)
          clear hg qgF
          have qgF := qn
          clear qn
          (try go_simp)
          refine hK.out _ _ (fun _ => S0) ?_
          clear hK K
          (try simp only [Act.put, List.getElem_toArray, List.getElem_cons_succ, List.getElem_cons_zero, List.setIfInBounds_toArray, List.set_cons_zero, List.set_cons_succ])
          refine wpAnyG_take 15 (v := ?_) rfl (by kernel_rfl) (by intro _ _ _ h; cases h) S0 (Or.inl ⟨by rfl, by intro w' hSw; go_simp; try with_reducible rfl⟩) ?_; (try simp only [Act.put, List.getElem_toArray, List.getElem_cons_succ, List.getElem_cons_zero, List.setIfInBounds_toArray, List.set_cons_zero, List.set_cons_succ])
          refine wpAnyG_done (by kernel_rfl) ?_ _
          refine NoPanic.normal ?_
          refine ⟨rfl, _, _, A2, n2, c2, B2, m2, d2, es2, ?_, qgR, qgF, mA2, mC2, HPS2.out, bw.out, hR, hF, hne⟩
          (try simp only [Act.put, List.getElem_toArray, List.getElem_cons_succ, List.getElem_cons_zero, List.setIfInBounds_toArray, List.set_cons_zero, List.set_cons_succ])
          (try rfl)
        · rw [if_pos (by rfl)]
          go_simp
          have hF : w5.heap.size ≤ wd.heap.size := by first | omega | (have hs := bw.out.size; (try simp at hs); omega)
          have qgF : Blk (wd.alloc (.cells #[.bool false, .int .i64 0, .int .u32 0] 31)) (wd.heap.size) 31 #[.bool false, .int .i64 0, .int .u32 0] := Blk.newAt (b := wd.heap.size) wd 31 #[.bool false, .int .i64 0, .int .u32 0] (by simp)
          replace bw : Bel w5 (wd.alloc (.cells #[.bool false, .int .i64 0, .int .u32 0] 31)) := ⟨(bw.alloc (.cells #[.bool false, .int .i64 0, .int .u32 0] 31)).out⟩
          replace S0 : Blk (wd.alloc (.cells #[.bool false, .int .i64 0, .int .u32 0] 31)) W.heap.size 24 #[.int .i64 p, .slice A n c] := S0.alloc (.cells #[.bool false, .int .i64 0, .int .u32 0] 31)
          replace mA2 : Mine 0 (wd.alloc (.cells #[.bool false, .int .i64 0, .int .u32 0] 31)) A2 n2 c2 L2 := mA2.alloc (.cells #[.bool false, .int .i64 0, .int .u32 0] 31)
          replace mC2 : MineC 0 (wd.alloc (.cells #[.bool false, .int .i64 0, .int .u32 0] 31)) B2 m2 d2 es2 := mC2.alloc (.cells #[.bool false, .int .i64 0, .int .u32 0] 31)
          (try go_simp)
          refine hK.out _ _ (fun _ => S0) ?_
          clear hK K
          (try simp only [Act.put, List.getElem_toArray, List.getElem_cons_succ, List.getElem_cons_zero, List.setIfInBounds_toArray, List.set_cons_zero, List.set_cons_succ])
          refine wpAnyG_one 10 (by kernel_rfl) rfl (fun K hK => ?_)
          rw [if_pos (by rfl)]
          go_simp
          have hR : w5.heap.size ≤ wd.heap.size + 1 := by first | omega | (have hs := bw.out.size; (try simp at hs); omega)
          have hne : wd.heap.size ≠ wd.heap.size + 1 := Nat.ne_of_lt (by have hs := qgF.lt; (try simp at hs); omega)
          have qgR : Blk ((wd.alloc (.cells #[.bool false, .int .i64 0, .int .u32 0] 31)).alloc (.cells #[.int .i64 0, .slice none 0 0] 24)) (wd.heap.size + 1) 24 #[.int .i64 0, .slice none 0 0] := Blk.newAt (b := wd.heap.size + 1) (wd.alloc (.cells #[.bool false, .int .i64 0, .int .u32 0] 31)) 24 #[.int .i64 0, .slice none 0 0] (by simp)
          replace bw : Bel w5 ((wd.alloc (.cells #[.bool false, .int .i64 0, .int .u32 0] 31)).alloc (.cells #[.int .i64 0, .slice none 0 0] 24)) := ⟨(bw.alloc (.cells #[.int .i64 0, .slice none 0 0] 24)).out⟩
          replace S0 : Blk ((wd.alloc (.cells #[.bool false, .int .i64 0, .int .u32 0] 31)).alloc (.cells #[.int .i64 0, .slice none 0 0] 24)) W.heap.size 24 #[.int .i64 p, .slice A n c] := S0.alloc (.cells #[.int .i64 0, .slice none 0 0] 24)
          replace mA2 : Mine 0 ((wd.alloc (.cells #[.bool false, .int .i64 0, .int .u32 0] 31)).alloc (.cells #[.int .i64 0, .slice none 0 0] 24)) A2 n2 c2 L2 := mA2.alloc (.cells #[.int .i64 0, .slice none 0 0] 24)
          replace mC2 : MineC 0 ((wd.alloc (.cells #[.bool false, .int .i64 0, .int .u32 0] 31)).alloc (.cells #[.int .i64 0, .slice none 0 0] 24)) B2 m2 d2 es2 := mC2.alloc (.cells #[.int .i64 0, .slice none 0 0] 24)
          replace qgF : Blk ((wd.alloc (.cells #[.bool false, .int .i64 0, .int .u32 0] 31)).alloc (.cells #[.int .i64 0, .slice none 0 0] 24)) (wd.heap.size) 31 #[.bool false, .int .i64 0, .int .u32 0] := qgF.alloc (.cells #[.int .i64 0, .slice none 0 0] 24)
          (try go_simp)
          refine hK.out _ _ (fun _ => S0) ?_
          clear hK K
          (try simp only [Act.put, List.getElem_toArray, List.getElem_cons_succ, List.getElem_cons_zero, List.setIfInBounds_toArray, List.set_cons_zero, List.set_cons_succ])
          refine wpAnyG_one 12 (by kernel_rfl) rfl (fun K hK => ?_)
          rw [if_pos (by rfl)]
          refine wp_putB _ _ _ rfl rfl rfl qgR (by rfl) (by rfl) (by rfl) ?_
          intro w8 qn hg
          replace bw := bw.grown hg hR
          replace mA2 := mA2.grownB qgR (by decide) hg
          replace mC2 := mC2.grownB qgR (by decide) (by decide) hg
          replace qgF := qgF.grown hg ((hne.symm).symm)
          replace S0 : Blk w8 W.heap.size 24 #[.int .i64 p, .slice A n c] := S0.grown hg (by have := hbx; omega)
          clear hg qgR
          have qgR := qn
          clear qn
          (try go_simp)
          refine hK.out _ _ (fun _ => S0) ?_
          clear hK K
          (try simp only [Act.put, List.getElem_toArray, List.getElem_cons_succ, List.getElem_cons_zero, List.setIfInBounds_toArray, List.set_cons_zero, List.set_cons_succ])
          refine wpAnyG_take 13 (v := ?_) rfl (by kernel_rfl) (by intro _ _ _ h; cases h) S0 (Or.inl ⟨by rfl, by intro w' hSw; go_simp; try with_reducible rfl⟩) ?_; (try simp only [Act.put, List.getElem_toArray, List.getElem_cons_succ, List.getElem_cons_zero, List.setIfInBounds_toArray, List.set_cons_zero, List.set_cons_succ])
          refine wpAnyG_one 14 (by kernel_rfl) rfl (fun K hK => ?_)
          rw [if_pos (by rfl)]
          refine wp_putB _ _ _ rfl rfl rfl qgF (by rfl) (by rfl) (by rfl) ?_
          intro w8 qn hg
          replace bw := bw.grown hg hF
          replace mA2 := mA2.grownB qgF (by decide) hg
          replace mC2 := mC2.grownB qgF (by decide) (by decide) hg
          replace qgR := qgR.grown hg (hne.symm)
          replace S0 : Blk w8 W.heap.size 24 #[.int .i64 p, .slice A n c] := S0.grown hg (by have := hbx; omega)
          clear hg qgF
          have qgF := qn
          clear qn
          (try go_simp)
          refine hK.out _ _ (fun _ => S0) ?_
          clear hK K
          (try simp only [Act.put, List.getElem_toArray, List.getElem_cons_succ, List.getElem_cons_zero, List.setIfInBounds_toArray, List.set_cons_zero, List.set_cons_succ])
          refine wpAnyG_take 15 (v := ?_) rfl (by kernel_rfl) (by intro _ _ _ h; cases h) S0 (Or.inl ⟨by rfl, by intro w' hSw; go_simp; try with_reducible rfl⟩) ?_; (try simp only [Act.put, List.getElem_toArray, List.getElem_cons_succ, List.getElem_cons_zero, List.setIfInBounds_toArray, List.set_cons_zero, List.set_cons_succ])
          refine wpAnyG_done (by kernel_rfl) ?_ _
          refine NoPanic.normal ?_
          refine ⟨rfl, _, _, A2, n2, c2, B2, m2, d2, es2, ?_, qgR, qgF, mA2, mC2, HPS2.out, bw.out, hR, hF, hne.symm⟩
          (try simp only [Act.put, List.getElem_toArray, List.getElem_cons_succ, List.getElem_cons_zero, List.setIfInBounds_toArray, List.set_cons_zero, List.set_cons_succ])
          (try rfl)
      · rw [if_pos (by rfl)]
        go_simp
        have hR : w5.heap.size ≤ w5.heap.size := by first | omega | (have hs := bw.out.size; (try simp at hs); omega)
        have qgR : Blk (w5.alloc (.cells #[.int .i64 0, .slice none 0 0] 24)).drew (w5.heap.size) 24 #[.int .i64 0, .slice none 0 0] := Blk.newAt (b := w5.heap.size) w5 24 #[.int .i64 0, .slice none 0 0] (by simp)
        replace bw : Bel w5 (w5.alloc (.cells #[.int .i64 0, .slice none 0 0] 24)).drew := ⟨(bw.alloc (.cells #[.int .i64 0, .slice none 0 0] 24)).out⟩
        replace S0 : Blk (w5.alloc (.cells #[.int .i64 0, .slice none 0 0] 24)).drew W.heap.size 24 #[.int .i64 p, .slice A n c] := S0.alloc (.cells #[.int .i64 0, .slice none 0 0] 24)
        (try go_simp)
        refine hK.out _ _ (fun _ => S0) ?_
        clear hK K
        (try simp only [Act.put, List.getElem_toArray, List.getElem_cons_succ, List.getElem_cons_zero, List.setIfInBounds_toArray, List.set_cons_zero, List.set_cons_succ])
        refine wpAnyG_two 4 11 (by kernel_rfl) rfl rfl (fun K hK => ?_) (fun K hK => ?_)
        · rw [if_pos (by rfl)]
          go_simp
          (with_reducible refine (F2.out _ (HY.out.below (b0.out.trans (bw.out.mono b0.out.size))) ((HC.out.below (b0.out.trans (bw.out.mono b0.out.size))).cutH HJ.out)).mono ?_)
          rintro e wd ⟨A2, n2, c2, B2, m2, d2, es2, rfl, mA2, mC2, hps2, hb⟩
          replace mA2 := mA2.base_le (Nat.zero_le _)
          replace mC2 := mC2.base_le (Nat.zero_le _)
          have HPS2 := Lib.hid hps2
          clear hps2
          replace bw := bw.below hb
          replace S0 : Blk wd W.heap.size 24 #[.int .i64 p, .slice A n c] := S0.below hb
          replace qgR := qgR.below hb
          clear hb
          (try go_simp)
          refine hK.out _ _ (fun _ => S0) ?_
          clear hK K
          (try simp only [Act.put, List.getElem_toArray, List.getElem_cons_succ, List.getElem_cons_zero, List.setIfInBounds_toArray, List.set_cons_zero, List.set_cons_succ])
          refine wpAnyG_take 5 (v := ?_) rfl (by kernel_rfl) (by intro _ _ _ h; cases h) S0 (Or.inl ⟨by rfl, by intro w' hSw; go_simp; try with_reducible rfl⟩) ?_; (try simp only [Act.put, List.getElem_toArray, List.getElem_cons_succ, List.getElem_cons_zero, List.setIfInBounds_toArray, List.set_cons_zero, List.set_cons_succ])
          refine wpAnyG_take 6 (v := ?_) rfl (by kernel_rfl) (by intro _ _ _ h; cases h) S0 (Or.inl ⟨by rfl, by intro w' hSw; go_simp; try with_reducible rfl⟩) ?_; (try simp only [Act.put, List.getElem_toArray, List.getElem_cons_succ, List.getElem_cons_zero, List.setIfInBounds_toArray, List.set_cons_zero, List.set_cons_succ])
          refine wpAnyG_take 7 (v := ?_) rfl (by kernel_rfl) (by intro _ _ _ h; cases h) S0 (Or.inl ⟨by rfl, by intro w' hSw; go_simp; try with_reducible rfl⟩) ?_; (try simp only [Act.put, List.getElem_toArray, List.getElem_cons_succ, List.getElem_cons_zero, List.setIfInBounds_toArray, List.set_cons_zero, List.set_cons_succ])
          refine wpAnyG_take 8 (v := ?_) rfl (by kernel_rfl) (by intro _ _ _ h; cases h) S0 (Or.inl ⟨by rfl, by intro w' hSw; go_simp; try with_reducible rfl⟩) ?_; (try simp only [Act.put, List.getElem_toArray, List.getElem_cons_succ, List.getElem_cons_zero, List.setIfInBounds_toArray, List.set_cons_zero, List.set_cons_succ])
          refine wpAnyG_take 9 (v := ?_) rfl (by kernel_rfl) (by intro _ _ _ h; cases h) S0 (Or.inl ⟨by rfl, by intro w' hSw; go_simp; try with_reducible rfl⟩) ?_; (try simp only [Act.put, List.getElem_toArray, List.getElem_cons_succ, List.getElem_cons_zero, List.setIfInBounds_toArray, List.set_cons_zero, List.set_cons_succ])
          refine wpAnyG_one 11 (by kernel_rfl) rfl (fun K hK => ?_)
          rw [if_pos (by rfl)]
          go_simp
          have hF : w5.heap.size ≤ wd.heap.size := by first | omega | (have hs := bw.out.size; (try simp at hs); omega)
          have hne : w5.heap.size ≠ wd.heap.size := Nat.ne_of_lt (by have hs := qgR.lt; (try simp at hs); omega)
          have qgF : Blk (wd.alloc (.cells #[.bool false, .int .i64 0, .int .u32 0] 31)) (wd.heap.size) 31 #[.bool false, .int .i64 0, .int .u32 0] := Blk.newAt (b := wd.heap.size) wd 31 #[.bool false, .int .i64 0, .int .u32 0] (by simp)
          replace bw : Bel w5 (wd.alloc (.cells #[.bool false, .int .i64 0, .int .u32 0] 31)) := ⟨(bw.alloc (.cells #[.bool false, .int .i64 0, .int .u32 0] 31)).out⟩
          replace S0 : Blk (wd.alloc (.cells #[.bool false, .int .i64 0, .int .u32 0] 31)) W.heap.size 24 #[.int .i64 p, .slice A n c] := S0.alloc (.cells #[.bool false, .int .i64 0, .int .u32 0] 31)
          replace qgR : Blk (wd.alloc (.cells #[.bool false, .int .i64 0, .int .u32 0] 31)) (w5.heap.size) 24 #[.int .i64 0, .slice none 0 0] := qgR.alloc (.cells #[.bool false, .int .i64 0, .int .u32 0] 31)
          replace mA2 : Mine 0 (wd.alloc (.cells #[.bool false, .int .i64 0, .int .u32 0] 31)) A2 n2 c2 L2 := mA2.alloc (.cells #[.bool false, .int .i64 0, .int .u32 0] 31)
          replace mC2 : MineC 0 (wd.alloc (.cells #[.bool false, .int .i64 0, .int .u32 0] 31)) B2 m2 d2 es2 := mC2.alloc (.cells #[.bool false, .int .i64 0, .int .u32 0] 31)
          (try go_simp)
          refine hK.out _ _ (fun _ => S0) ?_
          clear hK K
          (try simp only [Act.put, List.getElem_toArray, List.getElem_cons_succ, List.getElem_cons_zero, List.setIfInBounds_toArray, List.set_cons_zero, List.set_cons_succ])
          refine wpAnyG_one 12 (by kernel_rfl) rfl (fun K hK => ?_)
          rw [if_pos (by rfl)]
          refine wp_putB _ _ _ rfl rfl rfl qgR (by rfl) (by rfl) (by rfl) ?_
          intro w8 qn hg
          replace bw := bw.grown hg hR
          replace mA2 := mA2.grownB qgR (by decide) hg
          replace mC2 := mC2.grownB qgR (by decide) (by decide) hg
          replace qgF := qgF.grown hg ((hne).symm)
          replace S0 : Blk w8 W.heap.size 24 #[.int .i64 p, .slice A n c] := S0.grown hg (by have := hbx; omega)
          clear hg qgR
          have qgR := qn
          clear qn
          (try go_simp)
          refine hK.out _ _ (fun _ => S0) ?_
          clear hK K
          (try simp only [Act.put, List.getElem_toArray, List.getElem_cons_succ, List.getElem_cons_zero, List.setIfInBounds_toArray, List.set_cons_zero, List.set_cons_succ])
          refine wpAnyG_take 13 (v := ?_) rfl (by kernel_rfl) (by intro _ _ _ h; cases h) S0 (Or.inl ⟨by rfl, by intro w' hSw; go_simp; try with_reducible rfl⟩) ?_; (try simp only [Act.put, List.getElem_toArray, List.getElem_cons_succ, List.getElem_cons_zero, List.setIfInBounds_toArray, List.set_cons_zero, List.set_cons_succ])
          refine wpAnyG_one 14 (by kernel_rfl) rfl (fun K hK => ?_)
          rw [if_pos (by rfl)]
          refine wp_putB _ _ _ rfl rfl rfl qgF (by rfl) (by rfl) (by rfl) ?_
          intro w8 qn hg
          replace bw := bw.grown hg hF
          replace mA2 := mA2.grownB qgF (by decide) hg
          replace mC2 := mC2.grownB qgF (by decide) (by decide) hg
          replace qgR := qgR.grown hg (hne)
          replace S0 : Blk w8 W.heap.size 24 #[.int .i64 p, .slice A n c] := S0.grown hg (by have := hbx; omega)
          clear hg qgF
          have qgF := qn
          clear qn
          (try go_simp)
          refine hK.out _ _ (fun _ => S0) ?_
          clear hK K
          (try simp only [Act.put, List.getElem_toArray, List.getElem_cons_succ, List.getElem_cons_zero, List.setIfInBounds_toArray, List.set_cons_zero, List.set_cons_succ])
          refine wpAnyG_take 15 (v := ?_) rfl (by kernel_rfl) (by intro _ _ _ h; cases h) S0 (Or.inl ⟨by rfl, by intro w' hSw; go_simp; try with_reducible rfl⟩) ?_; (try simp only [Act.put, List.getElem_toArray, List.getElem_cons_succ, List.getElem_cons_zero, List.setIfInBounds_toArray, List.set_cons_zero, List.set_cons_succ])
          refine wpAnyG_done (by kernel_rfl) ?_ _
          refine NoPanic.normal ?_
          refine ⟨rfl, _, _, A2, n2, c2, B2, m2, d2, es2, ?_, qgR, qgF, mA2, mC2, HPS2.out, bw.out, hR, hF, hne⟩
          (try simp only [Act.put, List.getElem_toArray, List.getElem_cons_succ, List.getElem_cons_zero, List.setIfInBounds_toArray, List.set_cons_zero, List.set_cons_succ])
          (try rfl)
        · rw [if_pos (by rfl)]
          go_simp
          have hF : w5.heap.size ≤ w5.heap.size + 1 := by first | omega | (have hs := bw.out.size; (try simp at hs); omega)
          have hne : w5.heap.size ≠ w5.heap.size + 1 := Nat.ne_of_lt (by have hs := qgR.lt; (try simp at hs); omega)
          have qgF : Blk ((w5.alloc (.cells #[.int .i64 0, .slice none 0 0] 24)).alloc (.cells #[.bool false, .int .i64 0, .int .u32 0] 31)).drew (w5.heap.size + 1) 31 #[.bool false, .int .i64 0, .int .u32 0] := Blk.newAt (b := w5.heap.size + 1) (w5.alloc (.cells #[.int .i64 0, .slice none 0 0] 24)) 31 #[.bool false, .int .i64 0, .int .u32 0] (by simp)
          replace bw : Bel w5 ((w5.alloc (.cells #[.int .i64 0, .slice none 0 0] 24)).alloc (.cells #[.bool false, .int .i64 0, .int .u32 0] 31)).drew := ⟨(bw.alloc (.cells #[.bool false, .int .i64 0, .int .u32 0] 31)).out⟩
          replace S0 : Blk ((w5.alloc (.cells #[.int .i64 0, .slice none 0 0] 24)).alloc (.cells #[.bool false, .int .i64 0, .int .u32 0] 31)).drew W.heap.size 24 #[.int .i64 p, .slice A n c] := S0.alloc (.cells #[.bool false, .int .i64 0, .int .u32 0] 31)
          replace qgR : Blk ((w5.alloc (.cells #[.int .i64 0, .slice none 0 0] 24)).alloc (.cells #[.bool false, .int .i64 0, .int .u32 0] 31)).drew (w5.heap.size) 24 #[.int .i64 0, .slice none 0 0] := qgR.alloc (.cells #[.bool false, .int .i64 0, .int .u32 0] 31)
          (try go_simp)
          refine hK.out _ _ (fun _ => S0) ?_
          clear hK K
          (try simp only [Act.put, List.getElem_toArray, List.getElem_cons_succ, List.getElem_cons_zero, List.setIfInBounds_toArray, List.set_cons_zero, List.set_cons_succ])
          refine wpAnyG_one 4 (by kernel_rfl) rfl (fun K hK => ?_)
          rw [if_pos (by rfl)]
          go_simp
          (with_reducible refine (F2.out _ (HY.out.below (b0.out.trans (bw.out.mono b0.out.size))) ((HC.out.below (b0.out.trans (bw.out.mono b0.out.size))).cutH HJ.out)).mono ?_)
          rintro e wd ⟨A2, n2, c2, B2, m2, d2, es2, rfl, mA2, mC2, hps2, hb⟩
          replace mA2 := mA2.base_le (Nat.zero_le _)
          replace mC2 := mC2.base_le (Nat.zero_le _)
          have HPS2 := Lib.hid hps2
          clear hps2
          replace bw := bw.below hb
          replace S0 : Blk wd W.heap.size 24 #[.int .i64 p, .slice A n c] := S0.below hb
          replace qgR := qgR.below hb
          replace qgF := qgF.below hb
          clear hb
          (try go_simp)
          refine hK.out _ _ (fun _ => S0) ?_
          clear hK K
          (try simp only [Act.put, List.getElem_toArray, List.getElem_cons_succ, List.getElem_cons_zero, List.setIfInBounds_toArray, List.set_cons_zero, List.set_cons_succ])
          refine wpAnyG_take 5 (v := ?_) rfl (by kernel_rfl) (by intro _ _ _ h; cases h) S0 (Or.inl ⟨by rfl, by intro w' hSw; go_simp; try with_reducible rfl⟩) ?_; (try simp only [Act.put, List.getElem_toArray, List.getElem_cons_succ, List.getElem_cons_zero, List.setIfInBounds_toArray, List.set_cons_zero, List.set_cons_succ])
          refine wpAnyG_take 6 (v := ?_) rfl (by kernel_rfl) (by intro _ _ _ h; cases h) S0 (Or.inl ⟨by rfl, by intro w' hSw; go_simp; try with_reducible rfl⟩) ?_; (try simp only [Act.put, List.getElem_toArray, List.getElem_cons_succ, List.getElem_cons_zero, List.setIfInBounds_toArray, List.set_cons_zero, List.set_cons_succ])
          refine wpAnyG_take 7 (v := ?_) rfl (by kernel_rfl) (by intro _ _ _ h; cases h) S0 (Or.inl ⟨by rfl, by intro w' hSw; go_simp; try with_reducible rfl⟩) ?_; (try simp only [Act.put, List.getElem_toArray, List.getElem_cons_succ, List.getElem_cons_zero, List.setIfInBounds_toArray, List.set_cons_zero, List.set_cons_succ])
          refine wpAnyG_take 8 (v := ?_) rfl (by kernel_rfl) (by intro _ _ _ h; cases h) S0 (Or.inl ⟨by rfl, by intro w' hSw; go_simp; try with_reducible rfl⟩) ?_; (try simp only [Act.put, List.getElem_toArray, List.getElem_cons_succ, List.getElem_cons_zero, List.setIfInBounds_toArray, List.set_cons_zero, List.set_cons_succ])
          refine wpAnyG_take 9 (v := ?_) rfl (by kernel_rfl) (by intro _ _ _ h; cases h) S0 (Or.inl ⟨by rfl, by intro w' hSw; go_simp; try with_reducible rfl⟩) ?_; (try simp only [Act.put, List.getElem_toArray, List.getElem_cons_succ, List.getElem_cons_zero, List.setIfInBounds_toArray, List.set_cons_zero, List.set_cons_succ])
          refine wpAnyG_one 12 (by kernel_rfl) rfl (fun K hK => ?_)
          rw [if_pos (by rfl)]
          refine wp_putB _ _ _ rfl rfl rfl qgR (by rfl) (by rfl) (by rfl) ?_
          intro w8 qn hg
          replace bw := bw.grown hg hR
          replace mA2 := mA2.grownB qgR (by decide) hg
          replace mC2 := mC2.grownB qgR (by decide) (by decide) hg
          replace qgF := qgF.grown hg ((hne).symm)
          replace S0 : Blk w8 W.heap.size 24 #[.int .i64 p, .slice A n c] := S0.grown hg (by have := hbx; omega)
          clear hg qgR
          have qgR := qn
          clear qn
          (try go_simp)
          refine hK.out _ _ (fun _ => S0) ?_
          clear hK K
          (try simp only [Act.put, List.getElem_toArray, List.getElem_cons_succ, List.getElem_cons_zero, List.setIfInBounds_toArray, List.set_cons_zero, List.set_cons_succ])
          refine wpAnyG_take 13 (v := ?_) rfl (by kernel_rfl) (by intro _ _ _ h; cases h) S0 (Or.inl ⟨by rfl, by intro w' hSw; go_simp; try with_reducible rfl⟩) ?_; (try simp only [Act.put, List.getElem_toArray, List.getElem_cons_succ, List.getElem_cons_zero, List.setIfInBounds_toArray, List.set_cons_zero, List.set_cons_succ])
          refine wpAnyG_one 14 (by kernel_rfl) rfl (fun K hK => ?_)
          rw [if_pos (by rfl)]
          refine wp_putB _ _ _ rfl rfl rfl qgF (by rfl) (by rfl) (by rfl) ?_
          intro w8 qn hg
          replace bw := bw.grown hg hF
          replace mA2 := mA2.grownB qgF (by decide) hg
          replace mC2 := mC2.grownB qgF (by decide) (by decide) hg
          replace qgR := qgR.grown hg (hne)
          replace S0 : Blk w8 W.heap.size 24 #[.int .i64 p, .slice A n c] := S0.grown hg (by have := hbx; omega)
          clear hg qgF
          have qgF := qn
          clear qn
          (try go_simp)
          refine hK.out _ _ (fun _ => S0) ?_
          clear hK K
          (try simp only [Act.put, List.getElem_toArray, List.getElem_cons_succ, List.getElem_cons_zero, List.setIfInBounds_toArray, List.set_cons_zero, List.set_cons_succ])
          refine wpAnyG_take 15 (v := ?_) rfl (by kernel_rfl) (by intro _ _ _ h; cases h) S0 (Or.inl ⟨by rfl, by intro w' hSw; go_simp; try with_reducible rfl⟩) ?_; (try simp only [Act.put, List.getElem_toArray, List.getElem_cons_succ, List.getElem_cons_zero, List.setIfInBounds_toArray, List.set_cons_zero, List.set_cons_succ])
          refine wpAnyG_done (by kernel_rfl) ?_ _
          refine NoPanic.normal ?_
          refine ⟨rfl, _, _, A2, n2, c2, B2, m2, d2, es2, ?_, qgR, qgF, mA2, mC2, HPS2.out, bw.out, hR, hF, hne⟩
          (try simp only [Act.put, List.getElem_toArray, List.getElem_cons_succ, List.getElem_cons_zero, List.setIfInBounds_toArray, List.set_cons_zero, List.set_cons_succ])
          (try rfl)
      · rw [if_pos (by rfl)]
        go_simp
        have hF : w5.heap.size ≤ w5.heap.size := by first | omega | (have hs := bw.out.size; (try simp at hs); omega)
        have qgF : Blk (w5.alloc (.cells #[.bool false, .int .i64 0, .int .u32 0] 31)).drew (w5.heap.size) 31 #[.bool false, .int .i64 0, .int .u32 0] := Blk.newAt (b := w5.heap.size) w5 31 #[.bool false, .int .i64 0, .int .u32 0] (by simp)
        replace bw : Bel w5 (w5.alloc (.cells #[.bool false, .int .i64 0, .int .u32 0] 31)).drew := ⟨(bw.alloc (.cells #[.bool false, .int .i64 0, .int .u32 0] 31)).out⟩
        replace S0 : Blk (w5.alloc (.cells #[.bool false, .int .i64 0, .int .u32 0] 31)).drew W.heap.size 24 #[.int .i64 p, .slice A n c] := S0.alloc (.cells #[.bool false, .int .i64 0, .int .u32 0] 31)
        (try go_simp)
        refine hK.out _ _ (fun _ => S0) ?_
        clear hK K
        (try simp only [Act.put, List.getElem_toArray, List.getElem_cons_succ, List.getElem_cons_zero, List.setIfInBounds_toArray, List.set_cons_zero, List.set_cons_succ])
        refine wpAnyG_two 4 10 (by kernel_rfl) rfl rfl (fun K hK => ?_) (fun K hK => ?_)
        · rw [if_pos (by rfl)]
          go_simp
          (with_reducible refine (F2.out _ (HY.out.below (b0.out.trans (bw.out.mono b0.out.size))) ((HC.out.below (b0.out.trans (bw.out.mono b0.out.size))).cutH HJ.out)).mono ?_)
          rintro e wd ⟨A2, n2, c2, B2, m2, d2, es2, rfl, mA2, mC2, hps2, hb⟩
          replace mA2 := mA2.base_le (Nat.zero_le _)
          replace mC2 := mC2.base_le (Nat.zero_le _)
          have HPS2 := Lib.hid hps2
          clear hps2
          replace bw := bw.below hb
          replace S0 : Blk wd W.heap.size 24 #[.int .i64 p, .slice A n c] := S0.below hb
          replace qgF := qgF.below hb
          clear hb
          (try go_simp)
          refine hK.out _ _ (fun _ => S0) ?_
          clear hK K
          (try simp only [Act.put, List.getElem_toArray, List.getElem_cons_succ, List.getElem_cons_zero, List.setIfInBounds_toArray, List.set_cons_zero, List.set_cons_succ])
          refine wpAnyG_take 5 (v := ?_) rfl (by kernel_rfl) (by intro _ _ _ h; cases h) S0 (Or.inl ⟨by rfl, by intro w' hSw; go_simp; try with_reducible rfl⟩) ?_; (try simp only [Act.put, List.getElem_toArray, List.getElem_cons_succ, List.getElem_cons_zero, List.setIfInBounds_toArray, List.set_cons_zero, List.set_cons_succ])
          refine wpAnyG_take 6 (v := ?_) rfl (by kernel_rfl) (by intro _ _ _ h; cases h) S0 (Or.inl ⟨by rfl, by intro w' hSw; go_simp; try with_reducible rfl⟩) ?_; (try simp only [Act.put, List.getElem_toArray, List.getElem_cons_succ, List.getElem_cons_zero, List.setIfInBounds_toArray, List.set_cons_zero, List.set_cons_succ])
          refine wpAnyG_take 7 (v := ?_) rfl (by kernel_rfl) (by intro _ _ _ h; cases h) S0 (Or.inl ⟨by rfl, by intro w' hSw; go_simp; try with_reducible rfl⟩) ?_; (try simp only [Act.put, List.getElem_toArray, List.getElem_cons_succ, List.getElem_cons_zero, List.setIfInBounds_toArray, List.set_cons_zero, List.set_cons_succ])
          refine wpAnyG_take 8 (v := ?_) rfl (by kernel_rfl) (by intro _ _ _ h; cases h) S0 (Or.inl ⟨by rfl, by intro w' hSw; go_simp; try with_reducible rfl⟩) ?_; (try simp only [Act.put, List.getElem_toArray, List.getElem_cons_succ, List.getElem_cons_zero, List.setIfInBounds_toArray, List.set_cons_zero, List.set_cons_succ])
          refine wpAnyG_take 9 (v := ?_) rfl (by kernel_rfl) (by intro _ _ _ h; cases h) S0 (Or.inl ⟨by rfl, by intro w' hSw; go_simp; try with_reducible rfl⟩) ?_; (try simp only [Act.put, List.getElem_toArray, List.getElem_cons_succ, List.getElem_cons_zero, List.setIfInBounds_toArray, List.set_cons_zero, List.set_cons_succ])
          refine wpAnyG_one 10 (by kernel_rfl) rfl (fun K hK => ?_)
          rw [if_pos (by rfl)]
          go_simp
          have hR : w5.heap.size ≤ wd.heap.size := by first | omega | (have hs := bw.out.size; (try simp at hs); omega)
          have hne : w5.heap.size ≠ wd.heap.size := Nat.ne_of_lt (by have hs := qgF.lt; (try simp at hs); omega)
          have qgR : Blk (wd.alloc (.cells #[.int .i64 0, .slice none 0 0] 24)) (wd.heap.size) 24 #[.int .i64 0, .slice none 0 0] := Blk.newAt (b := wd.heap.size) wd 24 #[.int .i64 0, .slice none 0 0] (by simp)
          replace bw : Bel w5 (wd.alloc (.cells #[.int .i64 0, .slice none 0 0] 24)) := ⟨(bw.alloc (.cells #[.int .i64 0, .slice none 0 0] 24)).out⟩
          replace S0 : Blk (wd.alloc (.cells #[.int .i64 0, .slice none 0 0] 24)) W.heap.size 24 #[.int .i64 p, .slice A n c] := S0.alloc (.cells #[.int .i64 0, .slice none 0 0] 24)
          replace qgF : Blk (wd.alloc (.cells #[.int .i64 0, .slice none 0 0] 24)) (w5.heap.size) 31 #[.bool false, .int .i64 0, .int .u32 0] := qgF.alloc (.cells #[.int .i64 0, .slice none 0 0] 24)
          replace mA2 : Mine 0 (wd.alloc (.cells #[.int .i64 0, .slice none 0 0] 24)) A2 n2 c2 L2 := mA2.alloc (.cells #[.int .i64 0, .slice none 0 0] 24)
          replace mC2 : MineC 0 (wd.alloc (.cells #[.int .i64 0, .slice none 0 0] 24)) B2 m2 d2 es2 := mC2.alloc (.cells #[.int .i64 0, .slice none 0 0] 24)
          (try go_simp)
          refine hK.out _ _ (fun _ => S0) ?_
          clear hK K
          (try simp only [Act.put, List.getElem_toArray, List.getElem_cons_succ, List.getElem_cons_zero, List.setIfInBounds_toArray, List.set_cons_zero, List.set_cons_succ])
          refine wpAnyG_one 12 (by kernel_rfl) rfl (fun K hK => ?_)
          rw [if_pos (by rfl)]
          refine wp_putB _ _ _ rfl rfl rfl qgR (by rfl) (by rfl) (by rfl) ?_
          intro w8 qn hg
          replace bw := bw.grown hg hR
          replace mA2 := mA2.grownB qgR (by decide) hg
          replace mC2 := mC2.grownB qgR (by decide) (by decide) hg
          replace qgF := qgF.grown hg ((hne.symm).symm)
          replace S0 : Blk w8 W.heap.size 24 #[.int .i64 p, .slice A n c] := S0.grown hg (by have := hbx; omega)
          clear hg qgR
          have qgR := qn
          clear qn
          (try go_simp)
          refine hK.out _ _ (fun _ => S0) ?_
          clear hK K
          (try simp only [Act.put, List.getElem_toArray, List.getElem_cons_succ, List.getElem_cons_zero, List.setIfInBounds_toArray, List.set_cons_zero, List.set_cons_succ])
          refine wpAnyG_take 13 (v := ?_) rfl (by kernel_rfl) (by intro _ _ _ h; cases h) S0 (Or.inl ⟨by rfl, by intro w' hSw; go_simp; try with_reducible rfl⟩) ?_; (try simp only [Act.put, List.getElem_toArray, List.getElem_cons_succ, List.getElem_cons_zero, List.setIfInBounds_toArray, List.set_cons_zero, List.set_cons_succ])
          refine wpAnyG_one 14 (by kernel_rfl) rfl (fun K hK => ?_)
          rw [if_pos (by rfl)]
          refine wp_putB _ _ _ rfl rfl rfl qgF (by rfl) (by rfl) (by rfl) ?_
          intro w8 qn hg
          replace bw := bw.grown hg hF
          replace mA2 := mA2.grownB qgF (by decide) hg
          replace mC2 := mC2.grownB qgF (by decide) (by decide) hg
          replace qgR := qgR.grown hg (hne.symm)
          replace S0 : Blk w8 W.heap.size 24 #[.int .i64 p, .slice A n c] := S0.grown hg (by have := hbx; omega)
          clear hg qgF
          have qgF := qn
          clear qn
          (try go_simp)
          refine hK.out _ _ (fun _ => S0) ?_
          clear hK K
          (try simp only [Act.put, List.getElem_toArray, List.getElem_cons_succ, List.getElem_cons_zero, List.setIfInBounds_toArray, List.set_cons_zero, List.set_cons_succ])
          refine wpAnyG_take 15 (v := ?_) rfl (by kernel_rfl) (by intro _ _ _ h; cases h) S0 (Or.inl ⟨by rfl, by intro w' hSw; go_simp; try with_reducible rfl⟩) ?_; (try simp only [Act.put, List.getElem_toArray, List.getElem_cons_succ, List.getElem_cons_zero, List.setIfInBounds_toArray, List.set_cons_zero, List.set_cons_succ])
          refine wpAnyG_done (by kernel_rfl) ?_ _
          refine NoPanic.normal ?_
          refine ⟨rfl, _, _, A2, n2, c2, B2, m2, d2, es2, ?_, qgR, qgF, mA2, mC2, HPS2.out, bw.out, hR, hF, hne.symm⟩
          (try simp only [Act.put, List.getElem_toArray, List.getElem_cons_succ, List.getElem_cons_zero, List.setIfInBounds_toArray, List.set_cons_zero, List.set_cons_succ])
          (try rfl)
        · rw [if_pos (by rfl)]
          go_simp
          have hR : w5.heap.size ≤ w5.heap.size + 1 := by first | omega | (have hs := bw.out.size; (try simp at hs); omega)
          have hne : w5.heap.size ≠ w5.heap.size + 1 := Nat.ne_of_lt (by have hs := qgF.lt; (try simp at hs); omega)
          have qgR : Blk ((w5.alloc (.cells #[.bool false, .int .i64 0, .int .u32 0] 31)).alloc (.cells #[.int .i64 0, .slice none 0 0] 24)).drew (w5.heap.size + 1) 24 #[.int .i64 0, .slice none 0 0] := Blk.newAt (b := w5.heap.size + 1) (w5.alloc (.cells #[.bool false, .int .i64 0, .int .u32 0] 31)) 24 #[.int .i64 0, .slice none 0 0] (by simp)
          replace bw : Bel w5 ((w5.alloc (.cells #[.bool false, .int .i64 0, .int .u32 0] 31)).alloc (.cells #[.int .i64 0, .slice none 0 0] 24)).drew := ⟨(bw.alloc (.cells #[.int .i64 0, .slice none 0 0] 24)).out⟩
          replace S0 : Blk ((w5.alloc (.cells #[.bool false, .int .i64 0, .int .u32 0] 31)).alloc (.cells #[.int .i64 0, .slice none 0 0] 24)).drew W.heap.size 24 #[.int .i64 p, .slice A n c] := S0.alloc (.cells #[.int .i64 0, .slice none 0 0] 24)
          replace qgF : Blk ((w5.alloc (.cells #[.bool false, .int .i64 0, .int .u32 0] 31)).alloc (.cells #[.int .i64 0, .slice none 0 0] 24)).drew (w5.heap.size) 31 #[.bool false, .int .i64 0, .int .u32 0] := qgF.alloc (.cells #[.int .i64 0, .slice none 0 0] 24)
          (try go_simp)
          refine hK.out _ _ (fun _ => S0) ?_
          clear hK K
          (try simp only [Act.put, List.getElem_toArray, List.getElem_cons_succ, List.getElem_cons_zero, List.setIfInBounds_toArray, List.set_cons_zero, List.set_cons_succ])
          refine wpAnyG_one 4 (by kernel_rfl) rfl (fun K hK => ?_)
          rw [if_pos (by rfl)]
          go_simp
          (with_reducible refine (F2.out _ (HY.out.below (b0.out.trans (bw.out.mono b0.out.size))) ((HC.out.below (b0.out.trans (bw.out.mono b0.out.size))).cutH HJ.out)).mono ?_)
          rintro e wd ⟨A2, n2, c2, B2, m2, d2, es2, rfl, mA2, mC2, hps2, hb⟩
          replace mA2 := mA2.base_le (Nat.zero_le _)
          replace mC2 := mC2.base_le (Nat.zero_le _)
          have HPS2 := Lib.hid hps2
          clear hps2
          replace bw := bw.below hb
          replace S0 : Blk wd W.heap.size 24 #[.int .i64 p, .slice A n c] := S0.below hb
          replace qgF := qgF.below hb
          replace qgR := qgR.below hb
          clear hb
          (try go_simp)
          refine hK.out _ _ (fun _ => S0) ?_
          clear hK K
          (try simp only [Act.put, List.getElem_toArray, List.getElem_cons_succ, List.getElem_cons_zero, List.setIfInBounds_toArray, List.set_cons_zero, List.set_cons_succ])
          refine wpAnyG_take 5 (v := ?_) rfl (by kernel_rfl) (by intro _ _ _ h; cases h) S0 (Or.inl ⟨by rfl, by intro w' hSw; go_simp; try with_reducible rfl⟩) ?_; (try simp only [Act.put, List.getElem_toArray, List.getElem_cons_succ, List.getElem_cons_zero, List.setIfInBounds_toArray, List.set_cons_zero, List.set_cons_succ])
          refine wpAnyG_take 6 (v := ?_) rfl (by kernel_rfl) (by intro _ _ _ h; cases h) S0 (Or.inl ⟨by rfl, by intro w' hSw; go_simp; try with_reducible rfl⟩) ?_; (try simp only [Act.put, List.getElem_toArray, List.getElem_cons_succ, List.getElem_cons_zero, List.setIfInBounds_toArray, List.set_cons_zero, List.set_cons_succ])
          refine wpAnyG_take 7 (v := ?_) rfl (by kernel_rfl) (by intro _ _ _ h; cases h) S0 (Or.inl ⟨by rfl, by intro w' hSw; go_simp; try with_reducible rfl⟩) ?_; (try simp only [Act.put, List.getElem_toArray, List.getElem_cons_succ, List.getElem_cons_zero, List.setIfInBounds_toArray, List.set_cons_zero, List.set_cons_succ])
          refine wpAnyG_take 8 (v := ?_) rfl (by kernel_rfl) (by intro _ _ _ h; cases h) S0 (Or.inl ⟨by rfl, by intro w' hSw; go_simp; try with_reducible rfl⟩) ?_; (try simp only [Act.put, List.getElem_toArray, List.getElem_cons_succ, List.getElem_cons_zero, List.setIfInBounds_toArray, List.set_cons_zero, List.set_cons_succ])
          refine wpAnyG_take 9 (v := ?_) rfl (by kernel_rfl) (by intro _ _ _ h; cases h) S0 (Or.inl ⟨by rfl, by intro w' hSw; go_simp; try with_reducible rfl⟩) ?_; (try simp only [Act.put, List.getElem_toArray, List.getElem_cons_succ, List.getElem_cons_zero, List.setIfInBounds_toArray, List.set_cons_zero, List.set_cons_succ])
          refine wpAnyG_one 12 (by kernel_rfl) rfl (fun K hK => ?_)
          rw [if_pos (by rfl)]
          refine wp_putB _ _ _ rfl rfl rfl qgR (by rfl) (by rfl) (by rfl) ?_
          intro w8 qn hg
          replace bw := bw.grown hg hR
          replace mA2 := mA2.grownB qgR (by decide) hg
          replace mC2 := mC2.grownB qgR (by decide) (by decide) hg
          replace qgF := qgF.grown hg ((hne.symm).symm)
          replace S0 : Blk w8 W.heap.size 24 #[.int .i64 p, .slice A n c] := S0.grown hg (by have := hbx; omega)
          clear hg qgR
          have qgR := qn
          clear qn
          (try go_simp)
          refine hK.out _ _ (fun _ => S0) ?_
          clear hK K
          (try simp only [Act.put, List.getElem_toArray, List.getElem_cons_succ, List.getElem_cons_zero, List.setIfInBounds_toArray, List.set_cons_zero, List.set_cons_succ])
          refine wpAnyG_take 13 (v := ?_) rfl (by kernel_rfl) (by intro _ _ _ h; cases h) S0 (Or.inl ⟨by rfl, by intro w' hSw; go_simp; try with_reducible rfl⟩) ?_; (try simp only [Act.put, List.getElem_toArray, List.getElem_cons_succ, List.getElem_cons_zero, List.setIfInBounds_toArray, List.set_cons_zero, List.set_cons_succ])
          refine wpAnyG_one 14 (by kernel_rfl) rfl (fun K hK => ?_)
          rw [if_pos (by rfl)]
          refine wp_putB _ _ _ rfl rfl rfl qgF (by rfl) (by rfl) (by rfl) ?_
          intro w8 qn hg
          replace bw := bw.grown hg hF
          replace mA2 := mA2.grownB qgF (by decide) hg
          replace mC2 := mC2.grownB qgF (by decide) (by decide) hg
          replace qgR := qgR.grown hg (hne.symm)
          replace S0 : Blk w8 W.heap.size 24 #[.int .i64 p, .slice A n c] := S0.grown hg (by have := hbx; omega)
          clear hg qgF
          have qgF := qn
          clear qn
          (try go_simp)
          refine hK.out _ _ (fun _ => S0) ?_
          clear hK K
          (try simp only [Act.put, List.getElem_toArray, List.getElem_cons_succ, List.getElem_cons_zero, List.setIfInBounds_toArray, List.set_cons_zero, List.set_cons_succ])
          refine wpAnyG_take 15 (v := ?_) rfl (by kernel_rfl) (by intro _ _ _ h; cases h) S0 (Or.inl ⟨by rfl, by intro w' hSw; go_simp; try with_reducible rfl⟩) ?_; (try simp only [Act.put, List.getElem_toArray, List.getElem_cons_succ, List.getElem_cons_zero, List.setIfInBounds_toArray, List.set_cons_zero, List.set_cons_succ])
          refine wpAnyG_done (by kernel_rfl) ?_ _
          refine NoPanic.normal ?_
          refine ⟨rfl, _, _, A2, n2, c2, B2, m2, d2, es2, ?_, qgR, qgF, mA2, mC2, HPS2.out, bw.out, hR, hF, hne.symm⟩
          (try simp only [Act.put, List.getElem_toArray, List.getElem_cons_succ, List.getElem_cons_zero, List.setIfInBounds_toArray, List.set_cons_zero, List.set_cons_succ])
          (try rfl)
  case rest =>
    as_aux_lemma =>
      rintro a' w6 ⟨g11, g13, A2, n2, c2, B2, m2, d2, es2, rfl, q11, q13, mA2, mC2, hps2, hb, h11, h13, hne⟩
      (try simp only [Act.put, List.getElem_toArray, List.getElem_cons_succ, List.getElem_cons_zero, List.setIfInBounds_toArray, List.set_cons_zero, List.set_cons_succ])
      replace b0 := b0.below hb
      replace q0 := q0.below hb
      replace q7 := q7.below hb
      replace q9 := q9.below hb
      replace mA1 := mA1.below hb
      replace mC1 := mC1.below hb
      have HPS2 := Lib.hid hps2
      clear hps2 hb F1 F2 hcl
      have LA1 := mA1.len; have LA2 := mA2.len
      have RT1 := Lib.hid fun w (h : Byt w A1 n1 c1 L1) => rRRight P1 A1 n1 c1 L1 w h (by have := h.len; have := HJ.out; have := LN.out.1; have := HLN.out; have := HLL.out; omega)
      rw [show rightC P1 L1 = true from decide_eq_true FR1.out] at RT1
      have RT2 := Lib.hid fun w (h : Byt w A2 n2 c2 L2) => rRRight P2 A2 n2 c2 L2 w h (by have := h.len; have := HJ.out; have := LN.out.2; have := HLN.out; have := HLL.out; omega)
      rw [show rightC P2 L2 = true from decide_eq_true FR2.out] at RT2
      have tok1 : True := trivial
      clear LA1 LA2
      (try clear LA1 LA2)
      have PCS := Lib.hid fun w (h : Pcs w B1 m1 d1 es1) (h2 : Pcs w B2 m2 d2 es2) => rPieces B1 m1 d1 es1 B2 m2 d2 es2 w h h2
      rw [eqPc_self HPS1.out HPS2.out] at PCS
      go_wp2_with (first | ((with_reducible refine wpList_id ?_); refine wpList_getG (by rfl) _ _ rfl rfl q7 Try.underlying24 rfl (by rfl) ?_) | ((with_reducible refine wpList_id ?_); refine wpList_getG (by rfl) _ _ rfl rfl q9 Try.underlying31 rfl (by rfl) ?_) | ((with_reducible refine wpList_id ?_); refine wpList_getG (by rfl) _ _ rfl rfl q11 Try.underlying24 rfl (by rfl) ?_) | ((with_reducible refine wpList_id ?_); refine wpList_getG (by rfl) _ _ rfl rfl q13 Try.underlying31 rfl (by rfl) ?_) | (go_at_call 7; have _t := tok1; clear tok1 _t; (with_reducible refine (RT1.out _ mA1.byt).mono ?_); rintro e w9 ⟨rfl, hb⟩; replace b0 := b0.below hb; replace q7 := q7.below hb; replace q9 := q9.below hb; replace q11 := q11.below hb; replace q13 := q13.below hb; replace mA1 := mA1.below hb; replace mC1 := mC1.below hb; replace mA2 := mA2.below hb; replace mC2 := mC2.below hb; clear hb) | (go_at_call 7; (with_reducible refine (RT2.out _ mA2.byt).mono ?_); rintro e w9 ⟨rfl, hb⟩; replace b0 := b0.below hb; replace q7 := q7.below hb; replace q9 := q9.below hb; replace q11 := q11.below hb; replace q13 := q13.below hb; replace mA1 := mA1.below hb; replace mC1 := mC1.below hb; replace mA2 := mA2.below hb; replace mC2 := mC2.below hb; clear hb) | (go_at_call 10; (with_reducible refine (PCS.out _ mC1.pcs mC2.pcs).mono ?_); rintro e w9 ⟨rfl, hb⟩; replace b0 := b0.below hb; clear hb) | (go_at_call 8; (with_reducible refine (fWakes _).mono ?_); rintro e w9 ⟨rfl, hb⟩; replace b0 := b0.below hb))
      go_ret
      exact ⟨rfl, b0.out⟩
set_option maxRecDepth 100000 in
set_option maxHeartbeats 8000000 in
theorem partsB (p : Int) (p0 : -9223372036854775808 ≤ p) (p1 : p ≤ 9223372036854775807) (A : Option Addr) (n c : Nat) (l : List Int) (B : Option Addr) (m d : Nat) (ch : List Int) (z : Int) (W : World) (h : Byt W A n c l) (hc : Byt W B m d ch) (g0 : n ≤ 600) (g1 : m ≤ 600) (hr : RightC p l) (j : Nat) (j1 : j ≤ m) (M : Int) (hMx : ∀ ts ty w, (Builtin.max_ ts ty #[.int .i64 z, .int .i64 0]).run Try.prog w = .ok (.int .i64 M) w) (hMn : ∀ ts ty w, (Builtin.min_ ts ty #[.int .i64 M, .int .i64 m]).run Try.prog w = .ok (.int .i64 j) w) (hg : (feedC p l (ch.take j)).fw = false) :
    Calls Try.prog 3 #[.agg #[.int .i64 p, .slice A n c], .slice B m d, .int .i64 z] W fun e w' => e = .returned (.bool true) ∧ Below W.heap.size W w' := by
  have b0 := (Bel.refl W).alloc (.cells #[.int .i64 p, .slice A n c] 24)
  have q0 := Blk.new W 24 #[.int .i64 p, .slice A n c]
  have q0_1 := q0.at 1 rfl
  have HY := Lib.hid h
  have HC := Lib.hid hc
  have GR := Lib.hid fun w => fGreat A n c w
  rw [show decide ((600 : Int) < n) = false from decide_eq_false (by omega)] at GR
  have GS := Lib.hid fun w => fGreat B m d w
  rw [show decide ((600 : Int) < m) = false from decide_eq_false (by omega)] at GS
  have RG := Lib.hid fun w (h : Byt w A n c l) => rRRight p A n c l w h (by omega)
  rw [show rightC p l = true from decide_eq_true hr] at RG
  have hl := h.len; have hcl0 := hc.len; have hcp := hc.cap; have hmx := hc.mx; have hnp := h.cap; have hnx := h.mx
  have hsp : ch = ch.take j ++ ch.drop j := (List.take_append_drop j ch).symm
  have hbl : Bs (l ++ ch.take j) := h.bs.append (hc.bs.take j)
  have hlx : (ch.take j).length = j := by rw [List.length_take]; omega
  have hly : (ch.drop j).length = m - j := by rw [List.length_drop]; omega
  have ftwo := feed_two (y := ch.drop j) hr hbl
  rw [← hsp] at ftwo
  have fr1 := feed_right (ch := ch) hr
  have fr2 := feed_right (ch := ch.take j) hr
  have ln2 := feed_len (p := p) (l := l) (ch := ch.take j)
  have ln1 := feed_len (p := p) (l := l) (ch := ch)
  have HLEN := Lib.hid (feed_pslen (p := p) (l := l) (x := ch.take j) (y := ch.drop j) (by have := h.len; have := hc.len; rw [List.length_take, List.length_drop]; omega))
  have F1 := Lib.hid fun w (h : Byt w A n c l) (hc : Byt w B m d ch) => fFeed p ⟨p0, p1⟩ A n c l B m d ch w h hc (by omega) (by omega) hr
  have F2 := Lib.hid fun w (h : Byt w A n c l) (hc : Byt w (cutA B d 0) j d (ch.take j)) => fFeed p ⟨p0, p1⟩ A n c l (cutA B d 0) j d (ch.take j) w h hc (by omega) (by omega) hr
  obtain ⟨u1, u2, u3, u4, u5⟩ := ftwo.2 hg
  have u6 := feed_fc hg
  have ln3 := feed_len (p := (feedC p l (ch.take j)).p) (l := (feedC p l (ch.take j)).l) (ch := ch.drop j)
  rw [hg, u6] at F2
  rw [u1, u2, u3, u4, u5] at F1
  rw [u1, u2] at fr1
  have F3 := Lib.hid fun (A : Option Addr) (c : Nat) w (n : Nat) (h : Byt w A n c (feedC p l (ch.take j)).l) (hc : Byt w (cutA B d j) (m - j) (d - j) (ch.drop j)) (hn : n = (feedC p l (ch.take j)).l.length) => fFeed (feedC p l (ch.take j)).p ⟨by have := fr2.1; omega, by have := fr2.1; omega⟩ A n c (feedC p l (ch.take j)).l (cutA B d j) (m - j) (d - j) (ch.drop j) w h hc (by omega) (by omega) fr2
  clear ftwo u1 u2 u3 u4 u5 u6 hg
  generalize (feedC (feedC p l (ch.take j)).p (feedC p l (ch.take j)).l (ch.drop j)).ps = PS3 at *
  generalize (feedC (feedC p l (ch.take j)).p (feedC p l (ch.take j)).l (ch.drop j)).fw = FW at *
  generalize (feedC (feedC p l (ch.take j)).p (feedC p l (ch.take j)).l (ch.drop j)).fc = FC at *
  generalize (feedC (feedC p l (ch.take j)).p (feedC p l (ch.take j)).l (ch.drop j)).p = P1 at *
  generalize (feedC (feedC p l (ch.take j)).p (feedC p l (ch.take j)).l (ch.drop j)).l = L1 at *
  generalize (feedC p l (ch.take j)).ps = PS2 at *
  generalize (feedC p l (ch.take j)).p = P2 at *
  generalize (feedC p l (ch.take j)).l = L2 at *
  have hcl : ∀ w, (Instr.slice 22 (.slice B m d) none (some (.int .i64 (j : Int))) none).run Try.prog w = .ok (.slice (cutA B d 0) j d) w := fun w => by
    have h1 := run_cut_h w B m d j (by omega) (by omega)
    rwa [Int.toNat_natCast] at h1
  have hcl2 : ∀ w, (Instr.slice 22 (.slice B m d) (some (.int .i64 (j : Int))) none none).run Try.prog w = .ok (.slice (cutA B d j) (m - j) (d - j)) w := fun w => by
    have h1 := run_cut_l w B m d j (by omega) (by omega)
    rwa [Int.toNat_natCast] at h1
  have FR1 := Lib.hid fr1
  have FR2 := Lib.hid fr2
  have HJ := Lib.hid j1
  have HLN := Lib.hid (And.intro g0 g1)
  have LN := Lib.hid (And.intro ln1 ln2)
  have HLL := Lib.hid (And.intro hl (And.intro hcl0 (And.intro hlx hly)))
  have LN3 := Lib.hid ln3
  clear ln3
  clear h hc hr fr1 fr2 hl hcl0 hcp hmx hnp hnx hsp hbl hlx hly ln1 ln2 j1 g0 g1 p0 p1
  go_enter Try.func3, Try.ntmps3
  go_upto_region 4 with (first | (go_at_call 6; (with_reducible refine (GR.out _).mono ?_); rintro e w9 ⟨rfl, rfl⟩) | (go_at_call 6; (with_reducible refine (GS.out _).mono ?_); rintro e w9 ⟨rfl, rfl⟩) | ((with_reducible refine wpList_id ?_); refine wpList_getG (by rfl) _ _ rfl rfl q0 Try.underlying24 rfl (by rfl) ?_) | (go_at_call 7; (with_reducible refine (RG.out _ (HY.out.below b0.out)).mono ?_); rintro e w9 ⟨rfl, hb⟩; replace b0 := b0.below hb; replace q0 := q0.below hb; clear hb))
  clear hMx hMn q0_1 GR GS RG
  go_wp2_with ((with_reducible refine wpList_id ?_); refine wpList_getG (by rfl) _ _ rfl rfl q0 Try.underlying24 rfl (by rfl) ?_)
  refine (F1.out _ (HY.out.below b0.out) (HC.out.below b0.out)).mono ?_
  rintro e w1 ⟨A1, n1, c1, B1, m1, d1, es1, rfl, mA1, mC1, hps1, hb⟩
  replace b0 := b0.below hb
  replace q0 := q0.below hb
  have HPS1 := Lib.hid hps1
  clear hps1 hb
  replace mA1 := mA1.base_le (Nat.zero_le _)
  replace mC1 := mC1.base_le (Nat.zero_le _)
  have q7 := (Blk.new w1 24 #[.int .i64 P1, .slice A1 n1 c1]).alloc (.cells #[.bool FW, .int .i64 0, .int .u32 FC] 31)
  have q9 := Blk.newAt (b := w1.heap.size + 1) (w1.alloc (.cells #[.int .i64 P1, .slice A1 n1 c1] 24)) 31 #[.bool FW, .int .i64 0, .int .u32 FC] (by simp)
  replace b0 := (b0.alloc (.cells #[.int .i64 P1, .slice A1 n1 c1] 24)).alloc (.cells #[.bool FW, .int .i64 0, .int .u32 FC] 31)
  replace q0 := (q0.alloc (.cells #[.int .i64 P1, .slice A1 n1 c1] 24)).alloc (.cells #[.bool FW, .int .i64 0, .int .u32 FC] 31)
  replace mA1 := (mA1.alloc (.cells #[.int .i64 P1, .slice A1 n1 c1] 24)).alloc (.cells #[.bool FW, .int .i64 0, .int .u32 FC] 31)
  replace mC1 := (mC1.alloc (.cells #[.int .i64 P1, .slice A1 n1 c1] 24)).alloc (.cells #[.bool FW, .int .i64 0, .int .u32 FC] 31)
  go_wp2_with fail
  generalize (w1.alloc (.cells #[.int .i64 P1, .slice A1 n1 c1] 24)).alloc (.cells #[.bool FW, .int .i64 0, .int .u32 FC] 31) = w5 at *
  refine wp_cutR (fun a a' w' => ∃ gR gF A2 n2 c2 B2 m2 d2 es2, a' = ((((((((((((((a.put (some 46) (.agg #[.int .i64 p, .slice A n c])).put (some 47) (.slice B m d)).put (some 48) (.int .i64 (j : Int))).put (some 49) (.slice (cutA B d 0) j d)).put (some 50) (.tuple #[.agg #[.int .i64 P2, .slice A2 n2 c2], .slice B2 m2 d2, .agg #[.bool false, .int .i64 0, .int .u32 0], .int .i64 0])).put (some 45) (.tuple #[.agg #[.int .i64 P2, .slice A2 n2 c2], .slice B2 m2 d2, .agg #[.bool false, .int .i64 0, .int .u32 0], .int .i64 0])).put (some 51) (.agg #[.int .i64 P2, .slice A2 n2 c2])).put (some 52) (.slice B2 m2 d2)).put (some 53) (.agg #[.bool false, .int .i64 0, .int .u32 0])).put (some 54) (.int .i64 0)).put (some 11) (.pointer (some ⟨gR, 0, none⟩))).put (some 13) (.pointer (some ⟨gF, 0, none⟩))).put (some 12) (.slice B2 m2 d2)).put (some 14) (.int .i64 0)) ∧ Blk w' gR 24 #[.int .i64 P2, .slice A2 n2 c2] ∧ Blk w' gF 31 #[.bool false, .int .i64 0, .int .u32 0] ∧ Mine 0 w' A2 n2 c2 L2 ∧ MineC 0 w' B2 m2 d2 es2 ∧ es2.map (·.p) = PS2 ∧ Below w5.heap.size w5 w' ∧ w5.heap.size ≤ gR ∧ w5.heap.size ≤ gF ∧ gR ≠ gF) ?reg ?rest
  case reg =>
    as_aux_lemma =>
      have bw := (Bel.refl w5).drew
      have hbx : W.heap.size < w5.heap.size := q0.lt
      have S0 : Blk w5.drew W.heap.size 24 #[.int .i64 p, .slice A n c] := q0.drew
      refine wp_region_noPanic ?_
      refine wp_region_G (fun w' => Blk w' W.heap.size 24 #[.int .i64 p, .slice A n c]) [] (by kernel_rfl) ?_
      refine wpAnyG_take 0 (v := .agg #[.int .i64 p, .slice A n c]) rfl (by kernel_rfl) (by intro _ _ _ h; cases h) S0 (Or.inl ⟨by rfl, by intro w' hSw; exact exec_getB (by rfl) (by rfl) hSw Try.underlying24 (by rfl) (by rfl)⟩) ?_; (try simp only [Act.put, List.getElem_toArray, List.getElem_cons_succ, List.getElem_cons_zero, List.setIfInBounds_toArray, List.set_cons_zero, List.set_cons_succ])
      refine wpAnyG_take 1 (v := ?_) rfl (by kernel_rfl) (by intro _ _ _ h; cases h) S0 (Or.inl ⟨by rfl, by intro w' hSw; go_simp; try with_reducible rfl⟩) ?_; (try simp only [Act.put, List.getElem_toArray, List.getElem_cons_succ, List.getElem_cons_zero, List.setIfInBounds_toArray, List.set_cons_zero, List.set_cons_succ])
      refine wpAnyG_take 2 (v := ?_) rfl (by kernel_rfl) (by intro _ _ _ h; cases h) S0 (Or.inl ⟨by rfl, by intro w' hSw; go_simp; try with_reducible rfl⟩) ?_; (try simp only [Act.put, List.getElem_toArray, List.getElem_cons_succ, List.getElem_cons_zero, List.setIfInBounds_toArray, List.set_cons_zero, List.set_cons_succ])
      refine wpAnyG_take 3 (v := ?_) rfl (by kernel_rfl) (by intro _ _ _ h; cases h) S0 (Or.inl ⟨by rfl, by intro w' hSw; go_simp; try with_reducible rfl⟩) ?_; (try simp only [Act.put, List.getElem_toArray, List.getElem_cons_succ, List.getElem_cons_zero, List.setIfInBounds_toArray, List.set_cons_zero, List.set_cons_succ])
      refine wpAnyG_three 4 10 11 (by kernel_rfl) rfl rfl rfl (fun K hK => ?_) (fun K hK => ?_) (fun K hK => ?_)
      · rw [if_pos (by rfl)]
        go_simp
        (with_reducible refine (F2.out _ (HY.out.below (b0.out.trans (bw.out.mono b0.out.size))) ((HC.out.below (b0.out.trans (bw.out.mono b0.out.size))).cutH HJ.out)).mono ?_)
        rintro e wd ⟨A2, n2, c2, B2, m2, d2, es2, rfl, mA2, mC2, hps2, hb⟩
        replace mA2 := mA2.base_le (Nat.zero_le _)
        replace mC2 := mC2.base_le (Nat.zero_le _)
        have HPS2 := Lib.hid hps2
        clear hps2
        replace bw := bw.below hb
        replace S0 : Blk wd W.heap.size 24 #[.int .i64 p, .slice A n c] := S0.below hb
        clear hb
        (try go_simp)
        refine hK.out _ _ (fun _ => S0) ?_
        clear hK K
        (try simp only [Act.put, List.getElem_toArray, List.getElem_cons_succ, List.getElem_cons_zero, List.setIfInBounds_toArray, List.set_cons_zero, List.set_cons_succ])
        refine wpAnyG_take 5 (v := ?_) rfl (by kernel_rfl) (by intro _ _ _ h; cases h) S0 (Or.inl ⟨by rfl, by intro w' hSw; go_simp; try with_reducible rfl⟩) ?_; (try simp only [Act.put, List.getElem_toArray, List.getElem_cons_succ, List.getElem_cons_zero, List.setIfInBounds_toArray, List.set_cons_zero, List.set_cons_succ])
        refine wpAnyG_take 6 (v := ?_) rfl (by kernel_rfl) (by intro _ _ _ h; cases h) S0 (Or.inl ⟨by rfl, by intro w' hSw; go_simp; try with_reducible rfl⟩) ?_; (try simp only [Act.put, List.getElem_toArray, List.getElem_cons_succ, List.getElem_cons_zero, List.setIfInBounds_toArray, List.set_cons_zero, List.set_cons_succ])
        refine wpAnyG_take 7 (v := ?_) rfl (by kernel_rfl) (by intro _ _ _ h; cases h) S0 (Or.inl ⟨by rfl, by intro w' hSw; go_simp; try with_reducible rfl⟩) ?_; (try simp only [Act.put, List.getElem_toArray, List.getElem_cons_succ, List.getElem_cons_zero, List.setIfInBounds_toArray, List.set_cons_zero, List.set_cons_succ])
        refine wpAnyG_take 8 (v := ?_) rfl (by kernel_rfl) (by intro _ _ _ h; cases h) S0 (Or.inl ⟨by rfl, by intro w' hSw; go_simp; try with_reducible rfl⟩) ?_; (try simp only [Act.put, List.getElem_toArray, List.getElem_cons_succ, List.getElem_cons_zero, List.setIfInBounds_toArray, List.set_cons_zero, List.set_cons_succ])
        refine wpAnyG_take 9 (v := ?_) rfl (by kernel_rfl) (by intro _ _ _ h; cases h) S0 (Or.inl ⟨by rfl, by intro w' hSw; go_simp; try with_reducible rfl⟩) ?_; (try simp only [Act.put, List.getElem_toArray, List.getElem_cons_succ, List.getElem_cons_zero, List.setIfInBounds_toArray, List.set_cons_zero, List.set_cons_succ])
        refine wpAnyG_two 10 11 (by kernel_rfl) rfl rfl (fun K hK => ?_) (fun K hK => ?_)
        · rw [if_pos (by rfl)]
          go_simp
          have hR : w5.heap.size ≤ wd.heap.size := by first | omega | (have hs := bw.out.size; (try simp at hs); omega)
          have qgR : Blk (wd.alloc (.cells #[.int .i64 0, .slice none 0 0] 24)) (wd.heap.size) 24 #[.int .i64 0, .slice none 0 0] := Blk.newAt (b := wd.heap.size) wd 24 #[.int .i64 0, .slice none 0 0] (by simp)
          replace bw : Bel w5 (wd.alloc (.cells #[.int .i64 0, .slice none 0 0] 24)) := ⟨(bw.alloc (.cells #[.int .i64 0, .slice none 0 0] 24)).out⟩
          replace S0 : Blk (wd.alloc (.cells #[.int .i64 0, .slice none 0 0] 24)) W.heap.size 24 #[.int .i64 p, .slice A n c] := S0.alloc (.cells #[.int .i64 0, .slice none 0 0] 24)
          replace mA2 : Mine 0 (wd.alloc (.cells #[.int .i64 0, .slice none 0 0] 24)) A2 n2 c2 L2 := mA2.alloc (.cells #[.int .i64 0, .slice none 0 0] 24)
          replace mC2 : MineC 0 (wd.alloc (.cells #[.int .i64 0, .slice none 0 0] 24)) B2 m2 d2 es2 := mC2.alloc (.cells #[.int .i64 0, .slice none 0 0] 24)
          (try go_simp)
          refine hK.out _ _ (fun _ => S0) ?_
          clear hK K
          (try simp only [Act.put, List.getElem_toArray, List.getElem_cons_succ, List.getElem_cons_zero, List.setIfInBounds_toArray, List.set_cons_zero, List.set_cons_succ])
          refine wpAnyG_one 11 (by kernel_rfl) rfl (fun K hK => ?_)
          rw [if_pos (by rfl)]
          go_simp
          have hF : w5.heap.size ≤ wd.heap.size + 1 := by first | omega | (have hs := bw.out.size; (try simp at hs); omega)
          have hne : wd.heap.size ≠ wd.heap.size + 1 := Nat.ne_of_lt (by have hs := qgR.lt; (try simp at hs); omega)
          have qgF : Blk ((wd.alloc (.cells #[.int .i64 0, .slice none 0 0] 24)).alloc (.cells #[.bool false, .int .i64 0, .int .u32 0] 31)) (wd.heap.size + 1) 31 #[.bool false, .int .i64 0, .int .u32 0] := Blk.newAt (b := wd.heap.size + 1) (wd.alloc (.cells #[.int .i64 0, .slice none 0 0] 24)) 31 #[.bool false, .int .i64 0, .int .u32 0] (by simp)
          replace bw : Bel w5 ((wd.alloc (.cells #[.int .i64 0, .slice none 0 0] 24)).alloc (.cells #[.bool false, .int .i64 0, .int .u32 0] 31)) := ⟨(bw.alloc (.cells #[.bool false, .int .i64 0, .int .u32 0] 31)).out⟩
          replace S0 : Blk ((wd.alloc (.cells #[.int .i64 0, .slice none 0 0] 24)).alloc (.cells #[.bool false, .int .i64 0, .int .u32 0] 31)) W.heap.size 24 #[.int .i64 p, .slice A n c] := S0.alloc (.cells #[.bool false, .int .i64 0, .int .u32 0] 31)
          replace mA2 : Mine 0 ((wd.alloc (.cells #[.int .i64 0, .slice none 0 0] 24)).alloc (.cells #[.bool false, .int .i64 0, .int .u32 0] 31)) A2 n2 c2 L2 := mA2.alloc (.cells #[.bool false, .int .i64 0, .int .u32 0] 31)
          replace mC2 : MineC 0 ((wd.alloc (.cells #[.int .i64 0, .slice none 0 0] 24)).alloc (.cells #[.bool false, .int .i64 0, .int .u32 0] 31)) B2 m2 d2 es2 := mC2.alloc (.cells #[.bool false, .int .i64 0, .int .u32 0] 31)
          replace qgR : Blk ((wd.alloc (.cells #[.int .i64 0, .slice none 0 0] 24)).alloc (.cells #[.bool false, .int .i64 0, .int .u32 0] 31)) (wd.heap.size) 24 #[.int .i64 0, .slice none 0 0] := qgR.alloc (.cells #[.bool false, .int .i64 0, .int .u32 0] 31)
          (try go_simp)
          refine hK.out _ _ (fun _ => S0) ?_
          clear hK K
          (try simp only [Act.put, List.getElem_toArray, List.getElem_cons_succ, List.getElem_cons_zero, List.setIfInBounds_toArray, List.set_cons_zero, List.set_cons_succ])
          refine wpAnyG_one 12 (by kernel_rfl) rfl (fun K hK => ?_)
          rw [if_pos (by rfl)]
          refine wp_putB _ _ _ rfl rfl rfl qgR (by rfl) (by rfl) (by rfl) ?_
          intro w8 qn hg
          replace bw := bw.grown hg hR
          replace mA2 := mA2.grownB qgR (by decide) hg
          replace mC2 := mC2.grownB qgR (by decide) (by decide) hg
          replace qgF := qgF.grown hg ((hne).symm)
          replace S0 : Blk w8 W.heap.size 24 #[.int .i64 p, .slice A n c] := S0.grown hg (by have := hbx; omega)
          clear hg qgR
          have qgR := qn
          clear qn
          (try go_simp)
          refine hK.out _ _ (fun _ => S0) ?_
          clear hK K
          (try simp only [Act.put, List.getElem_toArray, List.getElem_cons_succ, List.getElem_cons_zero, List.setIfInBounds_toArray, List.set_cons_zero, List.set_cons_succ])
          refine wpAnyG_take 13 (v := ?_) rfl (by kernel_rfl) (by intro _ _ _ h; cases h) S0 (Or.inl ⟨by rfl, by intro w' hSw; go_simp; try with_reducible rfl⟩) ?_; (try simp only [Act.put, List.getElem_toArray, List.getElem_cons_succ, List.getElem_cons_zero, List.setIfInBounds_toArray, List.set_cons_zero, List.set_cons_succ])
          refine wpAnyG_one 14 (by kernel_rfl) rfl (fun K hK => ?_)
          rw [if_pos (by rfl)]
          refine wp_putB _ _ _ rfl rfl rfl qgF (by rfl) (by rfl) (by rfl) ?_
          intro w8 qn hg
          replace bw := bw.grown hg hF
          replace mA2 := mA2.grownB qgF (by decide) hg
          replace mC2 := mC2.grownB qgF (by decide) (by decide) hg
          replace qgR := qgR.grown hg (hne)
          replace S0 : Blk w8 W.heap.size 24 #[.int .i64 p, .slice A n c] := S0.grown hg (by have := hbx; omega)
          clear hg qgF
          have qgF := qn
          clear qn
          (try go_simp)
          refine hK.out _ _ (fun _ => S0) ?_
          clear hK K
          (try simp only [Act.put, List.getElem_toArray, List.getElem_cons_succ, List.getElem_cons_zero, List.setIfInBounds_toArray, List.set_cons_zero, List.set_cons_succ])
          refine wpAnyG_take 15 (v := ?_) rfl (by kernel_rfl) (by intro _ _ _ h; cases h) S0 (Or.inl ⟨by rfl, by intro w' hSw; go_simp; try with_reducible rfl⟩) ?_; (try simp only [Act.put, List.getElem_toArray, List.getElem_cons_succ, List.getElem_cons_zero, List.setIfInBounds_toArray, List.set_cons_zero, List.set_cons_succ])
          refine wpAnyG_done (by kernel_rfl) ?_ _
          refine NoPanic.normal ?_
          refine ⟨rfl, _, _, A2, n2, c2, B2, m2, d2, es2, ?_, qgR, qgF, mA2, mC2, HPS2.out, bw.out, hR, hF, hne⟩
          (try simp only [Act.put, List.getElem_toArray, List.getElem_cons_succ, List.getElem_cons_zero, List.setIfInBounds_toArray, List.set_cons_zero, List.set_cons_succ])
          (try rfl)
        · rw [if_pos (by rfl)]
          go_simp
          have hF : w5.heap.size ≤ wd.heap.size := by first | omega | (have hs := bw.out.size; (try simp at hs); omega)
          have qgF : Blk (wd.alloc (.cells #[.bool false, .int .i64 0, .int .u32 0] 31)) (wd.heap.size) 31 #[.bool false, .int .i64 0, .int .u32 0] := Blk.newAt (b := wd.heap.size) wd 31 #[.bool false, .int .i64 0, .int .u32 0] (by simp)
          replace bw : Bel w5 (wd.alloc (.cells #[.bool false, .int .i64 0, .int .u32 0] 31)) := ⟨(bw.alloc (.cells #[.bool false, .int .i64 0, .int .u32 0] 31)).out⟩
          replace S0 : Blk (wd.alloc (.cells #[.bool false, .int .i64 0, .int .u32 0] 31)) W.heap.size 24 #[.int .i64 p, .slice A n c] := S0.alloc (.cells #[.bool false, .int .i64 0, .int .u32 0] 31)
          replace mA2 : Mine 0 (wd.alloc (.cells #[.bool false, .int .i64 0, .int .u32 0] 31)) A2 n2 c2 L2 := mA2.alloc (.cells #[.bool false, .int .i64 0, .int .u32 0] 31)
          replace mC2 : MineC 0 (wd.alloc (.cells #[.bool false, .int .i64 0, .int .u32 0] 31)) B2 m2 d2 es2 := mC2.alloc (.cells #[.bool false, .int .i64 0, .int .u32 0] 31)
          (try go_simp)
          refine hK.out _ _ (fun _ => S0) ?_
          clear hK K
          (try simp only [Act.put, List.getElem_toArray, List.getElem_cons_succ, List.getElem_cons_zero, List.setIfInBounds_toArray, List.set_cons_zero, List.set_cons_succ])
          refine wpAnyG_one 10 (by kernel_rfl) rfl (fun K hK => ?_)
          rw [if_pos (by rfl)]
          go_simp
          have hR : w5.heap.size ≤ wd.heap.size + 1 := by first | omega | (have hs := bw.out.size; (try simp at hs); omega)
          have hne : wd.heap.size ≠ wd.heap.size + 1 := Nat.ne_of_lt (by have hs := qgF.lt; (try simp at hs); omega)
          have qgR : Blk ((wd.alloc (.cells #[.bool false, .int .i64 0, .int .u32 0] 31)).alloc (.cells #[.int .i64 0, .slice none 0 0] 24)) (wd.heap.size + 1) 24 #[.int .i64 0, .slice none 0 0] := Blk.newAt (b := wd.heap.size + 1) (wd.alloc (.cells #[.bool false, .int .i64 0, .int .u32 0] 31)) 24 #[.int .i64 0, .slice none 0 0] (by simp)
          replace bw : Bel w5 ((wd.alloc (.cells #[.bool false, .int .i64 0, .int .u32 0] 31)).alloc (.cells #[.int .i64 0, .slice none 0 0] 24)) := ⟨(bw.alloc (.cells #[.int .i64 0, .slice none 0 0] 24)).out⟩
          replace S0 : Blk ((wd.alloc (.cells #[.bool false, .int .i64 0, .int .u32 0] 31)).alloc (.cells #[.int .i64 0, .slice none 0 0] 24)) W.heap.size 24 #[.int .i64 p, .slice A n c] := S0.alloc (.cells #[.int .i64 0, .slice none 0 0] 24)
          replace mA2 : Mine 0 ((wd.alloc (.cells #[.bool false, .int .i64 0, .int .u32 0] 31)).alloc (.cells #[.int .i64 0, .slice none 0 0] 24)) A2 n2 c2 L2 := mA2.alloc (.cells #[.int .i64 0, .slice none 0 0] 24)
          replace mC2 : MineC 0 ((wd.alloc (.cells #[.bool false, .int .i64 0, .int .u32 0] 31)).alloc (.cells #[.int .i64 0, .slice none 0 0] 24)) B2 m2 d2 es2 := mC2.alloc (.cells #[.int .i64 0, .slice none 0 0] 24)
          replace qgF : Blk ((wd.alloc (.cells #[.bool false, .int .i64 0, .int .u32 0] 31)).alloc (.cells #[.int .i64 0, .slice none 0 0] 24)) (wd.heap.size) 31 #[.bool false, .int .i64 0, .int .u32 0] := qgF.alloc (.cells #[.int .i64 0, .slice none 0 0] 24)
          (try go_simp)
          refine hK.out _ _ (fun _ => S0) ?_
          clear hK K
          (try simp only [Act.put, List.getElem_toArray, List.getElem_cons_succ, List.getElem_cons_zero, List.setIfInBounds_toArray, List.set_cons_zero, List.set_cons_succ])
          refine wpAnyG_one 12 (by kernel_rfl) rfl (fun K hK => ?_)
          rw [if_pos (by rfl)]
          refine wp_putB _ _ _ rfl rfl rfl qgR (by rfl) (by rfl) (by rfl) ?_
          intro w8 qn hg
          replace bw := bw.grown hg hR
          replace mA2 := mA2.grownB qgR (by decide) hg
          replace mC2 := mC2.grownB qgR (by decide) (by decide) hg
          replace qgF := qgF.grown hg ((hne.symm).symm)
          replace S0 : Blk w8 W.heap.size 24 #[.int .i64 p, .slice A n c] := S0.grown hg (by have := hbx; omega)
          clear hg qgR
          have qgR := qn
          clear qn
          (try go_simp)
          refine hK.out _ _ (fun _ => S0) ?_
          clear hK K
          (try simp only [Act.put, List.getElem_toArray, List.getElem_cons_succ, List.getElem_cons_zero, List.setIfInBounds_toArray, List.set_cons_zero, List.set_cons_succ])
          refine wpAnyG_take 13 (v := ?_) rfl (by kernel_rfl) (by intro _ _ _ h; cases h) S0 (Or.inl ⟨by rfl, by intro w' hSw; go_simp; try with_reducible rfl⟩) ?_; (try simp only [Act.put, List.getElem_toArray, List.getElem_cons_succ, List.getElem_cons_zero, List.setIfInBounds_toArray, List.set_cons_zero, List.set_cons_succ])
          refine wpAnyG_one 14 (by kernel_rfl) rfl (fun K hK => ?_)
          rw [if_pos (by rfl)]
          refine wp_putB _ _ _ rfl rfl rfl qgF (by rfl) (by rfl) (by rfl) ?_
          intro w8 qn hg
          replace bw := bw.grown hg hF
          replace mA2 := mA2.grownB qgF (by decide) hg
          replace mC2 := mC2.grownB qgF (by decide) (by decide) hg
          replace qgR := qgR.grown hg (hne.symm)
          replace S0 : Blk w8 W.heap.size 24 #[.int .i64 p, .slice A n c] := S0.grown hg (by have := hbx; omega)
          clear hg qgF
          have qgF := qn
          clear qn
          (try go_simp)
          refine hK.out _ _ (fun _ => S0) ?_
          clear hK K
          (try simp only [Act.put, List.getElem_toArray, List.getElem_cons_succ, List.getElem_cons_zero, List.setIfInBounds_toArray, List.set_cons_zero, List.set_cons_succ])
          refine wpAnyG_take 15 (v := ?_) rfl (by kernel_rfl) (by intro _ _ _ h; cases h) S0 (Or.inl ⟨by rfl, by intro w' hSw; go_simp; try with_reducible rfl⟩) ?_; (try simp only [Act.put, List.getElem_toArray, List.getElem_cons_succ, List.getElem_cons_zero, List.setIfInBounds_toArray, List.set_cons_zero, List.set_cons_succ])
          refine wpAnyG_done (by kernel_rfl) ?_ _
          refine NoPanic.normal ?_
          refine ⟨rfl, _, _, A2, n2, c2, B2, m2, d2, es2, ?_, qgR, qgF, mA2, mC2, HPS2.out, bw.out, hR, hF, hne.symm⟩
          (try simp only [Act.put, List.getElem_toArray, List.getElem_cons_succ, List.getElem_cons_zero, List.setIfInBounds_toArray, List.set_cons_zero, List.set_cons_succ])
          (try rfl)
      · rw [if_pos (by rfl)]
        go_simp
        have hR : w5.heap.size ≤ w5.heap.size := by first | omega | (have hs := bw.out.size; (try simp at hs); omega)
        have qgR : Blk (w5.alloc (.cells #[.int .i64 0, .slice none 0 0] 24)).drew (w5.heap.size) 24 #[.int .i64 0, .slice none 0 0] := Blk.newAt (b := w5.heap.size) w5 24 #[.int .i64 0, .slice none 0 0] (by simp)
        replace bw : Bel w5 (w5.alloc (.cells #[.int .i64 0, .slice none 0 0] 24)).drew := ⟨(bw.alloc (.cells #[.int .i64 0, .slice none 0 0] 24)).out⟩
        replace S0 : Blk (w5.alloc (.cells #[.int .i64 0, .slice none 0 0] 24)).drew W.heap.size 24 #[.int .i64 p, .slice A n c] := S0.alloc (.cells #[.int .i64 0, .slice none 0 0] 24)
        (try go_simp)
        refine hK.out _ _ (fun _ => S0) ?_
        clear hK K
        (try simp only [Act.put, List.getElem_toArray, List.getElem_cons_succ, List.getElem_cons_zero, List.setIfInBounds_toArray, List.set_cons_zero, List.set_cons_succ])
        refine wpAnyG_two 4 11 (by kernel_rfl) rfl rfl (fun K hK => ?_) (fun K hK => ?_)
        · rw [if_pos (by rfl)]
          go_simp
          (with_reducible refine (F2.out _ (HY.out.below (b0.out.trans (bw.out.mono b0.out.size))) ((HC.out.below (b0.out.trans (bw.out.mono b0.out.size))).cutH HJ.out)).mono ?_)
          rintro e wd ⟨A2, n2, c2, B2, m2, d2, es2, rfl, mA2, mC2, hps2, hb⟩
          replace mA2 := mA2.base_le (Nat.zero_le _)
          replace mC2 := mC2.base_le (Nat.zero_le _)
          have HPS2 := Lib.hid hps2
          clear hps2
          replace bw := bw.below hb
          replace S0 : Blk wd W.heap.size 24 #[.int .i64 p, .slice A n c] := S0.below hb
          replace qgR := qgR.below hb
          clear hb
          (try go_simp)
          refine hK.out _ _ (fun _ => S0) ?_
          clear hK K
          (try simp only [Act.put, List.getElem_toArray, List.getElem_cons_succ, List.getElem_cons_zero, List.setIfInBounds_toArray, List.set_cons_zero, List.set_cons_succ])
          refine wpAnyG_take 5 (v := ?_) rfl (by kernel_rfl) (by intro _ _ _ h; cases h) S0 (Or.inl ⟨by rfl, by intro w' hSw; go_simp; try with_reducible rfl⟩) ?_; (try simp only [Act.put, List.getElem_toArray, List.getElem_cons_succ, List.getElem_cons_zero, List.setIfInBounds_toArray, List.set_cons_zero, List.set_cons_succ])
          refine wpAnyG_take 6 (v := ?_) rfl (by kernel_rfl) (by intro _ _ _ h; cases h) S0 (Or.inl ⟨by rfl, by intro w' hSw; go_simp; try with_reducible rfl⟩) ?_; (try simp only [Act.put, List.getElem_toArray, List.getElem_cons_succ, List.getElem_cons_zero, List.setIfInBounds_toArray, List.set_cons_zero, List.set_cons_succ])
          refine wpAnyG_take 7 (v := ?_) rfl (by kernel_rfl) (by intro _ _ _ h; cases h) S0 (Or.inl ⟨by rfl, by intro w' hSw; go_simp; try with_reducible rfl⟩) ?_; (try simp only [Act.put, List.getElem_toArray, List.getElem_cons_succ, List.getElem_cons_zero, List.setIfInBounds_toArray, List.set_cons_zero, List.set_cons_succ])
          refine wpAnyG_take 8 (v := ?_) rfl (by kernel_rfl) (by intro _ _ _ h; cases h) S0 (Or.inl ⟨by rfl, by intro w' hSw; go_simp; try with_reducible rfl⟩) ?_; (try simp only [Act.put, List.getElem_toArray, List.getElem_cons_succ, List.getElem_cons_zero, List.setIfInBounds_toArray, List.set_cons_zero, List.set_cons_succ])
          refine wpAnyG_take 9 (v := ?_) rfl (by kernel_rfl) (by intro _ _ _ h; cases h) S0 (Or.inl ⟨by rfl, by intro w' hSw; go_simp; try with_reducible rfl⟩) ?_; (try simp only [Act.put, List.getElem_toArray, List.getElem_cons_succ, List.getElem_cons_zero, List.setIfInBounds_toArray, List.set_cons_zero, List.set_cons_succ])
          refine wpAnyG_one 11 (by kernel_rfl) rfl (fun K hK => ?_)
          rw [if_pos (by rfl)]
          go_simp
          have hF : w5.heap.size ≤ wd.heap.size := by first | omega | (have hs := bw.out.size; (try simp at hs); omega)
          have hne : w5.heap.size ≠ wd.heap.size := Nat.ne_of_lt (by have hs := qgR.lt; (try simp at hs); omega)
          have qgF : Blk (wd.alloc (.cells #[.bool false, .int .i64 0, .int .u32 0] 31)) (wd.heap.size) 31 #[.bool false, .int .i64 0, .int .u32 0] := Blk.newAt (b := wd.heap.size) wd 31 #[.bool false, .int .i64 0, .int .u32 0] (by simp)
          replace bw : Bel w5 (wd.alloc (.cells #[.bool false, .int .i64 0, .int .u32 0] 31)) := ⟨(bw.alloc (.cells #[.bool false, .int .i64 0, .int .u32 0] 31)).out⟩
          replace S0 : Blk (wd.alloc (.cells #[.bool false, .int .i64 0, .int .u32 0] 31)) W.heap.size 24 #[.int .i64 p, .slice A n c] := S0.alloc (.cells #[.bool false, .int .i64 0, .int .u32 0] 31)
          replace qgR : Blk (wd.alloc (.cells #[.bool false, .int .i64 0, .int .u32 0] 31)) (w5.heap.size) 24 #[.int .i64 0, .slice none 0 0] := qgR.alloc (.cells #[.bool false, .int .i64 0, .int .u32 0] 31)
          replace mA2 : Mine 0 (wd.alloc (.cells #[.bool false, .int .i64 0, .int .u32 0] 31)) A2 n2 c2 L2 := mA2.alloc (.cells #[.bool false, .int .i64 0, .int .u32 0] 31)
          replace mC2 : MineC 0 (wd.alloc (.cells #[.bool false, .int .i64 0, .int .u32 0] 31)) B2 m2 d2 es2 := mC2.alloc (.cells #[.bool false, .int .i64 0, .int .u32 0] 31)
          (try go_simp)
          refine hK.out _ _ (fun _ => S0) ?_
          clear hK K
          (try simp only [Act.put, List.getElem_toArray, List.getElem_cons_succ, List.getElem_cons_zero, List.setIfInBounds_toArray, List.set_cons_zero, List.set_cons_succ])
          refine wpAnyG_one 12 (by kernel_rfl) rfl (fun K hK => ?_)
          rw [if_pos (by rfl)]
          refine wp_putB _ _ _ rfl rfl rfl qgR (by rfl) (by rfl) (by rfl) ?_
          intro w8 qn hg
          replace bw := bw.grown hg hR
          replace mA2 := mA2.grownB qgR (by decide) hg
          replace mC2 := mC2.grownB qgR (by decide) (by decide) hg
          replace qgF := qgF.grown hg ((hne).symm)
          replace S0 : Blk w8 W.heap.size 24 #[.int .i64 p, .slice A n c] := S0.grown hg (by have := hbx; omega)
          clear hg qgR
          have qgR := qn
          clear qn
          (try go_simp)
          refine hK.out _ _ (fun _ => S0) ?_
          clear hK K
          (try simp only [Act.put, List.getElem_toArray, List.getElem_cons_succ, List.getElem_cons_zero, List.setIfInBounds_toArray, List.set_cons_zero, List.set_cons_succ])
          refine wpAnyG_take 13 (v := ?_) rfl (by kernel_rfl) (by intro _ _ _ h; cases h) S0 (Or.inl ⟨by rfl, by intro w' hSw; go_simp; try with_reducible rfl⟩) ?_; (try simp only [Act.put, List.getElem_toArray, List.getElem_cons_succ, List.getElem_cons_zero, List.setIfInBounds_toArray, List.set_cons_zero, List.set_cons_succ])
          refine wpAnyG_one 14 (by kernel_rfl) rfl (fun K hK => ?_)
          rw [if_pos (by rfl)]
          refine wp_putB _ _ _ rfl rfl rfl qgF (by rfl) (by rfl) (by rfl) ?_
          intro w8 qn hg
          replace bw := bw.grown hg hF
          replace mA2 := mA2.grownB qgF (by decide) hg
          replace mC2 := mC2.grownB qgF (by decide) (by decide) hg
          replace qgR := qgR.grown hg (hne)
          replace S0 : Blk w8 W.heap.size 24 #[.int .i64 p, .slice A n c] := S0.grown hg (by have := hbx; omega)
          clear hg qgF
          have qgF := qn
          clear qn
          (try go_simp)
          refine hK.out _ _ (fun _ => S0) ?_
          clear hK K
          (try simp only [Act.put, List.getElem_toArray, List.getElem_cons_succ, List.getElem_cons_zero, List.setIfInBounds_toArray, List.set_cons_zero, List.set_cons_succ])
          refine wpAnyG_take 15 (v := ?_) rfl (by kernel_rfl) (by intro _ _ _ h; cases h) S0 (Or.inl ⟨by rfl, by intro w' hSw; go_simp; try with_reducible rfl⟩) ?_; (try simp only [Act.put, List.getElem_toArray, List.getElem_cons_succ, List.getElem_cons_zero, List.setIfInBounds_toArray, List.set_cons_zero, List.set_cons_succ])
          refine wpAnyG_done (by kernel_rfl) ?_ _
          refine NoPanic.normal ?_
          refine ⟨rfl, _, _, A2, n2, c2, B2, m2, d2, es2, ?_, qgR, qgF, mA2, mC2, HPS2.out, bw.out, hR, hF, hne⟩
          (try simp only [Act.put, List.getElem_toArray, List.getElem_cons_succ, List.getElem_cons_zero, List.setIfInBounds_toArray, List.set_cons_zero, List.set_cons_succ])
          (try rfl)
        · rw [if_pos (by rfl)]
          go_simp
          have hF : w5.heap.size ≤ w5.heap.size + 1 := by first | omega | (have hs := bw.out.size; (try simp at hs); omega)
          have hne : w5.heap.size ≠ w5.heap.size + 1 := Nat.ne_of_lt (by have hs := qgR.lt; (try simp at hs); omega)
          have qgF : Blk ((w5.alloc (.cells #[.int .i64 0, .slice none 0 0] 24)).alloc (.cells #[.bool false, .int .i64 0, .int .u32 0] 31)).drew (w5.heap.size + 1) 31 #[.bool false, .int .i64 0, .int .u32 0] := Blk.newAt (b := w5.heap.size + 1) (w5.alloc (.cells #[.int .i64 0, .slice none 0 0] 24)) 31 #[.bool false, .int .i64 0, .int .u32 0] (by simp)
          replace bw : Bel w5 ((w5.alloc (.cells #[.int .i64 0, .slice none 0 0] 24)).alloc (.cells #[.bool false, .int .i64 0, .int .u32 0] 31)).drew := ⟨(bw.alloc (.cells #[.bool false, .int .i64 0, .int .u32 0] 31)).out⟩
          replace S0 : Blk ((w5.alloc (.cells #[.int .i64 0, .slice none 0 0] 24)).alloc (.cells #[.bool false, .int .i64 0, .int .u32 0] 31)).drew W.heap.size 24 #[.int .i64 p, .slice A n c] := S0.alloc (.cells #[.bool false, .int .i64 0, .int .u32 0] 31)
          replace qgR : Blk ((w5.alloc (.cells #[.int .i64 0, .slice none 0 0] 24)).alloc (.cells #[.bool false, .int .i64 0, .int .u32 0] 31)).drew (w5.heap.size) 24 #[.int .i64 0, .slice none 0 0] := qgR.alloc (.cells #[.bool false, .int .i64 0, .int .u32 0] 31)
          (try go_simp)
          refine hK.out _ _ (fun _ => S0) ?_
          clear hK K
          (try simp only [Act.put, List.getElem_toArray, List.getElem_cons_succ, List.getElem_cons_zero, List.setIfInBounds_toArray, List.set_cons_zero, List.set_cons_succ])
          refine wpAnyG_one 4 (by kernel_rfl) rfl (fun K hK => ?_)
          rw [if_pos (by rfl)]
          go_simp
          (with_reducible refine (F2.out _ (HY.out.below (b0.out.trans (bw.out.mono b0.out.size))) ((HC.out.below (b0.out.trans (bw.out.mono b0.out.size))).cutH HJ.out)).mono ?_)
          rintro e wd ⟨A2, n2, c2, B2, m2, d2, es2, rfl, mA2, mC2, hps2, hb⟩
          replace mA2 := mA2.base_le (Nat.zero_le _)
          replace mC2 := mC2.base_le (Nat.zero_le _)
          have HPS2 := Lib.hid hps2
          clear hps2
          replace bw := bw.below hb
          replace S0 : Blk wd W.heap.size 24 #[.int .i64 p, .slice A n c] := S0.below hb
          replace qgR := qgR.below hb
          replace qgF := qgF.below hb
          clear hb
          (try go_simp)
          refine hK.out _ _ (fun _ => S0) ?_
          clear hK K
          (try simp only [Act.put, List.getElem_toArray, List.getElem_cons_succ, List.getElem_cons_zero, List.setIfInBounds_toArray, List.set_cons_zero, List.set_cons_succ])
          refine wpAnyG_take 5 (v := ?_) rfl (by kernel_rfl) (by intro _ _ _ h; cases h) S0 (Or.inl ⟨by rfl, by intro w' hSw; go_simp; try with_reducible rfl⟩) ?_; (try simp only [Act.put, List.getElem_toArray, List.getElem_cons_succ, List.getElem_cons_zero, List.setIfInBounds_toArray, List.set_cons_zero, List.set_cons_succ])
          refine wpAnyG_take 6 (v := ?_) rfl (by kernel_rfl) (by intro _ _ _ h; cases h) S0 (Or.inl ⟨by rfl, by intro w' hSw; go_simp; try with_reducible rfl⟩) ?_; (try simp only [Act.put, List.getElem_toArray, List.getElem_cons_succ, List.getElem_cons_zero, List.setIfInBounds_toArray, List.set_cons_zero, List.set_cons_succ])
          refine wpAnyG_take 7 (v := ?_) rfl (by kernel_rfl) (by intro _ _ _ h; cases h) S0 (Or.inl ⟨by rfl, by intro w' hSw; go_simp; try with_reducible rfl⟩) ?_; (try simp only [Act.put, List.getElem_toArray, List.getElem_cons_succ, List.getElem_cons_zero, List.setIfInBounds_toArray, List.set_cons_zero, List.set_cons_succ])
          refine wpAnyG_take 8 (v := ?_) rfl (by kernel_rfl) (by intro _ _ _ h; cases h) S0 (Or.inl ⟨by rfl, by intro w' hSw; go_simp; try with_reducible rfl⟩) ?_; (try simp only [Act.put, List.getElem_toArray, List.getElem_cons_succ, List.getElem_cons_zero, List.setIfInBounds_toArray, List.set_cons_zero, List.set_cons_succ])
          refine wpAnyG_take 9 (v := ?_) rfl (by kernel_rfl) (by intro _ _ _ h; cases h) S0 (Or.inl ⟨by rfl, by intro w' hSw; go_simp; try with_reducible rfl⟩) ?_; (try simp only [Act.put, List.getElem_toArray, List.getElem_cons_succ, List.getElem_cons_zero, List.setIfInBounds_toArray, List.set_cons_zero, List.set_cons_succ])
          refine wpAnyG_one 12 (by kernel_rfl) rfl (fun K hK => ?_)
          rw [if_pos (by rfl)]
          refine wp_putB _ _ _ rfl rfl rfl qgR (by rfl) (by rfl) (by rfl) ?_
          intro w8 qn hg
          replace bw := bw.grown hg hR
          replace mA2 := mA2.grownB qgR (by decide) hg
          replace mC2 := mC2.grownB qgR (by decide) (by decide) hg
          replace qgF := qgF.grown hg ((hne).symm)
          replace S0 : Blk w8 W.heap.size 24 #[.int .i64 p, .slice A n c] := S0.grown hg (by have := hbx; omega)
          clear hg qgR
          have qgR := qn
          clear qn
          (try go_simp)
          refine hK.out _ _ (fun _ => S0) ?_
          clear hK K
          (try simp only [Act.put, List.getElem_toArray, List.getElem_cons_succ, List.getElem_cons_zero, List.setIfInBounds_toArray, List.set_cons_zero, List.set_cons_succ])
          refine wpAnyG_take 13 (v := ?_) rfl (by kernel_rfl) (by intro _ _ _ h; cases h) S0 (Or.inl ⟨by rfl, by intro w' hSw; go_simp; try with_reducible rfl⟩) ?_; (try simp only [Act.put, List.getElem_toArray, List.getElem_cons_succ, List.getElem_cons_zero, List.setIfInBounds_toArray, List.set_cons_zero, List.set_cons_succ])
          refine wpAnyG_one 14 (by kernel_rfl) rfl (fun K hK => ?_)
          rw [if_pos (by rfl)]
          refine wp_putB _ _ _ rfl rfl rfl qgF (by rfl) (by rfl) (by rfl) ?_
          intro w8 qn hg
          replace bw := bw.grown hg hF
          replace mA2 := mA2.grownB qgF (by decide) hg
          replace mC2 := mC2.grownB qgF (by decide) (by decide) hg
          replace qgR := qgR.grown hg (hne)
          replace S0 : Blk w8 W.heap.size 24 #[.int .i64 p, .slice A n c] := S0.grown hg (by have := hbx; omega)
          clear hg qgF
          have qgF := qn
          clear qn
          (try go_simp)
          refine hK.out _ _ (fun _ => S0) ?_
          clear hK K
          (try simp only [Act.put, List.getElem_toArray, List.getElem_cons_succ, List.getElem_cons_zero, List.setIfInBounds_toArray, List.set_cons_zero, List.set_cons_succ])
          refine wpAnyG_take 15 (v := ?_) rfl (by kernel_rfl) (by intro _ _ _ h; cases h) S0 (Or.inl ⟨by rfl, by intro w' hSw; go_simp; try with_reducible rfl⟩) ?_; (try simp only [Act.put, List.getElem_toArray, List.getElem_cons_succ, List.getElem_cons_zero, List.setIfInBounds_toArray, List.set_cons_zero, List.set_cons_succ])
          refine wpAnyG_done (by kernel_rfl) ?_ _
          refine NoPanic.normal ?_
          refine ⟨rfl, _, _, A2, n2, c2, B2, m2, d2, es2, ?_, qgR, qgF, mA2, mC2, HPS2.out, bw.out, hR, hF, hne⟩
          (try simp only [Act.put, List.getElem_toArray, List.getElem_cons_succ, List.getElem_cons_zero, List.setIfInBounds_toArray, List.set_cons_zero, List.set_cons_succ])
          (try rfl)
      · rw [if_pos (by rfl)]
        go_simp
        have hF : w5.heap.size ≤ w5.heap.size := by first | omega | (have hs := bw.out.size; (try simp at hs); omega)
        have qgF : Blk (w5.alloc (.cells #[.bool false, .int .i64 0, .int .u32 0] 31)).drew (w5.heap.size) 31 #[.bool false, .int .i64 0, .int .u32 0] := Blk.newAt (b := w5.heap.size) w5 31 #[.bool false, .int .i64 0, .int .u32 0] (by simp)
        replace bw : Bel w5 (w5.alloc (.cells #[.bool false, .int .i64 0, .int .u32 0] 31)).drew := ⟨(bw.alloc (.cells #[.bool false, .int .i64 0, .int .u32 0] 31)).out⟩
        replace S0 : Blk (w5.alloc (.cells #[.bool false, .int .i64 0, .int .u32 0] 31)).drew W.heap.size 24 #[.int .i64 p, .slice A n c] := S0.alloc (.cells #[.bool false, .int .i64 0, .int .u32 0] 31)
        (try go_simp)
        refine hK.out _ _ (fun _ => S0) ?_
        clear hK K
        (try simp only [Act.put, List.getElem_toArray, List.getElem_cons_succ, List.getElem_cons_zero, List.setIfInBounds_toArray, List.set_cons_zero, List.set_cons_succ])
        refine wpAnyG_two 4 10 (by kernel_rfl) rfl rfl (fun K hK => ?_) (fun K hK => ?_)
        · rw [if_pos (by rfl)]
          go_simp
          (with_reducible refine (F2.out _ (HY.out.below (b0.out.trans (bw.out.mono b0.out.size))) ((HC.out.below (b0.out.trans (bw.out.mono b0.out.size))).cutH HJ.out)).mono ?_)
          rintro e wd ⟨A2, n2, c2, B2, m2, d2, es2, rfl, mA2, mC2, hps2, hb⟩
          replace mA2 := mA2.base_le (Nat.zero_le _)
          replace mC2 := mC2.base_le (Nat.zero_le _)
          have HPS2 := Lib.hid hps2
          clear hps2
          replace bw := bw.below hb
          replace S0 : Blk wd W.heap.size 24 #[.int .i64 p, .slice A n c] := S0.below hb
          replace qgF := qgF.below hb
          clear hb
          (try go_simp)
          refine hK.out _ _ (fun _ => S0) ?_
          clear hK K
          (try simp only [Act.put, List.getElem_toArray, List.getElem_cons_succ, List.getElem_cons_zero, List.setIfInBounds_toArray, List.set_cons_zero, List.set_cons_succ])
          refine wpAnyG_take 5 (v := ?_) rfl (by kernel_rfl) (by intro _ _ _ h; cases h) S0 (Or.inl ⟨by rfl, by intro w' hSw; go_simp; try with_reducible rfl⟩) ?_; (try simp only [Act.put, List.getElem_toArray, List.getElem_cons_succ, List.getElem_cons_zero, List.setIfInBounds_toArray, List.set_cons_zero, List.set_cons_succ])
          refine wpAnyG_take 6 (v := ?_) rfl (by kernel_rfl) (by intro _ _ _ h; cases h) S0 (Or.inl ⟨by rfl, by intro w' hSw; go_simp; try with_reducible rfl⟩) ?_; (try simp only [Act.put, List.getElem_toArray, List.getElem_cons_succ, List.getElem_cons_zero, List.setIfInBounds_toArray, List.set_cons_zero, List.set_cons_succ])
          refine wpAnyG_take 7 (v := ?_) rfl (by kernel_rfl) (by intro _ _ _ h; cases h) S0 (Or.inl ⟨by rfl, by intro w' hSw; go_simp; try with_reducible rfl⟩) ?_; (try simp only [Act.put, List.getElem_toArray, List.getElem_cons_succ, List.getElem_cons_zero, List.setIfInBounds_toArray, List.set_cons_zero, List.set_cons_succ])
          refine wpAnyG_take 8 (v := ?_) rfl (by kernel_rfl) (by intro _ _ _ h; cases h) S0 (Or.inl ⟨by rfl, by intro w' hSw; go_simp; try with_reducible rfl⟩) ?_; (try simp only [Act.put, List.getElem_toArray, List.getElem_cons_succ, List.getElem_cons_zero, List.setIfInBounds_toArray, List.set_cons_zero, List.set_cons_succ])
          refine wpAnyG_take 9 (v := ?_) rfl (by kernel_rfl) (by intro _ _ _ h; cases h) S0 (Or.inl ⟨by rfl, by intro w' hSw; go_simp; try with_reducible rfl⟩) ?_; (try simp only [Act.put, List.getElem_toArray, List.getElem_cons_succ, List.getElem_cons_zero, List.setIfInBounds_toArray, List.set_cons_zero, List.set_cons_succ])
          refine wpAnyG_one 10 (by kernel_rfl) rfl (fun K hK => ?_)
          rw [if_pos (by rfl)]
          go_simp
          have hR : w5.heap.size ≤ wd.heap.size := by first | omega | (have hs := bw.out.size; (try simp at hs); omega)
          have hne : w5.heap.size ≠ wd.heap.size := Nat.ne_of_lt (by have hs := qgF.lt; (try simp at hs); omega)
          have qgR : Blk (wd.alloc (.cells #[.int .i64 0, .slice none 0 0] 24)) (wd.heap.size) 24 #[.int .i64 0, .slice none 0 0] := Blk.newAt (b := wd.heap.size) wd 24 #[.int .i64 0, .slice none 0 0] (by simp)
          replace bw : Bel w5 (wd.alloc (.cells #[.int .i64 0, .slice none 0 0] 24)) := ⟨(bw.alloc (.cells #[.int .i64 0, .slice none 0 0] 24)).out⟩
          replace S0 : Blk (wd.alloc (.cells #[.int .i64 0, .slice none 0 0] 24)) W.heap.size 24 #[.int .i64 p, .slice A n c] := S0.alloc (.cells #[.int .i64 0, .slice none 0 0] 24)
          replace qgF : Blk (wd.alloc (.cells #[.int .i64 0, .slice none 0 0] 24)) (w5.heap.size) 31 #[.bool false, .int .i64 0, .int .u32 0] := qgF.alloc (.cells #[.int .i64 0, .slice none 0 0] 24)
          replace mA2 : Mine 0 (wd.alloc (.cells #[.int .i64 0, .slice none 0 0] 24)) A2 n2 c2 L2 := mA2.alloc (.cells #[.int .i64 0, .slice none 0 0] 24)
          replace mC2 : MineC 0 (wd.alloc (.cells #[.int .i64 0, .slice none 0 0] 24)) B2 m2 d2 es2 := mC2.alloc (.cells #[.int .i64 0, .slice none 0 0] 24)
          (try go_simp)
          refine hK.out _ _ (fun _ => S0) ?_
          clear hK K
          (try simp only [Act.put, List.getElem_toArray, List.getElem_cons_succ, List.getElem_cons_zero, List.setIfInBounds_toArray, List.set_cons_zero, List.set_cons_succ])
          refine wpAnyG_one 12 (by kernel_rfl) rfl (fun K hK => ?_)
          rw [if_pos (by rfl)]
          refine wp_putB _ _ _ rfl rfl rfl qgR (by rfl) (by rfl) (by rfl) ?_
          intro w8 qn hg
          replace bw := bw.grown hg hR
          replace mA2 := mA2.grownB qgR (by decide) hg
          replace mC2 := mC2.grownB qgR (by decide) (by decide) hg
          replace qgF := qgF.grown hg ((hne.symm).symm)
          replace S0 : Blk w8 W.heap.size 24 #[.int .i64 p, .slice A n c] := S0.grown hg (by have := hbx; omega)
          clear hg qgR
          have qgR := qn
          clear qn
          (try go_simp)
          refine hK.out _ _ (fun _ => S0) ?_
          clear hK K
          (try simp only [Act.put, List.getElem_toArray, List.getElem_cons_succ, List.getElem_cons_zero, List.setIfInBounds_toArray, List.set_cons_zero, List.set_cons_succ])
          refine wpAnyG_take 13 (v := ?_) rfl (by kernel_rfl) (by intro _ _ _ h; cases h) S0 (Or.inl ⟨by rfl, by intro w' hSw; go_simp; try with_reducible rfl⟩) ?_; (try simp only [Act.put, List.getElem_toArray, List.getElem_cons_succ, List.getElem_cons_zero, List.setIfInBounds_toArray, List.set_cons_zero, List.set_cons_succ])
          refine wpAnyG_one 14 (by kernel_rfl) rfl (fun K hK => ?_)
          rw [if_pos (by rfl)]
          refine wp_putB _ _ _ rfl rfl rfl qgF (by rfl) (by rfl) (by rfl) ?_
          intro w8 qn hg
          replace bw := bw.grown hg hF
          replace mA2 := mA2.grownB qgF (by decide) hg
          replace mC2 := mC2.grownB qgF (by decide) (by decide) hg
          replace qgR := qgR.grown hg (hne.symm)
          replace S0 : Blk w8 W.heap.size 24 #[.int .i64 p, .slice A n c] := S0.grown hg (by have := hbx; omega)
          clear hg qgF
          have qgF := qn
          clear qn
          (try go_simp)
          refine hK.out _ _ (fun _ => S0) ?_
          clear hK K
          (try simp only [Act.put, List.getElem_toArray, List.getElem_cons_succ, List.getElem_cons_zero, List.setIfInBounds_toArray, List.set_cons_zero, List.set_cons_succ])
          refine wpAnyG_take 15 (v := ?_) rfl (by kernel_rfl) (by intro _ _ _ h; cases h) S0 (Or.inl ⟨by rfl, by intro w' hSw; go_simp; try with_reducible rfl⟩) ?_; (try simp only [Act.put, List.getElem_toArray, List.getElem_cons_succ, List.getElem_cons_zero, List.setIfInBounds_toArray, List.set_cons_zero, List.set_cons_succ])
          refine wpAnyG_done (by kernel_rfl) ?_ _
          refine NoPanic.normal ?_
          refine ⟨rfl, _, _, A2, n2, c2, B2, m2, d2, es2, ?_, qgR, qgF, mA2, mC2, HPS2.out, bw.out, hR, hF, hne.symm⟩
          (try simp only [Act.put, List.getElem_toArray, List.getElem_cons_succ, List.getElem_cons_zero, List.setIfInBounds_toArray, List.set_cons_zero, List.set_cons_succ])
          (try rfl)
        · rw [if_pos (by rfl)]
          go_simp
          have hR : w5.heap.size ≤ w5.heap.size + 1 := by first | omega | (have hs := bw.out.size; (try simp at hs); omega)
          have hne : w5.heap.size ≠ w5.heap.size + 1 := Nat.ne_of_lt (by have hs := qgF.lt; (try simp at hs); omega)
          have qgR : Blk ((w5.alloc (.cells #[.bool false, .int .i64 0, .int .u32 0] 31)).alloc (.cells #[.int .i64 0, .slice none 0 0] 24)).drew (w5.heap.size + 1) 24 #[.int .i64 0, .slice none 0 0] := Blk.newAt (b := w5.heap.size + 1) (w5.alloc (.cells #[.bool false, .int .i64 0, .int .u32 0] 31)) 24 #[.int .i64 0, .slice none 0 0] (by simp)
          replace bw : Bel w5 ((w5.alloc (.cells #[.bool false, .int .i64 0, .int .u32 0] 31)).alloc (.cells #[.int .i64 0, .slice none 0 0] 24)).drew := ⟨(bw.alloc (.cells #[.int .i64 0, .slice none 0 0] 24)).out⟩
          replace S0 : Blk ((w5.alloc (.cells #[.bool false, .int .i64 0, .int .u32 0] 31)).alloc (.cells #[.int .i64 0, .slice none 0 0] 24)).drew W.heap.size 24 #[.int .i64 p, .slice A n c] := S0.alloc (.cells #[.int .i64 0, .slice none 0 0] 24)
          replace qgF : Blk ((w5.alloc (.cells #[.bool false, .int .i64 0, .int .u32 0] 31)).alloc (.cells #[.int .i64 0, .slice none 0 0] 24)).drew (w5.heap.size) 31 #[.bool false, .int .i64 0, .int .u32 0] := qgF.alloc (.cells #[.int .i64 0, .slice none 0 0] 24)
          (try go_simp)
          refine hK.out _ _ (fun _ => S0) ?_
          clear hK K
          (try simp only [Act.put, List.getElem_toArray, List.getElem_cons_succ, List.getElem_cons_zero, List.setIfInBounds_toArray, List.set_cons_zero, List.set_cons_succ])
          refine wpAnyG_one 4 (by kernel_rfl) rfl (fun K hK => ?_)
          rw [if_pos (by rfl)]
          go_simp
          (with_reducible refine (F2.out _ (HY.out.below (b0.out.trans (bw.out.mono b0.out.size))) ((HC.out.below (b0.out.trans (bw.out.mono b0.out.size))).cutH HJ.out)).mono ?_)
          rintro e wd ⟨A2, n2, c2, B2, m2, d2, es2, rfl, mA2, mC2, hps2, hb⟩
          replace mA2 := mA2.base_le (Nat.zero_le _)
          replace mC2 := mC2.base_le (Nat.zero_le _)
          have HPS2 := Lib.hid hps2
          clear hps2
          replace bw := bw.below hb
          replace S0 : Blk wd W.heap.size 24 #[.int .i64 p, .slice A n c] := S0.below hb
          replace qgF := qgF.below hb
          replace qgR := qgR.below hb
          clear hb
          (try go_simp)
          refine hK.out _ _ (fun _ => S0) ?_
          clear hK K
          (try simp only [Act.put, List.getElem_toArray, List.getElem_cons_succ, List.getElem_cons_zero, List.setIfInBounds_toArray, List.set_cons_zero, List.set_cons_succ])
          refine wpAnyG_take 5 (v := ?_) rfl (by kernel_rfl) (by intro _ _ _ h; cases h) S0 (Or.inl ⟨by rfl, by intro w' hSw; go_simp; try with_reducible rfl⟩) ?_; (try simp only [Act.put, List.getElem_toArray, List.getElem_cons_succ, List.getElem_cons_zero, List.setIfInBounds_toArray, List.set_cons_zero, List.set_cons_succ])
          refine wpAnyG_take 6 (v := ?_) rfl (by kernel_rfl) (by intro _ _ _ h; cases h) S0 (Or.inl ⟨by rfl, by intro w' hSw; go_simp; try with_reducible rfl⟩) ?_; (try simp only [Act.put, List.getElem_toArray, List.getElem_cons_succ, List.getElem_cons_zero, List.setIfInBounds_toArray, List.set_cons_zero, List.set_cons_succ])
          refine wpAnyG_take 7 (v := ?_) rfl (by kernel_rfl) (by intro _ _ _ h; cases h) S0 (Or.inl ⟨by rfl, by intro w' hSw; go_simp; try with_reducible rfl⟩) ?_; (try simp only [Act.put, List.getElem_toArray, List.getElem_cons_succ, List.getElem_cons_zero, List.setIfInBounds_toArray, List.set_cons_zero, List.set_cons_succ])
          refine wpAnyG_take 8 (v := ?_) rfl (by kernel_rfl) (by intro _ _ _ h; cases h) S0 (Or.inl ⟨by rfl, by intro w' hSw; go_simp; try with_reducible rfl⟩) ?_; (try simp only [Act.put, List.getElem_toArray, List.getElem_cons_succ, List.getElem_cons_zero, List.setIfInBounds_toArray, List.set_cons_zero, List.set_cons_succ])
          refine wpAnyG_take 9 (v := ?_) rfl (by kernel_rfl) (by intro _ _ _ h; cases h) S0 (Or.inl ⟨by rfl, by intro w' hSw; go_simp; try with_reducible rfl⟩) ?_; (try simp only [Act.put, List.getElem_toArray, List.getElem_cons_succ, List.getElem_cons_zero, List.setIfInBounds_toArray, List.set_cons_zero, List.set_cons_succ])
          refine wpAnyG_one 12 (by kernel_rfl) rfl (fun K hK => ?_)
          rw [if_pos (by rfl)]
          refine wp_putB _ _ _ rfl rfl rfl qgR (by rfl) (by rfl) (by rfl) ?_
          intro w8 qn hg
          replace bw := bw.grown hg hR
          replace mA2 := mA2.grownB qgR (by decide) hg
          replace mC2 := mC2.grownB qgR (by decide) (by decide) hg
          replace qgF := qgF.grown hg ((hne.symm).symm)
          replace S0 : Blk w8 W.heap.size 24 #[.int .i64 p, .slice A n c] := S0.grown hg (by have := hbx; omega)
          clear hg qgR
          have qgR := qn
          clear qn
          (try go_simp)
          refine hK.out _ _ (fun _ => S0) ?_
          clear hK K
          (try simp only [Act.put, List.getElem_toArray, List.getElem_cons_succ, List.getElem_cons_zero, List.setIfInBounds_toArray, List.set_cons_zero, List.set_cons_succ])
          refine wpAnyG_take 13 (v := ?_) rfl (by kernel_rfl) (by intro _ _ _ h; cases h) S0 (Or.inl ⟨by rfl, by intro w' hSw; go_simp; try with_reducible rfl⟩) ?_; (try simp only [Act.put, List.getElem_toArray, List.getElem_cons_succ, List.getElem_cons_zero, List.setIfInBounds_toArray, List.set_cons_zero, List.set_cons_succ])
          refine wpAnyG_one 14 (by kernel_rfl) rfl (fun K hK => ?_)
          rw [if_pos (by rfl)]
          refine wp_putB _ _ _ rfl rfl rfl qgF (by rfl) (by rfl) (by rfl) ?_
          intro w8 qn hg
          replace bw := bw.grown hg hF
          replace mA2 := mA2.grownB qgF (by decide) hg
          replace mC2 := mC2.grownB qgF (by decide) (by decide) hg
          replace qgR := qgR.grown hg (hne.symm)
          replace S0 : Blk w8 W.heap.size 24 #[.int .i64 p, .slice A n c] := S0.grown hg (by have := hbx; omega)
          clear hg qgF
          have qgF := qn
          clear qn
          (try go_simp)
          refine hK.out _ _ (fun _ => S0) ?_
          clear hK K
          (try simp only [Act.put, List.getElem_toArray, List.getElem_cons_succ, List.getElem_cons_zero, List.setIfInBounds_toArray, List.set_cons_zero, List.set_cons_succ])
          refine wpAnyG_take 15 (v := ?_) rfl (by kernel_rfl) (by intro _ _ _ h; cases h) S0 (Or.inl ⟨by rfl, by intro w' hSw; go_simp; try with_reducible rfl⟩) ?_; (try simp only [Act.put, List.getElem_toArray, List.getElem_cons_succ, List.getElem_cons_zero, List.setIfInBounds_toArray, List.set_cons_zero, List.set_cons_succ])
          refine wpAnyG_done (by kernel_rfl) ?_ _
          refine NoPanic.normal ?_
          refine ⟨rfl, _, _, A2, n2, c2, B2, m2, d2, es2, ?_, qgR, qgF, mA2, mC2, HPS2.out, bw.out, hR, hF, hne.symm⟩
          (try simp only [Act.put, List.getElem_toArray, List.getElem_cons_succ, List.getElem_cons_zero, List.setIfInBounds_toArray, List.set_cons_zero, List.set_cons_succ])
          (try rfl)
  case rest =>
    as_aux_lemma =>
      rintro a' w6 ⟨g11, g13, Aa, na, ca, Ba, ma, da, esa, rfl, q11, q13, mAa, mCa, hpsa, hb, h11, h13, hne⟩
      (try simp only [Act.put, List.getElem_toArray, List.getElem_cons_succ, List.getElem_cons_zero, List.setIfInBounds_toArray, List.set_cons_zero, List.set_cons_succ])
      replace b0 := b0.below hb
      replace q0 := q0.below hb
      replace q7 := q7.below hb
      replace q9 := q9.below hb
      replace mA1 := mA1.below hb
      replace mC1 := mC1.below hb
      have HPSa := Lib.hid hpsa
      clear hpsa hb F1 F2 hcl
      have LA1 := mA1.len; have LA2 := mAa.len
      have RT1 := Lib.hid fun w (h : Byt w A1 n1 c1 L1) => rRRight P1 A1 n1 c1 L1 w h (by have := h.len; have := HJ.out; have := LN.out.1; have := LN.out.2; have := LN3.out; have := HLN.out; have := HLL.out; omega)
      rw [show rightC P1 L1 = true from decide_eq_true FR1.out] at RT1
      have RT2 := Lib.hid fun w (h : Byt w Aa na ca L2) => rRRight P2 Aa na ca L2 w h (by have := h.len; have := HJ.out; have := LN.out.2; have := HLN.out; have := HLL.out; omega)
      rw [show rightC P2 L2 = true from decide_eq_true FR2.out] at RT2
      have tok1 : True := trivial
      have LA2H := Lib.hid LA2
      (try clear LA1 LA2)
      go_upto_region 10 with (first | ((with_reducible refine wpList_id ?_); refine wpList_getG (by rfl) _ _ rfl rfl q7 Try.underlying24 rfl (by rfl) ?_) | ((with_reducible refine wpList_id ?_); refine wpList_getG (by rfl) _ _ rfl rfl q9 Try.underlying31 rfl (by rfl) ?_) | ((with_reducible refine wpList_id ?_); refine wpList_getG (by rfl) _ _ rfl rfl q11 Try.underlying24 rfl (by rfl) ?_) | ((with_reducible refine wpList_id ?_); refine wpList_getG (by rfl) _ _ rfl rfl q13 Try.underlying31 rfl (by rfl) ?_) | (go_at_call 7; have _t := tok1; clear tok1 _t; (with_reducible refine (RT1.out _ mA1.byt).mono ?_); rintro e w9 ⟨rfl, hb⟩; replace b0 := b0.below hb; replace q7 := q7.below hb; replace q9 := q9.below hb; replace q11 := q11.below hb; replace q13 := q13.below hb; replace mA1 := mA1.below hb; replace mC1 := mC1.below hb; replace mAa := mAa.below hb; replace mCa := mCa.below hb; clear hb) | (go_at_call 7; (with_reducible refine (RT2.out _ mAa.byt).mono ?_); rintro e w9 ⟨rfl, hb⟩; replace b0 := b0.below hb; replace q7 := q7.below hb; replace q9 := q9.below hb; replace q11 := q11.below hb; replace q13 := q13.below hb; replace mA1 := mA1.below hb; replace mC1 := mC1.below hb; replace mAa := mAa.below hb; replace mCa := mCa.below hb; clear hb))
      clear RT1 RT2
      refine wp_cutR (fun a a' w' => ∃ gR gF A2 n2 c2 B2 m2 d2 es2, a' = ((((((((((((((a.put (some 86) (.agg #[.int .i64 P2, .slice Aa na ca])).put (some 87) (.slice B m d)).put (some 88) (.int .i64 (j : Int))).put (some 89) (.slice (cutA B d j) (m - j) (d - j))).put (some 90) (.tuple #[.agg #[.int .i64 P1, .slice A2 n2 c2], .slice B2 m2 d2, .agg #[.bool FW, .int .i64 0, .int .u32 FC], .int .i64 0])).put (some 85) (.tuple #[.agg #[.int .i64 P1, .slice A2 n2 c2], .slice B2 m2 d2, .agg #[.bool FW, .int .i64 0, .int .u32 FC], .int .i64 0])).put (some 91) (.agg #[.int .i64 P1, .slice A2 n2 c2])).put (some 92) (.slice B2 m2 d2)).put (some 93) (.agg #[.bool FW, .int .i64 0, .int .u32 FC])).put (some 94) (.int .i64 0)).put (some 15) (.pointer (some ⟨gR, 0, none⟩))).put (some 17) (.pointer (some ⟨gF, 0, none⟩))).put (some 16) (.slice B2 m2 d2)).put (some 18) (.int .i64 0)) ∧ Blk w' gR 24 #[.int .i64 P1, .slice A2 n2 c2] ∧ Blk w' gF 31 #[.bool FW, .int .i64 0, .int .u32 FC] ∧ Mine 0 w' A2 n2 c2 L1 ∧ MineC 0 w' B2 m2 d2 es2 ∧ es2.map (·.p) = PS3 ∧ Below w9.heap.size w9 w' ∧ w9.heap.size ≤ gR ∧ w9.heap.size ≤ gF ∧ gR ≠ gF) ?reg ?rest
      case reg =>
        as_aux_lemma =>
          have bw := (Bel.refl w9).drew
          have hbx : g11 < w9.heap.size := q11.lt
          have S0 : Blk w9.drew g11 24 #[.int .i64 P2, .slice Aa na ca] := q11.drew
          refine wp_region_noPanic ?_
          refine wp_region_G (fun w' => Blk w' g11 24 #[.int .i64 P2, .slice Aa na ca]) [] (by kernel_rfl) ?_
          refine wpAnyG_take 0 (v := .agg #[.int .i64 P2, .slice Aa na ca]) rfl (by kernel_rfl) (by intro _ _ _ h; cases h) S0 (Or.inl ⟨by rfl, by intro w' hSw; exact exec_getB (by rfl) (by rfl) hSw Try.underlying24 (by rfl) (by rfl)⟩) ?_; (try simp only [Act.put, List.getElem_toArray, List.getElem_cons_succ, List.getElem_cons_zero, List.setIfInBounds_toArray, List.set_cons_zero, List.set_cons_succ])
          refine wpAnyG_take 1 (v := ?_) rfl (by kernel_rfl) (by intro _ _ _ h; cases h) S0 (Or.inl ⟨by rfl, by intro w' hSw; go_simp; try with_reducible rfl⟩) ?_; (try simp only [Act.put, List.getElem_toArray, List.getElem_cons_succ, List.getElem_cons_zero, List.setIfInBounds_toArray, List.set_cons_zero, List.set_cons_succ])
          refine wpAnyG_take 2 (v := ?_) rfl (by kernel_rfl) (by intro _ _ _ h; cases h) S0 (Or.inl ⟨by rfl, by intro w' hSw; go_simp; try with_reducible rfl⟩) ?_; (try simp only [Act.put, List.getElem_toArray, List.getElem_cons_succ, List.getElem_cons_zero, List.setIfInBounds_toArray, List.set_cons_zero, List.set_cons_succ])
          refine wpAnyG_take 3 (v := ?_) rfl (by kernel_rfl) (by intro _ _ _ h; cases h) S0 (Or.inl ⟨by rfl, by intro w' hSw; go_simp; try with_reducible rfl⟩) ?_; (try simp only [Act.put, List.getElem_toArray, List.getElem_cons_succ, List.getElem_cons_zero, List.setIfInBounds_toArray, List.set_cons_zero, List.set_cons_succ])
          refine wpAnyG_three 4 10 11 (by kernel_rfl) rfl rfl rfl (fun K hK => ?_) (fun K hK => ?_) (fun K hK => ?_)
          · rw [if_pos (by rfl)]
            go_simp
            (with_reducible refine (F3.out _ _ _ _ (mAa.byt.below bw.out) ((HC.out.below (b0.out.trans (bw.out.mono b0.out.size))).cutL HJ.out) mAa.len.symm).mono ?_)
            rintro e wd ⟨A2, n2, c2, B2, m2, d2, es2, rfl, mA2, mC2, hps2, hb⟩
            replace mA2 := mA2.base_le (Nat.zero_le _)
            replace mC2 := mC2.base_le (Nat.zero_le _)
            have HPS2 := Lib.hid hps2
            clear hps2
            replace bw := bw.below hb
            replace S0 : Blk wd g11 24 #[.int .i64 P2, .slice Aa na ca] := S0.below hb
            clear hb
            (try go_simp)
            refine hK.out _ _ (fun _ => S0) ?_
            clear hK K
            (try simp only [Act.put, List.getElem_toArray, List.getElem_cons_succ, List.getElem_cons_zero, List.setIfInBounds_toArray, List.set_cons_zero, List.set_cons_succ])
            refine wpAnyG_take 5 (v := ?_) rfl (by kernel_rfl) (by intro _ _ _ h; cases h) S0 (Or.inl ⟨by rfl, by intro w' hSw; go_simp; try with_reducible rfl⟩) ?_; (try simp only [Act.put, List.getElem_toArray, List.getElem_cons_succ, List.getElem_cons_zero, List.setIfInBounds_toArray, List.set_cons_zero, List.set_cons_succ])
            refine wpAnyG_take 6 (v := ?_) rfl (by kernel_rfl) (by intro _ _ _ h; cases h) S0 (Or.inl ⟨by rfl, by intro w' hSw; go_simp; try with_reducible rfl⟩) ?_; (try simp only [Act.put, List.getElem_toArray, List.getElem_cons_succ, List.getElem_cons_zero, List.setIfInBounds_toArray, List.set_cons_zero, List.set_cons_succ])
            refine wpAnyG_take 7 (v := ?_) rfl (by kernel_rfl) (by intro _ _ _ h; cases h) S0 (Or.inl ⟨by rfl, by intro w' hSw; go_simp; try with_reducible rfl⟩) ?_; (try simp only [Act.put, List.getElem_toArray, List.getElem_cons_succ, List.getElem_cons_zero, List.setIfInBounds_toArray, List.set_cons_zero, List.set_cons_succ])
            refine wpAnyG_take 8 (v := ?_) rfl (by kernel_rfl) (by intro _ _ _ h; cases h) S0 (Or.inl ⟨by rfl, by intro w' hSw; go_simp; try with_reducible rfl⟩) ?_; (try simp only [Act.put, List.getElem_toArray, List.getElem_cons_succ, List.getElem_cons_zero, List.setIfInBounds_toArray, List.set_cons_zero, List.set_cons_succ])
            refine wpAnyG_take 9 (v := ?_) rfl (by kernel_rfl) (by intro _ _ _ h; cases h) S0 (Or.inl ⟨by rfl, by intro w' hSw; go_simp; try with_reducible rfl⟩) ?_; (try simp only [Act.put, List.getElem_toArray, List.getElem_cons_succ, List.getElem_cons_zero, List.setIfInBounds_toArray, List.set_cons_zero, List.set_cons_succ])
            refine wpAnyG_two 10 11 (by kernel_rfl) rfl rfl (fun K hK => ?_) (fun K hK => ?_)
            · rw [if_pos (by rfl)]
              go_simp
              have hR : w9.heap.size ≤ wd.heap.size := by first | omega | (have hs := bw.out.size; (try simp at hs); omega)
              have qgR : Blk (wd.alloc (.cells #[.int .i64 0, .slice none 0 0] 24)) (wd.heap.size) 24 #[.int .i64 0, .slice none 0 0] := Blk.newAt (b := wd.heap.size) wd 24 #[.int .i64 0, .slice none 0 0] (by simp)
              replace bw : Bel w9 (wd.alloc (.cells #[.int .i64 0, .slice none 0 0] 24)) := ⟨(bw.alloc (.cells #[.int .i64 0, .slice none 0 0] 24)).out⟩
              replace S0 : Blk (wd.alloc (.cells #[.int .i64 0, .slice none 0 0] 24)) g11 24 #[.int .i64 P2, .slice Aa na ca] := S0.alloc (.cells #[.int .i64 0, .slice none 0 0] 24)
              replace mA2 : Mine 0 (wd.alloc (.cells #[.int .i64 0, .slice none 0 0] 24)) A2 n2 c2 L1 := mA2.alloc (.cells #[.int .i64 0, .slice none 0 0] 24)
              replace mC2 : MineC 0 (wd.alloc (.cells #[.int .i64 0, .slice none 0 0] 24)) B2 m2 d2 es2 := mC2.alloc (.cells #[.int .i64 0, .slice none 0 0] 24)
              (try go_simp)
              refine hK.out _ _ (fun _ => S0) ?_
              clear hK K
              (try simp only [Act.put, List.getElem_toArray, List.getElem_cons_succ, List.getElem_cons_zero, List.setIfInBounds_toArray, List.set_cons_zero, List.set_cons_succ])
              refine wpAnyG_one 11 (by kernel_rfl) rfl (fun K hK => ?_)
              rw [if_pos (by rfl)]
              go_simp
              have hF : w9.heap.size ≤ wd.heap.size + 1 := by first | omega | (have hs := bw.out.size; (try simp at hs); omega)
              have hne : wd.heap.size ≠ wd.heap.size + 1 := Nat.ne_of_lt (by have hs := qgR.lt; (try simp at hs); omega)
              have qgF : Blk ((wd.alloc (.cells #[.int .i64 0, .slice none 0 0] 24)).alloc (.cells #[.bool false, .int .i64 0, .int .u32 0] 31)) (wd.heap.size + 1) 31 #[.bool false, .int .i64 0, .int .u32 0] := Blk.newAt (b := wd.heap.size + 1) (wd.alloc (.cells #[.int .i64 0, .slice none 0 0] 24)) 31 #[.bool false, .int .i64 0, .int .u32 0] (by simp)
              replace bw : Bel w9 ((wd.alloc (.cells #[.int .i64 0, .slice none 0 0] 24)).alloc (.cells #[.bool false, .int .i64 0, .int .u32 0] 31)) := ⟨(bw.alloc (.cells #[.bool false, .int .i64 0, .int .u32 0] 31)).out⟩
              replace S0 : Blk ((wd.alloc (.cells #[.int .i64 0, .slice none 0 0] 24)).alloc (.cells #[.bool false, .int .i64 0, .int .u32 0] 31)) g11 24 #[.int .i64 P2, .slice Aa na ca] := S0.alloc (.cells #[.bool false, .int .i64 0, .int .u32 0] 31)
              replace mA2 : Mine 0 ((wd.alloc (.cells #[.int .i64 0, .slice none 0 0] 24)).alloc (.cells #[.bool false, .int .i64 0, .int .u32 0] 31)) A2 n2 c2 L1 := mA2.alloc (.cells #[.bool false, .int .i64 0, .int .u32 0] 31)
              replace mC2 : MineC 0 ((wd.alloc (.cells #[.int .i64 0, .slice none 0 0] 24)).alloc (.cells #[.bool false, .int .i64 0, .int .u32 0] 31)) B2 m2 d2 es2 := mC2.alloc (.cells #[.bool false, .int .i64 0, .int .u32 0] 31)
              replace qgR : Blk ((wd.alloc (.cells #[.int .i64 0, .slice none 0 0] 24)).alloc (.cells #[.bool false, .int .i64 0, .int .u32 0] 31)) (wd.heap.size) 24 #[.int .i64 0, .slice none 0 0] := qgR.alloc (.cells #[.bool false, .int .i64 0, .int .u32 0] 31)
              (try go_simp)
              refine hK.out _ _ (fun _ => S0) ?_
              clear hK K
              (try simp only [Act.put, List.getElem_toArray, List.getElem_cons_succ, List.getElem_cons_zero, List.setIfInBounds_toArray, List.set_cons_zero, List.set_cons_succ])
              refine wpAnyG_one 12 (by kernel_rfl) rfl (fun K hK => ?_)
              rw [if_pos (by rfl)]
              refine wp_putB _ _ _ rfl rfl rfl qgR (by rfl) (by rfl) (by rfl) ?_
              intro w8 qn hg
              replace bw := bw.grown hg hR
              replace mA2 := mA2.grownB qgR (by decide) hg
              replace mC2 := mC2.grownB qgR (by decide) (by decide) hg
              replace qgF := qgF.grown hg ((hne).symm)
              replace S0 : Blk w8 g11 24 #[.int .i64 P2, .slice Aa na ca] := S0.grown hg (by have := hbx; omega)
              clear hg qgR
              have qgR := qn
              clear qn
              (try go_simp)
              refine hK.out _ _ (fun _ => S0) ?_
              clear hK K
              (try simp only [Act.put, List.getElem_toArray, List.getElem_cons_succ, List.getElem_cons_zero, List.setIfInBounds_toArray, List.set_cons_zero, List.set_cons_succ])
              refine wpAnyG_take 13 (v := ?_) rfl (by kernel_rfl) (by intro _ _ _ h; cases h) S0 (Or.inl ⟨by rfl, by intro w' hSw; go_simp; try with_reducible rfl⟩) ?_; (try simp only [Act.put, List.getElem_toArray, List.getElem_cons_succ, List.getElem_cons_zero, List.setIfInBounds_toArray, List.set_cons_zero, List.set_cons_succ])
              refine wpAnyG_one 14 (by kernel_rfl) rfl (fun K hK => ?_)
              rw [if_pos (by rfl)]
              refine wp_putB _ _ _ rfl rfl rfl qgF (by rfl) (by rfl) (by rfl) ?_
              intro w8 qn hg
              replace bw := bw.grown hg hF
              replace mA2 := mA2.grownB qgF (by decide) hg
              replace mC2 := mC2.grownB qgF (by decide) (by decide) hg
              replace qgR := qgR.grown hg (hne)
              replace S0 : Blk w8 g11 24 #[.int .i64 P2, .slice Aa na ca] := S0.grown hg (by have := hbx; omega)
              clear hg qgF
              have qgF := qn
              clear qn
              (try go_simp)
              refine hK.out _ _ (fun _ => S0) ?_
              clear hK K
              (try simp only [Act.put, List.getElem_toArray, List.getElem_cons_succ, List.getElem_cons_zero, List.setIfInBounds_toArray, List.set_cons_zero, List.set_cons_succ])
              refine wpAnyG_take 15 (v := ?_) rfl (by kernel_rfl) (by intro _ _ _ h; cases h) S0 (Or.inl ⟨by rfl, by intro w' hSw; go_simp; try with_reducible rfl⟩) ?_; (try simp only [Act.put, List.getElem_toArray, List.getElem_cons_succ, List.getElem_cons_zero, List.setIfInBounds_toArray, List.set_cons_zero, List.set_cons_succ])
              refine wpAnyG_done (by kernel_rfl) ?_ _
              refine NoPanic.normal ?_
              refine ⟨rfl, _, _, A2, n2, c2, B2, m2, d2, es2, ?_, qgR, qgF, mA2, mC2, HPS2.out, bw.out, hR, hF, hne⟩
              (try simp only [Act.put, List.getElem_toArray, List.getElem_cons_succ, List.getElem_cons_zero, List.setIfInBounds_toArray, List.set_cons_zero, List.set_cons_succ])
              (try rfl)
            · rw [if_pos (by rfl)]
              go_simp
              have hF : w9.heap.size ≤ wd.heap.size := by first | omega | (have hs := bw.out.size; (try simp at hs); omega)
              have qgF : Blk (wd.alloc (.cells #[.bool false, .int .i64 0, .int .u32 0] 31)) (wd.heap.size) 31 #[.bool false, .int .i64 0, .int .u32 0] := Blk.newAt (b := wd.heap.size) wd 31 #[.bool false, .int .i64 0, .int .u32 0] (by simp)
              replace bw : Bel w9 (wd.alloc (.cells #[.bool false, .int .i64 0, .int .u32 0] 31)) := ⟨(bw.alloc (.cells #[.bool false, .int .i64 0, .int .u32 0] 31)).out⟩
              replace S0 : Blk (wd.alloc (.cells #[.bool false, .int .i64 0, .int .u32 0] 31)) g11 24 #[.int .i64 P2, .slice Aa na ca] := S0.alloc (.cells #[.bool false, .int .i64 0, .int .u32 0] 31)
              replace mA2 : Mine 0 (wd.alloc (.cells #[.bool false, .int .i64 0, .int .u32 0] 31)) A2 n2 c2 L1 := mA2.alloc (.cells #[.bool false, .int .i64 0, .int .u32 0] 31)
              replace mC2 : MineC 0 (wd.alloc (.cells #[.bool false, .int .i64 0, .int .u32 0] 31)) B2 m2 d2 es2 := mC2.alloc (.cells #[.bool false, .int .i64 0, .int .u32 0] 31)
              (try go_simp)
              refine hK.out _ _ (fun _ => S0) ?_
              clear hK K
              (try simp only [Act.put, List.getElem_toArray, List.getElem_cons_succ, List.getElem_cons_zero, List.setIfInBounds_toArray, List.set_cons_zero, List.set_cons_succ])
              refine wpAnyG_one 10 (by kernel_rfl) rfl (fun K hK => ?_)
              rw [if_pos (by rfl)]
              go_simp
              have hR : w9.heap.size ≤ wd.heap.size + 1 := by first | omega | (have hs := bw.out.size; (try simp at hs); omega)
              have hne : wd.heap.size ≠ wd.heap.size + 1 := Nat.ne_of_lt (by have hs := qgF.lt; (try simp at hs); omega)
              have qgR : Blk ((wd.alloc (.cells #[.bool false, .int .i64 0, .int .u32 0] 31)).alloc (.cells #[.int .i64 0, .slice none 0 0] 24)) (wd.heap.size + 1) 24 #[.int .i64 0, .slice none 0 0] := Blk.newAt (b := wd.heap.size + 1) (wd.alloc (.cells #[.bool false, .int .i64 0, .int .u32 0] 31)) 24 #[.int .i64 0, .slice none 0 0] (by simp)
              replace bw : Bel w9 ((wd.alloc (.cells #[.bool false, .int .i64 0, .int .u32 0] 31)).alloc (.cells #[.int .i64 0, .slice none 0 0] 24)) := ⟨(bw.alloc (.cells #[.int .i64 0, .slice none 0 0] 24)).out⟩
              replace S0 : Blk ((wd.alloc (.cells #[.bool false, .int .i64 0, .int .u32 0] 31)).alloc (.cells #[.int .i64 0, .slice none 0 0] 24)) g11 24 #[.int .i64 P2, .slice Aa na ca] := S0.alloc (.cells #[.int .i64 0, .slice none 0 0] 24)
              replace mA2 : Mine 0 ((wd.alloc (.cells #[.bool false, .int .i64 0, .int .u32 0] 31)).alloc (.cells #[.int .i64 0, .slice none 0 0] 24)) A2 n2 c2 L1 := mA2.alloc (.cells #[.int .i64 0, .slice none 0 0] 24)
              replace mC2 : MineC 0 ((wd.alloc (.cells #[.bool false, .int .i64 0, .int .u32 0] 31)).alloc (.cells #[.int .i64 0, .slice none 0 0] 24)) B2 m2 d2 es2 := mC2.alloc (.cells #[.int .i64 0, .slice none 0 0] 24)
              replace qgF : Blk ((wd.alloc (.cells #[.bool false, .int .i64 0, .int .u32 0] 31)).alloc (.cells #[.int .i64 0, .slice none 0 0] 24)) (wd.heap.size) 31 #[.bool false, .int .i64 0, .int .u32 0] := qgF.alloc (.cells #[.int .i64 0, .slice none 0 0] 24)
              (try go_simp)
              refine hK.out _ _ (fun _ => S0) ?_
              clear hK K
              (try simp only [Act.put, List.getElem_toArray, List.getElem_cons_succ, List.getElem_cons_zero, List.setIfInBounds_toArray, List.set_cons_zero, List.set_cons_succ])
              refine wpAnyG_one 12 (by kernel_rfl) rfl (fun K hK => ?_)
              rw [if_pos (by rfl)]
              refine wp_putB _ _ _ rfl rfl rfl qgR (by rfl) (by rfl) (by rfl) ?_
              intro w8 qn hg
              replace bw := bw.grown hg hR
              replace mA2 := mA2.grownB qgR (by decide) hg
              replace mC2 := mC2.grownB qgR (by decide) (by decide) hg
              replace qgF := qgF.grown hg ((hne.symm).symm)
              replace S0 : Blk w8 g11 24 #[.int .i64 P2, .slice Aa na ca] := S0.grown hg (by have := hbx; omega)
              clear hg qgR
              have qgR := qn
              clear qn
              (try go_simp)
              refine hK.out _ _ (fun _ => S0) ?_
              clear hK K
              (try simp only [Act.put, List.getElem_toArray, List.getElem_cons_succ, List.getElem_cons_zero, List.setIfInBounds_toArray, List.set_cons_zero, List.set_cons_succ])
              refine wpAnyG_take 13 (v := ?_) rfl (by kernel_rfl) (by intro _ _ _ h; cases h) S0 (Or.inl ⟨by rfl, by intro w' hSw; go_simp; try with_reducible rfl⟩) ?_; (try simp only [Act.put, List.getElem_toArray, List.getElem_cons_succ, List.getElem_cons_zero, List.setIfInBounds_toArray, List.set_cons_zero, List.set_cons_succ])
              refine wpAnyG_one 14 (by kernel_rfl) rfl (fun K hK => ?_)
              rw [if_pos (by rfl)]
              refine wp_putB _ _ _ rfl rfl rfl qgF (by rfl) (by rfl) (by rfl) ?_
              intro w8 qn hg
              replace bw := bw.grown hg hF
              replace mA2 := mA2.grownB qgF (by decide) hg
              replace mC2 := mC2.grownB qgF (by decide) (by decide) hg
              replace qgR := qgR.grown hg (hne.symm)
              replace S0 : Blk w8 g11 24 #[.int .i64 P2, .slice Aa na ca] := S0.grown hg (by have := hbx; omega)
              clear hg qgF
              have qgF := qn
              clear qn
              (try go_simp)
              refine hK.out _ _ (fun _ => S0) ?_
              clear hK K
              (try simp only [Act.put, List.getElem_toArray, List.getElem_cons_succ, List.getElem_cons_zero, List.setIfInBounds_toArray, List.set_cons_zero, List.set_cons_succ])
              refine wpAnyG_take 15 (v := ?_) rfl (by kernel_rfl) (by intro _ _ _ h; cases h) S0 (Or.inl ⟨by rfl, by intro w' hSw; go_simp; try with_reducible rfl⟩) ?_; (try simp only [Act.put, List.getElem_toArray, List.getElem_cons_succ, List.getElem_cons_zero, List.setIfInBounds_toArray, List.set_cons_zero, List.set_cons_succ])
              refine wpAnyG_done (by kernel_rfl) ?_ _
              refine NoPanic.normal ?_
              refine ⟨rfl, _, _, A2, n2, c2, B2, m2, d2, es2, ?_, qgR, qgF, mA2, mC2, HPS2.out, bw.out, hR, hF, hne.symm⟩
              (try simp only [Act.put, List.getElem_toArray, List.getElem_cons_succ, List.getElem_cons_zero, List.setIfInBounds_toArray, List.set_cons_zero, List.set_cons_succ])
              (try rfl)
          · rw [if_pos (by rfl)]
            go_simp
            have hR : w9.heap.size ≤ w9.heap.size := by first | omega | (have hs := bw.out.size; (try simp at hs); omega)
            have qgR : Blk (w9.alloc (.cells #[.int .i64 0, .slice none 0 0] 24)).drew (w9.heap.size) 24 #[.int .i64 0, .slice none 0 0] := Blk.newAt (b := w9.heap.size) w9 24 #[.int .i64 0, .slice none 0 0] (by simp)
            replace bw : Bel w9 (w9.alloc (.cells #[.int .i64 0, .slice none 0 0] 24)).drew := ⟨(bw.alloc (.cells #[.int .i64 0, .slice none 0 0] 24)).out⟩
            replace S0 : Blk (w9.alloc (.cells #[.int .i64 0, .slice none 0 0] 24)).drew g11 24 #[.int .i64 P2, .slice Aa na ca] := S0.alloc (.cells #[.int .i64 0, .slice none 0 0] 24)
            (try go_simp)
            refine hK.out _ _ (fun _ => S0) ?_
            clear hK K
            (try simp only [Act.put, List.getElem_toArray, List.getElem_cons_succ, List.getElem_cons_zero, List.setIfInBounds_toArray, List.set_cons_zero, List.set_cons_succ])
            refine wpAnyG_two 4 11 (by kernel_rfl) rfl rfl (fun K hK => ?_) (fun K hK => ?_)
            · rw [if_pos (by rfl)]
              go_simp
              (with_reducible refine (F3.out _ _ _ _ (mAa.byt.below bw.out) ((HC.out.below (b0.out.trans (bw.out.mono b0.out.size))).cutL HJ.out) mAa.len.symm).mono ?_)
              rintro e wd ⟨A2, n2, c2, B2, m2, d2, es2, rfl, mA2, mC2, hps2, hb⟩
              replace mA2 := mA2.base_le (Nat.zero_le _)
              replace mC2 := mC2.base_le (Nat.zero_le _)
              have HPS2 := Lib.hid hps2
              clear hps2
              replace bw := bw.below hb
              replace S0 : Blk wd g11 24 #[.int .i64 P2, .slice Aa na ca] := S0.below hb
              replace qgR := qgR.below hb
              clear hb
              (try go_simp)
              refine hK.out _ _ (fun _ => S0) ?_
              clear hK K
              (try simp only [Act.put, List.getElem_toArray, List.getElem_cons_succ, List.getElem_cons_zero, List.setIfInBounds_toArray, List.set_cons_zero, List.set_cons_succ])
              refine wpAnyG_take 5 (v := ?_) rfl (by kernel_rfl) (by intro _ _ _ h; cases h) S0 (Or.inl ⟨by rfl, by intro w' hSw; go_simp; try with_reducible rfl⟩) ?_; (try simp only [Act.put, List.getElem_toArray, List.getElem_cons_succ, List.getElem_cons_zero, List.setIfInBounds_toArray, List.set_cons_zero, List.set_cons_succ])
              refine wpAnyG_take 6 (v := ?_) rfl (by kernel_rfl) (by intro _ _ _ h; cases h) S0 (Or.inl ⟨by rfl, by intro w' hSw; go_simp; try with_reducible rfl⟩) ?_; (try simp only [Act.put, List.getElem_toArray, List.getElem_cons_succ, List.getElem_cons_zero, List.setIfInBounds_toArray, List.set_cons_zero, List.set_cons_succ])
              refine wpAnyG_take 7 (v := ?_) rfl (by kernel_rfl) (by intro _ _ _ h; cases h) S0 (Or.inl ⟨by rfl, by intro w' hSw; go_simp; try with_reducible rfl⟩) ?_; (try simp only [Act.put, List.getElem_toArray, List.getElem_cons_succ, List.getElem_cons_zero, List.setIfInBounds_toArray, List.set_cons_zero, List.set_cons_succ])
              refine wpAnyG_take 8 (v := ?_) rfl (by kernel_rfl) (by intro _ _ _ h; cases h) S0 (Or.inl ⟨by rfl, by intro w' hSw; go_simp; try with_reducible rfl⟩) ?_; (try simp only [Act.put, List.getElem_toArray, List.getElem_cons_succ, List.getElem_cons_zero, List.setIfInBounds_toArray, List.set_cons_zero, List.set_cons_succ])
              refine wpAnyG_take 9 (v := ?_) rfl (by kernel_rfl) (by intro _ _ _ h; cases h) S0 (Or.inl ⟨by rfl, by intro w' hSw; go_simp; try with_reducible rfl⟩) ?_; (try simp only [Act.put, List.getElem_toArray, List.getElem_cons_succ, List.getElem_cons_zero, List.setIfInBounds_toArray, List.set_cons_zero, List.set_cons_succ])
              refine wpAnyG_one 11 (by kernel_rfl) rfl (fun K hK => ?_)
              rw [if_pos (by rfl)]
              go_simp
              have hF : w9.heap.size ≤ wd.heap.size := by first | omega | (have hs := bw.out.size; (try simp at hs); omega)
              have hne : w9.heap.size ≠ wd.heap.size := Nat.ne_of_lt (by have hs := qgR.lt; (try simp at hs); omega)
              have qgF : Blk (wd.alloc (.cells #[.bool false, .int .i64 0, .int .u32 0] 31)) (wd.heap.size) 31 #[.bool false, .int .i64 0, .int .u32 0] := Blk.newAt (b := wd.heap.size) wd 31 #[.bool false, .int .i64 0, .int .u32 0] (by simp)
              replace bw : Bel w9 (wd.alloc (.cells #[.bool false, .int .i64 0, .int .u32 0] 31)) := ⟨(bw.alloc (.cells #[.bool false, .int .i64 0, .int .u32 0] 31)).out⟩
              replace S0 : Blk (wd.alloc (.cells #[.bool false, .int .i64 0, .int .u32 0] 31)) g11 24 #[.int .i64 P2, .slice Aa na ca] := S0.alloc (.cells #[.bool false, .int .i64 0, .int .u32 0] 31)
              replace qgR : Blk (wd.alloc (.cells #[.bool false, .int .i64 0, .int .u32 0] 31)) (w9.heap.size) 24 #[.int .i64 0, .slice none 0 0] := qgR.alloc (.cells #[.bool false, .int .i64 0, .int .u32 0] 31)
              replace mA2 : Mine 0 (wd.alloc (.cells #[.bool false, .int .i64 0, .int .u32 0] 31)) A2 n2 c2 L1 := mA2.alloc (.cells #[.bool false, .int .i64 0, .int .u32 0] 31)
              replace mC2 : MineC 0 (wd.alloc (.cells #[.bool false, .int .i64 0, .int .u32 0] 31)) B2 m2 d2 es2 := mC2.alloc (.cells #[.bool false, .int .i64 0, .int .u32 0] 31)
              (try go_simp)
              refine hK.out _ _ (fun _ => S0) ?_
              clear hK K
              (try simp only [Act.put, List.getElem_toArray, List.getElem_cons_succ, List.getElem_cons_zero, List.setIfInBounds_toArray, List.set_cons_zero, List.set_cons_succ])
              refine wpAnyG_one 12 (by kernel_rfl) rfl (fun K hK => ?_)
              rw [if_pos (by rfl)]
              refine wp_putB _ _ _ rfl rfl rfl qgR (by rfl) (by rfl) (by rfl) ?_
              intro w8 qn hg
              replace bw := bw.grown hg hR
              replace mA2 := mA2.grownB qgR (by decide) hg
              replace mC2 := mC2.grownB qgR (by decide) (by decide) hg
              replace qgF := qgF.grown hg ((hne).symm)
              replace S0 : Blk w8 g11 24 #[.int .i64 P2, .slice Aa na ca] := S0.grown hg (by have := hbx; omega)
              clear hg qgR
              have qgR := qn
              clear qn
              (try go_simp)
              refine hK.out _ _ (fun _ => S0) ?_
              clear hK K
              (try simp only [Act.put, List.getElem_toArray, List.getElem_cons_succ, List.getElem_cons_zero, List.setIfInBounds_toArray, List.set_cons_zero, List.set_cons_succ])
              refine wpAnyG_take 13 (v := ?_) rfl (by kernel_rfl) (by intro _ _ _ h; cases h) S0 (Or.inl ⟨by rfl, by intro w' hSw; go_simp; try with_reducible rfl⟩) ?_; (try simp only [Act.put, List.getElem_toArray, List.getElem_cons_succ, List.getElem_cons_zero, List.setIfInBounds_toArray, List.set_cons_zero, List.set_cons_succ])
              refine wpAnyG_one 14 (by kernel_rfl) rfl (fun K hK => ?_)
              rw [if_pos (by rfl)]
              refine wp_putB _ _ _ rfl rfl rfl qgF (by rfl) (by rfl) (by rfl) ?_
              intro w8 qn hg
              replace bw := bw.grown hg hF
              replace mA2 := mA2.grownB qgF (by decide) hg
              replace mC2 := mC2.grownB qgF (by decide) (by decide) hg
              replace qgR := qgR.grown hg (hne)
              replace S0 : Blk w8 g11 24 #[.int .i64 P2, .slice Aa na ca] := S0.grown hg (by have := hbx; omega)
              clear hg qgF
              have qgF := qn
              clear qn
              (try go_simp)
              refine hK.out _ _ (fun _ => S0) ?_
              clear hK K
              (try simp only [Act.put, List.getElem_toArray, List.getElem_cons_succ, List.getElem_cons_zero, List.setIfInBounds_toArray, List.set_cons_zero, List.set_cons_succ])
              refine wpAnyG_take 15 (v := ?_) rfl (by kernel_rfl) (by intro _ _ _ h; cases h) S0 (Or.inl ⟨by rfl, by intro w' hSw; go_simp; try with_reducible rfl⟩) ?_; (try simp only [Act.put, List.getElem_toArray, List.getElem_cons_succ, List.getElem_cons_zero, List.setIfInBounds_toArray, List.set_cons_zero, List.set_cons_succ])
              refine wpAnyG_done (by kernel_rfl) ?_ _
              refine NoPanic.normal ?_
              refine ⟨rfl, _, _, A2, n2, c2, B2, m2, d2, es2, ?_, qgR, qgF, mA2, mC2, HPS2.out, bw.out, hR, hF, hne⟩
              (try simp only [Act.put, List.getElem_toArray, List.getElem_cons_succ, List.getElem_cons_zero, List.setIfInBounds_toArray, List.set_cons_zero, List.set_cons_succ])
              (try rfl)
            · rw [if_pos (by rfl)]
              go_simp
              have hF : w9.heap.size ≤ w9.heap.size + 1 := by first | omega | (have hs := bw.out.size; (try simp at hs); omega)
              have hne : w9.heap.size ≠ w9.heap.size + 1 := Nat.ne_of_lt (by have hs := qgR.lt; (try simp at hs); omega)
              have qgF : Blk ((w9.alloc (.cells #[.int .i64 0, .slice none 0 0] 24)).alloc (.cells #[.bool false, .int .i64 0, .int .u32 0] 31)).drew (w9.heap.size + 1) 31 #[.bool false, .int .i64 0, .int .u32 0] := Blk.newAt (b := w9.heap.size + 1) (w9.alloc (.cells #[.int .i64 0, .slice none 0 0] 24)) 31 #[.bool false, .int .i64 0, .int .u32 0] (by simp)
              replace bw : Bel w9 ((w9.alloc (.cells #[.int .i64 0, .slice none 0 0] 24)).alloc (.cells #[.bool false, .int .i64 0, .int .u32 0] 31)).drew := ⟨(bw.alloc (.cells #[.bool false, .int .i64 0, .int .u32 0] 31)).out⟩
              replace S0 : Blk ((w9.alloc (.cells #[.int .i64 0, .slice none 0 0] 24)).alloc (.cells #[.bool false, .int .i64 0, .int .u32 0] 31)).drew g11 24 #[.int .i64 P2, .slice Aa na ca] := S0.alloc (.cells #[.bool false, .int .i64 0, .int .u32 0] 31)
              replace qgR : Blk ((w9.alloc (.cells #[.int .i64 0, .slice none 0 0] 24)).alloc (.cells #[.bool false, .int .i64 0, .int .u32 0] 31)).drew (w9.heap.size) 24 #[.int .i64 0, .slice none 0 0] := qgR.alloc (.cells #[.bool false, .int .i64 0, .int .u32 0] 31)
              (try go_simp)
              refine hK.out _ _ (fun _ => S0) ?_
              clear hK K
              (try simp only [Act.put, List.getElem_toArray, List.getElem_cons_succ, List.getElem_cons_zero, List.setIfInBounds_toArray, List.set_cons_zero, List.set_cons_succ])
              refine wpAnyG_one 4 (by kernel_rfl) rfl (fun K hK => ?_)
              rw [if_pos (by rfl)]
              go_simp
              (with_reducible refine (F3.out _ _ _ _ (mAa.byt.below bw.out) ((HC.out.below (b0.out.trans (bw.out.mono b0.out.size))).cutL HJ.out) mAa.len.symm).mono ?_)
              rintro e wd ⟨A2, n2, c2, B2, m2, d2, es2, rfl, mA2, mC2, hps2, hb⟩
              replace mA2 := mA2.base_le (Nat.zero_le _)
              replace mC2 := mC2.base_le (Nat.zero_le _)
              have HPS2 := Lib.hid hps2
              clear hps2
              replace bw := bw.below hb
              replace S0 : Blk wd g11 24 #[.int .i64 P2, .slice Aa na ca] := S0.below hb
              replace qgR := qgR.below hb
              replace qgF := qgF.below hb
              clear hb
              (try go_simp)
              refine hK.out _ _ (fun _ => S0) ?_
              clear hK K
              (try simp only [Act.put, List.getElem_toArray, List.getElem_cons_succ, List.getElem_cons_zero, List.setIfInBounds_toArray, List.set_cons_zero, List.set_cons_succ])
              refine wpAnyG_take 5 (v := ?_) rfl (by kernel_rfl) (by intro _ _ _ h; cases h) S0 (Or.inl ⟨by rfl, by intro w' hSw; go_simp; try with_reducible rfl⟩) ?_; (try simp only [Act.put, List.getElem_toArray, List.getElem_cons_succ, List.getElem_cons_zero, List.setIfInBounds_toArray, List.set_cons_zero, List.set_cons_succ])
              refine wpAnyG_take 6 (v := ?_) rfl (by kernel_rfl) (by intro _ _ _ h; cases h) S0 (Or.inl ⟨by rfl, by intro w' hSw; go_simp; try with_reducible rfl⟩) ?_; (try simp only [Act.put, List.getElem_toArray, List.getElem_cons_succ, List.getElem_cons_zero, List.setIfInBounds_toArray, List.set_cons_zero, List.set_cons_succ])
              refine wpAnyG_take 7 (v := ?_) rfl (by kernel_rfl) (by intro _ _ _ h; cases h) S0 (Or.inl ⟨by rfl, by intro w' hSw; go_simp; try with_reducible rfl⟩) ?_; (try simp only [Act.put, List.getElem_toArray, List.getElem_cons_succ, List.getElem_cons_zero, List.setIfInBounds_toArray, List.set_cons_zero, List.set_cons_succ])
              refine wpAnyG_take 8 (v := ?_) rfl (by kernel_rfl) (by intro _ _ _ h; cases h) S0 (Or.inl ⟨by rfl, by intro w' hSw; go_simp; try with_reducible rfl⟩) ?_; (try simp only [Act.put, List.getElem_toArray, List.getElem_cons_succ, List.getElem_cons_zero, List.setIfInBounds_toArray, List.set_cons_zero, List.set_cons_succ])
              refine wpAnyG_take 9 (v := ?_) rfl (by kernel_rfl) (by intro _ _ _ h; cases h) S0 (Or.inl ⟨by rfl, by intro w' hSw; go_simp; try with_reducible rfl⟩) ?_; (try simp only [Act.put, List.getElem_toArray, List.getElem_cons_succ, List.getElem_cons_zero, List.setIfInBounds_toArray, List.set_cons_zero, List.set_cons_succ])
              refine wpAnyG_one 12 (by kernel_rfl) rfl (fun K hK => ?_)
              rw [if_pos (by rfl)]
              refine wp_putB _ _ _ rfl rfl rfl qgR (by rfl) (by rfl) (by rfl) ?_
              intro w8 qn hg
              replace bw := bw.grown hg hR
              replace mA2 := mA2.grownB qgR (by decide) hg
              replace mC2 := mC2.grownB qgR (by decide) (by decide) hg
              replace qgF := qgF.grown hg ((hne).symm)
              replace S0 : Blk w8 g11 24 #[.int .i64 P2, .slice Aa na ca] := S0.grown hg (by have := hbx; omega)
              clear hg qgR
              have qgR := qn
              clear qn
              (try go_simp)
              refine hK.out _ _ (fun _ => S0) ?_
              clear hK K
              (try simp only [Act.put, List.getElem_toArray, List.getElem_cons_succ, List.getElem_cons_zero, List.setIfInBounds_toArray, List.set_cons_zero, List.set_cons_succ])
              refine wpAnyG_take 13 (v := ?_) rfl (by kernel_rfl) (by intro _ _ _ h; cases h) S0 (Or.inl ⟨by rfl, by intro w' hSw; go_simp; try with_reducible rfl⟩) ?_; (try simp only [Act.put, List.getElem_toArray, List.getElem_cons_succ, List.getElem_cons_zero, List.setIfInBounds_toArray, List.set_cons_zero, List.set_cons_succ])
              refine wpAnyG_one 14 (by kernel_rfl) rfl (fun K hK => ?_)
              rw [if_pos (by rfl)]
              refine wp_putB _ _ _ rfl rfl rfl qgF (by rfl) (by rfl) (by rfl) ?_
              intro w8 qn hg
              replace bw := bw.grown hg hF
              replace mA2 := mA2.grownB qgF (by decide) hg
              replace mC2 := mC2.grownB qgF (by decide) (by decide) hg
              replace qgR := qgR.grown hg (hne)
              replace S0 : Blk w8 g11 24 #[.int .i64 P2, .slice Aa na ca] := S0.grown hg (by have := hbx; omega)
              clear hg qgF
              have qgF := qn
              clear qn
              (try go_simp)
              refine hK.out _ _ (fun _ => S0) ?_
              clear hK K
              (try simp only [Act.put, List.getElem_toArray, List.getElem_cons_succ, List.getElem_cons_zero, List.setIfInBounds_toArray, List.set_cons_zero, List.set_cons_succ])
              refine wpAnyG_take 15 (v := ?_) rfl (by kernel_rfl) (by intro _ _ _ h; cases h) S0 (Or.inl ⟨by rfl, by intro w' hSw; go_simp; try with_reducible rfl⟩) ?_; (try simp only [Act.put, List.getElem_toArray, List.getElem_cons_succ, List.getElem_cons_zero, List.setIfInBounds_toArray, List.set_cons_zero, List.set_cons_succ])
              refine wpAnyG_done (by kernel_rfl) ?_ _
              refine NoPanic.normal ?_
              refine ⟨rfl, _, _, A2, n2, c2, B2, m2, d2, es2, ?_, qgR, qgF, mA2, mC2, HPS2.out, bw.out, hR, hF, hne⟩
              (try simp only [Act.put, List.getElem_toArray, List.getElem_cons_succ, List.getElem_cons_zero, List.setIfInBounds_toArray, List.set_cons_zero, List.set_cons_succ])
              (try rfl)
          · rw [if_pos (by rfl)]
            go_simp
            have hF : w9.heap.size ≤ w9.heap.size := by first | omega | (have hs := bw.out.size; (try simp at hs); omega)
            have qgF : Blk (w9.alloc (.cells #[.bool false, .int .i64 0, .int .u32 0] 31)).drew (w9.heap.size) 31 #[.bool false, .int .i64 0, .int .u32 0] := Blk.newAt (b := w9.heap.size) w9 31 #[.bool false, .int .i64 0, .int .u32 0] (by simp)
            replace bw : Bel w9 (w9.alloc (.cells #[.bool false, .int .i64 0, .int .u32 0] 31)).drew := ⟨(bw.alloc (.cells #[.bool false, .int .i64 0, .int .u32 0] 31)).out⟩
            replace S0 : Blk (w9.alloc (.cells #[.bool false, .int .i64 0, .int .u32 0] 31)).drew g11 24 #[.int .i64 P2, .slice Aa na ca] := S0.alloc (.cells #[.bool false, .int .i64 0, .int .u32 0] 31)
            (try go_simp)
            refine hK.out _ _ (fun _ => S0) ?_
            clear hK K
            (try simp only [Act.put, List.getElem_toArray, List.getElem_cons_succ, List.getElem_cons_zero, List.setIfInBounds_toArray, List.set_cons_zero, List.set_cons_succ])
            refine wpAnyG_two 4 10 (by kernel_rfl) rfl rfl (fun K hK => ?_) (fun K hK => ?_)
            · rw [if_pos (by rfl)]
              go_simp
              (with_reducible refine (F3.out _ _ _ _ (mAa.byt.below bw.out) ((HC.out.below (b0.out.trans (bw.out.mono b0.out.size))).cutL HJ.out) mAa.len.symm).mono ?_)
              rintro e wd ⟨A2, n2, c2, B2, m2, d2, es2, rfl, mA2, mC2, hps2, hb⟩
              replace mA2 := mA2.base_le (Nat.zero_le _)
              replace mC2 := mC2.base_le (Nat.zero_le _)
              have HPS2 := Lib.hid hps2
              clear hps2
              replace bw := bw.below hb
              replace S0 : Blk wd g11 24 #[.int .i64 P2, .slice Aa na ca] := S0.below hb
              replace qgF := qgF.below hb
              clear hb
              (try go_simp)
              refine hK.out _ _ (fun _ => S0) ?_
              clear hK K
              (try simp only [Act.put, List.getElem_toArray, List.getElem_cons_succ, List.getElem_cons_zero, List.setIfInBounds_toArray, List.set_cons_zero, List.set_cons_succ])
              refine wpAnyG_take 5 (v := ?_) rfl (by kernel_rfl) (by intro _ _ _ h; cases h) S0 (Or.inl ⟨by rfl, by intro w' hSw; go_simp; try with_reducible rfl⟩) ?_; (try simp only [Act.put, List.getElem_toArray, List.getElem_cons_succ, List.getElem_cons_zero, List.setIfInBounds_toArray, List.set_cons_zero, List.set_cons_succ])
              refine wpAnyG_take 6 (v := ?_) rfl (by kernel_rfl) (by intro _ _ _ h; cases h) S0 (Or.inl ⟨by rfl, by intro w' hSw; go_simp; try with_reducible rfl⟩) ?_; (try simp only [Act.put, List.getElem_toArray, List.getElem_cons_succ, List.getElem_cons_zero, List.setIfInBounds_toArray, List.set_cons_zero, List.set_cons_succ])
              refine wpAnyG_take 7 (v := ?_) rfl (by kernel_rfl) (by intro _ _ _ h; cases h) S0 (Or.inl ⟨by rfl, by intro w' hSw; go_simp; try with_reducible rfl⟩) ?_; (try simp only [Act.put, List.getElem_toArray, List.getElem_cons_succ, List.getElem_cons_zero, List.setIfInBounds_toArray, List.set_cons_zero, List.set_cons_succ])
              refine wpAnyG_take 8 (v := ?_) rfl (by kernel_rfl) (by intro _ _ _ h; cases h) S0 (Or.inl ⟨by rfl, by intro w' hSw; go_simp; try with_reducible rfl⟩) ?_; (try simp only [Act.put, List.getElem_toArray, List.getElem_cons_succ, List.getElem_cons_zero, List.setIfInBounds_toArray, List.set_cons_zero, List.set_cons_succ])
              refine wpAnyG_take 9 (v := ?_) rfl (by kernel_rfl) (by intro _ _ _ h; cases h) S0 (Or.inl ⟨by rfl, by intro w' hSw; go_simp; try with_reducible rfl⟩) ?_; (try simp only [Act.put, List.getElem_toArray, List.getElem_cons_succ, List.getElem_cons_zero, List.setIfInBounds_toArray, List.set_cons_zero, List.set_cons_succ])
              refine wpAnyG_one 10 (by kernel_rfl) rfl (fun K hK => ?_)
              rw [if_pos (by rfl)]
              go_simp
              have hR : w9.heap.size ≤ wd.heap.size := by first | omega | (have hs := bw.out.size; (try simp at hs); omega)
              have hne : w9.heap.size ≠ wd.heap.size := Nat.ne_of_lt (by have hs := qgF.lt; (try simp at hs); omega)
              have qgR : Blk (wd.alloc (.cells #[.int .i64 0, .slice none 0 0] 24)) (wd.heap.size) 24 #[.int .i64 0, .slice none 0 0] := Blk.newAt (b := wd.heap.size) wd 24 #[.int .i64 0, .slice none 0 0] (by simp)
              replace bw : Bel w9 (wd.alloc (.cells #[.int .i64 0, .slice none 0 0] 24)) := ⟨(bw.alloc (.cells #[.int .i64 0, .slice none 0 0] 24)).out⟩
              replace S0 : Blk (wd.alloc (.cells #[.int .i64 0, .slice none 0 0] 24)) g11 24 #[.int .i64 P2, .slice Aa na ca] := S0.alloc (.cells #[.int .i64 0, .slice none 0 0] 24)
              replace qgF : Blk (wd.alloc (.cells #[.int .i64 0, .slice none 0 0] 24)) (w9.heap.size) 31 #[.bool false, .int .i64 0, .int .u32 0] := qgF.alloc (.cells #[.int .i64 0, .slice none 0 0] 24)
              replace mA2 : Mine 0 (wd.alloc (.cells #[.int .i64 0, .slice none 0 0] 24)) A2 n2 c2 L1 := mA2.alloc (.cells #[.int .i64 0, .slice none 0 0] 24)
              replace mC2 : MineC 0 (wd.alloc (.cells #[.int .i64 0, .slice none 0 0] 24)) B2 m2 d2 es2 := mC2.alloc (.cells #[.int .i64 0, .slice none 0 0] 24)
              (try go_simp)
              refine hK.out _ _ (fun _ => S0) ?_
              clear hK K
              (try simp only [Act.put, List.getElem_toArray, List.getElem_cons_succ, List.getElem_cons_zero, List.setIfInBounds_toArray, List.set_cons_zero, List.set_cons_succ])
              refine wpAnyG_one 12 (by kernel_rfl) rfl (fun K hK => ?_)
              rw [if_pos (by rfl)]
              refine wp_putB _ _ _ rfl rfl rfl qgR (by rfl) (by rfl) (by rfl) ?_
              intro w8 qn hg
              replace bw := bw.grown hg hR
              replace mA2 := mA2.grownB qgR (by decide) hg
              replace mC2 := mC2.grownB qgR (by decide) (by decide) hg
              replace qgF := qgF.grown hg ((hne.symm).symm)
              replace S0 : Blk w8 g11 24 #[.int .i64 P2, .slice Aa na ca] := S0.grown hg (by have := hbx; omega)
              clear hg qgR
              have qgR := qn
              clear qn
              (try go_simp)
              refine hK.out _ _ (fun _ => S0) ?_
              clear hK K
              (try simp only [Act.put, List.getElem_toArray, List.getElem_cons_succ, List.getElem_cons_zero, List.setIfInBounds_toArray, List.set_cons_zero, List.set_cons_succ])
              refine wpAnyG_take 13 (v := ?_) rfl (by kernel_rfl) (by intro _ _ _ h; cases h) S0 (Or.inl ⟨by rfl, by intro w' hSw; go_simp; try with_reducible rfl⟩) ?_; (try simp only [Act.put, List.getElem_toArray, List.getElem_cons_succ, List.getElem_cons_zero, List.setIfInBounds_toArray, List.set_cons_zero, List.set_cons_succ])
              refine wpAnyG_one 14 (by kernel_rfl) rfl (fun K hK => ?_)
              rw [if_pos (by rfl)]
              refine wp_putB _ _ _ rfl rfl rfl qgF (by rfl) (by rfl) (by rfl) ?_
              intro w8 qn hg
              replace bw := bw.grown hg hF
              replace mA2 := mA2.grownB qgF (by decide) hg
              replace mC2 := mC2.grownB qgF (by decide) (by decide) hg
              replace qgR := qgR.grown hg (hne.symm)
              replace S0 : Blk w8 g11 24 #[.int .i64 P2, .slice Aa na ca] := S0.grown hg (by have := hbx; omega)
              clear hg qgF
              have qgF := qn
              clear qn
              (try go_simp)
              refine hK.out _ _ (fun _ => S0) ?_
              clear hK K
              (try simp only [Act.put, List.getElem_toArray, List.getElem_cons_succ, List.getElem_cons_zero, List.setIfInBounds_toArray, List.set_cons_zero, List.set_cons_succ])
              refine wpAnyG_take 15 (v := ?_) rfl (by kernel_rfl) (by intro _ _ _ h; cases h) S0 (Or.inl ⟨by rfl, by intro w' hSw; go_simp; try with_reducible rfl⟩) ?_; (try simp only [Act.put, List.getElem_toArray, List.getElem_cons_succ, List.getElem_cons_zero, List.setIfInBounds_toArray, List.set_cons_zero, List.set_cons_succ])
              refine wpAnyG_done (by kernel_rfl) ?_ _
              refine NoPanic.normal ?_
              refine ⟨rfl, _, _, A2, n2, c2, B2, m2, d2, es2, ?_, qgR, qgF, mA2, mC2, HPS2.out, bw.out, hR, hF, hne.symm⟩
              (try simp only [Act.put, List.getElem_toArray, List.getElem_cons_succ, List.getElem_cons_zero, List.setIfInBounds_toArray, List.set_cons_zero, List.set_cons_succ])
              (try rfl)
            · rw [if_pos (by rfl)]
              go_simp
              have hR : w9.heap.size ≤ w9.heap.size + 1 := by first | omega | (have hs := bw.out.size; (try simp at hs); omega)
              have hne : w9.heap.size ≠ w9.heap.size + 1 := Nat.ne_of_lt (by have hs := qgF.lt; (try simp at hs); omega)
              have qgR : Blk ((w9.alloc (.cells #[.bool false, .int .i64 0, .int .u32 0] 31)).alloc (.cells #[.int .i64 0, .slice none 0 0] 24)).drew (w9.heap.size + 1) 24 #[.int .i64 0, .slice none 0 0] := Blk.newAt (b := w9.heap.size + 1) (w9.alloc (.cells #[.bool false, .int .i64 0, .int .u32 0] 31)) 24 #[.int .i64 0, .slice none 0 0] (by simp)
              replace bw : Bel w9 ((w9.alloc (.cells #[.bool false, .int .i64 0, .int .u32 0] 31)).alloc (.cells #[.int .i64 0, .slice none 0 0] 24)).drew := ⟨(bw.alloc (.cells #[.int .i64 0, .slice none 0 0] 24)).out⟩
              replace S0 : Blk ((w9.alloc (.cells #[.bool false, .int .i64 0, .int .u32 0] 31)).alloc (.cells #[.int .i64 0, .slice none 0 0] 24)).drew g11 24 #[.int .i64 P2, .slice Aa na ca] := S0.alloc (.cells #[.int .i64 0, .slice none 0 0] 24)
              replace qgF : Blk ((w9.alloc (.cells #[.bool false, .int .i64 0, .int .u32 0] 31)).alloc (.cells #[.int .i64 0, .slice none 0 0] 24)).drew (w9.heap.size) 31 #[.bool false, .int .i64 0, .int .u32 0] := qgF.alloc (.cells #[.int .i64 0, .slice none 0 0] 24)
              (try go_simp)
              refine hK.out _ _ (fun _ => S0) ?_
              clear hK K
              (try simp only [Act.put, List.getElem_toArray, List.getElem_cons_succ, List.getElem_cons_zero, List.setIfInBounds_toArray, List.set_cons_zero, List.set_cons_succ])
              refine wpAnyG_one 4 (by kernel_rfl) rfl (fun K hK => ?_)
              rw [if_pos (by rfl)]
              go_simp
              (with_reducible refine (F3.out _ _ _ _ (mAa.byt.below bw.out) ((HC.out.below (b0.out.trans (bw.out.mono b0.out.size))).cutL HJ.out) mAa.len.symm).mono ?_)
              rintro e wd ⟨A2, n2, c2, B2, m2, d2, es2, rfl, mA2, mC2, hps2, hb⟩
              replace mA2 := mA2.base_le (Nat.zero_le _)
              replace mC2 := mC2.base_le (Nat.zero_le _)
              have HPS2 := Lib.hid hps2
              clear hps2
              replace bw := bw.below hb
              replace S0 : Blk wd g11 24 #[.int .i64 P2, .slice Aa na ca] := S0.below hb
              replace qgF := qgF.below hb
              replace qgR := qgR.below hb
              clear hb
              (try go_simp)
              refine hK.out _ _ (fun _ => S0) ?_
              clear hK K
              (try simp only [Act.put, List.getElem_toArray, List.getElem_cons_succ, List.getElem_cons_zero, List.setIfInBounds_toArray, List.set_cons_zero, List.set_cons_succ])
              refine wpAnyG_take 5 (v := ?_) rfl (by kernel_rfl) (by intro _ _ _ h; cases h) S0 (Or.inl ⟨by rfl, by intro w' hSw; go_simp; try with_reducible rfl⟩) ?_; (try simp only [Act.put, List.getElem_toArray, List.getElem_cons_succ, List.getElem_cons_zero, List.setIfInBounds_toArray, List.set_cons_zero, List.set_cons_succ])
              refine wpAnyG_take 6 (v := ?_) rfl (by kernel_rfl) (by intro _ _ _ h; cases h) S0 (Or.inl ⟨by rfl, by intro w' hSw; go_simp; try with_reducible rfl⟩) ?_; (try simp only [Act.put, List.getElem_toArray, List.getElem_cons_succ, List.getElem_cons_zero, List.setIfInBounds_toArray, List.set_cons_zero, List.set_cons_succ])
              refine wpAnyG_take 7 (v := ?_) rfl (by kernel_rfl) (by intro _ _ _ h; cases h) S0 (Or.inl ⟨by rfl, by intro w' hSw; go_simp; try with_reducible rfl⟩) ?_; (try simp only [Act.put, List.getElem_toArray, List.getElem_cons_succ, List.getElem_cons_zero, List.setIfInBounds_toArray, List.set_cons_zero, List.set_cons_succ])
              refine wpAnyG_take 8 (v := ?_) rfl (by kernel_rfl) (by intro _ _ _ h; cases h) S0 (Or.inl ⟨by rfl, by intro w' hSw; go_simp; try with_reducible rfl⟩) ?_; (try simp only [Act.put, List.getElem_toArray, List.getElem_cons_succ, List.getElem_cons_zero, List.setIfInBounds_toArray, List.set_cons_zero, List.set_cons_succ])
              refine wpAnyG_take 9 (v := ?_) rfl (by kernel_rfl) (by intro _ _ _ h; cases h) S0 (Or.inl ⟨by rfl, by intro w' hSw; go_simp; try with_reducible rfl⟩) ?_; (try simp only [Act.put, List.getElem_toArray, List.getElem_cons_succ, List.getElem_cons_zero, List.setIfInBounds_toArray, List.set_cons_zero, List.set_cons_succ])
              refine wpAnyG_one 12 (by kernel_rfl) rfl (fun K hK => ?_)
              rw [if_pos (by rfl)]
              refine wp_putB _ _ _ rfl rfl rfl qgR (by rfl) (by rfl) (by rfl) ?_
              intro w8 qn hg
              replace bw := bw.grown hg hR
              replace mA2 := mA2.grownB qgR (by decide) hg
              replace mC2 := mC2.grownB qgR (by decide) (by decide) hg
              replace qgF := qgF.grown hg ((hne.symm).symm)
              replace S0 : Blk w8 g11 24 #[.int .i64 P2, .slice Aa na ca] := S0.grown hg (by have := hbx; omega)
              clear hg qgR
              have qgR := qn
              clear qn
              (try go_simp)
              refine hK.out _ _ (fun _ => S0) ?_
              clear hK K
              (try simp only [Act.put, List.getElem_toArray, List.getElem_cons_succ, List.getElem_cons_zero, List.setIfInBounds_toArray, List.set_cons_zero, List.set_cons_succ])
              refine wpAnyG_take 13 (v := ?_) rfl (by kernel_rfl) (by intro _ _ _ h; cases h) S0 (Or.inl ⟨by rfl, by intro w' hSw; go_simp; try with_reducible rfl⟩) ?_; (try simp only [Act.put, List.getElem_toArray, List.getElem_cons_succ, List.getElem_cons_zero, List.setIfInBounds_toArray, List.set_cons_zero, List.set_cons_succ])
              refine wpAnyG_one 14 (by kernel_rfl) rfl (fun K hK => ?_)
              rw [if_pos (by rfl)]
              refine wp_putB _ _ _ rfl rfl rfl qgF (by rfl) (by rfl) (by rfl) ?_
              intro w8 qn hg
              replace bw := bw.grown hg hF
              replace mA2 := mA2.grownB qgF (by decide) hg
              replace mC2 := mC2.grownB qgF (by decide) (by decide) hg
              replace qgR := qgR.grown hg (hne.symm)
              replace S0 : Blk w8 g11 24 #[.int .i64 P2, .slice Aa na ca] := S0.grown hg (by have := hbx; omega)
              clear hg qgF
              have qgF := qn
              clear qn
              (try go_simp)
              refine hK.out _ _ (fun _ => S0) ?_
              clear hK K
              (try simp only [Act.put, List.getElem_toArray, List.getElem_cons_succ, List.getElem_cons_zero, List.setIfInBounds_toArray, List.set_cons_zero, List.set_cons_succ])
              refine wpAnyG_take 15 (v := ?_) rfl (by kernel_rfl) (by intro _ _ _ h; cases h) S0 (Or.inl ⟨by rfl, by intro w' hSw; go_simp; try with_reducible rfl⟩) ?_; (try simp only [Act.put, List.getElem_toArray, List.getElem_cons_succ, List.getElem_cons_zero, List.setIfInBounds_toArray, List.set_cons_zero, List.set_cons_succ])
              refine wpAnyG_done (by kernel_rfl) ?_ _
              refine NoPanic.normal ?_
              refine ⟨rfl, _, _, A2, n2, c2, B2, m2, d2, es2, ?_, qgR, qgF, mA2, mC2, HPS2.out, bw.out, hR, hF, hne.symm⟩
              (try simp only [Act.put, List.getElem_toArray, List.getElem_cons_succ, List.getElem_cons_zero, List.setIfInBounds_toArray, List.set_cons_zero, List.set_cons_succ])
              (try rfl)
      case rest =>
        as_aux_lemma =>
          rintro a' w11 ⟨g15, g17, A3, n3, c3, B3, m3, d3, es3, rfl, q15, q17, mA3, mC3, hps3, hb, h15, h17, hne2⟩
          (try simp only [Act.put, List.getElem_toArray, List.getElem_cons_succ, List.getElem_cons_zero, List.setIfInBounds_toArray, List.set_cons_zero, List.set_cons_succ])
          replace b0 := b0.below hb
          replace q7 := q7.below hb
          replace q9 := q9.below hb
          replace mA1 := mA1.below hb
          replace mC1 := mC1.below hb
          replace mAa := mAa.below hb
          replace mCa := mCa.below hb
          have HPS3 := Lib.hid hps3
          clear hps3 hb F3 hcl2
          have SMC := Lib.hid fun w (h : Byt w A3 n3 c3 L1) (h2 : Byt w A1 n1 c1 L1) => rRSame P1 A3 n3 c3 L1 P1 A1 n1 c1 L1 w h h2
          rw [sameC_self] at SMC
          have PCS := Lib.hid fun (A : Option Addr) (k e : Nat) w (h : Pcs w B1 m1 d1 es1) (h2 : Pcs w A k e (([] ++ esa) ++ es3)) => rPieces B1 m1 d1 es1 A k e (([] ++ esa) ++ es3) w h h2
          rw [eqPc_self (m := ([] ++ esa) ++ es3) HPS1.out (by rw [List.nil_append, List.map_append, HPSa.out, HPS3.out])] at PCS
          have cb1 := mC1.len; have cb2 := mCa.len; have cb3 := mC3.len
          have LE2 : esa.length + es3.length ≤ 1000000 := by
            have := HLEN.out
            have e2 := congrArg List.length HPSa.out
            have e3 := congrArg List.length HPS3.out
            simp only [List.length_map] at e2 e3
            omega
          go_wp2_with (first | ((with_reducible refine wpList_id ?_); refine wpList_getG (by rfl) _ _ rfl rfl q7 Try.underlying24 rfl (by rfl) ?_) | ((with_reducible refine wpList_id ?_); refine wpList_getG (by rfl) _ _ rfl rfl q9 Try.underlying31 rfl (by rfl) ?_) | ((with_reducible refine wpList_id ?_); refine wpList_getG (by rfl) _ _ rfl rfl q15 Try.underlying24 rfl (by rfl) ?_) | ((with_reducible refine wpList_id ?_); refine wpList_getG (by rfl) _ _ rfl rfl q17 Try.underlying31 rfl (by rfl) ?_) | (go_at_call 11; (with_reducible refine (SMC.out _ mA3.byt mA1.byt).mono ?_); rintro e w9 ⟨rfl, hb⟩; replace b0 := b0.below hb; replace mC1 := mC1.below hb; replace mCa := mCa.below hb; replace mC3 := mC3.below hb; clear hb; have ky := Below.refl w9.heap.size w9; have kb := b0; have k1 := mC1.pcs; have k2 := mCa.pcs; have k3 := mC3.pcs; have tok2 : True := trivial; clear mC1 mCa mC3) | (at_builtin; have _t := tok2; clear tok2 _t; go_must (refine wpList_appR w9 _ (by rfl) (.tmp 109) (.tmp 110) rfl (some ⟨w9.heap.size, 0, none⟩) 0 0 [] rfl (rowC0 w9) Ba ma da esa rfl (k2.below (ky.alloc (Nat.le_refl _) _)) (by simp; omega) (ky.alloc (Nat.le_refl _) _) ?_); intro A5 c5 w5x ro5 hb5; rw [Nat.zero_add] at ro5) | (at_builtin; go_must (refine wpList_appR w9 _ (by rfl) (.tmp 111) (.tmp 112) rfl A5 ma c5 ([] ++ esa) rfl ro5 B3 m3 d3 es3 rfl (k3.below hb5) (by simp; omega) hb5 ?_); intro A6 c6 w6x ro6 hb6; have k6 := pcs_of_row ro6 (byts_app (byts_app (fun e he => by cases he) (k2.below hb6).byt) (k3.below hb6).byt)) | (go_at_call 10; (with_reducible refine (PCS.out _ _ _ _ (k1.below hb6) k6).mono ?_); rintro e wz ⟨rfl, hb⟩; replace b0 := (kb.below hb6).below hb; clear hb) | (go_at_call 8; (with_reducible refine (fWakes _).mono ?_); rintro e wz2 ⟨rfl, hb⟩; replace b0 := b0.below hb))
          go_ret
          exact ⟨rfl, b0.out⟩
theorem wPartsR {W : World} (p : Int) (p0 : -9223372036854775808 ≤ p) (p1 : p ≤ 9223372036854775807) (A : Option Addr) (n c : Nat) (l : List Int) (h : Byt W A n c l) (B : Option Addr) (m d : Nat) (ch : List Int) (hc : Byt W B m d ch) (z : Int) (z0 : -9223372036854775808 ≤ z) (z1 : z ≤ 9223372036854775807) :
    Calls Try.prog 3 #[.agg #[.int .i64 p, .slice A n c], .slice B m d, .int .i64 z] W fun e w' => e = .returned (.bool true) ∧ Below W.heap.size W w' := by
  by_cases g0 : 600 < n
  · exact parts1 p p0 p1 A n c l B m d ch z W h hc g0
  by_cases g1 : 600 < m
  · exact parts2 p p0 p1 A n c l B m d ch z W h hc (by omega) g1
  by_cases hr : RightC p l
  · obtain ⟨M, j, j0, j1, hMx, hMn⟩ := partsTo z 0 m (Nat.zero_le _)
    cases hg : (feedC p l (ch.take j)).fw
    · exact partsB p p0 p1 A n c l B m d ch z W h hc (by omega) (by omega) hr j j1 M hMx hMn hg
    · exact partsA p p0 p1 A n c l B m d ch z W h hc (by omega) (by omega) hr j j1 M hMx hMn hg
  · exact parts3 p p0 p1 A n c l B m d ch z W h hc (by omega) (by omega) hr
end Go.Proofs.Ythcnfalfhdeflaa
