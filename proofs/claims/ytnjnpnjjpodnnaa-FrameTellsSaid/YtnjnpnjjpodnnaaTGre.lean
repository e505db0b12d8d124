/- The document's frames: what is wrong with values. -/
import Derived.Test.YtnjnpnjjpodnnaaTGrc
namespace Go.Proofs.Ytnjnpnjjpodnnaa
open Go.RowKit Go.Shelf
set_option linter.unusedVariables false
set_option linter.unusedSimpArgs false

theorem valWaysR (f : Fm) (h0 : firstS f.prs = 0) : ((f.kd == 8) = true ∧ (f.ic == 0) = true ∧ (f.st == 0) = true ∧ valS f = ⟨true, 0, 1⟩) ∨
    ((f.kd == 8) = true ∧ (f.ic == 0) = true ∧ (f.st == 0) = false ∧ valS f = ⟨false, f.st, 1⟩) ∨
    ((f.kd == 8) = true ∧ (f.ic == 0) = false ∧ (f.kd == 16) = false ∧ f.rk = true ∧ (f.dp == f.st) = true ∧ valS f = ⟨false, f.st, 1⟩) ∨
    ((f.kd == 8) = true ∧ (f.ic == 0) = false ∧ (f.kd == 16) = false ∧ f.rk = true ∧ (f.dp == f.st) = false ∧ valS f = ⟨false, 0, 0⟩) ∨
    ((f.kd == 8) = true ∧ (f.ic == 0) = false ∧ (f.kd == 16) = false ∧ f.rk = false ∧ valS f = ⟨false, 0, 0⟩) ∨
    ((f.kd == 8) = false ∧ (f.kd == 16) = true ∧ (f.la == 0) = false ∧ f.rk = true ∧ (f.dp == f.st) = true ∧ valS f = ⟨false, f.st, 1⟩) ∨
    ((f.kd == 8) = false ∧ (f.kd == 16) = true ∧ (f.la == 0) = false ∧ f.rk = true ∧ (f.dp == f.st) = false ∧ valS f = ⟨false, 0, 0⟩) ∨
    ((f.kd == 8) = false ∧ (f.kd == 16) = true ∧ (f.la == 0) = false ∧ f.rk = false ∧ valS f = ⟨false, 0, 0⟩) ∨
    ((f.kd == 8) = false ∧ (f.kd == 16) = false ∧ f.rk = true ∧ (f.dp == f.st) = true ∧ valS f = ⟨false, f.st, 1⟩) ∨
    ((f.kd == 8) = false ∧ (f.kd == 16) = false ∧ f.rk = true ∧ (f.dp == f.st) = false ∧ valS f = ⟨false, 0, 0⟩) ∨
    ((f.kd == 8) = false ∧ (f.kd == 16) = false ∧ f.rk = false ∧ valS f = ⟨false, 0, 0⟩) ∨
    ((f.kd == 8) = false ∧ (f.kd == 16) = true ∧ (f.la == 0) = true ∧ valS f = ⟨true, 0, 1⟩) := by
  unfold valS
  simp only [h0, ne_eq, not_true_eq_false, if_false]
  by_cases ha : f.kd = 8
  · have hc : ¬ f.kd = 16 := by omega
    by_cases hb : f.ic = 0
    · by_cases hs : f.st = 0 <;> simp [ha, hb, hs]
    · cases he : f.rk <;> by_cases hg : f.dp = f.st <;> simp [ha, hb, hg]
  · by_cases hc : f.kd = 16 <;> by_cases hd : f.la = 0 <;> cases he : f.rk <;> by_cases hg : f.dp = f.st <;> simp [ha, hc, hd, hg]
set_option maxRecDepth 100000 in
set_option maxHeartbeats 4000000 in
theorem rValues (f : Fm) (A : Option Addr) (n c : Nat) (P : Option Addr) (pn pc : Nat) (w : World) (hp : Prs w P pn pc f.prs) (hpn : pn ≤ 100000) : Calls Try.prog 35 #[.agg #[.int .u8 (f).kd, .int .u8 (f).fl, .int .i64 (f).st, .slice A n c, .int .i64 (f).pd, .int .i64 (f).la, .int .i64 (f).ic, .int .u32 (f).cd, .slice P pn pc, .bool (f).rk, .bool (f).al, .int .i64 (f).dp, .int .u8 (f).wt]] w (FltP (valS f).wh (valS f).st (valS f).cd w) := by
  have hl := Lib.hid hp.len
  have HP := Lib.hid hp
  clear hp
  have b0 := ((Bel.refl w).alloc (.cells #[.int .u8 (f).kd, .int .u8 (f).fl, .int .i64 (f).st, .slice A n c, .int .i64 (f).pd, .int .i64 (f).la, .int .i64 (f).ic, .int .u32 (f).cd, .slice P pn pc, .bool (f).rk, .bool (f).al, .int .i64 (f).dp, .int .u8 (f).wt] 30)).alloc (.cells #[.bool false, .int .i64 0, .int .u32 0] 34)
  have q := (Blk.new w 30 #[.int .u8 (f).kd, .int .u8 (f).fl, .int .i64 (f).st, .slice A n c, .int .i64 (f).pd, .int .i64 (f).la, .int .i64 (f).ic, .int .u32 (f).cd, .slice P pn pc, .bool (f).rk, .bool (f).al, .int .i64 (f).dp, .int .u8 (f).wt]).alloc (.cells #[.bool false, .int .i64 0, .int .u32 0] 34)
  have qx := Blk.new (w.alloc (.cells #[.int .u8 (f).kd, .int .u8 (f).fl, .int .i64 (f).st, .slice A n c, .int .i64 (f).pd, .int .i64 (f).la, .int .i64 (f).ic, .int .u32 (f).cd, .slice P pn pc, .bool (f).rk, .bool (f).al, .int .i64 (f).dp, .int .u8 (f).wt] 30)) 34 #[.bool false, .int .i64 0, .int .u32 0]
  rw [World.size_alloc] at qx
  go_enter Try.func35, Try.ntmps35
  go_wp2
  go_loopw [3] (fun i wr => ∃ k : Nat, k ≤ pn ∧ i = .int .i64 k ∧ Hid (faults (f.prs.take k) = []) ∧ Blk wr w.heap.size 30 #[.int .u8 (f).kd, .int .u8 (f).fl, .int .i64 (f).st, .slice A n c, .int .i64 (f).pd, .int .i64 (f).la, .int .i64 (f).ic, .int .u32 (f).cd, .slice P pn pc, .bool (f).rk, .bool (f).al, .int .i64 (f).dp, .int .u8 (f).wt] ∧ Blk wr (w.heap.size + 1) 34 #[.bool false, .int .i64 0, .int .u32 0] ∧ Bel w wr) (fun i _ => pn - (intOf i).toNat)
  case atStart => exact ⟨0, Nat.zero_le _, rfl, Lib.hid (by simp [faults]), q, qx, b0⟩
  case round =>
    clear q qx b0
    obtain ⟨k, hk, rfl, hf, q, qx, b0⟩ := hrel
    have z8 := q.at 8 rfl
    by_cases hlt : k < pn
    · obtain ⟨b, o, hP, hbl, hc⟩ := (HP.out.below b0.out).cell (by omega)
      subst hP
      obtain ⟨c1, c2⟩ := hc k hlt
      have hs := faults_take f.prs (k := k) (by have := hl.out; omega)
      rw [hf.out] at hs
      obtain ⟨X, hX⟩ : ∃ X, pid f.prs k = X := ⟨_, rfl⟩
      obtain ⟨Y, hY⟩ : ∃ Y, pva f.prs k = Y := ⟨_, rfl⟩
      rw [hX, hY] at hs
      rw [hX] at c1
      rw [hY] at c2
      have i0 : (0 : Int) ≤ (k : Int) := by omega
      have i1 : (k : Int) < (pn : Int) := by omega
      have hk1 : Hid (k + 1 ≤ pn) := Lib.hid (by omega)
      have RS := Lib.hid fun w => rSet X Y w
      have HX := Lib.hid hX
      have HY := Lib.hid hY
      by_cases h0 : setS (X, Y) = 0
      · rw [if_neg (by simpa using h0)] at hs
        have HS := Lib.hid hs
        rw [h0] at RS
        simp only [ne_eq, not_true_eq_false, decide_false] at RS
        clear hs h0 hX hY hc hk hlt
        go_wp2_with (first
          | (go_at_call 56; (with_reducible refine (RS.out _).mono ?_); rintro e w9 ⟨rfl, hb⟩; replace b0 := b0.below hb; replace q := q.below hb; replace qx := qx.below hb; clear hb)
          | (go_at_call 33; (with_reducible refine (rFine _).mono ?_); rintro e w9 ⟨rfl, hb⟩; replace b0 := b0.below hb; replace q := q.below hb; replace qx := qx.below hb; clear hb))
        exact ⟨⟨k + 1, hk1.out, by simp, Lib.hid (by rw [HS.out]; rfl), q, qx, b0⟩, by simp [intOf]; have := hk1.out; omega⟩
      · rw [if_pos h0] at hs
        have hv : valS f = ⟨true, 0, setS (X, Y)⟩ := by
          have hfs : firstS f.prs = setS (X, Y) := by
            obtain ⟨r, hr⟩ := faults_pre (l := f.prs) (k := k + 1) (pre := [setS (X, Y)]) (by rw [hs]; rfl)
            rw [faults_first, ← hr]
            rfl
          unfold valS
          rw [hfs, if_pos h0]
        rw [hv]
        have hd : decide (setS (X, Y) ≠ 0) = true := by simpa using h0
        rw [hd] at RS
        generalize setS (X, Y) = V at *
        clear hs h0 hd hX hY hc hk hlt hv
        go_wp2_with fail
        refine (RS.out _).mono ?_
        rintro e w9 ⟨rfl, hb⟩
        replace b0 := b0.below hb; replace q := q.below hb; replace qx := qx.below hb
        clear hb
        go_wp2_with fail
        refine (rFine _).mono ?_
        rintro e w9 ⟨rfl, hb⟩
        replace b0 := b0.below hb; replace q := q.below hb; replace qx := qx.below hb
        obtain ⟨b', o', hP, _, hc⟩ := (HP.out.below b0.out).cell (by have := hk1.out; omega)
        cases hP
        obtain ⟨c1', c2'⟩ := hc k (by have := hk1.out; omega)
        rw [HX.out] at c1'
        rw [HY.out] at c2'
        clear hb hc c1 c2 z8
        have z8 := q.at 8 rfl
        go_wp2_with fail
        refine (RS.out _).mono ?_
        rintro e w9 ⟨rfl, hb⟩
        replace b0 := b0.below hb; replace q := q.below hb; replace qx := qx.below hb
        clear hb
        go_wp2_with ((with_reducible refine wpList_id ?_); refine wpList_putB rfl _ _ _ rfl rfl rfl qx (by rfl) (by rfl) (by rfl) ?_; intro w9 qn hg; replace b0 := b0.grown hg (Nat.le_succ _); clear hg qx; have qx := qn; clear qn)
        exact res1 rfl rfl rfl qx Try.underlying34 rfl (by rfl) ⟨rfl, b0.out⟩
    · obtain rfl : pn = k := by omega
      have hf0 : firstS f.prs = 0 := by
        have h1 := hf.out
        rw [List.take_of_length_le (by have := hl.out; omega)] at h1
        rw [faults_first, h1]
        rfl
      clear hf hk hlt hl HP
      have hw := valWaysR f hf0
      obtain ⟨K0, hK0⟩ : ∃ x, f.kd = x := ⟨_, rfl⟩
      obtain ⟨K6, hK6⟩ : ∃ x, f.ic = x := ⟨_, rfl⟩
      obtain ⟨K5, hK5⟩ : ∃ x, f.la = x := ⟨_, rfl⟩
      obtain ⟨K9, hK9⟩ : ∃ x, f.rk = x := ⟨_, rfl⟩
      obtain ⟨K11, hK11⟩ : ∃ x, f.dp = x := ⟨_, rfl⟩
      obtain ⟨K2, hK2⟩ : ∃ x, f.st = x := ⟨_, rfl⟩
      have z0 := q.at 0 rfl
      have z6 := q.at 6 rfl
      have z5 := q.at 5 rfl
      have z9 := q.at 9 rfl
      have z11 := q.at 11 rfl
      have z2 := q.at 2 rfl
      rw [hK0] at z0
      rw [hK6] at z6
      rw [hK5] at z5
      rw [hK9] at z9
      rw [hK11] at z11
      rw [hK2] at z2
      rw [hK0, hK6, hK5, hK9, hK11, hK2] at hw
      clear q hK0 hK6 hK5 hK9 hK11 hK2 hf0
      rcases hw with ⟨f0, f1, f2, hv⟩ | ⟨f0, f1, f2, hv⟩ | ⟨f0, f1, f2, f3, f4, hv⟩ | ⟨f0, f1, f2, f3, f4, hv⟩ | ⟨f0, f1, f2, f3, hv⟩ | ⟨f0, f1, f2, f3, f4, hv⟩ | ⟨f0, f1, f2, f3, f4, hv⟩ | ⟨f0, f1, f2, f3, hv⟩ | ⟨f0, f1, f2, f3, hv⟩ | ⟨f0, f1, f2, f3, hv⟩ | ⟨f0, f1, f2, hv⟩ | ⟨f0, f1, f2, hv⟩
      · as_aux_lemma =>
          have HV := Lib.hid hv
          clear hv
          go_wp2_with fail
          refine (rWholeF _ _).mono ?_
          rintro e w9 ⟨rfl, hb⟩
          replace b0 := b0.below hb
          replace qx := qx.below hb
          clear hb
          go_wp2_with ((with_reducible refine wpList_id ?_); refine wpList_putB rfl _ _ _ rfl rfl rfl qx (by rfl) (by rfl) (by rfl) ?_; intro w9 qn hg; replace b0 := b0.grown hg (Nat.le_succ _); clear hg qx; have qx := qn; clear qn)
          exact res1 rfl rfl rfl qx Try.underlying34 rfl (by rfl) ⟨by rw [HV.out], b0.out⟩
      · as_aux_lemma =>
          have HV := Lib.hid hv
          clear hv
          go_wp2_with fail
          refine (rOfF _ _ _).mono ?_
          rintro e w9 ⟨rfl, hb⟩
          replace b0 := b0.below hb
          replace qx := qx.below hb
          clear hb
          go_wp2_with ((with_reducible refine wpList_id ?_); refine wpList_putB rfl _ _ _ rfl rfl rfl qx (by rfl) (by rfl) (by rfl) ?_; intro w9 qn hg; replace b0 := b0.grown hg (Nat.le_succ _); clear hg qx; have qx := qn; clear qn)
          exact res1 rfl rfl rfl qx Try.underlying34 rfl (by rfl) ⟨by rw [HV.out], b0.out⟩
      · as_aux_lemma =>
          have HV := Lib.hid hv
          clear hv
          go_wp2_with fail
          refine (rOfF _ _ _).mono ?_
          rintro e w9 ⟨rfl, hb⟩
          replace b0 := b0.below hb
          replace qx := qx.below hb
          clear hb
          go_wp2_with ((with_reducible refine wpList_id ?_); refine wpList_putB rfl _ _ _ rfl rfl rfl qx (by rfl) (by rfl) (by rfl) ?_; intro w9 qn hg; replace b0 := b0.grown hg (Nat.le_succ _); clear hg qx; have qx := qn; clear qn)
          exact res1 rfl rfl rfl qx Try.underlying34 rfl (by rfl) ⟨by rw [HV.out], b0.out⟩
      · as_aux_lemma =>
          have HV := Lib.hid hv
          clear hv
          go_wp2_with fail
          refine (rFine _).mono ?_
          rintro e w9 ⟨rfl, hb⟩
          replace b0 := b0.below hb
          replace qx := qx.below hb
          clear hb
          go_wp2_with ((with_reducible refine wpList_id ?_); refine wpList_putB rfl _ _ _ rfl rfl rfl qx (by rfl) (by rfl) (by rfl) ?_; intro w9 qn hg; replace b0 := b0.grown hg (Nat.le_succ _); clear hg qx; have qx := qn; clear qn)
          exact res1 rfl rfl rfl qx Try.underlying34 rfl (by rfl) ⟨by rw [HV.out], b0.out⟩
      · as_aux_lemma =>
          have HV := Lib.hid hv
          clear hv
          go_wp2_with fail
          refine (rFine _).mono ?_
          rintro e w9 ⟨rfl, hb⟩
          replace b0 := b0.below hb
          replace qx := qx.below hb
          clear hb
          go_wp2_with ((with_reducible refine wpList_id ?_); refine wpList_putB rfl _ _ _ rfl rfl rfl qx (by rfl) (by rfl) (by rfl) ?_; intro w9 qn hg; replace b0 := b0.grown hg (Nat.le_succ _); clear hg qx; have qx := qn; clear qn)
          exact res1 rfl rfl rfl qx Try.underlying34 rfl (by rfl) ⟨by rw [HV.out], b0.out⟩
      · as_aux_lemma =>
          have HV := Lib.hid hv
          clear hv
          go_wp2_with fail
          refine (rOfF _ _ _).mono ?_
          rintro e w9 ⟨rfl, hb⟩
          replace b0 := b0.below hb
          replace qx := qx.below hb
          clear hb
          go_wp2_with ((with_reducible refine wpList_id ?_); refine wpList_putB rfl _ _ _ rfl rfl rfl qx (by rfl) (by rfl) (by rfl) ?_; intro w9 qn hg; replace b0 := b0.grown hg (Nat.le_succ _); clear hg qx; have qx := qn; clear qn)
          exact res1 rfl rfl rfl qx Try.underlying34 rfl (by rfl) ⟨by rw [HV.out], b0.out⟩
      · as_aux_lemma =>
          have HV := Lib.hid hv
          clear hv
          go_wp2_with fail
          refine (rFine _).mono ?_
          rintro e w9 ⟨rfl, hb⟩
          replace b0 := b0.below hb
          replace qx := qx.below hb
          clear hb
          go_wp2_with ((with_reducible refine wpList_id ?_); refine wpList_putB rfl _ _ _ rfl rfl rfl qx (by rfl) (by rfl) (by rfl) ?_; intro w9 qn hg; replace b0 := b0.grown hg (Nat.le_succ _); clear hg qx; have qx := qn; clear qn)
          exact res1 rfl rfl rfl qx Try.underlying34 rfl (by rfl) ⟨by rw [HV.out], b0.out⟩
      · as_aux_lemma =>
          have HV := Lib.hid hv
          clear hv
          go_wp2_with fail
          refine (rFine _).mono ?_
          rintro e w9 ⟨rfl, hb⟩
          replace b0 := b0.below hb
          replace qx := qx.below hb
          clear hb
          go_wp2_with ((with_reducible refine wpList_id ?_); refine wpList_putB rfl _ _ _ rfl rfl rfl qx (by rfl) (by rfl) (by rfl) ?_; intro w9 qn hg; replace b0 := b0.grown hg (Nat.le_succ _); clear hg qx; have qx := qn; clear qn)
          exact res1 rfl rfl rfl qx Try.underlying34 rfl (by rfl) ⟨by rw [HV.out], b0.out⟩
      · as_aux_lemma =>
          have HV := Lib.hid hv
          clear hv
          go_wp2_with fail
          refine (rOfF _ _ _).mono ?_
          rintro e w9 ⟨rfl, hb⟩
          replace b0 := b0.below hb
          replace qx := qx.below hb
          clear hb
          go_wp2_with ((with_reducible refine wpList_id ?_); refine wpList_putB rfl _ _ _ rfl rfl rfl qx (by rfl) (by rfl) (by rfl) ?_; intro w9 qn hg; replace b0 := b0.grown hg (Nat.le_succ _); clear hg qx; have qx := qn; clear qn)
          exact res1 rfl rfl rfl qx Try.underlying34 rfl (by rfl) ⟨by rw [HV.out], b0.out⟩
      · as_aux_lemma =>
          have HV := Lib.hid hv
          clear hv
          go_wp2_with fail
          refine (rFine _).mono ?_
          rintro e w9 ⟨rfl, hb⟩
          replace b0 := b0.below hb
          replace qx := qx.below hb
          clear hb
          go_wp2_with ((with_reducible refine wpList_id ?_); refine wpList_putB rfl _ _ _ rfl rfl rfl qx (by rfl) (by rfl) (by rfl) ?_; intro w9 qn hg; replace b0 := b0.grown hg (Nat.le_succ _); clear hg qx; have qx := qn; clear qn)
          exact res1 rfl rfl rfl qx Try.underlying34 rfl (by rfl) ⟨by rw [HV.out], b0.out⟩
      · as_aux_lemma =>
          have HV := Lib.hid hv
          clear hv
          go_wp2_with fail
          refine (rFine _).mono ?_
          rintro e w9 ⟨rfl, hb⟩
          replace b0 := b0.below hb
          replace qx := qx.below hb
          clear hb
          go_wp2_with ((with_reducible refine wpList_id ?_); refine wpList_putB rfl _ _ _ rfl rfl rfl qx (by rfl) (by rfl) (by rfl) ?_; intro w9 qn hg; replace b0 := b0.grown hg (Nat.le_succ _); clear hg qx; have qx := qn; clear qn)
          exact res1 rfl rfl rfl qx Try.underlying34 rfl (by rfl) ⟨by rw [HV.out], b0.out⟩
      · as_aux_lemma =>
          have HV := Lib.hid hv
          clear hv
          go_wp2_with fail
          refine (rWholeF _ _).mono ?_
          rintro e w9 ⟨rfl, hb⟩
          replace b0 := b0.below hb
          replace qx := qx.below hb
          clear hb
          go_wp2_with ((with_reducible refine wpList_id ?_); refine wpList_putB rfl _ _ _ rfl rfl rfl qx (by rfl) (by rfl) (by rfl) ?_; intro w9 qn hg; replace b0 := b0.grown hg (Nat.le_succ _); clear hg qx; have qx := qn; clear qn)
          exact res1 rfl rfl rfl qx Try.underlying34 rfl (by rfl) ⟨by rw [HV.out], b0.out⟩
end Go.Proofs.Ytnjnpnjjpodnnaa
