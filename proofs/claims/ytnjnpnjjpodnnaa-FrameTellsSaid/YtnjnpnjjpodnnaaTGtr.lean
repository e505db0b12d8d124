/- Which frames may be: the contract. -/
import Derived.Test.YtnjnpnjjpodnnaaTGt0
import Derived.Test.YtnjnpnjjpodnnaaTGsr
import Derived.Test.YtnjnpnjjpodnnaaTGrb
import Derived.Test.YtnjnpnjjpodnnaaTGrf
namespace Go.Proofs.Ytnjnpnjjpodnnaa
open Go.RowKit Go.Shelf
set_option linter.unusedVariables false
set_option linter.unusedSimpArgs false

theorem flt_ne (xw : Bool) (xs xc : Int) (hc : (xc == 0) = false) : ∀ W : World, (binOp .eql 34 (.agg #[.bool xw, .int .i64 xs, .int .u32 xc]) (.agg #[.bool false, .int .i64 0, .int .u32 0])).run Try.prog W = .ok (.bool false) W := fun W => by
  have h0 : xc ≠ 0 := by simpa using hc
  go_simp
set_option maxRecDepth 100000 in
set_option maxHeartbeats 8000000 in
theorem rRight (f : Fm) (hf : FmOk f) (A : Option Addr) (n c : Nat) (P : Option Addr) (pn pc : Nat) (w : World) (h : Byt w A n c f.da) (hn : n ≤ 90000) (hp : Prs w P pn pc f.prs) (hpn : pn ≤ 10000) : Calls Try.prog 17 #[.agg #[.int .u8 (f).kd, .int .u8 (f).fl, .int .i64 (f).st, .slice A n c, .int .i64 (f).pd, .int .i64 (f).la, .int .i64 (f).ic, .int .u32 (f).cd, .slice P pn pc, .bool (f).rk, .bool (f).al, .int .i64 (f).dp, .int .u8 (f).wt]] w (BoolP (rightS f) w) := by
  obtain ⟨⟨r1, ⟨xw, xs, xc⟩⟩, hr⟩ : ∃ r, parseS f.kd f.fl f.st (payS f) = r := ⟨_, rfl⟩
  have HG := Lib.hid (show rightS f = (if (xc == 0) = true then sameF f r1 else false) by
    unfold rightS sameF
    rw [hr]
    by_cases h0 : xc = 0
    · simp [h0]
    · simp [h0])
  have HF := Lib.hid (show (xc == 0) = true → xw = false ∧ xs = 0 ∧ xc = 0 from fun hc => by
    have hz := parse_fine f.kd f.fl f.st (payS f) (by rw [hr]; simpa using hc)
    rw [hr] at hz
    simpa only [Flt.mk.injEq] using hz)
  have H0 := Lib.hid h
  have P0 := Lib.hid hp
  have hl := Lib.hid (payS_len f (by have := h.len; omega) (by have := hp.len; omega))
  have SM := Lib.hid fun B m d Q qn qc w h1 h2 h3 h4 => rSameF f r1 A n c P pn pc B m d Q qn qc w h1 h2 h3 h4
  have PA := Lib.hid fun A2 n2 c2 w h2 h3 => rParse 0 f.kd f.fl f.st A2 n2 c2 (payS f) w h2 h3 hf.st.1 hf.st.2 hf.fl.1 hf.fl.2
  rw [hr] at PA
  have PT := Lib.hid fun w h hp => rPayload f hf A n c P pn pc w h (by omega) hp (by omega)
  clear h hp hr hn hpn hf
  have b0 := (Bel.refl w).alloc (.cells #[.int .u8 (f).kd, .int .u8 (f).fl, .int .i64 (f).st, .slice A n c, .int .i64 (f).pd, .int .i64 (f).la, .int .i64 (f).ic, .int .u32 (f).cd, .slice P pn pc, .bool (f).rk, .bool (f).al, .int .i64 (f).dp, .int .u8 (f).wt] 30)
  have q := Blk.new w 30 #[.int .u8 (f).kd, .int .u8 (f).fl, .int .i64 (f).st, .slice A n c, .int .i64 (f).pd, .int .i64 (f).la, .int .i64 (f).ic, .int .u32 (f).cd, .slice P pn pc, .bool (f).rk, .bool (f).al, .int .i64 (f).dp, .int .u8 (f).wt]
  go_enter Try.func17, Try.ntmps17
  go_wp2_with fail
  have qh := Blk.newAt (b := w.heap.size + 1) (w.alloc (.cells #[.int .u8 (f).kd, .int .u8 (f).fl, .int .i64 (f).st, .slice A n c, .int .i64 (f).pd, .int .i64 (f).la, .int .i64 (f).ic, .int .u32 (f).cd, .slice P pn pc, .bool (f).rk, .bool (f).al, .int .i64 (f).dp, .int .u8 (f).wt] 30)) 23 #[.int .i64 0, .int .u8 f.kd, .int .u8 f.fl, .int .i64 f.st] (by simp)
  replace q := q.alloc (.cells #[.int .i64 0, .int .u8 f.kd, .int .u8 f.fl, .int .i64 f.st] 23)
  replace b0 := b0.alloc (.cells #[.int .i64 0, .int .u8 f.kd, .int .u8 f.fl, .int .i64 f.st] 23)
  refine wp_cutR (fun a a' w' => ∃ g3 g4 A2 n2 c2 B m d Q qn qc, a' = ⟨#[.agg #[.int .u8 (f).kd, .int .u8 (f).fl, .int .i64 (f).st, .slice A n c, .int .i64 (f).pd, .int .i64 (f).la, .int .i64 (f).ic, .int .u32 (f).cd, .slice P pn pc, .bool (f).rk, .bool (f).al, .int .i64 (f).dp, .int .u8 (f).wt], .pointer (some ⟨w.heap.size, 0, none⟩), .bool false, .pointer (some ⟨w.heap.size + 1, 0, none⟩), .pointer (some ⟨g3, 0, none⟩), .pointer (some ⟨g4, 0, none⟩), .pointer (some ⟨w.heap.size, 0, none⟩), .int .u8 f.kd, .pointer (some ⟨w.heap.size, 1, none⟩), .int .u8 f.fl, .pointer (some ⟨w.heap.size, 2, none⟩), .int .i64 f.st, .agg #[.int .i64 0, .int .u8 f.kd, .int .u8 f.fl, .int .i64 f.st], .tuple #[.agg #[.int .u8 (r1).kd, .int .u8 (r1).fl, .int .i64 (r1).st, .slice B m d, .int .i64 (r1).pd, .int .i64 (r1).la, .int .i64 (r1).ic, .int .u32 (r1).cd, .slice Q qn qc, .bool (r1).rk, .bool (r1).al, .int .i64 (r1).dp, .int .u8 (r1).wt], .agg #[.bool xw, .int .i64 xs, .int .u32 xc]], .agg #[.int .i64 0, .int .u8 f.kd, .int .u8 f.fl, .int .i64 f.st], .agg #[.int .u8 (f).kd, .int .u8 (f).fl, .int .i64 (f).st, .slice A n c, .int .i64 (f).pd, .int .i64 (f).la, .int .i64 (f).ic, .int .u32 (f).cd, .slice P pn pc, .bool (f).rk, .bool (f).al, .int .i64 (f).dp, .int .u8 (f).wt], .slice A2 n2 c2, .tuple #[.agg #[.int .u8 (r1).kd, .int .u8 (r1).fl, .int .i64 (r1).st, .slice B m d, .int .i64 (r1).pd, .int .i64 (r1).la, .int .i64 (r1).ic, .int .u32 (r1).cd, .slice Q qn qc, .bool (r1).rk, .bool (r1).al, .int .i64 (r1).dp, .int .u8 (r1).wt], .agg #[.bool xw, .int .i64 xs, .int .u32 xc]], .agg #[.int .u8 (r1).kd, .int .u8 (r1).fl, .int .i64 (r1).st, .slice B m d, .int .i64 (r1).pd, .int .i64 (r1).la, .int .i64 (r1).ic, .int .u32 (r1).cd, .slice Q qn qc, .bool (r1).rk, .bool (r1).al, .int .i64 (r1).dp, .int .u8 (r1).wt], .agg #[.bool xw, .int .i64 xs, .int .u32 xc], undef, undef, undef, undef, undef, undef, undef, undef], []⟩ ∧ Blk w' g3 30 #[.int .u8 (r1).kd, .int .u8 (r1).fl, .int .i64 (r1).st, .slice B m d, .int .i64 (r1).pd, .int .i64 (r1).la, .int .i64 (r1).ic, .int .u32 (r1).cd, .slice Q qn qc, .bool (r1).rk, .bool (r1).al, .int .i64 (r1).dp, .int .u8 (r1).wt] ∧ Blk w' g4 34 #[.bool xw, .int .i64 xs, .int .u32 xc] ∧ Blk w' w.heap.size 30 #[.int .u8 (f).kd, .int .u8 (f).fl, .int .i64 (f).st, .slice A n c, .int .i64 (f).pd, .int .i64 (f).la, .int .i64 (f).ic, .int .u32 (f).cd, .slice P pn pc, .bool (f).rk, .bool (f).al, .int .i64 (f).dp, .int .u8 (f).wt] ∧ Mine 0 w' B m d r1.da ∧ MineP 0 w' Q qn qc r1.prs ∧ Below w.heap.size w w') ?reg ?rest
  case reg =>
    as_aux_lemma =>
      replace b0 := b0.drew
      replace q := q.drew
      replace qh := qh.drew
      refine wp_region_G (fun w' => Blk w' w.heap.size 30 #[.int .u8 (f).kd, .int .u8 (f).fl, .int .i64 (f).st, .slice A n c, .int .i64 (f).pd, .int .i64 (f).la, .int .i64 (f).ic, .int .u32 (f).cd, .slice P pn pc, .bool (f).rk, .bool (f).al, .int .i64 (f).dp, .int .u8 (f).wt] ∧ Blk w' (w.heap.size + 1) 23 #[.int .i64 0, .int .u8 f.kd, .int .u8 f.fl, .int .i64 f.st]) [] (by kernel_rfl) ?_
      generalize ((w.alloc (.cells #[.int .u8 (f).kd, .int .u8 (f).fl, .int .i64 (f).st, .slice A n c, .int .i64 (f).pd, .int .i64 (f).la, .int .i64 (f).ic, .int .u32 (f).cd, .slice P pn pc, .bool (f).rk, .bool (f).al, .int .i64 (f).dp, .int .u8 (f).wt] 30)).alloc (.cells #[.int .i64 0, .int .u8 f.kd, .int .u8 f.fl, .int .i64 f.st] 23)).drew = W0 at b0 q qh ⊢
      have S0 := (And.intro q qh)
      refine wpAnyG_take 0 (v := .agg #[.int .i64 0, .int .u8 f.kd, .int .u8 f.fl, .int .i64 f.st]) rfl (by kernel_rfl) (fun _ _ _ h => by cases h.1) S0 (Or.inl ⟨by rfl, by intro w' hSw; exact exec_getB (by rfl) (by rfl) hSw.2 Try.underlying23 rfl (by rfl)⟩) ?_; (try simp only [Act.put, rA, rB, rC, rD, rE, rF])
      refine wpAnyG_take 1 (v := .agg #[.int .u8 (f).kd, .int .u8 (f).fl, .int .i64 (f).st, .slice A n c, .int .i64 (f).pd, .int .i64 (f).la, .int .i64 (f).ic, .int .u32 (f).cd, .slice P pn pc, .bool (f).rk, .bool (f).al, .int .i64 (f).dp, .int .u8 (f).wt]) rfl (by kernel_rfl) (fun _ _ _ h => by cases h.1) S0 (Or.inl ⟨by rfl, by intro w' hSw; exact exec_getB (by rfl) (by rfl) hSw.1 Try.underlying30 rfl (by rfl)⟩) ?_; (try simp only [Act.put, rA, rB, rC, rD, rE, rF])
      clear S0
      refine wpAnyG_three 2 7 8 (by kernel_rfl) rfl rfl rfl (fun K hK => ?_) (fun K hK => ?_) (fun K hK => ?_)
      · rw [if_pos (by rfl)]
        go_simp
        (with_reducible refine (PT.out _ (H0.out.below b0.out) (P0.out.below b0.out)).mono ?_)
        rintro e w9 ⟨A2, n2, c2, rfl, k2, hb⟩
        replace b0 := b0.below hb
        replace q := q.below hb
        replace qh := qh.below hb
        clear hb
        (try go_simp)
        refine hK.out _ _ (fun _ => (And.intro q qh)) ?_
        clear hK K
        (try simp only [Act.put, rA, rB, rC, rD, rE, rF])
        refine wpAnyG_three 3 7 8 (by kernel_rfl) rfl rfl rfl (fun K hK => ?_) (fun K hK => ?_) (fun K hK => ?_)
        · rw [if_pos (by rfl)]
          go_simp
          (with_reducible refine (PA.out A2 n2 c2 _ k2.byt (by have := k2.len; have := hl.out; omega)).mono ?_)
          rintro e w9 ⟨B, m, d, Q, qn, qc, rfl, mm, mp, hb⟩
          replace b0 := b0.below hb
          replace q := q.below hb
          replace qh := qh.below hb
          replace k2 := k2.below hb
          clear hb
          (try go_simp)
          refine hK.out _ _ (fun _ => (And.intro q qh)) ?_
          clear hK K
          (try simp only [Act.put, rA, rB, rC, rD, rE, rF])
          have S0 := (And.intro q qh)
          refine wpAnyG_take 4 (v := ?_) rfl (by kernel_rfl) (fun _ _ _ h => by cases h.1) S0 (Or.inl ⟨by rfl, by intro w' hSw; go_simp; try with_reducible rfl⟩) ?_; (try simp only [Act.put, rA, rB, rC, rD, rE, rF])
          refine wpAnyG_take 5 (v := ?_) rfl (by kernel_rfl) (fun _ _ _ h => by cases h.1) S0 (Or.inl ⟨by rfl, by intro w' hSw; go_simp; try with_reducible rfl⟩) ?_; (try simp only [Act.put, rA, rB, rC, rD, rE, rF])
          refine wpAnyG_take 6 (v := ?_) rfl (by kernel_rfl) (fun _ _ _ h => by cases h.1) S0 (Or.inl ⟨by rfl, by intro w' hSw; go_simp; try with_reducible rfl⟩) ?_; (try simp only [Act.put, rA, rB, rC, rD, rE, rF])
          clear S0
          refine wpAnyG_two 7 8 (by kernel_rfl) rfl rfl (fun K hK => ?_) (fun K hK => ?_)
          · rw [if_pos (by rfl)]
            go_simp
            obtain ⟨gz, ez, q3, l3, hz⟩ := Bel.newE b0 30 zF
            have n3 := hz _ _ _ q
            have nh3 := hz _ _ _ qh
            clear hz
            (try simp only [World.size_alloc] at ez)
            subst ez
            replace b0 := b0.alloc (.cells zF 30)
            replace q := q.alloc (.cells zF 30)
            replace qh := qh.alloc (.cells zF 30)
            replace k2 := k2.alloc (.cells zF 30)
            replace mm := mm.alloc (.cells zF 30)
            replace mp := mp.alloc (.cells zF 30)
            (try go_simp)
            refine hK.out _ _ (fun _ => (And.intro q qh)) ?_
            clear hK K
            (try simp only [Act.put, rA, rB, rC, rD, rE, rF])
            refine wpAnyG_one 8 (by kernel_rfl) rfl (fun K hK => ?_)
            rw [if_pos (by rfl)]
            go_simp
            obtain ⟨gz, ez, q4, l4, hz⟩ := Bel.newE b0 34 #[.bool false, .int .i64 0, .int .u32 0]
            have n4 := hz _ _ _ q
            have nh4 := hz _ _ _ qh
            clear hz
            (try simp only [World.size_alloc] at ez)
            subst ez
            replace b0 := b0.alloc (.cells #[.bool false, .int .i64 0, .int .u32 0] 34)
            replace q := q.alloc (.cells #[.bool false, .int .i64 0, .int .u32 0] 34)
            replace qh := qh.alloc (.cells #[.bool false, .int .i64 0, .int .u32 0] 34)
            replace q3 := q3.alloc (.cells #[.bool false, .int .i64 0, .int .u32 0] 34)
            replace k2 := k2.alloc (.cells #[.bool false, .int .i64 0, .int .u32 0] 34)
            replace mm := mm.alloc (.cells #[.bool false, .int .i64 0, .int .u32 0] 34)
            replace mp := mp.alloc (.cells #[.bool false, .int .i64 0, .int .u32 0] 34)
            (try go_simp)
            refine hK.out _ _ (fun _ => (And.intro q qh)) ?_
            clear hK K
            (try simp only [Act.put, rA, rB, rC, rD, rE, rF])
            refine wpAnyG_one 9 (by kernel_rfl) rfl (fun K hK => ?_)
            rw [if_pos (by rfl)]
            refine wp_putB (cells := #[.int .u8 (r1).kd, .int .u8 (r1).fl, .int .i64 (r1).st, .slice B m d, .int .i64 (r1).pd, .int .i64 (r1).la, .int .i64 (r1).ic, .int .u32 (r1).cd, .slice Q qn qc, .bool (r1).rk, .bool (r1).al, .int .i64 (r1).dp, .int .u8 (r1).wt]) _ _ _ rfl rfl rfl q3 (by rfl) (by rfl) (by rfl) ?_
            intro w9 qn hg
            replace b0 := b0.grown hg l3
            replace q := q.grown hg n3
            replace qh := qh.grown hg nh3
            replace q4 := q4.grown hg (q4.ne q3 (by decide))
            replace mm := mm.grownB q3 (by decide) hg
            replace mp := MineP.grownB mp q3 (by decide) hg
            clear hg q3; have q3 := qn; clear qn
            refine hK.out _ _ (fun _ => (And.intro q qh)) ?_
            clear hK K
            (try simp only [Act.put, rA, rB, rC, rD, rE, rF])
            refine wpAnyG_one 10 (by kernel_rfl) rfl (fun K hK => ?_)
            rw [if_pos (by rfl)]
            refine wp_putB (cells := #[.bool xw, .int .i64 xs, .int .u32 xc]) _ _ _ rfl rfl rfl q4 (by rfl) (by rfl) (by rfl) ?_
            intro w9 qn hg
            replace b0 := b0.grown hg l4
            replace q := q.grown hg n4
            replace qh := qh.grown hg nh4
            replace q3 := q3.grown hg (q3.ne q4 (by decide))
            replace mm := mm.grownB q4 (by decide) hg
            replace mp := MineP.grownB mp q4 (by decide) hg
            clear hg q4; have q4 := qn; clear qn
            refine hK.out _ _ (fun _ => (And.intro q qh)) ?_
            clear hK K
            (try simp only [Act.put, rA, rB, rC, rD, rE, rF])
            refine wpAnyG_done (by kernel_rfl) ?_ _
            exact ⟨rfl, _, _, _, _, _, _, _, _, _, _, _, rfl, q3, q4, q, mm.base_le (Nat.zero_le _), MineP.base_le mp (Nat.zero_le _), b0.out⟩
          · rw [if_pos (by rfl)]
            go_simp
            obtain ⟨gz, ez, q4, l4, hz⟩ := Bel.newE b0 34 #[.bool false, .int .i64 0, .int .u32 0]
            have n4 := hz _ _ _ q
            have nh4 := hz _ _ _ qh
            clear hz
            (try simp only [World.size_alloc] at ez)
            subst ez
            replace b0 := b0.alloc (.cells #[.bool false, .int .i64 0, .int .u32 0] 34)
            replace q := q.alloc (.cells #[.bool false, .int .i64 0, .int .u32 0] 34)
            replace qh := qh.alloc (.cells #[.bool false, .int .i64 0, .int .u32 0] 34)
            replace k2 := k2.alloc (.cells #[.bool false, .int .i64 0, .int .u32 0] 34)
            replace mm := mm.alloc (.cells #[.bool false, .int .i64 0, .int .u32 0] 34)
            replace mp := mp.alloc (.cells #[.bool false, .int .i64 0, .int .u32 0] 34)
            (try go_simp)
            refine hK.out _ _ (fun _ => (And.intro q qh)) ?_
            clear hK K
            (try simp only [Act.put, rA, rB, rC, rD, rE, rF])
            refine wpAnyG_one 7 (by kernel_rfl) rfl (fun K hK => ?_)
            rw [if_pos (by rfl)]
            go_simp
            obtain ⟨gz, ez, q3, l3, hz⟩ := Bel.newE b0 30 zF
            have n3 := hz _ _ _ q
            have nh3 := hz _ _ _ qh
            clear hz
            (try simp only [World.size_alloc] at ez)
            subst ez
            replace b0 := b0.alloc (.cells zF 30)
            replace q := q.alloc (.cells zF 30)
            replace qh := qh.alloc (.cells zF 30)
            replace q4 := q4.alloc (.cells zF 30)
            replace k2 := k2.alloc (.cells zF 30)
            replace mm := mm.alloc (.cells zF 30)
            replace mp := mp.alloc (.cells zF 30)
            (try go_simp)
            refine hK.out _ _ (fun _ => (And.intro q qh)) ?_
            clear hK K
            (try simp only [Act.put, rA, rB, rC, rD, rE, rF])
            refine wpAnyG_one 9 (by kernel_rfl) rfl (fun K hK => ?_)
            rw [if_pos (by rfl)]
            refine wp_putB (cells := #[.int .u8 (r1).kd, .int .u8 (r1).fl, .int .i64 (r1).st, .slice B m d, .int .i64 (r1).pd, .int .i64 (r1).la, .int .i64 (r1).ic, .int .u32 (r1).cd, .slice Q qn qc, .bool (r1).rk, .bool (r1).al, .int .i64 (r1).dp, .int .u8 (r1).wt]) _ _ _ rfl rfl rfl q3 (by rfl) (by rfl) (by rfl) ?_
            intro w9 qn hg
            replace b0 := b0.grown hg l3
            replace q := q.grown hg n3
            replace qh := qh.grown hg nh3
            replace q4 := q4.grown hg (q4.ne q3 (by decide))
            replace mm := mm.grownB q3 (by decide) hg
            replace mp := MineP.grownB mp q3 (by decide) hg
            clear hg q3; have q3 := qn; clear qn
            refine hK.out _ _ (fun _ => (And.intro q qh)) ?_
            clear hK K
            (try simp only [Act.put, rA, rB, rC, rD, rE, rF])
            refine wpAnyG_one 10 (by kernel_rfl) rfl (fun K hK => ?_)
            rw [if_pos (by rfl)]
            refine wp_putB (cells := #[.bool xw, .int .i64 xs, .int .u32 xc]) _ _ _ rfl rfl rfl q4 (by rfl) (by rfl) (by rfl) ?_
            intro w9 qn hg
            replace b0 := b0.grown hg l4
            replace q := q.grown hg n4
            replace qh := qh.grown hg nh4
            replace q3 := q3.grown hg (q3.ne q4 (by decide))
            replace mm := mm.grownB q4 (by decide) hg
            replace mp := MineP.grownB mp q4 (by decide) hg
            clear hg q4; have q4 := qn; clear qn
            refine hK.out _ _ (fun _ => (And.intro q qh)) ?_
            clear hK K
            (try simp only [Act.put, rA, rB, rC, rD, rE, rF])
            refine wpAnyG_done (by kernel_rfl) ?_ _
            exact ⟨rfl, _, _, _, _, _, _, _, _, _, _, _, rfl, q3, q4, q, mm.base_le (Nat.zero_le _), MineP.base_le mp (Nat.zero_le _), b0.out⟩
        · rw [if_pos (by rfl)]
          go_simp
          obtain ⟨gz, ez, q3, l3, hz⟩ := Bel.newE b0 30 zF
          have n3 := hz _ _ _ q
          have nh3 := hz _ _ _ qh
          clear hz
          (try simp only [World.size_alloc] at ez)
          subst ez
          replace b0 := b0.alloc (.cells zF 30)
          replace q := q.alloc (.cells zF 30)
          replace qh := qh.alloc (.cells zF 30)
          replace k2 := k2.alloc (.cells zF 30)
          (try go_simp)
          refine hK.out _ _ (fun _ => (And.intro q qh)) ?_
          clear hK K
          (try simp only [Act.put, rA, rB, rC, rD, rE, rF])
          refine wpAnyG_two 3 8 (by kernel_rfl) rfl rfl (fun K hK => ?_) (fun K hK => ?_)
          · rw [if_pos (by rfl)]
            go_simp
            (with_reducible refine (PA.out A2 n2 c2 _ k2.byt (by have := k2.len; have := hl.out; omega)).mono ?_)
            rintro e w9 ⟨B, m, d, Q, qn, qc, rfl, mm, mp, hb⟩
            replace b0 := b0.below hb
            replace q := q.below hb
            replace qh := qh.below hb
            replace q3 := q3.below hb
            replace k2 := k2.below hb
            clear hb
            (try go_simp)
            refine hK.out _ _ (fun _ => (And.intro q qh)) ?_
            clear hK K
            (try simp only [Act.put, rA, rB, rC, rD, rE, rF])
            have S0 := (And.intro q qh)
            refine wpAnyG_take 4 (v := ?_) rfl (by kernel_rfl) (fun _ _ _ h => by cases h.1) S0 (Or.inl ⟨by rfl, by intro w' hSw; go_simp; try with_reducible rfl⟩) ?_; (try simp only [Act.put, rA, rB, rC, rD, rE, rF])
            refine wpAnyG_take 5 (v := ?_) rfl (by kernel_rfl) (fun _ _ _ h => by cases h.1) S0 (Or.inl ⟨by rfl, by intro w' hSw; go_simp; try with_reducible rfl⟩) ?_; (try simp only [Act.put, rA, rB, rC, rD, rE, rF])
            refine wpAnyG_take 6 (v := ?_) rfl (by kernel_rfl) (fun _ _ _ h => by cases h.1) S0 (Or.inl ⟨by rfl, by intro w' hSw; go_simp; try with_reducible rfl⟩) ?_; (try simp only [Act.put, rA, rB, rC, rD, rE, rF])
            clear S0
            refine wpAnyG_one 8 (by kernel_rfl) rfl (fun K hK => ?_)
            rw [if_pos (by rfl)]
            go_simp
            obtain ⟨gz, ez, q4, l4, hz⟩ := Bel.newE b0 34 #[.bool false, .int .i64 0, .int .u32 0]
            have n4 := hz _ _ _ q
            have nh4 := hz _ _ _ qh
            clear hz
            (try simp only [World.size_alloc] at ez)
            subst ez
            replace b0 := b0.alloc (.cells #[.bool false, .int .i64 0, .int .u32 0] 34)
            replace q := q.alloc (.cells #[.bool false, .int .i64 0, .int .u32 0] 34)
            replace qh := qh.alloc (.cells #[.bool false, .int .i64 0, .int .u32 0] 34)
            replace q3 := q3.alloc (.cells #[.bool false, .int .i64 0, .int .u32 0] 34)
            replace k2 := k2.alloc (.cells #[.bool false, .int .i64 0, .int .u32 0] 34)
            replace mm := mm.alloc (.cells #[.bool false, .int .i64 0, .int .u32 0] 34)
            replace mp := mp.alloc (.cells #[.bool false, .int .i64 0, .int .u32 0] 34)
            (try go_simp)
            refine hK.out _ _ (fun _ => (And.intro q qh)) ?_
            clear hK K
            (try simp only [Act.put, rA, rB, rC, rD, rE, rF])
            refine wpAnyG_one 9 (by kernel_rfl) rfl (fun K hK => ?_)
            rw [if_pos (by rfl)]
            refine wp_putB (cells := #[.int .u8 (r1).kd, .int .u8 (r1).fl, .int .i64 (r1).st, .slice B m d, .int .i64 (r1).pd, .int .i64 (r1).la, .int .i64 (r1).ic, .int .u32 (r1).cd, .slice Q qn qc, .bool (r1).rk, .bool (r1).al, .int .i64 (r1).dp, .int .u8 (r1).wt]) _ _ _ rfl rfl rfl q3 (by rfl) (by rfl) (by rfl) ?_
            intro w9 qn hg
            replace b0 := b0.grown hg l3
            replace q := q.grown hg n3
            replace qh := qh.grown hg nh3
            replace q4 := q4.grown hg (q4.ne q3 (by decide))
            replace mm := mm.grownB q3 (by decide) hg
            replace mp := MineP.grownB mp q3 (by decide) hg
            clear hg q3; have q3 := qn; clear qn
            refine hK.out _ _ (fun _ => (And.intro q qh)) ?_
            clear hK K
            (try simp only [Act.put, rA, rB, rC, rD, rE, rF])
            refine wpAnyG_one 10 (by kernel_rfl) rfl (fun K hK => ?_)
            rw [if_pos (by rfl)]
            refine wp_putB (cells := #[.bool xw, .int .i64 xs, .int .u32 xc]) _ _ _ rfl rfl rfl q4 (by rfl) (by rfl) (by rfl) ?_
            intro w9 qn hg
            replace b0 := b0.grown hg l4
            replace q := q.grown hg n4
            replace qh := qh.grown hg nh4
            replace q3 := q3.grown hg (q3.ne q4 (by decide))
            replace mm := mm.grownB q4 (by decide) hg
            replace mp := MineP.grownB mp q4 (by decide) hg
            clear hg q4; have q4 := qn; clear qn
            refine hK.out _ _ (fun _ => (And.intro q qh)) ?_
            clear hK K
            (try simp only [Act.put, rA, rB, rC, rD, rE, rF])
            refine wpAnyG_done (by kernel_rfl) ?_ _
            exact ⟨rfl, _, _, _, _, _, _, _, _, _, _, _, rfl, q3, q4, q, mm.base_le (Nat.zero_le _), MineP.base_le mp (Nat.zero_le _), b0.out⟩
          · rw [if_pos (by rfl)]
            go_simp
            obtain ⟨gz, ez, q4, l4, hz⟩ := Bel.newE b0 34 #[.bool false, .int .i64 0, .int .u32 0]
            have n4 := hz _ _ _ q
            have nh4 := hz _ _ _ qh
            clear hz
            (try simp only [World.size_alloc] at ez)
            subst ez
            replace b0 := b0.alloc (.cells #[.bool false, .int .i64 0, .int .u32 0] 34)
            replace q := q.alloc (.cells #[.bool false, .int .i64 0, .int .u32 0] 34)
            replace qh := qh.alloc (.cells #[.bool false, .int .i64 0, .int .u32 0] 34)
            replace q3 := q3.alloc (.cells #[.bool false, .int .i64 0, .int .u32 0] 34)
            replace k2 := k2.alloc (.cells #[.bool false, .int .i64 0, .int .u32 0] 34)
            (try go_simp)
            refine hK.out _ _ (fun _ => (And.intro q qh)) ?_
            clear hK K
            (try simp only [Act.put, rA, rB, rC, rD, rE, rF])
            refine wpAnyG_one 3 (by kernel_rfl) rfl (fun K hK => ?_)
            rw [if_pos (by rfl)]
            go_simp
            (with_reducible refine (PA.out A2 n2 c2 _ k2.byt (by have := k2.len; have := hl.out; omega)).mono ?_)
            rintro e w9 ⟨B, m, d, Q, qn, qc, rfl, mm, mp, hb⟩
            replace b0 := b0.below hb
            replace q := q.below hb
            replace qh := qh.below hb
            replace q3 := q3.below hb
            replace q4 := q4.below hb
            replace k2 := k2.below hb
            clear hb
            (try go_simp)
            refine hK.out _ _ (fun _ => (And.intro q qh)) ?_
            clear hK K
            (try simp only [Act.put, rA, rB, rC, rD, rE, rF])
            have S0 := (And.intro q qh)
            refine wpAnyG_take 4 (v := ?_) rfl (by kernel_rfl) (fun _ _ _ h => by cases h.1) S0 (Or.inl ⟨by rfl, by intro w' hSw; go_simp; try with_reducible rfl⟩) ?_; (try simp only [Act.put, rA, rB, rC, rD, rE, rF])
            refine wpAnyG_take 5 (v := ?_) rfl (by kernel_rfl) (fun _ _ _ h => by cases h.1) S0 (Or.inl ⟨by rfl, by intro w' hSw; go_simp; try with_reducible rfl⟩) ?_; (try simp only [Act.put, rA, rB, rC, rD, rE, rF])
            refine wpAnyG_take 6 (v := ?_) rfl (by kernel_rfl) (fun _ _ _ h => by cases h.1) S0 (Or.inl ⟨by rfl, by intro w' hSw; go_simp; try with_reducible rfl⟩) ?_; (try simp only [Act.put, rA, rB, rC, rD, rE, rF])
            clear S0
            refine wpAnyG_one 9 (by kernel_rfl) rfl (fun K hK => ?_)
            rw [if_pos (by rfl)]
            refine wp_putB (cells := #[.int .u8 (r1).kd, .int .u8 (r1).fl, .int .i64 (r1).st, .slice B m d, .int .i64 (r1).pd, .int .i64 (r1).la, .int .i64 (r1).ic, .int .u32 (r1).cd, .slice Q qn qc, .bool (r1).rk, .bool (r1).al, .int .i64 (r1).dp, .int .u8 (r1).wt]) _ _ _ rfl rfl rfl q3 (by rfl) (by rfl) (by rfl) ?_
            intro w9 qn hg
            replace b0 := b0.grown hg l3
            replace q := q.grown hg n3
            replace qh := qh.grown hg nh3
            replace q4 := q4.grown hg (q4.ne q3 (by decide))
            replace mm := mm.grownB q3 (by decide) hg
            replace mp := MineP.grownB mp q3 (by decide) hg
            clear hg q3; have q3 := qn; clear qn
            refine hK.out _ _ (fun _ => (And.intro q qh)) ?_
            clear hK K
            (try simp only [Act.put, rA, rB, rC, rD, rE, rF])
            refine wpAnyG_one 10 (by kernel_rfl) rfl (fun K hK => ?_)
            rw [if_pos (by rfl)]
            refine wp_putB (cells := #[.bool xw, .int .i64 xs, .int .u32 xc]) _ _ _ rfl rfl rfl q4 (by rfl) (by rfl) (by rfl) ?_
            intro w9 qn hg
            replace b0 := b0.grown hg l4
            replace q := q.grown hg n4
            replace qh := qh.grown hg nh4
            replace q3 := q3.grown hg (q3.ne q4 (by decide))
            replace mm := mm.grownB q4 (by decide) hg
            replace mp := MineP.grownB mp q4 (by decide) hg
            clear hg q4; have q4 := qn; clear qn
            refine hK.out _ _ (fun _ => (And.intro q qh)) ?_
            clear hK K
            (try simp only [Act.put, rA, rB, rC, rD, rE, rF])
            refine wpAnyG_done (by kernel_rfl) ?_ _
            exact ⟨rfl, _, _, _, _, _, _, _, _, _, _, _, rfl, q3, q4, q, mm.base_le (Nat.zero_le _), MineP.base_le mp (Nat.zero_le _), b0.out⟩
        · rw [if_pos (by rfl)]
          go_simp
          obtain ⟨gz, ez, q4, l4, hz⟩ := Bel.newE b0 34 #[.bool false, .int .i64 0, .int .u32 0]
          have n4 := hz _ _ _ q
          have nh4 := hz _ _ _ qh
          clear hz
          (try simp only [World.size_alloc] at ez)
          subst ez
          replace b0 := b0.alloc (.cells #[.bool false, .int .i64 0, .int .u32 0] 34)
          replace q := q.alloc (.cells #[.bool false, .int .i64 0, .int .u32 0] 34)
          replace qh := qh.alloc (.cells #[.bool false, .int .i64 0, .int .u32 0] 34)
          replace k2 := k2.alloc (.cells #[.bool false, .int .i64 0, .int .u32 0] 34)
          (try go_simp)
          refine hK.out _ _ (fun _ => (And.intro q qh)) ?_
          clear hK K
          (try simp only [Act.put, rA, rB, rC, rD, rE, rF])
          refine wpAnyG_two 3 7 (by kernel_rfl) rfl rfl (fun K hK => ?_) (fun K hK => ?_)
          · rw [if_pos (by rfl)]
            go_simp
            (with_reducible refine (PA.out A2 n2 c2 _ k2.byt (by have := k2.len; have := hl.out; omega)).mono ?_)
            rintro e w9 ⟨B, m, d, Q, qn, qc, rfl, mm, mp, hb⟩
            replace b0 := b0.below hb
            replace q := q.below hb
            replace qh := qh.below hb
            replace q4 := q4.below hb
            replace k2 := k2.below hb
            clear hb
            (try go_simp)
            refine hK.out _ _ (fun _ => (And.intro q qh)) ?_
            clear hK K
            (try simp only [Act.put, rA, rB, rC, rD, rE, rF])
            have S0 := (And.intro q qh)
            refine wpAnyG_take 4 (v := ?_) rfl (by kernel_rfl) (fun _ _ _ h => by cases h.1) S0 (Or.inl ⟨by rfl, by intro w' hSw; go_simp; try with_reducible rfl⟩) ?_; (try simp only [Act.put, rA, rB, rC, rD, rE, rF])
            refine wpAnyG_take 5 (v := ?_) rfl (by kernel_rfl) (fun _ _ _ h => by cases h.1) S0 (Or.inl ⟨by rfl, by intro w' hSw; go_simp; try with_reducible rfl⟩) ?_; (try simp only [Act.put, rA, rB, rC, rD, rE, rF])
            refine wpAnyG_take 6 (v := ?_) rfl (by kernel_rfl) (fun _ _ _ h => by cases h.1) S0 (Or.inl ⟨by rfl, by intro w' hSw; go_simp; try with_reducible rfl⟩) ?_; (try simp only [Act.put, rA, rB, rC, rD, rE, rF])
            clear S0
            refine wpAnyG_one 7 (by kernel_rfl) rfl (fun K hK => ?_)
            rw [if_pos (by rfl)]
            go_simp
            obtain ⟨gz, ez, q3, l3, hz⟩ := Bel.newE b0 30 zF
            have n3 := hz _ _ _ q
            have nh3 := hz _ _ _ qh
            clear hz
            (try simp only [World.size_alloc] at ez)
            subst ez
            replace b0 := b0.alloc (.cells zF 30)
            replace q := q.alloc (.cells zF 30)
            replace qh := qh.alloc (.cells zF 30)
            replace q4 := q4.alloc (.cells zF 30)
            replace k2 := k2.alloc (.cells zF 30)
            replace mm := mm.alloc (.cells zF 30)
            replace mp := mp.alloc (.cells zF 30)
            (try go_simp)
            refine hK.out _ _ (fun _ => (And.intro q qh)) ?_
            clear hK K
            (try simp only [Act.put, rA, rB, rC, rD, rE, rF])
            refine wpAnyG_one 9 (by kernel_rfl) rfl (fun K hK => ?_)
            rw [if_pos (by rfl)]
            refine wp_putB (cells := #[.int .u8 (r1).kd, .int .u8 (r1).fl, .int .i64 (r1).st, .slice B m d, .int .i64 (r1).pd, .int .i64 (r1).la, .int .i64 (r1).ic, .int .u32 (r1).cd, .slice Q qn qc, .bool (r1).rk, .bool (r1).al, .int .i64 (r1).dp, .int .u8 (r1).wt]) _ _ _ rfl rfl rfl q3 (by rfl) (by rfl) (by rfl) ?_
            intro w9 qn hg
            replace b0 := b0.grown hg l3
            replace q := q.grown hg n3
            replace qh := qh.grown hg nh3
            replace q4 := q4.grown hg (q4.ne q3 (by decide))
            replace mm := mm.grownB q3 (by decide) hg
            replace mp := MineP.grownB mp q3 (by decide) hg
            clear hg q3; have q3 := qn; clear qn
            refine hK.out _ _ (fun _ => (And.intro q qh)) ?_
            clear hK K
            (try simp only [Act.put, rA, rB, rC, rD, rE, rF])
            refine wpAnyG_one 10 (by kernel_rfl) rfl (fun K hK => ?_)
            rw [if_pos (by rfl)]
            refine wp_putB (cells := #[.bool xw, .int .i64 xs, .int .u32 xc]) _ _ _ rfl rfl rfl q4 (by rfl) (by rfl) (by rfl) ?_
            intro w9 qn hg
            replace b0 := b0.grown hg l4
            replace q := q.grown hg n4
            replace qh := qh.grown hg nh4
            replace q3 := q3.grown hg (q3.ne q4 (by decide))
            replace mm := mm.grownB q4 (by decide) hg
            replace mp := MineP.grownB mp q4 (by decide) hg
            clear hg q4; have q4 := qn; clear qn
            refine hK.out _ _ (fun _ => (And.intro q qh)) ?_
            clear hK K
            (try simp only [Act.put, rA, rB, rC, rD, rE, rF])
            refine wpAnyG_done (by kernel_rfl) ?_ _
            exact ⟨rfl, _, _, _, _, _, _, _, _, _, _, _, rfl, q3, q4, q, mm.base_le (Nat.zero_le _), MineP.base_le mp (Nat.zero_le _), b0.out⟩
          · rw [if_pos (by rfl)]
            go_simp
            obtain ⟨gz, ez, q3, l3, hz⟩ := Bel.newE b0 30 zF
            have n3 := hz _ _ _ q
            have nh3 := hz _ _ _ qh
            clear hz
            (try simp only [World.size_alloc] at ez)
            subst ez
            replace b0 := b0.alloc (.cells zF 30)
            replace q := q.alloc (.cells zF 30)
            replace qh := qh.alloc (.cells zF 30)
            replace q4 := q4.alloc (.cells zF 30)
            replace k2 := k2.alloc (.cells zF 30)
            (try go_simp)
            refine hK.out _ _ (fun _ => (And.intro q qh)) ?_
            clear hK K
            (try simp only [Act.put, rA, rB, rC, rD, rE, rF])
            refine wpAnyG_one 3 (by kernel_rfl) rfl (fun K hK => ?_)
            rw [if_pos (by rfl)]
            go_simp
            (with_reducible refine (PA.out A2 n2 c2 _ k2.byt (by have := k2.len; have := hl.out; omega)).mono ?_)
            rintro e w9 ⟨B, m, d, Q, qn, qc, rfl, mm, mp, hb⟩
            replace b0 := b0.below hb
            replace q := q.below hb
            replace qh := qh.below hb
            replace q3 := q3.below hb
            replace q4 := q4.below hb
            replace k2 := k2.below hb
            clear hb
            (try go_simp)
            refine hK.out _ _ (fun _ => (And.intro q qh)) ?_
            clear hK K
            (try simp only [Act.put, rA, rB, rC, rD, rE, rF])
            have S0 := (And.intro q qh)
            refine wpAnyG_take 4 (v := ?_) rfl (by kernel_rfl) (fun _ _ _ h => by cases h.1) S0 (Or.inl ⟨by rfl, by intro w' hSw; go_simp; try with_reducible rfl⟩) ?_; (try simp only [Act.put, rA, rB, rC, rD, rE, rF])
            refine wpAnyG_take 5 (v := ?_) rfl (by kernel_rfl) (fun _ _ _ h => by cases h.1) S0 (Or.inl ⟨by rfl, by intro w' hSw; go_simp; try with_reducible rfl⟩) ?_; (try simp only [Act.put, rA, rB, rC, rD, rE, rF])
            refine wpAnyG_take 6 (v := ?_) rfl (by kernel_rfl) (fun _ _ _ h => by cases h.1) S0 (Or.inl ⟨by rfl, by intro w' hSw; go_simp; try with_reducible rfl⟩) ?_; (try simp only [Act.put, rA, rB, rC, rD, rE, rF])
            clear S0
            refine wpAnyG_one 9 (by kernel_rfl) rfl (fun K hK => ?_)
            rw [if_pos (by rfl)]
            refine wp_putB (cells := #[.int .u8 (r1).kd, .int .u8 (r1).fl, .int .i64 (r1).st, .slice B m d, .int .i64 (r1).pd, .int .i64 (r1).la, .int .i64 (r1).ic, .int .u32 (r1).cd, .slice Q qn qc, .bool (r1).rk, .bool (r1).al, .int .i64 (r1).dp, .int .u8 (r1).wt]) _ _ _ rfl rfl rfl q3 (by rfl) (by rfl) (by rfl) ?_
            intro w9 qn hg
            replace b0 := b0.grown hg l3
            replace q := q.grown hg n3
            replace qh := qh.grown hg nh3
            replace q4 := q4.grown hg (q4.ne q3 (by decide))
            replace mm := mm.grownB q3 (by decide) hg
            replace mp := MineP.grownB mp q3 (by decide) hg
            clear hg q3; have q3 := qn; clear qn
            refine hK.out _ _ (fun _ => (And.intro q qh)) ?_
            clear hK K
            (try simp only [Act.put, rA, rB, rC, rD, rE, rF])
            refine wpAnyG_one 10 (by kernel_rfl) rfl (fun K hK => ?_)
            rw [if_pos (by rfl)]
            refine wp_putB (cells := #[.bool xw, .int .i64 xs, .int .u32 xc]) _ _ _ rfl rfl rfl q4 (by rfl) (by rfl) (by rfl) ?_
            intro w9 qn hg
            replace b0 := b0.grown hg l4
            replace q := q.grown hg n4
            replace qh := qh.grown hg nh4
            replace q3 := q3.grown hg (q3.ne q4 (by decide))
            replace mm := mm.grownB q4 (by decide) hg
            replace mp := MineP.grownB mp q4 (by decide) hg
            clear hg q4; have q4 := qn; clear qn
            refine hK.out _ _ (fun _ => (And.intro q qh)) ?_
            clear hK K
            (try simp only [Act.put, rA, rB, rC, rD, rE, rF])
            refine wpAnyG_done (by kernel_rfl) ?_ _
            exact ⟨rfl, _, _, _, _, _, _, _, _, _, _, _, rfl, q3, q4, q, mm.base_le (Nat.zero_le _), MineP.base_le mp (Nat.zero_le _), b0.out⟩
      · rw [if_pos (by rfl)]
        go_simp
        obtain ⟨gz, ez, q3, l3, hz⟩ := Bel.newE b0 30 zF
        have n3 := hz _ _ _ q
        have nh3 := hz _ _ _ qh
        clear hz
        (try simp only [World.size_alloc] at ez)
        subst ez
        replace b0 := b0.alloc (.cells zF 30)
        replace q := q.alloc (.cells zF 30)
        replace qh := qh.alloc (.cells zF 30)
        (try go_simp)
        refine hK.out _ _ (fun _ => (And.intro q qh)) ?_
        clear hK K
        (try simp only [Act.put, rA, rB, rC, rD, rE, rF])
        refine wpAnyG_two 2 8 (by kernel_rfl) rfl rfl (fun K hK => ?_) (fun K hK => ?_)
        · rw [if_pos (by rfl)]
          go_simp
          (with_reducible refine (PT.out _ (H0.out.below b0.out) (P0.out.below b0.out)).mono ?_)
          rintro e w9 ⟨A2, n2, c2, rfl, k2, hb⟩
          replace b0 := b0.below hb
          replace q := q.below hb
          replace qh := qh.below hb
          replace q3 := q3.below hb
          clear hb
          (try go_simp)
          refine hK.out _ _ (fun _ => (And.intro q qh)) ?_
          clear hK K
          (try simp only [Act.put, rA, rB, rC, rD, rE, rF])
          refine wpAnyG_two 3 8 (by kernel_rfl) rfl rfl (fun K hK => ?_) (fun K hK => ?_)
          · rw [if_pos (by rfl)]
            go_simp
            (with_reducible refine (PA.out A2 n2 c2 _ k2.byt (by have := k2.len; have := hl.out; omega)).mono ?_)
            rintro e w9 ⟨B, m, d, Q, qn, qc, rfl, mm, mp, hb⟩
            replace b0 := b0.below hb
            replace q := q.below hb
            replace qh := qh.below hb
            replace q3 := q3.below hb
            replace k2 := k2.below hb
            clear hb
            (try go_simp)
            refine hK.out _ _ (fun _ => (And.intro q qh)) ?_
            clear hK K
            (try simp only [Act.put, rA, rB, rC, rD, rE, rF])
            have S0 := (And.intro q qh)
            refine wpAnyG_take 4 (v := ?_) rfl (by kernel_rfl) (fun _ _ _ h => by cases h.1) S0 (Or.inl ⟨by rfl, by intro w' hSw; go_simp; try with_reducible rfl⟩) ?_; (try simp only [Act.put, rA, rB, rC, rD, rE, rF])
            refine wpAnyG_take 5 (v := ?_) rfl (by kernel_rfl) (fun _ _ _ h => by cases h.1) S0 (Or.inl ⟨by rfl, by intro w' hSw; go_simp; try with_reducible rfl⟩) ?_; (try simp only [Act.put, rA, rB, rC, rD, rE, rF])
            refine wpAnyG_take 6 (v := ?_) rfl (by kernel_rfl) (fun _ _ _ h => by cases h.1) S0 (Or.inl ⟨by rfl, by intro w' hSw; go_simp; try with_reducible rfl⟩) ?_; (try simp only [Act.put, rA, rB, rC, rD, rE, rF])
            clear S0
            refine wpAnyG_one 8 (by kernel_rfl) rfl (fun K hK => ?_)
            rw [if_pos (by rfl)]
            go_simp
            obtain ⟨gz, ez, q4, l4, hz⟩ := Bel.newE b0 34 #[.bool false, .int .i64 0, .int .u32 0]
            have n4 := hz _ _ _ q
            have nh4 := hz _ _ _ qh
            clear hz
            (try simp only [World.size_alloc] at ez)
            subst ez
            replace b0 := b0.alloc (.cells #[.bool false, .int .i64 0, .int .u32 0] 34)
            replace q := q.alloc (.cells #[.bool false, .int .i64 0, .int .u32 0] 34)
            replace qh := qh.alloc (.cells #[.bool false, .int .i64 0, .int .u32 0] 34)
            replace q3 := q3.alloc (.cells #[.bool false, .int .i64 0, .int .u32 0] 34)
            replace k2 := k2.alloc (.cells #[.bool false, .int .i64 0, .int .u32 0] 34)
            replace mm := mm.alloc (.cells #[.bool false, .int .i64 0, .int .u32 0] 34)
            replace mp := mp.alloc (.cells #[.bool false, .int .i64 0, .int .u32 0] 34)
            (try go_simp)
            refine hK.out _ _ (fun _ => (And.intro q qh)) ?_
            clear hK K
            (try simp only [Act.put, rA, rB, rC, rD, rE, rF])
            refine wpAnyG_one 9 (by kernel_rfl) rfl (fun K hK => ?_)
            rw [if_pos (by rfl)]
            refine wp_putB (cells := #[.int .u8 (r1).kd, .int .u8 (r1).fl, .int .i64 (r1).st, .slice B m d, .int .i64 (r1).pd, .int .i64 (r1).la, .int .i64 (r1).ic, .int .u32 (r1).cd, .slice Q qn qc, .bool (r1).rk, .bool (r1).al, .int .i64 (r1).dp, .int .u8 (r1).wt]) _ _ _ rfl rfl rfl q3 (by rfl) (by rfl) (by rfl) ?_
            intro w9 qn hg
            replace b0 := b0.grown hg l3
            replace q := q.grown hg n3
            replace qh := qh.grown hg nh3
            replace q4 := q4.grown hg (q4.ne q3 (by decide))
            replace mm := mm.grownB q3 (by decide) hg
            replace mp := MineP.grownB mp q3 (by decide) hg
            clear hg q3; have q3 := qn; clear qn
            refine hK.out _ _ (fun _ => (And.intro q qh)) ?_
            clear hK K
            (try simp only [Act.put, rA, rB, rC, rD, rE, rF])
            refine wpAnyG_one 10 (by kernel_rfl) rfl (fun K hK => ?_)
            rw [if_pos (by rfl)]
            refine wp_putB (cells := #[.bool xw, .int .i64 xs, .int .u32 xc]) _ _ _ rfl rfl rfl q4 (by rfl) (by rfl) (by rfl) ?_
            intro w9 qn hg
            replace b0 := b0.grown hg l4
            replace q := q.grown hg n4
            replace qh := qh.grown hg nh4
            replace q3 := q3.grown hg (q3.ne q4 (by decide))
            replace mm := mm.grownB q4 (by decide) hg
            replace mp := MineP.grownB mp q4 (by decide) hg
            clear hg q4; have q4 := qn; clear qn
            refine hK.out _ _ (fun _ => (And.intro q qh)) ?_
            clear hK K
            (try simp only [Act.put, rA, rB, rC, rD, rE, rF])
            refine wpAnyG_done (by kernel_rfl) ?_ _
            exact ⟨rfl, _, _, _, _, _, _, _, _, _, _, _, rfl, q3, q4, q, mm.base_le (Nat.zero_le _), MineP.base_le mp (Nat.zero_le _), b0.out⟩
          · rw [if_pos (by rfl)]
            go_simp
            obtain ⟨gz, ez, q4, l4, hz⟩ := Bel.newE b0 34 #[.bool false, .int .i64 0, .int .u32 0]
            have n4 := hz _ _ _ q
            have nh4 := hz _ _ _ qh
            clear hz
            (try simp only [World.size_alloc] at ez)
            subst ez
            replace b0 := b0.alloc (.cells #[.bool false, .int .i64 0, .int .u32 0] 34)
            replace q := q.alloc (.cells #[.bool false, .int .i64 0, .int .u32 0] 34)
            replace qh := qh.alloc (.cells #[.bool false, .int .i64 0, .int .u32 0] 34)
            replace q3 := q3.alloc (.cells #[.bool false, .int .i64 0, .int .u32 0] 34)
            replace k2 := k2.alloc (.cells #[.bool false, .int .i64 0, .int .u32 0] 34)
            (try go_simp)
            refine hK.out _ _ (fun _ => (And.intro q qh)) ?_
            clear hK K
            (try simp only [Act.put, rA, rB, rC, rD, rE, rF])
            refine wpAnyG_one 3 (by kernel_rfl) rfl (fun K hK => ?_)
            rw [if_pos (by rfl)]
            go_simp
            (with_reducible refine (PA.out A2 n2 c2 _ k2.byt (by have := k2.len; have := hl.out; omega)).mono ?_)
            rintro e w9 ⟨B, m, d, Q, qn, qc, rfl, mm, mp, hb⟩
            replace b0 := b0.below hb
            replace q := q.below hb
            replace qh := qh.below hb
            replace q3 := q3.below hb
            replace q4 := q4.below hb
            replace k2 := k2.below hb
            clear hb
            (try go_simp)
            refine hK.out _ _ (fun _ => (And.intro q qh)) ?_
            clear hK K
            (try simp only [Act.put, rA, rB, rC, rD, rE, rF])
            have S0 := (And.intro q qh)
            refine wpAnyG_take 4 (v := ?_) rfl (by kernel_rfl) (fun _ _ _ h => by cases h.1) S0 (Or.inl ⟨by rfl, by intro w' hSw; go_simp; try with_reducible rfl⟩) ?_; (try simp only [Act.put, rA, rB, rC, rD, rE, rF])
            refine wpAnyG_take 5 (v := ?_) rfl (by kernel_rfl) (fun _ _ _ h => by cases h.1) S0 (Or.inl ⟨by rfl, by intro w' hSw; go_simp; try with_reducible rfl⟩) ?_; (try simp only [Act.put, rA, rB, rC, rD, rE, rF])
            refine wpAnyG_take 6 (v := ?_) rfl (by kernel_rfl) (fun _ _ _ h => by cases h.1) S0 (Or.inl ⟨by rfl, by intro w' hSw; go_simp; try with_reducible rfl⟩) ?_; (try simp only [Act.put, rA, rB, rC, rD, rE, rF])
            clear S0
            refine wpAnyG_one 9 (by kernel_rfl) rfl (fun K hK => ?_)
            rw [if_pos (by rfl)]
            refine wp_putB (cells := #[.int .u8 (r1).kd, .int .u8 (r1).fl, .int .i64 (r1).st, .slice B m d, .int .i64 (r1).pd, .int .i64 (r1).la, .int .i64 (r1).ic, .int .u32 (r1).cd, .slice Q qn qc, .bool (r1).rk, .bool (r1).al, .int .i64 (r1).dp, .int .u8 (r1).wt]) _ _ _ rfl rfl rfl q3 (by rfl) (by rfl) (by rfl) ?_
            intro w9 qn hg
            replace b0 := b0.grown hg l3
            replace q := q.grown hg n3
            replace qh := qh.grown hg nh3
            replace q4 := q4.grown hg (q4.ne q3 (by decide))
            replace mm := mm.grownB q3 (by decide) hg
            replace mp := MineP.grownB mp q3 (by decide) hg
            clear hg q3; have q3 := qn; clear qn
            refine hK.out _ _ (fun _ => (And.intro q qh)) ?_
            clear hK K
            (try simp only [Act.put, rA, rB, rC, rD, rE, rF])
            refine wpAnyG_one 10 (by kernel_rfl) rfl (fun K hK => ?_)
            rw [if_pos (by rfl)]
            refine wp_putB (cells := #[.bool xw, .int .i64 xs, .int .u32 xc]) _ _ _ rfl rfl rfl q4 (by rfl) (by rfl) (by rfl) ?_
            intro w9 qn hg
            replace b0 := b0.grown hg l4
            replace q := q.grown hg n4
            replace qh := qh.grown hg nh4
            replace q3 := q3.grown hg (q3.ne q4 (by decide))
            replace mm := mm.grownB q4 (by decide) hg
            replace mp := MineP.grownB mp q4 (by decide) hg
            clear hg q4; have q4 := qn; clear qn
            refine hK.out _ _ (fun _ => (And.intro q qh)) ?_
            clear hK K
            (try simp only [Act.put, rA, rB, rC, rD, rE, rF])
            refine wpAnyG_done (by kernel_rfl) ?_ _
            exact ⟨rfl, _, _, _, _, _, _, _, _, _, _, _, rfl, q3, q4, q, mm.base_le (Nat.zero_le _), MineP.base_le mp (Nat.zero_le _), b0.out⟩
        · rw [if_pos (by rfl)]
          go_simp
          obtain ⟨gz, ez, q4, l4, hz⟩ := Bel.newE b0 34 #[.bool false, .int .i64 0, .int .u32 0]
          have n4 := hz _ _ _ q
          have nh4 := hz _ _ _ qh
          clear hz
          (try simp only [World.size_alloc] at ez)
          subst ez
          replace b0 := b0.alloc (.cells #[.bool false, .int .i64 0, .int .u32 0] 34)
          replace q := q.alloc (.cells #[.bool false, .int .i64 0, .int .u32 0] 34)
          replace qh := qh.alloc (.cells #[.bool false, .int .i64 0, .int .u32 0] 34)
          replace q3 := q3.alloc (.cells #[.bool false, .int .i64 0, .int .u32 0] 34)
          (try go_simp)
          refine hK.out _ _ (fun _ => (And.intro q qh)) ?_
          clear hK K
          (try simp only [Act.put, rA, rB, rC, rD, rE, rF])
          refine wpAnyG_one 2 (by kernel_rfl) rfl (fun K hK => ?_)
          rw [if_pos (by rfl)]
          go_simp
          (with_reducible refine (PT.out _ (H0.out.below b0.out) (P0.out.below b0.out)).mono ?_)
          rintro e w9 ⟨A2, n2, c2, rfl, k2, hb⟩
          replace b0 := b0.below hb
          replace q := q.below hb
          replace qh := qh.below hb
          replace q3 := q3.below hb
          replace q4 := q4.below hb
          clear hb
          (try go_simp)
          refine hK.out _ _ (fun _ => (And.intro q qh)) ?_
          clear hK K
          (try simp only [Act.put, rA, rB, rC, rD, rE, rF])
          refine wpAnyG_one 3 (by kernel_rfl) rfl (fun K hK => ?_)
          rw [if_pos (by rfl)]
          go_simp
          (with_reducible refine (PA.out A2 n2 c2 _ k2.byt (by have := k2.len; have := hl.out; omega)).mono ?_)
          rintro e w9 ⟨B, m, d, Q, qn, qc, rfl, mm, mp, hb⟩
          replace b0 := b0.below hb
          replace q := q.below hb
          replace qh := qh.below hb
          replace q3 := q3.below hb
          replace q4 := q4.below hb
          replace k2 := k2.below hb
          clear hb
          (try go_simp)
          refine hK.out _ _ (fun _ => (And.intro q qh)) ?_
          clear hK K
          (try simp only [Act.put, rA, rB, rC, rD, rE, rF])
          have S0 := (And.intro q qh)
          refine wpAnyG_take 4 (v := ?_) rfl (by kernel_rfl) (fun _ _ _ h => by cases h.1) S0 (Or.inl ⟨by rfl, by intro w' hSw; go_simp; try with_reducible rfl⟩) ?_; (try simp only [Act.put, rA, rB, rC, rD, rE, rF])
          refine wpAnyG_take 5 (v := ?_) rfl (by kernel_rfl) (fun _ _ _ h => by cases h.1) S0 (Or.inl ⟨by rfl, by intro w' hSw; go_simp; try with_reducible rfl⟩) ?_; (try simp only [Act.put, rA, rB, rC, rD, rE, rF])
          refine wpAnyG_take 6 (v := ?_) rfl (by kernel_rfl) (fun _ _ _ h => by cases h.1) S0 (Or.inl ⟨by rfl, by intro w' hSw; go_simp; try with_reducible rfl⟩) ?_; (try simp only [Act.put, rA, rB, rC, rD, rE, rF])
          clear S0
          refine wpAnyG_one 9 (by kernel_rfl) rfl (fun K hK => ?_)
          rw [if_pos (by rfl)]
          refine wp_putB (cells := #[.int .u8 (r1).kd, .int .u8 (r1).fl, .int .i64 (r1).st, .slice B m d, .int .i64 (r1).pd, .int .i64 (r1).la, .int .i64 (r1).ic, .int .u32 (r1).cd, .slice Q qn qc, .bool (r1).rk, .bool (r1).al, .int .i64 (r1).dp, .int .u8 (r1).wt]) _ _ _ rfl rfl rfl q3 (by rfl) (by rfl) (by rfl) ?_
          intro w9 qn hg
          replace b0 := b0.grown hg l3
          replace q := q.grown hg n3
          replace qh := qh.grown hg nh3
          replace q4 := q4.grown hg (q4.ne q3 (by decide))
          replace mm := mm.grownB q3 (by decide) hg
          replace mp := MineP.grownB mp q3 (by decide) hg
          clear hg q3; have q3 := qn; clear qn
          refine hK.out _ _ (fun _ => (And.intro q qh)) ?_
          clear hK K
          (try simp only [Act.put, rA, rB, rC, rD, rE, rF])
          refine wpAnyG_one 10 (by kernel_rfl) rfl (fun K hK => ?_)
          rw [if_pos (by rfl)]
          refine wp_putB (cells := #[.bool xw, .int .i64 xs, .int .u32 xc]) _ _ _ rfl rfl rfl q4 (by rfl) (by rfl) (by rfl) ?_
          intro w9 qn hg
          replace b0 := b0.grown hg l4
          replace q := q.grown hg n4
          replace qh := qh.grown hg nh4
          replace q3 := q3.grown hg (q3.ne q4 (by decide))
          replace mm := mm.grownB q4 (by decide) hg
          replace mp := MineP.grownB mp q4 (by decide) hg
          clear hg q4; have q4 := qn; clear qn
          refine hK.out _ _ (fun _ => (And.intro q qh)) ?_
          clear hK K
          (try simp only [Act.put, rA, rB, rC, rD, rE, rF])
          refine wpAnyG_done (by kernel_rfl) ?_ _
          exact ⟨rfl, _, _, _, _, _, _, _, _, _, _, _, rfl, q3, q4, q, mm.base_le (Nat.zero_le _), MineP.base_le mp (Nat.zero_le _), b0.out⟩
      · rw [if_pos (by rfl)]
        go_simp
        obtain ⟨gz, ez, q4, l4, hz⟩ := Bel.newE b0 34 #[.bool false, .int .i64 0, .int .u32 0]
        have n4 := hz _ _ _ q
        have nh4 := hz _ _ _ qh
        clear hz
        (try simp only [World.size_alloc] at ez)
        subst ez
        replace b0 := b0.alloc (.cells #[.bool false, .int .i64 0, .int .u32 0] 34)
        replace q := q.alloc (.cells #[.bool false, .int .i64 0, .int .u32 0] 34)
        replace qh := qh.alloc (.cells #[.bool false, .int .i64 0, .int .u32 0] 34)
        (try go_simp)
        refine hK.out _ _ (fun _ => (And.intro q qh)) ?_
        clear hK K
        (try simp only [Act.put, rA, rB, rC, rD, rE, rF])
        refine wpAnyG_two 2 7 (by kernel_rfl) rfl rfl (fun K hK => ?_) (fun K hK => ?_)
        · rw [if_pos (by rfl)]
          go_simp
          (with_reducible refine (PT.out _ (H0.out.below b0.out) (P0.out.below b0.out)).mono ?_)
          rintro e w9 ⟨A2, n2, c2, rfl, k2, hb⟩
          replace b0 := b0.below hb
          replace q := q.below hb
          replace qh := qh.below hb
          replace q4 := q4.below hb
          clear hb
          (try go_simp)
          refine hK.out _ _ (fun _ => (And.intro q qh)) ?_
          clear hK K
          (try simp only [Act.put, rA, rB, rC, rD, rE, rF])
          refine wpAnyG_two 3 7 (by kernel_rfl) rfl rfl (fun K hK => ?_) (fun K hK => ?_)
          · rw [if_pos (by rfl)]
            go_simp
            (with_reducible refine (PA.out A2 n2 c2 _ k2.byt (by have := k2.len; have := hl.out; omega)).mono ?_)
            rintro e w9 ⟨B, m, d, Q, qn, qc, rfl, mm, mp, hb⟩
            replace b0 := b0.below hb
            replace q := q.below hb
            replace qh := qh.below hb
            replace q4 := q4.below hb
            replace k2 := k2.below hb
            clear hb
            (try go_simp)
            refine hK.out _ _ (fun _ => (And.intro q qh)) ?_
            clear hK K
            (try simp only [Act.put, rA, rB, rC, rD, rE, rF])
            have S0 := (And.intro q qh)
            refine wpAnyG_take 4 (v := ?_) rfl (by kernel_rfl) (fun _ _ _ h => by cases h.1) S0 (Or.inl ⟨by rfl, by intro w' hSw; go_simp; try with_reducible rfl⟩) ?_; (try simp only [Act.put, rA, rB, rC, rD, rE, rF])
            refine wpAnyG_take 5 (v := ?_) rfl (by kernel_rfl) (fun _ _ _ h => by cases h.1) S0 (Or.inl ⟨by rfl, by intro w' hSw; go_simp; try with_reducible rfl⟩) ?_; (try simp only [Act.put, rA, rB, rC, rD, rE, rF])
            refine wpAnyG_take 6 (v := ?_) rfl (by kernel_rfl) (fun _ _ _ h => by cases h.1) S0 (Or.inl ⟨by rfl, by intro w' hSw; go_simp; try with_reducible rfl⟩) ?_; (try simp only [Act.put, rA, rB, rC, rD, rE, rF])
            clear S0
            refine wpAnyG_one 7 (by kernel_rfl) rfl (fun K hK => ?_)
            rw [if_pos (by rfl)]
            go_simp
            obtain ⟨gz, ez, q3, l3, hz⟩ := Bel.newE b0 30 zF
            have n3 := hz _ _ _ q
            have nh3 := hz _ _ _ qh
            clear hz
            (try simp only [World.size_alloc] at ez)
            subst ez
            replace b0 := b0.alloc (.cells zF 30)
            replace q := q.alloc (.cells zF 30)
            replace qh := qh.alloc (.cells zF 30)
            replace q4 := q4.alloc (.cells zF 30)
            replace k2 := k2.alloc (.cells zF 30)
            replace mm := mm.alloc (.cells zF 30)
            replace mp := mp.alloc (.cells zF 30)
            (try go_simp)
            refine hK.out _ _ (fun _ => (And.intro q qh)) ?_
            clear hK K
            (try simp only [Act.put, rA, rB, rC, rD, rE, rF])
            refine wpAnyG_one 9 (by kernel_rfl) rfl (fun K hK => ?_)
            rw [if_pos (by rfl)]
            refine wp_putB (cells := #[.int .u8 (r1).kd, .int .u8 (r1).fl, .int .i64 (r1).st, .slice B m d, .int .i64 (r1).pd, .int .i64 (r1).la, .int .i64 (r1).ic, .int .u32 (r1).cd, .slice Q qn qc, .bool (r1).rk, .bool (r1).al, .int .i64 (r1).dp, .int .u8 (r1).wt]) _ _ _ rfl rfl rfl q3 (by rfl) (by rfl) (by rfl) ?_
            intro w9 qn hg
            replace b0 := b0.grown hg l3
            replace q := q.grown hg n3
            replace qh := qh.grown hg nh3
            replace q4 := q4.grown hg (q4.ne q3 (by decide))
            replace mm := mm.grownB q3 (by decide) hg
            replace mp := MineP.grownB mp q3 (by decide) hg
            clear hg q3; have q3 := qn; clear qn
            refine hK.out _ _ (fun _ => (And.intro q qh)) ?_
            clear hK K
            (try simp only [Act.put, rA, rB, rC, rD, rE, rF])
            refine wpAnyG_one 10 (by kernel_rfl) rfl (fun K hK => ?_)
            rw [if_pos (by rfl)]
            refine wp_putB (cells := #[.bool xw, .int .i64 xs, .int .u32 xc]) _ _ _ rfl rfl rfl q4 (by rfl) (by rfl) (by rfl) ?_
            intro w9 qn hg
            replace b0 := b0.grown hg l4
            replace q := q.grown hg n4
            replace qh := qh.grown hg nh4
            replace q3 := q3.grown hg (q3.ne q4 (by decide))
            replace mm := mm.grownB q4 (by decide) hg
            replace mp := MineP.grownB mp q4 (by decide) hg
            clear hg q4; have q4 := qn; clear qn
            refine hK.out _ _ (fun _ => (And.intro q qh)) ?_
            clear hK K
            (try simp only [Act.put, rA, rB, rC, rD, rE, rF])
            refine wpAnyG_done (by kernel_rfl) ?_ _
            exact ⟨rfl, _, _, _, _, _, _, _, _, _, _, _, rfl, q3, q4, q, mm.base_le (Nat.zero_le _), MineP.base_le mp (Nat.zero_le _), b0.out⟩
          · rw [if_pos (by rfl)]
            go_simp
            obtain ⟨gz, ez, q3, l3, hz⟩ := Bel.newE b0 30 zF
            have n3 := hz _ _ _ q
            have nh3 := hz _ _ _ qh
            clear hz
            (try simp only [World.size_alloc] at ez)
            subst ez
            replace b0 := b0.alloc (.cells zF 30)
            replace q := q.alloc (.cells zF 30)
            replace qh := qh.alloc (.cells zF 30)
            replace q4 := q4.alloc (.cells zF 30)
            replace k2 := k2.alloc (.cells zF 30)
            (try go_simp)
            refine hK.out _ _ (fun _ => (And.intro q qh)) ?_
            clear hK K
            (try simp only [Act.put, rA, rB, rC, rD, rE, rF])
            refine wpAnyG_one 3 (by kernel_rfl) rfl (fun K hK => ?_)
            rw [if_pos (by rfl)]
            go_simp
            (with_reducible refine (PA.out A2 n2 c2 _ k2.byt (by have := k2.len; have := hl.out; omega)).mono ?_)
            rintro e w9 ⟨B, m, d, Q, qn, qc, rfl, mm, mp, hb⟩
            replace b0 := b0.below hb
            replace q := q.below hb
            replace qh := qh.below hb
            replace q3 := q3.below hb
            replace q4 := q4.below hb
            replace k2 := k2.below hb
            clear hb
            (try go_simp)
            refine hK.out _ _ (fun _ => (And.intro q qh)) ?_
            clear hK K
            (try simp only [Act.put, rA, rB, rC, rD, rE, rF])
            have S0 := (And.intro q qh)
            refine wpAnyG_take 4 (v := ?_) rfl (by kernel_rfl) (fun _ _ _ h => by cases h.1) S0 (Or.inl ⟨by rfl, by intro w' hSw; go_simp; try with_reducible rfl⟩) ?_; (try simp only [Act.put, rA, rB, rC, rD, rE, rF])
            refine wpAnyG_take 5 (v := ?_) rfl (by kernel_rfl) (fun _ _ _ h => by cases h.1) S0 (Or.inl ⟨by rfl, by intro w' hSw; go_simp; try with_reducible rfl⟩) ?_; (try simp only [Act.put, rA, rB, rC, rD, rE, rF])
            refine wpAnyG_take 6 (v := ?_) rfl (by kernel_rfl) (fun _ _ _ h => by cases h.1) S0 (Or.inl ⟨by rfl, by intro w' hSw; go_simp; try with_reducible rfl⟩) ?_; (try simp only [Act.put, rA, rB, rC, rD, rE, rF])
            clear S0
            refine wpAnyG_one 9 (by kernel_rfl) rfl (fun K hK => ?_)
            rw [if_pos (by rfl)]
            refine wp_putB (cells := #[.int .u8 (r1).kd, .int .u8 (r1).fl, .int .i64 (r1).st, .slice B m d, .int .i64 (r1).pd, .int .i64 (r1).la, .int .i64 (r1).ic, .int .u32 (r1).cd, .slice Q qn qc, .bool (r1).rk, .bool (r1).al, .int .i64 (r1).dp, .int .u8 (r1).wt]) _ _ _ rfl rfl rfl q3 (by rfl) (by rfl) (by rfl) ?_
            intro w9 qn hg
            replace b0 := b0.grown hg l3
            replace q := q.grown hg n3
            replace qh := qh.grown hg nh3
            replace q4 := q4.grown hg (q4.ne q3 (by decide))
            replace mm := mm.grownB q3 (by decide) hg
            replace mp := MineP.grownB mp q3 (by decide) hg
            clear hg q3; have q3 := qn; clear qn
            refine hK.out _ _ (fun _ => (And.intro q qh)) ?_
            clear hK K
            (try simp only [Act.put, rA, rB, rC, rD, rE, rF])
            refine wpAnyG_one 10 (by kernel_rfl) rfl (fun K hK => ?_)
            rw [if_pos (by rfl)]
            refine wp_putB (cells := #[.bool xw, .int .i64 xs, .int .u32 xc]) _ _ _ rfl rfl rfl q4 (by rfl) (by rfl) (by rfl) ?_
            intro w9 qn hg
            replace b0 := b0.grown hg l4
            replace q := q.grown hg n4
            replace qh := qh.grown hg nh4
            replace q3 := q3.grown hg (q3.ne q4 (by decide))
            replace mm := mm.grownB q4 (by decide) hg
            replace mp := MineP.grownB mp q4 (by decide) hg
            clear hg q4; have q4 := qn; clear qn
            refine hK.out _ _ (fun _ => (And.intro q qh)) ?_
            clear hK K
            (try simp only [Act.put, rA, rB, rC, rD, rE, rF])
            refine wpAnyG_done (by kernel_rfl) ?_ _
            exact ⟨rfl, _, _, _, _, _, _, _, _, _, _, _, rfl, q3, q4, q, mm.base_le (Nat.zero_le _), MineP.base_le mp (Nat.zero_le _), b0.out⟩
        · rw [if_pos (by rfl)]
          go_simp
          obtain ⟨gz, ez, q3, l3, hz⟩ := Bel.newE b0 30 zF
          have n3 := hz _ _ _ q
          have nh3 := hz _ _ _ qh
          clear hz
          (try simp only [World.size_alloc] at ez)
          subst ez
          replace b0 := b0.alloc (.cells zF 30)
          replace q := q.alloc (.cells zF 30)
          replace qh := qh.alloc (.cells zF 30)
          replace q4 := q4.alloc (.cells zF 30)
          (try go_simp)
          refine hK.out _ _ (fun _ => (And.intro q qh)) ?_
          clear hK K
          (try simp only [Act.put, rA, rB, rC, rD, rE, rF])
          refine wpAnyG_one 2 (by kernel_rfl) rfl (fun K hK => ?_)
          rw [if_pos (by rfl)]
          go_simp
          (with_reducible refine (PT.out _ (H0.out.below b0.out) (P0.out.below b0.out)).mono ?_)
          rintro e w9 ⟨A2, n2, c2, rfl, k2, hb⟩
          replace b0 := b0.below hb
          replace q := q.below hb
          replace qh := qh.below hb
          replace q3 := q3.below hb
          replace q4 := q4.below hb
          clear hb
          (try go_simp)
          refine hK.out _ _ (fun _ => (And.intro q qh)) ?_
          clear hK K
          (try simp only [Act.put, rA, rB, rC, rD, rE, rF])
          refine wpAnyG_one 3 (by kernel_rfl) rfl (fun K hK => ?_)
          rw [if_pos (by rfl)]
          go_simp
          (with_reducible refine (PA.out A2 n2 c2 _ k2.byt (by have := k2.len; have := hl.out; omega)).mono ?_)
          rintro e w9 ⟨B, m, d, Q, qn, qc, rfl, mm, mp, hb⟩
          replace b0 := b0.below hb
          replace q := q.below hb
          replace qh := qh.below hb
          replace q3 := q3.below hb
          replace q4 := q4.below hb
          replace k2 := k2.below hb
          clear hb
          (try go_simp)
          refine hK.out _ _ (fun _ => (And.intro q qh)) ?_
          clear hK K
          (try simp only [Act.put, rA, rB, rC, rD, rE, rF])
          have S0 := (And.intro q qh)
          refine wpAnyG_take 4 (v := ?_) rfl (by kernel_rfl) (fun _ _ _ h => by cases h.1) S0 (Or.inl ⟨by rfl, by intro w' hSw; go_simp; try with_reducible rfl⟩) ?_; (try simp only [Act.put, rA, rB, rC, rD, rE, rF])
          refine wpAnyG_take 5 (v := ?_) rfl (by kernel_rfl) (fun _ _ _ h => by cases h.1) S0 (Or.inl ⟨by rfl, by intro w' hSw; go_simp; try with_reducible rfl⟩) ?_; (try simp only [Act.put, rA, rB, rC, rD, rE, rF])
          refine wpAnyG_take 6 (v := ?_) rfl (by kernel_rfl) (fun _ _ _ h => by cases h.1) S0 (Or.inl ⟨by rfl, by intro w' hSw; go_simp; try with_reducible rfl⟩) ?_; (try simp only [Act.put, rA, rB, rC, rD, rE, rF])
          clear S0
          refine wpAnyG_one 9 (by kernel_rfl) rfl (fun K hK => ?_)
          rw [if_pos (by rfl)]
          refine wp_putB (cells := #[.int .u8 (r1).kd, .int .u8 (r1).fl, .int .i64 (r1).st, .slice B m d, .int .i64 (r1).pd, .int .i64 (r1).la, .int .i64 (r1).ic, .int .u32 (r1).cd, .slice Q qn qc, .bool (r1).rk, .bool (r1).al, .int .i64 (r1).dp, .int .u8 (r1).wt]) _ _ _ rfl rfl rfl q3 (by rfl) (by rfl) (by rfl) ?_
          intro w9 qn hg
          replace b0 := b0.grown hg l3
          replace q := q.grown hg n3
          replace qh := qh.grown hg nh3
          replace q4 := q4.grown hg (q4.ne q3 (by decide))
          replace mm := mm.grownB q3 (by decide) hg
          replace mp := MineP.grownB mp q3 (by decide) hg
          clear hg q3; have q3 := qn; clear qn
          refine hK.out _ _ (fun _ => (And.intro q qh)) ?_
          clear hK K
          (try simp only [Act.put, rA, rB, rC, rD, rE, rF])
          refine wpAnyG_one 10 (by kernel_rfl) rfl (fun K hK => ?_)
          rw [if_pos (by rfl)]
          refine wp_putB (cells := #[.bool xw, .int .i64 xs, .int .u32 xc]) _ _ _ rfl rfl rfl q4 (by rfl) (by rfl) (by rfl) ?_
          intro w9 qn hg
          replace b0 := b0.grown hg l4
          replace q := q.grown hg n4
          replace qh := qh.grown hg nh4
          replace q3 := q3.grown hg (q3.ne q4 (by decide))
          replace mm := mm.grownB q4 (by decide) hg
          replace mp := MineP.grownB mp q4 (by decide) hg
          clear hg q4; have q4 := qn; clear qn
          refine hK.out _ _ (fun _ => (And.intro q qh)) ?_
          clear hK K
          (try simp only [Act.put, rA, rB, rC, rD, rE, rF])
          refine wpAnyG_done (by kernel_rfl) ?_ _
          exact ⟨rfl, _, _, _, _, _, _, _, _, _, _, _, rfl, q3, q4, q, mm.base_le (Nat.zero_le _), MineP.base_le mp (Nat.zero_le _), b0.out⟩
  case rest =>
    rintro a' w' ⟨g3, g4, A2, n2, c2, B, m, d, Q, qn, qc, rfl, q3, q4, q, mm, mp, hb⟩
    go_wp2_with fail
    replace q := q.drew
    replace q3 := q3.drew
    replace q4 := q4.drew
    replace mm := mm.drew
    replace mp := mp.drew
    replace hb := hb.trans (drew_below _ _)
    cases hc : (xc == 0)
    all_goals rw [hc] at HG HF
    · have HQ := Lib.hid (flt_ne xw xs xc hc)
      clear hc HF
      refine wp_region_G (fun w' => Blk w' w.heap.size 30 #[.int .u8 (f).kd, .int .u8 (f).fl, .int .i64 (f).st, .slice A n c, .int .i64 (f).pd, .int .i64 (f).la, .int .i64 (f).ic, .int .u32 (f).cd, .slice P pn pc, .bool (f).rk, .bool (f).al, .int .i64 (f).dp, .int .u8 (f).wt] ∧ Blk w' g3 30 #[.int .u8 (r1).kd, .int .u8 (r1).fl, .int .i64 (r1).st, .slice B m d, .int .i64 (r1).pd, .int .i64 (r1).la, .int .i64 (r1).ic, .int .u32 (r1).cd, .slice Q qn qc, .bool (r1).rk, .bool (r1).al, .int .i64 (r1).dp, .int .u8 (r1).wt] ∧ Blk w' g4 34 #[.bool xw, .int .i64 xs, .int .u32 xc]) [] (by kernel_rfl) ?_
      have S0 := (And.intro q (And.intro q3 q4))
      refine wpAnyG_take 0 (v := .agg #[.bool xw, .int .i64 xs, .int .u32 xc]) rfl (by kernel_rfl) (fun _ _ _ h => h) S0 (Or.inl ⟨by rfl, by intro w' hSw; exact exec_getB (by rfl) (by rfl) hSw.2.2 Try.underlying34 rfl (by rfl)⟩) ?_; (try simp only [Act.put, rA, rB, rC, rD, rE, rF])
      clear S0
      refine wpAnyG_one 1 (by kernel_rfl) rfl (fun K hK => ?_)
      rw [if_pos (by rfl)]
      go_simp
      (with_reducible refine (rFine _).mono ?_)
      rintro e w9 ⟨rfl, hb2⟩
      replace q := q.below hb2
      replace q3 := q3.below hb2
      replace q4 := q4.below hb2
      replace mm := mm.below hb2
      replace mp := mp.below hb2
      replace hb := hb.trans (hb2.mono hb.size)
      clear hb2
      (try go_simp)
      refine hK.out _ _ (fun _ => (And.intro q (And.intro q3 q4))) ?_
      clear hK K
      (try simp only [Act.put, rA, rB, rC, rD, rE, rF])
      have S0 := (And.intro q (And.intro q3 q4))
      refine wpAnyG_take 2 (v := ?_) rfl (by kernel_rfl) (fun _ _ _ h => h) S0 (Or.inl ⟨by rfl, by intro w' hSw; have hq := HQ.out; go_simp; try with_reducible rfl⟩) ?_; (try simp only [Act.put, rA, rB, rC, rD, rE, rF])
      refine wpAnyG_take 3 (v := ?_) rfl (by kernel_rfl) (fun _ _ _ h => h) S0 (Or.inl ⟨by rfl, by intro w' hSw; go_simp; try with_reducible rfl⟩) ?_; (try simp only [Act.put, rA, rB, rC, rD, rE, rF])
      refine wpAnyG_take 4 (v := undef) rfl (by kernel_rfl) (fun _ _ _ h => h) S0 (Or.inr ⟨by rfl, rfl⟩) ?_; (try simp only [Act.put, rA, rB, rC, rD, rE, rF])
      refine wpAnyG_take 5 (v := undef) rfl (by kernel_rfl) (fun _ _ _ h => h) S0 (Or.inr ⟨by rfl, rfl⟩) ?_; (try simp only [Act.put, rA, rB, rC, rD, rE, rF])
      clear S0
      refine wpAnyG_one 6 (by kernel_rfl) rfl (fun K hK => ?_)
      rw [if_neg (by intro h; cases (show (false : Bool) = true from h))]
      refine hK.out _ _ (fun _ => (And.intro q (And.intro q3 q4))) ?_
      clear hK K
      (try simp only [Act.put, rA, rB, rC, rD, rE, rF])
      have S0 := (And.intro q (And.intro q3 q4))
      refine wpAnyG_take 7 (v := ?_) rfl (by kernel_rfl) (fun _ _ _ h => h) S0 (Or.inl ⟨by rfl, by intro w' hSw; go_simp; try with_reducible rfl⟩) ?_; (try simp only [Act.put, rA, rB, rC, rD, rE, rF])
      refine wpAnyG_take 8 (v := ?_) rfl (by kernel_rfl) (fun _ _ _ h => h) S0 (Or.inl ⟨by rfl, by intro w' hSw; go_simp; try with_reducible rfl⟩) ?_; (try simp only [Act.put, rA, rB, rC, rD, rE, rF])
      clear S0
      refine wpAnyG_done (by kernel_rfl) ?_ _
      go_wp2
      go_ret
      rw [HG.out]
      exact ⟨rfl, hb⟩
    · obtain ⟨rfl, rfl, rfl⟩ := HF.out rfl
      clear hc HF
      refine wp_region_G (fun w' => Blk w' w.heap.size 30 #[.int .u8 (f).kd, .int .u8 (f).fl, .int .i64 (f).st, .slice A n c, .int .i64 (f).pd, .int .i64 (f).la, .int .i64 (f).ic, .int .u32 (f).cd, .slice P pn pc, .bool (f).rk, .bool (f).al, .int .i64 (f).dp, .int .u8 (f).wt] ∧ Blk w' g3 30 #[.int .u8 (r1).kd, .int .u8 (r1).fl, .int .i64 (r1).st, .slice B m d, .int .i64 (r1).pd, .int .i64 (r1).la, .int .i64 (r1).ic, .int .u32 (r1).cd, .slice Q qn qc, .bool (r1).rk, .bool (r1).al, .int .i64 (r1).dp, .int .u8 (r1).wt] ∧ Blk w' g4 34 #[.bool false, .int .i64 0, .int .u32 0]) [] (by kernel_rfl) ?_
      have S0 := (And.intro q (And.intro q3 q4))
      refine wpAnyG_take 0 (v := .agg #[.bool false, .int .i64 0, .int .u32 0]) rfl (by kernel_rfl) (fun _ _ _ h => h) S0 (Or.inl ⟨by rfl, by intro w' hSw; exact exec_getB (by rfl) (by rfl) hSw.2.2 Try.underlying34 rfl (by rfl)⟩) ?_; (try simp only [Act.put, rA, rB, rC, rD, rE, rF])
      clear S0
      refine wpAnyG_one 1 (by kernel_rfl) rfl (fun K hK => ?_)
      rw [if_pos (by rfl)]
      go_simp
      (with_reducible refine (rFine _).mono ?_)
      rintro e w9 ⟨rfl, hb2⟩
      replace q := q.below hb2
      replace q3 := q3.below hb2
      replace q4 := q4.below hb2
      replace mm := mm.below hb2
      replace mp := mp.below hb2
      replace hb := hb.trans (hb2.mono hb.size)
      clear hb2
      (try go_simp)
      refine hK.out _ _ (fun _ => (And.intro q (And.intro q3 q4))) ?_
      clear hK K
      (try simp only [Act.put, rA, rB, rC, rD, rE, rF])
      have S0 := (And.intro q (And.intro q3 q4))
      refine wpAnyG_take 2 (v := ?_) rfl (by kernel_rfl) (fun _ _ _ h => h) S0 (Or.inl ⟨by rfl, by intro w' hSw; go_simp; try with_reducible rfl⟩) ?_; (try simp only [Act.put, rA, rB, rC, rD, rE, rF])
      refine wpAnyG_take 3 (v := ?_) rfl (by kernel_rfl) (fun _ _ _ h => h) S0 (Or.inl ⟨by rfl, by intro w' hSw; go_simp; try with_reducible rfl⟩) ?_; (try simp only [Act.put, rA, rB, rC, rD, rE, rF])
      refine wpAnyG_take 4 (v := .agg #[.int .u8 (f).kd, .int .u8 (f).fl, .int .i64 (f).st, .slice A n c, .int .i64 (f).pd, .int .i64 (f).la, .int .i64 (f).ic, .int .u32 (f).cd, .slice P pn pc, .bool (f).rk, .bool (f).al, .int .i64 (f).dp, .int .u8 (f).wt]) rfl (by kernel_rfl) (fun _ _ _ h => h) S0 (Or.inl ⟨by rfl, by intro w' hSw; exact exec_getB (by rfl) (by rfl) hSw.1 Try.underlying30 rfl (by rfl)⟩) ?_; (try simp only [Act.put, rA, rB, rC, rD, rE, rF])
      refine wpAnyG_take 5 (v := .agg #[.int .u8 (r1).kd, .int .u8 (r1).fl, .int .i64 (r1).st, .slice B m d, .int .i64 (r1).pd, .int .i64 (r1).la, .int .i64 (r1).ic, .int .u32 (r1).cd, .slice Q qn qc, .bool (r1).rk, .bool (r1).al, .int .i64 (r1).dp, .int .u8 (r1).wt]) rfl (by kernel_rfl) (fun _ _ _ h => h) S0 (Or.inl ⟨by rfl, by intro w' hSw; exact exec_getB (by rfl) (by rfl) hSw.2.1 Try.underlying30 rfl (by rfl)⟩) ?_; (try simp only [Act.put, rA, rB, rC, rD, rE, rF])
      clear S0
      refine wpAnyG_one 6 (by kernel_rfl) rfl (fun K hK => ?_)
      rw [if_pos (by rfl)]
      go_simp
      (with_reducible refine (SM.out _ _ _ _ _ _ _ (H0.out.below hb) (P0.out.below hb) mm.byt mp.prs).mono ?_)
      rintro e w9 ⟨rfl, hb2⟩
      replace q := q.below hb2
      replace q3 := q3.below hb2
      replace q4 := q4.below hb2
      replace hb := hb.trans (hb2.mono hb.size)
      clear hb2
      (try go_simp)
      refine hK.out _ _ (fun _ => (And.intro q (And.intro q3 q4))) ?_
      clear hK K
      (try simp only [Act.put, rA, rB, rC, rD, rE, rF])
      have S0 := (And.intro q (And.intro q3 q4))
      refine wpAnyG_take 7 (v := ?_) rfl (by kernel_rfl) (fun _ _ _ h => h) S0 (Or.inl ⟨by rfl, by intro w' hSw; go_simp; try with_reducible rfl⟩) ?_; (try simp only [Act.put, rA, rB, rC, rD, rE, rF])
      refine wpAnyG_take 8 (v := ?_) rfl (by kernel_rfl) (fun _ _ _ h => h) S0 (Or.inl ⟨by rfl, by intro w' hSw; go_simp; try with_reducible rfl⟩) ?_; (try simp only [Act.put, rA, rB, rC, rD, rE, rF])
      clear S0
      refine wpAnyG_done (by kernel_rfl) ?_ _
      go_wp2
      go_ret
      rw [HG.out]
      exact ⟨rfl, hb⟩
end Go.Proofs.Ytnjnpnjjpodnnaa
