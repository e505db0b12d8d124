/- Which frames may be: the contract. -/
import Derived.Test.YtnjnpnjjpodnnaaRGt0
import Derived.Test.YtnjnpnjjpodnnaaRGsf
namespace Go.Proofs.Ytnjnpnjjpodnnaa
open Go.RowKit Go.Shelf
set_option linter.unusedVariables false
set_option linter.unusedSimpArgs false

set_option maxRecDepth 100000 in
set_option maxHeartbeats 8000000 in
theorem fRight (f : Fm) (hf : FmOk f) (A : Option Addr) (n c : Nat) (P : Option Addr) (pn pc : Nat) (w : World) (h : Byt w A n c f.da) (hn : n ≤ 90000) (hp : Prs w P pn pc f.prs) (hpn : pn ≤ 10000) : Calls Try.prog 16 #[.agg #[.int .u8 (f).kd, .int .u8 (f).fl, .int .i64 (f).st, .slice A n c, .int .i64 (f).pd, .int .i64 (f).la, .int .i64 (f).ic, .int .u32 (f).cd, .slice P pn pc, .bool (f).rk, .bool (f).al, .int .i64 (f).dp, .int .u8 (f).wt]] w (BoolP (rightS f) w) := by
  obtain ⟨⟨r1, ⟨xw, xs, xc⟩⟩, hr⟩ : ∃ r, parseS f.kd f.fl f.st (payS f) = r := ⟨_, rfl⟩
  have HG := Lib.hid (show rightS f = (if (xc == 0) = true then sameF f r1 else false) by
    unfold rightS sameF
    rw [hr]
    by_cases h0 : xc = 0
    · simp [h0]
    · simp [h0])
  have H0 := Lib.hid h
  have P0 := Lib.hid hp
  have hl := Lib.hid (payS_len f (by have := h.len; omega) (by have := hp.len; omega))
  have SM := Lib.hid fun B m d Q qn qc w h1 h2 h3 h4 => fSameF f r1 A n c P pn pc B m d Q qn qc w h1 h2 h3 h4
  have PA := Lib.hid fun A2 n2 c2 w h2 h3 => fParse 0 f.kd f.fl f.st A2 n2 c2 (payS f) w h2 h3 hf.st.1 hf.st.2 hf.fl.1 hf.fl.2
  rw [hr] at PA
  have PT := Lib.hid fun w h hp => fPuts f hf A n c P pn pc w h (by omega) hp (by omega)
  have HKn := Lib.hid fun w => fKnownK f.kd w
  have hcp := putFEnters f.kd
  clear h hp hr hn hpn hf
  have b0 := (Bel.refl w).alloc (.cells #[.int .u8 (f).kd, .int .u8 (f).fl, .int .i64 (f).st, .slice A n c, .int .i64 (f).pd, .int .i64 (f).la, .int .i64 (f).ic, .int .u32 (f).cd, .slice P pn pc, .bool (f).rk, .bool (f).al, .int .i64 (f).dp, .int .u8 (f).wt] 30)
  have q := Blk.new w 30 #[.int .u8 (f).kd, .int .u8 (f).fl, .int .i64 (f).st, .slice A n c, .int .i64 (f).pd, .int .i64 (f).la, .int .i64 (f).ic, .int .u32 (f).cd, .slice P pn pc, .bool (f).rk, .bool (f).al, .int .i64 (f).dp, .int .u8 (f).wt]
  go_enter Try.func16, Try.ntmps16
  go_wp2_with fail
  refine wp_cutR (fun a a' w' => ∃ g3 g4 gk A2 n2 c2 B m d Q qn qc, a' = ⟨#[.agg #[.int .u8 (f).kd, .int .u8 (f).fl, .int .i64 (f).st, .slice A n c, .int .i64 (f).pd, .int .i64 (f).la, .int .i64 (f).ic, .int .u32 (f).cd, .slice P pn pc, .bool (f).rk, .bool (f).al, .int .i64 (f).dp, .int .u8 (f).wt], .pointer (some ⟨w.heap.size, 0, none⟩), .bool false, .pointer (some ⟨g3, 0, none⟩), .pointer (some ⟨g4, 0, none⟩), .tuple #[.agg #[.int .u8 (r1).kd, .int .u8 (r1).fl, .int .i64 (r1).st, .slice B m d, .int .i64 (r1).pd, .int .i64 (r1).la, .int .i64 (r1).ic, .int .u32 (r1).cd, .slice Q qn qc, .bool (r1).rk, .bool (r1).al, .int .i64 (r1).dp, .int .u8 (r1).wt], .agg #[.bool xw, .int .i64 xs, .int .u32 xc]], .pointer (some ⟨w.heap.size, 0, none⟩), .int .u8 f.kd, .pointer (some ⟨w.heap.size, 1, none⟩), .int .u8 f.fl, .pointer (some ⟨w.heap.size, 2, none⟩), .int .i64 f.st, .agg #[.int .i64 0, .int .u8 f.kd, .int .u8 f.fl, .int .i64 f.st], .pointer (some ⟨w.heap.size, 0, none⟩), .int .u8 f.kd, .agg #[.int .i64 (ofK f.kd), .func (.func (longF f.kd)) #[] (longB f.kd gk), .func (.func (readF f.kd)) #[] #[], .func (.func (putF f.kd)) #[] #[]], .func (.func (putF f.kd)) #[] #[], .agg #[.int .u8 (f).kd, .int .u8 (f).fl, .int .i64 (f).st, .slice A n c, .int .i64 (f).pd, .int .i64 (f).la, .int .i64 (f).ic, .int .u32 (f).cd, .slice P pn pc, .bool (f).rk, .bool (f).al, .int .i64 (f).dp, .int .u8 (f).wt], .slice A2 n2 c2, .tuple #[.agg #[.int .u8 (r1).kd, .int .u8 (r1).fl, .int .i64 (r1).st, .slice B m d, .int .i64 (r1).pd, .int .i64 (r1).la, .int .i64 (r1).ic, .int .u32 (r1).cd, .slice Q qn qc, .bool (r1).rk, .bool (r1).al, .int .i64 (r1).dp, .int .u8 (r1).wt], .agg #[.bool xw, .int .i64 xs, .int .u32 xc]], .agg #[.int .u8 (r1).kd, .int .u8 (r1).fl, .int .i64 (r1).st, .slice B m d, .int .i64 (r1).pd, .int .i64 (r1).la, .int .i64 (r1).ic, .int .u32 (r1).cd, .slice Q qn qc, .bool (r1).rk, .bool (r1).al, .int .i64 (r1).dp, .int .u8 (r1).wt], .agg #[.bool xw, .int .i64 xs, .int .u32 xc], undef, undef, undef, undef, undef, undef, undef, undef], []⟩ ∧ Blk w' g3 30 #[.int .u8 (r1).kd, .int .u8 (r1).fl, .int .i64 (r1).st, .slice B m d, .int .i64 (r1).pd, .int .i64 (r1).la, .int .i64 (r1).ic, .int .u32 (r1).cd, .slice Q qn qc, .bool (r1).rk, .bool (r1).al, .int .i64 (r1).dp, .int .u8 (r1).wt] ∧ Blk w' g4 34 #[.bool xw, .int .i64 xs, .int .u32 xc] ∧ Blk w' w.heap.size 30 #[.int .u8 (f).kd, .int .u8 (f).fl, .int .i64 (f).st, .slice A n c, .int .i64 (f).pd, .int .i64 (f).la, .int .i64 (f).ic, .int .u32 (f).cd, .slice P pn pc, .bool (f).rk, .bool (f).al, .int .i64 (f).dp, .int .u8 (f).wt] ∧ Mine 0 w' B m d r1.da ∧ MineP 0 w' Q qn qc r1.prs ∧ Below w.heap.size w w') ?reg ?rest
  case reg =>
    as_aux_lemma =>
      replace b0 := b0.drew
      replace q := q.drew
      refine wp_region_G (fun w' => Blk w' w.heap.size 30 #[.int .u8 (f).kd, .int .u8 (f).fl, .int .i64 (f).st, .slice A n c, .int .i64 (f).pd, .int .i64 (f).la, .int .i64 (f).ic, .int .u32 (f).cd, .slice P pn pc, .bool (f).rk, .bool (f).al, .int .i64 (f).dp, .int .u8 (f).wt]) [] (by kernel_rfl) ?_
      generalize (w.alloc (.cells #[.int .u8 (f).kd, .int .u8 (f).fl, .int .i64 (f).st, .slice A n c, .int .i64 (f).pd, .int .i64 (f).la, .int .i64 (f).ic, .int .u32 (f).cd, .slice P pn pc, .bool (f).rk, .bool (f).al, .int .i64 (f).dp, .int .u8 (f).wt] 30)).drew = W0 at b0 q ⊢
      have S0 := q
      refine wpAnyG_take 0 (v := ?_) rfl (by kernel_rfl) (fun _ _ _ h => by cases h.1) S0 (Or.inl ⟨by rfl, by intro w' hSw; go_simp; try with_reducible rfl⟩) ?_; (try simp only [Act.put, rA, rB, rC, rD, rE, rF])
      refine wpAnyG_take 1 (v := ?_) rfl (by kernel_rfl) (fun _ _ _ h => by cases h.1) S0 (Or.inl ⟨by rfl, by intro w' hSw; have z0 := hSw.at 0 rfl; go_simp; try with_reducible rfl⟩) ?_; (try simp only [Act.put, rA, rB, rC, rD, rE, rF])
      refine wpAnyG_take 2 (v := ?_) rfl (by kernel_rfl) (fun _ _ _ h => by cases h.1) S0 (Or.inl ⟨by rfl, by intro w' hSw; go_simp; try with_reducible rfl⟩) ?_; (try simp only [Act.put, rA, rB, rC, rD, rE, rF])
      refine wpAnyG_take 3 (v := ?_) rfl (by kernel_rfl) (fun _ _ _ h => by cases h.1) S0 (Or.inl ⟨by rfl, by intro w' hSw; have z1 := hSw.at 1 rfl; go_simp; try with_reducible rfl⟩) ?_; (try simp only [Act.put, rA, rB, rC, rD, rE, rF])
      refine wpAnyG_take 4 (v := ?_) rfl (by kernel_rfl) (fun _ _ _ h => by cases h.1) S0 (Or.inl ⟨by rfl, by intro w' hSw; go_simp; try with_reducible rfl⟩) ?_; (try simp only [Act.put, rA, rB, rC, rD, rE, rF])
      refine wpAnyG_take 5 (v := ?_) rfl (by kernel_rfl) (fun _ _ _ h => by cases h.1) S0 (Or.inl ⟨by rfl, by intro w' hSw; have z2 := hSw.at 2 rfl; go_simp; try with_reducible rfl⟩) ?_; (try simp only [Act.put, rA, rB, rC, rD, rE, rF])
      refine wpAnyG_take 6 (v := ?_) rfl (by kernel_rfl) (fun _ _ _ h => by cases h.1) S0 (Or.inl ⟨by rfl, by intro w' hSw; go_simp; try with_reducible rfl⟩) ?_; (try simp only [Act.put, rA, rB, rC, rD, rE, rF])
      refine wpAnyG_take 7 (v := ?_) rfl (by kernel_rfl) (fun _ _ _ h => by cases h.1) S0 (Or.inl ⟨by rfl, by intro w' hSw; go_simp; try with_reducible rfl⟩) ?_; (try simp only [Act.put, rA, rB, rC, rD, rE, rF])
      refine wpAnyG_take 8 (v := ?_) rfl (by kernel_rfl) (fun _ _ _ h => by cases h.1) S0 (Or.inl ⟨by rfl, by intro w' hSw; have z0 := hSw.at 0 rfl; go_simp; try with_reducible rfl⟩) ?_; (try simp only [Act.put, rA, rB, rC, rD, rE, rF])
      refine wpAnyG_take 11 (v := .agg #[.int .u8 (f).kd, .int .u8 (f).fl, .int .i64 (f).st, .slice A n c, .int .i64 (f).pd, .int .i64 (f).la, .int .i64 (f).ic, .int .u32 (f).cd, .slice P pn pc, .bool (f).rk, .bool (f).al, .int .i64 (f).dp, .int .u8 (f).wt]) rfl (by kernel_rfl) (fun _ _ _ h => by cases h.1) S0 (Or.inl ⟨by rfl, by intro w' hSw; exact exec_getB (by rfl) (by rfl) hSw Try.underlying30 rfl (by rfl)⟩) ?_; (try simp only [Act.put, rA, rB, rC, rD, rE, rF])
      clear S0
      refine wpAnyG_three 9 17 18 (by kernel_rfl) rfl rfl rfl (fun K hK => ?_) (fun K hK => ?_) (fun K hK => ?_)
      · rw [if_pos (by rfl)]
        go_simp
        (with_reducible refine (HKn.out _).mono ?_)
        rintro e w9 ⟨gk, rfl, HG0, hb⟩
        replace b0 := b0.below hb
        replace q := q.below hb
        clear HG0
        unfold kindA
        have hfl : ∀ W, (Instr.field 61 (.agg #[.int .i64 (ofK f.kd), .func (.func (longF f.kd)) #[] (longB f.kd gk), .func (.func (readF f.kd)) #[] #[], .func (.func (putF f.kd)) #[] #[]]) 3).run Try.prog W = .ok (.func (.func (putF f.kd)) #[] #[]) W := fun W => by kernel_rfl
        clear hb
        (try go_simp)
        refine hK.out _ _ (fun _ => q) ?_
        clear hK K
        (try simp only [Act.put, rA, rB, rC, rD, rE, rF])
        have S0 := q
        refine wpAnyG_take 10 (v := ?_) rfl (by kernel_rfl) (fun _ _ _ h => by cases h.1) S0 (Or.inl ⟨by rfl, by intro w' hSw; go_simp; try with_reducible rfl⟩) ?_; (try simp only [Act.put, rA, rB, rC, rD, rE, rF])
        clear S0
        refine wpAnyG_three 12 17 18 (by kernel_rfl) rfl rfl rfl (fun K hK => ?_) (fun K hK => ?_) (fun K hK => ?_)
        · rw [if_pos (by rfl)]
          go_simp
          (with_reducible refine (PT.out _ (H0.out.below b0.out) (P0.out.below b0.out)).mono ?_)
          rintro e w9 ⟨A2, n2, c2, rfl, k2, hb⟩
          replace b0 := b0.below hb
          replace q := q.below hb
          clear hb
          (try go_simp)
          refine hK.out _ _ (fun _ => q) ?_
          clear hK K
          (try simp only [Act.put, rA, rB, rC, rD, rE, rF])
          refine wpAnyG_three 13 17 18 (by kernel_rfl) rfl rfl rfl (fun K hK => ?_) (fun K hK => ?_) (fun K hK => ?_)
          · rw [if_pos (by rfl)]
            go_simp
            (with_reducible refine (PA.out A2 n2 c2 _ k2.byt (by have := k2.len; have := hl.out; omega)).mono ?_)
            rintro e w9 ⟨B, m, d, Q, qn, qc, rfl, mm, mp, hb⟩
            replace b0 := b0.below hb
            replace q := q.below hb
            replace k2 := k2.below hb
            clear hb
            (try go_simp)
            refine hK.out _ _ (fun _ => q) ?_
            clear hK K
            (try simp only [Act.put, rA, rB, rC, rD, rE, rF])
            have S0 := q
            refine wpAnyG_take 14 (v := ?_) rfl (by kernel_rfl) (fun _ _ _ h => by cases h.1) S0 (Or.inl ⟨by rfl, by intro w' hSw; go_simp; try with_reducible rfl⟩) ?_; (try simp only [Act.put, rA, rB, rC, rD, rE, rF])
            refine wpAnyG_take 15 (v := ?_) rfl (by kernel_rfl) (fun _ _ _ h => by cases h.1) S0 (Or.inl ⟨by rfl, by intro w' hSw; go_simp; try with_reducible rfl⟩) ?_; (try simp only [Act.put, rA, rB, rC, rD, rE, rF])
            refine wpAnyG_take 16 (v := ?_) rfl (by kernel_rfl) (fun _ _ _ h => by cases h.1) S0 (Or.inl ⟨by rfl, by intro w' hSw; go_simp; try with_reducible rfl⟩) ?_; (try simp only [Act.put, rA, rB, rC, rD, rE, rF])
            clear S0
            refine wpAnyG_two 17 18 (by kernel_rfl) rfl rfl (fun K hK => ?_) (fun K hK => ?_)
            · rw [if_pos (by rfl)]
              go_simp
              obtain ⟨gz, ez, q3, l3, hz⟩ := Bel.newE b0 30 zF
              have n3 := hz _ _ _ q
              clear hz
              (try simp only [World.size_alloc] at ez)
              subst ez
              replace b0 := b0.alloc (.cells zF 30)
              replace q := q.alloc (.cells zF 30)
              replace k2 := k2.alloc (.cells zF 30)
              replace mm := mm.alloc (.cells zF 30)
              replace mp := mp.alloc (.cells zF 30)
              (try go_simp)
              refine hK.out _ _ (fun _ => q) ?_
              clear hK K
              (try simp only [Act.put, rA, rB, rC, rD, rE, rF])
              refine wpAnyG_one 18 (by kernel_rfl) rfl (fun K hK => ?_)
              rw [if_pos (by rfl)]
              go_simp
              obtain ⟨gz, ez, q4, l4, hz⟩ := Bel.newE b0 34 #[.bool false, .int .i64 0, .int .u32 0]
              have n4 := hz _ _ _ q
              clear hz
              (try simp only [World.size_alloc] at ez)
              subst ez
              replace b0 := b0.alloc (.cells #[.bool false, .int .i64 0, .int .u32 0] 34)
              replace q := q.alloc (.cells #[.bool false, .int .i64 0, .int .u32 0] 34)
              replace q3 := q3.alloc (.cells #[.bool false, .int .i64 0, .int .u32 0] 34)
              replace k2 := k2.alloc (.cells #[.bool false, .int .i64 0, .int .u32 0] 34)
              replace mm := mm.alloc (.cells #[.bool false, .int .i64 0, .int .u32 0] 34)
              replace mp := mp.alloc (.cells #[.bool false, .int .i64 0, .int .u32 0] 34)
              (try go_simp)
              refine hK.out _ _ (fun _ => q) ?_
              clear hK K
              (try simp only [Act.put, rA, rB, rC, rD, rE, rF])
              refine wpAnyG_one 19 (by kernel_rfl) rfl (fun K hK => ?_)
              rw [if_pos (by rfl)]
              refine wp_putB (cells := #[.int .u8 (r1).kd, .int .u8 (r1).fl, .int .i64 (r1).st, .slice B m d, .int .i64 (r1).pd, .int .i64 (r1).la, .int .i64 (r1).ic, .int .u32 (r1).cd, .slice Q qn qc, .bool (r1).rk, .bool (r1).al, .int .i64 (r1).dp, .int .u8 (r1).wt]) _ _ _ rfl rfl rfl q3 (by rfl) (by rfl) (by rfl) ?_
              intro w9 qn hg
              replace b0 := b0.grown hg l3
              replace q := q.grown hg n3
              replace q4 := q4.grown hg (q4.ne q3 (by decide))
              replace mm := mm.grownB q3 (by decide) hg
              replace mp := MineP.grownB mp q3 (by decide) hg
              clear hg q3; have q3 := qn; clear qn
              refine hK.out _ _ (fun _ => q) ?_
              clear hK K
              (try simp only [Act.put, rA, rB, rC, rD, rE, rF])
              refine wpAnyG_one 20 (by kernel_rfl) rfl (fun K hK => ?_)
              rw [if_pos (by rfl)]
              refine wp_putB (cells := #[.bool xw, .int .i64 xs, .int .u32 xc]) _ _ _ rfl rfl rfl q4 (by rfl) (by rfl) (by rfl) ?_
              intro w9 qn hg
              replace b0 := b0.grown hg l4
              replace q := q.grown hg n4
              replace q3 := q3.grown hg (q3.ne q4 (by decide))
              replace mm := mm.grownB q4 (by decide) hg
              replace mp := MineP.grownB mp q4 (by decide) hg
              clear hg q4; have q4 := qn; clear qn
              refine hK.out _ _ (fun _ => q) ?_
              clear hK K
              (try simp only [Act.put, rA, rB, rC, rD, rE, rF])
              refine wpAnyG_done (by kernel_rfl) ?_ _
              exact ⟨rfl, _, _, _, _, _, _, _, _, _, _, _, _, rfl, q3, q4, q, mm.base_le (Nat.zero_le _), MineP.base_le mp (Nat.zero_le _), b0.out⟩
            · rw [if_pos (by rfl)]
              go_simp
              obtain ⟨gz, ez, q4, l4, hz⟩ := Bel.newE b0 34 #[.bool false, .int .i64 0, .int .u32 0]
              have n4 := hz _ _ _ q
              clear hz
              (try simp only [World.size_alloc] at ez)
              subst ez
              replace b0 := b0.alloc (.cells #[.bool false, .int .i64 0, .int .u32 0] 34)
              replace q := q.alloc (.cells #[.bool false, .int .i64 0, .int .u32 0] 34)
              replace k2 := k2.alloc (.cells #[.bool false, .int .i64 0, .int .u32 0] 34)
              replace mm := mm.alloc (.cells #[.bool false, .int .i64 0, .int .u32 0] 34)
              replace mp := mp.alloc (.cells #[.bool false, .int .i64 0, .int .u32 0] 34)
              (try go_simp)
              refine hK.out _ _ (fun _ => q) ?_
              clear hK K
              (try simp only [Act.put, rA, rB, rC, rD, rE, rF])
              refine wpAnyG_one 17 (by kernel_rfl) rfl (fun K hK => ?_)
              rw [if_pos (by rfl)]
              go_simp
              obtain ⟨gz, ez, q3, l3, hz⟩ := Bel.newE b0 30 zF
              have n3 := hz _ _ _ q
              clear hz
              (try simp only [World.size_alloc] at ez)
              subst ez
              replace b0 := b0.alloc (.cells zF 30)
              replace q := q.alloc (.cells zF 30)
              replace q4 := q4.alloc (.cells zF 30)
              replace k2 := k2.alloc (.cells zF 30)
              replace mm := mm.alloc (.cells zF 30)
              replace mp := mp.alloc (.cells zF 30)
              (try go_simp)
              refine hK.out _ _ (fun _ => q) ?_
              clear hK K
              (try simp only [Act.put, rA, rB, rC, rD, rE, rF])
              refine wpAnyG_one 19 (by kernel_rfl) rfl (fun K hK => ?_)
              rw [if_pos (by rfl)]
              refine wp_putB (cells := #[.int .u8 (r1).kd, .int .u8 (r1).fl, .int .i64 (r1).st, .slice B m d, .int .i64 (r1).pd, .int .i64 (r1).la, .int .i64 (r1).ic, .int .u32 (r1).cd, .slice Q qn qc, .bool (r1).rk, .bool (r1).al, .int .i64 (r1).dp, .int .u8 (r1).wt]) _ _ _ rfl rfl rfl q3 (by rfl) (by rfl) (by rfl) ?_
              intro w9 qn hg
              replace b0 := b0.grown hg l3
              replace q := q.grown hg n3
              replace q4 := q4.grown hg (q4.ne q3 (by decide))
              replace mm := mm.grownB q3 (by decide) hg
              replace mp := MineP.grownB mp q3 (by decide) hg
              clear hg q3; have q3 := qn; clear qn
              refine hK.out _ _ (fun _ => q) ?_
              clear hK K
              (try simp only [Act.put, rA, rB, rC, rD, rE, rF])
              refine wpAnyG_one 20 (by kernel_rfl) rfl (fun K hK => ?_)
              rw [if_pos (by rfl)]
              refine wp_putB (cells := #[.bool xw, .int .i64 xs, .int .u32 xc]) _ _ _ rfl rfl rfl q4 (by rfl) (by rfl) (by rfl) ?_
              intro w9 qn hg
              replace b0 := b0.grown hg l4
              replace q := q.grown hg n4
              replace q3 := q3.grown hg (q3.ne q4 (by decide))
              replace mm := mm.grownB q4 (by decide) hg
              replace mp := MineP.grownB mp q4 (by decide) hg
              clear hg q4; have q4 := qn; clear qn
              refine hK.out _ _ (fun _ => q) ?_
              clear hK K
              (try simp only [Act.put, rA, rB, rC, rD, rE, rF])
              refine wpAnyG_done (by kernel_rfl) ?_ _
              exact ⟨rfl, _, _, _, _, _, _, _, _, _, _, _, _, rfl, q3, q4, q, mm.base_le (Nat.zero_le _), MineP.base_le mp (Nat.zero_le _), b0.out⟩
          · rw [if_pos (by rfl)]
            go_simp
            obtain ⟨gz, ez, q3, l3, hz⟩ := Bel.newE b0 30 zF
            have n3 := hz _ _ _ q
            clear hz
            (try simp only [World.size_alloc] at ez)
            subst ez
            replace b0 := b0.alloc (.cells zF 30)
            replace q := q.alloc (.cells zF 30)
            replace k2 := k2.alloc (.cells zF 30)
            (try go_simp)
            refine hK.out _ _ (fun _ => q) ?_
            clear hK K
            (try simp only [Act.put, rA, rB, rC, rD, rE, rF])
            refine wpAnyG_two 13 18 (by kernel_rfl) rfl rfl (fun K hK => ?_) (fun K hK => ?_)
            · rw [if_pos (by rfl)]
              go_simp
              (with_reducible refine (PA.out A2 n2 c2 _ k2.byt (by have := k2.len; have := hl.out; omega)).mono ?_)
              rintro e w9 ⟨B, m, d, Q, qn, qc, rfl, mm, mp, hb⟩
              replace b0 := b0.below hb
              replace q := q.below hb
              replace q3 := q3.below hb
              replace k2 := k2.below hb
              clear hb
              (try go_simp)
              refine hK.out _ _ (fun _ => q) ?_
              clear hK K
              (try simp only [Act.put, rA, rB, rC, rD, rE, rF])
              have S0 := q
              refine wpAnyG_take 14 (v := ?_) rfl (by kernel_rfl) (fun _ _ _ h => by cases h.1) S0 (Or.inl ⟨by rfl, by intro w' hSw; go_simp; try with_reducible rfl⟩) ?_; (try simp only [Act.put, rA, rB, rC, rD, rE, rF])
              refine wpAnyG_take 15 (v := ?_) rfl (by kernel_rfl) (fun _ _ _ h => by cases h.1) S0 (Or.inl ⟨by rfl, by intro w' hSw; go_simp; try with_reducible rfl⟩) ?_; (try simp only [Act.put, rA, rB, rC, rD, rE, rF])
              refine wpAnyG_take 16 (v := ?_) rfl (by kernel_rfl) (fun _ _ _ h => by cases h.1) S0 (Or.inl ⟨by rfl, by intro w' hSw; go_simp; try with_reducible rfl⟩) ?_; (try simp only [Act.put, rA, rB, rC, rD, rE, rF])
              clear S0
              refine wpAnyG_one 18 (by kernel_rfl) rfl (fun K hK => ?_)
              rw [if_pos (by rfl)]
              go_simp
              obtain ⟨gz, ez, q4, l4, hz⟩ := Bel.newE b0 34 #[.bool false, .int .i64 0, .int .u32 0]
              have n4 := hz _ _ _ q
              clear hz
              (try simp only [World.size_alloc] at ez)
              subst ez
              replace b0 := b0.alloc (.cells #[.bool false, .int .i64 0, .int .u32 0] 34)
              replace q := q.alloc (.cells #[.bool false, .int .i64 0, .int .u32 0] 34)
              replace q3 := q3.alloc (.cells #[.bool false, .int .i64 0, .int .u32 0] 34)
              replace k2 := k2.alloc (.cells #[.bool false, .int .i64 0, .int .u32 0] 34)
              replace mm := mm.alloc (.cells #[.bool false, .int .i64 0, .int .u32 0] 34)
              replace mp := mp.alloc (.cells #[.bool false, .int .i64 0, .int .u32 0] 34)
              (try go_simp)
              refine hK.out _ _ (fun _ => q) ?_
              clear hK K
              (try simp only [Act.put, rA, rB, rC, rD, rE, rF])
              refine wpAnyG_one 19 (by kernel_rfl) rfl (fun K hK => ?_)
              rw [if_pos (by rfl)]
              refine wp_putB (cells := #[.int .u8 (r1).kd, .int .u8 (r1).fl, .int .i64 (r1).st, .slice B m d, .int .i64 (r1).pd, .int .i64 (r1).la, .int .i64 (r1).ic, .int .u32 (r1).cd, .slice Q qn qc, .bool (r1).rk, .bool (r1).al, .int .i64 (r1).dp, .int .u8 (r1).wt]) _ _ _ rfl rfl rfl q3 (by rfl) (by rfl) (by rfl) ?_
              intro w9 qn hg
              replace b0 := b0.grown hg l3
              replace q := q.grown hg n3
              replace q4 := q4.grown hg (q4.ne q3 (by decide))
              replace mm := mm.grownB q3 (by decide) hg
              replace mp := MineP.grownB mp q3 (by decide) hg
              clear hg q3; have q3 := qn; clear qn
              refine hK.out _ _ (fun _ => q) ?_
              clear hK K
              (try simp only [Act.put, rA, rB, rC, rD, rE, rF])
              refine wpAnyG_one 20 (by kernel_rfl) rfl (fun K hK => ?_)
              rw [if_pos (by rfl)]
              refine wp_putB (cells := #[.bool xw, .int .i64 xs, .int .u32 xc]) _ _ _ rfl rfl rfl q4 (by rfl) (by rfl) (by rfl) ?_
              intro w9 qn hg
              replace b0 := b0.grown hg l4
              replace q := q.grown hg n4
              replace q3 := q3.grown hg (q3.ne q4 (by decide))
              replace mm := mm.grownB q4 (by decide) hg
              replace mp := MineP.grownB mp q4 (by decide) hg
              clear hg q4; have q4 := qn; clear qn
              refine hK.out _ _ (fun _ => q) ?_
              clear hK K
              (try simp only [Act.put, rA, rB, rC, rD, rE, rF])
              refine wpAnyG_done (by kernel_rfl) ?_ _
              exact ⟨rfl, _, _, _, _, _, _, _, _, _, _, _, _, rfl, q3, q4, q, mm.base_le (Nat.zero_le _), MineP.base_le mp (Nat.zero_le _), b0.out⟩
            · rw [if_pos (by rfl)]
              go_simp
              obtain ⟨gz, ez, q4, l4, hz⟩ := Bel.newE b0 34 #[.bool false, .int .i64 0, .int .u32 0]
              have n4 := hz _ _ _ q
              clear hz
              (try simp only [World.size_alloc] at ez)
              subst ez
              replace b0 := b0.alloc (.cells #[.bool false, .int .i64 0, .int .u32 0] 34)
              replace q := q.alloc (.cells #[.bool false, .int .i64 0, .int .u32 0] 34)
              replace q3 := q3.alloc (.cells #[.bool false, .int .i64 0, .int .u32 0] 34)
              replace k2 := k2.alloc (.cells #[.bool false, .int .i64 0, .int .u32 0] 34)
              (try go_simp)
              refine hK.out _ _ (fun _ => q) ?_
              clear hK K
              (try simp only [Act.put, rA, rB, rC, rD, rE, rF])
              refine wpAnyG_one 13 (by kernel_rfl) rfl (fun K hK => ?_)
              rw [if_pos (by rfl)]
              go_simp
              (with_reducible refine (PA.out A2 n2 c2 _ k2.byt (by have := k2.len; have := hl.out; omega)).mono ?_)
              rintro e w9 ⟨B, m, d, Q, qn, qc, rfl, mm, mp, hb⟩
              replace b0 := b0.below hb
              replace q := q.below hb
              replace q3 := q3.below hb
              replace q4 := q4.below hb
              replace k2 := k2.below hb
              clear hb
              (try go_simp)
              refine hK.out _ _ (fun _ => q) ?_
              clear hK K
              (try simp only [Act.put, rA, rB, rC, rD, rE, rF])
              have S0 := q
              refine wpAnyG_take 14 (v := ?_) rfl (by kernel_rfl) (fun _ _ _ h => by cases h.1) S0 (Or.inl ⟨by rfl, by intro w' hSw; go_simp; try with_reducible rfl⟩) ?_; (try simp only [Act.put, rA, rB, rC, rD, rE, rF])
              refine wpAnyG_take 15 (v := ?_) rfl (by kernel_rfl) (fun _ _ _ h => by cases h.1) S0 (Or.inl ⟨by rfl, by intro w' hSw; go_simp; try with_reducible rfl⟩) ?_; (try simp only [Act.put, rA, rB, rC, rD, rE, rF])
              refine wpAnyG_take 16 (v := ?_) rfl (by kernel_rfl) (fun _ _ _ h => by cases h.1) S0 (Or.inl ⟨by rfl, by intro w' hSw; go_simp; try with_reducible rfl⟩) ?_; (try simp only [Act.put, rA, rB, rC, rD, rE, rF])
              clear S0
              refine wpAnyG_one 19 (by kernel_rfl) rfl (fun K hK => ?_)
              rw [if_pos (by rfl)]
              refine wp_putB (cells := #[.int .u8 (r1).kd, .int .u8 (r1).fl, .int .i64 (r1).st, .slice B m d, .int .i64 (r1).pd, .int .i64 (r1).la, .int .i64 (r1).ic, .int .u32 (r1).cd, .slice Q qn qc, .bool (r1).rk, .bool (r1).al, .int .i64 (r1).dp, .int .u8 (r1).wt]) _ _ _ rfl rfl rfl q3 (by rfl) (by rfl) (by rfl) ?_
              intro w9 qn hg
              replace b0 := b0.grown hg l3
              replace q := q.grown hg n3
              replace q4 := q4.grown hg (q4.ne q3 (by decide))
              replace mm := mm.grownB q3 (by decide) hg
              replace mp := MineP.grownB mp q3 (by decide) hg
              clear hg q3; have q3 := qn; clear qn
              refine hK.out _ _ (fun _ => q) ?_
              clear hK K
              (try simp only [Act.put, rA, rB, rC, rD, rE, rF])
              refine wpAnyG_one 20 (by kernel_rfl) rfl (fun K hK => ?_)
              rw [if_pos (by rfl)]
              refine wp_putB (cells := #[.bool xw, .int .i64 xs, .int .u32 xc]) _ _ _ rfl rfl rfl q4 (by rfl) (by rfl) (by rfl) ?_
              intro w9 qn hg
              replace b0 := b0.grown hg l4
              replace q := q.grown hg n4
              replace q3 := q3.grown hg (q3.ne q4 (by decide))
              replace mm := mm.grownB q4 (by decide) hg
              replace mp := MineP.grownB mp q4 (by decide) hg
              clear hg q4; have q4 := qn; clear qn
              refine hK.out _ _ (fun _ => q) ?_
              clear hK K
              (try simp only [Act.put, rA, rB, rC, rD, rE, rF])
              refine wpAnyG_done (by kernel_rfl) ?_ _
              exact ⟨rfl, _, _, _, _, _, _, _, _, _, _, _, _, rfl, q3, q4, q, mm.base_le (Nat.zero_le _), MineP.base_le mp (Nat.zero_le _), b0.out⟩
          · rw [if_pos (by rfl)]
            go_simp
            obtain ⟨gz, ez, q4, l4, hz⟩ := Bel.newE b0 34 #[.bool false, .int .i64 0, .int .u32 0]
            have n4 := hz _ _ _ q
            clear hz
            (try simp only [World.size_alloc] at ez)
            subst ez
            replace b0 := b0.alloc (.cells #[.bool false, .int .i64 0, .int .u32 0] 34)
            replace q := q.alloc (.cells #[.bool false, .int .i64 0, .int .u32 0] 34)
            replace k2 := k2.alloc (.cells #[.bool false, .int .i64 0, .int .u32 0] 34)
            (try go_simp)
            refine hK.out _ _ (fun _ => q) ?_
            clear hK K
            (try simp only [Act.put, rA, rB, rC, rD, rE, rF])
            refine wpAnyG_two 13 17 (by kernel_rfl) rfl rfl (fun K hK => ?_) (fun K hK => ?_)
            · rw [if_pos (by rfl)]
              go_simp
              (with_reducible refine (PA.out A2 n2 c2 _ k2.byt (by have := k2.len; have := hl.out; omega)).mono ?_)
              rintro e w9 ⟨B, m, d, Q, qn, qc, rfl, mm, mp, hb⟩
              replace b0 := b0.below hb
              replace q := q.below hb
              replace q4 := q4.below hb
              replace k2 := k2.below hb
              clear hb
              (try go_simp)
              refine hK.out _ _ (fun _ => q) ?_
              clear hK K
              (try simp only [Act.put, rA, rB, rC, rD, rE, rF])
              have S0 := q
              refine wpAnyG_take 14 (v := ?_) rfl (by kernel_rfl) (fun _ _ _ h => by cases h.1) S0 (Or.inl ⟨by rfl, by intro w' hSw; go_simp; try with_reducible rfl⟩) ?_; (try simp only [Act.put, rA, rB, rC, rD, rE, rF])
              refine wpAnyG_take 15 (v := ?_) rfl (by kernel_rfl) (fun _ _ _ h => by cases h.1) S0 (Or.inl ⟨by rfl, by intro w' hSw; go_simp; try with_reducible rfl⟩) ?_; (try simp only [Act.put, rA, rB, rC, rD, rE, rF])
              refine wpAnyG_take 16 (v := ?_) rfl (by kernel_rfl) (fun _ _ _ h => by cases h.1) S0 (Or.inl ⟨by rfl, by intro w' hSw; go_simp; try with_reducible rfl⟩) ?_; (try simp only [Act.put, rA, rB, rC, rD, rE, rF])
              clear S0
              refine wpAnyG_one 17 (by kernel_rfl) rfl (fun K hK => ?_)
              rw [if_pos (by rfl)]
              go_simp
              obtain ⟨gz, ez, q3, l3, hz⟩ := Bel.newE b0 30 zF
              have n3 := hz _ _ _ q
              clear hz
              (try simp only [World.size_alloc] at ez)
              subst ez
              replace b0 := b0.alloc (.cells zF 30)
              replace q := q.alloc (.cells zF 30)
              replace q4 := q4.alloc (.cells zF 30)
              replace k2 := k2.alloc (.cells zF 30)
              replace mm := mm.alloc (.cells zF 30)
              replace mp := mp.alloc (.cells zF 30)
              (try go_simp)
              refine hK.out _ _ (fun _ => q) ?_
              clear hK K
              (try simp only [Act.put, rA, rB, rC, rD, rE, rF])
              refine wpAnyG_one 19 (by kernel_rfl) rfl (fun K hK => ?_)
              rw [if_pos (by rfl)]
              refine wp_putB (cells := #[.int .u8 (r1).kd, .int .u8 (r1).fl, .int .i64 (r1).st, .slice B m d, .int .i64 (r1).pd, .int .i64 (r1).la, .int .i64 (r1).ic, .int .u32 (r1).cd, .slice Q qn qc, .bool (r1).rk, .bool (r1).al, .int .i64 (r1).dp, .int .u8 (r1).wt]) _ _ _ rfl rfl rfl q3 (by rfl) (by rfl) (by rfl) ?_
              intro w9 qn hg
              replace b0 := b0.grown hg l3
              replace q := q.grown hg n3
              replace q4 := q4.grown hg (q4.ne q3 (by decide))
              replace mm := mm.grownB q3 (by decide) hg
              replace mp := MineP.grownB mp q3 (by decide) hg
              clear hg q3; have q3 := qn; clear qn
              refine hK.out _ _ (fun _ => q) ?_
              clear hK K
              (try simp only [Act.put, rA, rB, rC, rD, rE, rF])
              refine wpAnyG_one 20 (by kernel_rfl) rfl (fun K hK => ?_)
              rw [if_pos (by rfl)]
              refine wp_putB (cells := #[.bool xw, .int .i64 xs, .int .u32 xc]) _ _ _ rfl rfl rfl q4 (by rfl) (by rfl) (by rfl) ?_
              intro w9 qn hg
              replace b0 := b0.grown hg l4
              replace q := q.grown hg n4
              replace q3 := q3.grown hg (q3.ne q4 (by decide))
              replace mm := mm.grownB q4 (by decide) hg
              replace mp := MineP.grownB mp q4 (by decide) hg
              clear hg q4; have q4 := qn; clear qn
              refine hK.out _ _ (fun _ => q) ?_
              clear hK K
              (try simp only [Act.put, rA, rB, rC, rD, rE, rF])
              refine wpAnyG_done (by kernel_rfl) ?_ _
              exact ⟨rfl, _, _, _, _, _, _, _, _, _, _, _, _, rfl, q3, q4, q, mm.base_le (Nat.zero_le _), MineP.base_le mp (Nat.zero_le _), b0.out⟩
            · rw [if_pos (by rfl)]
              go_simp
              obtain ⟨gz, ez, q3, l3, hz⟩ := Bel.newE b0 30 zF
              have n3 := hz _ _ _ q
              clear hz
              (try simp only [World.size_alloc] at ez)
              subst ez
              replace b0 := b0.alloc (.cells zF 30)
              replace q := q.alloc (.cells zF 30)
              replace q4 := q4.alloc (.cells zF 30)
              replace k2 := k2.alloc (.cells zF 30)
              (try go_simp)
              refine hK.out _ _ (fun _ => q) ?_
              clear hK K
              (try simp only [Act.put, rA, rB, rC, rD, rE, rF])
              refine wpAnyG_one 13 (by kernel_rfl) rfl (fun K hK => ?_)
              rw [if_pos (by rfl)]
              go_simp
              (with_reducible refine (PA.out A2 n2 c2 _ k2.byt (by have := k2.len; have := hl.out; omega)).mono ?_)
              rintro e w9 ⟨B, m, d, Q, qn, qc, rfl, mm, mp, hb⟩
              replace b0 := b0.below hb
              replace q := q.below hb
              replace q3 := q3.below hb
              replace q4 := q4.below hb
              replace k2 := k2.below hb
              clear hb
              (try go_simp)
              refine hK.out _ _ (fun _ => q) ?_
              clear hK K
              (try simp only [Act.put, rA, rB, rC, rD, rE, rF])
              have S0 := q
              refine wpAnyG_take 14 (v := ?_) rfl (by kernel_rfl) (fun _ _ _ h => by cases h.1) S0 (Or.inl ⟨by rfl, by intro w' hSw; go_simp; try with_reducible rfl⟩) ?_; (try simp only [Act.put, rA, rB, rC, rD, rE, rF])
              refine wpAnyG_take 15 (v := ?_) rfl (by kernel_rfl) (fun _ _ _ h => by cases h.1) S0 (Or.inl ⟨by rfl, by intro w' hSw; go_simp; try with_reducible rfl⟩) ?_; (try simp only [Act.put, rA, rB, rC, rD, rE, rF])
              refine wpAnyG_take 16 (v := ?_) rfl (by kernel_rfl) (fun _ _ _ h => by cases h.1) S0 (Or.inl ⟨by rfl, by intro w' hSw; go_simp; try with_reducible rfl⟩) ?_; (try simp only [Act.put, rA, rB, rC, rD, rE, rF])
              clear S0
              refine wpAnyG_one 19 (by kernel_rfl) rfl (fun K hK => ?_)
              rw [if_pos (by rfl)]
              refine wp_putB (cells := #[.int .u8 (r1).kd, .int .u8 (r1).fl, .int .i64 (r1).st, .slice B m d, .int .i64 (r1).pd, .int .i64 (r1).la, .int .i64 (r1).ic, .int .u32 (r1).cd, .slice Q qn qc, .bool (r1).rk, .bool (r1).al, .int .i64 (r1).dp, .int .u8 (r1).wt]) _ _ _ rfl rfl rfl q3 (by rfl) (by rfl) (by rfl) ?_
              intro w9 qn hg
              replace b0 := b0.grown hg l3
              replace q := q.grown hg n3
              replace q4 := q4.grown hg (q4.ne q3 (by decide))
              replace mm := mm.grownB q3 (by decide) hg
              replace mp := MineP.grownB mp q3 (by decide) hg
              clear hg q3; have q3 := qn; clear qn
              refine hK.out _ _ (fun _ => q) ?_
              clear hK K
              (try simp only [Act.put, rA, rB, rC, rD, rE, rF])
              refine wpAnyG_one 20 (by kernel_rfl) rfl (fun K hK => ?_)
              rw [if_pos (by rfl)]
              refine wp_putB (cells := #[.bool xw, .int .i64 xs, .int .u32 xc]) _ _ _ rfl rfl rfl q4 (by rfl) (by rfl) (by rfl) ?_
              intro w9 qn hg
              replace b0 := b0.grown hg l4
              replace q := q.grown hg n4
              replace q3 := q3.grown hg (q3.ne q4 (by decide))
              replace mm := mm.grownB q4 (by decide) hg
              replace mp := MineP.grownB mp q4 (by decide) hg
              clear hg q4; have q4 := qn; clear qn
              refine hK.out _ _ (fun _ => q) ?_
              clear hK K
              (try simp only [Act.put, rA, rB, rC, rD, rE, rF])
              refine wpAnyG_done (by kernel_rfl) ?_ _
              exact ⟨rfl, _, _, _, _, _, _, _, _, _, _, _, _, rfl, q3, q4, q, mm.base_le (Nat.zero_le _), MineP.base_le mp (Nat.zero_le _), b0.out⟩
        · rw [if_pos (by rfl)]
          go_simp
          obtain ⟨gz, ez, q3, l3, hz⟩ := Bel.newE b0 30 zF
          have n3 := hz _ _ _ q
          clear hz
          (try simp only [World.size_alloc] at ez)
          subst ez
          replace b0 := b0.alloc (.cells zF 30)
          replace q := q.alloc (.cells zF 30)
          (try go_simp)
          refine hK.out _ _ (fun _ => q) ?_
          clear hK K
          (try simp only [Act.put, rA, rB, rC, rD, rE, rF])
          refine wpAnyG_two 12 18 (by kernel_rfl) rfl rfl (fun K hK => ?_) (fun K hK => ?_)
          · rw [if_pos (by rfl)]
            go_simp
            (with_reducible refine (PT.out _ (H0.out.below b0.out) (P0.out.below b0.out)).mono ?_)
            rintro e w9 ⟨A2, n2, c2, rfl, k2, hb⟩
            replace b0 := b0.below hb
            replace q := q.below hb
            replace q3 := q3.below hb
            clear hb
            (try go_simp)
            refine hK.out _ _ (fun _ => q) ?_
            clear hK K
            (try simp only [Act.put, rA, rB, rC, rD, rE, rF])
            refine wpAnyG_two 13 18 (by kernel_rfl) rfl rfl (fun K hK => ?_) (fun K hK => ?_)
            · rw [if_pos (by rfl)]
              go_simp
              (with_reducible refine (PA.out A2 n2 c2 _ k2.byt (by have := k2.len; have := hl.out; omega)).mono ?_)
              rintro e w9 ⟨B, m, d, Q, qn, qc, rfl, mm, mp, hb⟩
              replace b0 := b0.below hb
              replace q := q.below hb
              replace q3 := q3.below hb
              replace k2 := k2.below hb
              clear hb
              (try go_simp)
              refine hK.out _ _ (fun _ => q) ?_
              clear hK K
              (try simp only [Act.put, rA, rB, rC, rD, rE, rF])
              have S0 := q
              refine wpAnyG_take 14 (v := ?_) rfl (by kernel_rfl) (fun _ _ _ h => by cases h.1) S0 (Or.inl ⟨by rfl, by intro w' hSw; go_simp; try with_reducible rfl⟩) ?_; (try simp only [Act.put, rA, rB, rC, rD, rE, rF])
              refine wpAnyG_take 15 (v := ?_) rfl (by kernel_rfl) (fun _ _ _ h => by cases h.1) S0 (Or.inl ⟨by rfl, by intro w' hSw; go_simp; try with_reducible rfl⟩) ?_; (try simp only [Act.put, rA, rB, rC, rD, rE, rF])
              refine wpAnyG_take 16 (v := ?_) rfl (by kernel_rfl) (fun _ _ _ h => by cases h.1) S0 (Or.inl ⟨by rfl, by intro w' hSw; go_simp; try with_reducible rfl⟩) ?_; (try simp only [Act.put, rA, rB, rC, rD, rE, rF])
              clear S0
              refine wpAnyG_one 18 (by kernel_rfl) rfl (fun K hK => ?_)
              rw [if_pos (by rfl)]
              go_simp
              obtain ⟨gz, ez, q4, l4, hz⟩ := Bel.newE b0 34 #[.bool false, .int .i64 0, .int .u32 0]
              have n4 := hz _ _ _ q
              clear hz
              (try simp only [World.size_alloc] at ez)
              subst ez
              replace b0 := b0.alloc (.cells #[.bool false, .int .i64 0, .int .u32 0] 34)
              replace q := q.alloc (.cells #[.bool false, .int .i64 0, .int .u32 0] 34)
              replace q3 := q3.alloc (.cells #[.bool false, .int .i64 0, .int .u32 0] 34)
              replace k2 := k2.alloc (.cells #[.bool false, .int .i64 0, .int .u32 0] 34)
              replace mm := mm.alloc (.cells #[.bool false, .int .i64 0, .int .u32 0] 34)
              replace mp := mp.alloc (.cells #[.bool false, .int .i64 0, .int .u32 0] 34)
              (try go_simp)
              refine hK.out _ _ (fun _ => q) ?_
              clear hK K
              (try simp only [Act.put, rA, rB, rC, rD, rE, rF])
              refine wpAnyG_one 19 (by kernel_rfl) rfl (fun K hK => ?_)
              rw [if_pos (by rfl)]
              refine wp_putB (cells := #[.int .u8 (r1).kd, .int .u8 (r1).fl, .int .i64 (r1).st, .slice B m d, .int .i64 (r1).pd, .int .i64 (r1).la, .int .i64 (r1).ic, .int .u32 (r1).cd, .slice Q qn qc, .bool (r1).rk, .bool (r1).al, .int .i64 (r1).dp, .int .u8 (r1).wt]) _ _ _ rfl rfl rfl q3 (by rfl) (by rfl) (by rfl) ?_
              intro w9 qn hg
              replace b0 := b0.grown hg l3
              replace q := q.grown hg n3
              replace q4 := q4.grown hg (q4.ne q3 (by decide))
              replace mm := mm.grownB q3 (by decide) hg
              replace mp := MineP.grownB mp q3 (by decide) hg
              clear hg q3; have q3 := qn; clear qn
              refine hK.out _ _ (fun _ => q) ?_
              clear hK K
              (try simp only [Act.put, rA, rB, rC, rD, rE, rF])
              refine wpAnyG_one 20 (by kernel_rfl) rfl (fun K hK => ?_)
              rw [if_pos (by rfl)]
              refine wp_putB (cells := #[.bool xw, .int .i64 xs, .int .u32 xc]) _ _ _ rfl rfl rfl q4 (by rfl) (by rfl) (by rfl) ?_
              intro w9 qn hg
              replace b0 := b0.grown hg l4
              replace q := q.grown hg n4
              replace q3 := q3.grown hg (q3.ne q4 (by decide))
              replace mm := mm.grownB q4 (by decide) hg
              replace mp := MineP.grownB mp q4 (by decide) hg
              clear hg q4; have q4 := qn; clear qn
              refine hK.out _ _ (fun _ => q) ?_
              clear hK K
              (try simp only [Act.put, rA, rB, rC, rD, rE, rF])
              refine wpAnyG_done (by kernel_rfl) ?_ _
              exact ⟨rfl, _, _, _, _, _, _, _, _, _, _, _, _, rfl, q3, q4, q, mm.base_le (Nat.zero_le _), MineP.base_le mp (Nat.zero_le _), b0.out⟩
            · rw [if_pos (by rfl)]
              go_simp
              obtain ⟨gz, ez, q4, l4, hz⟩ := Bel.newE b0 34 #[.bool false, .int .i64 0, .int .u32 0]
              have n4 := hz _ _ _ q
              clear hz
              (try simp only [World.size_alloc] at ez)
              subst ez
              replace b0 := b0.alloc (.cells #[.bool false, .int .i64 0, .int .u32 0] 34)
              replace q := q.alloc (.cells #[.bool false, .int .i64 0, .int .u32 0] 34)
              replace q3 := q3.alloc (.cells #[.bool false, .int .i64 0, .int .u32 0] 34)
              replace k2 := k2.alloc (.cells #[.bool false, .int .i64 0, .int .u32 0] 34)
              (try go_simp)
              refine hK.out _ _ (fun _ => q) ?_
              clear hK K
              (try simp only [Act.put, rA, rB, rC, rD, rE, rF])
              refine wpAnyG_one 13 (by kernel_rfl) rfl (fun K hK => ?_)
              rw [if_pos (by rfl)]
              go_simp
              (with_reducible refine (PA.out A2 n2 c2 _ k2.byt (by have := k2.len; have := hl.out; omega)).mono ?_)
              rintro e w9 ⟨B, m, d, Q, qn, qc, rfl, mm, mp, hb⟩
              replace b0 := b0.below hb
              replace q := q.below hb
              replace q3 := q3.below hb
              replace q4 := q4.below hb
              replace k2 := k2.below hb
              clear hb
              (try go_simp)
              refine hK.out _ _ (fun _ => q) ?_
              clear hK K
              (try simp only [Act.put, rA, rB, rC, rD, rE, rF])
              have S0 := q
              refine wpAnyG_take 14 (v := ?_) rfl (by kernel_rfl) (fun _ _ _ h => by cases h.1) S0 (Or.inl ⟨by rfl, by intro w' hSw; go_simp; try with_reducible rfl⟩) ?_; (try simp only [Act.put, rA, rB, rC, rD, rE, rF])
              refine wpAnyG_take 15 (v := ?_) rfl (by kernel_rfl) (fun _ _ _ h => by cases h.1) S0 (Or.inl ⟨by rfl, by intro w' hSw; go_simp; try with_reducible rfl⟩) ?_; (try simp only [Act.put, rA, rB, rC, rD, rE, rF])
              refine wpAnyG_take 16 (v := ?_) rfl (by kernel_rfl) (fun _ _ _ h => by cases h.1) S0 (Or.inl ⟨by rfl, by intro w' hSw; go_simp; try with_reducible rfl⟩) ?_; (try simp only [Act.put, rA, rB, rC, rD, rE, rF])
              clear S0
              refine wpAnyG_one 19 (by kernel_rfl) rfl (fun K hK => ?_)
              rw [if_pos (by rfl)]
              refine wp_putB (cells := #[.int .u8 (r1).kd, .int .u8 (r1).fl, .int .i64 (r1).st, .slice B m d, .int .i64 (r1).pd, .int .i64 (r1).la, .int .i64 (r1).ic, .int .u32 (r1).cd, .slice Q qn qc, .bool (r1).rk, .bool (r1).al, .int .i64 (r1).dp, .int .u8 (r1).wt]) _ _ _ rfl rfl rfl q3 (by rfl) (by rfl) (by rfl) ?_
              intro w9 qn hg
              replace b0 := b0.grown hg l3
              replace q := q.grown hg n3
              replace q4 := q4.grown hg (q4.ne q3 (by decide))
              replace mm := mm.grownB q3 (by decide) hg
              replace mp := MineP.grownB mp q3 (by decide) hg
              clear hg q3; have q3 := qn; clear qn
              refine hK.out _ _ (fun _ => q) ?_
              clear hK K
              (try simp only [Act.put, rA, rB, rC, rD, rE, rF])
              refine wpAnyG_one 20 (by kernel_rfl) rfl (fun K hK => ?_)
              rw [if_pos (by rfl)]
              refine wp_putB (cells := #[.bool xw, .int .i64 xs, .int .u32 xc]) _ _ _ rfl rfl rfl q4 (by rfl) (by rfl) (by rfl) ?_
              intro w9 qn hg
              replace b0 := b0.grown hg l4
              replace q := q.grown hg n4
              replace q3 := q3.grown hg (q3.ne q4 (by decide))
              replace mm := mm.grownB q4 (by decide) hg
              replace mp := MineP.grownB mp q4 (by decide) hg
              clear hg q4; have q4 := qn; clear qn
              refine hK.out _ _ (fun _ => q) ?_
              clear hK K
              (try simp only [Act.put, rA, rB, rC, rD, rE, rF])
              refine wpAnyG_done (by kernel_rfl) ?_ _
              exact ⟨rfl, _, _, _, _, _, _, _, _, _, _, _, _, rfl, q3, q4, q, mm.base_le (Nat.zero_le _), MineP.base_le mp (Nat.zero_le _), b0.out⟩
          · rw [if_pos (by rfl)]
            go_simp
            obtain ⟨gz, ez, q4, l4, hz⟩ := Bel.newE b0 34 #[.bool false, .int .i64 0, .int .u32 0]
            have n4 := hz _ _ _ q
            clear hz
            (try simp only [World.size_alloc] at ez)
            subst ez
            replace b0 := b0.alloc (.cells #[.bool false, .int .i64 0, .int .u32 0] 34)
            replace q := q.alloc (.cells #[.bool false, .int .i64 0, .int .u32 0] 34)
            replace q3 := q3.alloc (.cells #[.bool false, .int .i64 0, .int .u32 0] 34)
            (try go_simp)
            refine hK.out _ _ (fun _ => q) ?_
            clear hK K
            (try simp only [Act.put, rA, rB, rC, rD, rE, rF])
            refine wpAnyG_one 12 (by kernel_rfl) rfl (fun K hK => ?_)
            rw [if_pos (by rfl)]
            go_simp
            (with_reducible refine (PT.out _ (H0.out.below b0.out) (P0.out.below b0.out)).mono ?_)
            rintro e w9 ⟨A2, n2, c2, rfl, k2, hb⟩
            replace b0 := b0.below hb
            replace q := q.below hb
            replace q3 := q3.below hb
            replace q4 := q4.below hb
            clear hb
            (try go_simp)
            refine hK.out _ _ (fun _ => q) ?_
            clear hK K
            (try simp only [Act.put, rA, rB, rC, rD, rE, rF])
            refine wpAnyG_one 13 (by kernel_rfl) rfl (fun K hK => ?_)
            rw [if_pos (by rfl)]
            go_simp
            (with_reducible refine (PA.out A2 n2 c2 _ k2.byt (by have := k2.len; have := hl.out; omega)).mono ?_)
            rintro e w9 ⟨B, m, d, Q, qn, qc, rfl, mm, mp, hb⟩
            replace b0 := b0.below hb
            replace q := q.below hb
            replace q3 := q3.below hb
            replace q4 := q4.below hb
            replace k2 := k2.below hb
            clear hb
            (try go_simp)
            refine hK.out _ _ (fun _ => q) ?_
            clear hK K
            (try simp only [Act.put, rA, rB, rC, rD, rE, rF])
            have S0 := q
            refine wpAnyG_take 14 (v := ?_) rfl (by kernel_rfl) (fun _ _ _ h => by cases h.1) S0 (Or.inl ⟨by rfl, by intro w' hSw; go_simp; try with_reducible rfl⟩) ?_; (try simp only [Act.put, rA, rB, rC, rD, rE, rF])
            refine wpAnyG_take 15 (v := ?_) rfl (by kernel_rfl) (fun _ _ _ h => by cases h.1) S0 (Or.inl ⟨by rfl, by intro w' hSw; go_simp; try with_reducible rfl⟩) ?_; (try simp only [Act.put, rA, rB, rC, rD, rE, rF])
            refine wpAnyG_take 16 (v := ?_) rfl (by kernel_rfl) (fun _ _ _ h => by cases h.1) S0 (Or.inl ⟨by rfl, by intro w' hSw; go_simp; try with_reducible rfl⟩) ?_; (try simp only [Act.put, rA, rB, rC, rD, rE, rF])
            clear S0
            refine wpAnyG_one 19 (by kernel_rfl) rfl (fun K hK => ?_)
            rw [if_pos (by rfl)]
            refine wp_putB (cells := #[.int .u8 (r1).kd, .int .u8 (r1).fl, .int .i64 (r1).st, .slice B m d, .int .i64 (r1).pd, .int .i64 (r1).la, .int .i64 (r1).ic, .int .u32 (r1).cd, .slice Q qn qc, .bool (r1).rk, .bool (r1).al, .int .i64 (r1).dp, .int .u8 (r1).wt]) _ _ _ rfl rfl rfl q3 (by rfl) (by rfl) (by rfl) ?_
            intro w9 qn hg
            replace b0 := b0.grown hg l3
            replace q := q.grown hg n3
            replace q4 := q4.grown hg (q4.ne q3 (by decide))
            replace mm := mm.grownB q3 (by decide) hg
            replace mp := MineP.grownB mp q3 (by decide) hg
            clear hg q3; have q3 := qn; clear qn
            refine hK.out _ _ (fun _ => q) ?_
            clear hK K
            (try simp only [Act.put, rA, rB, rC, rD, rE, rF])
            refine wpAnyG_one 20 (by kernel_rfl) rfl (fun K hK => ?_)
            rw [if_pos (by rfl)]
            refine wp_putB (cells := #[.bool xw, .int .i64 xs, .int .u32 xc]) _ _ _ rfl rfl rfl q4 (by rfl) (by rfl) (by rfl) ?_
            intro w9 qn hg
            replace b0 := b0.grown hg l4
            replace q := q.grown hg n4
            replace q3 := q3.grown hg (q3.ne q4 (by decide))
            replace mm := mm.grownB q4 (by decide) hg
            replace mp := MineP.grownB mp q4 (by decide) hg
            clear hg q4; have q4 := qn; clear qn
            refine hK.out _ _ (fun _ => q) ?_
            clear hK K
            (try simp only [Act.put, rA, rB, rC, rD, rE, rF])
            refine wpAnyG_done (by kernel_rfl) ?_ _
            exact ⟨rfl, _, _, _, _, _, _, _, _, _, _, _, _, rfl, q3, q4, q, mm.base_le (Nat.zero_le _), MineP.base_le mp (Nat.zero_le _), b0.out⟩
        · rw [if_pos (by rfl)]
          go_simp
          obtain ⟨gz, ez, q4, l4, hz⟩ := Bel.newE b0 34 #[.bool false, .int .i64 0, .int .u32 0]
          have n4 := hz _ _ _ q
          clear hz
          (try simp only [World.size_alloc] at ez)
          subst ez
          replace b0 := b0.alloc (.cells #[.bool false, .int .i64 0, .int .u32 0] 34)
          replace q := q.alloc (.cells #[.bool false, .int .i64 0, .int .u32 0] 34)
          (try go_simp)
          refine hK.out _ _ (fun _ => q) ?_
          clear hK K
          (try simp only [Act.put, rA, rB, rC, rD, rE, rF])
          refine wpAnyG_two 12 17 (by kernel_rfl) rfl rfl (fun K hK => ?_) (fun K hK => ?_)
          · rw [if_pos (by rfl)]
            go_simp
            (with_reducible refine (PT.out _ (H0.out.below b0.out) (P0.out.below b0.out)).mono ?_)
            rintro e w9 ⟨A2, n2, c2, rfl, k2, hb⟩
            replace b0 := b0.below hb
            replace q := q.below hb
            replace q4 := q4.below hb
            clear hb
            (try go_simp)
            refine hK.out _ _ (fun _ => q) ?_
            clear hK K
            (try simp only [Act.put, rA, rB, rC, rD, rE, rF])
            refine wpAnyG_two 13 17 (by kernel_rfl) rfl rfl (fun K hK => ?_) (fun K hK => ?_)
            · rw [if_pos (by rfl)]
              go_simp
              (with_reducible refine (PA.out A2 n2 c2 _ k2.byt (by have := k2.len; have := hl.out; omega)).mono ?_)
              rintro e w9 ⟨B, m, d, Q, qn, qc, rfl, mm, mp, hb⟩
              replace b0 := b0.below hb
              replace q := q.below hb
              replace q4 := q4.below hb
              replace k2 := k2.below hb
              clear hb
              (try go_simp)
              refine hK.out _ _ (fun _ => q) ?_
              clear hK K
              (try simp only [Act.put, rA, rB, rC, rD, rE, rF])
              have S0 := q
              refine wpAnyG_take 14 (v := ?_) rfl (by kernel_rfl) (fun _ _ _ h => by cases h.1) S0 (Or.inl ⟨by rfl, by intro w' hSw; go_simp; try with_reducible rfl⟩) ?_; (try simp only [Act.put, rA, rB, rC, rD, rE, rF])
              refine wpAnyG_take 15 (v := ?_) rfl (by kernel_rfl) (fun _ _ _ h => by cases h.1) S0 (Or.inl ⟨by rfl, by intro w' hSw; go_simp; try with_reducible rfl⟩) ?_; (try simp only [Act.put, rA, rB, rC, rD, rE, rF])
              refine wpAnyG_take 16 (v := ?_) rfl (by kernel_rfl) (fun _ _ _ h => by cases h.1) S0 (Or.inl ⟨by rfl, by intro w' hSw; go_simp; try with_reducible rfl⟩) ?_; (try simp only [Act.put, rA, rB, rC, rD, rE, rF])
              clear S0
              refine wpAnyG_one 17 (by kernel_rfl) rfl (fun K hK => ?_)
              rw [if_pos (by rfl)]
              go_simp
              obtain ⟨gz, ez, q3, l3, hz⟩ := Bel.newE b0 30 zF
              have n3 := hz _ _ _ q
              clear hz
              (try simp only [World.size_alloc] at ez)
              subst ez
              replace b0 := b0.alloc (.cells zF 30)
              replace q := q.alloc (.cells zF 30)
              replace q4 := q4.alloc (.cells zF 30)
              replace k2 := k2.alloc (.cells zF 30)
              replace mm := mm.alloc (.cells zF 30)
              replace mp := mp.alloc (.cells zF 30)
              (try go_simp)
              refine hK.out _ _ (fun _ => q) ?_
              clear hK K
              (try simp only [Act.put, rA, rB, rC, rD, rE, rF])
              refine wpAnyG_one 19 (by kernel_rfl) rfl (fun K hK => ?_)
              rw [if_pos (by rfl)]
              refine wp_putB (cells := #[.int .u8 (r1).kd, .int .u8 (r1).fl, .int .i64 (r1).st, .slice B m d, .int .i64 (r1).pd, .int .i64 (r1).la, .int .i64 (r1).ic, .int .u32 (r1).cd, .slice Q qn qc, .bool (r1).rk, .bool (r1).al, .int .i64 (r1).dp, .int .u8 (r1).wt]) _ _ _ rfl rfl rfl q3 (by rfl) (by rfl) (by rfl) ?_
              intro w9 qn hg
              replace b0 := b0.grown hg l3
              replace q := q.grown hg n3
              replace q4 := q4.grown hg (q4.ne q3 (by decide))
              replace mm := mm.grownB q3 (by decide) hg
              replace mp := MineP.grownB mp q3 (by decide) hg
              clear hg q3; have q3 := qn; clear qn
              refine hK.out _ _ (fun _ => q) ?_
              clear hK K
              (try simp only [Act.put, rA, rB, rC, rD, rE, rF])
              refine wpAnyG_one 20 (by kernel_rfl) rfl (fun K hK => ?_)
              rw [if_pos (by rfl)]
              refine wp_putB (cells := #[.bool xw, .int .i64 xs, .int .u32 xc]) _ _ _ rfl rfl rfl q4 (by rfl) (by rfl) (by rfl) ?_
              intro w9 qn hg
              replace b0 := b0.grown hg l4
              replace q := q.grown hg n4
              replace q3 := q3.grown hg (q3.ne q4 (by decide))
              replace mm := mm.grownB q4 (by decide) hg
              replace mp := MineP.grownB mp q4 (by decide) hg
              clear hg q4; have q4 := qn; clear qn
              refine hK.out _ _ (fun _ => q) ?_
              clear hK K
              (try simp only [Act.put, rA, rB, rC, rD, rE, rF])
              refine wpAnyG_done (by kernel_rfl) ?_ _
              exact ⟨rfl, _, _, _, _, _, _, _, _, _, _, _, _, rfl, q3, q4, q, mm.base_le (Nat.zero_le _), MineP.base_le mp (Nat.zero_le _), b0.out⟩
            · rw [if_pos (by rfl)]
              go_simp
              obtain ⟨gz, ez, q3, l3, hz⟩ := Bel.newE b0 30 zF
              have n3 := hz _ _ _ q
              clear hz
              (try simp only [World.size_alloc] at ez)
              subst ez
              replace b0 := b0.alloc (.cells zF 30)
              replace q := q.alloc (.cells zF 30)
              replace q4 := q4.alloc (.cells zF 30)
              replace k2 := k2.alloc (.cells zF 30)
              (try go_simp)
              refine hK.out _ _ (fun _ => q) ?_
              clear hK K
              (try simp only [Act.put, rA, rB, rC, rD, rE, rF])
              refine wpAnyG_one 13 (by kernel_rfl) rfl (fun K hK => ?_)
              rw [if_pos (by rfl)]
              go_simp
              (with_reducible refine (PA.out A2 n2 c2 _ k2.byt (by have := k2.len; have := hl.out; omega)).mono ?_)
              rintro e w9 ⟨B, m, d, Q, qn, qc, rfl, mm, mp, hb⟩
              replace b0 := b0.below hb
              replace q := q.below hb
              replace q3 := q3.below hb
              replace q4 := q4.below hb
              replace k2 := k2.below hb
              clear hb
              (try go_simp)
              refine hK.out _ _ (fun _ => q) ?_
              clear hK K
              (try simp only [Act.put, rA, rB, rC, rD, rE, rF])
              have S0 := q
              refine wpAnyG_take 14 (v := ?_) rfl (by kernel_rfl) (fun _ _ _ h => by cases h.1) S0 (Or.inl ⟨by rfl, by intro w' hSw; go_simp; try with_reducible rfl⟩) ?_; (try simp only [Act.put, rA, rB, rC, rD, rE, rF])
              refine wpAnyG_take 15 (v := ?_) rfl (by kernel_rfl) (fun _ _ _ h => by cases h.1) S0 (Or.inl ⟨by rfl, by intro w' hSw; go_simp; try with_reducible rfl⟩) ?_; (try simp only [Act.put, rA, rB, rC, rD, rE, rF])
              refine wpAnyG_take 16 (v := ?_) rfl (by kernel_rfl) (fun _ _ _ h => by cases h.1) S0 (Or.inl ⟨by rfl, by intro w' hSw; go_simp; try with_reducible rfl⟩) ?_; (try simp only [Act.put, rA, rB, rC, rD, rE, rF])
              clear S0
              refine wpAnyG_one 19 (by kernel_rfl) rfl (fun K hK => ?_)
              rw [if_pos (by rfl)]
              refine wp_putB (cells := #[.int .u8 (r1).kd, .int .u8 (r1).fl, .int .i64 (r1).st, .slice B m d, .int .i64 (r1).pd, .int .i64 (r1).la, .int .i64 (r1).ic, .int .u32 (r1).cd, .slice Q qn qc, .bool (r1).rk, .bool (r1).al, .int .i64 (r1).dp, .int .u8 (r1).wt]) _ _ _ rfl rfl rfl q3 (by rfl) (by rfl) (by rfl) ?_
              intro w9 qn hg
              replace b0 := b0.grown hg l3
              replace q := q.grown hg n3
              replace q4 := q4.grown hg (q4.ne q3 (by decide))
              replace mm := mm.grownB q3 (by decide) hg
              replace mp := MineP.grownB mp q3 (by decide) hg
              clear hg q3; have q3 := qn; clear qn
              refine hK.out _ _ (fun _ => q) ?_
              clear hK K
              (try simp only [Act.put, rA, rB, rC, rD, rE, rF])
              refine wpAnyG_one 20 (by kernel_rfl) rfl (fun K hK => ?_)
              rw [if_pos (by rfl)]
              refine wp_putB (cells := #[.bool xw, .int .i64 xs, .int .u32 xc]) _ _ _ rfl rfl rfl q4 (by rfl) (by rfl) (by rfl) ?_
              intro w9 qn hg
              replace b0 := b0.grown hg l4
              replace q := q.grown hg n4
              replace q3 := q3.grown hg (q3.ne q4 (by decide))
              replace mm := mm.grownB q4 (by decide) hg
              replace mp := MineP.grownB mp q4 (by decide) hg
              clear hg q4; have q4 := qn; clear qn
              refine hK.out _ _ (fun _ => q) ?_
              clear hK K
              (try simp only [Act.put, rA, rB, rC, rD, rE, rF])
              refine wpAnyG_done (by kernel_rfl) ?_ _
              exact ⟨rfl, _, _, _, _, _, _, _, _, _, _, _, _, rfl, q3, q4, q, mm.base_le (Nat.zero_le _), MineP.base_le mp (Nat.zero_le _), b0.out⟩
          · rw [if_pos (by rfl)]
            go_simp
            obtain ⟨gz, ez, q3, l3, hz⟩ := Bel.newE b0 30 zF
            have n3 := hz _ _ _ q
            clear hz
            (try simp only [World.size_alloc] at ez)
            subst ez
            replace b0 := b0.alloc (.cells zF 30)
            replace q := q.alloc (.cells zF 30)
            replace q4 := q4.alloc (.cells zF 30)
            (try go_simp)
            refine hK.out _ _ (fun _ => q) ?_
            clear hK K
            (try simp only [Act.put, rA, rB, rC, rD, rE, rF])
            refine wpAnyG_one 12 (by kernel_rfl) rfl (fun K hK => ?_)
            rw [if_pos (by rfl)]
            go_simp
            (with_reducible refine (PT.out _ (H0.out.below b0.out) (P0.out.below b0.out)).mono ?_)
            rintro e w9 ⟨A2, n2, c2, rfl, k2, hb⟩
            replace b0 := b0.below hb
            replace q := q.below hb
            replace q3 := q3.below hb
            replace q4 := q4.below hb
            clear hb
            (try go_simp)
            refine hK.out _ _ (fun _ => q) ?_
            clear hK K
            (try simp only [Act.put, rA, rB, rC, rD, rE, rF])
            refine wpAnyG_one 13 (by kernel_rfl) rfl (fun K hK => ?_)
            rw [if_pos (by rfl)]
            go_simp
            (with_reducible refine (PA.out A2 n2 c2 _ k2.byt (by have := k2.len; have := hl.out; omega)).mono ?_)
            rintro e w9 ⟨B, m, d, Q, qn, qc, rfl, mm, mp, hb⟩
            replace b0 := b0.below hb
            replace q := q.below hb
            replace q3 := q3.below hb
            replace q4 := q4.below hb
            replace k2 := k2.below hb
            clear hb
            (try go_simp)
            refine hK.out _ _ (fun _ => q) ?_
            clear hK K
            (try simp only [Act.put, rA, rB, rC, rD, rE, rF])
            have S0 := q
            refine wpAnyG_take 14 (v := ?_) rfl (by kernel_rfl) (fun _ _ _ h => by cases h.1) S0 (Or.inl ⟨by rfl, by intro w' hSw; go_simp; try with_reducible rfl⟩) ?_; (try simp only [Act.put, rA, rB, rC, rD, rE, rF])
            refine wpAnyG_take 15 (v := ?_) rfl (by kernel_rfl) (fun _ _ _ h => by cases h.1) S0 (Or.inl ⟨by rfl, by intro w' hSw; go_simp; try with_reducible rfl⟩) ?_; (try simp only [Act.put, rA, rB, rC, rD, rE, rF])
            refine wpAnyG_take 16 (v := ?_) rfl (by kernel_rfl) (fun _ _ _ h => by cases h.1) S0 (Or.inl ⟨by rfl, by intro w' hSw; go_simp; try with_reducible rfl⟩) ?_; (try simp only [Act.put, rA, rB, rC, rD, rE, rF])
            clear S0
            refine wpAnyG_one 19 (by kernel_rfl) rfl (fun K hK => ?_)
            rw [if_pos (by rfl)]
            refine wp_putB (cells := #[.int .u8 (r1).kd, .int .u8 (r1).fl, .int .i64 (r1).st, .slice B m d, .int .i64 (r1).pd, .int .i64 (r1).la, .int .i64 (r1).ic, .int .u32 (r1).cd, .slice Q qn qc, .bool (r1).rk, .bool (r1).al, .int .i64 (r1).dp, .int .u8 (r1).wt]) _ _ _ rfl rfl rfl q3 (by rfl) (by rfl) (by rfl) ?_
            intro w9 qn hg
            replace b0 := b0.grown hg l3
            replace q := q.grown hg n3
            replace q4 := q4.grown hg (q4.ne q3 (by decide))
            replace mm := mm.grownB q3 (by decide) hg
            replace mp := MineP.grownB mp q3 (by decide) hg
            clear hg q3; have q3 := qn; clear qn
            refine hK.out _ _ (fun _ => q) ?_
            clear hK K
            (try simp only [Act.put, rA, rB, rC, rD, rE, rF])
            refine wpAnyG_one 20 (by kernel_rfl) rfl (fun K hK => ?_)
            rw [if_pos (by rfl)]
            refine wp_putB (cells := #[.bool xw, .int .i64 xs, .int .u32 xc]) _ _ _ rfl rfl rfl q4 (by rfl) (by rfl) (by rfl) ?_
            intro w9 qn hg
            replace b0 := b0.grown hg l4
            replace q := q.grown hg n4
            replace q3 := q3.grown hg (q3.ne q4 (by decide))
            replace mm := mm.grownB q4 (by decide) hg
            replace mp := MineP.grownB mp q4 (by decide) hg
            clear hg q4; have q4 := qn; clear qn
            refine hK.out _ _ (fun _ => q) ?_
            clear hK K
            (try simp only [Act.put, rA, rB, rC, rD, rE, rF])
            refine wpAnyG_done (by kernel_rfl) ?_ _
            exact ⟨rfl, _, _, _, _, _, _, _, _, _, _, _, _, rfl, q3, q4, q, mm.base_le (Nat.zero_le _), MineP.base_le mp (Nat.zero_le _), b0.out⟩
      · rw [if_pos (by rfl)]
        go_simp
        obtain ⟨gz, ez, q3, l3, hz⟩ := Bel.newE b0 30 zF
        have n3 := hz _ _ _ q
        clear hz
        (try simp only [World.size_alloc] at ez)
        subst ez
        replace b0 := b0.alloc (.cells zF 30)
        replace q := q.alloc (.cells zF 30)
        (try go_simp)
        refine hK.out _ _ (fun _ => q) ?_
        clear hK K
        (try simp only [Act.put, rA, rB, rC, rD, rE, rF])
        refine wpAnyG_two 9 18 (by kernel_rfl) rfl rfl (fun K hK => ?_) (fun K hK => ?_)
        · rw [if_pos (by rfl)]
          go_simp
          (with_reducible refine (HKn.out _).mono ?_)
          rintro e w9 ⟨gk, rfl, HG0, hb⟩
          replace b0 := b0.below hb
          replace q := q.below hb
          replace q3 := q3.below hb
          clear HG0
          unfold kindA
          have hfl : ∀ W, (Instr.field 61 (.agg #[.int .i64 (ofK f.kd), .func (.func (longF f.kd)) #[] (longB f.kd gk), .func (.func (readF f.kd)) #[] #[], .func (.func (putF f.kd)) #[] #[]]) 3).run Try.prog W = .ok (.func (.func (putF f.kd)) #[] #[]) W := fun W => by kernel_rfl
          clear hb
          (try go_simp)
          refine hK.out _ _ (fun _ => q) ?_
          clear hK K
          (try simp only [Act.put, rA, rB, rC, rD, rE, rF])
          have S0 := q
          refine wpAnyG_take 10 (v := ?_) rfl (by kernel_rfl) (fun _ _ _ h => by cases h.1) S0 (Or.inl ⟨by rfl, by intro w' hSw; go_simp; try with_reducible rfl⟩) ?_; (try simp only [Act.put, rA, rB, rC, rD, rE, rF])
          clear S0
          refine wpAnyG_two 12 18 (by kernel_rfl) rfl rfl (fun K hK => ?_) (fun K hK => ?_)
          · rw [if_pos (by rfl)]
            go_simp
            (with_reducible refine (PT.out _ (H0.out.below b0.out) (P0.out.below b0.out)).mono ?_)
            rintro e w9 ⟨A2, n2, c2, rfl, k2, hb⟩
            replace b0 := b0.below hb
            replace q := q.below hb
            replace q3 := q3.below hb
            clear hb
            (try go_simp)
            refine hK.out _ _ (fun _ => q) ?_
            clear hK K
            (try simp only [Act.put, rA, rB, rC, rD, rE, rF])
            refine wpAnyG_two 13 18 (by kernel_rfl) rfl rfl (fun K hK => ?_) (fun K hK => ?_)
            · rw [if_pos (by rfl)]
              go_simp
              (with_reducible refine (PA.out A2 n2 c2 _ k2.byt (by have := k2.len; have := hl.out; omega)).mono ?_)
              rintro e w9 ⟨B, m, d, Q, qn, qc, rfl, mm, mp, hb⟩
              replace b0 := b0.below hb
              replace q := q.below hb
              replace q3 := q3.below hb
              replace k2 := k2.below hb
              clear hb
              (try go_simp)
              refine hK.out _ _ (fun _ => q) ?_
              clear hK K
              (try simp only [Act.put, rA, rB, rC, rD, rE, rF])
              have S0 := q
              refine wpAnyG_take 14 (v := ?_) rfl (by kernel_rfl) (fun _ _ _ h => by cases h.1) S0 (Or.inl ⟨by rfl, by intro w' hSw; go_simp; try with_reducible rfl⟩) ?_; (try simp only [Act.put, rA, rB, rC, rD, rE, rF])
              refine wpAnyG_take 15 (v := ?_) rfl (by kernel_rfl) (fun _ _ _ h => by cases h.1) S0 (Or.inl ⟨by rfl, by intro w' hSw; go_simp; try with_reducible rfl⟩) ?_; (try simp only [Act.put, rA, rB, rC, rD, rE, rF])
              refine wpAnyG_take 16 (v := ?_) rfl (by kernel_rfl) (fun _ _ _ h => by cases h.1) S0 (Or.inl ⟨by rfl, by intro w' hSw; go_simp; try with_reducible rfl⟩) ?_; (try simp only [Act.put, rA, rB, rC, rD, rE, rF])
              clear S0
              refine wpAnyG_one 18 (by kernel_rfl) rfl (fun K hK => ?_)
              rw [if_pos (by rfl)]
              go_simp
              obtain ⟨gz, ez, q4, l4, hz⟩ := Bel.newE b0 34 #[.bool false, .int .i64 0, .int .u32 0]
              have n4 := hz _ _ _ q
              clear hz
              (try simp only [World.size_alloc] at ez)
              subst ez
              replace b0 := b0.alloc (.cells #[.bool false, .int .i64 0, .int .u32 0] 34)
              replace q := q.alloc (.cells #[.bool false, .int .i64 0, .int .u32 0] 34)
              replace q3 := q3.alloc (.cells #[.bool false, .int .i64 0, .int .u32 0] 34)
              replace k2 := k2.alloc (.cells #[.bool false, .int .i64 0, .int .u32 0] 34)
              replace mm := mm.alloc (.cells #[.bool false, .int .i64 0, .int .u32 0] 34)
              replace mp := mp.alloc (.cells #[.bool false, .int .i64 0, .int .u32 0] 34)
              (try go_simp)
              refine hK.out _ _ (fun _ => q) ?_
              clear hK K
              (try simp only [Act.put, rA, rB, rC, rD, rE, rF])
              refine wpAnyG_one 19 (by kernel_rfl) rfl (fun K hK => ?_)
              rw [if_pos (by rfl)]
              refine wp_putB (cells := #[.int .u8 (r1).kd, .int .u8 (r1).fl, .int .i64 (r1).st, .slice B m d, .int .i64 (r1).pd, .int .i64 (r1).la, .int .i64 (r1).ic, .int .u32 (r1).cd, .slice Q qn qc, .bool (r1).rk, .bool (r1).al, .int .i64 (r1).dp, .int .u8 (r1).wt]) _ _ _ rfl rfl rfl q3 (by rfl) (by rfl) (by rfl) ?_
              intro w9 qn hg
              replace b0 := b0.grown hg l3
              replace q := q.grown hg n3
              replace q4 := q4.grown hg (q4.ne q3 (by decide))
              replace mm := mm.grownB q3 (by decide) hg
              replace mp := MineP.grownB mp q3 (by decide) hg
              clear hg q3; have q3 := qn; clear qn
              refine hK.out _ _ (fun _ => q) ?_
              clear hK K
              (try simp only [Act.put, rA, rB, rC, rD, rE, rF])
              refine wpAnyG_one 20 (by kernel_rfl) rfl (fun K hK => ?_)
              rw [if_pos (by rfl)]
              refine wp_putB (cells := #[.bool xw, .int .i64 xs, .int .u32 xc]) _ _ _ rfl rfl rfl q4 (by rfl) (by rfl) (by rfl) ?_
              intro w9 qn hg
              replace b0 := b0.grown hg l4
              replace q := q.grown hg n4
              replace q3 := q3.grown hg (q3.ne q4 (by decide))
              replace mm := mm.grownB q4 (by decide) hg
              replace mp := MineP.grownB mp q4 (by decide) hg
              clear hg q4; have q4 := qn; clear qn
              refine hK.out _ _ (fun _ => q) ?_
              clear hK K
              (try simp only [Act.put, rA, rB, rC, rD, rE, rF])
              refine wpAnyG_done (by kernel_rfl) ?_ _
              exact ⟨rfl, _, _, _, _, _, _, _, _, _, _, _, _, rfl, q3, q4, q, mm.base_le (Nat.zero_le _), MineP.base_le mp (Nat.zero_le _), b0.out⟩
            · rw [if_pos (by rfl)]
              go_simp
              obtain ⟨gz, ez, q4, l4, hz⟩ := Bel.newE b0 34 #[.bool false, .int .i64 0, .int .u32 0]
              have n4 := hz _ _ _ q
              clear hz
              (try simp only [World.size_alloc] at ez)
              subst ez
              replace b0 := b0.alloc (.cells #[.bool false, .int .i64 0, .int .u32 0] 34)
              replace q := q.alloc (.cells #[.bool false, .int .i64 0, .int .u32 0] 34)
              replace q3 := q3.alloc (.cells #[.bool false, .int .i64 0, .int .u32 0] 34)
              replace k2 := k2.alloc (.cells #[.bool false, .int .i64 0, .int .u32 0] 34)
              (try go_simp)
              refine hK.out _ _ (fun _ => q) ?_
              clear hK K
              (try simp only [Act.put, rA, rB, rC, rD, rE, rF])
              refine wpAnyG_one 13 (by kernel_rfl) rfl (fun K hK => ?_)
              rw [if_pos (by rfl)]
              go_simp
              (with_reducible refine (PA.out A2 n2 c2 _ k2.byt (by have := k2.len; have := hl.out; omega)).mono ?_)
              rintro e w9 ⟨B, m, d, Q, qn, qc, rfl, mm, mp, hb⟩
              replace b0 := b0.below hb
              replace q := q.below hb
              replace q3 := q3.below hb
              replace q4 := q4.below hb
              replace k2 := k2.below hb
              clear hb
              (try go_simp)
              refine hK.out _ _ (fun _ => q) ?_
              clear hK K
              (try simp only [Act.put, rA, rB, rC, rD, rE, rF])
              have S0 := q
              refine wpAnyG_take 14 (v := ?_) rfl (by kernel_rfl) (fun _ _ _ h => by cases h.1) S0 (Or.inl ⟨by rfl, by intro w' hSw; go_simp; try with_reducible rfl⟩) ?_; (try simp only [Act.put, rA, rB, rC, rD, rE, rF])
              refine wpAnyG_take 15 (v := ?_) rfl (by kernel_rfl) (fun _ _ _ h => by cases h.1) S0 (Or.inl ⟨by rfl, by intro w' hSw; go_simp; try with_reducible rfl⟩) ?_; (try simp only [Act.put, rA, rB, rC, rD, rE, rF])
              refine wpAnyG_take 16 (v := ?_) rfl (by kernel_rfl) (fun _ _ _ h => by cases h.1) S0 (Or.inl ⟨by rfl, by intro w' hSw; go_simp; try with_reducible rfl⟩) ?_; (try simp only [Act.put, rA, rB, rC, rD, rE, rF])
              clear S0
              refine wpAnyG_one 19 (by kernel_rfl) rfl (fun K hK => ?_)
              rw [if_pos (by rfl)]
              refine wp_putB (cells := #[.int .u8 (r1).kd, .int .u8 (r1).fl, .int .i64 (r1).st, .slice B m d, .int .i64 (r1).pd, .int .i64 (r1).la, .int .i64 (r1).ic, .int .u32 (r1).cd, .slice Q qn qc, .bool (r1).rk, .bool (r1).al, .int .i64 (r1).dp, .int .u8 (r1).wt]) _ _ _ rfl rfl rfl q3 (by rfl) (by rfl) (by rfl) ?_
              intro w9 qn hg
              replace b0 := b0.grown hg l3
              replace q := q.grown hg n3
              replace q4 := q4.grown hg (q4.ne q3 (by decide))
              replace mm := mm.grownB q3 (by decide) hg
              replace mp := MineP.grownB mp q3 (by decide) hg
              clear hg q3; have q3 := qn; clear qn
              refine hK.out _ _ (fun _ => q) ?_
              clear hK K
              (try simp only [Act.put, rA, rB, rC, rD, rE, rF])
              refine wpAnyG_one 20 (by kernel_rfl) rfl (fun K hK => ?_)
              rw [if_pos (by rfl)]
              refine wp_putB (cells := #[.bool xw, .int .i64 xs, .int .u32 xc]) _ _ _ rfl rfl rfl q4 (by rfl) (by rfl) (by rfl) ?_
              intro w9 qn hg
              replace b0 := b0.grown hg l4
              replace q := q.grown hg n4
              replace q3 := q3.grown hg (q3.ne q4 (by decide))
              replace mm := mm.grownB q4 (by decide) hg
              replace mp := MineP.grownB mp q4 (by decide) hg
              clear hg q4; have q4 := qn; clear qn
              refine hK.out _ _ (fun _ => q) ?_
              clear hK K
              (try simp only [Act.put, rA, rB, rC, rD, rE, rF])
              refine wpAnyG_done (by kernel_rfl) ?_ _
              exact ⟨rfl, _, _, _, _, _, _, _, _, _, _, _, _, rfl, q3, q4, q, mm.base_le (Nat.zero_le _), MineP.base_le mp (Nat.zero_le _), b0.out⟩
          · rw [if_pos (by rfl)]
            go_simp
            obtain ⟨gz, ez, q4, l4, hz⟩ := Bel.newE b0 34 #[.bool false, .int .i64 0, .int .u32 0]
            have n4 := hz _ _ _ q
            clear hz
            (try simp only [World.size_alloc] at ez)
            subst ez
            replace b0 := b0.alloc (.cells #[.bool false, .int .i64 0, .int .u32 0] 34)
            replace q := q.alloc (.cells #[.bool false, .int .i64 0, .int .u32 0] 34)
            replace q3 := q3.alloc (.cells #[.bool false, .int .i64 0, .int .u32 0] 34)
            (try go_simp)
            refine hK.out _ _ (fun _ => q) ?_
            clear hK K
            (try simp only [Act.put, rA, rB, rC, rD, rE, rF])
            refine wpAnyG_one 12 (by kernel_rfl) rfl (fun K hK => ?_)
            rw [if_pos (by rfl)]
            go_simp
            (with_reducible refine (PT.out _ (H0.out.below b0.out) (P0.out.below b0.out)).mono ?_)
            rintro e w9 ⟨A2, n2, c2, rfl, k2, hb⟩
            replace b0 := b0.below hb
            replace q := q.below hb
            replace q3 := q3.below hb
            replace q4 := q4.below hb
            clear hb
            (try go_simp)
            refine hK.out _ _ (fun _ => q) ?_
            clear hK K
            (try simp only [Act.put, rA, rB, rC, rD, rE, rF])
            refine wpAnyG_one 13 (by kernel_rfl) rfl (fun K hK => ?_)
            rw [if_pos (by rfl)]
            go_simp
            (with_reducible refine (PA.out A2 n2 c2 _ k2.byt (by have := k2.len; have := hl.out; omega)).mono ?_)
            rintro e w9 ⟨B, m, d, Q, qn, qc, rfl, mm, mp, hb⟩
            replace b0 := b0.below hb
            replace q := q.below hb
            replace q3 := q3.below hb
            replace q4 := q4.below hb
            replace k2 := k2.below hb
            clear hb
            (try go_simp)
            refine hK.out _ _ (fun _ => q) ?_
            clear hK K
            (try simp only [Act.put, rA, rB, rC, rD, rE, rF])
            have S0 := q
            refine wpAnyG_take 14 (v := ?_) rfl (by kernel_rfl) (fun _ _ _ h => by cases h.1) S0 (Or.inl ⟨by rfl, by intro w' hSw; go_simp; try with_reducible rfl⟩) ?_; (try simp only [Act.put, rA, rB, rC, rD, rE, rF])
            refine wpAnyG_take 15 (v := ?_) rfl (by kernel_rfl) (fun _ _ _ h => by cases h.1) S0 (Or.inl ⟨by rfl, by intro w' hSw; go_simp; try with_reducible rfl⟩) ?_; (try simp only [Act.put, rA, rB, rC, rD, rE, rF])
            refine wpAnyG_take 16 (v := ?_) rfl (by kernel_rfl) (fun _ _ _ h => by cases h.1) S0 (Or.inl ⟨by rfl, by intro w' hSw; go_simp; try with_reducible rfl⟩) ?_; (try simp only [Act.put, rA, rB, rC, rD, rE, rF])
            clear S0
            refine wpAnyG_one 19 (by kernel_rfl) rfl (fun K hK => ?_)
            rw [if_pos (by rfl)]
            refine wp_putB (cells := #[.int .u8 (r1).kd, .int .u8 (r1).fl, .int .i64 (r1).st, .slice B m d, .int .i64 (r1).pd, .int .i64 (r1).la, .int .i64 (r1).ic, .int .u32 (r1).cd, .slice Q qn qc, .bool (r1).rk, .bool (r1).al, .int .i64 (r1).dp, .int .u8 (r1).wt]) _ _ _ rfl rfl rfl q3 (by rfl) (by rfl) (by rfl) ?_
            intro w9 qn hg
            replace b0 := b0.grown hg l3
            replace q := q.grown hg n3
            replace q4 := q4.grown hg (q4.ne q3 (by decide))
            replace mm := mm.grownB q3 (by decide) hg
            replace mp := MineP.grownB mp q3 (by decide) hg
            clear hg q3; have q3 := qn; clear qn
            refine hK.out _ _ (fun _ => q) ?_
            clear hK K
            (try simp only [Act.put, rA, rB, rC, rD, rE, rF])
            refine wpAnyG_one 20 (by kernel_rfl) rfl (fun K hK => ?_)
            rw [if_pos (by rfl)]
            refine wp_putB (cells := #[.bool xw, .int .i64 xs, .int .u32 xc]) _ _ _ rfl rfl rfl q4 (by rfl) (by rfl) (by rfl) ?_
            intro w9 qn hg
            replace b0 := b0.grown hg l4
            replace q := q.grown hg n4
            replace q3 := q3.grown hg (q3.ne q4 (by decide))
            replace mm := mm.grownB q4 (by decide) hg
            replace mp := MineP.grownB mp q4 (by decide) hg
            clear hg q4; have q4 := qn; clear qn
            refine hK.out _ _ (fun _ => q) ?_
            clear hK K
            (try simp only [Act.put, rA, rB, rC, rD, rE, rF])
            refine wpAnyG_done (by kernel_rfl) ?_ _
            exact ⟨rfl, _, _, _, _, _, _, _, _, _, _, _, _, rfl, q3, q4, q, mm.base_le (Nat.zero_le _), MineP.base_le mp (Nat.zero_le _), b0.out⟩
        · rw [if_pos (by rfl)]
          go_simp
          obtain ⟨gz, ez, q4, l4, hz⟩ := Bel.newE b0 34 #[.bool false, .int .i64 0, .int .u32 0]
          have n4 := hz _ _ _ q
          clear hz
          (try simp only [World.size_alloc] at ez)
          subst ez
          replace b0 := b0.alloc (.cells #[.bool false, .int .i64 0, .int .u32 0] 34)
          replace q := q.alloc (.cells #[.bool false, .int .i64 0, .int .u32 0] 34)
          replace q3 := q3.alloc (.cells #[.bool false, .int .i64 0, .int .u32 0] 34)
          (try go_simp)
          refine hK.out _ _ (fun _ => q) ?_
          clear hK K
          (try simp only [Act.put, rA, rB, rC, rD, rE, rF])
          refine wpAnyG_one 9 (by kernel_rfl) rfl (fun K hK => ?_)
          rw [if_pos (by rfl)]
          go_simp
          (with_reducible refine (HKn.out _).mono ?_)
          rintro e w9 ⟨gk, rfl, HG0, hb⟩
          replace b0 := b0.below hb
          replace q := q.below hb
          replace q3 := q3.below hb
          replace q4 := q4.below hb
          clear HG0
          unfold kindA
          have hfl : ∀ W, (Instr.field 61 (.agg #[.int .i64 (ofK f.kd), .func (.func (longF f.kd)) #[] (longB f.kd gk), .func (.func (readF f.kd)) #[] #[], .func (.func (putF f.kd)) #[] #[]]) 3).run Try.prog W = .ok (.func (.func (putF f.kd)) #[] #[]) W := fun W => by kernel_rfl
          clear hb
          (try go_simp)
          refine hK.out _ _ (fun _ => q) ?_
          clear hK K
          (try simp only [Act.put, rA, rB, rC, rD, rE, rF])
          have S0 := q
          refine wpAnyG_take 10 (v := ?_) rfl (by kernel_rfl) (fun _ _ _ h => by cases h.1) S0 (Or.inl ⟨by rfl, by intro w' hSw; go_simp; try with_reducible rfl⟩) ?_; (try simp only [Act.put, rA, rB, rC, rD, rE, rF])
          clear S0
          refine wpAnyG_one 12 (by kernel_rfl) rfl (fun K hK => ?_)
          rw [if_pos (by rfl)]
          go_simp
          (with_reducible refine (PT.out _ (H0.out.below b0.out) (P0.out.below b0.out)).mono ?_)
          rintro e w9 ⟨A2, n2, c2, rfl, k2, hb⟩
          replace b0 := b0.below hb
          replace q := q.below hb
          replace q3 := q3.below hb
          replace q4 := q4.below hb
          clear hb
          (try go_simp)
          refine hK.out _ _ (fun _ => q) ?_
          clear hK K
          (try simp only [Act.put, rA, rB, rC, rD, rE, rF])
          refine wpAnyG_one 13 (by kernel_rfl) rfl (fun K hK => ?_)
          rw [if_pos (by rfl)]
          go_simp
          (with_reducible refine (PA.out A2 n2 c2 _ k2.byt (by have := k2.len; have := hl.out; omega)).mono ?_)
          rintro e w9 ⟨B, m, d, Q, qn, qc, rfl, mm, mp, hb⟩
          replace b0 := b0.below hb
          replace q := q.below hb
          replace q3 := q3.below hb
          replace q4 := q4.below hb
          replace k2 := k2.below hb
          clear hb
          (try go_simp)
          refine hK.out _ _ (fun _ => q) ?_
          clear hK K
          (try simp only [Act.put, rA, rB, rC, rD, rE, rF])
          have S0 := q
          refine wpAnyG_take 14 (v := ?_) rfl (by kernel_rfl) (fun _ _ _ h => by cases h.1) S0 (Or.inl ⟨by rfl, by intro w' hSw; go_simp; try with_reducible rfl⟩) ?_; (try simp only [Act.put, rA, rB, rC, rD, rE, rF])
          refine wpAnyG_take 15 (v := ?_) rfl (by kernel_rfl) (fun _ _ _ h => by cases h.1) S0 (Or.inl ⟨by rfl, by intro w' hSw; go_simp; try with_reducible rfl⟩) ?_; (try simp only [Act.put, rA, rB, rC, rD, rE, rF])
          refine wpAnyG_take 16 (v := ?_) rfl (by kernel_rfl) (fun _ _ _ h => by cases h.1) S0 (Or.inl ⟨by rfl, by intro w' hSw; go_simp; try with_reducible rfl⟩) ?_; (try simp only [Act.put, rA, rB, rC, rD, rE, rF])
          clear S0
          refine wpAnyG_one 19 (by kernel_rfl) rfl (fun K hK => ?_)
          rw [if_pos (by rfl)]
          refine wp_putB (cells := #[.int .u8 (r1).kd, .int .u8 (r1).fl, .int .i64 (r1).st, .slice B m d, .int .i64 (r1).pd, .int .i64 (r1).la, .int .i64 (r1).ic, .int .u32 (r1).cd, .slice Q qn qc, .bool (r1).rk, .bool (r1).al, .int .i64 (r1).dp, .int .u8 (r1).wt]) _ _ _ rfl rfl rfl q3 (by rfl) (by rfl) (by rfl) ?_
          intro w9 qn hg
          replace b0 := b0.grown hg l3
          replace q := q.grown hg n3
          replace q4 := q4.grown hg (q4.ne q3 (by decide))
          replace mm := mm.grownB q3 (by decide) hg
          replace mp := MineP.grownB mp q3 (by decide) hg
          clear hg q3; have q3 := qn; clear qn
          refine hK.out _ _ (fun _ => q) ?_
          clear hK K
          (try simp only [Act.put, rA, rB, rC, rD, rE, rF])
          refine wpAnyG_one 20 (by kernel_rfl) rfl (fun K hK => ?_)
          rw [if_pos (by rfl)]
          refine wp_putB (cells := #[.bool xw, .int .i64 xs, .int .u32 xc]) _ _ _ rfl rfl rfl q4 (by rfl) (by rfl) (by rfl) ?_
          intro w9 qn hg
          replace b0 := b0.grown hg l4
          replace q := q.grown hg n4
          replace q3 := q3.grown hg (q3.ne q4 (by decide))
          replace mm := mm.grownB q4 (by decide) hg
          replace mp := MineP.grownB mp q4 (by decide) hg
          clear hg q4; have q4 := qn; clear qn
          refine hK.out _ _ (fun _ => q) ?_
          clear hK K
          (try simp only [Act.put, rA, rB, rC, rD, rE, rF])
          refine wpAnyG_done (by kernel_rfl) ?_ _
          exact ⟨rfl, _, _, _, _, _, _, _, _, _, _, _, _, rfl, q3, q4, q, mm.base_le (Nat.zero_le _), MineP.base_le mp (Nat.zero_le _), b0.out⟩
      · rw [if_pos (by rfl)]
        go_simp
        obtain ⟨gz, ez, q4, l4, hz⟩ := Bel.newE b0 34 #[.bool false, .int .i64 0, .int .u32 0]
        have n4 := hz _ _ _ q
        clear hz
        (try simp only [World.size_alloc] at ez)
        subst ez
        replace b0 := b0.alloc (.cells #[.bool false, .int .i64 0, .int .u32 0] 34)
        replace q := q.alloc (.cells #[.bool false, .int .i64 0, .int .u32 0] 34)
        (try go_simp)
        refine hK.out _ _ (fun _ => q) ?_
        clear hK K
        (try simp only [Act.put, rA, rB, rC, rD, rE, rF])
        refine wpAnyG_two 9 17 (by kernel_rfl) rfl rfl (fun K hK => ?_) (fun K hK => ?_)
        · rw [if_pos (by rfl)]
          go_simp
          (with_reducible refine (HKn.out _).mono ?_)
          rintro e w9 ⟨gk, rfl, HG0, hb⟩
          replace b0 := b0.below hb
          replace q := q.below hb
          replace q4 := q4.below hb
          clear HG0
          unfold kindA
          have hfl : ∀ W, (Instr.field 61 (.agg #[.int .i64 (ofK f.kd), .func (.func (longF f.kd)) #[] (longB f.kd gk), .func (.func (readF f.kd)) #[] #[], .func (.func (putF f.kd)) #[] #[]]) 3).run Try.prog W = .ok (.func (.func (putF f.kd)) #[] #[]) W := fun W => by kernel_rfl
          clear hb
          (try go_simp)
          refine hK.out _ _ (fun _ => q) ?_
          clear hK K
          (try simp only [Act.put, rA, rB, rC, rD, rE, rF])
          have S0 := q
          refine wpAnyG_take 10 (v := ?_) rfl (by kernel_rfl) (fun _ _ _ h => by cases h.1) S0 (Or.inl ⟨by rfl, by intro w' hSw; go_simp; try with_reducible rfl⟩) ?_; (try simp only [Act.put, rA, rB, rC, rD, rE, rF])
          clear S0
          refine wpAnyG_two 12 17 (by kernel_rfl) rfl rfl (fun K hK => ?_) (fun K hK => ?_)
          · rw [if_pos (by rfl)]
            go_simp
            (with_reducible refine (PT.out _ (H0.out.below b0.out) (P0.out.below b0.out)).mono ?_)
            rintro e w9 ⟨A2, n2, c2, rfl, k2, hb⟩
            replace b0 := b0.below hb
            replace q := q.below hb
            replace q4 := q4.below hb
            clear hb
            (try go_simp)
            refine hK.out _ _ (fun _ => q) ?_
            clear hK K
            (try simp only [Act.put, rA, rB, rC, rD, rE, rF])
            refine wpAnyG_two 13 17 (by kernel_rfl) rfl rfl (fun K hK => ?_) (fun K hK => ?_)
            · rw [if_pos (by rfl)]
              go_simp
              (with_reducible refine (PA.out A2 n2 c2 _ k2.byt (by have := k2.len; have := hl.out; omega)).mono ?_)
              rintro e w9 ⟨B, m, d, Q, qn, qc, rfl, mm, mp, hb⟩
              replace b0 := b0.below hb
              replace q := q.below hb
              replace q4 := q4.below hb
              replace k2 := k2.below hb
              clear hb
              (try go_simp)
              refine hK.out _ _ (fun _ => q) ?_
              clear hK K
              (try simp only [Act.put, rA, rB, rC, rD, rE, rF])
              have S0 := q
              refine wpAnyG_take 14 (v := ?_) rfl (by kernel_rfl) (fun _ _ _ h => by cases h.1) S0 (Or.inl ⟨by rfl, by intro w' hSw; go_simp; try with_reducible rfl⟩) ?_; (try simp only [Act.put, rA, rB, rC, rD, rE, rF])
              refine wpAnyG_take 15 (v := ?_) rfl (by kernel_rfl) (fun _ _ _ h => by cases h.1) S0 (Or.inl ⟨by rfl, by intro w' hSw; go_simp; try with_reducible rfl⟩) ?_; (try simp only [Act.put, rA, rB, rC, rD, rE, rF])
              refine wpAnyG_take 16 (v := ?_) rfl (by kernel_rfl) (fun _ _ _ h => by cases h.1) S0 (Or.inl ⟨by rfl, by intro w' hSw; go_simp; try with_reducible rfl⟩) ?_; (try simp only [Act.put, rA, rB, rC, rD, rE, rF])
              clear S0
              refine wpAnyG_one 17 (by kernel_rfl) rfl (fun K hK => ?_)
              rw [if_pos (by rfl)]
              go_simp
              obtain ⟨gz, ez, q3, l3, hz⟩ := Bel.newE b0 30 zF
              have n3 := hz _ _ _ q
              clear hz
              (try simp only [World.size_alloc] at ez)
              subst ez
              replace b0 := b0.alloc (.cells zF 30)
              replace q := q.alloc (.cells zF 30)
              replace q4 := q4.alloc (.cells zF 30)
              replace k2 := k2.alloc (.cells zF 30)
              replace mm := mm.alloc (.cells zF 30)
              replace mp := mp.alloc (.cells zF 30)
              (try go_simp)
              refine hK.out _ _ (fun _ => q) ?_
              clear hK K
              (try simp only [Act.put, rA, rB, rC, rD, rE, rF])
              refine wpAnyG_one 19 (by kernel_rfl) rfl (fun K hK => ?_)
              rw [if_pos (by rfl)]
              refine wp_putB (cells := #[.int .u8 (r1).kd, .int .u8 (r1).fl, .int .i64 (r1).st, .slice B m d, .int .i64 (r1).pd, .int .i64 (r1).la, .int .i64 (r1).ic, .int .u32 (r1).cd, .slice Q qn qc, .bool (r1).rk, .bool (r1).al, .int .i64 (r1).dp, .int .u8 (r1).wt]) _ _ _ rfl rfl rfl q3 (by rfl) (by rfl) (by rfl) ?_
              intro w9 qn hg
              replace b0 := b0.grown hg l3
              replace q := q.grown hg n3
              replace q4 := q4.grown hg (q4.ne q3 (by decide))
              replace mm := mm.grownB q3 (by decide) hg
              replace mp := MineP.grownB mp q3 (by decide) hg
              clear hg q3; have q3 := qn; clear qn
              refine hK.out _ _ (fun _ => q) ?_
              clear hK K
              (try simp only [Act.put, rA, rB, rC, rD, rE, rF])
              refine wpAnyG_one 20 (by kernel_rfl) rfl (fun K hK => ?_)
              rw [if_pos (by rfl)]
              refine wp_putB (cells := #[.bool xw, .int .i64 xs, .int .u32 xc]) _ _ _ rfl rfl rfl q4 (by rfl) (by rfl) (by rfl) ?_
              intro w9 qn hg
              replace b0 := b0.grown hg l4
              replace q := q.grown hg n4
              replace q3 := q3.grown hg (q3.ne q4 (by decide))
              replace mm := mm.grownB q4 (by decide) hg
              replace mp := MineP.grownB mp q4 (by decide) hg
              clear hg q4; have q4 := qn; clear qn
              refine hK.out _ _ (fun _ => q) ?_
              clear hK K
              (try simp only [Act.put, rA, rB, rC, rD, rE, rF])
              refine wpAnyG_done (by kernel_rfl) ?_ _
              exact ⟨rfl, _, _, _, _, _, _, _, _, _, _, _, _, rfl, q3, q4, q, mm.base_le (Nat.zero_le _), MineP.base_le mp (Nat.zero_le _), b0.out⟩
            · rw [if_pos (by rfl)]
              go_simp
              obtain ⟨gz, ez, q3, l3, hz⟩ := Bel.newE b0 30 zF
              have n3 := hz _ _ _ q
              clear hz
              (try simp only [World.size_alloc] at ez)
              subst ez
              replace b0 := b0.alloc (.cells zF 30)
              replace q := q.alloc (.cells zF 30)
              replace q4 := q4.alloc (.cells zF 30)
              replace k2 := k2.alloc (.cells zF 30)
              (try go_simp)
              refine hK.out _ _ (fun _ => q) ?_
              clear hK K
              (try simp only [Act.put, rA, rB, rC, rD, rE, rF])
              refine wpAnyG_one 13 (by kernel_rfl) rfl (fun K hK => ?_)
              rw [if_pos (by rfl)]
              go_simp
              (with_reducible refine (PA.out A2 n2 c2 _ k2.byt (by have := k2.len; have := hl.out; omega)).mono ?_)
              rintro e w9 ⟨B, m, d, Q, qn, qc, rfl, mm, mp, hb⟩
              replace b0 := b0.below hb
              replace q := q.below hb
              replace q3 := q3.below hb
              replace q4 := q4.below hb
              replace k2 := k2.below hb
              clear hb
              (try go_simp)
              refine hK.out _ _ (fun _ => q) ?_
              clear hK K
              (try simp only [Act.put, rA, rB, rC, rD, rE, rF])
              have S0 := q
              refine wpAnyG_take 14 (v := ?_) rfl (by kernel_rfl) (fun _ _ _ h => by cases h.1) S0 (Or.inl ⟨by rfl, by intro w' hSw; go_simp; try with_reducible rfl⟩) ?_; (try simp only [Act.put, rA, rB, rC, rD, rE, rF])
              refine wpAnyG_take 15 (v := ?_) rfl (by kernel_rfl) (fun _ _ _ h => by cases h.1) S0 (Or.inl ⟨by rfl, by intro w' hSw; go_simp; try with_reducible rfl⟩) ?_; (try simp only [Act.put, rA, rB, rC, rD, rE, rF])
              refine wpAnyG_take 16 (v := ?_) rfl (by kernel_rfl) (fun _ _ _ h => by cases h.1) S0 (Or.inl ⟨by rfl, by intro w' hSw; go_simp; try with_reducible rfl⟩) ?_; (try simp only [Act.put, rA, rB, rC, rD, rE, rF])
              clear S0
              refine wpAnyG_one 19 (by kernel_rfl) rfl (fun K hK => ?_)
              rw [if_pos (by rfl)]
              refine wp_putB (cells := #[.int .u8 (r1).kd, .int .u8 (r1).fl, .int .i64 (r1).st, .slice B m d, .int .i64 (r1).pd, .int .i64 (r1).la, .int .i64 (r1).ic, .int .u32 (r1).cd, .slice Q qn qc, .bool (r1).rk, .bool (r1).al, .int .i64 (r1).dp, .int .u8 (r1).wt]) _ _ _ rfl rfl rfl q3 (by rfl) (by rfl) (by rfl) ?_
              intro w9 qn hg
              replace b0 := b0.grown hg l3
              replace q := q.grown hg n3
              replace q4 := q4.grown hg (q4.ne q3 (by decide))
              replace mm := mm.grownB q3 (by decide) hg
              replace mp := MineP.grownB mp q3 (by decide) hg
              clear hg q3; have q3 := qn; clear qn
              refine hK.out _ _ (fun _ => q) ?_
              clear hK K
              (try simp only [Act.put, rA, rB, rC, rD, rE, rF])
              refine wpAnyG_one 20 (by kernel_rfl) rfl (fun K hK => ?_)
              rw [if_pos (by rfl)]
              refine wp_putB (cells := #[.bool xw, .int .i64 xs, .int .u32 xc]) _ _ _ rfl rfl rfl q4 (by rfl) (by rfl) (by rfl) ?_
              intro w9 qn hg
              replace b0 := b0.grown hg l4
              replace q := q.grown hg n4
              replace q3 := q3.grown hg (q3.ne q4 (by decide))
              replace mm := mm.grownB q4 (by decide) hg
              replace mp := MineP.grownB mp q4 (by decide) hg
              clear hg q4; have q4 := qn; clear qn
              refine hK.out _ _ (fun _ => q) ?_
              clear hK K
              (try simp only [Act.put, rA, rB, rC, rD, rE, rF])
              refine wpAnyG_done (by kernel_rfl) ?_ _
              exact ⟨rfl, _, _, _, _, _, _, _, _, _, _, _, _, rfl, q3, q4, q, mm.base_le (Nat.zero_le _), MineP.base_le mp (Nat.zero_le _), b0.out⟩
          · rw [if_pos (by rfl)]
            go_simp
            obtain ⟨gz, ez, q3, l3, hz⟩ := Bel.newE b0 30 zF
            have n3 := hz _ _ _ q
            clear hz
            (try simp only [World.size_alloc] at ez)
            subst ez
            replace b0 := b0.alloc (.cells zF 30)
            replace q := q.alloc (.cells zF 30)
            replace q4 := q4.alloc (.cells zF 30)
            (try go_simp)
            refine hK.out _ _ (fun _ => q) ?_
            clear hK K
            (try simp only [Act.put, rA, rB, rC, rD, rE, rF])
            refine wpAnyG_one 12 (by kernel_rfl) rfl (fun K hK => ?_)
            rw [if_pos (by rfl)]
            go_simp
            (with_reducible refine (PT.out _ (H0.out.below b0.out) (P0.out.below b0.out)).mono ?_)
            rintro e w9 ⟨A2, n2, c2, rfl, k2, hb⟩
            replace b0 := b0.below hb
            replace q := q.below hb
            replace q3 := q3.below hb
            replace q4 := q4.below hb
            clear hb
            (try go_simp)
            refine hK.out _ _ (fun _ => q) ?_
            clear hK K
            (try simp only [Act.put, rA, rB, rC, rD, rE, rF])
            refine wpAnyG_one 13 (by kernel_rfl) rfl (fun K hK => ?_)
            rw [if_pos (by rfl)]
            go_simp
            (with_reducible refine (PA.out A2 n2 c2 _ k2.byt (by have := k2.len; have := hl.out; omega)).mono ?_)
            rintro e w9 ⟨B, m, d, Q, qn, qc, rfl, mm, mp, hb⟩
            replace b0 := b0.below hb
            replace q := q.below hb
            replace q3 := q3.below hb
            replace q4 := q4.below hb
            replace k2 := k2.below hb
            clear hb
            (try go_simp)
            refine hK.out _ _ (fun _ => q) ?_
            clear hK K
            (try simp only [Act.put, rA, rB, rC, rD, rE, rF])
            have S0 := q
            refine wpAnyG_take 14 (v := ?_) rfl (by kernel_rfl) (fun _ _ _ h => by cases h.1) S0 (Or.inl ⟨by rfl, by intro w' hSw; go_simp; try with_reducible rfl⟩) ?_; (try simp only [Act.put, rA, rB, rC, rD, rE, rF])
            refine wpAnyG_take 15 (v := ?_) rfl (by kernel_rfl) (fun _ _ _ h => by cases h.1) S0 (Or.inl ⟨by rfl, by intro w' hSw; go_simp; try with_reducible rfl⟩) ?_; (try simp only [Act.put, rA, rB, rC, rD, rE, rF])
            refine wpAnyG_take 16 (v := ?_) rfl (by kernel_rfl) (fun _ _ _ h => by cases h.1) S0 (Or.inl ⟨by rfl, by intro w' hSw; go_simp; try with_reducible rfl⟩) ?_; (try simp only [Act.put, rA, rB, rC, rD, rE, rF])
            clear S0
            refine wpAnyG_one 19 (by kernel_rfl) rfl (fun K hK => ?_)
            rw [if_pos (by rfl)]
            refine wp_putB (cells := #[.int .u8 (r1).kd, .int .u8 (r1).fl, .int .i64 (r1).st, .slice B m d, .int .i64 (r1).pd, .int .i64 (r1).la, .int .i64 (r1).ic, .int .u32 (r1).cd, .slice Q qn qc, .bool (r1).rk, .bool (r1).al, .int .i64 (r1).dp, .int .u8 (r1).wt]) _ _ _ rfl rfl rfl q3 (by rfl) (by rfl) (by rfl) ?_
            intro w9 qn hg
            replace b0 := b0.grown hg l3
            replace q := q.grown hg n3
            replace q4 := q4.grown hg (q4.ne q3 (by decide))
            replace mm := mm.grownB q3 (by decide) hg
            replace mp := MineP.grownB mp q3 (by decide) hg
            clear hg q3; have q3 := qn; clear qn
            refine hK.out _ _ (fun _ => q) ?_
            clear hK K
            (try simp only [Act.put, rA, rB, rC, rD, rE, rF])
            refine wpAnyG_one 20 (by kernel_rfl) rfl (fun K hK => ?_)
            rw [if_pos (by rfl)]
            refine wp_putB (cells := #[.bool xw, .int .i64 xs, .int .u32 xc]) _ _ _ rfl rfl rfl q4 (by rfl) (by rfl) (by rfl) ?_
            intro w9 qn hg
            replace b0 := b0.grown hg l4
            replace q := q.grown hg n4
            replace q3 := q3.grown hg (q3.ne q4 (by decide))
            replace mm := mm.grownB q4 (by decide) hg
            replace mp := MineP.grownB mp q4 (by decide) hg
            clear hg q4; have q4 := qn; clear qn
            refine hK.out _ _ (fun _ => q) ?_
            clear hK K
            (try simp only [Act.put, rA, rB, rC, rD, rE, rF])
            refine wpAnyG_done (by kernel_rfl) ?_ _
            exact ⟨rfl, _, _, _, _, _, _, _, _, _, _, _, _, rfl, q3, q4, q, mm.base_le (Nat.zero_le _), MineP.base_le mp (Nat.zero_le _), b0.out⟩
        · rw [if_pos (by rfl)]
          go_simp
          obtain ⟨gz, ez, q3, l3, hz⟩ := Bel.newE b0 30 zF
          have n3 := hz _ _ _ q
          clear hz
          (try simp only [World.size_alloc] at ez)
          subst ez
          replace b0 := b0.alloc (.cells zF 30)
          replace q := q.alloc (.cells zF 30)
          replace q4 := q4.alloc (.cells zF 30)
          (try go_simp)
          refine hK.out _ _ (fun _ => q) ?_
          clear hK K
          (try simp only [Act.put, rA, rB, rC, rD, rE, rF])
          refine wpAnyG_one 9 (by kernel_rfl) rfl (fun K hK => ?_)
          rw [if_pos (by rfl)]
          go_simp
          (with_reducible refine (HKn.out _).mono ?_)
          rintro e w9 ⟨gk, rfl, HG0, hb⟩
          replace b0 := b0.below hb
          replace q := q.below hb
          replace q3 := q3.below hb
          replace q4 := q4.below hb
          clear HG0
          unfold kindA
          have hfl : ∀ W, (Instr.field 61 (.agg #[.int .i64 (ofK f.kd), .func (.func (longF f.kd)) #[] (longB f.kd gk), .func (.func (readF f.kd)) #[] #[], .func (.func (putF f.kd)) #[] #[]]) 3).run Try.prog W = .ok (.func (.func (putF f.kd)) #[] #[]) W := fun W => by kernel_rfl
          clear hb
          (try go_simp)
          refine hK.out _ _ (fun _ => q) ?_
          clear hK K
          (try simp only [Act.put, rA, rB, rC, rD, rE, rF])
          have S0 := q
          refine wpAnyG_take 10 (v := ?_) rfl (by kernel_rfl) (fun _ _ _ h => by cases h.1) S0 (Or.inl ⟨by rfl, by intro w' hSw; go_simp; try with_reducible rfl⟩) ?_; (try simp only [Act.put, rA, rB, rC, rD, rE, rF])
          clear S0
          refine wpAnyG_one 12 (by kernel_rfl) rfl (fun K hK => ?_)
          rw [if_pos (by rfl)]
          go_simp
          (with_reducible refine (PT.out _ (H0.out.below b0.out) (P0.out.below b0.out)).mono ?_)
          rintro e w9 ⟨A2, n2, c2, rfl, k2, hb⟩
          replace b0 := b0.below hb
          replace q := q.below hb
          replace q3 := q3.below hb
          replace q4 := q4.below hb
          clear hb
          (try go_simp)
          refine hK.out _ _ (fun _ => q) ?_
          clear hK K
          (try simp only [Act.put, rA, rB, rC, rD, rE, rF])
          refine wpAnyG_one 13 (by kernel_rfl) rfl (fun K hK => ?_)
          rw [if_pos (by rfl)]
          go_simp
          (with_reducible refine (PA.out A2 n2 c2 _ k2.byt (by have := k2.len; have := hl.out; omega)).mono ?_)
          rintro e w9 ⟨B, m, d, Q, qn, qc, rfl, mm, mp, hb⟩
          replace b0 := b0.below hb
          replace q := q.below hb
          replace q3 := q3.below hb
          replace q4 := q4.below hb
          replace k2 := k2.below hb
          clear hb
          (try go_simp)
          refine hK.out _ _ (fun _ => q) ?_
          clear hK K
          (try simp only [Act.put, rA, rB, rC, rD, rE, rF])
          have S0 := q
          refine wpAnyG_take 14 (v := ?_) rfl (by kernel_rfl) (fun _ _ _ h => by cases h.1) S0 (Or.inl ⟨by rfl, by intro w' hSw; go_simp; try with_reducible rfl⟩) ?_; (try simp only [Act.put, rA, rB, rC, rD, rE, rF])
          refine wpAnyG_take 15 (v := ?_) rfl (by kernel_rfl) (fun _ _ _ h => by cases h.1) S0 (Or.inl ⟨by rfl, by intro w' hSw; go_simp; try with_reducible rfl⟩) ?_; (try simp only [Act.put, rA, rB, rC, rD, rE, rF])
          refine wpAnyG_take 16 (v := ?_) rfl (by kernel_rfl) (fun _ _ _ h => by cases h.1) S0 (Or.inl ⟨by rfl, by intro w' hSw; go_simp; try with_reducible rfl⟩) ?_; (try simp only [Act.put, rA, rB, rC, rD, rE, rF])
          clear S0
          refine wpAnyG_one 19 (by kernel_rfl) rfl (fun K hK => ?_)
          rw [if_pos (by rfl)]
          refine wp_putB (cells := #[.int .u8 (r1).kd, .int .u8 (r1).fl, .int .i64 (r1).st, .slice B m d, .int .i64 (r1).pd, .int .i64 (r1).la, .int .i64 (r1).ic, .int .u32 (r1).cd, .slice Q qn qc, .bool (r1).rk, .bool (r1).al, .int .i64 (r1).dp, .int .u8 (r1).wt]) _ _ _ rfl rfl rfl q3 (by rfl) (by rfl) (by rfl) ?_
          intro w9 qn hg
          replace b0 := b0.grown hg l3
          replace q := q.grown hg n3
          replace q4 := q4.grown hg (q4.ne q3 (by decide))
          replace mm := mm.grownB q3 (by decide) hg
          replace mp := MineP.grownB mp q3 (by decide) hg
          clear hg q3; have q3 := qn; clear qn
          refine hK.out _ _ (fun _ => q) ?_
          clear hK K
          (try simp only [Act.put, rA, rB, rC, rD, rE, rF])
          refine wpAnyG_one 20 (by kernel_rfl) rfl (fun K hK => ?_)
          rw [if_pos (by rfl)]
          refine wp_putB (cells := #[.bool xw, .int .i64 xs, .int .u32 xc]) _ _ _ rfl rfl rfl q4 (by rfl) (by rfl) (by rfl) ?_
          intro w9 qn hg
          replace b0 := b0.grown hg l4
          replace q := q.grown hg n4
          replace q3 := q3.grown hg (q3.ne q4 (by decide))
          replace mm := mm.grownB q4 (by decide) hg
          replace mp := MineP.grownB mp q4 (by decide) hg
          clear hg q4; have q4 := qn; clear qn
          refine hK.out _ _ (fun _ => q) ?_
          clear hK K
          (try simp only [Act.put, rA, rB, rC, rD, rE, rF])
          refine wpAnyG_done (by kernel_rfl) ?_ _
          exact ⟨rfl, _, _, _, _, _, _, _, _, _, _, _, _, rfl, q3, q4, q, mm.base_le (Nat.zero_le _), MineP.base_le mp (Nat.zero_le _), b0.out⟩
  case rest =>
    rintro a' w' ⟨g3, g4, gk, A2, n2, c2, B, m, d, Q, qn, qc, rfl, q3, q4, q, mm, mp, hb⟩
    have z2 := q4.at 2 rfl
    cases hc : (xc == 0)
    all_goals rw [hc] at HG
    · go_wp2_with (first | ((with_reducible refine wpList_id ?_); refine wpList_getG (by rfl) _ _ rfl rfl q Try.underlying30 rfl (by rfl) ?_) | ((with_reducible refine wpList_id ?_); refine wpList_getG (by rfl) _ _ rfl rfl q3 Try.underlying30 rfl (by rfl) ?_) | (go_at_call 18; (with_reducible refine (SM.out _ _ _ _ _ _ _ (H0.out.below hb) (P0.out.below hb) mm.byt mp.prs).mono ?_); rintro e w9 ⟨rfl, hb2⟩))
      go_ret
      rw [HG.out]
      exact ⟨rfl, hb⟩
    · go_wp2_with (first | ((with_reducible refine wpList_id ?_); refine wpList_getG (by rfl) _ _ rfl rfl q Try.underlying30 rfl (by rfl) ?_) | ((with_reducible refine wpList_id ?_); refine wpList_getG (by rfl) _ _ rfl rfl q3 Try.underlying30 rfl (by rfl) ?_) | (go_at_call 18; (with_reducible refine (SM.out _ _ _ _ _ _ _ (H0.out.below hb) (P0.out.below hb) mm.byt mp.prs).mono ?_); rintro e w9 ⟨rfl, hb2⟩))
      go_ret
      rw [HG.out]
      exact ⟨rfl, hb.trans (hb2.mono hb.size)⟩
end Go.Proofs.Ytnjnpnjjpodnnaa
