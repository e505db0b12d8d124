/- FrameOrder: of several faults the first one is told: the walk. -/
import Derived.Test.YtnjnpnjjpodnnaaRGz
import Derived.Test.YtnjnpnjjpodnnaaRGwk
namespace Go.Proofs.Ytnjnpnjjpodnnaa
open Go.RowKit Go.Shelf
set_option linter.unusedVariables false
set_option linter.unusedSimpArgs false

theorem wp_make8 {Q : Exit → Act → World → Prop} {K : Act → World → Prop} {a : Act} {W : World} {o : Oper} (N : Nat) (hN : N ≤ 281474976710656) {x y : Operand} (ho : o.op = .makeSlice 24 x y) (hx : a.eval x = .int .i64 (N : Int)) (hy : a.eval y = .int .i64 (N : Int))
    (h : ∀ A W', Mine W.heap.size W' A N N (List.replicate N 0) → Below W.heap.size W W' → K (a.put o.dst (.slice A N N)) W') : Oper.wp Try.prog o a W K Q := by
  unfold Oper.wp execOp
  simp only [ho, hx, hy, make8 N hN W, Sem.run_bind, Sem.run_pure, Result.andThen_ok]
  exact h _ _ (Mine.make W N (Nat.le_refl _) hN) ((Below.refl _ _).alloc (Nat.le_refl _) _)
section
variable {W : World}
set_option maxRecDepth 100000 in
set_option maxHeartbeats 8000000 in
theorem oNo1 (L k fl st : Int) (hk : 0 ≤ k ∧ k ≤ 255) (hst : -9223372036854775808 ≤ st ∧ st ≤ 9223372036854775807) (hfl : 0 ≤ fl ∧ fl ≤ 255) (n : Int) (ho : okH 0 st = false) :
    Calls Try.prog 6 #[.agg #[.int .i64 L, .int .u8 k, .int .u8 fl, .int .i64 st], .int .i64 n] W (fun e w' => e = .returned (.bool true) ∧ Below W.heap.size W w') := by
  have HR := Lib.hid fun w => rHRight 0 k fl st w (by decide) (by decide) hst.1 hst.2
  rw [ho] at HR
  have b0 := (Bel.refl W).alloc (.cells #[.int .i64 0, .int .u8 k, .int .u8 fl, .int .i64 st] 23)
  have qh := Blk.new W 23 #[.int .i64 0, .int .u8 k, .int .u8 fl, .int .i64 st]
  clear hst hk hfl ho
  go_enter Try.func6, Try.ntmps6
  go_wp2_with (first | (go_at_call 25; (with_reducible refine (HR.out _).mono ?_); rintro e w9 ⟨rfl, hb⟩; replace b0 := b0.below hb; replace qh := qh.below hb; clear hb) | (go_at_call 9; (with_reducible refine (fWakes _).mono ?_); rintro e w9 ⟨rfl, hb⟩; replace b0 := b0.below hb))
  go_ret
  exact ⟨rfl, b0.out⟩
set_option maxRecDepth 100000 in
set_option maxHeartbeats 8000000 in
theorem oNo2 (L k fl st : Int) (hk : 0 ≤ k ∧ k ≤ 255) (hst : -9223372036854775808 ≤ st ∧ st ≤ 9223372036854775807) (hfl : 0 ≤ fl ∧ fl ≤ 255) (n : Int) (ho : okH 0 st = true) (hn : n < 0) :
    Calls Try.prog 6 #[.agg #[.int .i64 L, .int .u8 k, .int .u8 fl, .int .i64 st], .int .i64 n] W (fun e w' => e = .returned (.bool true) ∧ Below W.heap.size W w') := by
  have HR := Lib.hid fun w => rHRight 0 k fl st w (by decide) (by decide) hst.1 hst.2
  rw [ho] at HR
  have b0 := (Bel.refl W).alloc (.cells #[.int .i64 0, .int .u8 k, .int .u8 fl, .int .i64 st] 23)
  have qh := Blk.new W 23 #[.int .i64 0, .int .u8 k, .int .u8 fl, .int .i64 st]
  have z0 : decide (n < 0) = true := decide_eq_true hn
  clear hst hk hfl ho hn
  go_enter Try.func6, Try.ntmps6
  go_wp2_with (first | (go_at_call 25; (with_reducible refine (HR.out _).mono ?_); rintro e w9 ⟨rfl, hb⟩; replace b0 := b0.below hb; replace qh := qh.below hb; clear hb) | (go_at_call 9; (with_reducible refine (fWakes _).mono ?_); rintro e w9 ⟨rfl, hb⟩; replace b0 := b0.below hb))
  go_ret
  exact ⟨rfl, b0.out⟩
set_option maxRecDepth 100000 in
set_option maxHeartbeats 8000000 in
theorem oNo3 (L k fl st : Int) (hk : 0 ≤ k ∧ k ≤ 255) (hst : -9223372036854775808 ≤ st ∧ st ≤ 9223372036854775807) (hfl : 0 ≤ fl ∧ fl ≤ 255) (n : Int) (ho : okH 0 st = true) (hn : 20000 < n) :
    Calls Try.prog 6 #[.agg #[.int .i64 L, .int .u8 k, .int .u8 fl, .int .i64 st], .int .i64 n] W (fun e w' => e = .returned (.bool true) ∧ Below W.heap.size W w') := by
  have HR := Lib.hid fun w => rHRight 0 k fl st w (by decide) (by decide) hst.1 hst.2
  rw [ho] at HR
  have b0 := (Bel.refl W).alloc (.cells #[.int .i64 0, .int .u8 k, .int .u8 fl, .int .i64 st] 23)
  have qh := Blk.new W 23 #[.int .i64 0, .int .u8 k, .int .u8 fl, .int .i64 st]
  have z0 : decide (n < 0) = false := decide_eq_false (by omega)
  have z1 : decide (20000 < n) = true := decide_eq_true hn
  clear hst hk hfl ho hn
  go_enter Try.func6, Try.ntmps6
  go_wp2_with (first | (go_at_call 25; (with_reducible refine (HR.out _).mono ?_); rintro e w9 ⟨rfl, hb⟩; replace b0 := b0.below hb; replace qh := qh.below hb; clear hb) | (go_at_call 9; (with_reducible refine (fWakes _).mono ?_); rintro e w9 ⟨rfl, hb⟩; replace b0 := b0.below hb))
  go_ret
  exact ⟨rfl, b0.out⟩
set_option maxRecDepth 100000 in
set_option maxHeartbeats 400000000 in
theorem oYes (L k fl st : Int) (hk : 0 ≤ k ∧ k ≤ 255) (hst : -9223372036854775808 ≤ st ∧ st ≤ 9223372036854775807) (hfl : 0 ≤ fl ∧ fl ≤ 255) (N : Nat) (ho : okH 0 st = true) (hN : N ≤ 20000) :
    Calls Try.prog 6 #[.agg #[.int .i64 L, .int .u8 k, .int .u8 fl, .int .i64 st], .int .i64 (N : Int)] W (fun e w' => e = .returned (.bool true) ∧ Below W.heap.size W w') := by
  have HR := Lib.hid fun w => rHRight 0 k fl st w (by decide) (by decide) hst.1 hst.2
  rw [ho] at HR
  obtain ⟨⟨r1, ⟨xw, xs, xc⟩⟩, hr⟩ : ∃ r, parseS k fl st (List.replicate N 0) = r := ⟨_, rfl⟩
  have PF := Lib.hid fun A n c w h hn => fParse 0 k fl st A n c (List.replicate N 0) w h hn hst.1 hst.2 hfl.1 hfl.2
  rw [hr] at PF
  have HX := Lib.hid hr
  have HO := Lib.hid ho
  have HN := Lib.hid hN
  have RK := Lib.hid fun w => rKnown k w hk.1
  have b0 := (Bel.refl W).alloc (.cells #[.int .i64 0, .int .u8 k, .int .u8 fl, .int .i64 st] 23)
  have qh := Blk.new W 23 #[.int .i64 0, .int .u8 k, .int .u8 fl, .int .i64 st]
  have z0 : decide ((N : Int) < 0) = false := decide_eq_false (by omega)
  have z1 : decide (20000 < (N : Int)) = false := decide_eq_false (by omega)
  clear hst hk hfl ho hN hr
  go_enter Try.func6, Try.ntmps6
  go_upto_region 4 with (go_at_call 25; (with_reducible refine (HR.out _).mono ?_); rintro e w9 ⟨rfl, hb⟩; replace b0 := b0.below hb; replace qh := qh.below hb; clear hb)
  refine wp_cutR (fun a a' w' => ∃ g3 g4 A2 B m d Q qn qc, a' = ⟨#[.agg #[.int .i64 L, .int .u8 k, .int .u8 fl, .int .i64 st], .int .i64 (N : Int), .pointer (some ⟨W.heap.size, 0, none⟩), undef, .bool false, .pointer (some ⟨g3, 0, none⟩), .pointer (some ⟨g4, 0, none⟩), undef, undef, .pointer (some ⟨W.heap.size, 0, none⟩), .agg #[.int .i64 0, .int .u8 k, .int .u8 fl, .int .i64 st], .bool true, .bool false, .bool false, .int .i64 (N : Int), .bool false, .bool false, .bool false, .int .i64 (N : Int), .bool false, .bool false, undef, .tuple #[.agg #[.int .u8 (r1).kd, .int .u8 (r1).fl, .int .i64 (r1).st, .slice B m d, .int .i64 (r1).pd, .int .i64 (r1).la, .int .i64 (r1).ic, .int .u32 (r1).cd, .slice Q qn qc, .bool (r1).rk, .bool (r1).al, .int .i64 (r1).dp, .int .u8 (r1).wt], .agg #[.bool xw, .int .i64 xs, .int .u32 xc]], .agg #[.int .i64 0, .int .u8 k, .int .u8 fl, .int .i64 st], .int .i64 (N : Int), .slice A2 N N, .tuple #[.agg #[.int .u8 (r1).kd, .int .u8 (r1).fl, .int .i64 (r1).st, .slice B m d, .int .i64 (r1).pd, .int .i64 (r1).la, .int .i64 (r1).ic, .int .u32 (r1).cd, .slice Q qn qc, .bool (r1).rk, .bool (r1).al, .int .i64 (r1).dp, .int .u8 (r1).wt], .agg #[.bool xw, .int .i64 xs, .int .u32 xc]], .agg #[.int .u8 (r1).kd, .int .u8 (r1).fl, .int .i64 (r1).st, .slice B m d, .int .i64 (r1).pd, .int .i64 (r1).la, .int .i64 (r1).ic, .int .u32 (r1).cd, .slice Q qn qc, .bool (r1).rk, .bool (r1).al, .int .i64 (r1).dp, .int .u8 (r1).wt], .agg #[.bool xw, .int .i64 xs, .int .u32 xc], undef, undef, undef, undef, undef, undef, undef, undef, undef, undef, undef, undef, undef, undef, undef, undef, undef, undef, undef, undef, undef, undef, undef, undef, undef, undef, undef, undef, undef, undef, undef, undef, undef, undef, undef, undef, undef, undef, undef, undef, undef, undef, undef, undef, undef, undef, undef, undef, undef, undef, undef, undef, undef, undef, undef, undef, undef, undef, undef, undef, undef, undef, undef, undef, undef, undef, undef, undef, undef, undef, undef, undef, undef, undef, undef, undef, undef, undef, undef, undef, undef, undef, undef, undef, undef, undef, undef, undef, undef, undef, undef, undef, undef, undef, undef, undef, undef, undef, undef, undef, undef, undef, undef, undef, undef, undef, undef, undef, undef, undef, undef, undef, undef, undef, undef, undef, undef, undef, undef, undef, undef, undef, undef, undef, undef, undef, undef, undef, undef, undef, undef, undef, undef, undef, undef, undef, undef, undef, undef, undef, undef, undef, undef, undef, undef, undef, undef, undef, undef, undef, undef, undef, undef, undef, undef, undef, undef, undef, undef, undef, undef, undef, undef, undef, undef, undef, undef, undef, undef, undef], []⟩ ∧ Blk w' g3 30 #[.int .u8 (r1).kd, .int .u8 (r1).fl, .int .i64 (r1).st, .slice B m d, .int .i64 (r1).pd, .int .i64 (r1).la, .int .i64 (r1).ic, .int .u32 (r1).cd, .slice Q qn qc, .bool (r1).rk, .bool (r1).al, .int .i64 (r1).dp, .int .u8 (r1).wt] ∧ Blk w' g4 34 #[.bool xw, .int .i64 xs, .int .u32 xc] ∧ Blk w' W.heap.size 23 #[.int .i64 0, .int .u8 k, .int .u8 fl, .int .i64 st] ∧ Bel W w') ?reg ?rest
  case reg =>
    as_aux_lemma =>
      replace b0 := b0.drew
      replace qh := qh.drew
      refine wp_region_G (fun w' => Blk w' W.heap.size 23 #[.int .i64 0, .int .u8 k, .int .u8 fl, .int .i64 st]) [] (by kernel_rfl) ?_
      generalize w9.drew = W0 at b0 qh ⊢
      have S0 := qh
      refine wpAnyG_take 0 (v := .agg #[.int .i64 0, .int .u8 k, .int .u8 fl, .int .i64 st]) rfl (by kernel_rfl) (fun _ _ _ h => by cases h.1) S0 (Or.inl ⟨by rfl, by intro w' hSw; exact exec_getB (by rfl) (by rfl) hSw Try.underlying23 rfl (by rfl)⟩) ?_; (try simp only [Act.put, rA, rB, rC, rD, rE, rF])
      refine wpAnyG_take 1 (v := ?_) rfl (by kernel_rfl) (fun _ _ _ h => by cases h.1) S0 (Or.inl ⟨by rfl, by intro w' hSw; go_simp; try with_reducible rfl⟩) ?_; (try simp only [Act.put, rA, rB, rC, rD, rE, rF])
      clear S0
      refine wpAnyG_three 2 7 8 (by kernel_rfl) rfl rfl rfl (fun K hK => ?_) (fun K hK => ?_) (fun K hK => ?_)
      · rw [if_pos (by rfl)]
        refine wp_make8 N (by have := HN.out; omega) rfl rfl rfl ?_
        intro A2 w9 k2 hb
        replace b0 := b0.below hb
        replace qh := qh.below hb
        clear hb
        (try go_simp)
        refine hK.out _ _ (fun _ => qh) ?_
        clear hK K
        (try simp only [Act.put, rA, rB, rC, rD, rE, rF])
        refine wpAnyG_three 3 7 8 (by kernel_rfl) rfl rfl rfl (fun K hK => ?_) (fun K hK => ?_) (fun K hK => ?_)
        · rw [if_pos (by rfl)]
          go_simp
          (with_reducible refine (PF.out _ _ _ _ k2.byt (by have := HN.out; omega)).mono ?_)
          rintro e w9 ⟨B, m, d, Q, qn, qc, rfl, mm, mp, hb⟩
          replace b0 := b0.below hb
          replace qh := qh.below hb
          clear hb
          (try go_simp)
          refine hK.out _ _ (fun _ => qh) ?_
          clear hK K
          (try simp only [Act.put, rA, rB, rC, rD, rE, rF])
          have S0 := qh
          refine wpAnyG_take 4 (v := ?_) rfl (by kernel_rfl) (fun _ _ _ h => by cases h.1) S0 (Or.inl ⟨by rfl, by intro w' hSw; go_simp; try with_reducible rfl⟩) ?_; (try simp only [Act.put, rA, rB, rC, rD, rE, rF])
          refine wpAnyG_take 5 (v := ?_) rfl (by kernel_rfl) (fun _ _ _ h => by cases h.1) S0 (Or.inl ⟨by rfl, by intro w' hSw; go_simp; try with_reducible rfl⟩) ?_; (try simp only [Act.put, rA, rB, rC, rD, rE, rF])
          refine wpAnyG_take 6 (v := ?_) rfl (by kernel_rfl) (fun _ _ _ h => by cases h.1) S0 (Or.inl ⟨by rfl, by intro w' hSw; go_simp; try with_reducible rfl⟩) ?_; (try simp only [Act.put, rA, rB, rC, rD, rE, rF])
          clear S0
          refine wpAnyG_two 7 8 (by kernel_rfl) rfl rfl (fun K hK => ?_) (fun K hK => ?_)
          · rw [if_pos (by rfl)]
            go_simp
            obtain ⟨gz, ez, q3, l3, hz⟩ := Bel.newE b0 30 #[.int .u8 0, .int .u8 0, .int .i64 0, .slice none 0 0, .int .i64 0, .int .i64 0, .int .i64 0, .int .u32 0, .slice none 0 0, .bool false, .bool false, .int .i64 0, .int .u8 0]
            have n3 := hz _ _ _ qh
            clear hz
            (try simp only [World.size_alloc] at ez)
            subst ez
            replace b0 := b0.alloc (.cells #[.int .u8 0, .int .u8 0, .int .i64 0, .slice none 0 0, .int .i64 0, .int .i64 0, .int .i64 0, .int .u32 0, .slice none 0 0, .bool false, .bool false, .int .i64 0, .int .u8 0] 30)
            replace qh := qh.alloc (.cells #[.int .u8 0, .int .u8 0, .int .i64 0, .slice none 0 0, .int .i64 0, .int .i64 0, .int .i64 0, .int .u32 0, .slice none 0 0, .bool false, .bool false, .int .i64 0, .int .u8 0] 30)
            replace k2 := k2.alloc (.cells #[.int .u8 0, .int .u8 0, .int .i64 0, .slice none 0 0, .int .i64 0, .int .i64 0, .int .i64 0, .int .u32 0, .slice none 0 0, .bool false, .bool false, .int .i64 0, .int .u8 0] 30)
            replace mm := mm.alloc (.cells #[.int .u8 0, .int .u8 0, .int .i64 0, .slice none 0 0, .int .i64 0, .int .i64 0, .int .i64 0, .int .u32 0, .slice none 0 0, .bool false, .bool false, .int .i64 0, .int .u8 0] 30)
            replace mp := mp.alloc (.cells #[.int .u8 0, .int .u8 0, .int .i64 0, .slice none 0 0, .int .i64 0, .int .i64 0, .int .i64 0, .int .u32 0, .slice none 0 0, .bool false, .bool false, .int .i64 0, .int .u8 0] 30)
            (try go_simp)
            refine hK.out _ _ (fun _ => qh) ?_
            clear hK K
            (try simp only [Act.put, rA, rB, rC, rD, rE, rF])
            refine wpAnyG_one 8 (by kernel_rfl) rfl (fun K hK => ?_)
            rw [if_pos (by rfl)]
            go_simp
            obtain ⟨gz, ez, q4, l4, hz⟩ := Bel.newE b0 34 #[.bool false, .int .i64 0, .int .u32 0]
            have n4 := hz _ _ _ qh
            clear hz
            (try simp only [World.size_alloc] at ez)
            subst ez
            replace b0 := b0.alloc (.cells #[.bool false, .int .i64 0, .int .u32 0] 34)
            replace qh := qh.alloc (.cells #[.bool false, .int .i64 0, .int .u32 0] 34)
            replace q3 := q3.alloc (.cells #[.bool false, .int .i64 0, .int .u32 0] 34)
            replace k2 := k2.alloc (.cells #[.bool false, .int .i64 0, .int .u32 0] 34)
            replace mm := mm.alloc (.cells #[.bool false, .int .i64 0, .int .u32 0] 34)
            replace mp := mp.alloc (.cells #[.bool false, .int .i64 0, .int .u32 0] 34)
            (try go_simp)
            refine hK.out _ _ (fun _ => qh) ?_
            clear hK K
            (try simp only [Act.put, rA, rB, rC, rD, rE, rF])
            refine wpAnyG_one 9 (by kernel_rfl) rfl (fun K hK => ?_)
            rw [if_pos (by rfl)]
            refine wp_putB (cells := #[.int .u8 (r1).kd, .int .u8 (r1).fl, .int .i64 (r1).st, .slice B m d, .int .i64 (r1).pd, .int .i64 (r1).la, .int .i64 (r1).ic, .int .u32 (r1).cd, .slice Q qn qc, .bool (r1).rk, .bool (r1).al, .int .i64 (r1).dp, .int .u8 (r1).wt]) _ _ _ rfl rfl rfl q3 (by rfl) (by rfl) (by rfl) ?_
            intro w9 qn hg
            replace b0 := b0.grown hg l3
            replace qh := qh.grown hg n3
            replace q4 := q4.grown hg (q4.ne q3 (by decide))
            clear hg q3; have q3 := qn; clear qn
            refine hK.out _ _ (fun _ => qh) ?_
            clear hK K
            (try simp only [Act.put, rA, rB, rC, rD, rE, rF])
            refine wpAnyG_one 10 (by kernel_rfl) rfl (fun K hK => ?_)
            rw [if_pos (by rfl)]
            refine wp_putB (cells := #[.bool xw, .int .i64 xs, .int .u32 xc]) _ _ _ rfl rfl rfl q4 (by rfl) (by rfl) (by rfl) ?_
            intro w9 qn hg
            replace b0 := b0.grown hg l4
            replace qh := qh.grown hg n4
            replace q3 := q3.grown hg (q3.ne q4 (by decide))
            clear hg q4; have q4 := qn; clear qn
            refine hK.out _ _ (fun _ => qh) ?_
            clear hK K
            (try simp only [Act.put, rA, rB, rC, rD, rE, rF])
            refine wpAnyG_done (by kernel_rfl) ?_ _
            exact ⟨rfl, _, _, _, _, _, _, _, _, _, rfl, q3, q4, qh, b0⟩
          · rw [if_pos (by rfl)]
            go_simp
            obtain ⟨gz, ez, q4, l4, hz⟩ := Bel.newE b0 34 #[.bool false, .int .i64 0, .int .u32 0]
            have n4 := hz _ _ _ qh
            clear hz
            (try simp only [World.size_alloc] at ez)
            subst ez
            replace b0 := b0.alloc (.cells #[.bool false, .int .i64 0, .int .u32 0] 34)
            replace qh := qh.alloc (.cells #[.bool false, .int .i64 0, .int .u32 0] 34)
            replace k2 := k2.alloc (.cells #[.bool false, .int .i64 0, .int .u32 0] 34)
            replace mm := mm.alloc (.cells #[.bool false, .int .i64 0, .int .u32 0] 34)
            replace mp := mp.alloc (.cells #[.bool false, .int .i64 0, .int .u32 0] 34)
            (try go_simp)
            refine hK.out _ _ (fun _ => qh) ?_
            clear hK K
            (try simp only [Act.put, rA, rB, rC, rD, rE, rF])
            refine wpAnyG_one 7 (by kernel_rfl) rfl (fun K hK => ?_)
            rw [if_pos (by rfl)]
            go_simp
            obtain ⟨gz, ez, q3, l3, hz⟩ := Bel.newE b0 30 #[.int .u8 0, .int .u8 0, .int .i64 0, .slice none 0 0, .int .i64 0, .int .i64 0, .int .i64 0, .int .u32 0, .slice none 0 0, .bool false, .bool false, .int .i64 0, .int .u8 0]
            have n3 := hz _ _ _ qh
            clear hz
            (try simp only [World.size_alloc] at ez)
            subst ez
            replace b0 := b0.alloc (.cells #[.int .u8 0, .int .u8 0, .int .i64 0, .slice none 0 0, .int .i64 0, .int .i64 0, .int .i64 0, .int .u32 0, .slice none 0 0, .bool false, .bool false, .int .i64 0, .int .u8 0] 30)
            replace qh := qh.alloc (.cells #[.int .u8 0, .int .u8 0, .int .i64 0, .slice none 0 0, .int .i64 0, .int .i64 0, .int .i64 0, .int .u32 0, .slice none 0 0, .bool false, .bool false, .int .i64 0, .int .u8 0] 30)
            replace q4 := q4.alloc (.cells #[.int .u8 0, .int .u8 0, .int .i64 0, .slice none 0 0, .int .i64 0, .int .i64 0, .int .i64 0, .int .u32 0, .slice none 0 0, .bool false, .bool false, .int .i64 0, .int .u8 0] 30)
            replace k2 := k2.alloc (.cells #[.int .u8 0, .int .u8 0, .int .i64 0, .slice none 0 0, .int .i64 0, .int .i64 0, .int .i64 0, .int .u32 0, .slice none 0 0, .bool false, .bool false, .int .i64 0, .int .u8 0] 30)
            replace mm := mm.alloc (.cells #[.int .u8 0, .int .u8 0, .int .i64 0, .slice none 0 0, .int .i64 0, .int .i64 0, .int .i64 0, .int .u32 0, .slice none 0 0, .bool false, .bool false, .int .i64 0, .int .u8 0] 30)
            replace mp := mp.alloc (.cells #[.int .u8 0, .int .u8 0, .int .i64 0, .slice none 0 0, .int .i64 0, .int .i64 0, .int .i64 0, .int .u32 0, .slice none 0 0, .bool false, .bool false, .int .i64 0, .int .u8 0] 30)
            (try go_simp)
            refine hK.out _ _ (fun _ => qh) ?_
            clear hK K
            (try simp only [Act.put, rA, rB, rC, rD, rE, rF])
            refine wpAnyG_one 9 (by kernel_rfl) rfl (fun K hK => ?_)
            rw [if_pos (by rfl)]
            refine wp_putB (cells := #[.int .u8 (r1).kd, .int .u8 (r1).fl, .int .i64 (r1).st, .slice B m d, .int .i64 (r1).pd, .int .i64 (r1).la, .int .i64 (r1).ic, .int .u32 (r1).cd, .slice Q qn qc, .bool (r1).rk, .bool (r1).al, .int .i64 (r1).dp, .int .u8 (r1).wt]) _ _ _ rfl rfl rfl q3 (by rfl) (by rfl) (by rfl) ?_
            intro w9 qn hg
            replace b0 := b0.grown hg l3
            replace qh := qh.grown hg n3
            replace q4 := q4.grown hg (q4.ne q3 (by decide))
            clear hg q3; have q3 := qn; clear qn
            refine hK.out _ _ (fun _ => qh) ?_
            clear hK K
            (try simp only [Act.put, rA, rB, rC, rD, rE, rF])
            refine wpAnyG_one 10 (by kernel_rfl) rfl (fun K hK => ?_)
            rw [if_pos (by rfl)]
            refine wp_putB (cells := #[.bool xw, .int .i64 xs, .int .u32 xc]) _ _ _ rfl rfl rfl q4 (by rfl) (by rfl) (by rfl) ?_
            intro w9 qn hg
            replace b0 := b0.grown hg l4
            replace qh := qh.grown hg n4
            replace q3 := q3.grown hg (q3.ne q4 (by decide))
            clear hg q4; have q4 := qn; clear qn
            refine hK.out _ _ (fun _ => qh) ?_
            clear hK K
            (try simp only [Act.put, rA, rB, rC, rD, rE, rF])
            refine wpAnyG_done (by kernel_rfl) ?_ _
            exact ⟨rfl, _, _, _, _, _, _, _, _, _, rfl, q3, q4, qh, b0⟩
        · rw [if_pos (by rfl)]
          go_simp
          obtain ⟨gz, ez, q3, l3, hz⟩ := Bel.newE b0 30 #[.int .u8 0, .int .u8 0, .int .i64 0, .slice none 0 0, .int .i64 0, .int .i64 0, .int .i64 0, .int .u32 0, .slice none 0 0, .bool false, .bool false, .int .i64 0, .int .u8 0]
          have n3 := hz _ _ _ qh
          clear hz
          (try simp only [World.size_alloc] at ez)
          subst ez
          replace b0 := b0.alloc (.cells #[.int .u8 0, .int .u8 0, .int .i64 0, .slice none 0 0, .int .i64 0, .int .i64 0, .int .i64 0, .int .u32 0, .slice none 0 0, .bool false, .bool false, .int .i64 0, .int .u8 0] 30)
          replace qh := qh.alloc (.cells #[.int .u8 0, .int .u8 0, .int .i64 0, .slice none 0 0, .int .i64 0, .int .i64 0, .int .i64 0, .int .u32 0, .slice none 0 0, .bool false, .bool false, .int .i64 0, .int .u8 0] 30)
          replace k2 := k2.alloc (.cells #[.int .u8 0, .int .u8 0, .int .i64 0, .slice none 0 0, .int .i64 0, .int .i64 0, .int .i64 0, .int .u32 0, .slice none 0 0, .bool false, .bool false, .int .i64 0, .int .u8 0] 30)
          (try go_simp)
          refine hK.out _ _ (fun _ => qh) ?_
          clear hK K
          (try simp only [Act.put, rA, rB, rC, rD, rE, rF])
          refine wpAnyG_two 3 8 (by kernel_rfl) rfl rfl (fun K hK => ?_) (fun K hK => ?_)
          · rw [if_pos (by rfl)]
            go_simp
            (with_reducible refine (PF.out _ _ _ _ k2.byt (by have := HN.out; omega)).mono ?_)
            rintro e w9 ⟨B, m, d, Q, qn, qc, rfl, mm, mp, hb⟩
            replace b0 := b0.below hb
            replace qh := qh.below hb
            replace q3 := q3.below hb
            clear hb
            (try go_simp)
            refine hK.out _ _ (fun _ => qh) ?_
            clear hK K
            (try simp only [Act.put, rA, rB, rC, rD, rE, rF])
            have S0 := qh
            refine wpAnyG_take 4 (v := ?_) rfl (by kernel_rfl) (fun _ _ _ h => by cases h.1) S0 (Or.inl ⟨by rfl, by intro w' hSw; go_simp; try with_reducible rfl⟩) ?_; (try simp only [Act.put, rA, rB, rC, rD, rE, rF])
            refine wpAnyG_take 5 (v := ?_) rfl (by kernel_rfl) (fun _ _ _ h => by cases h.1) S0 (Or.inl ⟨by rfl, by intro w' hSw; go_simp; try with_reducible rfl⟩) ?_; (try simp only [Act.put, rA, rB, rC, rD, rE, rF])
            refine wpAnyG_take 6 (v := ?_) rfl (by kernel_rfl) (fun _ _ _ h => by cases h.1) S0 (Or.inl ⟨by rfl, by intro w' hSw; go_simp; try with_reducible rfl⟩) ?_; (try simp only [Act.put, rA, rB, rC, rD, rE, rF])
            clear S0
            refine wpAnyG_one 8 (by kernel_rfl) rfl (fun K hK => ?_)
            rw [if_pos (by rfl)]
            go_simp
            obtain ⟨gz, ez, q4, l4, hz⟩ := Bel.newE b0 34 #[.bool false, .int .i64 0, .int .u32 0]
            have n4 := hz _ _ _ qh
            clear hz
            (try simp only [World.size_alloc] at ez)
            subst ez
            replace b0 := b0.alloc (.cells #[.bool false, .int .i64 0, .int .u32 0] 34)
            replace qh := qh.alloc (.cells #[.bool false, .int .i64 0, .int .u32 0] 34)
            replace q3 := q3.alloc (.cells #[.bool false, .int .i64 0, .int .u32 0] 34)
            replace k2 := k2.alloc (.cells #[.bool false, .int .i64 0, .int .u32 0] 34)
            replace mm := mm.alloc (.cells #[.bool false, .int .i64 0, .int .u32 0] 34)
            replace mp := mp.alloc (.cells #[.bool false, .int .i64 0, .int .u32 0] 34)
            (try go_simp)
            refine hK.out _ _ (fun _ => qh) ?_
            clear hK K
            (try simp only [Act.put, rA, rB, rC, rD, rE, rF])
            refine wpAnyG_one 9 (by kernel_rfl) rfl (fun K hK => ?_)
            rw [if_pos (by rfl)]
            refine wp_putB (cells := #[.int .u8 (r1).kd, .int .u8 (r1).fl, .int .i64 (r1).st, .slice B m d, .int .i64 (r1).pd, .int .i64 (r1).la, .int .i64 (r1).ic, .int .u32 (r1).cd, .slice Q qn qc, .bool (r1).rk, .bool (r1).al, .int .i64 (r1).dp, .int .u8 (r1).wt]) _ _ _ rfl rfl rfl q3 (by rfl) (by rfl) (by rfl) ?_
            intro w9 qn hg
            replace b0 := b0.grown hg l3
            replace qh := qh.grown hg n3
            replace q4 := q4.grown hg (q4.ne q3 (by decide))
            clear hg q3; have q3 := qn; clear qn
            refine hK.out _ _ (fun _ => qh) ?_
            clear hK K
            (try simp only [Act.put, rA, rB, rC, rD, rE, rF])
            refine wpAnyG_one 10 (by kernel_rfl) rfl (fun K hK => ?_)
            rw [if_pos (by rfl)]
            refine wp_putB (cells := #[.bool xw, .int .i64 xs, .int .u32 xc]) _ _ _ rfl rfl rfl q4 (by rfl) (by rfl) (by rfl) ?_
            intro w9 qn hg
            replace b0 := b0.grown hg l4
            replace qh := qh.grown hg n4
            replace q3 := q3.grown hg (q3.ne q4 (by decide))
            clear hg q4; have q4 := qn; clear qn
            refine hK.out _ _ (fun _ => qh) ?_
            clear hK K
            (try simp only [Act.put, rA, rB, rC, rD, rE, rF])
            refine wpAnyG_done (by kernel_rfl) ?_ _
            exact ⟨rfl, _, _, _, _, _, _, _, _, _, rfl, q3, q4, qh, b0⟩
          · rw [if_pos (by rfl)]
            go_simp
            obtain ⟨gz, ez, q4, l4, hz⟩ := Bel.newE b0 34 #[.bool false, .int .i64 0, .int .u32 0]
            have n4 := hz _ _ _ qh
            clear hz
            (try simp only [World.size_alloc] at ez)
            subst ez
            replace b0 := b0.alloc (.cells #[.bool false, .int .i64 0, .int .u32 0] 34)
            replace qh := qh.alloc (.cells #[.bool false, .int .i64 0, .int .u32 0] 34)
            replace q3 := q3.alloc (.cells #[.bool false, .int .i64 0, .int .u32 0] 34)
            replace k2 := k2.alloc (.cells #[.bool false, .int .i64 0, .int .u32 0] 34)
            (try go_simp)
            refine hK.out _ _ (fun _ => qh) ?_
            clear hK K
            (try simp only [Act.put, rA, rB, rC, rD, rE, rF])
            refine wpAnyG_one 3 (by kernel_rfl) rfl (fun K hK => ?_)
            rw [if_pos (by rfl)]
            go_simp
            (with_reducible refine (PF.out _ _ _ _ k2.byt (by have := HN.out; omega)).mono ?_)
            rintro e w9 ⟨B, m, d, Q, qn, qc, rfl, mm, mp, hb⟩
            replace b0 := b0.below hb
            replace qh := qh.below hb
            replace q3 := q3.below hb
            replace q4 := q4.below hb
            clear hb
            (try go_simp)
            refine hK.out _ _ (fun _ => qh) ?_
            clear hK K
            (try simp only [Act.put, rA, rB, rC, rD, rE, rF])
            have S0 := qh
            refine wpAnyG_take 4 (v := ?_) rfl (by kernel_rfl) (fun _ _ _ h => by cases h.1) S0 (Or.inl ⟨by rfl, by intro w' hSw; go_simp; try with_reducible rfl⟩) ?_; (try simp only [Act.put, rA, rB, rC, rD, rE, rF])
            refine wpAnyG_take 5 (v := ?_) rfl (by kernel_rfl) (fun _ _ _ h => by cases h.1) S0 (Or.inl ⟨by rfl, by intro w' hSw; go_simp; try with_reducible rfl⟩) ?_; (try simp only [Act.put, rA, rB, rC, rD, rE, rF])
            refine wpAnyG_take 6 (v := ?_) rfl (by kernel_rfl) (fun _ _ _ h => by cases h.1) S0 (Or.inl ⟨by rfl, by intro w' hSw; go_simp; try with_reducible rfl⟩) ?_; (try simp only [Act.put, rA, rB, rC, rD, rE, rF])
            clear S0
            refine wpAnyG_one 9 (by kernel_rfl) rfl (fun K hK => ?_)
            rw [if_pos (by rfl)]
            refine wp_putB (cells := #[.int .u8 (r1).kd, .int .u8 (r1).fl, .int .i64 (r1).st, .slice B m d, .int .i64 (r1).pd, .int .i64 (r1).la, .int .i64 (r1).ic, .int .u32 (r1).cd, .slice Q qn qc, .bool (r1).rk, .bool (r1).al, .int .i64 (r1).dp, .int .u8 (r1).wt]) _ _ _ rfl rfl rfl q3 (by rfl) (by rfl) (by rfl) ?_
            intro w9 qn hg
            replace b0 := b0.grown hg l3
            replace qh := qh.grown hg n3
            replace q4 := q4.grown hg (q4.ne q3 (by decide))
            clear hg q3; have q3 := qn; clear qn
            refine hK.out _ _ (fun _ => qh) ?_
            clear hK K
            (try simp only [Act.put, rA, rB, rC, rD, rE, rF])
            refine wpAnyG_one 10 (by kernel_rfl) rfl (fun K hK => ?_)
            rw [if_pos (by rfl)]
            refine wp_putB (cells := #[.bool xw, .int .i64 xs, .int .u32 xc]) _ _ _ rfl rfl rfl q4 (by rfl) (by rfl) (by rfl) ?_
            intro w9 qn hg
            replace b0 := b0.grown hg l4
            replace qh := qh.grown hg n4
            replace q3 := q3.grown hg (q3.ne q4 (by decide))
            clear hg q4; have q4 := qn; clear qn
            refine hK.out _ _ (fun _ => qh) ?_
            clear hK K
            (try simp only [Act.put, rA, rB, rC, rD, rE, rF])
            refine wpAnyG_done (by kernel_rfl) ?_ _
            exact ⟨rfl, _, _, _, _, _, _, _, _, _, rfl, q3, q4, qh, b0⟩
        · rw [if_pos (by rfl)]
          go_simp
          obtain ⟨gz, ez, q4, l4, hz⟩ := Bel.newE b0 34 #[.bool false, .int .i64 0, .int .u32 0]
          have n4 := hz _ _ _ qh
          clear hz
          (try simp only [World.size_alloc] at ez)
          subst ez
          replace b0 := b0.alloc (.cells #[.bool false, .int .i64 0, .int .u32 0] 34)
          replace qh := qh.alloc (.cells #[.bool false, .int .i64 0, .int .u32 0] 34)
          replace k2 := k2.alloc (.cells #[.bool false, .int .i64 0, .int .u32 0] 34)
          (try go_simp)
          refine hK.out _ _ (fun _ => qh) ?_
          clear hK K
          (try simp only [Act.put, rA, rB, rC, rD, rE, rF])
          refine wpAnyG_two 3 7 (by kernel_rfl) rfl rfl (fun K hK => ?_) (fun K hK => ?_)
          · rw [if_pos (by rfl)]
            go_simp
            (with_reducible refine (PF.out _ _ _ _ k2.byt (by have := HN.out; omega)).mono ?_)
            rintro e w9 ⟨B, m, d, Q, qn, qc, rfl, mm, mp, hb⟩
            replace b0 := b0.below hb
            replace qh := qh.below hb
            replace q4 := q4.below hb
            clear hb
            (try go_simp)
            refine hK.out _ _ (fun _ => qh) ?_
            clear hK K
            (try simp only [Act.put, rA, rB, rC, rD, rE, rF])
            have S0 := qh
            refine wpAnyG_take 4 (v := ?_) rfl (by kernel_rfl) (fun _ _ _ h => by cases h.1) S0 (Or.inl ⟨by rfl, by intro w' hSw; go_simp; try with_reducible rfl⟩) ?_; (try simp only [Act.put, rA, rB, rC, rD, rE, rF])
            refine wpAnyG_take 5 (v := ?_) rfl (by kernel_rfl) (fun _ _ _ h => by cases h.1) S0 (Or.inl ⟨by rfl, by intro w' hSw; go_simp; try with_reducible rfl⟩) ?_; (try simp only [Act.put, rA, rB, rC, rD, rE, rF])
            refine wpAnyG_take 6 (v := ?_) rfl (by kernel_rfl) (fun _ _ _ h => by cases h.1) S0 (Or.inl ⟨by rfl, by intro w' hSw; go_simp; try with_reducible rfl⟩) ?_; (try simp only [Act.put, rA, rB, rC, rD, rE, rF])
            clear S0
            refine wpAnyG_one 7 (by kernel_rfl) rfl (fun K hK => ?_)
            rw [if_pos (by rfl)]
            go_simp
            obtain ⟨gz, ez, q3, l3, hz⟩ := Bel.newE b0 30 #[.int .u8 0, .int .u8 0, .int .i64 0, .slice none 0 0, .int .i64 0, .int .i64 0, .int .i64 0, .int .u32 0, .slice none 0 0, .bool false, .bool false, .int .i64 0, .int .u8 0]
            have n3 := hz _ _ _ qh
            clear hz
            (try simp only [World.size_alloc] at ez)
            subst ez
            replace b0 := b0.alloc (.cells #[.int .u8 0, .int .u8 0, .int .i64 0, .slice none 0 0, .int .i64 0, .int .i64 0, .int .i64 0, .int .u32 0, .slice none 0 0, .bool false, .bool false, .int .i64 0, .int .u8 0] 30)
            replace qh := qh.alloc (.cells #[.int .u8 0, .int .u8 0, .int .i64 0, .slice none 0 0, .int .i64 0, .int .i64 0, .int .i64 0, .int .u32 0, .slice none 0 0, .bool false, .bool false, .int .i64 0, .int .u8 0] 30)
            replace q4 := q4.alloc (.cells #[.int .u8 0, .int .u8 0, .int .i64 0, .slice none 0 0, .int .i64 0, .int .i64 0, .int .i64 0, .int .u32 0, .slice none 0 0, .bool false, .bool false, .int .i64 0, .int .u8 0] 30)
            replace k2 := k2.alloc (.cells #[.int .u8 0, .int .u8 0, .int .i64 0, .slice none 0 0, .int .i64 0, .int .i64 0, .int .i64 0, .int .u32 0, .slice none 0 0, .bool false, .bool false, .int .i64 0, .int .u8 0] 30)
            replace mm := mm.alloc (.cells #[.int .u8 0, .int .u8 0, .int .i64 0, .slice none 0 0, .int .i64 0, .int .i64 0, .int .i64 0, .int .u32 0, .slice none 0 0, .bool false, .bool false, .int .i64 0, .int .u8 0] 30)
            replace mp := mp.alloc (.cells #[.int .u8 0, .int .u8 0, .int .i64 0, .slice none 0 0, .int .i64 0, .int .i64 0, .int .i64 0, .int .u32 0, .slice none 0 0, .bool false, .bool false, .int .i64 0, .int .u8 0] 30)
            (try go_simp)
            refine hK.out _ _ (fun _ => qh) ?_
            clear hK K
            (try simp only [Act.put, rA, rB, rC, rD, rE, rF])
            refine wpAnyG_one 9 (by kernel_rfl) rfl (fun K hK => ?_)
            rw [if_pos (by rfl)]
            refine wp_putB (cells := #[.int .u8 (r1).kd, .int .u8 (r1).fl, .int .i64 (r1).st, .slice B m d, .int .i64 (r1).pd, .int .i64 (r1).la, .int .i64 (r1).ic, .int .u32 (r1).cd, .slice Q qn qc, .bool (r1).rk, .bool (r1).al, .int .i64 (r1).dp, .int .u8 (r1).wt]) _ _ _ rfl rfl rfl q3 (by rfl) (by rfl) (by rfl) ?_
            intro w9 qn hg
            replace b0 := b0.grown hg l3
            replace qh := qh.grown hg n3
            replace q4 := q4.grown hg (q4.ne q3 (by decide))
            clear hg q3; have q3 := qn; clear qn
            refine hK.out _ _ (fun _ => qh) ?_
            clear hK K
            (try simp only [Act.put, rA, rB, rC, rD, rE, rF])
            refine wpAnyG_one 10 (by kernel_rfl) rfl (fun K hK => ?_)
            rw [if_pos (by rfl)]
            refine wp_putB (cells := #[.bool xw, .int .i64 xs, .int .u32 xc]) _ _ _ rfl rfl rfl q4 (by rfl) (by rfl) (by rfl) ?_
            intro w9 qn hg
            replace b0 := b0.grown hg l4
            replace qh := qh.grown hg n4
            replace q3 := q3.grown hg (q3.ne q4 (by decide))
            clear hg q4; have q4 := qn; clear qn
            refine hK.out _ _ (fun _ => qh) ?_
            clear hK K
            (try simp only [Act.put, rA, rB, rC, rD, rE, rF])
            refine wpAnyG_done (by kernel_rfl) ?_ _
            exact ⟨rfl, _, _, _, _, _, _, _, _, _, rfl, q3, q4, qh, b0⟩
          · rw [if_pos (by rfl)]
            go_simp
            obtain ⟨gz, ez, q3, l3, hz⟩ := Bel.newE b0 30 #[.int .u8 0, .int .u8 0, .int .i64 0, .slice none 0 0, .int .i64 0, .int .i64 0, .int .i64 0, .int .u32 0, .slice none 0 0, .bool false, .bool false, .int .i64 0, .int .u8 0]
            have n3 := hz _ _ _ qh
            clear hz
            (try simp only [World.size_alloc] at ez)
            subst ez
            replace b0 := b0.alloc (.cells #[.int .u8 0, .int .u8 0, .int .i64 0, .slice none 0 0, .int .i64 0, .int .i64 0, .int .i64 0, .int .u32 0, .slice none 0 0, .bool false, .bool false, .int .i64 0, .int .u8 0] 30)
            replace qh := qh.alloc (.cells #[.int .u8 0, .int .u8 0, .int .i64 0, .slice none 0 0, .int .i64 0, .int .i64 0, .int .i64 0, .int .u32 0, .slice none 0 0, .bool false, .bool false, .int .i64 0, .int .u8 0] 30)
            replace q4 := q4.alloc (.cells #[.int .u8 0, .int .u8 0, .int .i64 0, .slice none 0 0, .int .i64 0, .int .i64 0, .int .i64 0, .int .u32 0, .slice none 0 0, .bool false, .bool false, .int .i64 0, .int .u8 0] 30)
            replace k2 := k2.alloc (.cells #[.int .u8 0, .int .u8 0, .int .i64 0, .slice none 0 0, .int .i64 0, .int .i64 0, .int .i64 0, .int .u32 0, .slice none 0 0, .bool false, .bool false, .int .i64 0, .int .u8 0] 30)
            (try go_simp)
            refine hK.out _ _ (fun _ => qh) ?_
            clear hK K
            (try simp only [Act.put, rA, rB, rC, rD, rE, rF])
            refine wpAnyG_one 3 (by kernel_rfl) rfl (fun K hK => ?_)
            rw [if_pos (by rfl)]
            go_simp
            (with_reducible refine (PF.out _ _ _ _ k2.byt (by have := HN.out; omega)).mono ?_)
            rintro e w9 ⟨B, m, d, Q, qn, qc, rfl, mm, mp, hb⟩
            replace b0 := b0.below hb
            replace qh := qh.below hb
            replace q3 := q3.below hb
            replace q4 := q4.below hb
            clear hb
            (try go_simp)
            refine hK.out _ _ (fun _ => qh) ?_
            clear hK K
            (try simp only [Act.put, rA, rB, rC, rD, rE, rF])
            have S0 := qh
            refine wpAnyG_take 4 (v := ?_) rfl (by kernel_rfl) (fun _ _ _ h => by cases h.1) S0 (Or.inl ⟨by rfl, by intro w' hSw; go_simp; try with_reducible rfl⟩) ?_; (try simp only [Act.put, rA, rB, rC, rD, rE, rF])
            refine wpAnyG_take 5 (v := ?_) rfl (by kernel_rfl) (fun _ _ _ h => by cases h.1) S0 (Or.inl ⟨by rfl, by intro w' hSw; go_simp; try with_reducible rfl⟩) ?_; (try simp only [Act.put, rA, rB, rC, rD, rE, rF])
            refine wpAnyG_take 6 (v := ?_) rfl (by kernel_rfl) (fun _ _ _ h => by cases h.1) S0 (Or.inl ⟨by rfl, by intro w' hSw; go_simp; try with_reducible rfl⟩) ?_; (try simp only [Act.put, rA, rB, rC, rD, rE, rF])
            clear S0
            refine wpAnyG_one 9 (by kernel_rfl) rfl (fun K hK => ?_)
            rw [if_pos (by rfl)]
            refine wp_putB (cells := #[.int .u8 (r1).kd, .int .u8 (r1).fl, .int .i64 (r1).st, .slice B m d, .int .i64 (r1).pd, .int .i64 (r1).la, .int .i64 (r1).ic, .int .u32 (r1).cd, .slice Q qn qc, .bool (r1).rk, .bool (r1).al, .int .i64 (r1).dp, .int .u8 (r1).wt]) _ _ _ rfl rfl rfl q3 (by rfl) (by rfl) (by rfl) ?_
            intro w9 qn hg
            replace b0 := b0.grown hg l3
            replace qh := qh.grown hg n3
            replace q4 := q4.grown hg (q4.ne q3 (by decide))
            clear hg q3; have q3 := qn; clear qn
            refine hK.out _ _ (fun _ => qh) ?_
            clear hK K
            (try simp only [Act.put, rA, rB, rC, rD, rE, rF])
            refine wpAnyG_one 10 (by kernel_rfl) rfl (fun K hK => ?_)
            rw [if_pos (by rfl)]
            refine wp_putB (cells := #[.bool xw, .int .i64 xs, .int .u32 xc]) _ _ _ rfl rfl rfl q4 (by rfl) (by rfl) (by rfl) ?_
            intro w9 qn hg
            replace b0 := b0.grown hg l4
            replace qh := qh.grown hg n4
            replace q3 := q3.grown hg (q3.ne q4 (by decide))
            clear hg q4; have q4 := qn; clear qn
            refine hK.out _ _ (fun _ => qh) ?_
            clear hK K
            (try simp only [Act.put, rA, rB, rC, rD, rE, rF])
            refine wpAnyG_done (by kernel_rfl) ?_ _
            exact ⟨rfl, _, _, _, _, _, _, _, _, _, rfl, q3, q4, qh, b0⟩
      · rw [if_pos (by rfl)]
        go_simp
        obtain ⟨gz, ez, q3, l3, hz⟩ := Bel.newE b0 30 #[.int .u8 0, .int .u8 0, .int .i64 0, .slice none 0 0, .int .i64 0, .int .i64 0, .int .i64 0, .int .u32 0, .slice none 0 0, .bool false, .bool false, .int .i64 0, .int .u8 0]
        have n3 := hz _ _ _ qh
        clear hz
        (try simp only [World.size_alloc] at ez)
        subst ez
        replace b0 := b0.alloc (.cells #[.int .u8 0, .int .u8 0, .int .i64 0, .slice none 0 0, .int .i64 0, .int .i64 0, .int .i64 0, .int .u32 0, .slice none 0 0, .bool false, .bool false, .int .i64 0, .int .u8 0] 30)
        replace qh := qh.alloc (.cells #[.int .u8 0, .int .u8 0, .int .i64 0, .slice none 0 0, .int .i64 0, .int .i64 0, .int .i64 0, .int .u32 0, .slice none 0 0, .bool false, .bool false, .int .i64 0, .int .u8 0] 30)
        (try go_simp)
        refine hK.out _ _ (fun _ => qh) ?_
        clear hK K
        (try simp only [Act.put, rA, rB, rC, rD, rE, rF])
        refine wpAnyG_two 2 8 (by kernel_rfl) rfl rfl (fun K hK => ?_) (fun K hK => ?_)
        · rw [if_pos (by rfl)]
          refine wp_make8 N (by have := HN.out; omega) rfl rfl rfl ?_
          intro A2 w9 k2 hb
          replace b0 := b0.below hb
          replace qh := qh.below hb
          replace q3 := q3.below hb
          clear hb
          (try go_simp)
          refine hK.out _ _ (fun _ => qh) ?_
          clear hK K
          (try simp only [Act.put, rA, rB, rC, rD, rE, rF])
          refine wpAnyG_two 3 8 (by kernel_rfl) rfl rfl (fun K hK => ?_) (fun K hK => ?_)
          · rw [if_pos (by rfl)]
            go_simp
            (with_reducible refine (PF.out _ _ _ _ k2.byt (by have := HN.out; omega)).mono ?_)
            rintro e w9 ⟨B, m, d, Q, qn, qc, rfl, mm, mp, hb⟩
            replace b0 := b0.below hb
            replace qh := qh.below hb
            replace q3 := q3.below hb
            clear hb
            (try go_simp)
            refine hK.out _ _ (fun _ => qh) ?_
            clear hK K
            (try simp only [Act.put, rA, rB, rC, rD, rE, rF])
            have S0 := qh
            refine wpAnyG_take 4 (v := ?_) rfl (by kernel_rfl) (fun _ _ _ h => by cases h.1) S0 (Or.inl ⟨by rfl, by intro w' hSw; go_simp; try with_reducible rfl⟩) ?_; (try simp only [Act.put, rA, rB, rC, rD, rE, rF])
            refine wpAnyG_take 5 (v := ?_) rfl (by kernel_rfl) (fun _ _ _ h => by cases h.1) S0 (Or.inl ⟨by rfl, by intro w' hSw; go_simp; try with_reducible rfl⟩) ?_; (try simp only [Act.put, rA, rB, rC, rD, rE, rF])
            refine wpAnyG_take 6 (v := ?_) rfl (by kernel_rfl) (fun _ _ _ h => by cases h.1) S0 (Or.inl ⟨by rfl, by intro w' hSw; go_simp; try with_reducible rfl⟩) ?_; (try simp only [Act.put, rA, rB, rC, rD, rE, rF])
            clear S0
            refine wpAnyG_one 8 (by kernel_rfl) rfl (fun K hK => ?_)
            rw [if_pos (by rfl)]
            go_simp
            obtain ⟨gz, ez, q4, l4, hz⟩ := Bel.newE b0 34 #[.bool false, .int .i64 0, .int .u32 0]
            have n4 := hz _ _ _ qh
            clear hz
            (try simp only [World.size_alloc] at ez)
            subst ez
            replace b0 := b0.alloc (.cells #[.bool false, .int .i64 0, .int .u32 0] 34)
            replace qh := qh.alloc (.cells #[.bool false, .int .i64 0, .int .u32 0] 34)
            replace q3 := q3.alloc (.cells #[.bool false, .int .i64 0, .int .u32 0] 34)
            replace k2 := k2.alloc (.cells #[.bool false, .int .i64 0, .int .u32 0] 34)
            replace mm := mm.alloc (.cells #[.bool false, .int .i64 0, .int .u32 0] 34)
            replace mp := mp.alloc (.cells #[.bool false, .int .i64 0, .int .u32 0] 34)
            (try go_simp)
            refine hK.out _ _ (fun _ => qh) ?_
            clear hK K
            (try simp only [Act.put, rA, rB, rC, rD, rE, rF])
            refine wpAnyG_one 9 (by kernel_rfl) rfl (fun K hK => ?_)
            rw [if_pos (by rfl)]
            refine wp_putB (cells := #[.int .u8 (r1).kd, .int .u8 (r1).fl, .int .i64 (r1).st, .slice B m d, .int .i64 (r1).pd, .int .i64 (r1).la, .int .i64 (r1).ic, .int .u32 (r1).cd, .slice Q qn qc, .bool (r1).rk, .bool (r1).al, .int .i64 (r1).dp, .int .u8 (r1).wt]) _ _ _ rfl rfl rfl q3 (by rfl) (by rfl) (by rfl) ?_
            intro w9 qn hg
            replace b0 := b0.grown hg l3
            replace qh := qh.grown hg n3
            replace q4 := q4.grown hg (q4.ne q3 (by decide))
            clear hg q3; have q3 := qn; clear qn
            refine hK.out _ _ (fun _ => qh) ?_
            clear hK K
            (try simp only [Act.put, rA, rB, rC, rD, rE, rF])
            refine wpAnyG_one 10 (by kernel_rfl) rfl (fun K hK => ?_)
            rw [if_pos (by rfl)]
            refine wp_putB (cells := #[.bool xw, .int .i64 xs, .int .u32 xc]) _ _ _ rfl rfl rfl q4 (by rfl) (by rfl) (by rfl) ?_
            intro w9 qn hg
            replace b0 := b0.grown hg l4
            replace qh := qh.grown hg n4
            replace q3 := q3.grown hg (q3.ne q4 (by decide))
            clear hg q4; have q4 := qn; clear qn
            refine hK.out _ _ (fun _ => qh) ?_
            clear hK K
            (try simp only [Act.put, rA, rB, rC, rD, rE, rF])
            refine wpAnyG_done (by kernel_rfl) ?_ _
            exact ⟨rfl, _, _, _, _, _, _, _, _, _, rfl, q3, q4, qh, b0⟩
          · rw [if_pos (by rfl)]
            go_simp
            obtain ⟨gz, ez, q4, l4, hz⟩ := Bel.newE b0 34 #[.bool false, .int .i64 0, .int .u32 0]
            have n4 := hz _ _ _ qh
            clear hz
            (try simp only [World.size_alloc] at ez)
            subst ez
            replace b0 := b0.alloc (.cells #[.bool false, .int .i64 0, .int .u32 0] 34)
            replace qh := qh.alloc (.cells #[.bool false, .int .i64 0, .int .u32 0] 34)
            replace q3 := q3.alloc (.cells #[.bool false, .int .i64 0, .int .u32 0] 34)
            replace k2 := k2.alloc (.cells #[.bool false, .int .i64 0, .int .u32 0] 34)
            (try go_simp)
            refine hK.out _ _ (fun _ => qh) ?_
            clear hK K
            (try simp only [Act.put, rA, rB, rC, rD, rE, rF])
            refine wpAnyG_one 3 (by kernel_rfl) rfl (fun K hK => ?_)
            rw [if_pos (by rfl)]
            go_simp
            (with_reducible refine (PF.out _ _ _ _ k2.byt (by have := HN.out; omega)).mono ?_)
            rintro e w9 ⟨B, m, d, Q, qn, qc, rfl, mm, mp, hb⟩
            replace b0 := b0.below hb
            replace qh := qh.below hb
            replace q3 := q3.below hb
            replace q4 := q4.below hb
            clear hb
            (try go_simp)
            refine hK.out _ _ (fun _ => qh) ?_
            clear hK K
            (try simp only [Act.put, rA, rB, rC, rD, rE, rF])
            have S0 := qh
            refine wpAnyG_take 4 (v := ?_) rfl (by kernel_rfl) (fun _ _ _ h => by cases h.1) S0 (Or.inl ⟨by rfl, by intro w' hSw; go_simp; try with_reducible rfl⟩) ?_; (try simp only [Act.put, rA, rB, rC, rD, rE, rF])
            refine wpAnyG_take 5 (v := ?_) rfl (by kernel_rfl) (fun _ _ _ h => by cases h.1) S0 (Or.inl ⟨by rfl, by intro w' hSw; go_simp; try with_reducible rfl⟩) ?_; (try simp only [Act.put, rA, rB, rC, rD, rE, rF])
            refine wpAnyG_take 6 (v := ?_) rfl (by kernel_rfl) (fun _ _ _ h => by cases h.1) S0 (Or.inl ⟨by rfl, by intro w' hSw; go_simp; try with_reducible rfl⟩) ?_; (try simp only [Act.put, rA, rB, rC, rD, rE, rF])
            clear S0
            refine wpAnyG_one 9 (by kernel_rfl) rfl (fun K hK => ?_)
            rw [if_pos (by rfl)]
            refine wp_putB (cells := #[.int .u8 (r1).kd, .int .u8 (r1).fl, .int .i64 (r1).st, .slice B m d, .int .i64 (r1).pd, .int .i64 (r1).la, .int .i64 (r1).ic, .int .u32 (r1).cd, .slice Q qn qc, .bool (r1).rk, .bool (r1).al, .int .i64 (r1).dp, .int .u8 (r1).wt]) _ _ _ rfl rfl rfl q3 (by rfl) (by rfl) (by rfl) ?_
            intro w9 qn hg
            replace b0 := b0.grown hg l3
            replace qh := qh.grown hg n3
            replace q4 := q4.grown hg (q4.ne q3 (by decide))
            clear hg q3; have q3 := qn; clear qn
            refine hK.out _ _ (fun _ => qh) ?_
            clear hK K
            (try simp only [Act.put, rA, rB, rC, rD, rE, rF])
            refine wpAnyG_one 10 (by kernel_rfl) rfl (fun K hK => ?_)
            rw [if_pos (by rfl)]
            refine wp_putB (cells := #[.bool xw, .int .i64 xs, .int .u32 xc]) _ _ _ rfl rfl rfl q4 (by rfl) (by rfl) (by rfl) ?_
            intro w9 qn hg
            replace b0 := b0.grown hg l4
            replace qh := qh.grown hg n4
            replace q3 := q3.grown hg (q3.ne q4 (by decide))
            clear hg q4; have q4 := qn; clear qn
            refine hK.out _ _ (fun _ => qh) ?_
            clear hK K
            (try simp only [Act.put, rA, rB, rC, rD, rE, rF])
            refine wpAnyG_done (by kernel_rfl) ?_ _
            exact ⟨rfl, _, _, _, _, _, _, _, _, _, rfl, q3, q4, qh, b0⟩
        · rw [if_pos (by rfl)]
          go_simp
          obtain ⟨gz, ez, q4, l4, hz⟩ := Bel.newE b0 34 #[.bool false, .int .i64 0, .int .u32 0]
          have n4 := hz _ _ _ qh
          clear hz
          (try simp only [World.size_alloc] at ez)
          subst ez
          replace b0 := b0.alloc (.cells #[.bool false, .int .i64 0, .int .u32 0] 34)
          replace qh := qh.alloc (.cells #[.bool false, .int .i64 0, .int .u32 0] 34)
          replace q3 := q3.alloc (.cells #[.bool false, .int .i64 0, .int .u32 0] 34)
          (try go_simp)
          refine hK.out _ _ (fun _ => qh) ?_
          clear hK K
          (try simp only [Act.put, rA, rB, rC, rD, rE, rF])
          refine wpAnyG_one 2 (by kernel_rfl) rfl (fun K hK => ?_)
          rw [if_pos (by rfl)]
          refine wp_make8 N (by have := HN.out; omega) rfl rfl rfl ?_
          intro A2 w9 k2 hb
          replace b0 := b0.below hb
          replace qh := qh.below hb
          replace q3 := q3.below hb
          replace q4 := q4.below hb
          clear hb
          (try go_simp)
          refine hK.out _ _ (fun _ => qh) ?_
          clear hK K
          (try simp only [Act.put, rA, rB, rC, rD, rE, rF])
          refine wpAnyG_one 3 (by kernel_rfl) rfl (fun K hK => ?_)
          rw [if_pos (by rfl)]
          go_simp
          (with_reducible refine (PF.out _ _ _ _ k2.byt (by have := HN.out; omega)).mono ?_)
          rintro e w9 ⟨B, m, d, Q, qn, qc, rfl, mm, mp, hb⟩
          replace b0 := b0.below hb
          replace qh := qh.below hb
          replace q3 := q3.below hb
          replace q4 := q4.below hb
          clear hb
          (try go_simp)
          refine hK.out _ _ (fun _ => qh) ?_
          clear hK K
          (try simp only [Act.put, rA, rB, rC, rD, rE, rF])
          have S0 := qh
          refine wpAnyG_take 4 (v := ?_) rfl (by kernel_rfl) (fun _ _ _ h => by cases h.1) S0 (Or.inl ⟨by rfl, by intro w' hSw; go_simp; try with_reducible rfl⟩) ?_; (try simp only [Act.put, rA, rB, rC, rD, rE, rF])
          refine wpAnyG_take 5 (v := ?_) rfl (by kernel_rfl) (fun _ _ _ h => by cases h.1) S0 (Or.inl ⟨by rfl, by intro w' hSw; go_simp; try with_reducible rfl⟩) ?_; (try simp only [Act.put, rA, rB, rC, rD, rE, rF])
          refine wpAnyG_take 6 (v := ?_) rfl (by kernel_rfl) (fun _ _ _ h => by cases h.1) S0 (Or.inl ⟨by rfl, by intro w' hSw; go_simp; try with_reducible rfl⟩) ?_; (try simp only [Act.put, rA, rB, rC, rD, rE, rF])
          clear S0
          refine wpAnyG_one 9 (by kernel_rfl) rfl (fun K hK => ?_)
          rw [if_pos (by rfl)]
          refine wp_putB (cells := #[.int .u8 (r1).kd, .int .u8 (r1).fl, .int .i64 (r1).st, .slice B m d, .int .i64 (r1).pd, .int .i64 (r1).la, .int .i64 (r1).ic, .int .u32 (r1).cd, .slice Q qn qc, .bool (r1).rk, .bool (r1).al, .int .i64 (r1).dp, .int .u8 (r1).wt]) _ _ _ rfl rfl rfl q3 (by rfl) (by rfl) (by rfl) ?_
          intro w9 qn hg
          replace b0 := b0.grown hg l3
          replace qh := qh.grown hg n3
          replace q4 := q4.grown hg (q4.ne q3 (by decide))
          clear hg q3; have q3 := qn; clear qn
          refine hK.out _ _ (fun _ => qh) ?_
          clear hK K
          (try simp only [Act.put, rA, rB, rC, rD, rE, rF])
          refine wpAnyG_one 10 (by kernel_rfl) rfl (fun K hK => ?_)
          rw [if_pos (by rfl)]
          refine wp_putB (cells := #[.bool xw, .int .i64 xs, .int .u32 xc]) _ _ _ rfl rfl rfl q4 (by rfl) (by rfl) (by rfl) ?_
          intro w9 qn hg
          replace b0 := b0.grown hg l4
          replace qh := qh.grown hg n4
          replace q3 := q3.grown hg (q3.ne q4 (by decide))
          clear hg q4; have q4 := qn; clear qn
          refine hK.out _ _ (fun _ => qh) ?_
          clear hK K
          (try simp only [Act.put, rA, rB, rC, rD, rE, rF])
          refine wpAnyG_done (by kernel_rfl) ?_ _
          exact ⟨rfl, _, _, _, _, _, _, _, _, _, rfl, q3, q4, qh, b0⟩
      · rw [if_pos (by rfl)]
        go_simp
        obtain ⟨gz, ez, q4, l4, hz⟩ := Bel.newE b0 34 #[.bool false, .int .i64 0, .int .u32 0]
        have n4 := hz _ _ _ qh
        clear hz
        (try simp only [World.size_alloc] at ez)
        subst ez
        replace b0 := b0.alloc (.cells #[.bool false, .int .i64 0, .int .u32 0] 34)
        replace qh := qh.alloc (.cells #[.bool false, .int .i64 0, .int .u32 0] 34)
        (try go_simp)
        refine hK.out _ _ (fun _ => qh) ?_
        clear hK K
        (try simp only [Act.put, rA, rB, rC, rD, rE, rF])
        refine wpAnyG_two 2 7 (by kernel_rfl) rfl rfl (fun K hK => ?_) (fun K hK => ?_)
        · rw [if_pos (by rfl)]
          refine wp_make8 N (by have := HN.out; omega) rfl rfl rfl ?_
          intro A2 w9 k2 hb
          replace b0 := b0.below hb
          replace qh := qh.below hb
          replace q4 := q4.below hb
          clear hb
          (try go_simp)
          refine hK.out _ _ (fun _ => qh) ?_
          clear hK K
          (try simp only [Act.put, rA, rB, rC, rD, rE, rF])
          refine wpAnyG_two 3 7 (by kernel_rfl) rfl rfl (fun K hK => ?_) (fun K hK => ?_)
          · rw [if_pos (by rfl)]
            go_simp
            (with_reducible refine (PF.out _ _ _ _ k2.byt (by have := HN.out; omega)).mono ?_)
            rintro e w9 ⟨B, m, d, Q, qn, qc, rfl, mm, mp, hb⟩
            replace b0 := b0.below hb
            replace qh := qh.below hb
            replace q4 := q4.below hb
            clear hb
            (try go_simp)
            refine hK.out _ _ (fun _ => qh) ?_
            clear hK K
            (try simp only [Act.put, rA, rB, rC, rD, rE, rF])
            have S0 := qh
            refine wpAnyG_take 4 (v := ?_) rfl (by kernel_rfl) (fun _ _ _ h => by cases h.1) S0 (Or.inl ⟨by rfl, by intro w' hSw; go_simp; try with_reducible rfl⟩) ?_; (try simp only [Act.put, rA, rB, rC, rD, rE, rF])
            refine wpAnyG_take 5 (v := ?_) rfl (by kernel_rfl) (fun _ _ _ h => by cases h.1) S0 (Or.inl ⟨by rfl, by intro w' hSw; go_simp; try with_reducible rfl⟩) ?_; (try simp only [Act.put, rA, rB, rC, rD, rE, rF])
            refine wpAnyG_take 6 (v := ?_) rfl (by kernel_rfl) (fun _ _ _ h => by cases h.1) S0 (Or.inl ⟨by rfl, by intro w' hSw; go_simp; try with_reducible rfl⟩) ?_; (try simp only [Act.put, rA, rB, rC, rD, rE, rF])
            clear S0
            refine wpAnyG_one 7 (by kernel_rfl) rfl (fun K hK => ?_)
            rw [if_pos (by rfl)]
            go_simp
            obtain ⟨gz, ez, q3, l3, hz⟩ := Bel.newE b0 30 #[.int .u8 0, .int .u8 0, .int .i64 0, .slice none 0 0, .int .i64 0, .int .i64 0, .int .i64 0, .int .u32 0, .slice none 0 0, .bool false, .bool false, .int .i64 0, .int .u8 0]
            have n3 := hz _ _ _ qh
            clear hz
            (try simp only [World.size_alloc] at ez)
            subst ez
            replace b0 := b0.alloc (.cells #[.int .u8 0, .int .u8 0, .int .i64 0, .slice none 0 0, .int .i64 0, .int .i64 0, .int .i64 0, .int .u32 0, .slice none 0 0, .bool false, .bool false, .int .i64 0, .int .u8 0] 30)
            replace qh := qh.alloc (.cells #[.int .u8 0, .int .u8 0, .int .i64 0, .slice none 0 0, .int .i64 0, .int .i64 0, .int .i64 0, .int .u32 0, .slice none 0 0, .bool false, .bool false, .int .i64 0, .int .u8 0] 30)
            replace q4 := q4.alloc (.cells #[.int .u8 0, .int .u8 0, .int .i64 0, .slice none 0 0, .int .i64 0, .int .i64 0, .int .i64 0, .int .u32 0, .slice none 0 0, .bool false, .bool false, .int .i64 0, .int .u8 0] 30)
            replace k2 := k2.alloc (.cells #[.int .u8 0, .int .u8 0, .int .i64 0, .slice none 0 0, .int .i64 0, .int .i64 0, .int .i64 0, .int .u32 0, .slice none 0 0, .bool false, .bool false, .int .i64 0, .int .u8 0] 30)
            replace mm := mm.alloc (.cells #[.int .u8 0, .int .u8 0, .int .i64 0, .slice none 0 0, .int .i64 0, .int .i64 0, .int .i64 0, .int .u32 0, .slice none 0 0, .bool false, .bool false, .int .i64 0, .int .u8 0] 30)
            replace mp := mp.alloc (.cells #[.int .u8 0, .int .u8 0, .int .i64 0, .slice none 0 0, .int .i64 0, .int .i64 0, .int .i64 0, .int .u32 0, .slice none 0 0, .bool false, .bool false, .int .i64 0, .int .u8 0] 30)
            (try go_simp)
            refine hK.out _ _ (fun _ => qh) ?_
            clear hK K
            (try simp only [Act.put, rA, rB, rC, rD, rE, rF])
            refine wpAnyG_one 9 (by kernel_rfl) rfl (fun K hK => ?_)
            rw [if_pos (by rfl)]
            refine wp_putB (cells := #[.int .u8 (r1).kd, .int .u8 (r1).fl, .int .i64 (r1).st, .slice B m d, .int .i64 (r1).pd, .int .i64 (r1).la, .int .i64 (r1).ic, .int .u32 (r1).cd, .slice Q qn qc, .bool (r1).rk, .bool (r1).al, .int .i64 (r1).dp, .int .u8 (r1).wt]) _ _ _ rfl rfl rfl q3 (by rfl) (by rfl) (by rfl) ?_
            intro w9 qn hg
            replace b0 := b0.grown hg l3
            replace qh := qh.grown hg n3
            replace q4 := q4.grown hg (q4.ne q3 (by decide))
            clear hg q3; have q3 := qn; clear qn
            refine hK.out _ _ (fun _ => qh) ?_
            clear hK K
            (try simp only [Act.put, rA, rB, rC, rD, rE, rF])
            refine wpAnyG_one 10 (by kernel_rfl) rfl (fun K hK => ?_)
            rw [if_pos (by rfl)]
            refine wp_putB (cells := #[.bool xw, .int .i64 xs, .int .u32 xc]) _ _ _ rfl rfl rfl q4 (by rfl) (by rfl) (by rfl) ?_
            intro w9 qn hg
            replace b0 := b0.grown hg l4
            replace qh := qh.grown hg n4
            replace q3 := q3.grown hg (q3.ne q4 (by decide))
            clear hg q4; have q4 := qn; clear qn
            refine hK.out _ _ (fun _ => qh) ?_
            clear hK K
            (try simp only [Act.put, rA, rB, rC, rD, rE, rF])
            refine wpAnyG_done (by kernel_rfl) ?_ _
            exact ⟨rfl, _, _, _, _, _, _, _, _, _, rfl, q3, q4, qh, b0⟩
          · rw [if_pos (by rfl)]
            go_simp
            obtain ⟨gz, ez, q3, l3, hz⟩ := Bel.newE b0 30 #[.int .u8 0, .int .u8 0, .int .i64 0, .slice none 0 0, .int .i64 0, .int .i64 0, .int .i64 0, .int .u32 0, .slice none 0 0, .bool false, .bool false, .int .i64 0, .int .u8 0]
            have n3 := hz _ _ _ qh
            clear hz
            (try simp only [World.size_alloc] at ez)
            subst ez
            replace b0 := b0.alloc (.cells #[.int .u8 0, .int .u8 0, .int .i64 0, .slice none 0 0, .int .i64 0, .int .i64 0, .int .i64 0, .int .u32 0, .slice none 0 0, .bool false, .bool false, .int .i64 0, .int .u8 0] 30)
            replace qh := qh.alloc (.cells #[.int .u8 0, .int .u8 0, .int .i64 0, .slice none 0 0, .int .i64 0, .int .i64 0, .int .i64 0, .int .u32 0, .slice none 0 0, .bool false, .bool false, .int .i64 0, .int .u8 0] 30)
            replace q4 := q4.alloc (.cells #[.int .u8 0, .int .u8 0, .int .i64 0, .slice none 0 0, .int .i64 0, .int .i64 0, .int .i64 0, .int .u32 0, .slice none 0 0, .bool false, .bool false, .int .i64 0, .int .u8 0] 30)
            replace k2 := k2.alloc (.cells #[.int .u8 0, .int .u8 0, .int .i64 0, .slice none 0 0, .int .i64 0, .int .i64 0, .int .i64 0, .int .u32 0, .slice none 0 0, .bool false, .bool false, .int .i64 0, .int .u8 0] 30)
            (try go_simp)
            refine hK.out _ _ (fun _ => qh) ?_
            clear hK K
            (try simp only [Act.put, rA, rB, rC, rD, rE, rF])
            refine wpAnyG_one 3 (by kernel_rfl) rfl (fun K hK => ?_)
            rw [if_pos (by rfl)]
            go_simp
            (with_reducible refine (PF.out _ _ _ _ k2.byt (by have := HN.out; omega)).mono ?_)
            rintro e w9 ⟨B, m, d, Q, qn, qc, rfl, mm, mp, hb⟩
            replace b0 := b0.below hb
            replace qh := qh.below hb
            replace q3 := q3.below hb
            replace q4 := q4.below hb
            clear hb
            (try go_simp)
            refine hK.out _ _ (fun _ => qh) ?_
            clear hK K
            (try simp only [Act.put, rA, rB, rC, rD, rE, rF])
            have S0 := qh
            refine wpAnyG_take 4 (v := ?_) rfl (by kernel_rfl) (fun _ _ _ h => by cases h.1) S0 (Or.inl ⟨by rfl, by intro w' hSw; go_simp; try with_reducible rfl⟩) ?_; (try simp only [Act.put, rA, rB, rC, rD, rE, rF])
            refine wpAnyG_take 5 (v := ?_) rfl (by kernel_rfl) (fun _ _ _ h => by cases h.1) S0 (Or.inl ⟨by rfl, by intro w' hSw; go_simp; try with_reducible rfl⟩) ?_; (try simp only [Act.put, rA, rB, rC, rD, rE, rF])
            refine wpAnyG_take 6 (v := ?_) rfl (by kernel_rfl) (fun _ _ _ h => by cases h.1) S0 (Or.inl ⟨by rfl, by intro w' hSw; go_simp; try with_reducible rfl⟩) ?_; (try simp only [Act.put, rA, rB, rC, rD, rE, rF])
            clear S0
            refine wpAnyG_one 9 (by kernel_rfl) rfl (fun K hK => ?_)
            rw [if_pos (by rfl)]
            refine wp_putB (cells := #[.int .u8 (r1).kd, .int .u8 (r1).fl, .int .i64 (r1).st, .slice B m d, .int .i64 (r1).pd, .int .i64 (r1).la, .int .i64 (r1).ic, .int .u32 (r1).cd, .slice Q qn qc, .bool (r1).rk, .bool (r1).al, .int .i64 (r1).dp, .int .u8 (r1).wt]) _ _ _ rfl rfl rfl q3 (by rfl) (by rfl) (by rfl) ?_
            intro w9 qn hg
            replace b0 := b0.grown hg l3
            replace qh := qh.grown hg n3
            replace q4 := q4.grown hg (q4.ne q3 (by decide))
            clear hg q3; have q3 := qn; clear qn
            refine hK.out _ _ (fun _ => qh) ?_
            clear hK K
            (try simp only [Act.put, rA, rB, rC, rD, rE, rF])
            refine wpAnyG_one 10 (by kernel_rfl) rfl (fun K hK => ?_)
            rw [if_pos (by rfl)]
            refine wp_putB (cells := #[.bool xw, .int .i64 xs, .int .u32 xc]) _ _ _ rfl rfl rfl q4 (by rfl) (by rfl) (by rfl) ?_
            intro w9 qn hg
            replace b0 := b0.grown hg l4
            replace qh := qh.grown hg n4
            replace q3 := q3.grown hg (q3.ne q4 (by decide))
            clear hg q4; have q4 := qn; clear qn
            refine hK.out _ _ (fun _ => qh) ?_
            clear hK K
            (try simp only [Act.put, rA, rB, rC, rD, rE, rF])
            refine wpAnyG_done (by kernel_rfl) ?_ _
            exact ⟨rfl, _, _, _, _, _, _, _, _, _, rfl, q3, q4, qh, b0⟩
        · rw [if_pos (by rfl)]
          go_simp
          obtain ⟨gz, ez, q3, l3, hz⟩ := Bel.newE b0 30 #[.int .u8 0, .int .u8 0, .int .i64 0, .slice none 0 0, .int .i64 0, .int .i64 0, .int .i64 0, .int .u32 0, .slice none 0 0, .bool false, .bool false, .int .i64 0, .int .u8 0]
          have n3 := hz _ _ _ qh
          clear hz
          (try simp only [World.size_alloc] at ez)
          subst ez
          replace b0 := b0.alloc (.cells #[.int .u8 0, .int .u8 0, .int .i64 0, .slice none 0 0, .int .i64 0, .int .i64 0, .int .i64 0, .int .u32 0, .slice none 0 0, .bool false, .bool false, .int .i64 0, .int .u8 0] 30)
          replace qh := qh.alloc (.cells #[.int .u8 0, .int .u8 0, .int .i64 0, .slice none 0 0, .int .i64 0, .int .i64 0, .int .i64 0, .int .u32 0, .slice none 0 0, .bool false, .bool false, .int .i64 0, .int .u8 0] 30)
          replace q4 := q4.alloc (.cells #[.int .u8 0, .int .u8 0, .int .i64 0, .slice none 0 0, .int .i64 0, .int .i64 0, .int .i64 0, .int .u32 0, .slice none 0 0, .bool false, .bool false, .int .i64 0, .int .u8 0] 30)
          (try go_simp)
          refine hK.out _ _ (fun _ => qh) ?_
          clear hK K
          (try simp only [Act.put, rA, rB, rC, rD, rE, rF])
          refine wpAnyG_one 2 (by kernel_rfl) rfl (fun K hK => ?_)
          rw [if_pos (by rfl)]
          refine wp_make8 N (by have := HN.out; omega) rfl rfl rfl ?_
          intro A2 w9 k2 hb
          replace b0 := b0.below hb
          replace qh := qh.below hb
          replace q3 := q3.below hb
          replace q4 := q4.below hb
          clear hb
          (try go_simp)
          refine hK.out _ _ (fun _ => qh) ?_
          clear hK K
          (try simp only [Act.put, rA, rB, rC, rD, rE, rF])
          refine wpAnyG_one 3 (by kernel_rfl) rfl (fun K hK => ?_)
          rw [if_pos (by rfl)]
          go_simp
          (with_reducible refine (PF.out _ _ _ _ k2.byt (by have := HN.out; omega)).mono ?_)
          rintro e w9 ⟨B, m, d, Q, qn, qc, rfl, mm, mp, hb⟩
          replace b0 := b0.below hb
          replace qh := qh.below hb
          replace q3 := q3.below hb
          replace q4 := q4.below hb
          clear hb
          (try go_simp)
          refine hK.out _ _ (fun _ => qh) ?_
          clear hK K
          (try simp only [Act.put, rA, rB, rC, rD, rE, rF])
          have S0 := qh
          refine wpAnyG_take 4 (v := ?_) rfl (by kernel_rfl) (fun _ _ _ h => by cases h.1) S0 (Or.inl ⟨by rfl, by intro w' hSw; go_simp; try with_reducible rfl⟩) ?_; (try simp only [Act.put, rA, rB, rC, rD, rE, rF])
          refine wpAnyG_take 5 (v := ?_) rfl (by kernel_rfl) (fun _ _ _ h => by cases h.1) S0 (Or.inl ⟨by rfl, by intro w' hSw; go_simp; try with_reducible rfl⟩) ?_; (try simp only [Act.put, rA, rB, rC, rD, rE, rF])
          refine wpAnyG_take 6 (v := ?_) rfl (by kernel_rfl) (fun _ _ _ h => by cases h.1) S0 (Or.inl ⟨by rfl, by intro w' hSw; go_simp; try with_reducible rfl⟩) ?_; (try simp only [Act.put, rA, rB, rC, rD, rE, rF])
          clear S0
          refine wpAnyG_one 9 (by kernel_rfl) rfl (fun K hK => ?_)
          rw [if_pos (by rfl)]
          refine wp_putB (cells := #[.int .u8 (r1).kd, .int .u8 (r1).fl, .int .i64 (r1).st, .slice B m d, .int .i64 (r1).pd, .int .i64 (r1).la, .int .i64 (r1).ic, .int .u32 (r1).cd, .slice Q qn qc, .bool (r1).rk, .bool (r1).al, .int .i64 (r1).dp, .int .u8 (r1).wt]) _ _ _ rfl rfl rfl q3 (by rfl) (by rfl) (by rfl) ?_
          intro w9 qn hg
          replace b0 := b0.grown hg l3
          replace qh := qh.grown hg n3
          replace q4 := q4.grown hg (q4.ne q3 (by decide))
          clear hg q3; have q3 := qn; clear qn
          refine hK.out _ _ (fun _ => qh) ?_
          clear hK K
          (try simp only [Act.put, rA, rB, rC, rD, rE, rF])
          refine wpAnyG_one 10 (by kernel_rfl) rfl (fun K hK => ?_)
          rw [if_pos (by rfl)]
          refine wp_putB (cells := #[.bool xw, .int .i64 xs, .int .u32 xc]) _ _ _ rfl rfl rfl q4 (by rfl) (by rfl) (by rfl) ?_
          intro w9 qn hg
          replace b0 := b0.grown hg l4
          replace qh := qh.grown hg n4
          replace q3 := q3.grown hg (q3.ne q4 (by decide))
          clear hg q4; have q4 := qn; clear qn
          refine hK.out _ _ (fun _ => qh) ?_
          clear hK K
          (try simp only [Act.put, rA, rB, rC, rD, rE, rF])
          refine wpAnyG_done (by kernel_rfl) ?_ _
          exact ⟨rfl, _, _, _, _, _, _, _, _, _, rfl, q3, q4, qh, b0⟩
  case rest =>
    rintro a' w' ⟨g3, g4, A2, B, m, d, Q, qn, qc, rfl, q3, q4, qh, b0⟩
    have z2 := qh.at 1 rfl
    have z3 := qh.at 3 rfl
    rcases k10 k with hkk | hkk | hkk | hkk | hkk | hkk | hkk | hkk | hkk | hkk | ⟨h0, h1, h2, h3, h4, h6, h7, h8, h9, h16⟩
    · as_aux_lemma =>
        have e0 : (k == 0) = true := by rw [hkk]; rfl
        have e1 : (k == 1) = false := by rw [hkk]; rfl
        have e2 : (k == 2) = false := by rw [hkk]; rfl
        have e3 : (k == 3) = false := by rw [hkk]; rfl
        have e4 : (k == 4) = false := by rw [hkk]; rfl
        have e5 : (k == 5) = false := by rw [hkk]; rfl
        have e6 : (k == 6) = false := by rw [hkk]; rfl
        have e7 : (k == 7) = false := by rw [hkk]; rfl
        have e8 : (k == 8) = false := by rw [hkk]; rfl
        have e9 : (k == 9) = false := by rw [hkk]; rfl
        have e16 : (k == 16) = false := by rw [hkk]; rfl
        by_cases hb : 16384 < N
        · have zb : decide (16384 < (N : Int)) = true := decide_eq_true (by omega)
          have hz := (zero_long HO.out hb).symm.trans HX.out
          simp only [Prod.mk.injEq, Flt.mk.injEq] at hz
          obtain ⟨_, hx1, hx2, hx3⟩ := hz
          have hq : ∀ W' : World, (binOp .eql 34 (.agg #[.bool xw, .int .i64 xs, .int .u32 xc]) (.agg #[.bool true, .int .i64 0, .int .u32 6])).run Try.prog W' = .ok (.bool true) W' := by rw [← hx1, ← hx2, ← hx3]; exact flt_eqs _ _ _
          clear hx1 hx2 hx3
          clear hb
          go_upto_region 8 with fail
          go_wp2_with (first | ((with_reducible refine wpList_id ?_); refine wpList_getG (by rfl) _ _ rfl rfl q4 Try.underlying34 rfl (by rfl) ?_) | (go_at_call 9; (with_reducible refine (fWakes _).mono ?_); rintro e w9 ⟨rfl, hb⟩; replace b0 := b0.below hb))
          go_ret
          exact ⟨rfl, b0.out⟩
        · have zb : decide (16384 < (N : Int)) = false := decide_eq_false (by omega)
          by_cases hs : st = 0
          · have zs : (st == 0) = true := by rw [hs]; rfl
            have hz := (zero_far HO.out (by omega) (.inr (by rw [hkk, hs]; rfl))).symm.trans HX.out
            simp only [Prod.mk.injEq, Flt.mk.injEq] at hz
            obtain ⟨_, hx1, hx2, hx3⟩ := hz
            have hq : ∀ W' : World, (binOp .eql 34 (.agg #[.bool xw, .int .i64 xs, .int .u32 xc]) (.agg #[.bool true, .int .i64 0, .int .u32 1])).run Try.prog W' = .ok (.bool true) W' := by rw [← hx1, ← hx2, ← hx3]; exact flt_eqs _ _ _
            clear hx1 hx2 hx3
            clear hb hs hkk
            go_upto_region 10 with fail
            go_wp2_with (first | ((with_reducible refine wpList_id ?_); refine wpList_getG (by rfl) _ _ rfl rfl q4 Try.underlying34 rfl (by rfl) ?_) | (go_at_call 9; (with_reducible refine (fWakes _).mono ?_); rintro e w9 ⟨rfl, hb⟩; replace b0 := b0.below hb))
            go_ret
            exact ⟨rfl, b0.out⟩
          · have zs : (st == 0) = false := by simpa using hs
            rw [show knownB k = true from by rw [hkk]; rfl] at RK
            clear hkk hb hs
            go_wp2_with (first | (go_at_call 26; (with_reducible refine (RK.out _).mono ?_); rintro e w9 ⟨rfl, hb⟩; replace b0 := b0.below hb; replace q4 := q4.below hb; replace qh := qh.below hb; clear hb z2 z3; have z2 := qh.at 1 rfl; have z3 := qh.at 3 rfl) | (go_at_call 9; (with_reducible refine (fWakes _).mono ?_); rintro e w9 ⟨rfl, hb⟩; replace b0 := b0.below hb))
            go_ret
            exact ⟨rfl, b0.out⟩
    · as_aux_lemma =>
        have e0 : (k == 0) = false := by rw [hkk]; rfl
        have e1 : (k == 1) = true := by rw [hkk]; rfl
        have e2 : (k == 2) = false := by rw [hkk]; rfl
        have e3 : (k == 3) = false := by rw [hkk]; rfl
        have e4 : (k == 4) = false := by rw [hkk]; rfl
        have e5 : (k == 5) = false := by rw [hkk]; rfl
        have e6 : (k == 6) = false := by rw [hkk]; rfl
        have e7 : (k == 7) = false := by rw [hkk]; rfl
        have e8 : (k == 8) = false := by rw [hkk]; rfl
        have e9 : (k == 9) = false := by rw [hkk]; rfl
        have e16 : (k == 16) = false := by rw [hkk]; rfl
        by_cases hb : 16384 < N
        · have zb : decide (16384 < (N : Int)) = true := decide_eq_true (by omega)
          have hz := (zero_long HO.out hb).symm.trans HX.out
          simp only [Prod.mk.injEq, Flt.mk.injEq] at hz
          obtain ⟨_, hx1, hx2, hx3⟩ := hz
          have hq : ∀ W' : World, (binOp .eql 34 (.agg #[.bool xw, .int .i64 xs, .int .u32 xc]) (.agg #[.bool true, .int .i64 0, .int .u32 6])).run Try.prog W' = .ok (.bool true) W' := by rw [← hx1, ← hx2, ← hx3]; exact flt_eqs _ _ _
          clear hx1 hx2 hx3
          clear hb
          go_upto_region 8 with fail
          go_wp2_with (first | ((with_reducible refine wpList_id ?_); refine wpList_getG (by rfl) _ _ rfl rfl q4 Try.underlying34 rfl (by rfl) ?_) | (go_at_call 9; (with_reducible refine (fWakes _).mono ?_); rintro e w9 ⟨rfl, hb⟩; replace b0 := b0.below hb))
          go_ret
          exact ⟨rfl, b0.out⟩
        · have zb : decide (16384 < (N : Int)) = false := decide_eq_false (by omega)
          by_cases hs : st = 0
          · have zs : (st == 0) = true := by rw [hs]; rfl
            have hz := (zero_far HO.out (by omega) (.inr (by rw [hkk, hs]; rfl))).symm.trans HX.out
            simp only [Prod.mk.injEq, Flt.mk.injEq] at hz
            obtain ⟨_, hx1, hx2, hx3⟩ := hz
            have hq : ∀ W' : World, (binOp .eql 34 (.agg #[.bool xw, .int .i64 xs, .int .u32 xc]) (.agg #[.bool true, .int .i64 0, .int .u32 1])).run Try.prog W' = .ok (.bool true) W' := by rw [← hx1, ← hx2, ← hx3]; exact flt_eqs _ _ _
            clear hx1 hx2 hx3
            clear hb hs hkk
            go_upto_region 10 with fail
            go_wp2_with (first | ((with_reducible refine wpList_id ?_); refine wpList_getG (by rfl) _ _ rfl rfl q4 Try.underlying34 rfl (by rfl) ?_) | (go_at_call 9; (with_reducible refine (fWakes _).mono ?_); rintro e w9 ⟨rfl, hb⟩; replace b0 := b0.below hb))
            go_ret
            exact ⟨rfl, b0.out⟩
          · have zs : (st == 0) = false := by simpa using hs
            rw [show knownB k = true from by rw [hkk]; rfl] at RK
            clear hkk hb hs
            go_wp2_with (first | (go_at_call 26; (with_reducible refine (RK.out _).mono ?_); rintro e w9 ⟨rfl, hb⟩; replace b0 := b0.below hb; replace q4 := q4.below hb; replace qh := qh.below hb; clear hb z2 z3; have z2 := qh.at 1 rfl; have z3 := qh.at 3 rfl) | (go_at_call 9; (with_reducible refine (fWakes _).mono ?_); rintro e w9 ⟨rfl, hb⟩; replace b0 := b0.below hb))
            go_ret
            exact ⟨rfl, b0.out⟩
    · as_aux_lemma =>
        have e0 : (k == 0) = false := by rw [hkk]; rfl
        have e1 : (k == 1) = false := by rw [hkk]; rfl
        have e2 : (k == 2) = true := by rw [hkk]; rfl
        have e3 : (k == 3) = false := by rw [hkk]; rfl
        have e4 : (k == 4) = false := by rw [hkk]; rfl
        have e5 : (k == 5) = false := by rw [hkk]; rfl
        have e6 : (k == 6) = false := by rw [hkk]; rfl
        have e7 : (k == 7) = false := by rw [hkk]; rfl
        have e8 : (k == 8) = false := by rw [hkk]; rfl
        have e9 : (k == 9) = false := by rw [hkk]; rfl
        have e16 : (k == 16) = false := by rw [hkk]; rfl
        by_cases hb : 16384 < N
        · have zb : decide (16384 < (N : Int)) = true := decide_eq_true (by omega)
          have hz := (zero_long HO.out hb).symm.trans HX.out
          simp only [Prod.mk.injEq, Flt.mk.injEq] at hz
          obtain ⟨_, hx1, hx2, hx3⟩ := hz
          have hq : ∀ W' : World, (binOp .eql 34 (.agg #[.bool xw, .int .i64 xs, .int .u32 xc]) (.agg #[.bool true, .int .i64 0, .int .u32 6])).run Try.prog W' = .ok (.bool true) W' := by rw [← hx1, ← hx2, ← hx3]; exact flt_eqs _ _ _
          clear hx1 hx2 hx3
          clear hb
          go_upto_region 8 with fail
          go_wp2_with (first | ((with_reducible refine wpList_id ?_); refine wpList_getG (by rfl) _ _ rfl rfl q4 Try.underlying34 rfl (by rfl) ?_) | (go_at_call 9; (with_reducible refine (fWakes _).mono ?_); rintro e w9 ⟨rfl, hb⟩; replace b0 := b0.below hb))
          go_ret
          exact ⟨rfl, b0.out⟩
        · have zb : decide (16384 < (N : Int)) = false := decide_eq_false (by omega)
          by_cases hs : st = 0
          · have zs : (st == 0) = true := by rw [hs]; rfl
            have hz := (zero_far HO.out (by omega) (.inr (by rw [hkk, hs]; rfl))).symm.trans HX.out
            simp only [Prod.mk.injEq, Flt.mk.injEq] at hz
            obtain ⟨_, hx1, hx2, hx3⟩ := hz
            have hq : ∀ W' : World, (binOp .eql 34 (.agg #[.bool xw, .int .i64 xs, .int .u32 xc]) (.agg #[.bool true, .int .i64 0, .int .u32 1])).run Try.prog W' = .ok (.bool true) W' := by rw [← hx1, ← hx2, ← hx3]; exact flt_eqs _ _ _
            clear hx1 hx2 hx3
            clear hb hs hkk
            go_upto_region 10 with fail
            go_wp2_with (first | ((with_reducible refine wpList_id ?_); refine wpList_getG (by rfl) _ _ rfl rfl q4 Try.underlying34 rfl (by rfl) ?_) | (go_at_call 9; (with_reducible refine (fWakes _).mono ?_); rintro e w9 ⟨rfl, hb⟩; replace b0 := b0.below hb))
            go_ret
            exact ⟨rfl, b0.out⟩
          · have zs : (st == 0) = false := by simpa using hs
            by_cases hn : N = 5
            · have zn : ((N : Int) != 5) = false := by rw [hn]; rfl
              rw [show knownB k = true from by rw [hkk]; rfl] at RK
              clear hkk hb hs hn
              go_wp2_with (first | (go_at_call 26; (with_reducible refine (RK.out _).mono ?_); rintro e w9 ⟨rfl, hb⟩; replace b0 := b0.below hb; replace q4 := q4.below hb; replace qh := qh.below hb; clear hb z2 z3; have z2 := qh.at 1 rfl; have z3 := qh.at 3 rfl) | (go_at_call 9; (with_reducible refine (fWakes _).mono ?_); rintro e w9 ⟨rfl, hb⟩; replace b0 := b0.below hb))
              go_ret
              exact ⟨rfl, b0.out⟩
            · have zn : ((N : Int) != 5) = true := by rw [bne_iff_ne]; omega
              have hz := ((show parseS k fl st (List.replicate N 0) = (fm0 2 fl st, ⟨false, st, 6⟩) from by rw [hkk]; exact zero_prio HO.out (by omega) hs hn)).symm.trans HX.out
              simp only [Prod.mk.injEq, Flt.mk.injEq] at hz
              obtain ⟨_, hx1, hx2, hx3⟩ := hz
              have hq : ∀ W' : World, (binOp .eql 34 (.agg #[.bool xw, .int .i64 xs, .int .u32 xc]) (.agg #[.bool false, .int .i64 st, .int .u32 6])).run Try.prog W' = .ok (.bool true) W' := by rw [← hx1, ← hx2, ← hx3]; exact flt_eqs _ _ _
              clear hx1 hx2 hx3
              clear hkk hb hs hn
              go_upto_region 12 with fail
              go_wp2_with (first | ((with_reducible refine wpList_id ?_); refine wpList_getG (by rfl) _ _ rfl rfl q4 Try.underlying34 rfl (by rfl) ?_) | (go_at_call 9; (with_reducible refine (fWakes _).mono ?_); rintro e w9 ⟨rfl, hb⟩; replace b0 := b0.below hb))
              go_ret
              exact ⟨rfl, b0.out⟩
    · as_aux_lemma =>
        have e0 : (k == 0) = false := by rw [hkk]; rfl
        have e1 : (k == 1) = false := by rw [hkk]; rfl
        have e2 : (k == 2) = false := by rw [hkk]; rfl
        have e3 : (k == 3) = true := by rw [hkk]; rfl
        have e4 : (k == 4) = false := by rw [hkk]; rfl
        have e5 : (k == 5) = false := by rw [hkk]; rfl
        have e6 : (k == 6) = false := by rw [hkk]; rfl
        have e7 : (k == 7) = false := by rw [hkk]; rfl
        have e8 : (k == 8) = false := by rw [hkk]; rfl
        have e9 : (k == 9) = false := by rw [hkk]; rfl
        have e16 : (k == 16) = false := by rw [hkk]; rfl
        by_cases hb : 16384 < N
        · have zb : decide (16384 < (N : Int)) = true := decide_eq_true (by omega)
          have hz := (zero_long HO.out hb).symm.trans HX.out
          simp only [Prod.mk.injEq, Flt.mk.injEq] at hz
          obtain ⟨_, hx1, hx2, hx3⟩ := hz
          have hq : ∀ W' : World, (binOp .eql 34 (.agg #[.bool xw, .int .i64 xs, .int .u32 xc]) (.agg #[.bool true, .int .i64 0, .int .u32 6])).run Try.prog W' = .ok (.bool true) W' := by rw [← hx1, ← hx2, ← hx3]; exact flt_eqs _ _ _
          clear hx1 hx2 hx3
          clear hb
          go_upto_region 8 with fail
          go_wp2_with (first | ((with_reducible refine wpList_id ?_); refine wpList_getG (by rfl) _ _ rfl rfl q4 Try.underlying34 rfl (by rfl) ?_) | (go_at_call 9; (with_reducible refine (fWakes _).mono ?_); rintro e w9 ⟨rfl, hb⟩; replace b0 := b0.below hb))
          go_ret
          exact ⟨rfl, b0.out⟩
        · have zb : decide (16384 < (N : Int)) = false := decide_eq_false (by omega)
          by_cases hs : st = 0
          · have zs : (st == 0) = true := by rw [hs]; rfl
            have hz := (zero_far HO.out (by omega) (.inr (by rw [hkk, hs]; rfl))).symm.trans HX.out
            simp only [Prod.mk.injEq, Flt.mk.injEq] at hz
            obtain ⟨_, hx1, hx2, hx3⟩ := hz
            have hq : ∀ W' : World, (binOp .eql 34 (.agg #[.bool xw, .int .i64 xs, .int .u32 xc]) (.agg #[.bool true, .int .i64 0, .int .u32 1])).run Try.prog W' = .ok (.bool true) W' := by rw [← hx1, ← hx2, ← hx3]; exact flt_eqs _ _ _
            clear hx1 hx2 hx3
            clear hb hs hkk
            go_upto_region 10 with fail
            go_wp2_with (first | ((with_reducible refine wpList_id ?_); refine wpList_getG (by rfl) _ _ rfl rfl q4 Try.underlying34 rfl (by rfl) ?_) | (go_at_call 9; (with_reducible refine (fWakes _).mono ?_); rintro e w9 ⟨rfl, hb⟩; replace b0 := b0.below hb))
            go_ret
            exact ⟨rfl, b0.out⟩
          · have zs : (st == 0) = false := by simpa using hs
            by_cases hn : N = 4
            · have zn : ((N : Int) != 4) = false := by rw [hn]; rfl
              obtain ⟨rz, hz0⟩ := (show ∃ r, parseS k fl st (List.replicate N 0) = (r, ⟨false, 0, 0⟩) from by rw [hkk]; exact zero_reset HO.out hs hn)
              have hz := hz0.symm.trans HX.out
              clear hz0
              simp only [Prod.mk.injEq, Flt.mk.injEq] at hz
              obtain ⟨_, hx1, hx2, hx3⟩ := hz
              have hq : ∀ W' : World, (binOp .eql 34 (.agg #[.bool xw, .int .i64 xs, .int .u32 xc]) (.agg #[.bool false, .int .i64 0, .int .u32 0])).run Try.prog W' = .ok (.bool true) W' := by rw [← hx1, ← hx2, ← hx3]; exact flt_eqs _ _ _
              clear hx1 hx2 hx3
              rw [show knownB k = true from by rw [hkk]; rfl] at RK
              clear hkk hb hs hn
              go_upto_region 18 with (go_at_call 26; (with_reducible refine (RK.out _).mono ?_); rintro e w9 ⟨rfl, hb⟩; replace b0 := b0.below hb; replace q4 := q4.below hb; replace qh := qh.below hb; clear hb z2 z3; have z2 := qh.at 1 rfl; have z3 := qh.at 3 rfl)
              go_wp2_with (first | ((with_reducible refine wpList_id ?_); refine wpList_getG (by rfl) _ _ rfl rfl q4 Try.underlying34 rfl (by rfl) ?_) | (go_at_call 9; (with_reducible refine (fWakes _).mono ?_); rintro e w9 ⟨rfl, hb⟩; replace b0 := b0.below hb))
              go_ret
              exact ⟨rfl, b0.out⟩
            · have zn : ((N : Int) != 4) = true := by rw [bne_iff_ne]; omega
              have hz := (zero_short HO.out (by omega) (by rw [hkk]; simp [farK, ofK, hs]) (by omega) (by rw [hkk]; simp [longOk, hn])).symm.trans HX.out
              simp only [Prod.mk.injEq, Flt.mk.injEq] at hz
              obtain ⟨_, hx1, hx2, hx3⟩ := hz
              have hq : ∀ W' : World, (binOp .eql 34 (.agg #[.bool xw, .int .i64 xs, .int .u32 xc]) (.agg #[.bool true, .int .i64 0, .int .u32 6])).run Try.prog W' = .ok (.bool true) W' := by rw [← hx1, ← hx2, ← hx3]; exact flt_eqs _ _ _
              clear hx1 hx2 hx3
              clear hkk hb hs hn
              go_upto_region 14 with fail
              go_wp2_with (first | ((with_reducible refine wpList_id ?_); refine wpList_getG (by rfl) _ _ rfl rfl q4 Try.underlying34 rfl (by rfl) ?_) | (go_at_call 9; (with_reducible refine (fWakes _).mono ?_); rintro e w9 ⟨rfl, hb⟩; replace b0 := b0.below hb))
              go_ret
              exact ⟨rfl, b0.out⟩
    · as_aux_lemma =>
        have e0 : (k == 0) = false := by rw [hkk]; rfl
        have e1 : (k == 1) = false := by rw [hkk]; rfl
        have e2 : (k == 2) = false := by rw [hkk]; rfl
        have e3 : (k == 3) = false := by rw [hkk]; rfl
        have e4 : (k == 4) = true := by rw [hkk]; rfl
        have e5 : (k == 5) = false := by rw [hkk]; rfl
        have e6 : (k == 6) = false := by rw [hkk]; rfl
        have e7 : (k == 7) = false := by rw [hkk]; rfl
        have e8 : (k == 8) = false := by rw [hkk]; rfl
        have e9 : (k == 9) = false := by rw [hkk]; rfl
        have e16 : (k == 16) = false := by rw [hkk]; rfl
        by_cases hb : 16384 < N
        · have zb : decide (16384 < (N : Int)) = true := decide_eq_true (by omega)
          have hz := (zero_long HO.out hb).symm.trans HX.out
          simp only [Prod.mk.injEq, Flt.mk.injEq] at hz
          obtain ⟨_, hx1, hx2, hx3⟩ := hz
          have hq : ∀ W' : World, (binOp .eql 34 (.agg #[.bool xw, .int .i64 xs, .int .u32 xc]) (.agg #[.bool true, .int .i64 0, .int .u32 6])).run Try.prog W' = .ok (.bool true) W' := by rw [← hx1, ← hx2, ← hx3]; exact flt_eqs _ _ _
          clear hx1 hx2 hx3
          clear hb
          go_upto_region 8 with fail
          go_wp2_with (first | ((with_reducible refine wpList_id ?_); refine wpList_getG (by rfl) _ _ rfl rfl q4 Try.underlying34 rfl (by rfl) ?_) | (go_at_call 9; (with_reducible refine (fWakes _).mono ?_); rintro e w9 ⟨rfl, hb⟩; replace b0 := b0.below hb))
          go_ret
          exact ⟨rfl, b0.out⟩
        · have zb : decide (16384 < (N : Int)) = false := decide_eq_false (by omega)
          by_cases hs : st = 0
          · have zs : (st != 0) = false := by rw [hs]; rfl
            rw [show knownB k = true from by rw [hkk]; rfl] at RK
            clear hkk hb hs
            go_wp2_with (first | (go_at_call 26; (with_reducible refine (RK.out _).mono ?_); rintro e w9 ⟨rfl, hb⟩; replace b0 := b0.below hb; replace q4 := q4.below hb; replace qh := qh.below hb; clear hb z2 z3; have z2 := qh.at 1 rfl; have z3 := qh.at 3 rfl) | (go_at_call 9; (with_reducible refine (fWakes _).mono ?_); rintro e w9 ⟨rfl, hb⟩; replace b0 := b0.below hb))
            go_ret
            exact ⟨rfl, b0.out⟩
          · have zs : (st != 0) = true := by rw [bne_iff_ne]; exact hs
            have hz := (zero_far HO.out (by omega) (.inr (by rw [hkk]; simp [farK, ofK, hs]))).symm.trans HX.out
            simp only [Prod.mk.injEq, Flt.mk.injEq] at hz
            obtain ⟨_, hx1, hx2, hx3⟩ := hz
            have hq : ∀ W' : World, (binOp .eql 34 (.agg #[.bool xw, .int .i64 xs, .int .u32 xc]) (.agg #[.bool true, .int .i64 0, .int .u32 1])).run Try.prog W' = .ok (.bool true) W' := by rw [← hx1, ← hx2, ← hx3]; exact flt_eqs _ _ _
            clear hx1 hx2 hx3
            clear hb hs hkk
            go_upto_region 10 with fail
            go_wp2_with (first | ((with_reducible refine wpList_id ?_); refine wpList_getG (by rfl) _ _ rfl rfl q4 Try.underlying34 rfl (by rfl) ?_) | (go_at_call 9; (with_reducible refine (fWakes _).mono ?_); rintro e w9 ⟨rfl, hb⟩; replace b0 := b0.below hb))
            go_ret
            exact ⟨rfl, b0.out⟩
    · as_aux_lemma =>
        have e0 : (k == 0) = false := by rw [hkk]; rfl
        have e1 : (k == 1) = false := by rw [hkk]; rfl
        have e2 : (k == 2) = false := by rw [hkk]; rfl
        have e3 : (k == 3) = false := by rw [hkk]; rfl
        have e4 : (k == 4) = false := by rw [hkk]; rfl
        have e5 : (k == 5) = false := by rw [hkk]; rfl
        have e6 : (k == 6) = true := by rw [hkk]; rfl
        have e7 : (k == 7) = false := by rw [hkk]; rfl
        have e8 : (k == 8) = false := by rw [hkk]; rfl
        have e9 : (k == 9) = false := by rw [hkk]; rfl
        have e16 : (k == 16) = false := by rw [hkk]; rfl
        by_cases hb : 16384 < N
        · have zb : decide (16384 < (N : Int)) = true := decide_eq_true (by omega)
          have hz := (zero_long HO.out hb).symm.trans HX.out
          simp only [Prod.mk.injEq, Flt.mk.injEq] at hz
          obtain ⟨_, hx1, hx2, hx3⟩ := hz
          have hq : ∀ W' : World, (binOp .eql 34 (.agg #[.bool xw, .int .i64 xs, .int .u32 xc]) (.agg #[.bool true, .int .i64 0, .int .u32 6])).run Try.prog W' = .ok (.bool true) W' := by rw [← hx1, ← hx2, ← hx3]; exact flt_eqs _ _ _
          clear hx1 hx2 hx3
          clear hb
          go_upto_region 8 with fail
          go_wp2_with (first | ((with_reducible refine wpList_id ?_); refine wpList_getG (by rfl) _ _ rfl rfl q4 Try.underlying34 rfl (by rfl) ?_) | (go_at_call 9; (with_reducible refine (fWakes _).mono ?_); rintro e w9 ⟨rfl, hb⟩; replace b0 := b0.below hb))
          go_ret
          exact ⟨rfl, b0.out⟩
        · have zb : decide (16384 < (N : Int)) = false := decide_eq_false (by omega)
          by_cases hs : st = 0
          · have zs : (st != 0) = false := by rw [hs]; rfl
            by_cases hn : N = 8
            · have zn : ((N : Int) != 8) = false := by rw [hn]; rfl
              obtain ⟨rz, hz0⟩ := zero_data (kd := k) (fl := fl) (n := N) HO.out (by omega) (by rw [hkk]; simp [farK, ofK, hs]) (by rw [hkk]; simp [longOk, hn]) (by omega) (by omega) (by omega) (by omega) (by omega) (by omega) (by omega) (by omega)
              have hz := hz0.symm.trans HX.out
              clear hz0
              simp only [Prod.mk.injEq, Flt.mk.injEq] at hz
              obtain ⟨_, hx1, hx2, hx3⟩ := hz
              have hq : ∀ W' : World, (binOp .eql 34 (.agg #[.bool xw, .int .i64 xs, .int .u32 xc]) (.agg #[.bool false, .int .i64 0, .int .u32 0])).run Try.prog W' = .ok (.bool true) W' := by rw [← hx1, ← hx2, ← hx3]; exact flt_eqs _ _ _
              clear hx1 hx2 hx3
              rw [show knownB k = true from by rw [hkk]; rfl] at RK
              clear hkk hb hs hn
              go_upto_region 18 with (go_at_call 26; (with_reducible refine (RK.out _).mono ?_); rintro e w9 ⟨rfl, hb⟩; replace b0 := b0.below hb; replace q4 := q4.below hb; replace qh := qh.below hb; clear hb z2 z3; have z2 := qh.at 1 rfl; have z3 := qh.at 3 rfl)
              go_wp2_with (first | ((with_reducible refine wpList_id ?_); refine wpList_getG (by rfl) _ _ rfl rfl q4 Try.underlying34 rfl (by rfl) ?_) | (go_at_call 9; (with_reducible refine (fWakes _).mono ?_); rintro e w9 ⟨rfl, hb⟩; replace b0 := b0.below hb))
              go_ret
              exact ⟨rfl, b0.out⟩
            · have zn : ((N : Int) != 8) = true := by rw [bne_iff_ne]; omega
              have hz := (zero_short HO.out (by omega) (by rw [hkk]; simp [farK, ofK, hs]) (by omega) (by rw [hkk]; simp [longOk, hn])).symm.trans HX.out
              simp only [Prod.mk.injEq, Flt.mk.injEq] at hz
              obtain ⟨_, hx1, hx2, hx3⟩ := hz
              have hq : ∀ W' : World, (binOp .eql 34 (.agg #[.bool xw, .int .i64 xs, .int .u32 xc]) (.agg #[.bool true, .int .i64 0, .int .u32 6])).run Try.prog W' = .ok (.bool true) W' := by rw [← hx1, ← hx2, ← hx3]; exact flt_eqs _ _ _
              clear hx1 hx2 hx3
              clear hkk hb hs hn
              go_upto_region 14 with fail
              go_wp2_with (first | ((with_reducible refine wpList_id ?_); refine wpList_getG (by rfl) _ _ rfl rfl q4 Try.underlying34 rfl (by rfl) ?_) | (go_at_call 9; (with_reducible refine (fWakes _).mono ?_); rintro e w9 ⟨rfl, hb⟩; replace b0 := b0.below hb))
              go_ret
              exact ⟨rfl, b0.out⟩
          · have zs : (st != 0) = true := by rw [bne_iff_ne]; exact hs
            have hz := (zero_far HO.out (by omega) (.inr (by rw [hkk]; simp [farK, ofK, hs]))).symm.trans HX.out
            simp only [Prod.mk.injEq, Flt.mk.injEq] at hz
            obtain ⟨_, hx1, hx2, hx3⟩ := hz
            have hq : ∀ W' : World, (binOp .eql 34 (.agg #[.bool xw, .int .i64 xs, .int .u32 xc]) (.agg #[.bool true, .int .i64 0, .int .u32 1])).run Try.prog W' = .ok (.bool true) W' := by rw [← hx1, ← hx2, ← hx3]; exact flt_eqs _ _ _
            clear hx1 hx2 hx3
            clear hb hs hkk
            go_upto_region 10 with fail
            go_wp2_with (first | ((with_reducible refine wpList_id ?_); refine wpList_getG (by rfl) _ _ rfl rfl q4 Try.underlying34 rfl (by rfl) ?_) | (go_at_call 9; (with_reducible refine (fWakes _).mono ?_); rintro e w9 ⟨rfl, hb⟩; replace b0 := b0.below hb))
            go_ret
            exact ⟨rfl, b0.out⟩
    · as_aux_lemma =>
        have e0 : (k == 0) = false := by rw [hkk]; rfl
        have e1 : (k == 1) = false := by rw [hkk]; rfl
        have e2 : (k == 2) = false := by rw [hkk]; rfl
        have e3 : (k == 3) = false := by rw [hkk]; rfl
        have e4 : (k == 4) = false := by rw [hkk]; rfl
        have e5 : (k == 5) = false := by rw [hkk]; rfl
        have e6 : (k == 6) = false := by rw [hkk]; rfl
        have e7 : (k == 7) = true := by rw [hkk]; rfl
        have e8 : (k == 8) = false := by rw [hkk]; rfl
        have e9 : (k == 9) = false := by rw [hkk]; rfl
        have e16 : (k == 16) = false := by rw [hkk]; rfl
        by_cases hb : 16384 < N
        · have zb : decide (16384 < (N : Int)) = true := decide_eq_true (by omega)
          have hz := (zero_long HO.out hb).symm.trans HX.out
          simp only [Prod.mk.injEq, Flt.mk.injEq] at hz
          obtain ⟨_, hx1, hx2, hx3⟩ := hz
          have hq : ∀ W' : World, (binOp .eql 34 (.agg #[.bool xw, .int .i64 xs, .int .u32 xc]) (.agg #[.bool true, .int .i64 0, .int .u32 6])).run Try.prog W' = .ok (.bool true) W' := by rw [← hx1, ← hx2, ← hx3]; exact flt_eqs _ _ _
          clear hx1 hx2 hx3
          clear hb
          go_upto_region 8 with fail
          go_wp2_with (first | ((with_reducible refine wpList_id ?_); refine wpList_getG (by rfl) _ _ rfl rfl q4 Try.underlying34 rfl (by rfl) ?_) | (go_at_call 9; (with_reducible refine (fWakes _).mono ?_); rintro e w9 ⟨rfl, hb⟩; replace b0 := b0.below hb))
          go_ret
          exact ⟨rfl, b0.out⟩
        · have zb : decide (16384 < (N : Int)) = false := decide_eq_false (by omega)
          by_cases hs : st = 0
          · have zs : (st != 0) = false := by rw [hs]; rfl
            by_cases hn : N < 8
            · have zn : decide ((N : Int) < 8) = true := decide_eq_true (by omega)
              have hz := (zero_short HO.out (by omega) (by rw [hkk]; simp [farK, ofK, hs]) (by omega) (by rw [hkk]; simp [longOk]; omega)).symm.trans HX.out
              simp only [Prod.mk.injEq, Flt.mk.injEq] at hz
              obtain ⟨_, hx1, hx2, hx3⟩ := hz
              have hq : ∀ W' : World, (binOp .eql 34 (.agg #[.bool xw, .int .i64 xs, .int .u32 xc]) (.agg #[.bool true, .int .i64 0, .int .u32 6])).run Try.prog W' = .ok (.bool true) W' := by rw [← hx1, ← hx2, ← hx3]; exact flt_eqs _ _ _
              clear hx1 hx2 hx3
              clear hkk hb hs hn
              go_upto_region 14 with fail
              go_wp2_with (first | ((with_reducible refine wpList_id ?_); refine wpList_getG (by rfl) _ _ rfl rfl q4 Try.underlying34 rfl (by rfl) ?_) | (go_at_call 9; (with_reducible refine (fWakes _).mono ?_); rintro e w9 ⟨rfl, hb⟩; replace b0 := b0.below hb))
              go_ret
              exact ⟨rfl, b0.out⟩
            · have zn : decide ((N : Int) < 8) = false := decide_eq_false (by omega)
              rw [show knownB k = true from by rw [hkk]; rfl] at RK
              clear hkk hb hs hn
              go_wp2_with (first | (go_at_call 26; (with_reducible refine (RK.out _).mono ?_); rintro e w9 ⟨rfl, hb⟩; replace b0 := b0.below hb; replace q4 := q4.below hb; replace qh := qh.below hb; clear hb z2 z3; have z2 := qh.at 1 rfl; have z3 := qh.at 3 rfl) | (go_at_call 9; (with_reducible refine (fWakes _).mono ?_); rintro e w9 ⟨rfl, hb⟩; replace b0 := b0.below hb))
              go_ret
              exact ⟨rfl, b0.out⟩
          · have zs : (st != 0) = true := by rw [bne_iff_ne]; exact hs
            have hz := (zero_far HO.out (by omega) (.inr (by rw [hkk]; simp [farK, ofK, hs]))).symm.trans HX.out
            simp only [Prod.mk.injEq, Flt.mk.injEq] at hz
            obtain ⟨_, hx1, hx2, hx3⟩ := hz
            have hq : ∀ W' : World, (binOp .eql 34 (.agg #[.bool xw, .int .i64 xs, .int .u32 xc]) (.agg #[.bool true, .int .i64 0, .int .u32 1])).run Try.prog W' = .ok (.bool true) W' := by rw [← hx1, ← hx2, ← hx3]; exact flt_eqs _ _ _
            clear hx1 hx2 hx3
            clear hb hs hkk
            go_upto_region 10 with fail
            go_wp2_with (first | ((with_reducible refine wpList_id ?_); refine wpList_getG (by rfl) _ _ rfl rfl q4 Try.underlying34 rfl (by rfl) ?_) | (go_at_call 9; (with_reducible refine (fWakes _).mono ?_); rintro e w9 ⟨rfl, hb⟩; replace b0 := b0.below hb))
            go_ret
            exact ⟨rfl, b0.out⟩
    · as_aux_lemma =>
        have e0 : (k == 0) = false := by rw [hkk]; rfl
        have e1 : (k == 1) = false := by rw [hkk]; rfl
        have e2 : (k == 2) = false := by rw [hkk]; rfl
        have e3 : (k == 3) = false := by rw [hkk]; rfl
        have e4 : (k == 4) = false := by rw [hkk]; rfl
        have e5 : (k == 5) = false := by rw [hkk]; rfl
        have e6 : (k == 6) = false := by rw [hkk]; rfl
        have e7 : (k == 7) = false := by rw [hkk]; rfl
        have e8 : (k == 8) = true := by rw [hkk]; rfl
        have e9 : (k == 9) = false := by rw [hkk]; rfl
        have e16 : (k == 16) = false := by rw [hkk]; rfl
        by_cases hb : 16384 < N
        · have zb : decide (16384 < (N : Int)) = true := decide_eq_true (by omega)
          have hz := (zero_long HO.out hb).symm.trans HX.out
          simp only [Prod.mk.injEq, Flt.mk.injEq] at hz
          obtain ⟨_, hx1, hx2, hx3⟩ := hz
          have hq : ∀ W' : World, (binOp .eql 34 (.agg #[.bool xw, .int .i64 xs, .int .u32 xc]) (.agg #[.bool true, .int .i64 0, .int .u32 6])).run Try.prog W' = .ok (.bool true) W' := by rw [← hx1, ← hx2, ← hx3]; exact flt_eqs _ _ _
          clear hx1 hx2 hx3
          clear hb
          go_upto_region 8 with fail
          go_wp2_with (first | ((with_reducible refine wpList_id ?_); refine wpList_getG (by rfl) _ _ rfl rfl q4 Try.underlying34 rfl (by rfl) ?_) | (go_at_call 9; (with_reducible refine (fWakes _).mono ?_); rintro e w9 ⟨rfl, hb⟩; replace b0 := b0.below hb))
          go_ret
          exact ⟨rfl, b0.out⟩
        · have zb : decide (16384 < (N : Int)) = false := decide_eq_false (by omega)
          by_cases hn : N = 4
          · have zn : ((N : Int) != 4) = false := by rw [hn]; rfl
            rw [show knownB k = true from by rw [hkk]; rfl] at RK
            clear hkk hb hn
            go_wp2_with (first | (go_at_call 26; (with_reducible refine (RK.out _).mono ?_); rintro e w9 ⟨rfl, hb⟩; replace b0 := b0.below hb; replace q4 := q4.below hb; replace qh := qh.below hb; clear hb z2 z3; have z2 := qh.at 1 rfl; have z3 := qh.at 3 rfl) | (go_at_call 9; (with_reducible refine (fWakes _).mono ?_); rintro e w9 ⟨rfl, hb⟩; replace b0 := b0.below hb))
            go_ret
            exact ⟨rfl, b0.out⟩
          · have zn : ((N : Int) != 4) = true := by rw [bne_iff_ne]; omega
            have hz := (zero_short HO.out (by omega) (by rw [hkk]; simp [farK, ofK]) (by omega) (by rw [hkk]; simp [longOk, hn])).symm.trans HX.out
            simp only [Prod.mk.injEq, Flt.mk.injEq] at hz
            obtain ⟨_, hx1, hx2, hx3⟩ := hz
            have hq : ∀ W' : World, (binOp .eql 34 (.agg #[.bool xw, .int .i64 xs, .int .u32 xc]) (.agg #[.bool true, .int .i64 0, .int .u32 6])).run Try.prog W' = .ok (.bool true) W' := by rw [← hx1, ← hx2, ← hx3]; exact flt_eqs _ _ _
            clear hx1 hx2 hx3
            clear hkk hb hn
            go_upto_region 14 with fail
            go_wp2_with (first | ((with_reducible refine wpList_id ?_); refine wpList_getG (by rfl) _ _ rfl rfl q4 Try.underlying34 rfl (by rfl) ?_) | (go_at_call 9; (with_reducible refine (fWakes _).mono ?_); rintro e w9 ⟨rfl, hb⟩; replace b0 := b0.below hb))
            go_ret
            exact ⟨rfl, b0.out⟩
    · as_aux_lemma =>
        have e0 : (k == 0) = false := by rw [hkk]; rfl
        have e1 : (k == 1) = false := by rw [hkk]; rfl
        have e2 : (k == 2) = false := by rw [hkk]; rfl
        have e3 : (k == 3) = false := by rw [hkk]; rfl
        have e4 : (k == 4) = false := by rw [hkk]; rfl
        have e5 : (k == 5) = false := by rw [hkk]; rfl
        have e6 : (k == 6) = false := by rw [hkk]; rfl
        have e7 : (k == 7) = false := by rw [hkk]; rfl
        have e8 : (k == 8) = false := by rw [hkk]; rfl
        have e9 : (k == 9) = true := by rw [hkk]; rfl
        have e16 : (k == 16) = false := by rw [hkk]; rfl
        by_cases hb : 16384 < N
        · have zb : decide (16384 < (N : Int)) = true := decide_eq_true (by omega)
          have hz := (zero_long HO.out hb).symm.trans HX.out
          simp only [Prod.mk.injEq, Flt.mk.injEq] at hz
          obtain ⟨_, hx1, hx2, hx3⟩ := hz
          have hq : ∀ W' : World, (binOp .eql 34 (.agg #[.bool xw, .int .i64 xs, .int .u32 xc]) (.agg #[.bool true, .int .i64 0, .int .u32 6])).run Try.prog W' = .ok (.bool true) W' := by rw [← hx1, ← hx2, ← hx3]; exact flt_eqs _ _ _
          clear hx1 hx2 hx3
          clear hb
          go_upto_region 8 with fail
          go_wp2_with (first | ((with_reducible refine wpList_id ?_); refine wpList_getG (by rfl) _ _ rfl rfl q4 Try.underlying34 rfl (by rfl) ?_) | (go_at_call 9; (with_reducible refine (fWakes _).mono ?_); rintro e w9 ⟨rfl, hb⟩; replace b0 := b0.below hb))
          go_ret
          exact ⟨rfl, b0.out⟩
        · have zb : decide (16384 < (N : Int)) = false := decide_eq_false (by omega)
          by_cases hs : st = 0
          · have zs : (st == 0) = true := by rw [hs]; rfl
            have hz := (zero_far HO.out (by omega) (.inr (by rw [hkk, hs]; rfl))).symm.trans HX.out
            simp only [Prod.mk.injEq, Flt.mk.injEq] at hz
            obtain ⟨_, hx1, hx2, hx3⟩ := hz
            have hq : ∀ W' : World, (binOp .eql 34 (.agg #[.bool xw, .int .i64 xs, .int .u32 xc]) (.agg #[.bool true, .int .i64 0, .int .u32 1])).run Try.prog W' = .ok (.bool true) W' := by rw [← hx1, ← hx2, ← hx3]; exact flt_eqs _ _ _
            clear hx1 hx2 hx3
            clear hb hs hkk
            go_upto_region 10 with fail
            go_wp2_with (first | ((with_reducible refine wpList_id ?_); refine wpList_getG (by rfl) _ _ rfl rfl q4 Try.underlying34 rfl (by rfl) ?_) | (go_at_call 9; (with_reducible refine (fWakes _).mono ?_); rintro e w9 ⟨rfl, hb⟩; replace b0 := b0.below hb))
            go_ret
            exact ⟨rfl, b0.out⟩
          · have zs : (st == 0) = false := by simpa using hs
            obtain ⟨rz, hz0⟩ := zero_data (kd := k) (fl := fl) (n := N) HO.out (by omega) (by rw [hkk]; simp [farK, ofK, hs]) (by rw [hkk]; simp [longOk]) (by omega) (by omega) (by omega) (by omega) (by omega) (by omega) (by omega) (by omega)
            have hz := hz0.symm.trans HX.out
            clear hz0
            simp only [Prod.mk.injEq, Flt.mk.injEq] at hz
            obtain ⟨_, hx1, hx2, hx3⟩ := hz
            have hq : ∀ W' : World, (binOp .eql 34 (.agg #[.bool xw, .int .i64 xs, .int .u32 xc]) (.agg #[.bool false, .int .i64 0, .int .u32 0])).run Try.prog W' = .ok (.bool true) W' := by rw [← hx1, ← hx2, ← hx3]; exact flt_eqs _ _ _
            clear hx1 hx2 hx3
            rw [show knownB k = true from by rw [hkk]; rfl] at RK
            clear hkk hb hs
            go_upto_region 18 with (go_at_call 26; (with_reducible refine (RK.out _).mono ?_); rintro e w9 ⟨rfl, hb⟩; replace b0 := b0.below hb; replace q4 := q4.below hb; replace qh := qh.below hb; clear hb z2 z3; have z2 := qh.at 1 rfl; have z3 := qh.at 3 rfl)
            go_wp2_with (first | ((with_reducible refine wpList_id ?_); refine wpList_getG (by rfl) _ _ rfl rfl q4 Try.underlying34 rfl (by rfl) ?_) | (go_at_call 9; (with_reducible refine (fWakes _).mono ?_); rintro e w9 ⟨rfl, hb⟩; replace b0 := b0.below hb))
            go_ret
            exact ⟨rfl, b0.out⟩
    · as_aux_lemma =>
        have e0 : (k == 0) = false := by rw [hkk]; rfl
        have e1 : (k == 1) = false := by rw [hkk]; rfl
        have e2 : (k == 2) = false := by rw [hkk]; rfl
        have e3 : (k == 3) = false := by rw [hkk]; rfl
        have e4 : (k == 4) = false := by rw [hkk]; rfl
        have e5 : (k == 5) = false := by rw [hkk]; rfl
        have e6 : (k == 6) = false := by rw [hkk]; rfl
        have e7 : (k == 7) = false := by rw [hkk]; rfl
        have e8 : (k == 8) = false := by rw [hkk]; rfl
        have e9 : (k == 9) = false := by rw [hkk]; rfl
        have e16 : (k == 16) = true := by rw [hkk]; rfl
        by_cases hb : 16384 < N
        · have zb : decide (16384 < (N : Int)) = true := decide_eq_true (by omega)
          have hz := (zero_long HO.out hb).symm.trans HX.out
          simp only [Prod.mk.injEq, Flt.mk.injEq] at hz
          obtain ⟨_, hx1, hx2, hx3⟩ := hz
          have hq : ∀ W' : World, (binOp .eql 34 (.agg #[.bool xw, .int .i64 xs, .int .u32 xc]) (.agg #[.bool true, .int .i64 0, .int .u32 6])).run Try.prog W' = .ok (.bool true) W' := by rw [← hx1, ← hx2, ← hx3]; exact flt_eqs _ _ _
          clear hx1 hx2 hx3
          clear hb
          go_upto_region 8 with fail
          go_wp2_with (first | ((with_reducible refine wpList_id ?_); refine wpList_getG (by rfl) _ _ rfl rfl q4 Try.underlying34 rfl (by rfl) ?_) | (go_at_call 9; (with_reducible refine (fWakes _).mono ?_); rintro e w9 ⟨rfl, hb⟩; replace b0 := b0.below hb))
          go_ret
          exact ⟨rfl, b0.out⟩
        · have zb : decide (16384 < (N : Int)) = false := decide_eq_false (by omega)
          by_cases hs : st = 0
          · have zs : (st != 0) = false := by rw [hs]; rfl
            by_cases hn : 4 ≤ N
            · have zn : decide (4 ≤ (N : Int)) = true := decide_eq_true (by omega)
              have hz := ((show parseS k fl st (List.replicate N 0) = (Fm0, ⟨true, 0, 1⟩) from by rw [hkk, hs]; exact zero_urgent (by omega) hn)).symm.trans HX.out
              simp only [Prod.mk.injEq, Flt.mk.injEq] at hz
              obtain ⟨_, hx1, hx2, hx3⟩ := hz
              have hq : ∀ W' : World, (binOp .eql 34 (.agg #[.bool xw, .int .i64 xs, .int .u32 xc]) (.agg #[.bool true, .int .i64 0, .int .u32 1])).run Try.prog W' = .ok (.bool true) W' := by rw [← hx1, ← hx2, ← hx3]; exact flt_eqs _ _ _
              clear hx1 hx2 hx3
              clear hkk hb hs hn
              go_upto_region 16 with fail
              go_wp2_with (first | ((with_reducible refine wpList_id ?_); refine wpList_getG (by rfl) _ _ rfl rfl q4 Try.underlying34 rfl (by rfl) ?_) | (go_at_call 9; (with_reducible refine (fWakes _).mono ?_); rintro e w9 ⟨rfl, hb⟩; replace b0 := b0.below hb))
              go_ret
              exact ⟨rfl, b0.out⟩
            · have zn : decide (4 ≤ (N : Int)) = false := decide_eq_false (by omega)
              rw [show knownB k = true from by rw [hkk]; rfl] at RK
              clear hkk hb hs hn
              go_wp2_with (first | (go_at_call 26; (with_reducible refine (RK.out _).mono ?_); rintro e w9 ⟨rfl, hb⟩; replace b0 := b0.below hb; replace q4 := q4.below hb; replace qh := qh.below hb; clear hb z2 z3; have z2 := qh.at 1 rfl; have z3 := qh.at 3 rfl) | (go_at_call 9; (with_reducible refine (fWakes _).mono ?_); rintro e w9 ⟨rfl, hb⟩; replace b0 := b0.below hb))
              go_ret
              exact ⟨rfl, b0.out⟩
          · have zs : (st != 0) = true := by rw [bne_iff_ne]; exact hs
            have hz := (zero_far HO.out (by omega) (.inr (by rw [hkk]; simp [farK, ofK, hs]))).symm.trans HX.out
            simp only [Prod.mk.injEq, Flt.mk.injEq] at hz
            obtain ⟨_, hx1, hx2, hx3⟩ := hz
            have hq : ∀ W' : World, (binOp .eql 34 (.agg #[.bool xw, .int .i64 xs, .int .u32 xc]) (.agg #[.bool true, .int .i64 0, .int .u32 1])).run Try.prog W' = .ok (.bool true) W' := by rw [← hx1, ← hx2, ← hx3]; exact flt_eqs _ _ _
            clear hx1 hx2 hx3
            clear hb hs hkk
            go_upto_region 10 with fail
            go_wp2_with (first | ((with_reducible refine wpList_id ?_); refine wpList_getG (by rfl) _ _ rfl rfl q4 Try.underlying34 rfl (by rfl) ?_) | (go_at_call 9; (with_reducible refine (fWakes _).mono ?_); rintro e w9 ⟨rfl, hb⟩; replace b0 := b0.below hb))
            go_ret
            exact ⟨rfl, b0.out⟩
    · by_cases h5 : k = 5
      · as_aux_lemma =>
          have hkk := h5
          have e0 : (k == 0) = false := by rw [hkk]; rfl
          have e1 : (k == 1) = false := by rw [hkk]; rfl
          have e2 : (k == 2) = false := by rw [hkk]; rfl
          have e3 : (k == 3) = false := by rw [hkk]; rfl
          have e4 : (k == 4) = false := by rw [hkk]; rfl
          have e5 : (k == 5) = true := by rw [hkk]; rfl
          have e6 : (k == 6) = false := by rw [hkk]; rfl
          have e7 : (k == 7) = false := by rw [hkk]; rfl
          have e8 : (k == 8) = false := by rw [hkk]; rfl
          have e9 : (k == 9) = false := by rw [hkk]; rfl
          have e16 : (k == 16) = false := by rw [hkk]; rfl
          by_cases hb : 16384 < N
          · have zb : decide (16384 < (N : Int)) = true := decide_eq_true (by omega)
            have hz := (zero_long HO.out hb).symm.trans HX.out
            simp only [Prod.mk.injEq, Flt.mk.injEq] at hz
            obtain ⟨_, hx1, hx2, hx3⟩ := hz
            have hq : ∀ W' : World, (binOp .eql 34 (.agg #[.bool xw, .int .i64 xs, .int .u32 xc]) (.agg #[.bool true, .int .i64 0, .int .u32 6])).run Try.prog W' = .ok (.bool true) W' := by rw [← hx1, ← hx2, ← hx3]; exact flt_eqs _ _ _
            clear hx1 hx2 hx3
            clear hb
            go_upto_region 8 with fail
            go_wp2_with (first | ((with_reducible refine wpList_id ?_); refine wpList_getG (by rfl) _ _ rfl rfl q4 Try.underlying34 rfl (by rfl) ?_) | (go_at_call 9; (with_reducible refine (fWakes _).mono ?_); rintro e w9 ⟨rfl, hb⟩; replace b0 := b0.below hb))
            go_ret
            exact ⟨rfl, b0.out⟩
          · have zb : decide (16384 < (N : Int)) = false := decide_eq_false (by omega)
            have hz := (zero_far HO.out (by omega) (.inl hkk)).symm.trans HX.out
            simp only [Prod.mk.injEq, Flt.mk.injEq] at hz
            obtain ⟨_, hx1, hx2, hx3⟩ := hz
            have hq : ∀ W' : World, (binOp .eql 34 (.agg #[.bool xw, .int .i64 xs, .int .u32 xc]) (.agg #[.bool true, .int .i64 0, .int .u32 1])).run Try.prog W' = .ok (.bool true) W' := by rw [← hx1, ← hx2, ← hx3]; exact flt_eqs _ _ _
            clear hx1 hx2 hx3
            clear hb hkk
            go_upto_region 10 with fail
            go_wp2_with (first | ((with_reducible refine wpList_id ?_); refine wpList_getG (by rfl) _ _ rfl rfl q4 Try.underlying34 rfl (by rfl) ?_) | (go_at_call 9; (with_reducible refine (fWakes _).mono ?_); rintro e w9 ⟨rfl, hb⟩; replace b0 := b0.below hb))
            go_ret
            exact ⟨rfl, b0.out⟩
      · as_aux_lemma =>
          have e0 : (k == 0) = false := by simpa using h0
          have e1 : (k == 1) = false := by simpa using h1
          have e2 : (k == 2) = false := by simpa using h2
          have e3 : (k == 3) = false := by simpa using h3
          have e4 : (k == 4) = false := by simpa using h4
          have e5 : (k == 5) = false := by simpa using h5
          have e6 : (k == 6) = false := by simpa using h6
          have e7 : (k == 7) = false := by simpa using h7
          have e8 : (k == 8) = false := by simpa using h8
          have e9 : (k == 9) = false := by simpa using h9
          have e16 : (k == 16) = false := by simpa using h16
          by_cases hb : 16384 < N
          · have zb : decide (16384 < (N : Int)) = true := decide_eq_true (by omega)
            have hz := (zero_long HO.out hb).symm.trans HX.out
            simp only [Prod.mk.injEq, Flt.mk.injEq] at hz
            obtain ⟨_, hx1, hx2, hx3⟩ := hz
            have hq : ∀ W' : World, (binOp .eql 34 (.agg #[.bool xw, .int .i64 xs, .int .u32 xc]) (.agg #[.bool true, .int .i64 0, .int .u32 6])).run Try.prog W' = .ok (.bool true) W' := by rw [← hx1, ← hx2, ← hx3]; exact flt_eqs _ _ _
            clear hx1 hx2 hx3
            clear hb
            go_upto_region 8 with fail
            go_wp2_with (first | ((with_reducible refine wpList_id ?_); refine wpList_getG (by rfl) _ _ rfl rfl q4 Try.underlying34 rfl (by rfl) ?_) | (go_at_call 9; (with_reducible refine (fWakes _).mono ?_); rintro e w9 ⟨rfl, hb⟩; replace b0 := b0.below hb))
            go_ret
            exact ⟨rfl, b0.out⟩
          · have zb : decide (16384 < (N : Int)) = false := decide_eq_false (by omega)
            obtain ⟨rz, hz0⟩ := zero_data (kd := k) (fl := fl) (n := N) HO.out (by omega) (by simp [farK, ofK, h0, h1, h2, h3, h4, h5, h6, h7, h8, h9, h16]) (by simp [longOk, h0, h1, h2, h3, h4, h6, h7, h8, h16]) h0 h1 h2 h3 h4 h7 h8 h16
            have hz := hz0.symm.trans HX.out
            clear hz0
            simp only [Prod.mk.injEq, Flt.mk.injEq] at hz
            obtain ⟨_, hx1, hx2, hx3⟩ := hz
            have hq : ∀ W' : World, (binOp .eql 34 (.agg #[.bool xw, .int .i64 xs, .int .u32 xc]) (.agg #[.bool false, .int .i64 0, .int .u32 0])).run Try.prog W' = .ok (.bool true) W' := by rw [← hx1, ← hx2, ← hx3]; exact flt_eqs _ _ _
            clear hx1 hx2 hx3
            rw [show knownB k = false from by unfold knownB; exact decide_eq_false (by omega)] at RK
            clear hb h0 h1 h2 h3 h4 h5 h6 h7 h8 h9 h16
            go_upto_region 18 with (go_at_call 26; (with_reducible refine (RK.out _).mono ?_); rintro e w9 ⟨rfl, hb⟩; replace b0 := b0.below hb; replace q4 := q4.below hb; replace qh := qh.below hb; clear hb z2 z3; have z2 := qh.at 1 rfl; have z3 := qh.at 3 rfl)
            go_wp2_with (first | ((with_reducible refine wpList_id ?_); refine wpList_getG (by rfl) _ _ rfl rfl q4 Try.underlying34 rfl (by rfl) ?_) | (go_at_call 9; (with_reducible refine (fWakes _).mono ?_); rintro e w9 ⟨rfl, hb⟩; replace b0 := b0.below hb))
            go_ret
            exact ⟨rfl, b0.out⟩
theorem wOrder (L k fl st : Int) (hk : 0 ≤ k ∧ k ≤ 255) (hst : -9223372036854775808 ≤ st ∧ st ≤ 9223372036854775807) (hfl : 0 ≤ fl ∧ fl ≤ 255) (n : Int) (hn0 : -9223372036854775808 ≤ n) (hn1 : n ≤ 9223372036854775807) :
    Calls Try.prog 6 #[.agg #[.int .i64 L, .int .u8 k, .int .u8 fl, .int .i64 st], .int .i64 n] W (fun e w' => e = .returned (.bool true) ∧ Below W.heap.size W w') := by
  cases ho : okH 0 st
  · exact oNo1 L k fl st hk hst hfl n ho
  by_cases h1 : n < 0
  · exact oNo2 L k fl st hk hst hfl n ho h1
  by_cases h2 : 20000 < n
  · exact oNo3 L k fl st hk hst hfl n ho h2
  obtain ⟨N, rfl⟩ := Int.eq_ofNat_of_zero_le (show 0 ≤ n by omega)
  exact oYes L k fl st hk hst hfl N ho (by omega)
end
end Go.Proofs.Ytnjnpnjjpodnnaa
