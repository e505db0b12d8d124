/- The document's frames: Parse. -/
import Derived.Test.YtnjnpnjjpodnnaaTGrd
import Derived.Test.YtnjnpnjjpodnnaaTGre
import Derived.Test.YtnjnpnjjpodnnaaTGxe
import Derived.Deep.Cut
namespace Go.Proofs.Ytnjnpnjjpodnnaa
open Go.RowKit Go.Shelf
set_option linter.unusedVariables false
set_option linter.unusedSimpArgs false

set_option maxRecDepth 100000 in
set_option maxHeartbeats 4000000 in
theorem rParse1 (L kd fl st : Int) (A : Option Addr) (n c : Nat) (l : List Int) (w : World) (h : Byt w A n c l) (hn : n ≤ 100000) (hst0 : -9223372036854775808 ≤ st) (hst1 : st ≤ 9223372036854775807) (f0l : 0 ≤ fl) (f1l : fl ≤ 255) (h1 : okH 0 st = false) : Calls Try.prog 11 #[.agg #[.int .i64 L, .int .u8 kd, .int .u8 fl, .int .i64 st], .slice A n c] w (ParP (Fm0, ⟨true, 0, 2⟩) w) := by
  have HR := Lib.hid fun w => rHRight 0 kd fl st w (by decide) (by decide) hst0 hst1
  rw [h1] at HR
  have H0 := Lib.hid h
  have hl := h.len
  clear h hst0 hst1 h1 f0l f1l
  have qh := ((Blk.new w 23 #[.int .i64 L, .int .u8 kd, .int .u8 fl, .int .i64 st]).alloc (.cells #[.int .u8 0, .int .u8 0, .int .i64 0, .slice none 0 0, .int .i64 0, .int .i64 0, .int .i64 0, .int .u32 0, .slice none 0 0, .bool false, .bool false, .int .i64 0, .int .u8 0] 30)).alloc (.cells #[.bool false, .int .i64 0, .int .u32 0] 34)
  have r4 := (Blk.new (w.alloc (.cells #[.int .i64 L, .int .u8 kd, .int .u8 fl, .int .i64 st] 23)) 30 #[.int .u8 0, .int .u8 0, .int .i64 0, .slice none 0 0, .int .i64 0, .int .i64 0, .int .i64 0, .int .u32 0, .slice none 0 0, .bool false, .bool false, .int .i64 0, .int .u8 0]).alloc (.cells #[.bool false, .int .i64 0, .int .u32 0] 34)
  have r5 := Blk.new ((w.alloc (.cells #[.int .i64 L, .int .u8 kd, .int .u8 fl, .int .i64 st] 23)).alloc (.cells #[.int .u8 0, .int .u8 0, .int .i64 0, .slice none 0 0, .int .i64 0, .int .i64 0, .int .i64 0, .int .u32 0, .slice none 0 0, .bool false, .bool false, .int .i64 0, .int .u8 0] 30)) 34 #[.bool false, .int .i64 0, .int .u32 0]
  have b0 := (((Bel.refl w).alloc (.cells #[.int .i64 L, .int .u8 kd, .int .u8 fl, .int .i64 st] 23)).alloc (.cells #[.int .u8 0, .int .u8 0, .int .i64 0, .slice none 0 0, .int .i64 0, .int .i64 0, .int .i64 0, .int .u32 0, .slice none 0 0, .bool false, .bool false, .int .i64 0, .int .u8 0] 30)).alloc (.cells #[.bool false, .int .i64 0, .int .u32 0] 34)
  simp only [World.size_alloc] at r4 r5
  have y1 := qh.at 1 rfl; have y2 := qh.at 2 rfl; have y3 := qh.at 3 rfl
  go_enter Try.func11, Try.ntmps11
  go_upto_region 3 with (first | ((with_reducible refine wpList_id ?_); refine wpList_putF (v := .int .i64 0) rfl _ _ _ rfl rfl rfl qh rfl (by rfl) (by rfl) ?_; intro w9 qn hg; simp only [rD, rF, rE] at qn; replace b0 := b0.grown hg (Nat.le_refl _); (try replace r4 := r4.grown hg (by omega)); (try replace r5 := r5.grown hg (by omega)); (try replace qf := qf.grown hg nh6.symm); (try replace qx := qx.grown hg nh7.symm); (try replace mm := mm.grownB qh (by decide) hg); (try replace mp := MineP.grownB mp qh (by decide) hg); clear hg qh; have qh := qn; clear qn; (try clear y1 y2 y3); have y1 := qh.at 1 rfl; have y2 := qh.at 2 rfl; have y3 := qh.at 3 rfl; (try clear x0); (try have x0 := qx.at 0 rfl)) | ((with_reducible refine wpList_id ?_); refine wpList_getG (by rfl) _ _ rfl rfl qh Try.underlying23 rfl (by rfl) ?_) | (go_at_call 25; (with_reducible refine (HR.out _).mono ?_); rintro e w1 ⟨rfl, hb⟩; replace b0 := b0.below hb; (try replace qh := qh.below hb); (try replace r4 := r4.below hb); (try replace r5 := r5.below hb); (try replace qf := qf.below hb); (try replace qx := qx.below hb); (try replace mm := mm.below hb); (try replace mp := mp.below hb); clear hb; (try clear y1 y2 y3); have y1 := qh.at 1 rfl; have y2 := qh.at 2 rfl; have y3 := qh.at 3 rfl; (try clear x0); (try have x0 := qx.at 0 rfl)))
  go_wp2_with (first | (go_at_call 21; (with_reducible refine (rWholeF _ _).mono ?_); rintro e w9 ⟨rfl, hb⟩; replace b0 := b0.below hb; (try replace qh := qh.below hb); (try replace r4 := r4.below hb); (try replace r5 := r5.below hb); (try replace qf := qf.below hb); (try replace qx := qx.below hb); (try replace mm := mm.below hb); (try replace mp := mp.below hb); clear hb; (try clear y1 y2 y3); have y1 := qh.at 1 rfl; have y2 := qh.at 2 rfl; have y3 := qh.at 3 rfl; (try clear x0); (try have x0 := qx.at 0 rfl)) | ((with_reducible refine wpList_id ?_); refine wpList_putB rfl _ _ _ rfl rfl rfl r4 (by rfl) (by rfl) (by rfl) ?_; intro w9 qn hg; replace b0 := b0.grown hg (by omega); (try replace qh := qh.grown hg (by omega)); (try replace r5 := r5.grown hg (by omega)); (try replace qf := qf.grown hg n46.symm); (try replace qx := qx.grown hg n47.symm); (try replace mm := mm.grownB r4 (by decide) hg); (try replace mp := MineP.grownB mp r4 (by decide) hg); clear hg r4; have r4 := qn; clear qn; (try clear y1 y2 y3); have y1 := qh.at 1 rfl; have y2 := qh.at 2 rfl; have y3 := qh.at 3 rfl; (try clear x0); (try have x0 := qx.at 0 rfl)) | ((with_reducible refine wpList_id ?_); refine wpList_putB rfl _ _ _ rfl rfl rfl r5 (by rfl) (by rfl) (by rfl) ?_; intro w9 qn hg; replace b0 := b0.grown hg (by omega); (try replace qh := qh.grown hg (by omega)); (try replace r4 := r4.grown hg (by omega)); (try replace qf := qf.grown hg n56.symm); (try replace qx := qx.grown hg n57.symm); (try replace mm := mm.grownB r5 (by decide) hg); (try replace mp := MineP.grownB mp r5 (by decide) hg); clear hg r5; have r5 := qn; clear qn; (try clear y1 y2 y3); have y1 := qh.at 1 rfl; have y2 := qh.at 2 rfl; have y3 := qh.at 3 rfl; (try clear x0); (try have x0 := qx.at 0 rfl)))
  exact res2cc rfl rfl rfl rfl r4 Try.underlying30 rfl (by rfl) r5 Try.underlying34 rfl (by rfl) ⟨_, _, _, _, _, _, rfl, Mine.nil _ _, MineP.nil _ _, b0.out⟩
set_option maxRecDepth 100000 in
set_option maxHeartbeats 4000000 in
theorem rParse2 (L kd fl st : Int) (A : Option Addr) (n c : Nat) (l : List Int) (w : World) (h : Byt w A n c l) (hn : n ≤ 100000) (hst0 : -9223372036854775808 ≤ st) (hst1 : st ≤ 9223372036854775807) (f0l : 0 ≤ fl) (f1l : fl ≤ 255) (h1 : okH 0 st = true) (xc : Int) (ha : aheadS kd fl st n = ⟨true, 0, xc⟩) : Calls Try.prog 11 #[.agg #[.int .i64 L, .int .u8 kd, .int .u8 fl, .int .i64 st], .slice A n c] w (ParP (Fm0, ⟨true, 0, xc⟩) w) := by
  have HR := Lib.hid fun w => rHRight 0 kd fl st w (by decide) (by decide) hst0 hst1
  rw [h1] at HR
  have H0 := Lib.hid h
  have hl := h.len
  have HAh := Lib.hid fun w => rAhead 0 kd fl st n w f0l f1l (by omega)
  rw [ha] at HAh
  clear h hst0 hst1 h1 ha f0l f1l
  have qh := ((Blk.new w 23 #[.int .i64 L, .int .u8 kd, .int .u8 fl, .int .i64 st]).alloc (.cells #[.int .u8 0, .int .u8 0, .int .i64 0, .slice none 0 0, .int .i64 0, .int .i64 0, .int .i64 0, .int .u32 0, .slice none 0 0, .bool false, .bool false, .int .i64 0, .int .u8 0] 30)).alloc (.cells #[.bool false, .int .i64 0, .int .u32 0] 34)
  have r4 := (Blk.new (w.alloc (.cells #[.int .i64 L, .int .u8 kd, .int .u8 fl, .int .i64 st] 23)) 30 #[.int .u8 0, .int .u8 0, .int .i64 0, .slice none 0 0, .int .i64 0, .int .i64 0, .int .i64 0, .int .u32 0, .slice none 0 0, .bool false, .bool false, .int .i64 0, .int .u8 0]).alloc (.cells #[.bool false, .int .i64 0, .int .u32 0] 34)
  have r5 := Blk.new ((w.alloc (.cells #[.int .i64 L, .int .u8 kd, .int .u8 fl, .int .i64 st] 23)).alloc (.cells #[.int .u8 0, .int .u8 0, .int .i64 0, .slice none 0 0, .int .i64 0, .int .i64 0, .int .i64 0, .int .u32 0, .slice none 0 0, .bool false, .bool false, .int .i64 0, .int .u8 0] 30)) 34 #[.bool false, .int .i64 0, .int .u32 0]
  have b0 := (((Bel.refl w).alloc (.cells #[.int .i64 L, .int .u8 kd, .int .u8 fl, .int .i64 st] 23)).alloc (.cells #[.int .u8 0, .int .u8 0, .int .i64 0, .slice none 0 0, .int .i64 0, .int .i64 0, .int .i64 0, .int .u32 0, .slice none 0 0, .bool false, .bool false, .int .i64 0, .int .u8 0] 30)).alloc (.cells #[.bool false, .int .i64 0, .int .u32 0] 34)
  simp only [World.size_alloc] at r4 r5
  have y1 := qh.at 1 rfl; have y2 := qh.at 2 rfl; have y3 := qh.at 3 rfl
  go_enter Try.func11, Try.ntmps11
  go_upto_region 4 with (first | ((with_reducible refine wpList_id ?_); refine wpList_putF (v := .int .i64 0) rfl _ _ _ rfl rfl rfl qh rfl (by rfl) (by rfl) ?_; intro w9 qn hg; simp only [rD, rF, rE] at qn; replace b0 := b0.grown hg (Nat.le_refl _); (try replace r4 := r4.grown hg (by omega)); (try replace r5 := r5.grown hg (by omega)); (try replace qf := qf.grown hg nh6.symm); (try replace qx := qx.grown hg nh7.symm); (try replace mm := mm.grownB qh (by decide) hg); (try replace mp := MineP.grownB mp qh (by decide) hg); clear hg qh; have qh := qn; clear qn; (try clear y1 y2 y3); have y1 := qh.at 1 rfl; have y2 := qh.at 2 rfl; have y3 := qh.at 3 rfl; (try clear x0); (try have x0 := qx.at 0 rfl)) | ((with_reducible refine wpList_id ?_); refine wpList_getG (by rfl) _ _ rfl rfl qh Try.underlying23 rfl (by rfl) ?_) | (go_at_call 25; (with_reducible refine (HR.out _).mono ?_); rintro e w1 ⟨rfl, hb⟩; replace b0 := b0.below hb; (try replace qh := qh.below hb); (try replace r4 := r4.below hb); (try replace r5 := r5.below hb); (try replace qf := qf.below hb); (try replace qx := qx.below hb); (try replace mm := mm.below hb); (try replace mp := mp.below hb); clear hb; (try clear y1 y2 y3); have y1 := qh.at 1 rfl; have y2 := qh.at 2 rfl; have y3 := qh.at 3 rfl; (try clear x0); (try have x0 := qx.at 0 rfl); have n46 : w.heap.size + 1 ≠ w1.heap.size := Nat.ne_of_lt r4.lt; have n56 : w.heap.size + 1 + 1 ≠ w1.heap.size := Nat.ne_of_lt r5.lt; have nh6 : w.heap.size ≠ w1.heap.size := Nat.ne_of_lt qh.lt; have h6 : w.heap.size ≤ w1.heap.size := b0.out.size; have qf := Blk.new w1 30 #[.int .u8 0, .int .u8 0, .int .i64 0, .slice none 0 0, .int .i64 0, .int .i64 0, .int .i64 0, .int .u32 0, .slice none 0 0, .bool false, .bool false, .int .i64 0, .int .u8 0]; replace b0 := b0.alloc (.cells #[.int .u8 0, .int .u8 0, .int .i64 0, .slice none 0 0, .int .i64 0, .int .i64 0, .int .i64 0, .int .u32 0, .slice none 0 0, .bool false, .bool false, .int .i64 0, .int .u8 0] 30); replace qh := qh.alloc (.cells #[.int .u8 0, .int .u8 0, .int .i64 0, .slice none 0 0, .int .i64 0, .int .i64 0, .int .i64 0, .int .u32 0, .slice none 0 0, .bool false, .bool false, .int .i64 0, .int .u8 0] 30); replace r4 := r4.alloc (.cells #[.int .u8 0, .int .u8 0, .int .i64 0, .slice none 0 0, .int .i64 0, .int .i64 0, .int .i64 0, .int .u32 0, .slice none 0 0, .bool false, .bool false, .int .i64 0, .int .u8 0] 30); replace r5 := r5.alloc (.cells #[.int .u8 0, .int .u8 0, .int .i64 0, .slice none 0 0, .int .i64 0, .int .i64 0, .int .i64 0, .int .u32 0, .slice none 0 0, .bool false, .bool false, .int .i64 0, .int .u8 0] 30)))
  go_upto_region 5 with (first | ((with_reducible refine wpList_id ?_); refine wpList_putB rfl _ _ _ rfl rfl rfl qf (by rfl) (by rfl) (by rfl) ?_; intro w9 qn hg; replace b0 := b0.grown hg h6; (try replace qh := qh.grown hg nh6); (try replace r4 := r4.grown hg n46); (try replace r5 := r5.grown hg n56); (try replace qx := qx.grown hg n67.symm); (try replace mm := mm.grownB qf (by decide) hg); (try replace mp := MineP.grownB mp qf (by decide) hg); clear hg qf; have qf := qn; clear qn; (try clear y1 y2 y3); have y1 := qh.at 1 rfl; have y2 := qh.at 2 rfl; have y3 := qh.at 3 rfl; (try clear x0); (try have x0 := qx.at 0 rfl)))
  go_upto_region 6 with (first | ((with_reducible refine wpList_id ?_); refine wpList_getG (by rfl) _ _ rfl rfl qh Try.underlying23 rfl (by rfl) ?_) | (go_at_call 32; (with_reducible refine (HAh.out _).mono ?_); rintro e w2 ⟨rfl, hb⟩; replace b0 := b0.below hb; (try replace qh := qh.below hb); (try replace r4 := r4.below hb); (try replace r5 := r5.below hb); (try replace qf := qf.below hb); (try replace qx := qx.below hb); (try replace mm := mm.below hb); (try replace mp := mp.below hb); clear hb; (try clear y1 y2 y3); have y1 := qh.at 1 rfl; have y2 := qh.at 2 rfl; have y3 := qh.at 3 rfl; (try clear x0); (try have x0 := qx.at 0 rfl); have n47 : w.heap.size + 1 ≠ w2.heap.size := Nat.ne_of_lt r4.lt; have n57 : w.heap.size + 1 + 1 ≠ w2.heap.size := Nat.ne_of_lt r5.lt; have nh7 : w.heap.size ≠ w2.heap.size := Nat.ne_of_lt qh.lt; have n67 : w1.heap.size ≠ w2.heap.size := Nat.ne_of_lt qf.lt; have h7 : w.heap.size ≤ w2.heap.size := b0.out.size; have qx := Blk.new w2 34 #[.bool false, .int .i64 0, .int .u32 0]; replace b0 := b0.alloc (.cells #[.bool false, .int .i64 0, .int .u32 0] 34); replace qh := qh.alloc (.cells #[.bool false, .int .i64 0, .int .u32 0] 34); replace r4 := r4.alloc (.cells #[.bool false, .int .i64 0, .int .u32 0] 34); replace r5 := r5.alloc (.cells #[.bool false, .int .i64 0, .int .u32 0] 34); replace qf := qf.alloc (.cells #[.bool false, .int .i64 0, .int .u32 0] 34)) | ((with_reducible refine wpList_id ?_); refine wpList_putB rfl _ _ _ rfl rfl rfl qx (by rfl) (by rfl) (by rfl) ?_; intro w9 qn hg; replace b0 := b0.grown hg h7; (try replace qh := qh.grown hg nh7); (try replace r4 := r4.grown hg n47); (try replace r5 := r5.grown hg n57); (try replace qf := qf.grown hg n67); (try replace mm := mm.grownB qx (by decide) hg); (try replace mp := MineP.grownB mp qx (by decide) hg); clear hg qx; have qx := qn; clear qn; (try clear y1 y2 y3); have y1 := qh.at 1 rfl; have y2 := qh.at 2 rfl; have y3 := qh.at 3 rfl; (try clear x0); (try have x0 := qx.at 0 rfl)))
  have x0 := qx.at 0 rfl
  go_wp2_with fail
  replace b0 := b0.drew
  (try replace qh := qh.drew)
  (try replace r4 := r4.drew)
  (try replace r5 := r5.drew)
  (try replace qf := qf.drew)
  (try replace qx := qx.drew)
  (try replace mm := mm.drew)
  (try replace mp := mp.drew)
  refine wp_region_G (fun w' => Blk w' w2.heap.size 34 #[.bool true, .int .i64 0, .int .u32 xc]) [] (by kernel_rfl) ?_
  have S0 := qx
  refine wpAnyG_take 0 (v := ?_) rfl (by kernel_rfl) (fun _ _ _ h => h) S0 (Or.inl ⟨by rfl, by intro w' hSw; go_simp; try with_reducible rfl⟩) ?_; (try simp only [Act.put, rA, rB, rC, rD, rE, rF])
  refine wpAnyG_take 1 (v := .agg #[.bool true, .int .i64 0, .int .u32 xc]) rfl (by kernel_rfl) (fun _ _ _ h => h) S0 (Or.inl ⟨by rfl, by intro w' hSw; exact exec_getB (by rfl) (by rfl) hSw Try.underlying34 rfl (by rfl)⟩) ?_; (try simp only [Act.put, rA, rB, rC, rD, rE, rF])
  clear S0
  refine wpAnyG_one 2 (by kernel_rfl) rfl (fun K hK => ?_)
  rw [if_pos (by rfl)]
  refine wp_putB (cells := #[.int .u8 0, .int .u8 0, .int .i64 0, .slice none 0 0, .int .i64 0, .int .i64 0, .int .i64 0, .int .u32 0, .slice none 0 0, .bool false, .bool false, .int .i64 0, .int .u8 0]) _ _ _ rfl rfl rfl r4 (by rfl) (by rfl) (by rfl) ?_
  intro w9 qn hg
  replace b0 := b0.grown hg (by omega)
  (try replace qh := qh.grown hg (by omega))
  (try replace r5 := r5.grown hg (by omega))
  (try replace qf := qf.grown hg n46.symm)
  (try replace qx := qx.grown hg n47.symm)
  (try replace mm := mm.grownB r4 (by decide) hg)
  (try replace mp := MineP.grownB mp r4 (by decide) hg)
  clear hg r4
  have r4 := qn
  clear qn
  refine hK.out _ _ (fun _ => qx) ?_
  clear hK K
  (try simp only [Act.put, rA, rB, rC, rD, rE, rF])
  refine wpAnyG_one 3 (by kernel_rfl) rfl (fun K hK => ?_)
  rw [if_pos (by rfl)]
  refine wp_putB (cells := #[.bool true, .int .i64 0, .int .u32 xc]) _ _ _ rfl rfl rfl r5 (by rfl) (by rfl) (by rfl) ?_
  intro w9 qn hg
  replace b0 := b0.grown hg (by omega)
  (try replace qh := qh.grown hg (by omega))
  (try replace r4 := r4.grown hg (by omega))
  (try replace qf := qf.grown hg n56.symm)
  (try replace qx := qx.grown hg n57.symm)
  (try replace mm := mm.grownB r5 (by decide) hg)
  (try replace mp := MineP.grownB mp r5 (by decide) hg)
  clear hg r5
  have r5 := qn
  clear qn
  refine hK.out _ _ (fun _ => qx) ?_
  clear hK K
  (try simp only [Act.put, rA, rB, rC, rD, rE, rF])
  refine wpAnyG_done (by kernel_rfl) ?_ _
  go_wp2
  exact res2cc rfl rfl rfl rfl r4 Try.underlying30 rfl (by rfl) r5 Try.underlying34 rfl (by rfl) ⟨_, _, _, _, _, _, rfl, Mine.nil _ _, MineP.nil _ _, b0.out⟩
set_option maxRecDepth 100000 in
set_option maxHeartbeats 4000000 in
theorem rParse3 (L kd fl st : Int) (A : Option Addr) (n c : Nat) (l : List Int) (w : World) (h : Byt w A n c l) (hn : n ≤ 100000) (hst0 : -9223372036854775808 ≤ st) (hst1 : st ≤ 9223372036854775807) (f0l : 0 ≤ fl) (f1l : fl ≤ 255) (h1 : okH 0 st = true) (ha : aheadS kd fl st n = ⟨false, st, 6⟩) : Calls Try.prog 11 #[.agg #[.int .i64 L, .int .u8 kd, .int .u8 fl, .int .i64 st], .slice A n c] w (ParP (fm0 kd fl st, ⟨false, st, 6⟩) w) := by
  have HR := Lib.hid fun w => rHRight 0 kd fl st w (by decide) (by decide) hst0 hst1
  rw [h1] at HR
  have H0 := Lib.hid h
  have hl := h.len
  have HAh := Lib.hid fun w => rAhead 0 kd fl st n w f0l f1l (by omega)
  rw [ha] at HAh
  clear h hst0 hst1 h1 ha f0l f1l
  have qh := ((Blk.new w 23 #[.int .i64 L, .int .u8 kd, .int .u8 fl, .int .i64 st]).alloc (.cells #[.int .u8 0, .int .u8 0, .int .i64 0, .slice none 0 0, .int .i64 0, .int .i64 0, .int .i64 0, .int .u32 0, .slice none 0 0, .bool false, .bool false, .int .i64 0, .int .u8 0] 30)).alloc (.cells #[.bool false, .int .i64 0, .int .u32 0] 34)
  have r4 := (Blk.new (w.alloc (.cells #[.int .i64 L, .int .u8 kd, .int .u8 fl, .int .i64 st] 23)) 30 #[.int .u8 0, .int .u8 0, .int .i64 0, .slice none 0 0, .int .i64 0, .int .i64 0, .int .i64 0, .int .u32 0, .slice none 0 0, .bool false, .bool false, .int .i64 0, .int .u8 0]).alloc (.cells #[.bool false, .int .i64 0, .int .u32 0] 34)
  have r5 := Blk.new ((w.alloc (.cells #[.int .i64 L, .int .u8 kd, .int .u8 fl, .int .i64 st] 23)).alloc (.cells #[.int .u8 0, .int .u8 0, .int .i64 0, .slice none 0 0, .int .i64 0, .int .i64 0, .int .i64 0, .int .u32 0, .slice none 0 0, .bool false, .bool false, .int .i64 0, .int .u8 0] 30)) 34 #[.bool false, .int .i64 0, .int .u32 0]
  have b0 := (((Bel.refl w).alloc (.cells #[.int .i64 L, .int .u8 kd, .int .u8 fl, .int .i64 st] 23)).alloc (.cells #[.int .u8 0, .int .u8 0, .int .i64 0, .slice none 0 0, .int .i64 0, .int .i64 0, .int .i64 0, .int .u32 0, .slice none 0 0, .bool false, .bool false, .int .i64 0, .int .u8 0] 30)).alloc (.cells #[.bool false, .int .i64 0, .int .u32 0] 34)
  simp only [World.size_alloc] at r4 r5
  have y1 := qh.at 1 rfl; have y2 := qh.at 2 rfl; have y3 := qh.at 3 rfl
  go_enter Try.func11, Try.ntmps11
  go_upto_region 4 with (first | ((with_reducible refine wpList_id ?_); refine wpList_putF (v := .int .i64 0) rfl _ _ _ rfl rfl rfl qh rfl (by rfl) (by rfl) ?_; intro w9 qn hg; simp only [rD, rF, rE] at qn; replace b0 := b0.grown hg (Nat.le_refl _); (try replace r4 := r4.grown hg (by omega)); (try replace r5 := r5.grown hg (by omega)); (try replace qf := qf.grown hg nh6.symm); (try replace qx := qx.grown hg nh7.symm); (try replace mm := mm.grownB qh (by decide) hg); (try replace mp := MineP.grownB mp qh (by decide) hg); clear hg qh; have qh := qn; clear qn; (try clear y1 y2 y3); have y1 := qh.at 1 rfl; have y2 := qh.at 2 rfl; have y3 := qh.at 3 rfl; (try clear x0); (try have x0 := qx.at 0 rfl)) | ((with_reducible refine wpList_id ?_); refine wpList_getG (by rfl) _ _ rfl rfl qh Try.underlying23 rfl (by rfl) ?_) | (go_at_call 25; (with_reducible refine (HR.out _).mono ?_); rintro e w1 ⟨rfl, hb⟩; replace b0 := b0.below hb; (try replace qh := qh.below hb); (try replace r4 := r4.below hb); (try replace r5 := r5.below hb); (try replace qf := qf.below hb); (try replace qx := qx.below hb); (try replace mm := mm.below hb); (try replace mp := mp.below hb); clear hb; (try clear y1 y2 y3); have y1 := qh.at 1 rfl; have y2 := qh.at 2 rfl; have y3 := qh.at 3 rfl; (try clear x0); (try have x0 := qx.at 0 rfl); have n46 : w.heap.size + 1 ≠ w1.heap.size := Nat.ne_of_lt r4.lt; have n56 : w.heap.size + 1 + 1 ≠ w1.heap.size := Nat.ne_of_lt r5.lt; have nh6 : w.heap.size ≠ w1.heap.size := Nat.ne_of_lt qh.lt; have h6 : w.heap.size ≤ w1.heap.size := b0.out.size; have qf := Blk.new w1 30 #[.int .u8 0, .int .u8 0, .int .i64 0, .slice none 0 0, .int .i64 0, .int .i64 0, .int .i64 0, .int .u32 0, .slice none 0 0, .bool false, .bool false, .int .i64 0, .int .u8 0]; replace b0 := b0.alloc (.cells #[.int .u8 0, .int .u8 0, .int .i64 0, .slice none 0 0, .int .i64 0, .int .i64 0, .int .i64 0, .int .u32 0, .slice none 0 0, .bool false, .bool false, .int .i64 0, .int .u8 0] 30); replace qh := qh.alloc (.cells #[.int .u8 0, .int .u8 0, .int .i64 0, .slice none 0 0, .int .i64 0, .int .i64 0, .int .i64 0, .int .u32 0, .slice none 0 0, .bool false, .bool false, .int .i64 0, .int .u8 0] 30); replace r4 := r4.alloc (.cells #[.int .u8 0, .int .u8 0, .int .i64 0, .slice none 0 0, .int .i64 0, .int .i64 0, .int .i64 0, .int .u32 0, .slice none 0 0, .bool false, .bool false, .int .i64 0, .int .u8 0] 30); replace r5 := r5.alloc (.cells #[.int .u8 0, .int .u8 0, .int .i64 0, .slice none 0 0, .int .i64 0, .int .i64 0, .int .i64 0, .int .u32 0, .slice none 0 0, .bool false, .bool false, .int .i64 0, .int .u8 0] 30)))
  go_upto_region 5 with (first | ((with_reducible refine wpList_id ?_); refine wpList_putB rfl _ _ _ rfl rfl rfl qf (by rfl) (by rfl) (by rfl) ?_; intro w9 qn hg; replace b0 := b0.grown hg h6; (try replace qh := qh.grown hg nh6); (try replace r4 := r4.grown hg n46); (try replace r5 := r5.grown hg n56); (try replace qx := qx.grown hg n67.symm); (try replace mm := mm.grownB qf (by decide) hg); (try replace mp := MineP.grownB mp qf (by decide) hg); clear hg qf; have qf := qn; clear qn; (try clear y1 y2 y3); have y1 := qh.at 1 rfl; have y2 := qh.at 2 rfl; have y3 := qh.at 3 rfl; (try clear x0); (try have x0 := qx.at 0 rfl)))
  go_upto_region 6 with (first | ((with_reducible refine wpList_id ?_); refine wpList_getG (by rfl) _ _ rfl rfl qh Try.underlying23 rfl (by rfl) ?_) | (go_at_call 32; (with_reducible refine (HAh.out _).mono ?_); rintro e w2 ⟨rfl, hb⟩; replace b0 := b0.below hb; (try replace qh := qh.below hb); (try replace r4 := r4.below hb); (try replace r5 := r5.below hb); (try replace qf := qf.below hb); (try replace qx := qx.below hb); (try replace mm := mm.below hb); (try replace mp := mp.below hb); clear hb; (try clear y1 y2 y3); have y1 := qh.at 1 rfl; have y2 := qh.at 2 rfl; have y3 := qh.at 3 rfl; (try clear x0); (try have x0 := qx.at 0 rfl); have n47 : w.heap.size + 1 ≠ w2.heap.size := Nat.ne_of_lt r4.lt; have n57 : w.heap.size + 1 + 1 ≠ w2.heap.size := Nat.ne_of_lt r5.lt; have nh7 : w.heap.size ≠ w2.heap.size := Nat.ne_of_lt qh.lt; have n67 : w1.heap.size ≠ w2.heap.size := Nat.ne_of_lt qf.lt; have h7 : w.heap.size ≤ w2.heap.size := b0.out.size; have qx := Blk.new w2 34 #[.bool false, .int .i64 0, .int .u32 0]; replace b0 := b0.alloc (.cells #[.bool false, .int .i64 0, .int .u32 0] 34); replace qh := qh.alloc (.cells #[.bool false, .int .i64 0, .int .u32 0] 34); replace r4 := r4.alloc (.cells #[.bool false, .int .i64 0, .int .u32 0] 34); replace r5 := r5.alloc (.cells #[.bool false, .int .i64 0, .int .u32 0] 34); replace qf := qf.alloc (.cells #[.bool false, .int .i64 0, .int .u32 0] 34)) | ((with_reducible refine wpList_id ?_); refine wpList_putB rfl _ _ _ rfl rfl rfl qx (by rfl) (by rfl) (by rfl) ?_; intro w9 qn hg; replace b0 := b0.grown hg h7; (try replace qh := qh.grown hg nh7); (try replace r4 := r4.grown hg n47); (try replace r5 := r5.grown hg n57); (try replace qf := qf.grown hg n67); (try replace mm := mm.grownB qx (by decide) hg); (try replace mp := MineP.grownB mp qx (by decide) hg); clear hg qx; have qx := qn; clear qn; (try clear y1 y2 y3); have y1 := qh.at 1 rfl; have y2 := qh.at 2 rfl; have y3 := qh.at 3 rfl; (try clear x0); (try have x0 := qx.at 0 rfl)))
  have x0 := qx.at 0 rfl
  go_wp2_with fail
  replace b0 := b0.drew
  (try replace qh := qh.drew)
  (try replace r4 := r4.drew)
  (try replace r5 := r5.drew)
  (try replace qf := qf.drew)
  (try replace qx := qx.drew)
  (try replace mm := mm.drew)
  (try replace mp := mp.drew)
  refine wp_region_G (fun w' => Blk w' w2.heap.size 34 #[.bool false, .int .i64 st, .int .u32 6]) [] (by kernel_rfl) ?_
  have S0 := qx
  refine wpAnyG_take 0 (v := .agg #[.bool false, .int .i64 st, .int .u32 6]) rfl (by kernel_rfl) (fun _ _ _ h => h) S0 (Or.inl ⟨by rfl, by intro w' hSw; exact exec_getB (by rfl) (by rfl) hSw Try.underlying34 rfl (by rfl)⟩) ?_; (try simp only [Act.put, rA, rB, rC, rD, rE, rF])
  clear S0
  refine wpAnyG_one 1 (by kernel_rfl) rfl (fun K hK => ?_)
  rw [if_pos (by rfl)]
  go_simp
  (go_at_call 33; (with_reducible refine (rFine _).mono ?_); rintro e w9 ⟨rfl, hb⟩)
  replace b0 := b0.below hb
  (try replace qh := qh.below hb)
  (try replace r4 := r4.below hb)
  (try replace r5 := r5.below hb)
  (try replace qf := qf.below hb)
  (try replace qx := qx.below hb)
  (try replace mm := mm.below hb)
  (try replace mp := mp.below hb)
  clear hb
  (try clear y1 y2 y3)
  have y1 := qh.at 1 rfl
  have y2 := qh.at 2 rfl
  have y3 := qh.at 3 rfl
  (try clear x0)
  (try have x0 := qx.at 0 rfl)
  (try go_simp)
  refine hK.out _ _ (fun _ => qx) ?_
  clear hK K
  (try simp only [Act.put, rA, rB, rC, rD, rE, rF])
  have S0 := qx
  refine wpAnyG_take 2 (v := ?_) rfl (by kernel_rfl) (fun _ _ _ h => h) S0 (Or.inl ⟨by rfl, by intro w' hSw; go_simp; try with_reducible rfl⟩) ?_; (try simp only [Act.put, rA, rB, rC, rD, rE, rF])
  clear S0
  refine wpAnyG_done (by kernel_rfl) ?_ _
  go_wp2_with fail
  replace b0 := b0.drew
  (try replace qh := qh.drew)
  (try replace r4 := r4.drew)
  (try replace r5 := r5.drew)
  (try replace qf := qf.drew)
  (try replace qx := qx.drew)
  (try replace mm := mm.drew)
  (try replace mp := mp.drew)
  refine wp_region_G (fun w' => Blk w' w1.heap.size 30 #[.int .u8 kd, .int .u8 fl, .int .i64 st, .slice none 0 0, .int .i64 0, .int .i64 0, .int .i64 0, .int .u32 0, .slice none 0 0, .bool false, .bool false, .int .i64 0, .int .u8 0] ∧ Blk w' w2.heap.size 34 #[.bool false, .int .i64 st, .int .u32 6]) [] (by kernel_rfl) ?_
  have S0 := And.intro qf qx
  refine wpAnyG_take 0 (v := .agg #[.int .u8 kd, .int .u8 fl, .int .i64 st, .slice none 0 0, .int .i64 0, .int .i64 0, .int .i64 0, .int .u32 0, .slice none 0 0, .bool false, .bool false, .int .i64 0, .int .u8 0]) rfl (by kernel_rfl) (fun _ _ _ h => h) S0 (Or.inl ⟨by rfl, by intro w' hSw; exact exec_getB (by rfl) (by rfl) hSw.1 Try.underlying30 rfl (by rfl)⟩) ?_; (try simp only [Act.put, rA, rB, rC, rD, rE, rF])
  refine wpAnyG_take 1 (v := .agg #[.bool false, .int .i64 st, .int .u32 6]) rfl (by kernel_rfl) (fun _ _ _ h => h) S0 (Or.inl ⟨by rfl, by intro w' hSw; exact exec_getB (by rfl) (by rfl) hSw.2 Try.underlying34 rfl (by rfl)⟩) ?_; (try simp only [Act.put, rA, rB, rC, rD, rE, rF])
  clear S0
  refine wpAnyG_one 2 (by kernel_rfl) rfl (fun K hK => ?_)
  rw [if_pos (by rfl)]
  refine wp_putB (cells := #[.int .u8 kd, .int .u8 fl, .int .i64 st, .slice none 0 0, .int .i64 0, .int .i64 0, .int .i64 0, .int .u32 0, .slice none 0 0, .bool false, .bool false, .int .i64 0, .int .u8 0]) _ _ _ rfl rfl rfl r4 (by rfl) (by rfl) (by rfl) ?_
  intro w9 qn hg
  replace b0 := b0.grown hg (by omega)
  (try replace qh := qh.grown hg (by omega))
  (try replace r5 := r5.grown hg (by omega))
  (try replace qf := qf.grown hg n46.symm)
  (try replace qx := qx.grown hg n47.symm)
  (try replace mm := mm.grownB r4 (by decide) hg)
  (try replace mp := MineP.grownB mp r4 (by decide) hg)
  clear hg r4
  have r4 := qn
  clear qn
  refine hK.out _ _ (fun _ => And.intro qf qx) ?_
  clear hK K
  (try simp only [Act.put, rA, rB, rC, rD, rE, rF])
  refine wpAnyG_one 3 (by kernel_rfl) rfl (fun K hK => ?_)
  rw [if_pos (by rfl)]
  refine wp_putB (cells := #[.bool false, .int .i64 st, .int .u32 6]) _ _ _ rfl rfl rfl r5 (by rfl) (by rfl) (by rfl) ?_
  intro w9 qn hg
  replace b0 := b0.grown hg (by omega)
  (try replace qh := qh.grown hg (by omega))
  (try replace r4 := r4.grown hg (by omega))
  (try replace qf := qf.grown hg n56.symm)
  (try replace qx := qx.grown hg n57.symm)
  (try replace mm := mm.grownB r5 (by decide) hg)
  (try replace mp := MineP.grownB mp r5 (by decide) hg)
  clear hg r5
  have r5 := qn
  clear qn
  refine hK.out _ _ (fun _ => And.intro qf qx) ?_
  clear hK K
  (try simp only [Act.put, rA, rB, rC, rD, rE, rF])
  refine wpAnyG_done (by kernel_rfl) ?_ _
  go_wp2
  exact res2cc rfl rfl rfl rfl r4 Try.underlying30 rfl (by rfl) r5 Try.underlying34 rfl (by rfl) ⟨_, _, _, _, _, _, rfl, Mine.nil _ _, MineP.nil _ _, b0.out⟩
set_option maxRecDepth 100000 in
set_option maxHeartbeats 4000000 in
theorem rParse4 (L kd fl st : Int) (A : Option Addr) (n c : Nat) (l : List Int) (w : World) (h : Byt w A n c l) (hn : n ≤ 100000) (hst0 : -9223372036854775808 ≤ st) (hst1 : st ≤ 9223372036854775807) (f0l : 0 ≤ fl) (f1l : fl ≤ 255) (h1 : okH 0 st = true) (ha : aheadS kd fl st n = ⟨false, 0, 0⟩) (hlo : longOk kd fl n = true) (hrd : readS kd fl st l = none) : Calls Try.prog 11 #[.agg #[.int .i64 L, .int .u8 kd, .int .u8 fl, .int .i64 st], .slice A n c] w (ParP (Fm0, ⟨true, 0, 1⟩) w) := by
  have HR := Lib.hid fun w => rHRight 0 kd fl st w (by decide) (by decide) hst0 hst1
  rw [h1] at HR
  have H0 := Lib.hid h
  have hl := h.len
  have HAh := Lib.hid fun w => rAhead 0 kd fl st n w f0l f1l (by omega)
  rw [ha] at HAh
  have HI := Lib.hid fun w h => rInner kd fl st A n c l w h hn f0l f1l hlo
  rw [hrd] at HI
  clear h hst0 hst1 h1 ha hlo hrd f0l f1l
  have qh := ((Blk.new w 23 #[.int .i64 L, .int .u8 kd, .int .u8 fl, .int .i64 st]).alloc (.cells #[.int .u8 0, .int .u8 0, .int .i64 0, .slice none 0 0, .int .i64 0, .int .i64 0, .int .i64 0, .int .u32 0, .slice none 0 0, .bool false, .bool false, .int .i64 0, .int .u8 0] 30)).alloc (.cells #[.bool false, .int .i64 0, .int .u32 0] 34)
  have r4 := (Blk.new (w.alloc (.cells #[.int .i64 L, .int .u8 kd, .int .u8 fl, .int .i64 st] 23)) 30 #[.int .u8 0, .int .u8 0, .int .i64 0, .slice none 0 0, .int .i64 0, .int .i64 0, .int .i64 0, .int .u32 0, .slice none 0 0, .bool false, .bool false, .int .i64 0, .int .u8 0]).alloc (.cells #[.bool false, .int .i64 0, .int .u32 0] 34)
  have r5 := Blk.new ((w.alloc (.cells #[.int .i64 L, .int .u8 kd, .int .u8 fl, .int .i64 st] 23)).alloc (.cells #[.int .u8 0, .int .u8 0, .int .i64 0, .slice none 0 0, .int .i64 0, .int .i64 0, .int .i64 0, .int .u32 0, .slice none 0 0, .bool false, .bool false, .int .i64 0, .int .u8 0] 30)) 34 #[.bool false, .int .i64 0, .int .u32 0]
  have b0 := (((Bel.refl w).alloc (.cells #[.int .i64 L, .int .u8 kd, .int .u8 fl, .int .i64 st] 23)).alloc (.cells #[.int .u8 0, .int .u8 0, .int .i64 0, .slice none 0 0, .int .i64 0, .int .i64 0, .int .i64 0, .int .u32 0, .slice none 0 0, .bool false, .bool false, .int .i64 0, .int .u8 0] 30)).alloc (.cells #[.bool false, .int .i64 0, .int .u32 0] 34)
  simp only [World.size_alloc] at r4 r5
  have y1 := qh.at 1 rfl; have y2 := qh.at 2 rfl; have y3 := qh.at 3 rfl
  go_enter Try.func11, Try.ntmps11
  go_upto_region 4 with (first | ((with_reducible refine wpList_id ?_); refine wpList_putF (v := .int .i64 0) rfl _ _ _ rfl rfl rfl qh rfl (by rfl) (by rfl) ?_; intro w9 qn hg; simp only [rD, rF, rE] at qn; replace b0 := b0.grown hg (Nat.le_refl _); (try replace r4 := r4.grown hg (by omega)); (try replace r5 := r5.grown hg (by omega)); (try replace qf := qf.grown hg nh6.symm); (try replace qx := qx.grown hg nh7.symm); (try replace mm := mm.grownB qh (by decide) hg); (try replace mp := MineP.grownB mp qh (by decide) hg); clear hg qh; have qh := qn; clear qn; (try clear y1 y2 y3); have y1 := qh.at 1 rfl; have y2 := qh.at 2 rfl; have y3 := qh.at 3 rfl; (try clear x0); (try have x0 := qx.at 0 rfl)) | ((with_reducible refine wpList_id ?_); refine wpList_getG (by rfl) _ _ rfl rfl qh Try.underlying23 rfl (by rfl) ?_) | (go_at_call 25; (with_reducible refine (HR.out _).mono ?_); rintro e w1 ⟨rfl, hb⟩; replace b0 := b0.below hb; (try replace qh := qh.below hb); (try replace r4 := r4.below hb); (try replace r5 := r5.below hb); (try replace qf := qf.below hb); (try replace qx := qx.below hb); (try replace mm := mm.below hb); (try replace mp := mp.below hb); clear hb; (try clear y1 y2 y3); have y1 := qh.at 1 rfl; have y2 := qh.at 2 rfl; have y3 := qh.at 3 rfl; (try clear x0); (try have x0 := qx.at 0 rfl); have n46 : w.heap.size + 1 ≠ w1.heap.size := Nat.ne_of_lt r4.lt; have n56 : w.heap.size + 1 + 1 ≠ w1.heap.size := Nat.ne_of_lt r5.lt; have nh6 : w.heap.size ≠ w1.heap.size := Nat.ne_of_lt qh.lt; have h6 : w.heap.size ≤ w1.heap.size := b0.out.size; have qf := Blk.new w1 30 #[.int .u8 0, .int .u8 0, .int .i64 0, .slice none 0 0, .int .i64 0, .int .i64 0, .int .i64 0, .int .u32 0, .slice none 0 0, .bool false, .bool false, .int .i64 0, .int .u8 0]; replace b0 := b0.alloc (.cells #[.int .u8 0, .int .u8 0, .int .i64 0, .slice none 0 0, .int .i64 0, .int .i64 0, .int .i64 0, .int .u32 0, .slice none 0 0, .bool false, .bool false, .int .i64 0, .int .u8 0] 30); replace qh := qh.alloc (.cells #[.int .u8 0, .int .u8 0, .int .i64 0, .slice none 0 0, .int .i64 0, .int .i64 0, .int .i64 0, .int .u32 0, .slice none 0 0, .bool false, .bool false, .int .i64 0, .int .u8 0] 30); replace r4 := r4.alloc (.cells #[.int .u8 0, .int .u8 0, .int .i64 0, .slice none 0 0, .int .i64 0, .int .i64 0, .int .i64 0, .int .u32 0, .slice none 0 0, .bool false, .bool false, .int .i64 0, .int .u8 0] 30); replace r5 := r5.alloc (.cells #[.int .u8 0, .int .u8 0, .int .i64 0, .slice none 0 0, .int .i64 0, .int .i64 0, .int .i64 0, .int .u32 0, .slice none 0 0, .bool false, .bool false, .int .i64 0, .int .u8 0] 30)))
  go_upto_region 5 with (first | ((with_reducible refine wpList_id ?_); refine wpList_putB rfl _ _ _ rfl rfl rfl qf (by rfl) (by rfl) (by rfl) ?_; intro w9 qn hg; replace b0 := b0.grown hg h6; (try replace qh := qh.grown hg nh6); (try replace r4 := r4.grown hg n46); (try replace r5 := r5.grown hg n56); (try replace qx := qx.grown hg n67.symm); (try replace mm := mm.grownB qf (by decide) hg); (try replace mp := MineP.grownB mp qf (by decide) hg); clear hg qf; have qf := qn; clear qn; (try clear y1 y2 y3); have y1 := qh.at 1 rfl; have y2 := qh.at 2 rfl; have y3 := qh.at 3 rfl; (try clear x0); (try have x0 := qx.at 0 rfl)))
  go_upto_region 6 with (first | ((with_reducible refine wpList_id ?_); refine wpList_getG (by rfl) _ _ rfl rfl qh Try.underlying23 rfl (by rfl) ?_) | (go_at_call 32; (with_reducible refine (HAh.out _).mono ?_); rintro e w2 ⟨rfl, hb⟩; replace b0 := b0.below hb; (try replace qh := qh.below hb); (try replace r4 := r4.below hb); (try replace r5 := r5.below hb); (try replace qf := qf.below hb); (try replace qx := qx.below hb); (try replace mm := mm.below hb); (try replace mp := mp.below hb); clear hb; (try clear y1 y2 y3); have y1 := qh.at 1 rfl; have y2 := qh.at 2 rfl; have y3 := qh.at 3 rfl; (try clear x0); (try have x0 := qx.at 0 rfl); have n47 : w.heap.size + 1 ≠ w2.heap.size := Nat.ne_of_lt r4.lt; have n57 : w.heap.size + 1 + 1 ≠ w2.heap.size := Nat.ne_of_lt r5.lt; have nh7 : w.heap.size ≠ w2.heap.size := Nat.ne_of_lt qh.lt; have n67 : w1.heap.size ≠ w2.heap.size := Nat.ne_of_lt qf.lt; have h7 : w.heap.size ≤ w2.heap.size := b0.out.size; have qx := Blk.new w2 34 #[.bool false, .int .i64 0, .int .u32 0]; replace b0 := b0.alloc (.cells #[.bool false, .int .i64 0, .int .u32 0] 34); replace qh := qh.alloc (.cells #[.bool false, .int .i64 0, .int .u32 0] 34); replace r4 := r4.alloc (.cells #[.bool false, .int .i64 0, .int .u32 0] 34); replace r5 := r5.alloc (.cells #[.bool false, .int .i64 0, .int .u32 0] 34); replace qf := qf.alloc (.cells #[.bool false, .int .i64 0, .int .u32 0] 34)) | ((with_reducible refine wpList_id ?_); refine wpList_putB rfl _ _ _ rfl rfl rfl qx (by rfl) (by rfl) (by rfl) ?_; intro w9 qn hg; replace b0 := b0.grown hg h7; (try replace qh := qh.grown hg nh7); (try replace r4 := r4.grown hg n47); (try replace r5 := r5.grown hg n57); (try replace qf := qf.grown hg n67); (try replace mm := mm.grownB qx (by decide) hg); (try replace mp := MineP.grownB mp qx (by decide) hg); clear hg qx; have qx := qn; clear qn; (try clear y1 y2 y3); have y1 := qh.at 1 rfl; have y2 := qh.at 2 rfl; have y3 := qh.at 3 rfl; (try clear x0); (try have x0 := qx.at 0 rfl)))
  have x0 := qx.at 0 rfl
  go_wp2_with fail
  replace b0 := b0.drew
  (try replace qh := qh.drew)
  (try replace r4 := r4.drew)
  (try replace r5 := r5.drew)
  (try replace qf := qf.drew)
  (try replace qx := qx.drew)
  (try replace mm := mm.drew)
  (try replace mp := mp.drew)
  refine wp_region_G (fun w' => Blk w' w2.heap.size 34 #[.bool false, .int .i64 0, .int .u32 0]) [] (by kernel_rfl) ?_
  have S0 := qx
  refine wpAnyG_take 0 (v := .agg #[.bool false, .int .i64 0, .int .u32 0]) rfl (by kernel_rfl) (fun _ _ _ h => h) S0 (Or.inl ⟨by rfl, by intro w' hSw; exact exec_getB (by rfl) (by rfl) hSw Try.underlying34 rfl (by rfl)⟩) ?_; (try simp only [Act.put, rA, rB, rC, rD, rE, rF])
  clear S0
  refine wpAnyG_one 1 (by kernel_rfl) rfl (fun K hK => ?_)
  rw [if_pos (by rfl)]
  go_simp
  (go_at_call 33; (with_reducible refine (rFine _).mono ?_); rintro e w9 ⟨rfl, hb⟩)
  replace b0 := b0.below hb
  (try replace qh := qh.below hb)
  (try replace r4 := r4.below hb)
  (try replace r5 := r5.below hb)
  (try replace qf := qf.below hb)
  (try replace qx := qx.below hb)
  (try replace mm := mm.below hb)
  (try replace mp := mp.below hb)
  clear hb
  (try clear y1 y2 y3)
  have y1 := qh.at 1 rfl
  have y2 := qh.at 2 rfl
  have y3 := qh.at 3 rfl
  (try clear x0)
  (try have x0 := qx.at 0 rfl)
  (try go_simp)
  refine hK.out _ _ (fun _ => qx) ?_
  clear hK K
  (try simp only [Act.put, rA, rB, rC, rD, rE, rF])
  have S0 := qx
  refine wpAnyG_take 2 (v := ?_) rfl (by kernel_rfl) (fun _ _ _ h => h) S0 (Or.inl ⟨by rfl, by intro w' hSw; go_simp; try with_reducible rfl⟩) ?_; (try simp only [Act.put, rA, rB, rC, rD, rE, rF])
  clear S0
  refine wpAnyG_done (by kernel_rfl) ?_ _
  go_upto_region 11 with (first | ((with_reducible refine wpList_id ?_); refine wpList_getG (by rfl) _ _ rfl rfl qf Try.underlying30 rfl (by rfl) ?_) | ((with_reducible refine wpList_id ?_); refine wpList_getG (by rfl) _ _ rfl rfl qh Try.underlying23 rfl (by rfl) ?_) | (go_at_call 34; have hz := b0.out.size; (with_reducible refine (HI.out _ (H0.out.below b0.out)).mono ?_); rintro e w9 ⟨f1, ok, B, m, d, P, pn, pc, rfl, m1h, mph, hb, rfl, hp0⟩; have mm := m1h.base_le hz; have mp := mph.base_le hz; clear m1h mph hz; replace b0 := b0.below hb; (try replace qh := qh.below hb); (try replace r4 := r4.below hb); (try replace r5 := r5.below hb); (try replace qf := qf.below hb); (try replace qx := qx.below hb); skip; clear hb; (try clear y1 y2 y3); have y1 := qh.at 1 rfl; have y2 := qh.at 2 rfl; have y3 := qh.at 3 rfl; (try clear x0); (try have x0 := qx.at 0 rfl)) | ((with_reducible refine wpList_id ?_); refine wpList_putB rfl _ _ _ rfl rfl rfl qf (by rfl) (by rfl) (by rfl) ?_; intro w9 qn hg; replace b0 := b0.grown hg h6; (try replace qh := qh.grown hg nh6); (try replace r4 := r4.grown hg n46); (try replace r5 := r5.grown hg n56); (try replace qx := qx.grown hg n67.symm); (try replace mm := mm.grownB qf (by decide) hg); (try replace mp := MineP.grownB mp qf (by decide) hg); clear hg qf; have qf := qn; clear qn; (try clear y1 y2 y3); have y1 := qh.at 1 rfl; have y2 := qh.at 2 rfl; have y3 := qh.at 3 rfl; (try clear x0); (try have x0 := qx.at 0 rfl)))
  go_upto_region 12 with (first | ((with_reducible refine wpList_id ?_); refine wpList_getG (by rfl) _ _ rfl rfl qf Try.underlying30 rfl (by rfl) ?_) | (go_at_call 35; (with_reducible refine (rValues f1 _ _ _ _ _ _ _ mp.prs (by have := mp.len; rw [hp0] at this; simp at this; omega)).mono ?_); rintro e w9 ⟨rfl, hb⟩; replace b0 := b0.below hb; (try replace qh := qh.below hb); (try replace r4 := r4.below hb); (try replace r5 := r5.below hb); (try replace qf := qf.below hb); (try replace qx := qx.below hb); (try replace mm := mm.below hb); (try replace mp := mp.below hb); clear hb; (try clear y1 y2 y3); have y1 := qh.at 1 rfl; have y2 := qh.at 2 rfl; have y3 := qh.at 3 rfl; (try clear x0); (try have x0 := qx.at 0 rfl)) | ((with_reducible refine wpList_id ?_); refine wpList_putB rfl _ _ _ rfl rfl rfl qx (by rfl) (by rfl) (by rfl) ?_; intro w9 qn hg; replace b0 := b0.grown hg h7; (try replace qh := qh.grown hg nh7); (try replace r4 := r4.grown hg n47); (try replace r5 := r5.grown hg n57); (try replace qf := qf.grown hg n67); (try replace mm := mm.grownB qx (by decide) hg); (try replace mp := MineP.grownB mp qx (by decide) hg); clear hg qx; have qx := qn; clear qn; (try clear y1 y2 y3); have y1 := qh.at 1 rfl; have y2 := qh.at 2 rfl; have y3 := qh.at 3 rfl; (try clear x0); (try have x0 := qx.at 0 rfl)))
  go_wp2_with (first | (go_at_call 21; (with_reducible refine (rWholeF _ _).mono ?_); rintro e w9 ⟨rfl, hb⟩; replace b0 := b0.below hb; (try replace qh := qh.below hb); (try replace r4 := r4.below hb); (try replace r5 := r5.below hb); (try replace qf := qf.below hb); (try replace qx := qx.below hb); (try replace mm := mm.below hb); (try replace mp := mp.below hb); clear hb; (try clear y1 y2 y3); have y1 := qh.at 1 rfl; have y2 := qh.at 2 rfl; have y3 := qh.at 3 rfl; (try clear x0); (try have x0 := qx.at 0 rfl)) | ((with_reducible refine wpList_id ?_); refine wpList_putB rfl _ _ _ rfl rfl rfl qx (by rfl) (by rfl) (by rfl) ?_; intro w9 qn hg; replace b0 := b0.grown hg h7; (try replace qh := qh.grown hg nh7); (try replace r4 := r4.grown hg n47); (try replace r5 := r5.grown hg n57); (try replace qf := qf.grown hg n67); (try replace mm := mm.grownB qx (by decide) hg); (try replace mp := MineP.grownB mp qx (by decide) hg); clear hg qx; have qx := qn; clear qn; (try clear y1 y2 y3); have y1 := qh.at 1 rfl; have y2 := qh.at 2 rfl; have y3 := qh.at 3 rfl; (try clear x0); (try have x0 := qx.at 0 rfl)))
  replace b0 := b0.drew
  (try replace qh := qh.drew)
  (try replace r4 := r4.drew)
  (try replace r5 := r5.drew)
  (try replace qf := qf.drew)
  (try replace qx := qx.drew)
  (try replace mm := mm.drew)
  (try replace mp := mp.drew)
  refine wp_region_G (fun w' => Blk w' w2.heap.size 34 #[.bool true, .int .i64 0, .int .u32 1]) [] (by kernel_rfl) ?_
  have S0 := qx
  refine wpAnyG_take 0 (v := ?_) rfl (by kernel_rfl) (fun _ _ _ h => h) S0 (Or.inl ⟨by rfl, by intro w' hSw; go_simp; try with_reducible rfl⟩) ?_; (try simp only [Act.put, rA, rB, rC, rD, rE, rF])
  refine wpAnyG_take 1 (v := .agg #[.bool true, .int .i64 0, .int .u32 1]) rfl (by kernel_rfl) (fun _ _ _ h => h) S0 (Or.inl ⟨by rfl, by intro w' hSw; exact exec_getB (by rfl) (by rfl) hSw Try.underlying34 rfl (by rfl)⟩) ?_; (try simp only [Act.put, rA, rB, rC, rD, rE, rF])
  clear S0
  refine wpAnyG_one 2 (by kernel_rfl) rfl (fun K hK => ?_)
  rw [if_pos (by rfl)]
  refine wp_putB (cells := #[.int .u8 0, .int .u8 0, .int .i64 0, .slice none 0 0, .int .i64 0, .int .i64 0, .int .i64 0, .int .u32 0, .slice none 0 0, .bool false, .bool false, .int .i64 0, .int .u8 0]) _ _ _ rfl rfl rfl r4 (by rfl) (by rfl) (by rfl) ?_
  intro w9 qn hg
  replace b0 := b0.grown hg (by omega)
  (try replace qh := qh.grown hg (by omega))
  (try replace r5 := r5.grown hg (by omega))
  (try replace qf := qf.grown hg n46.symm)
  (try replace qx := qx.grown hg n47.symm)
  (try replace mm := mm.grownB r4 (by decide) hg)
  (try replace mp := MineP.grownB mp r4 (by decide) hg)
  clear hg r4
  have r4 := qn
  clear qn
  refine hK.out _ _ (fun _ => qx) ?_
  clear hK K
  (try simp only [Act.put, rA, rB, rC, rD, rE, rF])
  refine wpAnyG_one 3 (by kernel_rfl) rfl (fun K hK => ?_)
  rw [if_pos (by rfl)]
  refine wp_putB (cells := #[.bool true, .int .i64 0, .int .u32 1]) _ _ _ rfl rfl rfl r5 (by rfl) (by rfl) (by rfl) ?_
  intro w9 qn hg
  replace b0 := b0.grown hg (by omega)
  (try replace qh := qh.grown hg (by omega))
  (try replace r4 := r4.grown hg (by omega))
  (try replace qf := qf.grown hg n56.symm)
  (try replace qx := qx.grown hg n57.symm)
  (try replace mm := mm.grownB r5 (by decide) hg)
  (try replace mp := MineP.grownB mp r5 (by decide) hg)
  clear hg r5
  have r5 := qn
  clear qn
  refine hK.out _ _ (fun _ => qx) ?_
  clear hK K
  (try simp only [Act.put, rA, rB, rC, rD, rE, rF])
  refine wpAnyG_done (by kernel_rfl) ?_ _
  go_wp2
  exact res2cc rfl rfl rfl rfl r4 Try.underlying30 rfl (by rfl) r5 Try.underlying34 rfl (by rfl) ⟨_, _, _, _, _, _, rfl, Mine.nil _ _, MineP.nil _ _, b0.out⟩
set_option maxRecDepth 100000 in
set_option maxHeartbeats 4000000 in
theorem rParse5 (L kd fl st : Int) (A : Option Addr) (n c : Nat) (l : List Int) (w : World) (h : Byt w A n c l) (hn : n ≤ 100000) (hst0 : -9223372036854775808 ≤ st) (hst1 : st ≤ 9223372036854775807) (f0l : 0 ≤ fl) (f1l : fl ≤ 255) (h1 : okH 0 st = true) (f0 : Fm) (xs xc : Int) (ha : aheadS kd fl st n = ⟨false, 0, 0⟩) (hlo : longOk kd fl n = true) (hrd : readS kd fl st l = some f0) (hv : valS f0 = ⟨true, xs, xc⟩) : Calls Try.prog 11 #[.agg #[.int .i64 L, .int .u8 kd, .int .u8 fl, .int .i64 st], .slice A n c] w (ParP (Fm0, ⟨true, xs, xc⟩) w) := by
  have HR := Lib.hid fun w => rHRight 0 kd fl st w (by decide) (by decide) hst0 hst1
  rw [h1] at HR
  have H0 := Lib.hid h
  have hl := h.len
  have HAh := Lib.hid fun w => rAhead 0 kd fl st n w f0l f1l (by omega)
  rw [ha] at HAh
  have HI := Lib.hid fun w h => rInner kd fl st A n c l w h hn f0l f1l hlo
  rw [hrd] at HI
  have hpl := Lib.hid (show f0.prs.length ≤ 100000 by have := (readS_prs hrd).1; omega)
  have HV := Lib.hid fun A n c P pn pc w hp hpn => rValues f0 A n c P pn pc w hp hpn
  rw [hv] at HV
  clear h hst0 hst1 h1 ha hlo hrd hv f0l f1l
  have qh := ((Blk.new w 23 #[.int .i64 L, .int .u8 kd, .int .u8 fl, .int .i64 st]).alloc (.cells #[.int .u8 0, .int .u8 0, .int .i64 0, .slice none 0 0, .int .i64 0, .int .i64 0, .int .i64 0, .int .u32 0, .slice none 0 0, .bool false, .bool false, .int .i64 0, .int .u8 0] 30)).alloc (.cells #[.bool false, .int .i64 0, .int .u32 0] 34)
  have r4 := (Blk.new (w.alloc (.cells #[.int .i64 L, .int .u8 kd, .int .u8 fl, .int .i64 st] 23)) 30 #[.int .u8 0, .int .u8 0, .int .i64 0, .slice none 0 0, .int .i64 0, .int .i64 0, .int .i64 0, .int .u32 0, .slice none 0 0, .bool false, .bool false, .int .i64 0, .int .u8 0]).alloc (.cells #[.bool false, .int .i64 0, .int .u32 0] 34)
  have r5 := Blk.new ((w.alloc (.cells #[.int .i64 L, .int .u8 kd, .int .u8 fl, .int .i64 st] 23)).alloc (.cells #[.int .u8 0, .int .u8 0, .int .i64 0, .slice none 0 0, .int .i64 0, .int .i64 0, .int .i64 0, .int .u32 0, .slice none 0 0, .bool false, .bool false, .int .i64 0, .int .u8 0] 30)) 34 #[.bool false, .int .i64 0, .int .u32 0]
  have b0 := (((Bel.refl w).alloc (.cells #[.int .i64 L, .int .u8 kd, .int .u8 fl, .int .i64 st] 23)).alloc (.cells #[.int .u8 0, .int .u8 0, .int .i64 0, .slice none 0 0, .int .i64 0, .int .i64 0, .int .i64 0, .int .u32 0, .slice none 0 0, .bool false, .bool false, .int .i64 0, .int .u8 0] 30)).alloc (.cells #[.bool false, .int .i64 0, .int .u32 0] 34)
  simp only [World.size_alloc] at r4 r5
  have y1 := qh.at 1 rfl; have y2 := qh.at 2 rfl; have y3 := qh.at 3 rfl
  go_enter Try.func11, Try.ntmps11
  go_upto_region 4 with (first | ((with_reducible refine wpList_id ?_); refine wpList_putF (v := .int .i64 0) rfl _ _ _ rfl rfl rfl qh rfl (by rfl) (by rfl) ?_; intro w9 qn hg; simp only [rD, rF, rE] at qn; replace b0 := b0.grown hg (Nat.le_refl _); (try replace r4 := r4.grown hg (by omega)); (try replace r5 := r5.grown hg (by omega)); (try replace qf := qf.grown hg nh6.symm); (try replace qx := qx.grown hg nh7.symm); (try replace mm := mm.grownB qh (by decide) hg); (try replace mp := MineP.grownB mp qh (by decide) hg); clear hg qh; have qh := qn; clear qn; (try clear y1 y2 y3); have y1 := qh.at 1 rfl; have y2 := qh.at 2 rfl; have y3 := qh.at 3 rfl; (try clear x0); (try have x0 := qx.at 0 rfl)) | ((with_reducible refine wpList_id ?_); refine wpList_getG (by rfl) _ _ rfl rfl qh Try.underlying23 rfl (by rfl) ?_) | (go_at_call 25; (with_reducible refine (HR.out _).mono ?_); rintro e w1 ⟨rfl, hb⟩; replace b0 := b0.below hb; (try replace qh := qh.below hb); (try replace r4 := r4.below hb); (try replace r5 := r5.below hb); (try replace qf := qf.below hb); (try replace qx := qx.below hb); (try replace mm := mm.below hb); (try replace mp := mp.below hb); clear hb; (try clear y1 y2 y3); have y1 := qh.at 1 rfl; have y2 := qh.at 2 rfl; have y3 := qh.at 3 rfl; (try clear x0); (try have x0 := qx.at 0 rfl); have n46 : w.heap.size + 1 ≠ w1.heap.size := Nat.ne_of_lt r4.lt; have n56 : w.heap.size + 1 + 1 ≠ w1.heap.size := Nat.ne_of_lt r5.lt; have nh6 : w.heap.size ≠ w1.heap.size := Nat.ne_of_lt qh.lt; have h6 : w.heap.size ≤ w1.heap.size := b0.out.size; have qf := Blk.new w1 30 #[.int .u8 0, .int .u8 0, .int .i64 0, .slice none 0 0, .int .i64 0, .int .i64 0, .int .i64 0, .int .u32 0, .slice none 0 0, .bool false, .bool false, .int .i64 0, .int .u8 0]; replace b0 := b0.alloc (.cells #[.int .u8 0, .int .u8 0, .int .i64 0, .slice none 0 0, .int .i64 0, .int .i64 0, .int .i64 0, .int .u32 0, .slice none 0 0, .bool false, .bool false, .int .i64 0, .int .u8 0] 30); replace qh := qh.alloc (.cells #[.int .u8 0, .int .u8 0, .int .i64 0, .slice none 0 0, .int .i64 0, .int .i64 0, .int .i64 0, .int .u32 0, .slice none 0 0, .bool false, .bool false, .int .i64 0, .int .u8 0] 30); replace r4 := r4.alloc (.cells #[.int .u8 0, .int .u8 0, .int .i64 0, .slice none 0 0, .int .i64 0, .int .i64 0, .int .i64 0, .int .u32 0, .slice none 0 0, .bool false, .bool false, .int .i64 0, .int .u8 0] 30); replace r5 := r5.alloc (.cells #[.int .u8 0, .int .u8 0, .int .i64 0, .slice none 0 0, .int .i64 0, .int .i64 0, .int .i64 0, .int .u32 0, .slice none 0 0, .bool false, .bool false, .int .i64 0, .int .u8 0] 30)))
  go_upto_region 5 with (first | ((with_reducible refine wpList_id ?_); refine wpList_putB rfl _ _ _ rfl rfl rfl qf (by rfl) (by rfl) (by rfl) ?_; intro w9 qn hg; replace b0 := b0.grown hg h6; (try replace qh := qh.grown hg nh6); (try replace r4 := r4.grown hg n46); (try replace r5 := r5.grown hg n56); (try replace qx := qx.grown hg n67.symm); (try replace mm := mm.grownB qf (by decide) hg); (try replace mp := MineP.grownB mp qf (by decide) hg); clear hg qf; have qf := qn; clear qn; (try clear y1 y2 y3); have y1 := qh.at 1 rfl; have y2 := qh.at 2 rfl; have y3 := qh.at 3 rfl; (try clear x0); (try have x0 := qx.at 0 rfl)))
  go_upto_region 6 with (first | ((with_reducible refine wpList_id ?_); refine wpList_getG (by rfl) _ _ rfl rfl qh Try.underlying23 rfl (by rfl) ?_) | (go_at_call 32; (with_reducible refine (HAh.out _).mono ?_); rintro e w2 ⟨rfl, hb⟩; replace b0 := b0.below hb; (try replace qh := qh.below hb); (try replace r4 := r4.below hb); (try replace r5 := r5.below hb); (try replace qf := qf.below hb); (try replace qx := qx.below hb); (try replace mm := mm.below hb); (try replace mp := mp.below hb); clear hb; (try clear y1 y2 y3); have y1 := qh.at 1 rfl; have y2 := qh.at 2 rfl; have y3 := qh.at 3 rfl; (try clear x0); (try have x0 := qx.at 0 rfl); have n47 : w.heap.size + 1 ≠ w2.heap.size := Nat.ne_of_lt r4.lt; have n57 : w.heap.size + 1 + 1 ≠ w2.heap.size := Nat.ne_of_lt r5.lt; have nh7 : w.heap.size ≠ w2.heap.size := Nat.ne_of_lt qh.lt; have n67 : w1.heap.size ≠ w2.heap.size := Nat.ne_of_lt qf.lt; have h7 : w.heap.size ≤ w2.heap.size := b0.out.size; have qx := Blk.new w2 34 #[.bool false, .int .i64 0, .int .u32 0]; replace b0 := b0.alloc (.cells #[.bool false, .int .i64 0, .int .u32 0] 34); replace qh := qh.alloc (.cells #[.bool false, .int .i64 0, .int .u32 0] 34); replace r4 := r4.alloc (.cells #[.bool false, .int .i64 0, .int .u32 0] 34); replace r5 := r5.alloc (.cells #[.bool false, .int .i64 0, .int .u32 0] 34); replace qf := qf.alloc (.cells #[.bool false, .int .i64 0, .int .u32 0] 34)) | ((with_reducible refine wpList_id ?_); refine wpList_putB rfl _ _ _ rfl rfl rfl qx (by rfl) (by rfl) (by rfl) ?_; intro w9 qn hg; replace b0 := b0.grown hg h7; (try replace qh := qh.grown hg nh7); (try replace r4 := r4.grown hg n47); (try replace r5 := r5.grown hg n57); (try replace qf := qf.grown hg n67); (try replace mm := mm.grownB qx (by decide) hg); (try replace mp := MineP.grownB mp qx (by decide) hg); clear hg qx; have qx := qn; clear qn; (try clear y1 y2 y3); have y1 := qh.at 1 rfl; have y2 := qh.at 2 rfl; have y3 := qh.at 3 rfl; (try clear x0); (try have x0 := qx.at 0 rfl)))
  have x0 := qx.at 0 rfl
  go_wp2_with fail
  replace b0 := b0.drew
  (try replace qh := qh.drew)
  (try replace r4 := r4.drew)
  (try replace r5 := r5.drew)
  (try replace qf := qf.drew)
  (try replace qx := qx.drew)
  (try replace mm := mm.drew)
  (try replace mp := mp.drew)
  refine wp_region_G (fun w' => Blk w' w2.heap.size 34 #[.bool false, .int .i64 0, .int .u32 0]) [] (by kernel_rfl) ?_
  have S0 := qx
  refine wpAnyG_take 0 (v := .agg #[.bool false, .int .i64 0, .int .u32 0]) rfl (by kernel_rfl) (fun _ _ _ h => h) S0 (Or.inl ⟨by rfl, by intro w' hSw; exact exec_getB (by rfl) (by rfl) hSw Try.underlying34 rfl (by rfl)⟩) ?_; (try simp only [Act.put, rA, rB, rC, rD, rE, rF])
  clear S0
  refine wpAnyG_one 1 (by kernel_rfl) rfl (fun K hK => ?_)
  rw [if_pos (by rfl)]
  go_simp
  (go_at_call 33; (with_reducible refine (rFine _).mono ?_); rintro e w9 ⟨rfl, hb⟩)
  replace b0 := b0.below hb
  (try replace qh := qh.below hb)
  (try replace r4 := r4.below hb)
  (try replace r5 := r5.below hb)
  (try replace qf := qf.below hb)
  (try replace qx := qx.below hb)
  (try replace mm := mm.below hb)
  (try replace mp := mp.below hb)
  clear hb
  (try clear y1 y2 y3)
  have y1 := qh.at 1 rfl
  have y2 := qh.at 2 rfl
  have y3 := qh.at 3 rfl
  (try clear x0)
  (try have x0 := qx.at 0 rfl)
  (try go_simp)
  refine hK.out _ _ (fun _ => qx) ?_
  clear hK K
  (try simp only [Act.put, rA, rB, rC, rD, rE, rF])
  have S0 := qx
  refine wpAnyG_take 2 (v := ?_) rfl (by kernel_rfl) (fun _ _ _ h => h) S0 (Or.inl ⟨by rfl, by intro w' hSw; go_simp; try with_reducible rfl⟩) ?_; (try simp only [Act.put, rA, rB, rC, rD, rE, rF])
  clear S0
  refine wpAnyG_done (by kernel_rfl) ?_ _
  go_upto_region 11 with (first | ((with_reducible refine wpList_id ?_); refine wpList_getG (by rfl) _ _ rfl rfl qf Try.underlying30 rfl (by rfl) ?_) | ((with_reducible refine wpList_id ?_); refine wpList_getG (by rfl) _ _ rfl rfl qh Try.underlying23 rfl (by rfl) ?_) | (go_at_call 34; have hz := b0.out.size; (with_reducible refine (HI.out _ (H0.out.below b0.out)).mono ?_); rintro e w9 ⟨f1, ok, B, m, d, P, pn, pc, rfl, m1h, mph, hb, rfl, rfl⟩; have mm := m1h.base_le hz; have mp := mph.base_le hz; clear m1h mph hz; replace b0 := b0.below hb; (try replace qh := qh.below hb); (try replace r4 := r4.below hb); (try replace r5 := r5.below hb); (try replace qf := qf.below hb); (try replace qx := qx.below hb); skip; clear hb; (try clear y1 y2 y3); have y1 := qh.at 1 rfl; have y2 := qh.at 2 rfl; have y3 := qh.at 3 rfl; (try clear x0); (try have x0 := qx.at 0 rfl)) | ((with_reducible refine wpList_id ?_); refine wpList_putB rfl _ _ _ rfl rfl rfl qf (by rfl) (by rfl) (by rfl) ?_; intro w9 qn hg; replace b0 := b0.grown hg h6; (try replace qh := qh.grown hg nh6); (try replace r4 := r4.grown hg n46); (try replace r5 := r5.grown hg n56); (try replace qx := qx.grown hg n67.symm); (try replace mm := mm.grownB qf (by decide) hg); (try replace mp := MineP.grownB mp qf (by decide) hg); clear hg qf; have qf := qn; clear qn; (try clear y1 y2 y3); have y1 := qh.at 1 rfl; have y2 := qh.at 2 rfl; have y3 := qh.at 3 rfl; (try clear x0); (try have x0 := qx.at 0 rfl)))
  go_upto_region 12 with (first | ((with_reducible refine wpList_id ?_); refine wpList_getG (by rfl) _ _ rfl rfl qf Try.underlying30 rfl (by rfl) ?_) | (go_at_call 35; (with_reducible refine (HV.out _ _ _ _ _ _ _ mp.prs (by have := mp.len; have := hpl.out; omega)).mono ?_); rintro e w9 ⟨rfl, hb⟩; replace b0 := b0.below hb; (try replace qh := qh.below hb); (try replace r4 := r4.below hb); (try replace r5 := r5.below hb); (try replace qf := qf.below hb); (try replace qx := qx.below hb); (try replace mm := mm.below hb); (try replace mp := mp.below hb); clear hb; (try clear y1 y2 y3); have y1 := qh.at 1 rfl; have y2 := qh.at 2 rfl; have y3 := qh.at 3 rfl; (try clear x0); (try have x0 := qx.at 0 rfl)) | ((with_reducible refine wpList_id ?_); refine wpList_putB rfl _ _ _ rfl rfl rfl qx (by rfl) (by rfl) (by rfl) ?_; intro w9 qn hg; replace b0 := b0.grown hg h7; (try replace qh := qh.grown hg nh7); (try replace r4 := r4.grown hg n47); (try replace r5 := r5.grown hg n57); (try replace qf := qf.grown hg n67); (try replace mm := mm.grownB qx (by decide) hg); (try replace mp := MineP.grownB mp qx (by decide) hg); clear hg qx; have qx := qn; clear qn; (try clear y1 y2 y3); have y1 := qh.at 1 rfl; have y2 := qh.at 2 rfl; have y3 := qh.at 3 rfl; (try clear x0); (try have x0 := qx.at 0 rfl)))
  go_wp2_with fail
  replace b0 := b0.drew
  (try replace qh := qh.drew)
  (try replace r4 := r4.drew)
  (try replace r5 := r5.drew)
  (try replace qf := qf.drew)
  (try replace qx := qx.drew)
  (try replace mm := mm.drew)
  (try replace mp := mp.drew)
  refine wp_region_G (fun w' => Blk w' w2.heap.size 34 #[.bool true, .int .i64 xs, .int .u32 xc]) [] (by kernel_rfl) ?_
  have S0 := qx
  refine wpAnyG_take 0 (v := ?_) rfl (by kernel_rfl) (fun _ _ _ h => h) S0 (Or.inl ⟨by rfl, by intro w' hSw; go_simp; try with_reducible rfl⟩) ?_; (try simp only [Act.put, rA, rB, rC, rD, rE, rF])
  refine wpAnyG_take 1 (v := .agg #[.bool true, .int .i64 xs, .int .u32 xc]) rfl (by kernel_rfl) (fun _ _ _ h => h) S0 (Or.inl ⟨by rfl, by intro w' hSw; exact exec_getB (by rfl) (by rfl) hSw Try.underlying34 rfl (by rfl)⟩) ?_; (try simp only [Act.put, rA, rB, rC, rD, rE, rF])
  clear S0
  refine wpAnyG_one 2 (by kernel_rfl) rfl (fun K hK => ?_)
  rw [if_pos (by rfl)]
  refine wp_putB (cells := #[.int .u8 0, .int .u8 0, .int .i64 0, .slice none 0 0, .int .i64 0, .int .i64 0, .int .i64 0, .int .u32 0, .slice none 0 0, .bool false, .bool false, .int .i64 0, .int .u8 0]) _ _ _ rfl rfl rfl r4 (by rfl) (by rfl) (by rfl) ?_
  intro w9 qn hg
  replace b0 := b0.grown hg (by omega)
  (try replace qh := qh.grown hg (by omega))
  (try replace r5 := r5.grown hg (by omega))
  (try replace qf := qf.grown hg n46.symm)
  (try replace qx := qx.grown hg n47.symm)
  (try replace mm := mm.grownB r4 (by decide) hg)
  (try replace mp := MineP.grownB mp r4 (by decide) hg)
  clear hg r4
  have r4 := qn
  clear qn
  refine hK.out _ _ (fun _ => qx) ?_
  clear hK K
  (try simp only [Act.put, rA, rB, rC, rD, rE, rF])
  refine wpAnyG_one 3 (by kernel_rfl) rfl (fun K hK => ?_)
  rw [if_pos (by rfl)]
  refine wp_putB (cells := #[.bool true, .int .i64 xs, .int .u32 xc]) _ _ _ rfl rfl rfl r5 (by rfl) (by rfl) (by rfl) ?_
  intro w9 qn hg
  replace b0 := b0.grown hg (by omega)
  (try replace qh := qh.grown hg (by omega))
  (try replace r4 := r4.grown hg (by omega))
  (try replace qf := qf.grown hg n56.symm)
  (try replace qx := qx.grown hg n57.symm)
  (try replace mm := mm.grownB r5 (by decide) hg)
  (try replace mp := MineP.grownB mp r5 (by decide) hg)
  clear hg r5
  have r5 := qn
  clear qn
  refine hK.out _ _ (fun _ => qx) ?_
  clear hK K
  (try simp only [Act.put, rA, rB, rC, rD, rE, rF])
  refine wpAnyG_done (by kernel_rfl) ?_ _
  go_wp2
  exact res2cc rfl rfl rfl rfl r4 Try.underlying30 rfl (by rfl) r5 Try.underlying34 rfl (by rfl) ⟨_, _, _, _, _, _, rfl, Mine.nil _ _, MineP.nil _ _, b0.out⟩
set_option maxRecDepth 100000 in
set_option maxHeartbeats 4000000 in
theorem rParse6 (L kd fl st : Int) (A : Option Addr) (n c : Nat) (l : List Int) (w : World) (h : Byt w A n c l) (hn : n ≤ 100000) (hst0 : -9223372036854775808 ≤ st) (hst1 : st ≤ 9223372036854775807) (f0l : 0 ≤ fl) (f1l : fl ≤ 255) (h1 : okH 0 st = true) (f0 : Fm) (xs xc : Int) (ha : aheadS kd fl st n = ⟨false, 0, 0⟩) (hlo : longOk kd fl n = true) (hrd : readS kd fl st l = some f0) (hv : valS f0 = ⟨false, xs, xc⟩) : Calls Try.prog 11 #[.agg #[.int .i64 L, .int .u8 kd, .int .u8 fl, .int .i64 st], .slice A n c] w (ParP (f0, ⟨false, xs, xc⟩) w) := by
  have HR := Lib.hid fun w => rHRight 0 kd fl st w (by decide) (by decide) hst0 hst1
  rw [h1] at HR
  have H0 := Lib.hid h
  have hl := h.len
  have HAh := Lib.hid fun w => rAhead 0 kd fl st n w f0l f1l (by omega)
  rw [ha] at HAh
  have HI := Lib.hid fun w h => rInner kd fl st A n c l w h hn f0l f1l hlo
  rw [hrd] at HI
  have hpl := Lib.hid (show f0.prs.length ≤ 100000 by have := (readS_prs hrd).1; omega)
  have HV := Lib.hid fun A n c P pn pc w hp hpn => rValues f0 A n c P pn pc w hp hpn
  rw [hv] at HV
  clear h hst0 hst1 h1 ha hlo hrd hv f0l f1l
  have qh := ((Blk.new w 23 #[.int .i64 L, .int .u8 kd, .int .u8 fl, .int .i64 st]).alloc (.cells #[.int .u8 0, .int .u8 0, .int .i64 0, .slice none 0 0, .int .i64 0, .int .i64 0, .int .i64 0, .int .u32 0, .slice none 0 0, .bool false, .bool false, .int .i64 0, .int .u8 0] 30)).alloc (.cells #[.bool false, .int .i64 0, .int .u32 0] 34)
  have r4 := (Blk.new (w.alloc (.cells #[.int .i64 L, .int .u8 kd, .int .u8 fl, .int .i64 st] 23)) 30 #[.int .u8 0, .int .u8 0, .int .i64 0, .slice none 0 0, .int .i64 0, .int .i64 0, .int .i64 0, .int .u32 0, .slice none 0 0, .bool false, .bool false, .int .i64 0, .int .u8 0]).alloc (.cells #[.bool false, .int .i64 0, .int .u32 0] 34)
  have r5 := Blk.new ((w.alloc (.cells #[.int .i64 L, .int .u8 kd, .int .u8 fl, .int .i64 st] 23)).alloc (.cells #[.int .u8 0, .int .u8 0, .int .i64 0, .slice none 0 0, .int .i64 0, .int .i64 0, .int .i64 0, .int .u32 0, .slice none 0 0, .bool false, .bool false, .int .i64 0, .int .u8 0] 30)) 34 #[.bool false, .int .i64 0, .int .u32 0]
  have b0 := (((Bel.refl w).alloc (.cells #[.int .i64 L, .int .u8 kd, .int .u8 fl, .int .i64 st] 23)).alloc (.cells #[.int .u8 0, .int .u8 0, .int .i64 0, .slice none 0 0, .int .i64 0, .int .i64 0, .int .i64 0, .int .u32 0, .slice none 0 0, .bool false, .bool false, .int .i64 0, .int .u8 0] 30)).alloc (.cells #[.bool false, .int .i64 0, .int .u32 0] 34)
  simp only [World.size_alloc] at r4 r5
  have y1 := qh.at 1 rfl; have y2 := qh.at 2 rfl; have y3 := qh.at 3 rfl
  go_enter Try.func11, Try.ntmps11
  go_upto_region 4 with (first | ((with_reducible refine wpList_id ?_); refine wpList_putF (v := .int .i64 0) rfl _ _ _ rfl rfl rfl qh rfl (by rfl) (by rfl) ?_; intro w9 qn hg; simp only [rD, rF, rE] at qn; replace b0 := b0.grown hg (Nat.le_refl _); (try replace r4 := r4.grown hg (by omega)); (try replace r5 := r5.grown hg (by omega)); (try replace qf := qf.grown hg nh6.symm); (try replace qx := qx.grown hg nh7.symm); (try replace mm := mm.grownB qh (by decide) hg); (try replace mp := MineP.grownB mp qh (by decide) hg); clear hg qh; have qh := qn; clear qn; (try clear y1 y2 y3); have y1 := qh.at 1 rfl; have y2 := qh.at 2 rfl; have y3 := qh.at 3 rfl; (try clear x0); (try have x0 := qx.at 0 rfl)) | ((with_reducible refine wpList_id ?_); refine wpList_getG (by rfl) _ _ rfl rfl qh Try.underlying23 rfl (by rfl) ?_) | (go_at_call 25; (with_reducible refine (HR.out _).mono ?_); rintro e w1 ⟨rfl, hb⟩; replace b0 := b0.below hb; (try replace qh := qh.below hb); (try replace r4 := r4.below hb); (try replace r5 := r5.below hb); (try replace qf := qf.below hb); (try replace qx := qx.below hb); (try replace mm := mm.below hb); (try replace mp := mp.below hb); clear hb; (try clear y1 y2 y3); have y1 := qh.at 1 rfl; have y2 := qh.at 2 rfl; have y3 := qh.at 3 rfl; (try clear x0); (try have x0 := qx.at 0 rfl); have n46 : w.heap.size + 1 ≠ w1.heap.size := Nat.ne_of_lt r4.lt; have n56 : w.heap.size + 1 + 1 ≠ w1.heap.size := Nat.ne_of_lt r5.lt; have nh6 : w.heap.size ≠ w1.heap.size := Nat.ne_of_lt qh.lt; have h6 : w.heap.size ≤ w1.heap.size := b0.out.size; have qf := Blk.new w1 30 #[.int .u8 0, .int .u8 0, .int .i64 0, .slice none 0 0, .int .i64 0, .int .i64 0, .int .i64 0, .int .u32 0, .slice none 0 0, .bool false, .bool false, .int .i64 0, .int .u8 0]; replace b0 := b0.alloc (.cells #[.int .u8 0, .int .u8 0, .int .i64 0, .slice none 0 0, .int .i64 0, .int .i64 0, .int .i64 0, .int .u32 0, .slice none 0 0, .bool false, .bool false, .int .i64 0, .int .u8 0] 30); replace qh := qh.alloc (.cells #[.int .u8 0, .int .u8 0, .int .i64 0, .slice none 0 0, .int .i64 0, .int .i64 0, .int .i64 0, .int .u32 0, .slice none 0 0, .bool false, .bool false, .int .i64 0, .int .u8 0] 30); replace r4 := r4.alloc (.cells #[.int .u8 0, .int .u8 0, .int .i64 0, .slice none 0 0, .int .i64 0, .int .i64 0, .int .i64 0, .int .u32 0, .slice none 0 0, .bool false, .bool false, .int .i64 0, .int .u8 0] 30); replace r5 := r5.alloc (.cells #[.int .u8 0, .int .u8 0, .int .i64 0, .slice none 0 0, .int .i64 0, .int .i64 0, .int .i64 0, .int .u32 0, .slice none 0 0, .bool false, .bool false, .int .i64 0, .int .u8 0] 30)))
  go_upto_region 5 with (first | ((with_reducible refine wpList_id ?_); refine wpList_putB rfl _ _ _ rfl rfl rfl qf (by rfl) (by rfl) (by rfl) ?_; intro w9 qn hg; replace b0 := b0.grown hg h6; (try replace qh := qh.grown hg nh6); (try replace r4 := r4.grown hg n46); (try replace r5 := r5.grown hg n56); (try replace qx := qx.grown hg n67.symm); (try replace mm := mm.grownB qf (by decide) hg); (try replace mp := MineP.grownB mp qf (by decide) hg); clear hg qf; have qf := qn; clear qn; (try clear y1 y2 y3); have y1 := qh.at 1 rfl; have y2 := qh.at 2 rfl; have y3 := qh.at 3 rfl; (try clear x0); (try have x0 := qx.at 0 rfl)))
  go_upto_region 6 with (first | ((with_reducible refine wpList_id ?_); refine wpList_getG (by rfl) _ _ rfl rfl qh Try.underlying23 rfl (by rfl) ?_) | (go_at_call 32; (with_reducible refine (HAh.out _).mono ?_); rintro e w2 ⟨rfl, hb⟩; replace b0 := b0.below hb; (try replace qh := qh.below hb); (try replace r4 := r4.below hb); (try replace r5 := r5.below hb); (try replace qf := qf.below hb); (try replace qx := qx.below hb); (try replace mm := mm.below hb); (try replace mp := mp.below hb); clear hb; (try clear y1 y2 y3); have y1 := qh.at 1 rfl; have y2 := qh.at 2 rfl; have y3 := qh.at 3 rfl; (try clear x0); (try have x0 := qx.at 0 rfl); have n47 : w.heap.size + 1 ≠ w2.heap.size := Nat.ne_of_lt r4.lt; have n57 : w.heap.size + 1 + 1 ≠ w2.heap.size := Nat.ne_of_lt r5.lt; have nh7 : w.heap.size ≠ w2.heap.size := Nat.ne_of_lt qh.lt; have n67 : w1.heap.size ≠ w2.heap.size := Nat.ne_of_lt qf.lt; have h7 : w.heap.size ≤ w2.heap.size := b0.out.size; have qx := Blk.new w2 34 #[.bool false, .int .i64 0, .int .u32 0]; replace b0 := b0.alloc (.cells #[.bool false, .int .i64 0, .int .u32 0] 34); replace qh := qh.alloc (.cells #[.bool false, .int .i64 0, .int .u32 0] 34); replace r4 := r4.alloc (.cells #[.bool false, .int .i64 0, .int .u32 0] 34); replace r5 := r5.alloc (.cells #[.bool false, .int .i64 0, .int .u32 0] 34); replace qf := qf.alloc (.cells #[.bool false, .int .i64 0, .int .u32 0] 34)) | ((with_reducible refine wpList_id ?_); refine wpList_putB rfl _ _ _ rfl rfl rfl qx (by rfl) (by rfl) (by rfl) ?_; intro w9 qn hg; replace b0 := b0.grown hg h7; (try replace qh := qh.grown hg nh7); (try replace r4 := r4.grown hg n47); (try replace r5 := r5.grown hg n57); (try replace qf := qf.grown hg n67); (try replace mm := mm.grownB qx (by decide) hg); (try replace mp := MineP.grownB mp qx (by decide) hg); clear hg qx; have qx := qn; clear qn; (try clear y1 y2 y3); have y1 := qh.at 1 rfl; have y2 := qh.at 2 rfl; have y3 := qh.at 3 rfl; (try clear x0); (try have x0 := qx.at 0 rfl)))
  have x0 := qx.at 0 rfl
  go_wp2_with fail
  replace b0 := b0.drew
  (try replace qh := qh.drew)
  (try replace r4 := r4.drew)
  (try replace r5 := r5.drew)
  (try replace qf := qf.drew)
  (try replace qx := qx.drew)
  (try replace mm := mm.drew)
  (try replace mp := mp.drew)
  refine wp_region_G (fun w' => Blk w' w2.heap.size 34 #[.bool false, .int .i64 0, .int .u32 0]) [] (by kernel_rfl) ?_
  have S0 := qx
  refine wpAnyG_take 0 (v := .agg #[.bool false, .int .i64 0, .int .u32 0]) rfl (by kernel_rfl) (fun _ _ _ h => h) S0 (Or.inl ⟨by rfl, by intro w' hSw; exact exec_getB (by rfl) (by rfl) hSw Try.underlying34 rfl (by rfl)⟩) ?_; (try simp only [Act.put, rA, rB, rC, rD, rE, rF])
  clear S0
  refine wpAnyG_one 1 (by kernel_rfl) rfl (fun K hK => ?_)
  rw [if_pos (by rfl)]
  go_simp
  (go_at_call 33; (with_reducible refine (rFine _).mono ?_); rintro e w9 ⟨rfl, hb⟩)
  replace b0 := b0.below hb
  (try replace qh := qh.below hb)
  (try replace r4 := r4.below hb)
  (try replace r5 := r5.below hb)
  (try replace qf := qf.below hb)
  (try replace qx := qx.below hb)
  (try replace mm := mm.below hb)
  (try replace mp := mp.below hb)
  clear hb
  (try clear y1 y2 y3)
  have y1 := qh.at 1 rfl
  have y2 := qh.at 2 rfl
  have y3 := qh.at 3 rfl
  (try clear x0)
  (try have x0 := qx.at 0 rfl)
  (try go_simp)
  refine hK.out _ _ (fun _ => qx) ?_
  clear hK K
  (try simp only [Act.put, rA, rB, rC, rD, rE, rF])
  have S0 := qx
  refine wpAnyG_take 2 (v := ?_) rfl (by kernel_rfl) (fun _ _ _ h => h) S0 (Or.inl ⟨by rfl, by intro w' hSw; go_simp; try with_reducible rfl⟩) ?_; (try simp only [Act.put, rA, rB, rC, rD, rE, rF])
  clear S0
  refine wpAnyG_done (by kernel_rfl) ?_ _
  go_upto_region 11 with (first | ((with_reducible refine wpList_id ?_); refine wpList_getG (by rfl) _ _ rfl rfl qf Try.underlying30 rfl (by rfl) ?_) | ((with_reducible refine wpList_id ?_); refine wpList_getG (by rfl) _ _ rfl rfl qh Try.underlying23 rfl (by rfl) ?_) | (go_at_call 34; have hz := b0.out.size; (with_reducible refine (HI.out _ (H0.out.below b0.out)).mono ?_); rintro e w9 ⟨f1, ok, B, m, d, P, pn, pc, rfl, m1h, mph, hb, rfl, rfl⟩; have mm := m1h.base_le hz; have mp := mph.base_le hz; clear m1h mph hz; replace b0 := b0.below hb; (try replace qh := qh.below hb); (try replace r4 := r4.below hb); (try replace r5 := r5.below hb); (try replace qf := qf.below hb); (try replace qx := qx.below hb); skip; clear hb; (try clear y1 y2 y3); have y1 := qh.at 1 rfl; have y2 := qh.at 2 rfl; have y3 := qh.at 3 rfl; (try clear x0); (try have x0 := qx.at 0 rfl)) | ((with_reducible refine wpList_id ?_); refine wpList_putB rfl _ _ _ rfl rfl rfl qf (by rfl) (by rfl) (by rfl) ?_; intro w9 qn hg; replace b0 := b0.grown hg h6; (try replace qh := qh.grown hg nh6); (try replace r4 := r4.grown hg n46); (try replace r5 := r5.grown hg n56); (try replace qx := qx.grown hg n67.symm); (try replace mm := mm.grownB qf (by decide) hg); (try replace mp := MineP.grownB mp qf (by decide) hg); clear hg qf; have qf := qn; clear qn; (try clear y1 y2 y3); have y1 := qh.at 1 rfl; have y2 := qh.at 2 rfl; have y3 := qh.at 3 rfl; (try clear x0); (try have x0 := qx.at 0 rfl)))
  go_upto_region 12 with (first | ((with_reducible refine wpList_id ?_); refine wpList_getG (by rfl) _ _ rfl rfl qf Try.underlying30 rfl (by rfl) ?_) | (go_at_call 35; (with_reducible refine (HV.out _ _ _ _ _ _ _ mp.prs (by have := mp.len; have := hpl.out; omega)).mono ?_); rintro e w9 ⟨rfl, hb⟩; replace b0 := b0.below hb; (try replace qh := qh.below hb); (try replace r4 := r4.below hb); (try replace r5 := r5.below hb); (try replace qf := qf.below hb); (try replace qx := qx.below hb); (try replace mm := mm.below hb); (try replace mp := mp.below hb); clear hb; (try clear y1 y2 y3); have y1 := qh.at 1 rfl; have y2 := qh.at 2 rfl; have y3 := qh.at 3 rfl; (try clear x0); (try have x0 := qx.at 0 rfl)) | ((with_reducible refine wpList_id ?_); refine wpList_putB rfl _ _ _ rfl rfl rfl qx (by rfl) (by rfl) (by rfl) ?_; intro w9 qn hg; replace b0 := b0.grown hg h7; (try replace qh := qh.grown hg nh7); (try replace r4 := r4.grown hg n47); (try replace r5 := r5.grown hg n57); (try replace qf := qf.grown hg n67); (try replace mm := mm.grownB qx (by decide) hg); (try replace mp := MineP.grownB mp qx (by decide) hg); clear hg qx; have qx := qn; clear qn; (try clear y1 y2 y3); have y1 := qh.at 1 rfl; have y2 := qh.at 2 rfl; have y3 := qh.at 3 rfl; (try clear x0); (try have x0 := qx.at 0 rfl)))
  go_wp2_with fail
  replace b0 := b0.drew
  (try replace qh := qh.drew)
  (try replace r4 := r4.drew)
  (try replace r5 := r5.drew)
  (try replace qf := qf.drew)
  (try replace qx := qx.drew)
  (try replace mm := mm.drew)
  (try replace mp := mp.drew)
  refine wp_region_G (fun w' => Blk w' w1.heap.size 30 #[.int .u8 (f1).kd, .int .u8 (f1).fl, .int .i64 (f1).st, .slice B m d, .int .i64 (f1).pd, .int .i64 (f1).la, .int .i64 (f1).ic, .int .u32 (f1).cd, .slice P pn pc, .bool (f1).rk, .bool (f1).al, .int .i64 (f1).dp, .int .u8 (f1).wt] ∧ Blk w' w2.heap.size 34 #[.bool false, .int .i64 xs, .int .u32 xc]) [] (by kernel_rfl) ?_
  have S0 := And.intro qf qx
  refine wpAnyG_take 0 (v := .agg #[.int .u8 (f1).kd, .int .u8 (f1).fl, .int .i64 (f1).st, .slice B m d, .int .i64 (f1).pd, .int .i64 (f1).la, .int .i64 (f1).ic, .int .u32 (f1).cd, .slice P pn pc, .bool (f1).rk, .bool (f1).al, .int .i64 (f1).dp, .int .u8 (f1).wt]) rfl (by kernel_rfl) (fun _ _ _ h => h) S0 (Or.inl ⟨by rfl, by intro w' hSw; exact exec_getB (by rfl) (by rfl) hSw.1 Try.underlying30 rfl (by rfl)⟩) ?_; (try simp only [Act.put, rA, rB, rC, rD, rE, rF])
  refine wpAnyG_take 1 (v := .agg #[.bool false, .int .i64 xs, .int .u32 xc]) rfl (by kernel_rfl) (fun _ _ _ h => h) S0 (Or.inl ⟨by rfl, by intro w' hSw; exact exec_getB (by rfl) (by rfl) hSw.2 Try.underlying34 rfl (by rfl)⟩) ?_; (try simp only [Act.put, rA, rB, rC, rD, rE, rF])
  clear S0
  refine wpAnyG_one 2 (by kernel_rfl) rfl (fun K hK => ?_)
  rw [if_pos (by rfl)]
  refine wp_putB (cells := #[.int .u8 (f1).kd, .int .u8 (f1).fl, .int .i64 (f1).st, .slice B m d, .int .i64 (f1).pd, .int .i64 (f1).la, .int .i64 (f1).ic, .int .u32 (f1).cd, .slice P pn pc, .bool (f1).rk, .bool (f1).al, .int .i64 (f1).dp, .int .u8 (f1).wt]) _ _ _ rfl rfl rfl r4 (by rfl) (by rfl) (by rfl) ?_
  intro w9 qn hg
  replace b0 := b0.grown hg (by omega)
  (try replace qh := qh.grown hg (by omega))
  (try replace r5 := r5.grown hg (by omega))
  (try replace qf := qf.grown hg n46.symm)
  (try replace qx := qx.grown hg n47.symm)
  (try replace mm := mm.grownB r4 (by decide) hg)
  (try replace mp := MineP.grownB mp r4 (by decide) hg)
  clear hg r4
  have r4 := qn
  clear qn
  refine hK.out _ _ (fun _ => And.intro qf qx) ?_
  clear hK K
  (try simp only [Act.put, rA, rB, rC, rD, rE, rF])
  refine wpAnyG_one 3 (by kernel_rfl) rfl (fun K hK => ?_)
  rw [if_pos (by rfl)]
  refine wp_putB (cells := #[.bool false, .int .i64 xs, .int .u32 xc]) _ _ _ rfl rfl rfl r5 (by rfl) (by rfl) (by rfl) ?_
  intro w9 qn hg
  replace b0 := b0.grown hg (by omega)
  (try replace qh := qh.grown hg (by omega))
  (try replace r4 := r4.grown hg (by omega))
  (try replace qf := qf.grown hg n56.symm)
  (try replace qx := qx.grown hg n57.symm)
  (try replace mm := mm.grownB r5 (by decide) hg)
  (try replace mp := MineP.grownB mp r5 (by decide) hg)
  clear hg r5
  have r5 := qn
  clear qn
  refine hK.out _ _ (fun _ => And.intro qf qx) ?_
  clear hK K
  (try simp only [Act.put, rA, rB, rC, rD, rE, rF])
  refine wpAnyG_done (by kernel_rfl) ?_ _
  go_wp2
  exact res2cc rfl rfl rfl rfl r4 Try.underlying30 rfl (by rfl) r5 Try.underlying34 rfl (by rfl) ⟨_, _, _, _, _, _, rfl, mm, mp, b0.out⟩
theorem rParse (L kd fl st : Int) (A : Option Addr) (n c : Nat) (l : List Int) (w : World) (h : Byt w A n c l) (hn : n ≤ 100000) (hst0 : -9223372036854775808 ≤ st) (hst1 : st ≤ 9223372036854775807) (f0l : 0 ≤ fl) (f1l : fl ≤ 255) :
    Calls Try.prog 11 #[.agg #[.int .i64 L, .int .u8 kd, .int .u8 fl, .int .i64 st], .slice A n c] w (ParP (parseS kd fl st l) w) := by
  have hl := h.len
  cases h1 : okH 0 st
  · exact (rParse1 L kd fl st A n c l w h hn hst0 hst1 f0l f1l h1).mono (parP_eq (by unfold parseS; rw [if_pos h1]))
  by_cases h2 : 16384 < n
  · exact (rParse2 L kd fl st A n c l w h hn hst0 hst1 f0l f1l h1 6 (by unfold aheadS; rw [if_pos h2])).mono (parP_eq (by unfold parseS; rw [if_neg (by rw [h1]; decide), if_pos (by omega)]))
  have h2' : l.length ≤ 16384 := by omega
  by_cases h3 : kd = 5 ∨ farK kd st = true
  · exact (rParse2 L kd fl st A n c l w h hn hst0 hst1 f0l f1l h1 1 (by unfold aheadS; rw [if_neg h2, if_pos h3])).mono (parP_eq (parse_far h1 h2' h3).symm)
  cases hlo : longOk kd fl n
  · by_cases hk : kd = 2
    · exact (rParse3 L kd fl st A n c l w h hn hst0 hst1 f0l f1l h1 (by unfold aheadS; rw [if_neg h2, if_neg h3, if_pos hlo, if_pos hk])).mono (parP_eq (by rw [parse_short h1 h2' h3 (by rw [hl]; exact hlo), if_pos hk]))
    · exact (rParse2 L kd fl st A n c l w h hn hst0 hst1 f0l f1l h1 6 (by unfold aheadS; rw [if_neg h2, if_neg h3, if_pos hlo, if_neg hk])).mono (parP_eq (by rw [parse_short h1 h2' h3 (by rw [hl]; exact hlo), if_neg hk]))
  have ha : aheadS kd fl st n = ⟨false, 0, 0⟩ := by unfold aheadS; rw [if_neg h2, if_neg h3, if_neg (by rw [hlo]; decide)]
  cases hrd : readS kd fl st l with
  | none => exact (rParse4 L kd fl st A n c l w h hn hst0 hst1 f0l f1l h1 ha hlo hrd).mono (parP_eq (by rw [parse_go h1 h2' h3 (by rw [hl]; exact hlo), hrd]))
  | some f1 =>
    obtain ⟨⟨wh, xs, xc⟩, hv⟩ : ∃ v, valS f1 = v := ⟨_, rfl⟩
    cases wh
    · exact (rParse6 L kd fl st A n c l w h hn hst0 hst1 f0l f1l h1 f1 xs xc ha hlo hrd hv).mono (parP_eq (by rw [parse_go h1 h2' h3 (by rw [hl]; exact hlo), hrd]; simp [hv]))
    · exact (rParse5 L kd fl st A n c l w h hn hst0 hst1 f0l f1l h1 f1 xs xc ha hlo hrd hv).mono (parP_eq (by rw [parse_go h1 h2' h3 (by rw [hl]; exact hlo), hrd]; simp [hv]))
end Go.Proofs.Ytnjnpnjjpodnnaa
