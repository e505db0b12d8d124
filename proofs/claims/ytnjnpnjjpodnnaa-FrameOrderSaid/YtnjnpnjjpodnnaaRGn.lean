/- Frames in memory of their own; frames that are too great: the contracts. -/
import Derived.Test.YtnjnpnjjpodnnaaRGo
import Derived.Test.YtnjnpnjjpodnnaaRGr
import Derived.Test.YtnjnpnjjpodnnaaRYO
namespace Go.Proofs.Ytnjnpnjjpodnnaa
open Go.RowKit Go.Shelf
set_option linter.unusedVariables false
set_option linter.unusedSimpArgs false

/-- A frame in memory of its own. -/
def FmP (f : Fm) (w : World) (e : Ending) (W' : World) : Prop := ∃ B m d Q qn qc, e = .returned (.agg #[.int .u8 (f).kd, .int .u8 (f).fl, .int .i64 (f).st, .slice B m d, .int .i64 (f).pd, .int .i64 (f).la, .int .i64 (f).ic, .int .u32 (f).cd, .slice Q qn qc, .bool (f).rk, .bool (f).al, .int .i64 (f).dp, .int .u8 (f).wt]) ∧ Mine w.heap.size W' B m d f.da ∧ MineP w.heap.size W' Q qn qc f.prs ∧ Below w.heap.size w W'
set_option maxRecDepth 100000 in
set_option maxHeartbeats 4000000 in
theorem fOwnF (f : Fm) (A : Option Addr) (n c : Nat) (P : Option Addr) (pn pc : Nat) (w : World) (h : Byt w A n c f.da) (hn : n ≤ 90000) (hp : Prs w P pn pc f.prs) (hpn : pn ≤ 10000) : Calls Try.prog 19 #[.agg #[.int .u8 (f).kd, .int .u8 (f).fl, .int .i64 (f).st, .slice A n c, .int .i64 (f).pd, .int .i64 (f).la, .int .i64 (f).ic, .int .u32 (f).cd, .slice P pn pc, .bool (f).rk, .bool (f).al, .int .i64 (f).dp, .int .u8 (f).wt]] w (FmP f w) := by
  have H0 := Lib.hid h
  have P0 := Lib.hid hp
  have CL := Lib.hid fun w h => fClone A n c f.da w h (by omega)
  have CP := Lib.hid fun w h => fCloneP P pn pc f.prs w h (by omega)
  clear h hp hn hpn
  have b0 := ((Bel.refl w).alloc (.cells #[.int .u8 (f).kd, .int .u8 (f).fl, .int .i64 (f).st, .slice A n c, .int .i64 (f).pd, .int .i64 (f).la, .int .i64 (f).ic, .int .u32 (f).cd, .slice P pn pc, .bool (f).rk, .bool (f).al, .int .i64 (f).dp, .int .u8 (f).wt] 30)).alloc (.cells #[.int .u8 0, .int .u8 0, .int .i64 0, .slice none 0 0, .int .i64 0, .int .i64 0, .int .i64 0, .int .u32 0, .slice none 0 0, .bool false, .bool false, .int .i64 0, .int .u8 0] 30)
  have q := (Blk.new w 30 #[.int .u8 (f).kd, .int .u8 (f).fl, .int .i64 (f).st, .slice A n c, .int .i64 (f).pd, .int .i64 (f).la, .int .i64 (f).ic, .int .u32 (f).cd, .slice P pn pc, .bool (f).rk, .bool (f).al, .int .i64 (f).dp, .int .u8 (f).wt]).alloc (.cells #[.int .u8 0, .int .u8 0, .int .i64 0, .slice none 0 0, .int .i64 0, .int .i64 0, .int .i64 0, .int .u32 0, .slice none 0 0, .bool false, .bool false, .int .i64 0, .int .u8 0] 30)
  have r := Blk.newAt (b := w.heap.size + 1) (w.alloc (.cells #[.int .u8 (f).kd, .int .u8 (f).fl, .int .i64 (f).st, .slice A n c, .int .i64 (f).pd, .int .i64 (f).la, .int .i64 (f).ic, .int .u32 (f).cd, .slice P pn pc, .bool (f).rk, .bool (f).al, .int .i64 (f).dp, .int .u8 (f).wt] 30)) 30 #[.int .u8 0, .int .u8 0, .int .i64 0, .slice none 0 0, .int .i64 0, .int .i64 0, .int .i64 0, .int .u32 0, .slice none 0 0, .bool false, .bool false, .int .i64 0, .int .u8 0] (by simp)
  go_enter Try.func19, Try.ntmps19
  go_wp2_with fail
  replace b0 := b0.drew
  replace q := q.drew
  replace r := r.drew
  refine wp_region_G (fun w' => Blk w' w.heap.size 30 #[.int .u8 (f).kd, .int .u8 (f).fl, .int .i64 (f).st, .slice A n c, .int .i64 (f).pd, .int .i64 (f).la, .int .i64 (f).ic, .int .u32 (f).cd, .slice P pn pc, .bool (f).rk, .bool (f).al, .int .i64 (f).dp, .int .u8 (f).wt]) [7, 8, 9] (by kernel_rfl) ?_
  have S0 := q
  refine wpAnyG_take 0 (v := ?_) rfl (by kernel_rfl) (fun _ _ _ h => h) S0 (Or.inl ⟨by rfl, by intro w' hSw; go_simp; try with_reducible rfl⟩) ?_; (try simp only [Act.put, rA, rB, rC, rD, rE, rF])
  refine wpAnyG_take 1 (v := ?_) rfl (by kernel_rfl) (fun _ _ _ h => h) S0 (Or.inl ⟨by rfl, by intro w' hSw; have z3 := hSw.at 3 rfl; go_simp; try with_reducible rfl⟩) ?_; (try simp only [Act.put, rA, rB, rC, rD, rE, rF])
  refine wpAnyG_take 3 (v := ?_) rfl (by kernel_rfl) (fun _ _ _ h => h) S0 (Or.inl ⟨by rfl, by intro w' hSw; go_simp; try with_reducible rfl⟩) ?_; (try simp only [Act.put, rA, rB, rC, rD, rE, rF])
  refine wpAnyG_take 4 (v := ?_) rfl (by kernel_rfl) (fun _ _ _ h => h) S0 (Or.inl ⟨by rfl, by intro w' hSw; have z8 := hSw.at 8 rfl; go_simp; try with_reducible rfl⟩) ?_; (try simp only [Act.put, rA, rB, rC, rD, rE, rF])
  clear S0
  refine wpAnyG_one 2 (by kernel_rfl) rfl (fun K hK => ?_)
  rw [if_pos (by rfl)]
  go_simp
  (with_reducible refine (CL.out _ (H0.out.below b0.out)).mono ?_)
  rintro e w9 ⟨B, d, rfl, m1, hb⟩
  have sz := b0.out.size
  replace b0 := b0.below hb
  replace q := q.below hb
  replace r := r.below hb
  replace m1 := m1.base_le sz
  clear hb sz
  (try go_simp)
  refine hK.out _ _ (fun _ => q) ?_
  clear hK K
  (try simp only [Act.put, rA, rB, rC, rD, rE, rF])
  have S0 := q
  refine wpAnyG_take 6 (v := ?_) rfl (by kernel_rfl) (fun _ _ _ h => h) S0 (Or.inl ⟨by rfl, by intro w' hSw; go_simp; try with_reducible rfl⟩) ?_; (try simp only [Act.put, rA, rB, rC, rD, rE, rF])
  clear S0
  refine wpAnyG_one 5 (by kernel_rfl) rfl (fun K hK => ?_)
  rw [if_pos (by rfl)]
  go_simp
  (with_reducible refine (CP.out _ (P0.out.below b0.out)).mono ?_)
  rintro e w9 ⟨Q, qc, rfl, m2, hb⟩
  have sz := b0.out.size
  replace b0 := b0.below hb
  replace q := q.below hb
  replace r := r.below hb
  replace m1 := m1.below hb
  replace m2 := MineP.base_le m2 sz
  clear hb sz
  (try go_simp)
  refine hK.out _ _ (fun _ => q) ?_
  clear hK K
  (try simp only [Act.put, rA, rB, rC, rD, rE, rF])
  refine wpAnyG_one 7 (by kernel_rfl) rfl (fun K hK => ?_)
  rw [if_pos (by rfl)]
  refine wp_putF (v := .slice B n d) _ _ _ rfl rfl rfl q rfl (by rfl) (by rfl) ?_
  intro w9 qn hg
  simp only [rD, rF, rE] at qn
  replace b0 := b0.grown hg (Nat.le_refl _)
  replace m1 := m1.grownB q (by decide) hg
  replace m2 := MineP.grownB m2 q (by decide) hg
  replace r := r.grown hg (Nat.succ_ne_self _)
  clear hg q; have q := qn; clear qn
  refine hK.out _ _ (fun h => absurd h (by decide)) ?_
  clear hK K
  (try simp only [Act.put, rA, rB, rC, rD, rE, rF])
  refine wpAnyG_one 8 (by kernel_rfl) rfl (fun K hK => ?_)
  rw [if_pos (by rfl)]
  go_simp
  refine hK.out _ _ (fun h => absurd h (by decide)) ?_
  clear hK K
  (try simp only [Act.put, rA, rB, rC, rD, rE, rF])
  refine wpAnyG_one 9 (by kernel_rfl) rfl (fun K hK => ?_)
  rw [if_pos (by rfl)]
  refine wp_putF (v := .slice Q pn qc) _ _ _ rfl rfl rfl q rfl (by rfl) (by rfl) ?_
  intro w9 qn hg
  simp only [rD, rF, rE] at qn
  replace b0 := b0.grown hg (Nat.le_refl _)
  replace m1 := m1.grownB q (by decide) hg
  replace m2 := MineP.grownB m2 q (by decide) hg
  replace r := r.grown hg (Nat.succ_ne_self _)
  clear hg q; have q := qn; clear qn
  refine hK.out _ _ (fun h => absurd h (by decide)) ?_
  clear hK K
  (try simp only [Act.put, rA, rB, rC, rD, rE, rF])
  refine wpAnyG_done (by kernel_rfl) ?_ _
  go_wp2_with (first | (refine wpList_getB rfl _ _ rfl rfl q Try.underlying30 rfl (by rfl) ?_) | ((with_reducible refine wpList_id ?_); refine wpList_putB rfl _ _ _ rfl rfl rfl r (by rfl) (by rfl) (by rfl) ?_; intro w9 qn hg; replace b0 := b0.grown hg (Nat.le_succ _); replace m1 := m1.grownB r (by decide) hg; replace m2 := MineP.grownB m2 r (by decide) hg; clear hg r; have r := qn; clear qn))
  exact res1 rfl rfl rfl r Try.underlying30 rfl (by rfl) ⟨B, n, d, Q, pn, qc, rfl, m1.base_le (Nat.le_refl _), MineP.base_le m2 (Nat.le_refl _), b0.out⟩
end Go.Proofs.Ytnjnpnjjpodnnaa
