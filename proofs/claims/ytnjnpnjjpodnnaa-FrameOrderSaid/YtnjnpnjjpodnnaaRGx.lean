/- Frames parsed: the contract. -/
import Derived.Test.YtnjnpnjjpodnnaaRGw
import Derived.Deep.Cut
namespace Go.Proofs.Ytnjnpnjjpodnnaa
open Go.RowKit Go.Shelf
set_option linter.unusedVariables false
set_option linter.unusedSimpArgs false

def ParP (r : Fm × Flt) (w : World) (e : Ending) (W' : World) : Prop := ∃ B m d P pn pc, e = .returned (.tuple #[.agg #[.int .u8 (r.1).kd, .int .u8 (r.1).fl, .int .i64 (r.1).st, .slice B m d, .int .i64 (r.1).pd, .int .i64 (r.1).la, .int .i64 (r.1).ic, .int .u32 (r.1).cd, .slice P pn pc, .bool (r.1).rk, .bool (r.1).al, .int .i64 (r.1).dp, .int .u8 (r.1).wt], .agg #[.bool r.2.wh, .int .i64 r.2.st, .int .u32 r.2.cd]]) ∧ Mine w.heap.size W' B m d r.1.da ∧ MineP w.heap.size W' P pn pc r.1.prs ∧ Below w.heap.size w W'
theorem Blk.ne {W : World} {a b : Nat} {t t' : TypeId} {cs cs' : Array Value} (q : Blk W a t cs) (q' : Blk W b t' cs') (ht : t ≠ t') : a ≠ b := fun e => by
  subst e
  have h1 : W.heap[a]? = _ := q
  rw [show W.heap[a]? = _ from q'] at h1
  simp at h1
  exact ht h1.2.symm
theorem readS_prs {kd fl st : Int} {b : List Int} {f : Fm} (h : readS kd fl st b = some f) : f.prs.length ≤ b.length ∧ f.da.length ≤ b.length := by
  have hp : ∀ x, padS fl b = some x → x.1.length ≤ b.length := fun x hx => padS_len hx
  have ht : (takePs b).length ≤ b.length := by
    unfold takePs
    split
    · simp; omega
    · simp
  have hr : ∀ l : List Int, (trR l).length ≤ l.length := fun l => by
    unfold trR
    split
    · simp
    · simp
  unfold readS at h
  split at h
  · simp only [Option.map_eq_some_iff] at h
    obtain ⟨x, hx, rfl⟩ := h
    exact ⟨Nat.zero_le _, hp x hx⟩
  split at h
  · simp only [Option.bind_eq_some_iff] at h
    obtain ⟨x, hx, h⟩ := h
    have h1 := hp x hx
    have h2 := hr x.1
    split at h
    · split at h
      · cases h; exact ⟨Nat.zero_le _, Nat.le_trans h2 h1⟩
      · cases h
    · cases h; exact ⟨Nat.zero_le _, h1⟩
  split at h
  · cases h; exact ⟨Nat.zero_le _, Nat.zero_le _⟩
  split at h
  · cases h; exact ⟨Nat.zero_le _, Nat.zero_le _⟩
  split at h
  · cases h; exact ⟨ht, Nat.zero_le _⟩
  split at h
  · cases h; exact ⟨Nat.zero_le _, by simp⟩
  split at h
  · cases h; exact ⟨Nat.zero_le _, Nat.zero_le _⟩
  split at h
  · cases h; exact ⟨Nat.zero_le _, by simp⟩
  · cases h; exact ⟨Nat.zero_le _, Nat.le_refl _⟩
theorem longFEnters (k : Int) : ∀ args w, (callFunc (longF k) args).run Try.prog w = .ok (.enter (longF k) args) w := by
  rcases k10 k with rfl | rfl | rfl | rfl | rfl | rfl | rfl | rfl | rfl | rfl | ⟨h0, h1, h2, h3, h4, h6, h7, h8, h9, h16⟩
  · exact enters_of Try.func63 (by kernel_rfl) rfl
  · exact enters_of Try.func63 (by kernel_rfl) rfl
  · exact enters_of Try.func101 (by kernel_rfl) rfl
  · exact enters_of Try.func101 (by kernel_rfl) rfl
  · exact enters_of Try.func76 (by kernel_rfl) rfl
  · exact enters_of Try.func101 (by kernel_rfl) rfl
  · exact enters_of Try.func92 (by kernel_rfl) rfl
  · exact enters_of Try.func101 (by kernel_rfl) rfl
  · exact enters_of Try.func92 (by kernel_rfl) rfl
  · exact enters_of Try.func92 (by kernel_rfl) rfl
  · rw [show longF k = 92 by simp [longF, h0, h1, h2, h3, h4, h6, h7, h8, h9, h16]]
    exact enters_of Try.func92 (by kernel_rfl) rfl
theorem readFEnters (k : Int) : ∀ args w, (callFunc (readF k) args).run Try.prog w = .ok (.enter (readF k) args) w := by
  rcases k10 k with rfl | rfl | rfl | rfl | rfl | rfl | rfl | rfl | rfl | rfl | ⟨h0, h1, h2, h3, h4, h6, h7, h8, h9, h16⟩
  · exact enters_of Try.func64 (by kernel_rfl) rfl
  · exact enters_of Try.func67 (by kernel_rfl) rfl
  · exact enters_of Try.func68 (by kernel_rfl) rfl
  · exact enters_of Try.func72 (by kernel_rfl) rfl
  · exact enters_of Try.func78 (by kernel_rfl) rfl
  · exact enters_of Try.func90 (by kernel_rfl) rfl
  · exact enters_of Try.func82 (by kernel_rfl) rfl
  · exact enters_of Try.func86 (by kernel_rfl) rfl
  · exact enters_of Try.func90 (by kernel_rfl) rfl
  · exact enters_of Try.func88 (by kernel_rfl) rfl
  · rw [show readF k = 90 by simp [readF, h0, h1, h2, h3, h4, h6, h7, h8, h9, h16]]
    exact enters_of Try.func90 (by kernel_rfl) rfl
theorem putFEnters (k : Int) : ∀ args w, (callFunc (putF k) args).run Try.prog w = .ok (.enter (putF k) args) w := by
  rcases k10 k with rfl | rfl | rfl | rfl | rfl | rfl | rfl | rfl | rfl | rfl | ⟨h0, h1, h2, h3, h4, h6, h7, h8, h9, h16⟩
  · exact enters_of Try.func65 (by kernel_rfl) rfl
  · exact enters_of Try.func69 (by kernel_rfl) rfl
  · exact enters_of Try.func70 (by kernel_rfl) rfl
  · exact enters_of Try.func74 (by kernel_rfl) rfl
  · exact enters_of Try.func80 (by kernel_rfl) rfl
  · exact enters_of Try.func91 (by kernel_rfl) rfl
  · exact enters_of Try.func84 (by kernel_rfl) rfl
  · exact enters_of Try.func87 (by kernel_rfl) rfl
  · exact enters_of Try.func91 (by kernel_rfl) rfl
  · exact enters_of Try.func89 (by kernel_rfl) rfl
  · rw [show putF k = 91 by simp [putF, h0, h1, h2, h3, h4, h6, h7, h8, h9, h16]]
    exact enters_of Try.func91 (by kernel_rfl) rfl
theorem parP_eq {a b : Fm × Flt} (h : a = b) {w : World} : ∀ e W', ParP a w e W' → ParP b w e W' := fun _ _ k => h ▸ k
set_option maxRecDepth 100000 in
set_option maxHeartbeats 4000000 in
theorem fParse1 (L kd fl st : Int) (A : Option Addr) (n c : Nat) (l : List Int) (w : World) (h : Byt w A n c l) (hn : n ≤ 100000) (hst0 : -9223372036854775808 ≤ st) (hst1 : st ≤ 9223372036854775807) (h1 : okH 0 st = false) : Calls Try.prog 10 #[.agg #[.int .i64 L, .int .u8 kd, .int .u8 fl, .int .i64 st], .slice A n c] w (ParP (Fm0, ⟨true, 0, 2⟩) w) := by
  have HR := Lib.hid fun w => fHRight 0 kd fl st w (by decide) (by decide) hst0 hst1
  have hA : Hid (0 < n → ∀ b o, A = some ⟨b, o, none⟩ → b < w.heap.size) := Lib.hid fun hp b o e => by
    obtain ⟨b', q, e', hlt, _⟩ := h.cell hp
    rw [e] at e'
    cases e'
    exact hlt
  have hl := h.len
  clear hst0 hst1
  have qh := Blk.new w 23 #[.int .i64 L, .int .u8 kd, .int .u8 fl, .int .i64 st]
  have qf := Blk.new (w.alloc (.cells #[.int .i64 L, .int .u8 kd, .int .u8 fl, .int .i64 st] 23)) 30 #[.int .u8 0, .int .u8 0, .int .i64 0, .slice none 0 0, .int .i64 0, .int .i64 0, .int .i64 0, .int .u32 0, .slice none 0 0, .bool false, .bool false, .int .i64 0, .int .u8 0]
  have qx := Blk.new ((w.alloc (.cells #[.int .i64 L, .int .u8 kd, .int .u8 fl, .int .i64 st] 23)).alloc (.cells #[.int .u8 0, .int .u8 0, .int .i64 0, .slice none 0 0, .int .i64 0, .int .i64 0, .int .i64 0, .int .u32 0, .slice none 0 0, .bool false, .bool false, .int .i64 0, .int .u8 0] 30)) 34 #[.bool false, .int .i64 0, .int .u32 0]
  have qk := Blk.new (((w.alloc (.cells #[.int .i64 L, .int .u8 kd, .int .u8 fl, .int .i64 st] 23)).alloc (.cells #[.int .u8 0, .int .u8 0, .int .i64 0, .slice none 0 0, .int .i64 0, .int .i64 0, .int .i64 0, .int .u32 0, .slice none 0 0, .bool false, .bool false, .int .i64 0, .int .u8 0] 30)).alloc (.cells #[.bool false, .int .i64 0, .int .u32 0] 34)) 61 #[.int .i64 0, .nilFunc, .nilFunc, .nilFunc]
  replace qh := ((qh.alloc (.cells #[.int .u8 0, .int .u8 0, .int .i64 0, .slice none 0 0, .int .i64 0, .int .i64 0, .int .i64 0, .int .u32 0, .slice none 0 0, .bool false, .bool false, .int .i64 0, .int .u8 0] 30)).alloc (.cells #[.bool false, .int .i64 0, .int .u32 0] 34)).alloc (.cells #[.int .i64 0, .nilFunc, .nilFunc, .nilFunc] 61)
  replace qf := (qf.alloc (.cells #[.bool false, .int .i64 0, .int .u32 0] 34)).alloc (.cells #[.int .i64 0, .nilFunc, .nilFunc, .nilFunc] 61)
  replace qx := qx.alloc (.cells #[.int .i64 0, .nilFunc, .nilFunc, .nilFunc] 61)
  have b0 := ((((Bel.refl w).alloc (.cells #[.int .i64 L, .int .u8 kd, .int .u8 fl, .int .i64 st] 23)).alloc (.cells #[.int .u8 0, .int .u8 0, .int .i64 0, .slice none 0 0, .int .i64 0, .int .i64 0, .int .i64 0, .int .u32 0, .slice none 0 0, .bool false, .bool false, .int .i64 0, .int .u8 0] 30)).alloc (.cells #[.bool false, .int .i64 0, .int .u32 0] 34)).alloc (.cells #[.int .i64 0, .nilFunc, .nilFunc, .nilFunc] 61)
  replace h := (((h.alloc (.cells #[.int .i64 L, .int .u8 kd, .int .u8 fl, .int .i64 st] 23)).alloc (.cells #[.int .u8 0, .int .u8 0, .int .i64 0, .slice none 0 0, .int .i64 0, .int .i64 0, .int .i64 0, .int .u32 0, .slice none 0 0, .bool false, .bool false, .int .i64 0, .int .u8 0] 30)).alloc (.cells #[.bool false, .int .i64 0, .int .u32 0] 34)).alloc (.cells #[.int .i64 0, .nilFunc, .nilFunc, .nilFunc] 61)
  simp only [World.size_alloc] at qf qx qk
  have y1 := qh.at 1 rfl; have y2 := qh.at 2 rfl; have y3 := qh.at 3 rfl
  rw [h1] at HR
  clear h1
  go_enter Try.func10, Try.ntmps10
  go_wp2_with fail
  refine wp_scope_hop 1 ?_
  go_wp2_with (first | ((with_reducible refine wp_goto_then rfl ?_)) | ((with_reducible refine wp_goto ?_); refine hop_goto rfl ?_) | ((with_reducible refine wp_label ?_)) | ((with_reducible refine hop_ret ?_)) | ((with_reducible refine wpList_id ?_); refine wpList_putF rfl _ _ _ rfl rfl rfl qh rfl (by rfl) (by rfl) ?_; intro w9 qn hg; simp only [rD, rF, rE] at qn; replace b0 := b0.grown hg (by omega); replace qf := qf.grown hg (by omega); replace qx := qx.grown hg (by omega); replace qk := qk.grown hg (by omega); (try replace h := h.grownP hg (fun hp b o e => by have := hA.out hp b o e; simp; omega)); clear hg qh; have qh := qn; clear qn; (try clear y1 y2 y3); have y1 := qh.at 1 rfl; have y2 := qh.at 2 rfl; have y3 := qh.at 3 rfl; (try clear k0 k1 k2); have k0 := qk.at 0 rfl; have k1 := qk.at 1 rfl; have k2 := qk.at 2 rfl) | (go_at_call 20; (with_reducible refine (fWholeF _ _).mono ?_); rintro e w9 ⟨rfl, hb⟩; replace b0 := b0.below hb; replace qh := qh.below hb; replace qf := qf.below hb; replace qx := qx.below hb; replace qk := qk.below hb; replace h := h.below hb; (try replace HG := Lib.hid fun h0 h1 h4 => (HG.out h0 h1 h4).below hb); clear hb; (try clear y1 y2 y3); have y1 := qh.at 1 rfl; have y2 := qh.at 2 rfl; have y3 := qh.at 3 rfl; (try clear k0 k1 k2); have k0 := qk.at 0 rfl; have k1 := qk.at 1 rfl; have k2 := qk.at 2 rfl) | ((with_reducible refine wpList_id ?_); refine wpList_putB rfl _ _ _ rfl rfl rfl qx (by rfl) (by rfl) (by rfl) ?_; intro w9 qn hg; replace b0 := b0.grown hg (by omega); replace qh := qh.grown hg (by omega); replace qf := qf.grown hg (by omega); replace qk := qk.grown hg (by omega); (try replace h := h.grownP hg (fun hp b o e => by have := hA.out hp b o e; simp; omega)); (try replace HG := Lib.hid fun h0 h1 h4 => (HG.out h0 h1 h4).grown hg (HGn.out h0 h1 h4).2.1); clear hg qx; have qx := qn; clear qn; (try clear y1 y2 y3); have y1 := qh.at 1 rfl; have y2 := qh.at 2 rfl; have y3 := qh.at 3 rfl; (try clear k0 k1 k2); have k0 := qk.at 0 rfl; have k1 := qk.at 1 rfl; have k2 := qk.at 2 rfl) | (go_at_call 29; (with_reducible refine (HR.out _).mono ?_); rintro e w9 ⟨rfl, hb⟩; replace b0 := b0.below hb; replace qh := qh.below hb; replace qf := qf.below hb; replace qx := qx.below hb; replace qk := qk.below hb; replace h := h.below hb; (try replace HG := Lib.hid fun h0 h1 h4 => (HG.out h0 h1 h4).below hb); clear hb; (try clear y1 y2 y3); have y1 := qh.at 1 rfl; have y2 := qh.at 2 rfl; have y3 := qh.at 3 rfl; (try clear k0 k1 k2); have k0 := qk.at 0 rfl; have k1 := qk.at 1 rfl; have k2 := qk.at 2 rfl) | ((with_reducible refine wpList_id ?_); refine wpList_getG (by rfl) _ _ rfl rfl qh Try.underlying23 rfl (by rfl) ?_))
  replace b0 := b0.drew
  replace qf := qf.drew
  replace qx := qx.drew
  (try replace mm := mm.drew)
  (try replace mp := mp.drew)
  refine wp_region_G (fun w' => Blk w' (w.heap.size + 1 + 1) 34 #[.bool true, .int .i64 0, .int .u32 2]) [] (by kernel_rfl) ?_
  have S0 := qx
  refine wpAnyG_take 0 (v := ?_) rfl (by kernel_rfl) (fun _ _ _ h => h) S0 (Or.inl ⟨by rfl, by intro w' hSw; go_simp; try with_reducible rfl⟩) ?_; (try simp only [Act.put, rA, rB, rC, rD, rE, rF])
  refine wpAnyG_take 1 (v := .agg #[.bool true, .int .i64 0, .int .u32 2]) rfl (by kernel_rfl) (fun _ _ _ h => h) S0 (Or.inl ⟨by rfl, by intro w' hSw; exact exec_getB (by rfl) (by rfl) hSw Try.underlying34 rfl (by rfl)⟩) ?_; (try simp only [Act.put, rA, rB, rC, rD, rE, rF])
  clear S0
  refine wpAnyG_one 2 (by kernel_rfl) rfl (fun K hK => ?_)
  rw [if_pos (by rfl)]
  refine wp_putB (cells := #[.int .u8 0, .int .u8 0, .int .i64 0, .slice none 0 0, .int .i64 0, .int .i64 0, .int .i64 0, .int .u32 0, .slice none 0 0, .bool false, .bool false, .int .i64 0, .int .u8 0]) _ _ _ rfl rfl rfl qf (by rfl) (by rfl) (by rfl) ?_
  intro w9 qn hg
  replace b0 := b0.grown hg (by omega)
  (try replace mm := mm.grownB qf (by decide) hg)
  (try replace mp := MineP.grownB mp qf (by decide) hg)
  replace qx := qx.grown hg (by omega)
  clear hg qf; have qf := qn; clear qn
  refine hK.out _ _ (fun _ => qx) ?_
  clear hK K
  (try simp only [Act.put, rA, rB, rC, rD, rE, rF])
  refine wpAnyG_one 3 (by kernel_rfl) rfl (fun K hK => ?_)
  rw [if_pos (by rfl)]
  refine wp_putB (cells := #[.bool true, .int .i64 0, .int .u32 2]) _ _ _ rfl rfl rfl qx (by rfl) (by rfl) (by rfl) ?_
  intro w9 qn hg
  replace b0 := b0.grown hg (by omega)
  (try replace mm := mm.grownB qx (by decide) hg)
  (try replace mp := MineP.grownB mp qx (by decide) hg)
  replace qf := qf.grown hg (by omega)
  clear hg qx; have qx := qn; clear qn
  refine hK.out _ _ (fun _ => qx) ?_
  clear hK K
  (try simp only [Act.put, rA, rB, rC, rD, rE, rF])
  refine wpAnyG_done (by kernel_rfl) ?_ _
  go_wp2_with (first | ((with_reducible refine wp_goto_then rfl ?_)) | ((with_reducible refine wp_goto ?_); refine hop_goto rfl ?_) | ((with_reducible refine wp_label ?_)) | ((with_reducible refine hop_ret ?_)))
  exact res2cc rfl rfl rfl rfl qf Try.underlying30 rfl (by rfl) qx Try.underlying34 rfl (by rfl) ⟨_, _, _, _, _, _, rfl, Mine.nil _ _, MineP.nil _ _, b0.out⟩
set_option maxRecDepth 100000 in
set_option maxHeartbeats 4000000 in
theorem fParse2 (L kd fl st : Int) (A : Option Addr) (n c : Nat) (l : List Int) (w : World) (h : Byt w A n c l) (hn : n ≤ 100000) (hst0 : -9223372036854775808 ≤ st) (hst1 : st ≤ 9223372036854775807) (h1 : okH 0 st = true) (h2 : 16384 < n) : Calls Try.prog 10 #[.agg #[.int .i64 L, .int .u8 kd, .int .u8 fl, .int .i64 st], .slice A n c] w (ParP (Fm0, ⟨true, 0, 6⟩) w) := by
  have HR := Lib.hid fun w => fHRight 0 kd fl st w (by decide) (by decide) hst0 hst1
  have hA : Hid (0 < n → ∀ b o, A = some ⟨b, o, none⟩ → b < w.heap.size) := Lib.hid fun hp b o e => by
    obtain ⟨b', q, e', hlt, _⟩ := h.cell hp
    rw [e] at e'
    cases e'
    exact hlt
  have hl := h.len
  clear hst0 hst1
  have qh := Blk.new w 23 #[.int .i64 L, .int .u8 kd, .int .u8 fl, .int .i64 st]
  have qf := Blk.new (w.alloc (.cells #[.int .i64 L, .int .u8 kd, .int .u8 fl, .int .i64 st] 23)) 30 #[.int .u8 0, .int .u8 0, .int .i64 0, .slice none 0 0, .int .i64 0, .int .i64 0, .int .i64 0, .int .u32 0, .slice none 0 0, .bool false, .bool false, .int .i64 0, .int .u8 0]
  have qx := Blk.new ((w.alloc (.cells #[.int .i64 L, .int .u8 kd, .int .u8 fl, .int .i64 st] 23)).alloc (.cells #[.int .u8 0, .int .u8 0, .int .i64 0, .slice none 0 0, .int .i64 0, .int .i64 0, .int .i64 0, .int .u32 0, .slice none 0 0, .bool false, .bool false, .int .i64 0, .int .u8 0] 30)) 34 #[.bool false, .int .i64 0, .int .u32 0]
  have qk := Blk.new (((w.alloc (.cells #[.int .i64 L, .int .u8 kd, .int .u8 fl, .int .i64 st] 23)).alloc (.cells #[.int .u8 0, .int .u8 0, .int .i64 0, .slice none 0 0, .int .i64 0, .int .i64 0, .int .i64 0, .int .u32 0, .slice none 0 0, .bool false, .bool false, .int .i64 0, .int .u8 0] 30)).alloc (.cells #[.bool false, .int .i64 0, .int .u32 0] 34)) 61 #[.int .i64 0, .nilFunc, .nilFunc, .nilFunc]
  replace qh := ((qh.alloc (.cells #[.int .u8 0, .int .u8 0, .int .i64 0, .slice none 0 0, .int .i64 0, .int .i64 0, .int .i64 0, .int .u32 0, .slice none 0 0, .bool false, .bool false, .int .i64 0, .int .u8 0] 30)).alloc (.cells #[.bool false, .int .i64 0, .int .u32 0] 34)).alloc (.cells #[.int .i64 0, .nilFunc, .nilFunc, .nilFunc] 61)
  replace qf := (qf.alloc (.cells #[.bool false, .int .i64 0, .int .u32 0] 34)).alloc (.cells #[.int .i64 0, .nilFunc, .nilFunc, .nilFunc] 61)
  replace qx := qx.alloc (.cells #[.int .i64 0, .nilFunc, .nilFunc, .nilFunc] 61)
  have b0 := ((((Bel.refl w).alloc (.cells #[.int .i64 L, .int .u8 kd, .int .u8 fl, .int .i64 st] 23)).alloc (.cells #[.int .u8 0, .int .u8 0, .int .i64 0, .slice none 0 0, .int .i64 0, .int .i64 0, .int .i64 0, .int .u32 0, .slice none 0 0, .bool false, .bool false, .int .i64 0, .int .u8 0] 30)).alloc (.cells #[.bool false, .int .i64 0, .int .u32 0] 34)).alloc (.cells #[.int .i64 0, .nilFunc, .nilFunc, .nilFunc] 61)
  replace h := (((h.alloc (.cells #[.int .i64 L, .int .u8 kd, .int .u8 fl, .int .i64 st] 23)).alloc (.cells #[.int .u8 0, .int .u8 0, .int .i64 0, .slice none 0 0, .int .i64 0, .int .i64 0, .int .i64 0, .int .u32 0, .slice none 0 0, .bool false, .bool false, .int .i64 0, .int .u8 0] 30)).alloc (.cells #[.bool false, .int .i64 0, .int .u32 0] 34)).alloc (.cells #[.int .i64 0, .nilFunc, .nilFunc, .nilFunc] 61)
  simp only [World.size_alloc] at qf qx qk
  have y1 := qh.at 1 rfl; have y2 := qh.at 2 rfl; have y3 := qh.at 3 rfl
  rw [h1] at HR
  have e2 : decide ((16384 : Int) < n) = true := decide_eq_true (by omega)
  clear h1 h2
  go_enter Try.func10, Try.ntmps10
  go_wp2_with fail
  refine wp_scope_hop 1 ?_
  go_wp2_with (first | ((with_reducible refine wp_goto_then rfl ?_)) | ((with_reducible refine wp_goto ?_); refine hop_goto rfl ?_) | ((with_reducible refine wp_label ?_)) | ((with_reducible refine hop_ret ?_)) | ((with_reducible refine wpList_id ?_); refine wpList_putF rfl _ _ _ rfl rfl rfl qh rfl (by rfl) (by rfl) ?_; intro w9 qn hg; simp only [rD, rF, rE] at qn; replace b0 := b0.grown hg (by omega); replace qf := qf.grown hg (by omega); replace qx := qx.grown hg (by omega); replace qk := qk.grown hg (by omega); (try replace h := h.grownP hg (fun hp b o e => by have := hA.out hp b o e; simp; omega)); clear hg qh; have qh := qn; clear qn; (try clear y1 y2 y3); have y1 := qh.at 1 rfl; have y2 := qh.at 2 rfl; have y3 := qh.at 3 rfl; (try clear k0 k1 k2); have k0 := qk.at 0 rfl; have k1 := qk.at 1 rfl; have k2 := qk.at 2 rfl) | (go_at_call 20; (with_reducible refine (fWholeF _ _).mono ?_); rintro e w9 ⟨rfl, hb⟩; replace b0 := b0.below hb; replace qh := qh.below hb; replace qf := qf.below hb; replace qx := qx.below hb; replace qk := qk.below hb; replace h := h.below hb; (try replace HG := Lib.hid fun h0 h1 h4 => (HG.out h0 h1 h4).below hb); clear hb; (try clear y1 y2 y3); have y1 := qh.at 1 rfl; have y2 := qh.at 2 rfl; have y3 := qh.at 3 rfl; (try clear k0 k1 k2); have k0 := qk.at 0 rfl; have k1 := qk.at 1 rfl; have k2 := qk.at 2 rfl) | ((with_reducible refine wpList_id ?_); refine wpList_putB rfl _ _ _ rfl rfl rfl qx (by rfl) (by rfl) (by rfl) ?_; intro w9 qn hg; replace b0 := b0.grown hg (by omega); replace qh := qh.grown hg (by omega); replace qf := qf.grown hg (by omega); replace qk := qk.grown hg (by omega); (try replace h := h.grownP hg (fun hp b o e => by have := hA.out hp b o e; simp; omega)); (try replace HG := Lib.hid fun h0 h1 h4 => (HG.out h0 h1 h4).grown hg (HGn.out h0 h1 h4).2.1); clear hg qx; have qx := qn; clear qn; (try clear y1 y2 y3); have y1 := qh.at 1 rfl; have y2 := qh.at 2 rfl; have y3 := qh.at 3 rfl; (try clear k0 k1 k2); have k0 := qk.at 0 rfl; have k1 := qk.at 1 rfl; have k2 := qk.at 2 rfl) | (go_at_call 29; (with_reducible refine (HR.out _).mono ?_); rintro e w9 ⟨rfl, hb⟩; replace b0 := b0.below hb; replace qh := qh.below hb; replace qf := qf.below hb; replace qx := qx.below hb; replace qk := qk.below hb; replace h := h.below hb; (try replace HG := Lib.hid fun h0 h1 h4 => (HG.out h0 h1 h4).below hb); clear hb; (try clear y1 y2 y3); have y1 := qh.at 1 rfl; have y2 := qh.at 2 rfl; have y3 := qh.at 3 rfl; (try clear k0 k1 k2); have k0 := qk.at 0 rfl; have k1 := qk.at 1 rfl; have k2 := qk.at 2 rfl) | ((with_reducible refine wpList_id ?_); refine wpList_getG (by rfl) _ _ rfl rfl qh Try.underlying23 rfl (by rfl) ?_))
  replace b0 := b0.drew
  replace qf := qf.drew
  replace qx := qx.drew
  (try replace mm := mm.drew)
  (try replace mp := mp.drew)
  refine wp_region_G (fun w' => Blk w' (w.heap.size + 1 + 1) 34 #[.bool true, .int .i64 0, .int .u32 6]) [] (by kernel_rfl) ?_
  have S0 := qx
  refine wpAnyG_take 0 (v := ?_) rfl (by kernel_rfl) (fun _ _ _ h => h) S0 (Or.inl ⟨by rfl, by intro w' hSw; go_simp; try with_reducible rfl⟩) ?_; (try simp only [Act.put, rA, rB, rC, rD, rE, rF])
  refine wpAnyG_take 1 (v := .agg #[.bool true, .int .i64 0, .int .u32 6]) rfl (by kernel_rfl) (fun _ _ _ h => h) S0 (Or.inl ⟨by rfl, by intro w' hSw; exact exec_getB (by rfl) (by rfl) hSw Try.underlying34 rfl (by rfl)⟩) ?_; (try simp only [Act.put, rA, rB, rC, rD, rE, rF])
  clear S0
  refine wpAnyG_one 2 (by kernel_rfl) rfl (fun K hK => ?_)
  rw [if_pos (by rfl)]
  refine wp_putB (cells := #[.int .u8 0, .int .u8 0, .int .i64 0, .slice none 0 0, .int .i64 0, .int .i64 0, .int .i64 0, .int .u32 0, .slice none 0 0, .bool false, .bool false, .int .i64 0, .int .u8 0]) _ _ _ rfl rfl rfl qf (by rfl) (by rfl) (by rfl) ?_
  intro w9 qn hg
  replace b0 := b0.grown hg (by omega)
  (try replace mm := mm.grownB qf (by decide) hg)
  (try replace mp := MineP.grownB mp qf (by decide) hg)
  replace qx := qx.grown hg (by omega)
  clear hg qf; have qf := qn; clear qn
  refine hK.out _ _ (fun _ => qx) ?_
  clear hK K
  (try simp only [Act.put, rA, rB, rC, rD, rE, rF])
  refine wpAnyG_one 3 (by kernel_rfl) rfl (fun K hK => ?_)
  rw [if_pos (by rfl)]
  refine wp_putB (cells := #[.bool true, .int .i64 0, .int .u32 6]) _ _ _ rfl rfl rfl qx (by rfl) (by rfl) (by rfl) ?_
  intro w9 qn hg
  replace b0 := b0.grown hg (by omega)
  (try replace mm := mm.grownB qx (by decide) hg)
  (try replace mp := MineP.grownB mp qx (by decide) hg)
  replace qf := qf.grown hg (by omega)
  clear hg qx; have qx := qn; clear qn
  refine hK.out _ _ (fun _ => qx) ?_
  clear hK K
  (try simp only [Act.put, rA, rB, rC, rD, rE, rF])
  refine wpAnyG_done (by kernel_rfl) ?_ _
  go_wp2_with (first | ((with_reducible refine wp_goto_then rfl ?_)) | ((with_reducible refine wp_goto ?_); refine hop_goto rfl ?_) | ((with_reducible refine wp_label ?_)) | ((with_reducible refine hop_ret ?_)))
  exact res2cc rfl rfl rfl rfl qf Try.underlying30 rfl (by rfl) qx Try.underlying34 rfl (by rfl) ⟨_, _, _, _, _, _, rfl, Mine.nil _ _, MineP.nil _ _, b0.out⟩
set_option maxRecDepth 100000 in
set_option maxHeartbeats 4000000 in
theorem fParse3a (L fl st : Int) (A : Option Addr) (n c : Nat) (l : List Int) (w : World) (h : Byt w A n c l) (hn : n ≤ 100000) (hst0 : -9223372036854775808 ≤ st) (hst1 : st ≤ 9223372036854775807) (h1 : okH 0 st = true) (h2 : n ≤ 16384) : Calls Try.prog 10 #[.agg #[.int .i64 L, .int .u8 5, .int .u8 fl, .int .i64 st], .slice A n c] w (ParP (Fm0, ⟨true, 0, 1⟩) w) := by
  have HR := Lib.hid fun w => fHRight 0 5 fl st w (by decide) (by decide) hst0 hst1
  have hA : Hid (0 < n → ∀ b o, A = some ⟨b, o, none⟩ → b < w.heap.size) := Lib.hid fun hp b o e => by
    obtain ⟨b', q, e', hlt, _⟩ := h.cell hp
    rw [e] at e'
    cases e'
    exact hlt
  have hl := h.len
  clear hst0 hst1
  have qh := Blk.new w 23 #[.int .i64 L, .int .u8 5, .int .u8 fl, .int .i64 st]
  have qf := Blk.new (w.alloc (.cells #[.int .i64 L, .int .u8 5, .int .u8 fl, .int .i64 st] 23)) 30 #[.int .u8 0, .int .u8 0, .int .i64 0, .slice none 0 0, .int .i64 0, .int .i64 0, .int .i64 0, .int .u32 0, .slice none 0 0, .bool false, .bool false, .int .i64 0, .int .u8 0]
  have qx := Blk.new ((w.alloc (.cells #[.int .i64 L, .int .u8 5, .int .u8 fl, .int .i64 st] 23)).alloc (.cells #[.int .u8 0, .int .u8 0, .int .i64 0, .slice none 0 0, .int .i64 0, .int .i64 0, .int .i64 0, .int .u32 0, .slice none 0 0, .bool false, .bool false, .int .i64 0, .int .u8 0] 30)) 34 #[.bool false, .int .i64 0, .int .u32 0]
  have qk := Blk.new (((w.alloc (.cells #[.int .i64 L, .int .u8 5, .int .u8 fl, .int .i64 st] 23)).alloc (.cells #[.int .u8 0, .int .u8 0, .int .i64 0, .slice none 0 0, .int .i64 0, .int .i64 0, .int .i64 0, .int .u32 0, .slice none 0 0, .bool false, .bool false, .int .i64 0, .int .u8 0] 30)).alloc (.cells #[.bool false, .int .i64 0, .int .u32 0] 34)) 61 #[.int .i64 0, .nilFunc, .nilFunc, .nilFunc]
  replace qh := ((qh.alloc (.cells #[.int .u8 0, .int .u8 0, .int .i64 0, .slice none 0 0, .int .i64 0, .int .i64 0, .int .i64 0, .int .u32 0, .slice none 0 0, .bool false, .bool false, .int .i64 0, .int .u8 0] 30)).alloc (.cells #[.bool false, .int .i64 0, .int .u32 0] 34)).alloc (.cells #[.int .i64 0, .nilFunc, .nilFunc, .nilFunc] 61)
  replace qf := (qf.alloc (.cells #[.bool false, .int .i64 0, .int .u32 0] 34)).alloc (.cells #[.int .i64 0, .nilFunc, .nilFunc, .nilFunc] 61)
  replace qx := qx.alloc (.cells #[.int .i64 0, .nilFunc, .nilFunc, .nilFunc] 61)
  have b0 := ((((Bel.refl w).alloc (.cells #[.int .i64 L, .int .u8 5, .int .u8 fl, .int .i64 st] 23)).alloc (.cells #[.int .u8 0, .int .u8 0, .int .i64 0, .slice none 0 0, .int .i64 0, .int .i64 0, .int .i64 0, .int .u32 0, .slice none 0 0, .bool false, .bool false, .int .i64 0, .int .u8 0] 30)).alloc (.cells #[.bool false, .int .i64 0, .int .u32 0] 34)).alloc (.cells #[.int .i64 0, .nilFunc, .nilFunc, .nilFunc] 61)
  replace h := (((h.alloc (.cells #[.int .i64 L, .int .u8 5, .int .u8 fl, .int .i64 st] 23)).alloc (.cells #[.int .u8 0, .int .u8 0, .int .i64 0, .slice none 0 0, .int .i64 0, .int .i64 0, .int .i64 0, .int .u32 0, .slice none 0 0, .bool false, .bool false, .int .i64 0, .int .u8 0] 30)).alloc (.cells #[.bool false, .int .i64 0, .int .u32 0] 34)).alloc (.cells #[.int .i64 0, .nilFunc, .nilFunc, .nilFunc] 61)
  simp only [World.size_alloc] at qf qx qk
  have y1 := qh.at 1 rfl; have y2 := qh.at 2 rfl; have y3 := qh.at 3 rfl
  rw [h1] at HR
  have HKn := Lib.hid fun w => fKnownK 5 w
  have hcl := longFEnters 5
  have hcr := readFEnters 5
  have e2 : decide ((16384 : Int) < n) = false := decide_eq_false (by omega)
  clear h1 h2
  go_enter Try.func10, Try.ntmps10
  go_wp2_with fail
  refine wp_scope_hop 1 ?_
  go_upto_region 9 with (first | ((with_reducible refine wp_goto_then rfl ?_)) | ((with_reducible refine wp_goto ?_); refine hop_goto rfl ?_) | ((with_reducible refine wp_label ?_)) | ((with_reducible refine hop_ret ?_)) | ((with_reducible refine wpList_id ?_); refine wpList_putF rfl _ _ _ rfl rfl rfl qh rfl (by rfl) (by rfl) ?_; intro w9 qn hg; simp only [rD, rF, rE] at qn; replace b0 := b0.grown hg (by omega); replace qf := qf.grown hg (by omega); replace qx := qx.grown hg (by omega); replace qk := qk.grown hg (by omega); (try replace h := h.grownP hg (fun hp b o e => by have := hA.out hp b o e; simp; omega)); clear hg qh; have qh := qn; clear qn; (try clear y1 y2 y3); have y1 := qh.at 1 rfl; have y2 := qh.at 2 rfl; have y3 := qh.at 3 rfl; (try clear k0 k1 k2); have k0 := qk.at 0 rfl; have k1 := qk.at 1 rfl; have k2 := qk.at 2 rfl) | (go_at_call 20; (with_reducible refine (fWholeF _ _).mono ?_); rintro e w9 ⟨rfl, hb⟩; replace b0 := b0.below hb; replace qh := qh.below hb; replace qf := qf.below hb; replace qx := qx.below hb; replace qk := qk.below hb; replace h := h.below hb; (try replace HG := Lib.hid fun h0 h1 h4 => (HG.out h0 h1 h4).below hb); clear hb; (try clear y1 y2 y3); have y1 := qh.at 1 rfl; have y2 := qh.at 2 rfl; have y3 := qh.at 3 rfl; (try clear k0 k1 k2); have k0 := qk.at 0 rfl; have k1 := qk.at 1 rfl; have k2 := qk.at 2 rfl) | ((with_reducible refine wpList_id ?_); refine wpList_putB rfl _ _ _ rfl rfl rfl qx (by rfl) (by rfl) (by rfl) ?_; intro w9 qn hg; replace b0 := b0.grown hg (by omega); replace qh := qh.grown hg (by omega); replace qf := qf.grown hg (by omega); replace qk := qk.grown hg (by omega); (try replace h := h.grownP hg (fun hp b o e => by have := hA.out hp b o e; simp; omega)); (try replace HG := Lib.hid fun h0 h1 h4 => (HG.out h0 h1 h4).grown hg (HGn.out h0 h1 h4).2.1); clear hg qx; have qx := qn; clear qn; (try clear y1 y2 y3); have y1 := qh.at 1 rfl; have y2 := qh.at 2 rfl; have y3 := qh.at 3 rfl; (try clear k0 k1 k2); have k0 := qk.at 0 rfl; have k1 := qk.at 1 rfl; have k2 := qk.at 2 rfl) | (go_at_call 29; (with_reducible refine (HR.out _).mono ?_); rintro e w9 ⟨rfl, hb⟩; replace b0 := b0.below hb; replace qh := qh.below hb; replace qf := qf.below hb; replace qx := qx.below hb; replace qk := qk.below hb; replace h := h.below hb; (try replace HG := Lib.hid fun h0 h1 h4 => (HG.out h0 h1 h4).below hb); clear hb; (try clear y1 y2 y3); have y1 := qh.at 1 rfl; have y2 := qh.at 2 rfl; have y3 := qh.at 3 rfl; (try clear k0 k1 k2); have k0 := qk.at 0 rfl; have k1 := qk.at 1 rfl; have k2 := qk.at 2 rfl) | ((with_reducible refine wpList_id ?_); refine wpList_getG (by rfl) _ _ rfl rfl qh Try.underlying23 rfl (by rfl) ?_) | (go_at_call 30; (with_reducible refine (HKn.out _).mono ?_); rintro e w9 ⟨gk, rfl, HG0, hb⟩; replace b0 := b0.below hb; replace qh := qh.below hb; replace qf := qf.below hb; replace qx := qx.below hb; replace qk := qk.below hb; replace h := h.below hb; clear hb; (try clear y1 y2 y3); have y1 := qh.at 1 rfl; have y2 := qh.at 2 rfl; have y3 := qh.at 3 rfl; (try clear k0 k1 k2); have k0 := qk.at 0 rfl; have k1 := qk.at 1 rfl; have k2 := qk.at 2 rfl; have HGn := Lib.hid fun h0 h1 h4 => And.intro ((HG0 h0 h1 h4).ne qf (by decide)) (And.intro ((HG0 h0 h1 h4).ne qx (by decide)) ((HG0 h0 h1 h4).ne qk (by decide))); have HG := Lib.hid HG0; clear HG0; unfold kindA) | ((with_reducible refine wpList_id ?_); refine wpList_putB rfl _ _ _ rfl rfl rfl qk (by rfl) (by rfl) (by rfl) ?_; intro w9 qn hg; replace b0 := b0.grown hg (by omega); replace qh := qh.grown hg (by omega); replace qf := qf.grown hg (by omega); replace qx := qx.grown hg (by omega); (try replace h := h.grownP hg (fun hp b o e => by have := hA.out hp b o e; simp; omega)); (try replace HG := Lib.hid fun h0 h1 h4 => (HG.out h0 h1 h4).grown hg (HGn.out h0 h1 h4).2.2); clear hg qk; have qk := qn; clear qn; (try clear y1 y2 y3); have y1 := qh.at 1 rfl; have y2 := qh.at 2 rfl; have y3 := qh.at 3 rfl; (try clear k0 k1 k2); have k0 := qk.at 0 rfl; have k1 := qk.at 1 rfl; have k2 := qk.at 2 rfl) | ((with_reducible refine wpList_id ?_); refine wpList_putB rfl _ _ _ rfl rfl rfl qf (by rfl) (by rfl) (by rfl) ?_; intro w9 qn hg; replace b0 := b0.grown hg (by omega); replace qh := qh.grown hg (by omega); replace qx := qx.grown hg (by omega); replace qk := qk.grown hg (by omega); (try replace h := h.grownP hg (fun hp b o e => by have := hA.out hp b o e; simp; omega)); (try replace HG := Lib.hid fun h0 h1 h4 => (HG.out h0 h1 h4).grown hg (HGn.out h0 h1 h4).1); clear hg qf; have qf := qn; clear qn; (try clear y1 y2 y3); have y1 := qh.at 1 rfl; have y2 := qh.at 2 rfl; have y3 := qh.at 3 rfl; (try clear k0 k1 k2); have k0 := qk.at 0 rfl; have k1 := qk.at 1 rfl; have k2 := qk.at 2 rfl))
  go_wp2_with (first | ((with_reducible refine wp_goto_then rfl ?_)) | ((with_reducible refine wp_goto ?_); refine hop_goto rfl ?_) | ((with_reducible refine wp_label ?_)) | ((with_reducible refine hop_ret ?_)))
  replace b0 := b0.drew
  replace qf := qf.drew
  replace qx := qx.drew
  (try replace mm := mm.drew)
  (try replace mp := mp.drew)
  refine wp_region_G (fun w' => Blk w' (w.heap.size + 1 + 1) 34 #[.bool true, .int .i64 0, .int .u32 1]) [] (by kernel_rfl) ?_
  have S0 := qx
  refine wpAnyG_take 0 (v := ?_) rfl (by kernel_rfl) (fun _ _ _ h => h) S0 (Or.inl ⟨by rfl, by intro w' hSw; go_simp; try with_reducible rfl⟩) ?_; (try simp only [Act.put, rA, rB, rC, rD, rE, rF])
  refine wpAnyG_take 1 (v := .agg #[.bool true, .int .i64 0, .int .u32 1]) rfl (by kernel_rfl) (fun _ _ _ h => h) S0 (Or.inl ⟨by rfl, by intro w' hSw; exact exec_getB (by rfl) (by rfl) hSw Try.underlying34 rfl (by rfl)⟩) ?_; (try simp only [Act.put, rA, rB, rC, rD, rE, rF])
  clear S0
  refine wpAnyG_one 2 (by kernel_rfl) rfl (fun K hK => ?_)
  rw [if_pos (by rfl)]
  refine wp_putB (cells := #[.int .u8 0, .int .u8 0, .int .i64 0, .slice none 0 0, .int .i64 0, .int .i64 0, .int .i64 0, .int .u32 0, .slice none 0 0, .bool false, .bool false, .int .i64 0, .int .u8 0]) _ _ _ rfl rfl rfl qf (by rfl) (by rfl) (by rfl) ?_
  intro w9 qn hg
  replace b0 := b0.grown hg (by omega)
  (try replace mm := mm.grownB qf (by decide) hg)
  (try replace mp := MineP.grownB mp qf (by decide) hg)
  replace qx := qx.grown hg (by omega)
  clear hg qf; have qf := qn; clear qn
  refine hK.out _ _ (fun _ => qx) ?_
  clear hK K
  (try simp only [Act.put, rA, rB, rC, rD, rE, rF])
  refine wpAnyG_one 3 (by kernel_rfl) rfl (fun K hK => ?_)
  rw [if_pos (by rfl)]
  refine wp_putB (cells := #[.bool true, .int .i64 0, .int .u32 1]) _ _ _ rfl rfl rfl qx (by rfl) (by rfl) (by rfl) ?_
  intro w9 qn hg
  replace b0 := b0.grown hg (by omega)
  (try replace mm := mm.grownB qx (by decide) hg)
  (try replace mp := MineP.grownB mp qx (by decide) hg)
  replace qf := qf.grown hg (by omega)
  clear hg qx; have qx := qn; clear qn
  refine hK.out _ _ (fun _ => qx) ?_
  clear hK K
  (try simp only [Act.put, rA, rB, rC, rD, rE, rF])
  refine wpAnyG_done (by kernel_rfl) ?_ _
  go_wp2_with (first | ((with_reducible refine wp_goto_then rfl ?_)) | ((with_reducible refine wp_goto ?_); refine hop_goto rfl ?_) | ((with_reducible refine wp_label ?_)) | ((with_reducible refine hop_ret ?_)))
  exact res2cc rfl rfl rfl rfl qf Try.underlying30 rfl (by rfl) qx Try.underlying34 rfl (by rfl) ⟨_, _, _, _, _, _, rfl, Mine.nil _ _, MineP.nil _ _, b0.out⟩
set_option maxRecDepth 100000 in
set_option maxHeartbeats 4000000 in
theorem fParse3b (L kd fl : Int) (A : Option Addr) (n c : Nat) (l : List Int) (w : World) (h : Byt w A n c l) (hn : n ≤ 100000)  (h1 : okH 0 0 = true) (h2 : n ≤ 16384) (f0 : (kd == 5) = false) (f1 : (ofK kd == 1) = true) : Calls Try.prog 10 #[.agg #[.int .i64 L, .int .u8 kd, .int .u8 fl, .int .i64 0], .slice A n c] w (ParP (Fm0, ⟨true, 0, 1⟩) w) := by
  have HR := Lib.hid fun w => fHRight 0 kd fl 0 w (by decide) (by decide) (by decide) (by decide)
  have hA : Hid (0 < n → ∀ b o, A = some ⟨b, o, none⟩ → b < w.heap.size) := Lib.hid fun hp b o e => by
    obtain ⟨b', q, e', hlt, _⟩ := h.cell hp
    rw [e] at e'
    cases e'
    exact hlt
  have hl := h.len
  skip
  have qh := Blk.new w 23 #[.int .i64 L, .int .u8 kd, .int .u8 fl, .int .i64 0]
  have qf := Blk.new (w.alloc (.cells #[.int .i64 L, .int .u8 kd, .int .u8 fl, .int .i64 0] 23)) 30 #[.int .u8 0, .int .u8 0, .int .i64 0, .slice none 0 0, .int .i64 0, .int .i64 0, .int .i64 0, .int .u32 0, .slice none 0 0, .bool false, .bool false, .int .i64 0, .int .u8 0]
  have qx := Blk.new ((w.alloc (.cells #[.int .i64 L, .int .u8 kd, .int .u8 fl, .int .i64 0] 23)).alloc (.cells #[.int .u8 0, .int .u8 0, .int .i64 0, .slice none 0 0, .int .i64 0, .int .i64 0, .int .i64 0, .int .u32 0, .slice none 0 0, .bool false, .bool false, .int .i64 0, .int .u8 0] 30)) 34 #[.bool false, .int .i64 0, .int .u32 0]
  have qk := Blk.new (((w.alloc (.cells #[.int .i64 L, .int .u8 kd, .int .u8 fl, .int .i64 0] 23)).alloc (.cells #[.int .u8 0, .int .u8 0, .int .i64 0, .slice none 0 0, .int .i64 0, .int .i64 0, .int .i64 0, .int .u32 0, .slice none 0 0, .bool false, .bool false, .int .i64 0, .int .u8 0] 30)).alloc (.cells #[.bool false, .int .i64 0, .int .u32 0] 34)) 61 #[.int .i64 0, .nilFunc, .nilFunc, .nilFunc]
  replace qh := ((qh.alloc (.cells #[.int .u8 0, .int .u8 0, .int .i64 0, .slice none 0 0, .int .i64 0, .int .i64 0, .int .i64 0, .int .u32 0, .slice none 0 0, .bool false, .bool false, .int .i64 0, .int .u8 0] 30)).alloc (.cells #[.bool false, .int .i64 0, .int .u32 0] 34)).alloc (.cells #[.int .i64 0, .nilFunc, .nilFunc, .nilFunc] 61)
  replace qf := (qf.alloc (.cells #[.bool false, .int .i64 0, .int .u32 0] 34)).alloc (.cells #[.int .i64 0, .nilFunc, .nilFunc, .nilFunc] 61)
  replace qx := qx.alloc (.cells #[.int .i64 0, .nilFunc, .nilFunc, .nilFunc] 61)
  have b0 := ((((Bel.refl w).alloc (.cells #[.int .i64 L, .int .u8 kd, .int .u8 fl, .int .i64 0] 23)).alloc (.cells #[.int .u8 0, .int .u8 0, .int .i64 0, .slice none 0 0, .int .i64 0, .int .i64 0, .int .i64 0, .int .u32 0, .slice none 0 0, .bool false, .bool false, .int .i64 0, .int .u8 0] 30)).alloc (.cells #[.bool false, .int .i64 0, .int .u32 0] 34)).alloc (.cells #[.int .i64 0, .nilFunc, .nilFunc, .nilFunc] 61)
  replace h := (((h.alloc (.cells #[.int .i64 L, .int .u8 kd, .int .u8 fl, .int .i64 0] 23)).alloc (.cells #[.int .u8 0, .int .u8 0, .int .i64 0, .slice none 0 0, .int .i64 0, .int .i64 0, .int .i64 0, .int .u32 0, .slice none 0 0, .bool false, .bool false, .int .i64 0, .int .u8 0] 30)).alloc (.cells #[.bool false, .int .i64 0, .int .u32 0] 34)).alloc (.cells #[.int .i64 0, .nilFunc, .nilFunc, .nilFunc] 61)
  simp only [World.size_alloc] at qf qx qk
  have y1 := qh.at 1 rfl; have y2 := qh.at 2 rfl; have y3 := qh.at 3 rfl
  rw [h1] at HR
  have HKn := Lib.hid fun w => fKnownK kd w
  have hcl := longFEnters kd
  have hcr := readFEnters kd
  have e2 : decide ((16384 : Int) < n) = false := decide_eq_false (by omega)
  clear h1 h2
  go_enter Try.func10, Try.ntmps10
  go_wp2_with fail
  refine wp_scope_hop 1 ?_
  go_upto_region 9 with (first | ((with_reducible refine wp_goto_then rfl ?_)) | ((with_reducible refine wp_goto ?_); refine hop_goto rfl ?_) | ((with_reducible refine wp_label ?_)) | ((with_reducible refine hop_ret ?_)) | ((with_reducible refine wpList_id ?_); refine wpList_putF rfl _ _ _ rfl rfl rfl qh rfl (by rfl) (by rfl) ?_; intro w9 qn hg; simp only [rD, rF, rE] at qn; replace b0 := b0.grown hg (by omega); replace qf := qf.grown hg (by omega); replace qx := qx.grown hg (by omega); replace qk := qk.grown hg (by omega); (try replace h := h.grownP hg (fun hp b o e => by have := hA.out hp b o e; simp; omega)); clear hg qh; have qh := qn; clear qn; (try clear y1 y2 y3); have y1 := qh.at 1 rfl; have y2 := qh.at 2 rfl; have y3 := qh.at 3 rfl; (try clear k0 k1 k2); have k0 := qk.at 0 rfl; have k1 := qk.at 1 rfl; have k2 := qk.at 2 rfl) | (go_at_call 20; (with_reducible refine (fWholeF _ _).mono ?_); rintro e w9 ⟨rfl, hb⟩; replace b0 := b0.below hb; replace qh := qh.below hb; replace qf := qf.below hb; replace qx := qx.below hb; replace qk := qk.below hb; replace h := h.below hb; (try replace HG := Lib.hid fun h0 h1 h4 => (HG.out h0 h1 h4).below hb); clear hb; (try clear y1 y2 y3); have y1 := qh.at 1 rfl; have y2 := qh.at 2 rfl; have y3 := qh.at 3 rfl; (try clear k0 k1 k2); have k0 := qk.at 0 rfl; have k1 := qk.at 1 rfl; have k2 := qk.at 2 rfl) | ((with_reducible refine wpList_id ?_); refine wpList_putB rfl _ _ _ rfl rfl rfl qx (by rfl) (by rfl) (by rfl) ?_; intro w9 qn hg; replace b0 := b0.grown hg (by omega); replace qh := qh.grown hg (by omega); replace qf := qf.grown hg (by omega); replace qk := qk.grown hg (by omega); (try replace h := h.grownP hg (fun hp b o e => by have := hA.out hp b o e; simp; omega)); (try replace HG := Lib.hid fun h0 h1 h4 => (HG.out h0 h1 h4).grown hg (HGn.out h0 h1 h4).2.1); clear hg qx; have qx := qn; clear qn; (try clear y1 y2 y3); have y1 := qh.at 1 rfl; have y2 := qh.at 2 rfl; have y3 := qh.at 3 rfl; (try clear k0 k1 k2); have k0 := qk.at 0 rfl; have k1 := qk.at 1 rfl; have k2 := qk.at 2 rfl) | (go_at_call 29; (with_reducible refine (HR.out _).mono ?_); rintro e w9 ⟨rfl, hb⟩; replace b0 := b0.below hb; replace qh := qh.below hb; replace qf := qf.below hb; replace qx := qx.below hb; replace qk := qk.below hb; replace h := h.below hb; (try replace HG := Lib.hid fun h0 h1 h4 => (HG.out h0 h1 h4).below hb); clear hb; (try clear y1 y2 y3); have y1 := qh.at 1 rfl; have y2 := qh.at 2 rfl; have y3 := qh.at 3 rfl; (try clear k0 k1 k2); have k0 := qk.at 0 rfl; have k1 := qk.at 1 rfl; have k2 := qk.at 2 rfl) | ((with_reducible refine wpList_id ?_); refine wpList_getG (by rfl) _ _ rfl rfl qh Try.underlying23 rfl (by rfl) ?_) | (go_at_call 30; (with_reducible refine (HKn.out _).mono ?_); rintro e w9 ⟨gk, rfl, HG0, hb⟩; replace b0 := b0.below hb; replace qh := qh.below hb; replace qf := qf.below hb; replace qx := qx.below hb; replace qk := qk.below hb; replace h := h.below hb; clear hb; (try clear y1 y2 y3); have y1 := qh.at 1 rfl; have y2 := qh.at 2 rfl; have y3 := qh.at 3 rfl; (try clear k0 k1 k2); have k0 := qk.at 0 rfl; have k1 := qk.at 1 rfl; have k2 := qk.at 2 rfl; have HGn := Lib.hid fun h0 h1 h4 => And.intro ((HG0 h0 h1 h4).ne qf (by decide)) (And.intro ((HG0 h0 h1 h4).ne qx (by decide)) ((HG0 h0 h1 h4).ne qk (by decide))); have HG := Lib.hid HG0; clear HG0; unfold kindA) | ((with_reducible refine wpList_id ?_); refine wpList_putB rfl _ _ _ rfl rfl rfl qk (by rfl) (by rfl) (by rfl) ?_; intro w9 qn hg; replace b0 := b0.grown hg (by omega); replace qh := qh.grown hg (by omega); replace qf := qf.grown hg (by omega); replace qx := qx.grown hg (by omega); (try replace h := h.grownP hg (fun hp b o e => by have := hA.out hp b o e; simp; omega)); (try replace HG := Lib.hid fun h0 h1 h4 => (HG.out h0 h1 h4).grown hg (HGn.out h0 h1 h4).2.2); clear hg qk; have qk := qn; clear qn; (try clear y1 y2 y3); have y1 := qh.at 1 rfl; have y2 := qh.at 2 rfl; have y3 := qh.at 3 rfl; (try clear k0 k1 k2); have k0 := qk.at 0 rfl; have k1 := qk.at 1 rfl; have k2 := qk.at 2 rfl) | ((with_reducible refine wpList_id ?_); refine wpList_putB rfl _ _ _ rfl rfl rfl qf (by rfl) (by rfl) (by rfl) ?_; intro w9 qn hg; replace b0 := b0.grown hg (by omega); replace qh := qh.grown hg (by omega); replace qx := qx.grown hg (by omega); replace qk := qk.grown hg (by omega); (try replace h := h.grownP hg (fun hp b o e => by have := hA.out hp b o e; simp; omega)); (try replace HG := Lib.hid fun h0 h1 h4 => (HG.out h0 h1 h4).grown hg (HGn.out h0 h1 h4).1); clear hg qf; have qf := qn; clear qn; (try clear y1 y2 y3); have y1 := qh.at 1 rfl; have y2 := qh.at 2 rfl; have y3 := qh.at 3 rfl; (try clear k0 k1 k2); have k0 := qk.at 0 rfl; have k1 := qk.at 1 rfl; have k2 := qk.at 2 rfl))
  go_wp2_with (first | ((with_reducible refine wp_goto_then rfl ?_)) | ((with_reducible refine wp_goto ?_); refine hop_goto rfl ?_) | ((with_reducible refine wp_label ?_)) | ((with_reducible refine hop_ret ?_)))
  replace b0 := b0.drew
  replace qf := qf.drew
  replace qx := qx.drew
  (try replace mm := mm.drew)
  (try replace mp := mp.drew)
  refine wp_region_G (fun w' => Blk w' (w.heap.size + 1 + 1) 34 #[.bool true, .int .i64 0, .int .u32 1]) [] (by kernel_rfl) ?_
  have S0 := qx
  refine wpAnyG_take 0 (v := ?_) rfl (by kernel_rfl) (fun _ _ _ h => h) S0 (Or.inl ⟨by rfl, by intro w' hSw; go_simp; try with_reducible rfl⟩) ?_; (try simp only [Act.put, rA, rB, rC, rD, rE, rF])
  refine wpAnyG_take 1 (v := .agg #[.bool true, .int .i64 0, .int .u32 1]) rfl (by kernel_rfl) (fun _ _ _ h => h) S0 (Or.inl ⟨by rfl, by intro w' hSw; exact exec_getB (by rfl) (by rfl) hSw Try.underlying34 rfl (by rfl)⟩) ?_; (try simp only [Act.put, rA, rB, rC, rD, rE, rF])
  clear S0
  refine wpAnyG_one 2 (by kernel_rfl) rfl (fun K hK => ?_)
  rw [if_pos (by rfl)]
  refine wp_putB (cells := #[.int .u8 0, .int .u8 0, .int .i64 0, .slice none 0 0, .int .i64 0, .int .i64 0, .int .i64 0, .int .u32 0, .slice none 0 0, .bool false, .bool false, .int .i64 0, .int .u8 0]) _ _ _ rfl rfl rfl qf (by rfl) (by rfl) (by rfl) ?_
  intro w9 qn hg
  replace b0 := b0.grown hg (by omega)
  (try replace mm := mm.grownB qf (by decide) hg)
  (try replace mp := MineP.grownB mp qf (by decide) hg)
  replace qx := qx.grown hg (by omega)
  clear hg qf; have qf := qn; clear qn
  refine hK.out _ _ (fun _ => qx) ?_
  clear hK K
  (try simp only [Act.put, rA, rB, rC, rD, rE, rF])
  refine wpAnyG_one 3 (by kernel_rfl) rfl (fun K hK => ?_)
  rw [if_pos (by rfl)]
  refine wp_putB (cells := #[.bool true, .int .i64 0, .int .u32 1]) _ _ _ rfl rfl rfl qx (by rfl) (by rfl) (by rfl) ?_
  intro w9 qn hg
  replace b0 := b0.grown hg (by omega)
  (try replace mm := mm.grownB qx (by decide) hg)
  (try replace mp := MineP.grownB mp qx (by decide) hg)
  replace qf := qf.grown hg (by omega)
  clear hg qx; have qx := qn; clear qn
  refine hK.out _ _ (fun _ => qx) ?_
  clear hK K
  (try simp only [Act.put, rA, rB, rC, rD, rE, rF])
  refine wpAnyG_done (by kernel_rfl) ?_ _
  go_wp2_with (first | ((with_reducible refine wp_goto_then rfl ?_)) | ((with_reducible refine wp_goto ?_); refine hop_goto rfl ?_) | ((with_reducible refine wp_label ?_)) | ((with_reducible refine hop_ret ?_)))
  exact res2cc rfl rfl rfl rfl qf Try.underlying30 rfl (by rfl) qx Try.underlying34 rfl (by rfl) ⟨_, _, _, _, _, _, rfl, Mine.nil _ _, MineP.nil _ _, b0.out⟩
set_option maxRecDepth 100000 in
set_option maxHeartbeats 4000000 in
theorem fParse3c (L kd fl st : Int) (A : Option Addr) (n c : Nat) (l : List Int) (w : World) (h : Byt w A n c l) (hn : n ≤ 100000) (hst0 : -9223372036854775808 ≤ st) (hst1 : st ≤ 9223372036854775807) (h1 : okH 0 st = true) (h2 : n ≤ 16384) (f0 : (kd == 5) = false) (f1 : (ofK kd == 1) = false) (f2 : (ofK kd == 2) = true) (f3 : (st == 0) = false) (f4 : (st != 0) = true) : Calls Try.prog 10 #[.agg #[.int .i64 L, .int .u8 kd, .int .u8 fl, .int .i64 st], .slice A n c] w (ParP (Fm0, ⟨true, 0, 1⟩) w) := by
  have HR := Lib.hid fun w => fHRight 0 kd fl st w (by decide) (by decide) hst0 hst1
  have hA : Hid (0 < n → ∀ b o, A = some ⟨b, o, none⟩ → b < w.heap.size) := Lib.hid fun hp b o e => by
    obtain ⟨b', q, e', hlt, _⟩ := h.cell hp
    rw [e] at e'
    cases e'
    exact hlt
  have hl := h.len
  clear hst0 hst1
  have qh := Blk.new w 23 #[.int .i64 L, .int .u8 kd, .int .u8 fl, .int .i64 st]
  have qf := Blk.new (w.alloc (.cells #[.int .i64 L, .int .u8 kd, .int .u8 fl, .int .i64 st] 23)) 30 #[.int .u8 0, .int .u8 0, .int .i64 0, .slice none 0 0, .int .i64 0, .int .i64 0, .int .i64 0, .int .u32 0, .slice none 0 0, .bool false, .bool false, .int .i64 0, .int .u8 0]
  have qx := Blk.new ((w.alloc (.cells #[.int .i64 L, .int .u8 kd, .int .u8 fl, .int .i64 st] 23)).alloc (.cells #[.int .u8 0, .int .u8 0, .int .i64 0, .slice none 0 0, .int .i64 0, .int .i64 0, .int .i64 0, .int .u32 0, .slice none 0 0, .bool false, .bool false, .int .i64 0, .int .u8 0] 30)) 34 #[.bool false, .int .i64 0, .int .u32 0]
  have qk := Blk.new (((w.alloc (.cells #[.int .i64 L, .int .u8 kd, .int .u8 fl, .int .i64 st] 23)).alloc (.cells #[.int .u8 0, .int .u8 0, .int .i64 0, .slice none 0 0, .int .i64 0, .int .i64 0, .int .i64 0, .int .u32 0, .slice none 0 0, .bool false, .bool false, .int .i64 0, .int .u8 0] 30)).alloc (.cells #[.bool false, .int .i64 0, .int .u32 0] 34)) 61 #[.int .i64 0, .nilFunc, .nilFunc, .nilFunc]
  replace qh := ((qh.alloc (.cells #[.int .u8 0, .int .u8 0, .int .i64 0, .slice none 0 0, .int .i64 0, .int .i64 0, .int .i64 0, .int .u32 0, .slice none 0 0, .bool false, .bool false, .int .i64 0, .int .u8 0] 30)).alloc (.cells #[.bool false, .int .i64 0, .int .u32 0] 34)).alloc (.cells #[.int .i64 0, .nilFunc, .nilFunc, .nilFunc] 61)
  replace qf := (qf.alloc (.cells #[.bool false, .int .i64 0, .int .u32 0] 34)).alloc (.cells #[.int .i64 0, .nilFunc, .nilFunc, .nilFunc] 61)
  replace qx := qx.alloc (.cells #[.int .i64 0, .nilFunc, .nilFunc, .nilFunc] 61)
  have b0 := ((((Bel.refl w).alloc (.cells #[.int .i64 L, .int .u8 kd, .int .u8 fl, .int .i64 st] 23)).alloc (.cells #[.int .u8 0, .int .u8 0, .int .i64 0, .slice none 0 0, .int .i64 0, .int .i64 0, .int .i64 0, .int .u32 0, .slice none 0 0, .bool false, .bool false, .int .i64 0, .int .u8 0] 30)).alloc (.cells #[.bool false, .int .i64 0, .int .u32 0] 34)).alloc (.cells #[.int .i64 0, .nilFunc, .nilFunc, .nilFunc] 61)
  replace h := (((h.alloc (.cells #[.int .i64 L, .int .u8 kd, .int .u8 fl, .int .i64 st] 23)).alloc (.cells #[.int .u8 0, .int .u8 0, .int .i64 0, .slice none 0 0, .int .i64 0, .int .i64 0, .int .i64 0, .int .u32 0, .slice none 0 0, .bool false, .bool false, .int .i64 0, .int .u8 0] 30)).alloc (.cells #[.bool false, .int .i64 0, .int .u32 0] 34)).alloc (.cells #[.int .i64 0, .nilFunc, .nilFunc, .nilFunc] 61)
  simp only [World.size_alloc] at qf qx qk
  have y1 := qh.at 1 rfl; have y2 := qh.at 2 rfl; have y3 := qh.at 3 rfl
  rw [h1] at HR
  have HKn := Lib.hid fun w => fKnownK kd w
  have hcl := longFEnters kd
  have hcr := readFEnters kd
  have e2 : decide ((16384 : Int) < n) = false := decide_eq_false (by omega)
  clear h1 h2
  go_enter Try.func10, Try.ntmps10
  go_wp2_with fail
  refine wp_scope_hop 1 ?_
  go_upto_region 9 with (first | ((with_reducible refine wp_goto_then rfl ?_)) | ((with_reducible refine wp_goto ?_); refine hop_goto rfl ?_) | ((with_reducible refine wp_label ?_)) | ((with_reducible refine hop_ret ?_)) | ((with_reducible refine wpList_id ?_); refine wpList_putF rfl _ _ _ rfl rfl rfl qh rfl (by rfl) (by rfl) ?_; intro w9 qn hg; simp only [rD, rF, rE] at qn; replace b0 := b0.grown hg (by omega); replace qf := qf.grown hg (by omega); replace qx := qx.grown hg (by omega); replace qk := qk.grown hg (by omega); (try replace h := h.grownP hg (fun hp b o e => by have := hA.out hp b o e; simp; omega)); clear hg qh; have qh := qn; clear qn; (try clear y1 y2 y3); have y1 := qh.at 1 rfl; have y2 := qh.at 2 rfl; have y3 := qh.at 3 rfl; (try clear k0 k1 k2); have k0 := qk.at 0 rfl; have k1 := qk.at 1 rfl; have k2 := qk.at 2 rfl) | (go_at_call 20; (with_reducible refine (fWholeF _ _).mono ?_); rintro e w9 ⟨rfl, hb⟩; replace b0 := b0.below hb; replace qh := qh.below hb; replace qf := qf.below hb; replace qx := qx.below hb; replace qk := qk.below hb; replace h := h.below hb; (try replace HG := Lib.hid fun h0 h1 h4 => (HG.out h0 h1 h4).below hb); clear hb; (try clear y1 y2 y3); have y1 := qh.at 1 rfl; have y2 := qh.at 2 rfl; have y3 := qh.at 3 rfl; (try clear k0 k1 k2); have k0 := qk.at 0 rfl; have k1 := qk.at 1 rfl; have k2 := qk.at 2 rfl) | ((with_reducible refine wpList_id ?_); refine wpList_putB rfl _ _ _ rfl rfl rfl qx (by rfl) (by rfl) (by rfl) ?_; intro w9 qn hg; replace b0 := b0.grown hg (by omega); replace qh := qh.grown hg (by omega); replace qf := qf.grown hg (by omega); replace qk := qk.grown hg (by omega); (try replace h := h.grownP hg (fun hp b o e => by have := hA.out hp b o e; simp; omega)); (try replace HG := Lib.hid fun h0 h1 h4 => (HG.out h0 h1 h4).grown hg (HGn.out h0 h1 h4).2.1); clear hg qx; have qx := qn; clear qn; (try clear y1 y2 y3); have y1 := qh.at 1 rfl; have y2 := qh.at 2 rfl; have y3 := qh.at 3 rfl; (try clear k0 k1 k2); have k0 := qk.at 0 rfl; have k1 := qk.at 1 rfl; have k2 := qk.at 2 rfl) | (go_at_call 29; (with_reducible refine (HR.out _).mono ?_); rintro e w9 ⟨rfl, hb⟩; replace b0 := b0.below hb; replace qh := qh.below hb; replace qf := qf.below hb; replace qx := qx.below hb; replace qk := qk.below hb; replace h := h.below hb; (try replace HG := Lib.hid fun h0 h1 h4 => (HG.out h0 h1 h4).below hb); clear hb; (try clear y1 y2 y3); have y1 := qh.at 1 rfl; have y2 := qh.at 2 rfl; have y3 := qh.at 3 rfl; (try clear k0 k1 k2); have k0 := qk.at 0 rfl; have k1 := qk.at 1 rfl; have k2 := qk.at 2 rfl) | ((with_reducible refine wpList_id ?_); refine wpList_getG (by rfl) _ _ rfl rfl qh Try.underlying23 rfl (by rfl) ?_) | (go_at_call 30; (with_reducible refine (HKn.out _).mono ?_); rintro e w9 ⟨gk, rfl, HG0, hb⟩; replace b0 := b0.below hb; replace qh := qh.below hb; replace qf := qf.below hb; replace qx := qx.below hb; replace qk := qk.below hb; replace h := h.below hb; clear hb; (try clear y1 y2 y3); have y1 := qh.at 1 rfl; have y2 := qh.at 2 rfl; have y3 := qh.at 3 rfl; (try clear k0 k1 k2); have k0 := qk.at 0 rfl; have k1 := qk.at 1 rfl; have k2 := qk.at 2 rfl; have HGn := Lib.hid fun h0 h1 h4 => And.intro ((HG0 h0 h1 h4).ne qf (by decide)) (And.intro ((HG0 h0 h1 h4).ne qx (by decide)) ((HG0 h0 h1 h4).ne qk (by decide))); have HG := Lib.hid HG0; clear HG0; unfold kindA) | ((with_reducible refine wpList_id ?_); refine wpList_putB rfl _ _ _ rfl rfl rfl qk (by rfl) (by rfl) (by rfl) ?_; intro w9 qn hg; replace b0 := b0.grown hg (by omega); replace qh := qh.grown hg (by omega); replace qf := qf.grown hg (by omega); replace qx := qx.grown hg (by omega); (try replace h := h.grownP hg (fun hp b o e => by have := hA.out hp b o e; simp; omega)); (try replace HG := Lib.hid fun h0 h1 h4 => (HG.out h0 h1 h4).grown hg (HGn.out h0 h1 h4).2.2); clear hg qk; have qk := qn; clear qn; (try clear y1 y2 y3); have y1 := qh.at 1 rfl; have y2 := qh.at 2 rfl; have y3 := qh.at 3 rfl; (try clear k0 k1 k2); have k0 := qk.at 0 rfl; have k1 := qk.at 1 rfl; have k2 := qk.at 2 rfl) | ((with_reducible refine wpList_id ?_); refine wpList_putB rfl _ _ _ rfl rfl rfl qf (by rfl) (by rfl) (by rfl) ?_; intro w9 qn hg; replace b0 := b0.grown hg (by omega); replace qh := qh.grown hg (by omega); replace qx := qx.grown hg (by omega); replace qk := qk.grown hg (by omega); (try replace h := h.grownP hg (fun hp b o e => by have := hA.out hp b o e; simp; omega)); (try replace HG := Lib.hid fun h0 h1 h4 => (HG.out h0 h1 h4).grown hg (HGn.out h0 h1 h4).1); clear hg qf; have qf := qn; clear qn; (try clear y1 y2 y3); have y1 := qh.at 1 rfl; have y2 := qh.at 2 rfl; have y3 := qh.at 3 rfl; (try clear k0 k1 k2); have k0 := qk.at 0 rfl; have k1 := qk.at 1 rfl; have k2 := qk.at 2 rfl))
  go_wp2_with (first | ((with_reducible refine wp_goto_then rfl ?_)) | ((with_reducible refine wp_goto ?_); refine hop_goto rfl ?_) | ((with_reducible refine wp_label ?_)) | ((with_reducible refine hop_ret ?_)))
  replace b0 := b0.drew
  replace qf := qf.drew
  replace qx := qx.drew
  (try replace mm := mm.drew)
  (try replace mp := mp.drew)
  refine wp_region_G (fun w' => Blk w' (w.heap.size + 1 + 1) 34 #[.bool true, .int .i64 0, .int .u32 1]) [] (by kernel_rfl) ?_
  have S0 := qx
  refine wpAnyG_take 0 (v := ?_) rfl (by kernel_rfl) (fun _ _ _ h => h) S0 (Or.inl ⟨by rfl, by intro w' hSw; go_simp; try with_reducible rfl⟩) ?_; (try simp only [Act.put, rA, rB, rC, rD, rE, rF])
  refine wpAnyG_take 1 (v := .agg #[.bool true, .int .i64 0, .int .u32 1]) rfl (by kernel_rfl) (fun _ _ _ h => h) S0 (Or.inl ⟨by rfl, by intro w' hSw; exact exec_getB (by rfl) (by rfl) hSw Try.underlying34 rfl (by rfl)⟩) ?_; (try simp only [Act.put, rA, rB, rC, rD, rE, rF])
  clear S0
  refine wpAnyG_one 2 (by kernel_rfl) rfl (fun K hK => ?_)
  rw [if_pos (by rfl)]
  refine wp_putB (cells := #[.int .u8 0, .int .u8 0, .int .i64 0, .slice none 0 0, .int .i64 0, .int .i64 0, .int .i64 0, .int .u32 0, .slice none 0 0, .bool false, .bool false, .int .i64 0, .int .u8 0]) _ _ _ rfl rfl rfl qf (by rfl) (by rfl) (by rfl) ?_
  intro w9 qn hg
  replace b0 := b0.grown hg (by omega)
  (try replace mm := mm.grownB qf (by decide) hg)
  (try replace mp := MineP.grownB mp qf (by decide) hg)
  replace qx := qx.grown hg (by omega)
  clear hg qf; have qf := qn; clear qn
  refine hK.out _ _ (fun _ => qx) ?_
  clear hK K
  (try simp only [Act.put, rA, rB, rC, rD, rE, rF])
  refine wpAnyG_one 3 (by kernel_rfl) rfl (fun K hK => ?_)
  rw [if_pos (by rfl)]
  refine wp_putB (cells := #[.bool true, .int .i64 0, .int .u32 1]) _ _ _ rfl rfl rfl qx (by rfl) (by rfl) (by rfl) ?_
  intro w9 qn hg
  replace b0 := b0.grown hg (by omega)
  (try replace mm := mm.grownB qx (by decide) hg)
  (try replace mp := MineP.grownB mp qx (by decide) hg)
  replace qf := qf.grown hg (by omega)
  clear hg qx; have qx := qn; clear qn
  refine hK.out _ _ (fun _ => qx) ?_
  clear hK K
  (try simp only [Act.put, rA, rB, rC, rD, rE, rF])
  refine wpAnyG_done (by kernel_rfl) ?_ _
  go_wp2_with (first | ((with_reducible refine wp_goto_then rfl ?_)) | ((with_reducible refine wp_goto ?_); refine hop_goto rfl ?_) | ((with_reducible refine wp_label ?_)) | ((with_reducible refine hop_ret ?_)))
  exact res2cc rfl rfl rfl rfl qf Try.underlying30 rfl (by rfl) qx Try.underlying34 rfl (by rfl) ⟨_, _, _, _, _, _, rfl, Mine.nil _ _, MineP.nil _ _, b0.out⟩
end Go.Proofs.Ytnjnpnjjpodnnaa
