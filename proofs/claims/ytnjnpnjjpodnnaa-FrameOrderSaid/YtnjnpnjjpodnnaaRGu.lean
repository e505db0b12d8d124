/- Frames put: the contracts. -/
import Derived.Test.YtnjnpnjjpodnnaaRGt
import Derived.Test.YtnjnpnjjpodnnaaRGtr
import Derived.Test.YtnjnpnjjpodnnaaRGy
namespace Go.Proofs.Ytnjnpnjjpodnnaa
open Go.RowKit Go.Shelf
set_option linter.unusedVariables false
set_option linter.unusedSimpArgs false

theorem putS_no {f : Fm} (h : rightS f = false) : putS f = [] ∧ putSe f = 2 := by
  unfold putS putSe
  rw [h]
  exact ⟨rfl, rfl⟩
theorem putS_yes {f : Fm} (h : rightS f = true) : putS f = putH (payS f).length f.kd f.fl f.st ++ payS f ∧ putSe f = 0 := by
  unfold putS putSe
  rw [h]
  exact ⟨rfl, rfl⟩
theorem putH_len {L k f s : Int} : (putH L k f s).length ≤ 9 := by
  unfold putH
  split
  · simp [bigE_len]
  · simp
set_option maxRecDepth 100000 in
set_option maxHeartbeats 4000000 in
theorem fPutF (f : Fm) (hf : FmOk f) (A : Option Addr) (n c : Nat) (P : Option Addr) (pn pc : Nat) (w : World) (h : Byt w A n c f.da) (hn : n ≤ 90000) (hp : Prs w P pn pc f.prs) (hpn : pn ≤ 10000) : Calls Try.prog 12 #[.agg #[.int .u8 (f).kd, .int .u8 (f).fl, .int .i64 (f).st, .slice A n c, .int .i64 (f).pd, .int .i64 (f).la, .int .i64 (f).ic, .int .u32 (f).cd, .slice P pn pc, .bool (f).rk, .bool (f).al, .int .i64 (f).dp, .int .u8 (f).wt]] w (BytP (putS f) (putSe f) w) := by
  have H0 := Lib.hid h
  have P0 := Lib.hid hp
  have RT := Lib.hid fun w h hp => fRight f hf A n c P pn pc w h hn hp hpn
  have PT := Lib.hid fun w h hp => fPuts f hf A n c P pn pc w h (by omega) hp (by omega)
  have HKn := Lib.hid fun w => fKnownK f.kd w
  have hcp := putFEnters f.kd
  have HP := Lib.hid fun (L : Nat) (hL : L ≤ 16384) w => fHPut L f.kd f.fl f.st w (by omega) (by omega) hf.st.1 hf.st.2 hf.kd hf.fl
  clear h hp hn hpn hf
  have b0 := (Bel.refl w).alloc (.cells #[.int .u8 (f).kd, .int .u8 (f).fl, .int .i64 (f).st, .slice A n c, .int .i64 (f).pd, .int .i64 (f).la, .int .i64 (f).ic, .int .u32 (f).cd, .slice P pn pc, .bool (f).rk, .bool (f).al, .int .i64 (f).dp, .int .u8 (f).wt] 30)
  have q := Blk.new w 30 #[.int .u8 (f).kd, .int .u8 (f).fl, .int .i64 (f).st, .slice A n c, .int .i64 (f).pd, .int .i64 (f).la, .int .i64 (f).ic, .int .u32 (f).cd, .slice P pn pc, .bool (f).rk, .bool (f).al, .int .i64 (f).dp, .int .u8 (f).wt]
  cases hr : rightS f
  · obtain ⟨e1, e2⟩ := putS_no hr
    rw [hr] at RT
    rw [e1, e2]
    clear hr e1 e2 PT HP HKn hcp
    go_enter Try.func12, Try.ntmps12
    go_wp2_with (first | (refine wpList_getB rfl _ _ rfl rfl q Try.underlying30 rfl (by rfl) ?_) | (go_at_call 16; (with_reducible refine (RT.out _ (H0.out.below b0.out) (P0.out.below b0.out)).mono ?_); rintro e w9 ⟨rfl, hb⟩; replace b0 := b0.below hb; replace q := q.below hb; clear hb))
    go_ret2
    exact ⟨_, _, _, rfl, Mine.nil _ _, b0.out⟩
  · obtain ⟨e1, e2⟩ := putS_yes hr
    obtain ⟨_, hl, ho⟩ := right_parse hr
    have e3 : putHe (payS f).length f.st = 0 := by unfold putHe; rw [ho]; rfl
    have HL := Lib.hid hl
    have HE := Lib.hid e3
    rw [hr] at RT
    rw [e1, e2]
    clear hr e1 e2 ho hl e3
    go_enter Try.func12, Try.ntmps12
    go_upto_region 3 with (first | (refine wpList_getB rfl _ _ rfl rfl q Try.underlying30 rfl (by rfl) ?_) | (go_at_call 16; (with_reducible refine (RT.out _ (H0.out.below b0.out) (P0.out.below b0.out)).mono ?_); rintro e w9 ⟨rfl, hb⟩; replace b0 := b0.below hb; replace q := q.below hb; clear hb))
    replace b0 := b0.drew
    replace q := q.drew
    refine wp_region_G (fun w' => Blk w' w.heap.size 30 #[.int .u8 (f).kd, .int .u8 (f).fl, .int .i64 (f).st, .slice A n c, .int .i64 (f).pd, .int .i64 (f).la, .int .i64 (f).ic, .int .u32 (f).cd, .slice P pn pc, .bool (f).rk, .bool (f).al, .int .i64 (f).dp, .int .u8 (f).wt]) [] (by kernel_rfl) ?_
    have S0 := q
    refine wpAnyG_take 0 (v := ?_) rfl (by kernel_rfl) (fun _ _ _ h => h) S0 (Or.inl ⟨by rfl, by intro w' hSw; go_simp; try with_reducible rfl⟩) ?_; (try simp only [Act.put, rA, rB, rC, rD, rE, rF])
    refine wpAnyG_take 1 (v := ?_) rfl (by kernel_rfl) (fun _ _ _ h => h) S0 (Or.inl ⟨by rfl, by intro w' hSw; have z0 := hSw.at 0 rfl; go_simp; try with_reducible rfl⟩) ?_; (try simp only [Act.put, rA, rB, rC, rD, rE, rF])
    refine wpAnyG_take 4 (v := .agg #[.int .u8 (f).kd, .int .u8 (f).fl, .int .i64 (f).st, .slice A n c, .int .i64 (f).pd, .int .i64 (f).la, .int .i64 (f).ic, .int .u32 (f).cd, .slice P pn pc, .bool (f).rk, .bool (f).al, .int .i64 (f).dp, .int .u8 (f).wt]) rfl (by kernel_rfl) (fun _ _ _ h => h) S0 (Or.inl ⟨by rfl, by intro w' hSw; exact exec_getB (by rfl) (by rfl) hSw Try.underlying30 rfl (by rfl)⟩) ?_; (try simp only [Act.put, rA, rB, rC, rD, rE, rF])
    clear S0
    refine wpAnyG_one 2 (by kernel_rfl) rfl (fun K hK => ?_)
    rw [if_pos (by rfl)]
    go_simp
    (with_reducible refine (HKn.out _).mono ?_)
    rintro e w9 ⟨gk, rfl, HG0, hb⟩
    replace b0 := b0.below hb
    replace q := q.below hb
    clear hb HG0
    unfold kindA
    have hfl : ∀ W, (Instr.field 61 (.agg #[.int .i64 (ofK f.kd), .func (.func (longF f.kd)) #[] (longB f.kd gk), .func (.func (readF f.kd)) #[] #[], .func (.func (putF f.kd)) #[] #[]]) 3).run Try.prog W = .ok (.func (.func (putF f.kd)) #[] #[]) W := fun W => by kernel_rfl
    (try go_simp)
    refine hK.out _ _ (fun _ => q) ?_
    clear hK K
    (try simp only [Act.put, rA, rB, rC, rD, rE, rF])
    have S0 := q
    refine wpAnyG_take 3 (v := ?_) rfl (by kernel_rfl) (fun _ _ _ h => h) S0 (Or.inl ⟨by rfl, by intro w' hSw; go_simp; try with_reducible rfl⟩) ?_; (try simp only [Act.put, rA, rB, rC, rD, rE, rF])
    clear S0
    refine wpAnyG_one 5 (by kernel_rfl) rfl (fun K hK => ?_)
    rw [if_pos (by rfl)]
    go_simp
    (with_reducible refine (PT.out _ (H0.out.below b0.out) (P0.out.below b0.out)).mono ?_)
    rintro e w9 ⟨A2, n2, c2, rfl, k2, hb⟩
    replace k2 := k2.base_le b0.out.size
    replace b0 := b0.below hb
    replace q := q.below hb
    clear hb
    (try go_simp)
    refine hK.out _ _ (fun _ => q) ?_
    clear hK K
    (try simp only [Act.put, rA, rB, rC, rD, rE, rF])
    have S0 := q
    refine wpAnyG_take 6 (v := ?_) rfl (by kernel_rfl) (fun _ _ _ h => h) S0 (Or.inl ⟨by rfl, by intro w' hSw; go_simp; try with_reducible rfl⟩) ?_; (try simp only [Act.put, rA, rB, rC, rD, rE, rF])
    clear S0
    refine wpAnyG_done (by kernel_rfl) ?_ _
    have z0 := q.at 0 rfl
    have z1 := q.at 1 rfl
    have z2 := q.at 2 rfl
    clear hcp
    go_wp2_with (first | (go_at_call 36; (with_reducible refine (HP.out n2 (by have := HL.out; have := k2.len; omega) _).mono ?_); rintro e w9 ⟨⟨A3, n3, c3, rfl, k3⟩, hb⟩; replace k3 := k3.base_le b0.out.size; replace k2 := k2.below hb; replace b0 := b0.below hb; replace q := q.below hb; clear hb) | (at_builtin; refine wpList_app _ rfl (.tmp 29) (.tmp 30) rfl w.heap.size A3 n3 c3 _ rfl k3 A2 n2 c2 _ rfl k2.byt (by have := HL.out; have := putH_len (L := (n2 : Int)) (k := f.kd) (f := f.fl) (s := f.st); omega) (Nat.le_trans (by simp) b0.out.size) ?_; intro A4 c4 w9 k4 hb _ _; replace b0 := b0.stepB hb (Nat.le_refl _); clear hb))
    go_ret2
    have hk := k2.len
    have hE := HE.out
    rw [hk] at hE ⊢
    rw [hE]
    exact ⟨_, _, _, rfl, k4, b0.out⟩
end Go.Proofs.Ytnjnpnjjpodnnaa
