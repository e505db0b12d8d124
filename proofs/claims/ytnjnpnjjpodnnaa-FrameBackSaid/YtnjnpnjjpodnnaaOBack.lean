/- FrameBack: what is put is parsed: the walk. -/
import Derived.Test.YtnjnpnjjpodnnaaOGz
import Derived.Test.YtnjnpnjjpodnnaaOGn
import Derived.Test.YtnjnpnjjpodnnaaOGu
import Derived.Test.YtnjnpnjjpodnnaaOGwk
namespace Go.Proofs.Ytnjnpnjjpodnnaa
open Go.RowKit Go.Shelf
set_option linter.unusedVariables false
set_option linter.unusedSimpArgs false

section
variable {W : World}
set_option maxRecDepth 100000 in
set_option maxHeartbeats 4000000 in
theorem bBig (f : Fm) (Af : Option Addr) (nf cf : Nat) (Pf : Option Addr) (pnf pcf : Nat) (hf : FmOk f) (bf : Byt W Af nf cf f.da) (pf : Prs W Pf pnf pcf f.prs) (g1 : 3000 < nf ∨ 300 < pnf) :
    Calls Try.prog 4 #[.agg #[.int .u8 (f).kd, .int .u8 (f).fl, .int .i64 (f).st, .slice Af nf cf, .int .i64 (f).pd, .int .i64 (f).la, .int .i64 (f).ic, .int .u32 (f).cd, .slice Pf pnf pcf, .bool (f).rk, .bool (f).al, .int .i64 (f).dp, .int .u8 (f).wt]] W fun e w' => e = .returned (.bool true) ∧ Below W.heap.size W w' := by
  have cnf := Nat.le_trans bf.cap bf.mx
  have cpf := Nat.le_trans pf.cap pf.mx
  have Gf := Lib.hid fun w => rGreatF f Af nf cf Pf pnf pcf w cnf cpf true (by have := g1; simp only [Bool.or_eq_true, decide_eq_true_eq]; omega)
  have b0 := (Bel.refl W).alloc (.cells #[.int .u8 (f).kd, .int .u8 (f).fl, .int .i64 (f).st, .slice Af nf cf, .int .i64 (f).pd, .int .i64 (f).la, .int .i64 (f).ic, .int .u32 (f).cd, .slice Pf pnf pcf, .bool (f).rk, .bool (f).al, .int .i64 (f).dp, .int .u8 (f).wt] 30)
  have qf := Blk.new W 30 #[.int .u8 (f).kd, .int .u8 (f).fl, .int .i64 (f).st, .slice Af nf cf, .int .i64 (f).pd, .int .i64 (f).la, .int .i64 (f).ic, .int .u32 (f).cd, .slice Pf pnf pcf, .bool (f).rk, .bool (f).al, .int .i64 (f).dp, .int .u8 (f).wt]
  clear g1 bf pf hf
  go_enter Try.func4, Try.ntmps4
  go_wp2_with (first | ((with_reducible refine wpList_id ?_); refine wpList_getG (by rfl) _ _ rfl rfl qf Try.underlying30 rfl (by rfl) ?_) | (go_at_call 8; (with_reducible refine (Gf.out _).mono ?_); rintro e w9 ⟨rfl, hb⟩; replace b0 := b0.below hb; replace qf := qf.below hb; clear hb) | (go_at_call 9; (with_reducible refine (fWakes _).mono ?_); rintro e w9 ⟨rfl, hb⟩; replace b0 := b0.below hb))
  go_ret
  exact ⟨rfl, b0.out⟩
set_option maxRecDepth 100000 in
set_option maxHeartbeats 4000000 in
theorem bNo (f : Fm) (Af : Option Addr) (nf cf : Nat) (Pf : Option Addr) (pnf pcf : Nat) (hf : FmOk f) (bf : Byt W Af nf cf f.da) (pf : Prs W Pf pnf pcf f.prs) (g1 : nf ≤ 3000 ∧ pnf ≤ 300) (hr : rightS f = false) :
    Calls Try.prog 4 #[.agg #[.int .u8 (f).kd, .int .u8 (f).fl, .int .i64 (f).st, .slice Af nf cf, .int .i64 (f).pd, .int .i64 (f).la, .int .i64 (f).ic, .int .u32 (f).cd, .slice Pf pnf pcf, .bool (f).rk, .bool (f).al, .int .i64 (f).dp, .int .u8 (f).wt]] W fun e w' => e = .returned (.bool true) ∧ Below W.heap.size W w' := by
  have cnf := Nat.le_trans bf.cap bf.mx
  have cpf := Nat.le_trans pf.cap pf.mx
  have Gf := Lib.hid fun w => rGreatF f Af nf cf Pf pnf pcf w cnf cpf false (by have := g1; simp only [Bool.or_eq_false_iff, decide_eq_false_iff_not]; omega)
  have UF := Lib.hid fun w h hp => fPutF f hf Af nf cf Pf pnf pcf w h (by omega) hp (by omega)
  have RT := Lib.hid fun w h hp => fRight f hf Af nf cf Pf pnf pcf w h (by omega) hp (by omega)
  rw [hr] at RT
  rw [(putS_no hr).1, (putS_no hr).2] at UF
  have HF := Lib.hid bf
  have HP := Lib.hid pf
  have b0 := (Bel.refl W).alloc (.cells #[.int .u8 (f).kd, .int .u8 (f).fl, .int .i64 (f).st, .slice Af nf cf, .int .i64 (f).pd, .int .i64 (f).la, .int .i64 (f).ic, .int .u32 (f).cd, .slice Pf pnf pcf, .bool (f).rk, .bool (f).al, .int .i64 (f).dp, .int .u8 (f).wt] 30)
  have qf := Blk.new W 30 #[.int .u8 (f).kd, .int .u8 (f).fl, .int .i64 (f).st, .slice Af nf cf, .int .i64 (f).pd, .int .i64 (f).la, .int .i64 (f).ic, .int .u32 (f).cd, .slice Pf pnf pcf, .bool (f).rk, .bool (f).al, .int .i64 (f).dp, .int .u8 (f).wt]
  clear g1 bf pf hf hr
  go_enter Try.func4, Try.ntmps4
  go_upto_region 4 with (first | ((with_reducible refine wpList_id ?_); refine wpList_getG (by rfl) _ _ rfl rfl qf Try.underlying30 rfl (by rfl) ?_) | (go_at_call 8; (with_reducible refine (Gf.out _).mono ?_); rintro e w9 ⟨rfl, hb⟩; replace b0 := b0.below hb; replace qf := qf.below hb; clear hb) | (go_at_call 12; (with_reducible refine (UF.out _ (HF.out.below b0.out) (HP.out.below b0.out)).mono ?_); rintro e w9 ⟨A3, n3, c3, rfl, k3, hb⟩; replace b0 := b0.below hb; replace qf := qf.below hb; clear hb))
  obtain rfl : n3 = 0 := by simpa using k3.len.symm
  go_wp2_with (first | ((with_reducible refine wpList_id ?_); refine wpList_getG (by rfl) _ _ rfl rfl qf Try.underlying30 rfl (by rfl) ?_) | (go_at_call 16; (with_reducible refine (RT.out _ (HF.out.below b0.out) (HP.out.below b0.out)).mono ?_); rintro e w9 ⟨rfl, hb⟩; replace b0 := b0.below hb; replace qf := qf.below hb; clear hb) | (go_at_call 9; (with_reducible refine (fWakes _).mono ?_); rintro e w9 ⟨rfl, hb⟩; replace b0 := b0.below hb))
  go_ret
  exact ⟨rfl, b0.out⟩
set_option maxRecDepth 100000 in
set_option maxHeartbeats 4000000 in
theorem bYes (f : Fm) (Af : Option Addr) (nf cf : Nat) (Pf : Option Addr) (pnf pcf : Nat) (hf : FmOk f) (bf : Byt W Af nf cf f.da) (pf : Prs W Pf pnf pcf f.prs) (g1 : nf ≤ 3000 ∧ pnf ≤ 300) (hr : rightS f = true) :
    Calls Try.prog 4 #[.agg #[.int .u8 (f).kd, .int .u8 (f).fl, .int .i64 (f).st, .slice Af nf cf, .int .i64 (f).pd, .int .i64 (f).la, .int .i64 (f).ic, .int .u32 (f).cd, .slice Pf pnf pcf, .bool (f).rk, .bool (f).al, .int .i64 (f).dp, .int .u8 (f).wt]] W fun e w' => e = .returned (.bool true) ∧ Below W.heap.size W w' := by
  have cnf := Nat.le_trans bf.cap bf.mx
  have cpf := Nat.le_trans pf.cap pf.mx
  have Gf := Lib.hid fun w => rGreatF f Af nf cf Pf pnf pcf w cnf cpf false (by have := g1; simp only [Bool.or_eq_false_iff, decide_eq_false_iff_not]; omega)
  have UF := Lib.hid fun w h hp => fPutF f hf Af nf cf Pf pnf pcf w h (by omega) hp (by omega)
  have RT := Lib.hid fun w h hp => fRight f hf Af nf cf Pf pnf pcf w h (by omega) hp (by omega)
  rw [hr] at RT
  rw [(putS_yes hr).2] at UF
  have HF := Lib.hid bf
  have HP := Lib.hid pf
  obtain ⟨t1, t2, t3, t4, t5, t6, t7, t8⟩ := put_taken hr hf
  obtain ⟨rp, rl, ro⟩ := right_parse hr
  obtain ⟨hLn, hLe⟩ : ∃ x, hL (putS f) = x := ⟨_, rfl⟩
  have WH := Lib.hid fun A n c w h hn => rHWhole A n c (putS f) w h hn
  unfold WholeP at WH
  rw [hLe, t2, t3, t4, t5, t6, t7] at WH
  have HL := Lib.hid t8
  have HN := Lib.hid rl
  have PF := Lib.hid fun A n c w h hn => fParse hLn f.kd f.fl f.st A n c (payS f) w h hn hf.st.1 hf.st.2 hf.fl.1 hf.fl.2
  rw [rp] at PF
  have SX := Lib.hid fun B m d Q qn qc w h1 h2 h3 h4 => rSameF f f B m d Q qn qc Af nf cf Pf pnf pcf w h1 h2 h3 h4
  rw [show sameF f f = true from decide_eq_true rfl] at SX
  have b0 := (Bel.refl W).alloc (.cells #[.int .u8 (f).kd, .int .u8 (f).fl, .int .i64 (f).st, .slice Af nf cf, .int .i64 (f).pd, .int .i64 (f).la, .int .i64 (f).ic, .int .u32 (f).cd, .slice Pf pnf pcf, .bool (f).rk, .bool (f).al, .int .i64 (f).dp, .int .u8 (f).wt] 30)
  have qf := Blk.new W 30 #[.int .u8 (f).kd, .int .u8 (f).fl, .int .i64 (f).st, .slice Af nf cf, .int .i64 (f).pd, .int .i64 (f).la, .int .i64 (f).ic, .int .u32 (f).cd, .slice Pf pnf pcf, .bool (f).rk, .bool (f).al, .int .i64 (f).dp, .int .u8 (f).wt]
  clear g1 bf pf hf hr t1 t2 t3 t4 t5 t6 t7 t8 rp rl ro hLe
  go_enter Try.func4, Try.ntmps4
  go_wp2_with (first | ((with_reducible refine wpList_id ?_); refine wpList_getG (by rfl) _ _ rfl rfl qf Try.underlying30 rfl (by rfl) ?_) | (go_at_call 8; (with_reducible refine (Gf.out _).mono ?_); rintro e w9 ⟨rfl, hb⟩; replace b0 := b0.below hb; replace qf := qf.below hb; clear hb) | (go_at_call 12; (with_reducible refine (UF.out _ (HF.out.below b0.out) (HP.out.below b0.out)).mono ?_); rintro e w9 ⟨A3, n3, c3, rfl, k3, hb⟩; replace b0 := b0.below hb; replace qf := qf.below hb; clear hb) | (go_at_call 16; (with_reducible refine (RT.out _ (HF.out.below b0.out) (HP.out.below b0.out)).mono ?_); rintro e w9 ⟨rfl, hb⟩; replace b0 := b0.below hb; replace qf := qf.below hb; replace k3 := k3.below hb; clear hb))
  refine (WH.out _ _ _ _ k3.byt (by have := k3.len; have := HL.out; have := HN.out; omega)).mono ?_
  rintro e wh ⟨⟨A4, n4, c4, A5, n5, c5, rfl, k4, k5⟩, hb⟩
  replace b0 := b0.below hb
  replace qf := qf.below hb
  clear hb
  obtain rfl : n5 = 0 := by simpa using k5.len.symm
  clear k5 k3
  replace b0 := b0.alloc (.cells #[.int .i64 hLn, .int .u8 f.kd, .int .u8 f.fl, .int .i64 f.st] 23)
  replace qf := qf.alloc (.cells #[.int .i64 hLn, .int .u8 f.kd, .int .u8 f.fl, .int .i64 f.st] 23)
  replace k4 := k4.alloc (.cells #[.int .i64 hLn, .int .u8 f.kd, .int .u8 f.fl, .int .i64 f.st] 23)
  have qh := Blk.new wh 23 #[.int .i64 hLn, .int .u8 f.kd, .int .u8 f.fl, .int .i64 f.st]
  go_wp2_with (first | ((with_reducible refine wpList_id ?_); refine wpList_getG (by rfl) _ _ rfl rfl qh Try.underlying23 rfl (by rfl) ?_))
  refine (PF.out _ _ _ _ k4.byt (by have := k4.len; have := HN.out; omega)).mono ?_
  rintro e wx ⟨B, m, d, Q, qn, qc, rfl, mm, mp, hb⟩
  replace b0 := b0.below hb
  replace qf := qf.below hb
  replace qh := qh.below hb
  clear hb k4
  replace b0 := (b0.alloc (.cells #[.int .u8 (f).kd, .int .u8 (f).fl, .int .i64 (f).st, .slice B m d, .int .i64 (f).pd, .int .i64 (f).la, .int .i64 (f).ic, .int .u32 (f).cd, .slice Q qn qc, .bool (f).rk, .bool (f).al, .int .i64 (f).dp, .int .u8 (f).wt] 30)).alloc (.cells #[.bool false, .int .i64 0, .int .u32 0] 34)
  replace qf := (qf.alloc (.cells #[.int .u8 (f).kd, .int .u8 (f).fl, .int .i64 (f).st, .slice B m d, .int .i64 (f).pd, .int .i64 (f).la, .int .i64 (f).ic, .int .u32 (f).cd, .slice Q qn qc, .bool (f).rk, .bool (f).al, .int .i64 (f).dp, .int .u8 (f).wt] 30)).alloc (.cells #[.bool false, .int .i64 0, .int .u32 0] 34)
  replace qh := (qh.alloc (.cells #[.int .u8 (f).kd, .int .u8 (f).fl, .int .i64 (f).st, .slice B m d, .int .i64 (f).pd, .int .i64 (f).la, .int .i64 (f).ic, .int .u32 (f).cd, .slice Q qn qc, .bool (f).rk, .bool (f).al, .int .i64 (f).dp, .int .u8 (f).wt] 30)).alloc (.cells #[.bool false, .int .i64 0, .int .u32 0] 34)
  replace mm := (mm.alloc (.cells #[.int .u8 (f).kd, .int .u8 (f).fl, .int .i64 (f).st, .slice B m d, .int .i64 (f).pd, .int .i64 (f).la, .int .i64 (f).ic, .int .u32 (f).cd, .slice Q qn qc, .bool (f).rk, .bool (f).al, .int .i64 (f).dp, .int .u8 (f).wt] 30)).alloc (.cells #[.bool false, .int .i64 0, .int .u32 0] 34)
  replace mp := (mp.alloc (.cells #[.int .u8 (f).kd, .int .u8 (f).fl, .int .i64 (f).st, .slice B m d, .int .i64 (f).pd, .int .i64 (f).la, .int .i64 (f).ic, .int .u32 (f).cd, .slice Q qn qc, .bool (f).rk, .bool (f).al, .int .i64 (f).dp, .int .u8 (f).wt] 30)).alloc (.cells #[.bool false, .int .i64 0, .int .u32 0] 34)
  have qx := (Blk.new wx 30 #[.int .u8 (f).kd, .int .u8 (f).fl, .int .i64 (f).st, .slice B m d, .int .i64 (f).pd, .int .i64 (f).la, .int .i64 (f).ic, .int .u32 (f).cd, .slice Q qn qc, .bool (f).rk, .bool (f).al, .int .i64 (f).dp, .int .u8 (f).wt]).alloc (.cells #[.bool false, .int .i64 0, .int .u32 0] 34)
  have ux := Blk.newAt (b := wx.heap.size + 1) (wx.alloc (.cells #[.int .u8 (f).kd, .int .u8 (f).fl, .int .i64 (f).st, .slice B m d, .int .i64 (f).pd, .int .i64 (f).la, .int .i64 (f).ic, .int .u32 (f).cd, .slice Q qn qc, .bool (f).rk, .bool (f).al, .int .i64 (f).dp, .int .u8 (f).wt] 30)) 34 #[.bool false, .int .i64 0, .int .u32 0] (by simp)
  have zqh1 := qh.at 1 rfl
  have zqh2 := qh.at 2 rfl
  have zqh3 := qh.at 3 rfl
  have zqf0 := qf.at 0 rfl
  have zqf1 := qf.at 1 rfl
  have zqf2 := qf.at 2 rfl
  have zux2 := ux.at 2 rfl
  go_wp2_with (first | ((with_reducible refine wpList_id ?_); refine wpList_getG (by rfl) _ _ rfl rfl qx Try.underlying30 rfl (by rfl) ?_) | ((with_reducible refine wpList_id ?_); refine wpList_getG (by rfl) _ _ rfl rfl qf Try.underlying30 rfl (by rfl) ?_) | (go_at_call 14; (with_reducible refine (SX.out _ _ _ _ _ _ _ mm.byt mp.prs (HF.out.below b0.out) (HP.out.below b0.out)).mono ?_); rintro e w9 ⟨rfl, hb⟩; replace b0 := b0.below hb; replace qf := qf.below hb; clear hb) | (go_at_call 9; (with_reducible refine (fWakes _).mono ?_); rintro e w9 ⟨rfl, hb⟩; replace b0 := b0.below hb))
  go_ret
  exact ⟨rfl, b0.out⟩
theorem wBack (f : Fm) (Af : Option Addr) (nf cf : Nat) (Pf : Option Addr) (pnf pcf : Nat) (hf : FmOk f) (bf : Byt W Af nf cf f.da) (pf : Prs W Pf pnf pcf f.prs) :
    Calls Try.prog 4 #[.agg #[.int .u8 (f).kd, .int .u8 (f).fl, .int .i64 (f).st, .slice Af nf cf, .int .i64 (f).pd, .int .i64 (f).la, .int .i64 (f).ic, .int .u32 (f).cd, .slice Pf pnf pcf, .bool (f).rk, .bool (f).al, .int .i64 (f).dp, .int .u8 (f).wt]] W fun e w' => e = .returned (.bool true) ∧ Below W.heap.size W w' := by
  by_cases g1 : 3000 < nf ∨ 300 < pnf
  · exact bBig f Af nf cf Pf pnf pcf hf bf pf g1
  cases hr : rightS f
  · exact bNo f Af nf cf Pf pnf pcf hf bf pf (by omega) hr
  · exact bYes f Af nf cf Pf pnf pcf hf bf pf (by omega) hr
end
end Go.Proofs.Ytnjnpnjjpodnnaa
