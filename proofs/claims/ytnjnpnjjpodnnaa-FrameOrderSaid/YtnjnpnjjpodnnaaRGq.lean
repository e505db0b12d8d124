/- What a kind's functions do, by the kind. -/
import Derived.Test.YtnjnpnjjpodnnaaRGp
namespace Go.Proofs.Ytnjnpnjjpodnnaa
open Go.RowKit Go.Shelf
set_option linter.unusedVariables false
set_option linter.unusedSimpArgs false

set_option maxRecDepth 100000 in
set_option maxHeartbeats 1000000 in
theorem fSetLong (L k f s : Int) (n : Nat) (w : World) (f0 : 0 ≤ f) (f1 : f ≤ 255) (hn : n ≤ 140737488355328) : Calls Try.prog 76 #[.agg #[.int .i64 L, .int .u8 k, .int .u8 f, .int .i64 s], .int .i64 n] w (BoolP (decide (n % 6 = 0) && (decide (n = 0) || !(hasB f 1))) w) := by
  have H1 := Lib.hid fun w => fHas L k f s 1 w f0 f1 (by decide) (by decide)
  have b0 := (Bel.refl w).alloc (.cells #[.int .i64 L, .int .u8 k, .int .u8 f, .int .i64 s] 23)
  have q0 := Blk.new w 23 #[.int .i64 L, .int .u8 k, .int .u8 f, .int .i64 s]
  have e0 : ((n : Int).tmod 6 == 0) = decide (n % 6 = 0) := by
    rw [Int.tmod_eq_emod_of_nonneg (by omega), Bool.eq_iff_iff]
    simp
    omega
  have e1 : ((n : Int) % 6 == 0) = decide (n % 6 = 0) := by
    rw [Bool.eq_iff_iff]
    simp
    omega
  have e2 : ((n : Int) == 0) = decide (n = 0) := by
    rw [Bool.eq_iff_iff]
    simp
  have z1 := q0.at 1 rfl
  clear f0 f1 hn
  generalize decide (n % 6 = 0) = g1 at *
  generalize decide (n = 0) = g2 at *
  cases g1 <;> cases g2
  all_goals
    go_enter Try.func76, Try.ntmps76
    go_wp2_with (first
      | ((with_reducible refine wpList_id ?_); refine wpList_getG (by rfl) _ _ rfl rfl q0 Try.underlying23 rfl (by rfl) ?_)
      | (go_at_call 77; (with_reducible refine (H1.out _).mono ?_); rintro e w9 ⟨rfl, hb⟩; replace b0 := b0.below hb))
    go_ret
    exact ⟨rfl, b0.out⟩
theorem k10 (k : Int) : k = 0 ∨ k = 1 ∨ k = 2 ∨ k = 3 ∨ k = 4 ∨ k = 6 ∨ k = 7 ∨ k = 8 ∨ k = 9 ∨ k = 16 ∨ (k ≠ 0 ∧ k ≠ 1 ∧ k ≠ 2 ∧ k ≠ 3 ∧ k ≠ 4 ∧ k ≠ 6 ∧ k ≠ 7 ∧ k ≠ 8 ∧ k ≠ 9 ∧ k ≠ 16) := by omega
theorem boolP_eq {a b : Bool} (h : a = b) {w : World} : ∀ e W', BoolP a w e W' → BoolP b w e W' := fun _ _ k => h ▸ k
/-- Whether a payload may have so many bytes. -/
theorem fLong (L k f s : Int) (n : Nat) (b : Nat) (w : World) (f0 : 0 ≤ f) (f1 : f ≤ 255) (hn : n ≤ 140737488355328) (hb : k ≠ 0 → k ≠ 1 → k ≠ 4 → Blk w b 3 #[.int .i64 (manyK k)]) :
    Calls Try.prog (longF k) (#[.agg #[.int .i64 L, .int .u8 k, .int .u8 f, .int .i64 s], .int .i64 n] ++ longB k b) w (BoolP (longOk k f n) w) := by
  rcases k10 k with rfl | rfl | rfl | rfl | rfl | rfl | rfl | rfl | rfl | rfl | ⟨h0, h1, h2, h3, h4, h6, h7, h8, h9, h16⟩
  · exact (fFlagged L 0 f s n w f0 f1 hn).mono (boolP_eq (by simp [longOk]))
  · exact (fFlagged L 1 f s n w f0 f1 hn).mono (boolP_eq (by simp [longOk]))
  · exact (fJust1 L 2 f s n b 5 w (hb (by decide) (by decide) (by decide))).mono (boolP_eq (by rw [Bool.eq_iff_iff]; simp [longOk]; omega))
  · exact (fJust1 L 3 f s n b 4 w (hb (by decide) (by decide) (by decide))).mono (boolP_eq (by rw [Bool.eq_iff_iff]; simp [longOk]; omega))
  · exact (fSetLong L 4 f s n w f0 f1 hn).mono (boolP_eq (by simp [longOk]))
  · exact (fJust1 L 6 f s n b 8 w (hb (by decide) (by decide) (by decide))).mono (boolP_eq (by rw [Bool.eq_iff_iff]; simp [longOk]; omega))
  · exact (fLeast1 L 7 f s n b 8 w (hb (by decide) (by decide) (by decide))).mono (boolP_eq (by rw [Bool.eq_iff_iff]; simp [longOk]; omega))
  · exact (fJust1 L 8 f s n b 4 w (hb (by decide) (by decide) (by decide))).mono (boolP_eq (by rw [Bool.eq_iff_iff]; simp [longOk]; omega))
  · exact (fLeast1 L 9 f s n b 0 w (hb (by decide) (by decide) (by decide))).mono (boolP_eq (by rw [Bool.eq_iff_iff]; simp [longOk]))
  · exact (fLeast1 L 16 f s n b 4 w (hb (by decide) (by decide) (by decide))).mono (boolP_eq (by rw [Bool.eq_iff_iff]; simp [longOk]; omega))
  · have hq := hb h0 h1 h4
    have e1 : longF k = 92 := by simp [longF, h0, h1, h2, h3, h4, h6, h8]
    have e2 : longB k b = #[.pointer (some ⟨b, 0, none⟩)] := by simp [longB, h0, h1, h4]
    have e3 : manyK k = 0 := by simp [manyK, h2, h3, h6, h7, h8, h16]
    rw [e3] at hq
    rw [e1, e2]
    exact (fLeast1 L k f s n b 0 w hq).mono (boolP_eq (by rw [Bool.eq_iff_iff]; simp [longOk, h0, h1, h2, h3, h4, h6, h7, h8, h16]))
theorem rdP_eq {g : Nat} {a b : Option Fm} (h : a = b) {w : World} : ∀ e W', RdP g a w e W' → RdP g b w e W' := fun _ _ k => h ▸ k
/-- What a kind reads. -/
theorem fReads (kd fl st : Int) (g : Nat) (A : Option Addr) (n c : Nat) (l : List Int) (w : World) (q : Blk w g 30 #[.int .u8 kd, .int .u8 fl, .int .i64 st, .slice none 0 0, .int .i64 0, .int .i64 0, .int .i64 0, .int .u32 0, .slice none 0 0, .bool false, .bool false, .int .i64 0, .int .u8 0]) (h : Byt w A n c l) (hn : n ≤ 100000) (hA : 0 < n → ∀ b o, A = some ⟨b, o, none⟩ → b ≠ g) (f0 : 0 ≤ fl) (f1 : fl ≤ 255) (hlo : longOk kd fl n = true) :
    Calls Try.prog (readF kd) #[.pointer (some ⟨g, 0, none⟩), .slice A n c] w (RdP g (readS kd fl st l) w) := by
  have hl := h.len
  rcases k10 kd with rfl | rfl | rfl | rfl | rfl | rfl | rfl | rfl | rfl | rfl | ⟨h0, h1, h2, h3, h4, h6, h7, h8, h9, h16⟩
  · exact (fUnpadded 0 fl st g A n c l w q h hn hA f0 f1).mono (rdP_eq rfl)
  · exact (fHeads 1 fl st g A n c l w q h hn hA f0 f1).mono (rdP_eq (by simp [readS]))
  · have h5 : n = 5 := by simpa [longOk] using hlo
    refine (fRanked 2 fl st 0 g none 0 0 A n c l w q h hn).mono (rdP_eq ?_)
    have hE : trE l = 0 := by unfold trE; rw [if_neg (by omega)]
    have hR : trR l = [] := by unfold trR; rw [if_neg (by omega)]; exact List.drop_eq_nil_of_le (by omega)
    rw [if_pos hE, hR]
    rfl
  · exact (fReset 3 fl st g A n c l w q h hn).mono (rdP_eq rfl)
  · exact (fSets 4 fl st g A n c l w q h hn).mono (rdP_eq rfl)
  · exact (fPlain1 6 fl st g A n c l w q h hn).mono (rdP_eq rfl)
  · exact (fGoaway 7 fl st g A n c l w q h hn (by simpa [longOk] using hlo)).mono (rdP_eq rfl)
  · exact (fWindow 8 fl st g A n c l w q h hn).mono (rdP_eq rfl)
  · exact (fPlain1 9 fl st g A n c l w q h hn).mono (rdP_eq rfl)
  · exact (fUrgency 16 fl st g A n c l w q h hn (by simpa [longOk] using hlo)).mono (rdP_eq rfl)
  · have e1 : readF kd = 90 := by simp [readF, h0, h1, h2, h3, h4, h7, h8, h16]
    rw [e1]
    exact (fPlain1 kd fl st g A n c l w q h hn).mono (rdP_eq (by simp [readS, h0, h1, h2, h3, h4, h7, h8, h16]))
theorem slP_eq {a b : List Int} (h : a = b) {w : World} : ∀ e W', SlP a w e W' → SlP b w e W' := fun _ _ k => h ▸ k
/-- What a kind puts. -/
theorem fPuts (f : Fm) (hf : FmOk f) (A : Option Addr) (n c : Nat) (P : Option Addr) (pn pc : Nat) (w : World) (h : Byt w A n c f.da) (hn : n ≤ 90000) (hp : Prs w P pn pc f.prs) (hpn : pn ≤ 100000) :
    Calls Try.prog (putF f.kd) #[.agg #[.int .u8 (f).kd, .int .u8 (f).fl, .int .i64 (f).st, .slice A n c, .int .i64 (f).pd, .int .i64 (f).la, .int .i64 (f).ic, .int .u32 (f).cd, .slice P pn pc, .bool (f).rk, .bool (f).al, .int .i64 (f).dp, .int .u8 (f).wt]] w (SlP (payS f) w) := by
  rcases k10 f.kd with e | e | e | e | e | e | e | e | e | e | ⟨h0, h1, h2, h3, h4, h6, h7, h8, h9, h16⟩
  · rw [show putF f.kd = 65 by rw [e]; rfl]
    exact (fData2 f hf A n c P pn pc w h hn).mono (slP_eq (by simp [payS, e]))
  · rw [show putF f.kd = 69 by rw [e]; rfl]
    rcases Bool.eq_false_or_eq_true f.rk with hk | hk
    · exact (fHeads2t f hf A n c P pn pc w h hn hk).mono (slP_eq (by simp [payS, e, hk]))
    · exact (fHeads2f f hf A n c P pn pc w h hn hk).mono (slP_eq (by simp [payS, e, hk]))
  · rw [show putF f.kd = 70 by rw [e]; rfl]
    exact (fRank2 f hf A n c P pn pc w).mono (slP_eq (by simp [payS, e]))
  · rw [show putF f.kd = 74 by rw [e]; rfl]
    exact (fReset2 f hf A n c P pn pc w).mono (slP_eq (by simp [payS, e]))
  · rw [show putF f.kd = 80 by rw [e]; rfl]
    exact (fSets2 f hf A n c P pn pc w hp hpn).mono (slP_eq (by simp [payS, e]))
  · rw [show putF f.kd = 91 by rw [e]; rfl]
    exact (fPlain2 f hf A n c P pn pc w h hn).mono (slP_eq (by simp [payS, e]))
  · rw [show putF f.kd = 84 by rw [e]; rfl]
    exact (fGoaway2 f hf A n c P pn pc w h hn).mono (slP_eq (by simp [payS, e]))
  · rw [show putF f.kd = 87 by rw [e]; rfl]
    exact (fWindow2 f hf A n c P pn pc w).mono (slP_eq (by simp [payS, e]))
  · rw [show putF f.kd = 91 by rw [e]; rfl]
    exact (fPlain2 f hf A n c P pn pc w h hn).mono (slP_eq (by simp [payS, e]))
  · rw [show putF f.kd = 89 by rw [e]; rfl]
    exact (fUrgency2 f hf A n c P pn pc w h hn).mono (slP_eq (by simp [payS, e]))
  · rw [show putF f.kd = 91 by simp [putF, h0, h1, h2, h3, h4, h7, h8, h16]]
    exact (fPlain2 f hf A n c P pn pc w h hn).mono (slP_eq (by simp [payS, h0, h1, h2, h3, h4, h7, h8, h16]))
end Go.Proofs.Ytnjnpnjjpodnnaa
