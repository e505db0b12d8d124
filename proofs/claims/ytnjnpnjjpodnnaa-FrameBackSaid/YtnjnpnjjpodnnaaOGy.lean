/- What is parsed may be put, and is parsed as it was: the plain law of frames. -/
import Derived.Test.YtnjnpnjjpodnnaaOGt0
namespace Go.Proofs.Ytnjnpnjjpodnnaa
open Go.RowKit Go.Shelf
set_option linter.unusedVariables false

theorem take4 {N : Int} {t : List Int} (h0 : 0 ≤ N) (h1 : N < 4294967296) : (putO N 4 ++ t).length = 4 + t.length ∧ takeO (putO N 4 ++ t) 0 4 = (N, 0) ∧ (putO N 4 ++ t).drop 4 = t := by
  obtain ⟨n, rfl⟩ := Int.eq_ofNat_of_zero_le h0
  have e : putO (n : Int) 4 = bigE 4 n := by
    unfold putO okO
    rw [if_pos (decide_eq_true ⟨by decide, by decide, h0, by have : ((256 ^ Int.toNat 4 : Nat) : Int) = 4294967296 := rfl; omega⟩)]
    rfl
  have hl := bigE_len 4 n
  have a := take_all (la := []) (lb := t) (s := 4) (n := n) (by decide) (by decide) (by have : (256 : Nat) ^ 4 = 4294967296 := rfl; omega)
  rw [e]
  refine ⟨by rw [List.length_append, hl], by simpa using a, ?_⟩
  rw [List.drop_left' hl]
theorem take48 {N M : Int} {t : List Int} (h0 : 0 ≤ N) (h1 : N < 4294967296) (g0 : 0 ≤ M) (g1 : M < 4294967296) : takeO (putO N 4 ++ (putO M 4 ++ t)) 4 4 = (M, 0) := by
  obtain ⟨n, rfl⟩ := Int.eq_ofNat_of_zero_le h0
  obtain ⟨m, rfl⟩ := Int.eq_ofNat_of_zero_le g0
  have e : ∀ k : Nat, k < 4294967296 → putO (k : Int) 4 = bigE 4 k := fun k hk => by
    unfold putO okO
    rw [if_pos (decide_eq_true ⟨by decide, by decide, by omega, by have : ((256 ^ Int.toNat 4 : Nat) : Int) = 4294967296 := rfl; omega⟩)]
    rfl
  have a := take_all (la := bigE 4 n) (lb := t) (s := 4) (n := m) (by decide) (by decide) (by have : (256 : Nat) ^ 4 = 4294967296 := rfl; omega)
  rw [bigE_len] at a
  rw [e n (by omega), e m (by omega), ← List.append_assoc]
  exact a
theorem padP_back {fl : Int} {b : List Int} {x : List Int × Int} (hb : Bs b) (h : padS fl b = some x) (f : Fm) (hfl : f.fl = fl) (hpd : f.pd = x.2) (v : List Int) (hv : v.length = x.1.length) :
    (padP f v).length = b.length ∧ padS fl (padP f v) = some (v, x.2) := by
  unfold padP
  rw [hfl]
  cases hp : hasB fl 8
  · rw [padS_no hp] at h
    simp only [Option.some.injEq] at h
    subst h
    rw [if_neg (by decide)]
    exact ⟨hv, padS_no hp _⟩
  · rw [padS_yes hp] at h
    split at h
    · rename_i hE
      simp only [Option.some.injEq] at h
      subst h
      have hE' := hE
      have h0 := hb.get 0
      unfold unE at hE'
      have hb0 : unB b = b[0]?.getD 0 := rfl
      split at hE'
      · simp at hE'
      split at hE'
      · simp at hE'
      obtain ⟨k, hk⟩ : ∃ k : Nat, unB b = k := Int.eq_ofNat_of_zero_le (by omega)
      have hN : unN b = 1 + k := by unfold unN; rw [if_pos hE, hk]
      have hO : (unO b).length = b.length - k - 1 := by unfold unO; rw [if_pos hE, hk]; simp
      simp only at hv hpd
      rw [if_pos rfl, hpd, hN]
      have hw : wrap64 (1 + (k : Int) - 1) = k := by unfold wrap64; omega
      rw [hw, padL_yes (by omega), padS_yes hp, unE_pad, if_pos rfl, unO_pad, unN_pad]
      refine ⟨?_, by rw [show (k : Int) + 1 = 1 + k by omega]⟩
      simp only [List.length_cons, List.length_append, List.length_replicate]
      omega
    · simp at h
theorem padS_bs {fl : Int} {b : List Int} {x : List Int × Int} (hb : Bs b) (h : padS fl b = some x) : Bs x.1 ∧ 0 ≤ x.2 ∧ x.2 ≤ 256 := by
  cases hp : hasB fl 8
  · rw [padS_no hp] at h
    simp only [Option.some.injEq] at h
    subst h
    exact ⟨hb, Int.le_refl 0, (by decide : (0 : Int) ≤ 256)⟩
  · rw [padS_yes hp] at h
    split at h
    · rename_i hE
      simp only [Option.some.injEq] at h
      subst h
      have h0 := hb.get 0
      have hb0 : unB b = b[0]?.getD 0 := rfl
      refine ⟨?_, ?_, ?_⟩
      · unfold unO; rw [if_pos hE]; exact (hb.take _).drop _
      · unfold unN; rw [if_pos hE]; simp only; omega
      · unfold unN; rw [if_pos hE]; simp only; omega
    · simp at h
theorem trD_bd {l : List Int} (h : Bs l) : 0 ≤ trD l ∧ trD l < 2147483648 := by
  have := takeO_bd h 0 4
  unfold trD
  split
  · exact ⟨by decide, by decide⟩
  · omega
theorem trW_bd {l : List Int} (h : Bs l) : 0 ≤ trW l ∧ trW l ≤ 255 := by
  have := h.get 4
  unfold trW
  split
  · exact ⟨by decide, by decide⟩
  · exact this
theorem trR_bs {l : List Int} (h : Bs l) : Bs (trR l) := by
  unfold trR
  split
  · exact Bs.nil
  · exact h.drop 5
theorem streamO_bd {l : List Int} (h : Bs l) (a : Int) : 0 ≤ streamO l a ∧ streamO l a < 2147483648 := by
  have := takeO_bd h a 4
  unfold streamO
  omega
theorem rank_back {l : List Int} (h : Bs l) (D : List Int) : (rankL (trA l) (trD l) (trW l) ++ D).length = 5 + D.length ∧
    trA (rankL (trA l) (trD l) (trW l) ++ D) = trA l ∧ trD (rankL (trA l) (trD l) (trW l) ++ D) = trD l ∧ trW (rankL (trA l) (trD l) (trW l) ++ D) = trW l ∧ trR (rankL (trA l) (trD l) (trW l) ++ D) = D ∧ trE (rankL (trA l) (trD l) (trW l) ++ D) = 0 := by
  have hd := trD_bd h
  rw [rankL_yesI hd.1 hd.2]
  exact ⟨rank_len _ _ _ _, tr_rankI hd.1 hd.2⟩
theorem takePs_pbs {l : List Int} (h : Bs l) : PBs (takePs l) := by
  unfold takePs
  split
  · intro x hx
    simp only [List.mem_map] at hx
    obtain ⟨k, _, rfl⟩ := hx
    exact onePr_bd h k
  · exact PBs.nil
/-- What is read is put in as many bytes, and read out of them. -/
theorem readS_back {kd fl st : Int} {b : List Int} {f : Fm} (hb : Bs b) (hl : longOk kd fl b.length = true) (h : readS kd fl st b = some f) :
    f.kd = kd ∧ f.fl = fl ∧ f.st = st ∧ (payS f).length = b.length ∧ readS kd fl st (payS f) = some f := by
  have h0 := takeO_bd hb 0 4
  have h4 := takeO_bd hb 4 4
  have s0 := streamO_bd hb 0
  unfold readS at h
  split at h
  · rename_i hk; subst hk
    simp only [Option.map_eq_some_iff] at h
    obtain ⟨x, hx, rfl⟩ := h
    refine ⟨rfl, rfl, rfl, ?_⟩
    have e : ∀ g : Fm, g.kd = 0 → payS g = padP g g.da := fun g hg => by unfold payS; rw [if_pos hg]
    rw [e _ rfl]
    obtain ⟨a1, a2⟩ := padP_back hb hx { fm0 0 fl st with da := x.1, pd := x.2 } rfl rfl x.1 rfl
    refine ⟨a1, ?_⟩
    unfold readS
    rw [if_pos rfl, a2]
    rfl
  split at h
  · rename_i hk; subst hk
    simp only [Option.bind_eq_some_iff] at h
    obtain ⟨x, hx, h⟩ := h
    have e : ∀ g : Fm, g.kd = 1 → payS g = padP g ((if g.rk then rankL g.al g.dp g.wt else []) ++ g.da) := fun g hg => by unfold payS; rw [if_neg (by rw [hg]; decide), if_pos hg]
    split at h
    · rename_i hr
      split at h
      · rename_i hE
        simp only [Option.some.injEq] at h
        subst h
        refine ⟨rfl, rfl, rfl, ?_⟩
        rw [e _ rfl]
        have hx5 : ¬ x.1.length < 5 := by intro h5; unfold trE at hE; rw [if_pos h5] at hE; simp at hE
        have hR : (trR x.1).length = x.1.length - 5 := by unfold trR; rw [if_neg hx5]; simp
        obtain ⟨b1, b2, b3, b4, b5, b6⟩ := rank_back (padS_bs hb hx).1 (trR x.1)
        obtain ⟨a1, a2⟩ := padP_back hb hx { fm0 1 fl st with da := trR x.1, pd := x.2, rk := true, al := trA x.1, dp := trD x.1, wt := trW x.1 } rfl rfl (rankL (trA x.1) (trD x.1) (trW x.1) ++ trR x.1) (by rw [b1, hR]; omega)
        simp only [if_true]
        refine ⟨a1, ?_⟩
        unfold readS
        rw [if_neg (by decide), if_pos rfl, a2]
        simp only [Option.bind_some]
        rw [if_pos hr, if_pos b6, b2, b3, b4, b5]
      · simp at h
    · rename_i hr
      simp only [Option.some.injEq] at h
      subst h
      refine ⟨rfl, rfl, rfl, ?_⟩
      rw [e _ rfl]
      obtain ⟨a1, a2⟩ := padP_back hb hx { fm0 1 fl st with da := x.1, pd := x.2 } rfl rfl x.1 rfl
      have e2 : ((if ({ fm0 1 fl st with da := x.1, pd := x.2 } : Fm).rk then rankL ({ fm0 1 fl st with da := x.1, pd := x.2 } : Fm).al ({ fm0 1 fl st with da := x.1, pd := x.2 } : Fm).dp ({ fm0 1 fl st with da := x.1, pd := x.2 } : Fm).wt else []) ++ ({ fm0 1 fl st with da := x.1, pd := x.2 } : Fm).da) = x.1 := rfl
      rw [e2]
      refine ⟨a1, ?_⟩
      unfold readS
      rw [if_neg (by decide), if_pos rfl, a2]
      simp only [Option.bind_some]
      rw [if_neg hr]
  have hlen : ∀ k : Int, kd = k → longOk k fl b.length = true := fun k hk => hk ▸ hl
  split at h
  · rename_i hk; subst hk
    simp only [Option.some.injEq] at h
    subst h
    refine ⟨rfl, rfl, rfl, ?_⟩
    have e : ∀ g : Fm, g.kd = 2 → payS g = rankL g.al g.dp g.wt := fun g hg => by unfold payS; rw [if_neg (by rw [hg]; decide), if_neg (by rw [hg]; decide), if_pos hg]
    rw [e _ rfl]
    have h5 : b.length = 5 := by simpa [longOk] using hl
    obtain ⟨b1, b2, b3, b4, b5, b6⟩ := rank_back hb []
    rw [List.append_nil] at b1 b2 b3 b4 b5 b6
    simp only
    refine ⟨by rw [b1, h5]; rfl, ?_⟩
    unfold readS
    rw [if_neg (by decide), if_neg (by decide), if_pos rfl, b2, b3, b4]
  split at h
  · rename_i hk; subst hk
    simp only [Option.some.injEq] at h
    subst h
    refine ⟨rfl, rfl, rfl, ?_⟩
    have e : ∀ g : Fm, g.kd = 3 → payS g = putO g.cd 4 := fun g hg => by unfold payS; rw [if_neg (by rw [hg]; decide), if_neg (by rw [hg]; decide), if_neg (by rw [hg]; decide), if_pos hg]
    rw [e _ rfl]
    have h5 : b.length = 4 := by simpa [longOk] using hl
    obtain ⟨b1, b2, b3⟩ := take4 (t := []) h0.1 h0.2
    rw [List.append_nil] at b1 b2 b3
    simp only
    refine ⟨by rw [b1, h5]; rfl, ?_⟩
    unfold readS
    rw [if_neg (by decide), if_neg (by decide), if_neg (by decide), if_pos rfl, b2]
  split at h
  · rename_i hk; subst hk
    simp only [Option.some.injEq] at h
    subst h
    refine ⟨rfl, rfl, rfl, ?_⟩
    have e : ∀ g : Fm, g.kd = 4 → payS g = putPs g.prs := fun g hg => by unfold payS; rw [if_neg (by rw [hg]; decide), if_neg (by rw [hg]; decide), if_neg (by rw [hg]; decide), if_neg (by rw [hg]; decide), if_pos hg]
    rw [e _ rfl]
    have h6 : b.length % 6 = 0 := by
      have : longOk 4 fl b.length = (decide (b.length % 6 = 0) && (decide (b.length = 0) || !(hasB fl 1))) := rfl
      rw [this, Bool.and_eq_true] at hl
      exact of_decide_eq_true hl.1
    simp only
    refine ⟨?_, ?_⟩
    · rw [putPs_len]
      unfold takePs
      rw [if_pos h6]
      simp
      omega
    unfold readS
    rw [if_neg (by decide), if_neg (by decide), if_neg (by decide), if_neg (by decide), if_pos rfl, take_putPs (takePs_pbs hb)]
  split at h
  · rename_i hk; subst hk
    simp only [Option.some.injEq] at h
    subst h
    refine ⟨rfl, rfl, rfl, ?_⟩
    have e : ∀ g : Fm, g.kd = 7 → payS g = putO g.la 4 ++ putO g.cd 4 ++ g.da := fun g hg => by unfold payS; rw [if_neg (by rw [hg]; decide), if_neg (by rw [hg]; decide), if_neg (by rw [hg]; decide), if_neg (by rw [hg]; decide), if_neg (by rw [hg]; decide), if_pos hg]
    rw [e _ rfl]
    have h5 : 8 ≤ b.length := by simpa [longOk] using hl
    simp only
    rw [List.append_assoc]
    obtain ⟨a1, a2, a3⟩ := take4 (N := streamO b 0) (t := putO (takeO b 4 4).1 4 ++ b.drop 8) s0.1 (by omega)
    obtain ⟨b1, b2, b3⟩ := take4 (t := b.drop 8) h4.1 h4.2
    have c1 := take48 (t := b.drop 8) s0.1 (by omega) h4.1 h4.2
    refine ⟨by rw [a1, b1, List.length_drop]; omega, ?_⟩
    have a4 : streamO (putO (streamO b 0) 4 ++ (putO (takeO b 4 4).1 4 ++ b.drop 8)) 0 = streamO b 0 := by
      rw [show ∀ l, streamO l 0 = (takeO l 0 4).1 % 2147483648 from fun _ => rfl, a2]
      simp only
      omega
    have a5 : (putO (streamO b 0) 4 ++ (putO (takeO b 4 4).1 4 ++ b.drop 8)).drop 8 = b.drop 8 := by
      rw [show (8 : Nat) = 4 + 4 from rfl, ← List.drop_drop, a3, b3]
    unfold readS
    rw [if_neg (by decide), if_neg (by decide), if_neg (by decide), if_neg (by decide), if_neg (by decide), if_pos rfl, a4, a5, c1]
  split at h
  · rename_i hk; subst hk
    simp only [Option.some.injEq] at h
    subst h
    refine ⟨rfl, rfl, rfl, ?_⟩
    have e : ∀ g : Fm, g.kd = 8 → payS g = putO g.ic 4 := fun g hg => by unfold payS; rw [if_neg (by rw [hg]; decide), if_neg (by rw [hg]; decide), if_neg (by rw [hg]; decide), if_neg (by rw [hg]; decide), if_neg (by rw [hg]; decide), if_neg (by rw [hg]; decide), if_pos hg]
    rw [e _ rfl]
    have h5 : b.length = 4 := by simpa [longOk] using hl
    simp only
    obtain ⟨b1, b2, b3⟩ := take4 (t := []) s0.1 (by omega)
    rw [List.append_nil] at b1 b2 b3
    refine ⟨by rw [b1, h5]; rfl, ?_⟩
    have a4 : streamO (putO (streamO b 0) 4) 0 = streamO b 0 := by
      rw [show ∀ l, streamO l 0 = (takeO l 0 4).1 % 2147483648 from fun _ => rfl, b2]
      simp only
      omega
    unfold readS
    rw [if_neg (by decide), if_neg (by decide), if_neg (by decide), if_neg (by decide), if_neg (by decide), if_neg (by decide), if_pos rfl, a4]
  split at h
  · rename_i hk; subst hk
    simp only [Option.some.injEq] at h
    subst h
    refine ⟨rfl, rfl, rfl, ?_⟩
    have e : ∀ g : Fm, g.kd = 16 → payS g = putO g.la 4 ++ g.da := fun g hg => by unfold payS; rw [if_neg (by rw [hg]; decide), if_neg (by rw [hg]; decide), if_neg (by rw [hg]; decide), if_neg (by rw [hg]; decide), if_neg (by rw [hg]; decide), if_neg (by rw [hg]; decide), if_neg (by rw [hg]; decide), if_pos hg]
    rw [e _ rfl]
    have h5 : 4 ≤ b.length := by simpa [longOk] using hl
    simp only
    obtain ⟨b1, b2, b3⟩ := take4 (t := b.drop 4) s0.1 (by omega)
    refine ⟨by rw [b1, List.length_drop]; omega, ?_⟩
    have a4 : streamO (putO (streamO b 0) 4 ++ b.drop 4) 0 = streamO b 0 := by
      rw [show ∀ l, streamO l 0 = (takeO l 0 4).1 % 2147483648 from fun _ => rfl, b2]
      simp only
      omega
    unfold readS
    rw [if_neg (by decide), if_neg (by decide), if_neg (by decide), if_neg (by decide), if_neg (by decide), if_neg (by decide), if_neg (by decide), if_pos rfl, a4, b3]
  · rename_i h0 h1 h2 h3 h4 h7 h8 h16
    simp only [Option.some.injEq] at h
    subst h
    refine ⟨rfl, rfl, rfl, ?_⟩
    have e : ∀ g : Fm, g.kd = kd → payS g = g.da := fun g hg => by unfold payS; rw [hg, if_neg h0, if_neg h1, if_neg h2, if_neg h3, if_neg h4, if_neg h7, if_neg h8, if_neg h16]
    rw [e _ rfl]
    refine ⟨rfl, ?_⟩
    show readS kd fl st b = _
    unfold readS
    rw [if_neg h0, if_neg h1, if_neg h2, if_neg h3, if_neg h4, if_neg h7, if_neg h8, if_neg h16]
/-- What is read has its bounds. -/
theorem readS_ok {kd fl st : Int} {b : List Int} {f : Fm} (hb : Bs b) (hk : 0 ≤ kd ∧ kd ≤ 255) (hf : 0 ≤ fl ∧ fl ≤ 255) (hs : -9223372036854775808 ≤ st ∧ st ≤ 9223372036854775807) (h : readS kd fl st b = some f) : FmOk f ∧ PBs f.prs := by
  have h0 := takeO_bd hb 0 4
  have h4 := takeO_bd hb 4 4
  have s0 := streamO_bd hb 0
  have dd := trD_bd hb
  have dw := trW_bd hb
  have i0 : (-9223372036854775808 : Int) ≤ 0 ∧ (0 : Int) ≤ 9223372036854775807 := by decide
  have u0 : (0 : Int) ≤ 0 ∧ (0 : Int) ≤ 4294967295 := by decide
  have w0 : (0 : Int) ≤ 0 ∧ (0 : Int) ≤ 255 := by decide
  have z : ∀ k f s : Int, (0 ≤ k ∧ k ≤ 255) → (0 ≤ f ∧ f ≤ 255) → (-9223372036854775808 ≤ s ∧ s ≤ 9223372036854775807) → FmOk (fm0 k f s) := fun k f s a b c => ⟨a, b, c, i0, i0, i0, u0, i0, w0, Bs.nil⟩
  have z0 := z kd fl st hk hf hs
  unfold readS at h
  split at h
  · simp only [Option.map_eq_some_iff] at h
    obtain ⟨x, hx, rfl⟩ := h
    obtain ⟨p1, p2, p3⟩ := padS_bs hb hx
    exact ⟨⟨by rename_i e; subst e; exact hk, hf, hs, by simp only; omega, i0, i0, u0, i0, w0, p1⟩, PBs.nil⟩
  split at h
  · simp only [Option.bind_eq_some_iff] at h
    obtain ⟨x, hx, h⟩ := h
    obtain ⟨p1, p2, p3⟩ := padS_bs hb hx
    have ed := trD_bd p1
    have ew := trW_bd p1
    split at h
    · split at h
      · simp only [Option.some.injEq] at h
        subst h
        exact ⟨⟨by rename_i e _ _; subst e; exact hk, hf, hs, by simp only; omega, i0, i0, u0, by simp only; omega, ew, trR_bs p1⟩, PBs.nil⟩
      · simp at h
    · simp only [Option.some.injEq] at h
      subst h
      exact ⟨⟨by rename_i e _; subst e; exact hk, hf, hs, by simp only; omega, i0, i0, u0, i0, w0, p1⟩, PBs.nil⟩
  split at h
  · simp only [Option.some.injEq] at h
    subst h
    exact ⟨⟨z0.kd, hf, hs, i0, i0, i0, u0, by simp only; omega, dw, Bs.nil⟩, PBs.nil⟩
  split at h
  · simp only [Option.some.injEq] at h
    subst h
    exact ⟨⟨z0.kd, hf, hs, i0, i0, i0, by simp only; omega, i0, w0, Bs.nil⟩, PBs.nil⟩
  split at h
  · simp only [Option.some.injEq] at h
    subst h
    exact ⟨⟨z0.kd, hf, hs, i0, i0, i0, u0, i0, w0, Bs.nil⟩, takePs_pbs hb⟩
  split at h
  · simp only [Option.some.injEq] at h
    subst h
    exact ⟨⟨z0.kd, hf, hs, i0, by simp only; omega, i0, by simp only; omega, i0, w0, hb.drop 8⟩, PBs.nil⟩
  split at h
  · simp only [Option.some.injEq] at h
    subst h
    exact ⟨⟨z0.kd, hf, hs, i0, i0, by simp only; omega, u0, i0, w0, Bs.nil⟩, PBs.nil⟩
  split at h
  · simp only [Option.some.injEq] at h
    subst h
    exact ⟨⟨z0.kd, hf, hs, i0, by simp only; omega, i0, u0, i0, w0, hb.drop 4⟩, PBs.nil⟩
  · simp only [Option.some.injEq] at h
    subst h
    exact ⟨⟨z0.kd, hf, hs, i0, i0, i0, u0, i0, w0, hb⟩, PBs.nil⟩
/-- What is parsed without a fault may be, and has as many bytes as its payload. -/
theorem parse_right {kd fl st : Int} {b : List Int} {f : Fm} {x : Flt} (hb : Bs b) (h : parseS kd fl st b = (f, x)) (hx : x.cd = 0) :
    f.kd = kd ∧ f.fl = fl ∧ f.st = st ∧ (payS f).length = b.length ∧ parseS f.kd f.fl f.st (payS f) = (f, ⟨false, 0, 0⟩) ∧ rightS f = true ∧ okH b.length st = true := by
  rcases parse_ways kd fl st b with ⟨c, hc, e⟩ | ⟨_, e⟩ | ⟨g, hok, h1, h2, h3, h4, ⟨hw, e⟩ | ⟨hw, e⟩⟩
  · rw [e] at h
    simp only [Prod.mk.injEq] at h
    obtain ⟨_, rfl⟩ := h
    exact absurd hx hc
  · rw [e] at h
    simp only [Prod.mk.injEq] at h
    obtain ⟨_, rfl⟩ := h
    simp at hx
  · rw [e] at h
    simp only [Prod.mk.injEq] at h
    obtain ⟨_, rfl⟩ := h
    rw [valS_fine g hx] at hw
    simp at hw
  · rw [e] at h
    simp only [Prod.mk.injEq] at h
    obtain ⟨rfl, rfl⟩ := h
    have hv := valS_fine g hx
    obtain ⟨a1, a2, a3, a4, a5⟩ := readS_back hb h3 h4
    have hp : parseS g.kd g.fl g.st (payS g) = (g, ⟨false, 0, 0⟩) := by
      rw [a1, a2, a3, parse_go hok (by rw [a4]; exact h1) h2 (by rw [a4]; exact h3), a5]
      simp only [hv]
      rw [if_neg (by decide)]
    refine ⟨a1, a2, a3, a4, hp, ?_, ?_⟩
    · unfold rightS
      rw [hp]
      exact decide_eq_true ⟨rfl, rfl⟩
    · unfold okH at hok ⊢
      have := of_decide_eq_true hok
      exact decide_eq_true (by omega)
/-- What may be put is parsed as it was. -/
theorem right_parse {f : Fm} (h : rightS f = true) : parseS f.kd f.fl f.st (payS f) = (f, ⟨false, 0, 0⟩) ∧ (payS f).length ≤ 16384 ∧ okH (payS f).length f.st = true := by
  unfold rightS at h
  obtain ⟨h1, h2⟩ := of_decide_eq_true h
  have h3 := parse_fine _ _ _ _ h1
  have e : parseS f.kd f.fl f.st (payS f) = (f, ⟨false, 0, 0⟩) := Prod.ext h2.symm h3
  have hl : okH 0 f.st = true ∧ (payS f).length ≤ 16384 := by
    rcases parse_ways f.kd f.fl f.st (payS f) with ⟨c, hc, e'⟩ | ⟨_, e'⟩ | ⟨g, hok, h1, _⟩
    · rw [e'] at h3; simp only [Flt.mk.injEq] at h3; exact absurd h3.2.2 hc
    · rw [e'] at h3; simp at h3
    · exact ⟨hok, h1⟩
  refine ⟨e, hl.2, ?_⟩
  have h4 := of_decide_eq_true (show decide _ = true from hl.1)
  exact decide_eq_true (by omega)
end Go.Proofs.Ytnjnpnjjpodnnaa
