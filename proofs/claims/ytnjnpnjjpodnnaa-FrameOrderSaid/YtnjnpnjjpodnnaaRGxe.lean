/- Frames parsed: together. -/
import Derived.Test.YtnjnpnjjpodnnaaRGxa
import Derived.Test.YtnjnpnjjpodnnaaRGxb
import Derived.Test.YtnjnpnjjpodnnaaRGxc
import Derived.Test.YtnjnpnjjpodnnaaRGxd
namespace Go.Proofs.Ytnjnpnjjpodnnaa
open Go.RowKit Go.Shelf
set_option linter.unusedVariables false
set_option linter.unusedSimpArgs false

theorem parse_go {kd fl st : Int} {b : List Int} (h1 : okH 0 st = true) (h2 : b.length ≤ 16384) (h3 : ¬(kd = 5 ∨ farK kd st = true)) (h4 : longOk kd fl b.length = true) :
    parseS kd fl st b = match readS kd fl st b with
    | none => (Fm0, ⟨true, 0, 1⟩)
    | some f => if (valS f).wh then (Fm0, valS f) else (f, valS f) := by
  unfold parseS
  rw [if_neg (by rw [h1]; decide), if_neg (by omega), if_neg h3, if_neg (by rw [h4]; decide)]
  cases readS kd fl st b <;> rfl
theorem parse_short {kd fl st : Int} {b : List Int} (h1 : okH 0 st = true) (h2 : b.length ≤ 16384) (h3 : ¬(kd = 5 ∨ farK kd st = true)) (h4 : longOk kd fl b.length = false) :
    parseS kd fl st b = if kd = 2 then (fm0 kd fl st, ⟨false, st, 6⟩) else (Fm0, ⟨true, 0, 6⟩) := by
  unfold parseS
  rw [if_neg (by rw [h1]; decide), if_neg (by omega), if_neg h3, if_pos h4]
theorem parse_far {kd fl st : Int} {b : List Int} (h1 : okH 0 st = true) (h2 : b.length ≤ 16384) (h3 : kd = 5 ∨ farK kd st = true) : parseS kd fl st b = (Fm0, ⟨true, 0, 1⟩) := by
  unfold parseS
  rw [if_neg (by rw [h1]; decide), if_neg (by omega), if_pos h3]
theorem fParse (L kd fl st : Int) (A : Option Addr) (n c : Nat) (l : List Int) (w : World) (h : Byt w A n c l) (hn : n ≤ 100000) (hst0 : -9223372036854775808 ≤ st) (hst1 : st ≤ 9223372036854775807) (f0l : 0 ≤ fl) (f1l : fl ≤ 255) :
    Calls Try.prog 10 #[.agg #[.int .i64 L, .int .u8 kd, .int .u8 fl, .int .i64 st], .slice A n c] w (ParP (parseS kd fl st l) w) := by
  have hl := h.len
  cases h1 : okH 0 st
  · exact (fParse1 L kd fl st A n c l w h hn hst0 hst1 h1).mono (parP_eq (by unfold parseS; rw [if_pos h1]))
  by_cases h2 : 16384 < n
  · exact (fParse2 L kd fl st A n c l w h hn hst0 hst1 h1 h2).mono (parP_eq (by unfold parseS; rw [if_neg (by rw [h1]; decide), if_pos (by omega)]))
  have h2' : n ≤ 16384 := by omega
  have h2l : l.length ≤ 16384 := by omega
  by_cases h5 : kd = 5
  · subst h5
    exact (fParse3a L fl st A n c l w h hn hst0 hst1 h1 h2').mono (parP_eq (parse_far h1 h2l (.inl rfl)).symm)
  have e5 : (kd == 5) = false := by simpa using h5
  by_cases ho1 : ofK kd = 1
  · have e1 : (ofK kd == 1) = true := by simpa using ho1
    have e2 : (ofK kd == 2) = false := by rw [ho1]; rfl
    by_cases hs : st = 0
    · subst hs
      exact (fParse3b L kd fl A n c l w h hn h1 h2' e5 e1).mono (parP_eq (parse_far h1 h2l (.inr (by simp [farK, ho1]))).symm)
    · have e0 : (st == 0) = false := by simpa using hs
      have h3 : ¬(kd = 5 ∨ farK kd st = true) := by simp [farK, h5, ho1, hs]
      cases hlo : longOk kd fl n
      · by_cases hk2 : kd = 2
        · subst hk2
          exact (fParse41 L fl st A n c l w h hn hst0 hst1 h1 h2' (by decide) (by decide) e0 hlo f0l f1l).mono (parP_eq (by rw [parse_short h1 h2l h3 (by rw [hl]; exact hlo), if_pos rfl]))
        · exact (fParse42i L kd fl st A n c l w h hn hst0 hst1 h1 h2' e5 e1 e2 e0 (by simpa using hk2) hlo f0l f1l).mono (parP_eq (by rw [parse_short h1 h2l h3 (by rw [hl]; exact hlo), if_neg hk2]))
      · cases hrd : readS kd fl st l with
        | none => exact (fParse43i L kd fl st A n c l w h hn hst0 hst1 h1 h2' e5 e1 e2 e0 hlo hrd f0l f1l).mono (parP_eq (by rw [parse_go h1 h2l h3 (by rw [hl]; exact hlo), hrd]))
        | some f1 =>
          obtain ⟨⟨wh, xs, xc⟩, hv⟩ : ∃ v, valS f1 = v := ⟨_, rfl⟩
          cases wh
          · exact (fParse44i L kd fl st A n c l w h hn hst0 hst1 h1 h2' e5 e1 e2 e0 f1 xs xc hlo hrd hv f0l f1l).mono (parP_eq (by rw [parse_go h1 h2l h3 (by rw [hl]; exact hlo), hrd]; simp [hv]))
          · exact (fParse45i L kd fl st A n c l w h hn hst0 hst1 h1 h2' e5 e1 e2 e0 f1 xs xc hlo hrd hv f0l f1l).mono (parP_eq (by rw [parse_go h1 h2l h3 (by rw [hl]; exact hlo), hrd]; simp [hv]))
  · have e1 : (ofK kd == 1) = false := by simpa using ho1
    by_cases ho2 : ofK kd = 2
    · have e2 : (ofK kd == 2) = true := by simpa using ho2
      by_cases hs : st = 0
      · subst hs
        have h3 : ¬(kd = 5 ∨ farK kd 0 = true) := by simp [farK, h5, ho2]
        cases hlo : longOk kd fl n
        · by_cases hk2 : kd = 2
          · subst hk2
            exact absurd ho2 (by decide)
          · exact (fParse42j L kd fl  A n c l w h hn h1 h2' e5 e1 e2 (by simpa using hk2) hlo f0l f1l).mono (parP_eq (by rw [parse_short h1 h2l h3 (by rw [hl]; exact hlo), if_neg hk2]))
        · cases hrd : readS kd fl 0 l with
          | none => exact (fParse43j L kd fl  A n c l w h hn h1 h2' e5 e1 e2 hlo hrd f0l f1l).mono (parP_eq (by rw [parse_go h1 h2l h3 (by rw [hl]; exact hlo), hrd]))
          | some f1 =>
            obtain ⟨⟨wh, xs, xc⟩, hv⟩ : ∃ v, valS f1 = v := ⟨_, rfl⟩
            cases wh
            · exact (fParse44j L kd fl  A n c l w h hn h1 h2' e5 e1 e2 f1 xs xc hlo hrd hv f0l f1l).mono (parP_eq (by rw [parse_go h1 h2l h3 (by rw [hl]; exact hlo), hrd]; simp [hv]))
            · exact (fParse45j L kd fl  A n c l w h hn h1 h2' e5 e1 e2 f1 xs xc hlo hrd hv f0l f1l).mono (parP_eq (by rw [parse_go h1 h2l h3 (by rw [hl]; exact hlo), hrd]; simp [hv]))
      · have e0 : (st == 0) = false := by simpa using hs
        have e0n : (st != 0) = true := by simpa using hs
        exact (fParse3c L kd fl st A n c l w h hn hst0 hst1 h1 h2' e5 e1 e2 e0 e0n).mono (parP_eq (parse_far h1 h2l (.inr (by simp [farK, ho1, ho2, hs]))).symm)
    · have e2 : (ofK kd == 2) = false := by simpa using ho2
      have h3 : ¬(kd = 5 ∨ farK kd st = true) := by simp [farK, h5, ho1, ho2]
      cases hlo : longOk kd fl n
      · by_cases hk2 : kd = 2
        · subst hk2
          exact absurd ho1 (by decide)
        · exact (fParse42k L kd fl st A n c l w h hn hst0 hst1 h1 h2' e5 e1 e2 (by simpa using hk2) hlo f0l f1l).mono (parP_eq (by rw [parse_short h1 h2l h3 (by rw [hl]; exact hlo), if_neg hk2]))
      · cases hrd : readS kd fl st l with
        | none => exact (fParse43k L kd fl st A n c l w h hn hst0 hst1 h1 h2' e5 e1 e2 hlo hrd f0l f1l).mono (parP_eq (by rw [parse_go h1 h2l h3 (by rw [hl]; exact hlo), hrd]))
        | some f1 =>
          obtain ⟨⟨wh, xs, xc⟩, hv⟩ : ∃ v, valS f1 = v := ⟨_, rfl⟩
          cases wh
          · exact (fParse44k L kd fl st A n c l w h hn hst0 hst1 h1 h2' e5 e1 e2 f1 xs xc hlo hrd hv f0l f1l).mono (parP_eq (by rw [parse_go h1 h2l h3 (by rw [hl]; exact hlo), hrd]; simp [hv]))
          · exact (fParse45k L kd fl st A n c l w h hn hst0 hst1 h1 h2' e5 e1 e2 f1 xs xc hlo hrd hv f0l f1l).mono (parP_eq (by rw [parse_go h1 h2l h3 (by rw [hl]; exact hlo), hrd]; simp [hv]))
end Go.Proofs.Ytnjnpnjjpodnnaa
