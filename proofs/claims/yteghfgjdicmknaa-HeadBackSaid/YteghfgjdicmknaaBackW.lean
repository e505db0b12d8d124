/- HeadBack: the walk, of every input. -/
import Derived.Test.YteghfgjdicmknaaBack
namespace Go.Proofs.Yteghfgjdicmknaa
open Go.RowKit Go.Shelf
set_option linter.unusedVariables false

theorem wBack {W : World} (L k f s : Int) (bL : -9223372036854775808 ≤ L ∧ L ≤ 9223372036854775807) (bs : -9223372036854775808 ≤ s ∧ s ≤ 9223372036854775807) (bk : 0 ≤ k ∧ k ≤ 255) (bf : 0 ≤ f ∧ f ≤ 255)
    (A : Option Addr) (n c : Nat) (l : List Int) (h : Byt W A n c l) :
    Calls Try.prog 4 #[.agg #[.int .i64 L, .int .u8 k, .int .u8 f, .int .i64 s], .slice A n c] W fun e w' => e = .returned (.bool true) ∧ Below W.heap.size W w' := by
  have hl := h.len
  by_cases h1 : 3000 < n
  · exact backBig L k f s A n c W h1
  have h1' : n ≤ 3000 := by omega
  have R2 : ∀ b, okH L s = b → Hid (∀ w, Calls Try.prog 16 #[.agg #[.int .i64 L, .int .u8 k, .int .u8 f, .int .i64 s]] w (BoolP b w)) := fun b e => Lib.hid fun w => by subst e; exact rHRight L k f s w bL.1 bL.2 bs.1 bs.2
  have TS : n < 9 → Hid (∀ w, Byt w A n c l → Calls Try.prog 10 #[.slice A n c] w (TakeQ 0 0 0 0 [] 10 w)) := fun hn => Lib.hid fun w hw => by
    have := fHTake A n c l w hw (by omega)
    unfold TakeP hL hK hF hS hR hE at this
    rwa [if_pos (by omega), if_pos (by omega), if_pos (by omega), if_pos (by omega), if_pos (by omega), if_pos (by omega)] at this
  have TL : 9 ≤ n → Hid (∀ w, Byt w A n c l → Calls Try.prog 10 #[.slice A n c] w (TakeQ (hL l) (hK l) (hF l) (hS l) (l.drop 9) 0 w)) := fun hn => Lib.hid fun w hw => by
    have := fHTake A n c l w hw (by omega)
    have e1 : hR l = l.drop 9 := by unfold hR; rw [if_neg (by omega)]
    have e2 : hE l = 0 := by unfold hE; rw [if_neg (by omega)]
    unfold TakeP at this
    rw [e1, e2] at this
    exact this
  have hbd := hL_bd h.bs
  have P3 : 9 ≤ n → Hid (∀ w, Calls Try.prog 8 #[.agg #[.int .i64 (hL l), .int .u8 (hK l), .int .u8 (hF l), .int .i64 (hS l)]] w fun e W' => ∃ A c, e = .returned (.tuple #[.slice A 9 c, .int .i64 0]) ∧ Mine w.heap.size W' A 9 c ((l.take 9).set 5 (l[5]?.getD 0 % 128)) ∧ Below w.heap.size w W') := fun hn => Lib.hid fun w => by
    obtain ⟨ok, hp⟩ := head_put h.bs (by omega)
    have yes := of_decide_eq_true ok
    have k0 : 0 ≤ hK l ∧ hK l ≤ 255 := by unfold hK; rw [if_neg (by omega)]; exact h.bs.get 3
    have f0 : 0 ≤ hF l ∧ hF l ≤ 255 := by unfold hF; rw [if_neg (by omega)]; exact h.bs.get 4
    exact fHPutE (by simp; omega) hp (by unfold putHe; rw [ok]; rfl) w (by omega) (by omega) (by omega) (by omega) k0 f0
  have v5 := h.bs.get 5
  have hV : 9 ≤ n → Hid ((l.take 9)[5]?.getD 0 = l[5]?.getD 0) := fun hn => Lib.hid (by rw [List.getElem?_take, if_pos (by decide)])
  have hV' : bits .and .u8 (l[5]?.getD 0) 127 = l[5]?.getD 0 % 128 := by
    have := and_mask (l[5]?.getD 0) 7 v5.1 v5.2 (by decide)
    simpa using this
  cases ok : okH L s
  · have P1 : Hid (∀ w, Calls Try.prog 8 #[.agg #[.int .i64 L, .int .u8 k, .int .u8 f, .int .i64 s]] w fun e W' => ∃ A c, e = .returned (.tuple #[.slice A 0 c, .int .i64 2]) ∧ Mine w.heap.size W' A 0 c [] ∧ Below w.heap.size w W') := Lib.hid fun w =>
      fHPutE (l := []) (n' := 0) (e' := 2) rfl (by unfold putH; rw [ok]; rfl) (by unfold putHe; rw [ok]; rfl) w bL.1 bL.2 bs.1 bs.2 bk bf
    by_cases hn : n < 9
    · exact backNoShort L k f s A n c l W h h1' [] P1 (R2 _ ok) (TS hn) hn
    · by_cases hc : c = 9
      · exact backNoNine L k f s A n c l W h h1' [] P1 (R2 _ ok) _ _ _ _ _ _ [] [] (TL (by omega)) (P3 (by omega)) (hV (by omega)) hV' (by omega) (by omega) (by omega) (Lib.hid hc)
      · exact backNoMore L k f s A n c l W h h1' [] P1 (R2 _ ok) _ _ _ _ _ _ [] [] (TL (by omega)) (P3 (by omega)) (hV (by omega)) hV' (by omega) (by omega) (by omega) hc
  · have yes := of_decide_eq_true ok
    obtain ⟨L, rfl⟩ := toNat_lit yes.1
    obtain ⟨s, rfl⟩ := toNat_lit yes.2.2.1
    have hPl : (bigE 3 L ++ [k, f] ++ bigE 4 s).length = 9 := by simp [bigE_len]
    have P1 : Hid (∀ w, Calls Try.prog 8 #[.agg #[.int .i64 L, .int .u8 k, .int .u8 f, .int .i64 s]] w fun e W' => ∃ A c, e = .returned (.tuple #[.slice A 9 c, .int .i64 0]) ∧ Mine w.heap.size W' A 9 c (bigE 3 L ++ [k, f] ++ bigE 4 s) ∧ Below w.heap.size w W') := Lib.hid fun w =>
      fHPutE (e' := 0) hPl (by unfold putH; rw [ok]; rfl) (by unfold putHe; rw [ok]; rfl) w bL.1 bL.2 bs.1 bs.2 bk bf
    have T0 : Hid (∀ (w : World) (A : Option Addr) (c : Nat), Byt w A (9 + n) c (bigE 3 L ++ [k, f] ++ bigE 4 s ++ l) → Calls Try.prog 10 #[.slice A (9 + n) c] w fun e W' => ∃ A c, e = .returned (.tuple #[.agg #[.int .i64 L, .int .u8 k, .int .u8 f, .int .i64 s], .slice A n c, .int .i64 0]) ∧ Mine w.heap.size W' A n c l ∧ Below w.heap.size w W') := Lib.hid fun w A c hw => by
      obtain ⟨e1, e2, e3, e4, e5, e6⟩ := head_back L s k f l (by omega) (by omega)
      exact fHTakeE hl (by rw [e1, e2, e3, e4, e5, e6]) w hw (by omega)
    by_cases hn : n < 9
    · exact backYesShort L k f s A n c l W h h1' _ P1 (R2 _ ok) (Lib.hid hPl) T0 (TS hn) hn
    · by_cases hc : c = 9
      · exact backYesNine L k f s A n c l W h h1' _ P1 (R2 _ ok) (Lib.hid hPl) T0 _ _ _ _ _ _ [] [] (TL (by omega)) (P3 (by omega)) (hV (by omega)) hV' (by omega) (by omega) (by omega) (Lib.hid hc)
      · exact backYesMore L k f s A n c l W h h1' _ P1 (R2 _ ok) (Lib.hid hPl) T0 _ _ _ _ _ _ [] [] (TL (by omega)) (P3 (by omega)) (hV (by omega)) hV' (by omega) (by omega) (by omega) hc
end Go.Proofs.Yteghfgjdicmknaa
