/- Frames taken apart: words; the contracts of the small functions. -/
import Derived.Test.YtnjnpnjjpodnnaaRYF
import Derived.StillTailTactics
import Derived.Deep.QuietTactic
import Derived.BigQuiet
namespace Go.Proofs.Ytnjnpnjjpodnnaa
open Go.RowKit Go.Shelf
set_option linter.unusedVariables false
set_option linter.unusedSimpArgs false

/-- A frame. -/
structure Fm where
  kd : Int
  fl : Int
  st : Int
  pd : Int
  la : Int
  ic : Int
  cd : Int
  dp : Int
  wt : Int
  da : List Int
  prs : List (Int × Int)
  rk : Bool
  al : Bool
deriving DecidableEq
structure FmOk (f : Fm) : Prop where
  kd : 0 ≤ f.kd ∧ f.kd ≤ 255
  fl : 0 ≤ f.fl ∧ f.fl ≤ 255
  st : -9223372036854775808 ≤ f.st ∧ f.st ≤ 9223372036854775807
  pd : -9223372036854775808 ≤ f.pd ∧ f.pd ≤ 9223372036854775807
  la : -9223372036854775808 ≤ f.la ∧ f.la ≤ 9223372036854775807
  ic : -9223372036854775808 ≤ f.ic ∧ f.ic ≤ 9223372036854775807
  cd : 0 ≤ f.cd ∧ f.cd ≤ 4294967295
  dp : -9223372036854775808 ≤ f.dp ∧ f.dp ≤ 9223372036854775807
  wt : 0 ≤ f.wt ∧ f.wt ≤ 255
  da : Bs f.da
def Fm0 : Fm := ⟨0, 0, 0, 0, 0, 0, 0, 0, 0, [], [], false, false⟩
def FltP (wh : Bool) (s c : Int) (w : World) (e : Ending) (w' : World) : Prop := e = .returned (.agg #[.bool wh, .int .i64 s, .int .u32 c]) ∧ Below w.heap.size w w'

theorem fWholeF (x : Int) (w : World) : Calls Try.prog 20 #[.int .u32 x] w (FltP true 0 x w) := by
  go_enter Try.func20, Try.ntmps20
  go_wp2
  exact bodyPost_ret (v := .agg #[.bool true, .int .i64 0, .int .u32 x]) (by simp [results, Try.f20, go_sem]) rfl ⟨rfl, (Below.refl _ _).alloc (Nat.le_refl _) _⟩
theorem fOfF (s x : Int) (w : World) : Calls Try.prog 22 #[.int .i64 s, .int .u32 x] w (FltP false s x w) := by
  go_enter Try.func22, Try.ntmps22
  go_wp2
  exact bodyPost_ret (v := .agg #[.bool false, .int .i64 s, .int .u32 x]) (by simp [results, Try.f22, go_sem]) rfl ⟨rfl, (Below.refl _ _).alloc (Nat.le_refl _) _⟩
theorem fSameL (A : Option Addr) (n c : Nat) (l : List Int) (B : Option Addr) (m d : Nat) (l' : List Int) (w : World) (h : Byt w A n c l) (h' : Byt w B m d l') :
    Calls Try.prog 15 #[.slice A n c, .slice B m d] w (Ret (.bool (eqB l l')) w) := by
  have e1 := h.conv
  have e2 := h'.conv
  have e3 := strOf_eq h.bs h'.bs
  have H := Lib.hid h
  have H' := Lib.hid h'
  clear h h'
  go_enter Try.func15, Try.ntmps15
  go_wp2
  go_ret
  exact ⟨rfl, rfl⟩
theorem fEqualB (A : Option Addr) (n c : Nat) (l : List Int) (B : Option Addr) (m d : Nat) (l' : List Int) (w : World) (h : Byt w A n c l) (h' : Byt w B m d l') :
    Calls Try.prog 39 #[.slice A n c, .slice B m d] w (Ret (.bool (eqB l l')) w) := by
  have e1 := h.conv
  have e2 := h'.conv
  have e3 := strOf_eq h.bs h'.bs
  have H := Lib.hid h
  have H' := Lib.hid h'
  clear h h'
  go_enter Try.func39, Try.ntmps39
  go_wp2
  go_ret
  exact ⟨rfl, rfl⟩
/-- The number of the four bytes at a place. -/
theorem fNumber (A : Option Addr) (n c : Nat) (l : List Int) (a : Int) (w : World) (a1 : a ≤ 9223372036854775807) (h : Byt w A n c l) :
    Calls Try.prog 73 #[.slice A n c, .int .i64 a] w (Ret (.int .u32 (takeO l a 4).1) w) := by
  have TK := Lib.hid (fOTake A n c l a 4 w a1 h)
  have hb := takeO_bd h.bs a 4
  clear h
  generalize (takeO l a 4).1 = N at *
  have hw : IntKind.u32.wrap N = N := by rw [IntKind.wrap_u32]; omega
  go_enter Try.func73, Try.ntmps73
  go_wp2_with (go_at_call 102; (with_reducible refine TK.out.mono ?_); rintro e w' ⟨rfl, rfl⟩)
  go_ret
  exact ⟨rfl, rfl⟩
theorem fOwnN (A : Option Addr) (n c : Nat) (l : List Int) (a : Int) (w : World) (a1 : a ≤ 9223372036854775807) (h : Byt w A n c l) :
    Calls Try.prog 83 #[.slice A n c, .int .i64 a] w (Ret (.int .i64 (streamO l a)) w) := by
  have TK := Lib.hid (fNumber A n c l a w a1 h)
  have hb := takeO_bd h.bs a 4
  clear h
  unfold streamO
  generalize (takeO l a 4).1 = N at *
  go_enter Try.func83, Try.ntmps83
  go_wp2_with (go_at_call 73; (with_reducible refine TK.out.mono ?_); rintro e w' ⟨rfl, rfl⟩)
  go_ret
  refine ⟨?_, rfl⟩
  show Ending.returned (.int .i64 (N * 2 % 4294967296 / 2)) = _
  rw [show N * 2 % 4294967296 / 2 = N % 2147483648 by omega]
/-- Bytes of the call's own. -/
def SlP (l : List Int) (w : World) (e : Ending) (W' : World) : Prop := ∃ A n c, e = .returned (.slice A n c) ∧ Mine w.heap.size W' A n c l ∧ Below w.heap.size w W'
theorem fFour (n : Int) (w : World) (n1 : n ≤ 9223372036854775807) : Calls Try.prog 75 #[.int .i64 n] w (SlP (putO n 4) w) := by
  have TK := Lib.hid (fOPut n 4 w n1)
  go_enter Try.func75, Try.ntmps75
  go_wp2_with (go_at_call 103; (with_reducible refine TK.out.mono ?_); rintro e w' ⟨⟨A', m', c', rfl, hm⟩, hb⟩)
  go_ret
  exact ⟨A', m', c', rfl, hm, hb⟩
/-- How long a payload may be, by its kind. -/
def needK (kd fl : Int) : Int := (if hasB fl 8 then 1 else 0) + (if kd = 1 ∧ hasB fl 32 = true then 5 else 0)
def longOk (kd fl : Int) (n : Nat) : Bool :=
  if kd = 0 ∨ kd = 1 then decide (needK kd fl ≤ n) else if kd = 2 then decide (n = 5) else if kd = 3 ∨ kd = 8 then decide (n = 4) else if kd = 4 then decide (n % 6 = 0) && (decide (n = 0) || !(hasB fl 1)) else if kd = 6 then decide (n = 8) else if kd = 7 then decide (8 ≤ n) else if kd = 16 then decide (4 ≤ n) else true
set_option maxRecDepth 100000 in
set_option maxHeartbeats 1000000 in
theorem fFlaggedB (L k f s : Int) (n : Nat) (w : World) (f0 : 0 ≤ f) (f1 : f ≤ 255) (hn : n ≤ 140737488355328) (g1 g2 g3 : Bool) (h1 : hasB f 8 = g1) (h2 : hasB f 32 = g2) (h3 : (k == 1) = g3) :
    Calls Try.prog 63 #[.agg #[.int .i64 L, .int .u8 k, .int .u8 f, .int .i64 s], .int .i64 n] w (BoolP (decide ((if g1 then (1 : Int) else 0) + (if g3 && g2 then 5 else 0) ≤ n)) w) := by
  have H8 := Lib.hid fun w => fHas L k f s 8 w f0 f1 (by decide) (by decide)
  have H32 := Lib.hid fun w => fHas L k f s 32 w f0 f1 (by decide) (by decide)
  have b0 := (Bel.refl w).alloc (.cells #[.int .i64 L, .int .u8 k, .int .u8 f, .int .i64 s] 23)
  have q0 := Blk.new w 23 #[.int .i64 L, .int .u8 k, .int .u8 f, .int .i64 s]
  have tok1 : True := trivial
  have hw1 : IntKind.i64.wrap ((n : Int) - 1) = (n : Int) - 1 := by rw [IntKind.wrap_i64]; omega
  have hw5 : IntKind.i64.wrap ((n : Int) - 5) = (n : Int) - 5 := by rw [IntKind.wrap_i64]; omega
  have hw6 : IntKind.i64.wrap ((n : Int) - 1 - 5) = (n : Int) - 1 - 5 := by rw [IntKind.wrap_i64]; omega
  rw [h1] at H8
  rw [h2] at H32
  have z1 := q0.at 1 rfl
  clear f0 f1 hn h1 h2
  cases g1 <;> cases g2 <;> cases g3
  all_goals
    go_enter Try.func63, Try.ntmps63
    go_wp2_with (first
      | ((with_reducible refine wpList_id ?_); refine wpList_getG (by rfl) _ _ rfl rfl q0 Try.underlying23 rfl (by rfl) ?_)
      | (go_at_call 77; have _t := tok1; clear tok1 _t; (with_reducible refine (H8.out _).mono ?_); rintro e w9 ⟨rfl, hb⟩; replace b0 := b0.below hb; replace q0 := q0.below hb; clear z1; have z1 := q0.at 1 rfl; clear hb)
      | (go_at_call 77; (with_reducible refine (H32.out _).mono ?_); rintro e w9 ⟨rfl, hb⟩; replace b0 := b0.below hb; replace q0 := q0.below hb; clear z1; have z1 := q0.at 1 rfl; clear hb))
    go_ret
    refine ⟨?_, b0.out⟩
    show Ending.returned (Value.bool _) = _
    refine ret_bool ?_
    first
      | rfl
      | (rw [Bool.eq_iff_iff]; simp; done)
      | (rw [Bool.eq_iff_iff]; simp; omega)
theorem fFlagged (L k f s : Int) (n : Nat) (w : World) (f0 : 0 ≤ f) (f1 : f ≤ 255) (hn : n ≤ 140737488355328) : Calls Try.prog 63 #[.agg #[.int .i64 L, .int .u8 k, .int .u8 f, .int .i64 s], .int .i64 n] w (BoolP (decide (needK k f ≤ n)) w) := by
  have h := fFlaggedB L k f s n w f0 f1 hn _ _ _ rfl rfl rfl
  unfold needK
  by_cases h3 : k = 1 <;> simp [h3] at h ⊢ <;> exact h
end Go.Proofs.Ytnjnpnjjpodnnaa
