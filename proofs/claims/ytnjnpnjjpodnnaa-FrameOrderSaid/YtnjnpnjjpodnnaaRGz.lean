/- Frames: plain facts for the statements. -/
import Derived.Test.YtnjnpnjjpodnnaaRGy
namespace Go.Proofs.Ytnjnpnjjpodnnaa
open Go.RowKit Go.Shelf
set_option linter.unusedVariables false
set_option linter.unusedSimpArgs false

theorem flt_eqs (xw : Bool) (xs xc : Int) : ∀ W : World, (binOp .eql 34 (.agg #[.bool xw, .int .i64 xs, .int .u32 xc]) (.agg #[.bool xw, .int .i64 xs, .int .u32 xc])).run Try.prog W = .ok (.bool true) W := fun W => by
  go_simp
theorem num_zeros (k : Nat) : num (List.replicate k 0) = 0 := by
  unfold num
  induction k with
  | zero => rfl
  | succ k ih => rw [List.replicate_succ, List.foldl_cons]; simpa using ih
theorem take_zeros (n : Nat) (a s : Int) : (takeO (List.replicate n 0) a s).1 = 0 := by
  unfold takeO
  split
  · split
    · simp only [List.drop_replicate, List.take_replicate]
      exact num_zeros _
    · rfl
  · rfl
theorem stream_zeros (n : Nat) : streamO (List.replicate n 0) 0 = 0 := by
  unfold streamO
  rw [take_zeros]
  rfl
/-- Bytes of noughts. -/
theorem zero_long {kd fl st : Int} {n : Nat} (h1 : okH 0 st = true) (h2 : 16384 < n) : parseS kd fl st (List.replicate n 0) = (Fm0, ⟨true, 0, 6⟩) := by
  unfold parseS
  rw [if_neg (by rw [h1]; decide), if_pos (by rw [List.length_replicate]; exact h2)]
theorem zero_far {kd fl st : Int} {n : Nat} (h1 : okH 0 st = true) (h2 : n ≤ 16384) (h3 : kd = 5 ∨ farK kd st = true) : parseS kd fl st (List.replicate n 0) = (Fm0, ⟨true, 0, 1⟩) :=
  parse_far h1 (by rw [List.length_replicate]; exact h2) h3
theorem zero_short {kd fl st : Int} {n : Nat} (h1 : okH 0 st = true) (h2 : n ≤ 16384) (h3 : ¬(kd = 5 ∨ farK kd st = true)) (hk : kd ≠ 2) (h4 : longOk kd fl n = false) : parseS kd fl st (List.replicate n 0) = (Fm0, ⟨true, 0, 6⟩) := by
  rw [parse_short h1 (by rw [List.length_replicate]; exact h2) h3 (by rw [List.length_replicate]; exact h4), if_neg hk]
theorem zero_prio {fl st : Int} {n : Nat} (h1 : okH 0 st = true) (h2 : n ≤ 16384) (h3 : st ≠ 0) (h4 : n ≠ 5) : parseS 2 fl st (List.replicate n 0) = (fm0 2 fl st, ⟨false, st, 6⟩) := by
  rw [parse_short h1 (by rw [List.length_replicate]; exact h2) (by simp [farK, ofK, h3]) (by rw [List.length_replicate]; simp [longOk, h4]), if_pos rfl]
theorem zero_go {kd fl st : Int} {n : Nat} {r : Fm} (h1 : okH 0 st = true) (h2 : n ≤ 16384) (h3 : ¬(kd = 5 ∨ farK kd st = true)) (h4 : longOk kd fl n = true) (h5 : readS kd fl st (List.replicate n 0) = some r) :
    parseS kd fl st (List.replicate n 0) = if (valS r).wh then (Fm0, valS r) else (r, valS r) := by
  rw [parse_go h1 (by rw [List.length_replicate]; exact h2) h3 (by rw [List.length_replicate]; exact h4), h5]
theorem zero_urgent {fl : Int} {n : Nat} (h2 : n ≤ 16384) (h4 : 4 ≤ n) : parseS 16 fl 0 (List.replicate n 0) = (Fm0, ⟨true, 0, 1⟩) := by
  rw [zero_go (r := { fm0 16 fl 0 with la := 0, da := (List.replicate n 0).drop 4 }) (by decide) h2 (by simp [farK, ofK]) (by simp [longOk, h4]) (by unfold readS; rw [if_neg (by decide), if_neg (by decide), if_neg (by decide), if_neg (by decide), if_neg (by decide), if_neg (by decide), if_neg (by decide), if_pos rfl, stream_zeros])]
  have : valS { fm0 16 fl 0 with la := 0, da := (List.replicate n 0).drop 4 } = ⟨true, 0, 1⟩ := by unfold valS; rw [if_neg (by simp [fm0, firstS]), if_neg (by simp [fm0]), if_pos ⟨rfl, rfl⟩]
  rw [this]
  rfl
theorem zero_reset {fl st : Int} {n : Nat} (h1 : okH 0 st = true) (hs : st ≠ 0) (h4 : n = 4) : ∃ r, parseS 3 fl st (List.replicate n 0) = (r, ⟨false, 0, 0⟩) := by
  refine ⟨{ fm0 3 fl st with cd := (takeO (List.replicate n 0) 0 4).1 }, ?_⟩
  rw [zero_go (r := { fm0 3 fl st with cd := (takeO (List.replicate n 0) 0 4).1 }) h1 (by omega) (by simp [farK, ofK, hs]) (by simp [longOk, h4]) (by unfold readS; rw [if_neg (by decide), if_neg (by decide), if_neg (by decide), if_pos rfl])]
  have : valS { fm0 3 fl st with cd := (takeO (List.replicate n 0) 0 4).1 } = ⟨false, 0, 0⟩ := by unfold valS; rw [if_neg (by simp [fm0, firstS]), if_neg (by simp [fm0]), if_neg (by simp [fm0]), if_neg (by simp [fm0])]
  rw [this]
  rfl
theorem zero_data {kd fl st : Int} {n : Nat} (h1 : okH 0 st = true) (h2 : n ≤ 16384) (h3 : ¬(kd = 5 ∨ farK kd st = true)) (h4 : longOk kd fl n = true) (k0 : kd ≠ 0) (k1 : kd ≠ 1) (k2 : kd ≠ 2) (k3 : kd ≠ 3) (k4 : kd ≠ 4) (k7 : kd ≠ 7) (k8 : kd ≠ 8) (k16 : kd ≠ 16) : ∃ r, parseS kd fl st (List.replicate n 0) = (r, ⟨false, 0, 0⟩) := by
  refine ⟨{ fm0 kd fl st with da := List.replicate n 0 }, ?_⟩
  rw [zero_go (r := { fm0 kd fl st with da := List.replicate n 0 }) h1 h2 h3 h4 (by unfold readS; rw [if_neg k0, if_neg k1, if_neg k2, if_neg k3, if_neg k4, if_neg k7, if_neg k8, if_neg k16])]
  have : valS { fm0 kd fl st with da := List.replicate n 0 } = ⟨false, 0, 0⟩ := by unfold valS; rw [if_neg (by simp [fm0, firstS]), if_neg (by intro h; exact k8 h.1), if_neg (by intro h; exact k16 h.1), if_neg (by simp [fm0])]
  rw [this]
  rfl
end Go.Proofs.Ytnjnpnjjpodnnaa
