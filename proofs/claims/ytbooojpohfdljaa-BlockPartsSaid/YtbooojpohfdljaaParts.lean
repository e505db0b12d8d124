/- BlockParts: a block's bytes cut anyhow into frames are the same whole block; more than MaxBlock are a fault: the walk. -/
import Derived.Test.YtbooojpohfdljaaTells
import Derived.Test.YtbooojpohfdljaaJd
import Derived.Test.YtbooojpohfdljaaM
namespace Go.Proofs.Ytbooojpohfdljaa
open Go.RowKit Go.Shelf
set_option linter.unusedVariables false

/-- A slice of ints holds these. -/
structure Ints (w : World) (A : Option Addr) (n c : Nat) (z : Nat → Int) : Prop where
  cap : n ≤ c
  mx : c ≤ 9223372036854775807
  bd : ∀ i, -9223372036854775808 ≤ z i ∧ z i ≤ 9223372036854775807
  cell : 0 < n → ∃ b o, A = some ⟨b, o, none⟩ ∧ b < w.heap.size ∧ ∀ i, i < n → w.cell? ⟨b, o + i, none⟩ = some (.int .i64 (z i))
theorem Ints.below {w w' : World} {A : Option Addr} {n c : Nat} {z : Nat → Int} (h : Ints w A n c z) (hb : Below w.heap.size w w') : Ints w' A n c z :=
  ⟨h.cap, h.mx, h.bd, fun hn => let ⟨b, o, e, hlt, hc⟩ := h.cell hn; ⟨b, o, e, Nat.lt_of_lt_of_le hlt hb.size, fun i hi => (hb.cell (p := ⟨b, o + i, none⟩) hlt).trans (hc i hi)⟩⟩

theorem run_cut_lh (w : World) (A : Option Addr) (n c : Nat) (l h : Int) (h0 : 0 ≤ l) (h1 : l ≤ h) (h2 : h ≤ c) :
    (Instr.slice 22 (.slice A n c) (some (.int .i64 l)) (some (.int .i64 h)) none).run Try.prog w = .ok (.slice (cutA A c l.toNat) (h.toNat - l.toNat) (c - l.toNat)) w := by
  rw [run_slice_lh (P := Try.prog) w 22 A n c (by kernel_rfl) .i64 .i64 l h h0 h1 h2]
  rw [show ∀ w, (sizeOf (Try.prog.elem 22)).run Try.prog w = .ok 1 w from fun w => by kernel_rfl]
  simp [Result.andThen, sliced, cutA]
theorem run_cut_h (w : World) (A : Option Addr) (n c : Nat) (h : Int) (h0 : 0 ≤ h) (h2 : h ≤ c) :
    (Instr.slice 22 (.slice A n c) none (some (.int .i64 h)) none).run Try.prog w = .ok (.slice (cutA A c 0) h.toNat c) w := by
  rw [run_slice_h (P := Try.prog) w 22 A n c (by kernel_rfl) .i64 h h0 h2]
  rw [show ∀ w, (sizeOf (Try.prog.elem 22)).run Try.prog w = .ok 1 w from fun w => by kernel_rfl]
  simp [Result.andThen, sliced, cutA]
attribute [local go_sem ↓ high] run_cut_lh run_cut_h

/-- The block behind i frames, a bytes of the data read. -/
def StP (s : Int) (E : Bool) (D : List Int) (i a : Nat) (SB : Int) (EB : Bool) (DB : List Int) : Prop :=
  (i = 0 ∧ a = 0 ∧ SB = 0 ∧ EB = false ∧ DB = []) ∨ (0 < i ∧ SB = s ∧ EB = E ∧ DB = D.take a ∧ a ≤ 4096)
theorem partsRight {s : Int} {E : Bool} {D : List Int} {i a : Nat} {SB : Int} {EB : Bool} {DB : List Int} (h : StP s E D i a SB EB DB) (s0 : 1 ≤ s) (s1 : s < 2147483648) : rightB SB EB DB = true := by
  rcases h with ⟨_, _, rfl, rfl, rfl⟩ | ⟨_, rfl, rfl, rfl, ha⟩
  · decide
  · unfold rightB
    rw [if_pos (by omega)]
    exact decide_eq_true ⟨by omega, by rw [List.length_take]; omega⟩
/-- What Take answers. -/
theorem partsFin {s : Int} {E : Bool} {D : List Int} {i a t : Nat} {SB : Int} {EB : Bool} {DB : List Int} (h : StP s E D i a SB EB DB) (s0 : 1 ≤ s) (s1 : s < 2147483648) (hat : a ≤ t) (ht : t ≤ D.length) {K F : Int}
    (hK : i = 0 ∧ K = 1 ∧ decide (F % 2 = 1) = E ∨ 0 < i ∧ K = 9) : takeB SB EB DB K F s ((D.take t).drop a) = finB SB EB DB s E (D.take t) F := by
  have hr := partsRight h s0 s1
  have hs : strB s = true := decide_eq_true ⟨s0, s1⟩
  unfold takeB
  rw [if_neg (by rw [hr, hs]; simp)]
  rcases h with ⟨rfl, rfl, rfl, rfl, rfl⟩ | ⟨hi, rfl, rfl, rfl, ha⟩
  · rcases hK with ⟨_, rfl, rfl⟩ | ⟨h, _⟩
    · rw [if_neg (by decide), if_pos rfl, List.drop_zero]
    · omega
  · rcases hK with ⟨h, _⟩ | ⟨_, rfl⟩
    · omega
    · rw [if_pos (by omega), if_pos ⟨rfl, rfl⟩]
      have e : D.take a ++ (D.take t).drop a = D.take t := by
        conv => rhs; rw [← List.take_append_drop a (D.take t)]
        rw [List.take_take, Nat.min_eq_left hat]
      rw [e]

theorem partsTo (zi : Int) (a n : Nat) (han : a ≤ n) : ∃ (M : Int) (t : Nat), a ≤ t ∧ t ≤ n ∧ (∀ ts ty w, (Builtin.max_ ts ty #[.int .i64 zi, .int .i64 a]).run Try.prog w = .ok (.int .i64 M) w) ∧ (∀ ts ty w, (Builtin.min_ ts ty #[.int .i64 M, .int .i64 n]).run Try.prog w = .ok (.int .i64 t) w) := by
  refine ⟨if (a : Int) > zi then a else zi, (if (n : Int) < (if (a : Int) > zi then (a : Int) else zi) then (n : Int) else (if (a : Int) > zi then (a : Int) else zi)).toNat, ?_, ?_, fun ts ty w => run_max_int2 w ts ty .i64 .i64 zi a, fun ts ty w => ?_⟩
  · split <;> split <;> omega
  · split <;> split <;> omega
  · rw [run_min_int2 w ts ty .i64 .i64]
    congr 2
    split <;> split <;> omega
theorem partsMany' {s : Int} {E : Bool} {D : List Int} {i a t : Nat} {SB : Int} {EB : Bool} {DB : List Int} {K F : Int} (h : takeB SB EB DB K F s ((D.take t).drop a) = finB SB EB DB s E (D.take t) F) (ht : t ≤ D.length) (h1 : 4096 < t) :
    takeB SB EB DB K F s ((D.take t).drop a) = ⟨SB, EB, DB, 0, false, [], false, true, 11, 0⟩ := by
  rw [h]; unfold finB; rw [if_pos (by rw [List.length_take]; omega)]
theorem partsDone' {s : Int} {E : Bool} {D : List Int} {i a t : Nat} {SB : Int} {EB : Bool} {DB : List Int} {K F : Int} (h : takeB SB EB DB K F s ((D.take t).drop a) = finB SB EB DB s E (D.take t) F) (ht : t ≤ D.length) (h1 : t ≤ 4096) (h2 : F / 4 % 2 = 1) :
    takeB SB EB DB K F s ((D.take t).drop a) = ⟨0, false, [], s, E, D.take t, true, false, 0, 0⟩ := by
  rw [h]; unfold finB; rw [if_neg (by rw [List.length_take]; omega), if_pos h2]
theorem partsOpen' {s : Int} {E : Bool} {D : List Int} {i a t : Nat} {SB : Int} {EB : Bool} {DB : List Int} {K F : Int} (h : takeB SB EB DB K F s ((D.take t).drop a) = finB SB EB DB s E (D.take t) F) (ht : t ≤ D.length) (h1 : t ≤ 4096) (h2 : ¬ F / 4 % 2 = 1) :
    takeB SB EB DB K F s ((D.take t).drop a) = ⟨s, E, D.take t, 0, false, [], false, false, 0, 0⟩ := by
  rw [h]; unfold finB; rw [if_neg (by rw [List.length_take]; omega), if_neg h2]
theorem StP.len {s : Int} {E : Bool} {D : List Int} {i a : Nat} {SB : Int} {EB : Bool} {DB : List Int} (h : StP s E D i a SB EB DB) (s0 : 1 ≤ s) (s1 : s < 2147483648) : DB.length ≤ 4096 ∧ 0 ≤ SB ∧ SB < 2147483648 := by
  rcases h with ⟨_, _, rfl, _, rfl⟩ | ⟨_, rfl, _, rfl, ha⟩
  · simp
  · rw [List.length_take]; omega

set_option maxRecDepth 100000 in
set_option maxHeartbeats 4000000 in
theorem partsBig (A : Option Addr) (n c : Nat) (D : List Int) (C : Option Addr) (nc cc : Nat) (z : Nat → Int) (s : Int) (E : Bool) (W : World) (h : Byt W A n c D) (hz : Ints W C nc cc z) (g : 5000 < n) :
    Calls Try.prog 4 #[.slice A n c, .slice C nc cc, .int .i64 s, .bool E] W fun e w' => e = .returned (.bool true) ∧ Below W.heap.size W w' := by
  have G0 := Lib.hid fun w => fGreatE (A := A) (n := n) (c := c) (b := true) (decide_eq_true (by omega)) (Nat.le_trans h.cap h.mx) w
  have b0 := Bel.refl W
  clear h hz
  go_enter Try.func4, Try.ntmps4
  go_wp2_with (first | (go_at_call 7; (with_reducible refine (G0.out _).mono ?_); rintro e w1 ⟨rfl, rfl⟩) | (go_at_call 8; refine (fWakes _).mono ?_; rintro e wk ⟨rfl, hb⟩; replace b0 := b0.below hb))
  go_ret
  exact ⟨rfl, b0.out⟩

set_option maxRecDepth 100000 in
set_option maxHeartbeats 4000000 in
theorem partsMany (A : Option Addr) (n c : Nat) (D : List Int) (C : Option Addr) (nc cc : Nat) (z : Nat → Int) (s : Int) (E : Bool) (W : World) (h : Byt W A n c D) (hz : Ints W C nc cc z) (g : n ≤ 5000) (g1 : 20 < nc) :
    Calls Try.prog 4 #[.slice A n c, .slice C nc cc, .int .i64 s, .bool E] W fun e w' => e = .returned (.bool true) ∧ Below W.heap.size W w' := by
  have G0 := Lib.hid fun w => fGreatE (A := A) (n := n) (c := c) (b := false) (decide_eq_false (by omega)) (Nat.le_trans h.cap h.mx) w
  have b0 := Bel.refl W
  clear h hz
  have t1 : decide ((20 : Int) < (nc : Int)) = true := decide_eq_true (by omega)
  go_enter Try.func4, Try.ntmps4
  go_wp2_with (first | (go_at_call 7; (with_reducible refine (G0.out _).mono ?_); rintro e w1 ⟨rfl, rfl⟩) | (go_at_call 8; refine (fWakes _).mono ?_; rintro e wk ⟨rfl, hb⟩; replace b0 := b0.below hb))
  go_ret
  exact ⟨rfl, b0.out⟩

set_option maxRecDepth 100000 in
set_option maxHeartbeats 4000000 in
theorem partsLow (A : Option Addr) (n c : Nat) (D : List Int) (C : Option Addr) (nc cc : Nat) (z : Nat → Int) (s : Int) (E : Bool) (W : World) (h : Byt W A n c D) (hz : Ints W C nc cc z) (g : n ≤ 5000) (g1 : nc ≤ 20) (g2 : s < 1) :
    Calls Try.prog 4 #[.slice A n c, .slice C nc cc, .int .i64 s, .bool E] W fun e w' => e = .returned (.bool true) ∧ Below W.heap.size W w' := by
  have G0 := Lib.hid fun w => fGreatE (A := A) (n := n) (c := c) (b := false) (decide_eq_false (by omega)) (Nat.le_trans h.cap h.mx) w
  have b0 := Bel.refl W
  clear h hz
  have t1 : decide ((20 : Int) < (nc : Int)) = false := decide_eq_false (by omega)
  have t2 : decide (s < 1) = true := decide_eq_true g2
  go_enter Try.func4, Try.ntmps4
  go_wp2_with (first | (go_at_call 7; (with_reducible refine (G0.out _).mono ?_); rintro e w1 ⟨rfl, rfl⟩) | (go_at_call 8; refine (fWakes _).mono ?_; rintro e wk ⟨rfl, hb⟩; replace b0 := b0.below hb))
  go_ret
  exact ⟨rfl, b0.out⟩

set_option maxRecDepth 100000 in
set_option maxHeartbeats 4000000 in
theorem partsHigh (A : Option Addr) (n c : Nat) (D : List Int) (C : Option Addr) (nc cc : Nat) (z : Nat → Int) (s : Int) (E : Bool) (W : World) (h : Byt W A n c D) (hz : Ints W C nc cc z) (g : n ≤ 5000) (g1 : nc ≤ 20) (g2 : 1 ≤ s) (g3 : 2147483648 ≤ s) :
    Calls Try.prog 4 #[.slice A n c, .slice C nc cc, .int .i64 s, .bool E] W fun e w' => e = .returned (.bool true) ∧ Below W.heap.size W w' := by
  have G0 := Lib.hid fun w => fGreatE (A := A) (n := n) (c := c) (b := false) (decide_eq_false (by omega)) (Nat.le_trans h.cap h.mx) w
  have b0 := Bel.refl W
  clear h hz
  have t1 : decide ((20 : Int) < (nc : Int)) = false := decide_eq_false (by omega)
  have t2 : decide (s < 1) = false := decide_eq_false (by omega)
  have t3 : decide (2147483648 ≤ s) = true := decide_eq_true g3
  go_enter Try.func4, Try.ntmps4
  go_wp2_with (first | (go_at_call 7; (with_reducible refine (G0.out _).mono ?_); rintro e w1 ⟨rfl, rfl⟩) | (go_at_call 8; refine (fWakes _).mono ?_; rintro e wk ⟨rfl, hb⟩; replace b0 := b0.below hb))
  go_ret
  exact ⟨rfl, b0.out⟩

noncomputable def partsOps : Array Oper := regAt Try.f4 26

set_option maxRecDepth 100000 in
set_option maxHeartbeats 16000000 in
theorem partsOk (A : Option Addr) (n c : Nat) (D : List Int) (C : Option Addr) (nc cc : Nat) (z : Nat → Int) (s : Int) (E : Bool) (W : World) (h : Byt W A n c D) (hz : Ints W C nc cc z) (g : n ≤ 5000) (g1 : nc ≤ 20) (g2 : 1 ≤ s) (g3 : s < 2147483648) :
    Calls Try.prog 4 #[.slice A n c, .slice C nc cc, .int .i64 s, .bool E] W fun e w' => e = .returned (.bool true) ∧ Below W.heap.size W w' := by
  have hl := h.len
  have hcap := h.cap
  have hmx := h.mx
  have G0 := Lib.hid fun w => fGreatE (A := A) (n := n) (c := c) (b := false) (decide_eq_false (by omega)) (Nat.le_trans h.cap h.mx) w
  have t1 : decide ((20 : Int) < (nc : Int)) = false := decide_eq_false (by omega)
  have t2 : decide (s < 1) = false := decide_eq_false (by omega)
  have t3 : decide (2147483648 ≤ s) = false := decide_eq_false (by omega)
  have b0 := (Bel.refl W).alloc (.cells #[.int .i64 0, .bool false, .slice none 0 0] 24)
  have q0 := Blk.new W 24 #[.int .i64 0, .bool false, .slice none 0 0]
  have h0 := h
  have hz0 := hz
  clear h hz
  go_enter Try.func4, Try.ntmps4
  go_wp2_with (first | (go_at_call 7; (with_reducible refine (G0.out _).mono ?_); rintro e w1 ⟨rfl, rfl⟩))
  go_loopw [10, 11] (fun va vi wr => ∃ (i a : Nat) (SB : Int) (EB : Bool) (AB : Option Addr) (mB cB : Nat) (DB : List Int), i ≤ nc ∧ a ≤ n ∧ va = .int .i64 a ∧ vi = .int .i64 i ∧ StP s E D i a SB EB DB ∧ Blk wr W.heap.size 24 #[.int .i64 SB, .bool EB, .slice AB mB cB] ∧ Byt wr AB mB cB DB ∧ Bel W wr) (fun _ vi _ => nc + 1 - (intOf vi).toNat)
  case atStart => exact ⟨0, 0, 0, false, none, 0, 0, [], Nat.zero_le _, Nat.zero_le _, rfl, rfl, .inl ⟨rfl, rfl, rfl, rfl, rfl⟩, q0, Byt.nil _, b0⟩
  case round =>
    obtain ⟨i, a, SB, EB, AB, mB, cB, DB, hi, ha, rfl, rfl, hst, qb, yb, bw⟩ := hrel
    have y := h0.below bw.out
    have hz := hz0.below bw.out
    clear q0 b0
    have zb0 := qb.at 0 rfl
    have zb1 := qb.at 1 rfl
    have zb2 := qb.at 2 rfl
    have t4 : decide ((i : Int) ≤ (nc : Int)) = true := decide_eq_true (by omega)
    by_cases hlt : i < nc
    · obtain ⟨b, o, rfl, hbl, hcell⟩ := hz.cell (by omega)
      have hc1 := hcell i hlt
      obtain ⟨zi, hzi⟩ : ∃ zi, z i = zi := ⟨_, rfl⟩
      have hzb := hz.bd i
      rw [hzi] at hc1 hzb
      clear hcell hzi
      obtain ⟨M, t, hat, htn, hM, hm⟩ := partsTo zi a n ha
      have i0 : (0 : Int) ≤ (i : Int) := by omega
      have i1 : (i : Int) < (nc : Int) := by omega
      have t7 : ((i : Int) == (nc : Int)) = false := beq_eq_false_iff_ne.2 (by omega)
      have htl : t ≤ D.length := by omega
      have htk : (D.take t).length = t := by rw [List.length_take]; omega
      have hbl := yb.len
      have hsl := hst.len g2 g3
      by_cases h00 : i = 0
      · cases E
        rotate_left
        · by_cases h4 : 4096 < t
          · have hfin := partsFin hst g2 g3 hat htl (K := 1) (F := 1) (.inl ⟨h00, rfl, by decide⟩)
            have hr := partsMany' (i := i) hfin htl h4
            have yx := y.cut (lo := a) (hi := t) hat htn
            have T1 : Hid (∀ w, Byt w AB mB cB DB → Byt w (cutA A c a) (t - a) (c - a) ((D.take t).drop a) → Calls Try.prog 9 #[.agg #[.int .i64 SB, .bool EB, .slice AB mB cB], .agg #[.int .u8 1, .int .u8 1, .int .i64 s, .slice (cutA A c a) (t - a) (c - a), .int .i64 0, .int .i64 0, .int .i64 0, .int .u32 0, .slice none 0 0, .bool false, .bool false, .int .i64 0, .int .u8 0]] w fun e W' => ∃ A c B d, e = .returned (.tuple #[.agg #[.int .i64 SB, .bool EB, .slice A mB c], .agg #[.int .i64 0, .bool false, .slice B 0 d], .bool false, .agg #[.bool true, .int .i64 0, .int .u32 11], .int .i64 0]) ∧ Mine w.heap.size W' A mB c (DB) ∧ Mine w.heap.size W' B 0 d ([]) ∧ Below w.heap.size w W') := Lib.hid fun w h h' => fBTakeE mB 0 hbl rfl hr w h h' (by omega) (by omega) (by omega) (by omega) (by decide) (by decide)
            clear hfin hr
            have R1 : Hid (∀ w A c, Byt w A mB c (DB) → Calls Try.prog 13 #[.agg #[.int .i64 SB, .bool EB, .slice A mB c]] w (BoolP true w)) := Lib.hid fun w A c h => by have := rBRight (SB) EB A mB c (DB) w h; rwa [show rightB (SB) EB (DB) = true from partsRight hst g2 g3] at this
            have HST := Lib.hid hst
            clear hst hz
            have t5 : ((i : Int) == 0) = true := beq_iff_eq.2 (by omega)
            have b04 : bits .or .u8 0 4 = 4 := by kernel_rfl
            have b14 : bits .or .u8 1 4 = 5 := by kernel_rfl
            have t6 : decide ((4096 : Int) < (t : Int)) = true := decide_eq_true (by omega)
            have j0 : (0 : Int) ≤ (a : Int) := by omega
            have j1 : (a : Int) ≤ (t : Int) := by omega
            have j2 : (t : Int) ≤ (c : Int) := by omega
            have j3 : (0 : Int) ≤ (t : Int) := by omega
            have ql := qb.lt
            clear h00
            go_wp2_with fail
            replace bw := bw.alloc (.cells #[.int .u8 1, .int .u8 1, .int .i64 s, .slice (cutA A c a) (t - a) (c - a), .int .i64 0, .int .i64 0, .int .i64 0, .int .u32 0, .slice none 0 0, .bool false, .bool false, .int .i64 0, .int .u8 0] 30)
            replace y := y.alloc (.cells #[.int .u8 1, .int .u8 1, .int .i64 s, .slice (cutA A c a) (t - a) (c - a), .int .i64 0, .int .i64 0, .int .i64 0, .int .u32 0, .slice none 0 0, .bool false, .bool false, .int .i64 0, .int .u8 0] 30)
            replace yb := yb.alloc (.cells #[.int .u8 1, .int .u8 1, .int .i64 s, .slice (cutA A c a) (t - a) (c - a), .int .i64 0, .int .i64 0, .int .i64 0, .int .u32 0, .slice none 0 0, .bool false, .bool false, .int .i64 0, .int .u8 0] 30)
            replace qb := qb.alloc (.cells #[.int .u8 1, .int .u8 1, .int .i64 s, .slice (cutA A c a) (t - a) (c - a), .int .i64 0, .int .i64 0, .int .i64 0, .int .u32 0, .slice none 0 0, .bool false, .bool false, .int .i64 0, .int .u8 0] 30)
            replace yx := yx.alloc (.cells #[.int .u8 1, .int .u8 1, .int .i64 s, .slice (cutA A c a) (t - a) (c - a), .int .i64 0, .int .i64 0, .int .i64 0, .int .u32 0, .slice none 0 0, .bool false, .bool false, .int .i64 0, .int .u8 0] 30)
            refine (T1.out _ yb yx).mono ?_
            rintro e w1 ⟨A1, c1, B1, d1, rfl, mo, mw, hb⟩
            clear yx
            replace bw := (bw).below hb; replace y := (y).below hb; replace yb := (yb).below hb; replace qb := (qb).below hb
            have yo := mo.byt
            have yw := mw.byt
            clear mo mw
            replace bw := bw.alloc (.cells #[.int .i64 SB, .bool EB, .slice A1 mB c1] 24)
            replace y := y.alloc (.cells #[.int .i64 SB, .bool EB, .slice A1 mB c1] 24)
            replace yb := yb.alloc (.cells #[.int .i64 SB, .bool EB, .slice A1 mB c1] 24)
            replace qb := qb.alloc (.cells #[.int .i64 SB, .bool EB, .slice A1 mB c1] 24)
            replace yo := yo.alloc (.cells #[.int .i64 SB, .bool EB, .slice A1 mB c1] 24)
            replace yw := yw.alloc (.cells #[.int .i64 SB, .bool EB, .slice A1 mB c1] 24)
            have qo := Blk.newAt (b := w1.heap.size) w1 24 #[.int .i64 SB, .bool EB, .slice A1 mB c1] rfl
            replace bw := bw.alloc (.cells #[.int .i64 0, .bool false, .slice B1 0 d1] 24)
            replace y := y.alloc (.cells #[.int .i64 0, .bool false, .slice B1 0 d1] 24)
            replace yb := yb.alloc (.cells #[.int .i64 0, .bool false, .slice B1 0 d1] 24)
            replace qb := qb.alloc (.cells #[.int .i64 0, .bool false, .slice B1 0 d1] 24)
            replace yo := yo.alloc (.cells #[.int .i64 0, .bool false, .slice B1 0 d1] 24)
            replace yw := yw.alloc (.cells #[.int .i64 0, .bool false, .slice B1 0 d1] 24)
            replace qo := qo.alloc (.cells #[.int .i64 0, .bool false, .slice B1 0 d1] 24)
            have qw := Blk.newAt (b := w1.heap.size + 1) (w1.alloc (.cells #[.int .i64 SB, .bool EB, .slice A1 mB c1] 24)) 24 #[.int .i64 0, .bool false, .slice B1 0 d1] (by simp)
            replace bw := bw.alloc (.cells #[.bool true, .int .i64 0, .int .u32 11] 34)
            replace y := y.alloc (.cells #[.bool true, .int .i64 0, .int .u32 11] 34)
            replace yb := yb.alloc (.cells #[.bool true, .int .i64 0, .int .u32 11] 34)
            replace qb := qb.alloc (.cells #[.bool true, .int .i64 0, .int .u32 11] 34)
            replace yo := yo.alloc (.cells #[.bool true, .int .i64 0, .int .u32 11] 34)
            replace yw := yw.alloc (.cells #[.bool true, .int .i64 0, .int .u32 11] 34)
            replace qo := qo.alloc (.cells #[.bool true, .int .i64 0, .int .u32 11] 34)
            replace qw := qw.alloc (.cells #[.bool true, .int .i64 0, .int .u32 11] 34)
            have qg := Blk.newAt (b := w1.heap.size + 1 + 1) ((w1.alloc (.cells #[.int .i64 SB, .bool EB, .slice A1 mB c1] 24)).alloc (.cells #[.int .i64 0, .bool false, .slice B1 0 d1] 24)) 34 #[.bool true, .int .i64 0, .int .u32 11] (by simp)
            clear zb0 zb1 zb2
            have zqo0 := qo.at 0 rfl; have zqo1 := qo.at 1 rfl; have zqo2 := qo.at 2 rfl; have zqw0 := qw.at 0 rfl; have zqw1 := qw.at 1 rfl; have zqw2 := qw.at 2 rfl; have zqg0 := qg.at 0 rfl; have zqg1 := qg.at 1 rfl; have zqg2 := qg.at 2 rfl; have zqb0 := qb.at 0 rfl; have zqb1 := qb.at 1 rfl; have zqb2 := qb.at 2 rfl
            go_wp2_with (first | (go_at_call 13; refine (R1.out _ _ _ yo).mono ?_; rintro e w2 ⟨rfl, hb⟩; replace bw := bw.below hb; replace y := y.below hb; replace yb := yb.below hb; replace qb := qb.below hb; replace yo := yo.below hb; replace yw := yw.below hb; replace qo := qo.below hb; replace qw := qw.below hb; replace qg := qg.below hb; have zqo0 := qo.at 0 rfl; have zqo1 := qo.at 1 rfl; have zqo2 := qo.at 2 rfl; have zqw0 := qw.at 0 rfl; have zqw1 := qw.at 1 rfl; have zqw2 := qw.at 2 rfl; have zqg0 := qg.at 0 rfl; have zqg1 := qg.at 1 rfl; have zqg2 := qg.at 2 rfl; have zqb0 := qb.at 0 rfl; have zqb1 := qb.at 1 rfl; have zqb2 := qb.at 2 rfl) | (go_at_call 11; refine (rBSameE (sameB_self SB EB DB) _ yo yb).mono ?_; rintro e w2 ⟨rfl, hb⟩; replace bw := bw.below hb) | (go_at_call 8; refine (fWakes _).mono ?_; rintro e wk ⟨rfl, hb⟩; replace bw := bw.below hb))
            go_ret
            exact ⟨rfl, bw.out⟩
          · have hro : rightB s true (D.take t) = true := by unfold rightB; rw [if_pos (by omega)]; exact decide_eq_true ⟨by omega, by omega⟩
            have hfin := partsFin hst g2 g3 hat htl (K := 1) (F := 1) (.inl ⟨h00, rfl, by decide⟩)
            have hr := partsOpen' (i := i) hfin htl (by omega) (by decide)
            have yx := y.cut (lo := a) (hi := t) hat htn
            have T1 : Hid (∀ w, Byt w AB mB cB DB → Byt w (cutA A c a) (t - a) (c - a) ((D.take t).drop a) → Calls Try.prog 9 #[.agg #[.int .i64 SB, .bool EB, .slice AB mB cB], .agg #[.int .u8 1, .int .u8 1, .int .i64 s, .slice (cutA A c a) (t - a) (c - a), .int .i64 0, .int .i64 0, .int .i64 0, .int .u32 0, .slice none 0 0, .bool false, .bool false, .int .i64 0, .int .u8 0]] w fun e W' => ∃ A c B d, e = .returned (.tuple #[.agg #[.int .i64 s, .bool true, .slice A t c], .agg #[.int .i64 0, .bool false, .slice B 0 d], .bool false, .agg #[.bool false, .int .i64 0, .int .u32 0], .int .i64 0]) ∧ Mine w.heap.size W' A t c (D.take t) ∧ Mine w.heap.size W' B 0 d ([]) ∧ Below w.heap.size w W') := Lib.hid fun w h h' => fBTakeE t 0 htk rfl hr w h h' (by omega) (by omega) (by omega) (by omega) (by decide) (by decide)
            clear hfin hr
            have R1 : Hid (∀ w A c, Byt w A t c (D.take t) → Calls Try.prog 13 #[.agg #[.int .i64 s, .bool true, .slice A t c]] w (BoolP true w)) := Lib.hid fun w A c h => by have := rBRight (s) true A t c (D.take t) w h; rwa [show rightB (s) true (D.take t) = true from hro] at this
            have HST := Lib.hid hst
            clear hst hz
            have t5 : ((i : Int) == 0) = true := beq_iff_eq.2 (by omega)
            have b04 : bits .or .u8 0 4 = 4 := by kernel_rfl
            have b14 : bits .or .u8 1 4 = 5 := by kernel_rfl
            have t6 : decide ((4096 : Int) < (t : Int)) = false := decide_eq_false (by omega)
            have j0 : (0 : Int) ≤ (a : Int) := by omega
            have j1 : (a : Int) ≤ (t : Int) := by omega
            have j2 : (t : Int) ≤ (c : Int) := by omega
            have j3 : (0 : Int) ≤ (t : Int) := by omega
            have ql := qb.lt
            clear h00
            go_wp2_with fail
            replace bw := bw.alloc (.cells #[.int .u8 1, .int .u8 1, .int .i64 s, .slice (cutA A c a) (t - a) (c - a), .int .i64 0, .int .i64 0, .int .i64 0, .int .u32 0, .slice none 0 0, .bool false, .bool false, .int .i64 0, .int .u8 0] 30)
            replace y := y.alloc (.cells #[.int .u8 1, .int .u8 1, .int .i64 s, .slice (cutA A c a) (t - a) (c - a), .int .i64 0, .int .i64 0, .int .i64 0, .int .u32 0, .slice none 0 0, .bool false, .bool false, .int .i64 0, .int .u8 0] 30)
            replace yb := yb.alloc (.cells #[.int .u8 1, .int .u8 1, .int .i64 s, .slice (cutA A c a) (t - a) (c - a), .int .i64 0, .int .i64 0, .int .i64 0, .int .u32 0, .slice none 0 0, .bool false, .bool false, .int .i64 0, .int .u8 0] 30)
            replace qb := qb.alloc (.cells #[.int .u8 1, .int .u8 1, .int .i64 s, .slice (cutA A c a) (t - a) (c - a), .int .i64 0, .int .i64 0, .int .i64 0, .int .u32 0, .slice none 0 0, .bool false, .bool false, .int .i64 0, .int .u8 0] 30)
            replace yx := yx.alloc (.cells #[.int .u8 1, .int .u8 1, .int .i64 s, .slice (cutA A c a) (t - a) (c - a), .int .i64 0, .int .i64 0, .int .i64 0, .int .u32 0, .slice none 0 0, .bool false, .bool false, .int .i64 0, .int .u8 0] 30)
            refine (T1.out _ yb yx).mono ?_
            rintro e w1 ⟨A1, c1, B1, d1, rfl, mo, mw, hb⟩
            clear yx
            replace bw := (bw).below hb; replace y := (y).below hb; replace yb := (yb).below hb; replace qb := (qb).below hb
            have yo := mo.byt
            have yw := mw.byt
            clear mw
            replace bw := bw.alloc (.cells #[.int .i64 s, .bool true, .slice A1 t c1] 24)
            replace y := y.alloc (.cells #[.int .i64 s, .bool true, .slice A1 t c1] 24)
            replace yb := yb.alloc (.cells #[.int .i64 s, .bool true, .slice A1 t c1] 24)
            replace qb := qb.alloc (.cells #[.int .i64 s, .bool true, .slice A1 t c1] 24)
            replace yo := yo.alloc (.cells #[.int .i64 s, .bool true, .slice A1 t c1] 24)
            replace yw := yw.alloc (.cells #[.int .i64 s, .bool true, .slice A1 t c1] 24)
            replace mo := mo.alloc (.cells #[.int .i64 s, .bool true, .slice A1 t c1] 24)
            have qo := Blk.newAt (b := w1.heap.size) w1 24 #[.int .i64 s, .bool true, .slice A1 t c1] rfl
            replace bw := bw.alloc (.cells #[.int .i64 0, .bool false, .slice B1 0 d1] 24)
            replace y := y.alloc (.cells #[.int .i64 0, .bool false, .slice B1 0 d1] 24)
            replace yb := yb.alloc (.cells #[.int .i64 0, .bool false, .slice B1 0 d1] 24)
            replace qb := qb.alloc (.cells #[.int .i64 0, .bool false, .slice B1 0 d1] 24)
            replace yo := yo.alloc (.cells #[.int .i64 0, .bool false, .slice B1 0 d1] 24)
            replace yw := yw.alloc (.cells #[.int .i64 0, .bool false, .slice B1 0 d1] 24)
            replace mo := mo.alloc (.cells #[.int .i64 0, .bool false, .slice B1 0 d1] 24)
            replace qo := qo.alloc (.cells #[.int .i64 0, .bool false, .slice B1 0 d1] 24)
            have qw := Blk.newAt (b := w1.heap.size + 1) (w1.alloc (.cells #[.int .i64 s, .bool true, .slice A1 t c1] 24)) 24 #[.int .i64 0, .bool false, .slice B1 0 d1] (by simp)
            replace bw := bw.alloc (.cells #[.bool false, .int .i64 0, .int .u32 0] 34)
            replace y := y.alloc (.cells #[.bool false, .int .i64 0, .int .u32 0] 34)
            replace yb := yb.alloc (.cells #[.bool false, .int .i64 0, .int .u32 0] 34)
            replace qb := qb.alloc (.cells #[.bool false, .int .i64 0, .int .u32 0] 34)
            replace yo := yo.alloc (.cells #[.bool false, .int .i64 0, .int .u32 0] 34)
            replace yw := yw.alloc (.cells #[.bool false, .int .i64 0, .int .u32 0] 34)
            replace mo := mo.alloc (.cells #[.bool false, .int .i64 0, .int .u32 0] 34)
            replace qo := qo.alloc (.cells #[.bool false, .int .i64 0, .int .u32 0] 34)
            replace qw := qw.alloc (.cells #[.bool false, .int .i64 0, .int .u32 0] 34)
            have qg := Blk.newAt (b := w1.heap.size + 1 + 1) ((w1.alloc (.cells #[.int .i64 s, .bool true, .slice A1 t c1] 24)).alloc (.cells #[.int .i64 0, .bool false, .slice B1 0 d1] 24)) 34 #[.bool false, .int .i64 0, .int .u32 0] (by simp)
            clear zb0 zb1 zb2
            have zqo0 := qo.at 0 rfl; have zqo1 := qo.at 1 rfl; have zqo2 := qo.at 2 rfl; have zqw0 := qw.at 0 rfl; have zqw1 := qw.at 1 rfl; have zqw2 := qw.at 2 rfl; have zqg0 := qg.at 0 rfl; have zqg1 := qg.at 1 rfl; have zqg2 := qg.at 2 rfl; have zqb0 := qb.at 0 rfl; have zqb1 := qb.at 1 rfl; have zqb2 := qb.at 2 rfl
            go_wp2_with (first | (go_at_call 13; refine (R1.out _ _ _ yo).mono ?_; rintro e w2 ⟨rfl, hb⟩; replace bw := bw.below hb; replace y := y.below hb; replace yb := yb.below hb; replace qb := qb.below hb; replace yo := yo.below hb; replace yw := yw.below hb; replace mo := mo.below hb; replace qo := qo.below hb; replace qw := qw.below hb; replace qg := qg.below hb; have zqo0 := qo.at 0 rfl; have zqo1 := qo.at 1 rfl; have zqo2 := qo.at 2 rfl; have zqw0 := qw.at 0 rfl; have zqw1 := qw.at 1 rfl; have zqw2 := qw.at 2 rfl; have zqg0 := qg.at 0 rfl; have zqg1 := qg.at 1 rfl; have zqg2 := qg.at 2 rfl; have zqb0 := qb.at 0 rfl; have zqb1 := qb.at 1 rfl; have zqb2 := qb.at 2 rfl))
            skip
            obtain ⟨SW, HS⟩ : ∃ SW : World → Prop, Hid (SW = CellsAt [(⟨w1.heap.size, 0, none⟩, .int .i64 s), (⟨w1.heap.size, 1, none⟩, .bool true), (⟨w1.heap.size, 2, none⟩, .slice A1 t c1), (⟨w1.heap.size + 1, 0, none⟩, .int .i64 0), (⟨w1.heap.size + 1, 1, none⟩, .bool false), (⟨w1.heap.size + 1, 2, none⟩, .slice B1 0 d1)]) := ⟨_, Lib.hid rfl⟩
            have sw0 : SW w2.drew := by
              rw [HS.out]
              exact ⟨qo.at 0 rfl, qo.at 1 rfl, qo.at 2 rfl, qw.at 0 rfl, qw.at 1 rfl, qw.at 2 rfl, trivial⟩
            replace bw := bw.drew; replace y := y.drew; replace yb := yb.drew; replace qb := qb.drew; replace yo := yo.drew; replace yw := yw.drew; replace mo := mo.drew; replace qo := qo.drew; replace qw := qw.drew; replace qg := qg.drew
            have yt : ∀ w, Byt w A n c D → Byt w (cutA A c 0) t c (D.take t) := fun w h => by have := h.cut (lo := 0) (hi := t) (Nat.zero_le _) htn; simpa using this
            have YT := Lib.hid yt
            clear yt
            clear zqo0; clear zqo1; clear zqo2; clear zqw0; clear zqw1; clear zqw2; clear zqg0; clear zqg1; clear zqg2; clear zqb0; clear zqb1; clear zqb2
            have HB : Hid (∀ w w', SW w → Below w.heap.size w w' → SW w') := Lib.hid fun w w' h hb => by rw [HS.out] at h ⊢; exact CellsAt.below h hb
            refine wp_region_N partsOps SW (by as_aux_lemma => kernel_rfl) (by as_aux_lemma => kernel_rfl) (fun d _ _ _ _ h => by cases d <;> exact h) (fun Q HQ hp => ?_)
            refine wpAnyG_takesF [0, 1, 2, 3, 4, 5, 6] 8 (by as_aux_lemma => kernel_rfl) (by as_aux_lemma => kernel_rfl) hp sw0 ?_
            refine pureW_e1 14 (by (conv => lhs; whnf; arg 1; whnf)) (by rfl) (by (conv => lhs; whnf)) (fun ρ hρ h1 w1 hSw => by have hc := hρ.const; clear hρ; rw [HS.out] at hSw; simp only [CellsAt] at hSw; go_simp; try with_reducible rfl) ?_; (try simp only [Act.put, List.setIfInBounds_toArray, List.set_cons_succ, List.set_cons_zero])
            refine pureW_e1 2 (by (conv => lhs; whnf; arg 1; whnf)) (by rfl) (by (conv => lhs; whnf)) (fun ρ hρ h1 w1 hSw => by have hc := hρ.const; clear hρ; clear hSw; go_simp; try with_reducible rfl) ?_; (try simp only [Act.put, List.setIfInBounds_toArray, List.set_cons_succ, List.set_cons_zero])
            refine pureW_e1 3 (by (conv => lhs; whnf; arg 1; whnf)) (by rfl) (by (conv => lhs; whnf)) (fun ρ hρ h1 w1 hSw => by have hc := hρ.const; clear hρ; clear hSw; go_simp; try with_reducible rfl) ?_; (try simp only [Act.put, List.setIfInBounds_toArray, List.set_cons_succ, List.set_cons_zero])
            refine pureW_e1 0 (by (conv => lhs; whnf; arg 1; whnf)) (by rfl) (by (conv => lhs; whnf)) (fun ρ hρ h1 w1 hSw => by have hc := hρ.const; clear hρ; clear hSw; go_simp; try with_reducible rfl) ?_; (try simp only [Act.put, List.setIfInBounds_toArray, List.set_cons_succ, List.set_cons_zero])
            refine pureW_e1 12 (by (conv => lhs; whnf; arg 1; whnf)) (by rfl) (by (conv => lhs; whnf)) (fun ρ hρ h1 w1 hSw => by have hc := hρ.const; clear hρ; clear hSw; go_simp; try with_reducible rfl) ?_; (try simp only [Act.put, List.setIfInBounds_toArray, List.set_cons_succ, List.set_cons_zero])
            refine pureW_e2 142 143 (by (conv => lhs; whnf; arg 1; whnf)) (by rfl) (by (conv => lhs; whnf)) (by (conv => lhs; whnf)) (fun ρ hρ h1 h2 w1 hSw => by have hc := hρ.const; clear hρ; clear hSw; go_simp; try with_reducible rfl) ?_; (try simp only [Act.put, List.setIfInBounds_toArray, List.set_cons_succ, List.set_cons_zero])
            refine pureW_e3 140 141 144 (by (conv => lhs; whnf; arg 1; whnf)) (by rfl) (by (conv => lhs; whnf)) (by (conv => lhs; whnf)) (by (conv => lhs; whnf)) (fun ρ hρ h1 h2 h3 w1 hSw => by have hc := hρ.const; clear hρ; clear hSw; go_simp; try with_reducible rfl) ?_; (try simp only [Act.put, List.setIfInBounds_toArray, List.set_cons_succ, List.set_cons_zero])
            refine pureW_nil ?_
            refine wpAnyG_oneN 7 7 (by as_aux_lemma => kernel_rfl) (by as_aux_lemma => kernel_rfl) (by (conv => lhs; whnf; arg 1; whnf)) (by rfl) (fun K hK => ?_)
            go_simp
            refine (rBSameE (sameB_self s true (D.take t)) _ yo (YT.out _ y)).mono ?_
            rintro e wr1 ⟨rfl, hb⟩
            replace bw := (bw).below hb
            replace y := (y).below hb
            replace yb := (yb).below hb
            replace qb := (qb).below hb
            replace yo := (yo).below hb
            replace yw := (yw).below hb
            replace mo := (mo).below hb
            replace qo := (qo).below hb
            replace qw := (qw).below hb
            replace qg := (qg).below hb
            have sw1 := HB.out _ _ sw0 hb
            (try go_simp)
            refine hK.out _ _ sw1 ?_
            clear hK K hb sw0
            refine wpAnyG_takesF [8, 9, 10, 11, 12, 13, 14] 0 (by as_aux_lemma => kernel_rfl) (by as_aux_lemma => kernel_rfl) hp sw1 ?_
            refine pureW_e1 146 (by (conv => lhs; whnf; arg 1; whnf)) (by rfl) (by (conv => lhs; whnf)) (fun ρ hρ h1 w1 hSw => by have hc := hρ.const; clear hρ; clear hSw; go_simp; try with_reducible rfl) ?_; (try simp only [Act.put, List.setIfInBounds_toArray, List.set_cons_succ, List.set_cons_zero])
            refine pureW_e1 147 (by (conv => lhs; whnf; arg 1; whnf)) (by rfl) (by (conv => lhs; whnf)) (fun ρ hρ h1 w1 hSw => by have hc := hρ.const; clear hρ; clear hSw; go_simp; try with_reducible rfl) ?_; (try simp only [Act.put, List.setIfInBounds_toArray, List.set_cons_succ, List.set_cons_zero])
            refine pureW_e1 15 (by (conv => lhs; whnf; arg 1; whnf)) (by rfl) (by (conv => lhs; whnf)) (fun ρ hρ h1 w1 hSw => by have hc := hρ.const; clear hρ; clear hSw; go_simp; try with_reducible rfl) ?_; (try simp only [Act.put, List.setIfInBounds_toArray, List.set_cons_succ, List.set_cons_zero])
            refine pureW_e1 149 (by (conv => lhs; whnf; arg 1; whnf)) (by rfl) (by (conv => lhs; whnf)) (fun ρ hρ h1 w1 hSw => by have hc := hρ.const; clear hρ; rw [HS.out] at hSw; simp only [CellsAt] at hSw; go_simp; try with_reducible rfl) ?_; (try simp only [Act.put, List.setIfInBounds_toArray, List.set_cons_succ, List.set_cons_zero])
            refine pureW_e1 150 (by (conv => lhs; whnf; arg 1; whnf)) (by rfl) (by (conv => lhs; whnf)) (fun ρ hρ h1 w1 hSw => by have hc := hρ.const; clear hρ; clear hSw; go_simp; try with_reducible rfl) ?_; (try simp only [Act.put, List.setIfInBounds_toArray, List.set_cons_succ, List.set_cons_zero])
            refine pureW_e1 151 (by (conv => lhs; whnf; arg 1; whnf)) (by rfl) (by (conv => lhs; whnf)) (fun ρ hρ h1 w1 hSw => by have hc := hρ.const; clear hρ; clear hSw; go_simp; try with_reducible rfl) ?_; (try simp only [Act.put, List.setIfInBounds_toArray, List.set_cons_succ, List.set_cons_zero])
            refine pureW_e2 148 152 (by (conv => lhs; whnf; arg 1; whnf)) (by rfl) (by (conv => lhs; whnf)) (by (conv => lhs; whnf)) (fun ρ hρ h1 h2 w1 hSw => by have hc := hρ.const; clear hρ; clear hSw; go_simp; try with_reducible rfl) ?_; (try simp only [Act.put, List.setIfInBounds_toArray, List.set_cons_succ, List.set_cons_zero])
            refine pureW_nil ?_
            refine wpAnyG_done (by as_aux_lemma => kernel_rfl) ?_ _
            rw [HQ.out]
            have zqo0 := qo.at 0 rfl; have zqo1 := qo.at 1 rfl; have zqo2 := qo.at 2 rfl
            have zqb0 := qb.at 0 rfl; have zqb1 := qb.at 1 rfl; have zqb2 := qb.at 2 rfl
            have fqb := qb.frozen
            go_wp2
            exact ⟨⟨i + 1, t, s, true, A1, t, c1, D.take t, by omega, htn, rfl, by simp, .inr ⟨by omega, rfl, rfl, rfl, by omega⟩, qb.put3 _ _ _, (mo.put3 qb (by decide) _ _ _).byt, bw.put3 (Nat.le_refl _) _ _ _⟩, by simp [intOf]; omega⟩
        · by_cases h4 : 4096 < t
          · have hfin := partsFin hst g2 g3 hat htl (K := 1) (F := 0) (.inl ⟨h00, rfl, by decide⟩)
            have hr := partsMany' (i := i) hfin htl h4
            have yx := y.cut (lo := a) (hi := t) hat htn
            have T1 : Hid (∀ w, Byt w AB mB cB DB → Byt w (cutA A c a) (t - a) (c - a) ((D.take t).drop a) → Calls Try.prog 9 #[.agg #[.int .i64 SB, .bool EB, .slice AB mB cB], .agg #[.int .u8 1, .int .u8 0, .int .i64 s, .slice (cutA A c a) (t - a) (c - a), .int .i64 0, .int .i64 0, .int .i64 0, .int .u32 0, .slice none 0 0, .bool false, .bool false, .int .i64 0, .int .u8 0]] w fun e W' => ∃ A c B d, e = .returned (.tuple #[.agg #[.int .i64 SB, .bool EB, .slice A mB c], .agg #[.int .i64 0, .bool false, .slice B 0 d], .bool false, .agg #[.bool true, .int .i64 0, .int .u32 11], .int .i64 0]) ∧ Mine w.heap.size W' A mB c (DB) ∧ Mine w.heap.size W' B 0 d ([]) ∧ Below w.heap.size w W') := Lib.hid fun w h h' => fBTakeE mB 0 hbl rfl hr w h h' (by omega) (by omega) (by omega) (by omega) (by decide) (by decide)
            clear hfin hr
            have R1 : Hid (∀ w A c, Byt w A mB c (DB) → Calls Try.prog 13 #[.agg #[.int .i64 SB, .bool EB, .slice A mB c]] w (BoolP true w)) := Lib.hid fun w A c h => by have := rBRight (SB) EB A mB c (DB) w h; rwa [show rightB (SB) EB (DB) = true from partsRight hst g2 g3] at this
            have HST := Lib.hid hst
            clear hst hz
            have t5 : ((i : Int) == 0) = true := beq_iff_eq.2 (by omega)
            have b04 : bits .or .u8 0 4 = 4 := by kernel_rfl
            have b14 : bits .or .u8 1 4 = 5 := by kernel_rfl
            have t6 : decide ((4096 : Int) < (t : Int)) = true := decide_eq_true (by omega)
            have j0 : (0 : Int) ≤ (a : Int) := by omega
            have j1 : (a : Int) ≤ (t : Int) := by omega
            have j2 : (t : Int) ≤ (c : Int) := by omega
            have j3 : (0 : Int) ≤ (t : Int) := by omega
            have ql := qb.lt
            clear h00
            go_wp2_with fail
            replace bw := bw.alloc (.cells #[.int .u8 1, .int .u8 0, .int .i64 s, .slice (cutA A c a) (t - a) (c - a), .int .i64 0, .int .i64 0, .int .i64 0, .int .u32 0, .slice none 0 0, .bool false, .bool false, .int .i64 0, .int .u8 0] 30)
            replace y := y.alloc (.cells #[.int .u8 1, .int .u8 0, .int .i64 s, .slice (cutA A c a) (t - a) (c - a), .int .i64 0, .int .i64 0, .int .i64 0, .int .u32 0, .slice none 0 0, .bool false, .bool false, .int .i64 0, .int .u8 0] 30)
            replace yb := yb.alloc (.cells #[.int .u8 1, .int .u8 0, .int .i64 s, .slice (cutA A c a) (t - a) (c - a), .int .i64 0, .int .i64 0, .int .i64 0, .int .u32 0, .slice none 0 0, .bool false, .bool false, .int .i64 0, .int .u8 0] 30)
            replace qb := qb.alloc (.cells #[.int .u8 1, .int .u8 0, .int .i64 s, .slice (cutA A c a) (t - a) (c - a), .int .i64 0, .int .i64 0, .int .i64 0, .int .u32 0, .slice none 0 0, .bool false, .bool false, .int .i64 0, .int .u8 0] 30)
            replace yx := yx.alloc (.cells #[.int .u8 1, .int .u8 0, .int .i64 s, .slice (cutA A c a) (t - a) (c - a), .int .i64 0, .int .i64 0, .int .i64 0, .int .u32 0, .slice none 0 0, .bool false, .bool false, .int .i64 0, .int .u8 0] 30)
            refine (T1.out _ yb yx).mono ?_
            rintro e w1 ⟨A1, c1, B1, d1, rfl, mo, mw, hb⟩
            clear yx
            replace bw := (bw).below hb; replace y := (y).below hb; replace yb := (yb).below hb; replace qb := (qb).below hb
            have yo := mo.byt
            have yw := mw.byt
            clear mo mw
            replace bw := bw.alloc (.cells #[.int .i64 SB, .bool EB, .slice A1 mB c1] 24)
            replace y := y.alloc (.cells #[.int .i64 SB, .bool EB, .slice A1 mB c1] 24)
            replace yb := yb.alloc (.cells #[.int .i64 SB, .bool EB, .slice A1 mB c1] 24)
            replace qb := qb.alloc (.cells #[.int .i64 SB, .bool EB, .slice A1 mB c1] 24)
            replace yo := yo.alloc (.cells #[.int .i64 SB, .bool EB, .slice A1 mB c1] 24)
            replace yw := yw.alloc (.cells #[.int .i64 SB, .bool EB, .slice A1 mB c1] 24)
            have qo := Blk.newAt (b := w1.heap.size) w1 24 #[.int .i64 SB, .bool EB, .slice A1 mB c1] rfl
            replace bw := bw.alloc (.cells #[.int .i64 0, .bool false, .slice B1 0 d1] 24)
            replace y := y.alloc (.cells #[.int .i64 0, .bool false, .slice B1 0 d1] 24)
            replace yb := yb.alloc (.cells #[.int .i64 0, .bool false, .slice B1 0 d1] 24)
            replace qb := qb.alloc (.cells #[.int .i64 0, .bool false, .slice B1 0 d1] 24)
            replace yo := yo.alloc (.cells #[.int .i64 0, .bool false, .slice B1 0 d1] 24)
            replace yw := yw.alloc (.cells #[.int .i64 0, .bool false, .slice B1 0 d1] 24)
            replace qo := qo.alloc (.cells #[.int .i64 0, .bool false, .slice B1 0 d1] 24)
            have qw := Blk.newAt (b := w1.heap.size + 1) (w1.alloc (.cells #[.int .i64 SB, .bool EB, .slice A1 mB c1] 24)) 24 #[.int .i64 0, .bool false, .slice B1 0 d1] (by simp)
            replace bw := bw.alloc (.cells #[.bool true, .int .i64 0, .int .u32 11] 34)
            replace y := y.alloc (.cells #[.bool true, .int .i64 0, .int .u32 11] 34)
            replace yb := yb.alloc (.cells #[.bool true, .int .i64 0, .int .u32 11] 34)
            replace qb := qb.alloc (.cells #[.bool true, .int .i64 0, .int .u32 11] 34)
            replace yo := yo.alloc (.cells #[.bool true, .int .i64 0, .int .u32 11] 34)
            replace yw := yw.alloc (.cells #[.bool true, .int .i64 0, .int .u32 11] 34)
            replace qo := qo.alloc (.cells #[.bool true, .int .i64 0, .int .u32 11] 34)
            replace qw := qw.alloc (.cells #[.bool true, .int .i64 0, .int .u32 11] 34)
            have qg := Blk.newAt (b := w1.heap.size + 1 + 1) ((w1.alloc (.cells #[.int .i64 SB, .bool EB, .slice A1 mB c1] 24)).alloc (.cells #[.int .i64 0, .bool false, .slice B1 0 d1] 24)) 34 #[.bool true, .int .i64 0, .int .u32 11] (by simp)
            clear zb0 zb1 zb2
            have zqo0 := qo.at 0 rfl; have zqo1 := qo.at 1 rfl; have zqo2 := qo.at 2 rfl; have zqw0 := qw.at 0 rfl; have zqw1 := qw.at 1 rfl; have zqw2 := qw.at 2 rfl; have zqg0 := qg.at 0 rfl; have zqg1 := qg.at 1 rfl; have zqg2 := qg.at 2 rfl; have zqb0 := qb.at 0 rfl; have zqb1 := qb.at 1 rfl; have zqb2 := qb.at 2 rfl
            go_wp2_with (first | (go_at_call 13; refine (R1.out _ _ _ yo).mono ?_; rintro e w2 ⟨rfl, hb⟩; replace bw := bw.below hb; replace y := y.below hb; replace yb := yb.below hb; replace qb := qb.below hb; replace yo := yo.below hb; replace yw := yw.below hb; replace qo := qo.below hb; replace qw := qw.below hb; replace qg := qg.below hb; have zqo0 := qo.at 0 rfl; have zqo1 := qo.at 1 rfl; have zqo2 := qo.at 2 rfl; have zqw0 := qw.at 0 rfl; have zqw1 := qw.at 1 rfl; have zqw2 := qw.at 2 rfl; have zqg0 := qg.at 0 rfl; have zqg1 := qg.at 1 rfl; have zqg2 := qg.at 2 rfl; have zqb0 := qb.at 0 rfl; have zqb1 := qb.at 1 rfl; have zqb2 := qb.at 2 rfl) | (go_at_call 11; refine (rBSameE (sameB_self SB EB DB) _ yo yb).mono ?_; rintro e w2 ⟨rfl, hb⟩; replace bw := bw.below hb) | (go_at_call 8; refine (fWakes _).mono ?_; rintro e wk ⟨rfl, hb⟩; replace bw := bw.below hb))
            go_ret
            exact ⟨rfl, bw.out⟩
          · have hro : rightB s false (D.take t) = true := by unfold rightB; rw [if_pos (by omega)]; exact decide_eq_true ⟨by omega, by omega⟩
            have hfin := partsFin hst g2 g3 hat htl (K := 1) (F := 0) (.inl ⟨h00, rfl, by decide⟩)
            have hr := partsOpen' (i := i) hfin htl (by omega) (by decide)
            have yx := y.cut (lo := a) (hi := t) hat htn
            have T1 : Hid (∀ w, Byt w AB mB cB DB → Byt w (cutA A c a) (t - a) (c - a) ((D.take t).drop a) → Calls Try.prog 9 #[.agg #[.int .i64 SB, .bool EB, .slice AB mB cB], .agg #[.int .u8 1, .int .u8 0, .int .i64 s, .slice (cutA A c a) (t - a) (c - a), .int .i64 0, .int .i64 0, .int .i64 0, .int .u32 0, .slice none 0 0, .bool false, .bool false, .int .i64 0, .int .u8 0]] w fun e W' => ∃ A c B d, e = .returned (.tuple #[.agg #[.int .i64 s, .bool false, .slice A t c], .agg #[.int .i64 0, .bool false, .slice B 0 d], .bool false, .agg #[.bool false, .int .i64 0, .int .u32 0], .int .i64 0]) ∧ Mine w.heap.size W' A t c (D.take t) ∧ Mine w.heap.size W' B 0 d ([]) ∧ Below w.heap.size w W') := Lib.hid fun w h h' => fBTakeE t 0 htk rfl hr w h h' (by omega) (by omega) (by omega) (by omega) (by decide) (by decide)
            clear hfin hr
            have R1 : Hid (∀ w A c, Byt w A t c (D.take t) → Calls Try.prog 13 #[.agg #[.int .i64 s, .bool false, .slice A t c]] w (BoolP true w)) := Lib.hid fun w A c h => by have := rBRight (s) false A t c (D.take t) w h; rwa [show rightB (s) false (D.take t) = true from hro] at this
            have HST := Lib.hid hst
            clear hst hz
            have t5 : ((i : Int) == 0) = true := beq_iff_eq.2 (by omega)
            have b04 : bits .or .u8 0 4 = 4 := by kernel_rfl
            have b14 : bits .or .u8 1 4 = 5 := by kernel_rfl
            have t6 : decide ((4096 : Int) < (t : Int)) = false := decide_eq_false (by omega)
            have j0 : (0 : Int) ≤ (a : Int) := by omega
            have j1 : (a : Int) ≤ (t : Int) := by omega
            have j2 : (t : Int) ≤ (c : Int) := by omega
            have j3 : (0 : Int) ≤ (t : Int) := by omega
            have ql := qb.lt
            clear h00
            go_wp2_with fail
            replace bw := bw.alloc (.cells #[.int .u8 1, .int .u8 0, .int .i64 s, .slice (cutA A c a) (t - a) (c - a), .int .i64 0, .int .i64 0, .int .i64 0, .int .u32 0, .slice none 0 0, .bool false, .bool false, .int .i64 0, .int .u8 0] 30)
            replace y := y.alloc (.cells #[.int .u8 1, .int .u8 0, .int .i64 s, .slice (cutA A c a) (t - a) (c - a), .int .i64 0, .int .i64 0, .int .i64 0, .int .u32 0, .slice none 0 0, .bool false, .bool false, .int .i64 0, .int .u8 0] 30)
            replace yb := yb.alloc (.cells #[.int .u8 1, .int .u8 0, .int .i64 s, .slice (cutA A c a) (t - a) (c - a), .int .i64 0, .int .i64 0, .int .i64 0, .int .u32 0, .slice none 0 0, .bool false, .bool false, .int .i64 0, .int .u8 0] 30)
            replace qb := qb.alloc (.cells #[.int .u8 1, .int .u8 0, .int .i64 s, .slice (cutA A c a) (t - a) (c - a), .int .i64 0, .int .i64 0, .int .i64 0, .int .u32 0, .slice none 0 0, .bool false, .bool false, .int .i64 0, .int .u8 0] 30)
            replace yx := yx.alloc (.cells #[.int .u8 1, .int .u8 0, .int .i64 s, .slice (cutA A c a) (t - a) (c - a), .int .i64 0, .int .i64 0, .int .i64 0, .int .u32 0, .slice none 0 0, .bool false, .bool false, .int .i64 0, .int .u8 0] 30)
            refine (T1.out _ yb yx).mono ?_
            rintro e w1 ⟨A1, c1, B1, d1, rfl, mo, mw, hb⟩
            clear yx
            replace bw := (bw).below hb; replace y := (y).below hb; replace yb := (yb).below hb; replace qb := (qb).below hb
            have yo := mo.byt
            have yw := mw.byt
            clear mw
            replace bw := bw.alloc (.cells #[.int .i64 s, .bool false, .slice A1 t c1] 24)
            replace y := y.alloc (.cells #[.int .i64 s, .bool false, .slice A1 t c1] 24)
            replace yb := yb.alloc (.cells #[.int .i64 s, .bool false, .slice A1 t c1] 24)
            replace qb := qb.alloc (.cells #[.int .i64 s, .bool false, .slice A1 t c1] 24)
            replace yo := yo.alloc (.cells #[.int .i64 s, .bool false, .slice A1 t c1] 24)
            replace yw := yw.alloc (.cells #[.int .i64 s, .bool false, .slice A1 t c1] 24)
            replace mo := mo.alloc (.cells #[.int .i64 s, .bool false, .slice A1 t c1] 24)
            have qo := Blk.newAt (b := w1.heap.size) w1 24 #[.int .i64 s, .bool false, .slice A1 t c1] rfl
            replace bw := bw.alloc (.cells #[.int .i64 0, .bool false, .slice B1 0 d1] 24)
            replace y := y.alloc (.cells #[.int .i64 0, .bool false, .slice B1 0 d1] 24)
            replace yb := yb.alloc (.cells #[.int .i64 0, .bool false, .slice B1 0 d1] 24)
            replace qb := qb.alloc (.cells #[.int .i64 0, .bool false, .slice B1 0 d1] 24)
            replace yo := yo.alloc (.cells #[.int .i64 0, .bool false, .slice B1 0 d1] 24)
            replace yw := yw.alloc (.cells #[.int .i64 0, .bool false, .slice B1 0 d1] 24)
            replace mo := mo.alloc (.cells #[.int .i64 0, .bool false, .slice B1 0 d1] 24)
            replace qo := qo.alloc (.cells #[.int .i64 0, .bool false, .slice B1 0 d1] 24)
            have qw := Blk.newAt (b := w1.heap.size + 1) (w1.alloc (.cells #[.int .i64 s, .bool false, .slice A1 t c1] 24)) 24 #[.int .i64 0, .bool false, .slice B1 0 d1] (by simp)
            replace bw := bw.alloc (.cells #[.bool false, .int .i64 0, .int .u32 0] 34)
            replace y := y.alloc (.cells #[.bool false, .int .i64 0, .int .u32 0] 34)
            replace yb := yb.alloc (.cells #[.bool false, .int .i64 0, .int .u32 0] 34)
            replace qb := qb.alloc (.cells #[.bool false, .int .i64 0, .int .u32 0] 34)
            replace yo := yo.alloc (.cells #[.bool false, .int .i64 0, .int .u32 0] 34)
            replace yw := yw.alloc (.cells #[.bool false, .int .i64 0, .int .u32 0] 34)
            replace mo := mo.alloc (.cells #[.bool false, .int .i64 0, .int .u32 0] 34)
            replace qo := qo.alloc (.cells #[.bool false, .int .i64 0, .int .u32 0] 34)
            replace qw := qw.alloc (.cells #[.bool false, .int .i64 0, .int .u32 0] 34)
            have qg := Blk.newAt (b := w1.heap.size + 1 + 1) ((w1.alloc (.cells #[.int .i64 s, .bool false, .slice A1 t c1] 24)).alloc (.cells #[.int .i64 0, .bool false, .slice B1 0 d1] 24)) 34 #[.bool false, .int .i64 0, .int .u32 0] (by simp)
            clear zb0 zb1 zb2
            have zqo0 := qo.at 0 rfl; have zqo1 := qo.at 1 rfl; have zqo2 := qo.at 2 rfl; have zqw0 := qw.at 0 rfl; have zqw1 := qw.at 1 rfl; have zqw2 := qw.at 2 rfl; have zqg0 := qg.at 0 rfl; have zqg1 := qg.at 1 rfl; have zqg2 := qg.at 2 rfl; have zqb0 := qb.at 0 rfl; have zqb1 := qb.at 1 rfl; have zqb2 := qb.at 2 rfl
            go_wp2_with (first | (go_at_call 13; refine (R1.out _ _ _ yo).mono ?_; rintro e w2 ⟨rfl, hb⟩; replace bw := bw.below hb; replace y := y.below hb; replace yb := yb.below hb; replace qb := qb.below hb; replace yo := yo.below hb; replace yw := yw.below hb; replace mo := mo.below hb; replace qo := qo.below hb; replace qw := qw.below hb; replace qg := qg.below hb; have zqo0 := qo.at 0 rfl; have zqo1 := qo.at 1 rfl; have zqo2 := qo.at 2 rfl; have zqw0 := qw.at 0 rfl; have zqw1 := qw.at 1 rfl; have zqw2 := qw.at 2 rfl; have zqg0 := qg.at 0 rfl; have zqg1 := qg.at 1 rfl; have zqg2 := qg.at 2 rfl; have zqb0 := qb.at 0 rfl; have zqb1 := qb.at 1 rfl; have zqb2 := qb.at 2 rfl))
            skip
            obtain ⟨SW, HS⟩ : ∃ SW : World → Prop, Hid (SW = CellsAt [(⟨w1.heap.size, 0, none⟩, .int .i64 s), (⟨w1.heap.size, 1, none⟩, .bool false), (⟨w1.heap.size, 2, none⟩, .slice A1 t c1), (⟨w1.heap.size + 1, 0, none⟩, .int .i64 0), (⟨w1.heap.size + 1, 1, none⟩, .bool false), (⟨w1.heap.size + 1, 2, none⟩, .slice B1 0 d1)]) := ⟨_, Lib.hid rfl⟩
            have sw0 : SW w2.drew := by
              rw [HS.out]
              exact ⟨qo.at 0 rfl, qo.at 1 rfl, qo.at 2 rfl, qw.at 0 rfl, qw.at 1 rfl, qw.at 2 rfl, trivial⟩
            replace bw := bw.drew; replace y := y.drew; replace yb := yb.drew; replace qb := qb.drew; replace yo := yo.drew; replace yw := yw.drew; replace mo := mo.drew; replace qo := qo.drew; replace qw := qw.drew; replace qg := qg.drew
            have yt : ∀ w, Byt w A n c D → Byt w (cutA A c 0) t c (D.take t) := fun w h => by have := h.cut (lo := 0) (hi := t) (Nat.zero_le _) htn; simpa using this
            have YT := Lib.hid yt
            clear yt
            clear zqo0; clear zqo1; clear zqo2; clear zqw0; clear zqw1; clear zqw2; clear zqg0; clear zqg1; clear zqg2; clear zqb0; clear zqb1; clear zqb2
            have HB : Hid (∀ w w', SW w → Below w.heap.size w w' → SW w') := Lib.hid fun w w' h hb => by rw [HS.out] at h ⊢; exact CellsAt.below h hb
            refine wp_region_N partsOps SW (by as_aux_lemma => kernel_rfl) (by as_aux_lemma => kernel_rfl) (fun d _ _ _ _ h => by cases d <;> exact h) (fun Q HQ hp => ?_)
            refine wpAnyG_takesF [0, 1, 2, 3, 4, 5, 6] 8 (by as_aux_lemma => kernel_rfl) (by as_aux_lemma => kernel_rfl) hp sw0 ?_
            refine pureW_e1 14 (by (conv => lhs; whnf; arg 1; whnf)) (by rfl) (by (conv => lhs; whnf)) (fun ρ hρ h1 w1 hSw => by have hc := hρ.const; clear hρ; rw [HS.out] at hSw; simp only [CellsAt] at hSw; go_simp; try with_reducible rfl) ?_; (try simp only [Act.put, List.setIfInBounds_toArray, List.set_cons_succ, List.set_cons_zero])
            refine pureW_e1 2 (by (conv => lhs; whnf; arg 1; whnf)) (by rfl) (by (conv => lhs; whnf)) (fun ρ hρ h1 w1 hSw => by have hc := hρ.const; clear hρ; clear hSw; go_simp; try with_reducible rfl) ?_; (try simp only [Act.put, List.setIfInBounds_toArray, List.set_cons_succ, List.set_cons_zero])
            refine pureW_e1 3 (by (conv => lhs; whnf; arg 1; whnf)) (by rfl) (by (conv => lhs; whnf)) (fun ρ hρ h1 w1 hSw => by have hc := hρ.const; clear hρ; clear hSw; go_simp; try with_reducible rfl) ?_; (try simp only [Act.put, List.setIfInBounds_toArray, List.set_cons_succ, List.set_cons_zero])
            refine pureW_e1 0 (by (conv => lhs; whnf; arg 1; whnf)) (by rfl) (by (conv => lhs; whnf)) (fun ρ hρ h1 w1 hSw => by have hc := hρ.const; clear hρ; clear hSw; go_simp; try with_reducible rfl) ?_; (try simp only [Act.put, List.setIfInBounds_toArray, List.set_cons_succ, List.set_cons_zero])
            refine pureW_e1 12 (by (conv => lhs; whnf; arg 1; whnf)) (by rfl) (by (conv => lhs; whnf)) (fun ρ hρ h1 w1 hSw => by have hc := hρ.const; clear hρ; clear hSw; go_simp; try with_reducible rfl) ?_; (try simp only [Act.put, List.setIfInBounds_toArray, List.set_cons_succ, List.set_cons_zero])
            refine pureW_e2 142 143 (by (conv => lhs; whnf; arg 1; whnf)) (by rfl) (by (conv => lhs; whnf)) (by (conv => lhs; whnf)) (fun ρ hρ h1 h2 w1 hSw => by have hc := hρ.const; clear hρ; clear hSw; go_simp; try with_reducible rfl) ?_; (try simp only [Act.put, List.setIfInBounds_toArray, List.set_cons_succ, List.set_cons_zero])
            refine pureW_e3 140 141 144 (by (conv => lhs; whnf; arg 1; whnf)) (by rfl) (by (conv => lhs; whnf)) (by (conv => lhs; whnf)) (by (conv => lhs; whnf)) (fun ρ hρ h1 h2 h3 w1 hSw => by have hc := hρ.const; clear hρ; clear hSw; go_simp; try with_reducible rfl) ?_; (try simp only [Act.put, List.setIfInBounds_toArray, List.set_cons_succ, List.set_cons_zero])
            refine pureW_nil ?_
            refine wpAnyG_oneN 7 7 (by as_aux_lemma => kernel_rfl) (by as_aux_lemma => kernel_rfl) (by (conv => lhs; whnf; arg 1; whnf)) (by rfl) (fun K hK => ?_)
            go_simp
            refine (rBSameE (sameB_self s false (D.take t)) _ yo (YT.out _ y)).mono ?_
            rintro e wr1 ⟨rfl, hb⟩
            replace bw := (bw).below hb
            replace y := (y).below hb
            replace yb := (yb).below hb
            replace qb := (qb).below hb
            replace yo := (yo).below hb
            replace yw := (yw).below hb
            replace mo := (mo).below hb
            replace qo := (qo).below hb
            replace qw := (qw).below hb
            replace qg := (qg).below hb
            have sw1 := HB.out _ _ sw0 hb
            (try go_simp)
            refine hK.out _ _ sw1 ?_
            clear hK K hb sw0
            refine wpAnyG_takesF [8, 9, 10, 11, 12, 13, 14] 0 (by as_aux_lemma => kernel_rfl) (by as_aux_lemma => kernel_rfl) hp sw1 ?_
            refine pureW_e1 146 (by (conv => lhs; whnf; arg 1; whnf)) (by rfl) (by (conv => lhs; whnf)) (fun ρ hρ h1 w1 hSw => by have hc := hρ.const; clear hρ; clear hSw; go_simp; try with_reducible rfl) ?_; (try simp only [Act.put, List.setIfInBounds_toArray, List.set_cons_succ, List.set_cons_zero])
            refine pureW_e1 147 (by (conv => lhs; whnf; arg 1; whnf)) (by rfl) (by (conv => lhs; whnf)) (fun ρ hρ h1 w1 hSw => by have hc := hρ.const; clear hρ; clear hSw; go_simp; try with_reducible rfl) ?_; (try simp only [Act.put, List.setIfInBounds_toArray, List.set_cons_succ, List.set_cons_zero])
            refine pureW_e1 15 (by (conv => lhs; whnf; arg 1; whnf)) (by rfl) (by (conv => lhs; whnf)) (fun ρ hρ h1 w1 hSw => by have hc := hρ.const; clear hρ; clear hSw; go_simp; try with_reducible rfl) ?_; (try simp only [Act.put, List.setIfInBounds_toArray, List.set_cons_succ, List.set_cons_zero])
            refine pureW_e1 149 (by (conv => lhs; whnf; arg 1; whnf)) (by rfl) (by (conv => lhs; whnf)) (fun ρ hρ h1 w1 hSw => by have hc := hρ.const; clear hρ; rw [HS.out] at hSw; simp only [CellsAt] at hSw; go_simp; try with_reducible rfl) ?_; (try simp only [Act.put, List.setIfInBounds_toArray, List.set_cons_succ, List.set_cons_zero])
            refine pureW_e1 150 (by (conv => lhs; whnf; arg 1; whnf)) (by rfl) (by (conv => lhs; whnf)) (fun ρ hρ h1 w1 hSw => by have hc := hρ.const; clear hρ; clear hSw; go_simp; try with_reducible rfl) ?_; (try simp only [Act.put, List.setIfInBounds_toArray, List.set_cons_succ, List.set_cons_zero])
            refine pureW_e1 151 (by (conv => lhs; whnf; arg 1; whnf)) (by rfl) (by (conv => lhs; whnf)) (fun ρ hρ h1 w1 hSw => by have hc := hρ.const; clear hρ; clear hSw; go_simp; try with_reducible rfl) ?_; (try simp only [Act.put, List.setIfInBounds_toArray, List.set_cons_succ, List.set_cons_zero])
            refine pureW_e2 148 152 (by (conv => lhs; whnf; arg 1; whnf)) (by rfl) (by (conv => lhs; whnf)) (by (conv => lhs; whnf)) (fun ρ hρ h1 h2 w1 hSw => by have hc := hρ.const; clear hρ; clear hSw; go_simp; try with_reducible rfl) ?_; (try simp only [Act.put, List.setIfInBounds_toArray, List.set_cons_succ, List.set_cons_zero])
            refine pureW_nil ?_
            refine wpAnyG_done (by as_aux_lemma => kernel_rfl) ?_ _
            rw [HQ.out]
            have zqo0 := qo.at 0 rfl; have zqo1 := qo.at 1 rfl; have zqo2 := qo.at 2 rfl
            have zqb0 := qb.at 0 rfl; have zqb1 := qb.at 1 rfl; have zqb2 := qb.at 2 rfl
            have fqb := qb.frozen
            go_wp2
            exact ⟨⟨i + 1, t, s, false, A1, t, c1, D.take t, by omega, htn, rfl, by simp, .inr ⟨by omega, rfl, rfl, rfl, by omega⟩, qb.put3 _ _ _, (mo.put3 qb (by decide) _ _ _).byt, bw.put3 (Nat.le_refl _) _ _ _⟩, by simp [intOf]; omega⟩
      · by_cases h4 : 4096 < t
        · have hfin := partsFin hst g2 g3 hat htl (K := 9) (F := 0) (.inr ⟨by omega, rfl⟩)
          have hr := partsMany' (i := i) hfin htl h4
          have yx := y.cut (lo := a) (hi := t) hat htn
          have T1 : Hid (∀ w, Byt w AB mB cB DB → Byt w (cutA A c a) (t - a) (c - a) ((D.take t).drop a) → Calls Try.prog 9 #[.agg #[.int .i64 SB, .bool EB, .slice AB mB cB], .agg #[.int .u8 9, .int .u8 0, .int .i64 s, .slice (cutA A c a) (t - a) (c - a), .int .i64 0, .int .i64 0, .int .i64 0, .int .u32 0, .slice none 0 0, .bool false, .bool false, .int .i64 0, .int .u8 0]] w fun e W' => ∃ A c B d, e = .returned (.tuple #[.agg #[.int .i64 SB, .bool EB, .slice A mB c], .agg #[.int .i64 0, .bool false, .slice B 0 d], .bool false, .agg #[.bool true, .int .i64 0, .int .u32 11], .int .i64 0]) ∧ Mine w.heap.size W' A mB c (DB) ∧ Mine w.heap.size W' B 0 d ([]) ∧ Below w.heap.size w W') := Lib.hid fun w h h' => fBTakeE mB 0 hbl rfl hr w h h' (by omega) (by omega) (by omega) (by omega) (by decide) (by decide)
          clear hfin hr
          have R1 : Hid (∀ w A c, Byt w A mB c (DB) → Calls Try.prog 13 #[.agg #[.int .i64 SB, .bool EB, .slice A mB c]] w (BoolP true w)) := Lib.hid fun w A c h => by have := rBRight (SB) EB A mB c (DB) w h; rwa [show rightB (SB) EB (DB) = true from partsRight hst g2 g3] at this
          have HST := Lib.hid hst
          clear hst hz
          have t5 : ((i : Int) == 0) = false := beq_eq_false_iff_ne.2 (by omega)
          have b04 : bits .or .u8 0 4 = 4 := by kernel_rfl
          have b14 : bits .or .u8 1 4 = 5 := by kernel_rfl
          have t6 : decide ((4096 : Int) < (t : Int)) = true := decide_eq_true (by omega)
          have j0 : (0 : Int) ≤ (a : Int) := by omega
          have j1 : (a : Int) ≤ (t : Int) := by omega
          have j2 : (t : Int) ≤ (c : Int) := by omega
          have j3 : (0 : Int) ≤ (t : Int) := by omega
          have ql := qb.lt
          clear h00
          go_wp2_with fail
          replace bw := bw.alloc (.cells #[.int .u8 9, .int .u8 0, .int .i64 s, .slice (cutA A c a) (t - a) (c - a), .int .i64 0, .int .i64 0, .int .i64 0, .int .u32 0, .slice none 0 0, .bool false, .bool false, .int .i64 0, .int .u8 0] 30)
          replace y := y.alloc (.cells #[.int .u8 9, .int .u8 0, .int .i64 s, .slice (cutA A c a) (t - a) (c - a), .int .i64 0, .int .i64 0, .int .i64 0, .int .u32 0, .slice none 0 0, .bool false, .bool false, .int .i64 0, .int .u8 0] 30)
          replace yb := yb.alloc (.cells #[.int .u8 9, .int .u8 0, .int .i64 s, .slice (cutA A c a) (t - a) (c - a), .int .i64 0, .int .i64 0, .int .i64 0, .int .u32 0, .slice none 0 0, .bool false, .bool false, .int .i64 0, .int .u8 0] 30)
          replace qb := qb.alloc (.cells #[.int .u8 9, .int .u8 0, .int .i64 s, .slice (cutA A c a) (t - a) (c - a), .int .i64 0, .int .i64 0, .int .i64 0, .int .u32 0, .slice none 0 0, .bool false, .bool false, .int .i64 0, .int .u8 0] 30)
          replace yx := yx.alloc (.cells #[.int .u8 9, .int .u8 0, .int .i64 s, .slice (cutA A c a) (t - a) (c - a), .int .i64 0, .int .i64 0, .int .i64 0, .int .u32 0, .slice none 0 0, .bool false, .bool false, .int .i64 0, .int .u8 0] 30)
          refine (T1.out _ yb yx).mono ?_
          rintro e w1 ⟨A1, c1, B1, d1, rfl, mo, mw, hb⟩
          clear yx
          replace bw := (bw).below hb; replace y := (y).below hb; replace yb := (yb).below hb; replace qb := (qb).below hb
          have yo := mo.byt
          have yw := mw.byt
          clear mo mw
          replace bw := bw.alloc (.cells #[.int .i64 SB, .bool EB, .slice A1 mB c1] 24)
          replace y := y.alloc (.cells #[.int .i64 SB, .bool EB, .slice A1 mB c1] 24)
          replace yb := yb.alloc (.cells #[.int .i64 SB, .bool EB, .slice A1 mB c1] 24)
          replace qb := qb.alloc (.cells #[.int .i64 SB, .bool EB, .slice A1 mB c1] 24)
          replace yo := yo.alloc (.cells #[.int .i64 SB, .bool EB, .slice A1 mB c1] 24)
          replace yw := yw.alloc (.cells #[.int .i64 SB, .bool EB, .slice A1 mB c1] 24)
          have qo := Blk.newAt (b := w1.heap.size) w1 24 #[.int .i64 SB, .bool EB, .slice A1 mB c1] rfl
          replace bw := bw.alloc (.cells #[.int .i64 0, .bool false, .slice B1 0 d1] 24)
          replace y := y.alloc (.cells #[.int .i64 0, .bool false, .slice B1 0 d1] 24)
          replace yb := yb.alloc (.cells #[.int .i64 0, .bool false, .slice B1 0 d1] 24)
          replace qb := qb.alloc (.cells #[.int .i64 0, .bool false, .slice B1 0 d1] 24)
          replace yo := yo.alloc (.cells #[.int .i64 0, .bool false, .slice B1 0 d1] 24)
          replace yw := yw.alloc (.cells #[.int .i64 0, .bool false, .slice B1 0 d1] 24)
          replace qo := qo.alloc (.cells #[.int .i64 0, .bool false, .slice B1 0 d1] 24)
          have qw := Blk.newAt (b := w1.heap.size + 1) (w1.alloc (.cells #[.int .i64 SB, .bool EB, .slice A1 mB c1] 24)) 24 #[.int .i64 0, .bool false, .slice B1 0 d1] (by simp)
          replace bw := bw.alloc (.cells #[.bool true, .int .i64 0, .int .u32 11] 34)
          replace y := y.alloc (.cells #[.bool true, .int .i64 0, .int .u32 11] 34)
          replace yb := yb.alloc (.cells #[.bool true, .int .i64 0, .int .u32 11] 34)
          replace qb := qb.alloc (.cells #[.bool true, .int .i64 0, .int .u32 11] 34)
          replace yo := yo.alloc (.cells #[.bool true, .int .i64 0, .int .u32 11] 34)
          replace yw := yw.alloc (.cells #[.bool true, .int .i64 0, .int .u32 11] 34)
          replace qo := qo.alloc (.cells #[.bool true, .int .i64 0, .int .u32 11] 34)
          replace qw := qw.alloc (.cells #[.bool true, .int .i64 0, .int .u32 11] 34)
          have qg := Blk.newAt (b := w1.heap.size + 1 + 1) ((w1.alloc (.cells #[.int .i64 SB, .bool EB, .slice A1 mB c1] 24)).alloc (.cells #[.int .i64 0, .bool false, .slice B1 0 d1] 24)) 34 #[.bool true, .int .i64 0, .int .u32 11] (by simp)
          clear zb0 zb1 zb2
          have zqo0 := qo.at 0 rfl; have zqo1 := qo.at 1 rfl; have zqo2 := qo.at 2 rfl; have zqw0 := qw.at 0 rfl; have zqw1 := qw.at 1 rfl; have zqw2 := qw.at 2 rfl; have zqg0 := qg.at 0 rfl; have zqg1 := qg.at 1 rfl; have zqg2 := qg.at 2 rfl; have zqb0 := qb.at 0 rfl; have zqb1 := qb.at 1 rfl; have zqb2 := qb.at 2 rfl
          go_wp2_with (first | (go_at_call 13; refine (R1.out _ _ _ yo).mono ?_; rintro e w2 ⟨rfl, hb⟩; replace bw := bw.below hb; replace y := y.below hb; replace yb := yb.below hb; replace qb := qb.below hb; replace yo := yo.below hb; replace yw := yw.below hb; replace qo := qo.below hb; replace qw := qw.below hb; replace qg := qg.below hb; have zqo0 := qo.at 0 rfl; have zqo1 := qo.at 1 rfl; have zqo2 := qo.at 2 rfl; have zqw0 := qw.at 0 rfl; have zqw1 := qw.at 1 rfl; have zqw2 := qw.at 2 rfl; have zqg0 := qg.at 0 rfl; have zqg1 := qg.at 1 rfl; have zqg2 := qg.at 2 rfl; have zqb0 := qb.at 0 rfl; have zqb1 := qb.at 1 rfl; have zqb2 := qb.at 2 rfl) | (go_at_call 11; refine (rBSameE (sameB_self SB EB DB) _ yo yb).mono ?_; rintro e w2 ⟨rfl, hb⟩; replace bw := bw.below hb) | (go_at_call 8; refine (fWakes _).mono ?_; rintro e wk ⟨rfl, hb⟩; replace bw := bw.below hb))
          go_ret
          exact ⟨rfl, bw.out⟩
        · have hro : rightB s E (D.take t) = true := by unfold rightB; rw [if_pos (by omega)]; exact decide_eq_true ⟨by omega, by omega⟩
          have hfin := partsFin hst g2 g3 hat htl (K := 9) (F := 0) (.inr ⟨by omega, rfl⟩)
          have hr := partsOpen' (i := i) hfin htl (by omega) (by decide)
          have yx := y.cut (lo := a) (hi := t) hat htn
          have T1 : Hid (∀ w, Byt w AB mB cB DB → Byt w (cutA A c a) (t - a) (c - a) ((D.take t).drop a) → Calls Try.prog 9 #[.agg #[.int .i64 SB, .bool EB, .slice AB mB cB], .agg #[.int .u8 9, .int .u8 0, .int .i64 s, .slice (cutA A c a) (t - a) (c - a), .int .i64 0, .int .i64 0, .int .i64 0, .int .u32 0, .slice none 0 0, .bool false, .bool false, .int .i64 0, .int .u8 0]] w fun e W' => ∃ A c B d, e = .returned (.tuple #[.agg #[.int .i64 s, .bool E, .slice A t c], .agg #[.int .i64 0, .bool false, .slice B 0 d], .bool false, .agg #[.bool false, .int .i64 0, .int .u32 0], .int .i64 0]) ∧ Mine w.heap.size W' A t c (D.take t) ∧ Mine w.heap.size W' B 0 d ([]) ∧ Below w.heap.size w W') := Lib.hid fun w h h' => fBTakeE t 0 htk rfl hr w h h' (by omega) (by omega) (by omega) (by omega) (by decide) (by decide)
          clear hfin hr
          have R1 : Hid (∀ w A c, Byt w A t c (D.take t) → Calls Try.prog 13 #[.agg #[.int .i64 s, .bool E, .slice A t c]] w (BoolP true w)) := Lib.hid fun w A c h => by have := rBRight (s) E A t c (D.take t) w h; rwa [show rightB (s) E (D.take t) = true from hro] at this
          have HST := Lib.hid hst
          clear hst hz
          have t5 : ((i : Int) == 0) = false := beq_eq_false_iff_ne.2 (by omega)
          have b04 : bits .or .u8 0 4 = 4 := by kernel_rfl
          have b14 : bits .or .u8 1 4 = 5 := by kernel_rfl
          have t6 : decide ((4096 : Int) < (t : Int)) = false := decide_eq_false (by omega)
          have j0 : (0 : Int) ≤ (a : Int) := by omega
          have j1 : (a : Int) ≤ (t : Int) := by omega
          have j2 : (t : Int) ≤ (c : Int) := by omega
          have j3 : (0 : Int) ≤ (t : Int) := by omega
          have ql := qb.lt
          clear h00
          go_wp2_with fail
          replace bw := bw.alloc (.cells #[.int .u8 9, .int .u8 0, .int .i64 s, .slice (cutA A c a) (t - a) (c - a), .int .i64 0, .int .i64 0, .int .i64 0, .int .u32 0, .slice none 0 0, .bool false, .bool false, .int .i64 0, .int .u8 0] 30)
          replace y := y.alloc (.cells #[.int .u8 9, .int .u8 0, .int .i64 s, .slice (cutA A c a) (t - a) (c - a), .int .i64 0, .int .i64 0, .int .i64 0, .int .u32 0, .slice none 0 0, .bool false, .bool false, .int .i64 0, .int .u8 0] 30)
          replace yb := yb.alloc (.cells #[.int .u8 9, .int .u8 0, .int .i64 s, .slice (cutA A c a) (t - a) (c - a), .int .i64 0, .int .i64 0, .int .i64 0, .int .u32 0, .slice none 0 0, .bool false, .bool false, .int .i64 0, .int .u8 0] 30)
          replace qb := qb.alloc (.cells #[.int .u8 9, .int .u8 0, .int .i64 s, .slice (cutA A c a) (t - a) (c - a), .int .i64 0, .int .i64 0, .int .i64 0, .int .u32 0, .slice none 0 0, .bool false, .bool false, .int .i64 0, .int .u8 0] 30)
          replace yx := yx.alloc (.cells #[.int .u8 9, .int .u8 0, .int .i64 s, .slice (cutA A c a) (t - a) (c - a), .int .i64 0, .int .i64 0, .int .i64 0, .int .u32 0, .slice none 0 0, .bool false, .bool false, .int .i64 0, .int .u8 0] 30)
          refine (T1.out _ yb yx).mono ?_
          rintro e w1 ⟨A1, c1, B1, d1, rfl, mo, mw, hb⟩
          clear yx
          replace bw := (bw).below hb; replace y := (y).below hb; replace yb := (yb).below hb; replace qb := (qb).below hb
          have yo := mo.byt
          have yw := mw.byt
          clear mw
          replace bw := bw.alloc (.cells #[.int .i64 s, .bool E, .slice A1 t c1] 24)
          replace y := y.alloc (.cells #[.int .i64 s, .bool E, .slice A1 t c1] 24)
          replace yb := yb.alloc (.cells #[.int .i64 s, .bool E, .slice A1 t c1] 24)
          replace qb := qb.alloc (.cells #[.int .i64 s, .bool E, .slice A1 t c1] 24)
          replace yo := yo.alloc (.cells #[.int .i64 s, .bool E, .slice A1 t c1] 24)
          replace yw := yw.alloc (.cells #[.int .i64 s, .bool E, .slice A1 t c1] 24)
          replace mo := mo.alloc (.cells #[.int .i64 s, .bool E, .slice A1 t c1] 24)
          have qo := Blk.newAt (b := w1.heap.size) w1 24 #[.int .i64 s, .bool E, .slice A1 t c1] rfl
          replace bw := bw.alloc (.cells #[.int .i64 0, .bool false, .slice B1 0 d1] 24)
          replace y := y.alloc (.cells #[.int .i64 0, .bool false, .slice B1 0 d1] 24)
          replace yb := yb.alloc (.cells #[.int .i64 0, .bool false, .slice B1 0 d1] 24)
          replace qb := qb.alloc (.cells #[.int .i64 0, .bool false, .slice B1 0 d1] 24)
          replace yo := yo.alloc (.cells #[.int .i64 0, .bool false, .slice B1 0 d1] 24)
          replace yw := yw.alloc (.cells #[.int .i64 0, .bool false, .slice B1 0 d1] 24)
          replace mo := mo.alloc (.cells #[.int .i64 0, .bool false, .slice B1 0 d1] 24)
          replace qo := qo.alloc (.cells #[.int .i64 0, .bool false, .slice B1 0 d1] 24)
          have qw := Blk.newAt (b := w1.heap.size + 1) (w1.alloc (.cells #[.int .i64 s, .bool E, .slice A1 t c1] 24)) 24 #[.int .i64 0, .bool false, .slice B1 0 d1] (by simp)
          replace bw := bw.alloc (.cells #[.bool false, .int .i64 0, .int .u32 0] 34)
          replace y := y.alloc (.cells #[.bool false, .int .i64 0, .int .u32 0] 34)
          replace yb := yb.alloc (.cells #[.bool false, .int .i64 0, .int .u32 0] 34)
          replace qb := qb.alloc (.cells #[.bool false, .int .i64 0, .int .u32 0] 34)
          replace yo := yo.alloc (.cells #[.bool false, .int .i64 0, .int .u32 0] 34)
          replace yw := yw.alloc (.cells #[.bool false, .int .i64 0, .int .u32 0] 34)
          replace mo := mo.alloc (.cells #[.bool false, .int .i64 0, .int .u32 0] 34)
          replace qo := qo.alloc (.cells #[.bool false, .int .i64 0, .int .u32 0] 34)
          replace qw := qw.alloc (.cells #[.bool false, .int .i64 0, .int .u32 0] 34)
          have qg := Blk.newAt (b := w1.heap.size + 1 + 1) ((w1.alloc (.cells #[.int .i64 s, .bool E, .slice A1 t c1] 24)).alloc (.cells #[.int .i64 0, .bool false, .slice B1 0 d1] 24)) 34 #[.bool false, .int .i64 0, .int .u32 0] (by simp)
          clear zb0 zb1 zb2
          have zqo0 := qo.at 0 rfl; have zqo1 := qo.at 1 rfl; have zqo2 := qo.at 2 rfl; have zqw0 := qw.at 0 rfl; have zqw1 := qw.at 1 rfl; have zqw2 := qw.at 2 rfl; have zqg0 := qg.at 0 rfl; have zqg1 := qg.at 1 rfl; have zqg2 := qg.at 2 rfl; have zqb0 := qb.at 0 rfl; have zqb1 := qb.at 1 rfl; have zqb2 := qb.at 2 rfl
          go_wp2_with (first | (go_at_call 13; refine (R1.out _ _ _ yo).mono ?_; rintro e w2 ⟨rfl, hb⟩; replace bw := bw.below hb; replace y := y.below hb; replace yb := yb.below hb; replace qb := qb.below hb; replace yo := yo.below hb; replace yw := yw.below hb; replace mo := mo.below hb; replace qo := qo.below hb; replace qw := qw.below hb; replace qg := qg.below hb; have zqo0 := qo.at 0 rfl; have zqo1 := qo.at 1 rfl; have zqo2 := qo.at 2 rfl; have zqw0 := qw.at 0 rfl; have zqw1 := qw.at 1 rfl; have zqw2 := qw.at 2 rfl; have zqg0 := qg.at 0 rfl; have zqg1 := qg.at 1 rfl; have zqg2 := qg.at 2 rfl; have zqb0 := qb.at 0 rfl; have zqb1 := qb.at 1 rfl; have zqb2 := qb.at 2 rfl))
          skip
          obtain ⟨SW, HS⟩ : ∃ SW : World → Prop, Hid (SW = CellsAt [(⟨w1.heap.size, 0, none⟩, .int .i64 s), (⟨w1.heap.size, 1, none⟩, .bool E), (⟨w1.heap.size, 2, none⟩, .slice A1 t c1), (⟨w1.heap.size + 1, 0, none⟩, .int .i64 0), (⟨w1.heap.size + 1, 1, none⟩, .bool false), (⟨w1.heap.size + 1, 2, none⟩, .slice B1 0 d1)]) := ⟨_, Lib.hid rfl⟩
          have sw0 : SW w2.drew := by
            rw [HS.out]
            exact ⟨qo.at 0 rfl, qo.at 1 rfl, qo.at 2 rfl, qw.at 0 rfl, qw.at 1 rfl, qw.at 2 rfl, trivial⟩
          replace bw := bw.drew; replace y := y.drew; replace yb := yb.drew; replace qb := qb.drew; replace yo := yo.drew; replace yw := yw.drew; replace mo := mo.drew; replace qo := qo.drew; replace qw := qw.drew; replace qg := qg.drew
          have yt : ∀ w, Byt w A n c D → Byt w (cutA A c 0) t c (D.take t) := fun w h => by have := h.cut (lo := 0) (hi := t) (Nat.zero_le _) htn; simpa using this
          have YT := Lib.hid yt
          clear yt
          clear zqo0; clear zqo1; clear zqo2; clear zqw0; clear zqw1; clear zqw2; clear zqg0; clear zqg1; clear zqg2; clear zqb0; clear zqb1; clear zqb2
          have HB : Hid (∀ w w', SW w → Below w.heap.size w w' → SW w') := Lib.hid fun w w' h hb => by rw [HS.out] at h ⊢; exact CellsAt.below h hb
          refine wp_region_N partsOps SW (by as_aux_lemma => kernel_rfl) (by as_aux_lemma => kernel_rfl) (fun d _ _ _ _ h => by cases d <;> exact h) (fun Q HQ hp => ?_)
          refine wpAnyG_takesF [0, 1, 2, 3, 4, 5, 6] 8 (by as_aux_lemma => kernel_rfl) (by as_aux_lemma => kernel_rfl) hp sw0 ?_
          refine pureW_e1 14 (by (conv => lhs; whnf; arg 1; whnf)) (by rfl) (by (conv => lhs; whnf)) (fun ρ hρ h1 w1 hSw => by have hc := hρ.const; clear hρ; rw [HS.out] at hSw; simp only [CellsAt] at hSw; go_simp; try with_reducible rfl) ?_; (try simp only [Act.put, List.setIfInBounds_toArray, List.set_cons_succ, List.set_cons_zero])
          refine pureW_e1 2 (by (conv => lhs; whnf; arg 1; whnf)) (by rfl) (by (conv => lhs; whnf)) (fun ρ hρ h1 w1 hSw => by have hc := hρ.const; clear hρ; clear hSw; go_simp; try with_reducible rfl) ?_; (try simp only [Act.put, List.setIfInBounds_toArray, List.set_cons_succ, List.set_cons_zero])
          refine pureW_e1 3 (by (conv => lhs; whnf; arg 1; whnf)) (by rfl) (by (conv => lhs; whnf)) (fun ρ hρ h1 w1 hSw => by have hc := hρ.const; clear hρ; clear hSw; go_simp; try with_reducible rfl) ?_; (try simp only [Act.put, List.setIfInBounds_toArray, List.set_cons_succ, List.set_cons_zero])
          refine pureW_e1 0 (by (conv => lhs; whnf; arg 1; whnf)) (by rfl) (by (conv => lhs; whnf)) (fun ρ hρ h1 w1 hSw => by have hc := hρ.const; clear hρ; clear hSw; go_simp; try with_reducible rfl) ?_; (try simp only [Act.put, List.setIfInBounds_toArray, List.set_cons_succ, List.set_cons_zero])
          refine pureW_e1 12 (by (conv => lhs; whnf; arg 1; whnf)) (by rfl) (by (conv => lhs; whnf)) (fun ρ hρ h1 w1 hSw => by have hc := hρ.const; clear hρ; clear hSw; go_simp; try with_reducible rfl) ?_; (try simp only [Act.put, List.setIfInBounds_toArray, List.set_cons_succ, List.set_cons_zero])
          refine pureW_e2 142 143 (by (conv => lhs; whnf; arg 1; whnf)) (by rfl) (by (conv => lhs; whnf)) (by (conv => lhs; whnf)) (fun ρ hρ h1 h2 w1 hSw => by have hc := hρ.const; clear hρ; clear hSw; go_simp; try with_reducible rfl) ?_; (try simp only [Act.put, List.setIfInBounds_toArray, List.set_cons_succ, List.set_cons_zero])
          refine pureW_e3 140 141 144 (by (conv => lhs; whnf; arg 1; whnf)) (by rfl) (by (conv => lhs; whnf)) (by (conv => lhs; whnf)) (by (conv => lhs; whnf)) (fun ρ hρ h1 h2 h3 w1 hSw => by have hc := hρ.const; clear hρ; clear hSw; go_simp; try with_reducible rfl) ?_; (try simp only [Act.put, List.setIfInBounds_toArray, List.set_cons_succ, List.set_cons_zero])
          refine pureW_nil ?_
          refine wpAnyG_oneN 7 7 (by as_aux_lemma => kernel_rfl) (by as_aux_lemma => kernel_rfl) (by (conv => lhs; whnf; arg 1; whnf)) (by rfl) (fun K hK => ?_)
          go_simp
          refine (rBSameE (sameB_self s E (D.take t)) _ yo (YT.out _ y)).mono ?_
          rintro e wr1 ⟨rfl, hb⟩
          replace bw := (bw).below hb
          replace y := (y).below hb
          replace yb := (yb).below hb
          replace qb := (qb).below hb
          replace yo := (yo).below hb
          replace yw := (yw).below hb
          replace mo := (mo).below hb
          replace qo := (qo).below hb
          replace qw := (qw).below hb
          replace qg := (qg).below hb
          have sw1 := HB.out _ _ sw0 hb
          (try go_simp)
          refine hK.out _ _ sw1 ?_
          clear hK K hb sw0
          refine wpAnyG_takesF [8, 9, 10, 11, 12, 13, 14] 0 (by as_aux_lemma => kernel_rfl) (by as_aux_lemma => kernel_rfl) hp sw1 ?_
          refine pureW_e1 146 (by (conv => lhs; whnf; arg 1; whnf)) (by rfl) (by (conv => lhs; whnf)) (fun ρ hρ h1 w1 hSw => by have hc := hρ.const; clear hρ; clear hSw; go_simp; try with_reducible rfl) ?_; (try simp only [Act.put, List.setIfInBounds_toArray, List.set_cons_succ, List.set_cons_zero])
          refine pureW_e1 147 (by (conv => lhs; whnf; arg 1; whnf)) (by rfl) (by (conv => lhs; whnf)) (fun ρ hρ h1 w1 hSw => by have hc := hρ.const; clear hρ; clear hSw; go_simp; try with_reducible rfl) ?_; (try simp only [Act.put, List.setIfInBounds_toArray, List.set_cons_succ, List.set_cons_zero])
          refine pureW_e1 15 (by (conv => lhs; whnf; arg 1; whnf)) (by rfl) (by (conv => lhs; whnf)) (fun ρ hρ h1 w1 hSw => by have hc := hρ.const; clear hρ; clear hSw; go_simp; try with_reducible rfl) ?_; (try simp only [Act.put, List.setIfInBounds_toArray, List.set_cons_succ, List.set_cons_zero])
          refine pureW_e1 149 (by (conv => lhs; whnf; arg 1; whnf)) (by rfl) (by (conv => lhs; whnf)) (fun ρ hρ h1 w1 hSw => by have hc := hρ.const; clear hρ; rw [HS.out] at hSw; simp only [CellsAt] at hSw; go_simp; try with_reducible rfl) ?_; (try simp only [Act.put, List.setIfInBounds_toArray, List.set_cons_succ, List.set_cons_zero])
          refine pureW_e1 150 (by (conv => lhs; whnf; arg 1; whnf)) (by rfl) (by (conv => lhs; whnf)) (fun ρ hρ h1 w1 hSw => by have hc := hρ.const; clear hρ; clear hSw; go_simp; try with_reducible rfl) ?_; (try simp only [Act.put, List.setIfInBounds_toArray, List.set_cons_succ, List.set_cons_zero])
          refine pureW_e1 151 (by (conv => lhs; whnf; arg 1; whnf)) (by rfl) (by (conv => lhs; whnf)) (fun ρ hρ h1 w1 hSw => by have hc := hρ.const; clear hρ; clear hSw; go_simp; try with_reducible rfl) ?_; (try simp only [Act.put, List.setIfInBounds_toArray, List.set_cons_succ, List.set_cons_zero])
          refine pureW_e2 148 152 (by (conv => lhs; whnf; arg 1; whnf)) (by rfl) (by (conv => lhs; whnf)) (by (conv => lhs; whnf)) (fun ρ hρ h1 h2 w1 hSw => by have hc := hρ.const; clear hρ; clear hSw; go_simp; try with_reducible rfl) ?_; (try simp only [Act.put, List.setIfInBounds_toArray, List.set_cons_succ, List.set_cons_zero])
          refine pureW_nil ?_
          refine wpAnyG_done (by as_aux_lemma => kernel_rfl) ?_ _
          rw [HQ.out]
          have zqo0 := qo.at 0 rfl; have zqo1 := qo.at 1 rfl; have zqo2 := qo.at 2 rfl
          have zqb0 := qb.at 0 rfl; have zqb1 := qb.at 1 rfl; have zqb2 := qb.at 2 rfl
          have fqb := qb.frozen
          go_wp2
          exact ⟨⟨i + 1, t, s, E, A1, t, c1, D.take t, by omega, htn, rfl, by simp, .inr ⟨by omega, rfl, rfl, rfl, by omega⟩, qb.put3 _ _ _, (mo.put3 qb (by decide) _ _ _).byt, bw.put3 (Nat.le_refl _) _ _ _⟩, by simp [intOf]; omega⟩
    · have hat : a ≤ n := ha
      have htn : n ≤ n := Nat.le_refl n
      have t7 : ((i : Int) == (nc : Int)) = true := beq_iff_eq.2 (by omega)
      have t8 : decide (i < nc) = false := decide_eq_false (by omega)
      have i0 : (0 : Int) ≤ (i : Int) := by omega
      clear hlt
      have htl : n ≤ D.length := by omega
      have htk : (D.take n).length = n := by rw [List.length_take]; omega
      have hbl := yb.len
      have hsl := hst.len g2 g3
      have sDone : sameB s E (D.take n) s E D = true := by rw [List.take_of_length_le (by omega)]; exact sameB_self s E D
      by_cases h00 : i = 0
      · cases E
        rotate_left
        · by_cases h4 : 4096 < n
          · have hfin := partsFin hst g2 g3 hat htl (K := 1) (F := 5) (.inl ⟨h00, rfl, by decide⟩)
            have hr := partsMany' (i := i) hfin htl h4
            have yx := y.cut (lo := a) (hi := n) hat htn
            have T1 : Hid (∀ w, Byt w AB mB cB DB → Byt w (cutA A c a) (n - a) (c - a) ((D.take n).drop a) → Calls Try.prog 9 #[.agg #[.int .i64 SB, .bool EB, .slice AB mB cB], .agg #[.int .u8 1, .int .u8 5, .int .i64 s, .slice (cutA A c a) (n - a) (c - a), .int .i64 0, .int .i64 0, .int .i64 0, .int .u32 0, .slice none 0 0, .bool false, .bool false, .int .i64 0, .int .u8 0]] w fun e W' => ∃ A c B d, e = .returned (.tuple #[.agg #[.int .i64 SB, .bool EB, .slice A mB c], .agg #[.int .i64 0, .bool false, .slice B 0 d], .bool false, .agg #[.bool true, .int .i64 0, .int .u32 11], .int .i64 0]) ∧ Mine w.heap.size W' A mB c (DB) ∧ Mine w.heap.size W' B 0 d ([]) ∧ Below w.heap.size w W') := Lib.hid fun w h h' => fBTakeE mB 0 hbl rfl hr w h h' (by omega) (by omega) (by omega) (by omega) (by decide) (by decide)
            clear hfin hr
            have R1 : Hid (∀ w A c, Byt w A mB c (DB) → Calls Try.prog 13 #[.agg #[.int .i64 SB, .bool EB, .slice A mB c]] w (BoolP true w)) := Lib.hid fun w A c h => by have := rBRight (SB) EB A mB c (DB) w h; rwa [show rightB (SB) EB (DB) = true from partsRight hst g2 g3] at this
            have HST := Lib.hid hst
            clear hst hz
            have t5 : ((i : Int) == 0) = true := beq_iff_eq.2 (by omega)
            have b04 : bits .or .u8 0 4 = 4 := by kernel_rfl
            have b14 : bits .or .u8 1 4 = 5 := by kernel_rfl
            have t6 : decide ((4096 : Int) < (n : Int)) = true := decide_eq_true (by omega)
            have j0 : (0 : Int) ≤ (a : Int) := by omega
            have j1 : (a : Int) ≤ (n : Int) := by omega
            have j2 : (n : Int) ≤ (c : Int) := by omega
            have j3 : (0 : Int) ≤ (n : Int) := by omega
            have ql := qb.lt
            clear h00
            go_wp2_with fail
            replace bw := bw.alloc (.cells #[.int .u8 1, .int .u8 5, .int .i64 s, .slice (cutA A c a) (n - a) (c - a), .int .i64 0, .int .i64 0, .int .i64 0, .int .u32 0, .slice none 0 0, .bool false, .bool false, .int .i64 0, .int .u8 0] 30)
            replace y := y.alloc (.cells #[.int .u8 1, .int .u8 5, .int .i64 s, .slice (cutA A c a) (n - a) (c - a), .int .i64 0, .int .i64 0, .int .i64 0, .int .u32 0, .slice none 0 0, .bool false, .bool false, .int .i64 0, .int .u8 0] 30)
            replace yb := yb.alloc (.cells #[.int .u8 1, .int .u8 5, .int .i64 s, .slice (cutA A c a) (n - a) (c - a), .int .i64 0, .int .i64 0, .int .i64 0, .int .u32 0, .slice none 0 0, .bool false, .bool false, .int .i64 0, .int .u8 0] 30)
            replace qb := qb.alloc (.cells #[.int .u8 1, .int .u8 5, .int .i64 s, .slice (cutA A c a) (n - a) (c - a), .int .i64 0, .int .i64 0, .int .i64 0, .int .u32 0, .slice none 0 0, .bool false, .bool false, .int .i64 0, .int .u8 0] 30)
            replace yx := yx.alloc (.cells #[.int .u8 1, .int .u8 5, .int .i64 s, .slice (cutA A c a) (n - a) (c - a), .int .i64 0, .int .i64 0, .int .i64 0, .int .u32 0, .slice none 0 0, .bool false, .bool false, .int .i64 0, .int .u8 0] 30)
            refine (T1.out _ yb yx).mono ?_
            rintro e w1 ⟨A1, c1, B1, d1, rfl, mo, mw, hb⟩
            clear yx
            replace bw := (bw).below hb; replace y := (y).below hb; replace yb := (yb).below hb; replace qb := (qb).below hb
            have yo := mo.byt
            have yw := mw.byt
            clear mo mw
            replace bw := bw.alloc (.cells #[.int .i64 SB, .bool EB, .slice A1 mB c1] 24)
            replace y := y.alloc (.cells #[.int .i64 SB, .bool EB, .slice A1 mB c1] 24)
            replace yb := yb.alloc (.cells #[.int .i64 SB, .bool EB, .slice A1 mB c1] 24)
            replace qb := qb.alloc (.cells #[.int .i64 SB, .bool EB, .slice A1 mB c1] 24)
            replace yo := yo.alloc (.cells #[.int .i64 SB, .bool EB, .slice A1 mB c1] 24)
            replace yw := yw.alloc (.cells #[.int .i64 SB, .bool EB, .slice A1 mB c1] 24)
            have qo := Blk.newAt (b := w1.heap.size) w1 24 #[.int .i64 SB, .bool EB, .slice A1 mB c1] rfl
            replace bw := bw.alloc (.cells #[.int .i64 0, .bool false, .slice B1 0 d1] 24)
            replace y := y.alloc (.cells #[.int .i64 0, .bool false, .slice B1 0 d1] 24)
            replace yb := yb.alloc (.cells #[.int .i64 0, .bool false, .slice B1 0 d1] 24)
            replace qb := qb.alloc (.cells #[.int .i64 0, .bool false, .slice B1 0 d1] 24)
            replace yo := yo.alloc (.cells #[.int .i64 0, .bool false, .slice B1 0 d1] 24)
            replace yw := yw.alloc (.cells #[.int .i64 0, .bool false, .slice B1 0 d1] 24)
            replace qo := qo.alloc (.cells #[.int .i64 0, .bool false, .slice B1 0 d1] 24)
            have qw := Blk.newAt (b := w1.heap.size + 1) (w1.alloc (.cells #[.int .i64 SB, .bool EB, .slice A1 mB c1] 24)) 24 #[.int .i64 0, .bool false, .slice B1 0 d1] (by simp)
            replace bw := bw.alloc (.cells #[.bool true, .int .i64 0, .int .u32 11] 34)
            replace y := y.alloc (.cells #[.bool true, .int .i64 0, .int .u32 11] 34)
            replace yb := yb.alloc (.cells #[.bool true, .int .i64 0, .int .u32 11] 34)
            replace qb := qb.alloc (.cells #[.bool true, .int .i64 0, .int .u32 11] 34)
            replace yo := yo.alloc (.cells #[.bool true, .int .i64 0, .int .u32 11] 34)
            replace yw := yw.alloc (.cells #[.bool true, .int .i64 0, .int .u32 11] 34)
            replace qo := qo.alloc (.cells #[.bool true, .int .i64 0, .int .u32 11] 34)
            replace qw := qw.alloc (.cells #[.bool true, .int .i64 0, .int .u32 11] 34)
            have qg := Blk.newAt (b := w1.heap.size + 1 + 1) ((w1.alloc (.cells #[.int .i64 SB, .bool EB, .slice A1 mB c1] 24)).alloc (.cells #[.int .i64 0, .bool false, .slice B1 0 d1] 24)) 34 #[.bool true, .int .i64 0, .int .u32 11] (by simp)
            clear zb0 zb1 zb2
            have zqo0 := qo.at 0 rfl; have zqo1 := qo.at 1 rfl; have zqo2 := qo.at 2 rfl; have zqw0 := qw.at 0 rfl; have zqw1 := qw.at 1 rfl; have zqw2 := qw.at 2 rfl; have zqg0 := qg.at 0 rfl; have zqg1 := qg.at 1 rfl; have zqg2 := qg.at 2 rfl; have zqb0 := qb.at 0 rfl; have zqb1 := qb.at 1 rfl; have zqb2 := qb.at 2 rfl
            go_wp2_with (first | (go_at_call 13; refine (R1.out _ _ _ yo).mono ?_; rintro e w2 ⟨rfl, hb⟩; replace bw := bw.below hb; replace y := y.below hb; replace yb := yb.below hb; replace qb := qb.below hb; replace yo := yo.below hb; replace yw := yw.below hb; replace qo := qo.below hb; replace qw := qw.below hb; replace qg := qg.below hb; have zqo0 := qo.at 0 rfl; have zqo1 := qo.at 1 rfl; have zqo2 := qo.at 2 rfl; have zqw0 := qw.at 0 rfl; have zqw1 := qw.at 1 rfl; have zqw2 := qw.at 2 rfl; have zqg0 := qg.at 0 rfl; have zqg1 := qg.at 1 rfl; have zqg2 := qg.at 2 rfl; have zqb0 := qb.at 0 rfl; have zqb1 := qb.at 1 rfl; have zqb2 := qb.at 2 rfl) | (go_at_call 11; refine (rBSameE (sameB_self SB EB DB) _ yo yb).mono ?_; rintro e w2 ⟨rfl, hb⟩; replace bw := bw.below hb) | (go_at_call 8; refine (fWakes _).mono ?_; rintro e wk ⟨rfl, hb⟩; replace bw := bw.below hb))
            go_ret
            exact ⟨rfl, bw.out⟩
          · have hfin := partsFin hst g2 g3 hat htl (K := 1) (F := 5) (.inl ⟨h00, rfl, by decide⟩)
            have hr := partsDone' (i := i) hfin htl (by omega) (by decide)
            have yx := y.cut (lo := a) (hi := n) hat htn
            have T1 : Hid (∀ w, Byt w AB mB cB DB → Byt w (cutA A c a) (n - a) (c - a) ((D.take n).drop a) → Calls Try.prog 9 #[.agg #[.int .i64 SB, .bool EB, .slice AB mB cB], .agg #[.int .u8 1, .int .u8 5, .int .i64 s, .slice (cutA A c a) (n - a) (c - a), .int .i64 0, .int .i64 0, .int .i64 0, .int .u32 0, .slice none 0 0, .bool false, .bool false, .int .i64 0, .int .u8 0]] w fun e W' => ∃ A c B d, e = .returned (.tuple #[.agg #[.int .i64 0, .bool false, .slice A 0 c], .agg #[.int .i64 s, .bool true, .slice B n d], .bool true, .agg #[.bool false, .int .i64 0, .int .u32 0], .int .i64 0]) ∧ Mine w.heap.size W' A 0 c ([]) ∧ Mine w.heap.size W' B n d (D.take n) ∧ Below w.heap.size w W') := Lib.hid fun w h h' => fBTakeE 0 n rfl htk hr w h h' (by omega) (by omega) (by omega) (by omega) (by decide) (by decide)
            clear hfin hr
            have R1 : Hid (∀ w A c, Byt w A 0 c ([]) → Calls Try.prog 13 #[.agg #[.int .i64 0, .bool false, .slice A 0 c]] w (BoolP true w)) := Lib.hid fun w A c h => by have := rBRight (0) false A 0 c ([]) w h; rwa [show rightB (0) false ([]) = true from (by decide)] at this
            have HST := Lib.hid hst
            clear hst hz
            have t5 : ((i : Int) == 0) = true := beq_iff_eq.2 (by omega)
            have b04 : bits .or .u8 0 4 = 4 := by kernel_rfl
            have b14 : bits .or .u8 1 4 = 5 := by kernel_rfl
            have t6 : decide ((4096 : Int) < (n : Int)) = false := decide_eq_false (by omega)
            have j0 : (0 : Int) ≤ (a : Int) := by omega
            have j1 : (a : Int) ≤ (n : Int) := by omega
            have j2 : (n : Int) ≤ (c : Int) := by omega
            have j3 : (0 : Int) ≤ (n : Int) := by omega
            have ql := qb.lt
            clear h00
            go_wp2_with fail
            replace bw := bw.alloc (.cells #[.int .u8 1, .int .u8 5, .int .i64 s, .slice (cutA A c a) (n - a) (c - a), .int .i64 0, .int .i64 0, .int .i64 0, .int .u32 0, .slice none 0 0, .bool false, .bool false, .int .i64 0, .int .u8 0] 30)
            replace y := y.alloc (.cells #[.int .u8 1, .int .u8 5, .int .i64 s, .slice (cutA A c a) (n - a) (c - a), .int .i64 0, .int .i64 0, .int .i64 0, .int .u32 0, .slice none 0 0, .bool false, .bool false, .int .i64 0, .int .u8 0] 30)
            replace yb := yb.alloc (.cells #[.int .u8 1, .int .u8 5, .int .i64 s, .slice (cutA A c a) (n - a) (c - a), .int .i64 0, .int .i64 0, .int .i64 0, .int .u32 0, .slice none 0 0, .bool false, .bool false, .int .i64 0, .int .u8 0] 30)
            replace qb := qb.alloc (.cells #[.int .u8 1, .int .u8 5, .int .i64 s, .slice (cutA A c a) (n - a) (c - a), .int .i64 0, .int .i64 0, .int .i64 0, .int .u32 0, .slice none 0 0, .bool false, .bool false, .int .i64 0, .int .u8 0] 30)
            replace yx := yx.alloc (.cells #[.int .u8 1, .int .u8 5, .int .i64 s, .slice (cutA A c a) (n - a) (c - a), .int .i64 0, .int .i64 0, .int .i64 0, .int .u32 0, .slice none 0 0, .bool false, .bool false, .int .i64 0, .int .u8 0] 30)
            refine (T1.out _ yb yx).mono ?_
            rintro e w1 ⟨A1, c1, B1, d1, rfl, mo, mw, hb⟩
            clear yx
            replace bw := (bw).below hb; replace y := (y).below hb; replace yb := (yb).below hb; replace qb := (qb).below hb
            have yo := mo.byt
            have yw := mw.byt
            clear mo mw
            replace bw := bw.alloc (.cells #[.int .i64 0, .bool false, .slice A1 0 c1] 24)
            replace y := y.alloc (.cells #[.int .i64 0, .bool false, .slice A1 0 c1] 24)
            replace yb := yb.alloc (.cells #[.int .i64 0, .bool false, .slice A1 0 c1] 24)
            replace qb := qb.alloc (.cells #[.int .i64 0, .bool false, .slice A1 0 c1] 24)
            replace yo := yo.alloc (.cells #[.int .i64 0, .bool false, .slice A1 0 c1] 24)
            replace yw := yw.alloc (.cells #[.int .i64 0, .bool false, .slice A1 0 c1] 24)
            have qo := Blk.newAt (b := w1.heap.size) w1 24 #[.int .i64 0, .bool false, .slice A1 0 c1] rfl
            replace bw := bw.alloc (.cells #[.int .i64 s, .bool true, .slice B1 n d1] 24)
            replace y := y.alloc (.cells #[.int .i64 s, .bool true, .slice B1 n d1] 24)
            replace yb := yb.alloc (.cells #[.int .i64 s, .bool true, .slice B1 n d1] 24)
            replace qb := qb.alloc (.cells #[.int .i64 s, .bool true, .slice B1 n d1] 24)
            replace yo := yo.alloc (.cells #[.int .i64 s, .bool true, .slice B1 n d1] 24)
            replace yw := yw.alloc (.cells #[.int .i64 s, .bool true, .slice B1 n d1] 24)
            replace qo := qo.alloc (.cells #[.int .i64 s, .bool true, .slice B1 n d1] 24)
            have qw := Blk.newAt (b := w1.heap.size + 1) (w1.alloc (.cells #[.int .i64 0, .bool false, .slice A1 0 c1] 24)) 24 #[.int .i64 s, .bool true, .slice B1 n d1] (by simp)
            replace bw := bw.alloc (.cells #[.bool false, .int .i64 0, .int .u32 0] 34)
            replace y := y.alloc (.cells #[.bool false, .int .i64 0, .int .u32 0] 34)
            replace yb := yb.alloc (.cells #[.bool false, .int .i64 0, .int .u32 0] 34)
            replace qb := qb.alloc (.cells #[.bool false, .int .i64 0, .int .u32 0] 34)
            replace yo := yo.alloc (.cells #[.bool false, .int .i64 0, .int .u32 0] 34)
            replace yw := yw.alloc (.cells #[.bool false, .int .i64 0, .int .u32 0] 34)
            replace qo := qo.alloc (.cells #[.bool false, .int .i64 0, .int .u32 0] 34)
            replace qw := qw.alloc (.cells #[.bool false, .int .i64 0, .int .u32 0] 34)
            have qg := Blk.newAt (b := w1.heap.size + 1 + 1) ((w1.alloc (.cells #[.int .i64 0, .bool false, .slice A1 0 c1] 24)).alloc (.cells #[.int .i64 s, .bool true, .slice B1 n d1] 24)) 34 #[.bool false, .int .i64 0, .int .u32 0] (by simp)
            clear zb0 zb1 zb2
            have zqo0 := qo.at 0 rfl; have zqo1 := qo.at 1 rfl; have zqo2 := qo.at 2 rfl; have zqw0 := qw.at 0 rfl; have zqw1 := qw.at 1 rfl; have zqw2 := qw.at 2 rfl; have zqg0 := qg.at 0 rfl; have zqg1 := qg.at 1 rfl; have zqg2 := qg.at 2 rfl; have zqb0 := qb.at 0 rfl; have zqb1 := qb.at 1 rfl; have zqb2 := qb.at 2 rfl
            go_wp2_with (first | (go_at_call 13; refine (R1.out _ _ _ yo).mono ?_; rintro e w2 ⟨rfl, hb⟩; replace bw := bw.below hb; replace y := y.below hb; replace yb := yb.below hb; replace qb := qb.below hb; replace yo := yo.below hb; replace yw := yw.below hb; replace qo := qo.below hb; replace qw := qw.below hb; replace qg := qg.below hb; have zqo0 := qo.at 0 rfl; have zqo1 := qo.at 1 rfl; have zqo2 := qo.at 2 rfl; have zqw0 := qw.at 0 rfl; have zqw1 := qw.at 1 rfl; have zqw2 := qw.at 2 rfl; have zqg0 := qg.at 0 rfl; have zqg1 := qg.at 1 rfl; have zqg2 := qg.at 2 rfl; have zqb0 := qb.at 0 rfl; have zqb1 := qb.at 1 rfl; have zqb2 := qb.at 2 rfl) | (go_at_call 11; (with_reducible refine (rBSameE (S := s) (S' := s) sDone _ yw y).mono ?_); rintro e w2 ⟨rfl, hb⟩; replace bw := bw.below hb; replace y := y.below hb; replace yb := yb.below hb; replace qb := qb.below hb; replace yo := yo.below hb; replace yw := yw.below hb; replace qo := qo.below hb; replace qw := qw.below hb; replace qg := qg.below hb; have zqo0 := qo.at 0 rfl; have zqo1 := qo.at 1 rfl; have zqo2 := qo.at 2 rfl; have zqw0 := qw.at 0 rfl; have zqw1 := qw.at 1 rfl; have zqw2 := qw.at 2 rfl; have zqg0 := qg.at 0 rfl; have zqg1 := qg.at 1 rfl; have zqg2 := qg.at 2 rfl; have zqb0 := qb.at 0 rfl; have zqb1 := qb.at 1 rfl; have zqb2 := qb.at 2 rfl) | (go_at_call 11; (with_reducible refine (rBSameE (S := 0) (S' := 0) (sameB_self 0 false []) _ yo (Byt.nil _)).mono ?_); rintro e w2 ⟨rfl, hb⟩; replace bw := bw.below hb) | (go_at_call 8; refine (fWakes _).mono ?_; rintro e wk ⟨rfl, hb⟩; replace bw := bw.below hb))
            go_ret
            exact ⟨rfl, bw.out⟩
        · by_cases h4 : 4096 < n
          · have hfin := partsFin hst g2 g3 hat htl (K := 1) (F := 4) (.inl ⟨h00, rfl, by decide⟩)
            have hr := partsMany' (i := i) hfin htl h4
            have yx := y.cut (lo := a) (hi := n) hat htn
            have T1 : Hid (∀ w, Byt w AB mB cB DB → Byt w (cutA A c a) (n - a) (c - a) ((D.take n).drop a) → Calls Try.prog 9 #[.agg #[.int .i64 SB, .bool EB, .slice AB mB cB], .agg #[.int .u8 1, .int .u8 4, .int .i64 s, .slice (cutA A c a) (n - a) (c - a), .int .i64 0, .int .i64 0, .int .i64 0, .int .u32 0, .slice none 0 0, .bool false, .bool false, .int .i64 0, .int .u8 0]] w fun e W' => ∃ A c B d, e = .returned (.tuple #[.agg #[.int .i64 SB, .bool EB, .slice A mB c], .agg #[.int .i64 0, .bool false, .slice B 0 d], .bool false, .agg #[.bool true, .int .i64 0, .int .u32 11], .int .i64 0]) ∧ Mine w.heap.size W' A mB c (DB) ∧ Mine w.heap.size W' B 0 d ([]) ∧ Below w.heap.size w W') := Lib.hid fun w h h' => fBTakeE mB 0 hbl rfl hr w h h' (by omega) (by omega) (by omega) (by omega) (by decide) (by decide)
            clear hfin hr
            have R1 : Hid (∀ w A c, Byt w A mB c (DB) → Calls Try.prog 13 #[.agg #[.int .i64 SB, .bool EB, .slice A mB c]] w (BoolP true w)) := Lib.hid fun w A c h => by have := rBRight (SB) EB A mB c (DB) w h; rwa [show rightB (SB) EB (DB) = true from partsRight hst g2 g3] at this
            have HST := Lib.hid hst
            clear hst hz
            have t5 : ((i : Int) == 0) = true := beq_iff_eq.2 (by omega)
            have b04 : bits .or .u8 0 4 = 4 := by kernel_rfl
            have b14 : bits .or .u8 1 4 = 5 := by kernel_rfl
            have t6 : decide ((4096 : Int) < (n : Int)) = true := decide_eq_true (by omega)
            have j0 : (0 : Int) ≤ (a : Int) := by omega
            have j1 : (a : Int) ≤ (n : Int) := by omega
            have j2 : (n : Int) ≤ (c : Int) := by omega
            have j3 : (0 : Int) ≤ (n : Int) := by omega
            have ql := qb.lt
            clear h00
            go_wp2_with fail
            replace bw := bw.alloc (.cells #[.int .u8 1, .int .u8 4, .int .i64 s, .slice (cutA A c a) (n - a) (c - a), .int .i64 0, .int .i64 0, .int .i64 0, .int .u32 0, .slice none 0 0, .bool false, .bool false, .int .i64 0, .int .u8 0] 30)
            replace y := y.alloc (.cells #[.int .u8 1, .int .u8 4, .int .i64 s, .slice (cutA A c a) (n - a) (c - a), .int .i64 0, .int .i64 0, .int .i64 0, .int .u32 0, .slice none 0 0, .bool false, .bool false, .int .i64 0, .int .u8 0] 30)
            replace yb := yb.alloc (.cells #[.int .u8 1, .int .u8 4, .int .i64 s, .slice (cutA A c a) (n - a) (c - a), .int .i64 0, .int .i64 0, .int .i64 0, .int .u32 0, .slice none 0 0, .bool false, .bool false, .int .i64 0, .int .u8 0] 30)
            replace qb := qb.alloc (.cells #[.int .u8 1, .int .u8 4, .int .i64 s, .slice (cutA A c a) (n - a) (c - a), .int .i64 0, .int .i64 0, .int .i64 0, .int .u32 0, .slice none 0 0, .bool false, .bool false, .int .i64 0, .int .u8 0] 30)
            replace yx := yx.alloc (.cells #[.int .u8 1, .int .u8 4, .int .i64 s, .slice (cutA A c a) (n - a) (c - a), .int .i64 0, .int .i64 0, .int .i64 0, .int .u32 0, .slice none 0 0, .bool false, .bool false, .int .i64 0, .int .u8 0] 30)
            refine (T1.out _ yb yx).mono ?_
            rintro e w1 ⟨A1, c1, B1, d1, rfl, mo, mw, hb⟩
            clear yx
            replace bw := (bw).below hb; replace y := (y).below hb; replace yb := (yb).below hb; replace qb := (qb).below hb
            have yo := mo.byt
            have yw := mw.byt
            clear mo mw
            replace bw := bw.alloc (.cells #[.int .i64 SB, .bool EB, .slice A1 mB c1] 24)
            replace y := y.alloc (.cells #[.int .i64 SB, .bool EB, .slice A1 mB c1] 24)
            replace yb := yb.alloc (.cells #[.int .i64 SB, .bool EB, .slice A1 mB c1] 24)
            replace qb := qb.alloc (.cells #[.int .i64 SB, .bool EB, .slice A1 mB c1] 24)
            replace yo := yo.alloc (.cells #[.int .i64 SB, .bool EB, .slice A1 mB c1] 24)
            replace yw := yw.alloc (.cells #[.int .i64 SB, .bool EB, .slice A1 mB c1] 24)
            have qo := Blk.newAt (b := w1.heap.size) w1 24 #[.int .i64 SB, .bool EB, .slice A1 mB c1] rfl
            replace bw := bw.alloc (.cells #[.int .i64 0, .bool false, .slice B1 0 d1] 24)
            replace y := y.alloc (.cells #[.int .i64 0, .bool false, .slice B1 0 d1] 24)
            replace yb := yb.alloc (.cells #[.int .i64 0, .bool false, .slice B1 0 d1] 24)
            replace qb := qb.alloc (.cells #[.int .i64 0, .bool false, .slice B1 0 d1] 24)
            replace yo := yo.alloc (.cells #[.int .i64 0, .bool false, .slice B1 0 d1] 24)
            replace yw := yw.alloc (.cells #[.int .i64 0, .bool false, .slice B1 0 d1] 24)
            replace qo := qo.alloc (.cells #[.int .i64 0, .bool false, .slice B1 0 d1] 24)
            have qw := Blk.newAt (b := w1.heap.size + 1) (w1.alloc (.cells #[.int .i64 SB, .bool EB, .slice A1 mB c1] 24)) 24 #[.int .i64 0, .bool false, .slice B1 0 d1] (by simp)
            replace bw := bw.alloc (.cells #[.bool true, .int .i64 0, .int .u32 11] 34)
            replace y := y.alloc (.cells #[.bool true, .int .i64 0, .int .u32 11] 34)
            replace yb := yb.alloc (.cells #[.bool true, .int .i64 0, .int .u32 11] 34)
            replace qb := qb.alloc (.cells #[.bool true, .int .i64 0, .int .u32 11] 34)
            replace yo := yo.alloc (.cells #[.bool true, .int .i64 0, .int .u32 11] 34)
            replace yw := yw.alloc (.cells #[.bool true, .int .i64 0, .int .u32 11] 34)
            replace qo := qo.alloc (.cells #[.bool true, .int .i64 0, .int .u32 11] 34)
            replace qw := qw.alloc (.cells #[.bool true, .int .i64 0, .int .u32 11] 34)
            have qg := Blk.newAt (b := w1.heap.size + 1 + 1) ((w1.alloc (.cells #[.int .i64 SB, .bool EB, .slice A1 mB c1] 24)).alloc (.cells #[.int .i64 0, .bool false, .slice B1 0 d1] 24)) 34 #[.bool true, .int .i64 0, .int .u32 11] (by simp)
            clear zb0 zb1 zb2
            have zqo0 := qo.at 0 rfl; have zqo1 := qo.at 1 rfl; have zqo2 := qo.at 2 rfl; have zqw0 := qw.at 0 rfl; have zqw1 := qw.at 1 rfl; have zqw2 := qw.at 2 rfl; have zqg0 := qg.at 0 rfl; have zqg1 := qg.at 1 rfl; have zqg2 := qg.at 2 rfl; have zqb0 := qb.at 0 rfl; have zqb1 := qb.at 1 rfl; have zqb2 := qb.at 2 rfl
            go_wp2_with (first | (go_at_call 13; refine (R1.out _ _ _ yo).mono ?_; rintro e w2 ⟨rfl, hb⟩; replace bw := bw.below hb; replace y := y.below hb; replace yb := yb.below hb; replace qb := qb.below hb; replace yo := yo.below hb; replace yw := yw.below hb; replace qo := qo.below hb; replace qw := qw.below hb; replace qg := qg.below hb; have zqo0 := qo.at 0 rfl; have zqo1 := qo.at 1 rfl; have zqo2 := qo.at 2 rfl; have zqw0 := qw.at 0 rfl; have zqw1 := qw.at 1 rfl; have zqw2 := qw.at 2 rfl; have zqg0 := qg.at 0 rfl; have zqg1 := qg.at 1 rfl; have zqg2 := qg.at 2 rfl; have zqb0 := qb.at 0 rfl; have zqb1 := qb.at 1 rfl; have zqb2 := qb.at 2 rfl) | (go_at_call 11; refine (rBSameE (sameB_self SB EB DB) _ yo yb).mono ?_; rintro e w2 ⟨rfl, hb⟩; replace bw := bw.below hb) | (go_at_call 8; refine (fWakes _).mono ?_; rintro e wk ⟨rfl, hb⟩; replace bw := bw.below hb))
            go_ret
            exact ⟨rfl, bw.out⟩
          · have hfin := partsFin hst g2 g3 hat htl (K := 1) (F := 4) (.inl ⟨h00, rfl, by decide⟩)
            have hr := partsDone' (i := i) hfin htl (by omega) (by decide)
            have yx := y.cut (lo := a) (hi := n) hat htn
            have T1 : Hid (∀ w, Byt w AB mB cB DB → Byt w (cutA A c a) (n - a) (c - a) ((D.take n).drop a) → Calls Try.prog 9 #[.agg #[.int .i64 SB, .bool EB, .slice AB mB cB], .agg #[.int .u8 1, .int .u8 4, .int .i64 s, .slice (cutA A c a) (n - a) (c - a), .int .i64 0, .int .i64 0, .int .i64 0, .int .u32 0, .slice none 0 0, .bool false, .bool false, .int .i64 0, .int .u8 0]] w fun e W' => ∃ A c B d, e = .returned (.tuple #[.agg #[.int .i64 0, .bool false, .slice A 0 c], .agg #[.int .i64 s, .bool false, .slice B n d], .bool true, .agg #[.bool false, .int .i64 0, .int .u32 0], .int .i64 0]) ∧ Mine w.heap.size W' A 0 c ([]) ∧ Mine w.heap.size W' B n d (D.take n) ∧ Below w.heap.size w W') := Lib.hid fun w h h' => fBTakeE 0 n rfl htk hr w h h' (by omega) (by omega) (by omega) (by omega) (by decide) (by decide)
            clear hfin hr
            have R1 : Hid (∀ w A c, Byt w A 0 c ([]) → Calls Try.prog 13 #[.agg #[.int .i64 0, .bool false, .slice A 0 c]] w (BoolP true w)) := Lib.hid fun w A c h => by have := rBRight (0) false A 0 c ([]) w h; rwa [show rightB (0) false ([]) = true from (by decide)] at this
            have HST := Lib.hid hst
            clear hst hz
            have t5 : ((i : Int) == 0) = true := beq_iff_eq.2 (by omega)
            have b04 : bits .or .u8 0 4 = 4 := by kernel_rfl
            have b14 : bits .or .u8 1 4 = 5 := by kernel_rfl
            have t6 : decide ((4096 : Int) < (n : Int)) = false := decide_eq_false (by omega)
            have j0 : (0 : Int) ≤ (a : Int) := by omega
            have j1 : (a : Int) ≤ (n : Int) := by omega
            have j2 : (n : Int) ≤ (c : Int) := by omega
            have j3 : (0 : Int) ≤ (n : Int) := by omega
            have ql := qb.lt
            clear h00
            go_wp2_with fail
            replace bw := bw.alloc (.cells #[.int .u8 1, .int .u8 4, .int .i64 s, .slice (cutA A c a) (n - a) (c - a), .int .i64 0, .int .i64 0, .int .i64 0, .int .u32 0, .slice none 0 0, .bool false, .bool false, .int .i64 0, .int .u8 0] 30)
            replace y := y.alloc (.cells #[.int .u8 1, .int .u8 4, .int .i64 s, .slice (cutA A c a) (n - a) (c - a), .int .i64 0, .int .i64 0, .int .i64 0, .int .u32 0, .slice none 0 0, .bool false, .bool false, .int .i64 0, .int .u8 0] 30)
            replace yb := yb.alloc (.cells #[.int .u8 1, .int .u8 4, .int .i64 s, .slice (cutA A c a) (n - a) (c - a), .int .i64 0, .int .i64 0, .int .i64 0, .int .u32 0, .slice none 0 0, .bool false, .bool false, .int .i64 0, .int .u8 0] 30)
            replace qb := qb.alloc (.cells #[.int .u8 1, .int .u8 4, .int .i64 s, .slice (cutA A c a) (n - a) (c - a), .int .i64 0, .int .i64 0, .int .i64 0, .int .u32 0, .slice none 0 0, .bool false, .bool false, .int .i64 0, .int .u8 0] 30)
            replace yx := yx.alloc (.cells #[.int .u8 1, .int .u8 4, .int .i64 s, .slice (cutA A c a) (n - a) (c - a), .int .i64 0, .int .i64 0, .int .i64 0, .int .u32 0, .slice none 0 0, .bool false, .bool false, .int .i64 0, .int .u8 0] 30)
            refine (T1.out _ yb yx).mono ?_
            rintro e w1 ⟨A1, c1, B1, d1, rfl, mo, mw, hb⟩
            clear yx
            replace bw := (bw).below hb; replace y := (y).below hb; replace yb := (yb).below hb; replace qb := (qb).below hb
            have yo := mo.byt
            have yw := mw.byt
            clear mo mw
            replace bw := bw.alloc (.cells #[.int .i64 0, .bool false, .slice A1 0 c1] 24)
            replace y := y.alloc (.cells #[.int .i64 0, .bool false, .slice A1 0 c1] 24)
            replace yb := yb.alloc (.cells #[.int .i64 0, .bool false, .slice A1 0 c1] 24)
            replace qb := qb.alloc (.cells #[.int .i64 0, .bool false, .slice A1 0 c1] 24)
            replace yo := yo.alloc (.cells #[.int .i64 0, .bool false, .slice A1 0 c1] 24)
            replace yw := yw.alloc (.cells #[.int .i64 0, .bool false, .slice A1 0 c1] 24)
            have qo := Blk.newAt (b := w1.heap.size) w1 24 #[.int .i64 0, .bool false, .slice A1 0 c1] rfl
            replace bw := bw.alloc (.cells #[.int .i64 s, .bool false, .slice B1 n d1] 24)
            replace y := y.alloc (.cells #[.int .i64 s, .bool false, .slice B1 n d1] 24)
            replace yb := yb.alloc (.cells #[.int .i64 s, .bool false, .slice B1 n d1] 24)
            replace qb := qb.alloc (.cells #[.int .i64 s, .bool false, .slice B1 n d1] 24)
            replace yo := yo.alloc (.cells #[.int .i64 s, .bool false, .slice B1 n d1] 24)
            replace yw := yw.alloc (.cells #[.int .i64 s, .bool false, .slice B1 n d1] 24)
            replace qo := qo.alloc (.cells #[.int .i64 s, .bool false, .slice B1 n d1] 24)
            have qw := Blk.newAt (b := w1.heap.size + 1) (w1.alloc (.cells #[.int .i64 0, .bool false, .slice A1 0 c1] 24)) 24 #[.int .i64 s, .bool false, .slice B1 n d1] (by simp)
            replace bw := bw.alloc (.cells #[.bool false, .int .i64 0, .int .u32 0] 34)
            replace y := y.alloc (.cells #[.bool false, .int .i64 0, .int .u32 0] 34)
            replace yb := yb.alloc (.cells #[.bool false, .int .i64 0, .int .u32 0] 34)
            replace qb := qb.alloc (.cells #[.bool false, .int .i64 0, .int .u32 0] 34)
            replace yo := yo.alloc (.cells #[.bool false, .int .i64 0, .int .u32 0] 34)
            replace yw := yw.alloc (.cells #[.bool false, .int .i64 0, .int .u32 0] 34)
            replace qo := qo.alloc (.cells #[.bool false, .int .i64 0, .int .u32 0] 34)
            replace qw := qw.alloc (.cells #[.bool false, .int .i64 0, .int .u32 0] 34)
            have qg := Blk.newAt (b := w1.heap.size + 1 + 1) ((w1.alloc (.cells #[.int .i64 0, .bool false, .slice A1 0 c1] 24)).alloc (.cells #[.int .i64 s, .bool false, .slice B1 n d1] 24)) 34 #[.bool false, .int .i64 0, .int .u32 0] (by simp)
            clear zb0 zb1 zb2
            have zqo0 := qo.at 0 rfl; have zqo1 := qo.at 1 rfl; have zqo2 := qo.at 2 rfl; have zqw0 := qw.at 0 rfl; have zqw1 := qw.at 1 rfl; have zqw2 := qw.at 2 rfl; have zqg0 := qg.at 0 rfl; have zqg1 := qg.at 1 rfl; have zqg2 := qg.at 2 rfl; have zqb0 := qb.at 0 rfl; have zqb1 := qb.at 1 rfl; have zqb2 := qb.at 2 rfl
            go_wp2_with (first | (go_at_call 13; refine (R1.out _ _ _ yo).mono ?_; rintro e w2 ⟨rfl, hb⟩; replace bw := bw.below hb; replace y := y.below hb; replace yb := yb.below hb; replace qb := qb.below hb; replace yo := yo.below hb; replace yw := yw.below hb; replace qo := qo.below hb; replace qw := qw.below hb; replace qg := qg.below hb; have zqo0 := qo.at 0 rfl; have zqo1 := qo.at 1 rfl; have zqo2 := qo.at 2 rfl; have zqw0 := qw.at 0 rfl; have zqw1 := qw.at 1 rfl; have zqw2 := qw.at 2 rfl; have zqg0 := qg.at 0 rfl; have zqg1 := qg.at 1 rfl; have zqg2 := qg.at 2 rfl; have zqb0 := qb.at 0 rfl; have zqb1 := qb.at 1 rfl; have zqb2 := qb.at 2 rfl) | (go_at_call 11; (with_reducible refine (rBSameE (S := s) (S' := s) sDone _ yw y).mono ?_); rintro e w2 ⟨rfl, hb⟩; replace bw := bw.below hb; replace y := y.below hb; replace yb := yb.below hb; replace qb := qb.below hb; replace yo := yo.below hb; replace yw := yw.below hb; replace qo := qo.below hb; replace qw := qw.below hb; replace qg := qg.below hb; have zqo0 := qo.at 0 rfl; have zqo1 := qo.at 1 rfl; have zqo2 := qo.at 2 rfl; have zqw0 := qw.at 0 rfl; have zqw1 := qw.at 1 rfl; have zqw2 := qw.at 2 rfl; have zqg0 := qg.at 0 rfl; have zqg1 := qg.at 1 rfl; have zqg2 := qg.at 2 rfl; have zqb0 := qb.at 0 rfl; have zqb1 := qb.at 1 rfl; have zqb2 := qb.at 2 rfl) | (go_at_call 11; (with_reducible refine (rBSameE (S := 0) (S' := 0) (sameB_self 0 false []) _ yo (Byt.nil _)).mono ?_); rintro e w2 ⟨rfl, hb⟩; replace bw := bw.below hb) | (go_at_call 8; refine (fWakes _).mono ?_; rintro e wk ⟨rfl, hb⟩; replace bw := bw.below hb))
            go_ret
            exact ⟨rfl, bw.out⟩
      · by_cases h4 : 4096 < n
        · have hfin := partsFin hst g2 g3 hat htl (K := 9) (F := 4) (.inr ⟨by omega, rfl⟩)
          have hr := partsMany' (i := i) hfin htl h4
          have yx := y.cut (lo := a) (hi := n) hat htn
          have T1 : Hid (∀ w, Byt w AB mB cB DB → Byt w (cutA A c a) (n - a) (c - a) ((D.take n).drop a) → Calls Try.prog 9 #[.agg #[.int .i64 SB, .bool EB, .slice AB mB cB], .agg #[.int .u8 9, .int .u8 4, .int .i64 s, .slice (cutA A c a) (n - a) (c - a), .int .i64 0, .int .i64 0, .int .i64 0, .int .u32 0, .slice none 0 0, .bool false, .bool false, .int .i64 0, .int .u8 0]] w fun e W' => ∃ A c B d, e = .returned (.tuple #[.agg #[.int .i64 SB, .bool EB, .slice A mB c], .agg #[.int .i64 0, .bool false, .slice B 0 d], .bool false, .agg #[.bool true, .int .i64 0, .int .u32 11], .int .i64 0]) ∧ Mine w.heap.size W' A mB c (DB) ∧ Mine w.heap.size W' B 0 d ([]) ∧ Below w.heap.size w W') := Lib.hid fun w h h' => fBTakeE mB 0 hbl rfl hr w h h' (by omega) (by omega) (by omega) (by omega) (by decide) (by decide)
          clear hfin hr
          have R1 : Hid (∀ w A c, Byt w A mB c (DB) → Calls Try.prog 13 #[.agg #[.int .i64 SB, .bool EB, .slice A mB c]] w (BoolP true w)) := Lib.hid fun w A c h => by have := rBRight (SB) EB A mB c (DB) w h; rwa [show rightB (SB) EB (DB) = true from partsRight hst g2 g3] at this
          have HST := Lib.hid hst
          clear hst hz
          have t5 : ((i : Int) == 0) = false := beq_eq_false_iff_ne.2 (by omega)
          have b04 : bits .or .u8 0 4 = 4 := by kernel_rfl
          have b14 : bits .or .u8 1 4 = 5 := by kernel_rfl
          have t6 : decide ((4096 : Int) < (n : Int)) = true := decide_eq_true (by omega)
          have j0 : (0 : Int) ≤ (a : Int) := by omega
          have j1 : (a : Int) ≤ (n : Int) := by omega
          have j2 : (n : Int) ≤ (c : Int) := by omega
          have j3 : (0 : Int) ≤ (n : Int) := by omega
          have ql := qb.lt
          clear h00
          go_wp2_with fail
          replace bw := bw.alloc (.cells #[.int .u8 9, .int .u8 4, .int .i64 s, .slice (cutA A c a) (n - a) (c - a), .int .i64 0, .int .i64 0, .int .i64 0, .int .u32 0, .slice none 0 0, .bool false, .bool false, .int .i64 0, .int .u8 0] 30)
          replace y := y.alloc (.cells #[.int .u8 9, .int .u8 4, .int .i64 s, .slice (cutA A c a) (n - a) (c - a), .int .i64 0, .int .i64 0, .int .i64 0, .int .u32 0, .slice none 0 0, .bool false, .bool false, .int .i64 0, .int .u8 0] 30)
          replace yb := yb.alloc (.cells #[.int .u8 9, .int .u8 4, .int .i64 s, .slice (cutA A c a) (n - a) (c - a), .int .i64 0, .int .i64 0, .int .i64 0, .int .u32 0, .slice none 0 0, .bool false, .bool false, .int .i64 0, .int .u8 0] 30)
          replace qb := qb.alloc (.cells #[.int .u8 9, .int .u8 4, .int .i64 s, .slice (cutA A c a) (n - a) (c - a), .int .i64 0, .int .i64 0, .int .i64 0, .int .u32 0, .slice none 0 0, .bool false, .bool false, .int .i64 0, .int .u8 0] 30)
          replace yx := yx.alloc (.cells #[.int .u8 9, .int .u8 4, .int .i64 s, .slice (cutA A c a) (n - a) (c - a), .int .i64 0, .int .i64 0, .int .i64 0, .int .u32 0, .slice none 0 0, .bool false, .bool false, .int .i64 0, .int .u8 0] 30)
          refine (T1.out _ yb yx).mono ?_
          rintro e w1 ⟨A1, c1, B1, d1, rfl, mo, mw, hb⟩
          clear yx
          replace bw := (bw).below hb; replace y := (y).below hb; replace yb := (yb).below hb; replace qb := (qb).below hb
          have yo := mo.byt
          have yw := mw.byt
          clear mo mw
          replace bw := bw.alloc (.cells #[.int .i64 SB, .bool EB, .slice A1 mB c1] 24)
          replace y := y.alloc (.cells #[.int .i64 SB, .bool EB, .slice A1 mB c1] 24)
          replace yb := yb.alloc (.cells #[.int .i64 SB, .bool EB, .slice A1 mB c1] 24)
          replace qb := qb.alloc (.cells #[.int .i64 SB, .bool EB, .slice A1 mB c1] 24)
          replace yo := yo.alloc (.cells #[.int .i64 SB, .bool EB, .slice A1 mB c1] 24)
          replace yw := yw.alloc (.cells #[.int .i64 SB, .bool EB, .slice A1 mB c1] 24)
          have qo := Blk.newAt (b := w1.heap.size) w1 24 #[.int .i64 SB, .bool EB, .slice A1 mB c1] rfl
          replace bw := bw.alloc (.cells #[.int .i64 0, .bool false, .slice B1 0 d1] 24)
          replace y := y.alloc (.cells #[.int .i64 0, .bool false, .slice B1 0 d1] 24)
          replace yb := yb.alloc (.cells #[.int .i64 0, .bool false, .slice B1 0 d1] 24)
          replace qb := qb.alloc (.cells #[.int .i64 0, .bool false, .slice B1 0 d1] 24)
          replace yo := yo.alloc (.cells #[.int .i64 0, .bool false, .slice B1 0 d1] 24)
          replace yw := yw.alloc (.cells #[.int .i64 0, .bool false, .slice B1 0 d1] 24)
          replace qo := qo.alloc (.cells #[.int .i64 0, .bool false, .slice B1 0 d1] 24)
          have qw := Blk.newAt (b := w1.heap.size + 1) (w1.alloc (.cells #[.int .i64 SB, .bool EB, .slice A1 mB c1] 24)) 24 #[.int .i64 0, .bool false, .slice B1 0 d1] (by simp)
          replace bw := bw.alloc (.cells #[.bool true, .int .i64 0, .int .u32 11] 34)
          replace y := y.alloc (.cells #[.bool true, .int .i64 0, .int .u32 11] 34)
          replace yb := yb.alloc (.cells #[.bool true, .int .i64 0, .int .u32 11] 34)
          replace qb := qb.alloc (.cells #[.bool true, .int .i64 0, .int .u32 11] 34)
          replace yo := yo.alloc (.cells #[.bool true, .int .i64 0, .int .u32 11] 34)
          replace yw := yw.alloc (.cells #[.bool true, .int .i64 0, .int .u32 11] 34)
          replace qo := qo.alloc (.cells #[.bool true, .int .i64 0, .int .u32 11] 34)
          replace qw := qw.alloc (.cells #[.bool true, .int .i64 0, .int .u32 11] 34)
          have qg := Blk.newAt (b := w1.heap.size + 1 + 1) ((w1.alloc (.cells #[.int .i64 SB, .bool EB, .slice A1 mB c1] 24)).alloc (.cells #[.int .i64 0, .bool false, .slice B1 0 d1] 24)) 34 #[.bool true, .int .i64 0, .int .u32 11] (by simp)
          clear zb0 zb1 zb2
          have zqo0 := qo.at 0 rfl; have zqo1 := qo.at 1 rfl; have zqo2 := qo.at 2 rfl; have zqw0 := qw.at 0 rfl; have zqw1 := qw.at 1 rfl; have zqw2 := qw.at 2 rfl; have zqg0 := qg.at 0 rfl; have zqg1 := qg.at 1 rfl; have zqg2 := qg.at 2 rfl; have zqb0 := qb.at 0 rfl; have zqb1 := qb.at 1 rfl; have zqb2 := qb.at 2 rfl
          go_wp2_with (first | (go_at_call 13; refine (R1.out _ _ _ yo).mono ?_; rintro e w2 ⟨rfl, hb⟩; replace bw := bw.below hb; replace y := y.below hb; replace yb := yb.below hb; replace qb := qb.below hb; replace yo := yo.below hb; replace yw := yw.below hb; replace qo := qo.below hb; replace qw := qw.below hb; replace qg := qg.below hb; have zqo0 := qo.at 0 rfl; have zqo1 := qo.at 1 rfl; have zqo2 := qo.at 2 rfl; have zqw0 := qw.at 0 rfl; have zqw1 := qw.at 1 rfl; have zqw2 := qw.at 2 rfl; have zqg0 := qg.at 0 rfl; have zqg1 := qg.at 1 rfl; have zqg2 := qg.at 2 rfl; have zqb0 := qb.at 0 rfl; have zqb1 := qb.at 1 rfl; have zqb2 := qb.at 2 rfl) | (go_at_call 11; refine (rBSameE (sameB_self SB EB DB) _ yo yb).mono ?_; rintro e w2 ⟨rfl, hb⟩; replace bw := bw.below hb) | (go_at_call 8; refine (fWakes _).mono ?_; rintro e wk ⟨rfl, hb⟩; replace bw := bw.below hb))
          go_ret
          exact ⟨rfl, bw.out⟩
        · have hfin := partsFin hst g2 g3 hat htl (K := 9) (F := 4) (.inr ⟨by omega, rfl⟩)
          have hr := partsDone' (i := i) hfin htl (by omega) (by decide)
          have yx := y.cut (lo := a) (hi := n) hat htn
          have T1 : Hid (∀ w, Byt w AB mB cB DB → Byt w (cutA A c a) (n - a) (c - a) ((D.take n).drop a) → Calls Try.prog 9 #[.agg #[.int .i64 SB, .bool EB, .slice AB mB cB], .agg #[.int .u8 9, .int .u8 4, .int .i64 s, .slice (cutA A c a) (n - a) (c - a), .int .i64 0, .int .i64 0, .int .i64 0, .int .u32 0, .slice none 0 0, .bool false, .bool false, .int .i64 0, .int .u8 0]] w fun e W' => ∃ A c B d, e = .returned (.tuple #[.agg #[.int .i64 0, .bool false, .slice A 0 c], .agg #[.int .i64 s, .bool E, .slice B n d], .bool true, .agg #[.bool false, .int .i64 0, .int .u32 0], .int .i64 0]) ∧ Mine w.heap.size W' A 0 c ([]) ∧ Mine w.heap.size W' B n d (D.take n) ∧ Below w.heap.size w W') := Lib.hid fun w h h' => fBTakeE 0 n rfl htk hr w h h' (by omega) (by omega) (by omega) (by omega) (by decide) (by decide)
          clear hfin hr
          have R1 : Hid (∀ w A c, Byt w A 0 c ([]) → Calls Try.prog 13 #[.agg #[.int .i64 0, .bool false, .slice A 0 c]] w (BoolP true w)) := Lib.hid fun w A c h => by have := rBRight (0) false A 0 c ([]) w h; rwa [show rightB (0) false ([]) = true from (by decide)] at this
          have HST := Lib.hid hst
          clear hst hz
          have t5 : ((i : Int) == 0) = false := beq_eq_false_iff_ne.2 (by omega)
          have b04 : bits .or .u8 0 4 = 4 := by kernel_rfl
          have b14 : bits .or .u8 1 4 = 5 := by kernel_rfl
          have t6 : decide ((4096 : Int) < (n : Int)) = false := decide_eq_false (by omega)
          have j0 : (0 : Int) ≤ (a : Int) := by omega
          have j1 : (a : Int) ≤ (n : Int) := by omega
          have j2 : (n : Int) ≤ (c : Int) := by omega
          have j3 : (0 : Int) ≤ (n : Int) := by omega
          have ql := qb.lt
          clear h00
          go_wp2_with fail
          replace bw := bw.alloc (.cells #[.int .u8 9, .int .u8 4, .int .i64 s, .slice (cutA A c a) (n - a) (c - a), .int .i64 0, .int .i64 0, .int .i64 0, .int .u32 0, .slice none 0 0, .bool false, .bool false, .int .i64 0, .int .u8 0] 30)
          replace y := y.alloc (.cells #[.int .u8 9, .int .u8 4, .int .i64 s, .slice (cutA A c a) (n - a) (c - a), .int .i64 0, .int .i64 0, .int .i64 0, .int .u32 0, .slice none 0 0, .bool false, .bool false, .int .i64 0, .int .u8 0] 30)
          replace yb := yb.alloc (.cells #[.int .u8 9, .int .u8 4, .int .i64 s, .slice (cutA A c a) (n - a) (c - a), .int .i64 0, .int .i64 0, .int .i64 0, .int .u32 0, .slice none 0 0, .bool false, .bool false, .int .i64 0, .int .u8 0] 30)
          replace qb := qb.alloc (.cells #[.int .u8 9, .int .u8 4, .int .i64 s, .slice (cutA A c a) (n - a) (c - a), .int .i64 0, .int .i64 0, .int .i64 0, .int .u32 0, .slice none 0 0, .bool false, .bool false, .int .i64 0, .int .u8 0] 30)
          replace yx := yx.alloc (.cells #[.int .u8 9, .int .u8 4, .int .i64 s, .slice (cutA A c a) (n - a) (c - a), .int .i64 0, .int .i64 0, .int .i64 0, .int .u32 0, .slice none 0 0, .bool false, .bool false, .int .i64 0, .int .u8 0] 30)
          refine (T1.out _ yb yx).mono ?_
          rintro e w1 ⟨A1, c1, B1, d1, rfl, mo, mw, hb⟩
          clear yx
          replace bw := (bw).below hb; replace y := (y).below hb; replace yb := (yb).below hb; replace qb := (qb).below hb
          have yo := mo.byt
          have yw := mw.byt
          clear mo mw
          replace bw := bw.alloc (.cells #[.int .i64 0, .bool false, .slice A1 0 c1] 24)
          replace y := y.alloc (.cells #[.int .i64 0, .bool false, .slice A1 0 c1] 24)
          replace yb := yb.alloc (.cells #[.int .i64 0, .bool false, .slice A1 0 c1] 24)
          replace qb := qb.alloc (.cells #[.int .i64 0, .bool false, .slice A1 0 c1] 24)
          replace yo := yo.alloc (.cells #[.int .i64 0, .bool false, .slice A1 0 c1] 24)
          replace yw := yw.alloc (.cells #[.int .i64 0, .bool false, .slice A1 0 c1] 24)
          have qo := Blk.newAt (b := w1.heap.size) w1 24 #[.int .i64 0, .bool false, .slice A1 0 c1] rfl
          replace bw := bw.alloc (.cells #[.int .i64 s, .bool E, .slice B1 n d1] 24)
          replace y := y.alloc (.cells #[.int .i64 s, .bool E, .slice B1 n d1] 24)
          replace yb := yb.alloc (.cells #[.int .i64 s, .bool E, .slice B1 n d1] 24)
          replace qb := qb.alloc (.cells #[.int .i64 s, .bool E, .slice B1 n d1] 24)
          replace yo := yo.alloc (.cells #[.int .i64 s, .bool E, .slice B1 n d1] 24)
          replace yw := yw.alloc (.cells #[.int .i64 s, .bool E, .slice B1 n d1] 24)
          replace qo := qo.alloc (.cells #[.int .i64 s, .bool E, .slice B1 n d1] 24)
          have qw := Blk.newAt (b := w1.heap.size + 1) (w1.alloc (.cells #[.int .i64 0, .bool false, .slice A1 0 c1] 24)) 24 #[.int .i64 s, .bool E, .slice B1 n d1] (by simp)
          replace bw := bw.alloc (.cells #[.bool false, .int .i64 0, .int .u32 0] 34)
          replace y := y.alloc (.cells #[.bool false, .int .i64 0, .int .u32 0] 34)
          replace yb := yb.alloc (.cells #[.bool false, .int .i64 0, .int .u32 0] 34)
          replace qb := qb.alloc (.cells #[.bool false, .int .i64 0, .int .u32 0] 34)
          replace yo := yo.alloc (.cells #[.bool false, .int .i64 0, .int .u32 0] 34)
          replace yw := yw.alloc (.cells #[.bool false, .int .i64 0, .int .u32 0] 34)
          replace qo := qo.alloc (.cells #[.bool false, .int .i64 0, .int .u32 0] 34)
          replace qw := qw.alloc (.cells #[.bool false, .int .i64 0, .int .u32 0] 34)
          have qg := Blk.newAt (b := w1.heap.size + 1 + 1) ((w1.alloc (.cells #[.int .i64 0, .bool false, .slice A1 0 c1] 24)).alloc (.cells #[.int .i64 s, .bool E, .slice B1 n d1] 24)) 34 #[.bool false, .int .i64 0, .int .u32 0] (by simp)
          clear zb0 zb1 zb2
          have zqo0 := qo.at 0 rfl; have zqo1 := qo.at 1 rfl; have zqo2 := qo.at 2 rfl; have zqw0 := qw.at 0 rfl; have zqw1 := qw.at 1 rfl; have zqw2 := qw.at 2 rfl; have zqg0 := qg.at 0 rfl; have zqg1 := qg.at 1 rfl; have zqg2 := qg.at 2 rfl; have zqb0 := qb.at 0 rfl; have zqb1 := qb.at 1 rfl; have zqb2 := qb.at 2 rfl
          go_wp2_with (first | (go_at_call 13; refine (R1.out _ _ _ yo).mono ?_; rintro e w2 ⟨rfl, hb⟩; replace bw := bw.below hb; replace y := y.below hb; replace yb := yb.below hb; replace qb := qb.below hb; replace yo := yo.below hb; replace yw := yw.below hb; replace qo := qo.below hb; replace qw := qw.below hb; replace qg := qg.below hb; have zqo0 := qo.at 0 rfl; have zqo1 := qo.at 1 rfl; have zqo2 := qo.at 2 rfl; have zqw0 := qw.at 0 rfl; have zqw1 := qw.at 1 rfl; have zqw2 := qw.at 2 rfl; have zqg0 := qg.at 0 rfl; have zqg1 := qg.at 1 rfl; have zqg2 := qg.at 2 rfl; have zqb0 := qb.at 0 rfl; have zqb1 := qb.at 1 rfl; have zqb2 := qb.at 2 rfl) | (go_at_call 11; (with_reducible refine (rBSameE (S := s) (S' := s) sDone _ yw y).mono ?_); rintro e w2 ⟨rfl, hb⟩; replace bw := bw.below hb; replace y := y.below hb; replace yb := yb.below hb; replace qb := qb.below hb; replace yo := yo.below hb; replace yw := yw.below hb; replace qo := qo.below hb; replace qw := qw.below hb; replace qg := qg.below hb; have zqo0 := qo.at 0 rfl; have zqo1 := qo.at 1 rfl; have zqo2 := qo.at 2 rfl; have zqw0 := qw.at 0 rfl; have zqw1 := qw.at 1 rfl; have zqw2 := qw.at 2 rfl; have zqg0 := qg.at 0 rfl; have zqg1 := qg.at 1 rfl; have zqg2 := qg.at 2 rfl; have zqb0 := qb.at 0 rfl; have zqb1 := qb.at 1 rfl; have zqb2 := qb.at 2 rfl) | (go_at_call 11; (with_reducible refine (rBSameE (S := 0) (S' := 0) (sameB_self 0 false []) _ yo (Byt.nil _)).mono ?_); rintro e w2 ⟨rfl, hb⟩; replace bw := bw.below hb) | (go_at_call 8; refine (fWakes _).mono ?_; rintro e wk ⟨rfl, hb⟩; replace bw := bw.below hb))
          go_ret
          exact ⟨rfl, bw.out⟩

theorem wParts {W : World} (A : Option Addr) (n c : Nat) (D : List Int) (h : Byt W A n c D) (C : Option Addr) (nc cc : Nat) (z : Nat → Int) (hz : Ints W C nc cc z) (s : Int) (s0 : -9223372036854775808 ≤ s) (s1 : s ≤ 9223372036854775807) (E : Bool) :
    Calls Try.prog 4 #[.slice A n c, .slice C nc cc, .int .i64 s, .bool E] W fun e w' => e = .returned (.bool true) ∧ Below W.heap.size W w' := by
  by_cases g : 5000 < n
  · exact partsBig A n c D C nc cc z s E W h hz g
  by_cases g1 : 20 < nc
  · exact partsMany A n c D C nc cc z s E W h hz (by omega) g1
  by_cases g2 : s < 1
  · exact partsLow A n c D C nc cc z s E W h hz (by omega) (by omega) g2
  by_cases g3 : 2147483648 ≤ s
  · exact partsHigh A n c D C nc cc z s E W h hz (by omega) (by omega) (by omega) g3
  · exact partsOk A n c D C nc cc z s E W h hz (by omega) (by omega) (by omega) (by omega)
end Go.Proofs.Ytbooojpohfdljaa
