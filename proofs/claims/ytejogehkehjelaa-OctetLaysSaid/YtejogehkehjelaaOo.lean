/- The contract of the document's Lay. -/
import Derived.Test.YtejogehkehjelaaOy
import Derived.Test.YtejogehkehjelaaOh
namespace Go.Proofs.Ytejogehkehjelaa
open Go.RowKit Go.Shelf
set_option linter.unusedVariables false

theorem wrapPow {k : Nat} (h : k ≤ 62) : wrap64 (2 ^ k) = ((2 ^ k : Nat) : Int) := by
  have hp : 2 ^ k ≤ 2 ^ 62 := Nat.pow_le_pow_right (by decide) h
  rw [show ((2 : Int) ^ k) = ((2 ^ k : Nat) : Int) by simp]
  generalize 2 ^ k = M at *
  simp only [wrap64]
  omega
theorem add_new {f : Nat → Int} (hf : IsBits f) (k : Nat) :
    (byteP f k (k / 8) + wrap64 (f k * 2 ^ (7 - k % 8))) % 256 = byteP f (k + 1) (k / 8) := by
  have hs := shl_bd (f k) (hf k).1 (hf k).2 (k % 8)
  have hn := byteP_new f k
  have hb := byteP_bd hf (k + 1) (k / 8)
  have hb0 := byteP_bd hf k (k / 8)
  rw [hn] at hb ⊢
  generalize f k * 2 ^ (7 - k % 8) = X at *
  generalize byteP f k (k / 8) = Y at *
  simp only [wrap64]
  omega

set_option maxRecDepth 100000 in
set_option maxHeartbeats 4000000 in
theorem rlayYes (A : Option Addr) (n c : Nat) (l : List Int) (used code many : Nat) (w : World) (h : Byt w A n c l) (hn : n ≤ 90000000) (m30 : many ≤ 30) (hcode : code < 2 ^ many) (u1 : used ≤ 8 * n) (u2 : 8 * n < used + 8) :
    Calls Try.prog 21 #[.slice A n c, .int .i64 used, .int .i64 code, .int .i64 many] w (fun e W' =>
      (∃ A' n' c', e = .returned (.tuple #[.slice A' n' c', .int .i64 ((used + many : Nat) : Int), .int .i64 0]) ∧ Mine w.heap.size W' A' n' c' (pk (layBits l used code many) (used + many))) ∧ Below w.heap.size w W') := by
  have hl := h.len
  have H := Lib.hid h
  clear h
  have g1 : decide ((many : Int) < 0) = false := decide_eq_false (by omega)
  have g2 : decide (30 < (many : Int)) = false := decide_eq_false (by omega)
  have g3 : decide ((code : Int) < 0) = false := decide_eq_false (by omega)
  have g4 : decide (wrap64 (2 ^ many) ≤ (code : Int)) = false := by
    rw [wrapPow (by omega)]
    exact decide_eq_false (by omega)
  have g5 : decide ((used : Int) < 0) = false := decide_eq_false (by omega)
  have g6 : decide (8 * (n : Int) < (used : Int)) = false := decide_eq_false (by omega)
  have g7 : decide (8 ≤ 8 * (n : Int) - (used : Int)) = false := decide_eq_false (by omega)
  have hmk := make8 ((used + many + 7) / 8) (by omega)
  have hmk2 := Mine.make (base := w.heap.size) w ((used + many + 7) / 8) (Nat.le_refl _) (by omega)
  have e8 : (((used : Int) + many + 7) / 8) = (((used + many + 7) / 8 : Nat) : Int) := by omega
  have HM := Lib.hid hmk
  clear hmk
  have HM2 := Lib.hid hmk2
  clear hmk2
  have hmk3 : (Instr.makeSlice 22 (.int .i64 (((used : Int) + many + 7) / 8)) (.int .i64 (((used : Int) + many + 7) / 8))).run Try.prog w = .ok (.slice (some ⟨w.heap.size, 0, none⟩) ((used + many + 7) / 8) ((used + many + 7) / 8)) (w.alloc (.cells (madeCells #[.int .u8 0] ((used + many + 7) / 8)) 5)) := by
    rw [e8]; exact HM.out w
  clear e8
  go_enter Try.func21, Try.ntmps21
  go_wp2
  go_loopw [13] (fun v wr => ∃ k : Nat, k ≤ used + many ∧ v = .int .i64 k ∧ Mine w.heap.size wr (some ⟨w.heap.size, 0, none⟩) ((used + many + 7) / 8) ((used + many + 7) / 8) (pkz (layBits l used code many) k ((used + many + 7) / 8)) ∧ Below w.heap.size w wr) (fun v _ => used + many - (intOf v).toNat)
  case atStart => exact ⟨0, Nat.zero_le _, rfl, by rw [pkz_zero]; exact HM2.out, (Below.refl _ _).alloc (Nat.le_refl _) _⟩
  case round =>
    obtain ⟨k, hk, rfl, hmn, hbel⟩ := hrel
    by_cases hlt : k < used + many
    · have hf := layBits_is l used code many
      have hc1 := hmn.cellAt (j := k / 8) (by omega)
      have hf1 := hmn.frozenAt (k / 8)
      rw [pkz_get _ _ _ (by omega)] at hc1
      simp only [Option.getD_some] at hc1
      have hbd := byteP_bd hf (k + 1) (k / 8)
      have hst := hmn.stored (k / 8) hbd.1 hbd.2
      rw [pkz_set _ _ _ (by omega)] at hst
      have hadd := add_new hf k
      by_cases hku : k < used
      · have hb1 := rbitYes A n c l k wr (H.out.below hbel) (by omega) (by omega)
        have hbit : layBits l used code many k = bitAt l k := by unfold layBits; rw [if_pos hku]
        rw [hbit] at hadd
        go_wp2_with (go_at_call 17; refine hb1.mono ?_; rintro e w' ⟨rfl, rfl⟩)
        exact ⟨⟨k + 1, by omega, by simp, hst, hbel.setCell (Nat.le_refl _) _⟩, by simp [intOf]; omega⟩
      · have hbit : layBits l used code many k = (code : Int) / 2 ^ (used + many - 1 - k) % 2 := by
          unfold layBits
          rw [if_neg hku, show many - 1 - (k - used) = used + many - 1 - k by omega]
          simp
        rw [hbit] at hadd
        have x0 : ((used : Int) + many - 1 - k).toNat = used + many - 1 - k := by omega
        have x1 : (0 : Int) ≤ (used : Int) + many - 1 - k := by omega
        have g8 : decide ((k : Int) < (used : Int)) = false := decide_eq_false (by omega)
        have g9 : decide (k < used) = false := decide_eq_false (by omega)
        have x2 : 0 ≤ (code : Int) / 2 ^ (used + many - 1 - k) := by
          rw [show ((code : Int) / 2 ^ (used + many - 1 - k)) = ((code / 2 ^ (used + many - 1 - k) : Nat) : Int) by simp]
          exact Int.natCast_nonneg _
        go_wp2
        exact ⟨⟨k + 1, by omega, by simp, hst, hbel.setCell (Nat.le_refl _) _⟩, by simp [intOf]; omega⟩
    · obtain rfl : k = used + many := by omega
      rw [pk_pkz] at hmn
      go_wp2
      go_ret3
      exact ⟨⟨_, _, _, by simp, hmn⟩, hbel⟩

set_option maxRecDepth 100000 in
theorem rlayNo (A : Option Addr) (n c : Nat) (used code many : Int) (w : World) (hn : n ≤ 90000000) (u1 : used ≤ 9223372036854775807) (h : ¬(0 ≤ many ∧ many ≤ 30 ∧ 0 ≤ code ∧ code < ((2 ^ many.toNat : Nat) : Int) ∧ 0 ≤ used ∧ used ≤ 8 * (n : Int) ∧ 8 * (n : Int) - used ≤ 7)) :
    Calls Try.prog 21 #[.slice A n c, .int .i64 used, .int .i64 code, .int .i64 many] w (Ret (.tuple #[.slice none 0 0, .int .i64 0, .int .i64 2]) w) := by
  by_cases h1 : many < 0
  · clear h
    go_enter Try.func21, Try.ntmps21
    go_wp2
    go_ret3
    exact ⟨rfl, rfl⟩
  have g1 : decide (many < 0) = false := decide_eq_false h1
  by_cases h2 : 30 < many
  · clear h
    go_enter Try.func21, Try.ntmps21
    go_wp2
    go_ret3
    exact ⟨rfl, rfl⟩
  have g2 : decide (30 < many) = false := decide_eq_false h2
  by_cases h3 : code < 0
  · clear h
    go_enter Try.func21, Try.ntmps21
    go_wp2
    go_ret3
    exact ⟨rfl, rfl⟩
  have g3 : decide (code < 0) = false := decide_eq_false h3
  obtain ⟨m, rfl⟩ := toNat_lit (show 0 ≤ many by omega)
  obtain ⟨k, rfl⟩ := toNat_lit (show 0 ≤ code by omega)
  simp only [Int.toNat_natCast] at h
  have hm30 : m ≤ 30 := by omega
  have hw := wrapPow (show m ≤ 62 by omega)
  by_cases h4 : 2 ^ m ≤ k
  · have g4 : wrap64 (2 ^ m) ≤ (k : Int) := by rw [hw]; omega
    clear h h1 h2 h3 hw h4
    go_enter Try.func21, Try.ntmps21
    go_wp2
    go_ret3
    exact ⟨rfl, rfl⟩
  have g4 : decide (wrap64 (2 ^ m) ≤ (k : Int)) = false := by rw [hw]; exact decide_eq_false (by omega)
  have hlast : used < 0 ∨ 8 * (n : Int) < used ∨ 8 ≤ 8 * (n : Int) - used := by omega
  clear h h1 h2 h3 h4 hw
  by_cases h5 : used < 0
  · clear hlast
    go_enter Try.func21, Try.ntmps21
    go_wp2
    go_ret3
    exact ⟨rfl, rfl⟩
  have g5 : decide (used < 0) = false := decide_eq_false h5
  by_cases h6 : 8 * (n : Int) < used
  · clear hlast
    go_enter Try.func21, Try.ntmps21
    go_wp2
    go_ret3
    exact ⟨rfl, rfl⟩
  have g6 : decide (8 * (n : Int) < used) = false := decide_eq_false h6
  have g7 : 8 ≤ 8 * (n : Int) - used := by omega
  have g8 : 0 ≤ used := by omega
  have g9 : used ≤ 8 * (n : Int) := by omega
  clear hlast h5 h6
  go_enter Try.func21, Try.ntmps21
  go_wp2
  go_ret3
  exact ⟨rfl, rfl⟩

theorem rOLay (A : Option Addr) (n c : Nat) (l : List Int) (used code many : Int) (w : World) (h : Byt w A n c l) (hn : n ≤ 90000000) (u1 : used ≤ 9223372036854775807) :
    Calls Try.prog 21 #[.slice A n c, .int .i64 used, .int .i64 code, .int .i64 many] w (LayPost w l used code many) := by
  have hl := h.len
  unfold LayPost layO layN layE
  cases ok : okLay l used code many
  · have no := of_decide_eq_false ok
    rw [hl] at no
    refine (rlayNo A n c used code many w hn u1 no).mono ?_
    rintro e W' ⟨rfl, rfl⟩
    exact ⟨⟨none, 0, 0, rfl, Mine.nil _ _⟩, Below.refl _ _⟩
  · have yes := of_decide_eq_true ok
    rw [hl] at yes
    obtain ⟨m, rfl⟩ := toNat_lit yes.1
    obtain ⟨k, rfl⟩ := toNat_lit yes.2.2.1
    obtain ⟨u, rfl⟩ := toNat_lit yes.2.2.2.2.1
    simp only [Int.toNat_natCast] at yes ⊢
    refine (rlayYes A n c l u k m w h hn (by omega) (by omega) (by omega) (by omega)).mono ?_
    rintro e W' ⟨⟨A', n', c', rfl, hm⟩, hb⟩
    exact ⟨⟨A', n', c', by simp, by simpa using hm⟩, hb⟩
end Go.Proofs.Ytejogehkehjelaa
