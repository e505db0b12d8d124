/- The walk of octet.Lay. -/
import Derived.Test.YtejogehkehjelaaOm
namespace Go.Proofs.Ytejogehkehjelaa
open Go.RowKit Go.Shelf
set_option linter.unusedVariables false

set_option maxRecDepth 100000 in
set_option maxHeartbeats 4000000 in
theorem layRoom (A : Option Addr) (n c : Nat) (l : List Int) (used code many : Nat) (w : World) (h : Byt w A n c l) (hn : n ≤ 90000000) (m30 : many ≤ 30) (hcode : code < 2 ^ many) (u1 : used ≤ 8 * n) (u2 : 8 * n < used + 8) (hroom : used < 8 * n) :
    Calls Try.prog 20 #[.slice A n c, .int .i64 used, .int .i64 code, .int .i64 many] w fun e W' =>
      (∃ A' n' c', e = .returned (.tuple #[.slice A' n' c', .int .i64 ((used + many : Nat) : Int), .int .i64 0]) ∧ Mine w.heap.size W' A' n' c' (pk (layBits l used code many) (used + many))) ∧ Below w.heap.size w W' := by
  have hl := h.len
  have H := Lib.hid h
  clear h
  have g1 : decide ((many : Int) < 0) = false := decide_eq_false (by omega)
  have g2 : decide (30 < (many : Int)) = false := decide_eq_false (by omega)
  have g3 : decide ((code : Int) < 0) = false := decide_eq_false (by omega)
  have g4 : ((code : Int) / 2 ^ many != 0) = false := by
    rw [bne_eq_false_iff_eq]
    have : code / 2 ^ many = 0 := Nat.div_eq_of_lt hcode
    exact_mod_cast this
  have g5 : decide ((used : Int) < 0) = false := decide_eq_false (by omega)
  have g6 : decide (8 * (n : Int) - (used : Int) < 0) = false := decide_eq_false (by omega)
  have g7 : decide (7 < 8 * (n : Int) - (used : Int)) = false := decide_eq_false (by omega)
  have b0 := (Boxed.new w 22 (.slice none 0 0)).alloc (.cells #[.int .i64 0] 3)
  have b1 := Boxed.new (w.alloc (.cells #[.slice none 0 0] 22)) 3 (.int .i64 0)
  rw [World.size_alloc] at b1
  have g8 : 0 < 8 * (n : Int) - (used : Int) := by omega
  go_enter Try.func20, Try.ntmps20
  go_wp2_with fail
  refine wp_scope_hop 1 ?_
  go_wp2_with (first
    | (go_at_call 26; refine (fClone _ _ _ _ _ ((H.out.alloc _).alloc _) (by omega)).mono ?_; rintro e w2 ⟨A2, c2, rfl, hm2, hb2⟩; have k0 : Boxed w2 w.heap.size 22 (.slice none 0 0) := (hb2.block w.heap.size b0.lt).trans b0; have k1 : Boxed w2 (w.heap.size + 1) 3 (.int .i64 0) := (hb2.block (w.heap.size + 1) b1.lt).trans b1; have k2 := k0.cell; have k3 := k0.frozen; have k4 := k1.cell; have k5 := k1.frozen)
    | (refine wp_goto ?_; refine hop_goto rfl ?_) | (refine wp_label ?_) | (refine hop_ret ?_))
  obtain ⟨h00, _, _⟩ | ⟨g, rfl, hgb, hg, hnc, hcm, _, _⟩ := hm2.cases
  · omega
  have hsz : ((w.alloc (.cells #[.slice none 0 0] 22)).alloc (.cells #[.int .i64 0] 3)).heap.size = w.heap.size + 1 + 1 := by simp
  rw [hsz] at hgb hm2
  have r0 := ((k0.set (.slice (some ⟨g, 0, none⟩) n c2)).other (B' := w.heap.size + 1) (by omega) (.int .i64 used))
  have r1 := ((k1.other (B' := w.heap.size) (by omega) (.slice (some ⟨g, 0, none⟩) n c2)).set (.int .i64 used))
  have r2 := (hm2.box k0 (by decide) (.slice (some ⟨g, 0, none⟩) n c2)).box (k1.other (B' := w.heap.size) (by omega) (.slice (some ⟨g, 0, none⟩) n c2)) (by decide) (.int .i64 used)
  have r3 : Below w.heap.size w ((w2.setCell ⟨w.heap.size, 0, none⟩ (.slice (some ⟨g, 0, none⟩) n c2)).setCell ⟨w.heap.size + 1, 0, none⟩ (.int .i64 used)) :=
    (((((Below.refl w.heap.size w).alloc (Nat.le_refl _) _).alloc (by simp) _).trans (hb2.mono (by rw [hsz]; omega))).setCell (p := ⟨w.heap.size, 0, none⟩) (Nat.le_refl _) _).setCell (p := ⟨w.heap.size + 1, 0, none⟩) (by simp) _
  generalize ((w2.setCell ⟨w.heap.size, 0, none⟩ (.slice (some ⟨g, 0, none⟩) n c2)).setCell ⟨w.heap.size + 1, 0, none⟩ (.int .i64 used)) = w3 at *
  clear k0 k1 k2 k3 k4 k5 b0 b1 hm2 hb2 hg hsz
  have s1 := r2.cellAt (j := n - 1) (by omega)
  have s2 := r2.frozenAt (n - 1)
  have s3 := r0.cell
  have s4 := r1.cell
  have hy := (H.out.bs).get (n - 1)
  generalize hY : l[n - 1]?.getD 0 = y at *
  have w1 : IntKind.i64.wrap ((n : Int) - 1) = ((n - 1 : Nat) : Int) := by rw [IntKind.wrap_i64]; omega
  have x1 : ((n - 1 : Nat) : Int) < (n : Int) := by omega
  have x1' : n - 1 < n := by omega
  have x2 : (0 : Int) ≤ 8 * (n : Int) - (used : Int) := by omega
  have x3 : (8 * (n : Int) - (used : Int)).toNat = 8 * n - used := by omega
  have x4 : ¬ (8 * (n : Int) - (used : Int) < 0) := by omega
  go_still_tail 15, (by kernel_rfl)
  have hwr : IntKind.u8.wrap (y / 2 ^ (8 * n - used) * 2 ^ (8 * n - used)) = y / 2 ^ (8 * n - used) * 2 ^ (8 * n - used) ∧ 0 ≤ y / 2 ^ (8 * n - used) * 2 ^ (8 * n - used) ∧ y / 2 ^ (8 * n - used) * 2 ^ (8 * n - used) ≤ 255 := by
    have hp : (2 : Int) ^ (8 * n - used) = ((2 ^ (8 * n - used) : Nat) : Int) := by simp
    have hpp : 0 < 2 ^ (8 * n - used) := Nat.two_pow_pos _
    have e1 : y / 2 ^ (8 * n - used) * 2 ^ (8 * n - used) ≤ y := Int.ediv_mul_le _ (by rw [hp]; omega)
    have e2 : 0 ≤ y / 2 ^ (8 * n - used) := Int.ediv_nonneg hy.1 (by rw [hp]; omega)
    have e3 : 0 ≤ y / 2 ^ (8 * n - used) * 2 ^ (8 * n - used) := Int.mul_nonneg e2 (by rw [hp]; omega)
    generalize y / 2 ^ (8 * n - used) * 2 ^ (8 * n - used) = z at *
    refine ⟨?_, e3, by omega⟩
    simp [IntKind.wrap, IntKind.signed, IntKind.bits]
    omega
  rw [hwr.1]
  have hmk := mask_pk H.out.bs used code many (by omega) (by omega) (by omega)
  rw [hl, hY] at hmk
  have hn1 := r2.drew.stored (n - 1) hwr.2.1 hwr.2.2
  rw [hmk] at hn1
  clear hmk
  change wpList _ _ _ _ _ w3.drew
  have t1 : w3.drew.cell? ⟨g, n - 1, none⟩ = some (.int .u8 y) := s1
  have t2 : w3.drew.frozen? ⟨g, n - 1, none⟩ = false := s2
  have t3 : Boxed w3.drew (w.heap.size + 1) 3 (.int .i64 used) := r1
  have t4 : Boxed w3.drew w.heap.size 22 (.slice (some ⟨g, 0, none⟩) n c2) := r0
  have t6 : Below w.heap.size w w3.drew := r3.trans ⟨rfl, rfl, rfl, Nat.le_refl _, fun _ _ => rfl⟩
  generalize w3.drew = W1 at *
  clear s1 s2 s3 s4 r0 r1 r2 r3
  generalize y / 2 ^ (8 * n - used) * 2 ^ (8 * n - used) = z at *
  have p7 : Boxed (W1.setCell ⟨g, n - 1, none⟩ (.int .u8 z)) (w.heap.size + 1) 3 (.int .i64 used) := (Below.heap_setCell W1 ⟨g, n - 1, none⟩ _ _ (by simp; omega)).trans t3
  have p8 : Boxed (W1.setCell ⟨g, n - 1, none⟩ (.int .u8 z)) w.heap.size 22 (.slice (some ⟨g, 0, none⟩) n c2) := (Below.heap_setCell W1 ⟨g, n - 1, none⟩ _ _ (by simp; omega)).trans t4
  have p9 : Below w.heap.size w (W1.setCell ⟨g, n - 1, none⟩ (.int .u8 z)) := t6.setCell (p := ⟨g, n - 1, none⟩) (by simp; omega) _
  go_wp2
  generalize (W1.setCell ⟨g, n - 1, none⟩ (.int .u8 z)) = W4 at *
  clear t1 t2 t3 t4 t6
  go_loopw [3] (fun v wr => ∃ k : Nat, k ≤ many ∧ v = .int .i64 ((k : Int) - 1) ∧ Boxed wr (w.heap.size + 1) 3 (.int .i64 ((used + (many - k) : Nat) : Int)) ∧ (∃ A' n' c', Boxed wr w.heap.size 22 (.slice A' n' c') ∧ Mine w.heap.size wr A' n' c' (pk (layBits l used code many) (used + (many - k)))) ∧ Below w.heap.size w wr)
    (fun v _ => (intOf v + 1).toNat)
  case atStart => exact ⟨many, Nat.le_refl _, rfl, by rw [Nat.sub_self]; exact p7, ⟨_, _, _, p8, by rw [Nat.sub_self]; exact hn1.base_le (by omega)⟩, p9⟩
  case round =>
    obtain ⟨k, hk, rfl, hba, ⟨A', n', c', hbo, hm⟩, hbel⟩ := hrel
    rcases k with _ | k
    · rw [Nat.sub_zero] at hba hm
      have e1 := hba.cell
      have e2 := hbo.cell
      have e3 := hba.frozen
      have e4 := hbo.frozen
      go_wp2_with (first | (refine wp_goto ?_; refine hop_goto rfl ?_) | (refine wp_label ?_) | (refine hop_ret ?_))
      go_region
      go_wp2_with (first | (refine wp_goto ?_; refine hop_goto rfl ?_) | (refine wp_label ?_) | (refine hop_ret ?_))
      have f0 := (hbo.set (.slice A' n' c')).other (B' := w.heap.size + 1) (by omega) (.int .i64 ((used : Int) + many))
      have f1 := (hba.other (B' := w.heap.size) (by omega) (.slice A' n' c')).set (.int .i64 ((used : Int) + many))
      have f2 := (hm.box hbo (by decide) (.slice A' n' c')).box (hba.other (B' := w.heap.size) (by omega) (.slice A' n' c')) (by decide) (.int .i64 ((used : Int) + many))
      have f3 : Below w.heap.size w ((wr.setCell ⟨w.heap.size, 0, none⟩ (.slice A' n' c')).setCell ⟨w.heap.size + 1, 0, none⟩ (.int .i64 ((used : Int) + many))) := (hbel.setCell (p := ⟨w.heap.size, 0, none⟩) (Nat.le_refl _) _).setCell (p := ⟨w.heap.size + 1, 0, none⟩) (by simp) _
      have f4 := f0.cell
      have f5 := f1.cell
      refine bodyPost_ret (v := .tuple #[.slice A' n' c', .int .i64 ((used : Int) + many), .int .i64 0]) (by simp [results, Try.f20, go_sem, f4, f5]) rfl ⟨⟨A', n', c', by simp, f2.drew⟩, f3.trans ⟨rfl, rfl, rfl, Nat.le_refl _, fun _ _ => rfl⟩⟩
    · have hbit : layBits l used code many (used + (many - (k + 1))) = ((code / 2 ^ k % 2 : Nat) : Int) := by
        unfold layBits
        rw [if_neg (by omega), show many - 1 - (used + (many - (k + 1)) - used) = k by omega]
      have hput := fPut1 w.heap.size (layBits l used code many) (layBits_is l used code many) (used + (many - (k + 1))) (by omega) (w.heap.size + 1) w.heap.size (by omega) A' n' c' wr hba hbo hm (by omega) (Nat.le_refl _)
      rw [hbit, show used + (many - (k + 1)) + 1 = used + (many - k) by omega] at hput
      have HP := Lib.hid hput
      have hc2 : (code : Int) / 2 ^ k < 4294967296 := by
        have e1 : code / 2 ^ k ≤ code := Nat.div_le_self _ _
        have e2 : 2 ^ many ≤ 2 ^ 30 := Nat.pow_le_pow_right (by decide) m30
        have e3 : (code : Int) / 2 ^ k = ((code / 2 ^ k : Nat) : Int) := by simp
        rw [e3]
        omega
      have hc0 : 0 ≤ (code : Int) / 2 ^ k := by
        have e3 : (code : Int) / 2 ^ k = ((code / 2 ^ k : Nat) : Int) := by simp
        rw [e3]
        exact Int.natCast_nonneg _
      have hand := and_mask64 ((code : Int) / 2 ^ k) 1 hc0 hc2 (by decide)
      have hand2 : bits .and .i64 ((code : Int) / 2 ^ k) 1 = ((code / 2 ^ k % 2 : Nat) : Int) := by
        have e3 : ((code / 2 ^ k % 2 : Nat) : Int) = (code : Int) / 2 ^ k % 2 := by simp
        rw [e3]
        simpa using hand
      rw [show ((k + 1 : Nat) : Int) - 1 = (k : Int) by omega]
      generalize ((code / 2 ^ k % 2 : Nat) : Int) = bt at *
      clear hand
      go_wp2_with (go_at_call 25; refine HP.out.mono ?_; rintro e w5 ⟨⟨v, rfl⟩, q1, ⟨A5, n5, c5, q2, q3⟩, q4⟩)
      exact ⟨⟨k, by omega, by simp, q1, ⟨A5, n5, c5, q2, q3⟩, hbel.trans q4⟩, by simp [intOf]⟩
set_option maxRecDepth 100000 in
set_option maxHeartbeats 4000000 in
theorem layFull (A : Option Addr) (n c : Nat) (l : List Int) (used code many : Nat) (w : World) (h : Byt w A n c l) (hn : n ≤ 90000000) (m30 : many ≤ 30) (hcode : code < 2 ^ many) (u1 : used ≤ 8 * n) (u2 : 8 * n < used + 8) (hroom : used = 8 * n) :
    Calls Try.prog 20 #[.slice A n c, .int .i64 used, .int .i64 code, .int .i64 many] w fun e W' =>
      (∃ A' n' c', e = .returned (.tuple #[.slice A' n' c', .int .i64 ((used + many : Nat) : Int), .int .i64 0]) ∧ Mine w.heap.size W' A' n' c' (pk (layBits l used code many) (used + many))) ∧ Below w.heap.size w W' := by
  have hl := h.len
  have H := Lib.hid h
  clear h
  have g1 : decide ((many : Int) < 0) = false := decide_eq_false (by omega)
  have g2 : decide (30 < (many : Int)) = false := decide_eq_false (by omega)
  have g3 : decide ((code : Int) < 0) = false := decide_eq_false (by omega)
  have g4 : ((code : Int) / 2 ^ many != 0) = false := by
    rw [bne_eq_false_iff_eq]
    have : code / 2 ^ many = 0 := Nat.div_eq_of_lt hcode
    exact_mod_cast this
  have g5 : decide ((used : Int) < 0) = false := decide_eq_false (by omega)
  have g6 : decide (8 * (n : Int) - (used : Int) < 0) = false := decide_eq_false (by omega)
  have g7 : decide (7 < 8 * (n : Int) - (used : Int)) = false := decide_eq_false (by omega)
  have b0 := (Boxed.new w 22 (.slice none 0 0)).alloc (.cells #[.int .i64 0] 3)
  have b1 := Boxed.new (w.alloc (.cells #[.slice none 0 0] 22)) 3 (.int .i64 0)
  rw [World.size_alloc] at b1
  have g8 : decide ((used : Int) < 8 * (n : Int)) = false := decide_eq_false (by omega)
  have HR := Lib.hid hroom
  clear hroom
  go_enter Try.func20, Try.ntmps20
  go_wp2_with fail
  refine wp_scope_hop 1 ?_
  go_wp2_with (first
    | (go_at_call 26; refine (fClone _ _ _ _ _ ((H.out.alloc _).alloc _) (by omega)).mono ?_; rintro e w2 ⟨A2, c2, rfl, hm2, hb2⟩; have k0 : Boxed w2 w.heap.size 22 (.slice none 0 0) := (hb2.block w.heap.size b0.lt).trans b0; have k1 : Boxed w2 (w.heap.size + 1) 3 (.int .i64 0) := (hb2.block (w.heap.size + 1) b1.lt).trans b1; have k2 := k0.cell; have k3 := k0.frozen; have k4 := k1.cell; have k5 := k1.frozen)
    | (refine wp_goto ?_; refine hop_goto rfl ?_) | (refine wp_label ?_) | (refine hop_ret ?_))
  have hsz : ((w.alloc (.cells #[.slice none 0 0] 22)).alloc (.cells #[.int .i64 0] 3)).heap.size = w.heap.size + 1 + 1 := by simp
  rw [hsz] at hm2
  have p8 := ((k0.set (.slice A2 n c2)).other (B' := w.heap.size + 1) (by omega) (.int .i64 used))
  have p7 := ((k1.other (B' := w.heap.size) (by omega) (.slice A2 n c2)).set (.int .i64 used))
  have hn1 := (hm2.box k0 (by decide) (.slice A2 n c2)).box (k1.other (B' := w.heap.size) (by omega) (.slice A2 n c2)) (by decide) (.int .i64 used)
  have p9 : Below w.heap.size w ((w2.setCell ⟨w.heap.size, 0, none⟩ (.slice A2 n c2)).setCell ⟨w.heap.size + 1, 0, none⟩ (.int .i64 used)) :=
    (((((Below.refl w.heap.size w).alloc (Nat.le_refl _) _).alloc (by simp) _).trans (hb2.mono (by rw [hsz]; omega))).setCell (p := ⟨w.heap.size, 0, none⟩) (Nat.le_refl _) _).setCell (p := ⟨w.heap.size + 1, 0, none⟩) (by simp) _
  generalize ((w2.setCell ⟨w.heap.size, 0, none⟩ (.slice A2 n c2)).setCell ⟨w.heap.size + 1, 0, none⟩ (.int .i64 used)) = W4 at *
  clear k0 k1 k2 k3 k4 k5 b0 b1 hm2 hb2 hsz
  have hfp := full_pk H.out.bs code many
  rw [hl, ← HR.out] at hfp
  have hpkl : pk (layBits l used code many) used = l := hfp.symm
  rw [← hpkl] at hn1
  go_loopw [3] (fun v wr => ∃ k : Nat, k ≤ many ∧ v = .int .i64 ((k : Int) - 1) ∧ Boxed wr (w.heap.size + 1) 3 (.int .i64 ((used + (many - k) : Nat) : Int)) ∧ (∃ A' n' c', Boxed wr w.heap.size 22 (.slice A' n' c') ∧ Mine w.heap.size wr A' n' c' (pk (layBits l used code many) (used + (many - k)))) ∧ Below w.heap.size w wr)
    (fun v _ => (intOf v + 1).toNat)
  case atStart => exact ⟨many, Nat.le_refl _, rfl, by rw [Nat.sub_self]; exact p7, ⟨_, _, _, p8, by rw [Nat.sub_self]; exact hn1.base_le (by omega)⟩, p9⟩
  case round =>
    obtain ⟨k, hk, rfl, hba, ⟨A', n', c', hbo, hm⟩, hbel⟩ := hrel
    rcases k with _ | k
    · rw [Nat.sub_zero] at hba hm
      have e1 := hba.cell
      have e2 := hbo.cell
      have e3 := hba.frozen
      have e4 := hbo.frozen
      go_wp2_with (first | (refine wp_goto ?_; refine hop_goto rfl ?_) | (refine wp_label ?_) | (refine hop_ret ?_))
      go_region
      go_wp2_with (first | (refine wp_goto ?_; refine hop_goto rfl ?_) | (refine wp_label ?_) | (refine hop_ret ?_))
      have f0 := (hbo.set (.slice A' n' c')).other (B' := w.heap.size + 1) (by omega) (.int .i64 ((used : Int) + many))
      have f1 := (hba.other (B' := w.heap.size) (by omega) (.slice A' n' c')).set (.int .i64 ((used : Int) + many))
      have f2 := (hm.box hbo (by decide) (.slice A' n' c')).box (hba.other (B' := w.heap.size) (by omega) (.slice A' n' c')) (by decide) (.int .i64 ((used : Int) + many))
      have f3 : Below w.heap.size w ((wr.setCell ⟨w.heap.size, 0, none⟩ (.slice A' n' c')).setCell ⟨w.heap.size + 1, 0, none⟩ (.int .i64 ((used : Int) + many))) := (hbel.setCell (p := ⟨w.heap.size, 0, none⟩) (Nat.le_refl _) _).setCell (p := ⟨w.heap.size + 1, 0, none⟩) (by simp) _
      have f4 := f0.cell
      have f5 := f1.cell
      refine bodyPost_ret (v := .tuple #[.slice A' n' c', .int .i64 ((used : Int) + many), .int .i64 0]) (by simp [results, Try.f20, go_sem, f4, f5]) rfl ⟨⟨A', n', c', by simp, f2.drew⟩, f3.trans ⟨rfl, rfl, rfl, Nat.le_refl _, fun _ _ => rfl⟩⟩
    · have hbit : layBits l used code many (used + (many - (k + 1))) = ((code / 2 ^ k % 2 : Nat) : Int) := by
        unfold layBits
        rw [if_neg (by omega), show many - 1 - (used + (many - (k + 1)) - used) = k by omega]
      have hput := fPut1 w.heap.size (layBits l used code many) (layBits_is l used code many) (used + (many - (k + 1))) (by omega) (w.heap.size + 1) w.heap.size (by omega) A' n' c' wr hba hbo hm (by omega) (Nat.le_refl _)
      rw [hbit, show used + (many - (k + 1)) + 1 = used + (many - k) by omega] at hput
      have HP := Lib.hid hput
      have hc2 : (code : Int) / 2 ^ k < 4294967296 := by
        have e1 : code / 2 ^ k ≤ code := Nat.div_le_self _ _
        have e2 : 2 ^ many ≤ 2 ^ 30 := Nat.pow_le_pow_right (by decide) m30
        have e3 : (code : Int) / 2 ^ k = ((code / 2 ^ k : Nat) : Int) := by simp
        rw [e3]
        omega
      have hc0 : 0 ≤ (code : Int) / 2 ^ k := by
        have e3 : (code : Int) / 2 ^ k = ((code / 2 ^ k : Nat) : Int) := by simp
        rw [e3]
        exact Int.natCast_nonneg _
      have hand := and_mask64 ((code : Int) / 2 ^ k) 1 hc0 hc2 (by decide)
      have hand2 : bits .and .i64 ((code : Int) / 2 ^ k) 1 = ((code / 2 ^ k % 2 : Nat) : Int) := by
        have e3 : ((code / 2 ^ k % 2 : Nat) : Int) = (code : Int) / 2 ^ k % 2 := by simp
        rw [e3]
        simpa using hand
      rw [show ((k + 1 : Nat) : Int) - 1 = (k : Int) by omega]
      generalize ((code / 2 ^ k % 2 : Nat) : Int) = bt at *
      clear hand
      go_wp2_with (go_at_call 25; refine HP.out.mono ?_; rintro e w5 ⟨⟨v, rfl⟩, q1, ⟨A5, n5, c5, q2, q3⟩, q4⟩)
      exact ⟨⟨k, by omega, by simp, q1, ⟨A5, n5, c5, q2, q3⟩, hbel.trans q4⟩, by simp [intOf]⟩

theorem layYes (A : Option Addr) (n c : Nat) (l : List Int) (used code many : Nat) (w : World) (h : Byt w A n c l) (hn : n ≤ 90000000) (m30 : many ≤ 30) (hcode : code < 2 ^ many) (u1 : used ≤ 8 * n) (u2 : 8 * n < used + 8) :
    Calls Try.prog 20 #[.slice A n c, .int .i64 used, .int .i64 code, .int .i64 many] w fun e W' =>
      (∃ A' n' c', e = .returned (.tuple #[.slice A' n' c', .int .i64 ((used + many : Nat) : Int), .int .i64 0]) ∧ Mine w.heap.size W' A' n' c' (pk (layBits l used code many) (used + many))) ∧ Below w.heap.size w W' := by
  by_cases hroom : used < 8 * n
  · exact layRoom A n c l used code many w h hn m30 hcode u1 u2 hroom
  · exact layFull A n c l used code many w h hn m30 hcode u1 u2 (by omega)
end Go.Proofs.Ytejogehkehjelaa
