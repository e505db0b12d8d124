/- The contract of Lay's closure. -/
import Derived.Test.YtejogehkehjelaaOk
import Derived.StillTailTactics
namespace Go.Proofs.Ytejogehkehjelaa
open Go.RowKit Go.Shelf
set_option linter.unusedVariables false

theorem shl_bd (x : Int) (h0 : 0 ≤ x) (h1 : x ≤ 1) (r : Nat) : 0 ≤ x * 2 ^ (7 - r) ∧ x * 2 ^ (7 - r) ≤ 128 := by
  have hp : (2 : Int) ^ (7 - r) = ((2 ^ (7 - r) : Nat) : Int) := by simp
  have h2 : 2 ^ (7 - r) ≤ 2 ^ 7 := Nat.pow_le_pow_right (by decide) (by omega)
  rw [hp]
  generalize 2 ^ (7 - r) = P at *
  obtain rfl | rfl : x = 0 ∨ x = 1 := by omega
  all_goals omega
theorem shl_lt (x : Int) (h0 : 0 ≤ x) (h1 : x ≤ 1) (r : Nat) (hr : r < 8) : x * 2 ^ (7 - r) < ((2 ^ (8 - r) : Nat) : Int) := by
  have hp : (2 : Int) ^ (7 - r) = ((2 ^ (7 - r) : Nat) : Int) := by simp
  have h2 : 2 ^ (8 - r) = 2 ^ (7 - r) * 2 := by rw [← Nat.pow_succ]; congr 1; omega
  have h3 : 0 < 2 ^ (7 - r) := Nat.two_pow_pos _
  rw [hp, h2]
  generalize 2 ^ (7 - r) = P at *
  obtain rfl | rfl : x = 0 ∨ x = 1 := by omega
  all_goals omega
theorem or_new {f : Nat → Int} (hf : IsBits f) (all : Nat) (hr : all % 8 ≠ 0) :
    bits .or .u8 (byteP f all (all / 8)) (IntKind.u8.wrap (IntKind.i64.wrap (f all * 2 ^ (7 - all % 8)))) = byteP f (all + 1) (all / 8) := by
  have hs := shl_bd (f all) (hf all).1 (hf all).2 (all % 8)
  have ht := shl_lt (f all) (hf all).1 (hf all).2 (all % 8) (Nat.mod_lt _ (by decide))
  obtain ⟨q, q0, hq⟩ := byteP_low hf all hr
  have hn := byteP_new f all
  have hb := byteP_bd hf (all + 1) (all / 8)
  rw [hn] at hb ⊢
  have e1 : IntKind.i64.wrap (f all * 2 ^ (7 - all % 8)) = f all * 2 ^ (7 - all % 8) := by rw [IntKind.wrap_i64]; omega
  have e2 : IntKind.u8.wrap (f all * 2 ^ (7 - all % 8)) = f all * 2 ^ (7 - all % 8) := by
    generalize f all * 2 ^ (7 - all % 8) = X at *
    simp [IntKind.wrap, IntKind.signed, IntKind.bits]
    omega
  rw [e1, e2, hq] at *
  exact or_low q _ (8 - all % 8) q0 hb.2 hs.1 ht

set_option maxRecDepth 100000 in
set_option maxHeartbeats 4000000 in
theorem putSet (base : Nat) (f : Nat → Int) (hf : IsBits f) (all : Nat) (hall : all ≤ 800000000) (Ba Bo : Nat) (hab : Ba ≠ Bo) (A : Option Addr) (n c : Nat) (W : World) (ha : Boxed W Ba 3 (.int .i64 all)) (ho : Boxed W Bo 22 (.slice A n c))
    (hm : Mine base W A n c (pk f all)) (b1 : base ≤ Ba) (b2 : base ≤ Bo) (hr : all % 8 ≠ 0) :
    Calls Try.prog 25 #[.int .i64 (f all), .pointer (some ⟨Ba, 0, none⟩), .pointer (some ⟨Bo, 0, none⟩)] W fun e W' => (∃ v, e = .returned v) ∧
      Boxed W' Ba 3 (.int .i64 ((all + 1 : Nat) : Int)) ∧ (∃ A' n' c', Boxed W' Bo 22 (.slice A' n' c') ∧ Mine base W' A' n' c' (pk f (all + 1))) ∧ Below base W W' := by
  have hl := hm.len
  rw [pk_len] at hl
  obtain ⟨_, h0, _⟩ | ⟨g, rfl, hb, hg, hnc, hcm, _, _⟩ := hm.cases
  · omega
  have hc1 := hm.cellAt (j := all / 8) (by omega)
  have hf1 := hm.frozenAt (all / 8)
  rw [pk_get f all (by omega)] at hc1
  simp only [Option.getD_some] at hc1
  have hst := pk_set f all hr
  have hnew := byteP_new f all
  have hbd := byteP_bd hf (all + 1) (all / 8)
  have hfa := hf all
  have hca := ha.cell
  have hfa2 := ha.frozen
  have hco := ho.cell
  have g0 : (((all % 8 : Nat) : Int) == 0) = false := beq_eq_false_iff_ne.2 (by omega)
  have a7 := and7 all (by omega)
  go_enter Try.func25, Try.ntmps25
  have w1 : IntKind.i64.wrap ((n : Int) - 1) = ((all / 8 : Nat) : Int) := by rw [IntKind.wrap_i64]; omega
  have w2 : IntKind.i64.wrap (7 - (all : Int) % 8) = ((7 - all % 8 : Nat) : Int) := by rw [IntKind.wrap_i64]; omega
  have x0 : (0 : Int) ≤ (all : Int) / 8 := by omega
  have x1 : (all : Int) / 8 < (n : Int) := by omega
  have x2 : ((all : Int) / 8).toNat = all / 8 := by omega
  go_wp2
  go_still_tail 14, (by kernel_rfl)
  rw [or_new hf all hr]
  change wpList _ _ _ _ _ W.drew
  have p1 : W.drew.cell? ⟨g, all / 8, none⟩ = some (.int .u8 (byteP f all (all / 8))) := hc1
  have p2 : W.drew.frozen? ⟨g, all / 8, none⟩ = false := hf1
  have p3 : Boxed W.drew Ba 3 (.int .i64 all) := ha
  have p4 : Boxed W.drew Bo 22 (.slice (some ⟨g, 0, none⟩) n c) := ho
  have p5 : Mine base W.drew (some ⟨g, 0, none⟩) n c (pk f all) := hm.drew
  have p6 : Below base W W.drew := ⟨rfl, rfl, rfl, Nat.le_refl _, fun _ _ => rfl⟩
  generalize W.drew = W1 at *
  clear hc1 hf1 ha ho hm hca hfa2 hco
  rw [← hnew] at hst
  have hn1 := p5.stored (all / 8) hbd.1 hbd.2
  rw [← hst] at hn1
  clear hnew hst
  generalize byteP f (all + 1) (all / 8) = y at *
  have hne1 : g ≠ Ba := fun e => by
    have := p3.not_row (by decide) p5.1
    exact this (by rw [e]; rfl)
  have hne2 : g ≠ Bo := fun e => by
    have := p4.not_row (by decide) p5.1
    exact this (by rw [e]; rfl)
  have p7 : Boxed (W1.setCell ⟨g, all / 8, none⟩ (.int .u8 y)) Ba 3 (.int .i64 all) := (Below.heap_setCell W1 ⟨g, all / 8, none⟩ _ Ba (Ne.symm hne1)).trans p3
  have p8 : Boxed (W1.setCell ⟨g, all / 8, none⟩ (.int .u8 y)) Bo 22 (.slice (some ⟨g, 0, none⟩) n c) := (Below.heap_setCell W1 ⟨g, all / 8, none⟩ _ Bo (Ne.symm hne2)).trans p4
  have q1 := p7.cell
  have q2 := p7.frozen
  go_wp2
  go_end0
  refine ⟨⟨_, rfl⟩, ?_, ⟨_, _, _, p8.other (by omega) _, hn1.box p7 (by decide) _⟩, (p6.setCell (p := ⟨g, all / 8, none⟩) hb _).setCell (p := ⟨Ba, 0, none⟩) b1 _⟩
  have := p7.set (.int .i64 ((all : Int) + 1))
  simpa using this

set_option maxRecDepth 100000 in
set_option maxHeartbeats 4000000 in
theorem putApp (base : Nat) (f : Nat → Int) (hf : IsBits f) (all : Nat) (hall : all ≤ 800000000) (Ba Bo : Nat) (hab : Ba ≠ Bo) (A : Option Addr) (n c : Nat) (W : World) (ha : Boxed W Ba 3 (.int .i64 all)) (ho : Boxed W Bo 22 (.slice A n c))
    (hm : Mine base W A n c (pk f all)) (b1 : base ≤ Ba) (b2 : base ≤ Bo) (hr : all % 8 = 0) :
    Calls Try.prog 25 #[.int .i64 (f all), .pointer (some ⟨Ba, 0, none⟩), .pointer (some ⟨Bo, 0, none⟩)] W fun e W' => (∃ v, e = .returned v) ∧
      Boxed W' Ba 3 (.int .i64 ((all + 1 : Nat) : Int)) ∧ (∃ A' n' c', Boxed W' Bo 22 (.slice A' n' c') ∧ Mine base W' A' n' c' (pk f (all + 1))) ∧ Below base W W' := by
  have hl := hm.len
  rw [pk_len] at hl
  have hst := pk_app f all hr
  have hfa := hf all
  have hca := ha.cell
  have hco := ho.cell
  have hfo := ho.frozen
  have hlt := ha.lt
  have g0 : (all : Int) % 8 = 0 := by omega
  have a7 := and7 all (by omega)
  have Ha := Lib.hid ha
  have Ho := Lib.hid ho
  clear ha ho
  go_enter Try.func25, Try.ntmps25
  go_wp2_with (at_builtin; refine wpList_app1 W rfl (.tmp 7) (.tmp 8) rfl base A n c (pk f all) rfl hm 0 rfl rfl (by omega) (by omega) (by omega) ?_; intro A2 c2 w2 hm2 hb2 hg2; have k1 := (Ha.out.alloc _).kept hg2 (Ha.out.not_row (by decide) hm.1); have k2 := (Ho.out.alloc _).kept hg2 (Ho.out.not_row (by decide) hm.1); have k3 := k2.cell; have k4 := k2.frozen)
  obtain ⟨_, h0, _⟩ | ⟨g, rfl, hb, hg, hnc, hcm, _, _⟩ := hm2.cases
  · omega
  have r3 := k1.other (B' := Bo) hab (.slice (some ⟨g, 0, none⟩) (n + 1) c2)
  have r4 := k2.set (.slice (some ⟨g, 0, none⟩) (n + 1) c2)
  have r5 := hm2.box k2 (by decide) (.slice (some ⟨g, 0, none⟩) (n + 1) c2)
  have r6 : Below base W (w2.setCell ⟨Bo, 0, none⟩ (.slice (some ⟨g, 0, none⟩) (n + 1) c2)) := hb2.setCell (p := ⟨Bo, 0, none⟩) b2 _
  generalize w2.setCell ⟨Bo, 0, none⟩ (.slice (some ⟨g, 0, none⟩) (n + 1) c2) = w3 at *
  have hln : (pk f all).length = n := by rw [pk_len]; exact hl
  have p1 := r5.cellAt (j := n) (by omega)
  have p2 := r5.frozenAt n
  rw [List.getElem?_append_right (by omega), hln, Nat.sub_self] at p1
  simp only [List.getElem?_cons_zero, Option.getD_some] at p1
  have hn1 := r5.stored n (y := f all * 128) (by omega) (by omega)
  rw [List.set_append_right _ _ (by omega), hln, Nat.sub_self, List.set_cons_zero, ← hst] at hn1
  have c3 := r3.cell
  have c4 := r4.cell
  have w1 : IntKind.i64.wrap ((n : Int) + 1 - 1) = (n : Int) := by rw [IntKind.wrap_i64]; omega
  have w1' : IntKind.i64.wrap (n : Int) = (n : Int) := by rw [IntKind.wrap_i64]; omega
  have w7 : IntKind.i64.wrap 7 = 7 := by rw [IntKind.wrap_i64]; omega
  have w2' : IntKind.i64.wrap (f all * 128) = f all * 128 := by rw [IntKind.wrap_i64]; omega
  have w3' : IntKind.u8.wrap (f all * 128) = f all * 128 := by
    generalize f all = X at *
    simp [IntKind.wrap, IntKind.signed, IntKind.bits]
    omega
  have w4' : bits .or .u8 0 (f all * 128) = f all * 128 := by
    have := or_low 0 (f all * 128) 8 (by decide) (by simp; omega) (by omega) (by simp; omega)
    simpa using this
  have x1 : (n : Int) < (n : Int) + 1 := by omega
  clear hca hco hfo
  go_still_tail 14, (by kernel_rfl)
  change wpList _ _ _ _ _ w3.drew
  have t1 : w3.drew.cell? ⟨g, n, none⟩ = some (.int .u8 0) := p1
  have t2 : w3.drew.frozen? ⟨g, n, none⟩ = false := p2
  have t3 : Boxed w3.drew Ba 3 (.int .i64 all) := r3
  have t4 : Boxed w3.drew Bo 22 (.slice (some ⟨g, 0, none⟩) (n + 1) c2) := r4
  have t5 : Mine base (w3.drew.setCell ⟨g, n, none⟩ (.int .u8 (f all * 128))) (some ⟨g, 0, none⟩) (n + 1) c2 (pk f (all + 1)) := hn1
  have t6 : Below base W w3.drew := r6.trans ⟨rfl, rfl, rfl, Nat.le_refl _, fun _ _ => rfl⟩
  have t7 : Mine base w3.drew (some ⟨g, 0, none⟩) (n + 1) c2 (pk f all ++ [0]) := r5
  generalize w3.drew = W1 at *
  clear p1 p2 r3 r4 r5 r6 hn1 c3 c4 hst
  have hne1 : g ≠ Ba := fun e => t3.not_row (by decide) t7.1 (by rw [e]; rfl)
  have hne2 : g ≠ Bo := fun e => t4.not_row (by decide) t7.1 (by rw [e]; rfl)
  have p7 : Boxed (W1.setCell ⟨g, n, none⟩ (.int .u8 (f all * 128))) Ba 3 (.int .i64 all) := (Below.heap_setCell W1 ⟨g, n, none⟩ _ Ba (Ne.symm hne1)).trans t3
  have p8 : Boxed (W1.setCell ⟨g, n, none⟩ (.int .u8 (f all * 128))) Bo 22 (.slice (some ⟨g, 0, none⟩) (n + 1) c2) := (Below.heap_setCell W1 ⟨g, n, none⟩ _ Bo (Ne.symm hne2)).trans t4
  have q1 := p7.cell
  have q2 := p7.frozen
  go_wp2
  go_end0
  refine ⟨⟨_, rfl⟩, ?_, ⟨_, _, _, p8.other (by omega) _, t5.box p7 (by decide) _⟩, (t6.setCell (p := ⟨g, n, none⟩) hb _).setCell (p := ⟨Ba, 0, none⟩) b1 _⟩
  have := p7.set (.int .i64 ((all : Int) + 1))
  simpa using this

theorem fPut1 (base : Nat) (f : Nat → Int) (hf : IsBits f) (all : Nat) (hall : all ≤ 800000000) (Ba Bo : Nat) (hab : Ba ≠ Bo) (A : Option Addr) (n c : Nat) (W : World) (ha : Boxed W Ba 3 (.int .i64 all)) (ho : Boxed W Bo 22 (.slice A n c))
    (hm : Mine base W A n c (pk f all)) (b1 : base ≤ Ba) (b2 : base ≤ Bo) :
    Calls Try.prog 25 #[.int .i64 (f all), .pointer (some ⟨Ba, 0, none⟩), .pointer (some ⟨Bo, 0, none⟩)] W fun e W' => (∃ v, e = .returned v) ∧
      Boxed W' Ba 3 (.int .i64 ((all + 1 : Nat) : Int)) ∧ (∃ A' n' c', Boxed W' Bo 22 (.slice A' n' c') ∧ Mine base W' A' n' c' (pk f (all + 1))) ∧ Below base W W' := by
  by_cases hr : all % 8 = 0
  · exact putApp base f hf all hall Ba Bo hab A n c W ha ho hm b1 b2 hr
  · exact putSet base f hf all hall Ba Bo hab A n c W ha ho hm b1 b2 hr
end Go.Proofs.Ytejogehkehjelaa
