/- Padding: the contracts. -/
import Derived.Test.YtlomaoabofpegaaCu
import Derived.Test.YtlomaoabofpegaaA
import Derived.Test.YtlomaoabofpegaaS
import Derived.Test.YtlomaoabofpegaaZs
namespace Go.Proofs.Ytlomaoabofpegaa
open Go.RowKit Go.Shelf
set_option linter.unusedVariables false
attribute [local go_sem ↓ high] run_cut_lh run_cut_h run_cut_l

def padB (m : Int) : Bool := decide (0 ≤ m ∧ m ≤ 255)
def padL (l : List Int) (m : Int) : List Int := if padB m then m :: l ++ List.replicate m.toNat 0 else []
def padE (m : Int) : Int := if padB m then 0 else 2
def BytP (l : List Int) (x : Int) (w : World) (e : Ending) (W' : World) : Prop := ∃ A n c, e = .returned (.tuple #[.slice A n c, .int .i64 x]) ∧ Mine w.heap.size W' A n c l ∧ Below w.heap.size w W'

set_option maxHeartbeats 800000 in
theorem fPadNo (A : Option Addr) (n c : Nat) (m : Int) (w : World) (m0 : -9223372036854775808 ≤ m) (m1 : m ≤ 9223372036854775807) (no : ¬(0 ≤ m ∧ m ≤ 255)) :
    Calls Try.prog 8 #[.slice A n c, .int .i64 m] w (BytP [] 2 w) := by
  have hne : (m != IntKind.u8.wrap m) = true := by
    rw [bne_iff_ne]
    simp [IntKind.wrap, IntKind.signed, IntKind.bits]
    omega
  go_enter Try.func8, Try.ntmps8
  go_wp2
  go_ret2
  exact ⟨none, 0, 0, rfl, Mine.nil _ _, Below.refl _ _⟩

set_option maxHeartbeats 1600000 in
theorem fPadYes (A : Option Addr) (n c : Nat) (l : List Int) (k : Nat) (w : World) (h : Byt w A n c l) (hn : n ≤ 100000) (hk : k ≤ 255) :
    Calls Try.prog 8 #[.slice A n c, .int .i64 k] w (BytP ((k : Int) :: l ++ List.replicate k 0) 0 w) := by
  obtain ⟨N, hN⟩ : ∃ N, N = 1 + n + k := ⟨_, rfl⟩
  obtain ⟨W1, hmk, hm1, hb1⟩ : ∃ W1, (Instr.makeSlice 22 (.int .i64 (1 + (n : Int) + (k : Int))) (.int .i64 (1 + (n : Int) + (k : Int)))).run Try.prog w = .ok (.slice (some ⟨w.heap.size, 0, none⟩) N N) W1 ∧
      Mine w.heap.size W1 (some ⟨w.heap.size, 0, none⟩) N N (List.replicate N 0) ∧ Below w.heap.size w W1 := by
    refine ⟨_, ?_, Mine.make w N (Nat.le_refl _) (by omega), (Below.refl _ _).alloc (Nat.le_refl _) _⟩
    have := make8 N (by omega) w
    rwa [show ((N : Nat) : Int) = 1 + (n : Int) + (k : Int) by omega] at this
  have hl := h.len
  have k0 : (0 : Int) ≤ (k : Int) := by omega
  have k1 : (k : Int) ≤ 255 := by omega
  have n0 : 0 < N := by omega
  have n1 : (1 : Int) ≤ (N : Int) := by omega
  have hc1 := hm1.cellAt (j := 0) n0
  have hf1 := hm1.frozenAt 0
  have h2 := hm1.stored 0 k0 k1
  have y2 := h.far0 (p := ⟨w.heap.size, 0, none⟩) (Nat.le_refl _) hb1 (.int .u8 k)
  have b2 := hb1.setCell (p := ⟨w.heap.size, 0, none⟩) (Nat.le_refl _) (.int .u8 k)
  have hL : ((List.replicate N (0 : Int)).set 0 k).take 1 ++ l ++ ((List.replicate N (0 : Int)).set 0 k).drop (1 + n) = (k : Int) :: l ++ List.replicate k 0 := by
    obtain ⟨M, rfl⟩ : ∃ M, N = M + 1 := ⟨N - 1, by omega⟩
    rw [List.replicate_succ, List.set_cons_zero, List.take_succ_cons, List.take_zero, Nat.add_comm 1 n, List.drop_succ_cons, List.drop_replicate]
    rw [show M - n = k by omega]
    rfl
  have HL := Lib.hid hL
  have HN := Lib.hid hN
  clear h hl hm1 hL hN
  go_enter Try.func8, Try.ntmps8
  go_wp2_with (with_reducible refine wpList_fill _ rfl (.tmp 22) (.tmp 23) rfl w.heap.size w.heap.size N 1 _ h2 rfl A n c l rfl y2 (by have := HN.out; omega) (Nat.le_refl _) ?_; intro w3 hm3 hb3)
  go_ret2
  rw [HL.out] at hm3
  exact ⟨_, _, _, rfl, hm3, b2.trans hb3⟩

set_option maxHeartbeats 800000 in
theorem rPadNo (A : Option Addr) (n c : Nat) (m : Int) (w : World) (no : ¬(0 ≤ m ∧ m ≤ 255)) :
    Calls Try.prog 9 #[.slice A n c, .int .i64 m] w (BytP [] 2 w) := by
  by_cases h0 : m < 0
  · have e0 : decide (m < 0) = true := decide_eq_true h0
    clear no h0
    go_enter Try.func9, Try.ntmps9
    go_wp2
    go_ret2
    exact ⟨none, 0, 0, rfl, Mine.nil _ _, Below.refl _ _⟩
  · have e0 : decide (m < 0) = false := decide_eq_false h0
    have e1 : decide (255 < m) = true := decide_eq_true (by omega)
    clear no h0
    go_enter Try.func9, Try.ntmps9
    go_wp2
    go_ret2
    exact ⟨none, 0, 0, rfl, Mine.nil _ _, Below.refl _ _⟩

set_option maxHeartbeats 1600000 in
theorem rPadYes (A : Option Addr) (n c : Nat) (l : List Int) (k : Nat) (w : World) (h : Byt w A n c l) (hn : n ≤ 100000) (hk : k ≤ 255) :
    Calls Try.prog 9 #[.slice A n c, .int .i64 k] w (BytP ((k : Int) :: l ++ List.replicate k 0) 0 w) := by
  have hl := h.len
  have e0 : decide ((k : Int) < 0) = false := decide_eq_false (by omega)
  have e1 : decide ((255 : Int) < (k : Int)) = false := decide_eq_false (by omega)
  have k0 : (0 : Int) ≤ (k : Int) := by omega
  have k1 : (k : Int) ≤ 255 := by omega
  have H := Lib.hid h
  have HL := Lib.hid hl
  have HM : Hid (Mine w.heap.size (w.alloc (.cells #[.int .u8 (k : Int)] 5)) (some ⟨w.heap.size, 0, none⟩) 1 1 [(k : Int)]) := Lib.hid (Mine.lit w [(k : Int)] (Nat.le_refl _) (Bs.one k0 k1) (by simp) 1 rfl)
  have HB : Hid (Below w.heap.size w (w.alloc (.cells #[.int .u8 (k : Int)] 5))) := Lib.hid ((Below.refl _ _).alloc (Nat.le_refl _) _)
  clear h hl
  go_enter Try.func9, Try.ntmps9
  go_wp2_with (first
    | (with_reducible refine wpList_app _ rfl (.tmp 15) (.tmp 16) rfl w.heap.size _ 1 1 [(k : Int)] rfl HM.out A n c l rfl (H.out.alloc _) (by have := HL.out; simp; omega) (by simp) ?_; intro A1 c1 w1 hm1 hb1 _ _)
    | (with_reducible refine wpList_appZ _ rfl (.tmp 18) (.tmp 19) rfl w.heap.size A1 (1 + n) c1 _ rfl hm1 k rfl (by omega) (Nat.le_trans (by simp) hb1.size) ?_; intro A2 c2 w2 hm2 hb2))
  go_ret2
  exact ⟨_, _, _, rfl, by simpa using hm2, (HB.out.trans hb1).trans hb2⟩

theorem fPad (A : Option Addr) (n c : Nat) (l : List Int) (m : Int) (w : World) (h : Byt w A n c l) (hn : n ≤ 100000) (m0 : -9223372036854775808 ≤ m) (m1 : m ≤ 9223372036854775807) :
    Calls Try.prog 8 #[.slice A n c, .int .i64 m] w (BytP (padL l m) (padE m) w) := by
  unfold padL padE padB
  by_cases ok : 0 ≤ m ∧ m ≤ 255
  · rw [decide_eq_true ok]
    obtain ⟨k, rfl⟩ := toNat_lit ok.1
    exact fPadYes A n c l k w h hn (by omega)
  · rw [decide_eq_false ok]
    exact fPadNo A n c m w m0 m1 ok
theorem rPad (A : Option Addr) (n c : Nat) (l : List Int) (m : Int) (w : World) (h : Byt w A n c l) (hn : n ≤ 100000) :
    Calls Try.prog 9 #[.slice A n c, .int .i64 m] w (BytP (padL l m) (padE m) w) := by
  unfold padL padE padB
  by_cases ok : 0 ≤ m ∧ m ≤ 255
  · rw [decide_eq_true ok]
    obtain ⟨k, rfl⟩ := toNat_lit ok.1
    exact rPadYes A n c l k w h hn (by omega)
  · rw [decide_eq_false ok]
    exact rPadNo A n c m w ok
end Go.Proofs.Ytlomaoabofpegaa
