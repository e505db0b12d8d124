/- The contract of octet.Lay, for all arguments. -/
import Derived.Test.YtejogehkehjelaaOn
namespace Go.Proofs.Ytejogehkehjelaa
open Go.RowKit Go.Shelf
set_option linter.unusedVariables false

def LayPost (w : World) (l : List Int) (used code many : Int) (e : Ending) (W' : World) : Prop :=
  (∃ A' n' c', e = .returned (.tuple #[.slice A' n' c', .int .i64 (layN l used code many), .int .i64 (layE l used code many)]) ∧ Mine w.heap.size W' A' n' c' (layO l used code many)) ∧ Below w.heap.size w W'

def NoPost (w : World) (e : Ending) (W' : World) : Prop :=
  e = .returned (.tuple #[.slice none 0 0, .int .i64 0, .int .i64 2]) ∧ Below w.heap.size w W'

set_option maxRecDepth 100000 in
set_option maxHeartbeats 4000000 in
theorem layNo1 (A : Option Addr) (n c : Nat) (used code many : Int) (w : World) (hn : n ≤ 90000000) (h : many < 0) :
    Calls Try.prog 20 #[.slice A n c, .int .i64 used, .int .i64 code, .int .i64 many] w (NoPost w) := by
  have b0 := (Boxed.new w 22 (.slice none 0 0)).alloc (.cells #[.int .i64 0] 3)
  have b1 := Boxed.new (w.alloc (.cells #[.slice none 0 0] 22)) 3 (.int .i64 0)
  rw [World.size_alloc] at b1
  have r3 : Below w.heap.size w ((w.alloc (.cells #[.slice none 0 0] 22)).alloc (.cells #[.int .i64 0] 3)) := ((Below.refl w.heap.size w).alloc (Nat.le_refl _) _).alloc (by simp) _
  have f4 := b0.cell
  have f5 := b1.cell
  go_enter Try.func20, Try.ntmps20
  go_wp2_with fail
  refine wp_scope_hop 1 ?_
  go_wp2_with (first | (refine wp_goto ?_; refine hop_goto rfl ?_) | (refine wp_label ?_) | (refine hop_ret ?_))
  exact bodyPost_ret (v := .tuple #[.slice none 0 0, .int .i64 0, .int .i64 2]) (by simp [results, Try.f20, go_sem, f4, f5]) rfl ⟨rfl, r3⟩

set_option maxRecDepth 100000 in
set_option maxHeartbeats 4000000 in
theorem layNo2 (A : Option Addr) (n c : Nat) (used code many : Int) (w : World) (hn : n ≤ 90000000) (h0 : 0 ≤ many) (h : 30 < many) :
    Calls Try.prog 20 #[.slice A n c, .int .i64 used, .int .i64 code, .int .i64 many] w (NoPost w) := by
  have g1 : decide (many < 0) = false := decide_eq_false (by omega)
  have b0 := (Boxed.new w 22 (.slice none 0 0)).alloc (.cells #[.int .i64 0] 3)
  have b1 := Boxed.new (w.alloc (.cells #[.slice none 0 0] 22)) 3 (.int .i64 0)
  rw [World.size_alloc] at b1
  have r3 : Below w.heap.size w ((w.alloc (.cells #[.slice none 0 0] 22)).alloc (.cells #[.int .i64 0] 3)) := ((Below.refl w.heap.size w).alloc (Nat.le_refl _) _).alloc (by simp) _
  have f4 := b0.cell
  have f5 := b1.cell
  go_enter Try.func20, Try.ntmps20
  go_wp2_with fail
  refine wp_scope_hop 1 ?_
  go_wp2_with (first | (refine wp_goto ?_; refine hop_goto rfl ?_) | (refine wp_label ?_) | (refine hop_ret ?_))
  exact bodyPost_ret (v := .tuple #[.slice none 0 0, .int .i64 0, .int .i64 2]) (by simp [results, Try.f20, go_sem, f4, f5]) rfl ⟨rfl, r3⟩

set_option maxRecDepth 100000 in
set_option maxHeartbeats 4000000 in
theorem layNo3 (A : Option Addr) (n c : Nat) (used code many : Int) (w : World) (hn : n ≤ 90000000) (h0 : 0 ≤ many) (h1 : many ≤ 30) (h : code < 0) :
    Calls Try.prog 20 #[.slice A n c, .int .i64 used, .int .i64 code, .int .i64 many] w (NoPost w) := by
  have g1 : decide (many < 0) = false := decide_eq_false (by omega)
  have g2 : decide (30 < many) = false := decide_eq_false (by omega)
  have b0 := (Boxed.new w 22 (.slice none 0 0)).alloc (.cells #[.int .i64 0] 3)
  have b1 := Boxed.new (w.alloc (.cells #[.slice none 0 0] 22)) 3 (.int .i64 0)
  rw [World.size_alloc] at b1
  have r3 : Below w.heap.size w ((w.alloc (.cells #[.slice none 0 0] 22)).alloc (.cells #[.int .i64 0] 3)) := ((Below.refl w.heap.size w).alloc (Nat.le_refl _) _).alloc (by simp) _
  have f4 := b0.cell
  have f5 := b1.cell
  go_enter Try.func20, Try.ntmps20
  go_wp2_with fail
  refine wp_scope_hop 1 ?_
  go_wp2_with (first | (refine wp_goto ?_; refine hop_goto rfl ?_) | (refine wp_label ?_) | (refine hop_ret ?_))
  exact bodyPost_ret (v := .tuple #[.slice none 0 0, .int .i64 0, .int .i64 2]) (by simp [results, Try.f20, go_sem, f4, f5]) rfl ⟨rfl, r3⟩

set_option maxRecDepth 100000 in
set_option maxHeartbeats 4000000 in
theorem layNo4 (A : Option Addr) (n c : Nat) (used : Int) (code many : Nat) (w : World) (hn : n ≤ 90000000) (h1 : many ≤ 30) (h : 2 ^ many ≤ code) :
    Calls Try.prog 20 #[.slice A n c, .int .i64 used, .int .i64 code, .int .i64 many] w (NoPost w) := by
  have g1 : decide ((many : Int) < 0) = false := decide_eq_false (by omega)
  have g2 : decide (30 < (many : Int)) = false := decide_eq_false (by omega)
  have g3 : decide ((code : Int) < 0) = false := decide_eq_false (by omega)
  have g4 : ((code : Int) / 2 ^ many != 0) = true := by
    rw [bne_iff_ne]
    have : 0 < code / 2 ^ many := Nat.div_pos h (Nat.two_pow_pos _)
    have e : ((code : Int) / 2 ^ many) = ((code / 2 ^ many : Nat) : Int) := by simp
    rw [e]
    omega
  have b0 := (Boxed.new w 22 (.slice none 0 0)).alloc (.cells #[.int .i64 0] 3)
  have b1 := Boxed.new (w.alloc (.cells #[.slice none 0 0] 22)) 3 (.int .i64 0)
  rw [World.size_alloc] at b1
  have r3 : Below w.heap.size w ((w.alloc (.cells #[.slice none 0 0] 22)).alloc (.cells #[.int .i64 0] 3)) := ((Below.refl w.heap.size w).alloc (Nat.le_refl _) _).alloc (by simp) _
  have f4 := b0.cell
  have f5 := b1.cell
  go_enter Try.func20, Try.ntmps20
  go_wp2_with fail
  refine wp_scope_hop 1 ?_
  go_wp2_with (first | (refine wp_goto ?_; refine hop_goto rfl ?_) | (refine wp_label ?_) | (refine hop_ret ?_))
  exact bodyPost_ret (v := .tuple #[.slice none 0 0, .int .i64 0, .int .i64 2]) (by simp [results, Try.f20, go_sem, f4, f5]) rfl ⟨rfl, r3⟩

set_option maxRecDepth 100000 in
set_option maxHeartbeats 4000000 in
theorem layNo5 (A : Option Addr) (n c : Nat) (used : Int) (code many : Nat) (w : World) (hn : n ≤ 90000000) (h1 : many ≤ 30) (h2 : code < 2 ^ many) (h : used < 0) :
    Calls Try.prog 20 #[.slice A n c, .int .i64 used, .int .i64 code, .int .i64 many] w (NoPost w) := by
  have g1 : decide ((many : Int) < 0) = false := decide_eq_false (by omega)
  have g2 : decide (30 < (many : Int)) = false := decide_eq_false (by omega)
  have g3 : decide ((code : Int) < 0) = false := decide_eq_false (by omega)
  have g4 : ((code : Int) / 2 ^ many != 0) = false := by
    rw [bne_eq_false_iff_eq]
    have : code / 2 ^ many = 0 := Nat.div_eq_of_lt h2
    exact_mod_cast this
  have b0 := (Boxed.new w 22 (.slice none 0 0)).alloc (.cells #[.int .i64 0] 3)
  have b1 := Boxed.new (w.alloc (.cells #[.slice none 0 0] 22)) 3 (.int .i64 0)
  rw [World.size_alloc] at b1
  have r3 : Below w.heap.size w ((w.alloc (.cells #[.slice none 0 0] 22)).alloc (.cells #[.int .i64 0] 3)) := ((Below.refl w.heap.size w).alloc (Nat.le_refl _) _).alloc (by simp) _
  have f4 := b0.cell
  have f5 := b1.cell
  go_enter Try.func20, Try.ntmps20
  go_wp2_with fail
  refine wp_scope_hop 1 ?_
  go_wp2_with (first | (refine wp_goto ?_; refine hop_goto rfl ?_) | (refine wp_label ?_) | (refine hop_ret ?_))
  exact bodyPost_ret (v := .tuple #[.slice none 0 0, .int .i64 0, .int .i64 2]) (by simp [results, Try.f20, go_sem, f4, f5]) rfl ⟨rfl, r3⟩

set_option maxRecDepth 100000 in
set_option maxHeartbeats 4000000 in
theorem layNo6 (A : Option Addr) (n c : Nat) (used : Int) (code many : Nat) (w : World) (hn : n ≤ 90000000) (h1 : many ≤ 30) (h2 : code < 2 ^ many) (h3 : 0 ≤ used) (h4 : used ≤ 9223372036854775807) (h : 8 * (n : Int) < used) :
    Calls Try.prog 20 #[.slice A n c, .int .i64 used, .int .i64 code, .int .i64 many] w (NoPost w) := by
  have g1 : decide ((many : Int) < 0) = false := decide_eq_false (by omega)
  have g2 : decide (30 < (many : Int)) = false := decide_eq_false (by omega)
  have g3 : decide ((code : Int) < 0) = false := decide_eq_false (by omega)
  have g4 : ((code : Int) / 2 ^ many != 0) = false := by
    rw [bne_eq_false_iff_eq]
    have : code / 2 ^ many = 0 := Nat.div_eq_of_lt h2
    exact_mod_cast this
  have g5 : decide (used < 0) = false := decide_eq_false (by omega)
  have g6 : 8 * (n : Int) - used < 0 := by omega
  have b0 := (Boxed.new w 22 (.slice none 0 0)).alloc (.cells #[.int .i64 0] 3)
  have b1 := Boxed.new (w.alloc (.cells #[.slice none 0 0] 22)) 3 (.int .i64 0)
  rw [World.size_alloc] at b1
  have r3 : Below w.heap.size w ((w.alloc (.cells #[.slice none 0 0] 22)).alloc (.cells #[.int .i64 0] 3)) := ((Below.refl w.heap.size w).alloc (Nat.le_refl _) _).alloc (by simp) _
  have f4 := b0.cell
  have f5 := b1.cell
  go_enter Try.func20, Try.ntmps20
  go_wp2_with fail
  refine wp_scope_hop 1 ?_
  go_wp2_with (first | (refine wp_goto ?_; refine hop_goto rfl ?_) | (refine wp_label ?_) | (refine hop_ret ?_))
  exact bodyPost_ret (v := .tuple #[.slice none 0 0, .int .i64 0, .int .i64 2]) (by simp [results, Try.f20, go_sem, f4, f5]) rfl ⟨rfl, r3⟩

set_option maxRecDepth 100000 in
set_option maxHeartbeats 4000000 in
theorem layNo7 (A : Option Addr) (n c : Nat) (used : Int) (code many : Nat) (w : World) (hn : n ≤ 90000000) (h1 : many ≤ 30) (h2 : code < 2 ^ many) (h3 : 0 ≤ used) (h4 : used ≤ 8 * (n : Int)) (h : 7 < 8 * (n : Int) - used) :
    Calls Try.prog 20 #[.slice A n c, .int .i64 used, .int .i64 code, .int .i64 many] w (NoPost w) := by
  have g1 : decide ((many : Int) < 0) = false := decide_eq_false (by omega)
  have g2 : decide (30 < (many : Int)) = false := decide_eq_false (by omega)
  have g3 : decide ((code : Int) < 0) = false := decide_eq_false (by omega)
  have g4 : ((code : Int) / 2 ^ many != 0) = false := by
    rw [bne_eq_false_iff_eq]
    have : code / 2 ^ many = 0 := Nat.div_eq_of_lt h2
    exact_mod_cast this
  have g5 : decide (used < 0) = false := decide_eq_false (by omega)
  have g6 : decide (8 * (n : Int) < used) = false := decide_eq_false (by omega)
  have g6' : decide (8 * (n : Int) - used < 0) = false := decide_eq_false (by omega)
  have b0 := (Boxed.new w 22 (.slice none 0 0)).alloc (.cells #[.int .i64 0] 3)
  have b1 := Boxed.new (w.alloc (.cells #[.slice none 0 0] 22)) 3 (.int .i64 0)
  rw [World.size_alloc] at b1
  have r3 : Below w.heap.size w ((w.alloc (.cells #[.slice none 0 0] 22)).alloc (.cells #[.int .i64 0] 3)) := ((Below.refl w.heap.size w).alloc (Nat.le_refl _) _).alloc (by simp) _
  have f4 := b0.cell
  have f5 := b1.cell
  go_enter Try.func20, Try.ntmps20
  go_wp2_with fail
  refine wp_scope_hop 1 ?_
  go_wp2_with (first | (refine wp_goto ?_; refine hop_goto rfl ?_) | (refine wp_label ?_) | (refine hop_ret ?_))
  exact bodyPost_ret (v := .tuple #[.slice none 0 0, .int .i64 0, .int .i64 2]) (by simp [results, Try.f20, go_sem, f4, f5]) rfl ⟨rfl, r3⟩

theorem layNo (A : Option Addr) (n c : Nat) (used code many : Int) (w : World) (hn : n ≤ 90000000) (u1 : used ≤ 9223372036854775807) (h : ¬(0 ≤ many ∧ many ≤ 30 ∧ 0 ≤ code ∧ code < ((2 ^ many.toNat : Nat) : Int) ∧ 0 ≤ used ∧ used ≤ 8 * (n : Int) ∧ 8 * (n : Int) - used ≤ 7)) :
    Calls Try.prog 20 #[.slice A n c, .int .i64 used, .int .i64 code, .int .i64 many] w (NoPost w) := by
  by_cases h1 : many < 0
  · exact layNo1 A n c used code many w hn h1
  by_cases h2 : 30 < many
  · exact layNo2 A n c used code many w hn (by omega) h2
  by_cases h3 : code < 0
  · exact layNo3 A n c used code many w hn (by omega) (by omega) h3
  obtain ⟨m, rfl⟩ := toNat_lit (show 0 ≤ many by omega)
  obtain ⟨k, rfl⟩ := toNat_lit (show 0 ≤ code by omega)
  simp only [Int.toNat_natCast] at h
  by_cases h4 : 2 ^ m ≤ k
  · exact layNo4 A n c used k m w hn (by omega) h4
  by_cases h5 : used < 0
  · exact layNo5 A n c used k m w hn (by omega) (by omega) h5
  by_cases h6 : 8 * (n : Int) < used
  · exact layNo6 A n c used k m w hn (by omega) (by omega) (by omega) u1 h6
  exact layNo7 A n c used k m w hn (by omega) (by omega) (by omega) (by omega) (by omega)

theorem fOLay (A : Option Addr) (n c : Nat) (l : List Int) (used code many : Int) (w : World) (h : Byt w A n c l) (hn : n ≤ 90000000) (u1 : used ≤ 9223372036854775807) :
    Calls Try.prog 20 #[.slice A n c, .int .i64 used, .int .i64 code, .int .i64 many] w (LayPost w l used code many) := by
  have hl := h.len
  unfold LayPost layO layN layE
  cases ok : okLay l used code many
  · have no := of_decide_eq_false ok
    rw [hl] at no
    refine (layNo A n c used code many w hn u1 no).mono ?_
    rintro e W' ⟨rfl, hb⟩
    exact ⟨⟨none, 0, 0, rfl, Mine.nil _ _⟩, hb⟩
  · have yes := of_decide_eq_true ok
    rw [hl] at yes
    obtain ⟨m, rfl⟩ := toNat_lit yes.1
    obtain ⟨k, rfl⟩ := toNat_lit yes.2.2.1
    obtain ⟨u, rfl⟩ := toNat_lit yes.2.2.2.2.1
    simp only [Int.toNat_natCast] at yes ⊢
    refine (layYes A n c l u k m w h hn (by omega) (by omega) (by omega) (by omega)).mono ?_
    rintro e W' ⟨⟨A', n', c', rfl, hm⟩, hb⟩
    exact ⟨⟨A', n', c', by simp, by simpa using hm⟩, hb⟩
end Go.Proofs.Ytejogehkehjelaa
