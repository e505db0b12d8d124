/- Padding taken away: the contracts. -/
import Derived.Test.YtlomaoabofpegaaFa
namespace Go.Proofs.Ytlomaoabofpegaa
open Go.RowKit Go.Shelf
set_option linter.unusedVariables false
attribute [local go_sem ↓ high] run_cutI_lh run_cutI_h run_cutI_l

def unB (l : List Int) : Int := l[0]?.getD 0
def unE (l : List Int) : Int := if l.length = 0 then 10 else if (l.length : Int) < 1 + unB l then 11 else 0
def unO (l : List Int) : List Int := if unE l = 0 then (l.take (l.length - (unB l).toNat)).drop 1 else []
def unN (l : List Int) : Int := if unE l = 0 then 1 + unB l else 0
def UnP (o : List Int) (m x : Int) (w : World) (e : Ending) (W' : World) : Prop := ∃ A n c, e = .returned (.tuple #[.slice A n c, .int .i64 m, .int .i64 x]) ∧ Mine w.heap.size W' A n c o ∧ Below w.heap.size w W'

theorem fUnNil (A : Option Addr) (c : Nat) (w : World) : Calls Try.prog 10 #[.slice A 0 c] w (UnP [] 0 10 w) := by
  go_enter Try.func10, Try.ntmps10
  go_wp2
  refine wp_scope_hop 1 ?_
  go_wp2_with (first | (refine wp_goto ?_; refine hop_goto rfl ?_) | (refine wp_label ?_) | (refine hop_ret ?_))
  go_ret3
  exact ⟨none, 0, 0, rfl, Mine.nil _ _, Below.refl _ _⟩

set_option maxHeartbeats 800000 in
theorem fUnMore (A : Option Addr) (n c : Nat) (l : List Int) (w : World) (h : Byt w A n c l) (hn : n ≤ 100000) (h0 : 0 < n) (hm : (n : Int) < 1 + unB l) :
    Calls Try.prog 10 #[.slice A n c] w (UnP [] 0 11 w) := by
  obtain ⟨b, o, rfl, hb, hc⟩ := h.cell h0
  have hc0 := hc 0 h0
  rw [Nat.add_zero] at hc0
  have hy := h.bs.get 0
  unfold unB at hm
  generalize l[0]?.getD 0 = y at *
  have e1 : decide ((n : Int) < 1 + y) = true := decide_eq_true hm
  have e0 : ((n : Int) == 0) = false := beq_eq_false_iff_ne.2 (by omega)
  have n0 : (0 : Int) < (n : Int) := by omega
  obtain ⟨y0, y1⟩ := hy
  clear h hc hm h0
  go_enter Try.func10, Try.ntmps10
  go_wp2
  refine wp_scope_hop 1 ?_
  go_wp2_with (first | (refine wp_goto ?_; refine hop_goto rfl ?_) | (refine wp_label ?_) | (refine hop_ret ?_))
  go_ret3
  exact ⟨none, 0, 0, rfl, Mine.nil _ _, Below.refl _ _⟩

set_option maxHeartbeats 800000 in
theorem fUnYes (A : Option Addr) (n c : Nat) (l : List Int) (w : World) (h : Byt w A n c l) (hn : n ≤ 100000) (k : Nat) (hk : unB l = k) (hm : 1 + k ≤ n) :
    Calls Try.prog 10 #[.slice A n c] w (UnP ((l.take (n - k)).drop 1) (1 + k) 0 w) := by
  have hy := h.cut (lo := 1) (hi := n - k) (by omega) (by omega)
  rw [show n - k - 1 = n - (1 + k) by omega] at hy
  have H := Lib.hid hy
  obtain ⟨b, o, rfl, hb, hc⟩ := h.cell (by omega)
  have hc0 := hc 0 (by omega)
  rw [Nat.add_zero] at hc0
  have hyb := h.bs.get 0
  unfold unB at hk
  rw [hk] at hc0 hyb
  have hcap := h.cap
  have e1 : decide ((n : Int) < 1 + (k : Int)) = false := decide_eq_false (by omega)
  have e0 : ((n : Int) == 0) = false := beq_eq_false_iff_ne.2 (by omega)
  have n0 : (0 : Int) < (n : Int) := by omega
  obtain ⟨y0, y1⟩ := hyb
  clear h hc hy hk
  go_enter Try.func10, Try.ntmps10
  go_wp2
  refine wp_scope_hop 1 ?_
  go_wp2_with (first | (refine wp_goto ?_; refine hop_goto rfl ?_) | (refine wp_label ?_) | (refine hop_ret ?_))
  refine (fClone _ _ _ _ _ H.out (by omega)).mono ?_
  rintro e w1 ⟨A1, c1, rfl, hm1, hb1⟩
  go_wp2_with (first | (refine wp_goto ?_; refine hop_goto rfl ?_) | (refine wp_label ?_) | (refine hop_ret ?_))
  go_ret3
  exact ⟨_, _, _, rfl, hm1, hb1⟩

theorem rUnNil (A : Option Addr) (c : Nat) (w : World) : Calls Try.prog 11 #[.slice A 0 c] w (UnP [] 0 10 w) := by
  go_enter Try.func11, Try.ntmps11
  go_wp2
  go_ret3
  exact ⟨none, 0, 0, rfl, Mine.nil _ _, Below.refl _ _⟩

set_option maxHeartbeats 800000 in
theorem rUnMore (A : Option Addr) (n c : Nat) (l : List Int) (w : World) (h : Byt w A n c l) (hn : n ≤ 100000) (h0 : 0 < n) (hm : (n : Int) < 1 + unB l) :
    Calls Try.prog 11 #[.slice A n c] w (UnP [] 0 11 w) := by
  obtain ⟨b, o, rfl, hb, hc⟩ := h.cell h0
  have hc0 := hc 0 h0
  rw [Nat.add_zero] at hc0
  have hy := h.bs.get 0
  unfold unB at hm
  generalize l[0]?.getD 0 = y at *
  have e1 : decide ((n : Int) - 1 < y) = true := decide_eq_true (by omega)
  have e0 : ((n : Int) == 0) = false := beq_eq_false_iff_ne.2 (by omega)
  have n0 : (0 : Int) < (n : Int) := by omega
  obtain ⟨y0, y1⟩ := hy
  clear h hc hm h0
  go_enter Try.func11, Try.ntmps11
  go_wp2
  go_ret3
  exact ⟨none, 0, 0, rfl, Mine.nil _ _, Below.refl _ _⟩

set_option maxHeartbeats 800000 in
theorem rUnYes (A : Option Addr) (n c : Nat) (l : List Int) (w : World) (h : Byt w A n c l) (hn : n ≤ 100000) (k : Nat) (hk : unB l = k) (hm : 1 + k ≤ n) :
    Calls Try.prog 11 #[.slice A n c] w (UnP ((l.take (n - k)).drop 1) (1 + k) 0 w) := by
  have hy := h.cut (lo := 1) (hi := n - k) (by omega) (by omega)
  have H := Lib.hid hy
  obtain ⟨b, o, rfl, hb, hc⟩ := h.cell (by omega)
  have hc0 := hc 0 (by omega)
  rw [Nat.add_zero] at hc0
  have hyb := h.bs.get 0
  unfold unB at hk
  rw [hk] at hc0 hyb
  have hcap := h.cap
  have e1 : decide ((n : Int) - 1 < (k : Int)) = false := decide_eq_false (by omega)
  have e0 : ((n : Int) == 0) = false := beq_eq_false_iff_ne.2 (by omega)
  have n0 : (0 : Int) < (n : Int) := by omega
  have hE : (k : Int) + 1 = 1 + (k : Int) := by omega
  have HE := Lib.hid hE
  obtain ⟨y0, y1⟩ := hyb
  clear h hc hy hk hE
  go_enter Try.func11, Try.ntmps11
  go_wp2_with (with_reducible refine wpList_copy w rfl (.tmp 18) (.tmp 24) rfl rfl rfl _ _ _ _ rfl H.out (by omega) ?_; intro A1 c1 w1 hm1 hb1)
  go_ret3
  exact ⟨_, _, _, (by rw [HE.out]; rfl), hm1, hb1⟩

theorem fUnpad (A : Option Addr) (n c : Nat) (l : List Int) (w : World) (h : Byt w A n c l) (hn : n ≤ 100000) : Calls Try.prog 10 #[.slice A n c] w (UnP (unO l) (unN l) (unE l) w) := by
  have hl := h.len
  have hb := h.bs.get 0
  unfold unO unN
  by_cases h0 : n = 0
  · subst h0
    have e : unE l = 10 := by unfold unE; rw [if_pos hl]
    rw [e]
    exact fUnNil A c w
  by_cases hm : (n : Int) < 1 + unB l
  · have e : unE l = 11 := by unfold unE; rw [if_neg (by omega), if_pos (by omega)]
    rw [e]
    exact fUnMore A n c l w h hn (by omega) hm
  · have e : unE l = 0 := by unfold unE; rw [if_neg (by omega), if_neg (by omega)]
    obtain ⟨k, hk⟩ := toNat_lit (show 0 ≤ unB l from hb.1)
    rw [e, hl, hk]
    exact fUnYes A n c l w h hn k hk (by omega)
theorem rUnpad (A : Option Addr) (n c : Nat) (l : List Int) (w : World) (h : Byt w A n c l) (hn : n ≤ 100000) : Calls Try.prog 11 #[.slice A n c] w (UnP (unO l) (unN l) (unE l) w) := by
  have hl := h.len
  have hb := h.bs.get 0
  unfold unO unN
  by_cases h0 : n = 0
  · subst h0
    have e : unE l = 10 := by unfold unE; rw [if_pos hl]
    rw [e]
    exact rUnNil A c w
  by_cases hm : (n : Int) < 1 + unB l
  · have e : unE l = 11 := by unfold unE; rw [if_neg (by omega), if_pos (by omega)]
    rw [e]
    exact rUnMore A n c l w h hn (by omega) hm
  · have e : unE l = 0 := by unfold unE; rw [if_neg (by omega), if_neg (by omega)]
    obtain ⟨k, hk⟩ := toNat_lit (show 0 ≤ unB l from hb.1)
    rw [e, hl, hk]
    exact rUnYes A n c l w h hn k hk (by omega)
end Go.Proofs.Ytlomaoabofpegaa
