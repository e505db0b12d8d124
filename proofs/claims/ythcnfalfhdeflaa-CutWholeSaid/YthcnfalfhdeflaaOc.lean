/- The contracts of the taking of numbers out of bytes, and of streams' numbers. -/
import Derived.Test.YthcnfalfhdeflaaR
import Derived.Test.YthcnfalfhdeflaaBits
namespace Go.Proofs.Ythcnfalfhdeflaa
open Go.RowKit Go.Shelf
set_option linter.unusedVariables false

def okSize (n : Int) : Bool := decide (1 ≤ n ∧ n ≤ 4)
theorem fSized (n : Int) (W : World) : Calls Try.prog 34 #[.int .i64 n] W (Ret (.bool (okSize n)) W) := by
  go_enter Try.func34, Try.ntmps34
  go_wp2
  all_goals go_ret
  all_goals refine ⟨ret_bool ?_, rfl⟩
  all_goals unfold okSize
  all_goals rw [Bool.eq_iff_iff]
  all_goals simp at *
  all_goals omega

/-- The number that bytes tell, the highest first. -/
def num (l : List Int) : Int := l.foldl (fun v c => v * 256 + c) 0
theorem num_snoc (l : List Int) (c : Int) : num (l ++ [c]) = num l * 256 + c := by simp [num]
theorem num_from {l : List Int} (h : Bs l) : ∀ v : Nat, ∃ k : Nat, l.foldl (fun v c => v * 256 + c) (v : Int) = k ∧ k < (v + 1) * 256 ^ l.length := by
  induction l with
  | nil => intro v; exact ⟨v, rfl, by simp⟩
  | cons c l ih =>
    intro v
    obtain ⟨c0, c1⟩ := h c (by simp)
    obtain ⟨d, rfl⟩ := toNat_lit c0
    obtain ⟨k, hk, hb⟩ := ih (fun x hx => h x (by simp [hx])) (v * 256 + d)
    refine ⟨k, by rw [← hk]; simp, ?_⟩
    have h2 : (v * 256 + d + 1) * 256 ^ l.length ≤ ((v + 1) * 256) * 256 ^ l.length := Nat.mul_le_mul_right _ (by omega)
    rw [List.length_cons, Nat.pow_succ, Nat.mul_comm (256 ^ l.length) 256, ← Nat.mul_assoc]
    omega
theorem num_bd {l : List Int} (h : Bs l) : 0 ≤ num l ∧ num l < ((256 ^ l.length : Nat) : Int) := by
  obtain ⟨k, hk, hb⟩ := num_from h 0
  unfold num
  rw [show (0 : Int) = ((0 : Nat) : Int) from rfl, hk]
  simp at hb
  omega
theorem num_le {l : List Int} (h : Bs l) (hl : l.length ≤ 3) : num l < 16777216 := by
  have h1 := (num_bd h).2
  have h2 : 256 ^ l.length ≤ 256 ^ 3 := Nat.pow_le_pow_right (by decide) hl
  omega

/-- What is told of bytes: the number, the fault. -/
def takeO (l : List Int) (at_ size : Int) : Int × Int :=
  if 1 ≤ size ∧ size ≤ 4 ∧ 0 ≤ at_ then
    if at_ + size ≤ l.length then (num ((l.drop at_.toNat).take size.toNat), 0) else (0, 10)
  else (0, 2)

theorem or32 (V y : Int) (h0 : 0 ≤ V) (h1 : V < 16777216) (y0 : 0 ≤ y) (y1 : y ≤ 255) : bits .or .u32 (V * 256) y = V * 256 + y := by
  obtain ⟨n, rfl⟩ := toNat_lit h0
  obtain ⟨m, rfl⟩ := toNat_lit y0
  have hm : m < 2 ^ 8 := by omega
  have e : ((n : Int) * 256) = ((2 ^ 8 * n : Nat) : Int) := by omega
  rw [e, u32_or_nat _ _ (by omega) (by omega), ← Nat.two_pow_add_eq_or_of_lt hm]
  simp

set_option maxRecDepth 100000 in
set_option maxHeartbeats 4000000 in
theorem octYes (b o n c : Nat) (l : List Int) (a s : Nat) (w : World) (h : Byt w (some ⟨b, o, none⟩) n c l) (s1 : 1 ≤ s) (s4 : s ≤ 4) (hn : a + s ≤ n) (hn2 : n ≤ 9223372036854775807) :
    Calls Try.prog 32 #[.slice (some ⟨b, o, none⟩) n c, .int .i64 a, .int .i64 s] w (Ret (.tuple #[.int .i64 (num ((l.drop a).take s)), .int .i64 0]) w) := by
  have ok : okSize s = true := decide_eq_true (by omega)
  have hl := h.len
  have hcap := h.cap
  have hmx := h.mx
  obtain ⟨b', o', e', hb', hc0⟩ := h.cell (by omega)
  obtain ⟨rfl, rfl⟩ : b = b' ∧ o = o' := by simpa using e'
  have Hc := Lib.hid hc0
  have H := Lib.hid h
  have Hl := Lib.hid hl
  have hne : ¬ c = a := by omega
  have g1 : decide ((n : Int) < (a : Int)) = false := decide_eq_false (by omega)
  have g1' : decide (n < a) = false := decide_eq_false (by omega)
  have g2 : decide ((n : Int) - (a : Int) < (s : Int)) = false := decide_eq_false (by omega)
  clear hc0 h hl e'
  have hseg : ((l.drop a).take s).length = s := by simp; have := Hl.out; omega
  have Hseg := Lib.hid hseg
  clear hseg
  go_enter Try.func32, Try.ntmps32
  go_wp2_with fail
  refine wp_scope_hop 2 ?_
  go_wp2_with (first
    | (go_at_call 34; refine (fSized _ _).mono ?_; rintro e w' ⟨rfl, rfl⟩)
    | (refine wp_goto ?_; refine hop_goto rfl ?_) | (refine wp_label ?_) | (refine hop_ret ?_))
  have Hbs : Bs ((l.drop a).take s) := (H.out.bs.drop _).take _
  go_loop [8, 37] (fun v i => ∃ j : Nat, j ≤ s ∧ v = .int .u32 (num (((l.drop a).take s).take j)) ∧ i = .int .i64 j) (fun _ i => s - (intOf i).toNat)
  case atStart => exact ⟨0, Nat.zero_le _, rfl, rfl⟩
  case round =>
    obtain ⟨j, hj, rfl, rfl⟩ := hrel
    by_cases hlt : j < s
    · have hc1 := Hc.out (a + j) (by omega)
      rw [← Nat.add_assoc] at hc1
      have hy := H.out.bs.get (a + j)
      have hnx : num (((l.drop a).take s).take (j + 1)) = num (((l.drop a).take s).take j) * 256 + l[a + j]?.getD 0 := by
        have hj2 : j < ((l.drop a).take s).length := by rw [Hseg.out]; exact hlt
        rw [List.take_succ_eq_append_getElem hj2, num_snoc]
        congr 1
        have : a + j < l.length := by have := Hl.out; omega
        simp [this]
      have hV := num_bd (Hbs.take j)
      have hV2 := num_le (Hbs.take j) (by rw [List.length_take]; omega)
      have HN := Lib.hid hnx
      clear hnx
      generalize l[a + j]?.getD 0 = y at *
      generalize num (((l.drop a).take s).take j) = V at *
      have hor := or32 V y hV.1 hV2 hy.1 hy.2
      have hV3 := hV.1
      clear hV
      go_wp2
      exact ⟨⟨j + 1, by omega, by rw [HN.out], by simp⟩, by simp [intOf]; omega⟩
    · obtain rfl : j = s := by omega
      have hV := num_bd (Hbs.take j)
      have e1 : ((l.drop a).take j).take j = (l.drop a).take j := List.take_of_length_le (by rw [Hseg.out]; exact Nat.le_refl _)
      rw [e1] at hV ⊢
      have hV4 : num ((l.drop a).take j) < 4294967296 := by
        have h2 : 256 ^ ((l.drop a).take j).length ≤ 256 ^ 4 := Nat.pow_le_pow_right (by decide) (by rw [List.length_take]; omega)
        have := hV.2
        omega
      have hV0 := hV.1
      clear hV
      generalize num ((l.drop a).take j) = V at *
      go_wp2_with (first | (refine wp_goto ?_; refine hop_goto rfl ?_) | (refine wp_label ?_) | (refine hop_ret ?_))
      go_ret2
      exact ⟨rfl, rfl⟩

set_option maxRecDepth 100000 in
theorem octNo (A : Option Addr) (n c : Nat) (a s : Int) (w : World) (ho : ¬(1 ≤ s ∧ s ≤ 4 ∧ 0 ≤ a)) :
    Calls Try.prog 32 #[.slice A n c, .int .i64 a, .int .i64 s] w (Ret (.tuple #[.int .i64 0, .int .i64 2]) w) := by
  by_cases hs : 1 ≤ s ∧ s ≤ 4
  · have ok : okSize s = true := decide_eq_true hs
    have ha : a < 0 := by omega
    clear ho hs
    go_enter Try.func32, Try.ntmps32
    go_wp2_with fail
    refine wp_scope_hop 2 ?_
    go_wp2_with (first
      | (go_at_call 34; refine (fSized _ _).mono ?_; rintro e w' ⟨rfl, rfl⟩)
      | (refine wp_goto ?_; refine hop_goto rfl ?_) | (refine wp_label ?_) | (refine hop_ret ?_))
    go_ret2
    exact ⟨rfl, rfl⟩
  · have ok : okSize s = false := decide_eq_false hs
    clear ho hs
    go_enter Try.func32, Try.ntmps32
    go_wp2_with fail
    refine wp_scope_hop 2 ?_
    go_wp2_with (first
      | (go_at_call 34; refine (fSized _ _).mono ?_; rintro e w' ⟨rfl, rfl⟩)
      | (refine wp_goto ?_; refine hop_goto rfl ?_) | (refine wp_label ?_) | (refine hop_ret ?_))
    go_ret2
    exact ⟨rfl, rfl⟩

set_option maxRecDepth 100000 in
theorem octShort (A : Option Addr) (n c : Nat) (a s : Int) (w : World) (s1 : 1 ≤ s) (s4 : s ≤ 4) (a0 : 0 ≤ a) (a1 : a ≤ 9223372036854775807) (hn2 : n ≤ 9223372036854775807) (hs : (n : Int) < a + s) :
    Calls Try.prog 32 #[.slice A n c, .int .i64 a, .int .i64 s] w (Ret (.tuple #[.int .i64 0, .int .i64 10]) w) := by
  have ok : okSize s = true := decide_eq_true ⟨s1, s4⟩
  have g0 : decide (a < 0) = false := decide_eq_false (by omega)
  by_cases ha : (n : Int) < a
  · go_enter Try.func32, Try.ntmps32
    go_wp2_with fail
    refine wp_scope_hop 2 ?_
    go_wp2_with (first
      | (go_at_call 34; refine (fSized _ _).mono ?_; rintro e w' ⟨rfl, rfl⟩)
      | (refine wp_goto ?_; refine hop_goto rfl ?_) | (refine wp_label ?_) | (refine hop_ret ?_))
    go_ret2
    exact ⟨rfl, rfl⟩
  · have g1 : decide ((n : Int) < a) = false := decide_eq_false ha
    have g2 : (n : Int) - a < s := by omega
    have ha2 : a ≤ n := by omega
    clear ha
    go_enter Try.func32, Try.ntmps32
    go_wp2_with fail
    refine wp_scope_hop 2 ?_
    go_wp2_with (first
      | (go_at_call 34; refine (fSized _ _).mono ?_; rintro e w' ⟨rfl, rfl⟩)
      | (refine wp_goto ?_; refine hop_goto rfl ?_) | (refine wp_label ?_) | (refine hop_ret ?_))
    go_ret2
    exact ⟨rfl, rfl⟩

theorem fOTake (A : Option Addr) (n c : Nat) (l : List Int) (a s : Int) (w : World) (a1 : a ≤ 9223372036854775807) (h : Byt w A n c l) :
    Calls Try.prog 32 #[.slice A n c, .int .i64 a, .int .i64 s] w (Ret (.tuple #[.int .i64 (takeO l a s).1, .int .i64 (takeO l a s).2]) w) := by
  have hl := h.len
  have hc := h.cap
  have hm := h.mx
  unfold takeO
  by_cases ho : 1 ≤ s ∧ s ≤ 4 ∧ 0 ≤ a
  · rw [if_pos ho]
    by_cases hs : a + s ≤ (l.length : Int)
    · rw [if_pos hs]
      obtain ⟨a', rfl⟩ := toNat_lit ho.2.2
      obtain ⟨s', rfl⟩ := toNat_lit (show 0 ≤ s by omega)
      obtain ⟨b, o, rfl, _, _⟩ := h.cell (by omega)
      exact octYes b o n c l a' s' w h (by omega) (by omega) (by omega) (by omega)
    · rw [if_neg hs]
      exact octShort A n c a s w ho.1 ho.2.1 ho.2.2 a1 (by omega) (by omega)
  · rw [if_neg ho]
    exact octNo A n c a s w ho

theorem takeO_bd {l : List Int} (h : Bs l) (a s : Int) : 0 ≤ (takeO l a s).1 ∧ (takeO l a s).1 < 4294967296 := by
  unfold takeO
  split
  · split
    · have hV := num_bd ((h.drop a.toNat).take s.toNat)
      have h2 : 256 ^ ((l.drop a.toNat).take s.toNat).length ≤ 256 ^ 4 := Nat.pow_le_pow_right (by decide) (by rw [List.length_take]; omega)
      simp only
      omega
    · exact ⟨by decide, by decide⟩
  · exact ⟨by decide, by decide⟩
theorem andNot_top (V : Int) (h0 : 0 ≤ V) (h1 : V < 4294967296) : bits .andNot .u32 V 2147483648 = V % 2147483648 := by
  obtain ⟨n, rfl⟩ := toNat_lit h0
  rw [u32_andNot _ _ h0 h1 (by decide) (by decide)]
  simp only [Int.toNat_natCast]
  have := Nat.and_two_pow_sub_one_eq_mod n 31
  rw [show (4294967295 - Int.toNat 2147483648 : Nat) = 2 ^ 31 - 1 from rfl, this]
  simp

/-- A stream's number. -/
def streamO (l : List Int) (at_ : Int) : Int := (takeO l at_ 4).1 % 2147483648
theorem fOStream (A : Option Addr) (n c : Nat) (l : List Int) (a : Int) (w : World) (a1 : a ≤ 9223372036854775807) (h : Byt w A n c l) :
    Calls Try.prog 33 #[.slice A n c, .int .i64 a] w (Ret (.tuple #[.int .i64 (streamO l a), .int .i64 (takeO l a 4).2]) w) := by
  have hbd := takeO_bd h.bs a 4
  have ht := fOTake A n c l a 4 w a1 h
  unfold streamO
  generalize (takeO l a 4).1 = V at *
  generalize (takeO l a 4).2 = e' at *
  obtain ⟨v0, v1⟩ := hbd
  have hb := andNot_top V v0 v1
  have HT := Lib.hid ht
  clear ht h
  go_enter Try.func33, Try.ntmps33
  go_wp2_with (go_at_call 32; refine HT.out.mono ?_; rintro e w' ⟨rfl, rfl⟩)
  go_ret2
  exact ⟨rfl, rfl⟩
end Go.Proofs.Ythcnfalfhdeflaa
