/- Texts of the layers below, put together. -/
import Derived.Test.YtnjnpnjjpodnnaaRYB
import Derived.StillTail
import Derived.StillTactics
import Derived.StillTailTactics
/- The contracts of the taking of numbers out of bytes, and of streams' numbers. -/

namespace Go.Proofs.Ytnjnpnjjpodnnaa
open Go.RowKit Go.Shelf
set_option linter.unusedVariables false

def okSize (n : Int) : Bool := decide (1 ≤ n ∧ n ≤ 4)
theorem fSized (n : Int) (W : World) : Calls Try.prog 108 #[.int .i64 n] W (Ret (.bool (okSize n)) W) := by
  go_enter Try.func108, Try.ntmps108
  go_wp2
  all_goals go_ret
  all_goals refine ⟨ret_bool ?_, rfl⟩
  all_goals unfold okSize
  all_goals rw [Bool.eq_iff_iff]
  all_goals simp at *
  all_goals omega

/-- The number that bytes tell, the highest first. -/
def num (l : List Int) : Int := l.foldl (fun v c => v * 256 + c) 0
theorem num_snoc (l : List Int) (c : Int) : num (l ++ [c]) = num l * 256 + c := by simp [num]
theorem num_from {l : List Int} (h : Bs l) : ∀ v : Nat, ∃ k : Nat, l.foldl (fun v c => v * 256 + c) (v : Int) = k ∧ k < (v + 1) * 256 ^ l.length := by
  induction l with
  | nil => intro v; exact ⟨v, rfl, by simp⟩
  | cons c l ih =>
    intro v
    obtain ⟨c0, c1⟩ := h c (by simp)
    obtain ⟨d, rfl⟩ := toNat_lit c0
    obtain ⟨k, hk, hb⟩ := ih (fun x hx => h x (by simp [hx])) (v * 256 + d)
    refine ⟨k, by rw [← hk]; simp, ?_⟩
    have h2 : (v * 256 + d + 1) * 256 ^ l.length ≤ ((v + 1) * 256) * 256 ^ l.length := Nat.mul_le_mul_right _ (by omega)
    rw [List.length_cons, Nat.pow_succ, Nat.mul_comm (256 ^ l.length) 256, ← Nat.mul_assoc]
    omega
theorem num_bd {l : List Int} (h : Bs l) : 0 ≤ num l ∧ num l < ((256 ^ l.length : Nat) : Int) := by
  obtain ⟨k, hk, hb⟩ := num_from h 0
  unfold num
  rw [show (0 : Int) = ((0 : Nat) : Int) from rfl, hk]
  simp at hb
  omega
theorem num_le {l : List Int} (h : Bs l) (hl : l.length ≤ 3) : num l < 16777216 := by
  have h1 := (num_bd h).2
  have h2 : 256 ^ l.length ≤ 256 ^ 3 := Nat.pow_le_pow_right (by decide) hl
  omega

/-- What is told of bytes: the number, the fault. -/
def takeO (l : List Int) (at_ size : Int) : Int × Int :=
  if 1 ≤ size ∧ size ≤ 4 ∧ 0 ≤ at_ then
    if at_ + size ≤ l.length then (num ((l.drop at_.toNat).take size.toNat), 0) else (0, 10)
  else (0, 2)

theorem or32 (V y : Int) (h0 : 0 ≤ V) (h1 : V < 16777216) (y0 : 0 ≤ y) (y1 : y ≤ 255) : bits .or .u32 (V * 256) y = V * 256 + y := by
  obtain ⟨n, rfl⟩ := toNat_lit h0
  obtain ⟨m, rfl⟩ := toNat_lit y0
  have hm : m < 2 ^ 8 := by omega
  have e : ((n : Int) * 256) = ((2 ^ 8 * n : Nat) : Int) := by omega
  rw [e, u32_or_nat _ _ (by omega) (by omega), ← Nat.two_pow_add_eq_or_of_lt hm]
  simp

set_option maxRecDepth 100000 in
set_option maxHeartbeats 4000000 in
theorem octYes (b o n c : Nat) (l : List Int) (a s : Nat) (w : World) (h : Byt w (some ⟨b, o, none⟩) n c l) (s1 : 1 ≤ s) (s4 : s ≤ 4) (hn : a + s ≤ n) (hn2 : n ≤ 9223372036854775807) :
    Calls Try.prog 102 #[.slice (some ⟨b, o, none⟩) n c, .int .i64 a, .int .i64 s] w (Ret (.tuple #[.int .i64 (num ((l.drop a).take s)), .int .i64 0]) w) := by
  have ok : okSize s = true := decide_eq_true (by omega)
  have hl := h.len
  have hcap := h.cap
  have hmx := h.mx
  obtain ⟨b', o', e', hb', hc0⟩ := h.cell (by omega)
  obtain ⟨rfl, rfl⟩ : b = b' ∧ o = o' := by simpa using e'
  have Hc := Lib.hid hc0
  have H := Lib.hid h
  have Hl := Lib.hid hl
  have hne : ¬ c = a := by omega
  have g1 : decide ((n : Int) < (a : Int)) = false := decide_eq_false (by omega)
  have g1' : decide (n < a) = false := decide_eq_false (by omega)
  have g2 : decide ((n : Int) - (a : Int) < (s : Int)) = false := decide_eq_false (by omega)
  clear hc0 h hl e'
  have hseg : ((l.drop a).take s).length = s := by simp; have := Hl.out; omega
  have Hseg := Lib.hid hseg
  clear hseg
  go_enter Try.func102, Try.ntmps102
  go_wp2_with fail
  refine wp_scope_hop 2 ?_
  go_wp2_with (first
    | (go_at_call 108; refine (fSized _ _).mono ?_; rintro e w' ⟨rfl, rfl⟩)
    | (refine wp_goto ?_; refine hop_goto rfl ?_) | (refine wp_label ?_) | (refine hop_ret ?_))
  have Hbs : Bs ((l.drop a).take s) := (H.out.bs.drop _).take _
  go_loop [8, 37] (fun v i => ∃ j : Nat, j ≤ s ∧ v = .int .u32 (num (((l.drop a).take s).take j)) ∧ i = .int .i64 j) (fun _ i => s - (intOf i).toNat)
  case atStart => exact ⟨0, Nat.zero_le _, rfl, rfl⟩
  case round =>
    obtain ⟨j, hj, rfl, rfl⟩ := hrel
    by_cases hlt : j < s
    · have hc1 := Hc.out (a + j) (by omega)
      rw [← Nat.add_assoc] at hc1
      have hy := H.out.bs.get (a + j)
      have hnx : num (((l.drop a).take s).take (j + 1)) = num (((l.drop a).take s).take j) * 256 + l[a + j]?.getD 0 := by
        have hj2 : j < ((l.drop a).take s).length := by rw [Hseg.out]; exact hlt
        rw [List.take_succ_eq_append_getElem hj2, num_snoc]
        congr 1
        have : a + j < l.length := by have := Hl.out; omega
        simp [this]
      have hV := num_bd (Hbs.take j)
      have hV2 := num_le (Hbs.take j) (by rw [List.length_take]; omega)
      have HN := Lib.hid hnx
      clear hnx
      generalize l[a + j]?.getD 0 = y at *
      generalize num (((l.drop a).take s).take j) = V at *
      have hor := or32 V y hV.1 hV2 hy.1 hy.2
      have hV3 := hV.1
      clear hV
      go_wp2
      exact ⟨⟨j + 1, by omega, by rw [HN.out], by simp⟩, by simp [intOf]; omega⟩
    · obtain rfl : j = s := by omega
      have hV := num_bd (Hbs.take j)
      have e1 : ((l.drop a).take j).take j = (l.drop a).take j := List.take_of_length_le (by rw [Hseg.out]; exact Nat.le_refl _)
      rw [e1] at hV ⊢
      have hV4 : num ((l.drop a).take j) < 4294967296 := by
        have h2 : 256 ^ ((l.drop a).take j).length ≤ 256 ^ 4 := Nat.pow_le_pow_right (by decide) (by rw [List.length_take]; omega)
        have := hV.2
        omega
      have hV0 := hV.1
      clear hV
      generalize num ((l.drop a).take j) = V at *
      go_wp2_with (first | (refine wp_goto ?_; refine hop_goto rfl ?_) | (refine wp_label ?_) | (refine hop_ret ?_))
      go_ret2
      exact ⟨rfl, rfl⟩

set_option maxRecDepth 100000 in
theorem octNo (A : Option Addr) (n c : Nat) (a s : Int) (w : World) (ho : ¬(1 ≤ s ∧ s ≤ 4 ∧ 0 ≤ a)) :
    Calls Try.prog 102 #[.slice A n c, .int .i64 a, .int .i64 s] w (Ret (.tuple #[.int .i64 0, .int .i64 2]) w) := by
  by_cases hs : 1 ≤ s ∧ s ≤ 4
  · have ok : okSize s = true := decide_eq_true hs
    have ha : a < 0 := by omega
    clear ho hs
    go_enter Try.func102, Try.ntmps102
    go_wp2_with fail
    refine wp_scope_hop 2 ?_
    go_wp2_with (first
      | (go_at_call 108; refine (fSized _ _).mono ?_; rintro e w' ⟨rfl, rfl⟩)
      | (refine wp_goto ?_; refine hop_goto rfl ?_) | (refine wp_label ?_) | (refine hop_ret ?_))
    go_ret2
    exact ⟨rfl, rfl⟩
  · have ok : okSize s = false := decide_eq_false hs
    clear ho hs
    go_enter Try.func102, Try.ntmps102
    go_wp2_with fail
    refine wp_scope_hop 2 ?_
    go_wp2_with (first
      | (go_at_call 108; refine (fSized _ _).mono ?_; rintro e w' ⟨rfl, rfl⟩)
      | (refine wp_goto ?_; refine hop_goto rfl ?_) | (refine wp_label ?_) | (refine hop_ret ?_))
    go_ret2
    exact ⟨rfl, rfl⟩

set_option maxRecDepth 100000 in
theorem octShort (A : Option Addr) (n c : Nat) (a s : Int) (w : World) (s1 : 1 ≤ s) (s4 : s ≤ 4) (a0 : 0 ≤ a) (a1 : a ≤ 9223372036854775807) (hn2 : n ≤ 9223372036854775807) (hs : (n : Int) < a + s) :
    Calls Try.prog 102 #[.slice A n c, .int .i64 a, .int .i64 s] w (Ret (.tuple #[.int .i64 0, .int .i64 10]) w) := by
  have ok : okSize s = true := decide_eq_true ⟨s1, s4⟩
  have g0 : decide (a < 0) = false := decide_eq_false (by omega)
  by_cases ha : (n : Int) < a
  · go_enter Try.func102, Try.ntmps102
    go_wp2_with fail
    refine wp_scope_hop 2 ?_
    go_wp2_with (first
      | (go_at_call 108; refine (fSized _ _).mono ?_; rintro e w' ⟨rfl, rfl⟩)
      | (refine wp_goto ?_; refine hop_goto rfl ?_) | (refine wp_label ?_) | (refine hop_ret ?_))
    go_ret2
    exact ⟨rfl, rfl⟩
  · have g1 : decide ((n : Int) < a) = false := decide_eq_false ha
    have g2 : (n : Int) - a < s := by omega
    have ha2 : a ≤ n := by omega
    clear ha
    go_enter Try.func102, Try.ntmps102
    go_wp2_with fail
    refine wp_scope_hop 2 ?_
    go_wp2_with (first
      | (go_at_call 108; refine (fSized _ _).mono ?_; rintro e w' ⟨rfl, rfl⟩)
      | (refine wp_goto ?_; refine hop_goto rfl ?_) | (refine wp_label ?_) | (refine hop_ret ?_))
    go_ret2
    exact ⟨rfl, rfl⟩

theorem fOTake (A : Option Addr) (n c : Nat) (l : List Int) (a s : Int) (w : World) (a1 : a ≤ 9223372036854775807) (h : Byt w A n c l) :
    Calls Try.prog 102 #[.slice A n c, .int .i64 a, .int .i64 s] w (Ret (.tuple #[.int .i64 (takeO l a s).1, .int .i64 (takeO l a s).2]) w) := by
  have hl := h.len
  have hc := h.cap
  have hm := h.mx
  unfold takeO
  by_cases ho : 1 ≤ s ∧ s ≤ 4 ∧ 0 ≤ a
  · rw [if_pos ho]
    by_cases hs : a + s ≤ (l.length : Int)
    · rw [if_pos hs]
      obtain ⟨a', rfl⟩ := toNat_lit ho.2.2
      obtain ⟨s', rfl⟩ := toNat_lit (show 0 ≤ s by omega)
      obtain ⟨b, o, rfl, _, _⟩ := h.cell (by omega)
      exact octYes b o n c l a' s' w h (by omega) (by omega) (by omega) (by omega)
    · rw [if_neg hs]
      exact octShort A n c a s w ho.1 ho.2.1 ho.2.2 a1 (by omega) (by omega)
  · rw [if_neg ho]
    exact octNo A n c a s w ho

theorem takeO_bd {l : List Int} (h : Bs l) (a s : Int) : 0 ≤ (takeO l a s).1 ∧ (takeO l a s).1 < 4294967296 := by
  unfold takeO
  split
  · split
    · have hV := num_bd ((h.drop a.toNat).take s.toNat)
      have h2 : 256 ^ ((l.drop a.toNat).take s.toNat).length ≤ 256 ^ 4 := Nat.pow_le_pow_right (by decide) (by rw [List.length_take]; omega)
      simp only
      omega
    · exact ⟨by decide, by decide⟩
  · exact ⟨by decide, by decide⟩
theorem andNot_top (V : Int) (h0 : 0 ≤ V) (h1 : V < 4294967296) : bits .andNot .u32 V 2147483648 = V % 2147483648 := by
  obtain ⟨n, rfl⟩ := toNat_lit h0
  rw [u32_andNot _ _ h0 h1 (by decide) (by decide)]
  simp only [Int.toNat_natCast]
  have := Nat.and_two_pow_sub_one_eq_mod n 31
  rw [show (4294967295 - Int.toNat 2147483648 : Nat) = 2 ^ 31 - 1 from rfl, this]
  simp

/-- A stream's number. -/
def streamO (l : List Int) (at_ : Int) : Int := (takeO l at_ 4).1 % 2147483648
theorem fOStream (A : Option Addr) (n c : Nat) (l : List Int) (a : Int) (w : World) (a1 : a ≤ 9223372036854775807) (h : Byt w A n c l) :
    Calls Try.prog 107 #[.slice A n c, .int .i64 a] w (Ret (.tuple #[.int .i64 (streamO l a), .int .i64 (takeO l a 4).2]) w) := by
  have hbd := takeO_bd h.bs a 4
  have ht := fOTake A n c l a 4 w a1 h
  unfold streamO
  generalize (takeO l a 4).1 = V at *
  generalize (takeO l a 4).2 = e' at *
  obtain ⟨v0, v1⟩ := hbd
  have hb := andNot_top V v0 v1
  have HT := Lib.hid ht
  clear ht h
  go_enter Try.func107, Try.ntmps107
  go_wp2_with (go_at_call 102; refine HT.out.mono ?_; rintro e w' ⟨rfl, rfl⟩)
  go_ret2
  exact ⟨rfl, rfl⟩
end Go.Proofs.Ytnjnpnjjpodnnaa
/- The contracts of the document's taking of numbers out of bytes, and of its Put. -/

namespace Go.Proofs.Ytnjnpnjjpodnnaa
open Go.RowKit Go.Shelf
set_option linter.unusedVariables false

end Go.Proofs.Ytnjnpnjjpodnnaa
/- The bytes of numbers: the plain law; what a Put may answer. -/

namespace Go.Proofs.Ytnjnpnjjpodnnaa
open Go.RowKit Go.Shelf
set_option linter.unusedVariables false

/-- A number in so many bytes, the highest first. -/
def bigE (s n : Nat) : List Int := (List.range s).map fun k => ((n / 256 ^ (s - 1 - k) % 256 : Nat) : Int)
/-- What Put tells: bytes, the fault. -/
def okO (n size : Int) : Bool := decide (1 ≤ size ∧ size ≤ 4 ∧ 0 ≤ n ∧ n < ((256 ^ size.toNat : Nat) : Int))
def putO (n size : Int) : List Int := if okO n size then bigE size.toNat n.toNat else []
def putOe (n size : Int) : Int := if okO n size then 0 else 2

theorem bigE_len (s n : Nat) : (bigE s n).length = s := by simp [bigE]
theorem bigE_get (s n : Nat) {k : Nat} (hk : k < s) : (bigE s n)[k]? = some ((n / 256 ^ (s - 1 - k) % 256 : Nat) : Int) := by simp [bigE, hk]
/-- The first j of it, noughts behind. -/
def bigF (s n j : Nat) : List Int := (bigE s n).take j ++ List.replicate (s - j) 0
theorem bigF_zero (s n : Nat) : bigF s n 0 = List.replicate s 0 := by simp [bigF]
theorem bigF_all (s n : Nat) : bigF s n s = bigE s n := by simp [bigF, List.take_of_length_le (Nat.le_of_eq (bigE_len s n))]
theorem bigF_set (s n : Nat) {j : Nat} (hj : j < s) : (bigF s n j).set j ((n / 256 ^ (s - 1 - j) % 256 : Nat) : Int) = bigF s n (j + 1) := by
  have h1 : ((bigE s n).take j).length = j := by rw [List.length_take, bigE_len]; omega
  unfold bigF
  rw [List.set_append_right _ _ (by omega), h1, Nat.sub_self, show s - j = (s - (j + 1)) + 1 by omega, List.replicate_succ, List.set_cons_zero]
  have h2 : j < (bigE s n).length := by rw [bigE_len]; exact hj
  rw [List.take_succ_eq_append_getElem h2, List.append_assoc]
  congr 1
  have := bigE_get s n hj
  rw [List.getElem?_eq_getElem h2] at this
  simp at this
  rw [this]
  rfl
theorem pow256 (k : Nat) : (256 : Nat) ^ k = 2 ^ (8 * k) := by rw [Nat.pow_mul]

/-- What a Put may answer. -/
def PutPost (n s : Int) (w : World) (e : Ending) (w' : World) : Prop :=
  (∃ A m c, e = .returned (.tuple #[.slice A m c, .int .i64 (putOe n s)]) ∧ Mine w.heap.size w' A m c (putO n s)) ∧ Below w.heap.size w w'
end Go.Proofs.Ytnjnpnjjpodnnaa
/- The contracts of the putting of numbers into bytes. -/

namespace Go.Proofs.Ytnjnpnjjpodnnaa
open Go.RowKit Go.Shelf
set_option linter.unusedVariables false

set_option maxRecDepth 100000 in
set_option maxHeartbeats 4000000 in
theorem oputYes (n s : Nat) (w : World) (s1 : 1 ≤ s) (s4 : s ≤ 4) (hn : n < 256 ^ s) (hn2 : n ≤ 4294967295) :
    Calls Try.prog 103 #[.int .i64 n, .int .i64 s] w (fun e w' => (∃ A c, e = .returned (.tuple #[.slice A s c, .int .i64 0]) ∧ Mine w.heap.size w' A s c (bigE s n)) ∧ Below w.heap.size w w') := by
  have ok : okSize s = true := decide_eq_true (by omega)
  have hmk := make8 s (by omega)
  have g0 : ((n : Int) / 2 ^ (8 * s) != 0) = false := by
    rw [bne_eq_false_iff_eq]
    rw [pow256] at hn
    have : n / 2 ^ (8 * s) = 0 := Nat.div_eq_of_lt hn
    exact_mod_cast this
  go_enter Try.func103, Try.ntmps103
  go_wp2_with (go_at_call 108; refine (fSized _ _).mono ?_; rintro e w' ⟨rfl, rfl⟩)
  go_loopw [26] (fun v wr => ∃ j : Nat, j ≤ s ∧ v = .int .i64 j ∧ Mine w.heap.size wr (some ⟨w.heap.size, 0, none⟩) s s (bigF s n j) ∧ Below w.heap.size w wr) (fun v _ => s - (intOf v).toNat)
  case atStart => exact ⟨0, Nat.zero_le _, rfl, by rw [bigF_zero]; exact Mine.make w s (Nat.le_refl _) (by omega), (Below.refl _ _).alloc (Nat.le_refl _) _⟩
  case round =>
    obtain ⟨j, hj, rfl, hmn, hbel⟩ := hrel
    by_cases hlt : j < s
    · have hc1 := hmn.cellAt hlt
      have hf1 := hmn.frozenAt j
      have hst := hmn.stored j (y := ((n / 256 ^ (s - 1 - j) % 256 : Nat) : Int)) (by omega) (by omega)
      rw [bigF_set s n hlt] at hst
      rw [pow256, Int.natCast_emod, Int.natCast_ediv, Int.natCast_pow] at hst
      simp only [Int.cast_ofNat_Int] at hst
      generalize (bigF s n j)[j]?.getD 0 = y at *
      go_wp2
      exact ⟨⟨j + 1, by omega, by simp, hst, hbel.setCell (Nat.le_refl _) _⟩, by simp [intOf]; omega⟩
    · obtain rfl : j = s := by omega
      rw [bigF_all] at hmn
      go_wp2
      go_ret2
      exact ⟨⟨_, _, rfl, hmn⟩, hbel⟩

set_option maxRecDepth 100000 in
theorem oputNo (n s : Int) (w : World) (n1 : n ≤ 9223372036854775807) (no : okO n s = false) :
    Calls Try.prog 103 #[.int .i64 n, .int .i64 s] w (Ret (.tuple #[.slice none 0 0, .int .i64 2]) w) := by
  have no' := of_decide_eq_false no
  go_enter Try.func103, Try.ntmps103
  by_cases hs : 1 ≤ s ∧ s ≤ 4
  · have ok : okSize s = true := decide_eq_true (by omega)
    by_cases h0 : n < 0
    · go_wp2_with (go_at_call 108; refine (fSized _ _).mono ?_; rintro e w' ⟨rfl, rfl⟩)
      go_ret2
      exact ⟨rfl, rfl⟩
    · obtain ⟨s', rfl⟩ := toNat_lit (show 0 ≤ s by omega)
      obtain ⟨n', rfl⟩ := toNat_lit (show 0 ≤ n by omega)
      have hn : ¬ n' < 256 ^ s' := by
        intro h
        exact no' ⟨by omega, by omega, by omega, by simpa using (by exact_mod_cast h : ((n' : Nat) : Int) < ((256 ^ s' : Nat) : Int))⟩
      have h0' : decide ((n' : Int) < 0) = false := decide_eq_false h0
      have g0 : ((n' : Int) / 2 ^ (8 * s') != 0) = true := by
        rw [bne_iff_ne]
        rw [pow256] at hn
        intro h
        have h2 : n' / 2 ^ (8 * s') = 0 := by exact_mod_cast h
        rw [Nat.div_eq_zero_iff] at h2
        have := Nat.two_pow_pos (8 * s')
        omega
      have hs4 : s' ≤ 4 := by omega
      clear hn no no' h0
      go_wp2_with (go_at_call 108; refine (fSized _ _).mono ?_; rintro e w' ⟨rfl, rfl⟩)
      go_ret2
      exact ⟨rfl, rfl⟩
  · have ok : okSize s = false := decide_eq_false (by omega)
    go_wp2_with (go_at_call 108; refine (fSized _ _).mono ?_; rintro e w' ⟨rfl, rfl⟩)
    go_ret2
    exact ⟨rfl, rfl⟩

theorem fOPut (n s : Int) (w : World) (n1 : n ≤ 9223372036854775807) : Calls Try.prog 103 #[.int .i64 n, .int .i64 s] w (PutPost n s w) := by
  unfold PutPost putO putOe
  cases ok : okO n s
  · refine (oputNo n s w n1 ok).mono ?_
    rintro e w' ⟨rfl, rfl⟩
    exact ⟨⟨none, 0, 0, rfl, Mine.nil _ _⟩, Below.refl _ _⟩
  · have ok' := of_decide_eq_true ok
    obtain ⟨s', rfl⟩ := toNat_lit (show 0 ≤ s by omega)
    obtain ⟨n', rfl⟩ := toNat_lit (show 0 ≤ n by omega)
    simp only [Int.toNat_natCast] at ok'
    have h1 : n' < 256 ^ s' := by exact_mod_cast ok'.2.2.2
    have h2 : 256 ^ s' ≤ 256 ^ 4 := Nat.pow_le_pow_right (by decide) (by omega)
    refine (oputYes n' s' w (by omega) (by omega) h1 (by omega)).mono ?_
    rintro e w' ⟨⟨A, c, rfl, hm⟩, hb⟩
    exact ⟨⟨A, s', c, rfl, by simpa using hm⟩, hb⟩
end Go.Proofs.Ytnjnpnjjpodnnaa
/- The contract of the document's putting of numbers into bytes; and of its Same. -/

namespace Go.Proofs.Ytnjnpnjjpodnnaa
open Go.RowKit Go.Shelf
set_option linter.unusedVariables false

end Go.Proofs.Ytnjnpnjjpodnnaa
/- The contracts of Same, of bytes.Equal. -/

namespace Go.Proofs.Ytnjnpnjjpodnnaa
open Go.RowKit Go.Shelf
set_option linter.unusedVariables false

end Go.Proofs.Ytnjnpnjjpodnnaa
/- The document's Stream. -/

namespace Go.Proofs.Ytnjnpnjjpodnnaa
open Go.RowKit Go.Shelf
set_option linter.unusedVariables false

end Go.Proofs.Ytnjnpnjjpodnnaa
/- Which heads may be; flags: the contracts of both. -/

namespace Go.Proofs.Ytnjnpnjjpodnnaa
open Go.RowKit Go.Shelf
set_option linter.unusedVariables false

def okH (L s : Int) : Bool := decide (0 ≤ L ∧ L < 16777216 ∧ 0 ≤ s ∧ s < 2147483648)
def BoolP (b : Bool) (w : World) (e : Ending) (w' : World) : Prop := e = .returned (.bool b) ∧ Below w.heap.size w w'

set_option maxRecDepth 100000 in
theorem fHRight (L k f s : Int) (w : World) (L0 : -9223372036854775808 ≤ L) (L1 : L ≤ 9223372036854775807) (s0 : -9223372036854775808 ≤ s) (s1 : s ≤ 9223372036854775807) :
    Calls Try.prog 29 #[.agg #[.int .i64 L, .int .u8 k, .int .u8 f, .int .i64 s]] w (BoolP (okH L s) w) := by
  have b0 : Below w.heap.size w (w.alloc (.cells #[.int .i64 L, .int .u8 k, .int .u8 f, .int .i64 s] 23)) := (Below.refl _ _).alloc (Nat.le_refl _) _
  by_cases h1 : L < 0
  · have e : okH L s = false := decide_eq_false (by omega)
    rw [e]
    have g1 : decide (0 ≤ L) = false := decide_eq_false (by omega)
    go_enter Try.func29, Try.ntmps29
    go_wp2
    go_ret
    exact ⟨rfl, b0⟩
  have g1 : decide (0 ≤ L) = true := decide_eq_true (by omega)
  have L2 : 0 ≤ L := by omega
  by_cases h2 : 16777216 ≤ L
  · have e : okH L s = false := decide_eq_false (by omega)
    rw [e]
    have g2 : (L / 16777216 == 0) = false := beq_eq_false_iff_ne.2 (by omega)
    clear h1 h2
    go_enter Try.func29, Try.ntmps29
    go_wp2
    go_ret
    exact ⟨rfl, b0⟩
  have g2 : (L / 16777216 == 0) = true := by rw [beq_iff_eq]; omega
  by_cases h3 : s < 0
  · have e : okH L s = false := decide_eq_false (by omega)
    rw [e]
    have g3 : decide (0 ≤ s) = false := decide_eq_false (by omega)
    clear h1 h2
    go_enter Try.func29, Try.ntmps29
    go_wp2
    go_ret
    exact ⟨rfl, b0⟩
  have g3 : decide (0 ≤ s) = true := decide_eq_true (by omega)
  have s2 : 0 ≤ s := by omega
  by_cases h4 : 2147483648 ≤ s
  · have e : okH L s = false := decide_eq_false (by omega)
    rw [e]
    have g4 : (s / 2147483648 == 0) = false := beq_eq_false_iff_ne.2 (by omega)
    clear h1 h2 h3 h4
    go_enter Try.func29, Try.ntmps29
    go_wp2
    go_ret
    exact ⟨rfl, b0⟩
  have g4 : (s / 2147483648 == 0) = true := by rw [beq_iff_eq]; omega
  have e : okH L s = true := decide_eq_true (by omega)
  rw [e]
  clear h1 h2 h3 h4
  go_enter Try.func29, Try.ntmps29
  go_wp2
  go_ret
  exact ⟨rfl, b0⟩

set_option maxRecDepth 100000 in
theorem rHRight (L k f s : Int) (w : World) (L0 : -9223372036854775808 ≤ L) (L1 : L ≤ 9223372036854775807) (s0 : -9223372036854775808 ≤ s) (s1 : s ≤ 9223372036854775807) :
    Calls Try.prog 25 #[.agg #[.int .i64 L, .int .u8 k, .int .u8 f, .int .i64 s]] w (BoolP (okH L s) w) := by
  have b0 : Below w.heap.size w (w.alloc (.cells #[.int .i64 L, .int .u8 k, .int .u8 f, .int .i64 s] 23)) := (Below.refl _ _).alloc (Nat.le_refl _) _
  by_cases h1 : L < 0
  · have e : okH L s = false := decide_eq_false (by omega)
    rw [e]
    have g1 : decide (0 ≤ L) = false := decide_eq_false (by omega)
    go_enter Try.func25, Try.ntmps25
    go_wp2
    go_ret
    exact ⟨rfl, b0⟩
  have g1 : decide (0 ≤ L) = true := decide_eq_true (by omega)
  by_cases h2 : 16777216 ≤ L
  · have e : okH L s = false := decide_eq_false (by omega)
    rw [e]
    have g2 : decide (L < 16777216) = false := decide_eq_false (by omega)
    clear h1 h2
    go_enter Try.func25, Try.ntmps25
    go_wp2
    go_ret
    exact ⟨rfl, b0⟩
  have g2 : decide (L < 16777216) = true := decide_eq_true (by omega)
  by_cases h3 : s < 0
  · have e : okH L s = false := decide_eq_false (by omega)
    rw [e]
    have g3 : decide (0 ≤ s) = false := decide_eq_false (by omega)
    clear h1 h2
    go_enter Try.func25, Try.ntmps25
    go_wp2
    go_ret
    exact ⟨rfl, b0⟩
  have g3 : decide (0 ≤ s) = true := decide_eq_true (by omega)
  by_cases h4 : 2147483648 ≤ s
  · have e : okH L s = false := decide_eq_false (by omega)
    rw [e]
    have g4 : decide (s < 2147483648) = false := decide_eq_false (by omega)
    clear h1 h2 h3 h4
    go_enter Try.func25, Try.ntmps25
    go_wp2
    go_ret
    exact ⟨rfl, b0⟩
  have g4 : decide (s < 2147483648) = true := decide_eq_true (by omega)
  have e : okH L s = true := decide_eq_true (by omega)
  rw [e]
  clear h1 h2 h3 h4
  go_enter Try.func25, Try.ntmps25
  go_wp2
  go_ret
  exact ⟨rfl, b0⟩

/-- Are all of these flags set? -/
def hasB (f flag : Int) : Bool := f.toNat &&& flag.toNat == flag.toNat
theorem andNot_nat : ∀ a : Fin 256, ∀ b : Fin 256, (a.1 &&& (255 - b.1) == 0) = (b.1 &&& a.1 == a.1) := by decide +kernel
theorem hasNot (f flag : Int) (f0 : 0 ≤ f) (f1 : f ≤ 255) (g0 : 0 ≤ flag) (g1 : flag ≤ 255) : (bits .andNot .u8 flag f == 0) = hasB f flag := by
  obtain ⟨a, rfl⟩ := toNat_lit g0
  obtain ⟨b, rfl⟩ := toNat_lit f0
  rw [u8_andNot _ _ g0 (by omega) f0 (by omega)]
  have := andNot_nat ⟨a, by omega⟩ ⟨b, by omega⟩
  unfold hasB
  simp only [Int.toNat_natCast]
  rw [← this, Bool.eq_iff_iff]
  simp
set_option maxRecDepth 100000 in
theorem fHas (L k f s flag : Int) (w : World) (f0 : 0 ≤ f) (f1 : f ≤ 255) (g0 : 0 ≤ flag) (g1 : flag ≤ 255) :
    Calls Try.prog 77 #[.agg #[.int .i64 L, .int .u8 k, .int .u8 f, .int .i64 s], .int .u8 flag] w (BoolP (hasB f flag) w) := by
  have b0 : Below w.heap.size w (w.alloc (.cells #[.int .i64 L, .int .u8 k, .int .u8 f, .int .i64 s] 23)) := (Below.refl _ _).alloc (Nat.le_refl _) _
  have e := hasNot f flag f0 f1 g0 g1
  go_enter Try.func77, Try.ntmps77
  go_wp2
  go_ret
  exact ⟨rfl, b0⟩
end Go.Proofs.Ytnjnpnjjpodnnaa
/- Which kinds are known: the contracts. -/

namespace Go.Proofs.Ytnjnpnjjpodnnaa
open Go.RowKit Go.Shelf Go.ChangeMaps
set_option linter.unusedVariables false

def knownB (x : Int) : Bool := decide ((0 ≤ x ∧ x ≤ 9) ∨ x = 16)
abbrev u8V (x : Int) : Value := Value.int .u8 x
theorem rKnown (x : Int) (w : World) (x0 : 0 ≤ x) : Calls Try.prog 26 #[.int .u8 x] w (BoolP (knownB x) w) := by
  by_cases h1 : x ≤ 9
  · have e : knownB x = true := decide_eq_true (by omega)
    rw [e]
    go_enter Try.func26, Try.ntmps26
    go_wp2
    go_ret
    exact ⟨rfl, Below.refl _ _⟩
  have g1 : decide (x ≤ 9) = false := decide_eq_false h1
  by_cases h2 : x = 16
  · have e : knownB x = true := decide_eq_true (by omega)
    rw [e]
    have g2 : (x == 16) = true := by rw [beq_iff_eq]; exact h2
    clear h2 h1
    go_enter Try.func26, Try.ntmps26
    go_wp2
    go_ret
    exact ⟨rfl, Below.refl _ _⟩
  · have e : knownB x = false := decide_eq_false (by omega)
    rw [e]
    have g2 : (x == 16) = false := beq_eq_false_iff_ne.2 h2
    clear h2 h1
    go_enter Try.func26, Try.ntmps26
    go_wp2
    go_ret
    exact ⟨rfl, Below.refl _ _⟩
end Go.Proofs.Ytnjnpnjjpodnnaa
/- The taking of heads: the contracts. -/

namespace Go.Proofs.Ytnjnpnjjpodnnaa
open Go.RowKit Go.Shelf
set_option linter.unusedVariables false

def hL (l : List Int) : Int := if l.length < 9 then 0 else (takeO l 0 3).1
def hK (l : List Int) : Int := if l.length < 9 then 0 else l[3]?.getD 0
def hS (l : List Int) : Int := if l.length < 9 then 0 else streamO l 5
def hR (l : List Int) : List Int := if l.length < 9 then [] else l.drop 9
def hE (l : List Int) : Int := if l.length < 9 then 10 else 0
/-- Block b holds these four, and may be written. -/
def Blk4 (W : World) (b : Nat) (t : TypeId) (x0 x1 x2 x3 : Value) : Prop := W.heap[b]? = some (.cells #[x0, x1, x2, x3] t (0, 0))
section
variable {W W' : World} {b : Nat} {t : TypeId} {x0 x1 x2 x3 : Value}
theorem Blk4.lt (h : Blk4 W b t x0 x1 x2 x3) : b < W.heap.size := (Array.getElem?_eq_some_iff.1 h).1
theorem Blk4.below (h : Blk4 W b t x0 x1 x2 x3) (k : Below W.heap.size W W') : Blk4 W' b t x0 x1 x2 x3 := (k.block b h.lt).trans h
theorem Blk4.drew (h : Blk4 W b t x0 x1 x2 x3) : Blk4 W.drew b t x0 x1 x2 x3 := h
theorem Blk4.new (W : World) (t : TypeId) (x0 x1 x2 x3 : Value) : Blk4 (W.alloc (.cells #[x0, x1, x2, x3] t)) W.heap.size t x0 x1 x2 x3 := World.alloc_heap_new W _
theorem Blk4.alloc (h : Blk4 W b t x0 x1 x2 x3) (o : Obj) : Blk4 (W.alloc o) b t x0 x1 x2 x3 := (Below.heap_alloc W o b h.lt).trans h
theorem Blk4.cells (h : Blk4 W b t x0 x1 x2 x3) : W.cell? ⟨b, 0, none⟩ = some x0 ∧ W.cell? ⟨b, 1, none⟩ = some x1 ∧ W.cell? ⟨b, 2, none⟩ = some x2 ∧ W.cell? ⟨b, 3, none⟩ = some x3 := by
  have h' : W.heap[b]? = _ := h
  refine ⟨?_, ?_, ?_, ?_⟩ <;> simp [World.cell?, h']
/-- What is stored anew leaves the world as it is. -/
theorem set_again {W : World} {b i : Nat} {cs : Array Value} {t : TypeId} {fr : Nat × Nat} {v : Value} (h : W.heap[b]? = some (.cells cs t fr)) (hv : cs[i]? = some v) : W.setCell ⟨b, i, none⟩ v = W := by
  have e : cs.setIfInBounds i v = cs := by
    apply Array.ext_getElem?
    intro j
    rw [Array.getElem?_setIfInBounds]
    split
    · rename_i hij
      subst hij
      split
      · exact hv.symm
      · rename_i hlt
        rw [Array.getElem?_eq_none (by omega)]
    · rfl
  have hh : (W.setCell ⟨b, i, none⟩ v).heap = W.heap := by
    apply Array.ext_getElem?
    intro j
    by_cases hj : j = b
    · subst hj
      simp [World.setCell, Array.getElem?_modify, h, e]
    · exact Below.heap_setCell W ⟨b, i, none⟩ v j hj
  unfold World.setCell at hh ⊢
  simp only at hh ⊢
  rw [hh]
theorem Blk4.again (h : Blk4 W b t x0 x1 x2 x3) : W.setCell ⟨b, 0, none⟩ x0 = W ∧ W.setCell ⟨b, 1, none⟩ x1 = W ∧ W.setCell ⟨b, 2, none⟩ x2 = W ∧ W.setCell ⟨b, 3, none⟩ x3 = W :=
  ⟨set_again h rfl, set_again h rfl, set_again h rfl, set_again h rfl⟩
theorem Blk4.put (h : Blk4 W b t x0 x1 x2 x3) (y0 y1 y2 y3 : Value) : Blk4 ((((W.setCell ⟨b, 0, none⟩ y0).setCell ⟨b, 1, none⟩ y1).setCell ⟨b, 2, none⟩ y2).setCell ⟨b, 3, none⟩ y3) b t y0 y1 y2 y3 := by
  have h' : W.heap[b]? = _ := h
  simp [Blk4, World.setCell, Array.getElem?_modify, h']
theorem Blk4.frozen (h : Blk4 W b t x0 x1 x2 x3) (i : Nat) : W.frozen? ⟨b, i, none⟩ = false := by
  have h' : W.heap[b]? = _ := h
  simp [World.frozen?, h']
end

end Go.Proofs.Ytnjnpnjjpodnnaa
/- The document's taking of heads: the contract. -/

namespace Go.Proofs.Ytnjnpnjjpodnnaa
open Go.RowKit Go.Shelf
set_option linter.unusedVariables false

end Go.Proofs.Ytnjnpnjjpodnnaa
/- The contract of head.Whole. -/

namespace Go.Proofs.Ytnjnpnjjpodnnaa
open Go.RowKit Go.Shelf
set_option linter.unusedVariables false

theorem draw_bel (B : Nat) (W : World) : Below B W W.drew := ⟨rfl, rfl, rfl, Nat.le_refl _, fun _ _ => rfl⟩

end Go.Proofs.Ytnjnpnjjpodnnaa
/- The contract of head.Whole, in the taken head's words. -/

namespace Go.Proofs.Ytnjnpnjjpodnnaa
open Go.RowKit Go.Shelf
set_option linter.unusedVariables false

end Go.Proofs.Ytnjnpnjjpodnnaa
/- The document's putting of heads: the contract. -/

namespace Go.Proofs.Ytnjnpnjjpodnnaa
open Go.RowKit Go.Shelf
set_option linter.unusedVariables false

def putH (L k f s : Int) : List Int := if okH L s then bigE 3 L.toNat ++ [k, f] ++ bigE 4 s.toNat else []
def putHe (L s : Int) : Int := if okH L s then 0 else 2
def PutHP (L k f s : Int) (w : World) (e : Ending) (W' : World) : Prop :=
  (∃ A m c, e = .returned (.tuple #[.slice A m c, .int .i64 (putHe L s)]) ∧ Mine w.heap.size W' A m c (putH L k f s)) ∧ Below w.heap.size w W'

end Go.Proofs.Ytnjnpnjjpodnnaa
/- The contract of the statements' own same. -/

namespace Go.Proofs.Ytnjnpnjjpodnnaa
open Go.RowKit Go.Shelf
set_option linter.unusedVariables false

end Go.Proofs.Ytnjnpnjjpodnnaa
/- The document's Whole: the walk (under way). -/

namespace Go.Proofs.Ytnjnpnjjpodnnaa
open Go.RowKit Go.Shelf
set_option linter.unusedVariables false

end Go.Proofs.Ytnjnpnjjpodnnaa
/- The contract of the document's Whole. -/

namespace Go.Proofs.Ytnjnpnjjpodnnaa
open Go.RowKit Go.Shelf
set_option linter.unusedVariables false

end Go.Proofs.Ytnjnpnjjpodnnaa
/- The iterator over a head's numbers. -/

namespace Go.Proofs.Ytnjnpnjjpodnnaa
open Go.RowKit Go.Shelf
set_option linter.unusedVariables false

abbrev Part := { x : Nat × Nat // x.1 < 4294967296 ∧ x.2 ≤ 4 }
def part (n c : Nat) (h : n < 4294967296) (h' : c ≤ 4) : Part := ⟨(n, c), h, h'⟩
def partsL (L k f s : Nat) (hL : L < 4294967296) (hk : k < 4294967296) (hf : f < 4294967296) (hs : s < 4294967296) : List Part := [part L 3 hL (by decide), part k 1 hk (by decide), part f 1 hf (by decide), part s 4 hs (by decide)]
def encP (x : Part) : Array Value := #[.int .u64 x.1.1, .int .i64 (8 * (x.1.2 : Int))]
theorem encP_part (n c : Nat) (h : n < 4294967296) (h' : c ≤ 4) (b : Int) (hb : 8 * (c : Int) = b) : encP (part n c h h') = #[.int .u64 n, .int .i64 b] := by subst hb; rfl

set_option maxRecDepth 100000 in
set_option maxHeartbeats 1000000 in
theorem parts1_in (n : Nat) (hn : 1 ≤ n) (l Bh : Nat) (L k f s : Nat) (hL : L < 4294967296) (hk : k < 4294967296) (hf : f < 4294967296) (hs : s < 4294967296) (L1 : L < 16777216) (k0 : k ≤ 255) (f0 : f ≤ 255) (s1 : s < 2147483648)
    (J Jx : List Part → World → Prop)
    (hY : ∀ pre x W, J pre W → pre.length < 4 → YieldAt Fence.wide (n - 1) Try.prog l (encP x) W fun e W' =>
      (e = .returned (.bool true) ∧ J (pre ++ [x]) W' ∧ Same1 Bh W W') ∨ (e = .returned (.bool false) ∧ Jx (pre ++ [x]) W'))
    (W : World) (hb : Blk4 W Bh 23 (.int .i64 L) (.int .u8 k) (.int .u8 f) (.int .i64 s)) (h0 : J [] W) :
    CallsIn Fence.wide n Try.prog 96 #[.func (.yield l) #[] #[], .pointer (some ⟨Bh, 0, none⟩)] W fun e W' => (∃ v, e = .returned v) ∧
      ((∃ ys, ys = partsL L k f s hL hk hf hs ∧ J ys W') ∨ (∃ pre : List Part, True ∧ Jx pre W')) := by
  refine callsIn_of_wp Try.func96 rfl trivial ?_ rfl
  simp only [Try.ntmps96, List.size_toArray, List.length_cons, List.length_nil, Nat.reduceAdd, Nat.reduceSub, Array.replicate_succ, Array.replicate_zero, List.push_toArray, List.append_toArray, List.nil_append, List.cons_append]
  obtain ⟨d0, d1, d2, d3⟩ := hb.cells
  have HB := Lib.hid hb
  clear hb
  obtain ⟨fn1, tmps1, assign1, body1, hyy1, hR1⟩ := hY [] (part L 3 hL (by decide)) W h0 (by decide)
  rw [encP_part _ _ _ _ 24 (by decide)] at hyy1
  gi_wp2
  refine hR1.mono ?_
  rintro e W1 (⟨rfl, hJ1, hk1⟩ | ⟨rfl, hJx1⟩)
  case inr =>
    gi_wp2
    repeat (refine ⟨(by intro f h; cases h), ?_⟩; try gi_wp2)
    go_end0
    exact ⟨⟨_, rfl⟩, .inr ⟨_, trivial, hJx1⟩⟩
  have q1 : Blk4 W1 Bh 23 (.int .i64 L) (.int .u8 k) (.int .u8 f) (.int .i64 s) := Eq.trans hk1 HB.out
  clear hyy1 hR1 d0 d1 d2 d3 hk1
  obtain ⟨d0, d1, d2, d3⟩ := q1.cells
  have Q1 := Lib.hid q1
  clear q1
  obtain ⟨fn2, tmps2, assign2, body2, hyy2, hR2⟩ := hY [part L 3 hL (by decide)] (part k 1 hk (by decide)) W1 hJ1 (by simp)
  rw [encP_part _ _ _ _ 8 (by decide)] at hyy2
  gi_wp2
  refine hR2.mono ?_
  rintro e W2 (⟨rfl, hJ2, hk2⟩ | ⟨rfl, hJx2⟩)
  case inr =>
    gi_wp2
    repeat (refine ⟨(by intro f h; cases h), ?_⟩; try gi_wp2)
    go_end0
    exact ⟨⟨_, rfl⟩, .inr ⟨_, trivial, hJx2⟩⟩
  have q2 : Blk4 W2 Bh 23 (.int .i64 L) (.int .u8 k) (.int .u8 f) (.int .i64 s) := Eq.trans hk2 Q1.out
  clear hyy2 hR2 d0 d1 d2 d3 hk2
  obtain ⟨d0, d1, d2, d3⟩ := q2.cells
  have Q2 := Lib.hid q2
  clear q2
  obtain ⟨fn3, tmps3, assign3, body3, hyy3, hR3⟩ := hY [part L 3 hL (by decide), part k 1 hk (by decide)] (part f 1 hf (by decide)) W2 hJ2 (by simp)
  rw [encP_part _ _ _ _ 8 (by decide)] at hyy3
  gi_wp2
  refine hR3.mono ?_
  rintro e W3 (⟨rfl, hJ3, hk3⟩ | ⟨rfl, hJx3⟩)
  case inr =>
    gi_wp2
    repeat (refine ⟨(by intro f h; cases h), ?_⟩; try gi_wp2)
    go_end0
    exact ⟨⟨_, rfl⟩, .inr ⟨_, trivial, hJx3⟩⟩
  have q3 : Blk4 W3 Bh 23 (.int .i64 L) (.int .u8 k) (.int .u8 f) (.int .i64 s) := Eq.trans hk3 Q2.out
  clear hyy3 hR3 d0 d1 d2 d3 hk3
  obtain ⟨d0, d1, d2, d3⟩ := q3.cells
  have Q3 := Lib.hid q3
  clear q3
  obtain ⟨fn4, tmps4, assign4, body4, hyy4, hR4⟩ := hY [part L 3 hL (by decide), part k 1 hk (by decide), part f 1 hf (by decide)] (part s 4 hs (by decide)) W3 hJ3 (by simp)
  rw [encP_part _ _ _ _ 32 (by decide)] at hyy4
  gi_wp2
  refine hR4.mono ?_
  rintro e W4 (⟨rfl, hJ4, hk4⟩ | ⟨rfl, hJx4⟩)
  case inr =>
    gi_wp2
    repeat (refine ⟨(by intro f h; cases h), ?_⟩; try gi_wp2)
    go_end0
    exact ⟨⟨_, rfl⟩, .inr ⟨_, trivial, hJx4⟩⟩
  gi_wp2
  go_end0
  exact ⟨⟨_, rfl⟩, .inl ⟨_, rfl, hJ4⟩⟩

theorem parts_stops (n : Nat) (hn : 1 ≤ n) (Bh : Nat) (L k f s : Nat) (hL : L < 4294967296) (hk : k < 4294967296) (hf : f < 4294967296) (hs : s < 4294967296) (L1 : L < 16777216) (k0 : k ≤ 255) (f0 : f ≤ 255) (s1 : s < 2147483648) (w : World)
    (hb : Blk4 w Bh 23 (.int .i64 L) (.int .u8 k) (.int .u8 f) (.int .i64 s)) :
    SeqP (fun _ => False) Fence.wide n Try.prog 96 #[.pointer (some ⟨Bh, 0, none⟩)] encP (Same1 Bh) (fun ys => ys = partsL L k f s hL hk hf hs) (fun _ => True) 4 w :=
  fun l J Jx W hW hJ _ hJp hY h0 => parts1_in n hn l Bh L k f s hL hk hf hs L1 k0 f0 s1 J Jx hY W (hb.below hW) h0

set_option maxHeartbeats 1000000 in
theorem parts_in (n : Nat) (L k f s : Int) (w : World) :
    CallsIn Fence.wide n Try.prog 57 #[.agg #[.int .i64 L, .int .u8 k, .int .u8 f, .int .i64 s]] w fun e w' => e = .returned (.func (.func 96) #[] #[.pointer (some ⟨w.heap.size, 0, none⟩)]) ∧ w' = w.alloc (.cells #[.int .i64 L, .int .u8 k, .int .u8 f, .int .i64 s] 23) := by
  refine callsIn_of_wp Try.func57 rfl trivial ?_ rfl
  simp only [Try.ntmps57, List.size_toArray, List.length_cons, List.length_nil, Nat.reduceAdd, Nat.reduceSub, Array.replicate_succ, Array.replicate_zero, List.push_toArray, List.append_toArray, List.nil_append, List.cons_append]
  gi_wp2
  go_ret
  exact ⟨by simp, rfl⟩
end Go.Proofs.Ytnjnpnjjpodnnaa
/- The contract of head.Put . -/

namespace Go.Proofs.Ytnjnpnjjpodnnaa
open Go.RowKit Go.Shelf
attribute [local go_sem] Oper.semAt_some
set_option linter.unusedVariables false

set_option maxRecDepth 100000 in
set_option maxHeartbeats 1000000 in
theorem fputHNo (L k f s : Int) (w : World) (L0 : -9223372036854775808 ≤ L) (L1 : L ≤ 9223372036854775807) (s0 : -9223372036854775808 ≤ s) (s1 : s ≤ 9223372036854775807) (ok : okH L s = false) :
    Calls Try.prog 36 #[.agg #[.int .i64 L, .int .u8 k, .int .u8 f, .int .i64 s]] w fun e W' => e = .returned (.tuple #[.slice none 0 0, .int .i64 2]) ∧ Below w.heap.size w W' := by
  have b0 : Bel w ((w.alloc (.cells #[.int .i64 L, .int .u8 k, .int .u8 f, .int .i64 s] 23)).alloc (.cells #[.slice none 0 0] 24)) := ((Bel.refl w).alloc _).alloc _
  have q0 := Boxed.new (w.alloc (.cells #[.int .i64 L, .int .u8 k, .int .u8 f, .int .i64 s] 23)) 24 (.slice none 0 0)
  rw [World.size_alloc] at q0
  have hr := fun W => fHRight L k f s W L0 L1 s0 s1
  rw [ok] at hr
  have HR := Lib.hid hr
  have Q0 := Lib.hid q0
  clear hr ok q0
  go_enter Try.func36, Try.ntmps36
  go_wp2_with (go_at_call 29; refine (HR.out _).mono ?_; rintro e w1 ⟨rfl, hb⟩; replace b0 := b0.step hb; have q1 : Boxed w1 (w.heap.size + 1) 24 (.slice none 0 0) := (hb.block _ Q0.out.lt).trans Q0.out; have z0 := q1.cell; have z1 := q1.frozen)
  have q2 := q1.set (.slice none 0 0)
  have z2 := q2.cell
  have b2 := b0.out.setCell (p := ⟨w.heap.size + 1, 0, none⟩) (by simp) (.slice none 0 0)
  exact bodyPost_ret (v := .tuple #[.slice none 0 0, .int .i64 2]) (by simp [results, Try.f36, go_sem, z2]) rfl ⟨rfl, b2⟩

theorem bigE_take (c n : Nat) {j : Nat} (hj : j < c) : (bigE c n).take (j + 1) = (bigE c n).take j ++ [((n / 256 ^ (c - 1 - j) % 256 : Nat) : Int)] := by
  have h2 : j < (bigE c n).length := by rw [bigE_len]; exact hj
  rw [List.take_succ_eq_append_getElem h2]
  have := bigE_get c n hj
  rw [List.getElem?_eq_getElem h2] at this
  simp at this
  rw [this]
  simp
theorem Blk4.not_row {W : World} {b : Nat} {t : TypeId} {x0 x1 x2 x3 : Value} (h : Blk4 W b t x0 x1 x2 x3) (ht : t ≠ 5) {base : Nat} {A : Option Addr} {n c : Nat} {l : List Int} (hm : Mine base W A n c l) (g : Nat) (e : A = some ⟨g, 0, none⟩) : g ≠ b := fun eg => by
  subst eg
  rcases hm.1.2 with ⟨e', _⟩ | ⟨g', cap, cur, e', _, hg, _⟩
  · rw [e] at e'; simp at e'
  · rw [e] at e'
    simp at e'
    obtain ⟨rfl, _⟩ := e'
    have h' : W.heap[g]? = _ := h
    rw [h'] at hg
    simp at hg
    exact ht hg.2
theorem Blk4.setFar {W : World} {b : Nat} {t : TypeId} {x0 x1 x2 x3 : Value} (h : Blk4 W b t x0 x1 x2 x3) {p : Addr} (hp : b ≠ p.block) (v : Value) : Blk4 (W.setCell p v) b t x0 x1 x2 x3 := (Below.heap_setCell W p v b hp).trans h
/-- The bytes of a head's numbers. -/
def partsB (l : List Part) : List Int := l.flatMap fun x => bigE x.1.2 x.1.1
theorem partsB_snoc (l : List Part) (x : Part) : partsB (l ++ [x]) = partsB l ++ bigE x.1.2 x.1.1 := by simp [partsB]
theorem partsB_len (l : List Part) : (partsB l).length ≤ 4 * l.length := by
  induction l with
  | nil => simp [partsB]
  | cons x l ih =>
    have : partsB (x :: l) = bigE x.1.2 x.1.1 ++ partsB l := by simp [partsB]
    rw [this, List.length_append, bigE_len, List.length_cons]
    have := x.2.2
    omega
theorem bigE_one (k : Nat) (h : k ≤ 255) : bigE 1 k = [(k : Int)] := by
  simp [bigE, List.range_succ]
  omega
theorem partsB_all (L k f s : Nat) (hL : L < 4294967296) (hk : k < 4294967296) (hf : f < 4294967296) (hs : s < 4294967296) (k0 : k ≤ 255) (f0 : f ≤ 255) :
    partsB (partsL L k f s hL hk hf hs) = bigE 3 L ++ [(k : Int), (f : Int)] ++ bigE 4 s := by
  simp [partsB, partsL, part, bigE_one k k0, bigE_one f f0]

set_option maxRecDepth 100000 in
set_option maxHeartbeats 1000000 in
theorem put_in (L k f s : Nat) (w : World) (L1 : L < 16777216) (s1 : s < 2147483648) (k0 : k ≤ 255) (f0 : f ≤ 255) (ok : okH L s = true) :
    CallsIn Fence.wide 3 Try.prog 36 #[.agg #[.int .i64 L, .int .u8 k, .int .u8 f, .int .i64 s]] w fun e W' => (∃ A m c, e = .returned (.tuple #[.slice A m c, .int .i64 0]) ∧ Mine w.heap.size W' A m c (bigE 3 L ++ [(k : Int), (f : Int)] ++ bigE 4 s)) ∧ Below w.heap.size w W' := by
  have hr := fun W => fHRight L k f s W (by omega) (by omega) (by omega) (by omega)
  rw [ok] at hr
  have HR := Lib.hid hr
  have q0 := (Blk4.new w 23 (.int .i64 L) (.int .u8 k) (.int .u8 f) (.int .i64 s)).alloc (.cells #[.slice none 0 0] 24)
  have x0 := Boxed.new (w.alloc (.cells #[.int .i64 L, .int .u8 k, .int .u8 f, .int .i64 s] 23)) 24 (.slice none 0 0)
  have b0 : Bel w ((w.alloc (.cells #[.int .i64 L, .int .u8 k, .int .u8 f, .int .i64 s] 23)).alloc (.cells #[.slice none 0 0] 24)) := ((Bel.refl w).alloc _).alloc _
  rw [World.size_alloc] at x0
  have Q0 := Lib.hid q0
  have X0 := Lib.hid x0
  clear hr ok q0 x0
  refine callsIn_of_wp_marks Try.func36 rfl trivial ?_ rfl
  simp only [Try.ntmps36, List.size_toArray, List.length_cons, List.length_nil, Nat.reduceAdd, Nat.reduceSub, Array.replicate_succ, Array.replicate_zero, List.push_toArray, List.append_toArray, List.nil_append, List.cons_append]
  gi_wp2_with (first
    | (refine ⟨trivial, ?_⟩; gi_at_call 29; refine (callsIn_wide.2 (HR.out _)).mono ?_; rintro e w1 ⟨rfl, hb⟩; replace b0 := b0.step hb; have q1 := Q0.out.below hb; obtain ⟨z0, z1, z2, z3⟩ := q1.cells; have x1 : Boxed w1 (w.heap.size + 1) 24 (.slice none 0 0) := (hb.block _ X0.out.lt).trans X0.out)
    | (refine ⟨trivial, ?_⟩; gi_at_call 57; refine (parts_in _ _ _ _ _ _).mono ?_; rintro e w' ⟨rfl, rfl⟩))
  clear z0 z1 z2 z3 q1
  have hxlt := x1.lt
  have p0 := Blk4.new w1 23 (.int .i64 L) (.int .u8 k) (.int .u8 f) (.int .i64 s)
  have p1 := x1.alloc (.cells #[.int .i64 L, .int .u8 k, .int .u8 f, .int .i64 s] 23)
  have p2 : Below w.heap.size w (w1.alloc (.cells #[.int .i64 L, .int .u8 k, .int .u8 f, .int .i64 s] 23)) := (b0.alloc _).out
  have psz : (w1.alloc (.cells #[.int .i64 L, .int .u8 k, .int .u8 f, .int .i64 s] 23)).heap.size = w1.heap.size + 1 := by simp
  obtain ⟨Bh, hBh⟩ : ∃ Bh, Bh = w1.heap.size := ⟨_, rfl⟩
  rw [← hBh] at p0 hxlt psz ⊢
  clear b0 x1 HR Q0 X0
  generalize w1.alloc (.cells #[.int .i64 L, .int .u8 k, .int .u8 f, .int .i64 s] 23) = W0 at *
  clear hBh
  have kept4 : ∀ {X Y : World} {row : Option Nat}, Blk4 X Bh 23 (.int .i64 L) (.int .u8 k) (.int .u8 f) (.int .i64 s) → X.grownBy Y row → (∀ r, row = some r → ∃ o : Obj, X.heap[r]? = some o ∧ o.isCells = false) → Blk4 Y Bh 23 (.int .i64 L) (.int .u8 k) (.int .u8 f) (.int .i64 s) :=
    fun h hg hr => (grownBy_keeps_cells hg hr h rfl).trans h
  refine wpIn_range_priv rfl (by decide) (Pv := fun _ => False) (gf := 96) (lb := #[.pointer (some ⟨Bh, 0, none⟩)]) rfl trivial (enters_of Try.func96 (by kernel_rfl) rfl)
    (fun b hb => hb.elim) (parts_stops 2 (by decide) Bh L k f s (by omega) (by omega) (by omega) (by omega) L1 k0 f0 s1 _ p0) (fun h k => Same1.trans h k) (Same1.put (by omega)) (fun _ => rfl)
    (fun pre W => (∃ A c, Boxed W (w.heap.size + 1) 24 (.slice A (partsB pre).length c) ∧ Mine w.heap.size W A (partsB pre).length c (partsB pre)) ∧ Blk4 W Bh 23 (.int .i64 L) (.int .u8 k) (.int .u8 f) (.int .i64 s) ∧ Below w.heap.size w W)
    (fun _ _ _ => False)
    (fun s X Y row hs hg hr => by
      obtain ⟨⟨A, c, hb, hmn⟩, hv, hbel⟩ := hs
      exact ⟨⟨A, c, boxed_keptN hb hg (fun r e => (hr r e).2), hmn.keptN hg (fun r e => (hr r e).2)⟩, kept4 hv hg (fun r e => (hr r e).2), hbel.grown hg hbel.size (fun r e => by have := (hr r e).1; have := p2.size; omega)⟩)
    (fun _ _ _ _ _ hs _ _ => hs)
    ?priv ?start ?round ?done ?stop
  case priv => exact fun b hb => hb.elim
  case start => exact ⟨⟨none, 0, p1, Mine.nil _ _⟩, p0, p2⟩
  case round =>
    intro y
    obtain ⟨⟨v, cnt⟩, hy, hcnt⟩ := y
    simp only at hy hcnt
    simp only [encP]
    constructor
    constructor
    · intro l W K hK
      gi_wp2
      exact hK
    · rintro l pre W ⟨⟨A, c, hb, hmn⟩, hv, hbel⟩ hlen
      have hpl := partsB_len pre
      have hpl2 : (partsB pre).length ≤ 16 := by omega
      clear hpl
      have Hsn := Lib.hid (partsB_snoc pre ⟨(v, cnt), hy, hcnt⟩)
      generalize partsB pre = P at *
      gi_wp2
      gi_loopw [5] (fun b wr => ∃ m : Nat, m ≤ cnt ∧ b = .int .i64 (8 * (m : Int) - 8) ∧ (∃ A c, Boxed wr (w.heap.size + 1) 24 (.slice A (P.length + (cnt - m)) c) ∧ Mine w.heap.size wr A (P.length + (cnt - m)) c (P ++ (bigE cnt v).take (cnt - m))) ∧ Blk4 wr Bh 23 (.int .i64 L) (.int .u8 k) (.int .u8 f) (.int .i64 s) ∧ Below w.heap.size w wr ∧ KeepsOthers W wr)
        (fun b _ => (intOf b + 8).toNat)
      case atStart => exact ⟨cnt, Nat.le_refl _, rfl, ⟨A, c, by simpa using hb, by simpa using hmn⟩, hv, hbel, KeepsOthers.refl _⟩
      case round =>
        obtain ⟨m, hm, rfl, ⟨A', c', hb', hm'⟩, hv', hbel', hk'⟩ := hrel
        rcases m with _ | m
        · rw [show (8 * ((0 : Nat) : Int) - 8) = -8 by omega]
          gi_wp2
          have hall : (bigE cnt v).take (cnt - 0) = bigE cnt v := List.take_of_length_le (by rw [bigE_len]; exact Nat.le_refl _)
          rw [hall] at hm'
          have hln := hm'.len
          rw [Nat.sub_zero] at hm' hb'
          refine ⟨hk'.from _, Eq.trans hv' (Eq.symm hv), ⟨A', c', ?_, ?_⟩, hv', hbel'⟩
          · rw [Hsn.out]
            rw [List.length_append, bigE_len]; exact hb'
          · rw [Hsn.out]
            rw [List.length_append, bigE_len]; exact hm'
        · rw [show (8 * ((m + 1 : Nat) : Int) - 8) = 8 * (m : Int) by omega]
          have hz := hb'.cell
          have HB := Lib.hid hb'
          have HV := Lib.hid hv'
          clear hb' hv'
          gi_wp2
          have hz1 : wr.drew.cell? ⟨w.heap.size + 1, 0, none⟩ = some (.slice A' (P.length + (cnt - (m + 1))) c') := hz
          refine wpIn_region_GR (fun w' => w'.cell? ⟨w.heap.size + 1, 0, none⟩ = some (.slice A' (P.length + (cnt - (m + 1))) c')) [7] (by kernel_rfl) (by kernel_rfl) (fun ⟨_, _, h⟩ => h) ?_
          refine wpAnyG_take 0 (v := ?_) rfl (by kernel_rfl) (fun _ _ _ h => h) hz1 (Or.inl ⟨by rfl, by intro w' hSw; (try dsimp only at hSw); go_simp; try with_reducible rfl⟩) ?_; (try simp only [Act.put, go_sem])
          refine wpAnyG_take 1 (v := ?_) rfl (by kernel_rfl) (fun _ _ _ h => h) hz1 (Or.inl ⟨by rfl, by intro w' hSw; (try dsimp only at hSw); go_simp; try with_reducible rfl⟩) ?_; (try simp only [Act.put, go_sem])
          refine wpAnyG_take 2 (v := ?_) rfl (by kernel_rfl) (fun _ _ _ h => h) hz1 (Or.inl ⟨by rfl, by intro w' hSw; (try dsimp only at hSw); go_simp; try with_reducible rfl⟩) ?_; (try simp only [Act.put, go_sem])
          refine wpAnyG_take 3 (v := ?_) rfl (by kernel_rfl) (fun _ _ _ h => h) hz1 (Or.inl ⟨by rfl, by intro w' hSw; (try dsimp only at hSw); go_simp; try with_reducible rfl⟩) ?_; (try simp only [Act.put, go_sem])
          refine wpAnyG_take 4 (v := ?_) rfl (by kernel_rfl) (fun _ _ _ h => h) hz1 (Or.inl ⟨by rfl, by intro w' hSw; (try dsimp only at hSw); go_simp; try with_reducible rfl⟩) ?_; (try simp only [Act.put, go_sem])
          have h8 : (8 * (m : Int)).toNat = 8 * m := by omega
          have hyv : IntKind.u8.wrap ((v : Int) / 2 ^ (8 * m)) = ((v / 256 ^ m % 256 : Nat) : Int) := by rw [pow256]; simp [IntKind.wrap, IntKind.bits, IntKind.signed]
          simp only [h8, hyv]
          have htk : (bigE cnt v).take (cnt - m) = (bigE cnt v).take (cnt - (m + 1)) ++ [((v / 256 ^ m % 256 : Nat) : Int)] := by
            have := bigE_take cnt v (j := cnt - (m + 1)) (by omega)
            rw [show cnt - (m + 1) + 1 = cnt - m by omega, show cnt - 1 - (cnt - (m + 1)) = m by omega] at this
            exact this
          have hyb : 0 ≤ ((v / 256 ^ m % 256 : Nat) : Int) ∧ ((v / 256 ^ m % 256 : Nat) : Int) ≤ 255 := by omega
          have Htk := Lib.hid htk
          clear h8 hyv htk
          generalize ((v / 256 ^ m % 256 : Nat) : Int) = y at *
          have hlen1 : P.length + (cnt - (m + 1)) + 1 = P.length + (cnt - m) := by omega
          have Hln := Lib.hid hlen1
          clear hlen1
          refine wpAnyG_one 5 (by kernel_rfl) rfl (fun K hK => ?_)
          go_simp
          refine hK.out _ _ (fun _ => (World.cell?_alloc_lt wr _ ⟨w.heap.size + 1, 0, none⟩ HB.out.lt).trans hz) ?_
          clear hK K
          refine wpAnyG_one 6 (by kernel_rfl) rfl (fun K hK => ?_)
          refine step_app1 wr.drew rfl (.tmp 19) (.tmp 24) rfl w.heap.size A' _ c' _ rfl hm'.drew y rfl (by rfl) hyb (by omega) hbel'.size ?_
          intro A2 c2 w2 hown2' hgr2
          obtain ⟨g1, g2, g3, g4, g5⟩ := Boxed.appended (W := wr.drew) HB.out (by decide) hm'.drew.1 hbel'.size (by omega) hown2'.1 hgr2
          have hcc := g1.cell
          have hff := g1.frozen
          refine hK.out _ _ (fun _ => hcc) ?_
          clear hK K
          refine wpAnyG_one 7 (by kernel_rfl) rfl (fun K hK => ?_)
          go_simp
          refine hK.out _ _ (fun h => by simp at h) ?_
          clear hK K
          refine wpAnyG_done (by kernel_rfl) ?_ _
          gi_wp2
          have hv2 : Blk4 w2 Bh 23 (.int .i64 L) (.int .u8 k) (.int .u8 f) (.int .i64 s) := by
            refine Eq.trans (hgr2.block Bh (by have := HV.out.lt; simp; omega) (fun e => ?_)) ((HV.out.drew).alloc _)
            rcases hm'.cases with ⟨rfl, _⟩ | ⟨g, rfl, _, _, _⟩
            · simp [Value.ownBlock] at e
            · simp [Value.ownBlock] at e
              exact Blk4.not_row HV.out (by decide) hm' _ rfl e.symm
          have hv3 := hv2.setFar (p := ⟨w.heap.size + 1, 0, none⟩) (by simp; omega) (.slice A2 (P.length + (cnt - (m + 1)) + 1) c2)
          refine ⟨⟨m, by omega, rfl, ⟨A2, c2, ?_, ?_⟩, hv3, hbel'.trans (Below.trans (draw_bel _ _) g5), hk'.trans ((KeepsOthers.drew _).trans g4)⟩, by simp [intOf]; omega⟩
          · rw [← Hln.out]; exact g2
          · rw [← Hln.out, Htk.out, ← List.append_assoc]; exact ⟨g3, hown2'.2⟩
  case done =>
    rintro D ys W hD hys ⟨⟨A, c, hb, hmn⟩, hv, hbel⟩ hK
    have hcb := hb.cell
    have hfb := hb.frozen
    have hl : partsB ys = bigE 3 L ++ [(k : Int), (f : Int)] ++ bigE 4 s := by rw [hys]; exact partsB_all L k f s _ _ _ _ k0 f0
    rw [hl] at hb hmn hcb
    generalize hP : bigE 3 L ++ [(k : Int), (f : Int)] ++ bigE 4 s = P at *
    have HP := Lib.hid hP
    clear hP hl
    gi_wp2
    have hK' := (KeepsOthers.setCell W ⟨w.heap.size + 1, 0, none⟩ (.slice A P.length c)).same D _ hK rfl
    refine ⟨by simp, .inl ⟨_, _, rfl, run_takeDeferred hK', ?_⟩⟩
    have hc5 := cell_kept (hb.set (.slice A P.length c)).cell (grownBy_putObj' _ D (.deferred none)) (fun r e => by cases e; exact ⟨_, hK', rfl⟩)
    refine ⟨.tuple #[.slice A P.length c, .int .i64 0], by simp [results, Try.f36, go_sem, hc5], ⟨A, P.length, c, rfl, ?_⟩, ?_⟩
    · rw [HP.out]
      exact (hmn.box hb (by decide) (.slice A P.length c)).keptN (grownBy_putObj' _ D (.deferred none)) (fun r e => by cases e; exact ⟨_, hK', rfl⟩)
    · exact (hbel.setCell (p := ⟨w.heap.size + 1, 0, none⟩) (by simp) _).trans (belowK_b (w := w) (Nat.le_refl _) _ D _ _ (by have := p2.size; omega) hK' rfl rfl)
  case stop =>
    rintro D c pre W _ _ h _
    exact h.elim

theorem fHPut (L k f s : Int) (w : World) (L0 : -9223372036854775808 ≤ L) (L1 : L ≤ 9223372036854775807) (s0 : -9223372036854775808 ≤ s) (s1 : s ≤ 9223372036854775807) (k0 : 0 ≤ k ∧ k ≤ 255) (f0 : 0 ≤ f ∧ f ≤ 255) :
    Calls Try.prog 36 #[.agg #[.int .i64 L, .int .u8 k, .int .u8 f, .int .i64 s]] w (PutHP L k f s w) := by
  unfold PutHP putH putHe
  cases ok : okH L s
  · refine (fputHNo L k f s w L0 L1 s0 s1 ok).mono ?_
    rintro e W' ⟨rfl, hb⟩
    exact ⟨⟨none, 0, 0, rfl, Mine.nil _ _⟩, hb⟩
  · have yes := of_decide_eq_true ok
    obtain ⟨L, rfl⟩ := toNat_lit yes.1
    obtain ⟨s, rfl⟩ := toNat_lit yes.2.2.1
    obtain ⟨k, rfl⟩ := toNat_lit k0.1
    obtain ⟨f, rfl⟩ := toNat_lit f0.1
    refine (callsIn_wide.1 (put_in L k f s w (by omega) (by omega) (by omega) (by omega) ok)).mono ?_
    rintro e W' ⟨⟨A, m, c, rfl, hm⟩, hb⟩
    exact ⟨⟨A, m, c, rfl, by simpa using hm⟩, hb⟩
end Go.Proofs.Ytnjnpnjjpodnnaa
/- The statements' own wakes returns true. -/

namespace Go.Proofs.Ytnjnpnjjpodnnaa
open Go.RowKit Go.Shelf
set_option linter.unusedVariables false

instance : DecidablePred Bs := fun l => inferInstanceAs (Decidable (∀ x ∈ l, 0 ≤ x ∧ x ≤ 255))

end Go.Proofs.Ytnjnpnjjpodnnaa
/- What is put is taken, what is taken is put: the plain law of heads. -/

namespace Go.Proofs.Ytnjnpnjjpodnnaa
open Go.RowKit Go.Shelf
set_option linter.unusedVariables false

end Go.Proofs.Ytnjnpnjjpodnnaa
