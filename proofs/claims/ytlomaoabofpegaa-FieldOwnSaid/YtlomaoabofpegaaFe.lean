/- The last value of a setting: the contracts. -/
import Derived.Test.YtlomaoabofpegaaPr
namespace Go.Proofs.Ytlomaoabofpegaa
open Go.RowKit Go.Shelf
set_option linter.unusedVariables false

def lastF (l : List (Int × Int)) (id : Int) : Int × Bool := l.foldl (fun s p => if p.1 = id then (p.2, true) else s) (0, false)
theorem lastF_snoc (l : List (Int × Int)) (p : Int × Int) (id : Int) : lastF (l ++ [p]) id = if p.1 = id then (p.2, true) else lastF l id := by
  unfold lastF
  rw [List.foldl_append]
  rfl
theorem lastF_take (l : List (Int × Int)) (id : Int) {k : Nat} (hk : k < l.length) : lastF (l.take (k + 1)) id = if pid l k = id then (pva l k, true) else lastF (l.take k) id := by
  rw [List.take_succ_eq_append_getElem hk, lastF_snoc]
  unfold pid pva
  rw [List.getElem?_eq_getElem hk]
  rfl
theorem lastF_none (l : List (Int × Int)) (id : Int) : ∀ m k, k + m = l.length → (∀ j, k ≤ j → j < l.length → pid l j ≠ id) → lastF l id = lastF (l.take k) id := by
  intro m
  induction m with
  | zero => intro k hk _; rw [List.take_of_length_le (by omega)]
  | succ m ih =>
    intro k hk h
    rw [ih (k + 1) (by omega) (fun j hj => h j (by omega)), lastF_take l id (by omega), if_neg (h k (Nat.le_refl _) (by omega))]

set_option maxHeartbeats 1600000 in
theorem fLast (A : Option Addr) (n c : Nat) (l : List (Int × Int)) (id : Int) (w : World) (h : Prs w A n c l) :
    Calls Try.prog 19 #[.slice A n c, .int .u16 id] w fun e W' => e = .returned (.tuple #[.int .u32 (lastF l id).1, .bool (lastF l id).2]) ∧ Below w.heap.size w W' := by
  have hl := h.len
  have hmx : n ≤ 9223372036854775807 := Nat.le_trans h.cap h.mx
  have HL := Lib.hid hl
  clear hl
  go_enter Try.func19, Try.ntmps19
  go_wp2
  go_loopw [4, 5, 10] (fun v ok i wr => ∃ k : Nat, k ≤ n ∧ i = .int .i64 k ∧ v = .int .u32 (lastF (l.take k) id).1 ∧ ok = .bool (lastF (l.take k) id).2 ∧ Below w.heap.size w wr) (fun _ _ i _ => n - (intOf i).toNat)
  case atStart => exact ⟨0, Nat.zero_le _, rfl, rfl, rfl, Below.refl _ _⟩
  case round =>
    obtain ⟨k, hk, rfl, rfl, rfl, hb⟩ := hrel
    by_cases hlt : k < n
    · obtain ⟨b, o, rfl, hbl, hc⟩ := (h.below hb).cell (by omega)
      have hs := Lib.hid (lastF_take l id (k := k) (by have := HL.out; omega))
      obtain ⟨c1, c2⟩ := hc k hlt
      have hb2 := Lib.hid hb
      generalize pid l k = x at *
      generalize pva l k = y at *
      generalize lastF (l.take k) id = st at *
      have i0 : (0 : Int) ≤ (k : Int) := by omega
      have i1 : (k : Int) < (n : Int) := by omega
      clear hc hb h
      by_cases he : x = id
      · have e1 : (x == id) = true := beq_iff_eq.2 he
        have hs2 := hs.out
        rw [if_pos he] at hs2
        have HS := Lib.hid hs2
        clear he hs hs2
        go_wp2
        exact ⟨⟨k + 1, by omega, by simp, by rw [HS.out], by rw [HS.out], hb2.out.alloc hb2.out.size _⟩, by simp [intOf]; omega⟩
      · have e1 : (x == id) = false := beq_eq_false_iff_ne.2 he
        have hs2 := hs.out
        rw [if_neg he] at hs2
        have HS := Lib.hid hs2
        clear he hs hs2
        go_wp2
        exact ⟨⟨k + 1, by omega, by simp, by rw [HS.out], by rw [HS.out], hb2.out.alloc hb2.out.size _⟩, by simp [intOf]; omega⟩
    · obtain rfl : n = k := by omega
      have hf : lastF (l.take n) id = lastF l id := by rw [List.take_of_length_le (by have := HL.out; omega)]
      rw [hf]
      clear hf
      go_wp2
      go_ret2
      exact ⟨rfl, hb⟩

set_option maxHeartbeats 1600000 in
theorem rLast (A : Option Addr) (n c : Nat) (l : List (Int × Int)) (id : Int) (w : World) (h : Prs w A n c l) :
    Calls Try.prog 20 #[.slice A n c, .int .u16 id] w fun e W' => e = .returned (.tuple #[.int .u32 (lastF l id).1, .bool (lastF l id).2]) ∧ Below w.heap.size w W' := by
  have hl := h.len
  have hmx : n ≤ 9223372036854775807 := Nat.le_trans h.cap h.mx
  have HL := Lib.hid hl
  clear hl
  go_enter Try.func20, Try.ntmps20
  go_wp2
  go_loop [6] (fun i => ∃ z : Int, i = .int .i64 z ∧ -1 ≤ z ∧ z < n ∧ Hid (∀ j : Nat, z < j → j < l.length → pid l j ≠ id)) (fun i => (intOf i + 1).toNat)
  case atStart => exact ⟨_, rfl, by omega, by omega, Lib.hid fun j h1 h2 => by have := HL.out; omega⟩
  case round =>
    obtain ⟨z, rfl, z0, z1, hz⟩ := hrel
    by_cases hlt : 0 ≤ z
    · obtain ⟨k, rfl⟩ := toNat_lit hlt
      obtain ⟨b, o, rfl, hbl, hc⟩ := h.cell (by omega)
      have hs := lastF_take l id (k := k) (by have := HL.out; omega)
      have hn := lastF_none l id (l.length - (k + 1)) (k + 1) (by have := HL.out; omega) (fun j hj => hz.out j (by omega))
      obtain ⟨c1, c2⟩ := hc k (by omega)
      by_cases he : pid l k = id
      · have e1 : (pid l k == id) = true := beq_iff_eq.2 he
        rw [hs, if_pos he] at hn
        have HN := Lib.hid hn
        clear hs hn he hc h hz
        generalize pid l k = x at *
        generalize pva l k = y at *
        go_wp2
        go_ret2
        exact ⟨by rw [HN.out]; rfl, Below.refl _ _⟩
      · have e1 : (pid l k == id) = false := beq_eq_false_iff_ne.2 he
        have hz2 : Hid (∀ j : Nat, (k : Int) - 1 < j → j < l.length → pid l j ≠ id) := Lib.hid fun j h1 h2 => by
          by_cases hj : j = k
          · subst hj; exact he
          · exact hz.out j (by omega) h2
        clear hs hn he hc h hz
        generalize pid l k = x at *
        generalize pva l k = y at *
        go_wp2
        exact ⟨⟨_, rfl, by omega, by omega, hz2⟩, by simp [intOf]⟩
    · obtain rfl : z = -1 := by omega
      have hn := lastF_none l id l.length 0 (by omega) (fun j hj => hz.out j (by omega))
      have HN := Lib.hid hn
      clear hn hz
      go_wp2
      go_ret2
      exact ⟨by rw [HN.out]; rfl, Below.refl _ _⟩
end Go.Proofs.Ytlomaoabofpegaa
