/- Settings taken: the document's contract. -/
import Derived.Test.YtlomaoabofpegaaFd
import Derived.Test.YtlomaoabofpegaaFg
namespace Go.Proofs.Ytlomaoabofpegaa
open Go.RowKit Go.Shelf
set_option linter.unusedVariables false

def onePr (l : List Int) (k : Nat) : Int × Int := ((takeO l ((6 * k : Nat) : Int) 2).1, (takeO l ((6 * k + 2 : Nat) : Int) 4).1)
def takePs (l : List Int) : List (Int × Int) := if l.length % 6 = 0 then (List.range (l.length / 6)).map (onePr l) else []
def takePe (l : List Int) : Int := if l.length % 6 = 0 then 0 else 10
theorem takeO_bd2 {l : List Int} (h : Bs l) (a : Int) : 0 ≤ (takeO l a 2).1 ∧ (takeO l a 2).1 ≤ 65535 := by
  unfold takeO
  split
  · split
    · have hV := num_bd ((h.drop a.toNat).take (Int.toNat 2))
      have h2 : 256 ^ ((l.drop a.toNat).take (Int.toNat 2)).length ≤ 256 ^ 2 := Nat.pow_le_pow_right (by decide) (by rw [List.length_take]; exact Nat.min_le_left _ _)
      simp only
      omega
    · exact ⟨by decide, by decide⟩
  · exact ⟨by decide, by decide⟩
theorem onePr_bd {l : List Int} (h : Bs l) (k : Nat) : (0 ≤ (onePr l k).1 ∧ (onePr l k).1 ≤ 65535) ∧ (0 ≤ (onePr l k).2 ∧ (onePr l k).2 ≤ 4294967295) := by
  have := takeO_bd h ((6 * k + 2 : Nat) : Int) 4
  exact ⟨takeO_bd2 h _, this.1, by unfold onePr; simp only; omega⟩

def TkP (l : List (Int × Int)) (x : Int) (w : World) (e : Ending) (W' : World) : Prop := ∃ A n c, e = .returned (.tuple #[.slice A n c, .int .i64 x]) ∧ MineP w.heap.size W' A n c l ∧ Below w.heap.size w W'

theorem rTakePairsNo (A : Option Addr) (n c : Nat) (w : World) (hn : n ≤ 100000) (hs : n % 6 ≠ 0) : Calls Try.prog 18 #[.slice A n c] w (TkP [] 10 w) := by
  have e0 : ((n : Int).tmod 6 != 0) = true := by
    rw [Int.tmod_eq_emod_of_nonneg (by omega), bne_iff_ne]
    omega
  have e1 : ((n : Int) % 6 != 0) = true := by rw [bne_iff_ne]; omega
  clear hs
  go_enter Try.func18, Try.ntmps18
  go_wp2
  go_ret2
  exact ⟨none, 0, 0, rfl, MineP.nil _ _, Below.refl _ _⟩

set_option maxHeartbeats 1600000 in
theorem rTakePairsYes (A : Option Addr) (n c : Nat) (l : List Int) (w : World) (h : Byt w A n c l) (hn : n ≤ 100000) (hs : n % 6 = 0) : Calls Try.prog 18 #[.slice A n c] w (TkP ((List.range (n / 6)).map (onePr l)) 0 w) := by
  have e0 : ((n : Int).tmod 6 != 0) = false := by
    rw [Int.tmod_eq_emod_of_nonneg (by omega), bne_eq_false_iff_eq]
    omega
  have e1 : ((n : Int) % 6 != 0) = false := by rw [bne_eq_false_iff_eq]; omega
  go_enter Try.func18, Try.ntmps18
  go_wp2
  go_loopw [4, 5] (fun v i wr => ∃ (k : Nat) (A' : Option Addr) (c' : Nat), 6 * k ≤ n ∧ i = .int .i64 ((6 * k : Nat) : Int) ∧ v = .slice A' k c' ∧ MineP w.heap.size wr A' k c' ((List.range k).map (onePr l)) ∧ Below w.heap.size w wr) (fun _ i _ => n - (intOf i).toNat)
  case atStart => exact ⟨0, none, 0, Nat.zero_le _, rfl, rfl, MineP.nil _ _, Below.refl _ _⟩
  case round =>
    obtain ⟨k, A', c', hk, rfl, rfl, hm, hb⟩ := hrel
    have y := h.below hb
    have hbd := onePr_bd h.bs k
    have hP : (List.range (k + 1)).map (onePr l) = (List.range k).map (onePr l) ++ [onePr l k] := by rw [List.range_succ, List.map_append]; rfl
    obtain ⟨⟨X, Y⟩, hXY⟩ : ∃ p, onePr l k = p := ⟨_, rfl⟩
    have hX : (takeO l ((6 * k : Nat) : Int) 2).1 = X := congrArg Prod.fst hXY
    have hY : (takeO l ((6 * k + 2 : Nat) : Int) 4).1 = Y := congrArg Prod.snd hXY
    rw [hXY] at hbd hP
    have hk6 : 6 * (k + 1) = 6 * k + 6 := by omega
    have hk1 : k ≤ 100000 := by omega
    have hkn : 6 * k = n → k = n / 6 := by omega
    have hkl : 6 * k < n → 6 * k + 6 ≤ n := by omega
    have HP := Lib.hid hP
    have HK := Lib.hid hk6
    have HN := Lib.hid hkn
    have HL := Lib.hid hkl
    clear hP hk6 hXY hkn hkl
    generalize 6 * k = q at *
    have T1 : Hid (Calls Try.prog 30 #[.slice A n c, .int .i64 (q : Int), .int .i64 2] wr (Ret (.tuple #[.int .i64 X, .int .i64 (takeO l (q : Int) 2).2]) wr)) := by
      have := rOTake A n c l (q : Int) 2 wr (by omega) y
      rw [hX] at this
      exact Lib.hid this
    have T2 : Hid (Calls Try.prog 30 #[.slice A n c, .int .i64 ((q : Int) + 2), .int .i64 4] wr (Ret (.tuple #[.int .i64 Y, .int .i64 (takeO l ((q : Int) + 2) 4).2]) wr)) := by
      have := rOTake A n c l ((q + 2 : Nat) : Int) 4 wr (by omega) y
      rw [hY, show ((q + 2 : Nat) : Int) = (q : Int) + 2 by omega] at this
      exact Lib.hid this
    clear hX hY y h
    generalize (takeO l (q : Int) 2).2 = E1 at *
    generalize (takeO l ((q : Int) + 2) 4).2 = E2 at *
    obtain ⟨⟨X0, X1⟩, Y0, Y1⟩ := hbd
    simp only at X0 X1 Y0 Y1
    by_cases hlt : q < n
    · have hq6 := HL.out hlt
      have i0 : (0 : Int) ≤ (q : Int) := by omega
      have i1 : (q : Int) < (n : Int) := by omega
      have hsz : Hid (w.heap.size ≤ wr.heap.size) := Lib.hid hb.size
      have hb2 := Lib.hid hb
      have hm2 := Lib.hid hm
      have hq3 : q + 6 ≤ 100000 := by omega
      have hk2 : Hid (k + 1 ≤ 1000000) := Lib.hid (by omega)
      clear hb hm hs
      go_wp2_with fail
      refine T1.out.mono ?_
      rintro e w1 ⟨rfl, rfl⟩
      go_wp2_with fail
      refine T2.out.mono ?_
      rintro e w1 ⟨rfl, rfl⟩
      go_wp2_with (with_reducible refine wpList_appP wr rfl (.tmp 33) (.tmp 39) rfl w.heap.size A' k c' _ rfl hm2.out (X, Y) rfl rfl ⟨⟨X0, X1⟩, Y0, Y1⟩ hk2.out hsz.out ?_; intro A2 c2 w2 hm3 hb3 _)
      exact ⟨⟨k + 1, A2, c2, by rw [HK.out]; exact hq6, by rw [HK.out]; simp, rfl, by rw [HP.out]; exact hm3, hb2.out.trans hb3⟩, by simp [intOf]; omega⟩
    · have hqn : q = n := by omega
      have hkk := HN.out hqn
      subst hkk
      have e2 : decide (q < n) = false := decide_eq_false hlt
      clear hlt hqn
      go_wp2
      go_ret2
      exact ⟨_, _, _, rfl, hm, hb⟩
end Go.Proofs.Ytlomaoabofpegaa
