/- What is put is taken: the plain laws. -/
import Derived.Test.YtlomaoabofpegaaFw
namespace Go.Proofs.Ytlomaoabofpegaa
open Go.RowKit Go.Shelf
set_option linter.unusedVariables false

theorem num_bigE {s n : Nat} (s1 : 1 ≤ s) (s4 : s ≤ 4) (hn : n < 256 ^ s) : num (bigE s n) = n := by
  obtain rfl | rfl | rfl | rfl : s = 1 ∨ s = 2 ∨ s = 3 ∨ s = 4 := by omega
  all_goals simp [bigE, num, List.range_succ]
  all_goals omega
theorem take_all {la lb : List Int} {s n : Nat} (s1 : 1 ≤ s) (s4 : s ≤ 4) (hn : n < 256 ^ s) : takeO (la ++ bigE s n ++ lb) la.length s = ((n : Int), 0) := by
  have hl := bigE_len s n
  unfold takeO
  rw [if_pos (by omega), if_pos (by simp; omega)]
  simp only [Int.toNat_natCast]
  rw [List.append_assoc, List.drop_left, List.take_left' hl, num_bigE s1 s4 hn]
theorem padL_yes {D : List Int} {k : Nat} (hk : k ≤ 255) : padL D k = (k : Int) :: D ++ List.replicate k 0 := by
  unfold padL padB
  rw [if_pos (decide_eq_true (by omega))]
  simp
theorem padE_yes {k : Nat} (hk : k ≤ 255) : padE k = 0 := by
  unfold padE padB
  rw [if_pos (decide_eq_true (by omega))]
theorem unB_pad (D : List Int) (k : Nat) : unB ((k : Int) :: D ++ List.replicate k 0) = k := by simp [unB]
theorem unE_pad (D : List Int) (k : Nat) : unE ((k : Int) :: D ++ List.replicate k 0) = 0 := by
  unfold unE
  rw [unB_pad, if_neg (by simp), if_neg (by simp; omega)]
theorem unN_pad (D : List Int) (k : Nat) : unN ((k : Int) :: D ++ List.replicate k 0) = (k : Int) + 1 := by
  unfold unN
  rw [unE_pad, if_pos rfl, unB_pad]
  omega
theorem unO_pad (D : List Int) (k : Nat) : unO ((k : Int) :: D ++ List.replicate k 0) = D := by
  unfold unO
  rw [unE_pad, if_pos rfl, unB_pad]
  have : ((k : Int) :: D ++ List.replicate k 0).length - (k : Int).toNat = D.length + 1 := by simp; omega
  rw [this]
  simp
theorem rankL_yes {al : Bool} {d : Nat} {wt : Int} (hd : d < 2147483648) : rankL al d wt = bigE 4 (rankN al d) ++ [wt] := by
  unfold rankL rankB
  rw [if_pos (decide_eq_true (by omega))]
theorem rankE_yes {d : Nat} (hd : d < 2147483648) : rankE d = 0 := by
  unfold rankE rankB
  rw [if_pos (decide_eq_true (by omega))]
theorem rankN_lt {al : Bool} {d : Nat} (hd : d < 2147483648) : rankN al d < 256 ^ 4 := by
  unfold rankN
  cases al <;> simp <;> omega
theorem take_rank {al : Bool} {d : Nat} {wt : Int} {D : List Int} (hd : d < 2147483648) : takeO (bigE 4 (rankN al d) ++ [wt] ++ D) 0 4 = (((rankN al d : Nat) : Int), 0) := by
  have := take_all (la := []) (lb := [wt] ++ D) (s := 4) (n := rankN al d) (by decide) (by decide) (rankN_lt hd)
  simpa using this
theorem rank_len (al : Bool) (d : Nat) (wt : Int) (D : List Int) : (bigE 4 (rankN al d) ++ [wt] ++ D).length = 5 + D.length := by
  simp [bigE_len]; omega
theorem tr_rank {al : Bool} {d : Nat} {wt : Int} {D : List Int} (hd : d < 2147483648) :
    trA (bigE 4 (rankN al d) ++ [wt] ++ D) = al ∧ trD (bigE 4 (rankN al d) ++ [wt] ++ D) = d ∧ trW (bigE 4 (rankN al d) ++ [wt] ++ D) = wt ∧ trR (bigE 4 (rankN al d) ++ [wt] ++ D) = D ∧ trE (bigE 4 (rankN al d) ++ [wt] ++ D) = 0 := by
  have hl := rank_len al d wt D
  have ht := take_rank (al := al) (wt := wt) (D := D) hd
  have h4 := bigE_len 4 (rankN al d)
  unfold trA trD trW trR trE
  rw [ht, if_neg (by omega), if_neg (by omega), if_neg (by omega), if_neg (by omega), if_neg (by omega)]
  refine ⟨?_, ?_, ?_, ?_, rfl⟩
  · unfold rankN
    cases al <;> simp <;> omega
  · unfold rankN
    cases al <;> simp <;> omega
  · rw [List.append_assoc, List.getElem?_append_right (by omega), h4]
    rfl
  · rw [List.drop_left' (by simp [h4])]

theorem rankL_yesI {al : Bool} {d wt : Int} (h0 : 0 ≤ d) (h1 : d < 2147483648) : rankL al d wt = bigE 4 (rankN al d) ++ [wt] := by
  obtain ⟨i, rfl⟩ := Int.eq_ofNat_of_zero_le h0
  exact rankL_yes (by omega)
theorem rankE_yesI {d : Int} (h0 : 0 ≤ d) (h1 : d < 2147483648) : rankE d = 0 := by
  obtain ⟨i, rfl⟩ := Int.eq_ofNat_of_zero_le h0
  exact rankE_yes (by omega)
theorem tr_rankI {al : Bool} {d wt : Int} {D : List Int} (h0 : 0 ≤ d) (h1 : d < 2147483648) :
    trA (bigE 4 (rankN al d) ++ [wt] ++ D) = al ∧ trD (bigE 4 (rankN al d) ++ [wt] ++ D) = d ∧ trW (bigE 4 (rankN al d) ++ [wt] ++ D) = wt ∧ trR (bigE 4 (rankN al d) ++ [wt] ++ D) = D ∧ trE (bigE 4 (rankN al d) ++ [wt] ++ D) = 0 := by
  obtain ⟨i, rfl⟩ := Int.eq_ofNat_of_zero_le h0
  exact tr_rank (by omega)
theorem one_zero {p : Int × Int} {t : List Int} (hp : (0 ≤ p.1 ∧ p.1 ≤ 65535) ∧ (0 ≤ p.2 ∧ p.2 ≤ 4294967295)) : onePr (pairB p ++ t) 0 = p := by
  obtain ⟨x, y⟩ := p
  simp only at hp
  have a := take_all (la := []) (lb := bigE 4 y.toNat ++ t) (s := 2) (n := x.toNat) (by decide) (by decide) (by have : (256 : Nat) ^ 2 = 65536 := rfl; omega)
  have b := take_all (la := bigE 2 x.toNat) (lb := t) (s := 4) (n := y.toNat) (by decide) (by decide) (by have : (256 : Nat) ^ 4 = 4294967296 := rfl; omega)
  rw [bigE_len] at b
  unfold onePr pairB
  simp only [Nat.mul_zero, Nat.zero_add]
  have e0 : bigE 2 x.toNat ++ bigE 4 y.toNat ++ t = [] ++ bigE 2 x.toNat ++ (bigE 4 y.toNat ++ t) := by simp
  have ea : (takeO (bigE 2 x.toNat ++ bigE 4 y.toNat ++ t) ((0 : Nat) : Int) 2).1 = x := by
    rw [e0, show takeO ([] ++ bigE 2 x.toNat ++ (bigE 4 y.toNat ++ t)) ((0 : Nat) : Int) 2 = _ from a]
    show ((x.toNat : Nat) : Int) = x
    omega
  have eb : (takeO (bigE 2 x.toNat ++ bigE 4 y.toNat ++ t) ((2 : Nat) : Int) 4).1 = y := by
    rw [show takeO (bigE 2 x.toNat ++ bigE 4 y.toNat ++ t) ((2 : Nat) : Int) 4 = _ from b]
    show ((y.toNat : Nat) : Int) = y
    omega
  rw [ea, eb]
theorem one_succ (p : Int × Int) (t : List Int) (k : Nat) : onePr (pairB p ++ t) (k + 1) = onePr t k := by
  have a := takeO_drop (pairB p ++ t) 6 (6 * k) 2 (by rw [List.length_append, pairB_len]; omega)
  have b := takeO_drop (pairB p ++ t) 6 (6 * k + 2) 4 (by rw [List.length_append, pairB_len]; omega)
  rw [List.drop_left' (pairB_len p)] at a b
  unfold onePr
  rw [a, b, show 6 * (k + 1) = 6 + 6 * k by omega, show 6 + 6 * k + 2 = 6 + (6 * k + 2) by omega]
theorem take_putPs {l : List (Int × Int)} (h : PBs l) : takePs (putPs l) = l := by
  unfold takePs
  rw [putPs_len, if_pos (by omega), show l.length * 6 / 6 = l.length by omega]
  induction l with
  | nil => rfl
  | cons p l ih =>
    have e : putPs (p :: l) = pairB p ++ putPs l := rfl
    rw [e, List.length_cons, List.range_succ_eq_map, List.map_cons, one_zero (h p (by simp)), List.map_map]
    congr 1
    refine Eq.trans (List.map_congr_left fun k hk => ?_) (ih fun x hx => h x (by simp [hx]))
    exact one_succ p (putPs l) k
theorem takePe_putPs (l : List (Int × Int)) : takePe (putPs l) = 0 := by
  unfold takePe
  rw [putPs_len, if_pos (by omega)]
end Go.Proofs.Ytlomaoabofpegaa
