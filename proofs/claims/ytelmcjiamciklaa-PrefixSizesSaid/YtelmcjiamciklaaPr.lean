/- The contracts of the document's Put and Take, of Size, Upper and same. -/
import Derived.Test.YtelmcjiamciklaaPt
import Derived.Lib.Bytes
namespace Go.Proofs.Ytelmcjiamciklaa
open Go.RowKit Go.Shelf
set_option linter.unusedVariables false

theorem fMost (k : Nat) (M : Int) (hk : k ≤ 8) (M1 : 0 ≤ M) (M2 : M ≤ 256) (hsh : wrap64 (2 ^ k) = M) (W : World) :
    Calls Try.prog 20 #[.int .i64 k] W (Ret (.int .i64 (M - 1)) W) := by
  go_enter Try.func20, Try.ntmps20
  go_wp2
  go_ret
  exact ⟨rfl, rfl⟩

theorem fMay (n b : Int) (W : World) : Calls Try.prog 19 #[.int .i64 n, .int .i64 b] W (Ret (.bool (okNum n b)) W) := by
  go_enter Try.func19, Try.ntmps19
  go_wp2
  all_goals go_ret
  all_goals refine ⟨ret_bool ?_, rfl⟩
  all_goals unfold okNum
  all_goals rw [Bool.eq_iff_iff]
  all_goals simp at *
  all_goals omega

theorem strOf_eq {l m : List Int} (hl : Bs l) (hm : Bs m) : ((strOf l).toList == (strOf m).toList) = eqB l m := by
  unfold eqB
  rw [Bool.eq_iff_iff]
  simp only [beq_iff_eq]
  refine ⟨fun h => ?_, fun h => by rw [h]⟩
  unfold strOf at h
  rw [Lib.strOfNums_toList, Lib.strOfNums_toList] at h
  refine strOf_inj hl hm ?_
  unfold strOf strOfNums
  unfold Lib.bytesOf at h
  rw [h]

theorem fSame (A : Option Addr) (n c : Nat) (l : List Int) (B : Option Addr) (m d : Nat) (l' : List Int) (w : World) (h : Byt w A n c l) (h' : Byt w B m d l') :
    Calls Try.prog 14 #[.slice A n c, .slice B m d] w (Ret (.bool (eqB l l')) w) := by
  have e1 := h.conv
  have e2 := h'.conv
  have e3 := strOf_eq h.bs h'.bs
  have H := Lib.hid h
  have H' := Lib.hid h'
  clear h h'
  go_enter Try.func14, Try.ntmps14
  go_wp2
  go_ret
  exact ⟨rfl, rfl⟩

theorem fSize (n b : Int) (n0 : -9223372036854775808 ≤ n) (n1 : n ≤ 9223372036854775807) (w : World) :
    Calls Try.prog 15 #[.int .i64 n, .int .i64 b] w fun e W' => e = .returned (.int .i64 ((putR n b 0).length : Int)) ∧ Below w.heap.size w W' := by
  go_enter Try.func15, Try.ntmps15
  go_wp2_with (go_at_call 8; refine (fPut _ _ _ (by omega) (by omega) (by omega) (by omega) _).mono ?_; rintro e w' ⟨A, c, rfl, hm, hb⟩)
  go_ret
  exact ⟨rfl, hb⟩

set_option maxRecDepth 100000 in
set_option maxHeartbeats 4000000 in
theorem rputMore (x k : Nat) (u M U V : Int) (hk1 : 1 ≤ k) (hk2 : k ≤ 8) (hx : x ≤ 2147483647) (M1 : 2 ≤ M) (M2 : M ≤ 256) (u0 : 0 ≤ u) (u1 : u ≤ 255) (U1 : 0 ≤ U) (V2 : U + (M - 1) ≤ 255)
    (hsh : wrap64 (2 ^ k) = M) (hU : u / M * M = U) (hV : V = U + (M - 1)) (hge : M - 1 ≤ x) (w : World) :
    Calls Try.prog 9 #[.int .i64 x, .int .i64 k, .int .u8 u] w fun e W' => ∃ A c, e = .returned (.tuple #[.slice A ((septs (x - (M.toNat - 1))).length + 1) c, .int .i64 0]) ∧
      Mine w.heap.size W' A ((septs (x - (M.toNat - 1))).length + 1) c (V :: septs (x - (M.toNat - 1))) ∧ Below w.heap.size w W' := by
  have ok : okNum x k = true := decide_eq_true (by omega)
  have hlt : decide ((x : Int) < M - 1) = false := decide_eq_false (by omega)
  obtain ⟨m, hmd⟩ : ∃ m, m = x - (M.toNat - 1) := ⟨_, rfl⟩
  have hm : (x : Int) - (M - 1) = (m : Int) := by omega
  have hm2 : m ≤ 2147483647 := by omega
  have Hmd := Lib.hid hmd
  have HV := Lib.hid hV
  clear hmd hV
  have hMM : M - 1 + 1 = M := by omega
  have hl0 := Mine.lit (base := w.heap.size) w [U + (M - 1)] (Nat.le_refl _) (Bs.one (by omega) (by omega)) (by simp) 1 rfl
  have HL0 := Lib.hid hl0
  clear hl0
  go_enter Try.func9, Try.ntmps9
  go_wp2_with (first
    | (go_at_call 19; refine (fMay _ _ _).mono ?_; rintro e w' ⟨rfl, rfl⟩)
    | (go_at_call 20; refine (fMost k M (by omega) (by omega) (by omega) hsh _).mono ?_; rintro e w' ⟨rfl, rfl⟩))
  go_loopw [0, 10] (fun nv v wr => ∃ (t : Nat) (A : Option Addr) (c q : Nat) (pre : List Int), nv = .int .i64 t ∧ v = .slice A q c ∧ Mine w.heap.size wr A q c pre ∧ pre ++ septs t = V :: septs m ∧ t ≤ 2147483647 ∧ Below w.heap.size w wr ∧ q ≤ (septs m).length)
    (fun nv _ _ => (intOf nv).toNat)
  case atStart => exact ⟨m, _, _, 1, [U + (M - 1)], rfl, rfl, HL0.out, by rw [HV.out]; rfl, hm2, (Below.refl _ _).alloc (Nat.le_refl _) _, septs_pos m⟩
  case round =>
    obtain ⟨t, A, c, q, pre, rfl, rfl, hmn, hpre, ht, hbel, hq⟩ := hrel
    have hsl := septs_len 4 m (by omega)
    have Hpre := Lib.hid hpre
    clear hpre
    by_cases hlt : t < 128
    · go_wp2_with (at_builtin; refine wpList_app1 wr rfl (.tmp 52) (.tmp 55) rfl w.heap.size A q c pre rfl hmn t rfl rfl (by omega) (by omega) hbel.size ?_; intro A2 c2 w2 hmn2 hb2 hg2)
      go_ret2
      have hp : pre ++ [(t : Int)] = V :: septs m := by rw [← Hpre.out, septs_lt hlt]
      rw [hp] at hmn2
      have hl : q + 1 = (septs (x - (M.toNat - 1))).length + 1 := by rw [← Hmd.out, ← hmn2.len]; rfl
      rw [hl, Hmd.out] at hmn2
      exact ⟨A2, c2, by rw [← hl]; rfl, hmn2, hbel.trans hb2⟩
    · have hq1 : q + 1 ≤ (septs m).length := by
        have e1 := congrArg List.length Hpre.out
        have e2 := hmn.len
        rw [septs_ge hlt] at e1
        have e3 := septs_pos (t / 128)
        simp at e1
        omega
      go_wp2_with (at_builtin; refine wpList_app1 wr rfl (.tmp 43) (.tmp 48) rfl w.heap.size A q c pre rfl hmn ((t : Int) % 128 + 128) rfl rfl (by omega) (by omega) hbel.size ?_; intro A2 c2 w2 hmn2 hb2 hg2)
      refine ⟨⟨t / 128, A2, c2, q + 1, pre ++ [(t : Int) % 128 + 128], by simp, rfl, hmn2, ?_, by omega, hbel.trans hb2, hq1⟩, by simp [intOf]; omega⟩
      rw [← Hpre.out, septs_ge hlt]
      simp

set_option maxRecDepth 100000 in
theorem rputLess (x k : Nat) (u M U : Int) (hk1 : 1 ≤ k) (hk2 : k ≤ 8) (M1 : 2 ≤ M) (M2 : M ≤ 256) (u0 : 0 ≤ u) (u1 : u ≤ 255) (U1 : 0 ≤ U) (V2 : U + (M - 1) ≤ 255)
    (hsh : wrap64 (2 ^ k) = M) (hU : u / M * M = U) (hlt : (x : Int) < M - 1) (w : World) :
    Calls Try.prog 9 #[.int .i64 x, .int .i64 k, .int .u8 u] w fun e W' => ∃ A c, e = .returned (.tuple #[.slice A 1 c, .int .i64 0]) ∧
      Mine w.heap.size W' A 1 c [U + x] ∧ Below w.heap.size w W' := by
  have ok : okNum x k = true := decide_eq_true (by omega)
  have hMM : M - 1 + 1 = M := by omega
  have hl0 := Mine.lit (base := w.heap.size) w [U + x] (Nat.le_refl _) (Bs.one (by omega) (by omega)) (by simp) 1 rfl
  have HL0 := Lib.hid hl0
  clear hl0
  go_enter Try.func9, Try.ntmps9
  go_wp2_with (first
    | (go_at_call 19; refine (fMay _ _ _).mono ?_; rintro e w' ⟨rfl, rfl⟩)
    | (go_at_call 20; refine (fMost k M (by omega) (by omega) (by omega) hsh _).mono ?_; rintro e w' ⟨rfl, rfl⟩))
  go_ret2
  exact ⟨_, _, rfl, HL0.out, (Below.refl _ _).alloc (Nat.le_refl _) _⟩

theorem rputNo (n b u : Int) (h : okNum n b = false) (w : World) :
    Calls Try.prog 9 #[.int .i64 n, .int .i64 b, .int .u8 u] w fun e W' => e = .returned (.tuple #[.slice none 0 0, .int .i64 2]) ∧ Below w.heap.size w W' := by
  go_enter Try.func9, Try.ntmps9
  go_wp2_with (first
    | (go_at_call 19; refine (fMay _ _ _).mono ?_; rintro e w' ⟨rfl, rfl⟩))
  go_ret2
  exact ⟨rfl, Below.refl _ _⟩

theorem rPut (n b u : Int) (u0 : 0 ≤ u) (u1 : u ≤ 255) (w : World) :
    Calls Try.prog 9 #[.int .i64 n, .int .i64 b, .int .u8 u] w fun e W' => ∃ A c, e = .returned (.tuple #[.slice A (putR n b u).length c, .int .i64 (putE n b)]) ∧
      Mine w.heap.size W' A (putR n b u).length c (putR n b u) ∧ Below w.heap.size w W' := by
  by_cases h : okNum n b = true
  · have hh : 1 ≤ b ∧ b ≤ 8 ∧ 0 ≤ n ∧ n ≤ 2147483647 := by simpa [okNum] using h
    obtain ⟨k, rfl⟩ := toNat_lit (show 0 ≤ b by omega)
    obtain ⟨x, rfl⟩ := toNat_lit hh.2.2.1
    have e1 : putR x k u = putL x k u := by unfold putR; rw [if_pos h]; simp
    have e2 : putE x k = 0 := by unfold putE; rw [if_pos h]
    rw [e1, e2]
    have hp : 2 ^ k ≤ 2 ^ 8 := Nat.pow_le_pow_right (by decide) (by omega)
    have hp1 := pow_ge (k := k) (by omega)
    have hM : ((2 ^ k : Nat) : Int) - 1 = ((2 ^ k - 1 : Nat) : Int) := by omega
    have hbd := div_mul_bd u _ u0 u1 k (by omega) rfl
    by_cases hl : x < 2 ^ k - 1
    · have e3 : putL x k u = [u / ((2 ^ k : Nat) : Int) * ((2 ^ k : Nat) : Int) + x] := by unfold putL; rw [if_pos hl]
      rw [e3]
      exact rputLess x k u ((2 ^ k : Nat) : Int) (u / ((2 ^ k : Nat) : Int) * ((2 ^ k : Nat) : Int)) (by omega) (by omega) (by omega) (by omega) u0 u1 hbd.1 hbd.2 (wrap_pow (by omega)) rfl (by omega) w
    · have e3 : putL x k u = (u / ((2 ^ k : Nat) : Int) * ((2 ^ k : Nat) : Int) + ((2 ^ k - 1 : Nat) : Int)) :: septs (x - (2 ^ k - 1)) := by unfold putL; rw [if_neg hl]
      rw [e3]
      have := rputMore x k u ((2 ^ k : Nat) : Int) (u / ((2 ^ k : Nat) : Int) * ((2 ^ k : Nat) : Int)) (u / ((2 ^ k : Nat) : Int) * ((2 ^ k : Nat) : Int) + ((2 ^ k - 1 : Nat) : Int)) (by omega) (by omega) (by omega) (by omega) (by omega) u0 u1 hbd.1 hbd.2
        (wrap_pow (by omega)) rfl (by rw [hM]) (by omega) w
      rw [Int.toNat_natCast] at this
      exact this
  · have h' : okNum n b = false := by simpa using h
    have e1 : putR n b u = [] := by unfold putR; rw [if_neg h]
    have e2 : putE n b = 2 := by unfold putE; rw [if_neg h]
    rw [e1, e2]
    exact (rputNo n b u h' w).mono fun e W' ⟨he, hb⟩ => ⟨none, 0, he, Mine.nil _ _, hb⟩

theorem rSize (n b : Int) (w : World) :
    Calls Try.prog 16 #[.int .i64 n, .int .i64 b] w fun e W' => e = .returned (.int .i64 ((putR n b 0).length : Int)) ∧ Below w.heap.size w W' := by
  go_enter Try.func16, Try.ntmps16
  go_wp2_with (go_at_call 9; refine (rPut _ _ _ (by omega) (by omega) _).mono ?_; rintro e w' ⟨A, c, rfl, hm, hb⟩)
  go_ret
  exact ⟨rfl, hb⟩
end Go.Proofs.Ytelmcjiamciklaa
