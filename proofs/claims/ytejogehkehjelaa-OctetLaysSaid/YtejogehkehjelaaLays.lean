/- OctetLays: a code that is laid is told by Bits, behind all that was there; laid in two goes it is as in one: the walk. -/
import Derived.Test.YtejogehkehjelaaLn
namespace Go.Proofs.Ytejogehkehjelaa
open Go.RowKit Go.Shelf
set_option linter.unusedVariables false

/-- What the walk knows of bit i of what was laid (x, one), and of what was there (y). -/
def BitW (A1 : Option Addr) (L c1 : Nat) (O : List Int) (i : Nat) (x : Int) (w : World) : Prop :=
  Calls Try.prog 16 #[.slice A1 L c1, .int .i64 i] w fun e W' => e = .returned (.tuple #[.int .i64 x, .bool true]) ∧ Below w.heap.size w W'
theorem bitW {A1 : Option Addr} {L c1 : Nat} {O : List Int} (i : Nat) (w : World) (h : Byt w A1 L c1 O) (hm : L ≤ 100000000) (hi : i < 8 * L) : BitW A1 L c1 O i (bitAt O i) w := by
  have hl := h.len
  exact fOBitE (valB_one O i (by omega)) (decide_eq_true (by omega)) w h hm (by omega)
def BitY (A : Option Addr) (n c : Nat) (l : List Int) (i : Nat) (y : Int) (z : Bool) (w : World) : Prop :=
  Calls Try.prog 16 #[.slice A n c, .int .i64 i] w fun e W' => e = .returned (.tuple #[.int .i64 y, .bool z]) ∧ Below w.heap.size w W'
theorem bitY {A : Option Addr} {n c : Nat} {l : List Int} (i : Nat) (w : World) (h : Byt w A n c l) (hm : n ≤ 100000000) (hi : i ≤ 9223372036854775807) : ∃ y z, (i < 8 * n → y = bitAt l i) ∧ BitY A n c l i y z w := by
  have hl := h.len
  exact ⟨_, _, fun k => valB_one l i (by omega), fOBitE rfl rfl w h hm (by omega)⟩

theorem lt_wrap {k m : Nat} (hk : k < 2 ^ m) (hm : m ≤ 62) : decide ((k : Int) < wrap64 (2 ^ m)) = true := by
  rw [wrapPow hm]
  exact decide_eq_true (by omega)

/-- The two goes, in whatever spelling. -/
def Goes (A : Option Addr) (n c : Nat) (l : List Int) (u L1 : Nat) (O1 : List Int) (aI dI hI : Int) : Prop :=
  ∀ w, Byt w A n c l → Calls Try.prog 20 #[.slice A n c, .int .i64 u, .int .i64 dI, .int .i64 aI] w fun e W' => ∃ A c, e = .returned (.tuple #[.slice A L1 c, .int .i64 hI, .int .i64 0]) ∧ Mine w.heap.size W' A L1 c O1 ∧ Below w.heap.size w W'
def Goes2 (L1 : Nat) (O1 : List Int) (L : Nat) (O : List Int) (hI rI cI vI : Int) : Prop :=
  ∀ (A' : Option Addr) (c' : Nat) w, Byt w A' L1 c' O1 → Calls Try.prog 20 #[.slice A' L1 c', .int .i64 hI, .int .i64 rI, .int .i64 cI] w fun e W' => ∃ A c, e = .returned (.tuple #[.slice A L c, .int .i64 vI, .int .i64 0]) ∧ Mine w.heap.size W' A L c O ∧ Below w.heap.size w W'
theorem goes {A : Option Addr} {n c : Nat} {l : List Int} {u k m : Nat} (hl : l.length = n) (h1 : n ≤ 100) (m30 : m ≤ 30) (hk : k < 2 ^ m) (u1 : u ≤ 8 * n) (u2 : 8 * n < u + 8) {O : List Int} {L : Nat} (hO : pk (layBits l u k m) (u + m) = O) (hOl : O.length = L)
    {a : Nat} (ha : a ≤ m) (aI dI hI rI cI : Int) (e1 : aI = a) (e2 : dI = ((k / 2 ^ (m - a) : Nat) : Int)) (e3 : hI = (u : Int) + a) (e4 : rI = ((k % 2 ^ (m - a) : Nat) : Int)) (e5 : cI = (m : Int) - a) :
    ∃ L1 O1, L1 ≤ 105 ∧ Goes A n c l u L1 O1 aI dI hI ∧ Goes2 L1 O1 L O hI rI cI ((u : Int) + m) := by
  obtain ⟨O1, hO1⟩ : ∃ O1, pk (layBits l u (k / 2 ^ (m - a)) a) (u + a) = O1 := ⟨_, rfl⟩
  have hO1l : O1.length = (u + a + 7) / 8 := by rw [← hO1, pk_len]
  have hd2 : k / 2 ^ (m - a) < 2 ^ a := by
    rw [Nat.div_lt_iff_lt_mul (Nat.two_pow_pos _), ← Nat.pow_add, show a + (m - a) = m by omega]
    exact hk
  have hr2 : k % 2 ^ (m - a) < 2 ^ (m - a) := Nat.mod_lt _ (Nat.two_pow_pos _)
  have e3' : hI = ((u + a : Nat) : Int) := by omega
  have e5' : cI = ((m - a : Nat) : Int) := by omega
  obtain ⟨d, hd⟩ : ∃ d, k / 2 ^ (m - a) = d := ⟨_, rfl⟩
  obtain ⟨r, hr⟩ : ∃ r, k % 2 ^ (m - a) = r := ⟨_, rfl⟩
  rw [hd] at e2 hO1 hd2
  rw [hr] at e4 hr2
  subst e1 e2 e3' e4 e5'
  have ok1 : okLay l u d a = true := decide_eq_true (by simp only [Int.toNat_natCast]; omega)
  have ok2 : okLay O1 ((u + a : Nat) : Int) r ((m - a : Nat) : Int) = true := decide_eq_true (by simp only [Int.toNat_natCast]; omega)
  refine ⟨(u + a + 7) / 8, O1, by omega, fun w hw => ?_, fun A' c' w hw => ?_⟩
  · have := fOLayE (l' := O1) (v := ((u + a : Nat) : Int)) (show layO l u d a = O1 by unfold layO; rw [ok1, ← hO1]; simp) (show layN l u d a = ((u + a : Nat) : Int) by unfold layN; rw [ok1]; simp) (show layE l u d a = 0 by unfold layE; rw [ok1]; rfl) w hw (by omega) (by omega)
    rwa [hO1l] at this
  · have := fOLayE (l' := O) (v := (u : Int) + m) (show layO O1 ((u + a : Nat) : Int) r ((m - a : Nat) : Int) = O by
      unfold layO
      rw [ok2, if_pos rfl]
      simp only [Int.toNat_natCast]
      rw [← hO, ← hO1, ← hr, ← hd]
      exact lay_two l u k m a ha) (show layN O1 ((u + a : Nat) : Int) r ((m - a : Nat) : Int) = (u : Int) + m by unfold layN; rw [ok2, if_pos rfl]; omega) (show layE O1 ((u + a : Nat) : Int) r ((m - a : Nat) : Int) = 0 by unfold layE; rw [ok2]; rfl) w hw (by omega) (by omega)
    rwa [hOl] at this

set_option maxRecDepth 100000 in
set_option maxHeartbeats 16000000 in
theorem laysYes (A : Option Addr) (n c : Nat) (l : List Int) (u k m : Nat) (at_ : Int) (W : World) (h : Byt W A n c l) (h1 : n ≤ 100) (m30 : m ≤ 30) (hk : k < 2 ^ m) (u1 : u ≤ 8 * n) (u2 : 8 * n < u + 8)
    (O : List Int) (L : Nat) (hO : pk (layBits l u k m) (u + m) = O) (hL : (u + m + 7) / 8 = L) :
    Calls Try.prog 5 #[.slice A n c, .int .i64 u, .int .i64 k, .int .i64 m, .int .i64 at_] W fun e w' => e = .returned (.bool true) ∧ Below W.heap.size W w' := by
  have b0 := Bel.refl W
  have hl := h.len
  have hp : 2 ^ m ≤ 2 ^ 30 := Nat.pow_le_pow_right (by decide) m30
  have hkk : k < 1073741824 := by omega
  have hOl : O.length = L := by rw [← hO, pk_len, hL]
  have hL2 : L ≤ 105 := by omega
  have ok : okLay l u k m = true := decide_eq_true (by simp only [Int.toNat_natCast]; omega)
  have hc := fOLayE (l' := O) (v := (u : Int) + m) (show layO l u k m = O by unfold layO; rw [ok, ← hO]; simp) (show layN l u k m = (u : Int) + m by unfold layN; rw [ok]; rfl) (show layE l u k m = 0 by unfold layE; rw [ok]; rfl) W h (by omega) (by omega)
  rw [hOl] at hc
  have HC := Lib.hid hc
  have hcode : valB O u m = k := by
    have e : okB O u m = true := decide_eq_true (by omega)
    unfold valB
    rw [e, if_pos rfl]
    simp only [Int.toNat_natCast]
    rw [← hO, lay_code l u k m hk m (Nat.le_refl _), Nat.sub_self, Nat.pow_zero, Nat.div_one]
  have HCODE := Lib.hid hcode
  have hokb : okB O u m = true := decide_eq_true (by omega)
  have HOKB := Lib.hid hokb
  have HG := Lib.hid (fun (a : Nat) (ha : a ≤ m) aI dI hI rI cI => goes (A := A) (n := n) (c := c) hl h1 m30 hk u1 u2 hO hOl ha aI dI hI rI cI)
  have hbits : ∀ i, i < 8 * L → bitAt O i = bitP (layBits l u k m) (u + m) i := fun i hi => by rw [← hO]; exact pk_bit (layBits_is _ _ _ _) _ _ (by omega)
  have HBITS := Lib.hid hbits
  have H := Lib.hid h
  have g1 : decide ((0 : Int) ≤ (m : Int)) = true := decide_eq_true (by omega)
  have g2 : decide ((m : Int) ≤ 30) = true := decide_eq_true (by omega)
  have g3 : decide ((0 : Int) ≤ (k : Int)) = true := decide_eq_true (by omega)
  have g5 : decide ((0 : Int) ≤ (u : Int)) = true := decide_eq_true (by omega)
  have g6 : decide ((u : Int) ≤ 8 * (n : Int)) = true := decide_eq_true (by omega)
  have g7 : decide (8 * (n : Int) - 8 < (u : Int)) = true := decide_eq_true (by omega)
  have hmm : min (max (m : Int) 0) 30 = m := by omega
  have hLi : ((u : Int) + m + 7) / 8 = (L : Int) := by omega
  have g4 := lt_wrap hk (show m ≤ 62 by omega)
  have HLN := Lib.hid hL
  have HK := Lib.hid hk
  clear hc ok hokb h hl hO hOl hcode hbits hk hp hL
  go_enter Try.func5, Try.ntmps5
  go_wp2_with (first
    | (go_at_call 20; refine HC.out.mono ?_; rintro e w1 ⟨A1, c1, rfl, m1, hb⟩; have y0 := H.out.below hb; replace b0 := Bel.step (W := W) (by repeat (first | exact b0 | refine Bel.alloc ?_ _)) hb)
    | (go_at_call 18; refine (fOBitsE HCODE.out HOKB.out _ m1.byt (by omega) (by omega)).mono ?_; rintro e w2 ⟨rfl, hb2⟩; have y1 := m1.byt.below hb2; have y2 := y0.below hb2; replace b0 := Bel.step (W := W) b0 hb2))
  clear hb hb2 m1 y0 g4 hLi
  have HB0 := Lib.hid b0
  have HY1 := Lib.hid y1
  have HY2 := Lib.hid y2
  clear b0 y1 y2
  go_loopw [17] (fun v wr => ∃ i : Nat, i ≤ 8 * L ∧ v = .int .i64 i ∧ Below w2.heap.size w2 wr) (fun v _ => 8 * L - (intOf v).toNat)
  case atStart => exact ⟨0, Nat.zero_le _, rfl, Below.refl _ _⟩
  case round =>
    obtain ⟨i, hi, rfl, hbel⟩ := hrel
    by_cases hlt : i < 8 * L
    · have q1 := bitW i wr (HY1.out.below hbel) (by omega) hlt
      have hx0 : u + m ≤ i → bitAt O i = 0 := fun hu => by
        rw [HBITS.out i hlt, bitP, if_neg (by omega)]
      have hx1 : i < u → bitAt O i = bitAt l i := fun hu => by
        rw [HBITS.out i hlt, bitP, if_pos (by omega), layBits, if_pos hu]
      generalize bitAt O i = x at *
      have HB := Lib.hid hbel
      clear hbel
      have q1' : ∀ W', Below wr.heap.size wr W' → ∃ y z, (i < 8 * n → y = bitAt l i) ∧ BitY A n c l i y z W' := fun W' hh =>
        bitY i W' ((HY2.out.below HB.out).below hh) (by omega) (by omega)
      have Q1 := Lib.hid q1
      have Q2 := Lib.hid q1'
      clear q1 q1'
      by_cases c1 : i < u
      · have e1 := hx1 c1
        have c2 : ¬ (u + m ≤ i) := by omega
        have d1 : decide ((i : Int) < (u : Int)) = true := decide_eq_true (by omega)
        have d2 : decide ((u : Int) + (m : Int) ≤ (i : Int)) = false := decide_eq_false (by omega)
        have E1 := Lib.hid e1
        clear hx0 hx1 e1
        go_wp2_with (first
          | (go_at_call 16; refine Q1.out.mono ?_; rintro e wa ⟨rfl, hba⟩; obtain ⟨y, z, hy, q2⟩ := Q2.out wa hba; have Q3 := Lib.hid q2; have HY := Lib.hid ((hy (by omega)).trans E1.out.symm); clear Q1 Q2 q2 hy; obtain rfl := HY.out)
          | (go_at_call 16; refine Q3.out.mono ?_; rintro e wb ⟨rfl, hbb⟩))
        exact ⟨⟨i + 1, by omega, by simp, HB.out.trans ((hba.trans (hbb.mono hba.size)).mono HB.out.size)⟩, by simp [intOf]; omega⟩
      · have d1 : decide ((i : Int) < (u : Int)) = false := decide_eq_false (by omega)
        by_cases c2 : u + m ≤ i
        · have e0 := hx0 c2
          have d2 : decide ((u : Int) + (m : Int) ≤ (i : Int)) = true := decide_eq_true (by omega)
          subst e0
          clear hx1
          go_wp2_with (first
          | (go_at_call 16; refine Q1.out.mono ?_; rintro e wa ⟨rfl, hba⟩; obtain ⟨y, z, hy, q2⟩ := Q2.out wa hba; have Q3 := Lib.hid q2; clear Q1 Q2 q2 hy)
          | (go_at_call 16; refine Q3.out.mono ?_; rintro e wb ⟨rfl, hbb⟩))
          exact ⟨⟨i + 1, by omega, by simp, HB.out.trans ((hba.trans (hbb.mono hba.size)).mono HB.out.size)⟩, by simp [intOf]; omega⟩
        · have d2 : decide ((u : Int) + (m : Int) ≤ (i : Int)) = false := decide_eq_false (by omega)
          clear hx0 hx1
          go_wp2_with (first
          | (go_at_call 16; refine Q1.out.mono ?_; rintro e wa ⟨rfl, hba⟩; obtain ⟨y, z, hy, q2⟩ := Q2.out wa hba; have Q3 := Lib.hid q2; clear Q1 Q2 q2 hy)
          | (go_at_call 16; refine Q3.out.mono ?_; rintro e wb ⟨rfl, hbb⟩))
          exact ⟨⟨i + 1, by omega, by simp, HB.out.trans ((hba.trans (hbb.mono hba.size)).mono HB.out.size)⟩, by simp [intOf]; omega⟩
    · obtain rfl : i = 8 * L := by omega
      have y2 := HY2.out.below hbel
      have y1 := HY1.out.below hbel
      have b0 : Bel W wr := Bel.step HB0.out hbel
      clear hbel
      by_cases ca : at_ < 0
      · obtain ⟨M, hM⟩ : ∃ M, 2 ^ m = M := ⟨_, rfl⟩
        have hM3 : M ≤ 1073741824 := by rw [← hM]; exact Nat.pow_le_pow_right (n := 2) (by decide) (show m ≤ 30 by omega)
        have hM1 : 0 < M := by rw [← hM]; exact Nat.two_pow_pos _
        have hand := and_pow (k := k) (M := M) (c := m) (by omega) (by omega) hM.symm
        have hgo := HG.out 0 (Nat.zero_le _) 0 ((k : Int) / 2 ^ m) u (bits .and .i64 (k : Int) ((M : Int) - 1)) m rfl (by simp) (by simp) (by rw [hand, ← hM, Nat.sub_zero]) (by simp)
        obtain ⟨L1, O1, hL1, go1, go2⟩ := hgo
        have G1 := Lib.hid go1
        have G2 := Lib.hid go2
        have hwM : Value.int IntKind.i64 (wrap64 (2 ^ m)) = Value.int IntKind.i64 (M : Int) := by rw [wrapPow (by omega), hM]
        clear go1 go2 hM hand
        go_wp2_with (first
          | (go_at_call 20; refine (G1.out _ y2).mono ?_; rintro e w3 ⟨A3, c3, rfl, m3, hb3⟩; have y3 := y1.below hb3; replace b0 := Bel.step (W := W) b0 hb3; clear y1 y2)
          | (go_at_call 20; refine (G2.out _ _ _ m3.byt).mono ?_; rintro e w4 ⟨A4, c4, rfl, m4, hb4⟩; have y4 := y3.below hb4; replace b0 := Bel.step (W := W) b0 hb4)
          | (go_at_call 15; refine (rOSameT O _ m4.byt y4).mono ?_; rintro e w' ⟨rfl, rfl⟩)
          | (go_at_call 8; refine (fWakes _).mono ?_; rintro e w' ⟨rfl, hb⟩; replace b0 := Bel.step (W := W) (by repeat (first | exact b0 | refine Bel.alloc ?_ _)) hb))
        go_ret
        exact ⟨rfl, ((by repeat (first | exact b0 | refine Bel.alloc ?_ _)) : Bel W _).out⟩
      · by_cases cb : (m : Int) < at_
        · have hgo := HG.out m (Nat.le_refl _) m k ((u : Int) + m) (bits .and .i64 (k : Int) 0) 0 rfl (by simp) rfl (by
            have := and_pow (k := k) (M := 1) (c := 0) (by have := HK.out; have : 2 ^ m ≤ 2 ^ 30 := Nat.pow_le_pow_right (by decide) m30; omega) (by decide) rfl
            simpa using this) (by omega)
          obtain ⟨L1, O1, hL1, go1, go2⟩ := hgo
          have G1 := Lib.hid go1
          have G2 := Lib.hid go2
          clear go1 go2
          have cc : 0 ≤ at_ := by omega
          go_wp2_with (first
            | (go_at_call 20; refine (G1.out _ y2).mono ?_; rintro e w3 ⟨A3, c3, rfl, m3, hb3⟩; have y3 := y1.below hb3; replace b0 := Bel.step (W := W) b0 hb3; clear y1 y2)
            | (go_at_call 20; refine (G2.out _ _ _ m3.byt).mono ?_; rintro e w4 ⟨A4, c4, rfl, m4, hb4⟩; have y4 := y3.below hb4; replace b0 := Bel.step (W := W) b0 hb4)
            | (go_at_call 15; refine (rOSameT O _ m4.byt y4).mono ?_; rintro e w' ⟨rfl, rfl⟩)
            | (go_at_call 8; refine (fWakes _).mono ?_; rintro e w' ⟨rfl, hb⟩; replace b0 := Bel.step (W := W) (by repeat (first | exact b0 | refine Bel.alloc ?_ _)) hb))
          go_ret
          exact ⟨rfl, ((by repeat (first | exact b0 | refine Bel.alloc ?_ _)) : Bel W _).out⟩
        · obtain ⟨a, rfl⟩ := toNat_lit (show 0 ≤ at_ by omega)
          have ha : a ≤ m := by omega
          obtain ⟨M, hM⟩ : ∃ M, 2 ^ (m - a) = M := ⟨_, rfl⟩
          have hM3 : M ≤ 1073741824 := by rw [← hM]; exact Nat.pow_le_pow_right (n := 2) (by decide) (show m - a ≤ 30 by omega)
          have hM1 : 0 < M := by rw [← hM]; exact Nat.two_pow_pos _
          have hand := and_pow (k := k) (M := M) (c := m - a) (by omega) (by omega) hM.symm
          have hgo := HG.out a ha a ((k : Int) / 2 ^ (m - a)) ((u : Int) + a) (bits .and .i64 (k : Int) ((M : Int) - 1)) ((m : Int) - a) rfl (by simp) rfl (by rw [hand, ← hM]) rfl
          obtain ⟨L1, O1, hL1, go1, go2⟩ := hgo
          have G1 := Lib.hid go1
          have G2 := Lib.hid go2
          have hwM : Value.int IntKind.i64 (wrap64 (2 ^ (m - a))) = Value.int IntKind.i64 (M : Int) := by rw [wrapPow (by omega), hM]
          have x0 : (0 : Int) ≤ (m : Int) - (a : Int) := by omega
          have x1 : ((m : Int) - (a : Int)).toNat = m - a := by omega
          have x2 : (a : Int) ≤ (m : Int) := by omega
          clear go1 go2 hM hand ca cb
          go_wp2_with (first
            | (go_at_call 20; refine (G1.out _ y2).mono ?_; rintro e w3 ⟨A3, c3, rfl, m3, hb3⟩; have y3 := y1.below hb3; replace b0 := Bel.step (W := W) b0 hb3; clear y1 y2)
            | (go_at_call 20; refine (G2.out _ _ _ m3.byt).mono ?_; rintro e w4 ⟨A4, c4, rfl, m4, hb4⟩; have y4 := y3.below hb4; replace b0 := Bel.step (W := W) b0 hb4)
            | (go_at_call 15; refine (rOSameT O _ m4.byt y4).mono ?_; rintro e w' ⟨rfl, rfl⟩)
            | (go_at_call 8; refine (fWakes _).mono ?_; rintro e w' ⟨rfl, hb⟩; replace b0 := Bel.step (W := W) (by repeat (first | exact b0 | refine Bel.alloc ?_ _)) hb))
          go_ret
          exact ⟨rfl, ((by repeat (first | exact b0 | refine Bel.alloc ?_ _)) : Bel W _).out⟩

theorem wLays {W : World} (A : Option Addr) (n c : Nat) (l : List Int) (h : Byt W A n c l) (used : Int) (_ : -9223372036854775808 ≤ used) (u1 : used ≤ 9223372036854775807) (code : Int) (_ : -9223372036854775808 ≤ code) (_ : code ≤ 9223372036854775807) (many : Int) (_ : -9223372036854775808 ≤ many) (_ : many ≤ 9223372036854775807) (at_ : Int) (_ : -9223372036854775808 ≤ at_) (_ : at_ ≤ 9223372036854775807) :
    Calls Try.prog 5 #[.slice A n c, .int .i64 used, .int .i64 code, .int .i64 many, .int .i64 at_] W fun e w' => e = .returned (.bool true) ∧ Below W.heap.size W w' := by
  by_cases hl : 100 < n
  · exact laysBig A n c used code many at_ W hl
  cases ok : okLay l used code many
  · exact laysNo A n c l used code many at_ W h (by omega) u1 ok
  · have yes := of_decide_eq_true ok
    rw [h.len] at yes
    obtain ⟨m, rfl⟩ := toNat_lit yes.1
    obtain ⟨k, rfl⟩ := toNat_lit yes.2.2.1
    obtain ⟨u, rfl⟩ := toNat_lit yes.2.2.2.2.1
    simp only [Int.toNat_natCast] at yes
    exact laysYes A n c l u k m at_ W h (by omega) (by omega) (by omega) (by omega) (by omega) _ _ rfl rfl
end Go.Proofs.Ytejogehkehjelaa
