/- Texts of the layers below, put together. -/
import Derived.Test.YtnjnpnjjpodnnaaRYB
import Derived.Test.YtnjnpnjjpodnnaaRYH
import Derived.Deep.QuietTactic
import Derived.BigQuiet
/- Padding: the contracts. -/

namespace Go.Proofs.Ytnjnpnjjpodnnaa
open Go.RowKit Go.Shelf
set_option linter.unusedVariables false
attribute [local go_sem ↓ high] run_cut_lh run_cut_h run_cut_l

def padB (m : Int) : Bool := decide (0 ≤ m ∧ m ≤ 255)
def padL (l : List Int) (m : Int) : List Int := if padB m then m :: l ++ List.replicate m.toNat 0 else []
def padE (m : Int) : Int := if padB m then 0 else 2
def BytP (l : List Int) (x : Int) (w : World) (e : Ending) (W' : World) : Prop := ∃ A n c, e = .returned (.tuple #[.slice A n c, .int .i64 x]) ∧ Mine w.heap.size W' A n c l ∧ Below w.heap.size w W'

set_option maxHeartbeats 800000 in
theorem fPadNo (A : Option Addr) (n c : Nat) (m : Int) (w : World) (m0 : -9223372036854775808 ≤ m) (m1 : m ≤ 9223372036854775807) (no : ¬(0 ≤ m ∧ m ≤ 255)) :
    Calls Try.prog 98 #[.slice A n c, .int .i64 m] w (BytP [] 2 w) := by
  have hne : (m != IntKind.u8.wrap m) = true := by
    rw [bne_iff_ne]
    simp [IntKind.wrap, IntKind.signed, IntKind.bits]
    omega
  go_enter Try.func98, Try.ntmps98
  go_wp2
  go_ret2
  exact ⟨none, 0, 0, rfl, Mine.nil _ _, Below.refl _ _⟩

set_option maxHeartbeats 1600000 in
theorem fPadYes (A : Option Addr) (n c : Nat) (l : List Int) (k : Nat) (w : World) (h : Byt w A n c l) (hn : n ≤ 100000) (hk : k ≤ 255) :
    Calls Try.prog 98 #[.slice A n c, .int .i64 k] w (BytP ((k : Int) :: l ++ List.replicate k 0) 0 w) := by
  obtain ⟨N, hN⟩ : ∃ N, N = 1 + n + k := ⟨_, rfl⟩
  obtain ⟨W1, hmk, hm1, hb1⟩ : ∃ W1, (Instr.makeSlice 24 (.int .i64 (1 + (n : Int) + (k : Int))) (.int .i64 (1 + (n : Int) + (k : Int)))).run Try.prog w = .ok (.slice (some ⟨w.heap.size, 0, none⟩) N N) W1 ∧
      Mine w.heap.size W1 (some ⟨w.heap.size, 0, none⟩) N N (List.replicate N 0) ∧ Below w.heap.size w W1 := by
    refine ⟨_, ?_, Mine.make w N (Nat.le_refl _) (by omega), (Below.refl _ _).alloc (Nat.le_refl _) _⟩
    have := make8 N (by omega) w
    rwa [show ((N : Nat) : Int) = 1 + (n : Int) + (k : Int) by omega] at this
  have hl := h.len
  have k0 : (0 : Int) ≤ (k : Int) := by omega
  have k1 : (k : Int) ≤ 255 := by omega
  have n0 : 0 < N := by omega
  have n1 : (1 : Int) ≤ (N : Int) := by omega
  have hc1 := hm1.cellAt (j := 0) n0
  have hf1 := hm1.frozenAt 0
  have h2 := hm1.stored 0 k0 k1
  have y2 := h.far0 (p := ⟨w.heap.size, 0, none⟩) (Nat.le_refl _) hb1 (.int .u8 k)
  have b2 := hb1.setCell (p := ⟨w.heap.size, 0, none⟩) (Nat.le_refl _) (.int .u8 k)
  have hL : ((List.replicate N (0 : Int)).set 0 k).take 1 ++ l ++ ((List.replicate N (0 : Int)).set 0 k).drop (1 + n) = (k : Int) :: l ++ List.replicate k 0 := by
    obtain ⟨M, rfl⟩ : ∃ M, N = M + 1 := ⟨N - 1, by omega⟩
    rw [List.replicate_succ, List.set_cons_zero, List.take_succ_cons, List.take_zero, Nat.add_comm 1 n, List.drop_succ_cons, List.drop_replicate]
    rw [show M - n = k by omega]
    rfl
  have HL := Lib.hid hL
  have HN := Lib.hid hN
  clear h hl hm1 hL hN
  go_enter Try.func98, Try.ntmps98
  go_wp2_with (with_reducible refine wpList_fill _ rfl (.tmp 22) (.tmp 23) rfl w.heap.size w.heap.size N 1 _ h2 rfl A n c l rfl y2 (by have := HN.out; omega) (Nat.le_refl _) ?_; intro w3 hm3 hb3)
  go_ret2
  rw [HL.out] at hm3
  exact ⟨_, _, _, rfl, hm3, b2.trans hb3⟩

theorem fPad (A : Option Addr) (n c : Nat) (l : List Int) (m : Int) (w : World) (h : Byt w A n c l) (hn : n ≤ 100000) (m0 : -9223372036854775808 ≤ m) (m1 : m ≤ 9223372036854775807) :
    Calls Try.prog 98 #[.slice A n c, .int .i64 m] w (BytP (padL l m) (padE m) w) := by
  unfold padL padE padB
  by_cases ok : 0 ≤ m ∧ m ≤ 255
  · rw [decide_eq_true ok]
    obtain ⟨k, rfl⟩ := toNat_lit ok.1
    exact fPadYes A n c l k w h hn (by omega)
  · rw [decide_eq_false ok]
    exact fPadNo A n c m w m0 m1 ok
end Go.Proofs.Ytnjnpnjjpodnnaa
/- Padding taken away: the contracts. -/

namespace Go.Proofs.Ytnjnpnjjpodnnaa
open Go.RowKit Go.Shelf
set_option linter.unusedVariables false
attribute [local go_sem ↓ high] run_cutI_lh run_cutI_h run_cutI_l

def unB (l : List Int) : Int := l[0]?.getD 0
def unE (l : List Int) : Int := if l.length = 0 then 10 else if (l.length : Int) < 1 + unB l then 11 else 0
def unO (l : List Int) : List Int := if unE l = 0 then (l.take (l.length - (unB l).toNat)).drop 1 else []
def unN (l : List Int) : Int := if unE l = 0 then 1 + unB l else 0
def UnP (o : List Int) (m x : Int) (w : World) (e : Ending) (W' : World) : Prop := ∃ A n c, e = .returned (.tuple #[.slice A n c, .int .i64 m, .int .i64 x]) ∧ Mine w.heap.size W' A n c o ∧ Below w.heap.size w W'

theorem fUnNil (A : Option Addr) (c : Nat) (w : World) : Calls Try.prog 97 #[.slice A 0 c] w (UnP [] 0 10 w) := by
  go_enter Try.func97, Try.ntmps97
  go_wp2
  refine wp_scope_hop 1 ?_
  go_wp2_with (first | (refine wp_goto ?_; refine hop_goto rfl ?_) | (refine wp_label ?_) | (refine hop_ret ?_))
  go_ret3
  exact ⟨none, 0, 0, rfl, Mine.nil _ _, Below.refl _ _⟩

set_option maxHeartbeats 800000 in
theorem fUnMore (A : Option Addr) (n c : Nat) (l : List Int) (w : World) (h : Byt w A n c l) (hn : n ≤ 100000) (h0 : 0 < n) (hm : (n : Int) < 1 + unB l) :
    Calls Try.prog 97 #[.slice A n c] w (UnP [] 0 11 w) := by
  obtain ⟨b, o, rfl, hb, hc⟩ := h.cell h0
  have hc0 := hc 0 h0
  rw [Nat.add_zero] at hc0
  have hy := h.bs.get 0
  unfold unB at hm
  generalize l[0]?.getD 0 = y at *
  have e1 : decide ((n : Int) < 1 + y) = true := decide_eq_true hm
  have e0 : ((n : Int) == 0) = false := beq_eq_false_iff_ne.2 (by omega)
  have n0 : (0 : Int) < (n : Int) := by omega
  obtain ⟨y0, y1⟩ := hy
  clear h hc hm h0
  go_enter Try.func97, Try.ntmps97
  go_wp2
  refine wp_scope_hop 1 ?_
  go_wp2_with (first | (refine wp_goto ?_; refine hop_goto rfl ?_) | (refine wp_label ?_) | (refine hop_ret ?_))
  go_ret3
  exact ⟨none, 0, 0, rfl, Mine.nil _ _, Below.refl _ _⟩

set_option maxHeartbeats 800000 in
theorem fUnYes (A : Option Addr) (n c : Nat) (l : List Int) (w : World) (h : Byt w A n c l) (hn : n ≤ 100000) (k : Nat) (hk : unB l = k) (hm : 1 + k ≤ n) :
    Calls Try.prog 97 #[.slice A n c] w (UnP ((l.take (n - k)).drop 1) (1 + k) 0 w) := by
  have hy := h.cut (lo := 1) (hi := n - k) (by omega) (by omega)
  rw [show n - k - 1 = n - (1 + k) by omega] at hy
  have H := Lib.hid hy
  obtain ⟨b, o, rfl, hb, hc⟩ := h.cell (by omega)
  have hc0 := hc 0 (by omega)
  rw [Nat.add_zero] at hc0
  have hyb := h.bs.get 0
  unfold unB at hk
  rw [hk] at hc0 hyb
  have hcap := h.cap
  have e1 : decide ((n : Int) < 1 + (k : Int)) = false := decide_eq_false (by omega)
  have e0 : ((n : Int) == 0) = false := beq_eq_false_iff_ne.2 (by omega)
  have n0 : (0 : Int) < (n : Int) := by omega
  obtain ⟨y0, y1⟩ := hyb
  clear h hc hy hk
  go_enter Try.func97, Try.ntmps97
  go_wp2
  refine wp_scope_hop 1 ?_
  go_wp2_with (first | (refine wp_goto ?_; refine hop_goto rfl ?_) | (refine wp_label ?_) | (refine hop_ret ?_))
  refine (fClone _ _ _ _ _ H.out (by omega)).mono ?_
  rintro e w1 ⟨A1, c1, rfl, hm1, hb1⟩
  go_wp2_with (first | (refine wp_goto ?_; refine hop_goto rfl ?_) | (refine wp_label ?_) | (refine hop_ret ?_))
  go_ret3
  exact ⟨_, _, _, rfl, hm1, hb1⟩

theorem fUnpad (A : Option Addr) (n c : Nat) (l : List Int) (w : World) (h : Byt w A n c l) (hn : n ≤ 100000) : Calls Try.prog 97 #[.slice A n c] w (UnP (unO l) (unN l) (unE l) w) := by
  have hl := h.len
  have hb := h.bs.get 0
  unfold unO unN
  by_cases h0 : n = 0
  · subst h0
    have e : unE l = 10 := by unfold unE; rw [if_pos hl]
    rw [e]
    exact fUnNil A c w
  by_cases hm : (n : Int) < 1 + unB l
  · have e : unE l = 11 := by unfold unE; rw [if_neg (by omega), if_pos (by omega)]
    rw [e]
    exact fUnMore A n c l w h hn (by omega) hm
  · have e : unE l = 0 := by unfold unE; rw [if_neg (by omega), if_neg (by omega)]
    obtain ⟨k, hk⟩ := toNat_lit (show 0 ≤ unB l from hb.1)
    rw [e, hl, hk]
    exact fUnYes A n c l w h hn k hk (by omega)
end Go.Proofs.Ytnjnpnjjpodnnaa
/- A rank put: the contracts. -/

namespace Go.Proofs.Ytnjnpnjjpodnnaa
open Go.RowKit Go.Shelf
set_option linter.unusedVariables false

def rankB (dp : Int) : Bool := decide (0 ≤ dp ∧ dp < 2147483648)
def rankN (al : Bool) (dp : Int) : Nat := if al then dp.toNat + 2147483648 else dp.toNat
def rankL (al : Bool) (dp wt : Int) : List Int := if rankB dp then bigE 4 (rankN al dp) ++ [wt] else []
def rankE (dp : Int) : Int := if rankB dp then 0 else 2

theorem or_top (d : Nat) (h : d < 2147483648) : bits .or .u32 (d : Int) 2147483648 = (d : Int) + 2147483648 := by
  have h1 : bits .or .u32 (d : Int) 2147483648 = ((d ||| 2147483648 : Nat) : Int) := by
    rw [u32_or _ _ (by omega) (by omega) (by decide) (by decide)]
    rfl
  rw [h1]
  have h2 := Nat.two_pow_add_eq_or_of_lt (i := 31) (b := d) (by omega) 1
  have h3 : d ||| 2147483648 = 2147483648 + d := by
    rw [Nat.or_comm]
    simpa using h2.symm
  omega

set_option maxHeartbeats 800000 in
theorem fPutRankNo (al : Bool) (dp wt : Int) (w : World) (d0 : -9223372036854775808 ≤ dp) (d1 : dp ≤ 9223372036854775807) (no : ¬(0 ≤ dp ∧ dp < 2147483648)) :
    Calls Try.prog 100 #[.agg #[.bool al, .int .i64 dp, .int .u8 wt]] w (BytP [] 2 w) := by
  obtain ⟨R, hR, r0, r1, e1⟩ : ∃ R, bits .andNot .u32 (dp % 4294967296) 2147483648 = R ∧ 0 ≤ R ∧ R < 2147483648 ∧ (dp != R) = true := by
    refine ⟨_, rfl, ?_⟩
    rw [andNot_top _ (by omega) (by omega), bne_iff_ne]
    omega
  have b0 := (Bel.refl w).alloc (.cells #[.bool al, .int .i64 dp, .int .u8 wt] 28)
  clear no
  go_enter Try.func100, Try.ntmps100
  go_wp2
  go_ret2
  exact ⟨none, 0, 0, rfl, Mine.nil _ _, b0.out⟩

theorem putRankP (N : Nat) (hN : N < 4294967296) (NI : Int) (e : NI = N) (w : World) : Calls Try.prog 103 #[.int .i64 NI, .int .i64 4] w fun e W' => ∃ A c, e = .returned (.tuple #[.slice A 4 c, .int .i64 0]) ∧ Mine w.heap.size W' A 4 c (bigE 4 N) ∧ Below w.heap.size w W' := by
  subst e
  refine (oputYes N 4 w (by decide) (by decide) (by omega) (by omega)).mono ?_
  rintro e W' ⟨⟨A, c, rfl, hm⟩, hb⟩
  exact ⟨A, c, rfl, hm, hb⟩
set_option maxHeartbeats 1600000 in
theorem fPutRankYes (al : Bool) (d : Nat) (wt : Int) (w : World) (d1 : d < 2147483648) (w0 : 0 ≤ wt) (w1 : wt ≤ 255) :
    Calls Try.prog 100 #[.agg #[.bool al, .int .i64 d, .int .u8 wt]] w (BytP (bigE 4 (rankN al d) ++ [wt]) 0 w) := by
  have e1 : bits .andNot .u32 (d : Int) 2147483648 = (d : Int) := by
    rw [andNot_top _ (by omega) (by omega)]
    omega
  have e2 := or_top d d1
  have k0 : (0 : Int) ≤ (d : Int) := by omega
  have k1 : (d : Int) < 2147483648 := by omega
  have q0 := Blk.new w 28 #[.bool al, .int .i64 d, .int .u8 wt]
  have b0 := (Bel.refl w).alloc (.cells #[.bool al, .int .i64 d, .int .u8 wt] 28)
  have z2 := q0.at 2 rfl
  cases al
  · have P := Lib.hid fun w => putRankP (rankN false d) (by unfold rankN; simp; omega) (d : Int) (by unfold rankN; simp) w
    go_enter Try.func100, Try.ntmps100
    go_wp2_with (first
      | (go_at_call 103; refine (P.out _).mono ?_; rintro e wa ⟨A1, c1, rfl, hm, hb⟩; replace q0 := q0.below hb; replace b0 := b0.below hb; have y2 := q0.at 2 rfl)
      | (with_reducible refine wpList_app1 _ rfl (.tmp 28) (.tmp 31) rfl _ A1 4 c1 _ rfl hm wt rfl rfl ⟨w0, w1⟩ (by omega) (Nat.le_trans (Nat.le_refl _) hb.size) ?_; intro A2 c2 wb hm2 hb2 _))
    go_ret2
    exact ⟨_, _, _, rfl, hm2.base_le (by simp), (b0.stepB hb2 (by simp)).out⟩
  · have P := Lib.hid fun w => putRankP (rankN true d) (by unfold rankN; simp; omega) ((d : Int) + 2147483648) (by unfold rankN; simp) w
    go_enter Try.func100, Try.ntmps100
    go_wp2_with (first
      | (go_at_call 103; refine (P.out _).mono ?_; rintro e wa ⟨A1, c1, rfl, hm, hb⟩; replace q0 := q0.below hb; replace b0 := b0.below hb; have y2 := q0.at 2 rfl)
      | (with_reducible refine wpList_app1 _ rfl (.tmp 28) (.tmp 31) rfl _ A1 4 c1 _ rfl hm wt rfl rfl ⟨w0, w1⟩ (by omega) (Nat.le_trans (Nat.le_refl _) hb.size) ?_; intro A2 c2 wb hm2 hb2 _))
    go_ret2
    exact ⟨_, _, _, rfl, hm2.base_le (by simp), (b0.stepB hb2 (by simp)).out⟩

theorem fPutRank (al : Bool) (dp wt : Int) (w : World) (d0 : -9223372036854775808 ≤ dp) (d1 : dp ≤ 9223372036854775807) (w0 : 0 ≤ wt) (w1 : wt ≤ 255) :
    Calls Try.prog 100 #[.agg #[.bool al, .int .i64 dp, .int .u8 wt]] w (BytP (rankL al dp wt) (rankE dp) w) := by
  unfold rankL rankE rankB
  by_cases ok : 0 ≤ dp ∧ dp < 2147483648
  · rw [decide_eq_true ok]
    obtain ⟨d, rfl⟩ := toNat_lit ok.1
    exact fPutRankYes al d wt w (by omega) w0 w1
  · rw [decide_eq_false ok]
    exact fPutRankNo al dp wt w d0 d1 ok
end Go.Proofs.Ytnjnpnjjpodnnaa
/- A rank taken: the contracts. -/

namespace Go.Proofs.Ytnjnpnjjpodnnaa
open Go.RowKit Go.Shelf
set_option linter.unusedVariables false
attribute [local go_sem ↓ high] run_cutI_lh run_cutI_h run_cutI_l

def trA (l : List Int) : Bool := if l.length < 5 then false else decide (2147483648 ≤ (takeO l 0 4).1)
def trD (l : List Int) : Int := if l.length < 5 then 0 else (takeO l 0 4).1 % 2147483648
def trW (l : List Int) : Int := if l.length < 5 then 0 else l[4]?.getD 0
def trR (l : List Int) : List Int := if l.length < 5 then [] else l.drop 5
def trE (l : List Int) : Int := if l.length < 5 then 10 else 0
def TrP (al : Bool) (dp wt : Int) (R : List Int) (x : Int) (w : World) (e : Ending) (W' : World) : Prop := ∃ A n c, e = .returned (.tuple #[.agg #[.bool al, .int .i64 dp, .int .u8 wt], .slice A n c, .int .i64 x]) ∧ Mine w.heap.size W' A n c R ∧ Below w.heap.size w W'
theorem and_bit (n k : Nat) : n &&& 2 ^ k = if n.testBit k then 2 ^ k else 0 := by
  apply Nat.eq_of_testBit_eq
  intro i
  rw [Nat.testBit_and, Nat.testBit_two_pow]
  by_cases h : i = k
  · subst h
    cases hb : n.testBit i <;> simp
  · have h' : ¬ k = i := fun e => h e.symm
    cases hb : n.testBit k <;> simp [h']
theorem and_top (V : Int) (h0 : 0 ≤ V) (h1 : V < 4294967296) : (bits .and .u32 V 2147483648 != 0) = decide (2147483648 ≤ V) := by
  obtain ⟨n, rfl⟩ := toNat_lit h0
  rw [u32_and _ _ h0 h1 (by decide) (by decide)]
  simp only [Int.toNat_natCast]
  rw [show (Int.toNat 2147483648) = 2 ^ 31 from rfl, and_bit, Nat.testBit_eq_decide_div_mod_eq, Bool.eq_iff_iff]
  by_cases h : n / 2 ^ 31 % 2 = 1
  · simp [h]
    omega
  · simp [h]
    omega

set_option maxHeartbeats 800000 in
theorem fTakeRankNo (A : Option Addr) (n c : Nat) (w : World) (hn : n < 5) : Calls Try.prog 99 #[.slice A n c] w (TrP false 0 0 [] 10 w) := by
  have e0 : decide ((n : Int) < 5) = true := decide_eq_true (by omega)
  have q0 := Blk.new w 28 #[.bool false, .int .i64 0, .int .u8 0]
  have b0 := (Bel.refl w).alloc (.cells #[.bool false, .int .i64 0, .int .u8 0] 28)
  have z0 := q0.at 0 rfl
  have z1 := q0.at 1 rfl
  have z2 := q0.at 2 rfl
  clear hn
  go_enter Try.func99, Try.ntmps99
  go_wp2
  (try rw [q0.again 0 (v := .bool false) rfl, q0.again 1 (v := .int .i64 0) rfl, q0.again 2 (v := .int .u8 0) rfl])
  exact bodyPost_ret (v := .tuple #[.agg #[.bool false, .int .i64 0, .int .u8 0], .slice none 0 0, .int .i64 10]) (by simp [results, Try.f99, go_sem, z0, z1, z2]) rfl ⟨none, 0, 0, rfl, Mine.nil _ _, b0.out⟩

noncomputable def fOps4 : Array Oper := regAt Try.f99 4
noncomputable def fOps6 : Array Oper := regAt Try.f99 6
set_option maxRecDepth 100000 in
set_option maxHeartbeats 4000000 in
theorem fTakeRankYes (b o n c : Nat) (l : List Int) (w : World) (h : Byt w (some ⟨b, o, none⟩) n c l) (hn : 5 ≤ n) (hn2 : n ≤ 100000) (N D y : Int) (al : Bool) (N0 : 0 ≤ N) (N1 : N < 4294967296) (hD : N % 2147483648 = D) (hy : l[4]?.getD 0 = y)
    (hA : (bits .and .u32 N 2147483648 != 0) = al) (E1 : Int) (T : ∀ w, Byt w (some ⟨b, o, none⟩) n c l → Calls Try.prog 102 #[.slice (some ⟨b, o, none⟩) n c, .int .i64 0, .int .i64 4] w (Ret (.tuple #[.int .i64 N, .int .i64 E1]) w)) (E2 : Int) (TS : ∀ w, Byt w (some ⟨b, o, none⟩) n c l → Calls Try.prog 107 #[.slice (some ⟨b, o, none⟩) n c, .int .i64 0] w (Ret (.tuple #[.int .i64 D, .int .i64 E2]) w)) :
    Calls Try.prog 99 #[.slice (some ⟨b, o, none⟩) n c] w (TrP al D y (l.drop 5) 0 w) := by
  have hyb := h.bs.get 4
  have hl := h.len
  obtain ⟨b', o', e, hb0, hc⟩ := h.cell (by omega)
  obtain ⟨rfl, rfl⟩ : b = b' ∧ o = o' := by simpa using e
  have hc4 := hc 4 (by omega)
  rw [hy] at hc4 hyb
  clear e hc hy
  have e0 : decide ((n : Int) < 5) = false := decide_eq_false (by omega)
  have n4 : (4 : Int) < (n : Int) := by omega
  have n5 : (5 : Int) ≤ (n : Int) := by omega
  obtain ⟨y0, y1⟩ := hyb
  have hcap := h.cap
  have hne : b ≠ w.heap.size := Nat.ne_of_lt hb0
  have q0 := Blk.new w 28 #[.bool false, .int .i64 0, .int .u8 0]
  have b0 := (Bel.refl w).alloc (.cells #[.bool false, .int .i64 0, .int .u8 0] 28)
  have hh := h.alloc (.cells #[.bool false, .int .i64 0, .int .u8 0] 28)
  have c0 : (w.alloc (.cells #[.bool false, .int .i64 0, .int .u8 0] 28)).cell? ⟨b, o + 4, none⟩ = some (.int .u8 y) := (World.cell?_alloc_lt w (.cells #[.bool false, .int .i64 0, .int .u8 0] 28) ⟨b, o + 4, none⟩ hb0).trans hc4
  clear hc4
  have T1 := Lib.hid T
  clear T
  have T2 := Lib.hid TS
  clear TS
  have eW : IntKind.u32.wrap N = N := by
    simp only [IntKind.wrap, IntKind.signed, IntKind.bits]
    simp
    omega
  have HD := Lib.hid hD
  clear hD
  go_enter Try.func99, Try.ntmps99
  go_wp2_with (go_at_call 102; refine (T1.out _ hh).mono ?_; rintro e w1 ⟨rfl, rfl⟩)
  generalize w.alloc (.cells #[.bool false, .int .i64 0, .int .u8 0] 28) = W1 at *
  obtain ⟨SW, HS⟩ : ∃ SW : World → Prop, Hid (SW = CellsAt [(⟨b, o + 4, none⟩, .int .u8 y)]) := ⟨_, Lib.hid rfl⟩
  have sw0 : SW W1.drew := by
    rw [HS.out]
    exact ⟨c0, trivial⟩
  replace q0 := q0.drew
  replace b0 := b0.drew
  replace hh := hh.drew
  clear c0
  refine wp_region_N fOps4 SW (by as_aux_lemma => kernel_rfl) (by as_aux_lemma => kernel_rfl) (fun d _ _ _ _ h => by cases d <;> exact h) (fun Q HQ hp => ?_)
  generalize W1.drew = W2 at *
  refine wpAnyG_takesF [0, 1, 2, 3, 4, 5, 6, 7] 3 (by as_aux_lemma => kernel_rfl) (by as_aux_lemma => kernel_rfl) hp sw0 ?_
  refine pureW_e1 5 (by (conv => lhs; whnf; arg 1; whnf)) (by rfl) (by (conv => lhs; whnf)) (fun ρ hρ h1 w1 hSw => by have hc := hρ.const; clear hρ; clear hSw; go_simp; try with_reducible rfl) ?_; (try simp only [Act.put, List.setIfInBounds_toArray, List.set_cons_succ, List.set_cons_zero])
  refine pureW_e1 16 (by (conv => lhs; whnf; arg 1; whnf)) (by rfl) (by (conv => lhs; whnf)) (fun ρ hρ h1 w1 hSw => by have hc := hρ.const; clear hρ; clear hSw; go_simp; try with_reducible rfl) ?_; (try simp only [Act.put, List.setIfInBounds_toArray, List.set_cons_succ, List.set_cons_zero])
  refine pureW_e1 17 (by (conv => lhs; whnf; arg 1; whnf)) (by rfl) (by (conv => lhs; whnf)) (fun ρ hρ h1 w1 hSw => by have hc := hρ.const; clear hρ; clear hSw; go_simp; try with_reducible rfl) ?_; (try simp only [Act.put, List.setIfInBounds_toArray, List.set_cons_succ, List.set_cons_zero])
  refine pureW_e1 18 (by (conv => lhs; whnf; arg 1; whnf)) (by rfl) (by (conv => lhs; whnf)) (fun ρ hρ h1 w1 hSw => by have hc := hρ.const; clear hρ; clear hSw; go_simp; try with_reducible rfl) ?_; (try simp only [Act.put, List.setIfInBounds_toArray, List.set_cons_succ, List.set_cons_zero])
  refine pureW_e1 0 (by (conv => lhs; whnf; arg 1; whnf)) (by rfl) (by (conv => lhs; whnf)) (fun ρ hρ h1 w1 hSw => by have hc := hρ.const; clear hρ; clear hSw; go_simp; try with_reducible rfl) ?_; (try simp only [Act.put, List.setIfInBounds_toArray, List.set_cons_succ, List.set_cons_zero])
  refine pureW_e1 20 (by (conv => lhs; whnf; arg 1; whnf)) (by rfl) (by (conv => lhs; whnf)) (fun ρ hρ h1 w1 hSw => by have hc := hρ.const; clear hρ; clear hSw; go_simp; try with_reducible rfl) ?_; (try simp only [Act.put, List.setIfInBounds_toArray, List.set_cons_succ, List.set_cons_zero])
  refine pureW_e1 21 (by (conv => lhs; whnf; arg 1; whnf)) (by rfl) (by (conv => lhs; whnf)) (fun ρ hρ h1 w1 hSw => by have hc := hρ.const; clear hρ; rw [HS.out] at hSw; simp only [CellsAt] at hSw; go_simp; try with_reducible rfl) ?_; (try simp only [Act.put, List.setIfInBounds_toArray, List.set_cons_succ, List.set_cons_zero])
  refine pureW_e1 2 (by (conv => lhs; whnf; arg 1; whnf)) (by rfl) (by (conv => lhs; whnf)) (fun ρ hρ h1 w1 hSw => by have hc := hρ.const; clear hρ; clear hSw; go_simp; try with_reducible rfl) ?_; (try simp only [Act.put, List.setIfInBounds_toArray, List.set_cons_succ, List.set_cons_zero])
  refine pureW_nil ?_
  refine wpAnyG_oneN 8 2 (by as_aux_lemma => kernel_rfl) (by as_aux_lemma => kernel_rfl) (by (conv => lhs; whnf; arg 1; whnf)) (by rfl) (fun K hK => ?_)
  have z0 := q0.at 0 rfl
  have f0 := q0.frozen 0
  go_simp
  replace hh := hh.far (p := ⟨w.heap.size, 0, none⟩) (fun b2 o2 e2 => by simp at e2; exact fun e3 => hne (e2.1.trans e3)) (.bool al)
  replace b0 := b0.set (p := ⟨w.heap.size, 0, none⟩) (Nat.le_refl _) (.bool al)
  replace q0 := q0.set 0 (.bool al)
  have sw1 : SW (W2.setCell ⟨w.heap.size, 0, none⟩ (.bool al)) := by rw [HS.out] at sw0 ⊢; exact ⟨(World.cell?_of_block (Below.heap_setCell _ ⟨w.heap.size, 0, none⟩ (.bool al) b hne)).trans sw0.1, trivial⟩
  (try go_simp)
  refine hK.out _ _ sw1 ?_
  clear hK K sw0
  refine wpAnyG_takesF [9] 1 (by as_aux_lemma => kernel_rfl) (by as_aux_lemma => kernel_rfl) hp sw1 ?_
  refine pureW_e1 2 (by (conv => lhs; whnf; arg 1; whnf)) (by rfl) (by (conv => lhs; whnf)) (fun ρ hρ h1 w1 hSw => by have hc := hρ.const; clear hρ; clear hSw; go_simp; try with_reducible rfl) ?_; (try simp only [Act.put, List.setIfInBounds_toArray, List.set_cons_succ, List.set_cons_zero])
  refine pureW_nil ?_
  refine wpAnyG_oneN 10 0 (by as_aux_lemma => kernel_rfl) (by as_aux_lemma => kernel_rfl) (by (conv => lhs; whnf; arg 1; whnf)) (by rfl) (fun K hK => ?_)
  have z2 := q0.at 2 rfl
  have f2 := q0.frozen 2
  go_simp
  replace hh := hh.far (p := ⟨w.heap.size, 2, none⟩) (fun b2 o2 e2 => by simp at e2; exact fun e3 => hne (e2.1.trans e3)) (.int .u8 y)
  replace b0 := b0.set (p := ⟨w.heap.size, 2, none⟩) (Nat.le_refl _) (.int .u8 y)
  replace q0 := q0.set 2 (.int .u8 y)
  have sw3 : SW ((W2.setCell ⟨w.heap.size, 0, none⟩ (.bool al)).setCell ⟨w.heap.size, 2, none⟩ (.int .u8 y)) := by rw [HS.out] at sw1 ⊢; exact ⟨(World.cell?_of_block (Below.heap_setCell _ ⟨w.heap.size, 2, none⟩ (.int .u8 y) b hne)).trans sw1.1, trivial⟩
  (try go_simp)
  refine hK.out _ _ sw3 ?_
  clear hK K sw1
  refine wpAnyG_done (by as_aux_lemma => kernel_rfl) ?_ _
  rw [HQ.out]
  clear sw3 HS SW
  have q1 : Blk _ _ _ #[.bool al, .int .i64 0, .int .u8 y] := q0
  generalize (W2.setCell ⟨w.heap.size, 0, none⟩ (.bool al)).setCell ⟨w.heap.size, 2, none⟩ (.int .u8 y) = W3 at *
  clear q0
  have z1 := q1.at 1 rfl
  have f1 := q1.frozen 1
  go_wp2_with (go_at_call 107; refine (T2.out _ hh).mono ?_; rintro e w1 ⟨rfl, rfl⟩)
  replace hh := hh.far (p := ⟨w.heap.size, 1, none⟩) (fun b2 o2 e2 => by simp at e2; exact fun e3 => hne (e2.1.trans e3)) (.int .i64 D)
  replace b0 := b0.set (p := ⟨w.heap.size, 1, none⟩) (Nat.le_refl _) (.int .i64 D)
  have q2 : Blk _ _ _ #[.bool al, .int .i64 D, .int .u8 y] := q1.set 1 (.int .i64 D)
  clear q1 z1 f1
  generalize W3.setCell ⟨w.heap.size, 1, none⟩ (.int .i64 D) = W4 at *
  obtain ⟨SW, HS⟩ : ∃ SW : World → Prop, Hid (SW = CellsAt [(⟨w.heap.size, 0, none⟩, .bool al), (⟨w.heap.size, 1, none⟩, .int .i64 D), (⟨w.heap.size, 2, none⟩, .int .u8 y)]) := ⟨_, Lib.hid rfl⟩
  have sw0 : SW W4.drew := by
    rw [HS.out]
    exact ⟨q2.at 0 rfl, q2.at 1 rfl, q2.at 2 rfl, trivial⟩
  replace q2 := q2.drew
  replace b0 := b0.drew
  replace hh := hh.drew
  have yc := hh.cutL (lo := 5) (by omega)
  have hsz := b0.out.size
  have HB : Hid (∀ w w', SW w → Below w.heap.size w w' → SW w') := Lib.hid fun w w' h hb => by rw [HS.out] at h ⊢; exact CellsAt.below h hb
  refine wp_region_N fOps6 SW (by as_aux_lemma => kernel_rfl) (by as_aux_lemma => kernel_rfl) (fun d _ _ _ _ h => by cases d <;> exact h) (fun Q HQ hp => ?_)
  refine wpAnyG_takesF [0, 1, 2] 4 (by as_aux_lemma => kernel_rfl) (by as_aux_lemma => kernel_rfl) hp sw0 ?_
  refine pureW_e1 2 (by (conv => lhs; whnf; arg 1; whnf)) (by rfl) (by (conv => lhs; whnf)) (fun ρ hρ h1 w1 hSw => by have hc := hρ.const; clear hρ; rw [HS.out] at hSw; simp only [CellsAt] at hSw; go_simp; try with_reducible rfl) ?_; (try simp only [Act.put, List.setIfInBounds_toArray, List.set_cons_succ, List.set_cons_zero])
  refine pureW_e1 0 (by (conv => lhs; whnf; arg 1; whnf)) (by rfl) (by (conv => lhs; whnf)) (fun ρ hρ h1 w1 hSw => by have hc := hρ.const; clear hρ; clear hSw; go_simp; try with_reducible rfl) ?_; (try simp only [Act.put, List.setIfInBounds_toArray, List.set_cons_succ, List.set_cons_zero])
  refine pureW_e1 32 (by (conv => lhs; whnf; arg 1; whnf)) (by rfl) (by (conv => lhs; whnf)) (fun ρ hρ h1 w1 hSw => by have hc := hρ.const; clear hρ; clear hSw; go_simp; try with_reducible rfl) ?_; (try simp only [Act.put, List.setIfInBounds_toArray, List.set_cons_succ, List.set_cons_zero])
  refine pureW_nil ?_
  refine wpAnyG_oneN 3 3 (by as_aux_lemma => kernel_rfl) (by as_aux_lemma => kernel_rfl) (by (conv => lhs; whnf; arg 1; whnf)) (by rfl) (fun K hK => ?_)
  go_simp
  refine (fClone _ _ _ _ _ yc (by omega)).mono ?_
  rintro e wr1 ⟨A5, c5, rfl, hm5, hb⟩
  replace b0 := (b0).below hb
  replace q2 := (q2).below hb
  have hb5 := hb
  have sw1 := HB.out _ _ sw0 hb
  (try go_simp)
  refine hK.out _ _ sw1 ?_
  clear hK K hb sw0
  refine wpAnyG_oneN 4 2 (by as_aux_lemma => kernel_rfl) (by as_aux_lemma => kernel_rfl) (by (conv => lhs; whnf; arg 1; whnf)) (by rfl) (fun K hK => ?_)
  have z0 := q2.at 0 rfl
  have z1 := q2.at 1 rfl
  have z2 := q2.at 2 rfl
  have f0 := q2.frozen
  go_simp
  rw [q2.again 0 (v := .bool al) rfl, q2.again 1 (v := .int .i64 D) rfl, q2.again 2 (v := .int .u8 y) rfl]
  (try go_simp)
  refine hK.out _ _ sw1 ?_
  clear hK K
  refine wpAnyG_takesF [5, 6] 0 (by as_aux_lemma => kernel_rfl) (by as_aux_lemma => kernel_rfl) hp sw1 ?_
  refine pureW_e1 34 (by (conv => lhs; whnf; arg 1; whnf)) (by rfl) (by (conv => lhs; whnf)) (fun ρ hρ h1 w1 hSw => by have hc := hρ.const; clear hρ; clear hSw; go_simp; try with_reducible rfl) ?_; (try simp only [Act.put, List.setIfInBounds_toArray, List.set_cons_succ, List.set_cons_zero])
  refine pureW_e0  (by (conv => lhs; whnf; arg 1; whnf)) (by rfl)  (fun ρ hρ  w1 hSw => by have hc := hρ.const; clear hρ; clear hSw; go_simp; try with_reducible rfl) ?_; (try simp only [Act.put, List.setIfInBounds_toArray, List.set_cons_succ, List.set_cons_zero])
  refine pureW_nil ?_
  refine wpAnyG_done (by as_aux_lemma => kernel_rfl) ?_ _
  rw [HQ.out]
  go_wp2
  have z0 := q2.at 0 rfl
  have z1 := q2.at 1 rfl
  have z2 := q2.at 2 rfl
  exact bodyPost_ret (v := .tuple #[.agg #[.bool al, .int .i64 D, .int .u8 y], .slice A5 (n - 5) c5, .int .i64 0]) (by simp [results, Try.f99, go_sem, z0, z1, z2]) rfl ⟨_, _, _, rfl, hm5.base_le hsz, b0.out⟩

theorem fTakeRank (A : Option Addr) (n c : Nat) (l : List Int) (w : World) (h : Byt w A n c l) (hn : n ≤ 100000) : Calls Try.prog 99 #[.slice A n c] w (TrP (trA l) (trD l) (trW l) (trR l) (trE l) w) := by
  have hl := h.len
  unfold trA trD trW trR trE
  by_cases h5 : n < 5
  · rw [if_pos (by omega), if_pos (by omega), if_pos (by omega), if_pos (by omega), if_pos (by omega)]
    exact fTakeRankNo A n c w h5
  · rw [if_neg (by omega), if_neg (by omega), if_neg (by omega), if_neg (by omega), if_neg (by omega)]
    obtain ⟨b, o, rfl, _⟩ := h.cell (by omega)
    have hN := takeO_bd h.bs 0 4
    exact fTakeRankYes b o n c l w h (by omega) hn _ _ _ _ hN.1 hN.2 rfl rfl (and_top _ hN.1 hN.2) _ (fun w h => fOTake _ n c l 0 4 w (by decide) h) _ (fun w h => fOStream _ n c l 0 w (by decide) h)
end Go.Proofs.Ytnjnpnjjpodnnaa
/- Words for slices of settings: one that is read, one that the call owns; append of one. -/

namespace Go.Proofs.Ytnjnpnjjpodnnaa
open Go.RowKit Go.ChangeShapes Go.WideShapes
set_option linter.unusedVariables false

def PBs (l : List (Int × Int)) : Prop := ∀ x ∈ l, (0 ≤ x.1 ∧ x.1 ≤ 65535) ∧ (0 ≤ x.2 ∧ x.2 ≤ 4294967295)
def pid (l : List (Int × Int)) (i : Nat) : Int := (l[i]?.getD (0, 0)).1
def pva (l : List (Int × Int)) (i : Nat) : Int := (l[i]?.getD (0, 0)).2
theorem PBs.nil : PBs [] := fun _ h => by cases h
theorem PBs.get {l : List (Int × Int)} (h : PBs l) (i : Nat) : (0 ≤ pid l i ∧ pid l i ≤ 65535) ∧ (0 ≤ pva l i ∧ pva l i ≤ 4294967295) := by
  unfold pid pva
  rcases Nat.lt_or_ge i l.length with hk | hk
  · rw [List.getElem?_eq_getElem hk]; exact h _ (List.getElem_mem hk)
  · rw [List.getElem?_eq_none hk]; exact ⟨⟨by decide, by decide⟩, ⟨by decide, by decide⟩⟩
theorem PBs.append {l m : List (Int × Int)} (h : PBs l) (k : PBs m) : PBs (l ++ m) := fun y hy => (List.mem_append.1 hy).elim (h y) (k y)
theorem PBs.one {x : Int × Int} (h : (0 ≤ x.1 ∧ x.1 ≤ 65535) ∧ (0 ≤ x.2 ∧ x.2 ≤ 4294967295)) : PBs [x] := fun y hy => by simp at hy; subst hy; exact h

/-- The slice at A of length n, capacity c reads as the settings l. -/
structure Prs (w : World) (A : Option Addr) (n c : Nat) (l : List (Int × Int)) : Prop where
  len : l.length = n
  cap : n ≤ c
  mx : c ≤ 9223372036854775807
  nn : A = none → c = 0
  bs : PBs l
  cell : 0 < n → ∃ b o, A = some ⟨b, o, none⟩ ∧ b < w.heap.size ∧ ∀ i, i < n → w.cell? ⟨b, o + i * 2, none⟩ = some (.int .u16 (pid l i)) ∧ w.cell? ⟨b, o + i * 2 + 1, none⟩ = some (.int .u32 (pva l i))
section
variable {w w' : World} {A : Option Addr} {n c : Nat} {l : List (Int × Int)}
theorem Prs.nil (w : World) : Prs w none 0 0 [] := ⟨rfl, Nat.le_refl _, by decide, fun _ => rfl, PBs.nil, fun h => absurd h (Nat.lt_irrefl _)⟩
theorem Prs.keep (h : Prs w A n c l) (hs : w.heap.size ≤ w'.heap.size) (hk : ∀ b o, b < w.heap.size → w'.cell? ⟨b, o, none⟩ = w.cell? ⟨b, o, none⟩) : Prs w' A n c l :=
  ⟨h.len, h.cap, h.mx, h.nn, h.bs, fun hn => by
    obtain ⟨b, o, e, hb, hc⟩ := h.cell hn
    exact ⟨b, o, e, by omega, fun i hi => ⟨(hk _ _ hb).trans (hc i hi).1, (hk _ _ hb).trans (hc i hi).2⟩⟩⟩
theorem Prs.below (h : Prs w A n c l) (hb : Below w.heap.size w w') : Prs w' A n c l := h.keep hb.size fun _ _ k => hb.cell k
theorem Prs.drew (h : Prs w A n c l) : Prs w.drew A n c l := h.keep (Nat.le_refl _) fun _ _ _ => rfl
theorem Prs.alloc (h : Prs w A n c l) (o : Obj) : Prs (w.alloc o) A n c l := h.keep (by simp) fun b q hb => World.cell?_alloc_lt w o ⟨b, q, none⟩ hb
end

def pcells (l : List (Int × Int)) : List Value := l.flatMap fun x => [Value.int .u16 x.1, Value.int .u32 x.2]
theorem pcells_len (l : List (Int × Int)) : (pcells l).length = l.length * 2 := by
  induction l with
  | nil => rfl
  | cons x r ih => simp only [pcells, List.flatMap_cons, List.length_append, List.length_cons, List.length_nil] at ih ⊢; omega
theorem pcells_app (l m : List (Int × Int)) : pcells (l ++ m) = pcells l ++ pcells m := by simp [pcells]
theorem pcells_at (l : List (Int × Int)) : ∀ i, i < l.length → (pcells l)[i * 2]? = some (.int .u16 (pid l i)) ∧ (pcells l)[i * 2 + 1]? = some (.int .u32 (pva l i)) := by
  induction l with
  | nil => intro i hi; simp at hi
  | cons x r ih =>
    intro i hi
    rcases i with _ | i
    · simp [pcells, pid, pva]
    · have h := ih i (by simpa using hi)
      have e : pcells (x :: r) = Value.int .u16 x.1 :: Value.int .u32 x.2 :: pcells r := by simp [pcells]
      rw [e, show (i + 1) * 2 = i * 2 + 1 + 1 by omega]
      simpa [pid, pva] using h

/-- A slice of the call's own. -/
def MineP (base : Nat) (w : World) (A : Option Addr) (n c : Nat) (l : List (Int × Int)) : Prop :=
  w.ownsRow base 55 2 (.slice A n c) n (pcells l) ∧ PBs l
section
variable {base : Nat} {w w' : World} {A : Option Addr} {n c : Nat} {l : List (Int × Int)}
theorem MineP.len (h : MineP base w A n c l) : l.length = n := by have := h.1.1; rw [pcells_len] at this; omega
theorem MineP.nil (base : Nat) (w : World) : MineP base w none 0 0 [] := ⟨World.ownsRow_nil w base _ 2, PBs.nil⟩
theorem MineP.keep (h : MineP base w A n c l) (hk : ∀ g, g < w.heap.size → A = some ⟨g, 0, none⟩ → w'.heap[g]? = w.heap[g]?) : MineP base w' A n c l := by
  refine ⟨⟨h.1.1, ?_⟩, h.2⟩
  rcases h.1.2 with h' | ⟨g, cap, cur, e, hb, hg, hr⟩
  · exact .inl h'
  · have e' : A = some ⟨g, 0, none⟩ := by simp at e; exact e.1
    exact .inr ⟨g, cap, cur, e, hb, (hk g (Array.getElem?_eq_some_iff.1 hg).1 e').trans hg, hr⟩
theorem MineP.below (h : MineP base w A n c l) (hb : Below w.heap.size w w') : MineP base w' A n c l := h.keep fun g hg _ => hb.block g hg
theorem MineP.alloc (h : MineP base w A n c l) (o : Obj) : MineP base (w.alloc o) A n c l := h.keep fun g hg _ => Below.heap_alloc w o g hg
theorem MineP.drew (h : MineP base w A n c l) : MineP base w.drew A n c l := h
theorem MineP.far (h : MineP base w A n c l) {p : Addr} (hp : ∀ g, A = some ⟨g, 0, none⟩ → g ≠ p.block) (v : Value) : MineP base (w.setCell p v) A n c l :=
  h.keep fun g _ e => Below.heap_setCell w p v g (hp g e)
theorem MineP.base_le (h : MineP base w A n c l) {b : Nat} (hb : b ≤ base) : MineP b w A n c l := by
  refine ⟨⟨h.1.1, ?_⟩, h.2⟩
  rcases h.1.2 with h' | ⟨g, cap, cur, e, hg, hr⟩
  · exact .inl h'
  · exact .inr ⟨g, cap, cur, e, by omega, hr⟩
theorem MineP.prs (h : MineP base w A n c l) : Prs w A n c l := by
  have hl := h.len
  rcases h.1.2 with ⟨e, h0⟩ | ⟨g, cap, cur, e, hb, hg, hnc, hcm, hcs, htake⟩
  · simp at e
    obtain ⟨rfl, _, rfl⟩ := e
    subst h0
    exact ⟨hl, Nat.le_refl _, by decide, fun _ => rfl, h.2, fun k => absurd k (Nat.lt_irrefl _)⟩
  · simp at e
    obtain ⟨rfl, rfl⟩ := e
    refine ⟨hl, hnc, by simpa [maxLen] using hcm, fun e => by simp at e, h.2, fun _ => ⟨g, 0, rfl, (Array.getElem?_eq_some_iff.1 hg).1, fun i hi => ?_⟩⟩
    have hc := h.1.cells (g := g) rfl
    have h1 := pcells_at l i (by omega)
    have c1 := hc (i * 2) _ h1.1
    have c2 := hc (i * 2 + 1) _ h1.2
    rw [add_plain] at c1 c2
    rw [Nat.zero_add] at c1 c2 ⊢
    exact ⟨c1, c2⟩
theorem MineP.lt (h : MineP base w A n c l) (g : Nat) (e : A = some ⟨g, 0, none⟩) : base ≤ g ∧ g < w.heap.size := by
  subst e
  exact h.1.lt g rfl
end

theorem infoP : (Try.prog.info? 55).map (fun i => (i.zero, i.size, i.bytes)) = some (some (.agg #[.int .u16 0, .int .u32 0]), 2, 8) := by kernel_rfl

end Go.Proofs.Ytnjnpnjjpodnnaa
/- The last value of a setting: the contracts. -/

namespace Go.Proofs.Ytnjnpnjjpodnnaa
open Go.RowKit Go.Shelf
set_option linter.unusedVariables false

end Go.Proofs.Ytnjnpnjjpodnnaa
/- Whether settings are the same: the contracts. -/

namespace Go.Proofs.Ytnjnpnjjpodnnaa
open Go.RowKit Go.Shelf
set_option linter.unusedVariables false

def eqP (l m : List (Int × Int)) : Bool := l == m
theorem eqP_of {l m : List (Int × Int)} {n : Nat} (hl : l.length = n) (hm : m.length = n) (h : ∀ j, j < n → pid l j = pid m j ∧ pva l j = pva m j) : eqP l m = true := by
  unfold eqP
  rw [beq_iff_eq]
  refine List.ext_getElem (by omega) fun j h1 h2 => ?_
  have := h j (by omega)
  unfold pid pva at this
  rw [List.getElem?_eq_getElem h1, List.getElem?_eq_getElem h2] at this
  exact Prod.ext this.1 this.2
theorem eqP_ne {l m : List (Int × Int)} (j : Nat) (h : pid l j ≠ pid m j ∨ pva l j ≠ pva m j) : eqP l m = false := by
  unfold eqP
  rw [beq_eq_false_iff_ne]
  rintro rfl
  rcases h with h | h <;> exact h rfl
theorem eqP_len {l m : List (Int × Int)} (h : l.length ≠ m.length) : eqP l m = false := by
  unfold eqP
  rw [beq_eq_false_iff_ne]
  rintro rfl
  exact h rfl
theorem draws_bel {B : Nat} {w w' : World} (h : Below B w w') (n : Nat) : Below B w (w'.drewN n) := h.trans ⟨rfl, rfl, rfl, Nat.le_refl _, fun _ _ => rfl⟩

set_option maxHeartbeats 1600000 in
theorem fEqualP (A : Option Addr) (n c : Nat) (l : List (Int × Int)) (A' : Option Addr) (m c' : Nat) (l' : List (Int × Int)) (w : World) (h : Prs w A n c l) (h' : Prs w A' m c' l') :
    Calls Try.prog 40 #[.slice A n c, .slice A' m c'] w fun e W' => e = .returned (.bool (eqP l l')) ∧ Below w.heap.size w W' := by
  have hl := h.len
  have hl' := h'.len
  have hmx : n ≤ 9223372036854775807 := Nat.le_trans h.cap h.mx
  have hmx' : m ≤ 9223372036854775807 := Nat.le_trans h'.cap h'.mx
  by_cases hnm : n = m
  · subst hnm
    have HL := Lib.hid hl
    have HL' := Lib.hid hl'
    clear hl hl'
    go_enter Try.func40, Try.ntmps40
    go_wp2
    go_loopw [13] (fun i wr => ∃ k : Nat, k ≤ n ∧ i = .int .i64 k ∧ Hid (∀ j, j < k → pid l j = pid l' j ∧ pva l j = pva l' j) ∧ Below w.heap.size w wr) (fun i _ => n - (intOf i).toNat)
    case atStart => exact ⟨0, Nat.zero_le _, rfl, Lib.hid fun j hj => absurd hj (Nat.not_lt_zero _), Below.refl _ _⟩
    case round =>
      obtain ⟨k, hk, rfl, hz, hb⟩ := hrel
      by_cases hlt : k < n
      · obtain ⟨b, o, rfl, hbl, hc⟩ := (h.below hb).cell (by omega)
        obtain ⟨b', o', rfl, hbl', hc'⟩ := (h'.below hb).cell (by omega)
        obtain ⟨c1, c2⟩ := hc k hlt
        obtain ⟨c3, c4⟩ := hc' k hlt
        have hb2 := Lib.hid hb
        have i0 : (0 : Int) ≤ (k : Int) := by omega
        have i1 : (k : Int) < (n : Int) := by omega
        clear hc hc' hb h h'
        by_cases e1 : pid l k = pid l' k
        · by_cases e2 : pva l k = pva l' k
          · have hz2 : Hid (∀ j, j < k + 1 → pid l j = pid l' j ∧ pva l j = pva l' j) := Lib.hid fun j hj => by
              by_cases hjk : j = k
              · subst hjk; exact ⟨e1, e2⟩
              · exact hz.out j (by omega)
            rw [← e1] at c3
            rw [← e2] at c4
            clear e1 e2 hz
            generalize pid l k = x at *
            generalize pva l k = y at *
            go_wp2
            go_quiet (fail)
            go_wp2
            exact ⟨⟨k + 1, by omega, by simp, hz2, draws_bel hb2.out _⟩, by simp [intOf]; omega⟩
          · have HN := Lib.hid (eqP_ne k (.inr e2))
            rw [← e1] at c3
            clear e1 hz
            generalize pid l k = x at *
            generalize pva l k = y at *
            generalize pva l' k = y' at *
            have g2 : (y == y') = false := beq_eq_false_iff_ne.2 e2
            have g3 : (y != y') = true := bne_iff_ne.2 e2
            clear e2
            go_wp2
            go_quiet (fail)
            go_wp2
            go_ret
            exact ⟨by rw [HN.out]; rfl, draws_bel hb2.out _⟩
        · have HN := Lib.hid (eqP_ne k (.inl e1))
          clear hz
          generalize pid l k = x at *
          generalize pva l k = y at *
          generalize pid l' k = x' at *
          generalize pva l' k = y' at *
          have g2 : (x == x') = false := beq_eq_false_iff_ne.2 e1
          have g3 : (x != x') = true := bne_iff_ne.2 e1
          clear e1
          go_wp2
          go_quiet (fail)
          go_wp2
          go_ret
          exact ⟨by rw [HN.out]; rfl, draws_bel hb2.out _⟩
      · obtain rfl : n = k := by omega
        have HN := Lib.hid (eqP_of HL.out HL'.out hz.out)
        clear hz
        go_wp2
        go_ret
        exact ⟨by rw [HN.out]; rfl, hb⟩
  · have HN := Lib.hid (eqP_len (l := l) (m := l') (by omega))
    have e0 : ((n : Int) != (m : Int)) = true := by rw [bne_iff_ne]; omega
    clear hnm hl hl'
    go_enter Try.func40, Try.ntmps40
    go_wp2
    go_ret
    exact ⟨by rw [HN.out]; rfl, Below.refl _ _⟩

end Go.Proofs.Ytnjnpnjjpodnnaa
/- Settings put: the contracts. -/

namespace Go.Proofs.Ytnjnpnjjpodnnaa
open Go.RowKit Go.Shelf
set_option linter.unusedVariables false

def pairB (p : Int × Int) : List Int := bigE 2 p.1.toNat ++ bigE 4 p.2.toNat
def putPs (l : List (Int × Int)) : List Int := l.flatMap pairB
theorem pairB_len (p : Int × Int) : (pairB p).length = 6 := by simp [pairB, bigE_len]
theorem putPs_len (l : List (Int × Int)) : (putPs l).length = l.length * 6 := by
  induction l with
  | nil => rfl
  | cons x r ih => simp only [putPs, List.flatMap_cons, List.length_append, List.length_cons, pairB_len] at ih ⊢; omega
theorem putPs_take (l : List (Int × Int)) {k : Nat} (hk : k < l.length) : putPs (l.take (k + 1)) = putPs (l.take k) ++ pairB (pid l k, pva l k) := by
  rw [List.take_succ_eq_append_getElem hk]
  unfold putPs pid pva
  rw [List.flatMap_append, List.getElem?_eq_getElem hk]
  simp
theorem pairB_eq (x y : Nat) (hx : x ≤ 65535) (hy : y ≤ 4294967295) : pairB ((x : Int), (y : Int)) = [(x : Int) / 256, (x : Int) % 256, (y : Int) / 16777216, (y : Int) / 65536 % 256, (y : Int) / 256 % 256, (y : Int) % 256] := by
  simp [pairB, bigE, List.range_succ]
  omega
theorem six_bs (x y : Nat) (hx : x ≤ 65535) (hy : y ≤ 4294967295) : Bs [(x : Int) / 256, (x : Int) % 256, (y : Int) / 16777216, (y : Int) / 65536 % 256, (y : Int) / 256 % 256, (y : Int) % 256] := by
  intro v hv
  simp at hv
  omega

set_option maxHeartbeats 1600000 in
theorem fPutPairs (A : Option Addr) (n c : Nat) (l : List (Int × Int)) (w : World) (h : Prs w A n c l) (hn : n ≤ 100000) :
    Calls Try.prog 81 #[.slice A n c] w fun e W' => ∃ A' c', e = .returned (.slice A' (n * 6) c') ∧ Mine w.heap.size W' A' (n * 6) c' (putPs l) ∧ Below w.heap.size w W' := by
  have hl := h.len
  have HL := Lib.hid hl
  clear hl
  go_enter Try.func81, Try.ntmps81
  go_wp2
  go_loopw [2, 7] (fun v i wr => ∃ (k : Nat) (A' : Option Addr) (c' : Nat), k ≤ n ∧ i = .int .i64 k ∧ v = .slice A' (k * 6) c' ∧ Mine w.heap.size wr A' (k * 6) c' (putPs (l.take k)) ∧ Below w.heap.size w wr) (fun _ i _ => n - (intOf i).toNat)
  case atStart => exact ⟨0, none, 0, Nat.zero_le _, rfl, rfl, Mine.nil _ _, Below.refl _ _⟩
  case round =>
    obtain ⟨k, A', c', hk, rfl, rfl, hm, hb⟩ := hrel
    by_cases hlt : k < n
    · obtain ⟨b, o, rfl, hbl, hc⟩ := (h.below hb).cell (by omega)
      obtain ⟨c1, c2⟩ := hc k hlt
      have hbs := h.bs.get k
      have hs := putPs_take l (k := k) (by have := HL.out; omega)
      obtain ⟨x, hx⟩ := toNat_lit hbs.1.1
      obtain ⟨y, hy⟩ := toNat_lit hbs.2.1
      rw [hx] at c1 hbs hs
      rw [hy] at c2 hbs hs
      have HS := Lib.hid hs
      have hb2 := Lib.hid hb
      have hm2 := Lib.hid hm
      obtain ⟨⟨x0, x1⟩, y0, y1⟩ := hbs
      have i0 : (0 : Int) ≤ (k : Int) := by omega
      have i1 : (k : Int) < (n : Int) := by omega
      clear hc hb h hm hs hx hy
      have h6 := six_bs x y (by omega) (by omega)
      have e6 := pairB_eq x y (by omega) (by omega)
      have E6 := Lib.hid e6
      have M6 : Hid ((k + 1) * 6 = k * 6 + 6) := Lib.hid (by omega)
      have hb3 : Hid (w.heap.size ≤ wr.heap.size) := Lib.hid hb2.out.size
      clear e6
      go_wp2_with (with_reducible refine wpList_app _ rfl (.tmp 11) (.tmp 34) rfl w.heap.size A' (k * 6) c' _ rfl ((hm2.out.alloc _).alloc _) (some ⟨wr.heap.size + 1, 0, none⟩) 6 6 _ rfl (lit6 (by simp) h6) (by rw [putPs_len, List.length_take]; have := HL.out; simp; omega) (by have := hb3.out; simp; omega) ?_; intro A2 c2 w2 hm3 hb4 _ _)
      exact ⟨⟨k + 1, A2, c2, by omega, by simp, by rw [M6.out], by rw [HS.out, E6.out, M6.out]; exact hm3, ((hb2.out.alloc hb3.out _).alloc (by have := hb3.out; simp; omega) _).trans hb4⟩, by simp [intOf]; omega⟩
    · obtain rfl : n = k := by omega
      have hf : l.take n = l := List.take_of_length_le (by have := HL.out; omega)
      rw [hf] at hm
      clear hf
      go_wp2
      go_ret
      exact ⟨A', c', rfl, hm, hb⟩

theorem Mine.other {base b0 : Nat} {w w' : World} {A B : Option Addr} {n c m d : Nat} {l l' : List Int} (hB : Mine base w B m d l') (hA : Mine b0 w A n c l) (hlt : ∀ g, A = some ⟨g, 0, none⟩ → g < base) (hg : w.grownBy w' (Value.slice A n c).ownBlock) : Mine base w' B m d l' := by
  refine hB.grown hg fun g e => ?_
  rcases hA.cases with ⟨rfl, _⟩ | ⟨g', rfl, _⟩
  · intro h; cases h
  · intro h
    have h1 : g = g' := by simpa [Value.ownBlock] using h
    have h2 := hlt g' rfl
    rcases hB.cases with ⟨e2, _⟩ | ⟨g2, e2, h3, _⟩
    · rw [e2] at e; cases e
    · rw [e2] at e
      simp at e

end Go.Proofs.Ytnjnpnjjpodnnaa
/- Settings taken: the document's contract. -/

namespace Go.Proofs.Ytnjnpnjjpodnnaa
open Go.RowKit Go.Shelf
set_option linter.unusedVariables false

def onePr (l : List Int) (k : Nat) : Int × Int := ((takeO l ((6 * k : Nat) : Int) 2).1, (takeO l ((6 * k + 2 : Nat) : Int) 4).1)
def takePs (l : List Int) : List (Int × Int) := if l.length % 6 = 0 then (List.range (l.length / 6)).map (onePr l) else []
def takePe (l : List Int) : Int := if l.length % 6 = 0 then 0 else 10
theorem takeO_bd2 {l : List Int} (h : Bs l) (a : Int) : 0 ≤ (takeO l a 2).1 ∧ (takeO l a 2).1 ≤ 65535 := by
  unfold takeO
  split
  · split
    · have hV := num_bd ((h.drop a.toNat).take (Int.toNat 2))
      have h2 : 256 ^ ((l.drop a.toNat).take (Int.toNat 2)).length ≤ 256 ^ 2 := Nat.pow_le_pow_right (by decide) (by rw [List.length_take]; exact Nat.min_le_left _ _)
      simp only
      omega
    · exact ⟨by decide, by decide⟩
  · exact ⟨by decide, by decide⟩
theorem onePr_bd {l : List Int} (h : Bs l) (k : Nat) : (0 ≤ (onePr l k).1 ∧ (onePr l k).1 ≤ 65535) ∧ (0 ≤ (onePr l k).2 ∧ (onePr l k).2 ≤ 4294967295) := by
  have := takeO_bd h ((6 * k + 2 : Nat) : Int) 4
  exact ⟨takeO_bd2 h _, this.1, by unfold onePr; simp only; omega⟩

def TkP (l : List (Int × Int)) (x : Int) (w : World) (e : Ending) (W' : World) : Prop := ∃ A n c, e = .returned (.tuple #[.slice A n c, .int .i64 x]) ∧ MineP w.heap.size W' A n c l ∧ Below w.heap.size w W'

end Go.Proofs.Ytnjnpnjjpodnnaa
/- The iterator over the settings of bytes: the contract of its closure. -/

namespace Go.Proofs.Ytnjnpnjjpodnnaa
open Go.RowKit Go.Shelf
attribute [local go_sem] Oper.semAt_some
attribute [local go_sem ↓ high] run_cutI_lh run_cutI_h run_cutI_l
set_option linter.unusedVariables false

/-- A setting. -/
abbrev PrS := { x : Int × Int // (0 ≤ x.1 ∧ x.1 ≤ 65535) ∧ (0 ≤ x.2 ∧ x.2 ≤ 4294967295) }
/-- The settings from one on. -/
def prsFrom (l : List Int) (k : Nat) : List (Int × Int) := (List.range (l.length / 6 - k)).map fun i => onePr l (k + i)
theorem prsFrom_nil (l : List Int) (k : Nat) (h : l.length / 6 ≤ k) : prsFrom l k = [] := by simp [prsFrom, show l.length / 6 - k = 0 by omega]
theorem prsFrom_cons (l : List Int) (k : Nat) (h : k < l.length / 6) : prsFrom l k = onePr l k :: prsFrom l (k + 1) := by
  unfold prsFrom
  rw [show l.length / 6 - k = (l.length / 6 - (k + 1)) + 1 by omega, List.range_succ_eq_map]
  simp [Function.comp_def, Nat.add_assoc, Nat.add_comm 1]
theorem prsFrom_len (l : List Int) (k : Nat) : (prsFrom l k).length = l.length / 6 - k := by simp [prsFrom]
theorem takeO_drop (l : List Int) (a b : Nat) (s : Int) (h : a ≤ l.length) : (takeO (l.drop a) (b : Int) s).1 = (takeO l ((a + b : Nat) : Int) s).1 := by
  unfold takeO
  by_cases hs : 1 ≤ s ∧ s ≤ 4
  · have c1 : 1 ≤ s ∧ s ≤ 4 ∧ 0 ≤ (b : Int) := ⟨hs.1, hs.2, by omega⟩
    have c2 : 1 ≤ s ∧ s ≤ 4 ∧ 0 ≤ ((a + b : Nat) : Int) := ⟨hs.1, hs.2, by omega⟩
    rw [if_pos c1, if_pos c2]
    by_cases hb : (b : Int) + s ≤ ((l.drop a).length : Int)
    · have hb2 : ((a + b : Nat) : Int) + s ≤ (l.length : Int) := by rw [List.length_drop] at hb; omega
      rw [if_pos hb, if_pos hb2]
      simp only [Int.toNat_natCast, List.drop_drop]
    · have hb2 : ¬ ((a + b : Nat) : Int) + s ≤ (l.length : Int) := by rw [List.length_drop] at hb; omega
      rw [if_neg hb, if_neg hb2]
  · have c1 : ¬ (1 ≤ s ∧ s ≤ 4 ∧ 0 ≤ (b : Int)) := fun h => hs ⟨h.1, h.2.1⟩
    have c2 : ¬ (1 ≤ s ∧ s ≤ 4 ∧ 0 ≤ ((a + b : Nat) : Int)) := fun h => hs ⟨h.1, h.2.1⟩
    rw [if_neg c1, if_neg c2]

/-- Blocks below B lie as they lay. -/
def KO (B : Nat) (W W' : World) : Prop := W.heap.size ≤ W'.heap.size ∧ ∀ b, b < B → W'.heap[b]? = W.heap[b]?
theorem KO.trans {B : Nat} {X Y Z : World} (h : KO B X Y) (k : KO B Y Z) : KO B X Z := ⟨Nat.le_trans h.1 k.1, fun b hb => (k.2 b hb).trans (h.2 b hb)⟩
theorem KO.put {B : Nat} {w : World} (hB : B ≤ w.heap.size) (W : World) (l : Nat) (o' : Obj) (hl : w.heap.size ≤ l) : KO B W (W.putObj l o') :=
  ⟨by simp [World.putObj], fun b hb => World.putObj_heap_other (by omega)⟩
theorem KO.byt {B : Nat} {W W' : World} (h : KO B W W') {A : Option Addr} {n c : Nat} {l : List Int} (hy : Byt W A n c l) (hf : 0 < n → ∀ b o, A = some ⟨b, o, none⟩ → b < B) : Byt W' A n c l :=
  ⟨hy.len, hy.cap, hy.mx, hy.nn, hy.bs, fun hn => by
    obtain ⟨b, q, e, hlt, hcell⟩ := hy.cell hn
    exact ⟨b, q, e, Nat.lt_of_lt_of_le hlt h.1, fun i hi => (World.cell?_of_block (h.2 b (hf hn b q e))).trans (hcell i hi)⟩⟩
/-- What the iterator wants kept. -/
def Kprs (Ba B : Nat) (W W' : World) : Prop := KB Ba 24 W W' ∧ KO B W W'
theorem Kprs.trans {Ba B : Nat} {X Y Z : World} (h : Kprs Ba B X Y) (k : Kprs Ba B Y Z) : Kprs Ba B X Z := ⟨KB.trans h.1 k.1, h.2.trans k.2⟩

def lenAt (b : Nat) (W : World) : Nat := match W.cell? ⟨b, 0, none⟩ with | some (.slice _ n _) => n | _ => 0

set_option maxRecDepth 100000 in
set_option maxHeartbeats 2000000 in
theorem pairs1_in (n : Nat) (hn : 1 ≤ n) (l Ba : Nat) (A : Option Addr) (m c : Nat) (bs : List Int) (hm : m ≤ 100000) (B : Nat) (hBa : B ≤ Ba)
    (J Jx : List PrS → World → Prop)
    (hJp : ∀ pre W v, J pre W → J pre (W.setCell ⟨Ba, 0, none⟩ v))
    (hfar : 0 < m → ∀ b o, A = some ⟨b, o, none⟩ → b < B)
    (hY : ∀ pre x W, J pre W → pre.length < m / 6 → YieldAt Fence.wide (n - 1) Try.prog l #[.agg #[.int .u16 x.1.1, .int .u32 x.1.2]] W fun e W' =>
      (e = .returned (.bool true) ∧ J (pre ++ [x]) W' ∧ Kprs Ba B W W') ∨ (e = .returned (.bool false) ∧ Jx (pre ++ [x]) W'))
    (W : World) (hca : Boxed W Ba 24 (.slice A m c)) (hby : Byt W A m c bs) (h0 : J [] W) :
    CallsIn Fence.wide n Try.prog 109 #[.func (.yield l) #[] #[], .pointer (some ⟨Ba, 0, none⟩)] W fun e W' => (∃ v, e = .returned v) ∧
      ((∃ ys : List PrS, ys.map (·.1) = prsFrom bs 0 ∧ J ys W') ∨ (∃ pre : List PrS, (∃ r, pre.map (·.1) ++ r = prsFrom bs 0) ∧ Jx pre W')) := by
  have hl := hby.len
  have HBs := Lib.hid hby.bs
  refine callsIn_of_wp Try.func109 rfl trivial ?_ rfl
  simp only [Try.ntmps109, List.size_toArray, List.length_cons, List.length_nil, Nat.reduceAdd, Nat.reduceSub, Array.replicate_succ, Array.replicate_zero, List.push_toArray, List.append_toArray, List.nil_append, List.cons_append]
  gi_wp2
  gi_loopw [3] (fun _ wr => ∃ (pre : List PrS) (k q r : Nat) (Ak : Option Addr) (ck : Nat), q = 6 * k ∧ r = m - q ∧ q ≤ m ∧ pre.map (·.1) ++ prsFrom bs k = prsFrom bs 0 ∧ J pre wr ∧ Boxed wr Ba 24 (.slice Ak r ck) ∧ Byt wr Ak r ck (bs.drop q) ∧ (0 < r → ∀ b o, Ak = some ⟨b, o, none⟩ → b < B))
    (fun _ wr => lenAt Ba wr)
  case atStart => exact ⟨[], 0, 0, m, A, c, rfl, rfl, Nat.zero_le _, by simp, h0, hca, by simpa using hby, hfar⟩
  case round =>
    obtain ⟨pre, k, q, r, Ak, ck, hq, hr, hqm, hpre, hJ, hbx, hby, hfk⟩ := hrel
    have hck := hbx.cell
    have HB := Lib.hid hbx
    have HY := Lib.hid hby
    have HF := Lib.hid hfk
    have hrb : r ≤ 100000 := by omega
    by_cases hlt : 6 ≤ r
    · have hpl : pre.length + (m / 6 - k) = m / 6 := by
        have := congrArg List.length hpre
        simp only [List.length_append, List.length_map, prsFrom_len, hl] at this
        omega
      have hk1 : k < m / 6 := by omega
      have hbd := onePr_bd HBs.out k
      obtain ⟨⟨X, Y⟩, hXY⟩ : ∃ p, onePr bs k = p := ⟨_, rfl⟩
      rw [hXY] at hbd
      have hX : (takeO bs ((6 * k : Nat) : Int) 2).1 = X := congrArg Prod.fst hXY
      have hY2 : (takeO bs ((6 * k + 2 : Nat) : Int) 4).1 = Y := congrArg Prod.snd hXY
      have T1 : Hid (Calls Try.prog 102 #[.slice Ak r ck, .int .i64 0, .int .i64 2] wr (Ret (.tuple #[.int .i64 X, .int .i64 (takeO (bs.drop q) 0 2).2]) wr)) := by
        have := fOTake Ak r ck (bs.drop q) 0 2 wr (by omega) hby
        have e := takeO_drop bs q 0 2 (by omega)
        rw [Nat.add_zero, hq, hX] at e
        rw [← hq] at e
        rw [show ((0 : Nat) : Int) = 0 from rfl] at e
        rw [e] at this
        exact Lib.hid this
      have T2 : Hid (Calls Try.prog 102 #[.slice Ak r ck, .int .i64 2, .int .i64 4] wr (Ret (.tuple #[.int .i64 Y, .int .i64 (takeO (bs.drop q) 2 4).2]) wr)) := by
        have := fOTake Ak r ck (bs.drop q) 2 4 wr (by omega) hby
        have e := takeO_drop bs q 2 4 (by omega)
        rw [hq, hY2] at e
        rw [← hq] at e
        rw [show ((2 : Nat) : Int) = 2 from rfl] at e
        rw [e] at this
        exact Lib.hid this
      generalize (takeO (bs.drop q) 0 2).2 = E1 at *
      generalize (takeO (bs.drop q) 2 4).2 = E2 at *
      have hcons : prsFrom bs k = (X, Y) :: prsFrom bs (k + 1) := by rw [prsFrom_cons bs k (by omega), hXY]
      obtain ⟨fn, tmps, assign, body, hyy, hR⟩ := hY pre ⟨(X, Y), hbd⟩ wr hJ (by omega)
      have e6 : decide ((6 : Int) ≤ (r : Int)) = true := decide_eq_true (by omega)
      have r0 : (6 : Int) ≤ (r : Int) := by omega
      obtain ⟨⟨X0, X1⟩, Y0, Y1⟩ := hbd
      simp only at X0 X1 Y0 Y1
      have HCo := Lib.hid hcons
      have HPr := Lib.hid hpre
      have HQ := Lib.hid hq
      have HR := Lib.hid hr
      clear hcons hpre hXY hX hY2 hq hr hl hbx hby hfk hpl
      gi_wp2_with fail
      refine ⟨trivial, (callsIn_wide.2 T1.out).mono ?_⟩
      rintro e w1 ⟨rfl, rfl⟩
      gi_wp2_with fail
      refine ⟨trivial, (callsIn_wide.2 T2.out).mono ?_⟩
      rintro e w1 ⟨rfl, rfl⟩
      gi_wp2
      refine hR.mono ?_
      rintro e W3 (⟨rfl, hJ3, hk3⟩ | ⟨rfl, hJx3⟩)
      · have hb3 := hk3.1 _ HB.out
        have hc3 := hb3.cell
        have hf3 := hb3.frozen
        have hy3 := (hk3.2.byt HY.out HF.out).cutL (lo := 6) (by omega)
        have hfk2 : ∀ b o, cutA Ak ck 6 = some ⟨b, o, none⟩ → b < B := fun b o e => by
          have hr6 := HF.out (by omega)
          unfold cutA at e
          split at e
          · exact hr6 b o e
          · obtain ⟨a', ha', he⟩ := Option.map_eq_some_iff.1 e
            obtain ⟨b', o', eA, _⟩ := HY.out.cell (by omega)
            rw [eA] at ha'
            cases ha'
            rw [Go.WideShapes.add_plain] at he
            cases he
            exact hr6 _ _ eA
        have hy4 := hy3.far (p := ⟨Ba, 0, none⟩) (fun b o e => Nat.ne_of_lt (Nat.lt_of_lt_of_le (hfk2 b o e) hBa)) (.slice (cutA Ak ck 6) (r - 6) (ck - 6))
        rw [List.drop_drop] at hy4
        have HY4 := Lib.hid hy4
        have HF2 := Lib.hid hfk2
        clear hy3 hy4 hfk2
        gi_wp2
        refine ⟨⟨pre ++ [⟨(X, Y), ⟨⟨X0, X1⟩, Y0, Y1⟩⟩], k + 1, q + 6, r - 6, cutA Ak ck 6, ck - 6, by have := HQ.out; omega, by have := HR.out; omega, by have := HR.out; omega, by rw [← HPr.out, HCo.out]; simp, hJp _ _ _ hJ3, hb3.set _, HY4.out, fun _ => HF2.out⟩, ?_⟩
        have e1 := (hb3.set (.slice (cutA Ak ck 6) (r - 6) (ck - 6))).cell
        unfold lenAt
        rw [e1, hck]
        simp only
        omega
      · gi_wp2
        refine bodyPost_ret (results_none rfl _ _ _) rfl ?_
        exact ⟨⟨_, rfl⟩, .inr ⟨_, ⟨prsFrom bs (k + 1), by rw [← HPr.out, HCo.out]; simp⟩, hJx3⟩⟩
    · have e6 : decide ((6 : Int) ≤ (r : Int)) = false := decide_eq_false (by omega)
      have hnil : prsFrom bs k = [] := prsFrom_nil bs k (by omega)
      have HPr := Lib.hid hpre
      have HNi := Lib.hid hnil
      clear hpre hnil hq hr hl hbx hby hfk
      gi_wp2
      go_end0
      exact ⟨⟨_, rfl⟩, .inl ⟨pre, by rw [← HPr.out, HNi.out]; simp, hJ⟩⟩

theorem pairs_stops (n : Nat) (hn : 1 ≤ n) (Ba : Nat) (A : Option Addr) (m c : Nat) (bs : List Int) (hm : m ≤ 100000) (B : Nat) (hBa : B ≤ Ba) (w : World) (h1 : Ba < w.heap.size)
    (hfar : 0 < m → ∀ b o, A = some ⟨b, o, none⟩ → b < B) (hca : Boxed w Ba 24 (.slice A m c)) (hby : Byt w A m c bs) :
    SeqP (fun b => b = Ba) Fence.wide n Try.prog 109 #[.pointer (some ⟨Ba, 0, none⟩)] (fun x : PrS => #[Value.agg #[.int .u16 x.1.1, .int .u32 x.1.2]]) (Kprs Ba B) (fun ys => ys.map (·.1) = prsFrom bs 0) (fun pre => ∃ r, pre.map (·.1) ++ r = prsFrom bs 0) (m / 6) w :=
  fun l J Jx W hW hJ _ hJp hY h0 =>
    pairs1_in n hn l Ba A m c bs hm B hBa J Jx (hJp Ba rfl) hfar hY W ((hW.block Ba h1).trans hca) (hby.below hW) h0

theorem pairs_in (n : Nat) (A : Option Addr) (m c : Nat) (w : World) :
    CallsIn Fence.wide n Try.prog 104 #[.slice A m c] w fun e w' => e = .returned (.func (.func 109) #[] #[.pointer (some ⟨w.heap.size, 0, none⟩)]) ∧ w' = w.alloc (.cells #[.slice A m c] 24) := by
  refine callsIn_of_wp Try.func104 rfl trivial ?_ rfl
  simp only [Try.ntmps104, List.size_toArray, List.length_cons, List.length_nil, Nat.reduceAdd, Nat.reduceSub, Array.replicate_succ, Array.replicate_zero, List.push_toArray, List.append_toArray, List.nil_append, List.cons_append]
  gi_wp2
  go_ret
  exact ⟨by simp, rfl⟩
end Go.Proofs.Ytnjnpnjjpodnnaa
/- Settings taken: the contract. -/

namespace Go.Proofs.Ytnjnpnjjpodnnaa
open Go.RowKit Go.Shelf
attribute [local go_sem] Oper.semAt_some
set_option linter.unusedVariables false

theorem MineP.keptN {base : Nat} {W W' : World} {A : Option Addr} {n c : Nat} {l : List (Int × Int)} {row : Option Nat} (h : MineP base W A n c l) (hg : W.grownBy W' row) (hr : ∀ r, row = some r → ∃ o : Obj, W.heap[r]? = some o ∧ o.isCells = false) : MineP base W' A n c l := by
  refine ⟨⟨h.1.1, ?_⟩, h.2⟩
  rcases h.1.2 with h' | ⟨g, cap, cur, e, hb, hgk, hrest⟩
  · exact .inl h'
  · exact .inr ⟨g, cap, cur, e, hb, (grownBy_keeps_cells hg hr hgk rfl).trans hgk, hrest⟩
theorem MineP.box {base : Nat} {W : World} {A : Option Addr} {n c : Nat} {l : List (Int × Int)} (h : MineP base W A n c l) {B : Nat} {t : TypeId} {u : Value} (hb : Boxed W B t u) (ht : t ≠ 55) (v : Value) : MineP base (W.setCell ⟨B, 0, none⟩ v) A n c l :=
  h.far (fun g e e' => by
    have := hb.not_row ht h.1
    subst e
    exact this (by simp only at e'; simp [Value.ownBlock, e'])) v

/-- append(v, p) within a fence: v of the call's own. -/
theorem wpListIn_appP {F : Fence} {nF : Nat} (W : World) {ops : Array Oper} {rest : List Oper} {o : Oper} {a : Act} {Q : Exit → Act → World → Prop} (hgd : o.guard = none) (s x : Operand)
    (ho : o.op = .call { callee := .builtin .append, args := #[s, x], argTypes := #[26, 26] })
    (base : Nat) (A : Option Addr) (n c : Nat) (l : List (Int × Int)) (hs : a.eval s = .slice A n c) (hown : MineP base W A n c l) (p : Int × Int) {g0 : Nat} (hx : a.eval x = .slice (some ⟨g0, 0, none⟩) 1 1) (hg0 : W.heap.size = g0)
    (hp : (0 ≤ p.1 ∧ p.1 ≤ 65535) ∧ (0 ≤ p.2 ∧ p.2 ≤ 4294967295)) (hlen : n + 1 ≤ 1000000) (hbase : base ≤ W.heap.size)
    (h : ∀ A' c' w', MineP base w' A' (n + 1) c' (l ++ [p]) → (W.alloc (.cells #[.int .u16 p.1, .int .u32 p.2] 55)).grownBy w' (Value.slice A n c).ownBlock → wpListIn F nF Try.prog ops Q rest (a.put o.dst (.slice A' (n + 1) c')) w') :
    wpListIn F nF Try.prog ops Q (o :: rest) a (W.alloc (.cells #[.int .u16 p.1, .int .u32 p.2] 55)) := by
  subst hg0
  obtain ⟨i0, hi, hz0, hz1, hz2⟩ := info_parts infoP
  refine wpListIn_append_own_at _ hgd s x 26 ho base 55 i0 (.agg #[.int .u16 0, .int .u32 0]) 2 8 Try.underlying26 hi hz0 hz1 hz2 rfl (by omega) (.slice A n c) n (pcells l) hs (hown.1.alloc _)
    ⟨W.heap.size, 0, none⟩ 1 1 [.int .u16 p.1, .int .u32 p.2] hx rfl (fun j u hu => ?_) (fun u hu => ?_) (by simp only [maxLen]; omega) (by omega) (by simp; omega) ?_
  · rcases j with _ | _ | j
    · simp at hu; subst hu
      exact (Blk.new W 55 #[.int .u16 p.1, .int .u32 p.2]).at 0 rfl
    · simp at hu; subst hu
      rw [Go.WideShapes.add_plain]
      exact (Blk.new W 55 #[.int .u16 p.1, .int .u32 p.2]).at 1 rfl
    · simp at hu
  · simp at hu
    rcases hu with rfl | rfl <;> rfl
  · intro v' w' hown' hgrow _ _
    rcases hown'.2 with ⟨e, he⟩ | ⟨g, cap, cur, e, hr'⟩
    · omega
    · subst e
      exact h _ _ _ ⟨by rw [pcells_app]; exact hown', hown.2.append (PBs.one hp)⟩ hgrow

set_option maxRecDepth 100000 in
set_option maxHeartbeats 4000000 in
theorem take_in (n : Nat) (hn : 3 ≤ n) (A : Option Addr) (m c : Nat) (bs : List Int) (w : World) (h : Byt w A m c bs) (hm : m ≤ 100000) (h6 : m % 6 = 0) :
    CallsIn Fence.wide n Try.prog 79 #[.slice A m c] w (TkP (prsFrom bs 0) 0 w) := by
  have h1 : 1 ≤ n := by omega
  have e0 : ((m : Int).tmod 6 != 0) = false := by
    rw [Int.tmod_eq_emod_of_nonneg (by omega), bne_eq_false_iff_eq]
    omega
  have e1 : ((m : Int) % 6 != 0) = false := by rw [bne_eq_false_iff_eq]; omega
  have bx := Boxed.new w 26 (.slice none 0 0)
  have hl := h.len
  have HH := Lib.hid h
  have HL := Lib.hid hl
  clear h hl
  refine callsIn_of_wp_marks Try.func79 rfl trivial ?_ rfl
  simp only [Try.ntmps79, List.size_toArray, List.length_cons, List.length_nil, Nat.reduceAdd, Nat.reduceSub, Array.replicate_succ, Array.replicate_zero, List.push_toArray, List.append_toArray, List.nil_append, List.cons_append]
  gi_wp2_with fail
  refine ⟨trivial, (pairs_in _ _ _ _ _).mono ?_⟩
  rintro e w1 ⟨rfl, rfl⟩
  gi_wp2
  have bB := (bx.alloc (.cells #[.slice A m c] 24))
  have bN := Boxed.new (w.alloc (.cells #[.slice none 0 0] 26)) 24 (.slice A m c)
  have hbel : Below w.heap.size w ((w.alloc (.cells #[.slice none 0 0] 26)).alloc (.cells #[.slice A m c] 24)) := ((Below.refl _ _).alloc (Nat.le_refl _) _).alloc (by simp) _
  have hsz : ((w.alloc (.cells #[.slice none 0 0] 26)).alloc (.cells #[.slice A m c] 24)).heap.size = w.heap.size + 1 + 1 := by simp
  rw [World.size_alloc] at bN
  have hby := HH.out.below hbel
  have hfar : 0 < m → ∀ b o, A = some ⟨b, o, none⟩ → b < w.heap.size := fun hm b o e => by
    obtain ⟨b', o', e', hlt, _⟩ := HH.out.cell hm
    rw [e] at e'
    cases e'
    exact hlt
  generalize (w.alloc (.cells #[.slice none 0 0] 26)).alloc (.cells #[.slice A m c] 24) = w0 at *
  refine wpIn_range_privA rfl h1 (Pv := fun b => b = w.heap.size + 1) (gf := 109) (lb := #[.pointer (some ⟨w.heap.size + 1, 0, none⟩)]) rfl trivial (enters_of Try.func109 (by kernel_rfl) rfl)
    (fun b hb => by subst hb; omega) (pairs_stops (n - 1) (by omega) (w.heap.size + 1) A m c bs hm w.heap.size (by omega) w0 (by omega) hfar bN hby) (fun h k => h.trans k)
    (fun W l o o' hl ho hc hw => ⟨KB.put (w := w0) (by omega) W l o o' hl ho hc hw, KO.put (w := w0) (by omega) W l o' hl⟩) (fun _ => rfl)
    (fun pre W => (∃ A' c', Boxed W w.heap.size 26 (.slice A' pre.length c') ∧ MineP w.heap.size W A' pre.length c' (pre.map (·.1))) ∧ (∃ v, Boxed W (w.heap.size + 1) 24 v) ∧ Below w.heap.size w W)
    (fun _ _ _ => False)
    (fun s X Y row hs hg hr => by
      obtain ⟨⟨A', c', hb, hmn⟩, ⟨v, hv⟩, hbel⟩ := hs
      exact ⟨⟨A', c', boxed_keptN hb hg (fun r e => (hr r e).2), hmn.keptN hg (fun r e => (hr r e).2)⟩, ⟨v, boxed_keptN hv hg (fun r e => (hr r e).2)⟩, hbel.grown hg hbel.size (fun r e => by have := (hr r e).1; omega)⟩)
    (fun _ _ _ _ _ hs _ _ => hs)
    ?priv ?start
    (fun x a₁ W => ∃ g, a₁ = ⟨#[.slice A m c, undef, .slice none 0 0, .int .i64 0, .pointer (some ⟨w.heap.size, 0, none⟩), .pointer (some ⟨g, 0, none⟩), .slice A m c, .int .i64 m, .int .i64 ((m : Int) % 6), .bool false, .slice A m c, .func (.func 109) #[] #[.pointer (some ⟨w.heap.size + 1, 0, none⟩)], .agg #[.int .u16 x.1.1, .int .u32 x.1.2], undef, undef, undef, undef, undef], []⟩ ∧ Blk W g 55 #[.int .u16 x.1.1, .int .u32 x.1.2])
    (fun x a₁ W l o o' he ho hc => by
      obtain ⟨g, e, hq⟩ := he
      refine ⟨g, e, (World.putObj_heap_other (fun eg => ?_)).trans hq⟩
      subst eg
      rw [show W.heap[g]? = _ from hq] at ho
      cases ho
      cases hc)
    ?assign ?body ?done ?stop
  case priv =>
    rintro b rfl pre W v ⟨⟨A', c', hb, hmn⟩, ⟨v', hv⟩, hbel⟩
    exact ⟨⟨A', c', hb.other (by omega) _, hmn.box hv (by decide) v⟩, ⟨v, hv.set v⟩, hbel.setCell (p := ⟨w.heap.size + 1, 0, none⟩) (Nat.le_succ _) _⟩
  case start => exact ⟨⟨none, 0, bB, MineP.nil _ _⟩, ⟨_, bN⟩, hbel⟩
  case assign =>
    rintro x l pre W K ⟨⟨A', c', hb, hmn⟩, ⟨v', hv⟩, hbl⟩ hK
    gi_wp2
    exact hK _ _ ((KeepsOthers.alloc W _).from _) ⟨fun v hv => hv.alloc _, by simp, fun b hb => Below.heap_alloc W _ b (Nat.lt_of_lt_of_le hb hbl.size)⟩ ⟨⟨A', c', hb.alloc _, hmn.alloc _⟩, ⟨v', hv.alloc _⟩, hbl.alloc hbl.size _⟩ ⟨W.heap.size, rfl, Blk.new W _ _⟩
  case body =>
    rintro x l pre W a₁ ⟨⟨A', c', hb, hmn⟩, ⟨v', hv⟩, hbl⟩ ⟨g, rfl, hq⟩ hlen
    have hcb := hb.cell
    have z0 := hq.at 0 rfl
    have z1 := hq.at 1 rfl
    have Hb := Lib.hid hb
    have Hv := Lib.hid hv
    have Hq := Lib.hid hq
    clear hb hv hq
    obtain ⟨⟨X, Y⟩, hx⟩ := x
    have hlen2 : pre.length + 1 ≤ 1000000 := by omega
    gi_wp2_with (gi_at_builtin; go_must (refine wpListIn_appP W rfl (.tmp 13) (.tmp 15) rfl w.heap.size A' pre.length c' (pre.map (·.1)) rfl hmn (X, Y) rfl rfl hx hlen2 hbl.size ?_; intro A2 c2 w2 hown2' hgr2; obtain ⟨g1, g2, g3, g4, g5⟩ := Hb.out.appended (by decide) hmn.1 hbl.size (Nat.le_refl _) hown2'.1 hgr2; have hv2 := (Hv.out.alloc _).kept hgr2 (Hv.out.not_row (by decide) hmn.1); have hcc := g1.cell; have hff := g1.frozen))
    exact ⟨g4.from _, ⟨fun v hv => ((hv.alloc _).kept hgr2 (hv.not_row (by decide) hmn.1)).other (by omega) _, g5.size, g5.block⟩, ⟨A2, c2, by simpa using g2, ⟨by simpa using g3, by simpa using hown2'.2⟩⟩, ⟨v', hv2.other (by omega) _⟩, hbl.trans g5⟩
  case done =>
    rintro D ys W hD hys ⟨⟨A', c', hb, hmn⟩, ⟨v', hv⟩, hbl⟩ hK
    have hcb := hb.cell
    gi_wp2
    refine ⟨by simp, .inl ⟨_, _, rfl, run_takeDeferred hK, ?_⟩⟩
    refine ⟨.tuple #[.slice A' ys.length c', .int .i64 0], by simp [results, Try.f79, go_sem], A', ys.length, c', rfl, ?_, ?_⟩
    · have h6 := hmn.keptN (grownBy_putObj' _ D (.deferred none)) (fun r e => by cases e; exact ⟨_, hK, rfl⟩)
      rw [hys] at h6
      exact h6
    · exact hbl.trans (belowK_b (w := w) (Nat.le_refl _) _ D _ _ (by omega) hK rfl rfl)
  case stop =>
    rintro D c pre W _ _ h _
    exact h.elim

theorem fTakePairsNo (A : Option Addr) (n c : Nat) (w : World) (hn : n ≤ 100000) (hs : n % 6 ≠ 0) : Calls Try.prog 79 #[.slice A n c] w (TkP [] 10 w) := by
  have e0 : ((n : Int).tmod 6 != 0) = true := by
    rw [Int.tmod_eq_emod_of_nonneg (by omega), bne_iff_ne]
    omega
  have e1 : ((n : Int) % 6 != 0) = true := by rw [bne_iff_ne]; omega
  clear hs
  go_enter Try.func79, Try.ntmps79
  go_wp2
  go_ret2
  exact ⟨none, 0, 0, rfl, MineP.nil _ _, Below.refl _ _⟩
theorem prsFrom_zero (l : List Int) : prsFrom l 0 = (List.range (l.length / 6)).map (onePr l) := by simp [prsFrom]
theorem fTakePairs (A : Option Addr) (n c : Nat) (l : List Int) (w : World) (h : Byt w A n c l) (hn : n ≤ 100000) : Calls Try.prog 79 #[.slice A n c] w (TkP (takePs l) (takePe l) w) := by
  have hl := h.len
  unfold takePs takePe
  by_cases hs : n % 6 = 0
  · rw [if_pos (by omega), if_pos (by omega), ← prsFrom_zero]
    exact callsIn_wide.1 (take_in 3 (Nat.le_refl _) A n c l w h hn hs)
  · rw [if_neg (by omega), if_neg (by omega)]
    exact fTakePairsNo A n c w hn hs
end Go.Proofs.Ytnjnpnjjpodnnaa
/- The statements' own wakes returns true. -/

namespace Go.Proofs.Ytnjnpnjjpodnnaa
open Go.RowKit Go.Shelf
set_option linter.unusedVariables false

instance : DecidablePred Bs := fun l => inferInstanceAs (Decidable (∀ x ∈ l, 0 ≤ x ∧ x ≤ 255))
instance : DecidablePred PBs := fun l => inferInstanceAs (Decidable (∀ x ∈ l, (0 ≤ x.1 ∧ x.1 ≤ 65535) ∧ (0 ≤ x.2 ∧ x.2 ≤ 4294967295)))
def BytE (N : Nat) (L : List Int) (x : Int) (w : World) (e : Ending) (W' : World) : Prop := ∃ A c, e = .returned (.tuple #[.slice A N c, .int .i64 x]) ∧ Mine w.heap.size W' A N c L ∧ Below w.heap.size w W'
theorem BytP.e {l L : List Int} {x X : Int} {N : Nat} (hl : l = L) (hx : x = X) (hN : L.length = N) {w : World} {e : Ending} {W' : World} (h : BytP l x w e W') : BytE N L X w e W' := by
  subst hl hx
  obtain ⟨A, n, c, he, hm, hb⟩ := h
  have := hm.len
  obtain rfl : n = N := by omega
  exact ⟨A, c, he, hm, hb⟩
theorem UnP.e {l L : List Int} {m M x X : Int} {N : Nat} (hl : l = L) (hm : m = M) (hx : x = X) (hN : L.length = N) {w : World} {e : Ending} {W' : World} (h : UnP l m x w e W') :
    ∃ A c, e = .returned (.tuple #[.slice A N c, .int .i64 M, .int .i64 X]) ∧ Mine w.heap.size W' A N c L ∧ Below w.heap.size w W' := by
  subst hl hm hx
  obtain ⟨A, n, c, he, hm, hb⟩ := h
  have := hm.len
  obtain rfl : n = N := by omega
  exact ⟨A, c, he, hm, hb⟩
theorem TrP.e {al AL : Bool} {dp DP wt WT : Int} {l L : List Int} {x X : Int} {N : Nat} (h1 : al = AL) (h2 : dp = DP) (h3 : wt = WT) (hl : l = L) (hx : x = X) (hN : L.length = N) {w : World} {e : Ending} {W' : World} (h : TrP al dp wt l x w e W') :
    ∃ A c, e = .returned (.tuple #[.agg #[.bool AL, .int .i64 DP, .int .u8 WT], .slice A N c, .int .i64 X]) ∧ Mine w.heap.size W' A N c L ∧ Below w.heap.size w W' := by
  subst h1 h2 h3 hl hx
  obtain ⟨A, n, c, he, hm, hb⟩ := h
  have := hm.len
  obtain rfl : n = N := by omega
  exact ⟨A, c, he, hm, hb⟩
theorem TkP.e {l L : List (Int × Int)} {x X : Int} {N : Nat} (hl : l = L) (hx : x = X) (hN : L.length = N) {w : World} {e : Ending} {W' : World} (h : TkP l x w e W') :
    ∃ A c, e = .returned (.tuple #[.slice A N c, .int .i64 X]) ∧ MineP w.heap.size W' A N c L ∧ Below w.heap.size w W' := by
  subst hl hx
  obtain ⟨A, n, c, he, hm, hb⟩ := h
  have := hm.len
  obtain rfl : n = N := by omega
  exact ⟨A, c, he, hm, hb⟩
end Go.Proofs.Ytnjnpnjjpodnnaa
/- What is put is taken: the plain laws. -/

namespace Go.Proofs.Ytnjnpnjjpodnnaa
open Go.RowKit Go.Shelf
set_option linter.unusedVariables false

end Go.Proofs.Ytnjnpnjjpodnnaa
