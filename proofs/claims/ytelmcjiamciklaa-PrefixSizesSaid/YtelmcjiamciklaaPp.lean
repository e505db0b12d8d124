/- The contract of Put. -/
import Derived.Test.YtelmcjiamciklaaPs
namespace Go.Proofs.Ytelmcjiamciklaa
open Go.RowKit Go.Shelf
attribute [local go_sem] Oper.semAt_some
set_option linter.unusedVariables false

def okBits (bits : Int) : Bool := decide (1 ≤ bits ∧ bits ≤ 8)
theorem fRight (bits : Int) (W : World) : Calls Try.prog 17 #[.int .i64 bits] W (Ret (.bool (okBits bits)) W) := by
  go_enter Try.func17, Try.ntmps17
  go_wp2
  all_goals go_ret
  all_goals refine ⟨ret_bool ?_, rfl⟩
  all_goals unfold okBits
  all_goals rw [Bool.eq_iff_iff]
  all_goals simp at *
  all_goals omega

/-- Whether a number may be told behind so many bits. -/
def okNum (n bits : Int) : Bool := decide (1 ≤ bits ∧ bits ≤ 8 ∧ 0 ≤ n ∧ n ≤ 2147483647)
def putL (n k : Nat) (u : Int) : List Int :=
  if n < 2 ^ k - 1 then [u / ((2 ^ k : Nat) : Int) * ((2 ^ k : Nat) : Int) + n] else (u / ((2 ^ k : Nat) : Int) * ((2 ^ k : Nat) : Int) + ((2 ^ k - 1 : Nat) : Int)) :: septs (n - (2 ^ k - 1))

set_option maxRecDepth 100000 in
set_option maxHeartbeats 4000000 in
theorem putMore_in (F : Fence) (n : Nat) (h8 : F.fn 8) (h17 : F.fn 17) (h18 : F.fn 18) (h22 : F.fn 22) (hro : F.round = none) (hn : 3 ≤ n)
    (hright : ∀ bits W, CallsIn F (n - 1) Try.prog 17 #[.int .i64 bits] W (Ret (.bool (okBits bits)) W))
    (x k : Nat) (u M U V : Int) (hk1 : 1 ≤ k) (hk2 : k ≤ 8) (hx : x ≤ 2147483647) (M1 : 2 ≤ M) (M2 : M ≤ 256) (U1 : 0 ≤ V) (U2 : V ≤ 255)
    (hsh : wrap64 (2 ^ k) = M) (hU : bits .andNot .u8 u (M - 1) = U) (hV : bits .or .u8 U (M - 1) = V) (hge : M - 1 ≤ x) (w : World) :
    CallsIn F n Try.prog 8 #[.int .i64 x, .int .i64 k, .int .u8 u] w fun e W' => ∃ A c, e = .returned (.tuple #[.slice A ((septs (x - (M.toNat - 1))).length + 1) c, .int .i64 0]) ∧
      Mine w.heap.size W' A ((septs (x - (M.toNat - 1))).length + 1) c (V :: septs (x - (M.toNat - 1))) ∧ Below w.heap.size w W' := by
  have h1 : 1 ≤ n := by omega
  have Hr := Lib.hid hright
  clear hright
  have ok : okBits k = true := decide_eq_true (by omega)
  have hmm : (M - 1) % 256 = M - 1 := by omega
  have hlt : decide ((x : Int) < M - 1) = false := decide_eq_false (by omega)
  have hx0 : decide ((x : Int) < 0) = false := decide_eq_false (by omega)
  have hxd : ((x : Int) / 2147483648 != 0) = false := by simp; omega
  have bx := Boxed.new w 22 (.slice none 0 0)
  have hsz : (w.alloc (.cells #[.slice none 0 0] 22)).heap.size = w.heap.size + 1 := by simp
  refine callsIn_of_wp_marks Try.func8 rfl h8 ?_ hro
  simp only [Try.ntmps8, List.size_toArray, List.length_cons, List.length_nil, Nat.reduceAdd, Nat.reduceSub, Array.replicate_succ, Array.replicate_zero, List.push_toArray, List.append_toArray, List.nil_append, List.cons_append]
  gi_wp2_with (first
    | (gi_at_call 17; refine (Hr.out _ _).mono ?_; rintro e w' ⟨rfl, rfl⟩)
    | (gi_at_builtin; go_must (refine wpListIn_app1 (w.alloc (.cells #[.slice none 0 0] 22)) rfl (.tmp 38) (.tmp 43) rfl w.heap.size none 0 0 [] rfl (Mine.nil _ _) V rfl (by simp) ⟨U1, U2⟩ (by omega) (by simp) ?_; intro A1 c1 w1 hown1 hgr1 hat1; have b1 := (bx.alloc _).kept hgr1 (by simp [Value.ownBlock]); have hc1 := b1.cell; have hf1 := b1.frozen))
    | (gi_at_call 18; refine (septets_in F (n - 1) h18 hro _ _).mono ?_; rintro e w' ⟨rfl, rfl⟩))
  obtain ⟨m, hmd⟩ : ∃ m, m = x - (M.toNat - 1) := ⟨_, rfl⟩
  have hm : (x : Int) - (M - 1) = (m : Int) := by omega
  have hm2 : m < 4294967296 := by omega
  have Hmd := Lib.hid hmd
  clear hmd
  have hbel1 : Below w.heap.size w w1 := (((Below.refl _ w).alloc (Nat.le_refl _) _).alloc (by simp) _).grown hgr1 (by simp; omega) (by simp [Value.ownBlock])
  have hz1 := hbel1.size
  have bB : Boxed ((w1.setCell ⟨w.heap.size, 0, none⟩ (.slice A1 1 c1)).alloc (.cells #[.int .u32 ((x : Int) - (M - 1))] 41)) w.heap.size 22 (.slice A1 1 c1) := (b1.set _).alloc _
  have bN := Boxed.new (w1.setCell ⟨w.heap.size, 0, none⟩ (.slice A1 1 c1)) 41 (.int .u32 ((x : Int) - (M - 1)))
  have hown2 := ((hown1.box b1 (by decide) (.slice A1 1 c1)).alloc (.cells #[.int .u32 ((x : Int) - (M - 1))] 41))
  have hbel2 : Below w.heap.size w ((w1.setCell ⟨w.heap.size, 0, none⟩ (.slice A1 1 c1)).alloc (.cells #[.int .u32 ((x : Int) - (M - 1))] 41)) :=
    (hbel1.setCell (p := ⟨w.heap.size, 0, none⟩) (Nat.le_refl _) _).alloc (by simp; omega) _
  have hsz2 : ((w1.setCell ⟨w.heap.size, 0, none⟩ (.slice A1 1 c1)).alloc (.cells #[.int .u32 ((x : Int) - (M - 1))] 41)).heap.size = w1.heap.size + 1 := by simp
  have hq : (w1.setCell ⟨w.heap.size, 0, none⟩ (.slice A1 1 c1)).heap.size = w1.heap.size := by simp
  rw [hq, hm] at bN
  rw [hm] at bB hown2 hbel2 hsz2
  have hlt' : w.heap.size < w1.heap.size := b1.lt
  refine wpIn_range_priv hro h1 (Pv := fun b => b = w1.heap.size) (gf := 22) (lb := #[.pointer (some ⟨w1.heap.size, 0, none⟩)]) rfl h22 (enters_of Try.func22 (by kernel_rfl) rfl)
    (fun b hb => by subst hb; simp) (septets_stops F (n - 1) h22 hro (by omega) w1.heap.size m hm2 _ (by simp) (by rw [hm]; exact bN)) (fun h k => KB.trans h k) (KB.put (by simp)) (fun _ => rfl)
    (fun pre W => (∃ A c, Boxed W w.heap.size 22 (.slice A (pre.length + 1) c) ∧ Mine w.heap.size W A (pre.length + 1) c (V :: pre.map (·.1))) ∧ (∃ v, Boxed W w1.heap.size 41 v) ∧ Below w.heap.size w W)
    (fun _ _ _ => False)
    (fun s X Y row hs hg hr => by
      obtain ⟨⟨A, c, hb, hmn⟩, ⟨v, hv⟩, hbel⟩ := hs
      exact ⟨⟨A, c, boxed_keptN hb hg (fun r e => (hr r e).2), hmn.keptN hg (fun r e => (hr r e).2)⟩, ⟨v, boxed_keptN hv hg (fun r e => (hr r e).2)⟩, hbel.grown hg hbel.size (fun r e => by have := (hr r e).1; simp at this; omega)⟩)
    (fun _ _ _ _ _ hs _ _ => hs)
    ?priv ?start ?round ?done ?stop
  case priv =>
    rintro b rfl pre W v ⟨⟨A, c, hb, hmn⟩, ⟨v', hv⟩, hbel⟩
    exact ⟨⟨A, c, hb.other (by omega) _, hmn.box hv (by decide) v⟩, ⟨v, hv.set v⟩, hbel.setCell (p := ⟨w1.heap.size, 0, none⟩) (by simp; omega) _⟩
  case start => rw [hm]; exact ⟨⟨A1, c1, bB, hown2⟩, ⟨_, bN⟩, hbel2⟩
  case round =>
    intro y
    constructor
    constructor
    · intro l W K hK
      gi_wp2
      exact hK
    · rintro l pre W ⟨⟨A, c, hb, hmn⟩, ⟨v', hv⟩, hbel⟩ hlen
      have hcb := hb.cell
      have Hb := Lib.hid hb
      have Hv := Lib.hid hv
      clear hb hv
      gi_wp2_with (gi_at_builtin; go_must (refine wpListIn_app1 W rfl (.tmp 51) (.tmp 53) rfl w.heap.size A (pre.length + 1) c (V :: pre.map (·.1)) rfl hmn y.1 rfl (by simp) y.2 (by omega) hbel.size ?_; intro A2 c2 w2 hown2' hgr2 hat2; obtain ⟨g1, g2, g3, g4, g5⟩ := Hb.out.appended (by decide) hmn.1 hbel.size (Nat.le_refl _) hown2'.1 hgr2; have hv2 := (Hv.out.alloc _).kept hgr2 (Hv.out.not_row (by decide) hmn.1); have hcc := g1.cell; have hff := g1.frozen))
      refine ⟨g4.from _, fun v hv => ((hv.alloc _).kept hgr2 (hv.not_row (by decide) hmn.1)).other (by omega) _, ⟨⟨A2, c2, by simpa using g2, ⟨by simpa using g3, ?_⟩⟩, ⟨v', hv2.other (by omega) _⟩, hbel.trans g5⟩⟩
      have := hown2'.2
      simpa using this
  case done =>
    rintro D ys W hD hys ⟨⟨A, c, hb, hmn⟩, ⟨v', hv⟩, hbel⟩ hK
    have hcb := hb.cell
    have hfb := hb.frozen
    gi_wp2
    have hK' := (KeepsOthers.setCell W ⟨w.heap.size, 0, none⟩ (.slice A (ys.length + 1) c)).same D _ hK rfl
    refine ⟨by simp, .inl ⟨_, _, rfl, run_takeDeferred hK', ?_⟩⟩
    have hc5 := cell_kept (hb.set (.slice A (ys.length + 1) c)).cell (grownBy_putObj' _ D (.deferred none)) (fun r e => by cases e; exact ⟨_, hK', rfl⟩)
    have hl : ys.length = (septs (x - (M.toNat - 1))).length := by rw [← Hmd.out, ← hys]; simp
    refine ⟨.tuple #[.slice A (ys.length + 1) c, .int .i64 0], by simp [results, Try.f8, go_sem, hc5], A, c, by rw [hl], ?_, ?_⟩
    · have h6 := (hmn.box hb (by decide) (.slice A (ys.length + 1) c)).keptN (grownBy_putObj' _ D (.deferred none)) (fun r e => by cases e; exact ⟨_, hK', rfl⟩)
      rw [hys, Hmd.out] at h6
      rw [← hl]
      exact h6
    · exact (hbel.setCell (p := ⟨w.heap.size, 0, none⟩) (Nat.le_refl _) _).trans (belowK_b (w := w) (Nat.le_refl _) _ D _ _ (by simp at hD; omega) hK' rfl rfl)
  case stop =>
    rintro D c pre W _ _ h _
    exact h.elim

theorem fPutMore (x k : Nat) (u M U V : Int) (hk1 : 1 ≤ k) (hk2 : k ≤ 8) (hx : x ≤ 2147483647) (M1 : 2 ≤ M) (M2 : M ≤ 256) (U1 : 0 ≤ V) (U2 : V ≤ 255)
    (hsh : wrap64 (2 ^ k) = M) (hU : bits .andNot .u8 u (M - 1) = U) (hV : bits .or .u8 U (M - 1) = V) (hge : M - 1 ≤ x) (w : World) :
    Calls Try.prog 8 #[.int .i64 x, .int .i64 k, .int .u8 u] w fun e W' => ∃ A c, e = .returned (.tuple #[.slice A ((septs (x - (M.toNat - 1))).length + 1) c, .int .i64 0]) ∧
      Mine w.heap.size W' A ((septs (x - (M.toNat - 1))).length + 1) c (V :: septs (x - (M.toNat - 1))) ∧ Below w.heap.size w W' :=
  callsIn_wide.1 (putMore_in Fence.wide 3 trivial trivial trivial trivial rfl (Nat.le_refl _) (fun b W => callsIn_wide.2 (fRight b W)) x k u M U V hk1 hk2 hx M1 M2 U1 U2 hsh hU hV hge w)

set_option maxRecDepth 100000 in
theorem fPutLess (x k : Nat) (u M U V : Int) (hk1 : 1 ≤ k) (hk2 : k ≤ 8) (M2 : M ≤ 256)
    (hsh : wrap64 (2 ^ k) = M) (hU : bits .andNot .u8 u (M - 1) = U) (hV : bits .or .u8 U x = V) (V1 : 0 ≤ V) (V2 : V ≤ 255) (hlt : (x : Int) < M - 1) (w : World) :
    Calls Try.prog 8 #[.int .i64 x, .int .i64 k, .int .u8 u] w fun e W' => ∃ A c, e = .returned (.tuple #[.slice A 1 c, .int .i64 0]) ∧
      Mine w.heap.size W' A 1 c [V] ∧ Below w.heap.size w W' := by
  have ok : okBits k = true := decide_eq_true (by omega)
  have hmm : (M - 1) % 256 = M - 1 := by omega
  have hxm : (x : Int) % 256 = x := by omega
  have hx0 : decide ((x : Int) < 0) = false := decide_eq_false (by omega)
  have hxd : ((x : Int) / 2147483648 != 0) = false := by simp; omega
  go_enter Try.func8, Try.ntmps8
  go_wp2_with (go_at_call 17; refine (fRight _ _).mono ?_; rintro e w' ⟨rfl, rfl⟩)
  have hl := Mine.lit (base := w.heap.size) (w.alloc (.cells #[.slice (some ⟨w.heap.size + 1, 0, none⟩) 1 1] 22)) [V] (by simp) (Bs.one V1 V2) (by simp) 1 rfl
  exact bodyPost_ret (v := .tuple #[.slice (some ⟨w.heap.size + 1, 0, none⟩) 1 1, .int .i64 0]) (by simp [results, Try.f8, go_sem]) rfl
    ⟨_, _, rfl, by simpa using hl, ((Below.refl _ _).alloc (Nat.le_refl _) _).alloc (by simp) _⟩

set_option maxRecDepth 100000 in
theorem fPutNo (n b u : Int) (n0 : -9223372036854775808 ≤ n) (n1 : n ≤ 9223372036854775807) (h : okNum n b = false) (w : World) :
    Calls Try.prog 8 #[.int .i64 n, .int .i64 b, .int .u8 u] w fun e W' => e = .returned (.tuple #[.slice none 0 0, .int .i64 2]) ∧ Below w.heap.size w W' := by
  have hb0 := (Below.refl w.heap.size w).alloc (Nat.le_refl _) (.cells #[.slice none 0 0] 22)
  by_cases ob : 1 ≤ b ∧ b ≤ 8
  · have ok : okBits b = true := decide_eq_true ob
    by_cases hn : n < 0
    · go_enter Try.func8, Try.ntmps8
      go_wp2_with (go_at_call 17; refine (fRight _ _).mono ?_; rintro e w' ⟨rfl, rfl⟩)
      exact bodyPost_ret (v := .tuple #[.slice none 0 0, .int .i64 2]) (by simp [results, Try.f8, go_sem]) rfl ⟨rfl, by simpa using hb0⟩
    · have hn2 : 0 ≤ n := by omega
      have hx0 : decide (n < 0) = false := decide_eq_false hn
      have hxd : (n / 2147483648 != 0) = true := by
        have : ¬ (1 ≤ b ∧ b ≤ 8 ∧ 0 ≤ n ∧ n ≤ 2147483647) := by simpa [okNum] using h
        simp; omega
      clear h hn
      go_enter Try.func8, Try.ntmps8
      go_wp2_with (go_at_call 17; refine (fRight _ _).mono ?_; rintro e w' ⟨rfl, rfl⟩)
      exact bodyPost_ret (v := .tuple #[.slice none 0 0, .int .i64 2]) (by simp [results, Try.f8, go_sem]) rfl ⟨rfl, by simpa using hb0⟩
  · have ok : okBits b = false := decide_eq_false ob
    clear h ob
    go_enter Try.func8, Try.ntmps8
    go_wp2_with (go_at_call 17; refine (fRight _ _).mono ?_; rintro e w' ⟨rfl, rfl⟩)
    exact bodyPost_ret (v := .tuple #[.slice none 0 0, .int .i64 2]) (by simp [results, Try.f8, go_sem]) rfl ⟨rfl, by simpa using hb0⟩

/-- Whatever number: its bytes, and whether it may be told. -/
def putR (n b u : Int) : List Int := if okNum n b then putL n.toNat b.toNat u else []
def putE (n b : Int) : Int := if okNum n b then 0 else 2
theorem wrap_nat {m : Nat} (h : m ≤ 256) : wrap64 (m : Int) = m := by unfold wrap64; omega
theorem wrap_pow {k : Nat} (hk : k ≤ 8) : wrap64 (2 ^ k) = ((2 ^ k : Nat) : Int) := by
  have h : 2 ^ k ≤ 2 ^ 8 := Nat.pow_le_pow_right (by decide) hk
  rw [show ((2 : Int) ^ k) = ((2 ^ k : Nat) : Int) by simp]
  exact wrap_nat h
theorem pow_ge {k : Nat} (h : 1 ≤ k) : 2 ≤ 2 ^ k := by
  have : 2 ^ 1 ≤ 2 ^ k := Nat.pow_le_pow_right (by decide) h
  simpa using this
theorem div_mul_bd (u M : Int) (h0 : 0 ≤ u) (h1 : u ≤ 255) (k : Nat) (hk : k ≤ 8) (hM : M = ((2 ^ k : Nat) : Int)) : 0 ≤ u / M * M ∧ u / M * M + (M - 1) ≤ 255 := by
  subst hM
  have e : (8 - k) + k = 8 := by omega
  have e2 : 2 ^ (8 - k) * 2 ^ k = 256 := by rw [← Nat.pow_add, e]
  have hp : 0 < 2 ^ k := Nat.two_pow_pos k
  obtain ⟨v, rfl⟩ := toNat_lit h0
  have h2 : v / 2 ^ k < 2 ^ (8 - k) := by rw [Nat.div_lt_iff_lt_mul hp, e2]; omega
  have h3 : (v / 2 ^ k + 1) * 2 ^ k ≤ 2 ^ (8 - k) * 2 ^ k := Nat.mul_le_mul_right _ h2
  rw [e2, Nat.add_mul, Nat.one_mul] at h3
  rw [← Int.natCast_ediv, ← Int.natCast_mul]
  omega

theorem fPut (n b u : Int) (n0 : -9223372036854775808 ≤ n) (n1 : n ≤ 9223372036854775807) (u0 : 0 ≤ u) (u1 : u ≤ 255) (w : World) :
    Calls Try.prog 8 #[.int .i64 n, .int .i64 b, .int .u8 u] w fun e W' => ∃ A c, e = .returned (.tuple #[.slice A (putR n b u).length c, .int .i64 (putE n b)]) ∧
      Mine w.heap.size W' A (putR n b u).length c (putR n b u) ∧ Below w.heap.size w W' := by
  by_cases h : okNum n b = true
  · have hh : 1 ≤ b ∧ b ≤ 8 ∧ 0 ≤ n ∧ n ≤ 2147483647 := by simpa [okNum] using h
    obtain ⟨k, rfl⟩ := toNat_lit (show 0 ≤ b by omega)
    obtain ⟨x, rfl⟩ := toNat_lit hh.2.2.1
    have e1 : putR x k u = putL x k u := by unfold putR; rw [if_pos h]; simp
    have e2 : putE x k = 0 := by unfold putE; rw [if_pos h]
    rw [e1, e2]
    have hp : 2 ^ k ≤ 2 ^ 8 := Nat.pow_le_pow_right (by decide) (by omega)
    have hp1 := pow_ge (k := k) (by omega)
    have hM : ((2 ^ k : Nat) : Int) - 1 = ((2 ^ k - 1 : Nat) : Int) := by omega
    have hbd := div_mul_bd u _ u0 u1 k (by omega) rfl
    by_cases hl : x < 2 ^ k - 1
    · have e3 : putL x k u = [u / ((2 ^ k : Nat) : Int) * ((2 ^ k : Nat) : Int) + x] := by unfold putL; rw [if_pos hl]
      rw [e3]
      exact fPutLess x k u ((2 ^ k : Nat) : Int) (u / ((2 ^ k : Nat) : Int) * ((2 ^ k : Nat) : Int)) _ (by omega) (by omega) (by omega) (wrap_pow (by omega)) (by rw [hM]; exact andNot_mask u k u0 u1 (by omega))
        (or_low _ x k (Int.ediv_nonneg u0 (by omega)) (by omega) (by omega) (by omega)) (by omega) (by omega) (by omega) w
    · have e3 : putL x k u = (u / ((2 ^ k : Nat) : Int) * ((2 ^ k : Nat) : Int) + ((2 ^ k - 1 : Nat) : Int)) :: septs (x - (2 ^ k - 1)) := by unfold putL; rw [if_neg hl]
      rw [e3]
      have := fPutMore x k u ((2 ^ k : Nat) : Int) (u / ((2 ^ k : Nat) : Int) * ((2 ^ k : Nat) : Int)) (u / ((2 ^ k : Nat) : Int) * ((2 ^ k : Nat) : Int) + ((2 ^ k - 1 : Nat) : Int)) (by omega) (by omega) (by omega) (by omega) (by omega) (by omega) (by omega)
        (wrap_pow (by omega)) (by rw [hM]; exact andNot_mask u k u0 u1 (by omega)) (by rw [hM]; exact or_low _ _ k (Int.ediv_nonneg u0 (by omega)) (by omega) (by omega) (by omega)) (by omega) w
      rw [Int.toNat_natCast] at this
      exact this
  · have h' : okNum n b = false := by simpa using h
    have e1 : putR n b u = [] := by unfold putR; rw [if_neg h]
    have e2 : putE n b = 2 := by unfold putE; rw [if_neg h]
    rw [e1, e2]
    exact (fPutNo n b u n0 n1 h' w).mono fun e W' ⟨he, hb⟩ => ⟨none, 0, he, Mine.nil _ _, hb⟩
end Go.Proofs.Ytelmcjiamciklaa
