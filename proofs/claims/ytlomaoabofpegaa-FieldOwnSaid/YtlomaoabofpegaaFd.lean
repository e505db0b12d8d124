/- A rank taken: the contracts. -/
import Derived.Test.YtlomaoabofpegaaFc
import Derived.Test.YtlomaoabofpegaaJd
namespace Go.Proofs.Ytlomaoabofpegaa
open Go.RowKit Go.Shelf
set_option linter.unusedVariables false
attribute [local go_sem ↓ high] run_cutI_lh run_cutI_h run_cutI_l

def trA (l : List Int) : Bool := if l.length < 5 then false else decide (2147483648 ≤ (takeO l 0 4).1)
def trD (l : List Int) : Int := if l.length < 5 then 0 else (takeO l 0 4).1 % 2147483648
def trW (l : List Int) : Int := if l.length < 5 then 0 else l[4]?.getD 0
def trR (l : List Int) : List Int := if l.length < 5 then [] else l.drop 5
def trE (l : List Int) : Int := if l.length < 5 then 10 else 0
def TrP (al : Bool) (dp wt : Int) (R : List Int) (x : Int) (w : World) (e : Ending) (W' : World) : Prop := ∃ A n c, e = .returned (.tuple #[.agg #[.bool al, .int .i64 dp, .int .u8 wt], .slice A n c, .int .i64 x]) ∧ Mine w.heap.size W' A n c R ∧ Below w.heap.size w W'
theorem and_bit (n k : Nat) : n &&& 2 ^ k = if n.testBit k then 2 ^ k else 0 := by
  apply Nat.eq_of_testBit_eq
  intro i
  rw [Nat.testBit_and, Nat.testBit_two_pow]
  by_cases h : i = k
  · subst h
    cases hb : n.testBit i <;> simp
  · have h' : ¬ k = i := fun e => h e.symm
    cases hb : n.testBit k <;> simp [h']
theorem and_top (V : Int) (h0 : 0 ≤ V) (h1 : V < 4294967296) : (bits .and .u32 V 2147483648 != 0) = decide (2147483648 ≤ V) := by
  obtain ⟨n, rfl⟩ := toNat_lit h0
  rw [u32_and _ _ h0 h1 (by decide) (by decide)]
  simp only [Int.toNat_natCast]
  rw [show (Int.toNat 2147483648) = 2 ^ 31 from rfl, and_bit, Nat.testBit_eq_decide_div_mod_eq, Bool.eq_iff_iff]
  by_cases h : n / 2 ^ 31 % 2 = 1
  · simp [h]
    omega
  · simp [h]
    omega

set_option maxHeartbeats 800000 in
theorem fTakeRankNo (A : Option Addr) (n c : Nat) (w : World) (hn : n < 5) : Calls Try.prog 15 #[.slice A n c] w (TrP false 0 0 [] 10 w) := by
  have e0 : decide ((n : Int) < 5) = true := decide_eq_true (by omega)
  have q0 := Blk.new w 24 #[.bool false, .int .i64 0, .int .u8 0]
  have b0 := (Bel.refl w).alloc (.cells #[.bool false, .int .i64 0, .int .u8 0] 24)
  have z0 := q0.at 0 rfl
  have z1 := q0.at 1 rfl
  have z2 := q0.at 2 rfl
  clear hn
  go_enter Try.func15, Try.ntmps15
  go_wp2
  (try rw [q0.again 0 (v := .bool false) rfl, q0.again 1 (v := .int .i64 0) rfl, q0.again 2 (v := .int .u8 0) rfl])
  exact bodyPost_ret (v := .tuple #[.agg #[.bool false, .int .i64 0, .int .u8 0], .slice none 0 0, .int .i64 10]) (by simp [results, Try.f15, go_sem, z0, z1, z2]) rfl ⟨none, 0, 0, rfl, Mine.nil _ _, b0.out⟩

set_option maxHeartbeats 800000 in
theorem rTakeRankNo (A : Option Addr) (n c : Nat) (w : World) (hn : n < 5) : Calls Try.prog 16 #[.slice A n c] w (TrP false 0 0 [] 10 w) := by
  have e0 : decide ((n : Int) < 5) = true := decide_eq_true (by omega)
  have q0 := Blk.new w 24 #[.bool false, .int .i64 0, .int .u8 0]
  have b0 := (Bel.refl w).alloc (.cells #[.bool false, .int .i64 0, .int .u8 0] 24)
  have z0 := q0.at 0 rfl
  have z1 := q0.at 1 rfl
  have z2 := q0.at 2 rfl
  clear hn
  go_enter Try.func16, Try.ntmps16
  go_wp2
  (try rw [q0.again 0 (v := .bool false) rfl, q0.again 1 (v := .int .i64 0) rfl, q0.again 2 (v := .int .u8 0) rfl])
  exact bodyPost_ret (v := .tuple #[.agg #[.bool false, .int .i64 0, .int .u8 0], .slice none 0 0, .int .i64 10]) (by simp [results, Try.f16, go_sem, z0, z1, z2]) rfl ⟨none, 0, 0, rfl, Mine.nil _ _, b0.out⟩

noncomputable def fOps4 : Array Oper := regAt Try.f15 4
noncomputable def fOps6 : Array Oper := regAt Try.f15 6
set_option maxRecDepth 100000 in
set_option maxHeartbeats 4000000 in
theorem fTakeRankYes (b o n c : Nat) (l : List Int) (w : World) (h : Byt w (some ⟨b, o, none⟩) n c l) (hn : 5 ≤ n) (hn2 : n ≤ 100000) (N D y : Int) (al : Bool) (N0 : 0 ≤ N) (N1 : N < 4294967296) (hD : N % 2147483648 = D) (hy : l[4]?.getD 0 = y)
    (hA : (bits .and .u32 N 2147483648 != 0) = al) (E1 : Int) (T : ∀ w, Byt w (some ⟨b, o, none⟩) n c l → Calls Try.prog 28 #[.slice (some ⟨b, o, none⟩) n c, .int .i64 0, .int .i64 4] w (Ret (.tuple #[.int .i64 N, .int .i64 E1]) w)) (E2 : Int) (TS : ∀ w, Byt w (some ⟨b, o, none⟩) n c l → Calls Try.prog 29 #[.slice (some ⟨b, o, none⟩) n c, .int .i64 0] w (Ret (.tuple #[.int .i64 D, .int .i64 E2]) w)) :
    Calls Try.prog 15 #[.slice (some ⟨b, o, none⟩) n c] w (TrP al D y (l.drop 5) 0 w) := by
  have hyb := h.bs.get 4
  have hl := h.len
  obtain ⟨b', o', e, hb0, hc⟩ := h.cell (by omega)
  obtain ⟨rfl, rfl⟩ : b = b' ∧ o = o' := by simpa using e
  have hc4 := hc 4 (by omega)
  rw [hy] at hc4 hyb
  clear e hc hy
  have e0 : decide ((n : Int) < 5) = false := decide_eq_false (by omega)
  have n4 : (4 : Int) < (n : Int) := by omega
  have n5 : (5 : Int) ≤ (n : Int) := by omega
  obtain ⟨y0, y1⟩ := hyb
  have hcap := h.cap
  have hne : b ≠ w.heap.size := Nat.ne_of_lt hb0
  have q0 := Blk.new w 24 #[.bool false, .int .i64 0, .int .u8 0]
  have b0 := (Bel.refl w).alloc (.cells #[.bool false, .int .i64 0, .int .u8 0] 24)
  have hh := h.alloc (.cells #[.bool false, .int .i64 0, .int .u8 0] 24)
  have c0 : (w.alloc (.cells #[.bool false, .int .i64 0, .int .u8 0] 24)).cell? ⟨b, o + 4, none⟩ = some (.int .u8 y) := (World.cell?_alloc_lt w (.cells #[.bool false, .int .i64 0, .int .u8 0] 24) ⟨b, o + 4, none⟩ hb0).trans hc4
  clear hc4
  have T1 := Lib.hid T
  clear T
  have T2 := Lib.hid TS
  clear TS
  have eW : IntKind.u32.wrap N = N := by
    simp only [IntKind.wrap, IntKind.signed, IntKind.bits]
    simp
    omega
  have HD := Lib.hid hD
  clear hD
  go_enter Try.func15, Try.ntmps15
  go_wp2_with (go_at_call 28; refine (T1.out _ hh).mono ?_; rintro e w1 ⟨rfl, rfl⟩)
  generalize w.alloc (.cells #[.bool false, .int .i64 0, .int .u8 0] 24) = W1 at *
  obtain ⟨SW, HS⟩ : ∃ SW : World → Prop, Hid (SW = CellsAt [(⟨b, o + 4, none⟩, .int .u8 y)]) := ⟨_, Lib.hid rfl⟩
  have sw0 : SW W1.drew := by
    rw [HS.out]
    exact ⟨c0, trivial⟩
  replace q0 := q0.drew
  replace b0 := b0.drew
  replace hh := hh.drew
  clear c0
  refine wp_region_N fOps4 SW (by as_aux_lemma => kernel_rfl) (by as_aux_lemma => kernel_rfl) (fun d _ _ _ _ h => by cases d <;> exact h) (fun Q HQ hp => ?_)
  generalize W1.drew = W2 at *
  refine wpAnyG_takesF [0, 1, 2, 3, 4, 5, 6, 7] 3 (by as_aux_lemma => kernel_rfl) (by as_aux_lemma => kernel_rfl) hp sw0 ?_
  refine pureW_e1 5 (by (conv => lhs; whnf; arg 1; whnf)) (by rfl) (by (conv => lhs; whnf)) (fun ρ hρ h1 w1 hSw => by have hc := hρ.const; clear hρ; clear hSw; go_simp; try with_reducible rfl) ?_; (try simp only [Act.put, List.setIfInBounds_toArray, List.set_cons_succ, List.set_cons_zero])
  refine pureW_e1 16 (by (conv => lhs; whnf; arg 1; whnf)) (by rfl) (by (conv => lhs; whnf)) (fun ρ hρ h1 w1 hSw => by have hc := hρ.const; clear hρ; clear hSw; go_simp; try with_reducible rfl) ?_; (try simp only [Act.put, List.setIfInBounds_toArray, List.set_cons_succ, List.set_cons_zero])
  refine pureW_e1 17 (by (conv => lhs; whnf; arg 1; whnf)) (by rfl) (by (conv => lhs; whnf)) (fun ρ hρ h1 w1 hSw => by have hc := hρ.const; clear hρ; clear hSw; go_simp; try with_reducible rfl) ?_; (try simp only [Act.put, List.setIfInBounds_toArray, List.set_cons_succ, List.set_cons_zero])
  refine pureW_e1 18 (by (conv => lhs; whnf; arg 1; whnf)) (by rfl) (by (conv => lhs; whnf)) (fun ρ hρ h1 w1 hSw => by have hc := hρ.const; clear hρ; clear hSw; go_simp; try with_reducible rfl) ?_; (try simp only [Act.put, List.setIfInBounds_toArray, List.set_cons_succ, List.set_cons_zero])
  refine pureW_e1 0 (by (conv => lhs; whnf; arg 1; whnf)) (by rfl) (by (conv => lhs; whnf)) (fun ρ hρ h1 w1 hSw => by have hc := hρ.const; clear hρ; clear hSw; go_simp; try with_reducible rfl) ?_; (try simp only [Act.put, List.setIfInBounds_toArray, List.set_cons_succ, List.set_cons_zero])
  refine pureW_e1 20 (by (conv => lhs; whnf; arg 1; whnf)) (by rfl) (by (conv => lhs; whnf)) (fun ρ hρ h1 w1 hSw => by have hc := hρ.const; clear hρ; clear hSw; go_simp; try with_reducible rfl) ?_; (try simp only [Act.put, List.setIfInBounds_toArray, List.set_cons_succ, List.set_cons_zero])
  refine pureW_e1 21 (by (conv => lhs; whnf; arg 1; whnf)) (by rfl) (by (conv => lhs; whnf)) (fun ρ hρ h1 w1 hSw => by have hc := hρ.const; clear hρ; rw [HS.out] at hSw; simp only [CellsAt] at hSw; go_simp; try with_reducible rfl) ?_; (try simp only [Act.put, List.setIfInBounds_toArray, List.set_cons_succ, List.set_cons_zero])
  refine pureW_e1 2 (by (conv => lhs; whnf; arg 1; whnf)) (by rfl) (by (conv => lhs; whnf)) (fun ρ hρ h1 w1 hSw => by have hc := hρ.const; clear hρ; clear hSw; go_simp; try with_reducible rfl) ?_; (try simp only [Act.put, List.setIfInBounds_toArray, List.set_cons_succ, List.set_cons_zero])
  refine pureW_nil ?_
  refine wpAnyG_oneN 8 2 (by as_aux_lemma => kernel_rfl) (by as_aux_lemma => kernel_rfl) (by (conv => lhs; whnf; arg 1; whnf)) (by rfl) (fun K hK => ?_)
  have z0 := q0.at 0 rfl
  have f0 := q0.frozen 0
  go_simp
  replace hh := hh.far (p := ⟨w.heap.size, 0, none⟩) (fun b2 o2 e2 => by simp at e2; exact fun e3 => hne (e2.1.trans e3)) (.bool al)
  replace b0 := b0.set (p := ⟨w.heap.size, 0, none⟩) (Nat.le_refl _) (.bool al)
  replace q0 := q0.set 0 (.bool al)
  have sw1 : SW (W2.setCell ⟨w.heap.size, 0, none⟩ (.bool al)) := by rw [HS.out] at sw0 ⊢; exact ⟨(World.cell?_of_block (Below.heap_setCell _ ⟨w.heap.size, 0, none⟩ (.bool al) b hne)).trans sw0.1, trivial⟩
  (try go_simp)
  refine hK.out _ _ sw1 ?_
  clear hK K sw0
  refine wpAnyG_takesF [9] 1 (by as_aux_lemma => kernel_rfl) (by as_aux_lemma => kernel_rfl) hp sw1 ?_
  refine pureW_e1 2 (by (conv => lhs; whnf; arg 1; whnf)) (by rfl) (by (conv => lhs; whnf)) (fun ρ hρ h1 w1 hSw => by have hc := hρ.const; clear hρ; clear hSw; go_simp; try with_reducible rfl) ?_; (try simp only [Act.put, List.setIfInBounds_toArray, List.set_cons_succ, List.set_cons_zero])
  refine pureW_nil ?_
  refine wpAnyG_oneN 10 0 (by as_aux_lemma => kernel_rfl) (by as_aux_lemma => kernel_rfl) (by (conv => lhs; whnf; arg 1; whnf)) (by rfl) (fun K hK => ?_)
  have z2 := q0.at 2 rfl
  have f2 := q0.frozen 2
  go_simp
  replace hh := hh.far (p := ⟨w.heap.size, 2, none⟩) (fun b2 o2 e2 => by simp at e2; exact fun e3 => hne (e2.1.trans e3)) (.int .u8 y)
  replace b0 := b0.set (p := ⟨w.heap.size, 2, none⟩) (Nat.le_refl _) (.int .u8 y)
  replace q0 := q0.set 2 (.int .u8 y)
  have sw3 : SW ((W2.setCell ⟨w.heap.size, 0, none⟩ (.bool al)).setCell ⟨w.heap.size, 2, none⟩ (.int .u8 y)) := by rw [HS.out] at sw1 ⊢; exact ⟨(World.cell?_of_block (Below.heap_setCell _ ⟨w.heap.size, 2, none⟩ (.int .u8 y) b hne)).trans sw1.1, trivial⟩
  (try go_simp)
  refine hK.out _ _ sw3 ?_
  clear hK K sw1
  refine wpAnyG_done (by as_aux_lemma => kernel_rfl) ?_ _
  rw [HQ.out]
  clear sw3 HS SW
  have q1 : Blk _ _ _ #[.bool al, .int .i64 0, .int .u8 y] := q0
  generalize (W2.setCell ⟨w.heap.size, 0, none⟩ (.bool al)).setCell ⟨w.heap.size, 2, none⟩ (.int .u8 y) = W3 at *
  clear q0
  have z1 := q1.at 1 rfl
  have f1 := q1.frozen 1
  go_wp2_with (go_at_call 29; refine (T2.out _ hh).mono ?_; rintro e w1 ⟨rfl, rfl⟩)
  replace hh := hh.far (p := ⟨w.heap.size, 1, none⟩) (fun b2 o2 e2 => by simp at e2; exact fun e3 => hne (e2.1.trans e3)) (.int .i64 D)
  replace b0 := b0.set (p := ⟨w.heap.size, 1, none⟩) (Nat.le_refl _) (.int .i64 D)
  have q2 : Blk _ _ _ #[.bool al, .int .i64 D, .int .u8 y] := q1.set 1 (.int .i64 D)
  clear q1 z1 f1
  generalize W3.setCell ⟨w.heap.size, 1, none⟩ (.int .i64 D) = W4 at *
  obtain ⟨SW, HS⟩ : ∃ SW : World → Prop, Hid (SW = CellsAt [(⟨w.heap.size, 0, none⟩, .bool al), (⟨w.heap.size, 1, none⟩, .int .i64 D), (⟨w.heap.size, 2, none⟩, .int .u8 y)]) := ⟨_, Lib.hid rfl⟩
  have sw0 : SW W4.drew := by
    rw [HS.out]
    exact ⟨q2.at 0 rfl, q2.at 1 rfl, q2.at 2 rfl, trivial⟩
  replace q2 := q2.drew
  replace b0 := b0.drew
  replace hh := hh.drew
  have yc := hh.cutL (lo := 5) (by omega)
  have hsz := b0.out.size
  have HB : Hid (∀ w w', SW w → Below w.heap.size w w' → SW w') := Lib.hid fun w w' h hb => by rw [HS.out] at h ⊢; exact CellsAt.below h hb
  refine wp_region_N fOps6 SW (by as_aux_lemma => kernel_rfl) (by as_aux_lemma => kernel_rfl) (fun d _ _ _ _ h => by cases d <;> exact h) (fun Q HQ hp => ?_)
  refine wpAnyG_takesF [0, 1, 2] 4 (by as_aux_lemma => kernel_rfl) (by as_aux_lemma => kernel_rfl) hp sw0 ?_
  refine pureW_e1 2 (by (conv => lhs; whnf; arg 1; whnf)) (by rfl) (by (conv => lhs; whnf)) (fun ρ hρ h1 w1 hSw => by have hc := hρ.const; clear hρ; rw [HS.out] at hSw; simp only [CellsAt] at hSw; go_simp; try with_reducible rfl) ?_; (try simp only [Act.put, List.setIfInBounds_toArray, List.set_cons_succ, List.set_cons_zero])
  refine pureW_e1 0 (by (conv => lhs; whnf; arg 1; whnf)) (by rfl) (by (conv => lhs; whnf)) (fun ρ hρ h1 w1 hSw => by have hc := hρ.const; clear hρ; clear hSw; go_simp; try with_reducible rfl) ?_; (try simp only [Act.put, List.setIfInBounds_toArray, List.set_cons_succ, List.set_cons_zero])
  refine pureW_e1 32 (by (conv => lhs; whnf; arg 1; whnf)) (by rfl) (by (conv => lhs; whnf)) (fun ρ hρ h1 w1 hSw => by have hc := hρ.const; clear hρ; clear hSw; go_simp; try with_reducible rfl) ?_; (try simp only [Act.put, List.setIfInBounds_toArray, List.set_cons_succ, List.set_cons_zero])
  refine pureW_nil ?_
  refine wpAnyG_oneN 3 3 (by as_aux_lemma => kernel_rfl) (by as_aux_lemma => kernel_rfl) (by (conv => lhs; whnf; arg 1; whnf)) (by rfl) (fun K hK => ?_)
  go_simp
  refine (fClone _ _ _ _ _ yc (by omega)).mono ?_
  rintro e wr1 ⟨A5, c5, rfl, hm5, hb⟩
  replace b0 := (b0).below hb
  replace q2 := (q2).below hb
  have hb5 := hb
  have sw1 := HB.out _ _ sw0 hb
  (try go_simp)
  refine hK.out _ _ sw1 ?_
  clear hK K hb sw0
  refine wpAnyG_oneN 4 2 (by as_aux_lemma => kernel_rfl) (by as_aux_lemma => kernel_rfl) (by (conv => lhs; whnf; arg 1; whnf)) (by rfl) (fun K hK => ?_)
  have z0 := q2.at 0 rfl
  have z1 := q2.at 1 rfl
  have z2 := q2.at 2 rfl
  have f0 := q2.frozen
  go_simp
  rw [q2.again 0 (v := .bool al) rfl, q2.again 1 (v := .int .i64 D) rfl, q2.again 2 (v := .int .u8 y) rfl]
  (try go_simp)
  refine hK.out _ _ sw1 ?_
  clear hK K
  refine wpAnyG_takesF [5, 6] 0 (by as_aux_lemma => kernel_rfl) (by as_aux_lemma => kernel_rfl) hp sw1 ?_
  refine pureW_e1 34 (by (conv => lhs; whnf; arg 1; whnf)) (by rfl) (by (conv => lhs; whnf)) (fun ρ hρ h1 w1 hSw => by have hc := hρ.const; clear hρ; clear hSw; go_simp; try with_reducible rfl) ?_; (try simp only [Act.put, List.setIfInBounds_toArray, List.set_cons_succ, List.set_cons_zero])
  refine pureW_e0  (by (conv => lhs; whnf; arg 1; whnf)) (by rfl)  (fun ρ hρ  w1 hSw => by have hc := hρ.const; clear hρ; clear hSw; go_simp; try with_reducible rfl) ?_; (try simp only [Act.put, List.setIfInBounds_toArray, List.set_cons_succ, List.set_cons_zero])
  refine pureW_nil ?_
  refine wpAnyG_done (by as_aux_lemma => kernel_rfl) ?_ _
  rw [HQ.out]
  go_wp2
  have z0 := q2.at 0 rfl
  have z1 := q2.at 1 rfl
  have z2 := q2.at 2 rfl
  exact bodyPost_ret (v := .tuple #[.agg #[.bool al, .int .i64 D, .int .u8 y], .slice A5 (n - 5) c5, .int .i64 0]) (by simp [results, Try.f15, go_sem, z0, z1, z2]) rfl ⟨_, _, _, rfl, hm5.base_le hsz, b0.out⟩

noncomputable def rOps4 : Array Oper := regAt Try.f16 4
set_option maxRecDepth 100000 in
set_option maxHeartbeats 4000000 in
theorem rTakeRankYes (b o n c : Nat) (l : List Int) (w : World) (h : Byt w (some ⟨b, o, none⟩) n c l) (hn : 5 ≤ n) (hn2 : n ≤ 100000) (N D y : Int) (al : Bool) (N0 : 0 ≤ N) (N1 : N < 4294967296) (hD : N % 2147483648 = D) (hy : l[4]?.getD 0 = y)
    (hA : decide (2147483648 ≤ N) = al) (E1 : Int) (T : ∀ w, Byt w (some ⟨b, o, none⟩) n c l → Calls Try.prog 30 #[.slice (some ⟨b, o, none⟩) n c, .int .i64 0, .int .i64 4] w (Ret (.tuple #[.int .i64 N, .int .i64 E1]) w)) :
    Calls Try.prog 16 #[.slice (some ⟨b, o, none⟩) n c] w (TrP al D y (l.drop 5) 0 w) := by
  have hyb := h.bs.get 4
  have hl := h.len
  obtain ⟨b', o', e, hb0, hc⟩ := h.cell (by omega)
  obtain ⟨rfl, rfl⟩ : b = b' ∧ o = o' := by simpa using e
  have hc4 := hc 4 (by omega)
  rw [hy] at hc4 hyb
  clear e hc hy
  have e0 : decide ((n : Int) < 5) = false := decide_eq_false (by omega)
  have n4 : (4 : Int) < (n : Int) := by omega
  have n5 : (5 : Int) ≤ (n : Int) := by omega
  obtain ⟨y0, y1⟩ := hyb
  have hcap := h.cap
  have hne : b ≠ w.heap.size := Nat.ne_of_lt hb0
  have q0 := Blk.new w 24 #[.bool false, .int .i64 0, .int .u8 0]
  have b0 := (Bel.refl w).alloc (.cells #[.bool false, .int .i64 0, .int .u8 0] 24)
  have hh := h.alloc (.cells #[.bool false, .int .i64 0, .int .u8 0] 24)
  have c0 : (w.alloc (.cells #[.bool false, .int .i64 0, .int .u8 0] 24)).cell? ⟨b, o + 4, none⟩ = some (.int .u8 y) := (World.cell?_alloc_lt w (.cells #[.bool false, .int .i64 0, .int .u8 0] 24) ⟨b, o + 4, none⟩ hb0).trans hc4
  clear hc4
  have T1 := Lib.hid T
  clear T
  have HD := Lib.hid hD
  have hD2 : N.tmod 2147483648 = D := by rw [Int.tmod_eq_emod_of_nonneg N0]; exact hD
  go_enter Try.func16, Try.ntmps16
  go_wp2_with (go_at_call 30; refine (T1.out _ hh).mono ?_; rintro e w1 ⟨rfl, rfl⟩)
  generalize w.alloc (.cells #[.bool false, .int .i64 0, .int .u8 0] 24) = W1 at *
  obtain ⟨SW, HS⟩ : ∃ SW : World → Prop, Hid (SW = CellsAt [(⟨b, o + 4, none⟩, .int .u8 y)]) := ⟨_, Lib.hid rfl⟩
  have sw0 : SW W1.drew := by
    rw [HS.out]
    exact ⟨c0, trivial⟩
  replace q0 := q0.drew
  replace b0 := b0.drew
  replace hh := hh.drew
  clear c0
  have yc := hh.cutL (lo := 5) (by omega)
  have hsz := b0.out.size
  have HB : Hid (∀ w w', SW w → Below w.heap.size w w' → SW w') := Lib.hid fun w w' h hb => by rw [HS.out] at h ⊢; exact CellsAt.below h hb
  refine wp_region_N rOps4 SW (by as_aux_lemma => kernel_rfl) (by as_aux_lemma => kernel_rfl) (fun d _ _ _ _ h => by cases d <;> exact h) (fun Q HQ hp => ?_)
  generalize W1.drew = W2 at *
  have swZ := sw0
  refine wpAnyG_takesF [0, 1, 2, 3, 4, 5, 6, 7, 9, 10] 5 (by as_aux_lemma => kernel_rfl) (by as_aux_lemma => kernel_rfl) hp sw0 ?_
  refine pureW_e1 5 (by (conv => lhs; whnf; arg 1; whnf)) (by rfl) (by (conv => lhs; whnf)) (fun ρ hρ h1 w1 hSw => by have hc := hρ.const; clear hρ; clear hSw; go_simp; try with_reducible rfl) ?_; (try simp only [Act.put, List.setIfInBounds_toArray, List.set_cons_succ, List.set_cons_zero])
  refine pureW_e1 16 (by (conv => lhs; whnf; arg 1; whnf)) (by rfl) (by (conv => lhs; whnf)) (fun ρ hρ h1 w1 hSw => by have hc := hρ.const; clear hρ; clear hSw; go_simp; try with_reducible rfl) ?_; (try simp only [Act.put, List.setIfInBounds_toArray, List.set_cons_succ, List.set_cons_zero])
  refine pureW_e1 5 (by (conv => lhs; whnf; arg 1; whnf)) (by rfl) (by (conv => lhs; whnf)) (fun ρ hρ h1 w1 hSw => by have hc := hρ.const; clear hρ; clear hSw; go_simp; try with_reducible rfl) ?_; (try simp only [Act.put, List.setIfInBounds_toArray, List.set_cons_succ, List.set_cons_zero])
  refine pureW_e1 18 (by (conv => lhs; whnf; arg 1; whnf)) (by rfl) (by (conv => lhs; whnf)) (fun ρ hρ h1 w1 hSw => by have hc := hρ.const; clear hρ; clear hSw; go_simp; try with_reducible rfl) ?_; (try simp only [Act.put, List.setIfInBounds_toArray, List.set_cons_succ, List.set_cons_zero])
  refine pureW_e1 0 (by (conv => lhs; whnf; arg 1; whnf)) (by rfl) (by (conv => lhs; whnf)) (fun ρ hρ h1 w1 hSw => by have hc := hρ.const; clear hρ; clear hSw; go_simp; try with_reducible rfl) ?_; (try simp only [Act.put, List.setIfInBounds_toArray, List.set_cons_succ, List.set_cons_zero])
  refine pureW_e1 20 (by (conv => lhs; whnf; arg 1; whnf)) (by rfl) (by (conv => lhs; whnf)) (fun ρ hρ h1 w1 hSw => by have hc := hρ.const; clear hρ; clear hSw; go_simp; try with_reducible rfl) ?_; (try simp only [Act.put, List.setIfInBounds_toArray, List.set_cons_succ, List.set_cons_zero])
  refine pureW_e1 21 (by (conv => lhs; whnf; arg 1; whnf)) (by rfl) (by (conv => lhs; whnf)) (fun ρ hρ h1 w1 hSw => by have hc := hρ.const; clear hρ; rw [HS.out] at hSw; simp only [CellsAt] at hSw; go_simp; try with_reducible rfl) ?_; (try simp only [Act.put, List.setIfInBounds_toArray, List.set_cons_succ, List.set_cons_zero])
  refine pureW_e3 17 19 22 (by (conv => lhs; whnf; arg 1; whnf)) (by rfl) (by (conv => lhs; whnf)) (by (conv => lhs; whnf)) (by (conv => lhs; whnf)) (fun ρ hρ h1 h2 h3 w1 hSw => by have hc := hρ.const; clear hρ; clear hSw; go_simp; try with_reducible rfl) ?_; (try simp only [Act.put, List.setIfInBounds_toArray, List.set_cons_succ, List.set_cons_zero])
  refine pureW_e1 0 (by (conv => lhs; whnf; arg 1; whnf)) (by rfl) (by (conv => lhs; whnf)) (fun ρ hρ h1 w1 hSw => by have hc := hρ.const; clear hρ; clear hSw; go_simp; try with_reducible rfl) ?_; (try simp only [Act.put, List.setIfInBounds_toArray, List.set_cons_succ, List.set_cons_zero])
  refine pureW_e1 25 (by (conv => lhs; whnf; arg 1; whnf)) (by rfl) (by (conv => lhs; whnf)) (fun ρ hρ h1 w1 hSw => by have hc := hρ.const; clear hρ; clear hSw; go_simp; try with_reducible rfl) ?_; (try simp only [Act.put, List.setIfInBounds_toArray, List.set_cons_succ, List.set_cons_zero])
  refine pureW_nil ?_
  refine wpAnyG_oneN 8 4 (by as_aux_lemma => kernel_rfl) (by as_aux_lemma => kernel_rfl) (by (conv => lhs; whnf; arg 1; whnf)) (by rfl) (fun K hK => ?_)
  go_simp
  have sw1 := HB.out _ _ sw0 ((Below.refl _ _).alloc (Nat.le_refl _) (.cells #[] 5))
  (try go_simp)
  refine hK.out _ _ sw1 ?_
  clear hK K sw0
  refine wpAnyG_one 11 (by as_aux_lemma => kernel_rfl) (by (conv => lhs; whnf; arg 1; whnf)) (fun K hK => ?_)
  refine step_copy W2 (by rfl) (.tmp 24) (.tmp 26) (by rfl) (by rfl) rfl _ _ _ _ (by rfl) yc (by omega) ?_
  intro A5 c5 w5 hm5 hb
  have sw5 := HB.out _ _ swZ hb
  replace q0 := q0.below hb
  replace b0 := b0.below hb
  (try simp only [Act.put, List.setIfInBounds_toArray, List.set_cons_succ, List.set_cons_zero])
  refine hK.out _ _ (fun _ => sw5) ?_
  clear hK K sw1 swZ hb
  refine wpAnyG_oneN 12 2 (by as_aux_lemma => kernel_rfl) (by as_aux_lemma => kernel_rfl) (by (conv => lhs; whnf; arg 1; whnf)) (by rfl) (fun K hK => ?_)
  have z0 := q0.at 0 rfl
  have z1 := q0.at 1 rfl
  have z2 := q0.at 2 rfl
  have f0 := q0.frozen
  go_simp
  have sw6 : SW (((w5.setCell ⟨w.heap.size, 0, none⟩ (.bool al)).setCell ⟨w.heap.size, 1, none⟩ (.int .i64 D)).setCell ⟨w.heap.size, 2, none⟩ (.int .u8 y)) := by rw [HS.out] at sw5 ⊢; exact ⟨((World.cell?_of_block (Below.heap_setCell (_) ⟨w.heap.size, 2, none⟩ (.int .u8 y) b hne)).trans ((World.cell?_of_block (Below.heap_setCell (_) ⟨w.heap.size, 1, none⟩ (.int .i64 D) b hne)).trans ((World.cell?_of_block (Below.heap_setCell (_) ⟨w.heap.size, 0, none⟩ (.bool al) b hne)).trans sw5.1))), trivial⟩
  (try go_simp)
  refine hK.out _ _ sw6 ?_
  clear hK K sw5
  refine wpAnyG_takesF [13, 14] 0 (by as_aux_lemma => kernel_rfl) (by as_aux_lemma => kernel_rfl) hp sw6 ?_
  refine pureW_e1 27 (by (conv => lhs; whnf; arg 1; whnf)) (by rfl) (by (conv => lhs; whnf)) (fun ρ hρ h1 w1 hSw => by have hc := hρ.const; clear hρ; clear hSw; go_simp; try with_reducible rfl) ?_; (try simp only [Act.put, List.setIfInBounds_toArray, List.set_cons_succ, List.set_cons_zero])
  refine pureW_e0  (by (conv => lhs; whnf; arg 1; whnf)) (by rfl)  (fun ρ hρ  w1 hSw => by have hc := hρ.const; clear hρ; clear hSw; go_simp; try with_reducible rfl) ?_; (try simp only [Act.put, List.setIfInBounds_toArray, List.set_cons_succ, List.set_cons_zero])
  refine pureW_nil ?_
  refine wpAnyG_done (by as_aux_lemma => kernel_rfl) ?_ _
  rw [HQ.out]
  have q3 : Blk _ _ _ #[.bool al, .int .i64 D, .int .u8 y] := ((q0.set 0 (.bool al)).set 1 (.int .i64 D)).set 2 (.int .u8 y)
  have m3 := ((hm5.farB q0 (by decide) 0 (.bool al)).farB (q0.set 0 (.bool al)) (by decide) 1 (.int .i64 D)).farB ((q0.set 0 (.bool al)).set 1 (.int .i64 D)) (by decide) 2 (.int .u8 y)
  have b3 := ((b0.set (p := ⟨w.heap.size, 0, none⟩) (Nat.le_refl _) (.bool al)).set (p := ⟨w.heap.size, 1, none⟩) (Nat.le_refl _) (.int .i64 D)).set (p := ⟨w.heap.size, 2, none⟩) (Nat.le_refl _) (.int .u8 y)
  clear sw6 z0 z1 z2 f0
  generalize ((w5.setCell ⟨w.heap.size, 0, none⟩ (.bool al)).setCell ⟨w.heap.size, 1, none⟩ (.int .i64 D)).setCell ⟨w.heap.size, 2, none⟩ (.int .u8 y) = W6 at *
  have z0 := q3.at 0 rfl
  have z1 := q3.at 1 rfl
  have z2 := q3.at 2 rfl
  go_wp2
  exact bodyPost_ret (v := .tuple #[.agg #[.bool al, .int .i64 D, .int .u8 y], .slice A5 (n - 5) c5, .int .i64 0]) (by simp [results, Try.f16, go_sem, z0, z1, z2]) rfl ⟨_, _, _, rfl, m3.base_le hsz, b3.out⟩

theorem fTakeRank (A : Option Addr) (n c : Nat) (l : List Int) (w : World) (h : Byt w A n c l) (hn : n ≤ 100000) : Calls Try.prog 15 #[.slice A n c] w (TrP (trA l) (trD l) (trW l) (trR l) (trE l) w) := by
  have hl := h.len
  unfold trA trD trW trR trE
  by_cases h5 : n < 5
  · rw [if_pos (by omega), if_pos (by omega), if_pos (by omega), if_pos (by omega), if_pos (by omega)]
    exact fTakeRankNo A n c w h5
  · rw [if_neg (by omega), if_neg (by omega), if_neg (by omega), if_neg (by omega), if_neg (by omega)]
    obtain ⟨b, o, rfl, _⟩ := h.cell (by omega)
    have hN := takeO_bd h.bs 0 4
    exact fTakeRankYes b o n c l w h (by omega) hn _ _ _ _ hN.1 hN.2 rfl rfl (and_top _ hN.1 hN.2) _ (fun w h => fOTake _ n c l 0 4 w (by decide) h) _ (fun w h => fOStream _ n c l 0 w (by decide) h)
theorem rTakeRank (A : Option Addr) (n c : Nat) (l : List Int) (w : World) (h : Byt w A n c l) (hn : n ≤ 100000) : Calls Try.prog 16 #[.slice A n c] w (TrP (trA l) (trD l) (trW l) (trR l) (trE l) w) := by
  have hl := h.len
  unfold trA trD trW trR trE
  by_cases h5 : n < 5
  · rw [if_pos (by omega), if_pos (by omega), if_pos (by omega), if_pos (by omega), if_pos (by omega)]
    exact rTakeRankNo A n c w h5
  · rw [if_neg (by omega), if_neg (by omega), if_neg (by omega), if_neg (by omega), if_neg (by omega)]
    obtain ⟨b, o, rfl, _⟩ := h.cell (by omega)
    have hN := takeO_bd h.bs 0 4
    exact rTakeRankYes b o n c l w h (by omega) hn _ _ _ _ hN.1 hN.2 rfl rfl rfl _ (fun w h => rOTake _ n c l 0 4 w (by decide) h)
end Go.Proofs.Ytlomaoabofpegaa
