/- FieldLast: the last setting that is put counts: the walk. -/
import Derived.Test.YtlomaoabofpegaaFw
import Derived.Test.YtlomaoabofpegaaFo
import Derived.Test.YtlomaoabofpegaaFq
import Derived.Deep.DeepCutAuto
import Derived.Test.YtlomaoabofpegaaJ
import Derived.Test.YtlomaoabofpegaaJd
namespace Go.Proofs.Ytlomaoabofpegaa
open Go.RowKit Go.Shelf
set_option linter.unusedVariables false

noncomputable def lastOps : Array Oper := regAt Try.f5 4

/-- Whether one of the first k settings has this Id. -/
def someF (l : List (Int × Int)) (id : Int) (k : Nat) : Bool := (l.take k).any fun p => decide (p.1 = id)
theorem someF_succ (l : List (Int × Int)) (id : Int) {k : Nat} (hk : k < l.length) : someF l id (k + 1) = (someF l id k || decide (pid l k = id)) := by
  unfold someF pid
  rw [List.take_succ_eq_append_getElem hk, List.any_append, List.getElem?_eq_getElem hk]
  simp
theorem lastF_some (l : List (Int × Int)) (id : Int) : ∀ k, k ≤ l.length → (lastF (l.take k) id).2 = someF l id k ∧ (someF l id k = false → (lastF (l.take k) id).1 = 0)
  | 0, _ => ⟨rfl, fun _ => rfl⟩
  | k + 1, hk => by
    have ih := lastF_some l id k (by omega)
    rw [lastF_take l id (by omega), someF_succ l id (by omega)]
    by_cases h : pid l k = id
    · rw [if_pos h, decide_eq_true h]
      simp
    · rw [if_neg h, decide_eq_false h, Bool.or_false]
      exact ih
theorem someF_all {l : List (Int × Int)} {id v : Int} {b : Bool} {n : Nat} (hn : l.length = n) (h : lastF l id = (v, b)) : someF l id n = b ∧ (b = false → v = 0) := by
  subst hn
  have := lastF_some l id l.length (Nat.le_refl _)
  rw [List.take_of_length_le (Nat.le_refl _), h] at this
  exact ⟨this.1.symm, fun e => this.2 (by rw [← this.1]; exact e)⟩

set_option maxRecDepth 100000 in
set_option maxHeartbeats 4000000 in
theorem lastEq (B : Option Addr) (m d : Nat) (l : List (Int × Int)) (x y id : Int) (v0 : Int) (c0 : Bool) (W : World) (hl : Prs W B m d l) (g : m ≤ 60) (bx : 0 ≤ x ∧ x ≤ 65535) (by_ : 0 ≤ y ∧ y ≤ 4294967295) (hxi : (x == id) = true)
    (hV : lastF l id = (v0, c0)) (hV1 : lastF (l ++ [(x, y)]) id = (y, true)) :
    Calls Try.prog 5 #[.slice B m d, .agg #[.int .u16 x, .int .u32 y], .int .u16 id] W fun e w' => e = .returned (.bool true) ∧ Below W.heap.size W w' := by
  have L1 := Lib.hid fun w h => fLastE (A := B) (n := m) (c := d) hV w h
  have L2 := Lib.hid fun w A c (h : Prs w A (m + 1) c (l ++ [(x, y)])) => fLastE hV1 w h
  have b0 := Bel.refl W
  replace b0 := b0.alloc (.cells #[.int .u16 x, .int .u32 y] 47)
  replace hl := hl.alloc (.cells #[.int .u16 x, .int .u32 y] 47)
  have q0 := Blk.newAt (b := W.heap.size) W 47 #[.int .u16 x, .int .u32 y] rfl
  have cpb := hl.cap; have cpm := hl.mx
  have z0 := q0.at 0 rfl
  have z1 := q0.at 1 rfl
  have y0 : decide ((60 : Int) < m) = false := decide_eq_false (by omega)
  go_enter Try.func5, Try.ntmps5
  go_wp2_with fail
  refine (L1.out _ hl).mono ?_
  rintro e w1 ⟨rfl, hb⟩
  replace b0 := b0.below hb; replace hl := hl.below hb; replace q0 := q0.below hb
  clear z0 z1 hb
  have z0 := q0.at 0 rfl
  have z1 := q0.at 1 rfl
  go_upto_region 4 with fail
  go_cut [9, 10] from 17 to 47 (fun v b wx => v = .int .u32 y ∧ b = .bool true ∧ Below w1.heap.size w1 wx)
  case first =>
    rename_i hJ hM
    clear z0 z1
    have HPB := Lib.hid (show PBs [(x, y)] from by intro p hp; simp at hp; subst hp; exact ⟨bx, by_⟩)
    obtain ⟨SW, HS⟩ : ∃ SW : World → Prop, Hid (SW = CellsAt [(⟨W.heap.size, 0, none⟩, .int .u16 x), (⟨W.heap.size, 1, none⟩, .int .u32 y)]) := ⟨_, Lib.hid rfl⟩
    have HW : Hid (∀ w, Below w1.heap.size w1 w → SW w) := Lib.hid fun w hb => by
      have q := q0.below hb
      rw [HS.out]
      exact ⟨q.at 0 rfl, q.at 1 rfl, trivial⟩
    have sw0 : SW w1.drew := HW.out _ (drew_below _ _)
    have bw : Bel w1 w1.drew := ⟨drew_below _ _⟩
    replace hl := hl.drew
    have HB : Hid (∀ w w', SW w → Below w.heap.size w w' → SW w') := Lib.hid fun w w' h hb => by rw [HS.out] at h ⊢; exact CellsAt.below h hb
    refine wp_region_N lastOps SW (by as_aux_lemma => kernel_rfl) (by as_aux_lemma => kernel_rfl) (fun d _ _ _ _ h => by cases d <;> exact h) (fun Q HQ hp => ?_)
    refine wpAnyG_takesF [1, 3, 6] 10 (by as_aux_lemma => kernel_rfl) (by as_aux_lemma => kernel_rfl) hp sw0 ?_
    refine pureW_e1 0 (by (conv => lhs; whnf; arg 1; whnf)) (by rfl) (by (conv => lhs; whnf)) (fun ρ hρ h1 w1 hSw => by have hc := hρ.const; clear hρ; clear hSw; go_simp; try with_reducible rfl) ?_; (try simp only [Act.put, List.setIfInBounds_toArray, List.set_cons_succ, List.set_cons_zero])
    refine pureW_e1 4 (by (conv => lhs; whnf; arg 1; whnf)) (by rfl) (by (conv => lhs; whnf)) (fun ρ hρ h1 w1 hSw => by have hc := hρ.const; clear hρ; rw [HS.out] at hSw; simp only [CellsAt] at hSw; go_simp; try with_reducible rfl) ?_; (try simp only [Act.put, List.setIfInBounds_toArray, List.set_cons_succ, List.set_cons_zero])
    refine pureW_e1 2 (by (conv => lhs; whnf; arg 1; whnf)) (by rfl) (by (conv => lhs; whnf)) (fun ρ hρ h1 w1 hSw => by have hc := hρ.const; clear hρ; clear hSw; go_simp; try with_reducible rfl) ?_; (try simp only [Act.put, List.setIfInBounds_toArray, List.set_cons_succ, List.set_cons_zero])
    refine pureW_nil ?_
    refine wpAnyG_two 0 4 (by as_aux_lemma => kernel_rfl) (by (conv => lhs; whnf; arg 1; whnf)) (by (conv => lhs; whnf; arg 1; whnf)) (fun K hK => ?_) (fun K hK => ?_)
    · rw [if_pos (by rfl)]
      go_simp
      have sw1 := HB.out _ _ sw0 ((Below.refl _ _).alloc (Nat.le_refl _) (.cells #[] 47))
      have mo : MineP w1.heap.size (w1.drew.alloc (.cells #[] 47)) (some ⟨w1.heap.size, 0, none⟩) 0 0 [] := by have q := (MineP.lit0 (w1.drew)).base_le bw.out.size; simpa using q
      replace hl := hl.alloc (.cells #[] 47)
      replace bw := bw.alloc (.cells #[] 47)
      (try go_simp)
      refine hK.out _ _ (fun _ => sw1) ?_
      clear hK K sw0
      (try simp only [Act.put, List.setIfInBounds_toArray, List.set_cons_succ, List.set_cons_zero])
      have sw0 := sw1
      clear sw1
      refine wpAnyG_two 2 4 (by as_aux_lemma => kernel_rfl) (by (conv => lhs; whnf; arg 1; whnf)) (by (conv => lhs; whnf; arg 1; whnf)) (fun K hK => ?_) (fun K hK => ?_)
      · refine step_appP _ (by rfl) (.tmp 24) (.tmp 25) (by rfl) w1.heap.size _ _ _ _ (by rfl) mo _ _ _ _ (by rfl) hl (by omega) bw.out.size ?_
        intro A5 c5 w5 m5 hb hgr
        simp only [Nat.zero_add]
        rw [Nat.zero_add, List.nil_append] at m5
        have hb1 : Below w1.heap.size w1 w5 := bw.out.trans hb
        replace bw : Bel w1 w5 := ⟨hb1⟩
        have sw1 : SW w5 := HW.out _ hb1
        clear mo hl hb hb1 hgr
        (try simp only [Act.put, List.setIfInBounds_toArray, List.set_cons_succ, List.set_cons_zero])
        refine hK.out _ _ (fun _ => sw1) ?_
        clear hK K sw0
        have sw0 := sw1
        clear sw1
        refine wpAnyG_one 4 (by as_aux_lemma => kernel_rfl) (by (conv => lhs; whnf; arg 1; whnf)) (fun K hK => ?_)
        rw [if_pos (by rfl)]
        go_simp
        have sw1 := HB.out _ _ sw0 ((Below.refl _ _).alloc (Nat.le_refl _) (.cells #[.int .u16 x, .int .u32 y] 47))
        have yp := litP1 (g := w5.heap.size) (w := w5) (by simp) HPB.out
        replace m5 := m5.alloc (.cells #[.int .u16 x, .int .u32 y] 47)
        replace bw := bw.alloc (.cells #[.int .u16 x, .int .u32 y] 47)
        (try go_simp)
        refine hK.out _ _ (fun _ => sw1) ?_
        clear hK K sw0
        (try simp only [Act.put, List.setIfInBounds_toArray, List.set_cons_succ, List.set_cons_zero])
        have sw0 := sw1
        clear sw1
        refine wpAnyG_one 5 (by as_aux_lemma => kernel_rfl) (by (conv => lhs; whnf; arg 1; whnf)) (fun K hK => ?_)
        refine step_appP _ (by rfl) (.tmp 26) (.tmp 28) (by rfl) w1.heap.size _ _ _ _ (by rfl) m5 _ _ _ _ (by rfl) yp (by omega) bw.out.size ?_
        intro A6 c6 w6 m6 hb _
        have hb1 : Below w1.heap.size w1 w6 := bw.out.trans hb
        have sw1 : SW w6 := HW.out _ hb1
        clear m5 yp hb bw
        (try simp only [Act.put, List.setIfInBounds_toArray, List.set_cons_succ, List.set_cons_zero])
        refine hK.out _ _ (fun _ => sw1) ?_
        clear hK K sw0
        have sw0 := sw1
        clear sw1
        refine wpAnyG_one 7 (by as_aux_lemma => kernel_rfl) (by (conv => lhs; whnf; arg 1; whnf)) (fun K hK => ?_)
        rw [if_pos (by rfl)]
        go_simp
        refine (L2.out _ _ _ m6.prs).mono ?_
        rintro e w7 ⟨rfl, hb⟩
        have hb2 := hb1.trans (hb.mono hb1.size)
        have sw1 : SW w7 := HW.out _ hb2
        (try go_simp)
        refine hK.out _ _ (fun _ => sw1) ?_
        clear hK K sw0
        refine wpAnyG_takesF [8, 9, 10, 11, 12] 0 (by as_aux_lemma => kernel_rfl) (by as_aux_lemma => kernel_rfl) hp sw1 ?_
        refine pureW_e1 31 (by (conv => lhs; whnf; arg 1; whnf)) (by rfl) (by (conv => lhs; whnf)) (fun ρ hρ h1 w1 hSw => by have hc := hρ.const; clear hρ; clear hSw; go_simp; try with_reducible rfl) ?_; (try simp only [Act.put, List.setIfInBounds_toArray, List.set_cons_succ, List.set_cons_zero])
        refine pureW_e1 23 (by (conv => lhs; whnf; arg 1; whnf)) (by rfl) (by (conv => lhs; whnf)) (fun ρ hρ h1 w1 hSw => by have hc := hρ.const; clear hρ; clear hSw; go_simp; try with_reducible rfl) ?_; (try simp only [Act.put, List.setIfInBounds_toArray, List.set_cons_succ, List.set_cons_zero])
        refine pureW_e1 23 (by (conv => lhs; whnf; arg 1; whnf)) (by rfl) (by (conv => lhs; whnf)) (fun ρ hρ h1 w1 hSw => by have hc := hρ.const; clear hρ; clear hSw; go_simp; try with_reducible rfl) ?_; (try simp only [Act.put, List.setIfInBounds_toArray, List.set_cons_succ, List.set_cons_zero])
        refine pureW_e1 32 (by (conv => lhs; whnf; arg 1; whnf)) (by rfl) (by (conv => lhs; whnf)) (fun ρ hρ h1 w1 hSw => by have hc := hρ.const; clear hρ; clear hSw; go_simp; try with_reducible rfl) ?_; (try simp only [Act.put, List.setIfInBounds_toArray, List.set_cons_succ, List.set_cons_zero])
        refine pureW_e1 33 (by (conv => lhs; whnf; arg 1; whnf)) (by rfl) (by (conv => lhs; whnf)) (fun ρ hρ h1 w1 hSw => by have hc := hρ.const; clear hρ; clear hSw; go_simp; try with_reducible rfl) ?_; (try simp only [Act.put, List.setIfInBounds_toArray, List.set_cons_succ, List.set_cons_zero])
        refine pureW_nil ?_
        refine wpAnyG_done (by as_aux_lemma => kernel_rfl) ?_ _
        rw [HQ.out]
        refine hM _ _ (Met.intro (hJ _ _ ?_))
        repeat apply Exists.intro
        refine ⟨⟨rfl, rfl, hb2⟩, rfl⟩
      · rw [if_pos (by rfl)]
        go_simp
        have sw1 := HB.out _ _ sw0 ((Below.refl _ _).alloc (Nat.le_refl _) (.cells #[.int .u16 x, .int .u32 y] 47))
        have yp := litP1 (g := w1.heap.size + 1) (w := (w1.drew.alloc (.cells #[] 47))) (by simp) HPB.out
        replace mo := mo.alloc (.cells #[.int .u16 x, .int .u32 y] 47)
        replace hl := hl.alloc (.cells #[.int .u16 x, .int .u32 y] 47)
        replace bw := bw.alloc (.cells #[.int .u16 x, .int .u32 y] 47)
        (try go_simp)
        refine hK.out _ _ (fun _ => sw1) ?_
        clear hK K sw0
        (try simp only [Act.put, List.setIfInBounds_toArray, List.set_cons_succ, List.set_cons_zero])
        have sw0 := sw1
        clear sw1
        refine wpAnyG_one 2 (by as_aux_lemma => kernel_rfl) (by (conv => lhs; whnf; arg 1; whnf)) (fun K hK => ?_)
        refine step_appP _ (by rfl) (.tmp 24) (.tmp 25) (by rfl) w1.heap.size _ _ _ _ (by rfl) mo _ _ _ _ (by rfl) hl (by omega) bw.out.size ?_
        intro A5 c5 w5 m5 hb hgr
        simp only [Nat.zero_add]
        rw [Nat.zero_add, List.nil_append] at m5
        have hb1 : Below w1.heap.size w1 w5 := bw.out.trans hb
        replace bw : Bel w1 w5 := ⟨hb1⟩
        have sw1 : SW w5 := HW.out _ hb1
        replace yp := yp.grown hgr (fun b2 o2 e2 => by simp at e2; simp [Value.ownBlock, ← e2.1])
        clear mo hl hb hb1 hgr
        (try simp only [Act.put, List.setIfInBounds_toArray, List.set_cons_succ, List.set_cons_zero])
        refine hK.out _ _ (fun _ => sw1) ?_
        clear hK K sw0
        have sw0 := sw1
        clear sw1
        refine wpAnyG_one 5 (by as_aux_lemma => kernel_rfl) (by (conv => lhs; whnf; arg 1; whnf)) (fun K hK => ?_)
        refine step_appP _ (by rfl) (.tmp 26) (.tmp 28) (by rfl) w1.heap.size _ _ _ _ (by rfl) m5 _ _ _ _ (by rfl) yp (by omega) bw.out.size ?_
        intro A6 c6 w6 m6 hb _
        have hb1 : Below w1.heap.size w1 w6 := bw.out.trans hb
        have sw1 : SW w6 := HW.out _ hb1
        clear m5 yp hb bw
        (try simp only [Act.put, List.setIfInBounds_toArray, List.set_cons_succ, List.set_cons_zero])
        refine hK.out _ _ (fun _ => sw1) ?_
        clear hK K sw0
        have sw0 := sw1
        clear sw1
        refine wpAnyG_one 7 (by as_aux_lemma => kernel_rfl) (by (conv => lhs; whnf; arg 1; whnf)) (fun K hK => ?_)
        rw [if_pos (by rfl)]
        go_simp
        refine (L2.out _ _ _ m6.prs).mono ?_
        rintro e w7 ⟨rfl, hb⟩
        have hb2 := hb1.trans (hb.mono hb1.size)
        have sw1 : SW w7 := HW.out _ hb2
        (try go_simp)
        refine hK.out _ _ (fun _ => sw1) ?_
        clear hK K sw0
        refine wpAnyG_takesF [8, 9, 10, 11, 12] 0 (by as_aux_lemma => kernel_rfl) (by as_aux_lemma => kernel_rfl) hp sw1 ?_
        refine pureW_e1 31 (by (conv => lhs; whnf; arg 1; whnf)) (by rfl) (by (conv => lhs; whnf)) (fun ρ hρ h1 w1 hSw => by have hc := hρ.const; clear hρ; clear hSw; go_simp; try with_reducible rfl) ?_; (try simp only [Act.put, List.setIfInBounds_toArray, List.set_cons_succ, List.set_cons_zero])
        refine pureW_e1 23 (by (conv => lhs; whnf; arg 1; whnf)) (by rfl) (by (conv => lhs; whnf)) (fun ρ hρ h1 w1 hSw => by have hc := hρ.const; clear hρ; clear hSw; go_simp; try with_reducible rfl) ?_; (try simp only [Act.put, List.setIfInBounds_toArray, List.set_cons_succ, List.set_cons_zero])
        refine pureW_e1 23 (by (conv => lhs; whnf; arg 1; whnf)) (by rfl) (by (conv => lhs; whnf)) (fun ρ hρ h1 w1 hSw => by have hc := hρ.const; clear hρ; clear hSw; go_simp; try with_reducible rfl) ?_; (try simp only [Act.put, List.setIfInBounds_toArray, List.set_cons_succ, List.set_cons_zero])
        refine pureW_e1 32 (by (conv => lhs; whnf; arg 1; whnf)) (by rfl) (by (conv => lhs; whnf)) (fun ρ hρ h1 w1 hSw => by have hc := hρ.const; clear hρ; clear hSw; go_simp; try with_reducible rfl) ?_; (try simp only [Act.put, List.setIfInBounds_toArray, List.set_cons_succ, List.set_cons_zero])
        refine pureW_e1 33 (by (conv => lhs; whnf; arg 1; whnf)) (by rfl) (by (conv => lhs; whnf)) (fun ρ hρ h1 w1 hSw => by have hc := hρ.const; clear hρ; clear hSw; go_simp; try with_reducible rfl) ?_; (try simp only [Act.put, List.setIfInBounds_toArray, List.set_cons_succ, List.set_cons_zero])
        refine pureW_nil ?_
        refine wpAnyG_done (by as_aux_lemma => kernel_rfl) ?_ _
        rw [HQ.out]
        refine hM _ _ (Met.intro (hJ _ _ ?_))
        repeat apply Exists.intro
        refine ⟨⟨rfl, rfl, hb2⟩, rfl⟩
    · rw [if_pos (by rfl)]
      go_simp
      have sw1 := HB.out _ _ sw0 ((Below.refl _ _).alloc (Nat.le_refl _) (.cells #[.int .u16 x, .int .u32 y] 47))
      have yp := litP1 (g := w1.heap.size) (w := w1.drew) (by simp) HPB.out
      replace hl := hl.alloc (.cells #[.int .u16 x, .int .u32 y] 47)
      replace bw := bw.alloc (.cells #[.int .u16 x, .int .u32 y] 47)
      (try go_simp)
      refine hK.out _ _ (fun _ => sw1) ?_
      clear hK K sw0
      (try simp only [Act.put, List.setIfInBounds_toArray, List.set_cons_succ, List.set_cons_zero])
      have sw0 := sw1
      clear sw1
      refine wpAnyG_one 0 (by as_aux_lemma => kernel_rfl) (by (conv => lhs; whnf; arg 1; whnf)) (fun K hK => ?_)
      rw [if_pos (by rfl)]
      go_simp
      have sw1 := HB.out _ _ sw0 ((Below.refl _ _).alloc (Nat.le_refl _) (.cells #[] 47))
      have mo : MineP w1.heap.size ((w1.drew.alloc (.cells #[.int .u16 x, .int .u32 y] 47)).alloc (.cells #[] 47)) (some ⟨w1.heap.size + 1, 0, none⟩) 0 0 [] := by have q := (MineP.lit0 ((w1.drew.alloc (.cells #[.int .u16 x, .int .u32 y] 47)))).base_le bw.out.size; simpa using q
      replace yp := yp.alloc (.cells #[] 47)
      replace hl := hl.alloc (.cells #[] 47)
      replace bw := bw.alloc (.cells #[] 47)
      (try go_simp)
      refine hK.out _ _ (fun _ => sw1) ?_
      clear hK K sw0
      (try simp only [Act.put, List.setIfInBounds_toArray, List.set_cons_succ, List.set_cons_zero])
      have sw0 := sw1
      clear sw1
      refine wpAnyG_one 2 (by as_aux_lemma => kernel_rfl) (by (conv => lhs; whnf; arg 1; whnf)) (fun K hK => ?_)
      refine step_appP _ (by rfl) (.tmp 24) (.tmp 25) (by rfl) w1.heap.size _ _ _ _ (by rfl) mo _ _ _ _ (by rfl) hl (by omega) bw.out.size ?_
      intro A5 c5 w5 m5 hb hgr
      simp only [Nat.zero_add]
      rw [Nat.zero_add, List.nil_append] at m5
      have hb1 : Below w1.heap.size w1 w5 := bw.out.trans hb
      replace bw : Bel w1 w5 := ⟨hb1⟩
      have sw1 : SW w5 := HW.out _ hb1
      replace yp := yp.grown hgr (fun b2 o2 e2 => by simp at e2; simp [Value.ownBlock, ← e2.1])
      clear mo hl hb hb1 hgr
      (try simp only [Act.put, List.setIfInBounds_toArray, List.set_cons_succ, List.set_cons_zero])
      refine hK.out _ _ (fun _ => sw1) ?_
      clear hK K sw0
      have sw0 := sw1
      clear sw1
      refine wpAnyG_one 5 (by as_aux_lemma => kernel_rfl) (by (conv => lhs; whnf; arg 1; whnf)) (fun K hK => ?_)
      refine step_appP _ (by rfl) (.tmp 26) (.tmp 28) (by rfl) w1.heap.size _ _ _ _ (by rfl) m5 _ _ _ _ (by rfl) yp (by omega) bw.out.size ?_
      intro A6 c6 w6 m6 hb _
      have hb1 : Below w1.heap.size w1 w6 := bw.out.trans hb
      have sw1 : SW w6 := HW.out _ hb1
      clear m5 yp hb bw
      (try simp only [Act.put, List.setIfInBounds_toArray, List.set_cons_succ, List.set_cons_zero])
      refine hK.out _ _ (fun _ => sw1) ?_
      clear hK K sw0
      have sw0 := sw1
      clear sw1
      refine wpAnyG_one 7 (by as_aux_lemma => kernel_rfl) (by (conv => lhs; whnf; arg 1; whnf)) (fun K hK => ?_)
      rw [if_pos (by rfl)]
      go_simp
      refine (L2.out _ _ _ m6.prs).mono ?_
      rintro e w7 ⟨rfl, hb⟩
      have hb2 := hb1.trans (hb.mono hb1.size)
      have sw1 : SW w7 := HW.out _ hb2
      (try go_simp)
      refine hK.out _ _ (fun _ => sw1) ?_
      clear hK K sw0
      refine wpAnyG_takesF [8, 9, 10, 11, 12] 0 (by as_aux_lemma => kernel_rfl) (by as_aux_lemma => kernel_rfl) hp sw1 ?_
      refine pureW_e1 31 (by (conv => lhs; whnf; arg 1; whnf)) (by rfl) (by (conv => lhs; whnf)) (fun ρ hρ h1 w1 hSw => by have hc := hρ.const; clear hρ; clear hSw; go_simp; try with_reducible rfl) ?_; (try simp only [Act.put, List.setIfInBounds_toArray, List.set_cons_succ, List.set_cons_zero])
      refine pureW_e1 23 (by (conv => lhs; whnf; arg 1; whnf)) (by rfl) (by (conv => lhs; whnf)) (fun ρ hρ h1 w1 hSw => by have hc := hρ.const; clear hρ; clear hSw; go_simp; try with_reducible rfl) ?_; (try simp only [Act.put, List.setIfInBounds_toArray, List.set_cons_succ, List.set_cons_zero])
      refine pureW_e1 23 (by (conv => lhs; whnf; arg 1; whnf)) (by rfl) (by (conv => lhs; whnf)) (fun ρ hρ h1 w1 hSw => by have hc := hρ.const; clear hρ; clear hSw; go_simp; try with_reducible rfl) ?_; (try simp only [Act.put, List.setIfInBounds_toArray, List.set_cons_succ, List.set_cons_zero])
      refine pureW_e1 32 (by (conv => lhs; whnf; arg 1; whnf)) (by rfl) (by (conv => lhs; whnf)) (fun ρ hρ h1 w1 hSw => by have hc := hρ.const; clear hρ; clear hSw; go_simp; try with_reducible rfl) ?_; (try simp only [Act.put, List.setIfInBounds_toArray, List.set_cons_succ, List.set_cons_zero])
      refine pureW_e1 33 (by (conv => lhs; whnf; arg 1; whnf)) (by rfl) (by (conv => lhs; whnf)) (fun ρ hρ h1 w1 hSw => by have hc := hρ.const; clear hρ; clear hSw; go_simp; try with_reducible rfl) ?_; (try simp only [Act.put, List.setIfInBounds_toArray, List.set_cons_succ, List.set_cons_zero])
      refine pureW_nil ?_
      refine wpAnyG_done (by as_aux_lemma => kernel_rfl) ?_ _
      rw [HQ.out]
      refine hM _ _ (Met.intro (hJ _ _ ?_))
      repeat apply Exists.intro
      refine ⟨⟨rfl, rfl, hb2⟩, rfl⟩
  case rest =>
    obtain ⟨rfl, rfl, hb⟩ := hcut
    replace b0 := b0.below hb; replace hl := hl.below hb; replace q0 := q0.below hb
    clear hb z0 z1
    have z0 := q0.at 0 rfl
    have z1 := q0.at 1 rfl
    clear hV hV1 L1 L2
    go_wp2_with (first | (go_at_call 7; refine (fWakes _).mono ?_; rintro e w9 ⟨rfl, hb⟩; replace b0 := b0.below hb))
    go_ret
    exact ⟨rfl, b0.out⟩

set_option maxRecDepth 100000 in
set_option maxHeartbeats 4000000 in
theorem lastNeT (B : Option Addr) (m d : Nat) (l : List (Int × Int)) (x y id : Int) (v0 : Int) (W : World) (hl : Prs W B m d l) (g : m ≤ 60) (bx : 0 ≤ x ∧ x ≤ 65535) (by_ : 0 ≤ y ∧ y ≤ 4294967295) (hxi : (x == id) = false)
    (hV : lastF l id = (v0, true)) (hV1 : lastF (l ++ [(x, y)]) id = (v0, true)) :
    Calls Try.prog 5 #[.slice B m d, .agg #[.int .u16 x, .int .u32 y], .int .u16 id] W fun e w' => e = .returned (.bool true) ∧ Below W.heap.size W w' := by
  have L1 := Lib.hid fun w h => fLastE (A := B) (n := m) (c := d) hV w h
  have L2 := Lib.hid fun w A c (h : Prs w A (m + 1) c (l ++ [(x, y)])) => fLastE hV1 w h
  have b0 := Bel.refl W
  replace b0 := b0.alloc (.cells #[.int .u16 x, .int .u32 y] 47)
  replace hl := hl.alloc (.cells #[.int .u16 x, .int .u32 y] 47)
  have q0 := Blk.newAt (b := W.heap.size) W 47 #[.int .u16 x, .int .u32 y] rfl
  have cpb := hl.cap; have cpm := hl.mx
  have z0 := q0.at 0 rfl
  have z1 := q0.at 1 rfl
  have y0 : decide ((60 : Int) < m) = false := decide_eq_false (by omega)
  go_enter Try.func5, Try.ntmps5
  go_wp2_with fail
  refine (L1.out _ hl).mono ?_
  rintro e w1 ⟨rfl, hb⟩
  replace b0 := b0.below hb; replace hl := hl.below hb; replace q0 := q0.below hb
  clear z0 z1 hb
  have z0 := q0.at 0 rfl
  have z1 := q0.at 1 rfl
  go_upto_region 4 with fail
  go_cut [9, 10] from 17 to 47 (fun v b wx => v = .int .u32 v0 ∧ b = .bool true ∧ Below w1.heap.size w1 wx)
  case first =>
    rename_i hJ hM
    clear z0 z1
    have HPB := Lib.hid (show PBs [(x, y)] from by intro p hp; simp at hp; subst hp; exact ⟨bx, by_⟩)
    obtain ⟨SW, HS⟩ : ∃ SW : World → Prop, Hid (SW = CellsAt [(⟨W.heap.size, 0, none⟩, .int .u16 x), (⟨W.heap.size, 1, none⟩, .int .u32 y)]) := ⟨_, Lib.hid rfl⟩
    have HW : Hid (∀ w, Below w1.heap.size w1 w → SW w) := Lib.hid fun w hb => by
      have q := q0.below hb
      rw [HS.out]
      exact ⟨q.at 0 rfl, q.at 1 rfl, trivial⟩
    have sw0 : SW w1.drew := HW.out _ (drew_below _ _)
    have bw : Bel w1 w1.drew := ⟨drew_below _ _⟩
    replace hl := hl.drew
    have HB : Hid (∀ w w', SW w → Below w.heap.size w w' → SW w') := Lib.hid fun w w' h hb => by rw [HS.out] at h ⊢; exact CellsAt.below h hb
    refine wp_region_N lastOps SW (by as_aux_lemma => kernel_rfl) (by as_aux_lemma => kernel_rfl) (fun d _ _ _ _ h => by cases d <;> exact h) (fun Q HQ hp => ?_)
    refine wpAnyG_takesF [1, 3, 6] 10 (by as_aux_lemma => kernel_rfl) (by as_aux_lemma => kernel_rfl) hp sw0 ?_
    refine pureW_e1 0 (by (conv => lhs; whnf; arg 1; whnf)) (by rfl) (by (conv => lhs; whnf)) (fun ρ hρ h1 w1 hSw => by have hc := hρ.const; clear hρ; clear hSw; go_simp; try with_reducible rfl) ?_; (try simp only [Act.put, List.setIfInBounds_toArray, List.set_cons_succ, List.set_cons_zero])
    refine pureW_e1 4 (by (conv => lhs; whnf; arg 1; whnf)) (by rfl) (by (conv => lhs; whnf)) (fun ρ hρ h1 w1 hSw => by have hc := hρ.const; clear hρ; rw [HS.out] at hSw; simp only [CellsAt] at hSw; go_simp; try with_reducible rfl) ?_; (try simp only [Act.put, List.setIfInBounds_toArray, List.set_cons_succ, List.set_cons_zero])
    refine pureW_e1 2 (by (conv => lhs; whnf; arg 1; whnf)) (by rfl) (by (conv => lhs; whnf)) (fun ρ hρ h1 w1 hSw => by have hc := hρ.const; clear hρ; clear hSw; go_simp; try with_reducible rfl) ?_; (try simp only [Act.put, List.setIfInBounds_toArray, List.set_cons_succ, List.set_cons_zero])
    refine pureW_nil ?_
    refine wpAnyG_two 0 4 (by as_aux_lemma => kernel_rfl) (by (conv => lhs; whnf; arg 1; whnf)) (by (conv => lhs; whnf; arg 1; whnf)) (fun K hK => ?_) (fun K hK => ?_)
    · rw [if_pos (by rfl)]
      go_simp
      have sw1 := HB.out _ _ sw0 ((Below.refl _ _).alloc (Nat.le_refl _) (.cells #[] 47))
      have mo : MineP w1.heap.size (w1.drew.alloc (.cells #[] 47)) (some ⟨w1.heap.size, 0, none⟩) 0 0 [] := by have q := (MineP.lit0 (w1.drew)).base_le bw.out.size; simpa using q
      replace hl := hl.alloc (.cells #[] 47)
      replace bw := bw.alloc (.cells #[] 47)
      (try go_simp)
      refine hK.out _ _ (fun _ => sw1) ?_
      clear hK K sw0
      (try simp only [Act.put, List.setIfInBounds_toArray, List.set_cons_succ, List.set_cons_zero])
      have sw0 := sw1
      clear sw1
      refine wpAnyG_two 2 4 (by as_aux_lemma => kernel_rfl) (by (conv => lhs; whnf; arg 1; whnf)) (by (conv => lhs; whnf; arg 1; whnf)) (fun K hK => ?_) (fun K hK => ?_)
      · refine step_appP _ (by rfl) (.tmp 24) (.tmp 25) (by rfl) w1.heap.size _ _ _ _ (by rfl) mo _ _ _ _ (by rfl) hl (by omega) bw.out.size ?_
        intro A5 c5 w5 m5 hb hgr
        simp only [Nat.zero_add]
        rw [Nat.zero_add, List.nil_append] at m5
        have hb1 : Below w1.heap.size w1 w5 := bw.out.trans hb
        replace bw : Bel w1 w5 := ⟨hb1⟩
        have sw1 : SW w5 := HW.out _ hb1
        clear mo hl hb hb1 hgr
        (try simp only [Act.put, List.setIfInBounds_toArray, List.set_cons_succ, List.set_cons_zero])
        refine hK.out _ _ (fun _ => sw1) ?_
        clear hK K sw0
        have sw0 := sw1
        clear sw1
        refine wpAnyG_one 4 (by as_aux_lemma => kernel_rfl) (by (conv => lhs; whnf; arg 1; whnf)) (fun K hK => ?_)
        rw [if_pos (by rfl)]
        go_simp
        have sw1 := HB.out _ _ sw0 ((Below.refl _ _).alloc (Nat.le_refl _) (.cells #[.int .u16 x, .int .u32 y] 47))
        have yp := litP1 (g := w5.heap.size) (w := w5) (by simp) HPB.out
        replace m5 := m5.alloc (.cells #[.int .u16 x, .int .u32 y] 47)
        replace bw := bw.alloc (.cells #[.int .u16 x, .int .u32 y] 47)
        (try go_simp)
        refine hK.out _ _ (fun _ => sw1) ?_
        clear hK K sw0
        (try simp only [Act.put, List.setIfInBounds_toArray, List.set_cons_succ, List.set_cons_zero])
        have sw0 := sw1
        clear sw1
        refine wpAnyG_one 5 (by as_aux_lemma => kernel_rfl) (by (conv => lhs; whnf; arg 1; whnf)) (fun K hK => ?_)
        refine step_appP _ (by rfl) (.tmp 26) (.tmp 28) (by rfl) w1.heap.size _ _ _ _ (by rfl) m5 _ _ _ _ (by rfl) yp (by omega) bw.out.size ?_
        intro A6 c6 w6 m6 hb _
        have hb1 : Below w1.heap.size w1 w6 := bw.out.trans hb
        have sw1 : SW w6 := HW.out _ hb1
        clear m5 yp hb bw
        (try simp only [Act.put, List.setIfInBounds_toArray, List.set_cons_succ, List.set_cons_zero])
        refine hK.out _ _ (fun _ => sw1) ?_
        clear hK K sw0
        have sw0 := sw1
        clear sw1
        refine wpAnyG_one 7 (by as_aux_lemma => kernel_rfl) (by (conv => lhs; whnf; arg 1; whnf)) (fun K hK => ?_)
        rw [if_pos (by rfl)]
        go_simp
        refine (L2.out _ _ _ m6.prs).mono ?_
        rintro e w7 ⟨rfl, hb⟩
        have hb2 := hb1.trans (hb.mono hb1.size)
        have sw1 : SW w7 := HW.out _ hb2
        (try go_simp)
        refine hK.out _ _ (fun _ => sw1) ?_
        clear hK K sw0
        refine wpAnyG_takesF [8, 9, 10, 11, 12] 0 (by as_aux_lemma => kernel_rfl) (by as_aux_lemma => kernel_rfl) hp sw1 ?_
        refine pureW_e1 31 (by (conv => lhs; whnf; arg 1; whnf)) (by rfl) (by (conv => lhs; whnf)) (fun ρ hρ h1 w1 hSw => by have hc := hρ.const; clear hρ; clear hSw; go_simp; try with_reducible rfl) ?_; (try simp only [Act.put, List.setIfInBounds_toArray, List.set_cons_succ, List.set_cons_zero])
        refine pureW_e1 23 (by (conv => lhs; whnf; arg 1; whnf)) (by rfl) (by (conv => lhs; whnf)) (fun ρ hρ h1 w1 hSw => by have hc := hρ.const; clear hρ; clear hSw; go_simp; try with_reducible rfl) ?_; (try simp only [Act.put, List.setIfInBounds_toArray, List.set_cons_succ, List.set_cons_zero])
        refine pureW_e1 23 (by (conv => lhs; whnf; arg 1; whnf)) (by rfl) (by (conv => lhs; whnf)) (fun ρ hρ h1 w1 hSw => by have hc := hρ.const; clear hρ; clear hSw; go_simp; try with_reducible rfl) ?_; (try simp only [Act.put, List.setIfInBounds_toArray, List.set_cons_succ, List.set_cons_zero])
        refine pureW_e1 32 (by (conv => lhs; whnf; arg 1; whnf)) (by rfl) (by (conv => lhs; whnf)) (fun ρ hρ h1 w1 hSw => by have hc := hρ.const; clear hρ; clear hSw; go_simp; try with_reducible rfl) ?_; (try simp only [Act.put, List.setIfInBounds_toArray, List.set_cons_succ, List.set_cons_zero])
        refine pureW_e1 33 (by (conv => lhs; whnf; arg 1; whnf)) (by rfl) (by (conv => lhs; whnf)) (fun ρ hρ h1 w1 hSw => by have hc := hρ.const; clear hρ; clear hSw; go_simp; try with_reducible rfl) ?_; (try simp only [Act.put, List.setIfInBounds_toArray, List.set_cons_succ, List.set_cons_zero])
        refine pureW_nil ?_
        refine wpAnyG_done (by as_aux_lemma => kernel_rfl) ?_ _
        rw [HQ.out]
        refine hM _ _ (Met.intro (hJ _ _ ?_))
        repeat apply Exists.intro
        refine ⟨⟨rfl, rfl, hb2⟩, rfl⟩
      · rw [if_pos (by rfl)]
        go_simp
        have sw1 := HB.out _ _ sw0 ((Below.refl _ _).alloc (Nat.le_refl _) (.cells #[.int .u16 x, .int .u32 y] 47))
        have yp := litP1 (g := w1.heap.size + 1) (w := (w1.drew.alloc (.cells #[] 47))) (by simp) HPB.out
        replace mo := mo.alloc (.cells #[.int .u16 x, .int .u32 y] 47)
        replace hl := hl.alloc (.cells #[.int .u16 x, .int .u32 y] 47)
        replace bw := bw.alloc (.cells #[.int .u16 x, .int .u32 y] 47)
        (try go_simp)
        refine hK.out _ _ (fun _ => sw1) ?_
        clear hK K sw0
        (try simp only [Act.put, List.setIfInBounds_toArray, List.set_cons_succ, List.set_cons_zero])
        have sw0 := sw1
        clear sw1
        refine wpAnyG_one 2 (by as_aux_lemma => kernel_rfl) (by (conv => lhs; whnf; arg 1; whnf)) (fun K hK => ?_)
        refine step_appP _ (by rfl) (.tmp 24) (.tmp 25) (by rfl) w1.heap.size _ _ _ _ (by rfl) mo _ _ _ _ (by rfl) hl (by omega) bw.out.size ?_
        intro A5 c5 w5 m5 hb hgr
        simp only [Nat.zero_add]
        rw [Nat.zero_add, List.nil_append] at m5
        have hb1 : Below w1.heap.size w1 w5 := bw.out.trans hb
        replace bw : Bel w1 w5 := ⟨hb1⟩
        have sw1 : SW w5 := HW.out _ hb1
        replace yp := yp.grown hgr (fun b2 o2 e2 => by simp at e2; simp [Value.ownBlock, ← e2.1])
        clear mo hl hb hb1 hgr
        (try simp only [Act.put, List.setIfInBounds_toArray, List.set_cons_succ, List.set_cons_zero])
        refine hK.out _ _ (fun _ => sw1) ?_
        clear hK K sw0
        have sw0 := sw1
        clear sw1
        refine wpAnyG_one 5 (by as_aux_lemma => kernel_rfl) (by (conv => lhs; whnf; arg 1; whnf)) (fun K hK => ?_)
        refine step_appP _ (by rfl) (.tmp 26) (.tmp 28) (by rfl) w1.heap.size _ _ _ _ (by rfl) m5 _ _ _ _ (by rfl) yp (by omega) bw.out.size ?_
        intro A6 c6 w6 m6 hb _
        have hb1 : Below w1.heap.size w1 w6 := bw.out.trans hb
        have sw1 : SW w6 := HW.out _ hb1
        clear m5 yp hb bw
        (try simp only [Act.put, List.setIfInBounds_toArray, List.set_cons_succ, List.set_cons_zero])
        refine hK.out _ _ (fun _ => sw1) ?_
        clear hK K sw0
        have sw0 := sw1
        clear sw1
        refine wpAnyG_one 7 (by as_aux_lemma => kernel_rfl) (by (conv => lhs; whnf; arg 1; whnf)) (fun K hK => ?_)
        rw [if_pos (by rfl)]
        go_simp
        refine (L2.out _ _ _ m6.prs).mono ?_
        rintro e w7 ⟨rfl, hb⟩
        have hb2 := hb1.trans (hb.mono hb1.size)
        have sw1 : SW w7 := HW.out _ hb2
        (try go_simp)
        refine hK.out _ _ (fun _ => sw1) ?_
        clear hK K sw0
        refine wpAnyG_takesF [8, 9, 10, 11, 12] 0 (by as_aux_lemma => kernel_rfl) (by as_aux_lemma => kernel_rfl) hp sw1 ?_
        refine pureW_e1 31 (by (conv => lhs; whnf; arg 1; whnf)) (by rfl) (by (conv => lhs; whnf)) (fun ρ hρ h1 w1 hSw => by have hc := hρ.const; clear hρ; clear hSw; go_simp; try with_reducible rfl) ?_; (try simp only [Act.put, List.setIfInBounds_toArray, List.set_cons_succ, List.set_cons_zero])
        refine pureW_e1 23 (by (conv => lhs; whnf; arg 1; whnf)) (by rfl) (by (conv => lhs; whnf)) (fun ρ hρ h1 w1 hSw => by have hc := hρ.const; clear hρ; clear hSw; go_simp; try with_reducible rfl) ?_; (try simp only [Act.put, List.setIfInBounds_toArray, List.set_cons_succ, List.set_cons_zero])
        refine pureW_e1 23 (by (conv => lhs; whnf; arg 1; whnf)) (by rfl) (by (conv => lhs; whnf)) (fun ρ hρ h1 w1 hSw => by have hc := hρ.const; clear hρ; clear hSw; go_simp; try with_reducible rfl) ?_; (try simp only [Act.put, List.setIfInBounds_toArray, List.set_cons_succ, List.set_cons_zero])
        refine pureW_e1 32 (by (conv => lhs; whnf; arg 1; whnf)) (by rfl) (by (conv => lhs; whnf)) (fun ρ hρ h1 w1 hSw => by have hc := hρ.const; clear hρ; clear hSw; go_simp; try with_reducible rfl) ?_; (try simp only [Act.put, List.setIfInBounds_toArray, List.set_cons_succ, List.set_cons_zero])
        refine pureW_e1 33 (by (conv => lhs; whnf; arg 1; whnf)) (by rfl) (by (conv => lhs; whnf)) (fun ρ hρ h1 w1 hSw => by have hc := hρ.const; clear hρ; clear hSw; go_simp; try with_reducible rfl) ?_; (try simp only [Act.put, List.setIfInBounds_toArray, List.set_cons_succ, List.set_cons_zero])
        refine pureW_nil ?_
        refine wpAnyG_done (by as_aux_lemma => kernel_rfl) ?_ _
        rw [HQ.out]
        refine hM _ _ (Met.intro (hJ _ _ ?_))
        repeat apply Exists.intro
        refine ⟨⟨rfl, rfl, hb2⟩, rfl⟩
    · rw [if_pos (by rfl)]
      go_simp
      have sw1 := HB.out _ _ sw0 ((Below.refl _ _).alloc (Nat.le_refl _) (.cells #[.int .u16 x, .int .u32 y] 47))
      have yp := litP1 (g := w1.heap.size) (w := w1.drew) (by simp) HPB.out
      replace hl := hl.alloc (.cells #[.int .u16 x, .int .u32 y] 47)
      replace bw := bw.alloc (.cells #[.int .u16 x, .int .u32 y] 47)
      (try go_simp)
      refine hK.out _ _ (fun _ => sw1) ?_
      clear hK K sw0
      (try simp only [Act.put, List.setIfInBounds_toArray, List.set_cons_succ, List.set_cons_zero])
      have sw0 := sw1
      clear sw1
      refine wpAnyG_one 0 (by as_aux_lemma => kernel_rfl) (by (conv => lhs; whnf; arg 1; whnf)) (fun K hK => ?_)
      rw [if_pos (by rfl)]
      go_simp
      have sw1 := HB.out _ _ sw0 ((Below.refl _ _).alloc (Nat.le_refl _) (.cells #[] 47))
      have mo : MineP w1.heap.size ((w1.drew.alloc (.cells #[.int .u16 x, .int .u32 y] 47)).alloc (.cells #[] 47)) (some ⟨w1.heap.size + 1, 0, none⟩) 0 0 [] := by have q := (MineP.lit0 ((w1.drew.alloc (.cells #[.int .u16 x, .int .u32 y] 47)))).base_le bw.out.size; simpa using q
      replace yp := yp.alloc (.cells #[] 47)
      replace hl := hl.alloc (.cells #[] 47)
      replace bw := bw.alloc (.cells #[] 47)
      (try go_simp)
      refine hK.out _ _ (fun _ => sw1) ?_
      clear hK K sw0
      (try simp only [Act.put, List.setIfInBounds_toArray, List.set_cons_succ, List.set_cons_zero])
      have sw0 := sw1
      clear sw1
      refine wpAnyG_one 2 (by as_aux_lemma => kernel_rfl) (by (conv => lhs; whnf; arg 1; whnf)) (fun K hK => ?_)
      refine step_appP _ (by rfl) (.tmp 24) (.tmp 25) (by rfl) w1.heap.size _ _ _ _ (by rfl) mo _ _ _ _ (by rfl) hl (by omega) bw.out.size ?_
      intro A5 c5 w5 m5 hb hgr
      simp only [Nat.zero_add]
      rw [Nat.zero_add, List.nil_append] at m5
      have hb1 : Below w1.heap.size w1 w5 := bw.out.trans hb
      replace bw : Bel w1 w5 := ⟨hb1⟩
      have sw1 : SW w5 := HW.out _ hb1
      replace yp := yp.grown hgr (fun b2 o2 e2 => by simp at e2; simp [Value.ownBlock, ← e2.1])
      clear mo hl hb hb1 hgr
      (try simp only [Act.put, List.setIfInBounds_toArray, List.set_cons_succ, List.set_cons_zero])
      refine hK.out _ _ (fun _ => sw1) ?_
      clear hK K sw0
      have sw0 := sw1
      clear sw1
      refine wpAnyG_one 5 (by as_aux_lemma => kernel_rfl) (by (conv => lhs; whnf; arg 1; whnf)) (fun K hK => ?_)
      refine step_appP _ (by rfl) (.tmp 26) (.tmp 28) (by rfl) w1.heap.size _ _ _ _ (by rfl) m5 _ _ _ _ (by rfl) yp (by omega) bw.out.size ?_
      intro A6 c6 w6 m6 hb _
      have hb1 : Below w1.heap.size w1 w6 := bw.out.trans hb
      have sw1 : SW w6 := HW.out _ hb1
      clear m5 yp hb bw
      (try simp only [Act.put, List.setIfInBounds_toArray, List.set_cons_succ, List.set_cons_zero])
      refine hK.out _ _ (fun _ => sw1) ?_
      clear hK K sw0
      have sw0 := sw1
      clear sw1
      refine wpAnyG_one 7 (by as_aux_lemma => kernel_rfl) (by (conv => lhs; whnf; arg 1; whnf)) (fun K hK => ?_)
      rw [if_pos (by rfl)]
      go_simp
      refine (L2.out _ _ _ m6.prs).mono ?_
      rintro e w7 ⟨rfl, hb⟩
      have hb2 := hb1.trans (hb.mono hb1.size)
      have sw1 : SW w7 := HW.out _ hb2
      (try go_simp)
      refine hK.out _ _ (fun _ => sw1) ?_
      clear hK K sw0
      refine wpAnyG_takesF [8, 9, 10, 11, 12] 0 (by as_aux_lemma => kernel_rfl) (by as_aux_lemma => kernel_rfl) hp sw1 ?_
      refine pureW_e1 31 (by (conv => lhs; whnf; arg 1; whnf)) (by rfl) (by (conv => lhs; whnf)) (fun ρ hρ h1 w1 hSw => by have hc := hρ.const; clear hρ; clear hSw; go_simp; try with_reducible rfl) ?_; (try simp only [Act.put, List.setIfInBounds_toArray, List.set_cons_succ, List.set_cons_zero])
      refine pureW_e1 23 (by (conv => lhs; whnf; arg 1; whnf)) (by rfl) (by (conv => lhs; whnf)) (fun ρ hρ h1 w1 hSw => by have hc := hρ.const; clear hρ; clear hSw; go_simp; try with_reducible rfl) ?_; (try simp only [Act.put, List.setIfInBounds_toArray, List.set_cons_succ, List.set_cons_zero])
      refine pureW_e1 23 (by (conv => lhs; whnf; arg 1; whnf)) (by rfl) (by (conv => lhs; whnf)) (fun ρ hρ h1 w1 hSw => by have hc := hρ.const; clear hρ; clear hSw; go_simp; try with_reducible rfl) ?_; (try simp only [Act.put, List.setIfInBounds_toArray, List.set_cons_succ, List.set_cons_zero])
      refine pureW_e1 32 (by (conv => lhs; whnf; arg 1; whnf)) (by rfl) (by (conv => lhs; whnf)) (fun ρ hρ h1 w1 hSw => by have hc := hρ.const; clear hρ; clear hSw; go_simp; try with_reducible rfl) ?_; (try simp only [Act.put, List.setIfInBounds_toArray, List.set_cons_succ, List.set_cons_zero])
      refine pureW_e1 33 (by (conv => lhs; whnf; arg 1; whnf)) (by rfl) (by (conv => lhs; whnf)) (fun ρ hρ h1 w1 hSw => by have hc := hρ.const; clear hρ; clear hSw; go_simp; try with_reducible rfl) ?_; (try simp only [Act.put, List.setIfInBounds_toArray, List.set_cons_succ, List.set_cons_zero])
      refine pureW_nil ?_
      refine wpAnyG_done (by as_aux_lemma => kernel_rfl) ?_ _
      rw [HQ.out]
      refine hM _ _ (Met.intro (hJ _ _ ?_))
      repeat apply Exists.intro
      refine ⟨⟨rfl, rfl, hb2⟩, rfl⟩
  case rest =>
    obtain ⟨rfl, rfl, hb⟩ := hcut
    replace b0 := b0.below hb; replace hl := hl.below hb; replace q0 := q0.below hb
    clear hb z0 z1
    have z0 := q0.at 0 rfl
    have z1 := q0.at 1 rfl
    have hll := hl.len
    obtain ⟨sa, _⟩ := someF_all hll hV
    have SF := Lib.hid (fun k (hk : k < m) => someF_succ l id (k := k) (by omega))
    have HLL := Lib.hid hll
    have SA := Lib.hid sa
    clear hV hV1 L1 L2 hll sa
    go_wp2
    go_loopw [11, 12] (fun s i wr => ∃ k : Nat, k ≤ m ∧ i = .int .i64 k ∧ s = .bool (someF l id k) ∧ Below wc.heap.size wc wr) (fun _ i _ => m - (intOf i).toNat)
    case atStart => exact ⟨0, Nat.zero_le _, rfl, rfl, Below.refl _ _⟩
    case round =>
      obtain ⟨k, hk, rfl, rfl, hbk⟩ := hrel
      by_cases hlt : k < m
      · have hsf := Lib.hid (SF.out k hlt)
        obtain ⟨b, o, rfl, hbl, hc⟩ := (hl.below hbk).cell (by omega)
        obtain ⟨p1, p2⟩ := hc k hlt
        have HBK := Lib.hid hbk
        clear hc hbk
        have i0 : (0 : Int) ≤ (k : Int) := by omega
        have i1 : (k : Int) < (m : Int) := by omega
        generalize pid l k = px at *
        generalize pva l k = py at *
        generalize hs0 : someF l id k = s0 at *
        by_cases he : px = id
        · have e1 : (px == id) = true := beq_iff_eq.2 he
          have hq : someF l id (k + 1) = true := by rw [hsf.out, decide_eq_true he, Bool.or_true]
          have HQ := Lib.hid hq
          clear he hq hsf hs0
          cases s0
          · go_wp2
            exact ⟨⟨k + 1, by omega, by simp, by rw [HQ.out], HBK.out⟩, by simp [intOf]; omega⟩
          · go_wp2
            exact ⟨⟨k + 1, by omega, by simp, by rw [HQ.out], HBK.out⟩, by simp [intOf]; omega⟩
        · have e1 : (px == id) = false := beq_eq_false_iff_ne.2 he
          have hq : someF l id (k + 1) = s0 := by rw [hsf.out, decide_eq_false he, Bool.or_false]
          have HQ := Lib.hid hq
          clear he hq hsf hs0
          cases s0
          · go_wp2
            exact ⟨⟨k + 1, by omega, by simp, by rw [HQ.out], HBK.out⟩, by simp [intOf]; omega⟩
          · go_wp2
            exact ⟨⟨k + 1, by omega, by simp, by rw [HQ.out], HBK.out⟩, by simp [intOf]; omega⟩
      · have ek : k = m := by omega
        have i1 : decide (k < m) = false := decide_eq_false (by omega)
        have sk : someF l id k = true := by rw [ek]; exact SA.out
        clear ek hlt
        generalize someF l id k = s0 at *
        replace b0 := b0.below hbk
        subst sk
        go_wp2_with (first | (go_at_call 7; refine (fWakes _).mono ?_; rintro e w9 ⟨rfl, hb⟩; replace b0 := b0.below hb))
        go_ret
        exact ⟨rfl, b0.out⟩

set_option maxRecDepth 100000 in
set_option maxHeartbeats 4000000 in
theorem lastNeF (B : Option Addr) (m d : Nat) (l : List (Int × Int)) (x y id : Int)  (W : World) (hl : Prs W B m d l) (g : m ≤ 60) (bx : 0 ≤ x ∧ x ≤ 65535) (by_ : 0 ≤ y ∧ y ≤ 4294967295) (hxi : (x == id) = false)
    (hV : lastF l id = (0, false)) (hV1 : lastF (l ++ [(x, y)]) id = (0, false)) :
    Calls Try.prog 5 #[.slice B m d, .agg #[.int .u16 x, .int .u32 y], .int .u16 id] W fun e w' => e = .returned (.bool true) ∧ Below W.heap.size W w' := by
  have L1 := Lib.hid fun w h => fLastE (A := B) (n := m) (c := d) hV w h
  have L2 := Lib.hid fun w A c (h : Prs w A (m + 1) c (l ++ [(x, y)])) => fLastE hV1 w h
  have b0 := Bel.refl W
  replace b0 := b0.alloc (.cells #[.int .u16 x, .int .u32 y] 47)
  replace hl := hl.alloc (.cells #[.int .u16 x, .int .u32 y] 47)
  have q0 := Blk.newAt (b := W.heap.size) W 47 #[.int .u16 x, .int .u32 y] rfl
  have cpb := hl.cap; have cpm := hl.mx
  have z0 := q0.at 0 rfl
  have z1 := q0.at 1 rfl
  have y0 : decide ((60 : Int) < m) = false := decide_eq_false (by omega)
  go_enter Try.func5, Try.ntmps5
  go_wp2_with fail
  refine (L1.out _ hl).mono ?_
  rintro e w1 ⟨rfl, hb⟩
  replace b0 := b0.below hb; replace hl := hl.below hb; replace q0 := q0.below hb
  clear z0 z1 hb
  have z0 := q0.at 0 rfl
  have z1 := q0.at 1 rfl
  go_upto_region 4 with fail
  go_cut [9, 10] from 17 to 47 (fun v b wx => v = .int .u32 0 ∧ b = .bool false ∧ Below w1.heap.size w1 wx)
  case first =>
    rename_i hJ hM
    clear z0 z1
    have HPB := Lib.hid (show PBs [(x, y)] from by intro p hp; simp at hp; subst hp; exact ⟨bx, by_⟩)
    obtain ⟨SW, HS⟩ : ∃ SW : World → Prop, Hid (SW = CellsAt [(⟨W.heap.size, 0, none⟩, .int .u16 x), (⟨W.heap.size, 1, none⟩, .int .u32 y)]) := ⟨_, Lib.hid rfl⟩
    have HW : Hid (∀ w, Below w1.heap.size w1 w → SW w) := Lib.hid fun w hb => by
      have q := q0.below hb
      rw [HS.out]
      exact ⟨q.at 0 rfl, q.at 1 rfl, trivial⟩
    have sw0 : SW w1.drew := HW.out _ (drew_below _ _)
    have bw : Bel w1 w1.drew := ⟨drew_below _ _⟩
    replace hl := hl.drew
    have HB : Hid (∀ w w', SW w → Below w.heap.size w w' → SW w') := Lib.hid fun w w' h hb => by rw [HS.out] at h ⊢; exact CellsAt.below h hb
    refine wp_region_N lastOps SW (by as_aux_lemma => kernel_rfl) (by as_aux_lemma => kernel_rfl) (fun d _ _ _ _ h => by cases d <;> exact h) (fun Q HQ hp => ?_)
    refine wpAnyG_takesF [1, 3, 6] 10 (by as_aux_lemma => kernel_rfl) (by as_aux_lemma => kernel_rfl) hp sw0 ?_
    refine pureW_e1 0 (by (conv => lhs; whnf; arg 1; whnf)) (by rfl) (by (conv => lhs; whnf)) (fun ρ hρ h1 w1 hSw => by have hc := hρ.const; clear hρ; clear hSw; go_simp; try with_reducible rfl) ?_; (try simp only [Act.put, List.setIfInBounds_toArray, List.set_cons_succ, List.set_cons_zero])
    refine pureW_e1 4 (by (conv => lhs; whnf; arg 1; whnf)) (by rfl) (by (conv => lhs; whnf)) (fun ρ hρ h1 w1 hSw => by have hc := hρ.const; clear hρ; rw [HS.out] at hSw; simp only [CellsAt] at hSw; go_simp; try with_reducible rfl) ?_; (try simp only [Act.put, List.setIfInBounds_toArray, List.set_cons_succ, List.set_cons_zero])
    refine pureW_e1 2 (by (conv => lhs; whnf; arg 1; whnf)) (by rfl) (by (conv => lhs; whnf)) (fun ρ hρ h1 w1 hSw => by have hc := hρ.const; clear hρ; clear hSw; go_simp; try with_reducible rfl) ?_; (try simp only [Act.put, List.setIfInBounds_toArray, List.set_cons_succ, List.set_cons_zero])
    refine pureW_nil ?_
    refine wpAnyG_two 0 4 (by as_aux_lemma => kernel_rfl) (by (conv => lhs; whnf; arg 1; whnf)) (by (conv => lhs; whnf; arg 1; whnf)) (fun K hK => ?_) (fun K hK => ?_)
    · rw [if_pos (by rfl)]
      go_simp
      have sw1 := HB.out _ _ sw0 ((Below.refl _ _).alloc (Nat.le_refl _) (.cells #[] 47))
      have mo : MineP w1.heap.size (w1.drew.alloc (.cells #[] 47)) (some ⟨w1.heap.size, 0, none⟩) 0 0 [] := by have q := (MineP.lit0 (w1.drew)).base_le bw.out.size; simpa using q
      replace hl := hl.alloc (.cells #[] 47)
      replace bw := bw.alloc (.cells #[] 47)
      (try go_simp)
      refine hK.out _ _ (fun _ => sw1) ?_
      clear hK K sw0
      (try simp only [Act.put, List.setIfInBounds_toArray, List.set_cons_succ, List.set_cons_zero])
      have sw0 := sw1
      clear sw1
      refine wpAnyG_two 2 4 (by as_aux_lemma => kernel_rfl) (by (conv => lhs; whnf; arg 1; whnf)) (by (conv => lhs; whnf; arg 1; whnf)) (fun K hK => ?_) (fun K hK => ?_)
      · refine step_appP _ (by rfl) (.tmp 24) (.tmp 25) (by rfl) w1.heap.size _ _ _ _ (by rfl) mo _ _ _ _ (by rfl) hl (by omega) bw.out.size ?_
        intro A5 c5 w5 m5 hb hgr
        simp only [Nat.zero_add]
        rw [Nat.zero_add, List.nil_append] at m5
        have hb1 : Below w1.heap.size w1 w5 := bw.out.trans hb
        replace bw : Bel w1 w5 := ⟨hb1⟩
        have sw1 : SW w5 := HW.out _ hb1
        clear mo hl hb hb1 hgr
        (try simp only [Act.put, List.setIfInBounds_toArray, List.set_cons_succ, List.set_cons_zero])
        refine hK.out _ _ (fun _ => sw1) ?_
        clear hK K sw0
        have sw0 := sw1
        clear sw1
        refine wpAnyG_one 4 (by as_aux_lemma => kernel_rfl) (by (conv => lhs; whnf; arg 1; whnf)) (fun K hK => ?_)
        rw [if_pos (by rfl)]
        go_simp
        have sw1 := HB.out _ _ sw0 ((Below.refl _ _).alloc (Nat.le_refl _) (.cells #[.int .u16 x, .int .u32 y] 47))
        have yp := litP1 (g := w5.heap.size) (w := w5) (by simp) HPB.out
        replace m5 := m5.alloc (.cells #[.int .u16 x, .int .u32 y] 47)
        replace bw := bw.alloc (.cells #[.int .u16 x, .int .u32 y] 47)
        (try go_simp)
        refine hK.out _ _ (fun _ => sw1) ?_
        clear hK K sw0
        (try simp only [Act.put, List.setIfInBounds_toArray, List.set_cons_succ, List.set_cons_zero])
        have sw0 := sw1
        clear sw1
        refine wpAnyG_one 5 (by as_aux_lemma => kernel_rfl) (by (conv => lhs; whnf; arg 1; whnf)) (fun K hK => ?_)
        refine step_appP _ (by rfl) (.tmp 26) (.tmp 28) (by rfl) w1.heap.size _ _ _ _ (by rfl) m5 _ _ _ _ (by rfl) yp (by omega) bw.out.size ?_
        intro A6 c6 w6 m6 hb _
        have hb1 : Below w1.heap.size w1 w6 := bw.out.trans hb
        have sw1 : SW w6 := HW.out _ hb1
        clear m5 yp hb bw
        (try simp only [Act.put, List.setIfInBounds_toArray, List.set_cons_succ, List.set_cons_zero])
        refine hK.out _ _ (fun _ => sw1) ?_
        clear hK K sw0
        have sw0 := sw1
        clear sw1
        refine wpAnyG_one 7 (by as_aux_lemma => kernel_rfl) (by (conv => lhs; whnf; arg 1; whnf)) (fun K hK => ?_)
        rw [if_pos (by rfl)]
        go_simp
        refine (L2.out _ _ _ m6.prs).mono ?_
        rintro e w7 ⟨rfl, hb⟩
        have hb2 := hb1.trans (hb.mono hb1.size)
        have sw1 : SW w7 := HW.out _ hb2
        (try go_simp)
        refine hK.out _ _ (fun _ => sw1) ?_
        clear hK K sw0
        refine wpAnyG_takesF [8, 9, 10, 11, 12] 0 (by as_aux_lemma => kernel_rfl) (by as_aux_lemma => kernel_rfl) hp sw1 ?_
        refine pureW_e1 31 (by (conv => lhs; whnf; arg 1; whnf)) (by rfl) (by (conv => lhs; whnf)) (fun ρ hρ h1 w1 hSw => by have hc := hρ.const; clear hρ; clear hSw; go_simp; try with_reducible rfl) ?_; (try simp only [Act.put, List.setIfInBounds_toArray, List.set_cons_succ, List.set_cons_zero])
        refine pureW_e1 23 (by (conv => lhs; whnf; arg 1; whnf)) (by rfl) (by (conv => lhs; whnf)) (fun ρ hρ h1 w1 hSw => by have hc := hρ.const; clear hρ; clear hSw; go_simp; try with_reducible rfl) ?_; (try simp only [Act.put, List.setIfInBounds_toArray, List.set_cons_succ, List.set_cons_zero])
        refine pureW_e1 23 (by (conv => lhs; whnf; arg 1; whnf)) (by rfl) (by (conv => lhs; whnf)) (fun ρ hρ h1 w1 hSw => by have hc := hρ.const; clear hρ; clear hSw; go_simp; try with_reducible rfl) ?_; (try simp only [Act.put, List.setIfInBounds_toArray, List.set_cons_succ, List.set_cons_zero])
        refine pureW_e1 32 (by (conv => lhs; whnf; arg 1; whnf)) (by rfl) (by (conv => lhs; whnf)) (fun ρ hρ h1 w1 hSw => by have hc := hρ.const; clear hρ; clear hSw; go_simp; try with_reducible rfl) ?_; (try simp only [Act.put, List.setIfInBounds_toArray, List.set_cons_succ, List.set_cons_zero])
        refine pureW_e1 33 (by (conv => lhs; whnf; arg 1; whnf)) (by rfl) (by (conv => lhs; whnf)) (fun ρ hρ h1 w1 hSw => by have hc := hρ.const; clear hρ; clear hSw; go_simp; try with_reducible rfl) ?_; (try simp only [Act.put, List.setIfInBounds_toArray, List.set_cons_succ, List.set_cons_zero])
        refine pureW_nil ?_
        refine wpAnyG_done (by as_aux_lemma => kernel_rfl) ?_ _
        rw [HQ.out]
        refine hM _ _ (Met.intro (hJ _ _ ?_))
        repeat apply Exists.intro
        refine ⟨⟨rfl, rfl, hb2⟩, rfl⟩
      · rw [if_pos (by rfl)]
        go_simp
        have sw1 := HB.out _ _ sw0 ((Below.refl _ _).alloc (Nat.le_refl _) (.cells #[.int .u16 x, .int .u32 y] 47))
        have yp := litP1 (g := w1.heap.size + 1) (w := (w1.drew.alloc (.cells #[] 47))) (by simp) HPB.out
        replace mo := mo.alloc (.cells #[.int .u16 x, .int .u32 y] 47)
        replace hl := hl.alloc (.cells #[.int .u16 x, .int .u32 y] 47)
        replace bw := bw.alloc (.cells #[.int .u16 x, .int .u32 y] 47)
        (try go_simp)
        refine hK.out _ _ (fun _ => sw1) ?_
        clear hK K sw0
        (try simp only [Act.put, List.setIfInBounds_toArray, List.set_cons_succ, List.set_cons_zero])
        have sw0 := sw1
        clear sw1
        refine wpAnyG_one 2 (by as_aux_lemma => kernel_rfl) (by (conv => lhs; whnf; arg 1; whnf)) (fun K hK => ?_)
        refine step_appP _ (by rfl) (.tmp 24) (.tmp 25) (by rfl) w1.heap.size _ _ _ _ (by rfl) mo _ _ _ _ (by rfl) hl (by omega) bw.out.size ?_
        intro A5 c5 w5 m5 hb hgr
        simp only [Nat.zero_add]
        rw [Nat.zero_add, List.nil_append] at m5
        have hb1 : Below w1.heap.size w1 w5 := bw.out.trans hb
        replace bw : Bel w1 w5 := ⟨hb1⟩
        have sw1 : SW w5 := HW.out _ hb1
        replace yp := yp.grown hgr (fun b2 o2 e2 => by simp at e2; simp [Value.ownBlock, ← e2.1])
        clear mo hl hb hb1 hgr
        (try simp only [Act.put, List.setIfInBounds_toArray, List.set_cons_succ, List.set_cons_zero])
        refine hK.out _ _ (fun _ => sw1) ?_
        clear hK K sw0
        have sw0 := sw1
        clear sw1
        refine wpAnyG_one 5 (by as_aux_lemma => kernel_rfl) (by (conv => lhs; whnf; arg 1; whnf)) (fun K hK => ?_)
        refine step_appP _ (by rfl) (.tmp 26) (.tmp 28) (by rfl) w1.heap.size _ _ _ _ (by rfl) m5 _ _ _ _ (by rfl) yp (by omega) bw.out.size ?_
        intro A6 c6 w6 m6 hb _
        have hb1 : Below w1.heap.size w1 w6 := bw.out.trans hb
        have sw1 : SW w6 := HW.out _ hb1
        clear m5 yp hb bw
        (try simp only [Act.put, List.setIfInBounds_toArray, List.set_cons_succ, List.set_cons_zero])
        refine hK.out _ _ (fun _ => sw1) ?_
        clear hK K sw0
        have sw0 := sw1
        clear sw1
        refine wpAnyG_one 7 (by as_aux_lemma => kernel_rfl) (by (conv => lhs; whnf; arg 1; whnf)) (fun K hK => ?_)
        rw [if_pos (by rfl)]
        go_simp
        refine (L2.out _ _ _ m6.prs).mono ?_
        rintro e w7 ⟨rfl, hb⟩
        have hb2 := hb1.trans (hb.mono hb1.size)
        have sw1 : SW w7 := HW.out _ hb2
        (try go_simp)
        refine hK.out _ _ (fun _ => sw1) ?_
        clear hK K sw0
        refine wpAnyG_takesF [8, 9, 10, 11, 12] 0 (by as_aux_lemma => kernel_rfl) (by as_aux_lemma => kernel_rfl) hp sw1 ?_
        refine pureW_e1 31 (by (conv => lhs; whnf; arg 1; whnf)) (by rfl) (by (conv => lhs; whnf)) (fun ρ hρ h1 w1 hSw => by have hc := hρ.const; clear hρ; clear hSw; go_simp; try with_reducible rfl) ?_; (try simp only [Act.put, List.setIfInBounds_toArray, List.set_cons_succ, List.set_cons_zero])
        refine pureW_e1 23 (by (conv => lhs; whnf; arg 1; whnf)) (by rfl) (by (conv => lhs; whnf)) (fun ρ hρ h1 w1 hSw => by have hc := hρ.const; clear hρ; clear hSw; go_simp; try with_reducible rfl) ?_; (try simp only [Act.put, List.setIfInBounds_toArray, List.set_cons_succ, List.set_cons_zero])
        refine pureW_e1 23 (by (conv => lhs; whnf; arg 1; whnf)) (by rfl) (by (conv => lhs; whnf)) (fun ρ hρ h1 w1 hSw => by have hc := hρ.const; clear hρ; clear hSw; go_simp; try with_reducible rfl) ?_; (try simp only [Act.put, List.setIfInBounds_toArray, List.set_cons_succ, List.set_cons_zero])
        refine pureW_e1 32 (by (conv => lhs; whnf; arg 1; whnf)) (by rfl) (by (conv => lhs; whnf)) (fun ρ hρ h1 w1 hSw => by have hc := hρ.const; clear hρ; clear hSw; go_simp; try with_reducible rfl) ?_; (try simp only [Act.put, List.setIfInBounds_toArray, List.set_cons_succ, List.set_cons_zero])
        refine pureW_e1 33 (by (conv => lhs; whnf; arg 1; whnf)) (by rfl) (by (conv => lhs; whnf)) (fun ρ hρ h1 w1 hSw => by have hc := hρ.const; clear hρ; clear hSw; go_simp; try with_reducible rfl) ?_; (try simp only [Act.put, List.setIfInBounds_toArray, List.set_cons_succ, List.set_cons_zero])
        refine pureW_nil ?_
        refine wpAnyG_done (by as_aux_lemma => kernel_rfl) ?_ _
        rw [HQ.out]
        refine hM _ _ (Met.intro (hJ _ _ ?_))
        repeat apply Exists.intro
        refine ⟨⟨rfl, rfl, hb2⟩, rfl⟩
    · rw [if_pos (by rfl)]
      go_simp
      have sw1 := HB.out _ _ sw0 ((Below.refl _ _).alloc (Nat.le_refl _) (.cells #[.int .u16 x, .int .u32 y] 47))
      have yp := litP1 (g := w1.heap.size) (w := w1.drew) (by simp) HPB.out
      replace hl := hl.alloc (.cells #[.int .u16 x, .int .u32 y] 47)
      replace bw := bw.alloc (.cells #[.int .u16 x, .int .u32 y] 47)
      (try go_simp)
      refine hK.out _ _ (fun _ => sw1) ?_
      clear hK K sw0
      (try simp only [Act.put, List.setIfInBounds_toArray, List.set_cons_succ, List.set_cons_zero])
      have sw0 := sw1
      clear sw1
      refine wpAnyG_one 0 (by as_aux_lemma => kernel_rfl) (by (conv => lhs; whnf; arg 1; whnf)) (fun K hK => ?_)
      rw [if_pos (by rfl)]
      go_simp
      have sw1 := HB.out _ _ sw0 ((Below.refl _ _).alloc (Nat.le_refl _) (.cells #[] 47))
      have mo : MineP w1.heap.size ((w1.drew.alloc (.cells #[.int .u16 x, .int .u32 y] 47)).alloc (.cells #[] 47)) (some ⟨w1.heap.size + 1, 0, none⟩) 0 0 [] := by have q := (MineP.lit0 ((w1.drew.alloc (.cells #[.int .u16 x, .int .u32 y] 47)))).base_le bw.out.size; simpa using q
      replace yp := yp.alloc (.cells #[] 47)
      replace hl := hl.alloc (.cells #[] 47)
      replace bw := bw.alloc (.cells #[] 47)
      (try go_simp)
      refine hK.out _ _ (fun _ => sw1) ?_
      clear hK K sw0
      (try simp only [Act.put, List.setIfInBounds_toArray, List.set_cons_succ, List.set_cons_zero])
      have sw0 := sw1
      clear sw1
      refine wpAnyG_one 2 (by as_aux_lemma => kernel_rfl) (by (conv => lhs; whnf; arg 1; whnf)) (fun K hK => ?_)
      refine step_appP _ (by rfl) (.tmp 24) (.tmp 25) (by rfl) w1.heap.size _ _ _ _ (by rfl) mo _ _ _ _ (by rfl) hl (by omega) bw.out.size ?_
      intro A5 c5 w5 m5 hb hgr
      simp only [Nat.zero_add]
      rw [Nat.zero_add, List.nil_append] at m5
      have hb1 : Below w1.heap.size w1 w5 := bw.out.trans hb
      replace bw : Bel w1 w5 := ⟨hb1⟩
      have sw1 : SW w5 := HW.out _ hb1
      replace yp := yp.grown hgr (fun b2 o2 e2 => by simp at e2; simp [Value.ownBlock, ← e2.1])
      clear mo hl hb hb1 hgr
      (try simp only [Act.put, List.setIfInBounds_toArray, List.set_cons_succ, List.set_cons_zero])
      refine hK.out _ _ (fun _ => sw1) ?_
      clear hK K sw0
      have sw0 := sw1
      clear sw1
      refine wpAnyG_one 5 (by as_aux_lemma => kernel_rfl) (by (conv => lhs; whnf; arg 1; whnf)) (fun K hK => ?_)
      refine step_appP _ (by rfl) (.tmp 26) (.tmp 28) (by rfl) w1.heap.size _ _ _ _ (by rfl) m5 _ _ _ _ (by rfl) yp (by omega) bw.out.size ?_
      intro A6 c6 w6 m6 hb _
      have hb1 : Below w1.heap.size w1 w6 := bw.out.trans hb
      have sw1 : SW w6 := HW.out _ hb1
      clear m5 yp hb bw
      (try simp only [Act.put, List.setIfInBounds_toArray, List.set_cons_succ, List.set_cons_zero])
      refine hK.out _ _ (fun _ => sw1) ?_
      clear hK K sw0
      have sw0 := sw1
      clear sw1
      refine wpAnyG_one 7 (by as_aux_lemma => kernel_rfl) (by (conv => lhs; whnf; arg 1; whnf)) (fun K hK => ?_)
      rw [if_pos (by rfl)]
      go_simp
      refine (L2.out _ _ _ m6.prs).mono ?_
      rintro e w7 ⟨rfl, hb⟩
      have hb2 := hb1.trans (hb.mono hb1.size)
      have sw1 : SW w7 := HW.out _ hb2
      (try go_simp)
      refine hK.out _ _ (fun _ => sw1) ?_
      clear hK K sw0
      refine wpAnyG_takesF [8, 9, 10, 11, 12] 0 (by as_aux_lemma => kernel_rfl) (by as_aux_lemma => kernel_rfl) hp sw1 ?_
      refine pureW_e1 31 (by (conv => lhs; whnf; arg 1; whnf)) (by rfl) (by (conv => lhs; whnf)) (fun ρ hρ h1 w1 hSw => by have hc := hρ.const; clear hρ; clear hSw; go_simp; try with_reducible rfl) ?_; (try simp only [Act.put, List.setIfInBounds_toArray, List.set_cons_succ, List.set_cons_zero])
      refine pureW_e1 23 (by (conv => lhs; whnf; arg 1; whnf)) (by rfl) (by (conv => lhs; whnf)) (fun ρ hρ h1 w1 hSw => by have hc := hρ.const; clear hρ; clear hSw; go_simp; try with_reducible rfl) ?_; (try simp only [Act.put, List.setIfInBounds_toArray, List.set_cons_succ, List.set_cons_zero])
      refine pureW_e1 23 (by (conv => lhs; whnf; arg 1; whnf)) (by rfl) (by (conv => lhs; whnf)) (fun ρ hρ h1 w1 hSw => by have hc := hρ.const; clear hρ; clear hSw; go_simp; try with_reducible rfl) ?_; (try simp only [Act.put, List.setIfInBounds_toArray, List.set_cons_succ, List.set_cons_zero])
      refine pureW_e1 32 (by (conv => lhs; whnf; arg 1; whnf)) (by rfl) (by (conv => lhs; whnf)) (fun ρ hρ h1 w1 hSw => by have hc := hρ.const; clear hρ; clear hSw; go_simp; try with_reducible rfl) ?_; (try simp only [Act.put, List.setIfInBounds_toArray, List.set_cons_succ, List.set_cons_zero])
      refine pureW_e1 33 (by (conv => lhs; whnf; arg 1; whnf)) (by rfl) (by (conv => lhs; whnf)) (fun ρ hρ h1 w1 hSw => by have hc := hρ.const; clear hρ; clear hSw; go_simp; try with_reducible rfl) ?_; (try simp only [Act.put, List.setIfInBounds_toArray, List.set_cons_succ, List.set_cons_zero])
      refine pureW_nil ?_
      refine wpAnyG_done (by as_aux_lemma => kernel_rfl) ?_ _
      rw [HQ.out]
      refine hM _ _ (Met.intro (hJ _ _ ?_))
      repeat apply Exists.intro
      refine ⟨⟨rfl, rfl, hb2⟩, rfl⟩
  case rest =>
    obtain ⟨rfl, rfl, hb⟩ := hcut
    replace b0 := b0.below hb; replace hl := hl.below hb; replace q0 := q0.below hb
    clear hb z0 z1
    have z0 := q0.at 0 rfl
    have z1 := q0.at 1 rfl
    have hll := hl.len
    obtain ⟨sa, _⟩ := someF_all hll hV
    have SF := Lib.hid (fun k (hk : k < m) => someF_succ l id (k := k) (by omega))
    have HLL := Lib.hid hll
    have SA := Lib.hid sa
    clear hV hV1 L1 L2 hll sa
    go_wp2
    go_loopw [11, 12] (fun s i wr => ∃ k : Nat, k ≤ m ∧ i = .int .i64 k ∧ s = .bool (someF l id k) ∧ Below wc.heap.size wc wr) (fun _ i _ => m - (intOf i).toNat)
    case atStart => exact ⟨0, Nat.zero_le _, rfl, rfl, Below.refl _ _⟩
    case round =>
      obtain ⟨k, hk, rfl, rfl, hbk⟩ := hrel
      by_cases hlt : k < m
      · have hsf := Lib.hid (SF.out k hlt)
        obtain ⟨b, o, rfl, hbl, hc⟩ := (hl.below hbk).cell (by omega)
        obtain ⟨p1, p2⟩ := hc k hlt
        have HBK := Lib.hid hbk
        clear hc hbk
        have i0 : (0 : Int) ≤ (k : Int) := by omega
        have i1 : (k : Int) < (m : Int) := by omega
        generalize pid l k = px at *
        generalize pva l k = py at *
        generalize hs0 : someF l id k = s0 at *
        by_cases he : px = id
        · have e1 : (px == id) = true := beq_iff_eq.2 he
          have hq : someF l id (k + 1) = true := by rw [hsf.out, decide_eq_true he, Bool.or_true]
          have HQ := Lib.hid hq
          clear he hq hsf hs0
          cases s0
          · go_wp2
            exact ⟨⟨k + 1, by omega, by simp, by rw [HQ.out], HBK.out⟩, by simp [intOf]; omega⟩
          · go_wp2
            exact ⟨⟨k + 1, by omega, by simp, by rw [HQ.out], HBK.out⟩, by simp [intOf]; omega⟩
        · have e1 : (px == id) = false := beq_eq_false_iff_ne.2 he
          have hq : someF l id (k + 1) = s0 := by rw [hsf.out, decide_eq_false he, Bool.or_false]
          have HQ := Lib.hid hq
          clear he hq hsf hs0
          cases s0
          · go_wp2
            exact ⟨⟨k + 1, by omega, by simp, by rw [HQ.out], HBK.out⟩, by simp [intOf]; omega⟩
          · go_wp2
            exact ⟨⟨k + 1, by omega, by simp, by rw [HQ.out], HBK.out⟩, by simp [intOf]; omega⟩
      · have ek : k = m := by omega
        have i1 : decide (k < m) = false := decide_eq_false (by omega)
        have sk : someF l id k = false := by rw [ek]; exact SA.out
        clear ek hlt
        generalize someF l id k = s0 at *
        replace b0 := b0.below hbk
        subst sk
        go_wp2_with (first | (go_at_call 7; refine (fWakes _).mono ?_; rintro e w9 ⟨rfl, hb⟩; replace b0 := b0.below hb))
        go_ret
        exact ⟨rfl, b0.out⟩

theorem wLast {W : World} (B : Option Addr) (m d : Nat) (l : List (Int × Int)) (hl : Prs W B m d l) (x y : Int) (bx : 0 ≤ x ∧ x ≤ 65535) (by_ : 0 ≤ y ∧ y ≤ 4294967295) (id : Int) :
    Calls Try.prog 5 #[.slice B m d, .agg #[.int .u16 x, .int .u32 y], .int .u16 id] W fun e w' => e = .returned (.bool true) ∧ Below W.heap.size W w' := by
  by_cases g : m ≤ 60
  · obtain ⟨v0, c0, hV⟩ : ∃ v b, lastF l id = (v, b) := ⟨_, _, rfl⟩
    have hsn := lastF_snoc l (x, y) id
    rw [hV] at hsn
    by_cases he : x = id
    · rw [if_pos he] at hsn
      exact lastEq B m d l x y id v0 c0 W hl g bx by_ (beq_iff_eq.2 he) hV hsn
    · rw [if_neg he] at hsn
      have hz := (someF_all rfl hV).2
      cases c0
      · obtain rfl := hz rfl
        exact lastNeF B m d l x y id W hl g bx by_ (beq_eq_false_iff_ne.2 he) hV hsn
      · exact lastNeT B m d l x y id v0 W hl g bx by_ (beq_eq_false_iff_ne.2 he) hV hsn
  · have b0 := Bel.refl W
    replace b0 := b0.alloc (.cells #[.int .u16 x, .int .u32 y] 47)
    have y0 : decide ((60 : Int) < m) = true := decide_eq_true (by omega)
    have cpb := hl.cap; have cpm := hl.mx
    go_enter Try.func5, Try.ntmps5
    go_wp2_with (first | (go_at_call 7; refine (fWakes _).mono ?_; rintro e w9 ⟨rfl, hb⟩; replace b0 := b0.below hb))
    go_ret
    exact ⟨rfl, b0.out⟩
theorem openPair {H : Type} {enc : TypeId × Value → H} {W : World} {base : Nat} {v : Value} {d : DataW H} {p : List MemPlace}
    (h : DataW.Trod enc Try.prog W 0 (fun _ => true) true 47 v d p) (ho : Value.okWide Try.prog W .any base 47 v) :
    ∃ (x y : Int), v = .agg #[.int .u16 x, .int .u32 y] ∧ (0 ≤ x ∧ x ≤ 65535) ∧ (0 ≤ y ∧ y ≤ 4294967295) := by
  obtain ⟨c0, c1, y0, y1, n, rfl, _, _, h0, h1⟩ := Go.Joins.open_agg2 Try.underlying47 (by kernel_rfl) (by kernel_rfl) ho h
  obtain ⟨a0, e0, _, w0⟩ := DataW.trod_int Try.underlying26 h0
  obtain ⟨a1, e1, _, w1⟩ := DataW.trod_int Try.underlying39 h1
  simp only [List.cons.injEq, and_true] at e0 e1
  subst e0 e1
  exact ⟨a0, a1, rfl, by simpa [Lit.wf, IntKind.min, IntKind.max, IntKind.signed, IntKind.bits] using w0, by simpa [Lit.wf, IntKind.min, IntKind.max, IntKind.signed, IntKind.bits] using w1⟩
end Go.Proofs.Ytlomaoabofpegaa
