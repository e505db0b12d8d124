/- A chunk is read: the contract of Feed. -/
import Derived.Test.YthcnfalfhdeflaaCb
import Derived.Test.YthcnfalfhdeflaaCg
import Derived.Deep.Cut
import Derived.StillTailTactics
import Derived.Deep.QuietTactic
import Derived.Deep.RegionHeld3
namespace Go.Proofs.Ythcnfalfhdeflaa
open Go.RowKit Go.Shelf
attribute [local go_sem] Oper.semAt_some
set_option linter.unusedVariables false
set_option linter.unusedSimpArgs false

/-- The preface's bytes are taken: how many came, what is left of the chunk, whether it breaks. -/
def preK : Int → List Int → Int × List Int × Bool
  | p, [] => (p, [], false)
  | p, x :: r => if p = 24 then (p, x :: r, false) else if x ≠ preL[p.toNat]?.getD 0 then (p, x :: r, true) else preK (p + 1) r
def FeedP (p : Int) (l : List Int) (ps : List Pc) (fw : Bool) (fc er : Int) (w : World) (e : Ending) (W' : World) : Prop :=
  ∃ A n c B m d es, e = .returned (.tuple #[.agg #[.int .i64 p, .slice A n c], .slice B m d, .agg #[.bool fw, .int .i64 0, .int .u32 fc], .int .i64 er]) ∧ Mine w.heap.size W' A n c l ∧ MineC w.heap.size W' B m d es ∧ es.map (·.p) = ps ∧ Below w.heap.size w W'
def lenOf (v : Value) : Nat := match v with | .slice _ n _ => n | _ => 0
theorem Blk.putAgain {W : World} {b : Nat} {t : TypeId} {v : Value} (q : Blk W b t #[v]) : W.setCell ⟨b, 0, none⟩ v = W := q.again 0 rfl
set_option maxRecDepth 100000 in
set_option maxHeartbeats 2000000 in
theorem feedNo (p : Int) (p0 : -9223372036854775808 ≤ p ∧ p ≤ 9223372036854775807) (A : Option Addr) (n c : Nat) (l : List Int) (B : Option Addr) (m d : Nat) (ch : List Int) (w : World) (h : Byt w A n c l) (hc : Byt w B m d ch) (hn : n ≤ 50000) (hm : m ≤ 50000) (no : ¬RightC p l) : Calls Try.prog 9 #[.agg #[.int .i64 p, .slice A n c], .slice B m d] w (FeedP p l [] false 0 2 w) := by
  have OW := Lib.hid fun W (h : Byt W A n c l) => fROwn p A n c l W h (by omega)
  have RG := Lib.hid fun W (h : Byt W A n c l) => fRRight p A n c l W h (by omega)
  rw [show rightC p l = false from decide_eq_false no] at RG
  have b0 : Bel w ((((w.alloc (.cells #[.int .i64 p, .slice A n c] 24)).alloc (.cells #[.int .i64 0, .slice none 0 0] 24)).alloc (.cells #[.slice none 0 0] 28)).alloc (.cells #[.bool false, .int .i64 0, .int .u32 0] 31)) := (((((Bel.refl w).alloc _).alloc _).alloc _).alloc _)
  have q2 : Blk ((((w.alloc (.cells #[.int .i64 p, .slice A n c] 24)).alloc (.cells #[.int .i64 0, .slice none 0 0] 24)).alloc (.cells #[.slice none 0 0] 28)).alloc (.cells #[.bool false, .int .i64 0, .int .u32 0] 31)) w.heap.size 24 #[.int .i64 p, .slice A n c] := ((Blk.new w 24 #[.int .i64 p, .slice A n c]).alloc _).alloc _ |>.alloc _
  have q4 : Blk ((((w.alloc (.cells #[.int .i64 p, .slice A n c] 24)).alloc (.cells #[.int .i64 0, .slice none 0 0] 24)).alloc (.cells #[.slice none 0 0] 28)).alloc (.cells #[.bool false, .int .i64 0, .int .u32 0] 31)) (w.heap.size + 1) 24 #[.int .i64 0, .slice none 0 0] := ((Blk.newAt (b := w.heap.size + 1) (w.alloc (.cells #[.int .i64 p, .slice A n c] 24)) 24 #[.int .i64 0, .slice none 0 0] (by simp)).alloc _).alloc _
  have q5 : Blk ((((w.alloc (.cells #[.int .i64 p, .slice A n c] 24)).alloc (.cells #[.int .i64 0, .slice none 0 0] 24)).alloc (.cells #[.slice none 0 0] 28)).alloc (.cells #[.bool false, .int .i64 0, .int .u32 0] 31)) (w.heap.size + 1 + 1) 28 #[.slice none 0 0] := (Blk.newAt (b := w.heap.size + 1 + 1) ((w.alloc (.cells #[.int .i64 p, .slice A n c] 24)).alloc (.cells #[.int .i64 0, .slice none 0 0] 24)) 28 #[.slice none 0 0] (by simp)).alloc _
  have q6 : Blk ((((w.alloc (.cells #[.int .i64 p, .slice A n c] 24)).alloc (.cells #[.int .i64 0, .slice none 0 0] 24)).alloc (.cells #[.slice none 0 0] 28)).alloc (.cells #[.bool false, .int .i64 0, .int .u32 0] 31)) (w.heap.size + 1 + 1 + 1) 31 #[.bool false, .int .i64 0, .int .u32 0] := Blk.newAt (b := w.heap.size + 1 + 1 + 1) (((w.alloc (.cells #[.int .i64 p, .slice A n c] 24)).alloc (.cells #[.int .i64 0, .slice none 0 0] 24)).alloc (.cells #[.slice none 0 0] 28)) 31 #[.bool false, .int .i64 0, .int .u32 0] (by simp)
  have HY := Lib.hid h
  have HC := Lib.hid hc
  clear h hc
  go_enter Try.func9, Try.ntmps9
  go_wp2_with fail
  refine wp_scope_hop 1 ?_
  go_upto_region 2 with (first | ((with_reducible refine wpList_id ?_); refine wpList_getB rfl _ _ rfl rfl q2 Try.underlying24 rfl (by rfl) ?_) | (go_at_call 20; (with_reducible refine (OW.out _ (HY.out.below b0.out)).mono ?_); rintro e w1 ⟨A1, c1, rfl, m1, hb⟩; replace m1 := m1.base_le (show w.heap.size ≤ _ from b0.out.size); replace b0 := b0.below hb; (try replace q2 := q2.below hb); (try replace q4 := q4.below hb); (try replace q5 := q5.below hb); (try replace q6 := q6.below hb); clear hb) | ((with_reducible refine wpList_id ?_); refine wpList_putB rfl _ _ _ rfl rfl rfl q4 (by rfl) (by rfl) (by rfl) ?_; intro w9 qn hg; replace b0 := b0.grown hg (by omega); (try replace m1 := m1.grownB q4 (by decide) hg); (try replace q2 := q2.grown hg (by omega)); (try replace q5 := q5.grown hg (by omega)); (try replace q6 := q6.grown hg (by omega)); clear hg q4; have q4 := qn; clear qn))
  go_upto_region 3 with (first | ((with_reducible refine wpList_id ?_); refine wpList_getB rfl _ _ rfl rfl q2 Try.underlying24 rfl (by rfl) ?_) | (go_at_call 19; (with_reducible refine (RG.out _ (HY.out.below b0.out)).mono ?_); rintro e w9 ⟨rfl, hb⟩; replace b0 := b0.below hb; (try replace q2 := q2.below hb); (try replace q4 := q4.below hb); (try replace q5 := q5.below hb); (try replace q6 := q6.below hb); (try replace m1 := m1.below hb)))
  replace b0 := b0.drew; replace q2 := q2.drew; replace q4 := q4.drew; replace q5 := q5.drew; replace q6 := q6.drew; (try replace m1 := m1.drew); (try replace mc := mc.drew)
  refine wp_region_G (fun w' => Blk w' (w.heap.size + 1) 24 #[.int .i64 p, .slice A1 n c1] ∧ Blk w' (w.heap.size + 1 + 1 + 1) 31 #[.bool false, .int .i64 0, .int .u32 0]) [] (by kernel_rfl) ?_
  have S0 := (And.intro q4 q6)
  refine wpAnyG_take 0 (v := .agg #[.int .i64 p, .slice A1 n c1]) rfl (by kernel_rfl) (fun _ _ _ h => h) S0 (Or.inl ⟨by rfl, by intro w' hSw; exact exec_getB (by rfl) (by rfl) hSw.1 Try.underlying24 (by rfl) (by rfl)⟩) ?_; (try simp only [Act.put, List.getElem_toArray, List.getElem_cons_succ, List.getElem_cons_zero, List.setIfInBounds_toArray, List.set_cons_zero, List.set_cons_succ])
  refine wpAnyG_take 1 (v := .agg #[.bool false, .int .i64 0, .int .u32 0]) rfl (by kernel_rfl) (fun _ _ _ h => h) S0 (Or.inl ⟨by rfl, by intro w' hSw; exact exec_getB (by rfl) (by rfl) hSw.2 Try.underlying31 (by rfl) (by rfl)⟩) ?_; (try simp only [Act.put, List.getElem_toArray, List.getElem_cons_succ, List.getElem_cons_zero, List.setIfInBounds_toArray, List.set_cons_zero, List.set_cons_succ])
  clear S0
  refine wpAnyG_one 2 (by kernel_rfl) rfl (fun K hK => ?_)
  rw [if_pos (by rfl)]
  refine wp_putB _ _ _ rfl rfl rfl q4 (by rfl) (by rfl) (by rfl) ?_
  intro w9 qn hg
  replace b0 := b0.grown hg (by omega)
  (try replace m1 := m1.grownB q4 (by decide) hg)
  (try replace q2 := q2.grown hg (by omega))
  (try replace q5 := q5.grown hg (by omega))
  (try replace q6 := q6.grown hg (by omega))
  clear hg q4
  have q4 := qn
  clear qn
  (try go_simp)
  refine hK.out _ _ (fun _ => (And.intro q4 q6)) ?_
  clear hK K
  (try simp only [Act.put, List.getElem_toArray, List.getElem_cons_succ, List.getElem_cons_zero, List.setIfInBounds_toArray, List.set_cons_zero, List.set_cons_succ])
  refine wpAnyG_one 3 (by kernel_rfl) rfl (fun K hK => ?_)
  rw [if_pos (by rfl)]
  have ya := q5.putAgain; have yc := q5.at 0 rfl; have yf := q5.frozen 0
  go_simp
  clear ya yc yf
  (try go_simp)
  refine hK.out _ _ (fun _ => (And.intro q4 q6)) ?_
  clear hK K
  (try simp only [Act.put, List.getElem_toArray, List.getElem_cons_succ, List.getElem_cons_zero, List.setIfInBounds_toArray, List.set_cons_zero, List.set_cons_succ])
  refine wpAnyG_one 4 (by kernel_rfl) rfl (fun K hK => ?_)
  rw [if_pos (by rfl)]
  refine wp_putB _ _ _ rfl rfl rfl q6 (by rfl) (by rfl) (by rfl) ?_
  intro w9 qn hg
  replace b0 := b0.grown hg (by omega)
  (try replace m1 := m1.grownB q6 (by decide) hg)
  (try replace q2 := q2.grown hg (by omega))
  (try replace q4 := q4.grown hg (by omega))
  (try replace q5 := q5.grown hg (by omega))
  clear hg q6
  have q6 := qn
  clear qn
  (try go_simp)
  refine hK.out _ _ (fun _ => (And.intro q4 q6)) ?_
  clear hK K
  (try simp only [Act.put, List.getElem_toArray, List.getElem_cons_succ, List.getElem_cons_zero, List.setIfInBounds_toArray, List.set_cons_zero, List.set_cons_succ])
  have S0 := (And.intro q4 q6)
  refine wpAnyG_take 5 (v := ?_) rfl (by kernel_rfl) (fun _ _ _ h => h) S0 (Or.inl ⟨by rfl, by intro w' hSw; go_simp; try with_reducible rfl⟩) ?_; (try simp only [Act.put, List.getElem_toArray, List.getElem_cons_succ, List.getElem_cons_zero, List.setIfInBounds_toArray, List.set_cons_zero, List.set_cons_succ])
  clear S0
  refine wpAnyG_done (by kernel_rfl) ?_ _
  go_wp2_with fail
  have x0 := q4.at 0 rfl; have x1 := q4.at 1 rfl; have x2 := q5.at 0 rfl; have x3 := q6.at 0 rfl; have x4 := q6.at 1 rfl; have x5 := q6.at 2 rfl
  exact bodyPost_ret (v := .tuple #[.agg #[.int .i64 p, .slice A1 n c1], .slice none 0 0, .agg #[.bool false, .int .i64 0, .int .u32 0], .int .i64 2]) (by simp [results, Try.f9, go_sem, x0, x1, x2, x3, x4, x5]) rfl ⟨A1, n, c1, none, 0, 0, [], rfl, m1, MineC.nil _ _, rfl, b0.out⟩
theorem preL_ix : ∀ k : Nat, k < 24 → ∀ w, (Instr.index 9 (.string { data := #[80, 82, 73, 32, 42, 32, 72, 84, 84, 80, 47, 50, 46, 48, 13, 10, 13, 10, 83, 77, 13, 10, 13, 10] }) (.int .i64 (k : Int))).run Try.prog w = .ok (.int .u8 (preL[k]?.getD 0)) w := by
  intro k hk w
  have : k = 0 ∨ k = 1 ∨ k = 2 ∨ k = 3 ∨ k = 4 ∨ k = 5 ∨ k = 6 ∨ k = 7 ∨ k = 8 ∨ k = 9 ∨ k = 10 ∨ k = 11 ∨ k = 12 ∨ k = 13 ∨ k = 14 ∨ k = 15 ∨ k = 16 ∨ k = 17 ∨ k = 18 ∨ k = 19 ∨ k = 20 ∨ k = 21 ∨ k = 22 ∨ k = 23 := by omega
  rcases this with rfl | rfl | rfl | rfl | rfl | rfl | rfl | rfl | rfl | rfl | rfl | rfl | rfl | rfl | rfl | rfl | rfl | rfl | rfl | rfl | rfl | rfl | rfl | rfl <;> first | rfl | (show _ = _; kernel_rfl)
theorem preK_done {p : Int} {l : List Int} (h : l = [] ∨ p = 24) : preK p l = (p, l, false) := by
  rcases h with rfl | rfl
  · simp [preK]
  · cases l <;> simp [preK]
theorem preK_bad {p x : Int} {r : List Int} (h : p ≠ 24) (hx : x ≠ preL[p.toNat]?.getD 0) : preK p (x :: r) = (p, x :: r, true) := by simp [preK, h, hx]
theorem preK_good {p x : Int} {r : List Int} (h : p ≠ 24) (hx : x = preL[p.toNat]?.getD 0) : preK p (x :: r) = preK (p + 1) r := by simp [preK, h, hx]
set_option maxRecDepth 100000 in
set_option maxHeartbeats 4000000 in
theorem feedBreak (p : Int) (p0 : -9223372036854775808 ≤ p ∧ p ≤ 9223372036854775807) (A : Option Addr) (n c : Nat) (l : List Int) (B : Option Addr) (m d : Nat) (ch : List Int) (w : World) (h : Byt w A n c l) (hc : Byt w B m d ch) (hn : n ≤ 50000) (hm : m ≤ 50000) (yes : RightC p l) (p1 : Int) (r1 : List Int) (hpk : preK p ch = (p1, r1, true)) : Calls Try.prog 9 #[.agg #[.int .i64 p, .slice A n c], .slice B m d] w (FeedP p1 l [] true 1 0 w) := by
  have OW := Lib.hid fun W (h : Byt W A n c l) => fROwn p A n c l W h (by omega)
  have RG := Lib.hid fun W (h : Byt W A n c l) => fRRight p A n c l W h (by omega)
  rw [show rightC p l = true from decide_eq_true yes] at RG
  have hp := yes.1
  have b0 : Bel w ((((w.alloc (.cells #[.int .i64 p, .slice A n c] 24)).alloc (.cells #[.int .i64 0, .slice none 0 0] 24)).alloc (.cells #[.slice none 0 0] 28)).alloc (.cells #[.bool false, .int .i64 0, .int .u32 0] 31)) := (((((Bel.refl w).alloc _).alloc _).alloc _).alloc _)
  have q2 : Blk ((((w.alloc (.cells #[.int .i64 p, .slice A n c] 24)).alloc (.cells #[.int .i64 0, .slice none 0 0] 24)).alloc (.cells #[.slice none 0 0] 28)).alloc (.cells #[.bool false, .int .i64 0, .int .u32 0] 31)) w.heap.size 24 #[.int .i64 p, .slice A n c] := ((Blk.new w 24 #[.int .i64 p, .slice A n c]).alloc _).alloc _ |>.alloc _
  have q4 : Blk ((((w.alloc (.cells #[.int .i64 p, .slice A n c] 24)).alloc (.cells #[.int .i64 0, .slice none 0 0] 24)).alloc (.cells #[.slice none 0 0] 28)).alloc (.cells #[.bool false, .int .i64 0, .int .u32 0] 31)) (w.heap.size + 1) 24 #[.int .i64 0, .slice none 0 0] := ((Blk.newAt (b := w.heap.size + 1) (w.alloc (.cells #[.int .i64 p, .slice A n c] 24)) 24 #[.int .i64 0, .slice none 0 0] (by simp)).alloc _).alloc _
  have q5 : Blk ((((w.alloc (.cells #[.int .i64 p, .slice A n c] 24)).alloc (.cells #[.int .i64 0, .slice none 0 0] 24)).alloc (.cells #[.slice none 0 0] 28)).alloc (.cells #[.bool false, .int .i64 0, .int .u32 0] 31)) (w.heap.size + 1 + 1) 28 #[.slice none 0 0] := (Blk.newAt (b := w.heap.size + 1 + 1) ((w.alloc (.cells #[.int .i64 p, .slice A n c] 24)).alloc (.cells #[.int .i64 0, .slice none 0 0] 24)) 28 #[.slice none 0 0] (by simp)).alloc _
  have q6 : Blk ((((w.alloc (.cells #[.int .i64 p, .slice A n c] 24)).alloc (.cells #[.int .i64 0, .slice none 0 0] 24)).alloc (.cells #[.slice none 0 0] 28)).alloc (.cells #[.bool false, .int .i64 0, .int .u32 0] 31)) (w.heap.size + 1 + 1 + 1) 31 #[.bool false, .int .i64 0, .int .u32 0] := Blk.newAt (b := w.heap.size + 1 + 1 + 1) (((w.alloc (.cells #[.int .i64 p, .slice A n c] 24)).alloc (.cells #[.int .i64 0, .slice none 0 0] 24)).alloc (.cells #[.slice none 0 0] 28)) 31 #[.bool false, .int .i64 0, .int .u32 0] (by simp)
  have HY := Lib.hid h
  have HC := Lib.hid hc
  have HPK := Lib.hid hpk
  clear h yes hpk
  clear hc
  go_enter Try.func9, Try.ntmps9
  go_wp2_with fail
  refine wp_scope_hop 1 ?_
  go_upto_region 2 with (first | ((with_reducible refine wpList_id ?_); refine wpList_getB rfl _ _ rfl rfl q2 Try.underlying24 rfl (by rfl) ?_) | (go_at_call 20; (with_reducible refine (OW.out _ (HY.out.below b0.out)).mono ?_); rintro e w1 ⟨A1, c1, rfl, m1, hb⟩; replace m1 := m1.base_le (show w.heap.size ≤ _ from b0.out.size); replace b0 := b0.below hb; (try replace q2 := q2.below hb); (try replace q4 := q4.below hb); (try replace q5 := q5.below hb); (try replace q6 := q6.below hb); clear hb) | ((with_reducible refine wpList_id ?_); refine wpList_putB rfl _ _ _ rfl rfl rfl q4 (by rfl) (by rfl) (by rfl) ?_; intro w9 qn hg; replace b0 := b0.grown hg (by omega); (try replace m1 := m1.grownB q4 (by decide) hg); (try replace q2 := q2.grown hg (by omega)); (try replace q5 := q5.grown hg (by omega)); (try replace q6 := q6.grown hg (by omega)); clear hg q4; have q4 := qn; clear qn))
  go_upto_region 3 with (first | ((with_reducible refine wpList_id ?_); refine wpList_getB rfl _ _ rfl rfl q2 Try.underlying24 rfl (by rfl) ?_) | (go_at_call 19; (with_reducible refine (RG.out _ (HY.out.below b0.out)).mono ?_); rintro e w9 ⟨rfl, hb⟩; replace b0 := b0.below hb; (try replace q2 := q2.below hb); (try replace q4 := q4.below hb); (try replace q5 := q5.below hb); (try replace q6 := q6.below hb); (try replace m1 := m1.below hb)))
  go_loopw [1] (fun v wr => ∃ (q : Int) (cl : List Int) (B1 : Option Addr) (k d1 : Nat) (fw : Bool) (fc : Int), v = .slice B1 k d1 ∧ preK q cl = preK p ch ∧ (0 ≤ q ∧ q ≤ 24) ∧ k ≤ m ∧ Byt w B1 k d1 cl ∧ Bel w wr ∧ Blk wr w.heap.size 24 #[.int .i64 p, .slice A n c] ∧ Blk wr (w.heap.size + 1) 24 #[.int .i64 q, .slice A1 n c1] ∧ Blk wr (w.heap.size + 1 + 1) 28 #[.slice none 0 0] ∧ Blk wr (w.heap.size + 1 + 1 + 1) 31 #[.bool fw, .int .i64 0, .int .u32 fc] ∧ Mine w.heap.size wr A1 n c1 l) (fun v _ => lenOf v)
  case atStart => exact ⟨p, ch, B, m, d, false, 0, rfl, rfl, hp, Nat.le_refl _, HC.out, b0, q2, q4, q5, q6, m1⟩
  case round =>
    clear b0 q2 q4 q5 q6 m1
    obtain ⟨q, cl, B1, k, d1, fw, fc, rfl, hpk, hq, hkm, hy, b0, q2, q4, q5, q6, m1⟩ := hrel
    have hkl := hy.len
    have hkc := hy.cap; have hkx := hy.mx
    have HY1 := Lib.hid hy
    have HQK := Lib.hid hpk
    clear hy hpk
    have q4_0 := q4.at 0 rfl
    by_cases hk0 : k = 0
    · as_aux_lemma =>
        have hdn := preK_done (p := q) (l := cl) (.inl (List.eq_nil_of_length_eq_zero (by omega)))
        rw [HQK.out, HPK.out] at hdn
        simp at hdn
    by_cases hq24 : q = 24
    · as_aux_lemma =>
        have hdn := preK_done (p := q) (l := cl) (.inr hq24)
        rw [HQK.out, HPK.out] at hdn
        simp at hdn
    have cb0 : decide (0 < k) = true := decide_eq_true (by omega)
    have cb1 : (q == 24) = false := beq_eq_false_iff_ne.2 hq24
    obtain ⟨x, r, rfl⟩ : ∃ x r, cl = x :: r := by
      cases cl with
      | nil => simp at hkl; omega
      | cons x r => exact ⟨x, r, rfl⟩
    obtain ⟨bb, oo, rfl, hbb, hcell⟩ := HY1.out.cell (by omega)
    have hc0 := hcell 0 (by omega)
    rw [show (x :: r)[0]?.getD 0 = x from rfl] at hc0
    clear hcell
    obtain ⟨qn, rfl⟩ : ∃ qn : Nat, q = qn := ⟨q.toNat, by omega⟩
    have hix := preL_ix qn (by omega)
    generalize hyv : preL[qn]?.getD 0 = yv at hix
    have HYV := Lib.hid hyv
    clear hyv
    go_upto_region 5 with (first | ((with_reducible refine wpList_id ?_); refine wpList_getG (by rfl) _ _ rfl rfl q4 Try.underlying24 rfl (by rfl) ?_) | (go_at_call 18; (with_reducible refine (fBegun _ _ _ _ _).mono ?_); rintro e w9 ⟨rfl, hb⟩; replace b0 := b0.below hb; (try replace q2 := q2.below hb); (try replace q4 := q4.below hb); (try replace q5 := q5.below hb); (try replace q6 := q6.below hb); (try replace m1 := m1.below hb); (try clear q4_0); (try have q4_0 := q4.at 0 rfl)))
    go_upto_region 6 with (first | (go_at_call 21; (with_reducible refine (fBroken 1 _).mono ?_); rintro e w9 ⟨rfl, hb⟩; replace b0 := b0.below hb; (try replace q2 := q2.below hb); (try replace q4 := q4.below hb); (try replace q5 := q5.below hb); (try replace q6 := q6.below hb); (try replace m1 := m1.below hb); (try clear q4_0); (try have q4_0 := q4.at 0 rfl)) | ((with_reducible refine wpList_id ?_); refine wpList_putB rfl _ _ _ rfl rfl rfl q6 (by rfl) (by rfl) (by rfl) ?_; intro w9 qn hg; replace b0 := b0.grown hg (by omega); (try replace m1 := m1.grownB q6 (by decide) hg); (try replace q2 := q2.grown hg (by omega)); (try replace q4 := q4.grown hg (by omega)); (try replace q5 := q5.grown hg (by omega)); clear hg q6; have q6 := qn; clear qn; (try clear q4_0); (try have q4_0 := q4.at 0 rfl)))
    have hc1 := (b0.out.cell (p := ⟨bb, oo + 0, none⟩) hbb).trans hc0
    clear hc0
    rw [Nat.add_zero] at hc1
    have k0 : 0 < k := by omega
    have hq1 : (0 : Int) ≤ qn := by omega
    by_cases hxy : x = yv
    · as_aux_lemma =>
        have e1 : (x != yv) = false := bne_eq_false_iff_eq.2 hxy
        have hgd := preK_good (r := r) hq24 (show x = preL[(qn : Int).toNat]?.getD 0 by rw [Int.toNat_natCast, HYV.out]; exact hxy)
        have HGD := Lib.hid hgd
        have hwr : IntKind.i64.wrap ((qn : Int) + 1) = qn + 1 := by rw [IntKind.wrap_i64]; omega
        have hcl : ∀ w, (Instr.slice 22 (.slice (some ⟨bb, oo, none⟩) k d1) (some (.int .i64 1)) none none).run Try.prog w = .ok (.slice (cutA (some ⟨bb, oo, none⟩) d1 1) (k - 1) (d1 - 1)) w := fun w => by
          have h1 := run_cut_l w (some ⟨bb, oo, none⟩) k d1 1 (by omega) (by omega)
          exact h1
        clear hxy hgd
        replace hc1 : w9.drew.cell? ⟨bb, oo, none⟩ = some (.int .u8 x) := hc1
        replace b0 := b0.drew; replace q2 := q2.drew; replace q4 := q4.drew; replace q5 := q5.drew; replace q6 := q6.drew; (try replace m1 := m1.drew); (try replace mc := mc.drew)
        refine wp_region_G (fun w' => Blk w' (w.heap.size + 1) 24 #[.int .i64 qn, .slice A1 n c1] ∧ w'.cell? ⟨bb, oo, none⟩ = some (.int .u8 x)) [] (by kernel_rfl) ?_
        have S0 := (And.intro q4 hc1)
        refine wpAnyG_take 0 (v := ?_) rfl (by kernel_rfl) (fun _ _ _ h => h) S0 (Or.inl ⟨by rfl, by intro w' hSw; have z0 := hSw.1.at 0 rfl; have z1 := hSw.2; go_simp; try with_reducible rfl⟩) ?_; (try simp only [Act.put, List.getElem_toArray, List.getElem_cons_succ, List.getElem_cons_zero, List.setIfInBounds_toArray, List.set_cons_zero, List.set_cons_succ])
        refine wpAnyG_take 1 (v := ?_) rfl (by kernel_rfl) (fun _ _ _ h => h) S0 (Or.inl ⟨by rfl, by intro w' hSw; have z0 := hSw.1.at 0 rfl; have z1 := hSw.2; go_simp; try with_reducible rfl⟩) ?_; (try simp only [Act.put, List.getElem_toArray, List.getElem_cons_succ, List.getElem_cons_zero, List.setIfInBounds_toArray, List.set_cons_zero, List.set_cons_succ])
        refine wpAnyG_take 2 (v := ?_) rfl (by kernel_rfl) (fun _ _ _ h => h) S0 (Or.inl ⟨by rfl, by intro w' hSw; have z0 := hSw.1.at 0 rfl; have z1 := hSw.2; go_simp; try with_reducible rfl⟩) ?_; (try simp only [Act.put, List.getElem_toArray, List.getElem_cons_succ, List.getElem_cons_zero, List.setIfInBounds_toArray, List.set_cons_zero, List.set_cons_succ])
        refine wpAnyG_take 3 (v := ?_) rfl (by kernel_rfl) (fun _ _ _ h => h) S0 (Or.inl ⟨by rfl, by intro w' hSw; have z0 := hSw.1.at 0 rfl; have z1 := hSw.2; go_simp; try with_reducible rfl⟩) ?_; (try simp only [Act.put, List.getElem_toArray, List.getElem_cons_succ, List.getElem_cons_zero, List.setIfInBounds_toArray, List.set_cons_zero, List.set_cons_succ])
        refine wpAnyG_take 4 (v := ?_) rfl (by kernel_rfl) (fun _ _ _ h => h) S0 (Or.inl ⟨by rfl, by intro w' hSw; have z0 := hSw.1.at 0 rfl; have z1 := hSw.2; go_simp; try with_reducible rfl⟩) ?_; (try simp only [Act.put, List.getElem_toArray, List.getElem_cons_succ, List.getElem_cons_zero, List.setIfInBounds_toArray, List.set_cons_zero, List.set_cons_succ])
        refine wpAnyG_take 5 (v := ?_) rfl (by kernel_rfl) (fun _ _ _ h => h) S0 (Or.inl ⟨by rfl, by intro w' hSw; have z0 := hSw.1.at 0 rfl; have z1 := hSw.2; go_simp; try with_reducible rfl⟩) ?_; (try simp only [Act.put, List.getElem_toArray, List.getElem_cons_succ, List.getElem_cons_zero, List.setIfInBounds_toArray, List.set_cons_zero, List.set_cons_succ])
        refine wpAnyG_take 6 (v := ?_) rfl (by kernel_rfl) (fun _ _ _ h => h) S0 (Or.inl ⟨by rfl, by intro w' hSw; have z0 := hSw.1.at 0 rfl; have z1 := hSw.2; go_simp; try with_reducible rfl⟩) ?_; (try simp only [Act.put, List.getElem_toArray, List.getElem_cons_succ, List.getElem_cons_zero, List.setIfInBounds_toArray, List.set_cons_zero, List.set_cons_succ])
        clear S0
        refine wpAnyG_done (by kernel_rfl) ?_ _
        go_upto_region 7 with fail
        (try clear q4_0 hc1)
        replace b0 := b0.drew; replace q2 := q2.drew; replace q4 := q4.drew; replace q5 := q5.drew; replace q6 := q6.drew; replace m1 := m1.drew
        refine wp_region_G (fun w' => Blk w' (w.heap.size + 1) 24 #[.int .i64 qn, .slice A1 n c1]) [7] (by kernel_rfl) ?_
        refine wpAnyG_take 0 (v := ?_) rfl (by kernel_rfl) (fun _ _ _ h => h) q4 (Or.inl ⟨by rfl, by intro w' hSw; have z0 := hSw.at 0 rfl; go_simp; try with_reducible rfl⟩) ?_; (try simp only [Act.put, List.getElem_toArray, List.getElem_cons_succ, List.getElem_cons_zero, List.setIfInBounds_toArray, List.set_cons_zero, List.set_cons_succ])
        refine wpAnyG_take 1 (v := ?_) rfl (by kernel_rfl) (fun _ _ _ h => h) q4 (Or.inl ⟨by rfl, by intro w' hSw; have z0 := hSw.at 0 rfl; go_simp; try with_reducible rfl⟩) ?_; (try simp only [Act.put, List.getElem_toArray, List.getElem_cons_succ, List.getElem_cons_zero, List.setIfInBounds_toArray, List.set_cons_zero, List.set_cons_succ])
        refine wpAnyG_take 2 (v := ?_) rfl (by kernel_rfl) (fun _ _ _ h => h) q4 (Or.inl ⟨by rfl, by intro w' hSw; have z0 := hSw.at 0 rfl; go_simp; try with_reducible rfl⟩) ?_; (try simp only [Act.put, List.getElem_toArray, List.getElem_cons_succ, List.getElem_cons_zero, List.setIfInBounds_toArray, List.set_cons_zero, List.set_cons_succ])
        refine wpAnyG_take 3 (v := ?_) rfl (by kernel_rfl) (fun _ _ _ h => h) q4 (Or.inl ⟨by rfl, by intro w' hSw; have z0 := hSw.at 0 rfl; go_simp; try with_reducible rfl⟩) ?_; (try simp only [Act.put, List.getElem_toArray, List.getElem_cons_succ, List.getElem_cons_zero, List.setIfInBounds_toArray, List.set_cons_zero, List.set_cons_succ])
        refine wpAnyG_take 4 (v := ?_) rfl (by kernel_rfl) (fun _ _ _ h => h) q4 (Or.inl ⟨by rfl, by intro w' hSw; have z0 := hSw.at 0 rfl; go_simp; try with_reducible rfl⟩) ?_; (try simp only [Act.put, List.getElem_toArray, List.getElem_cons_succ, List.getElem_cons_zero, List.setIfInBounds_toArray, List.set_cons_zero, List.set_cons_succ])
        refine wpAnyG_take 5 (v := ?_) rfl (by kernel_rfl) (fun _ _ _ h => h) q4 (Or.inl ⟨by rfl, by intro w' hSw; have z0 := hSw.at 0 rfl; go_simp; try with_reducible rfl⟩) ?_; (try simp only [Act.put, List.getElem_toArray, List.getElem_cons_succ, List.getElem_cons_zero, List.setIfInBounds_toArray, List.set_cons_zero, List.set_cons_succ])
        refine wpAnyG_take 6 (v := ?_) rfl (by kernel_rfl) (fun _ _ _ h => h) q4 (Or.inl ⟨by rfl, by intro w' hSw; have z0 := hSw.at 0 rfl; go_simp; try with_reducible rfl⟩) ?_; (try simp only [Act.put, List.getElem_toArray, List.getElem_cons_succ, List.getElem_cons_zero, List.setIfInBounds_toArray, List.set_cons_zero, List.set_cons_succ])
        refine wpAnyG_one 7 (by kernel_rfl) rfl (fun K hK => ?_)
        rw [if_pos (by rfl)]
        refine wp_putF _ _ _ rfl rfl rfl q4 rfl (by rfl) (by rfl) ?_
        intro w9 qn9 hg
        (try simp only [List.setIfInBounds_toArray, List.set_cons_succ, List.set_cons_zero] at qn9)
        replace b0 := b0.grown hg (by omega)
        replace m1 := m1.grownB q4 (by decide) hg
        replace q2 := q2.grown hg (by omega)
        replace q5 := q5.grown hg (by omega)
        replace q6 := q6.grown hg (by omega)
        clear hg q4
        have q4 := qn9
        clear qn9
        (try go_simp)
        refine hK.out _ _ (fun h => nomatch h) ?_
        clear hK K
        (try simp only [Act.put, List.getElem_toArray, List.getElem_cons_succ, List.getElem_cons_zero, List.setIfInBounds_toArray, List.set_cons_zero, List.set_cons_succ])
        refine wpAnyG_done (by kernel_rfl) ?_ _
        go_wp2_with fail
        go_roundw
        case rel => exact ⟨qn + 1, r, cutA (some ⟨bb, oo, none⟩) d1 1, k - 1, d1 - 1, true, 1, rfl, HGD.out.symm.trans HQK.out, by omega, by omega, HY1.out.cutL (lo := 1) (by omega), b0, q2, q4, q5, q6, m1⟩
        case measure => simp [lenOf]; omega
    · as_aux_lemma =>
        have e1 : (x != yv) = true := bne_iff_ne.2 hxy
        have hbd := preK_bad (r := r) hq24 (show x ≠ preL[(qn : Int).toNat]?.getD 0 by rw [Int.toNat_natCast, HYV.out]; exact hxy)
        rw [HQK.out, HPK.out] at hbd
        simp only [Prod.mk.injEq] at hbd
        obtain ⟨hp1, _, _⟩ := hbd
        subst hp1
        clear hxy
        replace hc1 : w9.drew.cell? ⟨bb, oo, none⟩ = some (.int .u8 x) := hc1
        replace b0 := b0.drew; replace q2 := q2.drew; replace q4 := q4.drew; replace q5 := q5.drew; replace q6 := q6.drew; (try replace m1 := m1.drew); (try replace mc := mc.drew)
        refine wp_region_G (fun w' => Blk w' (w.heap.size + 1) 24 #[.int .i64 qn, .slice A1 n c1] ∧ w'.cell? ⟨bb, oo, none⟩ = some (.int .u8 x)) [] (by kernel_rfl) ?_
        have S0 := (And.intro q4 hc1)
        refine wpAnyG_take 0 (v := ?_) rfl (by kernel_rfl) (fun _ _ _ h => h) S0 (Or.inl ⟨by rfl, by intro w' hSw; have z0 := hSw.1.at 0 rfl; have z1 := hSw.2; go_simp; try with_reducible rfl⟩) ?_; (try simp only [Act.put, List.getElem_toArray, List.getElem_cons_succ, List.getElem_cons_zero, List.setIfInBounds_toArray, List.set_cons_zero, List.set_cons_succ])
        refine wpAnyG_take 1 (v := ?_) rfl (by kernel_rfl) (fun _ _ _ h => h) S0 (Or.inl ⟨by rfl, by intro w' hSw; have z0 := hSw.1.at 0 rfl; have z1 := hSw.2; go_simp; try with_reducible rfl⟩) ?_; (try simp only [Act.put, List.getElem_toArray, List.getElem_cons_succ, List.getElem_cons_zero, List.setIfInBounds_toArray, List.set_cons_zero, List.set_cons_succ])
        refine wpAnyG_take 2 (v := ?_) rfl (by kernel_rfl) (fun _ _ _ h => h) S0 (Or.inl ⟨by rfl, by intro w' hSw; have z0 := hSw.1.at 0 rfl; have z1 := hSw.2; go_simp; try with_reducible rfl⟩) ?_; (try simp only [Act.put, List.getElem_toArray, List.getElem_cons_succ, List.getElem_cons_zero, List.setIfInBounds_toArray, List.set_cons_zero, List.set_cons_succ])
        refine wpAnyG_take 3 (v := ?_) rfl (by kernel_rfl) (fun _ _ _ h => h) S0 (Or.inl ⟨by rfl, by intro w' hSw; have z0 := hSw.1.at 0 rfl; have z1 := hSw.2; go_simp; try with_reducible rfl⟩) ?_; (try simp only [Act.put, List.getElem_toArray, List.getElem_cons_succ, List.getElem_cons_zero, List.setIfInBounds_toArray, List.set_cons_zero, List.set_cons_succ])
        refine wpAnyG_take 4 (v := ?_) rfl (by kernel_rfl) (fun _ _ _ h => h) S0 (Or.inl ⟨by rfl, by intro w' hSw; have z0 := hSw.1.at 0 rfl; have z1 := hSw.2; go_simp; try with_reducible rfl⟩) ?_; (try simp only [Act.put, List.getElem_toArray, List.getElem_cons_succ, List.getElem_cons_zero, List.setIfInBounds_toArray, List.set_cons_zero, List.set_cons_succ])
        refine wpAnyG_take 5 (v := ?_) rfl (by kernel_rfl) (fun _ _ _ h => h) S0 (Or.inl ⟨by rfl, by intro w' hSw; have z0 := hSw.1.at 0 rfl; have z1 := hSw.2; go_simp; try with_reducible rfl⟩) ?_; (try simp only [Act.put, List.getElem_toArray, List.getElem_cons_succ, List.getElem_cons_zero, List.setIfInBounds_toArray, List.set_cons_zero, List.set_cons_succ])
        refine wpAnyG_take 6 (v := ?_) rfl (by kernel_rfl) (fun _ _ _ h => h) S0 (Or.inl ⟨by rfl, by intro w' hSw; have z0 := hSw.1.at 0 rfl; have z1 := hSw.2; go_simp; try with_reducible rfl⟩) ?_; (try simp only [Act.put, List.getElem_toArray, List.getElem_cons_succ, List.getElem_cons_zero, List.setIfInBounds_toArray, List.set_cons_zero, List.set_cons_succ])
        clear S0
        refine wpAnyG_done (by kernel_rfl) ?_ _
        go_upto_region 17 with (first | ((with_reducible refine wp_goto_then rfl ?_)) | ((with_reducible refine wp_goto ?_); refine hop_goto rfl ?_) | ((with_reducible refine wp_label ?_)) | ((with_reducible refine hop_ret ?_)))
        (try clear q4_0 hc1)
        replace b0 := b0.drew; replace q2 := q2.drew; replace q4 := q4.drew; replace q5 := q5.drew; replace q6 := q6.drew; (try replace m1 := m1.drew); (try replace mc := mc.drew)
        refine wp_region_G (fun w' => Blk w' (w.heap.size + 1) 24 #[.int .i64 qn, .slice A1 n c1] ∧ Blk w' (w.heap.size + 1 + 1) 28 #[.slice none 0 0] ∧ Blk w' (w.heap.size + 1 + 1 + 1) 31 #[.bool true, .int .i64 0, .int .u32 1]) [] (by kernel_rfl) ?_
        have S0 := (And.intro q4 (And.intro q5 q6))
        refine wpAnyG_take 0 (v := .agg #[.int .i64 qn, .slice A1 n c1]) rfl (by kernel_rfl) (fun _ _ _ h => h) S0 (Or.inl ⟨by rfl, by intro w' hSw; exact exec_getB (by rfl) (by rfl) hSw.1 Try.underlying24 (by rfl) (by rfl)⟩) ?_; (try simp only [Act.put, List.getElem_toArray, List.getElem_cons_succ, List.getElem_cons_zero, List.setIfInBounds_toArray, List.set_cons_zero, List.set_cons_succ])
        refine wpAnyG_take 1 (v := .slice none 0 0) rfl (by kernel_rfl) (fun _ _ _ h => h) S0 (Or.inl ⟨by rfl, by intro w' hSw; have z0 := hSw.2.1.at 0 rfl; go_simp; try with_reducible rfl⟩) ?_; (try simp only [Act.put, List.getElem_toArray, List.getElem_cons_succ, List.getElem_cons_zero, List.setIfInBounds_toArray, List.set_cons_zero, List.set_cons_succ])
        refine wpAnyG_take 2 (v := .agg #[.bool true, .int .i64 0, .int .u32 1]) rfl (by kernel_rfl) (fun _ _ _ h => h) S0 (Or.inl ⟨by rfl, by intro w' hSw; exact exec_getB (by rfl) (by rfl) hSw.2.2 Try.underlying31 (by rfl) (by rfl)⟩) ?_; (try simp only [Act.put, List.getElem_toArray, List.getElem_cons_succ, List.getElem_cons_zero, List.setIfInBounds_toArray, List.set_cons_zero, List.set_cons_succ])
        clear S0
        refine wpAnyG_one 3 (by kernel_rfl) rfl (fun K hK => ?_)
        rw [if_pos (by rfl)]
        refine wp_putB _ _ _ rfl rfl rfl q4 (by rfl) (by rfl) (by rfl) ?_
        intro w9 qn hg
        replace b0 := b0.grown hg (by omega)
        (try replace m1 := m1.grownB q4 (by decide) hg)
        (try replace q2 := q2.grown hg (by omega))
        (try replace q5 := q5.grown hg (by omega))
        (try replace q6 := q6.grown hg (by omega))
        clear hg q4
        have q4 := qn
        clear qn
        (try go_simp)
        refine hK.out _ _ (fun _ => (And.intro q4 (And.intro q5 q6))) ?_
        clear hK K
        (try simp only [Act.put, List.getElem_toArray, List.getElem_cons_succ, List.getElem_cons_zero, List.setIfInBounds_toArray, List.set_cons_zero, List.set_cons_succ])
        refine wpAnyG_one 4 (by kernel_rfl) rfl (fun K hK => ?_)
        rw [if_pos (by rfl)]
        have ya := q5.putAgain; have yc := q5.at 0 rfl; have yf := q5.frozen 0
        go_simp
        clear ya yc yf
        (try go_simp)
        refine hK.out _ _ (fun _ => (And.intro q4 (And.intro q5 q6))) ?_
        clear hK K
        (try simp only [Act.put, List.getElem_toArray, List.getElem_cons_succ, List.getElem_cons_zero, List.setIfInBounds_toArray, List.set_cons_zero, List.set_cons_succ])
        refine wpAnyG_one 5 (by kernel_rfl) rfl (fun K hK => ?_)
        rw [if_pos (by rfl)]
        refine wp_putB _ _ _ rfl rfl rfl q6 (by rfl) (by rfl) (by rfl) ?_
        intro w9 qn hg
        replace b0 := b0.grown hg (by omega)
        (try replace m1 := m1.grownB q6 (by decide) hg)
        (try replace q2 := q2.grown hg (by omega))
        (try replace q4 := q4.grown hg (by omega))
        (try replace q5 := q5.grown hg (by omega))
        clear hg q6
        have q6 := qn
        clear qn
        (try go_simp)
        refine hK.out _ _ (fun _ => (And.intro q4 (And.intro q5 q6))) ?_
        clear hK K
        (try simp only [Act.put, List.getElem_toArray, List.getElem_cons_succ, List.getElem_cons_zero, List.setIfInBounds_toArray, List.set_cons_zero, List.set_cons_succ])
        have S0 := (And.intro q4 (And.intro q5 q6))
        refine wpAnyG_take 6 (v := ?_) rfl (by kernel_rfl) (fun _ _ _ h => h) S0 (Or.inl ⟨by rfl, by intro w' hSw; go_simp; try with_reducible rfl⟩) ?_; (try simp only [Act.put, List.getElem_toArray, List.getElem_cons_succ, List.getElem_cons_zero, List.setIfInBounds_toArray, List.set_cons_zero, List.set_cons_succ])
        clear S0
        refine wpAnyG_done (by kernel_rfl) ?_ _
        go_wp2_with (first | ((with_reducible refine wp_goto_then rfl ?_)) | ((with_reducible refine wp_goto ?_); refine hop_goto rfl ?_) | ((with_reducible refine wp_label ?_)) | ((with_reducible refine hop_ret ?_)))
        have x0 := q4.at 0 rfl; have x1 := q4.at 1 rfl; have x2 := q5.at 0 rfl; have x3 := q6.at 0 rfl; have x4 := q6.at 1 rfl; have x5 := q6.at 2 rfl
        exact bodyPost_ret (v := .tuple #[.agg #[.int .i64 qn, .slice A1 n c1], .slice none 0 0, .agg #[.bool true, .int .i64 0, .int .u32 1], .int .i64 0]) (by simp [results, Try.f9, go_sem, x0, x1, x2, x3, x4, x5]) rfl ⟨A1, n, c1, none, 0, 0, [], rfl, m1, MineC.nil _ _, rfl, b0.out⟩
end Go.Proofs.Ythcnfalfhdeflaa
