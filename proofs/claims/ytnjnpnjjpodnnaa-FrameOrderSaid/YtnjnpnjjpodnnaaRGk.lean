/- What a kind has: the map of kinds, its contract. -/
import Derived.Test.YtnjnpnjjpodnnaaRGb
namespace Go.Proofs.Ytnjnpnjjpodnnaa
open Go.RowKit Go.Shelf Go.ChangeMaps
set_option linter.unusedVariables false
set_option linter.unusedSimpArgs false

def longF (k : Int) : Nat := if k = 0 ∨ k = 1 then 63 else if k = 2 ∨ k = 3 ∨ k = 6 ∨ k = 8 then 101 else if k = 4 then 76 else 92
def readF (k : Int) : Nat := if k = 0 then 64 else if k = 1 then 67 else if k = 2 then 68 else if k = 3 then 72 else if k = 4 then 78 else if k = 7 then 82 else if k = 8 then 86 else if k = 16 then 88 else 90
def putF (k : Int) : Nat := if k = 0 then 65 else if k = 1 then 69 else if k = 2 then 70 else if k = 3 then 74 else if k = 4 then 80 else if k = 7 then 84 else if k = 8 then 87 else if k = 16 then 89 else 91
def manyK (k : Int) : Int := if k = 2 then 5 else if k = 3 ∨ k = 8 ∨ k = 16 then 4 else if k = 6 ∨ k = 7 then 8 else 0
def longB (k : Int) (b : Nat) : Array Value := if k = 0 ∨ k = 1 ∨ k = 4 then #[] else #[.pointer (some ⟨b, 0, none⟩)]
def kindA (k : Int) (b : Nat) : Array Value := #[.int .i64 (ofK k), .func (.func (longF k)) #[] (longB k b), .func (.func (readF k)) #[] #[], .func (.func (putF k)) #[] #[]]
def KnP (k : Int) (w : World) (e : Ending) (W' : World) : Prop := ∃ b : Nat, e = .returned (.agg (kindA k b)) ∧ (k ≠ 0 → k ≠ 1 → k ≠ 4 → Blk W' b 3 #[.int .i64 (manyK k)]) ∧ Below w.heap.size w W'
theorem fJust (n : Int) (w : World) : Calls Try.prog 71 #[.int .i64 n] w fun e w' => ∃ g, e = .returned (.func (.func 101) #[] #[.pointer (some ⟨g, 0, none⟩)]) ∧ Blk w' g 3 #[.int .i64 n] ∧ w.heap.size ≤ g ∧ Below w.heap.size w w' := by
  have q := Blk.new w 3 #[.int .i64 n]
  have b0 := (Bel.refl w).alloc (.cells #[.int .i64 n] 3)
  go_enter Try.func71, Try.ntmps71
  go_wp2
  go_ret
  exact ⟨_, rfl, q, Nat.le_refl _, b0.out⟩
theorem fLeast (n : Int) (w : World) : Calls Try.prog 47 #[.int .i64 n] w fun e w' => ∃ g, e = .returned (.func (.func 92) #[] #[.pointer (some ⟨g, 0, none⟩)]) ∧ Blk w' g 3 #[.int .i64 n] ∧ w.heap.size ≤ g ∧ Below w.heap.size w w' := by
  have q := Blk.new w 3 #[.int .i64 n]
  have b0 := (Bel.refl w).alloc (.cells #[.int .i64 n] 3)
  go_enter Try.func47, Try.ntmps47
  go_wp2
  go_ret
  exact ⟨_, rfl, q, Nat.le_refl _, b0.out⟩
def plainA (o : Int) (F : Value) : Array Value := #[.int .i64 o, F, .func (.func 90) #[] #[], .func (.func 91) #[] #[]]
set_option maxRecDepth 100000 in
theorem fPlain (o : Int) (f : Nat) (lb : Array Value) (w : World) : Calls Try.prog 46 #[.int .i64 o, .func (.func f) #[] lb] w fun e w' => e = .returned (.agg (plainA o (.func (.func f) #[] lb))) ∧ Below w.heap.size w w' := by
  unfold plainA
  have b0 := (Bel.refl w).alloc (.cells #[.int .i64 0, .nilFunc, .nilFunc, .nilFunc] 61)
  have q0 := Blk.new w 61 #[.int .i64 0, .nilFunc, .nilFunc, .nilFunc]
  go_enter Try.func46, Try.ntmps46
  go_wp2_with (first | (refine wpList_putB rfl _ _ _ rfl rfl rfl q0 (by rfl) (by rfl) (by rfl) ?_; intro w2 q2 hg; replace b0 := b0.grown hg (Nat.le_refl _)))
  exact res1 rfl rfl rfl q2 Try.underlying61 rfl (by rfl) ⟨rfl, b0.out⟩
theorem fJust1 (L k f s : Int) (n : Int) (b : Nat) (m : Int) (w : World) (q : Blk w b 3 #[.int .i64 m]) : Calls Try.prog 101 #[.agg #[.int .i64 L, .int .u8 k, .int .u8 f, .int .i64 s], .int .i64 n, .pointer (some ⟨b, 0, none⟩)] w (BoolP (n == m) w) := by
  have q2 := q.alloc (.cells #[.int .i64 L, .int .u8 k, .int .u8 f, .int .i64 s] 23)
  have z0 := q2.at 0 rfl
  have b0 := (Bel.refl w).alloc (.cells #[.int .i64 L, .int .u8 k, .int .u8 f, .int .i64 s] 23)
  clear q q2
  go_enter Try.func101, Try.ntmps101
  go_wp2
  go_ret
  exact ⟨rfl, b0.out⟩
theorem fLeast1 (L k f s : Int) (n : Int) (b : Nat) (m : Int) (w : World) (q : Blk w b 3 #[.int .i64 m]) : Calls Try.prog 92 #[.agg #[.int .i64 L, .int .u8 k, .int .u8 f, .int .i64 s], .int .i64 n, .pointer (some ⟨b, 0, none⟩)] w (BoolP (decide (m ≤ n)) w) := by
  have q2 := q.alloc (.cells #[.int .i64 L, .int .u8 k, .int .u8 f, .int .i64 s] 23)
  have z0 := q2.at 0 rfl
  have b0 := (Bel.refl w).alloc (.cells #[.int .i64 L, .int .u8 k, .int .u8 f, .int .i64 s] 23)
  clear q q2
  go_enter Try.func92, Try.ntmps92
  go_wp2
  go_ret
  exact ⟨rfl, b0.out⟩
def Kn10 (k : Int) : Prop := k = 0 ∨ k = 1 ∨ k = 2 ∨ k = 3 ∨ k = 4 ∨ k = 6 ∨ k = 7 ∨ k = 8 ∨ k = 9 ∨ k = 16
instance (k : Int) : Decidable (Kn10 k) := by unfold Kn10; infer_instance
set_option maxRecDepth 100000 in
set_option maxHeartbeats 4000000 in
theorem fKindsF (w : World) : Calls Try.prog 45 #[] w fun e W' => ∃ (b : Nat) (M : Int → Option Value), e = .returned (.map (some b)) ∧ MapF u8V W' b M ∧ (∀ k, Kn10 k → ∃ g, M k = some (.agg (kindA k g)) ∧ (k ≠ 0 → k ≠ 1 → k ≠ 4 → Blk W' g 3 #[.int .i64 (manyK k)])) ∧ (∀ k, ¬Kn10 k → M k = none) ∧ Below w.heap.size w W' := by
  have hmm := @run_makeMap Try.prog
  have b0 := (Bel.refl w).alloc (.map #[] 0)
  have hm : MapF u8V (w.alloc (.map #[] 0)) w.heap.size (fun _ => none) := MapF.made w
  go_enter Try.func45, Try.ntmps45
  go_wp2_with (refine wpList_ins _ rfl _ _ _ 77 rfl (intKey (q := .u8) Try.underlying5) Try.underlying77 _ _ rfl hm _ _ rfl rfl ?_; intro w9 hm9 hg; replace b0 := b0.grown hg (Nat.le_refl _); clear hm hg; have hm := hm9; clear hm9)
  have lm := hm.lt
  refine (fJust 5 _).mono ?_
  rintro e wn ⟨g2, rfl, q2, hle, hb⟩
  replace b0 := b0.below hb; replace hm := hm.below hb
  have l2 : w.heap.size < g2 := Nat.lt_of_lt_of_le lm hle
  clear hle
  clear hb lm
  go_wp2_with (refine wpList_ins _ rfl _ _ _ 77 rfl (intKey (q := .u8) Try.underlying5) Try.underlying77 _ _ rfl hm _ _ rfl rfl ?_; intro w9 hm9 hg; replace b0 := b0.grown hg (Nat.le_refl _); replace q2 := q2.grown hg (Nat.ne_of_gt l2); clear hm hg; have hm := hm9; clear hm9)
  have lm := hm.lt
  refine (fJust 4 _).mono ?_
  rintro e wn ⟨g3, rfl, q3, hle, hb⟩
  replace b0 := b0.below hb; replace hm := hm.below hb; replace q2 := q2.below hb
  have l3 : w.heap.size < g3 := Nat.lt_of_lt_of_le lm hle
  clear hle
  clear hb lm
  go_wp2_with (refine wpList_ins _ rfl _ _ _ 77 rfl (intKey (q := .u8) Try.underlying5) Try.underlying77 _ _ rfl hm _ _ rfl rfl ?_; intro w9 hm9 hg; replace b0 := b0.grown hg (Nat.le_refl _); replace q2 := q2.grown hg (Nat.ne_of_gt l2); replace q3 := q3.grown hg (Nat.ne_of_gt l3); clear hm hg; have hm := hm9; clear hm9)
  have lm := hm.lt
  refine (fJust 8 _).mono ?_
  rintro e wn ⟨g6, rfl, q6, hle, hb⟩
  replace b0 := b0.below hb; replace hm := hm.below hb; replace q2 := q2.below hb; replace q3 := q3.below hb
  have l6 : w.heap.size < g6 := Nat.lt_of_lt_of_le lm hle
  clear hle
  clear hb lm
  go_wp2_with (refine wpList_ins _ rfl _ _ _ 77 rfl (intKey (q := .u8) Try.underlying5) Try.underlying77 _ _ rfl hm _ _ rfl rfl ?_; intro w9 hm9 hg; replace b0 := b0.grown hg (Nat.le_refl _); replace q2 := q2.grown hg (Nat.ne_of_gt l2); replace q3 := q3.grown hg (Nat.ne_of_gt l3); replace q6 := q6.grown hg (Nat.ne_of_gt l6); clear hm hg; have hm := hm9; clear hm9)
  have lm := hm.lt
  refine (fPlain _ _ _ _).mono ?_
  rintro e wn ⟨rfl, hb⟩
  replace b0 := b0.below hb; replace hm := hm.below hb; replace q2 := q2.below hb; replace q3 := q3.below hb; replace q6 := q6.below hb
  clear hb lm
  go_wp2_with (refine wpList_ins _ rfl _ _ _ 77 rfl (intKey (q := .u8) Try.underlying5) Try.underlying77 _ _ rfl hm _ _ rfl rfl ?_; intro w9 hm9 hg; replace b0 := b0.grown hg (Nat.le_refl _); replace q2 := q2.grown hg (Nat.ne_of_gt l2); replace q3 := q3.grown hg (Nat.ne_of_gt l3); replace q6 := q6.grown hg (Nat.ne_of_gt l6); clear hm hg; have hm := hm9; clear hm9)
  have lm := hm.lt
  refine (fLeast 8 _).mono ?_
  rintro e wn ⟨g7, rfl, q7, hle, hb⟩
  replace b0 := b0.below hb; replace hm := hm.below hb; replace q2 := q2.below hb; replace q3 := q3.below hb; replace q6 := q6.below hb
  have l7 : w.heap.size < g7 := Nat.lt_of_lt_of_le lm hle
  clear hle
  clear hb lm
  go_wp2_with (refine wpList_ins _ rfl _ _ _ 77 rfl (intKey (q := .u8) Try.underlying5) Try.underlying77 _ _ rfl hm _ _ rfl rfl ?_; intro w9 hm9 hg; replace b0 := b0.grown hg (Nat.le_refl _); replace q2 := q2.grown hg (Nat.ne_of_gt l2); replace q3 := q3.grown hg (Nat.ne_of_gt l3); replace q6 := q6.grown hg (Nat.ne_of_gt l6); replace q7 := q7.grown hg (Nat.ne_of_gt l7); clear hm hg; have hm := hm9; clear hm9)
  have lm := hm.lt
  refine (fJust 4 _).mono ?_
  rintro e wn ⟨g8, rfl, q8, hle, hb⟩
  replace b0 := b0.below hb; replace hm := hm.below hb; replace q2 := q2.below hb; replace q3 := q3.below hb; replace q6 := q6.below hb; replace q7 := q7.below hb
  have l8 : w.heap.size < g8 := Nat.lt_of_lt_of_le lm hle
  clear hle
  clear hb lm
  go_wp2_with (refine wpList_ins _ rfl _ _ _ 77 rfl (intKey (q := .u8) Try.underlying5) Try.underlying77 _ _ rfl hm _ _ rfl rfl ?_; intro w9 hm9 hg; replace b0 := b0.grown hg (Nat.le_refl _); replace q2 := q2.grown hg (Nat.ne_of_gt l2); replace q3 := q3.grown hg (Nat.ne_of_gt l3); replace q6 := q6.grown hg (Nat.ne_of_gt l6); replace q7 := q7.grown hg (Nat.ne_of_gt l7); replace q8 := q8.grown hg (Nat.ne_of_gt l8); clear hm hg; have hm := hm9; clear hm9)
  have lm := hm.lt
  refine (fLeast 0 _).mono ?_
  rintro e wn ⟨g9, rfl, q9, hle, hb⟩
  replace b0 := b0.below hb; replace hm := hm.below hb; replace q2 := q2.below hb; replace q3 := q3.below hb; replace q6 := q6.below hb; replace q7 := q7.below hb; replace q8 := q8.below hb
  have l9 : w.heap.size < g9 := Nat.lt_of_lt_of_le lm hle
  clear hle
  clear hb lm
  go_wp2_with (refine wpList_ins _ rfl _ _ _ 77 rfl (intKey (q := .u8) Try.underlying5) Try.underlying77 _ _ rfl hm _ _ rfl rfl ?_; intro w9 hm9 hg; replace b0 := b0.grown hg (Nat.le_refl _); replace q2 := q2.grown hg (Nat.ne_of_gt l2); replace q3 := q3.grown hg (Nat.ne_of_gt l3); replace q6 := q6.grown hg (Nat.ne_of_gt l6); replace q7 := q7.grown hg (Nat.ne_of_gt l7); replace q8 := q8.grown hg (Nat.ne_of_gt l8); replace q9 := q9.grown hg (Nat.ne_of_gt l9); clear hm hg; have hm := hm9; clear hm9)
  have lm := hm.lt
  refine (fPlain _ _ _ _).mono ?_
  rintro e wn ⟨rfl, hb⟩
  replace b0 := b0.below hb; replace hm := hm.below hb; replace q2 := q2.below hb; replace q3 := q3.below hb; replace q6 := q6.below hb; replace q7 := q7.below hb; replace q8 := q8.below hb; replace q9 := q9.below hb
  clear hb lm
  go_wp2_with (refine wpList_ins _ rfl _ _ _ 77 rfl (intKey (q := .u8) Try.underlying5) Try.underlying77 _ _ rfl hm _ _ rfl rfl ?_; intro w9 hm9 hg; replace b0 := b0.grown hg (Nat.le_refl _); replace q2 := q2.grown hg (Nat.ne_of_gt l2); replace q3 := q3.grown hg (Nat.ne_of_gt l3); replace q6 := q6.grown hg (Nat.ne_of_gt l6); replace q7 := q7.grown hg (Nat.ne_of_gt l7); replace q8 := q8.grown hg (Nat.ne_of_gt l8); replace q9 := q9.grown hg (Nat.ne_of_gt l9); clear hm hg; have hm := hm9; clear hm9)
  have lm := hm.lt
  refine (fLeast 4 _).mono ?_
  rintro e wn ⟨g16, rfl, q16, hle, hb⟩
  replace b0 := b0.below hb; replace hm := hm.below hb; replace q2 := q2.below hb; replace q3 := q3.below hb; replace q6 := q6.below hb; replace q7 := q7.below hb; replace q8 := q8.below hb; replace q9 := q9.below hb
  have l16 : w.heap.size < g16 := Nat.lt_of_lt_of_le lm hle
  clear hle
  clear hb lm
  go_wp2_with (refine wpList_ins _ rfl _ _ _ 77 rfl (intKey (q := .u8) Try.underlying5) Try.underlying77 _ _ rfl hm _ _ rfl rfl ?_; intro w9 hm9 hg; replace b0 := b0.grown hg (Nat.le_refl _); replace q2 := q2.grown hg (Nat.ne_of_gt l2); replace q3 := q3.grown hg (Nat.ne_of_gt l3); replace q6 := q6.grown hg (Nat.ne_of_gt l6); replace q7 := q7.grown hg (Nat.ne_of_gt l7); replace q8 := q8.grown hg (Nat.ne_of_gt l8); replace q9 := q9.grown hg (Nat.ne_of_gt l9); replace q16 := q16.grown hg (Nat.ne_of_gt l16); clear hm hg; have hm := hm9; clear hm9)
  go_ret
  refine ⟨_, _, rfl, hm, ?_, ?_, b0.out⟩
  · intro k hk
    unfold Kn10 at hk
    rcases hk with rfl | rfl | rfl | rfl | rfl | rfl | rfl | rfl | rfl | rfl
    · exact ⟨0, rfl, fun h0 h1 h4 => absurd rfl h0⟩
    · exact ⟨0, rfl, fun h0 h1 h4 => absurd rfl h1⟩
    · exact ⟨g2, rfl, fun h0 h1 h4 => q2⟩
    · exact ⟨g3, rfl, fun h0 h1 h4 => q3⟩
    · exact ⟨0, rfl, fun h0 h1 h4 => absurd rfl h4⟩
    · exact ⟨g6, rfl, fun h0 h1 h4 => q6⟩
    · exact ⟨g7, rfl, fun h0 h1 h4 => q7⟩
    · exact ⟨g8, rfl, fun h0 h1 h4 => q8⟩
    · exact ⟨g9, rfl, fun h0 h1 h4 => q9⟩
    · exact ⟨g16, rfl, fun h0 h1 h4 => q16⟩
  · intro k hk
    unfold Kn10 at hk
    have h : k ≠ 0 ∧ k ≠ 1 ∧ k ≠ 2 ∧ k ≠ 3 ∧ k ≠ 4 ∧ k ≠ 6 ∧ k ≠ 7 ∧ k ≠ 8 ∧ k ≠ 9 ∧ k ≠ 16 := by omega
    obtain ⟨h0, h1, h2, h3, h4, h6, h7, h8, h9, h16⟩ := h
    simp only [if_neg h0, if_neg h1, if_neg h2, if_neg h3, if_neg h4, if_neg h6, if_neg h7, if_neg h8, if_neg h9, if_neg h16]
theorem zKind (w : World) : (zeroValue 61).run Try.prog w = .ok (.agg #[.int .i64 0, .nilFunc, .nilFunc, .nilFunc]) w := by kernel_rfl
theorem kind_other {k : Int} (h : ¬Kn10 k) (g : Nat) : kindA k g = plainA 0 (.func (.func 92) #[] #[.pointer (some ⟨g, 0, none⟩)]) ∧ manyK k = 0 := by
  unfold Kn10 at h
  have h : k ≠ 0 ∧ k ≠ 1 ∧ k ≠ 2 ∧ k ≠ 3 ∧ k ≠ 4 ∧ k ≠ 6 ∧ k ≠ 7 ∧ k ≠ 8 ∧ k ≠ 9 ∧ k ≠ 16 := by omega
  obtain ⟨h0, h1, h2, h3, h4, h6, h7, h8, h9, h16⟩ := h
  simp [kindA, plainA, ofK, longF, longB, readF, putF, manyK, h0, h1, h2, h3, h4, h6, h7, h8, h9, h16]
set_option maxRecDepth 100000 in
set_option maxHeartbeats 2000000 in
/-- What a kind has. -/
theorem fKnownK (k : Int) (w : World) : Calls Try.prog 30 #[.int .u8 k] w (KnP k w) := by
  have b0 := (Bel.refl w).alloc (.cells #[.int .i64 0, .nilFunc, .nilFunc, .nilFunc] 61)
  have q2 := Blk.new w 61 #[.int .i64 0, .nilFunc, .nilFunc, .nilFunc]
  go_enter Try.func30, Try.ntmps30
  go_wp2_with fail
  refine (fKindsF _).mono ?_
  rintro e w1 ⟨bm, M, rfl, hm, hy, hn, hb⟩
  replace b0 := b0.below hb
  replace q2 := q2.below hb
  have hlk := hm.lookup_ok (intKey (q := .u8) Try.underlying5) Try.underlying77 (zKind w1) k
  have hs1 := b0.out.size
  have hq2 := q2.lt
  by_cases hk : Kn10 k
  · obtain ⟨g, hM, hg⟩ := hy k hk
    rw [hM] at hlk
    have hlk2 : (Instr.lookup 77 (.map (some bm)) (.int .u8 k) true).run Try.prog w1 = .ok (.tuple #[.agg (kindA k g), .bool true]) w1 := hlk
    have HG : k ≠ 0 → k ≠ 1 → k ≠ 4 → Blk w1 g 3 #[.int .i64 (manyK k)] ∧ g ≠ w.heap.size ∧ g ≠ w1.heap.size := fun h0 h1 h4 => by
      have q := hg h0 h1 h4
      refine ⟨q, fun e => ?_, Nat.ne_of_lt q.lt⟩
      subst e
      have h1 : w1.heap[w.heap.size]? = _ := q2
      rw [show w1.heap[w.heap.size]? = _ from q] at h1
      simp at h1
    have q3 := Blk.new w1 61 #[.int .i64 0, .nilFunc, .nilFunc, .nilFunc]
    replace q2 := q2.alloc (.cells #[.int .i64 0, .nilFunc, .nilFunc, .nilFunc] 61)
    replace b0 := b0.alloc (.cells #[.int .i64 0, .nilFunc, .nilFunc, .nilFunc] 61)
    have HB : k ≠ 0 → k ≠ 1 → k ≠ 4 → Blk (w1.alloc (.cells #[.int .i64 0, .nilFunc, .nilFunc, .nilFunc] 61)) g 3 #[.int .i64 (manyK k)] := fun h0 h1 h4 => (HG h0 h1 h4).1.alloc _
    replace HG := Lib.hid HG
    replace HB := Lib.hid HB
    clear hlk hy hn hM hm hg hb hk
    unfold kindA at hlk2
    go_wp2_with (first
      | ((with_reducible refine wpList_id ?_); refine wpList_getG (by rfl) _ _ rfl rfl q3 Try.underlying61 rfl (by rfl) ?_)
      | ((with_reducible refine wpList_id ?_); refine wpList_putB rfl _ _ _ rfl rfl rfl q3 (by rfl) (by rfl) (by rfl) ?_; intro w9 qn hg; replace q2 := q2.grown hg (by omega); replace b0 := b0.grown hg (by omega); replace HB := Lib.hid fun h0 h1 h4 => (HB.out h0 h1 h4).grown hg (HG.out h0 h1 h4).2.2; clear hg q3; have q3 := qn; clear qn)
      | ((with_reducible refine wpList_id ?_); refine wpList_putB rfl _ _ _ rfl rfl rfl q2 (by rfl) (by rfl) (by rfl) ?_; intro w9 qn hg; replace b0 := b0.grown hg (Nat.le_refl _); replace HB := Lib.hid fun h0 h1 h4 => (HB.out h0 h1 h4).grown hg (HG.out h0 h1 h4).2.1; clear hg q2; have q2 := qn; clear qn))
    exact res1 rfl rfl rfl q2 Try.underlying61 rfl (by rfl) ⟨g, rfl, HB.out, b0.out⟩
  · rw [hn k hk] at hlk
    have hlk2 : (Instr.lookup 77 (.map (some bm)) (.int .u8 k) true).run Try.prog w1 = .ok (.tuple #[.agg #[.int .i64 0, .nilFunc, .nilFunc, .nilFunc], .bool false]) w1 := hlk
    have HKN := Lib.hid hk
    have q3 := Blk.new w1 61 #[.int .i64 0, .nilFunc, .nilFunc, .nilFunc]
    replace q2 := q2.alloc (.cells #[.int .i64 0, .nilFunc, .nilFunc, .nilFunc] 61)
    replace b0 := b0.alloc (.cells #[.int .i64 0, .nilFunc, .nilFunc, .nilFunc] 61)
    clear hlk hy hn hm hb hk
    go_wp2_with ((with_reducible refine wpList_id ?_); refine wpList_putB rfl _ _ _ rfl rfl rfl q3 (by rfl) (by rfl) (by rfl) ?_; intro w9 qn hg; replace q2 := q2.grown hg (by omega); replace b0 := b0.grown hg (by omega); clear hg q3; have q3 := qn; clear qn)
    clear q3
    refine (fLeast 0 _).mono ?_
    rintro e w2 ⟨g, rfl, qg, hle, hb⟩
    replace q2 := q2.below hb
    replace b0 := b0.below hb
    have hl2 := q2.lt
    have hne : g ≠ w.heap.size := fun e => by
      subst e
      have h1 : w2.heap[w.heap.size]? = _ := q2
      rw [show w2.heap[w.heap.size]? = _ from qg] at h1
      simp at h1
    clear hb hle
    go_wp2_with fail
    refine (fPlain _ _ _ _).mono ?_
    rintro e w3 ⟨rfl, hb⟩
    replace q2 := q2.below hb
    replace b0 := b0.below hb
    replace qg := qg.below hb
    clear hb
    obtain ⟨e1, e2⟩ := kind_other HKN.out g
    have HE1 := Lib.hid e1
    have HE2 := Lib.hid e2
    clear e1 e2
    unfold plainA
    go_wp2_with (refine wpList_putB rfl _ _ _ rfl rfl rfl q2 (by rfl) (by rfl) (by rfl) ?_; intro w9 qn hg; replace b0 := b0.grown hg (Nat.le_refl _); replace qg := qg.grown hg hne; clear hg q2; have q2 := qn; clear qn)
    exact res1 rfl rfl rfl q2 Try.underlying61 rfl (by rfl) ⟨g, by rw [HE1.out]; rfl, fun _ _ _ => by rw [HE2.out]; exact qg, b0.out⟩
end Go.Proofs.Ytnjnpnjjpodnnaa
