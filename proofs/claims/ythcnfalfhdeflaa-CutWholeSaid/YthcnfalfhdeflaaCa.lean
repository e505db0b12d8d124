/- Readers: the contracts of the small functions. -/
import Derived.Test.YthcnfalfhdeflaaHp
import Derived.Test.YthcnfalfhdeflaaSz
import Derived.Test.YthcnfalfhdeflaaCu
import Derived.Deep.Cut
import Derived.Lib.SlBytesConst
namespace Go.Proofs.Ythcnfalfhdeflaa
open Go.RowKit Go.Shelf
set_option linter.unusedVariables false

def preL : List Int := [80, 82, 73, 32, 42, 32, 72, 84, 84, 80, 47, 50, 46, 48, 13, 10, 13, 10, 83, 77, 13, 10, 13, 10]
theorem preL_bs : Bs preL := by intro x hx; simp [preL] at hx; omega
def hOk (l : List Int) : Bool := decide (9 ≤ l.length)
/-- Which readers may be. -/
def RightC (p : Int) (l : List Int) : Prop := (0 ≤ p ∧ p ≤ 24) ∧ (p < 24 → l.length = 0) ∧ (9 ≤ l.length → hL l ≤ 16384 ∧ (l.length : Int) < 9 + hL l)
instance (p : Int) (l : List Int) : Decidable (RightC p l) := by unfold RightC; infer_instance
def rightC (p : Int) (l : List Int) : Bool := decide (RightC p l)
def sameC (p : Int) (l : List Int) (p' : Int) (l' : List Int) : Bool := p == p' && eqB l l'
def HdP (l : List Int) (w : World) (e : Ending) (w' : World) : Prop := e = .returned (.tuple #[.agg #[.int .i64 (hL l), .int .u8 (hK l), .int .u8 (hF l), .int .i64 (hS l)], .bool (hOk l)]) ∧ Below w.heap.size w w'
def FltP (wh : Bool) (s c : Int) (w : World) (e : Ending) (w' : World) : Prop := e = .returned (.agg #[.bool wh, .int .i64 s, .int .u32 c]) ∧ Below w.heap.size w w'
def RdP (p : Int) (n : Nat) (l : List Int) (w : World) (e : Ending) (W' : World) : Prop := ∃ A' c', e = .returned (.agg #[.int .i64 p, .slice A' n c']) ∧ Mine w.heap.size W' A' n c' l ∧ Below w.heap.size w W'

theorem fEqual (A : Option Addr) (n c : Nat) (l : List Int) (B : Option Addr) (m d : Nat) (l' : List Int) (w : World) (h : Byt w A n c l) (h' : Byt w B m d l') :
    Calls Try.prog 28 #[.slice A n c, .slice B m d] w (Ret (.bool (eqB l l')) w) := by
  have e1 := h.conv
  have e2 := h'.conv
  have e3 := strOf_eq h.bs h'.bs
  have H := Lib.hid h
  have H' := Lib.hid h'
  clear h h'
  go_enter Try.func28, Try.ntmps28
  go_wp2
  go_ret
  exact ⟨rfl, rfl⟩
theorem fGreat (A : Option Addr) (n c : Nat) (w : World) : Calls Try.prog 6 #[.slice A n c] w (Ret (.bool (decide ((600 : Int) < n))) w) := by
  go_enter Try.func6, Try.ntmps6
  go_wp2
  go_ret
  exact ⟨rfl, rfl⟩
theorem fBroken (x : Int) (w : World) : Calls Try.prog 21 #[.int .u32 x] w (FltP true 0 x w) := by
  go_enter Try.func21, Try.ntmps21
  go_wp2
  exact bodyPost_ret (v := .agg #[.bool true, .int .i64 0, .int .u32 x]) (by simp [results, Try.f21, go_sem]) rfl ⟨rfl, (Below.refl _ _).alloc (Nat.le_refl _) _⟩
theorem fBegun (p : Int) (A : Option Addr) (n c : Nat) (w : World) : Calls Try.prog 18 #[.agg #[.int .i64 p, .slice A n c]] w (BoolP (p == 24) w) := by
  have b0 := (Bel.refl w).alloc (.cells #[.int .i64 p, .slice A n c] 24)
  go_enter Try.func18, Try.ntmps18
  go_wp2
  go_ret
  exact ⟨rfl, b0.out⟩
theorem fPreface (w : World) : Calls Try.prog 15 #[] w fun e W' => ∃ A c, e = .returned (.slice A 24 c) ∧ Byt W' A 24 c preL ∧ Below w.heap.size w W' := by
  have kc := fun (w : World) (C : Array Value) (n c : Nat) => Lib.run_convert_bytes_const (P := Try.prog) w 22 5 C n c Try.underlying22 Try.underlying5
  have hc : ∀ i, i < 24 → (w.alloc (.cells (preL.map (Value.int .u8)).toArray 5 (24, 25))).cell? ⟨w.heap.size, 0 + i, none⟩ = some (.int .u8 (preL[i]?.getD 0)) := fun i hi => by
    have hb := World.alloc_heap_new w (.cells (preL.map (Value.int .u8)).toArray 5 (24, 25))
    have hl : preL.length = 24 := by decide
    simp only [World.cell?, hb, Nat.zero_add]
    simp [List.getElem?_map, List.getElem?_eq_getElem (show i < preL.length by omega)]
  go_enter Try.func15, Try.ntmps15
  go_wp2
  go_ret
  exact ⟨_, _, rfl, ⟨by decide, by decide, by decide, (fun e => by cases e), preL_bs, fun _ => ⟨w.heap.size, 0, rfl, (by simp), hc⟩⟩, (Below.refl _ _).alloc (Nat.le_refl _) _⟩

set_option maxHeartbeats 1000000 in
theorem fFirst (A : Option Addr) (n c : Nat) (l : List Int) (w : World) (h : Byt w A n c l) (hn : n ≤ 140737488355328) : Calls Try.prog 29 #[.slice A n c] w (HdP l w) := by
  have hl := h.len
  have b0 := (Bel.refl w).alloc (.cells #[.int .i64 0, .int .u8 0, .int .u8 0, .int .i64 0] 41)
  have q2 := Blk.new w 41 #[.int .i64 0, .int .u8 0, .int .u8 0, .int .i64 0]
  have y := h.alloc (.cells #[.int .i64 0, .int .u8 0, .int .u8 0, .int .i64 0] 41)
  have TK := Lib.hid (fHTake A n c l _ y hn)
  by_cases g : n < 9
  · have v : hL l = 0 ∧ hK l = 0 ∧ hF l = 0 ∧ hS l = 0 ∧ hOk l = false := by
      unfold hL hK hF hS hOk
      rw [hl]
      refine ⟨if_pos g, if_pos g, if_pos g, if_pos g, decide_eq_false (by omega)⟩
    unfold HdP
    rw [v.1, v.2.1, v.2.2.1, v.2.2.2.1, v.2.2.2.2]
    have g1 : decide ((n : Int) < 9) = true := decide_eq_true (by omega)
    clear hl h y v TK hn g
    go_enter Try.func29, Try.ntmps29
    go_wp2_with (first | (refine wpList_getB rfl _ _ rfl rfl q2 Try.underlying41 rfl (by rfl) ?_) | (refine wpList_putB rfl _ _ _ rfl rfl rfl q2 (by rfl) (by rfl) (by rfl) ?_; intro w2 q4 hg; replace b0 := b0.grown hg (Nat.le_refl _)))
    exact res2ct rfl rfl rfl rfl q4 Try.underlying41 rfl (by rfl) ⟨rfl, b0.out⟩
  · have v : hOk l = true := decide_eq_true (by omega)
    unfold HdP
    rw [v]
    have g1 : decide ((n : Int) < 9) = false := decide_eq_false (by omega)
    unfold TakeP at TK
    clear hl h y v hn g
    go_enter Try.func29, Try.ntmps29
    go_upto_region 4 with (first | (refine wpList_putB rfl _ _ _ rfl rfl rfl q2 (by rfl) (by rfl) (by rfl) ?_; intro w2 q4 hg; replace b0 := b0.grown hg (Nat.le_refl _)) | (go_at_call 31; (with_reducible refine TK.out.mono ?_); rintro e w1 ⟨⟨A1, m, c1, rfl, m1⟩, hb⟩; replace b0 := b0.below hb; replace q2 := q2.below hb))
    go_wp2_with (first | (refine wpList_getB rfl _ _ rfl rfl q4 Try.underlying41 rfl (by rfl) ?_) | (refine wpList_putB rfl _ _ _ rfl rfl rfl q4 (by rfl) (by rfl) (by rfl) ?_; intro w3 q5 hg; replace b0 := b0.grown hg (Nat.le_refl _)))
    exact res2ct rfl rfl rfl rfl q5 Try.underlying41 rfl (by rfl) ⟨rfl, b0.out⟩

set_option maxHeartbeats 1000000 in
theorem rHead (A : Option Addr) (n c : Nat) (l : List Int) (w : World) (h : Byt w A n c l) (hn : n ≤ 140737488355328) : Calls Try.prog 16 #[.slice A n c] w (HdP l w) := by
  have hl := h.len
  have b0 := (Bel.refl w).alloc (.cells #[.int .i64 0, .int .u8 0, .int .u8 0, .int .i64 0] 41)
  have q2 := Blk.new w 41 #[.int .i64 0, .int .u8 0, .int .u8 0, .int .i64 0]
  have y := h.alloc (.cells #[.int .i64 0, .int .u8 0, .int .u8 0, .int .i64 0] 41)
  have TK := Lib.hid (rHTake A n c l _ y hn)
  by_cases g : n < 9
  · have v : hL l = 0 ∧ hK l = 0 ∧ hF l = 0 ∧ hS l = 0 ∧ hOk l = false := by
      unfold hL hK hF hS hOk
      rw [hl]
      refine ⟨if_pos g, if_pos g, if_pos g, if_pos g, decide_eq_false (by omega)⟩
    unfold HdP
    rw [v.1, v.2.1, v.2.2.1, v.2.2.2.1, v.2.2.2.2]
    have g1 : decide ((n : Int) < 9) = true := decide_eq_true (by omega)
    clear hl h y v TK hn g
    go_enter Try.func16, Try.ntmps16
    go_wp2_with (first | (refine wpList_getB rfl _ _ rfl rfl q2 Try.underlying41 rfl (by rfl) ?_) | (refine wpList_putB rfl _ _ _ rfl rfl rfl q2 (by rfl) (by rfl) (by rfl) ?_; intro w2 q4 hg; replace b0 := b0.grown hg (Nat.le_refl _)))
    exact res2ct rfl rfl rfl rfl q4 Try.underlying41 rfl (by rfl) ⟨rfl, b0.out⟩
  · have v : hOk l = true := decide_eq_true (by omega)
    unfold HdP
    rw [v]
    have g1 : decide ((n : Int) < 9) = false := decide_eq_false (by omega)
    unfold TakeP at TK
    clear hl h y v hn g
    go_enter Try.func16, Try.ntmps16
    go_upto_region 4 with (first | (go_at_call 14; (with_reducible refine TK.out.mono ?_); rintro e w1 ⟨⟨A1, m, c1, rfl, m1⟩, hb⟩; replace b0 := b0.below hb; replace q2 := q2.below hb; have hz := q2.lt; have hz2 := b0.out.size; have q5 := Blk.new w1 41 #[.int .i64 (hL l), .int .u8 (hK l), .int .u8 (hF l), .int .i64 (hS l)]; replace b0 := b0.alloc (.cells #[.int .i64 (hL l), .int .u8 (hK l), .int .u8 (hF l), .int .i64 (hS l)] 41); replace q2 := q2.alloc (.cells #[.int .i64 (hL l), .int .u8 (hK l), .int .u8 (hF l), .int .i64 (hS l)] 41)))
    go_wp2_with (first | (refine wpList_getB rfl _ _ rfl rfl q5 Try.underlying41 rfl (by rfl) ?_) | (refine wpList_putB rfl _ _ _ rfl rfl rfl q2 (by rfl) (by rfl) (by rfl) ?_; intro w3 q6 hg; replace b0 := b0.grown hg (Nat.le_refl _)))
    exact res2ct rfl rfl rfl rfl q6 Try.underlying41 rfl (by rfl) ⟨rfl, b0.out⟩

def Own1 (f : Nat) (p : Int) (A : Option Addr) (n c : Nat) (l : List Int) (w : World) : Prop := Calls Try.prog f #[.agg #[.int .i64 p, .slice A n c]] w (RdP p n l w)
set_option maxHeartbeats 1000000 in
theorem fROwn (p : Int) (A : Option Addr) (n c : Nat) (l : List Int) (w : World) (h : Byt w A n c l) (hn : n ≤ 140737488355328) : Calls Try.prog 20 #[.agg #[.int .i64 p, .slice A n c]] w (RdP p n l w) := by
  have b0 := ((Bel.refl w).alloc (.cells #[.int .i64 p, .slice A n c] 24)).alloc (.cells #[.int .i64 0, .slice none 0 0] 24)
  have y := (h.alloc (.cells #[.int .i64 p, .slice A n c] 24)).alloc (.cells #[.int .i64 0, .slice none 0 0] 24)
  have q0 := (Blk.new w 24 #[.int .i64 p, .slice A n c]).alloc (.cells #[.int .i64 0, .slice none 0 0] 24)
  have q1 := Blk.newAt (b := w.heap.size + 1) (w.alloc (.cells #[.int .i64 p, .slice A n c] 24)) 24 #[.int .i64 0, .slice none 0 0] (by simp)
  have sz := b0.out.size
  have z1 := q0.at 1 rfl
  clear h
  go_enter Try.func20, Try.ntmps20
  go_wp2_with fail
  refine (fClone _ _ _ _ _ y hn).mono ?_
  rintro e w1 ⟨A1, c1, rfl, m1, hb⟩
  replace b0 := (b0).below hb; replace q0 := (q0).below hb; replace q1 := (q1).below hb
  clear z1 y
  have z1 := q0.at 1 rfl
  have f1 := q0.frozen 1
  have q2 : Blk (w1.setCell ⟨w.heap.size, 1, none⟩ (.slice A1 n c1)) w.heap.size 24 #[.int .i64 p, .slice A1 n c1] := q0.set 1 (.slice A1 n c1)
  have q3 := q1.setFar (p := ⟨w.heap.size, 1, none⟩) (by simp) (.slice A1 n c1)
  have m2 := m1.farB q0 (by decide) 1 (.slice A1 n c1)
  have b2 := b0.set (p := ⟨w.heap.size, 1, none⟩) (Nat.le_refl _) (.slice A1 n c1)
  clear q0 q1 m1 b0 hb
  go_wp2_with (first | (refine wpList_getB rfl _ _ rfl rfl q2 Try.underlying24 rfl (by rfl) ?_) | (refine wpList_putB rfl _ _ _ rfl rfl rfl q3 (by rfl) (by rfl) (by rfl) ?_; intro w2 q4 hg; replace b2 := b2.grown hg (Nat.le_succ _); replace m2 := m2.grownB q3 (by decide) hg))
  exact res1 rfl rfl rfl q4 Try.underlying24 rfl (by rfl) ⟨A1, c1, rfl, m2.base_le (by simp; omega), b2.out⟩

set_option maxHeartbeats 600000 in
theorem fRSame (p : Int) (A : Option Addr) (n c : Nat) (l : List Int) (p' : Int) (B : Option Addr) (m d : Nat) (l' : List Int) (w : World) (h : Byt w A n c l) (h' : Byt w B m d l') :
    Calls Try.prog 17 #[.agg #[.int .i64 p, .slice A n c], .agg #[.int .i64 p', .slice B m d]] w (BoolP (sameC p l p' l') w) := by
  have b0 := ((Bel.refl w).alloc (.cells #[.int .i64 p, .slice A n c] 24)).alloc (.cells #[.int .i64 p', .slice B m d] 24)
  have y := (h.alloc (.cells #[.int .i64 p, .slice A n c] 24)).alloc (.cells #[.int .i64 p', .slice B m d] 24)
  have y' := (h'.alloc (.cells #[.int .i64 p, .slice A n c] 24)).alloc (.cells #[.int .i64 p', .slice B m d] 24)
  clear h h'
  unfold sameC
  cases g1 : (p == p')
  · go_enter Try.func17, Try.ntmps17
    go_wp2
    go_ret
    exact ⟨rfl, b0.out⟩
  go_enter Try.func17, Try.ntmps17
  go_wp2_with (go_at_call 28; refine (fEqual _ _ _ _ _ _ _ _ _ y y').mono ?_; rintro e w' ⟨rfl, rfl⟩)
  go_ret
  exact ⟨by simp, b0.out⟩
set_option maxHeartbeats 600000 in
theorem rRSame (p : Int) (A : Option Addr) (n c : Nat) (l : List Int) (p' : Int) (B : Option Addr) (m d : Nat) (l' : List Int) (w : World) (h : Byt w A n c l) (h' : Byt w B m d l') :
    Calls Try.prog 11 #[.agg #[.int .i64 p, .slice A n c], .agg #[.int .i64 p', .slice B m d]] w (BoolP (sameC p l p' l') w) := by
  have b0 := ((Bel.refl w).alloc (.cells #[.int .i64 p, .slice A n c] 24)).alloc (.cells #[.int .i64 p', .slice B m d] 24)
  have y := (h.alloc (.cells #[.int .i64 p, .slice A n c] 24)).alloc (.cells #[.int .i64 p', .slice B m d] 24)
  have y' := (h'.alloc (.cells #[.int .i64 p, .slice A n c] 24)).alloc (.cells #[.int .i64 p', .slice B m d] 24)
  have e1 := y.conv
  have e2 := y'.conv
  have e3 := strOf_eq h.bs h'.bs
  clear h h' y y'
  unfold sameC
  cases g1 : (p == p')
  · go_enter Try.func11, Try.ntmps11
    go_wp2
    go_ret
    exact ⟨rfl, b0.out⟩
  go_enter Try.func11, Try.ntmps11
  go_wp2
  go_ret
  exact ⟨by simp, b0.out⟩
end Go.Proofs.Ythcnfalfhdeflaa
