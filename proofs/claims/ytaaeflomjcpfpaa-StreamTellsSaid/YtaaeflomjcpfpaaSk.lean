/- Streams that are over: the contracts. -/
import Derived.Test.YtaaeflomjcpfpaaSg
import Derived.Test.YtaaeflomjcpfpaaSh
import Derived.Test.YtaaeflomjcpfpaaSi
import Derived.Test.YtaaeflomjcpfpaaSx
namespace Go.Proofs.Ytaaeflomjcpfpaa
open Go.RowKit Go.Shelf
set_option linter.unusedVariables false

def overS (s : Str) (x : Int) : Str :=
  if RightS s ∧ x < 7 ∧ x ≠ 0 then (if ansB x then { s with st := x } else { s with st := x, out := [], en := false, sl := -1 }) else s
theorem overS_no {s : Str} {x : Int} (h : ¬(RightS s ∧ x < 7 ∧ x ≠ 0)) : overS s x = s := if_neg h
theorem overS_a {s : Str} {x : Int} (h : RightS s ∧ x < 7 ∧ x ≠ 0) (a : ansB x = true) : overS s x = { s with st := x } := by unfold overS; rw [if_pos h, if_pos a]
theorem overS_b {s : Str} {x : Int} (h : RightS s ∧ x < 7 ∧ x ≠ 0) (a : ansB x = false) : overS s x = { s with st := x, out := [], en := false, sl := -1 } := by unfold overS; rw [if_pos h, a]; rfl
theorem Mine.hide {base : Nat} {w : World} : Mine base w none 0 0 [] := Mine.nil _ _
set_option maxHeartbeats 2000000 in
theorem fOverno1 (s : Str) (ok : StrOk s) (x : Int) (x0 : 0 ≤ x) (A : Option Addr) (n c : Nat) (w : World) (h : Byt w A n c s.out) (hn : n ≤ 100000) (e0 : rightS s = false) : Calls Try.prog 24 #[.agg #[.int .i64 (s).id, .int .u8 (s).st, .int .i64 (s).sd, .int .i64 (s).rc, .int .i64 (s).ow, .bool (s).an, .bool (s).en, .slice A n c, .int .u8 (s).ur, .bool (s).inc, .int .i64 (s).sl], .int .u8 x] w (StP (s) w) := by
  have hc := h.cap; have hx := h.mx; have hl := h.len
  have RT := Lib.hid fun (A : Option Addr) (c : Nat) W => fSRight s ok A n c W hl (by omega)
  rw [e0] at RT
  have b0 := ((Bel.refl w).alloc (.cells #[.int .i64 (s).id, .int .u8 (s).st, .int .i64 (s).sd, .int .i64 (s).rc, .int .i64 (s).ow, .bool (s).an, .bool (s).en, .slice A n c, .int .u8 (s).ur, .bool (s).inc, .int .i64 (s).sl] 24)).alloc (.cells #[.int .i64 0, .int .u8 0, .int .i64 0, .int .i64 0, .int .i64 0, .bool false, .bool false, .slice none 0 0, .int .u8 0, .bool false, .int .i64 0] 24)
  have q0 := (Blk.new w 24 #[.int .i64 (s).id, .int .u8 (s).st, .int .i64 (s).sd, .int .i64 (s).rc, .int .i64 (s).ow, .bool (s).an, .bool (s).en, .slice A n c, .int .u8 (s).ur, .bool (s).inc, .int .i64 (s).sl]).alloc (.cells #[.int .i64 0, .int .u8 0, .int .i64 0, .int .i64 0, .int .i64 0, .bool false, .bool false, .slice none 0 0, .int .u8 0, .bool false, .int .i64 0] 24)
  have qr := Blk.newAt (b := w.heap.size + 1) (w.alloc (.cells #[.int .i64 (s).id, .int .u8 (s).st, .int .i64 (s).sd, .int .i64 (s).rc, .int .i64 (s).ow, .bool (s).an, .bool (s).en, .slice A n c, .int .u8 (s).ur, .bool (s).inc, .int .i64 (s).sl] 24)) 24 #[.int .i64 0, .int .u8 0, .int .i64 0, .int .i64 0, .int .i64 0, .bool false, .bool false, .slice none 0 0, .int .u8 0, .bool false, .int .i64 0] (by simp)
  have y := (h.alloc (.cells #[.int .i64 (s).id, .int .u8 (s).st, .int .i64 (s).sd, .int .i64 (s).rc, .int .i64 (s).ow, .bool (s).an, .bool (s).en, .slice A n c, .int .u8 (s).ur, .bool (s).inc, .int .i64 (s).sl] 24)).alloc (.cells #[.int .i64 0, .int .u8 0, .int .i64 0, .int .i64 0, .int .i64 0, .bool false, .bool false, .slice none 0 0, .int .u8 0, .bool false, .int .i64 0] 24)
  have sz := b0.out.size
  have HL := Lib.hid hl
  clear h hl e0
  go_enter Try.func24, Try.ntmps24
  go_wp2_with (first
    | (go_at_call 33; (with_reducible refine (fSOwn s A n c _ y (by omega)).mono ?_); rintro e w9 ⟨A1, n1, c1, rfl, m1, hb⟩; replace b0 := b0.below hb; (try replace q0 := q0.below hb); (try replace qr := qr.below hb); (try replace qo := qo.below hb); (try replace m1 := m1.below hb); have hN := hb.size; simp only [World.size_alloc] at hN; have qo := Blk.new w9 24 #[.int .i64 (s).id, .int .u8 (s).st, .int .i64 (s).sd, .int .i64 (s).rc, .int .i64 (s).ow, .bool (s).an, .bool (s).en, .slice A1 n1 c1, .int .u8 (s).ur, .bool (s).inc, .int .i64 (s).sl]; replace m1 := m1.alloc (.cells #[.int .i64 (s).id, .int .u8 (s).st, .int .i64 (s).sd, .int .i64 (s).rc, .int .i64 (s).ow, .bool (s).an, .bool (s).en, .slice A1 n1 c1, .int .u8 (s).ur, .bool (s).inc, .int .i64 (s).sl] 24); replace q0 := q0.alloc (.cells #[.int .i64 (s).id, .int .u8 (s).st, .int .i64 (s).sd, .int .i64 (s).rc, .int .i64 (s).ow, .bool (s).an, .bool (s).en, .slice A1 n1 c1, .int .u8 (s).ur, .bool (s).inc, .int .i64 (s).sl] 24); replace qr := qr.alloc (.cells #[.int .i64 (s).id, .int .u8 (s).st, .int .i64 (s).sd, .int .i64 (s).rc, .int .i64 (s).ow, .bool (s).an, .bool (s).en, .slice A1 n1 c1, .int .u8 (s).ur, .bool (s).inc, .int .i64 (s).sl] 24); replace b0 := b0.alloc (.cells #[.int .i64 (s).id, .int .u8 (s).st, .int .i64 (s).sd, .int .i64 (s).rc, .int .i64 (s).ow, .bool (s).an, .bool (s).en, .slice A1 n1 c1, .int .u8 (s).ur, .bool (s).inc, .int .i64 (s).sl] 24); clear hb y)
    | (go_at_call 30; (with_reducible refine (RT.out _ _ _).mono ?_); rintro e w9 ⟨rfl, hb⟩; replace b0 := b0.below hb; (try replace q0 := q0.below hb); (try replace qr := qr.below hb); (try replace qo := qo.below hb); (try replace m1 := m1.below hb))
    | (go_at_call 28; (with_reducible refine (AN.out _).mono ?_); rintro e w9 ⟨rfl, rfl⟩)
    | (refine wpList_getB rfl _ _ rfl rfl q0 Try.underlying24 rfl (by rfl) ?_)
    | (refine wpList_getB rfl _ _ rfl rfl qo Try.underlying24 rfl (by rfl) ?_)
    | (refine wpList_putB rfl _ _ _ rfl rfl rfl qr (by rfl) (by rfl) (by rfl) ?_; intro w9 qn hg; replace b0 := b0.grown hg (by omega); (try replace m1 := m1.grownB qr (by decide) hg); (try replace q0 := q0.grown hg (by omega)); (try replace qo := qo.grown hg (by omega)); clear hg qr; have qr := qn; clear qn)
    | (refine wpList_putF rfl _ _ _ rfl rfl rfl qo rfl (by rfl) (by rfl) ?_; intro w9 qn hg; (try simp only [List.setIfInBounds_toArray, List.set_cons_succ, List.set_cons_zero] at qn); replace b0 := b0.grown hg (by omega); (try replace m1 := m1.grownB qo (by decide) hg); (try replace q0 := q0.grown hg (by omega)); (try replace qr := qr.grown hg (by omega)); clear hg qo; have qo := qn; clear qn))
  exact res1 rfl rfl rfl qr Try.underlying24 rfl (by rfl) ⟨_, _, _, rfl, m1.base_le (by simp; omega), b0.out⟩
set_option maxHeartbeats 2000000 in
theorem fOverno2 (s : Str) (ok : StrOk s) (x : Int) (x0 : 0 ≤ x) (A : Option Addr) (n c : Nat) (w : World) (h : Byt w A n c s.out) (hn : n ≤ 100000) (e0 : rightS s = true) (e1 : decide (7 ≤ x) = true) : Calls Try.prog 24 #[.agg #[.int .i64 (s).id, .int .u8 (s).st, .int .i64 (s).sd, .int .i64 (s).rc, .int .i64 (s).ow, .bool (s).an, .bool (s).en, .slice A n c, .int .u8 (s).ur, .bool (s).inc, .int .i64 (s).sl], .int .u8 x] w (StP (s) w) := by
  have hc := h.cap; have hx := h.mx; have hl := h.len
  have RT := Lib.hid fun (A : Option Addr) (c : Nat) W => fSRight s ok A n c W hl (by omega)
  rw [e0] at RT
  have b0 := ((Bel.refl w).alloc (.cells #[.int .i64 (s).id, .int .u8 (s).st, .int .i64 (s).sd, .int .i64 (s).rc, .int .i64 (s).ow, .bool (s).an, .bool (s).en, .slice A n c, .int .u8 (s).ur, .bool (s).inc, .int .i64 (s).sl] 24)).alloc (.cells #[.int .i64 0, .int .u8 0, .int .i64 0, .int .i64 0, .int .i64 0, .bool false, .bool false, .slice none 0 0, .int .u8 0, .bool false, .int .i64 0] 24)
  have q0 := (Blk.new w 24 #[.int .i64 (s).id, .int .u8 (s).st, .int .i64 (s).sd, .int .i64 (s).rc, .int .i64 (s).ow, .bool (s).an, .bool (s).en, .slice A n c, .int .u8 (s).ur, .bool (s).inc, .int .i64 (s).sl]).alloc (.cells #[.int .i64 0, .int .u8 0, .int .i64 0, .int .i64 0, .int .i64 0, .bool false, .bool false, .slice none 0 0, .int .u8 0, .bool false, .int .i64 0] 24)
  have qr := Blk.newAt (b := w.heap.size + 1) (w.alloc (.cells #[.int .i64 (s).id, .int .u8 (s).st, .int .i64 (s).sd, .int .i64 (s).rc, .int .i64 (s).ow, .bool (s).an, .bool (s).en, .slice A n c, .int .u8 (s).ur, .bool (s).inc, .int .i64 (s).sl] 24)) 24 #[.int .i64 0, .int .u8 0, .int .i64 0, .int .i64 0, .int .i64 0, .bool false, .bool false, .slice none 0 0, .int .u8 0, .bool false, .int .i64 0] (by simp)
  have y := (h.alloc (.cells #[.int .i64 (s).id, .int .u8 (s).st, .int .i64 (s).sd, .int .i64 (s).rc, .int .i64 (s).ow, .bool (s).an, .bool (s).en, .slice A n c, .int .u8 (s).ur, .bool (s).inc, .int .i64 (s).sl] 24)).alloc (.cells #[.int .i64 0, .int .u8 0, .int .i64 0, .int .i64 0, .int .i64 0, .bool false, .bool false, .slice none 0 0, .int .u8 0, .bool false, .int .i64 0] 24)
  have sz := b0.out.size
  have HL := Lib.hid hl
  clear h hl e0
  go_enter Try.func24, Try.ntmps24
  go_wp2_with (first
    | (go_at_call 33; (with_reducible refine (fSOwn s A n c _ y (by omega)).mono ?_); rintro e w9 ⟨A1, n1, c1, rfl, m1, hb⟩; replace b0 := b0.below hb; (try replace q0 := q0.below hb); (try replace qr := qr.below hb); (try replace qo := qo.below hb); (try replace m1 := m1.below hb); have hN := hb.size; simp only [World.size_alloc] at hN; have qo := Blk.new w9 24 #[.int .i64 (s).id, .int .u8 (s).st, .int .i64 (s).sd, .int .i64 (s).rc, .int .i64 (s).ow, .bool (s).an, .bool (s).en, .slice A1 n1 c1, .int .u8 (s).ur, .bool (s).inc, .int .i64 (s).sl]; replace m1 := m1.alloc (.cells #[.int .i64 (s).id, .int .u8 (s).st, .int .i64 (s).sd, .int .i64 (s).rc, .int .i64 (s).ow, .bool (s).an, .bool (s).en, .slice A1 n1 c1, .int .u8 (s).ur, .bool (s).inc, .int .i64 (s).sl] 24); replace q0 := q0.alloc (.cells #[.int .i64 (s).id, .int .u8 (s).st, .int .i64 (s).sd, .int .i64 (s).rc, .int .i64 (s).ow, .bool (s).an, .bool (s).en, .slice A1 n1 c1, .int .u8 (s).ur, .bool (s).inc, .int .i64 (s).sl] 24); replace qr := qr.alloc (.cells #[.int .i64 (s).id, .int .u8 (s).st, .int .i64 (s).sd, .int .i64 (s).rc, .int .i64 (s).ow, .bool (s).an, .bool (s).en, .slice A1 n1 c1, .int .u8 (s).ur, .bool (s).inc, .int .i64 (s).sl] 24); replace b0 := b0.alloc (.cells #[.int .i64 (s).id, .int .u8 (s).st, .int .i64 (s).sd, .int .i64 (s).rc, .int .i64 (s).ow, .bool (s).an, .bool (s).en, .slice A1 n1 c1, .int .u8 (s).ur, .bool (s).inc, .int .i64 (s).sl] 24); clear hb y)
    | (go_at_call 30; (with_reducible refine (RT.out _ _ _).mono ?_); rintro e w9 ⟨rfl, hb⟩; replace b0 := b0.below hb; (try replace q0 := q0.below hb); (try replace qr := qr.below hb); (try replace qo := qo.below hb); (try replace m1 := m1.below hb))
    | (go_at_call 28; (with_reducible refine (AN.out _).mono ?_); rintro e w9 ⟨rfl, rfl⟩)
    | (refine wpList_getB rfl _ _ rfl rfl q0 Try.underlying24 rfl (by rfl) ?_)
    | (refine wpList_getB rfl _ _ rfl rfl qo Try.underlying24 rfl (by rfl) ?_)
    | (refine wpList_putB rfl _ _ _ rfl rfl rfl qr (by rfl) (by rfl) (by rfl) ?_; intro w9 qn hg; replace b0 := b0.grown hg (by omega); (try replace m1 := m1.grownB qr (by decide) hg); (try replace q0 := q0.grown hg (by omega)); (try replace qo := qo.grown hg (by omega)); clear hg qr; have qr := qn; clear qn)
    | (refine wpList_putF rfl _ _ _ rfl rfl rfl qo rfl (by rfl) (by rfl) ?_; intro w9 qn hg; (try simp only [List.setIfInBounds_toArray, List.set_cons_succ, List.set_cons_zero] at qn); replace b0 := b0.grown hg (by omega); (try replace m1 := m1.grownB qo (by decide) hg); (try replace q0 := q0.grown hg (by omega)); (try replace qr := qr.grown hg (by omega)); clear hg qo; have qo := qn; clear qn))
  exact res1 rfl rfl rfl qr Try.underlying24 rfl (by rfl) ⟨_, _, _, rfl, m1.base_le (by simp; omega), b0.out⟩
set_option maxHeartbeats 2000000 in
theorem fOverno3 (s : Str) (ok : StrOk s) (x : Int) (x0 : 0 ≤ x) (A : Option Addr) (n c : Nat) (w : World) (h : Byt w A n c s.out) (hn : n ≤ 100000) (e0 : rightS s = true) (e1 : decide (7 ≤ x) = false) (e2 : (x == 0) = true) : Calls Try.prog 24 #[.agg #[.int .i64 (s).id, .int .u8 (s).st, .int .i64 (s).sd, .int .i64 (s).rc, .int .i64 (s).ow, .bool (s).an, .bool (s).en, .slice A n c, .int .u8 (s).ur, .bool (s).inc, .int .i64 (s).sl], .int .u8 x] w (StP (s) w) := by
  have hc := h.cap; have hx := h.mx; have hl := h.len
  have RT := Lib.hid fun (A : Option Addr) (c : Nat) W => fSRight s ok A n c W hl (by omega)
  rw [e0] at RT
  have b0 := ((Bel.refl w).alloc (.cells #[.int .i64 (s).id, .int .u8 (s).st, .int .i64 (s).sd, .int .i64 (s).rc, .int .i64 (s).ow, .bool (s).an, .bool (s).en, .slice A n c, .int .u8 (s).ur, .bool (s).inc, .int .i64 (s).sl] 24)).alloc (.cells #[.int .i64 0, .int .u8 0, .int .i64 0, .int .i64 0, .int .i64 0, .bool false, .bool false, .slice none 0 0, .int .u8 0, .bool false, .int .i64 0] 24)
  have q0 := (Blk.new w 24 #[.int .i64 (s).id, .int .u8 (s).st, .int .i64 (s).sd, .int .i64 (s).rc, .int .i64 (s).ow, .bool (s).an, .bool (s).en, .slice A n c, .int .u8 (s).ur, .bool (s).inc, .int .i64 (s).sl]).alloc (.cells #[.int .i64 0, .int .u8 0, .int .i64 0, .int .i64 0, .int .i64 0, .bool false, .bool false, .slice none 0 0, .int .u8 0, .bool false, .int .i64 0] 24)
  have qr := Blk.newAt (b := w.heap.size + 1) (w.alloc (.cells #[.int .i64 (s).id, .int .u8 (s).st, .int .i64 (s).sd, .int .i64 (s).rc, .int .i64 (s).ow, .bool (s).an, .bool (s).en, .slice A n c, .int .u8 (s).ur, .bool (s).inc, .int .i64 (s).sl] 24)) 24 #[.int .i64 0, .int .u8 0, .int .i64 0, .int .i64 0, .int .i64 0, .bool false, .bool false, .slice none 0 0, .int .u8 0, .bool false, .int .i64 0] (by simp)
  have y := (h.alloc (.cells #[.int .i64 (s).id, .int .u8 (s).st, .int .i64 (s).sd, .int .i64 (s).rc, .int .i64 (s).ow, .bool (s).an, .bool (s).en, .slice A n c, .int .u8 (s).ur, .bool (s).inc, .int .i64 (s).sl] 24)).alloc (.cells #[.int .i64 0, .int .u8 0, .int .i64 0, .int .i64 0, .int .i64 0, .bool false, .bool false, .slice none 0 0, .int .u8 0, .bool false, .int .i64 0] 24)
  have sz := b0.out.size
  have HL := Lib.hid hl
  clear h hl e0
  go_enter Try.func24, Try.ntmps24
  go_wp2_with (first
    | (go_at_call 33; (with_reducible refine (fSOwn s A n c _ y (by omega)).mono ?_); rintro e w9 ⟨A1, n1, c1, rfl, m1, hb⟩; replace b0 := b0.below hb; (try replace q0 := q0.below hb); (try replace qr := qr.below hb); (try replace qo := qo.below hb); (try replace m1 := m1.below hb); have hN := hb.size; simp only [World.size_alloc] at hN; have qo := Blk.new w9 24 #[.int .i64 (s).id, .int .u8 (s).st, .int .i64 (s).sd, .int .i64 (s).rc, .int .i64 (s).ow, .bool (s).an, .bool (s).en, .slice A1 n1 c1, .int .u8 (s).ur, .bool (s).inc, .int .i64 (s).sl]; replace m1 := m1.alloc (.cells #[.int .i64 (s).id, .int .u8 (s).st, .int .i64 (s).sd, .int .i64 (s).rc, .int .i64 (s).ow, .bool (s).an, .bool (s).en, .slice A1 n1 c1, .int .u8 (s).ur, .bool (s).inc, .int .i64 (s).sl] 24); replace q0 := q0.alloc (.cells #[.int .i64 (s).id, .int .u8 (s).st, .int .i64 (s).sd, .int .i64 (s).rc, .int .i64 (s).ow, .bool (s).an, .bool (s).en, .slice A1 n1 c1, .int .u8 (s).ur, .bool (s).inc, .int .i64 (s).sl] 24); replace qr := qr.alloc (.cells #[.int .i64 (s).id, .int .u8 (s).st, .int .i64 (s).sd, .int .i64 (s).rc, .int .i64 (s).ow, .bool (s).an, .bool (s).en, .slice A1 n1 c1, .int .u8 (s).ur, .bool (s).inc, .int .i64 (s).sl] 24); replace b0 := b0.alloc (.cells #[.int .i64 (s).id, .int .u8 (s).st, .int .i64 (s).sd, .int .i64 (s).rc, .int .i64 (s).ow, .bool (s).an, .bool (s).en, .slice A1 n1 c1, .int .u8 (s).ur, .bool (s).inc, .int .i64 (s).sl] 24); clear hb y)
    | (go_at_call 30; (with_reducible refine (RT.out _ _ _).mono ?_); rintro e w9 ⟨rfl, hb⟩; replace b0 := b0.below hb; (try replace q0 := q0.below hb); (try replace qr := qr.below hb); (try replace qo := qo.below hb); (try replace m1 := m1.below hb))
    | (go_at_call 28; (with_reducible refine (AN.out _).mono ?_); rintro e w9 ⟨rfl, rfl⟩)
    | (refine wpList_getB rfl _ _ rfl rfl q0 Try.underlying24 rfl (by rfl) ?_)
    | (refine wpList_getB rfl _ _ rfl rfl qo Try.underlying24 rfl (by rfl) ?_)
    | (refine wpList_putB rfl _ _ _ rfl rfl rfl qr (by rfl) (by rfl) (by rfl) ?_; intro w9 qn hg; replace b0 := b0.grown hg (by omega); (try replace m1 := m1.grownB qr (by decide) hg); (try replace q0 := q0.grown hg (by omega)); (try replace qo := qo.grown hg (by omega)); clear hg qr; have qr := qn; clear qn)
    | (refine wpList_putF rfl _ _ _ rfl rfl rfl qo rfl (by rfl) (by rfl) ?_; intro w9 qn hg; (try simp only [List.setIfInBounds_toArray, List.set_cons_succ, List.set_cons_zero] at qn); replace b0 := b0.grown hg (by omega); (try replace m1 := m1.grownB qo (by decide) hg); (try replace q0 := q0.grown hg (by omega)); (try replace qr := qr.grown hg (by omega)); clear hg qo; have qo := qn; clear qn))
  exact res1 rfl rfl rfl qr Try.underlying24 rfl (by rfl) ⟨_, _, _, rfl, m1.base_le (by simp; omega), b0.out⟩
set_option maxHeartbeats 2000000 in
theorem fOvera (s : Str) (ok : StrOk s) (x : Int) (x0 : 0 ≤ x) (A : Option Addr) (n c : Nat) (w : World) (h : Byt w A n c s.out) (hn : n ≤ 100000) (e0 : rightS s = true) (e1 : decide (7 ≤ x) = false) (e2 : (x == 0) = false) (e3 : ansB x = true) : Calls Try.prog 24 #[.agg #[.int .i64 (s).id, .int .u8 (s).st, .int .i64 (s).sd, .int .i64 (s).rc, .int .i64 (s).ow, .bool (s).an, .bool (s).en, .slice A n c, .int .u8 (s).ur, .bool (s).inc, .int .i64 (s).sl], .int .u8 x] w (StP ({ s with st := x }) w) := by
  have hc := h.cap; have hx := h.mx; have hl := h.len
  have RT := Lib.hid fun (A : Option Addr) (c : Nat) W => fSRight s ok A n c W hl (by omega)
  rw [e0] at RT
  have AN := Lib.hid fun W => fAnswers x x0 W
  rw [e3] at AN
  have b0 := ((Bel.refl w).alloc (.cells #[.int .i64 (s).id, .int .u8 (s).st, .int .i64 (s).sd, .int .i64 (s).rc, .int .i64 (s).ow, .bool (s).an, .bool (s).en, .slice A n c, .int .u8 (s).ur, .bool (s).inc, .int .i64 (s).sl] 24)).alloc (.cells #[.int .i64 0, .int .u8 0, .int .i64 0, .int .i64 0, .int .i64 0, .bool false, .bool false, .slice none 0 0, .int .u8 0, .bool false, .int .i64 0] 24)
  have q0 := (Blk.new w 24 #[.int .i64 (s).id, .int .u8 (s).st, .int .i64 (s).sd, .int .i64 (s).rc, .int .i64 (s).ow, .bool (s).an, .bool (s).en, .slice A n c, .int .u8 (s).ur, .bool (s).inc, .int .i64 (s).sl]).alloc (.cells #[.int .i64 0, .int .u8 0, .int .i64 0, .int .i64 0, .int .i64 0, .bool false, .bool false, .slice none 0 0, .int .u8 0, .bool false, .int .i64 0] 24)
  have qr := Blk.newAt (b := w.heap.size + 1) (w.alloc (.cells #[.int .i64 (s).id, .int .u8 (s).st, .int .i64 (s).sd, .int .i64 (s).rc, .int .i64 (s).ow, .bool (s).an, .bool (s).en, .slice A n c, .int .u8 (s).ur, .bool (s).inc, .int .i64 (s).sl] 24)) 24 #[.int .i64 0, .int .u8 0, .int .i64 0, .int .i64 0, .int .i64 0, .bool false, .bool false, .slice none 0 0, .int .u8 0, .bool false, .int .i64 0] (by simp)
  have y := (h.alloc (.cells #[.int .i64 (s).id, .int .u8 (s).st, .int .i64 (s).sd, .int .i64 (s).rc, .int .i64 (s).ow, .bool (s).an, .bool (s).en, .slice A n c, .int .u8 (s).ur, .bool (s).inc, .int .i64 (s).sl] 24)).alloc (.cells #[.int .i64 0, .int .u8 0, .int .i64 0, .int .i64 0, .int .i64 0, .bool false, .bool false, .slice none 0 0, .int .u8 0, .bool false, .int .i64 0] 24)
  have sz := b0.out.size
  have HL := Lib.hid hl
  clear h hl e3 e0
  go_enter Try.func24, Try.ntmps24
  go_wp2_with (first
    | (go_at_call 33; (with_reducible refine (fSOwn s A n c _ y (by omega)).mono ?_); rintro e w9 ⟨A1, n1, c1, rfl, m1, hb⟩; replace b0 := b0.below hb; (try replace q0 := q0.below hb); (try replace qr := qr.below hb); (try replace qo := qo.below hb); (try replace m1 := m1.below hb); have hN := hb.size; simp only [World.size_alloc] at hN; have qo := Blk.new w9 24 #[.int .i64 (s).id, .int .u8 (s).st, .int .i64 (s).sd, .int .i64 (s).rc, .int .i64 (s).ow, .bool (s).an, .bool (s).en, .slice A1 n1 c1, .int .u8 (s).ur, .bool (s).inc, .int .i64 (s).sl]; replace m1 := m1.alloc (.cells #[.int .i64 (s).id, .int .u8 (s).st, .int .i64 (s).sd, .int .i64 (s).rc, .int .i64 (s).ow, .bool (s).an, .bool (s).en, .slice A1 n1 c1, .int .u8 (s).ur, .bool (s).inc, .int .i64 (s).sl] 24); replace q0 := q0.alloc (.cells #[.int .i64 (s).id, .int .u8 (s).st, .int .i64 (s).sd, .int .i64 (s).rc, .int .i64 (s).ow, .bool (s).an, .bool (s).en, .slice A1 n1 c1, .int .u8 (s).ur, .bool (s).inc, .int .i64 (s).sl] 24); replace qr := qr.alloc (.cells #[.int .i64 (s).id, .int .u8 (s).st, .int .i64 (s).sd, .int .i64 (s).rc, .int .i64 (s).ow, .bool (s).an, .bool (s).en, .slice A1 n1 c1, .int .u8 (s).ur, .bool (s).inc, .int .i64 (s).sl] 24); replace b0 := b0.alloc (.cells #[.int .i64 (s).id, .int .u8 (s).st, .int .i64 (s).sd, .int .i64 (s).rc, .int .i64 (s).ow, .bool (s).an, .bool (s).en, .slice A1 n1 c1, .int .u8 (s).ur, .bool (s).inc, .int .i64 (s).sl] 24); clear hb y)
    | (go_at_call 30; (with_reducible refine (RT.out _ _ _).mono ?_); rintro e w9 ⟨rfl, hb⟩; replace b0 := b0.below hb; (try replace q0 := q0.below hb); (try replace qr := qr.below hb); (try replace qo := qo.below hb); (try replace m1 := m1.below hb))
    | (go_at_call 28; (with_reducible refine (AN.out _).mono ?_); rintro e w9 ⟨rfl, rfl⟩)
    | (refine wpList_getB rfl _ _ rfl rfl q0 Try.underlying24 rfl (by rfl) ?_)
    | (refine wpList_getB rfl _ _ rfl rfl qo Try.underlying24 rfl (by rfl) ?_)
    | (refine wpList_putB rfl _ _ _ rfl rfl rfl qr (by rfl) (by rfl) (by rfl) ?_; intro w9 qn hg; replace b0 := b0.grown hg (by omega); (try replace m1 := m1.grownB qr (by decide) hg); (try replace q0 := q0.grown hg (by omega)); (try replace qo := qo.grown hg (by omega)); clear hg qr; have qr := qn; clear qn)
    | (refine wpList_putF rfl _ _ _ rfl rfl rfl qo rfl (by rfl) (by rfl) ?_; intro w9 qn hg; (try simp only [List.setIfInBounds_toArray, List.set_cons_succ, List.set_cons_zero] at qn); replace b0 := b0.grown hg (by omega); (try replace m1 := m1.grownB qo (by decide) hg); (try replace q0 := q0.grown hg (by omega)); (try replace qr := qr.grown hg (by omega)); clear hg qo; have qo := qn; clear qn))
  exact res1 rfl rfl rfl qr Try.underlying24 rfl (by rfl) ⟨_, _, _, rfl, m1.base_le (by simp; omega), b0.out⟩
set_option maxHeartbeats 2000000 in
theorem fOverb (s : Str) (ok : StrOk s) (x : Int) (x0 : 0 ≤ x) (A : Option Addr) (n c : Nat) (w : World) (h : Byt w A n c s.out) (hn : n ≤ 100000) (e0 : rightS s = true) (e1 : decide (7 ≤ x) = false) (e2 : (x == 0) = false) (e3 : ansB x = false) : Calls Try.prog 24 #[.agg #[.int .i64 (s).id, .int .u8 (s).st, .int .i64 (s).sd, .int .i64 (s).rc, .int .i64 (s).ow, .bool (s).an, .bool (s).en, .slice A n c, .int .u8 (s).ur, .bool (s).inc, .int .i64 (s).sl], .int .u8 x] w (StP ({ s with st := x, out := [], en := false, sl := -1 }) w) := by
  have hc := h.cap; have hx := h.mx; have hl := h.len
  have RT := Lib.hid fun (A : Option Addr) (c : Nat) W => fSRight s ok A n c W hl (by omega)
  rw [e0] at RT
  have AN := Lib.hid fun W => fAnswers x x0 W
  rw [e3] at AN
  have b0 := ((Bel.refl w).alloc (.cells #[.int .i64 (s).id, .int .u8 (s).st, .int .i64 (s).sd, .int .i64 (s).rc, .int .i64 (s).ow, .bool (s).an, .bool (s).en, .slice A n c, .int .u8 (s).ur, .bool (s).inc, .int .i64 (s).sl] 24)).alloc (.cells #[.int .i64 0, .int .u8 0, .int .i64 0, .int .i64 0, .int .i64 0, .bool false, .bool false, .slice none 0 0, .int .u8 0, .bool false, .int .i64 0] 24)
  have q0 := (Blk.new w 24 #[.int .i64 (s).id, .int .u8 (s).st, .int .i64 (s).sd, .int .i64 (s).rc, .int .i64 (s).ow, .bool (s).an, .bool (s).en, .slice A n c, .int .u8 (s).ur, .bool (s).inc, .int .i64 (s).sl]).alloc (.cells #[.int .i64 0, .int .u8 0, .int .i64 0, .int .i64 0, .int .i64 0, .bool false, .bool false, .slice none 0 0, .int .u8 0, .bool false, .int .i64 0] 24)
  have qr := Blk.newAt (b := w.heap.size + 1) (w.alloc (.cells #[.int .i64 (s).id, .int .u8 (s).st, .int .i64 (s).sd, .int .i64 (s).rc, .int .i64 (s).ow, .bool (s).an, .bool (s).en, .slice A n c, .int .u8 (s).ur, .bool (s).inc, .int .i64 (s).sl] 24)) 24 #[.int .i64 0, .int .u8 0, .int .i64 0, .int .i64 0, .int .i64 0, .bool false, .bool false, .slice none 0 0, .int .u8 0, .bool false, .int .i64 0] (by simp)
  have y := (h.alloc (.cells #[.int .i64 (s).id, .int .u8 (s).st, .int .i64 (s).sd, .int .i64 (s).rc, .int .i64 (s).ow, .bool (s).an, .bool (s).en, .slice A n c, .int .u8 (s).ur, .bool (s).inc, .int .i64 (s).sl] 24)).alloc (.cells #[.int .i64 0, .int .u8 0, .int .i64 0, .int .i64 0, .int .i64 0, .bool false, .bool false, .slice none 0 0, .int .u8 0, .bool false, .int .i64 0] 24)
  have sz := b0.out.size
  have HL := Lib.hid hl
  clear h hl e3 e0
  go_enter Try.func24, Try.ntmps24
  go_wp2_with (first
    | (go_at_call 33; (with_reducible refine (fSOwn s A n c _ y (by omega)).mono ?_); rintro e w9 ⟨A1, n1, c1, rfl, m1, hb⟩; replace b0 := b0.below hb; (try replace q0 := q0.below hb); (try replace qr := qr.below hb); (try replace qo := qo.below hb); (try replace m1 := m1.below hb); have hN := hb.size; simp only [World.size_alloc] at hN; have qo := Blk.new w9 24 #[.int .i64 (s).id, .int .u8 (s).st, .int .i64 (s).sd, .int .i64 (s).rc, .int .i64 (s).ow, .bool (s).an, .bool (s).en, .slice A1 n1 c1, .int .u8 (s).ur, .bool (s).inc, .int .i64 (s).sl]; replace m1 := m1.alloc (.cells #[.int .i64 (s).id, .int .u8 (s).st, .int .i64 (s).sd, .int .i64 (s).rc, .int .i64 (s).ow, .bool (s).an, .bool (s).en, .slice A1 n1 c1, .int .u8 (s).ur, .bool (s).inc, .int .i64 (s).sl] 24); replace q0 := q0.alloc (.cells #[.int .i64 (s).id, .int .u8 (s).st, .int .i64 (s).sd, .int .i64 (s).rc, .int .i64 (s).ow, .bool (s).an, .bool (s).en, .slice A1 n1 c1, .int .u8 (s).ur, .bool (s).inc, .int .i64 (s).sl] 24); replace qr := qr.alloc (.cells #[.int .i64 (s).id, .int .u8 (s).st, .int .i64 (s).sd, .int .i64 (s).rc, .int .i64 (s).ow, .bool (s).an, .bool (s).en, .slice A1 n1 c1, .int .u8 (s).ur, .bool (s).inc, .int .i64 (s).sl] 24); replace b0 := b0.alloc (.cells #[.int .i64 (s).id, .int .u8 (s).st, .int .i64 (s).sd, .int .i64 (s).rc, .int .i64 (s).ow, .bool (s).an, .bool (s).en, .slice A1 n1 c1, .int .u8 (s).ur, .bool (s).inc, .int .i64 (s).sl] 24); clear hb y)
    | (go_at_call 30; (with_reducible refine (RT.out _ _ _).mono ?_); rintro e w9 ⟨rfl, hb⟩; replace b0 := b0.below hb; (try replace q0 := q0.below hb); (try replace qr := qr.below hb); (try replace qo := qo.below hb); (try replace m1 := m1.below hb))
    | (go_at_call 28; (with_reducible refine (AN.out _).mono ?_); rintro e w9 ⟨rfl, rfl⟩)
    | (refine wpList_getB rfl _ _ rfl rfl q0 Try.underlying24 rfl (by rfl) ?_)
    | (refine wpList_getB rfl _ _ rfl rfl qo Try.underlying24 rfl (by rfl) ?_)
    | (refine wpList_putB rfl _ _ _ rfl rfl rfl qr (by rfl) (by rfl) (by rfl) ?_; intro w9 qn hg; replace b0 := b0.grown hg (by omega); (try replace m1 := m1.grownB qr (by decide) hg); (try replace q0 := q0.grown hg (by omega)); (try replace qo := qo.grown hg (by omega)); clear hg qr; have qr := qn; clear qn)
    | (refine wpList_putF rfl _ _ _ rfl rfl rfl qo rfl (by rfl) (by rfl) ?_; intro w9 qn hg; (try simp only [List.setIfInBounds_toArray, List.set_cons_succ, List.set_cons_zero] at qn); replace b0 := b0.grown hg (by omega); (try replace m1 := m1.grownB qo (by decide) hg); (try replace q0 := q0.grown hg (by omega)); (try replace qr := qr.grown hg (by omega)); clear hg qo; have qo := qn; clear qn))
  exact res1 rfl rfl rfl qr Try.underlying24 rfl (by rfl) ⟨_, _, _, rfl, Mine.nil _ _, b0.out⟩
set_option maxHeartbeats 2000000 in
theorem rOverno1 (s : Str) (ok : StrOk s) (x : Int) (x0 : 0 ≤ x) (A : Option Addr) (n c : Nat) (w : World) (h : Byt w A n c s.out) (hn : n ≤ 100000) (e0 : rightS s = false) : Calls Try.prog 25 #[.agg #[.int .i64 (s).id, .int .u8 (s).st, .int .i64 (s).sd, .int .i64 (s).rc, .int .i64 (s).ow, .bool (s).an, .bool (s).en, .slice A n c, .int .u8 (s).ur, .bool (s).inc, .int .i64 (s).sl], .int .u8 x] w (StP (s) w) := by
  have hc := h.cap; have hx := h.mx; have hl := h.len
  have RT := Lib.hid fun (A : Option Addr) (c : Nat) W => rSRight s ok A n c W hl (by omega)
  rw [e0] at RT
  have b0 := ((Bel.refl w).alloc (.cells #[.int .i64 (s).id, .int .u8 (s).st, .int .i64 (s).sd, .int .i64 (s).rc, .int .i64 (s).ow, .bool (s).an, .bool (s).en, .slice A n c, .int .u8 (s).ur, .bool (s).inc, .int .i64 (s).sl] 24)).alloc (.cells #[.int .i64 0, .int .u8 0, .int .i64 0, .int .i64 0, .int .i64 0, .bool false, .bool false, .slice none 0 0, .int .u8 0, .bool false, .int .i64 0] 24)
  have q0 := (Blk.new w 24 #[.int .i64 (s).id, .int .u8 (s).st, .int .i64 (s).sd, .int .i64 (s).rc, .int .i64 (s).ow, .bool (s).an, .bool (s).en, .slice A n c, .int .u8 (s).ur, .bool (s).inc, .int .i64 (s).sl]).alloc (.cells #[.int .i64 0, .int .u8 0, .int .i64 0, .int .i64 0, .int .i64 0, .bool false, .bool false, .slice none 0 0, .int .u8 0, .bool false, .int .i64 0] 24)
  have qr := Blk.newAt (b := w.heap.size + 1) (w.alloc (.cells #[.int .i64 (s).id, .int .u8 (s).st, .int .i64 (s).sd, .int .i64 (s).rc, .int .i64 (s).ow, .bool (s).an, .bool (s).en, .slice A n c, .int .u8 (s).ur, .bool (s).inc, .int .i64 (s).sl] 24)) 24 #[.int .i64 0, .int .u8 0, .int .i64 0, .int .i64 0, .int .i64 0, .bool false, .bool false, .slice none 0 0, .int .u8 0, .bool false, .int .i64 0] (by simp)
  have y := (h.alloc (.cells #[.int .i64 (s).id, .int .u8 (s).st, .int .i64 (s).sd, .int .i64 (s).rc, .int .i64 (s).ow, .bool (s).an, .bool (s).en, .slice A n c, .int .u8 (s).ur, .bool (s).inc, .int .i64 (s).sl] 24)).alloc (.cells #[.int .i64 0, .int .u8 0, .int .i64 0, .int .i64 0, .int .i64 0, .bool false, .bool false, .slice none 0 0, .int .u8 0, .bool false, .int .i64 0] 24)
  have sz := b0.out.size
  have HL := Lib.hid hl
  clear h hl e0
  go_enter Try.func25, Try.ntmps25
  go_wp2_with (first
    | (go_at_call 36; (with_reducible refine (rSOwn s A n c _ y (by omega)).mono ?_); rintro e w9 ⟨A1, n1, c1, rfl, m1, hb⟩; obtain rfl : n1 = n := (by have h1 := m1.len; have h2 := HL.out; omega); replace b0 := b0.below hb; (try replace q0 := q0.below hb); (try replace qr := qr.below hb); (try replace m1 := m1.below hb); clear hb y)
    | (go_at_call 31; (with_reducible refine (RT.out _ _ _).mono ?_); rintro e w9 ⟨rfl, hb⟩; replace b0 := b0.below hb; (try replace q0 := q0.below hb); (try replace qr := qr.below hb); (try replace m1 := m1.below hb))
    | (go_at_call 29; (with_reducible refine (AN.out _).mono ?_); rintro e w9 ⟨rfl, rfl⟩)
    | (refine wpList_getB rfl _ _ rfl rfl q0 Try.underlying24 rfl (by rfl) ?_)
    | (refine wpList_putB rfl _ _ _ rfl rfl rfl qr (by rfl) (by rfl) (by rfl) ?_; intro w9 qn hg; replace b0 := b0.grown hg (by omega); (try replace m1 := m1.grownB qr (by decide) hg); (try replace q0 := q0.grown hg (by omega)); clear hg qr; have qr := qn; clear qn)
    | (refine wpList_putF rfl _ _ _ rfl rfl rfl q0 rfl (by rfl) (by rfl) ?_; intro w9 qn hg; (try simp only [List.setIfInBounds_toArray, List.set_cons_succ, List.set_cons_zero] at qn); replace b0 := b0.grown hg (by omega); (try replace m1 := m1.grownB q0 (by decide) hg); (try replace qr := qr.grown hg (by omega)); clear hg q0; have q0 := qn; clear qn)
    | (refine wpList_putB rfl _ _ _ rfl rfl rfl q0 (by rfl) (by rfl) (by rfl) ?_; intro w9 qn hg; replace b0 := b0.grown hg (by omega); (try replace m1 := m1.grownB q0 (by decide) hg); (try replace qr := qr.grown hg (by omega)); clear hg q0; have q0 := qn; clear qn))
  exact res1 rfl rfl rfl qr Try.underlying24 rfl (by rfl) ⟨_, _, _, rfl, m1.base_le (by simp; omega), b0.out⟩
set_option maxHeartbeats 2000000 in
theorem rOverno2 (s : Str) (ok : StrOk s) (x : Int) (x0 : 0 ≤ x) (A : Option Addr) (n c : Nat) (w : World) (h : Byt w A n c s.out) (hn : n ≤ 100000) (e0 : rightS s = true) (e1 : decide (7 ≤ x) = true) : Calls Try.prog 25 #[.agg #[.int .i64 (s).id, .int .u8 (s).st, .int .i64 (s).sd, .int .i64 (s).rc, .int .i64 (s).ow, .bool (s).an, .bool (s).en, .slice A n c, .int .u8 (s).ur, .bool (s).inc, .int .i64 (s).sl], .int .u8 x] w (StP (s) w) := by
  have hc := h.cap; have hx := h.mx; have hl := h.len
  have RT := Lib.hid fun (A : Option Addr) (c : Nat) W => rSRight s ok A n c W hl (by omega)
  rw [e0] at RT
  have b0 := ((Bel.refl w).alloc (.cells #[.int .i64 (s).id, .int .u8 (s).st, .int .i64 (s).sd, .int .i64 (s).rc, .int .i64 (s).ow, .bool (s).an, .bool (s).en, .slice A n c, .int .u8 (s).ur, .bool (s).inc, .int .i64 (s).sl] 24)).alloc (.cells #[.int .i64 0, .int .u8 0, .int .i64 0, .int .i64 0, .int .i64 0, .bool false, .bool false, .slice none 0 0, .int .u8 0, .bool false, .int .i64 0] 24)
  have q0 := (Blk.new w 24 #[.int .i64 (s).id, .int .u8 (s).st, .int .i64 (s).sd, .int .i64 (s).rc, .int .i64 (s).ow, .bool (s).an, .bool (s).en, .slice A n c, .int .u8 (s).ur, .bool (s).inc, .int .i64 (s).sl]).alloc (.cells #[.int .i64 0, .int .u8 0, .int .i64 0, .int .i64 0, .int .i64 0, .bool false, .bool false, .slice none 0 0, .int .u8 0, .bool false, .int .i64 0] 24)
  have qr := Blk.newAt (b := w.heap.size + 1) (w.alloc (.cells #[.int .i64 (s).id, .int .u8 (s).st, .int .i64 (s).sd, .int .i64 (s).rc, .int .i64 (s).ow, .bool (s).an, .bool (s).en, .slice A n c, .int .u8 (s).ur, .bool (s).inc, .int .i64 (s).sl] 24)) 24 #[.int .i64 0, .int .u8 0, .int .i64 0, .int .i64 0, .int .i64 0, .bool false, .bool false, .slice none 0 0, .int .u8 0, .bool false, .int .i64 0] (by simp)
  have y := (h.alloc (.cells #[.int .i64 (s).id, .int .u8 (s).st, .int .i64 (s).sd, .int .i64 (s).rc, .int .i64 (s).ow, .bool (s).an, .bool (s).en, .slice A n c, .int .u8 (s).ur, .bool (s).inc, .int .i64 (s).sl] 24)).alloc (.cells #[.int .i64 0, .int .u8 0, .int .i64 0, .int .i64 0, .int .i64 0, .bool false, .bool false, .slice none 0 0, .int .u8 0, .bool false, .int .i64 0] 24)
  have sz := b0.out.size
  have HL := Lib.hid hl
  clear h hl e0
  go_enter Try.func25, Try.ntmps25
  go_wp2_with (first
    | (go_at_call 36; (with_reducible refine (rSOwn s A n c _ y (by omega)).mono ?_); rintro e w9 ⟨A1, n1, c1, rfl, m1, hb⟩; obtain rfl : n1 = n := (by have h1 := m1.len; have h2 := HL.out; omega); replace b0 := b0.below hb; (try replace q0 := q0.below hb); (try replace qr := qr.below hb); (try replace m1 := m1.below hb); clear hb y)
    | (go_at_call 31; (with_reducible refine (RT.out _ _ _).mono ?_); rintro e w9 ⟨rfl, hb⟩; replace b0 := b0.below hb; (try replace q0 := q0.below hb); (try replace qr := qr.below hb); (try replace m1 := m1.below hb))
    | (go_at_call 29; (with_reducible refine (AN.out _).mono ?_); rintro e w9 ⟨rfl, rfl⟩)
    | (refine wpList_getB rfl _ _ rfl rfl q0 Try.underlying24 rfl (by rfl) ?_)
    | (refine wpList_putB rfl _ _ _ rfl rfl rfl qr (by rfl) (by rfl) (by rfl) ?_; intro w9 qn hg; replace b0 := b0.grown hg (by omega); (try replace m1 := m1.grownB qr (by decide) hg); (try replace q0 := q0.grown hg (by omega)); clear hg qr; have qr := qn; clear qn)
    | (refine wpList_putF rfl _ _ _ rfl rfl rfl q0 rfl (by rfl) (by rfl) ?_; intro w9 qn hg; (try simp only [List.setIfInBounds_toArray, List.set_cons_succ, List.set_cons_zero] at qn); replace b0 := b0.grown hg (by omega); (try replace m1 := m1.grownB q0 (by decide) hg); (try replace qr := qr.grown hg (by omega)); clear hg q0; have q0 := qn; clear qn)
    | (refine wpList_putB rfl _ _ _ rfl rfl rfl q0 (by rfl) (by rfl) (by rfl) ?_; intro w9 qn hg; replace b0 := b0.grown hg (by omega); (try replace m1 := m1.grownB q0 (by decide) hg); (try replace qr := qr.grown hg (by omega)); clear hg q0; have q0 := qn; clear qn))
  exact res1 rfl rfl rfl qr Try.underlying24 rfl (by rfl) ⟨_, _, _, rfl, m1.base_le (by simp; omega), b0.out⟩
set_option maxHeartbeats 2000000 in
theorem rOverno3 (s : Str) (ok : StrOk s) (x : Int) (x0 : 0 ≤ x) (A : Option Addr) (n c : Nat) (w : World) (h : Byt w A n c s.out) (hn : n ≤ 100000) (e0 : rightS s = true) (e1 : decide (7 ≤ x) = false) (e2 : (x == 0) = true) : Calls Try.prog 25 #[.agg #[.int .i64 (s).id, .int .u8 (s).st, .int .i64 (s).sd, .int .i64 (s).rc, .int .i64 (s).ow, .bool (s).an, .bool (s).en, .slice A n c, .int .u8 (s).ur, .bool (s).inc, .int .i64 (s).sl], .int .u8 x] w (StP (s) w) := by
  have hc := h.cap; have hx := h.mx; have hl := h.len
  have RT := Lib.hid fun (A : Option Addr) (c : Nat) W => rSRight s ok A n c W hl (by omega)
  rw [e0] at RT
  have b0 := ((Bel.refl w).alloc (.cells #[.int .i64 (s).id, .int .u8 (s).st, .int .i64 (s).sd, .int .i64 (s).rc, .int .i64 (s).ow, .bool (s).an, .bool (s).en, .slice A n c, .int .u8 (s).ur, .bool (s).inc, .int .i64 (s).sl] 24)).alloc (.cells #[.int .i64 0, .int .u8 0, .int .i64 0, .int .i64 0, .int .i64 0, .bool false, .bool false, .slice none 0 0, .int .u8 0, .bool false, .int .i64 0] 24)
  have q0 := (Blk.new w 24 #[.int .i64 (s).id, .int .u8 (s).st, .int .i64 (s).sd, .int .i64 (s).rc, .int .i64 (s).ow, .bool (s).an, .bool (s).en, .slice A n c, .int .u8 (s).ur, .bool (s).inc, .int .i64 (s).sl]).alloc (.cells #[.int .i64 0, .int .u8 0, .int .i64 0, .int .i64 0, .int .i64 0, .bool false, .bool false, .slice none 0 0, .int .u8 0, .bool false, .int .i64 0] 24)
  have qr := Blk.newAt (b := w.heap.size + 1) (w.alloc (.cells #[.int .i64 (s).id, .int .u8 (s).st, .int .i64 (s).sd, .int .i64 (s).rc, .int .i64 (s).ow, .bool (s).an, .bool (s).en, .slice A n c, .int .u8 (s).ur, .bool (s).inc, .int .i64 (s).sl] 24)) 24 #[.int .i64 0, .int .u8 0, .int .i64 0, .int .i64 0, .int .i64 0, .bool false, .bool false, .slice none 0 0, .int .u8 0, .bool false, .int .i64 0] (by simp)
  have y := (h.alloc (.cells #[.int .i64 (s).id, .int .u8 (s).st, .int .i64 (s).sd, .int .i64 (s).rc, .int .i64 (s).ow, .bool (s).an, .bool (s).en, .slice A n c, .int .u8 (s).ur, .bool (s).inc, .int .i64 (s).sl] 24)).alloc (.cells #[.int .i64 0, .int .u8 0, .int .i64 0, .int .i64 0, .int .i64 0, .bool false, .bool false, .slice none 0 0, .int .u8 0, .bool false, .int .i64 0] 24)
  have sz := b0.out.size
  have HL := Lib.hid hl
  clear h hl e0
  go_enter Try.func25, Try.ntmps25
  go_wp2_with (first
    | (go_at_call 36; (with_reducible refine (rSOwn s A n c _ y (by omega)).mono ?_); rintro e w9 ⟨A1, n1, c1, rfl, m1, hb⟩; obtain rfl : n1 = n := (by have h1 := m1.len; have h2 := HL.out; omega); replace b0 := b0.below hb; (try replace q0 := q0.below hb); (try replace qr := qr.below hb); (try replace m1 := m1.below hb); clear hb y)
    | (go_at_call 31; (with_reducible refine (RT.out _ _ _).mono ?_); rintro e w9 ⟨rfl, hb⟩; replace b0 := b0.below hb; (try replace q0 := q0.below hb); (try replace qr := qr.below hb); (try replace m1 := m1.below hb))
    | (go_at_call 29; (with_reducible refine (AN.out _).mono ?_); rintro e w9 ⟨rfl, rfl⟩)
    | (refine wpList_getB rfl _ _ rfl rfl q0 Try.underlying24 rfl (by rfl) ?_)
    | (refine wpList_putB rfl _ _ _ rfl rfl rfl qr (by rfl) (by rfl) (by rfl) ?_; intro w9 qn hg; replace b0 := b0.grown hg (by omega); (try replace m1 := m1.grownB qr (by decide) hg); (try replace q0 := q0.grown hg (by omega)); clear hg qr; have qr := qn; clear qn)
    | (refine wpList_putF rfl _ _ _ rfl rfl rfl q0 rfl (by rfl) (by rfl) ?_; intro w9 qn hg; (try simp only [List.setIfInBounds_toArray, List.set_cons_succ, List.set_cons_zero] at qn); replace b0 := b0.grown hg (by omega); (try replace m1 := m1.grownB q0 (by decide) hg); (try replace qr := qr.grown hg (by omega)); clear hg q0; have q0 := qn; clear qn)
    | (refine wpList_putB rfl _ _ _ rfl rfl rfl q0 (by rfl) (by rfl) (by rfl) ?_; intro w9 qn hg; replace b0 := b0.grown hg (by omega); (try replace m1 := m1.grownB q0 (by decide) hg); (try replace qr := qr.grown hg (by omega)); clear hg q0; have q0 := qn; clear qn))
  exact res1 rfl rfl rfl qr Try.underlying24 rfl (by rfl) ⟨_, _, _, rfl, m1.base_le (by simp; omega), b0.out⟩
set_option maxHeartbeats 2000000 in
theorem rOvera (s : Str) (ok : StrOk s) (x : Int) (x0 : 0 ≤ x) (A : Option Addr) (n c : Nat) (w : World) (h : Byt w A n c s.out) (hn : n ≤ 100000) (e0 : rightS s = true) (e1 : decide (7 ≤ x) = false) (e2 : (x == 0) = false) (e3 : ansB x = true) : Calls Try.prog 25 #[.agg #[.int .i64 (s).id, .int .u8 (s).st, .int .i64 (s).sd, .int .i64 (s).rc, .int .i64 (s).ow, .bool (s).an, .bool (s).en, .slice A n c, .int .u8 (s).ur, .bool (s).inc, .int .i64 (s).sl], .int .u8 x] w (StP ({ s with st := x }) w) := by
  have hc := h.cap; have hx := h.mx; have hl := h.len
  have RT := Lib.hid fun (A : Option Addr) (c : Nat) W => rSRight s ok A n c W hl (by omega)
  rw [e0] at RT
  have AN := Lib.hid fun W => rAnswers x W
  rw [e3] at AN
  have b0 := ((Bel.refl w).alloc (.cells #[.int .i64 (s).id, .int .u8 (s).st, .int .i64 (s).sd, .int .i64 (s).rc, .int .i64 (s).ow, .bool (s).an, .bool (s).en, .slice A n c, .int .u8 (s).ur, .bool (s).inc, .int .i64 (s).sl] 24)).alloc (.cells #[.int .i64 0, .int .u8 0, .int .i64 0, .int .i64 0, .int .i64 0, .bool false, .bool false, .slice none 0 0, .int .u8 0, .bool false, .int .i64 0] 24)
  have q0 := (Blk.new w 24 #[.int .i64 (s).id, .int .u8 (s).st, .int .i64 (s).sd, .int .i64 (s).rc, .int .i64 (s).ow, .bool (s).an, .bool (s).en, .slice A n c, .int .u8 (s).ur, .bool (s).inc, .int .i64 (s).sl]).alloc (.cells #[.int .i64 0, .int .u8 0, .int .i64 0, .int .i64 0, .int .i64 0, .bool false, .bool false, .slice none 0 0, .int .u8 0, .bool false, .int .i64 0] 24)
  have qr := Blk.newAt (b := w.heap.size + 1) (w.alloc (.cells #[.int .i64 (s).id, .int .u8 (s).st, .int .i64 (s).sd, .int .i64 (s).rc, .int .i64 (s).ow, .bool (s).an, .bool (s).en, .slice A n c, .int .u8 (s).ur, .bool (s).inc, .int .i64 (s).sl] 24)) 24 #[.int .i64 0, .int .u8 0, .int .i64 0, .int .i64 0, .int .i64 0, .bool false, .bool false, .slice none 0 0, .int .u8 0, .bool false, .int .i64 0] (by simp)
  have y := (h.alloc (.cells #[.int .i64 (s).id, .int .u8 (s).st, .int .i64 (s).sd, .int .i64 (s).rc, .int .i64 (s).ow, .bool (s).an, .bool (s).en, .slice A n c, .int .u8 (s).ur, .bool (s).inc, .int .i64 (s).sl] 24)).alloc (.cells #[.int .i64 0, .int .u8 0, .int .i64 0, .int .i64 0, .int .i64 0, .bool false, .bool false, .slice none 0 0, .int .u8 0, .bool false, .int .i64 0] 24)
  have sz := b0.out.size
  have HL := Lib.hid hl
  clear h hl e3 e0
  go_enter Try.func25, Try.ntmps25
  go_wp2_with (first
    | (go_at_call 36; (with_reducible refine (rSOwn s A n c _ y (by omega)).mono ?_); rintro e w9 ⟨A1, n1, c1, rfl, m1, hb⟩; obtain rfl : n1 = n := (by have h1 := m1.len; have h2 := HL.out; omega); replace b0 := b0.below hb; (try replace q0 := q0.below hb); (try replace qr := qr.below hb); (try replace m1 := m1.below hb); clear hb y)
    | (go_at_call 31; (with_reducible refine (RT.out _ _ _).mono ?_); rintro e w9 ⟨rfl, hb⟩; replace b0 := b0.below hb; (try replace q0 := q0.below hb); (try replace qr := qr.below hb); (try replace m1 := m1.below hb))
    | (go_at_call 29; (with_reducible refine (AN.out _).mono ?_); rintro e w9 ⟨rfl, rfl⟩)
    | (refine wpList_getB rfl _ _ rfl rfl q0 Try.underlying24 rfl (by rfl) ?_)
    | (refine wpList_putB rfl _ _ _ rfl rfl rfl qr (by rfl) (by rfl) (by rfl) ?_; intro w9 qn hg; replace b0 := b0.grown hg (by omega); (try replace m1 := m1.grownB qr (by decide) hg); (try replace q0 := q0.grown hg (by omega)); clear hg qr; have qr := qn; clear qn)
    | (refine wpList_putF rfl _ _ _ rfl rfl rfl q0 rfl (by rfl) (by rfl) ?_; intro w9 qn hg; (try simp only [List.setIfInBounds_toArray, List.set_cons_succ, List.set_cons_zero] at qn); replace b0 := b0.grown hg (by omega); (try replace m1 := m1.grownB q0 (by decide) hg); (try replace qr := qr.grown hg (by omega)); clear hg q0; have q0 := qn; clear qn)
    | (refine wpList_putB rfl _ _ _ rfl rfl rfl q0 (by rfl) (by rfl) (by rfl) ?_; intro w9 qn hg; replace b0 := b0.grown hg (by omega); (try replace m1 := m1.grownB q0 (by decide) hg); (try replace qr := qr.grown hg (by omega)); clear hg q0; have q0 := qn; clear qn))
  exact res1 rfl rfl rfl qr Try.underlying24 rfl (by rfl) ⟨_, _, _, rfl, m1.base_le (by simp; omega), b0.out⟩
set_option maxHeartbeats 2000000 in
theorem rOverb (s : Str) (ok : StrOk s) (x : Int) (x0 : 0 ≤ x) (A : Option Addr) (n c : Nat) (w : World) (h : Byt w A n c s.out) (hn : n ≤ 100000) (e0 : rightS s = true) (e1 : decide (7 ≤ x) = false) (e2 : (x == 0) = false) (e3 : ansB x = false) : Calls Try.prog 25 #[.agg #[.int .i64 (s).id, .int .u8 (s).st, .int .i64 (s).sd, .int .i64 (s).rc, .int .i64 (s).ow, .bool (s).an, .bool (s).en, .slice A n c, .int .u8 (s).ur, .bool (s).inc, .int .i64 (s).sl], .int .u8 x] w (StP ({ s with st := x, out := [], en := false, sl := -1 }) w) := by
  have hc := h.cap; have hx := h.mx; have hl := h.len
  have RT := Lib.hid fun (A : Option Addr) (c : Nat) W => rSRight s ok A n c W hl (by omega)
  rw [e0] at RT
  have AN := Lib.hid fun W => rAnswers x W
  rw [e3] at AN
  have b0 := ((Bel.refl w).alloc (.cells #[.int .i64 (s).id, .int .u8 (s).st, .int .i64 (s).sd, .int .i64 (s).rc, .int .i64 (s).ow, .bool (s).an, .bool (s).en, .slice A n c, .int .u8 (s).ur, .bool (s).inc, .int .i64 (s).sl] 24)).alloc (.cells #[.int .i64 0, .int .u8 0, .int .i64 0, .int .i64 0, .int .i64 0, .bool false, .bool false, .slice none 0 0, .int .u8 0, .bool false, .int .i64 0] 24)
  have q0 := (Blk.new w 24 #[.int .i64 (s).id, .int .u8 (s).st, .int .i64 (s).sd, .int .i64 (s).rc, .int .i64 (s).ow, .bool (s).an, .bool (s).en, .slice A n c, .int .u8 (s).ur, .bool (s).inc, .int .i64 (s).sl]).alloc (.cells #[.int .i64 0, .int .u8 0, .int .i64 0, .int .i64 0, .int .i64 0, .bool false, .bool false, .slice none 0 0, .int .u8 0, .bool false, .int .i64 0] 24)
  have qr := Blk.newAt (b := w.heap.size + 1) (w.alloc (.cells #[.int .i64 (s).id, .int .u8 (s).st, .int .i64 (s).sd, .int .i64 (s).rc, .int .i64 (s).ow, .bool (s).an, .bool (s).en, .slice A n c, .int .u8 (s).ur, .bool (s).inc, .int .i64 (s).sl] 24)) 24 #[.int .i64 0, .int .u8 0, .int .i64 0, .int .i64 0, .int .i64 0, .bool false, .bool false, .slice none 0 0, .int .u8 0, .bool false, .int .i64 0] (by simp)
  have y := (h.alloc (.cells #[.int .i64 (s).id, .int .u8 (s).st, .int .i64 (s).sd, .int .i64 (s).rc, .int .i64 (s).ow, .bool (s).an, .bool (s).en, .slice A n c, .int .u8 (s).ur, .bool (s).inc, .int .i64 (s).sl] 24)).alloc (.cells #[.int .i64 0, .int .u8 0, .int .i64 0, .int .i64 0, .int .i64 0, .bool false, .bool false, .slice none 0 0, .int .u8 0, .bool false, .int .i64 0] 24)
  have sz := b0.out.size
  have HL := Lib.hid hl
  clear h hl e3 e0
  go_enter Try.func25, Try.ntmps25
  go_wp2_with (first
    | (go_at_call 36; (with_reducible refine (rSOwn s A n c _ y (by omega)).mono ?_); rintro e w9 ⟨A1, n1, c1, rfl, m1, hb⟩; obtain rfl : n1 = n := (by have h1 := m1.len; have h2 := HL.out; omega); replace b0 := b0.below hb; (try replace q0 := q0.below hb); (try replace qr := qr.below hb); (try replace m1 := m1.below hb); clear hb y)
    | (go_at_call 31; (with_reducible refine (RT.out _ _ _).mono ?_); rintro e w9 ⟨rfl, hb⟩; replace b0 := b0.below hb; (try replace q0 := q0.below hb); (try replace qr := qr.below hb); (try replace m1 := m1.below hb))
    | (go_at_call 29; (with_reducible refine (AN.out _).mono ?_); rintro e w9 ⟨rfl, rfl⟩)
    | (refine wpList_getB rfl _ _ rfl rfl q0 Try.underlying24 rfl (by rfl) ?_)
    | (refine wpList_putB rfl _ _ _ rfl rfl rfl qr (by rfl) (by rfl) (by rfl) ?_; intro w9 qn hg; replace b0 := b0.grown hg (by omega); (try replace m1 := m1.grownB qr (by decide) hg); (try replace q0 := q0.grown hg (by omega)); clear hg qr; have qr := qn; clear qn)
    | (refine wpList_putF rfl _ _ _ rfl rfl rfl q0 rfl (by rfl) (by rfl) ?_; intro w9 qn hg; (try simp only [List.setIfInBounds_toArray, List.set_cons_succ, List.set_cons_zero] at qn); replace b0 := b0.grown hg (by omega); (try replace m1 := m1.grownB q0 (by decide) hg); (try replace qr := qr.grown hg (by omega)); clear hg q0; have q0 := qn; clear qn)
    | (refine wpList_putB rfl _ _ _ rfl rfl rfl q0 (by rfl) (by rfl) (by rfl) ?_; intro w9 qn hg; replace b0 := b0.grown hg (by omega); (try replace m1 := m1.grownB q0 (by decide) hg); (try replace qr := qr.grown hg (by omega)); clear hg q0; have q0 := qn; clear qn))
  exact res1 rfl rfl rfl qr Try.underlying24 rfl (by rfl) ⟨_, _, _, rfl, Mine.nil _ _, b0.out⟩
theorem fOver (s : Str) (ok : StrOk s) (x : Int) (x0 : 0 ≤ x) (A : Option Addr) (n c : Nat) (w : World) (h : Byt w A n c s.out) (hn : n ≤ 100000) : Calls Try.prog 24 #[.agg #[.int .i64 (s).id, .int .u8 (s).st, .int .i64 (s).sd, .int .i64 (s).rc, .int .i64 (s).ow, .bool (s).an, .bool (s).en, .slice A n c, .int .u8 (s).ur, .bool (s).inc, .int .i64 (s).sl], .int .u8 x] w (StP (overS s x) w) := by
  by_cases r : RightS s
  · by_cases h7 : 7 ≤ x
    · rw [overS_no (fun k => by omega)]
      exact fOverno2 s ok x x0 A n c w h hn (rightS_yes r) (decide_eq_true h7)
    by_cases hz : x = 0
    · rw [overS_no (fun k => k.2.2 hz)]
      exact fOverno3 s ok x x0 A n c w h hn (rightS_yes r) (decide_eq_false h7) (beq_iff_eq.2 hz)
    cases ha : ansB x
    · rw [overS_b ⟨r, by omega, hz⟩ ha]
      exact fOverb s ok x x0 A n c w h hn (rightS_yes r) (decide_eq_false h7) (beq_eq_false_iff_ne.2 hz) ha
    · rw [overS_a ⟨r, by omega, hz⟩ ha]
      exact fOvera s ok x x0 A n c w h hn (rightS_yes r) (decide_eq_false h7) (beq_eq_false_iff_ne.2 hz) ha
  · rw [overS_no (fun k => r k.1)]
    exact fOverno1 s ok x x0 A n c w h hn (rightS_no r)
theorem rOver (s : Str) (ok : StrOk s) (x : Int) (x0 : 0 ≤ x) (A : Option Addr) (n c : Nat) (w : World) (h : Byt w A n c s.out) (hn : n ≤ 100000) : Calls Try.prog 25 #[.agg #[.int .i64 (s).id, .int .u8 (s).st, .int .i64 (s).sd, .int .i64 (s).rc, .int .i64 (s).ow, .bool (s).an, .bool (s).en, .slice A n c, .int .u8 (s).ur, .bool (s).inc, .int .i64 (s).sl], .int .u8 x] w (StP (overS s x) w) := by
  by_cases r : RightS s
  · by_cases h7 : 7 ≤ x
    · rw [overS_no (fun k => by omega)]
      exact rOverno2 s ok x x0 A n c w h hn (rightS_yes r) (decide_eq_true h7)
    by_cases hz : x = 0
    · rw [overS_no (fun k => k.2.2 hz)]
      exact rOverno3 s ok x x0 A n c w h hn (rightS_yes r) (decide_eq_false h7) (beq_iff_eq.2 hz)
    cases ha : ansB x
    · rw [overS_b ⟨r, by omega, hz⟩ ha]
      exact rOverb s ok x x0 A n c w h hn (rightS_yes r) (decide_eq_false h7) (beq_eq_false_iff_ne.2 hz) ha
    · rw [overS_a ⟨r, by omega, hz⟩ ha]
      exact rOvera s ok x x0 A n c w h hn (rightS_yes r) (decide_eq_false h7) (beq_eq_false_iff_ne.2 hz) ha
  · rw [overS_no (fun k => r k.1)]
    exact rOverno1 s ok x x0 A n c w h hn (rightS_no r)
end Go.Proofs.Ytaaeflomjcpfpaa
