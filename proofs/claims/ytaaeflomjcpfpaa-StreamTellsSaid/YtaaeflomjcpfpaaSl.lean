/- New streams, what is given back, windows given and moved: the contracts. -/
import Derived.Test.YtaaeflomjcpfpaaSk
namespace Go.Proofs.Ytaaeflomjcpfpaa
open Go.RowKit Go.Shelf
set_option linter.unusedVariables false

def zeroS : Str := ⟨0, 0, 0, 0, 0, false, false, [], 0, false, 0⟩
def newS (id sd rc : Int) (en : Bool) : Str := ⟨id, if en then 2 else 1, sd, rc, 0, false, false, [], 3, false, -1⟩
def newR (id sd rc : Int) (en : Bool) : Str := if RightS (newS id sd rc en) then newS id sd rc en else zeroS
def newE (id sd rc : Int) (en : Bool) : Int := if RightS (newS id sd rc en) then 0 else 2
def NwP (s : Str) (x : Int) (w : World) (e : Ending) (W' : World) : Prop := e = .returned (.tuple #[.agg #[.int .i64 (s).id, .int .u8 (s).st, .int .i64 (s).sd, .int .i64 (s).rc, .int .i64 (s).ow, .bool (s).an, .bool (s).en, .slice none 0 0, .int .u8 (s).ur, .bool (s).inc, .int .i64 (s).sl], .int .i64 x]) ∧ Below w.heap.size w W'
def StIP (s : Str) (x : Int) (w : World) (e : Ending) (W' : World) : Prop := ∃ A n c, e = .returned (.tuple #[.agg #[.int .i64 (s).id, .int .u8 (s).st, .int .i64 (s).sd, .int .i64 (s).rc, .int .i64 (s).ow, .bool (s).an, .bool (s).en, .slice A n c, .int .u8 (s).ur, .bool (s).inc, .int .i64 (s).sl], .int .i64 x]) ∧ Mine w.heap.size W' A n c s.out ∧ Below w.heap.size w W'
def StBP (s : Str) (x : Bool) (w : World) (e : Ending) (W' : World) : Prop := ∃ A n c, e = .returned (.tuple #[.agg #[.int .i64 (s).id, .int .u8 (s).st, .int .i64 (s).sd, .int .i64 (s).rc, .int .i64 (s).ow, .bool (s).an, .bool (s).en, .slice A n c, .int .u8 (s).ur, .bool (s).inc, .int .i64 (s).sl], .bool x]) ∧ Mine w.heap.size W' A n c s.out ∧ Below w.heap.size w W'
def backS (s : Str) : Str := if RightS s then (if s.st = 1 ∨ s.st = 3 then { s with ow := 0, rc := if s.rc + s.ow ≤ 2147483647 then s.rc + s.ow else 2147483647 } else { s with ow := 0 }) else s
def backN (s : Str) : Int := if RightS s ∧ (s.st = 1 ∨ s.st = 3) then s.ow else 0
def givS (s : Str) (n : Int) : Str := if RightS s then { s with sd := giveV s.sd n } else s
def givB (s : Str) (n : Int) : Bool := if RightS s then giveB s.sd n else false
def shfS (s : Str) (n : Int) : Str := if RightS s then { s with sd := shiftV s.sd n } else s
def shfB (s : Str) (n : Int) : Bool := if RightS s then shiftB s.sd n else false
theorem newOk (id sd rc : Int) (st : Int) (i : -9223372036854775808 ≤ id ∧ id ≤ 9223372036854775807) (d : -9223372036854775808 ≤ sd ∧ sd ≤ 9223372036854775807) (r : -9223372036854775808 ≤ rc ∧ rc ≤ 9223372036854775807) (hs : 0 ≤ st ∧ st ≤ 255) :
    StrOk ⟨id, st, sd, rc, 0, false, false, [], 3, false, -1⟩ := ⟨i, hs, d, r, by simp, by simp, by simp, Bs.nil⟩
set_option maxHeartbeats 2000000 in
theorem fNewff (id sd rc : Int) (i : -9223372036854775808 ≤ id ∧ id ≤ 9223372036854775807) (d : -9223372036854775808 ≤ sd ∧ sd ≤ 9223372036854775807) (r : -9223372036854775808 ≤ rc ∧ rc ≤ 9223372036854775807) (w : World) (e0 : rightS ⟨id, 1, sd, rc, 0, false, false, [], 3, false, -1⟩ = false) :
    Calls Try.prog 9 #[.int .i64 id, .int .i64 sd, .int .i64 rc, .bool false] w (NwP zeroS 2 w) := by
  have RT := Lib.hid fun W => fSRight ⟨id, 1, sd, rc, 0, false, false, [], 3, false, -1⟩ (newOk id sd rc 1 i d r (by simp)) none 0 0 W rfl (by omega)
  rw [e0] at RT
  have CM := Lib.hid fun W => fComes 0 1 false (by omega) W
  rw [show comesF 0 1 false = ⟨1, true, false, 0⟩ by decide] at CM
  have b0 := (Bel.refl w).alloc (.cells #[.int .i64 0, .int .u8 0, .int .i64 0, .int .i64 0, .int .i64 0, .bool false, .bool false, .slice none 0 0, .int .u8 0, .bool false, .int .i64 0] 24)
  have qr := Blk.new w 24 #[.int .i64 0, .int .u8 0, .int .i64 0, .int .i64 0, .int .i64 0, .bool false, .bool false, .slice none 0 0, .int .u8 0, .bool false, .int .i64 0]
  have hfl : ∀ W, (Instr.field 32 (.agg #[.int .u8 1, .bool true, .bool false, .int .u32 0]) 0).run Try.prog W = .ok (.int .u8 1) W := fun W => by kernel_rfl
  clear e0 i d r
  go_enter Try.func9, Try.ntmps9
  go_wp2_with (first
    | (go_at_call 14; refine (CM.out _).mono ?_; rintro e w9 ⟨rfl, hb⟩; replace b0 := b0.below hb; replace qr := qr.below hb; have qo := Blk.new w9 24 #[.int .i64 id, .int .u8 1, .int .i64 sd, .int .i64 rc, .int .i64 0, .bool false, .bool false, .slice none 0 0, .int .u8 3, .bool false, .int .i64 (-1)]; replace qr := qr.alloc (.cells #[.int .i64 id, .int .u8 1, .int .i64 sd, .int .i64 rc, .int .i64 0, .bool false, .bool false, .slice none 0 0, .int .u8 3, .bool false, .int .i64 (-1)] 24); replace b0 := b0.alloc (.cells #[.int .i64 id, .int .u8 1, .int .i64 sd, .int .i64 rc, .int .i64 0, .bool false, .bool false, .slice none 0 0, .int .u8 3, .bool false, .int .i64 (-1)] 24); have hN := b0.out.size; have hM := qr.lt; have hO := hb.size; simp only [World.size_alloc] at hN hO; clear hb)
    | (go_at_call 30; refine (RT.out _).mono ?_; rintro e w9 ⟨rfl, hb⟩; replace b0 := b0.below hb; (try replace qr := qr.below hb); (try replace qo := qo.below hb))
    | (refine wpList_getB rfl _ _ rfl rfl qo Try.underlying24 rfl (by rfl) ?_)
    | (refine wpList_putB rfl _ _ _ rfl rfl rfl qr (by rfl) (by rfl) (by rfl) ?_; intro w9 qn hg; replace b0 := b0.grown hg (by omega); (try replace qo := qo.grown hg (by omega)); clear hg qr; have qr := qn; clear qn))
  exact res2ct rfl rfl rfl rfl qr Try.underlying24 rfl (by rfl) ⟨rfl, b0.out⟩
set_option maxHeartbeats 2000000 in
theorem fNewft (id sd rc : Int) (i : -9223372036854775808 ≤ id ∧ id ≤ 9223372036854775807) (d : -9223372036854775808 ≤ sd ∧ sd ≤ 9223372036854775807) (r : -9223372036854775808 ≤ rc ∧ rc ≤ 9223372036854775807) (w : World) (e0 : rightS ⟨id, 1, sd, rc, 0, false, false, [], 3, false, -1⟩ = true) :
    Calls Try.prog 9 #[.int .i64 id, .int .i64 sd, .int .i64 rc, .bool false] w (NwP ⟨id, 1, sd, rc, 0, false, false, [], 3, false, -1⟩ 0 w) := by
  have RT := Lib.hid fun W => fSRight ⟨id, 1, sd, rc, 0, false, false, [], 3, false, -1⟩ (newOk id sd rc 1 i d r (by simp)) none 0 0 W rfl (by omega)
  rw [e0] at RT
  have CM := Lib.hid fun W => fComes 0 1 false (by omega) W
  rw [show comesF 0 1 false = ⟨1, true, false, 0⟩ by decide] at CM
  have b0 := (Bel.refl w).alloc (.cells #[.int .i64 0, .int .u8 0, .int .i64 0, .int .i64 0, .int .i64 0, .bool false, .bool false, .slice none 0 0, .int .u8 0, .bool false, .int .i64 0] 24)
  have qr := Blk.new w 24 #[.int .i64 0, .int .u8 0, .int .i64 0, .int .i64 0, .int .i64 0, .bool false, .bool false, .slice none 0 0, .int .u8 0, .bool false, .int .i64 0]
  have hfl : ∀ W, (Instr.field 32 (.agg #[.int .u8 1, .bool true, .bool false, .int .u32 0]) 0).run Try.prog W = .ok (.int .u8 1) W := fun W => by kernel_rfl
  clear e0 i d r
  go_enter Try.func9, Try.ntmps9
  go_wp2_with (first
    | (go_at_call 14; refine (CM.out _).mono ?_; rintro e w9 ⟨rfl, hb⟩; replace b0 := b0.below hb; replace qr := qr.below hb; have qo := Blk.new w9 24 #[.int .i64 id, .int .u8 1, .int .i64 sd, .int .i64 rc, .int .i64 0, .bool false, .bool false, .slice none 0 0, .int .u8 3, .bool false, .int .i64 (-1)]; replace qr := qr.alloc (.cells #[.int .i64 id, .int .u8 1, .int .i64 sd, .int .i64 rc, .int .i64 0, .bool false, .bool false, .slice none 0 0, .int .u8 3, .bool false, .int .i64 (-1)] 24); replace b0 := b0.alloc (.cells #[.int .i64 id, .int .u8 1, .int .i64 sd, .int .i64 rc, .int .i64 0, .bool false, .bool false, .slice none 0 0, .int .u8 3, .bool false, .int .i64 (-1)] 24); have hN := b0.out.size; have hM := qr.lt; have hO := hb.size; simp only [World.size_alloc] at hN hO; clear hb)
    | (go_at_call 30; refine (RT.out _).mono ?_; rintro e w9 ⟨rfl, hb⟩; replace b0 := b0.below hb; (try replace qr := qr.below hb); (try replace qo := qo.below hb))
    | (refine wpList_getB rfl _ _ rfl rfl qo Try.underlying24 rfl (by rfl) ?_)
    | (refine wpList_putB rfl _ _ _ rfl rfl rfl qr (by rfl) (by rfl) (by rfl) ?_; intro w9 qn hg; replace b0 := b0.grown hg (by omega); (try replace qo := qo.grown hg (by omega)); clear hg qr; have qr := qn; clear qn))
  exact res2ct rfl rfl rfl rfl qr Try.underlying24 rfl (by rfl) ⟨rfl, b0.out⟩
set_option maxHeartbeats 2000000 in
theorem fNewtf (id sd rc : Int) (i : -9223372036854775808 ≤ id ∧ id ≤ 9223372036854775807) (d : -9223372036854775808 ≤ sd ∧ sd ≤ 9223372036854775807) (r : -9223372036854775808 ≤ rc ∧ rc ≤ 9223372036854775807) (w : World) (e0 : rightS ⟨id, 2, sd, rc, 0, false, false, [], 3, false, -1⟩ = false) :
    Calls Try.prog 9 #[.int .i64 id, .int .i64 sd, .int .i64 rc, .bool true] w (NwP zeroS 2 w) := by
  have RT := Lib.hid fun W => fSRight ⟨id, 2, sd, rc, 0, false, false, [], 3, false, -1⟩ (newOk id sd rc 2 i d r (by simp)) none 0 0 W rfl (by omega)
  rw [e0] at RT
  have CM := Lib.hid fun W => fComes 0 1 true (by omega) W
  rw [show comesF 0 1 true = ⟨2, true, false, 0⟩ by decide] at CM
  have b0 := (Bel.refl w).alloc (.cells #[.int .i64 0, .int .u8 0, .int .i64 0, .int .i64 0, .int .i64 0, .bool false, .bool false, .slice none 0 0, .int .u8 0, .bool false, .int .i64 0] 24)
  have qr := Blk.new w 24 #[.int .i64 0, .int .u8 0, .int .i64 0, .int .i64 0, .int .i64 0, .bool false, .bool false, .slice none 0 0, .int .u8 0, .bool false, .int .i64 0]
  have hfl : ∀ W, (Instr.field 32 (.agg #[.int .u8 2, .bool true, .bool false, .int .u32 0]) 0).run Try.prog W = .ok (.int .u8 2) W := fun W => by kernel_rfl
  clear e0 i d r
  go_enter Try.func9, Try.ntmps9
  go_wp2_with (first
    | (go_at_call 14; refine (CM.out _).mono ?_; rintro e w9 ⟨rfl, hb⟩; replace b0 := b0.below hb; replace qr := qr.below hb; have qo := Blk.new w9 24 #[.int .i64 id, .int .u8 2, .int .i64 sd, .int .i64 rc, .int .i64 0, .bool false, .bool false, .slice none 0 0, .int .u8 3, .bool false, .int .i64 (-1)]; replace qr := qr.alloc (.cells #[.int .i64 id, .int .u8 2, .int .i64 sd, .int .i64 rc, .int .i64 0, .bool false, .bool false, .slice none 0 0, .int .u8 3, .bool false, .int .i64 (-1)] 24); replace b0 := b0.alloc (.cells #[.int .i64 id, .int .u8 2, .int .i64 sd, .int .i64 rc, .int .i64 0, .bool false, .bool false, .slice none 0 0, .int .u8 3, .bool false, .int .i64 (-1)] 24); have hN := b0.out.size; have hM := qr.lt; have hO := hb.size; simp only [World.size_alloc] at hN hO; clear hb)
    | (go_at_call 30; refine (RT.out _).mono ?_; rintro e w9 ⟨rfl, hb⟩; replace b0 := b0.below hb; (try replace qr := qr.below hb); (try replace qo := qo.below hb))
    | (refine wpList_getB rfl _ _ rfl rfl qo Try.underlying24 rfl (by rfl) ?_)
    | (refine wpList_putB rfl _ _ _ rfl rfl rfl qr (by rfl) (by rfl) (by rfl) ?_; intro w9 qn hg; replace b0 := b0.grown hg (by omega); (try replace qo := qo.grown hg (by omega)); clear hg qr; have qr := qn; clear qn))
  exact res2ct rfl rfl rfl rfl qr Try.underlying24 rfl (by rfl) ⟨rfl, b0.out⟩
set_option maxHeartbeats 2000000 in
theorem fNewtt (id sd rc : Int) (i : -9223372036854775808 ≤ id ∧ id ≤ 9223372036854775807) (d : -9223372036854775808 ≤ sd ∧ sd ≤ 9223372036854775807) (r : -9223372036854775808 ≤ rc ∧ rc ≤ 9223372036854775807) (w : World) (e0 : rightS ⟨id, 2, sd, rc, 0, false, false, [], 3, false, -1⟩ = true) :
    Calls Try.prog 9 #[.int .i64 id, .int .i64 sd, .int .i64 rc, .bool true] w (NwP ⟨id, 2, sd, rc, 0, false, false, [], 3, false, -1⟩ 0 w) := by
  have RT := Lib.hid fun W => fSRight ⟨id, 2, sd, rc, 0, false, false, [], 3, false, -1⟩ (newOk id sd rc 2 i d r (by simp)) none 0 0 W rfl (by omega)
  rw [e0] at RT
  have CM := Lib.hid fun W => fComes 0 1 true (by omega) W
  rw [show comesF 0 1 true = ⟨2, true, false, 0⟩ by decide] at CM
  have b0 := (Bel.refl w).alloc (.cells #[.int .i64 0, .int .u8 0, .int .i64 0, .int .i64 0, .int .i64 0, .bool false, .bool false, .slice none 0 0, .int .u8 0, .bool false, .int .i64 0] 24)
  have qr := Blk.new w 24 #[.int .i64 0, .int .u8 0, .int .i64 0, .int .i64 0, .int .i64 0, .bool false, .bool false, .slice none 0 0, .int .u8 0, .bool false, .int .i64 0]
  have hfl : ∀ W, (Instr.field 32 (.agg #[.int .u8 2, .bool true, .bool false, .int .u32 0]) 0).run Try.prog W = .ok (.int .u8 2) W := fun W => by kernel_rfl
  clear e0 i d r
  go_enter Try.func9, Try.ntmps9
  go_wp2_with (first
    | (go_at_call 14; refine (CM.out _).mono ?_; rintro e w9 ⟨rfl, hb⟩; replace b0 := b0.below hb; replace qr := qr.below hb; have qo := Blk.new w9 24 #[.int .i64 id, .int .u8 2, .int .i64 sd, .int .i64 rc, .int .i64 0, .bool false, .bool false, .slice none 0 0, .int .u8 3, .bool false, .int .i64 (-1)]; replace qr := qr.alloc (.cells #[.int .i64 id, .int .u8 2, .int .i64 sd, .int .i64 rc, .int .i64 0, .bool false, .bool false, .slice none 0 0, .int .u8 3, .bool false, .int .i64 (-1)] 24); replace b0 := b0.alloc (.cells #[.int .i64 id, .int .u8 2, .int .i64 sd, .int .i64 rc, .int .i64 0, .bool false, .bool false, .slice none 0 0, .int .u8 3, .bool false, .int .i64 (-1)] 24); have hN := b0.out.size; have hM := qr.lt; have hO := hb.size; simp only [World.size_alloc] at hN hO; clear hb)
    | (go_at_call 30; refine (RT.out _).mono ?_; rintro e w9 ⟨rfl, hb⟩; replace b0 := b0.below hb; (try replace qr := qr.below hb); (try replace qo := qo.below hb))
    | (refine wpList_getB rfl _ _ rfl rfl qo Try.underlying24 rfl (by rfl) ?_)
    | (refine wpList_putB rfl _ _ _ rfl rfl rfl qr (by rfl) (by rfl) (by rfl) ?_; intro w9 qn hg; replace b0 := b0.grown hg (by omega); (try replace qo := qo.grown hg (by omega)); clear hg qr; have qr := qn; clear qn))
  exact res2ct rfl rfl rfl rfl qr Try.underlying24 rfl (by rfl) ⟨rfl, b0.out⟩
theorem fNew (id sd rc : Int) (en : Bool) (i : -9223372036854775808 ≤ id ∧ id ≤ 9223372036854775807) (d : -9223372036854775808 ≤ sd ∧ sd ≤ 9223372036854775807) (r : -9223372036854775808 ≤ rc ∧ rc ≤ 9223372036854775807) (w : World) :
    Calls Try.prog 9 #[.int .i64 id, .int .i64 sd, .int .i64 rc, .bool en] w (NwP (newR id sd rc en) (newE id sd rc en) w) := by
  unfold newR newE
  by_cases h : RightS (newS id sd rc en)
  · rw [if_pos h, if_pos h]
    cases en
    · exact fNewft id sd rc i d r w (rightS_yes h)
    · exact fNewtt id sd rc i d r w (rightS_yes h)
  · rw [if_neg h, if_neg h]
    cases en
    · exact fNewff id sd rc i d r w (rightS_no h)
    · exact fNewtf id sd rc i d r w (rightS_no h)
set_option maxHeartbeats 2000000 in
theorem rNewff (id sd rc : Int) (i : -9223372036854775808 ≤ id ∧ id ≤ 9223372036854775807) (d : -9223372036854775808 ≤ sd ∧ sd ≤ 9223372036854775807) (r : -9223372036854775808 ≤ rc ∧ rc ≤ 9223372036854775807) (w : World) (e0 : rightS ⟨id, 1, sd, rc, 0, false, false, [], 3, false, -1⟩ = false) :
    Calls Try.prog 10 #[.int .i64 id, .int .i64 sd, .int .i64 rc, .bool false] w (NwP zeroS 2 w) := by
  have RT := Lib.hid fun W => rSRight ⟨id, 1, sd, rc, 0, false, false, [], 3, false, -1⟩ (newOk id sd rc 1 i d r (by simp)) none 0 0 W rfl (by omega)
  rw [e0] at RT
  have CM := Lib.hid fun W => fComes 0 1 false (by omega) W
  rw [show comesF 0 1 false = ⟨1, true, false, 0⟩ by decide] at CM
  have b0 := (Bel.refl w).alloc (.cells #[.int .i64 0, .int .u8 0, .int .i64 0, .int .i64 0, .int .i64 0, .bool false, .bool false, .slice none 0 0, .int .u8 0, .bool false, .int .i64 0] 24)
  have qr := Blk.new w 24 #[.int .i64 0, .int .u8 0, .int .i64 0, .int .i64 0, .int .i64 0, .bool false, .bool false, .slice none 0 0, .int .u8 0, .bool false, .int .i64 0]
  have hfl : ∀ W, (Instr.field 32 (.agg #[.int .u8 1, .bool true, .bool false, .int .u32 0]) 0).run Try.prog W = .ok (.int .u8 1) W := fun W => by kernel_rfl
  clear e0 i d r
  have qo := Blk.newAt (b := w.heap.size + 1) (w.alloc (.cells #[.int .i64 0, .int .u8 0, .int .i64 0, .int .i64 0, .int .i64 0, .bool false, .bool false, .slice none 0 0, .int .u8 0, .bool false, .int .i64 0] 24)) 24 #[.int .i64 id, .int .u8 1, .int .i64 sd, .int .i64 rc, .int .i64 0, .bool false, .bool false, .slice none 0 0, .int .u8 3, .bool false, .int .i64 (-1)] (by simp)
  replace qr := qr.alloc (.cells #[.int .i64 id, .int .u8 1, .int .i64 sd, .int .i64 rc, .int .i64 0, .bool false, .bool false, .slice none 0 0, .int .u8 3, .bool false, .int .i64 (-1)] 24)
  replace b0 := b0.alloc (.cells #[.int .i64 id, .int .u8 1, .int .i64 sd, .int .i64 rc, .int .i64 0, .bool false, .bool false, .slice none 0 0, .int .u8 3, .bool false, .int .i64 (-1)] 24)
  go_enter Try.func10, Try.ntmps10
  go_wp2_with (first
    | (go_at_call 31; refine (RT.out _).mono ?_; rintro e w9 ⟨rfl, hb⟩; replace b0 := b0.below hb; (try replace qr := qr.below hb); (try replace qo := qo.below hb))
    | (refine wpList_getB rfl _ _ rfl rfl qo Try.underlying24 rfl (by rfl) ?_)
    | (refine wpList_putB rfl _ _ _ rfl rfl rfl qr (by rfl) (by rfl) (by rfl) ?_; intro w9 qn hg; replace b0 := b0.grown hg (by omega); (try replace qo := qo.grown hg (by omega)); clear hg qr; have qr := qn; clear qn)
    | (refine wpList_putF rfl _ _ _ rfl rfl rfl qo rfl (by rfl) (by rfl) ?_; intro w9 qn hg; (try simp only [List.setIfInBounds_toArray, List.set_cons_succ, List.set_cons_zero] at qn); replace b0 := b0.grown hg (by omega); (try replace qr := qr.grown hg (by omega)); clear hg qo; have qo := qn; clear qn))
  exact res2ct rfl rfl rfl rfl qr Try.underlying24 rfl (by rfl) ⟨rfl, b0.out⟩
set_option maxHeartbeats 2000000 in
theorem rNewft (id sd rc : Int) (i : -9223372036854775808 ≤ id ∧ id ≤ 9223372036854775807) (d : -9223372036854775808 ≤ sd ∧ sd ≤ 9223372036854775807) (r : -9223372036854775808 ≤ rc ∧ rc ≤ 9223372036854775807) (w : World) (e0 : rightS ⟨id, 1, sd, rc, 0, false, false, [], 3, false, -1⟩ = true) :
    Calls Try.prog 10 #[.int .i64 id, .int .i64 sd, .int .i64 rc, .bool false] w (NwP ⟨id, 1, sd, rc, 0, false, false, [], 3, false, -1⟩ 0 w) := by
  have RT := Lib.hid fun W => rSRight ⟨id, 1, sd, rc, 0, false, false, [], 3, false, -1⟩ (newOk id sd rc 1 i d r (by simp)) none 0 0 W rfl (by omega)
  rw [e0] at RT
  have CM := Lib.hid fun W => fComes 0 1 false (by omega) W
  rw [show comesF 0 1 false = ⟨1, true, false, 0⟩ by decide] at CM
  have b0 := (Bel.refl w).alloc (.cells #[.int .i64 0, .int .u8 0, .int .i64 0, .int .i64 0, .int .i64 0, .bool false, .bool false, .slice none 0 0, .int .u8 0, .bool false, .int .i64 0] 24)
  have qr := Blk.new w 24 #[.int .i64 0, .int .u8 0, .int .i64 0, .int .i64 0, .int .i64 0, .bool false, .bool false, .slice none 0 0, .int .u8 0, .bool false, .int .i64 0]
  have hfl : ∀ W, (Instr.field 32 (.agg #[.int .u8 1, .bool true, .bool false, .int .u32 0]) 0).run Try.prog W = .ok (.int .u8 1) W := fun W => by kernel_rfl
  clear e0 i d r
  have qo := Blk.newAt (b := w.heap.size + 1) (w.alloc (.cells #[.int .i64 0, .int .u8 0, .int .i64 0, .int .i64 0, .int .i64 0, .bool false, .bool false, .slice none 0 0, .int .u8 0, .bool false, .int .i64 0] 24)) 24 #[.int .i64 id, .int .u8 1, .int .i64 sd, .int .i64 rc, .int .i64 0, .bool false, .bool false, .slice none 0 0, .int .u8 3, .bool false, .int .i64 (-1)] (by simp)
  replace qr := qr.alloc (.cells #[.int .i64 id, .int .u8 1, .int .i64 sd, .int .i64 rc, .int .i64 0, .bool false, .bool false, .slice none 0 0, .int .u8 3, .bool false, .int .i64 (-1)] 24)
  replace b0 := b0.alloc (.cells #[.int .i64 id, .int .u8 1, .int .i64 sd, .int .i64 rc, .int .i64 0, .bool false, .bool false, .slice none 0 0, .int .u8 3, .bool false, .int .i64 (-1)] 24)
  go_enter Try.func10, Try.ntmps10
  go_wp2_with (first
    | (go_at_call 31; refine (RT.out _).mono ?_; rintro e w9 ⟨rfl, hb⟩; replace b0 := b0.below hb; (try replace qr := qr.below hb); (try replace qo := qo.below hb))
    | (refine wpList_getB rfl _ _ rfl rfl qo Try.underlying24 rfl (by rfl) ?_)
    | (refine wpList_putB rfl _ _ _ rfl rfl rfl qr (by rfl) (by rfl) (by rfl) ?_; intro w9 qn hg; replace b0 := b0.grown hg (by omega); (try replace qo := qo.grown hg (by omega)); clear hg qr; have qr := qn; clear qn)
    | (refine wpList_putF rfl _ _ _ rfl rfl rfl qo rfl (by rfl) (by rfl) ?_; intro w9 qn hg; (try simp only [List.setIfInBounds_toArray, List.set_cons_succ, List.set_cons_zero] at qn); replace b0 := b0.grown hg (by omega); (try replace qr := qr.grown hg (by omega)); clear hg qo; have qo := qn; clear qn))
  exact res2ct rfl rfl rfl rfl qr Try.underlying24 rfl (by rfl) ⟨rfl, b0.out⟩
set_option maxHeartbeats 2000000 in
theorem rNewtf (id sd rc : Int) (i : -9223372036854775808 ≤ id ∧ id ≤ 9223372036854775807) (d : -9223372036854775808 ≤ sd ∧ sd ≤ 9223372036854775807) (r : -9223372036854775808 ≤ rc ∧ rc ≤ 9223372036854775807) (w : World) (e0 : rightS ⟨id, 2, sd, rc, 0, false, false, [], 3, false, -1⟩ = false) :
    Calls Try.prog 10 #[.int .i64 id, .int .i64 sd, .int .i64 rc, .bool true] w (NwP zeroS 2 w) := by
  have RT := Lib.hid fun W => rSRight ⟨id, 2, sd, rc, 0, false, false, [], 3, false, -1⟩ (newOk id sd rc 2 i d r (by simp)) none 0 0 W rfl (by omega)
  rw [e0] at RT
  have CM := Lib.hid fun W => fComes 0 1 true (by omega) W
  rw [show comesF 0 1 true = ⟨2, true, false, 0⟩ by decide] at CM
  have b0 := (Bel.refl w).alloc (.cells #[.int .i64 0, .int .u8 0, .int .i64 0, .int .i64 0, .int .i64 0, .bool false, .bool false, .slice none 0 0, .int .u8 0, .bool false, .int .i64 0] 24)
  have qr := Blk.new w 24 #[.int .i64 0, .int .u8 0, .int .i64 0, .int .i64 0, .int .i64 0, .bool false, .bool false, .slice none 0 0, .int .u8 0, .bool false, .int .i64 0]
  have hfl : ∀ W, (Instr.field 32 (.agg #[.int .u8 2, .bool true, .bool false, .int .u32 0]) 0).run Try.prog W = .ok (.int .u8 2) W := fun W => by kernel_rfl
  clear e0 i d r
  have qo := Blk.newAt (b := w.heap.size + 1) (w.alloc (.cells #[.int .i64 0, .int .u8 0, .int .i64 0, .int .i64 0, .int .i64 0, .bool false, .bool false, .slice none 0 0, .int .u8 0, .bool false, .int .i64 0] 24)) 24 #[.int .i64 id, .int .u8 1, .int .i64 sd, .int .i64 rc, .int .i64 0, .bool false, .bool false, .slice none 0 0, .int .u8 3, .bool false, .int .i64 (-1)] (by simp)
  replace qr := qr.alloc (.cells #[.int .i64 id, .int .u8 1, .int .i64 sd, .int .i64 rc, .int .i64 0, .bool false, .bool false, .slice none 0 0, .int .u8 3, .bool false, .int .i64 (-1)] 24)
  replace b0 := b0.alloc (.cells #[.int .i64 id, .int .u8 1, .int .i64 sd, .int .i64 rc, .int .i64 0, .bool false, .bool false, .slice none 0 0, .int .u8 3, .bool false, .int .i64 (-1)] 24)
  go_enter Try.func10, Try.ntmps10
  go_wp2_with (first
    | (go_at_call 31; refine (RT.out _).mono ?_; rintro e w9 ⟨rfl, hb⟩; replace b0 := b0.below hb; (try replace qr := qr.below hb); (try replace qo := qo.below hb))
    | (refine wpList_getB rfl _ _ rfl rfl qo Try.underlying24 rfl (by rfl) ?_)
    | (refine wpList_putB rfl _ _ _ rfl rfl rfl qr (by rfl) (by rfl) (by rfl) ?_; intro w9 qn hg; replace b0 := b0.grown hg (by omega); (try replace qo := qo.grown hg (by omega)); clear hg qr; have qr := qn; clear qn)
    | (refine wpList_putF rfl _ _ _ rfl rfl rfl qo rfl (by rfl) (by rfl) ?_; intro w9 qn hg; (try simp only [List.setIfInBounds_toArray, List.set_cons_succ, List.set_cons_zero] at qn); replace b0 := b0.grown hg (by omega); (try replace qr := qr.grown hg (by omega)); clear hg qo; have qo := qn; clear qn))
  exact res2ct rfl rfl rfl rfl qr Try.underlying24 rfl (by rfl) ⟨rfl, b0.out⟩
set_option maxHeartbeats 2000000 in
theorem rNewtt (id sd rc : Int) (i : -9223372036854775808 ≤ id ∧ id ≤ 9223372036854775807) (d : -9223372036854775808 ≤ sd ∧ sd ≤ 9223372036854775807) (r : -9223372036854775808 ≤ rc ∧ rc ≤ 9223372036854775807) (w : World) (e0 : rightS ⟨id, 2, sd, rc, 0, false, false, [], 3, false, -1⟩ = true) :
    Calls Try.prog 10 #[.int .i64 id, .int .i64 sd, .int .i64 rc, .bool true] w (NwP ⟨id, 2, sd, rc, 0, false, false, [], 3, false, -1⟩ 0 w) := by
  have RT := Lib.hid fun W => rSRight ⟨id, 2, sd, rc, 0, false, false, [], 3, false, -1⟩ (newOk id sd rc 2 i d r (by simp)) none 0 0 W rfl (by omega)
  rw [e0] at RT
  have CM := Lib.hid fun W => fComes 0 1 true (by omega) W
  rw [show comesF 0 1 true = ⟨2, true, false, 0⟩ by decide] at CM
  have b0 := (Bel.refl w).alloc (.cells #[.int .i64 0, .int .u8 0, .int .i64 0, .int .i64 0, .int .i64 0, .bool false, .bool false, .slice none 0 0, .int .u8 0, .bool false, .int .i64 0] 24)
  have qr := Blk.new w 24 #[.int .i64 0, .int .u8 0, .int .i64 0, .int .i64 0, .int .i64 0, .bool false, .bool false, .slice none 0 0, .int .u8 0, .bool false, .int .i64 0]
  have hfl : ∀ W, (Instr.field 32 (.agg #[.int .u8 2, .bool true, .bool false, .int .u32 0]) 0).run Try.prog W = .ok (.int .u8 2) W := fun W => by kernel_rfl
  clear e0 i d r
  have qo := Blk.newAt (b := w.heap.size + 1) (w.alloc (.cells #[.int .i64 0, .int .u8 0, .int .i64 0, .int .i64 0, .int .i64 0, .bool false, .bool false, .slice none 0 0, .int .u8 0, .bool false, .int .i64 0] 24)) 24 #[.int .i64 id, .int .u8 1, .int .i64 sd, .int .i64 rc, .int .i64 0, .bool false, .bool false, .slice none 0 0, .int .u8 3, .bool false, .int .i64 (-1)] (by simp)
  replace qr := qr.alloc (.cells #[.int .i64 id, .int .u8 1, .int .i64 sd, .int .i64 rc, .int .i64 0, .bool false, .bool false, .slice none 0 0, .int .u8 3, .bool false, .int .i64 (-1)] 24)
  replace b0 := b0.alloc (.cells #[.int .i64 id, .int .u8 1, .int .i64 sd, .int .i64 rc, .int .i64 0, .bool false, .bool false, .slice none 0 0, .int .u8 3, .bool false, .int .i64 (-1)] 24)
  go_enter Try.func10, Try.ntmps10
  go_wp2_with (first
    | (go_at_call 31; refine (RT.out _).mono ?_; rintro e w9 ⟨rfl, hb⟩; replace b0 := b0.below hb; (try replace qr := qr.below hb); (try replace qo := qo.below hb))
    | (refine wpList_getB rfl _ _ rfl rfl qo Try.underlying24 rfl (by rfl) ?_)
    | (refine wpList_putB rfl _ _ _ rfl rfl rfl qr (by rfl) (by rfl) (by rfl) ?_; intro w9 qn hg; replace b0 := b0.grown hg (by omega); (try replace qo := qo.grown hg (by omega)); clear hg qr; have qr := qn; clear qn)
    | (refine wpList_putF rfl _ _ _ rfl rfl rfl qo rfl (by rfl) (by rfl) ?_; intro w9 qn hg; (try simp only [List.setIfInBounds_toArray, List.set_cons_succ, List.set_cons_zero] at qn); replace b0 := b0.grown hg (by omega); (try replace qr := qr.grown hg (by omega)); clear hg qo; have qo := qn; clear qn))
  exact res2ct rfl rfl rfl rfl qr Try.underlying24 rfl (by rfl) ⟨rfl, b0.out⟩
theorem rNew (id sd rc : Int) (en : Bool) (i : -9223372036854775808 ≤ id ∧ id ≤ 9223372036854775807) (d : -9223372036854775808 ≤ sd ∧ sd ≤ 9223372036854775807) (r : -9223372036854775808 ≤ rc ∧ rc ≤ 9223372036854775807) (w : World) :
    Calls Try.prog 10 #[.int .i64 id, .int .i64 sd, .int .i64 rc, .bool en] w (NwP (newR id sd rc en) (newE id sd rc en) w) := by
  unfold newR newE
  by_cases h : RightS (newS id sd rc en)
  · rw [if_pos h, if_pos h]
    cases en
    · exact rNewft id sd rc i d r w (rightS_yes h)
    · exact rNewtt id sd rc i d r w (rightS_yes h)
  · rw [if_neg h, if_neg h]
    cases en
    · exact rNewff id sd rc i d r w (rightS_no h)
    · exact rNewtf id sd rc i d r w (rightS_no h)
set_option maxHeartbeats 2000000 in
theorem fBackno (s : Str) (ok : StrOk s) (A : Option Addr) (n c : Nat) (w : World) (h : Byt w A n c s.out) (hn : n ≤ 100000) (e0 : rightS s = false) : Calls Try.prog 16 #[.agg #[.int .i64 (s).id, .int .u8 (s).st, .int .i64 (s).sd, .int .i64 (s).rc, .int .i64 (s).ow, .bool (s).an, .bool (s).en, .slice A n c, .int .u8 (s).ur, .bool (s).inc, .int .i64 (s).sl]] w (StIP (s) 0 w) := by
  have hc := h.cap; have hx := h.mx; have hl := h.len
  have RT := Lib.hid fun (A : Option Addr) (c : Nat) W => fSRight s ok A n c W hl (by omega)
  rw [e0] at RT
  have b0 := ((Bel.refl w).alloc (.cells #[.int .i64 (s).id, .int .u8 (s).st, .int .i64 (s).sd, .int .i64 (s).rc, .int .i64 (s).ow, .bool (s).an, .bool (s).en, .slice A n c, .int .u8 (s).ur, .bool (s).inc, .int .i64 (s).sl] 24)).alloc (.cells #[.int .i64 0, .int .u8 0, .int .i64 0, .int .i64 0, .int .i64 0, .bool false, .bool false, .slice none 0 0, .int .u8 0, .bool false, .int .i64 0] 24)
  have q0 := (Blk.new w 24 #[.int .i64 (s).id, .int .u8 (s).st, .int .i64 (s).sd, .int .i64 (s).rc, .int .i64 (s).ow, .bool (s).an, .bool (s).en, .slice A n c, .int .u8 (s).ur, .bool (s).inc, .int .i64 (s).sl]).alloc (.cells #[.int .i64 0, .int .u8 0, .int .i64 0, .int .i64 0, .int .i64 0, .bool false, .bool false, .slice none 0 0, .int .u8 0, .bool false, .int .i64 0] 24)
  have qr := Blk.newAt (b := w.heap.size + 1) (w.alloc (.cells #[.int .i64 (s).id, .int .u8 (s).st, .int .i64 (s).sd, .int .i64 (s).rc, .int .i64 (s).ow, .bool (s).an, .bool (s).en, .slice A n c, .int .u8 (s).ur, .bool (s).inc, .int .i64 (s).sl] 24)) 24 #[.int .i64 0, .int .u8 0, .int .i64 0, .int .i64 0, .int .i64 0, .bool false, .bool false, .slice none 0 0, .int .u8 0, .bool false, .int .i64 0] (by simp)
  have y := (h.alloc (.cells #[.int .i64 (s).id, .int .u8 (s).st, .int .i64 (s).sd, .int .i64 (s).rc, .int .i64 (s).ow, .bool (s).an, .bool (s).en, .slice A n c, .int .u8 (s).ur, .bool (s).inc, .int .i64 (s).sl] 24)).alloc (.cells #[.int .i64 0, .int .u8 0, .int .i64 0, .int .i64 0, .int .i64 0, .bool false, .bool false, .slice none 0 0, .int .u8 0, .bool false, .int .i64 0] 24)
  have sz := b0.out.size
  have HL := Lib.hid hl
  clear h hl e0
  go_enter Try.func16, Try.ntmps16
  go_wp2_with (first
    | (go_at_call 33; (with_reducible refine (fSOwn s A n c _ y (by omega)).mono ?_); rintro e w9 ⟨A1, n1, c1, rfl, m1, hb⟩; obtain rfl : n1 = n := (by have h1 := m1.len; have h2 := HL.out; omega); replace b0 := b0.below hb; (try replace q0 := q0.below hb); (try replace qr := qr.below hb); (try replace m1 := m1.below hb); (try clear q0_1); (try have q0_1 := q0.at 1 rfl); (try clear q0_3); (try have q0_3 := q0.at 3 rfl); (try clear q0_4); (try have q0_4 := q0.at 4 rfl); (try clear qr_1); (try have qr_1 := qr.at 1 rfl); (try clear qr_3); (try have qr_3 := qr.at 3 rfl); (try clear qr_4); (try have qr_4 := qr.at 4 rfl); clear hb y)
    | (go_at_call 30; (with_reducible refine (RT.out _ _ _).mono ?_); rintro e w9 ⟨rfl, hb⟩; replace b0 := b0.below hb; (try replace q0 := q0.below hb); (try replace qr := qr.below hb); (try replace m1 := m1.below hb); (try clear q0_1); (try have q0_1 := q0.at 1 rfl); (try clear q0_3); (try have q0_3 := q0.at 3 rfl); (try clear q0_4); (try have q0_4 := q0.at 4 rfl); (try clear qr_1); (try have qr_1 := qr.at 1 rfl); (try clear qr_3); (try have qr_3 := qr.at 3 rfl); (try clear qr_4); (try have qr_4 := qr.at 4 rfl))
    | (refine wpList_getB rfl _ _ rfl rfl q0 Try.underlying24 rfl (by rfl) ?_)
    | (refine wpList_getB rfl _ _ rfl rfl qr Try.underlying24 rfl (by rfl) ?_)
    | (refine wpList_putB rfl _ _ _ rfl rfl rfl qr (by rfl) (by rfl) (by rfl) ?_; intro w9 qn hg; replace b0 := b0.grown hg (by omega); (try replace m1 := m1.grownB qr (by decide) hg); (try replace q0 := q0.grown hg (by omega)); clear hg qr; have qr := qn; clear qn; (try clear q0_1); (try have q0_1 := q0.at 1 rfl); (try clear q0_3); (try have q0_3 := q0.at 3 rfl); (try clear q0_4); (try have q0_4 := q0.at 4 rfl); (try clear qr_1); (try have qr_1 := qr.at 1 rfl); (try clear qr_3); (try have qr_3 := qr.at 3 rfl); (try clear qr_4); (try have qr_4 := qr.at 4 rfl))
    | (refine wpList_putB rfl _ _ _ rfl rfl rfl q0 (by rfl) (by rfl) (by rfl) ?_; intro w9 qn hg; replace b0 := b0.grown hg (by omega); (try replace m1 := m1.grownB q0 (by decide) hg); (try replace qr := qr.grown hg (by omega)); clear hg q0; have q0 := qn; clear qn; (try clear q0_1); (try have q0_1 := q0.at 1 rfl); (try clear q0_3); (try have q0_3 := q0.at 3 rfl); (try clear q0_4); (try have q0_4 := q0.at 4 rfl); (try clear qr_1); (try have qr_1 := qr.at 1 rfl); (try clear qr_3); (try have qr_3 := qr.at 3 rfl); (try clear qr_4); (try have qr_4 := qr.at 4 rfl))
    | (refine wpList_putF rfl _ _ _ rfl rfl rfl qr rfl (by rfl) (by rfl) ?_; intro w9 qn hg; (try simp only [List.setIfInBounds_toArray, List.set_cons_succ, List.set_cons_zero] at qn); replace b0 := b0.grown hg (by omega); (try replace m1 := m1.grownB qr (by decide) hg); (try replace q0 := q0.grown hg (by omega)); clear hg qr; have qr := qn; clear qn; (try clear q0_1); (try have q0_1 := q0.at 1 rfl); (try clear q0_3); (try have q0_3 := q0.at 3 rfl); (try clear q0_4); (try have q0_4 := q0.at 4 rfl); (try clear qr_1); (try have qr_1 := qr.at 1 rfl); (try clear qr_3); (try have qr_3 := qr.at 3 rfl); (try clear qr_4); (try have qr_4 := qr.at 4 rfl))
    | (refine wpList_putF rfl _ _ _ rfl rfl rfl q0 rfl (by rfl) (by rfl) ?_; intro w9 qn hg; (try simp only [List.setIfInBounds_toArray, List.set_cons_succ, List.set_cons_zero] at qn); replace b0 := b0.grown hg (by omega); (try replace m1 := m1.grownB q0 (by decide) hg); (try replace qr := qr.grown hg (by omega)); clear hg q0; have q0 := qn; clear qn; (try clear q0_1); (try have q0_1 := q0.at 1 rfl); (try clear q0_3); (try have q0_3 := q0.at 3 rfl); (try clear q0_4); (try have q0_4 := q0.at 4 rfl); (try clear qr_1); (try have qr_1 := qr.at 1 rfl); (try clear qr_3); (try have qr_3 := qr.at 3 rfl); (try clear qr_4); (try have qr_4 := qr.at 4 rfl)))
  exact res2ct rfl rfl rfl rfl qr Try.underlying24 rfl (by rfl) ⟨_, _, _, rfl, m1.base_le (by simp; omega), b0.out⟩
set_option maxHeartbeats 2000000 in
theorem fBackz (s : Str) (ok : StrOk s) (A : Option Addr) (n c : Nat) (w : World) (h : Byt w A n c s.out) (hn : n ≤ 100000) (e0 : rightS s = true) (e1 : (s.st == 1) = false) (e2 : (s.st == 3) = false) : Calls Try.prog 16 #[.agg #[.int .i64 (s).id, .int .u8 (s).st, .int .i64 (s).sd, .int .i64 (s).rc, .int .i64 (s).ow, .bool (s).an, .bool (s).en, .slice A n c, .int .u8 (s).ur, .bool (s).inc, .int .i64 (s).sl]] w (StIP ({ s with ow := 0 }) 0 w) := by
  have hc := h.cap; have hx := h.mx; have hl := h.len
  have RT := Lib.hid fun (A : Option Addr) (c : Nat) W => fSRight s ok A n c W hl (by omega)
  rw [e0] at RT
  have hR : RightS s := of_decide_eq_true e0
  obtain ⟨_, _, _, ⟨r0, r1⟩, ⟨w0, w1⟩, _⟩ := hR
  have b0 := ((Bel.refl w).alloc (.cells #[.int .i64 (s).id, .int .u8 (s).st, .int .i64 (s).sd, .int .i64 (s).rc, .int .i64 (s).ow, .bool (s).an, .bool (s).en, .slice A n c, .int .u8 (s).ur, .bool (s).inc, .int .i64 (s).sl] 24)).alloc (.cells #[.int .i64 0, .int .u8 0, .int .i64 0, .int .i64 0, .int .i64 0, .bool false, .bool false, .slice none 0 0, .int .u8 0, .bool false, .int .i64 0] 24)
  have q0 := (Blk.new w 24 #[.int .i64 (s).id, .int .u8 (s).st, .int .i64 (s).sd, .int .i64 (s).rc, .int .i64 (s).ow, .bool (s).an, .bool (s).en, .slice A n c, .int .u8 (s).ur, .bool (s).inc, .int .i64 (s).sl]).alloc (.cells #[.int .i64 0, .int .u8 0, .int .i64 0, .int .i64 0, .int .i64 0, .bool false, .bool false, .slice none 0 0, .int .u8 0, .bool false, .int .i64 0] 24)
  have qr := Blk.newAt (b := w.heap.size + 1) (w.alloc (.cells #[.int .i64 (s).id, .int .u8 (s).st, .int .i64 (s).sd, .int .i64 (s).rc, .int .i64 (s).ow, .bool (s).an, .bool (s).en, .slice A n c, .int .u8 (s).ur, .bool (s).inc, .int .i64 (s).sl] 24)) 24 #[.int .i64 0, .int .u8 0, .int .i64 0, .int .i64 0, .int .i64 0, .bool false, .bool false, .slice none 0 0, .int .u8 0, .bool false, .int .i64 0] (by simp)
  have y := (h.alloc (.cells #[.int .i64 (s).id, .int .u8 (s).st, .int .i64 (s).sd, .int .i64 (s).rc, .int .i64 (s).ow, .bool (s).an, .bool (s).en, .slice A n c, .int .u8 (s).ur, .bool (s).inc, .int .i64 (s).sl] 24)).alloc (.cells #[.int .i64 0, .int .u8 0, .int .i64 0, .int .i64 0, .int .i64 0, .bool false, .bool false, .slice none 0 0, .int .u8 0, .bool false, .int .i64 0] 24)
  have sz := b0.out.size
  have HL := Lib.hid hl
  clear h hl e0
  go_enter Try.func16, Try.ntmps16
  go_wp2_with (first
    | (go_at_call 33; (with_reducible refine (fSOwn s A n c _ y (by omega)).mono ?_); rintro e w9 ⟨A1, n1, c1, rfl, m1, hb⟩; obtain rfl : n1 = n := (by have h1 := m1.len; have h2 := HL.out; omega); replace b0 := b0.below hb; (try replace q0 := q0.below hb); (try replace qr := qr.below hb); (try replace m1 := m1.below hb); (try clear q0_1); (try have q0_1 := q0.at 1 rfl); (try clear q0_3); (try have q0_3 := q0.at 3 rfl); (try clear q0_4); (try have q0_4 := q0.at 4 rfl); (try clear qr_1); (try have qr_1 := qr.at 1 rfl); (try clear qr_3); (try have qr_3 := qr.at 3 rfl); (try clear qr_4); (try have qr_4 := qr.at 4 rfl); clear hb y)
    | (go_at_call 30; (with_reducible refine (RT.out _ _ _).mono ?_); rintro e w9 ⟨rfl, hb⟩; replace b0 := b0.below hb; (try replace q0 := q0.below hb); (try replace qr := qr.below hb); (try replace m1 := m1.below hb); (try clear q0_1); (try have q0_1 := q0.at 1 rfl); (try clear q0_3); (try have q0_3 := q0.at 3 rfl); (try clear q0_4); (try have q0_4 := q0.at 4 rfl); (try clear qr_1); (try have qr_1 := qr.at 1 rfl); (try clear qr_3); (try have qr_3 := qr.at 3 rfl); (try clear qr_4); (try have qr_4 := qr.at 4 rfl))
    | (refine wpList_getB rfl _ _ rfl rfl q0 Try.underlying24 rfl (by rfl) ?_)
    | (refine wpList_getB rfl _ _ rfl rfl qr Try.underlying24 rfl (by rfl) ?_)
    | (refine wpList_putB rfl _ _ _ rfl rfl rfl qr (by rfl) (by rfl) (by rfl) ?_; intro w9 qn hg; replace b0 := b0.grown hg (by omega); (try replace m1 := m1.grownB qr (by decide) hg); (try replace q0 := q0.grown hg (by omega)); clear hg qr; have qr := qn; clear qn; (try clear q0_1); (try have q0_1 := q0.at 1 rfl); (try clear q0_3); (try have q0_3 := q0.at 3 rfl); (try clear q0_4); (try have q0_4 := q0.at 4 rfl); (try clear qr_1); (try have qr_1 := qr.at 1 rfl); (try clear qr_3); (try have qr_3 := qr.at 3 rfl); (try clear qr_4); (try have qr_4 := qr.at 4 rfl))
    | (refine wpList_putB rfl _ _ _ rfl rfl rfl q0 (by rfl) (by rfl) (by rfl) ?_; intro w9 qn hg; replace b0 := b0.grown hg (by omega); (try replace m1 := m1.grownB q0 (by decide) hg); (try replace qr := qr.grown hg (by omega)); clear hg q0; have q0 := qn; clear qn; (try clear q0_1); (try have q0_1 := q0.at 1 rfl); (try clear q0_3); (try have q0_3 := q0.at 3 rfl); (try clear q0_4); (try have q0_4 := q0.at 4 rfl); (try clear qr_1); (try have qr_1 := qr.at 1 rfl); (try clear qr_3); (try have qr_3 := qr.at 3 rfl); (try clear qr_4); (try have qr_4 := qr.at 4 rfl))
    | (refine wpList_putF rfl _ _ _ rfl rfl rfl qr rfl (by rfl) (by rfl) ?_; intro w9 qn hg; (try simp only [List.setIfInBounds_toArray, List.set_cons_succ, List.set_cons_zero] at qn); replace b0 := b0.grown hg (by omega); (try replace m1 := m1.grownB qr (by decide) hg); (try replace q0 := q0.grown hg (by omega)); clear hg qr; have qr := qn; clear qn; (try clear q0_1); (try have q0_1 := q0.at 1 rfl); (try clear q0_3); (try have q0_3 := q0.at 3 rfl); (try clear q0_4); (try have q0_4 := q0.at 4 rfl); (try clear qr_1); (try have qr_1 := qr.at 1 rfl); (try clear qr_3); (try have qr_3 := qr.at 3 rfl); (try clear qr_4); (try have qr_4 := qr.at 4 rfl))
    | (refine wpList_putF rfl _ _ _ rfl rfl rfl q0 rfl (by rfl) (by rfl) ?_; intro w9 qn hg; (try simp only [List.setIfInBounds_toArray, List.set_cons_succ, List.set_cons_zero] at qn); replace b0 := b0.grown hg (by omega); (try replace m1 := m1.grownB q0 (by decide) hg); (try replace qr := qr.grown hg (by omega)); clear hg q0; have q0 := qn; clear qn; (try clear q0_1); (try have q0_1 := q0.at 1 rfl); (try clear q0_3); (try have q0_3 := q0.at 3 rfl); (try clear q0_4); (try have q0_4 := q0.at 4 rfl); (try clear qr_1); (try have qr_1 := qr.at 1 rfl); (try clear qr_3); (try have qr_3 := qr.at 3 rfl); (try clear qr_4); (try have qr_4 := qr.at 4 rfl)))
  exact res2ct rfl rfl rfl rfl qr Try.underlying24 rfl (by rfl) ⟨_, _, _, rfl, m1.base_le (by simp; omega), b0.out⟩
set_option maxHeartbeats 2000000 in
theorem fBacka1 (s : Str) (ok : StrOk s) (A : Option Addr) (n c : Nat) (w : World) (h : Byt w A n c s.out) (hn : n ≤ 100000) (e0 : rightS s = true) (e1 : (s.st == 1) = true) (e2 : s.rc + s.ow ≤ 2147483647) : Calls Try.prog 16 #[.agg #[.int .i64 (s).id, .int .u8 (s).st, .int .i64 (s).sd, .int .i64 (s).rc, .int .i64 (s).ow, .bool (s).an, .bool (s).en, .slice A n c, .int .u8 (s).ur, .bool (s).inc, .int .i64 (s).sl]] w (StIP ({ s with ow := 0, rc := s.rc + s.ow }) s.ow w) := by
  have hc := h.cap; have hx := h.mx; have hl := h.len
  have RT := Lib.hid fun (A : Option Addr) (c : Nat) W => fSRight s ok A n c W hl (by omega)
  rw [e0] at RT
  have hR : RightS s := of_decide_eq_true e0
  obtain ⟨_, _, _, ⟨r0, r1⟩, ⟨w0, w1⟩, _⟩ := hR
  have b0 := ((Bel.refl w).alloc (.cells #[.int .i64 (s).id, .int .u8 (s).st, .int .i64 (s).sd, .int .i64 (s).rc, .int .i64 (s).ow, .bool (s).an, .bool (s).en, .slice A n c, .int .u8 (s).ur, .bool (s).inc, .int .i64 (s).sl] 24)).alloc (.cells #[.int .i64 0, .int .u8 0, .int .i64 0, .int .i64 0, .int .i64 0, .bool false, .bool false, .slice none 0 0, .int .u8 0, .bool false, .int .i64 0] 24)
  have q0 := (Blk.new w 24 #[.int .i64 (s).id, .int .u8 (s).st, .int .i64 (s).sd, .int .i64 (s).rc, .int .i64 (s).ow, .bool (s).an, .bool (s).en, .slice A n c, .int .u8 (s).ur, .bool (s).inc, .int .i64 (s).sl]).alloc (.cells #[.int .i64 0, .int .u8 0, .int .i64 0, .int .i64 0, .int .i64 0, .bool false, .bool false, .slice none 0 0, .int .u8 0, .bool false, .int .i64 0] 24)
  have qr := Blk.newAt (b := w.heap.size + 1) (w.alloc (.cells #[.int .i64 (s).id, .int .u8 (s).st, .int .i64 (s).sd, .int .i64 (s).rc, .int .i64 (s).ow, .bool (s).an, .bool (s).en, .slice A n c, .int .u8 (s).ur, .bool (s).inc, .int .i64 (s).sl] 24)) 24 #[.int .i64 0, .int .u8 0, .int .i64 0, .int .i64 0, .int .i64 0, .bool false, .bool false, .slice none 0 0, .int .u8 0, .bool false, .int .i64 0] (by simp)
  have y := (h.alloc (.cells #[.int .i64 (s).id, .int .u8 (s).st, .int .i64 (s).sd, .int .i64 (s).rc, .int .i64 (s).ow, .bool (s).an, .bool (s).en, .slice A n c, .int .u8 (s).ur, .bool (s).inc, .int .i64 (s).sl] 24)).alloc (.cells #[.int .i64 0, .int .u8 0, .int .i64 0, .int .i64 0, .int .i64 0, .bool false, .bool false, .slice none 0 0, .int .u8 0, .bool false, .int .i64 0] 24)
  have sz := b0.out.size
  have HL := Lib.hid hl
  clear h hl e0
  go_enter Try.func16, Try.ntmps16
  go_wp2_with (first
    | (go_at_call 33; (with_reducible refine (fSOwn s A n c _ y (by omega)).mono ?_); rintro e w9 ⟨A1, n1, c1, rfl, m1, hb⟩; obtain rfl : n1 = n := (by have h1 := m1.len; have h2 := HL.out; omega); replace b0 := b0.below hb; (try replace q0 := q0.below hb); (try replace qr := qr.below hb); (try replace m1 := m1.below hb); (try clear q0_1); (try have q0_1 := q0.at 1 rfl); (try clear q0_3); (try have q0_3 := q0.at 3 rfl); (try clear q0_4); (try have q0_4 := q0.at 4 rfl); (try clear qr_1); (try have qr_1 := qr.at 1 rfl); (try clear qr_3); (try have qr_3 := qr.at 3 rfl); (try clear qr_4); (try have qr_4 := qr.at 4 rfl); clear hb y)
    | (go_at_call 30; (with_reducible refine (RT.out _ _ _).mono ?_); rintro e w9 ⟨rfl, hb⟩; replace b0 := b0.below hb; (try replace q0 := q0.below hb); (try replace qr := qr.below hb); (try replace m1 := m1.below hb); (try clear q0_1); (try have q0_1 := q0.at 1 rfl); (try clear q0_3); (try have q0_3 := q0.at 3 rfl); (try clear q0_4); (try have q0_4 := q0.at 4 rfl); (try clear qr_1); (try have qr_1 := qr.at 1 rfl); (try clear qr_3); (try have qr_3 := qr.at 3 rfl); (try clear qr_4); (try have qr_4 := qr.at 4 rfl))
    | (refine wpList_getB rfl _ _ rfl rfl q0 Try.underlying24 rfl (by rfl) ?_)
    | (refine wpList_getB rfl _ _ rfl rfl qr Try.underlying24 rfl (by rfl) ?_)
    | (refine wpList_putB rfl _ _ _ rfl rfl rfl qr (by rfl) (by rfl) (by rfl) ?_; intro w9 qn hg; replace b0 := b0.grown hg (by omega); (try replace m1 := m1.grownB qr (by decide) hg); (try replace q0 := q0.grown hg (by omega)); clear hg qr; have qr := qn; clear qn; (try clear q0_1); (try have q0_1 := q0.at 1 rfl); (try clear q0_3); (try have q0_3 := q0.at 3 rfl); (try clear q0_4); (try have q0_4 := q0.at 4 rfl); (try clear qr_1); (try have qr_1 := qr.at 1 rfl); (try clear qr_3); (try have qr_3 := qr.at 3 rfl); (try clear qr_4); (try have qr_4 := qr.at 4 rfl))
    | (refine wpList_putB rfl _ _ _ rfl rfl rfl q0 (by rfl) (by rfl) (by rfl) ?_; intro w9 qn hg; replace b0 := b0.grown hg (by omega); (try replace m1 := m1.grownB q0 (by decide) hg); (try replace qr := qr.grown hg (by omega)); clear hg q0; have q0 := qn; clear qn; (try clear q0_1); (try have q0_1 := q0.at 1 rfl); (try clear q0_3); (try have q0_3 := q0.at 3 rfl); (try clear q0_4); (try have q0_4 := q0.at 4 rfl); (try clear qr_1); (try have qr_1 := qr.at 1 rfl); (try clear qr_3); (try have qr_3 := qr.at 3 rfl); (try clear qr_4); (try have qr_4 := qr.at 4 rfl))
    | (refine wpList_putF rfl _ _ _ rfl rfl rfl qr rfl (by rfl) (by rfl) ?_; intro w9 qn hg; (try simp only [List.setIfInBounds_toArray, List.set_cons_succ, List.set_cons_zero] at qn); replace b0 := b0.grown hg (by omega); (try replace m1 := m1.grownB qr (by decide) hg); (try replace q0 := q0.grown hg (by omega)); clear hg qr; have qr := qn; clear qn; (try clear q0_1); (try have q0_1 := q0.at 1 rfl); (try clear q0_3); (try have q0_3 := q0.at 3 rfl); (try clear q0_4); (try have q0_4 := q0.at 4 rfl); (try clear qr_1); (try have qr_1 := qr.at 1 rfl); (try clear qr_3); (try have qr_3 := qr.at 3 rfl); (try clear qr_4); (try have qr_4 := qr.at 4 rfl))
    | (refine wpList_putF rfl _ _ _ rfl rfl rfl q0 rfl (by rfl) (by rfl) ?_; intro w9 qn hg; (try simp only [List.setIfInBounds_toArray, List.set_cons_succ, List.set_cons_zero] at qn); replace b0 := b0.grown hg (by omega); (try replace m1 := m1.grownB q0 (by decide) hg); (try replace qr := qr.grown hg (by omega)); clear hg q0; have q0 := qn; clear qn; (try clear q0_1); (try have q0_1 := q0.at 1 rfl); (try clear q0_3); (try have q0_3 := q0.at 3 rfl); (try clear q0_4); (try have q0_4 := q0.at 4 rfl); (try clear qr_1); (try have qr_1 := qr.at 1 rfl); (try clear qr_3); (try have qr_3 := qr.at 3 rfl); (try clear qr_4); (try have qr_4 := qr.at 4 rfl)))
  exact res2ct rfl rfl rfl rfl qr Try.underlying24 rfl (by rfl) ⟨_, _, _, rfl, m1.base_le (by simp; omega), b0.out⟩
set_option maxHeartbeats 2000000 in
theorem fBacka2 (s : Str) (ok : StrOk s) (A : Option Addr) (n c : Nat) (w : World) (h : Byt w A n c s.out) (hn : n ≤ 100000) (e0 : rightS s = true) (e1 : (s.st == 1) = true) (e2 : 2147483647 < s.rc + s.ow) : Calls Try.prog 16 #[.agg #[.int .i64 (s).id, .int .u8 (s).st, .int .i64 (s).sd, .int .i64 (s).rc, .int .i64 (s).ow, .bool (s).an, .bool (s).en, .slice A n c, .int .u8 (s).ur, .bool (s).inc, .int .i64 (s).sl]] w (StIP ({ s with ow := 0, rc := 2147483647 }) s.ow w) := by
  have hc := h.cap; have hx := h.mx; have hl := h.len
  have RT := Lib.hid fun (A : Option Addr) (c : Nat) W => fSRight s ok A n c W hl (by omega)
  rw [e0] at RT
  have hR : RightS s := of_decide_eq_true e0
  obtain ⟨_, _, _, ⟨r0, r1⟩, ⟨w0, w1⟩, _⟩ := hR
  have b0 := ((Bel.refl w).alloc (.cells #[.int .i64 (s).id, .int .u8 (s).st, .int .i64 (s).sd, .int .i64 (s).rc, .int .i64 (s).ow, .bool (s).an, .bool (s).en, .slice A n c, .int .u8 (s).ur, .bool (s).inc, .int .i64 (s).sl] 24)).alloc (.cells #[.int .i64 0, .int .u8 0, .int .i64 0, .int .i64 0, .int .i64 0, .bool false, .bool false, .slice none 0 0, .int .u8 0, .bool false, .int .i64 0] 24)
  have q0 := (Blk.new w 24 #[.int .i64 (s).id, .int .u8 (s).st, .int .i64 (s).sd, .int .i64 (s).rc, .int .i64 (s).ow, .bool (s).an, .bool (s).en, .slice A n c, .int .u8 (s).ur, .bool (s).inc, .int .i64 (s).sl]).alloc (.cells #[.int .i64 0, .int .u8 0, .int .i64 0, .int .i64 0, .int .i64 0, .bool false, .bool false, .slice none 0 0, .int .u8 0, .bool false, .int .i64 0] 24)
  have qr := Blk.newAt (b := w.heap.size + 1) (w.alloc (.cells #[.int .i64 (s).id, .int .u8 (s).st, .int .i64 (s).sd, .int .i64 (s).rc, .int .i64 (s).ow, .bool (s).an, .bool (s).en, .slice A n c, .int .u8 (s).ur, .bool (s).inc, .int .i64 (s).sl] 24)) 24 #[.int .i64 0, .int .u8 0, .int .i64 0, .int .i64 0, .int .i64 0, .bool false, .bool false, .slice none 0 0, .int .u8 0, .bool false, .int .i64 0] (by simp)
  have y := (h.alloc (.cells #[.int .i64 (s).id, .int .u8 (s).st, .int .i64 (s).sd, .int .i64 (s).rc, .int .i64 (s).ow, .bool (s).an, .bool (s).en, .slice A n c, .int .u8 (s).ur, .bool (s).inc, .int .i64 (s).sl] 24)).alloc (.cells #[.int .i64 0, .int .u8 0, .int .i64 0, .int .i64 0, .int .i64 0, .bool false, .bool false, .slice none 0 0, .int .u8 0, .bool false, .int .i64 0] 24)
  have sz := b0.out.size
  have HL := Lib.hid hl
  clear h hl e0
  go_enter Try.func16, Try.ntmps16
  go_wp2_with (first
    | (go_at_call 33; (with_reducible refine (fSOwn s A n c _ y (by omega)).mono ?_); rintro e w9 ⟨A1, n1, c1, rfl, m1, hb⟩; obtain rfl : n1 = n := (by have h1 := m1.len; have h2 := HL.out; omega); replace b0 := b0.below hb; (try replace q0 := q0.below hb); (try replace qr := qr.below hb); (try replace m1 := m1.below hb); (try clear q0_1); (try have q0_1 := q0.at 1 rfl); (try clear q0_3); (try have q0_3 := q0.at 3 rfl); (try clear q0_4); (try have q0_4 := q0.at 4 rfl); (try clear qr_1); (try have qr_1 := qr.at 1 rfl); (try clear qr_3); (try have qr_3 := qr.at 3 rfl); (try clear qr_4); (try have qr_4 := qr.at 4 rfl); clear hb y)
    | (go_at_call 30; (with_reducible refine (RT.out _ _ _).mono ?_); rintro e w9 ⟨rfl, hb⟩; replace b0 := b0.below hb; (try replace q0 := q0.below hb); (try replace qr := qr.below hb); (try replace m1 := m1.below hb); (try clear q0_1); (try have q0_1 := q0.at 1 rfl); (try clear q0_3); (try have q0_3 := q0.at 3 rfl); (try clear q0_4); (try have q0_4 := q0.at 4 rfl); (try clear qr_1); (try have qr_1 := qr.at 1 rfl); (try clear qr_3); (try have qr_3 := qr.at 3 rfl); (try clear qr_4); (try have qr_4 := qr.at 4 rfl))
    | (refine wpList_getB rfl _ _ rfl rfl q0 Try.underlying24 rfl (by rfl) ?_)
    | (refine wpList_getB rfl _ _ rfl rfl qr Try.underlying24 rfl (by rfl) ?_)
    | (refine wpList_putB rfl _ _ _ rfl rfl rfl qr (by rfl) (by rfl) (by rfl) ?_; intro w9 qn hg; replace b0 := b0.grown hg (by omega); (try replace m1 := m1.grownB qr (by decide) hg); (try replace q0 := q0.grown hg (by omega)); clear hg qr; have qr := qn; clear qn; (try clear q0_1); (try have q0_1 := q0.at 1 rfl); (try clear q0_3); (try have q0_3 := q0.at 3 rfl); (try clear q0_4); (try have q0_4 := q0.at 4 rfl); (try clear qr_1); (try have qr_1 := qr.at 1 rfl); (try clear qr_3); (try have qr_3 := qr.at 3 rfl); (try clear qr_4); (try have qr_4 := qr.at 4 rfl))
    | (refine wpList_putB rfl _ _ _ rfl rfl rfl q0 (by rfl) (by rfl) (by rfl) ?_; intro w9 qn hg; replace b0 := b0.grown hg (by omega); (try replace m1 := m1.grownB q0 (by decide) hg); (try replace qr := qr.grown hg (by omega)); clear hg q0; have q0 := qn; clear qn; (try clear q0_1); (try have q0_1 := q0.at 1 rfl); (try clear q0_3); (try have q0_3 := q0.at 3 rfl); (try clear q0_4); (try have q0_4 := q0.at 4 rfl); (try clear qr_1); (try have qr_1 := qr.at 1 rfl); (try clear qr_3); (try have qr_3 := qr.at 3 rfl); (try clear qr_4); (try have qr_4 := qr.at 4 rfl))
    | (refine wpList_putF rfl _ _ _ rfl rfl rfl qr rfl (by rfl) (by rfl) ?_; intro w9 qn hg; (try simp only [List.setIfInBounds_toArray, List.set_cons_succ, List.set_cons_zero] at qn); replace b0 := b0.grown hg (by omega); (try replace m1 := m1.grownB qr (by decide) hg); (try replace q0 := q0.grown hg (by omega)); clear hg qr; have qr := qn; clear qn; (try clear q0_1); (try have q0_1 := q0.at 1 rfl); (try clear q0_3); (try have q0_3 := q0.at 3 rfl); (try clear q0_4); (try have q0_4 := q0.at 4 rfl); (try clear qr_1); (try have qr_1 := qr.at 1 rfl); (try clear qr_3); (try have qr_3 := qr.at 3 rfl); (try clear qr_4); (try have qr_4 := qr.at 4 rfl))
    | (refine wpList_putF rfl _ _ _ rfl rfl rfl q0 rfl (by rfl) (by rfl) ?_; intro w9 qn hg; (try simp only [List.setIfInBounds_toArray, List.set_cons_succ, List.set_cons_zero] at qn); replace b0 := b0.grown hg (by omega); (try replace m1 := m1.grownB q0 (by decide) hg); (try replace qr := qr.grown hg (by omega)); clear hg q0; have q0 := qn; clear qn; (try clear q0_1); (try have q0_1 := q0.at 1 rfl); (try clear q0_3); (try have q0_3 := q0.at 3 rfl); (try clear q0_4); (try have q0_4 := q0.at 4 rfl); (try clear qr_1); (try have qr_1 := qr.at 1 rfl); (try clear qr_3); (try have qr_3 := qr.at 3 rfl); (try clear qr_4); (try have qr_4 := qr.at 4 rfl)))
  exact res2ct rfl rfl rfl rfl qr Try.underlying24 rfl (by rfl) ⟨_, _, _, rfl, m1.base_le (by simp; omega), b0.out⟩
set_option maxHeartbeats 2000000 in
theorem fBackc1 (s : Str) (ok : StrOk s) (A : Option Addr) (n c : Nat) (w : World) (h : Byt w A n c s.out) (hn : n ≤ 100000) (e0 : rightS s = true) (e1 : (s.st == 1) = false) (e2 : (s.st == 3) = true) (e3 : s.rc + s.ow ≤ 2147483647) : Calls Try.prog 16 #[.agg #[.int .i64 (s).id, .int .u8 (s).st, .int .i64 (s).sd, .int .i64 (s).rc, .int .i64 (s).ow, .bool (s).an, .bool (s).en, .slice A n c, .int .u8 (s).ur, .bool (s).inc, .int .i64 (s).sl]] w (StIP ({ s with ow := 0, rc := s.rc + s.ow }) s.ow w) := by
  have hc := h.cap; have hx := h.mx; have hl := h.len
  have RT := Lib.hid fun (A : Option Addr) (c : Nat) W => fSRight s ok A n c W hl (by omega)
  rw [e0] at RT
  have hR : RightS s := of_decide_eq_true e0
  obtain ⟨_, _, _, ⟨r0, r1⟩, ⟨w0, w1⟩, _⟩ := hR
  have b0 := ((Bel.refl w).alloc (.cells #[.int .i64 (s).id, .int .u8 (s).st, .int .i64 (s).sd, .int .i64 (s).rc, .int .i64 (s).ow, .bool (s).an, .bool (s).en, .slice A n c, .int .u8 (s).ur, .bool (s).inc, .int .i64 (s).sl] 24)).alloc (.cells #[.int .i64 0, .int .u8 0, .int .i64 0, .int .i64 0, .int .i64 0, .bool false, .bool false, .slice none 0 0, .int .u8 0, .bool false, .int .i64 0] 24)
  have q0 := (Blk.new w 24 #[.int .i64 (s).id, .int .u8 (s).st, .int .i64 (s).sd, .int .i64 (s).rc, .int .i64 (s).ow, .bool (s).an, .bool (s).en, .slice A n c, .int .u8 (s).ur, .bool (s).inc, .int .i64 (s).sl]).alloc (.cells #[.int .i64 0, .int .u8 0, .int .i64 0, .int .i64 0, .int .i64 0, .bool false, .bool false, .slice none 0 0, .int .u8 0, .bool false, .int .i64 0] 24)
  have qr := Blk.newAt (b := w.heap.size + 1) (w.alloc (.cells #[.int .i64 (s).id, .int .u8 (s).st, .int .i64 (s).sd, .int .i64 (s).rc, .int .i64 (s).ow, .bool (s).an, .bool (s).en, .slice A n c, .int .u8 (s).ur, .bool (s).inc, .int .i64 (s).sl] 24)) 24 #[.int .i64 0, .int .u8 0, .int .i64 0, .int .i64 0, .int .i64 0, .bool false, .bool false, .slice none 0 0, .int .u8 0, .bool false, .int .i64 0] (by simp)
  have y := (h.alloc (.cells #[.int .i64 (s).id, .int .u8 (s).st, .int .i64 (s).sd, .int .i64 (s).rc, .int .i64 (s).ow, .bool (s).an, .bool (s).en, .slice A n c, .int .u8 (s).ur, .bool (s).inc, .int .i64 (s).sl] 24)).alloc (.cells #[.int .i64 0, .int .u8 0, .int .i64 0, .int .i64 0, .int .i64 0, .bool false, .bool false, .slice none 0 0, .int .u8 0, .bool false, .int .i64 0] 24)
  have sz := b0.out.size
  have HL := Lib.hid hl
  clear h hl e0
  go_enter Try.func16, Try.ntmps16
  go_wp2_with (first
    | (go_at_call 33; (with_reducible refine (fSOwn s A n c _ y (by omega)).mono ?_); rintro e w9 ⟨A1, n1, c1, rfl, m1, hb⟩; obtain rfl : n1 = n := (by have h1 := m1.len; have h2 := HL.out; omega); replace b0 := b0.below hb; (try replace q0 := q0.below hb); (try replace qr := qr.below hb); (try replace m1 := m1.below hb); (try clear q0_1); (try have q0_1 := q0.at 1 rfl); (try clear q0_3); (try have q0_3 := q0.at 3 rfl); (try clear q0_4); (try have q0_4 := q0.at 4 rfl); (try clear qr_1); (try have qr_1 := qr.at 1 rfl); (try clear qr_3); (try have qr_3 := qr.at 3 rfl); (try clear qr_4); (try have qr_4 := qr.at 4 rfl); clear hb y)
    | (go_at_call 30; (with_reducible refine (RT.out _ _ _).mono ?_); rintro e w9 ⟨rfl, hb⟩; replace b0 := b0.below hb; (try replace q0 := q0.below hb); (try replace qr := qr.below hb); (try replace m1 := m1.below hb); (try clear q0_1); (try have q0_1 := q0.at 1 rfl); (try clear q0_3); (try have q0_3 := q0.at 3 rfl); (try clear q0_4); (try have q0_4 := q0.at 4 rfl); (try clear qr_1); (try have qr_1 := qr.at 1 rfl); (try clear qr_3); (try have qr_3 := qr.at 3 rfl); (try clear qr_4); (try have qr_4 := qr.at 4 rfl))
    | (refine wpList_getB rfl _ _ rfl rfl q0 Try.underlying24 rfl (by rfl) ?_)
    | (refine wpList_getB rfl _ _ rfl rfl qr Try.underlying24 rfl (by rfl) ?_)
    | (refine wpList_putB rfl _ _ _ rfl rfl rfl qr (by rfl) (by rfl) (by rfl) ?_; intro w9 qn hg; replace b0 := b0.grown hg (by omega); (try replace m1 := m1.grownB qr (by decide) hg); (try replace q0 := q0.grown hg (by omega)); clear hg qr; have qr := qn; clear qn; (try clear q0_1); (try have q0_1 := q0.at 1 rfl); (try clear q0_3); (try have q0_3 := q0.at 3 rfl); (try clear q0_4); (try have q0_4 := q0.at 4 rfl); (try clear qr_1); (try have qr_1 := qr.at 1 rfl); (try clear qr_3); (try have qr_3 := qr.at 3 rfl); (try clear qr_4); (try have qr_4 := qr.at 4 rfl))
    | (refine wpList_putB rfl _ _ _ rfl rfl rfl q0 (by rfl) (by rfl) (by rfl) ?_; intro w9 qn hg; replace b0 := b0.grown hg (by omega); (try replace m1 := m1.grownB q0 (by decide) hg); (try replace qr := qr.grown hg (by omega)); clear hg q0; have q0 := qn; clear qn; (try clear q0_1); (try have q0_1 := q0.at 1 rfl); (try clear q0_3); (try have q0_3 := q0.at 3 rfl); (try clear q0_4); (try have q0_4 := q0.at 4 rfl); (try clear qr_1); (try have qr_1 := qr.at 1 rfl); (try clear qr_3); (try have qr_3 := qr.at 3 rfl); (try clear qr_4); (try have qr_4 := qr.at 4 rfl))
    | (refine wpList_putF rfl _ _ _ rfl rfl rfl qr rfl (by rfl) (by rfl) ?_; intro w9 qn hg; (try simp only [List.setIfInBounds_toArray, List.set_cons_succ, List.set_cons_zero] at qn); replace b0 := b0.grown hg (by omega); (try replace m1 := m1.grownB qr (by decide) hg); (try replace q0 := q0.grown hg (by omega)); clear hg qr; have qr := qn; clear qn; (try clear q0_1); (try have q0_1 := q0.at 1 rfl); (try clear q0_3); (try have q0_3 := q0.at 3 rfl); (try clear q0_4); (try have q0_4 := q0.at 4 rfl); (try clear qr_1); (try have qr_1 := qr.at 1 rfl); (try clear qr_3); (try have qr_3 := qr.at 3 rfl); (try clear qr_4); (try have qr_4 := qr.at 4 rfl))
    | (refine wpList_putF rfl _ _ _ rfl rfl rfl q0 rfl (by rfl) (by rfl) ?_; intro w9 qn hg; (try simp only [List.setIfInBounds_toArray, List.set_cons_succ, List.set_cons_zero] at qn); replace b0 := b0.grown hg (by omega); (try replace m1 := m1.grownB q0 (by decide) hg); (try replace qr := qr.grown hg (by omega)); clear hg q0; have q0 := qn; clear qn; (try clear q0_1); (try have q0_1 := q0.at 1 rfl); (try clear q0_3); (try have q0_3 := q0.at 3 rfl); (try clear q0_4); (try have q0_4 := q0.at 4 rfl); (try clear qr_1); (try have qr_1 := qr.at 1 rfl); (try clear qr_3); (try have qr_3 := qr.at 3 rfl); (try clear qr_4); (try have qr_4 := qr.at 4 rfl)))
  exact res2ct rfl rfl rfl rfl qr Try.underlying24 rfl (by rfl) ⟨_, _, _, rfl, m1.base_le (by simp; omega), b0.out⟩
set_option maxHeartbeats 2000000 in
theorem fBackc2 (s : Str) (ok : StrOk s) (A : Option Addr) (n c : Nat) (w : World) (h : Byt w A n c s.out) (hn : n ≤ 100000) (e0 : rightS s = true) (e1 : (s.st == 1) = false) (e2 : (s.st == 3) = true) (e3 : 2147483647 < s.rc + s.ow) : Calls Try.prog 16 #[.agg #[.int .i64 (s).id, .int .u8 (s).st, .int .i64 (s).sd, .int .i64 (s).rc, .int .i64 (s).ow, .bool (s).an, .bool (s).en, .slice A n c, .int .u8 (s).ur, .bool (s).inc, .int .i64 (s).sl]] w (StIP ({ s with ow := 0, rc := 2147483647 }) s.ow w) := by
  have hc := h.cap; have hx := h.mx; have hl := h.len
  have RT := Lib.hid fun (A : Option Addr) (c : Nat) W => fSRight s ok A n c W hl (by omega)
  rw [e0] at RT
  have hR : RightS s := of_decide_eq_true e0
  obtain ⟨_, _, _, ⟨r0, r1⟩, ⟨w0, w1⟩, _⟩ := hR
  have b0 := ((Bel.refl w).alloc (.cells #[.int .i64 (s).id, .int .u8 (s).st, .int .i64 (s).sd, .int .i64 (s).rc, .int .i64 (s).ow, .bool (s).an, .bool (s).en, .slice A n c, .int .u8 (s).ur, .bool (s).inc, .int .i64 (s).sl] 24)).alloc (.cells #[.int .i64 0, .int .u8 0, .int .i64 0, .int .i64 0, .int .i64 0, .bool false, .bool false, .slice none 0 0, .int .u8 0, .bool false, .int .i64 0] 24)
  have q0 := (Blk.new w 24 #[.int .i64 (s).id, .int .u8 (s).st, .int .i64 (s).sd, .int .i64 (s).rc, .int .i64 (s).ow, .bool (s).an, .bool (s).en, .slice A n c, .int .u8 (s).ur, .bool (s).inc, .int .i64 (s).sl]).alloc (.cells #[.int .i64 0, .int .u8 0, .int .i64 0, .int .i64 0, .int .i64 0, .bool false, .bool false, .slice none 0 0, .int .u8 0, .bool false, .int .i64 0] 24)
  have qr := Blk.newAt (b := w.heap.size + 1) (w.alloc (.cells #[.int .i64 (s).id, .int .u8 (s).st, .int .i64 (s).sd, .int .i64 (s).rc, .int .i64 (s).ow, .bool (s).an, .bool (s).en, .slice A n c, .int .u8 (s).ur, .bool (s).inc, .int .i64 (s).sl] 24)) 24 #[.int .i64 0, .int .u8 0, .int .i64 0, .int .i64 0, .int .i64 0, .bool false, .bool false, .slice none 0 0, .int .u8 0, .bool false, .int .i64 0] (by simp)
  have y := (h.alloc (.cells #[.int .i64 (s).id, .int .u8 (s).st, .int .i64 (s).sd, .int .i64 (s).rc, .int .i64 (s).ow, .bool (s).an, .bool (s).en, .slice A n c, .int .u8 (s).ur, .bool (s).inc, .int .i64 (s).sl] 24)).alloc (.cells #[.int .i64 0, .int .u8 0, .int .i64 0, .int .i64 0, .int .i64 0, .bool false, .bool false, .slice none 0 0, .int .u8 0, .bool false, .int .i64 0] 24)
  have sz := b0.out.size
  have HL := Lib.hid hl
  clear h hl e0
  go_enter Try.func16, Try.ntmps16
  go_wp2_with (first
    | (go_at_call 33; (with_reducible refine (fSOwn s A n c _ y (by omega)).mono ?_); rintro e w9 ⟨A1, n1, c1, rfl, m1, hb⟩; obtain rfl : n1 = n := (by have h1 := m1.len; have h2 := HL.out; omega); replace b0 := b0.below hb; (try replace q0 := q0.below hb); (try replace qr := qr.below hb); (try replace m1 := m1.below hb); (try clear q0_1); (try have q0_1 := q0.at 1 rfl); (try clear q0_3); (try have q0_3 := q0.at 3 rfl); (try clear q0_4); (try have q0_4 := q0.at 4 rfl); (try clear qr_1); (try have qr_1 := qr.at 1 rfl); (try clear qr_3); (try have qr_3 := qr.at 3 rfl); (try clear qr_4); (try have qr_4 := qr.at 4 rfl); clear hb y)
    | (go_at_call 30; (with_reducible refine (RT.out _ _ _).mono ?_); rintro e w9 ⟨rfl, hb⟩; replace b0 := b0.below hb; (try replace q0 := q0.below hb); (try replace qr := qr.below hb); (try replace m1 := m1.below hb); (try clear q0_1); (try have q0_1 := q0.at 1 rfl); (try clear q0_3); (try have q0_3 := q0.at 3 rfl); (try clear q0_4); (try have q0_4 := q0.at 4 rfl); (try clear qr_1); (try have qr_1 := qr.at 1 rfl); (try clear qr_3); (try have qr_3 := qr.at 3 rfl); (try clear qr_4); (try have qr_4 := qr.at 4 rfl))
    | (refine wpList_getB rfl _ _ rfl rfl q0 Try.underlying24 rfl (by rfl) ?_)
    | (refine wpList_getB rfl _ _ rfl rfl qr Try.underlying24 rfl (by rfl) ?_)
    | (refine wpList_putB rfl _ _ _ rfl rfl rfl qr (by rfl) (by rfl) (by rfl) ?_; intro w9 qn hg; replace b0 := b0.grown hg (by omega); (try replace m1 := m1.grownB qr (by decide) hg); (try replace q0 := q0.grown hg (by omega)); clear hg qr; have qr := qn; clear qn; (try clear q0_1); (try have q0_1 := q0.at 1 rfl); (try clear q0_3); (try have q0_3 := q0.at 3 rfl); (try clear q0_4); (try have q0_4 := q0.at 4 rfl); (try clear qr_1); (try have qr_1 := qr.at 1 rfl); (try clear qr_3); (try have qr_3 := qr.at 3 rfl); (try clear qr_4); (try have qr_4 := qr.at 4 rfl))
    | (refine wpList_putB rfl _ _ _ rfl rfl rfl q0 (by rfl) (by rfl) (by rfl) ?_; intro w9 qn hg; replace b0 := b0.grown hg (by omega); (try replace m1 := m1.grownB q0 (by decide) hg); (try replace qr := qr.grown hg (by omega)); clear hg q0; have q0 := qn; clear qn; (try clear q0_1); (try have q0_1 := q0.at 1 rfl); (try clear q0_3); (try have q0_3 := q0.at 3 rfl); (try clear q0_4); (try have q0_4 := q0.at 4 rfl); (try clear qr_1); (try have qr_1 := qr.at 1 rfl); (try clear qr_3); (try have qr_3 := qr.at 3 rfl); (try clear qr_4); (try have qr_4 := qr.at 4 rfl))
    | (refine wpList_putF rfl _ _ _ rfl rfl rfl qr rfl (by rfl) (by rfl) ?_; intro w9 qn hg; (try simp only [List.setIfInBounds_toArray, List.set_cons_succ, List.set_cons_zero] at qn); replace b0 := b0.grown hg (by omega); (try replace m1 := m1.grownB qr (by decide) hg); (try replace q0 := q0.grown hg (by omega)); clear hg qr; have qr := qn; clear qn; (try clear q0_1); (try have q0_1 := q0.at 1 rfl); (try clear q0_3); (try have q0_3 := q0.at 3 rfl); (try clear q0_4); (try have q0_4 := q0.at 4 rfl); (try clear qr_1); (try have qr_1 := qr.at 1 rfl); (try clear qr_3); (try have qr_3 := qr.at 3 rfl); (try clear qr_4); (try have qr_4 := qr.at 4 rfl))
    | (refine wpList_putF rfl _ _ _ rfl rfl rfl q0 rfl (by rfl) (by rfl) ?_; intro w9 qn hg; (try simp only [List.setIfInBounds_toArray, List.set_cons_succ, List.set_cons_zero] at qn); replace b0 := b0.grown hg (by omega); (try replace m1 := m1.grownB q0 (by decide) hg); (try replace qr := qr.grown hg (by omega)); clear hg q0; have q0 := qn; clear qn; (try clear q0_1); (try have q0_1 := q0.at 1 rfl); (try clear q0_3); (try have q0_3 := q0.at 3 rfl); (try clear q0_4); (try have q0_4 := q0.at 4 rfl); (try clear qr_1); (try have qr_1 := qr.at 1 rfl); (try clear qr_3); (try have qr_3 := qr.at 3 rfl); (try clear qr_4); (try have qr_4 := qr.at 4 rfl)))
  exact res2ct rfl rfl rfl rfl qr Try.underlying24 rfl (by rfl) ⟨_, _, _, rfl, m1.base_le (by simp; omega), b0.out⟩
set_option maxHeartbeats 2000000 in
theorem rBackno (s : Str) (ok : StrOk s) (A : Option Addr) (n c : Nat) (w : World) (h : Byt w A n c s.out) (hn : n ≤ 100000) (e0 : rightS s = false) : Calls Try.prog 17 #[.agg #[.int .i64 (s).id, .int .u8 (s).st, .int .i64 (s).sd, .int .i64 (s).rc, .int .i64 (s).ow, .bool (s).an, .bool (s).en, .slice A n c, .int .u8 (s).ur, .bool (s).inc, .int .i64 (s).sl]] w (StIP (s) 0 w) := by
  have hc := h.cap; have hx := h.mx; have hl := h.len
  have RT := Lib.hid fun (A : Option Addr) (c : Nat) W => rSRight s ok A n c W hl (by omega)
  rw [e0] at RT
  have b0 := ((Bel.refl w).alloc (.cells #[.int .i64 (s).id, .int .u8 (s).st, .int .i64 (s).sd, .int .i64 (s).rc, .int .i64 (s).ow, .bool (s).an, .bool (s).en, .slice A n c, .int .u8 (s).ur, .bool (s).inc, .int .i64 (s).sl] 24)).alloc (.cells #[.int .i64 0, .int .u8 0, .int .i64 0, .int .i64 0, .int .i64 0, .bool false, .bool false, .slice none 0 0, .int .u8 0, .bool false, .int .i64 0] 24)
  have q0 := (Blk.new w 24 #[.int .i64 (s).id, .int .u8 (s).st, .int .i64 (s).sd, .int .i64 (s).rc, .int .i64 (s).ow, .bool (s).an, .bool (s).en, .slice A n c, .int .u8 (s).ur, .bool (s).inc, .int .i64 (s).sl]).alloc (.cells #[.int .i64 0, .int .u8 0, .int .i64 0, .int .i64 0, .int .i64 0, .bool false, .bool false, .slice none 0 0, .int .u8 0, .bool false, .int .i64 0] 24)
  have qr := Blk.newAt (b := w.heap.size + 1) (w.alloc (.cells #[.int .i64 (s).id, .int .u8 (s).st, .int .i64 (s).sd, .int .i64 (s).rc, .int .i64 (s).ow, .bool (s).an, .bool (s).en, .slice A n c, .int .u8 (s).ur, .bool (s).inc, .int .i64 (s).sl] 24)) 24 #[.int .i64 0, .int .u8 0, .int .i64 0, .int .i64 0, .int .i64 0, .bool false, .bool false, .slice none 0 0, .int .u8 0, .bool false, .int .i64 0] (by simp)
  have y := (h.alloc (.cells #[.int .i64 (s).id, .int .u8 (s).st, .int .i64 (s).sd, .int .i64 (s).rc, .int .i64 (s).ow, .bool (s).an, .bool (s).en, .slice A n c, .int .u8 (s).ur, .bool (s).inc, .int .i64 (s).sl] 24)).alloc (.cells #[.int .i64 0, .int .u8 0, .int .i64 0, .int .i64 0, .int .i64 0, .bool false, .bool false, .slice none 0 0, .int .u8 0, .bool false, .int .i64 0] 24)
  have sz := b0.out.size
  have HL := Lib.hid hl
  clear h hl e0
  go_enter Try.func17, Try.ntmps17
  go_wp2_with (first
    | (go_at_call 36; (with_reducible refine (rSOwn s A n c _ y (by omega)).mono ?_); rintro e w9 ⟨A1, n1, c1, rfl, m1, hb⟩; obtain rfl : n1 = n := (by have h1 := m1.len; have h2 := HL.out; omega); replace b0 := b0.below hb; (try replace q0 := q0.below hb); (try replace qr := qr.below hb); (try replace m1 := m1.below hb); (try clear q0_1); (try have q0_1 := q0.at 1 rfl); (try clear q0_3); (try have q0_3 := q0.at 3 rfl); (try clear q0_4); (try have q0_4 := q0.at 4 rfl); (try clear qr_1); (try have qr_1 := qr.at 1 rfl); (try clear qr_3); (try have qr_3 := qr.at 3 rfl); (try clear qr_4); (try have qr_4 := qr.at 4 rfl); clear hb y)
    | (go_at_call 31; (with_reducible refine (RT.out _ _ _).mono ?_); rintro e w9 ⟨rfl, hb⟩; replace b0 := b0.below hb; (try replace q0 := q0.below hb); (try replace qr := qr.below hb); (try replace m1 := m1.below hb); (try clear q0_1); (try have q0_1 := q0.at 1 rfl); (try clear q0_3); (try have q0_3 := q0.at 3 rfl); (try clear q0_4); (try have q0_4 := q0.at 4 rfl); (try clear qr_1); (try have qr_1 := qr.at 1 rfl); (try clear qr_3); (try have qr_3 := qr.at 3 rfl); (try clear qr_4); (try have qr_4 := qr.at 4 rfl))
    | (refine wpList_getB rfl _ _ rfl rfl q0 Try.underlying24 rfl (by rfl) ?_)
    | (refine wpList_getB rfl _ _ rfl rfl qr Try.underlying24 rfl (by rfl) ?_)
    | (refine wpList_putB rfl _ _ _ rfl rfl rfl qr (by rfl) (by rfl) (by rfl) ?_; intro w9 qn hg; replace b0 := b0.grown hg (by omega); (try replace m1 := m1.grownB qr (by decide) hg); (try replace q0 := q0.grown hg (by omega)); clear hg qr; have qr := qn; clear qn; (try clear q0_1); (try have q0_1 := q0.at 1 rfl); (try clear q0_3); (try have q0_3 := q0.at 3 rfl); (try clear q0_4); (try have q0_4 := q0.at 4 rfl); (try clear qr_1); (try have qr_1 := qr.at 1 rfl); (try clear qr_3); (try have qr_3 := qr.at 3 rfl); (try clear qr_4); (try have qr_4 := qr.at 4 rfl))
    | (refine wpList_putB rfl _ _ _ rfl rfl rfl q0 (by rfl) (by rfl) (by rfl) ?_; intro w9 qn hg; replace b0 := b0.grown hg (by omega); (try replace m1 := m1.grownB q0 (by decide) hg); (try replace qr := qr.grown hg (by omega)); clear hg q0; have q0 := qn; clear qn; (try clear q0_1); (try have q0_1 := q0.at 1 rfl); (try clear q0_3); (try have q0_3 := q0.at 3 rfl); (try clear q0_4); (try have q0_4 := q0.at 4 rfl); (try clear qr_1); (try have qr_1 := qr.at 1 rfl); (try clear qr_3); (try have qr_3 := qr.at 3 rfl); (try clear qr_4); (try have qr_4 := qr.at 4 rfl))
    | (refine wpList_putF rfl _ _ _ rfl rfl rfl qr rfl (by rfl) (by rfl) ?_; intro w9 qn hg; (try simp only [List.setIfInBounds_toArray, List.set_cons_succ, List.set_cons_zero] at qn); replace b0 := b0.grown hg (by omega); (try replace m1 := m1.grownB qr (by decide) hg); (try replace q0 := q0.grown hg (by omega)); clear hg qr; have qr := qn; clear qn; (try clear q0_1); (try have q0_1 := q0.at 1 rfl); (try clear q0_3); (try have q0_3 := q0.at 3 rfl); (try clear q0_4); (try have q0_4 := q0.at 4 rfl); (try clear qr_1); (try have qr_1 := qr.at 1 rfl); (try clear qr_3); (try have qr_3 := qr.at 3 rfl); (try clear qr_4); (try have qr_4 := qr.at 4 rfl))
    | (refine wpList_putF rfl _ _ _ rfl rfl rfl q0 rfl (by rfl) (by rfl) ?_; intro w9 qn hg; (try simp only [List.setIfInBounds_toArray, List.set_cons_succ, List.set_cons_zero] at qn); replace b0 := b0.grown hg (by omega); (try replace m1 := m1.grownB q0 (by decide) hg); (try replace qr := qr.grown hg (by omega)); clear hg q0; have q0 := qn; clear qn; (try clear q0_1); (try have q0_1 := q0.at 1 rfl); (try clear q0_3); (try have q0_3 := q0.at 3 rfl); (try clear q0_4); (try have q0_4 := q0.at 4 rfl); (try clear qr_1); (try have qr_1 := qr.at 1 rfl); (try clear qr_3); (try have qr_3 := qr.at 3 rfl); (try clear qr_4); (try have qr_4 := qr.at 4 rfl)))
  exact res2ct rfl rfl rfl rfl qr Try.underlying24 rfl (by rfl) ⟨_, _, _, rfl, m1.base_le (by simp; omega), b0.out⟩
set_option maxHeartbeats 2000000 in
theorem rBackz (s : Str) (ok : StrOk s) (A : Option Addr) (n c : Nat) (w : World) (h : Byt w A n c s.out) (hn : n ≤ 100000) (e0 : rightS s = true) (e1 : (s.st != 1) = true) (e2 : (s.st != 3) = true) : Calls Try.prog 17 #[.agg #[.int .i64 (s).id, .int .u8 (s).st, .int .i64 (s).sd, .int .i64 (s).rc, .int .i64 (s).ow, .bool (s).an, .bool (s).en, .slice A n c, .int .u8 (s).ur, .bool (s).inc, .int .i64 (s).sl]] w (StIP ({ s with ow := 0 }) 0 w) := by
  have hc := h.cap; have hx := h.mx; have hl := h.len
  have RT := Lib.hid fun (A : Option Addr) (c : Nat) W => rSRight s ok A n c W hl (by omega)
  rw [e0] at RT
  have hR : RightS s := of_decide_eq_true e0
  obtain ⟨_, _, _, ⟨r0, r1⟩, ⟨w0, w1⟩, _⟩ := hR
  have b0 := ((Bel.refl w).alloc (.cells #[.int .i64 (s).id, .int .u8 (s).st, .int .i64 (s).sd, .int .i64 (s).rc, .int .i64 (s).ow, .bool (s).an, .bool (s).en, .slice A n c, .int .u8 (s).ur, .bool (s).inc, .int .i64 (s).sl] 24)).alloc (.cells #[.int .i64 0, .int .u8 0, .int .i64 0, .int .i64 0, .int .i64 0, .bool false, .bool false, .slice none 0 0, .int .u8 0, .bool false, .int .i64 0] 24)
  have q0 := (Blk.new w 24 #[.int .i64 (s).id, .int .u8 (s).st, .int .i64 (s).sd, .int .i64 (s).rc, .int .i64 (s).ow, .bool (s).an, .bool (s).en, .slice A n c, .int .u8 (s).ur, .bool (s).inc, .int .i64 (s).sl]).alloc (.cells #[.int .i64 0, .int .u8 0, .int .i64 0, .int .i64 0, .int .i64 0, .bool false, .bool false, .slice none 0 0, .int .u8 0, .bool false, .int .i64 0] 24)
  have qr := Blk.newAt (b := w.heap.size + 1) (w.alloc (.cells #[.int .i64 (s).id, .int .u8 (s).st, .int .i64 (s).sd, .int .i64 (s).rc, .int .i64 (s).ow, .bool (s).an, .bool (s).en, .slice A n c, .int .u8 (s).ur, .bool (s).inc, .int .i64 (s).sl] 24)) 24 #[.int .i64 0, .int .u8 0, .int .i64 0, .int .i64 0, .int .i64 0, .bool false, .bool false, .slice none 0 0, .int .u8 0, .bool false, .int .i64 0] (by simp)
  have y := (h.alloc (.cells #[.int .i64 (s).id, .int .u8 (s).st, .int .i64 (s).sd, .int .i64 (s).rc, .int .i64 (s).ow, .bool (s).an, .bool (s).en, .slice A n c, .int .u8 (s).ur, .bool (s).inc, .int .i64 (s).sl] 24)).alloc (.cells #[.int .i64 0, .int .u8 0, .int .i64 0, .int .i64 0, .int .i64 0, .bool false, .bool false, .slice none 0 0, .int .u8 0, .bool false, .int .i64 0] 24)
  have sz := b0.out.size
  have HL := Lib.hid hl
  clear h hl e0
  go_enter Try.func17, Try.ntmps17
  go_wp2_with (first
    | (go_at_call 36; (with_reducible refine (rSOwn s A n c _ y (by omega)).mono ?_); rintro e w9 ⟨A1, n1, c1, rfl, m1, hb⟩; obtain rfl : n1 = n := (by have h1 := m1.len; have h2 := HL.out; omega); replace b0 := b0.below hb; (try replace q0 := q0.below hb); (try replace qr := qr.below hb); (try replace m1 := m1.below hb); (try clear q0_1); (try have q0_1 := q0.at 1 rfl); (try clear q0_3); (try have q0_3 := q0.at 3 rfl); (try clear q0_4); (try have q0_4 := q0.at 4 rfl); (try clear qr_1); (try have qr_1 := qr.at 1 rfl); (try clear qr_3); (try have qr_3 := qr.at 3 rfl); (try clear qr_4); (try have qr_4 := qr.at 4 rfl); clear hb y)
    | (go_at_call 31; (with_reducible refine (RT.out _ _ _).mono ?_); rintro e w9 ⟨rfl, hb⟩; replace b0 := b0.below hb; (try replace q0 := q0.below hb); (try replace qr := qr.below hb); (try replace m1 := m1.below hb); (try clear q0_1); (try have q0_1 := q0.at 1 rfl); (try clear q0_3); (try have q0_3 := q0.at 3 rfl); (try clear q0_4); (try have q0_4 := q0.at 4 rfl); (try clear qr_1); (try have qr_1 := qr.at 1 rfl); (try clear qr_3); (try have qr_3 := qr.at 3 rfl); (try clear qr_4); (try have qr_4 := qr.at 4 rfl))
    | (refine wpList_getB rfl _ _ rfl rfl q0 Try.underlying24 rfl (by rfl) ?_)
    | (refine wpList_getB rfl _ _ rfl rfl qr Try.underlying24 rfl (by rfl) ?_)
    | (refine wpList_putB rfl _ _ _ rfl rfl rfl qr (by rfl) (by rfl) (by rfl) ?_; intro w9 qn hg; replace b0 := b0.grown hg (by omega); (try replace m1 := m1.grownB qr (by decide) hg); (try replace q0 := q0.grown hg (by omega)); clear hg qr; have qr := qn; clear qn; (try clear q0_1); (try have q0_1 := q0.at 1 rfl); (try clear q0_3); (try have q0_3 := q0.at 3 rfl); (try clear q0_4); (try have q0_4 := q0.at 4 rfl); (try clear qr_1); (try have qr_1 := qr.at 1 rfl); (try clear qr_3); (try have qr_3 := qr.at 3 rfl); (try clear qr_4); (try have qr_4 := qr.at 4 rfl))
    | (refine wpList_putB rfl _ _ _ rfl rfl rfl q0 (by rfl) (by rfl) (by rfl) ?_; intro w9 qn hg; replace b0 := b0.grown hg (by omega); (try replace m1 := m1.grownB q0 (by decide) hg); (try replace qr := qr.grown hg (by omega)); clear hg q0; have q0 := qn; clear qn; (try clear q0_1); (try have q0_1 := q0.at 1 rfl); (try clear q0_3); (try have q0_3 := q0.at 3 rfl); (try clear q0_4); (try have q0_4 := q0.at 4 rfl); (try clear qr_1); (try have qr_1 := qr.at 1 rfl); (try clear qr_3); (try have qr_3 := qr.at 3 rfl); (try clear qr_4); (try have qr_4 := qr.at 4 rfl))
    | (refine wpList_putF rfl _ _ _ rfl rfl rfl qr rfl (by rfl) (by rfl) ?_; intro w9 qn hg; (try simp only [List.setIfInBounds_toArray, List.set_cons_succ, List.set_cons_zero] at qn); replace b0 := b0.grown hg (by omega); (try replace m1 := m1.grownB qr (by decide) hg); (try replace q0 := q0.grown hg (by omega)); clear hg qr; have qr := qn; clear qn; (try clear q0_1); (try have q0_1 := q0.at 1 rfl); (try clear q0_3); (try have q0_3 := q0.at 3 rfl); (try clear q0_4); (try have q0_4 := q0.at 4 rfl); (try clear qr_1); (try have qr_1 := qr.at 1 rfl); (try clear qr_3); (try have qr_3 := qr.at 3 rfl); (try clear qr_4); (try have qr_4 := qr.at 4 rfl))
    | (refine wpList_putF rfl _ _ _ rfl rfl rfl q0 rfl (by rfl) (by rfl) ?_; intro w9 qn hg; (try simp only [List.setIfInBounds_toArray, List.set_cons_succ, List.set_cons_zero] at qn); replace b0 := b0.grown hg (by omega); (try replace m1 := m1.grownB q0 (by decide) hg); (try replace qr := qr.grown hg (by omega)); clear hg q0; have q0 := qn; clear qn; (try clear q0_1); (try have q0_1 := q0.at 1 rfl); (try clear q0_3); (try have q0_3 := q0.at 3 rfl); (try clear q0_4); (try have q0_4 := q0.at 4 rfl); (try clear qr_1); (try have qr_1 := qr.at 1 rfl); (try clear qr_3); (try have qr_3 := qr.at 3 rfl); (try clear qr_4); (try have qr_4 := qr.at 4 rfl)))
  exact res2ct rfl rfl rfl rfl qr Try.underlying24 rfl (by rfl) ⟨_, _, _, rfl, m1.base_le (by simp; omega), b0.out⟩
set_option maxHeartbeats 2000000 in
theorem rBacka1 (s : Str) (ok : StrOk s) (A : Option Addr) (n c : Nat) (w : World) (h : Byt w A n c s.out) (hn : n ≤ 100000) (e0 : rightS s = true) (e1 : (s.st != 1) = false) (e2 : s.rc + s.ow ≤ 2147483647) : Calls Try.prog 17 #[.agg #[.int .i64 (s).id, .int .u8 (s).st, .int .i64 (s).sd, .int .i64 (s).rc, .int .i64 (s).ow, .bool (s).an, .bool (s).en, .slice A n c, .int .u8 (s).ur, .bool (s).inc, .int .i64 (s).sl]] w (StIP ({ s with ow := 0, rc := s.rc + s.ow }) s.ow w) := by
  have hc := h.cap; have hx := h.mx; have hl := h.len
  have RT := Lib.hid fun (A : Option Addr) (c : Nat) W => rSRight s ok A n c W hl (by omega)
  rw [e0] at RT
  have hR : RightS s := of_decide_eq_true e0
  obtain ⟨_, _, _, ⟨r0, r1⟩, ⟨w0, w1⟩, _⟩ := hR
  have b0 := ((Bel.refl w).alloc (.cells #[.int .i64 (s).id, .int .u8 (s).st, .int .i64 (s).sd, .int .i64 (s).rc, .int .i64 (s).ow, .bool (s).an, .bool (s).en, .slice A n c, .int .u8 (s).ur, .bool (s).inc, .int .i64 (s).sl] 24)).alloc (.cells #[.int .i64 0, .int .u8 0, .int .i64 0, .int .i64 0, .int .i64 0, .bool false, .bool false, .slice none 0 0, .int .u8 0, .bool false, .int .i64 0] 24)
  have q0 := (Blk.new w 24 #[.int .i64 (s).id, .int .u8 (s).st, .int .i64 (s).sd, .int .i64 (s).rc, .int .i64 (s).ow, .bool (s).an, .bool (s).en, .slice A n c, .int .u8 (s).ur, .bool (s).inc, .int .i64 (s).sl]).alloc (.cells #[.int .i64 0, .int .u8 0, .int .i64 0, .int .i64 0, .int .i64 0, .bool false, .bool false, .slice none 0 0, .int .u8 0, .bool false, .int .i64 0] 24)
  have qr := Blk.newAt (b := w.heap.size + 1) (w.alloc (.cells #[.int .i64 (s).id, .int .u8 (s).st, .int .i64 (s).sd, .int .i64 (s).rc, .int .i64 (s).ow, .bool (s).an, .bool (s).en, .slice A n c, .int .u8 (s).ur, .bool (s).inc, .int .i64 (s).sl] 24)) 24 #[.int .i64 0, .int .u8 0, .int .i64 0, .int .i64 0, .int .i64 0, .bool false, .bool false, .slice none 0 0, .int .u8 0, .bool false, .int .i64 0] (by simp)
  have y := (h.alloc (.cells #[.int .i64 (s).id, .int .u8 (s).st, .int .i64 (s).sd, .int .i64 (s).rc, .int .i64 (s).ow, .bool (s).an, .bool (s).en, .slice A n c, .int .u8 (s).ur, .bool (s).inc, .int .i64 (s).sl] 24)).alloc (.cells #[.int .i64 0, .int .u8 0, .int .i64 0, .int .i64 0, .int .i64 0, .bool false, .bool false, .slice none 0 0, .int .u8 0, .bool false, .int .i64 0] 24)
  have sz := b0.out.size
  have HL := Lib.hid hl
  clear h hl e0
  go_enter Try.func17, Try.ntmps17
  go_wp2_with (first
    | (go_at_call 36; (with_reducible refine (rSOwn s A n c _ y (by omega)).mono ?_); rintro e w9 ⟨A1, n1, c1, rfl, m1, hb⟩; obtain rfl : n1 = n := (by have h1 := m1.len; have h2 := HL.out; omega); replace b0 := b0.below hb; (try replace q0 := q0.below hb); (try replace qr := qr.below hb); (try replace m1 := m1.below hb); (try clear q0_1); (try have q0_1 := q0.at 1 rfl); (try clear q0_3); (try have q0_3 := q0.at 3 rfl); (try clear q0_4); (try have q0_4 := q0.at 4 rfl); (try clear qr_1); (try have qr_1 := qr.at 1 rfl); (try clear qr_3); (try have qr_3 := qr.at 3 rfl); (try clear qr_4); (try have qr_4 := qr.at 4 rfl); clear hb y)
    | (go_at_call 31; (with_reducible refine (RT.out _ _ _).mono ?_); rintro e w9 ⟨rfl, hb⟩; replace b0 := b0.below hb; (try replace q0 := q0.below hb); (try replace qr := qr.below hb); (try replace m1 := m1.below hb); (try clear q0_1); (try have q0_1 := q0.at 1 rfl); (try clear q0_3); (try have q0_3 := q0.at 3 rfl); (try clear q0_4); (try have q0_4 := q0.at 4 rfl); (try clear qr_1); (try have qr_1 := qr.at 1 rfl); (try clear qr_3); (try have qr_3 := qr.at 3 rfl); (try clear qr_4); (try have qr_4 := qr.at 4 rfl))
    | (refine wpList_getB rfl _ _ rfl rfl q0 Try.underlying24 rfl (by rfl) ?_)
    | (refine wpList_getB rfl _ _ rfl rfl qr Try.underlying24 rfl (by rfl) ?_)
    | (refine wpList_putB rfl _ _ _ rfl rfl rfl qr (by rfl) (by rfl) (by rfl) ?_; intro w9 qn hg; replace b0 := b0.grown hg (by omega); (try replace m1 := m1.grownB qr (by decide) hg); (try replace q0 := q0.grown hg (by omega)); clear hg qr; have qr := qn; clear qn; (try clear q0_1); (try have q0_1 := q0.at 1 rfl); (try clear q0_3); (try have q0_3 := q0.at 3 rfl); (try clear q0_4); (try have q0_4 := q0.at 4 rfl); (try clear qr_1); (try have qr_1 := qr.at 1 rfl); (try clear qr_3); (try have qr_3 := qr.at 3 rfl); (try clear qr_4); (try have qr_4 := qr.at 4 rfl))
    | (refine wpList_putB rfl _ _ _ rfl rfl rfl q0 (by rfl) (by rfl) (by rfl) ?_; intro w9 qn hg; replace b0 := b0.grown hg (by omega); (try replace m1 := m1.grownB q0 (by decide) hg); (try replace qr := qr.grown hg (by omega)); clear hg q0; have q0 := qn; clear qn; (try clear q0_1); (try have q0_1 := q0.at 1 rfl); (try clear q0_3); (try have q0_3 := q0.at 3 rfl); (try clear q0_4); (try have q0_4 := q0.at 4 rfl); (try clear qr_1); (try have qr_1 := qr.at 1 rfl); (try clear qr_3); (try have qr_3 := qr.at 3 rfl); (try clear qr_4); (try have qr_4 := qr.at 4 rfl))
    | (refine wpList_putF rfl _ _ _ rfl rfl rfl qr rfl (by rfl) (by rfl) ?_; intro w9 qn hg; (try simp only [List.setIfInBounds_toArray, List.set_cons_succ, List.set_cons_zero] at qn); replace b0 := b0.grown hg (by omega); (try replace m1 := m1.grownB qr (by decide) hg); (try replace q0 := q0.grown hg (by omega)); clear hg qr; have qr := qn; clear qn; (try clear q0_1); (try have q0_1 := q0.at 1 rfl); (try clear q0_3); (try have q0_3 := q0.at 3 rfl); (try clear q0_4); (try have q0_4 := q0.at 4 rfl); (try clear qr_1); (try have qr_1 := qr.at 1 rfl); (try clear qr_3); (try have qr_3 := qr.at 3 rfl); (try clear qr_4); (try have qr_4 := qr.at 4 rfl))
    | (refine wpList_putF rfl _ _ _ rfl rfl rfl q0 rfl (by rfl) (by rfl) ?_; intro w9 qn hg; (try simp only [List.setIfInBounds_toArray, List.set_cons_succ, List.set_cons_zero] at qn); replace b0 := b0.grown hg (by omega); (try replace m1 := m1.grownB q0 (by decide) hg); (try replace qr := qr.grown hg (by omega)); clear hg q0; have q0 := qn; clear qn; (try clear q0_1); (try have q0_1 := q0.at 1 rfl); (try clear q0_3); (try have q0_3 := q0.at 3 rfl); (try clear q0_4); (try have q0_4 := q0.at 4 rfl); (try clear qr_1); (try have qr_1 := qr.at 1 rfl); (try clear qr_3); (try have qr_3 := qr.at 3 rfl); (try clear qr_4); (try have qr_4 := qr.at 4 rfl)))
  exact res2ct rfl rfl rfl rfl qr Try.underlying24 rfl (by rfl) ⟨_, _, _, rfl, m1.base_le (by simp; omega), b0.out⟩
set_option maxHeartbeats 2000000 in
theorem rBacka2 (s : Str) (ok : StrOk s) (A : Option Addr) (n c : Nat) (w : World) (h : Byt w A n c s.out) (hn : n ≤ 100000) (e0 : rightS s = true) (e1 : (s.st != 1) = false) (e2 : 2147483647 < s.rc + s.ow) : Calls Try.prog 17 #[.agg #[.int .i64 (s).id, .int .u8 (s).st, .int .i64 (s).sd, .int .i64 (s).rc, .int .i64 (s).ow, .bool (s).an, .bool (s).en, .slice A n c, .int .u8 (s).ur, .bool (s).inc, .int .i64 (s).sl]] w (StIP ({ s with ow := 0, rc := 2147483647 }) s.ow w) := by
  have hc := h.cap; have hx := h.mx; have hl := h.len
  have RT := Lib.hid fun (A : Option Addr) (c : Nat) W => rSRight s ok A n c W hl (by omega)
  rw [e0] at RT
  have hR : RightS s := of_decide_eq_true e0
  obtain ⟨_, _, _, ⟨r0, r1⟩, ⟨w0, w1⟩, _⟩ := hR
  have b0 := ((Bel.refl w).alloc (.cells #[.int .i64 (s).id, .int .u8 (s).st, .int .i64 (s).sd, .int .i64 (s).rc, .int .i64 (s).ow, .bool (s).an, .bool (s).en, .slice A n c, .int .u8 (s).ur, .bool (s).inc, .int .i64 (s).sl] 24)).alloc (.cells #[.int .i64 0, .int .u8 0, .int .i64 0, .int .i64 0, .int .i64 0, .bool false, .bool false, .slice none 0 0, .int .u8 0, .bool false, .int .i64 0] 24)
  have q0 := (Blk.new w 24 #[.int .i64 (s).id, .int .u8 (s).st, .int .i64 (s).sd, .int .i64 (s).rc, .int .i64 (s).ow, .bool (s).an, .bool (s).en, .slice A n c, .int .u8 (s).ur, .bool (s).inc, .int .i64 (s).sl]).alloc (.cells #[.int .i64 0, .int .u8 0, .int .i64 0, .int .i64 0, .int .i64 0, .bool false, .bool false, .slice none 0 0, .int .u8 0, .bool false, .int .i64 0] 24)
  have qr := Blk.newAt (b := w.heap.size + 1) (w.alloc (.cells #[.int .i64 (s).id, .int .u8 (s).st, .int .i64 (s).sd, .int .i64 (s).rc, .int .i64 (s).ow, .bool (s).an, .bool (s).en, .slice A n c, .int .u8 (s).ur, .bool (s).inc, .int .i64 (s).sl] 24)) 24 #[.int .i64 0, .int .u8 0, .int .i64 0, .int .i64 0, .int .i64 0, .bool false, .bool false, .slice none 0 0, .int .u8 0, .bool false, .int .i64 0] (by simp)
  have y := (h.alloc (.cells #[.int .i64 (s).id, .int .u8 (s).st, .int .i64 (s).sd, .int .i64 (s).rc, .int .i64 (s).ow, .bool (s).an, .bool (s).en, .slice A n c, .int .u8 (s).ur, .bool (s).inc, .int .i64 (s).sl] 24)).alloc (.cells #[.int .i64 0, .int .u8 0, .int .i64 0, .int .i64 0, .int .i64 0, .bool false, .bool false, .slice none 0 0, .int .u8 0, .bool false, .int .i64 0] 24)
  have sz := b0.out.size
  have HL := Lib.hid hl
  clear h hl e0
  go_enter Try.func17, Try.ntmps17
  go_wp2_with (first
    | (go_at_call 36; (with_reducible refine (rSOwn s A n c _ y (by omega)).mono ?_); rintro e w9 ⟨A1, n1, c1, rfl, m1, hb⟩; obtain rfl : n1 = n := (by have h1 := m1.len; have h2 := HL.out; omega); replace b0 := b0.below hb; (try replace q0 := q0.below hb); (try replace qr := qr.below hb); (try replace m1 := m1.below hb); (try clear q0_1); (try have q0_1 := q0.at 1 rfl); (try clear q0_3); (try have q0_3 := q0.at 3 rfl); (try clear q0_4); (try have q0_4 := q0.at 4 rfl); (try clear qr_1); (try have qr_1 := qr.at 1 rfl); (try clear qr_3); (try have qr_3 := qr.at 3 rfl); (try clear qr_4); (try have qr_4 := qr.at 4 rfl); clear hb y)
    | (go_at_call 31; (with_reducible refine (RT.out _ _ _).mono ?_); rintro e w9 ⟨rfl, hb⟩; replace b0 := b0.below hb; (try replace q0 := q0.below hb); (try replace qr := qr.below hb); (try replace m1 := m1.below hb); (try clear q0_1); (try have q0_1 := q0.at 1 rfl); (try clear q0_3); (try have q0_3 := q0.at 3 rfl); (try clear q0_4); (try have q0_4 := q0.at 4 rfl); (try clear qr_1); (try have qr_1 := qr.at 1 rfl); (try clear qr_3); (try have qr_3 := qr.at 3 rfl); (try clear qr_4); (try have qr_4 := qr.at 4 rfl))
    | (refine wpList_getB rfl _ _ rfl rfl q0 Try.underlying24 rfl (by rfl) ?_)
    | (refine wpList_getB rfl _ _ rfl rfl qr Try.underlying24 rfl (by rfl) ?_)
    | (refine wpList_putB rfl _ _ _ rfl rfl rfl qr (by rfl) (by rfl) (by rfl) ?_; intro w9 qn hg; replace b0 := b0.grown hg (by omega); (try replace m1 := m1.grownB qr (by decide) hg); (try replace q0 := q0.grown hg (by omega)); clear hg qr; have qr := qn; clear qn; (try clear q0_1); (try have q0_1 := q0.at 1 rfl); (try clear q0_3); (try have q0_3 := q0.at 3 rfl); (try clear q0_4); (try have q0_4 := q0.at 4 rfl); (try clear qr_1); (try have qr_1 := qr.at 1 rfl); (try clear qr_3); (try have qr_3 := qr.at 3 rfl); (try clear qr_4); (try have qr_4 := qr.at 4 rfl))
    | (refine wpList_putB rfl _ _ _ rfl rfl rfl q0 (by rfl) (by rfl) (by rfl) ?_; intro w9 qn hg; replace b0 := b0.grown hg (by omega); (try replace m1 := m1.grownB q0 (by decide) hg); (try replace qr := qr.grown hg (by omega)); clear hg q0; have q0 := qn; clear qn; (try clear q0_1); (try have q0_1 := q0.at 1 rfl); (try clear q0_3); (try have q0_3 := q0.at 3 rfl); (try clear q0_4); (try have q0_4 := q0.at 4 rfl); (try clear qr_1); (try have qr_1 := qr.at 1 rfl); (try clear qr_3); (try have qr_3 := qr.at 3 rfl); (try clear qr_4); (try have qr_4 := qr.at 4 rfl))
    | (refine wpList_putF rfl _ _ _ rfl rfl rfl qr rfl (by rfl) (by rfl) ?_; intro w9 qn hg; (try simp only [List.setIfInBounds_toArray, List.set_cons_succ, List.set_cons_zero] at qn); replace b0 := b0.grown hg (by omega); (try replace m1 := m1.grownB qr (by decide) hg); (try replace q0 := q0.grown hg (by omega)); clear hg qr; have qr := qn; clear qn; (try clear q0_1); (try have q0_1 := q0.at 1 rfl); (try clear q0_3); (try have q0_3 := q0.at 3 rfl); (try clear q0_4); (try have q0_4 := q0.at 4 rfl); (try clear qr_1); (try have qr_1 := qr.at 1 rfl); (try clear qr_3); (try have qr_3 := qr.at 3 rfl); (try clear qr_4); (try have qr_4 := qr.at 4 rfl))
    | (refine wpList_putF rfl _ _ _ rfl rfl rfl q0 rfl (by rfl) (by rfl) ?_; intro w9 qn hg; (try simp only [List.setIfInBounds_toArray, List.set_cons_succ, List.set_cons_zero] at qn); replace b0 := b0.grown hg (by omega); (try replace m1 := m1.grownB q0 (by decide) hg); (try replace qr := qr.grown hg (by omega)); clear hg q0; have q0 := qn; clear qn; (try clear q0_1); (try have q0_1 := q0.at 1 rfl); (try clear q0_3); (try have q0_3 := q0.at 3 rfl); (try clear q0_4); (try have q0_4 := q0.at 4 rfl); (try clear qr_1); (try have qr_1 := qr.at 1 rfl); (try clear qr_3); (try have qr_3 := qr.at 3 rfl); (try clear qr_4); (try have qr_4 := qr.at 4 rfl)))
  exact res2ct rfl rfl rfl rfl qr Try.underlying24 rfl (by rfl) ⟨_, _, _, rfl, m1.base_le (by simp; omega), b0.out⟩
set_option maxHeartbeats 2000000 in
theorem rBackc1 (s : Str) (ok : StrOk s) (A : Option Addr) (n c : Nat) (w : World) (h : Byt w A n c s.out) (hn : n ≤ 100000) (e0 : rightS s = true) (e1 : (s.st != 1) = true) (e2 : (s.st != 3) = false) (e3 : s.rc + s.ow ≤ 2147483647) : Calls Try.prog 17 #[.agg #[.int .i64 (s).id, .int .u8 (s).st, .int .i64 (s).sd, .int .i64 (s).rc, .int .i64 (s).ow, .bool (s).an, .bool (s).en, .slice A n c, .int .u8 (s).ur, .bool (s).inc, .int .i64 (s).sl]] w (StIP ({ s with ow := 0, rc := s.rc + s.ow }) s.ow w) := by
  have hc := h.cap; have hx := h.mx; have hl := h.len
  have RT := Lib.hid fun (A : Option Addr) (c : Nat) W => rSRight s ok A n c W hl (by omega)
  rw [e0] at RT
  have hR : RightS s := of_decide_eq_true e0
  obtain ⟨_, _, _, ⟨r0, r1⟩, ⟨w0, w1⟩, _⟩ := hR
  have b0 := ((Bel.refl w).alloc (.cells #[.int .i64 (s).id, .int .u8 (s).st, .int .i64 (s).sd, .int .i64 (s).rc, .int .i64 (s).ow, .bool (s).an, .bool (s).en, .slice A n c, .int .u8 (s).ur, .bool (s).inc, .int .i64 (s).sl] 24)).alloc (.cells #[.int .i64 0, .int .u8 0, .int .i64 0, .int .i64 0, .int .i64 0, .bool false, .bool false, .slice none 0 0, .int .u8 0, .bool false, .int .i64 0] 24)
  have q0 := (Blk.new w 24 #[.int .i64 (s).id, .int .u8 (s).st, .int .i64 (s).sd, .int .i64 (s).rc, .int .i64 (s).ow, .bool (s).an, .bool (s).en, .slice A n c, .int .u8 (s).ur, .bool (s).inc, .int .i64 (s).sl]).alloc (.cells #[.int .i64 0, .int .u8 0, .int .i64 0, .int .i64 0, .int .i64 0, .bool false, .bool false, .slice none 0 0, .int .u8 0, .bool false, .int .i64 0] 24)
  have qr := Blk.newAt (b := w.heap.size + 1) (w.alloc (.cells #[.int .i64 (s).id, .int .u8 (s).st, .int .i64 (s).sd, .int .i64 (s).rc, .int .i64 (s).ow, .bool (s).an, .bool (s).en, .slice A n c, .int .u8 (s).ur, .bool (s).inc, .int .i64 (s).sl] 24)) 24 #[.int .i64 0, .int .u8 0, .int .i64 0, .int .i64 0, .int .i64 0, .bool false, .bool false, .slice none 0 0, .int .u8 0, .bool false, .int .i64 0] (by simp)
  have y := (h.alloc (.cells #[.int .i64 (s).id, .int .u8 (s).st, .int .i64 (s).sd, .int .i64 (s).rc, .int .i64 (s).ow, .bool (s).an, .bool (s).en, .slice A n c, .int .u8 (s).ur, .bool (s).inc, .int .i64 (s).sl] 24)).alloc (.cells #[.int .i64 0, .int .u8 0, .int .i64 0, .int .i64 0, .int .i64 0, .bool false, .bool false, .slice none 0 0, .int .u8 0, .bool false, .int .i64 0] 24)
  have sz := b0.out.size
  have HL := Lib.hid hl
  clear h hl e0
  go_enter Try.func17, Try.ntmps17
  go_wp2_with (first
    | (go_at_call 36; (with_reducible refine (rSOwn s A n c _ y (by omega)).mono ?_); rintro e w9 ⟨A1, n1, c1, rfl, m1, hb⟩; obtain rfl : n1 = n := (by have h1 := m1.len; have h2 := HL.out; omega); replace b0 := b0.below hb; (try replace q0 := q0.below hb); (try replace qr := qr.below hb); (try replace m1 := m1.below hb); (try clear q0_1); (try have q0_1 := q0.at 1 rfl); (try clear q0_3); (try have q0_3 := q0.at 3 rfl); (try clear q0_4); (try have q0_4 := q0.at 4 rfl); (try clear qr_1); (try have qr_1 := qr.at 1 rfl); (try clear qr_3); (try have qr_3 := qr.at 3 rfl); (try clear qr_4); (try have qr_4 := qr.at 4 rfl); clear hb y)
    | (go_at_call 31; (with_reducible refine (RT.out _ _ _).mono ?_); rintro e w9 ⟨rfl, hb⟩; replace b0 := b0.below hb; (try replace q0 := q0.below hb); (try replace qr := qr.below hb); (try replace m1 := m1.below hb); (try clear q0_1); (try have q0_1 := q0.at 1 rfl); (try clear q0_3); (try have q0_3 := q0.at 3 rfl); (try clear q0_4); (try have q0_4 := q0.at 4 rfl); (try clear qr_1); (try have qr_1 := qr.at 1 rfl); (try clear qr_3); (try have qr_3 := qr.at 3 rfl); (try clear qr_4); (try have qr_4 := qr.at 4 rfl))
    | (refine wpList_getB rfl _ _ rfl rfl q0 Try.underlying24 rfl (by rfl) ?_)
    | (refine wpList_getB rfl _ _ rfl rfl qr Try.underlying24 rfl (by rfl) ?_)
    | (refine wpList_putB rfl _ _ _ rfl rfl rfl qr (by rfl) (by rfl) (by rfl) ?_; intro w9 qn hg; replace b0 := b0.grown hg (by omega); (try replace m1 := m1.grownB qr (by decide) hg); (try replace q0 := q0.grown hg (by omega)); clear hg qr; have qr := qn; clear qn; (try clear q0_1); (try have q0_1 := q0.at 1 rfl); (try clear q0_3); (try have q0_3 := q0.at 3 rfl); (try clear q0_4); (try have q0_4 := q0.at 4 rfl); (try clear qr_1); (try have qr_1 := qr.at 1 rfl); (try clear qr_3); (try have qr_3 := qr.at 3 rfl); (try clear qr_4); (try have qr_4 := qr.at 4 rfl))
    | (refine wpList_putB rfl _ _ _ rfl rfl rfl q0 (by rfl) (by rfl) (by rfl) ?_; intro w9 qn hg; replace b0 := b0.grown hg (by omega); (try replace m1 := m1.grownB q0 (by decide) hg); (try replace qr := qr.grown hg (by omega)); clear hg q0; have q0 := qn; clear qn; (try clear q0_1); (try have q0_1 := q0.at 1 rfl); (try clear q0_3); (try have q0_3 := q0.at 3 rfl); (try clear q0_4); (try have q0_4 := q0.at 4 rfl); (try clear qr_1); (try have qr_1 := qr.at 1 rfl); (try clear qr_3); (try have qr_3 := qr.at 3 rfl); (try clear qr_4); (try have qr_4 := qr.at 4 rfl))
    | (refine wpList_putF rfl _ _ _ rfl rfl rfl qr rfl (by rfl) (by rfl) ?_; intro w9 qn hg; (try simp only [List.setIfInBounds_toArray, List.set_cons_succ, List.set_cons_zero] at qn); replace b0 := b0.grown hg (by omega); (try replace m1 := m1.grownB qr (by decide) hg); (try replace q0 := q0.grown hg (by omega)); clear hg qr; have qr := qn; clear qn; (try clear q0_1); (try have q0_1 := q0.at 1 rfl); (try clear q0_3); (try have q0_3 := q0.at 3 rfl); (try clear q0_4); (try have q0_4 := q0.at 4 rfl); (try clear qr_1); (try have qr_1 := qr.at 1 rfl); (try clear qr_3); (try have qr_3 := qr.at 3 rfl); (try clear qr_4); (try have qr_4 := qr.at 4 rfl))
    | (refine wpList_putF rfl _ _ _ rfl rfl rfl q0 rfl (by rfl) (by rfl) ?_; intro w9 qn hg; (try simp only [List.setIfInBounds_toArray, List.set_cons_succ, List.set_cons_zero] at qn); replace b0 := b0.grown hg (by omega); (try replace m1 := m1.grownB q0 (by decide) hg); (try replace qr := qr.grown hg (by omega)); clear hg q0; have q0 := qn; clear qn; (try clear q0_1); (try have q0_1 := q0.at 1 rfl); (try clear q0_3); (try have q0_3 := q0.at 3 rfl); (try clear q0_4); (try have q0_4 := q0.at 4 rfl); (try clear qr_1); (try have qr_1 := qr.at 1 rfl); (try clear qr_3); (try have qr_3 := qr.at 3 rfl); (try clear qr_4); (try have qr_4 := qr.at 4 rfl)))
  exact res2ct rfl rfl rfl rfl qr Try.underlying24 rfl (by rfl) ⟨_, _, _, rfl, m1.base_le (by simp; omega), b0.out⟩
set_option maxHeartbeats 2000000 in
theorem rBackc2 (s : Str) (ok : StrOk s) (A : Option Addr) (n c : Nat) (w : World) (h : Byt w A n c s.out) (hn : n ≤ 100000) (e0 : rightS s = true) (e1 : (s.st != 1) = true) (e2 : (s.st != 3) = false) (e3 : 2147483647 < s.rc + s.ow) : Calls Try.prog 17 #[.agg #[.int .i64 (s).id, .int .u8 (s).st, .int .i64 (s).sd, .int .i64 (s).rc, .int .i64 (s).ow, .bool (s).an, .bool (s).en, .slice A n c, .int .u8 (s).ur, .bool (s).inc, .int .i64 (s).sl]] w (StIP ({ s with ow := 0, rc := 2147483647 }) s.ow w) := by
  have hc := h.cap; have hx := h.mx; have hl := h.len
  have RT := Lib.hid fun (A : Option Addr) (c : Nat) W => rSRight s ok A n c W hl (by omega)
  rw [e0] at RT
  have hR : RightS s := of_decide_eq_true e0
  obtain ⟨_, _, _, ⟨r0, r1⟩, ⟨w0, w1⟩, _⟩ := hR
  have b0 := ((Bel.refl w).alloc (.cells #[.int .i64 (s).id, .int .u8 (s).st, .int .i64 (s).sd, .int .i64 (s).rc, .int .i64 (s).ow, .bool (s).an, .bool (s).en, .slice A n c, .int .u8 (s).ur, .bool (s).inc, .int .i64 (s).sl] 24)).alloc (.cells #[.int .i64 0, .int .u8 0, .int .i64 0, .int .i64 0, .int .i64 0, .bool false, .bool false, .slice none 0 0, .int .u8 0, .bool false, .int .i64 0] 24)
  have q0 := (Blk.new w 24 #[.int .i64 (s).id, .int .u8 (s).st, .int .i64 (s).sd, .int .i64 (s).rc, .int .i64 (s).ow, .bool (s).an, .bool (s).en, .slice A n c, .int .u8 (s).ur, .bool (s).inc, .int .i64 (s).sl]).alloc (.cells #[.int .i64 0, .int .u8 0, .int .i64 0, .int .i64 0, .int .i64 0, .bool false, .bool false, .slice none 0 0, .int .u8 0, .bool false, .int .i64 0] 24)
  have qr := Blk.newAt (b := w.heap.size + 1) (w.alloc (.cells #[.int .i64 (s).id, .int .u8 (s).st, .int .i64 (s).sd, .int .i64 (s).rc, .int .i64 (s).ow, .bool (s).an, .bool (s).en, .slice A n c, .int .u8 (s).ur, .bool (s).inc, .int .i64 (s).sl] 24)) 24 #[.int .i64 0, .int .u8 0, .int .i64 0, .int .i64 0, .int .i64 0, .bool false, .bool false, .slice none 0 0, .int .u8 0, .bool false, .int .i64 0] (by simp)
  have y := (h.alloc (.cells #[.int .i64 (s).id, .int .u8 (s).st, .int .i64 (s).sd, .int .i64 (s).rc, .int .i64 (s).ow, .bool (s).an, .bool (s).en, .slice A n c, .int .u8 (s).ur, .bool (s).inc, .int .i64 (s).sl] 24)).alloc (.cells #[.int .i64 0, .int .u8 0, .int .i64 0, .int .i64 0, .int .i64 0, .bool false, .bool false, .slice none 0 0, .int .u8 0, .bool false, .int .i64 0] 24)
  have sz := b0.out.size
  have HL := Lib.hid hl
  clear h hl e0
  go_enter Try.func17, Try.ntmps17
  go_wp2_with (first
    | (go_at_call 36; (with_reducible refine (rSOwn s A n c _ y (by omega)).mono ?_); rintro e w9 ⟨A1, n1, c1, rfl, m1, hb⟩; obtain rfl : n1 = n := (by have h1 := m1.len; have h2 := HL.out; omega); replace b0 := b0.below hb; (try replace q0 := q0.below hb); (try replace qr := qr.below hb); (try replace m1 := m1.below hb); (try clear q0_1); (try have q0_1 := q0.at 1 rfl); (try clear q0_3); (try have q0_3 := q0.at 3 rfl); (try clear q0_4); (try have q0_4 := q0.at 4 rfl); (try clear qr_1); (try have qr_1 := qr.at 1 rfl); (try clear qr_3); (try have qr_3 := qr.at 3 rfl); (try clear qr_4); (try have qr_4 := qr.at 4 rfl); clear hb y)
    | (go_at_call 31; (with_reducible refine (RT.out _ _ _).mono ?_); rintro e w9 ⟨rfl, hb⟩; replace b0 := b0.below hb; (try replace q0 := q0.below hb); (try replace qr := qr.below hb); (try replace m1 := m1.below hb); (try clear q0_1); (try have q0_1 := q0.at 1 rfl); (try clear q0_3); (try have q0_3 := q0.at 3 rfl); (try clear q0_4); (try have q0_4 := q0.at 4 rfl); (try clear qr_1); (try have qr_1 := qr.at 1 rfl); (try clear qr_3); (try have qr_3 := qr.at 3 rfl); (try clear qr_4); (try have qr_4 := qr.at 4 rfl))
    | (refine wpList_getB rfl _ _ rfl rfl q0 Try.underlying24 rfl (by rfl) ?_)
    | (refine wpList_getB rfl _ _ rfl rfl qr Try.underlying24 rfl (by rfl) ?_)
    | (refine wpList_putB rfl _ _ _ rfl rfl rfl qr (by rfl) (by rfl) (by rfl) ?_; intro w9 qn hg; replace b0 := b0.grown hg (by omega); (try replace m1 := m1.grownB qr (by decide) hg); (try replace q0 := q0.grown hg (by omega)); clear hg qr; have qr := qn; clear qn; (try clear q0_1); (try have q0_1 := q0.at 1 rfl); (try clear q0_3); (try have q0_3 := q0.at 3 rfl); (try clear q0_4); (try have q0_4 := q0.at 4 rfl); (try clear qr_1); (try have qr_1 := qr.at 1 rfl); (try clear qr_3); (try have qr_3 := qr.at 3 rfl); (try clear qr_4); (try have qr_4 := qr.at 4 rfl))
    | (refine wpList_putB rfl _ _ _ rfl rfl rfl q0 (by rfl) (by rfl) (by rfl) ?_; intro w9 qn hg; replace b0 := b0.grown hg (by omega); (try replace m1 := m1.grownB q0 (by decide) hg); (try replace qr := qr.grown hg (by omega)); clear hg q0; have q0 := qn; clear qn; (try clear q0_1); (try have q0_1 := q0.at 1 rfl); (try clear q0_3); (try have q0_3 := q0.at 3 rfl); (try clear q0_4); (try have q0_4 := q0.at 4 rfl); (try clear qr_1); (try have qr_1 := qr.at 1 rfl); (try clear qr_3); (try have qr_3 := qr.at 3 rfl); (try clear qr_4); (try have qr_4 := qr.at 4 rfl))
    | (refine wpList_putF rfl _ _ _ rfl rfl rfl qr rfl (by rfl) (by rfl) ?_; intro w9 qn hg; (try simp only [List.setIfInBounds_toArray, List.set_cons_succ, List.set_cons_zero] at qn); replace b0 := b0.grown hg (by omega); (try replace m1 := m1.grownB qr (by decide) hg); (try replace q0 := q0.grown hg (by omega)); clear hg qr; have qr := qn; clear qn; (try clear q0_1); (try have q0_1 := q0.at 1 rfl); (try clear q0_3); (try have q0_3 := q0.at 3 rfl); (try clear q0_4); (try have q0_4 := q0.at 4 rfl); (try clear qr_1); (try have qr_1 := qr.at 1 rfl); (try clear qr_3); (try have qr_3 := qr.at 3 rfl); (try clear qr_4); (try have qr_4 := qr.at 4 rfl))
    | (refine wpList_putF rfl _ _ _ rfl rfl rfl q0 rfl (by rfl) (by rfl) ?_; intro w9 qn hg; (try simp only [List.setIfInBounds_toArray, List.set_cons_succ, List.set_cons_zero] at qn); replace b0 := b0.grown hg (by omega); (try replace m1 := m1.grownB q0 (by decide) hg); (try replace qr := qr.grown hg (by omega)); clear hg q0; have q0 := qn; clear qn; (try clear q0_1); (try have q0_1 := q0.at 1 rfl); (try clear q0_3); (try have q0_3 := q0.at 3 rfl); (try clear q0_4); (try have q0_4 := q0.at 4 rfl); (try clear qr_1); (try have qr_1 := qr.at 1 rfl); (try clear qr_3); (try have qr_3 := qr.at 3 rfl); (try clear qr_4); (try have qr_4 := qr.at 4 rfl)))
  exact res2ct rfl rfl rfl rfl qr Try.underlying24 rfl (by rfl) ⟨_, _, _, rfl, m1.base_le (by simp; omega), b0.out⟩
theorem fBack (s : Str) (ok : StrOk s) (A : Option Addr) (n c : Nat) (w : World) (h : Byt w A n c s.out) (hn : n ≤ 100000) : Calls Try.prog 16 #[.agg #[.int .i64 (s).id, .int .u8 (s).st, .int .i64 (s).sd, .int .i64 (s).rc, .int .i64 (s).ow, .bool (s).an, .bool (s).en, .slice A n c, .int .u8 (s).ur, .bool (s).inc, .int .i64 (s).sl]] w (StIP (backS s) (backN s) w) := by
  unfold backS backN
  by_cases r : RightS s
  · rw [if_pos r]
    by_cases h1 : s.st = 1
    · have eN : (if RightS s ∧ (s.st = 1 ∨ s.st = 3) then s.ow else 0) = s.ow := if_pos ⟨r, .inl h1⟩
      rw [if_pos (.inl h1), eN]
      by_cases hm : s.rc + s.ow ≤ 2147483647
      · rw [if_pos hm]
        exact fBacka1 s ok A n c w h hn (rightS_yes r) (beq_iff_eq.2 h1) hm
      · rw [if_neg hm]
        exact fBacka2 s ok A n c w h hn (rightS_yes r) (beq_iff_eq.2 h1) (by omega)
    by_cases h3 : s.st = 3
    · have eN : (if RightS s ∧ (s.st = 1 ∨ s.st = 3) then s.ow else 0) = s.ow := if_pos ⟨r, .inr h3⟩
      rw [if_pos (.inr h3), eN]
      by_cases hm : s.rc + s.ow ≤ 2147483647
      · rw [if_pos hm]
        exact fBackc1 s ok A n c w h hn (rightS_yes r) (beq_eq_false_iff_ne.2 h1) (beq_iff_eq.2 h3) hm
      · rw [if_neg hm]
        exact fBackc2 s ok A n c w h hn (rightS_yes r) (beq_eq_false_iff_ne.2 h1) (beq_iff_eq.2 h3) (by omega)
    have eN : (if RightS s ∧ (s.st = 1 ∨ s.st = 3) then s.ow else 0) = 0 := if_neg (fun k => by rcases k.2 with k | k; exact h1 k; exact h3 k)
    rw [if_neg (fun k => by rcases k with k | k; exact h1 k; exact h3 k), eN]
    exact fBackz s ok A n c w h hn (rightS_yes r) (beq_eq_false_iff_ne.2 h1) (beq_eq_false_iff_ne.2 h3)
  · rw [if_neg r, if_neg (fun k => r k.1)]
    exact fBackno s ok A n c w h hn (rightS_no r)
theorem rBack (s : Str) (ok : StrOk s) (A : Option Addr) (n c : Nat) (w : World) (h : Byt w A n c s.out) (hn : n ≤ 100000) : Calls Try.prog 17 #[.agg #[.int .i64 (s).id, .int .u8 (s).st, .int .i64 (s).sd, .int .i64 (s).rc, .int .i64 (s).ow, .bool (s).an, .bool (s).en, .slice A n c, .int .u8 (s).ur, .bool (s).inc, .int .i64 (s).sl]] w (StIP (backS s) (backN s) w) := by
  unfold backS backN
  by_cases r : RightS s
  · rw [if_pos r]
    by_cases h1 : s.st = 1
    · have eN : (if RightS s ∧ (s.st = 1 ∨ s.st = 3) then s.ow else 0) = s.ow := if_pos ⟨r, .inl h1⟩
      rw [if_pos (.inl h1), eN]
      by_cases hm : s.rc + s.ow ≤ 2147483647
      · rw [if_pos hm]
        exact rBacka1 s ok A n c w h hn (rightS_yes r) (by rw [bne_eq_false_iff_eq]; exact h1) hm
      · rw [if_neg hm]
        exact rBacka2 s ok A n c w h hn (rightS_yes r) (by rw [bne_eq_false_iff_eq]; exact h1) (by omega)
    by_cases h3 : s.st = 3
    · have eN : (if RightS s ∧ (s.st = 1 ∨ s.st = 3) then s.ow else 0) = s.ow := if_pos ⟨r, .inr h3⟩
      rw [if_pos (.inr h3), eN]
      by_cases hm : s.rc + s.ow ≤ 2147483647
      · rw [if_pos hm]
        exact rBackc1 s ok A n c w h hn (rightS_yes r) (bne_iff_ne.2 h1) (by rw [bne_eq_false_iff_eq]; exact h3) hm
      · rw [if_neg hm]
        exact rBackc2 s ok A n c w h hn (rightS_yes r) (bne_iff_ne.2 h1) (by rw [bne_eq_false_iff_eq]; exact h3) (by omega)
    have eN : (if RightS s ∧ (s.st = 1 ∨ s.st = 3) then s.ow else 0) = 0 := if_neg (fun k => by rcases k.2 with k | k; exact h1 k; exact h3 k)
    rw [if_neg (fun k => by rcases k with k | k; exact h1 k; exact h3 k), eN]
    exact rBackz s ok A n c w h hn (rightS_yes r) (bne_iff_ne.2 h1) (bne_iff_ne.2 h3)
  · rw [if_neg r, if_neg (fun k => r k.1)]
    exact rBackno s ok A n c w h hn (rightS_no r)
set_option maxHeartbeats 2000000 in
theorem sendsGiveno (s : Str) (ok : StrOk s) (x : Int) (x0 : -9223372036854775808 ≤ x ∧ x ≤ 9223372036854775807) (A : Option Addr) (n c : Nat) (w : World) (h : Byt w A n c s.out) (hn : n ≤ 100000) (e0 : rightS s = false) : Calls Try.prog 44 #[.agg #[.int .i64 (s).id, .int .u8 (s).st, .int .i64 (s).sd, .int .i64 (s).rc, .int .i64 (s).ow, .bool (s).an, .bool (s).en, .slice A n c, .int .u8 (s).ur, .bool (s).inc, .int .i64 (s).sl], .int .i64 x, .func (.func 45) #[] #[]] w (StBP (s) false w) := by
  have hc := h.cap; have hx := h.mx; have hl := h.len
  have RT := Lib.hid fun (A : Option Addr) (c : Nat) W => fSRight s ok A n c W hl (by omega)
  rw [e0] at RT
  have MV := Lib.hid fun W => wnGive s.sd x ok.sd.1 ok.sd.2 x0.1 x0.2 W
  skip
  skip
  have b0 := ((Bel.refl w).alloc (.cells #[.int .i64 (s).id, .int .u8 (s).st, .int .i64 (s).sd, .int .i64 (s).rc, .int .i64 (s).ow, .bool (s).an, .bool (s).en, .slice A n c, .int .u8 (s).ur, .bool (s).inc, .int .i64 (s).sl] 24)).alloc (.cells #[.int .i64 0, .int .u8 0, .int .i64 0, .int .i64 0, .int .i64 0, .bool false, .bool false, .slice none 0 0, .int .u8 0, .bool false, .int .i64 0] 24)
  have q0 := (Blk.new w 24 #[.int .i64 (s).id, .int .u8 (s).st, .int .i64 (s).sd, .int .i64 (s).rc, .int .i64 (s).ow, .bool (s).an, .bool (s).en, .slice A n c, .int .u8 (s).ur, .bool (s).inc, .int .i64 (s).sl]).alloc (.cells #[.int .i64 0, .int .u8 0, .int .i64 0, .int .i64 0, .int .i64 0, .bool false, .bool false, .slice none 0 0, .int .u8 0, .bool false, .int .i64 0] 24)
  have qr := Blk.newAt (b := w.heap.size + 1) (w.alloc (.cells #[.int .i64 (s).id, .int .u8 (s).st, .int .i64 (s).sd, .int .i64 (s).rc, .int .i64 (s).ow, .bool (s).an, .bool (s).en, .slice A n c, .int .u8 (s).ur, .bool (s).inc, .int .i64 (s).sl] 24)) 24 #[.int .i64 0, .int .u8 0, .int .i64 0, .int .i64 0, .int .i64 0, .bool false, .bool false, .slice none 0 0, .int .u8 0, .bool false, .int .i64 0] (by simp)
  have y := (h.alloc (.cells #[.int .i64 (s).id, .int .u8 (s).st, .int .i64 (s).sd, .int .i64 (s).rc, .int .i64 (s).ow, .bool (s).an, .bool (s).en, .slice A n c, .int .u8 (s).ur, .bool (s).inc, .int .i64 (s).sl] 24)).alloc (.cells #[.int .i64 0, .int .u8 0, .int .i64 0, .int .i64 0, .int .i64 0, .bool false, .bool false, .slice none 0 0, .int .u8 0, .bool false, .int .i64 0] 24)
  have sz := b0.out.size
  have HL := Lib.hid hl
  clear h hl e0
  go_enter Try.func44, Try.ntmps44
  go_wp2_with fail
  refine wp_scope_hop 1 ?_
  go_wp2_with (first
    | (go_at_call 33; (with_reducible refine (fSOwn s A n c _ y (by omega)).mono ?_); rintro e w9 ⟨A1, n1, c1, rfl, m1, hb⟩; obtain rfl : n1 = n := (by have h1 := m1.len; have h2 := HL.out; omega); replace b0 := b0.below hb; (try replace q0 := q0.below hb); (try replace qr := qr.below hb); (try replace m1 := m1.below hb); (try clear q0_2); (try have q0_2 := q0.at 2 rfl); (try clear qr_2); (try have qr_2 := qr.at 2 rfl); clear hb y)
    | (go_at_call 30; (with_reducible refine (RT.out _ _ _).mono ?_); rintro e w9 ⟨rfl, hb⟩; replace b0 := b0.below hb; (try replace q0 := q0.below hb); (try replace qr := qr.below hb); (try replace m1 := m1.below hb); (try clear q0_2); (try have q0_2 := q0.at 2 rfl); (try clear qr_2); (try have qr_2 := qr.at 2 rfl))
    | (go_at_call 45; (with_reducible refine (MV.out _).mono ?_); rintro e w9 ⟨rfl, rfl⟩)
    | (refine wpList_getB rfl _ _ rfl rfl q0 Try.underlying24 rfl (by rfl) ?_)
    | (refine wpList_getB rfl _ _ rfl rfl qr Try.underlying24 rfl (by rfl) ?_)
    | (refine wpList_putB rfl _ _ _ rfl rfl rfl qr (by rfl) (by rfl) (by rfl) ?_; intro w9 qn hg; replace b0 := b0.grown hg (by omega); (try replace m1 := m1.grownB qr (by decide) hg); (try replace q0 := q0.grown hg (by omega)); clear hg qr; have qr := qn; clear qn; (try clear q0_2); (try have q0_2 := q0.at 2 rfl); (try clear qr_2); (try have qr_2 := qr.at 2 rfl))
    | (refine wpList_putF rfl _ _ _ rfl rfl rfl qr rfl (by rfl) (by rfl) ?_; intro w9 qn hg; (try simp only [List.setIfInBounds_toArray, List.set_cons_succ, List.set_cons_zero] at qn); replace b0 := b0.grown hg (by omega); (try replace m1 := m1.grownB qr (by decide) hg); (try replace q0 := q0.grown hg (by omega)); clear hg qr; have qr := qn; clear qn; (try clear q0_2); (try have q0_2 := q0.at 2 rfl); (try clear qr_2); (try have qr_2 := qr.at 2 rfl))
    | ((with_reducible refine wp_goto_then rfl ?_)) | ((with_reducible refine wp_goto ?_); refine hop_goto rfl ?_) | ((with_reducible refine wp_label ?_)) | ((with_reducible refine hop_ret ?_)))
  exact res2ct rfl rfl rfl rfl qr Try.underlying24 rfl (by rfl) ⟨_, _, _, rfl, m1.base_le (by simp; omega), b0.out⟩
set_option maxHeartbeats 2000000 in
theorem sendsGiveok (s : Str) (ok : StrOk s) (x : Int) (x0 : -9223372036854775808 ≤ x ∧ x ≤ 9223372036854775807) (A : Option Addr) (n c : Nat) (w : World) (h : Byt w A n c s.out) (hn : n ≤ 100000) (e0 : rightS s = true) : Calls Try.prog 44 #[.agg #[.int .i64 (s).id, .int .u8 (s).st, .int .i64 (s).sd, .int .i64 (s).rc, .int .i64 (s).ow, .bool (s).an, .bool (s).en, .slice A n c, .int .u8 (s).ur, .bool (s).inc, .int .i64 (s).sl], .int .i64 x, .func (.func 45) #[] #[]] w (StBP ({ s with sd := giveV s.sd x }) (giveB s.sd x) w) := by
  have hc := h.cap; have hx := h.mx; have hl := h.len
  have RT := Lib.hid fun (A : Option Addr) (c : Nat) W => fSRight s ok A n c W hl (by omega)
  rw [e0] at RT
  have MV := Lib.hid fun W => wnGive s.sd x ok.sd.1 ok.sd.2 x0.1 x0.2 W
  generalize giveV s.sd x = sv at *
  generalize giveB s.sd x = sb at *
  have b0 := ((Bel.refl w).alloc (.cells #[.int .i64 (s).id, .int .u8 (s).st, .int .i64 (s).sd, .int .i64 (s).rc, .int .i64 (s).ow, .bool (s).an, .bool (s).en, .slice A n c, .int .u8 (s).ur, .bool (s).inc, .int .i64 (s).sl] 24)).alloc (.cells #[.int .i64 0, .int .u8 0, .int .i64 0, .int .i64 0, .int .i64 0, .bool false, .bool false, .slice none 0 0, .int .u8 0, .bool false, .int .i64 0] 24)
  have q0 := (Blk.new w 24 #[.int .i64 (s).id, .int .u8 (s).st, .int .i64 (s).sd, .int .i64 (s).rc, .int .i64 (s).ow, .bool (s).an, .bool (s).en, .slice A n c, .int .u8 (s).ur, .bool (s).inc, .int .i64 (s).sl]).alloc (.cells #[.int .i64 0, .int .u8 0, .int .i64 0, .int .i64 0, .int .i64 0, .bool false, .bool false, .slice none 0 0, .int .u8 0, .bool false, .int .i64 0] 24)
  have qr := Blk.newAt (b := w.heap.size + 1) (w.alloc (.cells #[.int .i64 (s).id, .int .u8 (s).st, .int .i64 (s).sd, .int .i64 (s).rc, .int .i64 (s).ow, .bool (s).an, .bool (s).en, .slice A n c, .int .u8 (s).ur, .bool (s).inc, .int .i64 (s).sl] 24)) 24 #[.int .i64 0, .int .u8 0, .int .i64 0, .int .i64 0, .int .i64 0, .bool false, .bool false, .slice none 0 0, .int .u8 0, .bool false, .int .i64 0] (by simp)
  have y := (h.alloc (.cells #[.int .i64 (s).id, .int .u8 (s).st, .int .i64 (s).sd, .int .i64 (s).rc, .int .i64 (s).ow, .bool (s).an, .bool (s).en, .slice A n c, .int .u8 (s).ur, .bool (s).inc, .int .i64 (s).sl] 24)).alloc (.cells #[.int .i64 0, .int .u8 0, .int .i64 0, .int .i64 0, .int .i64 0, .bool false, .bool false, .slice none 0 0, .int .u8 0, .bool false, .int .i64 0] 24)
  have sz := b0.out.size
  have HL := Lib.hid hl
  clear h hl e0
  go_enter Try.func44, Try.ntmps44
  go_wp2_with fail
  refine wp_scope_hop 1 ?_
  go_wp2_with (first
    | (go_at_call 33; (with_reducible refine (fSOwn s A n c _ y (by omega)).mono ?_); rintro e w9 ⟨A1, n1, c1, rfl, m1, hb⟩; obtain rfl : n1 = n := (by have h1 := m1.len; have h2 := HL.out; omega); replace b0 := b0.below hb; (try replace q0 := q0.below hb); (try replace qr := qr.below hb); (try replace m1 := m1.below hb); (try clear q0_2); (try have q0_2 := q0.at 2 rfl); (try clear qr_2); (try have qr_2 := qr.at 2 rfl); clear hb y)
    | (go_at_call 30; (with_reducible refine (RT.out _ _ _).mono ?_); rintro e w9 ⟨rfl, hb⟩; replace b0 := b0.below hb; (try replace q0 := q0.below hb); (try replace qr := qr.below hb); (try replace m1 := m1.below hb); (try clear q0_2); (try have q0_2 := q0.at 2 rfl); (try clear qr_2); (try have qr_2 := qr.at 2 rfl))
    | (go_at_call 45; (with_reducible refine (MV.out _).mono ?_); rintro e w9 ⟨rfl, rfl⟩)
    | (refine wpList_getB rfl _ _ rfl rfl q0 Try.underlying24 rfl (by rfl) ?_)
    | (refine wpList_getB rfl _ _ rfl rfl qr Try.underlying24 rfl (by rfl) ?_)
    | (refine wpList_putB rfl _ _ _ rfl rfl rfl qr (by rfl) (by rfl) (by rfl) ?_; intro w9 qn hg; replace b0 := b0.grown hg (by omega); (try replace m1 := m1.grownB qr (by decide) hg); (try replace q0 := q0.grown hg (by omega)); clear hg qr; have qr := qn; clear qn; (try clear q0_2); (try have q0_2 := q0.at 2 rfl); (try clear qr_2); (try have qr_2 := qr.at 2 rfl))
    | (refine wpList_putF rfl _ _ _ rfl rfl rfl qr rfl (by rfl) (by rfl) ?_; intro w9 qn hg; (try simp only [List.setIfInBounds_toArray, List.set_cons_succ, List.set_cons_zero] at qn); replace b0 := b0.grown hg (by omega); (try replace m1 := m1.grownB qr (by decide) hg); (try replace q0 := q0.grown hg (by omega)); clear hg qr; have qr := qn; clear qn; (try clear q0_2); (try have q0_2 := q0.at 2 rfl); (try clear qr_2); (try have qr_2 := qr.at 2 rfl))
    | ((with_reducible refine wp_goto_then rfl ?_)) | ((with_reducible refine wp_goto ?_); refine hop_goto rfl ?_) | ((with_reducible refine wp_label ?_)) | ((with_reducible refine hop_ret ?_)))
  exact res2ct rfl rfl rfl rfl qr Try.underlying24 rfl (by rfl) ⟨_, _, _, rfl, m1.base_le (by simp; omega), b0.out⟩
theorem sendsGive (s : Str) (ok : StrOk s) (x : Int) (x0 : -9223372036854775808 ≤ x ∧ x ≤ 9223372036854775807) (A : Option Addr) (n c : Nat) (w : World) (h : Byt w A n c s.out) (hn : n ≤ 100000) : Calls Try.prog 44 #[.agg #[.int .i64 (s).id, .int .u8 (s).st, .int .i64 (s).sd, .int .i64 (s).rc, .int .i64 (s).ow, .bool (s).an, .bool (s).en, .slice A n c, .int .u8 (s).ur, .bool (s).inc, .int .i64 (s).sl], .int .i64 x, .func (.func 45) #[] #[]] w (StBP (givS s x) (givB s x) w) := by
  unfold givS givB
  by_cases r : RightS s
  · rw [if_pos r, if_pos r]
    exact sendsGiveok s ok x x0 A n c w h hn (rightS_yes r)
  · rw [if_neg r, if_neg r]
    exact sendsGiveno s ok x x0 A n c w h hn (rightS_no r)
set_option maxHeartbeats 2000000 in
theorem fGive (s : Str) (ok : StrOk s) (x : Int) (x0 : -9223372036854775808 ≤ x ∧ x ≤ 9223372036854775807) (A : Option Addr) (n c : Nat) (w : World) (h : Byt w A n c s.out) (hn : n ≤ 100000) : Calls Try.prog 18 #[.agg #[.int .i64 (s).id, .int .u8 (s).st, .int .i64 (s).sd, .int .i64 (s).rc, .int .i64 (s).ow, .bool (s).an, .bool (s).en, .slice A n c, .int .u8 (s).ur, .bool (s).inc, .int .i64 (s).sl], .int .i64 x] w (StBP (givS s x) (givB s x) w) := by
  have b0 := ((Bel.refl w).alloc (.cells #[.int .i64 (s).id, .int .u8 (s).st, .int .i64 (s).sd, .int .i64 (s).rc, .int .i64 (s).ow, .bool (s).an, .bool (s).en, .slice A n c, .int .u8 (s).ur, .bool (s).inc, .int .i64 (s).sl] 24)).alloc (.cells #[.int .i64 0, .int .u8 0, .int .i64 0, .int .i64 0, .int .i64 0, .bool false, .bool false, .slice none 0 0, .int .u8 0, .bool false, .int .i64 0] 24)
  have q0 := (Blk.new w 24 #[.int .i64 (s).id, .int .u8 (s).st, .int .i64 (s).sd, .int .i64 (s).rc, .int .i64 (s).ow, .bool (s).an, .bool (s).en, .slice A n c, .int .u8 (s).ur, .bool (s).inc, .int .i64 (s).sl]).alloc (.cells #[.int .i64 0, .int .u8 0, .int .i64 0, .int .i64 0, .int .i64 0, .bool false, .bool false, .slice none 0 0, .int .u8 0, .bool false, .int .i64 0] 24)
  have qr := Blk.newAt (b := w.heap.size + 1) (w.alloc (.cells #[.int .i64 (s).id, .int .u8 (s).st, .int .i64 (s).sd, .int .i64 (s).rc, .int .i64 (s).ow, .bool (s).an, .bool (s).en, .slice A n c, .int .u8 (s).ur, .bool (s).inc, .int .i64 (s).sl] 24)) 24 #[.int .i64 0, .int .u8 0, .int .i64 0, .int .i64 0, .int .i64 0, .bool false, .bool false, .slice none 0 0, .int .u8 0, .bool false, .int .i64 0] (by simp)
  have y := (h.alloc (.cells #[.int .i64 (s).id, .int .u8 (s).st, .int .i64 (s).sd, .int .i64 (s).rc, .int .i64 (s).ow, .bool (s).an, .bool (s).en, .slice A n c, .int .u8 (s).ur, .bool (s).inc, .int .i64 (s).sl] 24)).alloc (.cells #[.int .i64 0, .int .u8 0, .int .i64 0, .int .i64 0, .int .i64 0, .bool false, .bool false, .slice none 0 0, .int .u8 0, .bool false, .int .i64 0] 24)
  have sz := b0.out.size
  have SD := Lib.hid (sendsGive s ok x x0 A n c _ y hn)
  generalize givS s x = t at *
  generalize givB s x = tb at *
  clear h y
  go_enter Try.func18, Try.ntmps18
  go_wp2_with (first
    | (go_at_call 44; refine SD.out.mono ?_; rintro e w9 ⟨A1, n1, c1, rfl, m1, hb⟩; replace b0 := b0.below hb; (try replace q0 := q0.below hb); (try replace qr := qr.below hb); (try replace m1 := m1.below hb); clear hb)
    | (refine wpList_getB rfl _ _ rfl rfl q0 Try.underlying24 rfl (by rfl) ?_)
    | (refine wpList_putB rfl _ _ _ rfl rfl rfl qr (by rfl) (by rfl) (by rfl) ?_; intro w9 qn hg; replace b0 := b0.grown hg (by omega); (try replace m1 := m1.grownB qr (by decide) hg); (try replace q0 := q0.grown hg (by omega)); clear hg qr; have qr := qn; clear qn))
  exact res2ct rfl rfl rfl rfl qr Try.underlying24 rfl (by rfl) ⟨_, _, _, rfl, m1.base_le (by simp; omega), b0.out⟩
set_option maxHeartbeats 2000000 in
theorem rGiveno (s : Str) (ok : StrOk s) (x : Int) (x0 : -9223372036854775808 ≤ x ∧ x ≤ 9223372036854775807) (A : Option Addr) (n c : Nat) (w : World) (h : Byt w A n c s.out) (hn : n ≤ 100000) (e0 : rightS s = false) : Calls Try.prog 19 #[.agg #[.int .i64 (s).id, .int .u8 (s).st, .int .i64 (s).sd, .int .i64 (s).rc, .int .i64 (s).ow, .bool (s).an, .bool (s).en, .slice A n c, .int .u8 (s).ur, .bool (s).inc, .int .i64 (s).sl], .int .i64 x] w (StBP (s) false w) := by
  have hc := h.cap; have hx := h.mx; have hl := h.len
  have RT := Lib.hid fun (A : Option Addr) (c : Nat) W => rSRight s ok A n c W hl (by omega)
  rw [e0] at RT
  have MV := Lib.hid fun W => wnGiveR s.sd x ok.sd.1 ok.sd.2 x0.1 x0.2 W
  generalize giveV s.sd x = sv at *
  generalize giveB s.sd x = sb at *
  have b0 := ((Bel.refl w).alloc (.cells #[.int .i64 (s).id, .int .u8 (s).st, .int .i64 (s).sd, .int .i64 (s).rc, .int .i64 (s).ow, .bool (s).an, .bool (s).en, .slice A n c, .int .u8 (s).ur, .bool (s).inc, .int .i64 (s).sl] 24)).alloc (.cells #[.int .i64 0, .int .u8 0, .int .i64 0, .int .i64 0, .int .i64 0, .bool false, .bool false, .slice none 0 0, .int .u8 0, .bool false, .int .i64 0] 24)
  have q0 := (Blk.new w 24 #[.int .i64 (s).id, .int .u8 (s).st, .int .i64 (s).sd, .int .i64 (s).rc, .int .i64 (s).ow, .bool (s).an, .bool (s).en, .slice A n c, .int .u8 (s).ur, .bool (s).inc, .int .i64 (s).sl]).alloc (.cells #[.int .i64 0, .int .u8 0, .int .i64 0, .int .i64 0, .int .i64 0, .bool false, .bool false, .slice none 0 0, .int .u8 0, .bool false, .int .i64 0] 24)
  have qr := Blk.newAt (b := w.heap.size + 1) (w.alloc (.cells #[.int .i64 (s).id, .int .u8 (s).st, .int .i64 (s).sd, .int .i64 (s).rc, .int .i64 (s).ow, .bool (s).an, .bool (s).en, .slice A n c, .int .u8 (s).ur, .bool (s).inc, .int .i64 (s).sl] 24)) 24 #[.int .i64 0, .int .u8 0, .int .i64 0, .int .i64 0, .int .i64 0, .bool false, .bool false, .slice none 0 0, .int .u8 0, .bool false, .int .i64 0] (by simp)
  have y := (h.alloc (.cells #[.int .i64 (s).id, .int .u8 (s).st, .int .i64 (s).sd, .int .i64 (s).rc, .int .i64 (s).ow, .bool (s).an, .bool (s).en, .slice A n c, .int .u8 (s).ur, .bool (s).inc, .int .i64 (s).sl] 24)).alloc (.cells #[.int .i64 0, .int .u8 0, .int .i64 0, .int .i64 0, .int .i64 0, .bool false, .bool false, .slice none 0 0, .int .u8 0, .bool false, .int .i64 0] 24)
  have sz := b0.out.size
  have HL := Lib.hid hl
  clear h hl e0
  go_enter Try.func19, Try.ntmps19
  go_wp2_with (first
    | (go_at_call 36; (with_reducible refine (rSOwn s A n c _ y (by omega)).mono ?_); rintro e w9 ⟨A1, n1, c1, rfl, m1, hb⟩; obtain rfl : n1 = n := (by have h1 := m1.len; have h2 := HL.out; omega); replace b0 := b0.below hb; (try replace q0 := q0.below hb); (try replace qr := qr.below hb); (try replace m1 := m1.below hb); (try clear q0_2); (try have q0_2 := q0.at 2 rfl); (try clear qr_2); (try have qr_2 := qr.at 2 rfl); clear hb y)
    | (go_at_call 31; (with_reducible refine (RT.out _ _ _).mono ?_); rintro e w9 ⟨rfl, hb⟩; replace b0 := b0.below hb; (try replace q0 := q0.below hb); (try replace qr := qr.below hb); (try replace m1 := m1.below hb); (try clear q0_2); (try have q0_2 := q0.at 2 rfl); (try clear qr_2); (try have qr_2 := qr.at 2 rfl))
    | (go_at_call 46; (with_reducible refine (MV.out _).mono ?_); rintro e w9 ⟨rfl, rfl⟩)
    | (refine wpList_getB rfl _ _ rfl rfl q0 Try.underlying24 rfl (by rfl) ?_)
    | (refine wpList_putB rfl _ _ _ rfl rfl rfl qr (by rfl) (by rfl) (by rfl) ?_; intro w9 qn hg; replace b0 := b0.grown hg (by omega); (try replace m1 := m1.grownB qr (by decide) hg); (try replace q0 := q0.grown hg (by omega)); clear hg qr; have qr := qn; clear qn; (try clear q0_2); (try have q0_2 := q0.at 2 rfl); (try clear qr_2); (try have qr_2 := qr.at 2 rfl))
    | (refine wpList_putB rfl _ _ _ rfl rfl rfl q0 (by rfl) (by rfl) (by rfl) ?_; intro w9 qn hg; replace b0 := b0.grown hg (by omega); (try replace m1 := m1.grownB q0 (by decide) hg); (try replace qr := qr.grown hg (by omega)); clear hg q0; have q0 := qn; clear qn; (try clear q0_2); (try have q0_2 := q0.at 2 rfl); (try clear qr_2); (try have qr_2 := qr.at 2 rfl))
    | (refine wpList_putF rfl _ _ _ rfl rfl rfl q0 rfl (by rfl) (by rfl) ?_; intro w9 qn hg; (try simp only [List.setIfInBounds_toArray, List.set_cons_succ, List.set_cons_zero] at qn); replace b0 := b0.grown hg (by omega); (try replace m1 := m1.grownB q0 (by decide) hg); (try replace qr := qr.grown hg (by omega)); clear hg q0; have q0 := qn; clear qn; (try clear q0_2); (try have q0_2 := q0.at 2 rfl); (try clear qr_2); (try have qr_2 := qr.at 2 rfl)))
  exact res2ct rfl rfl rfl rfl qr Try.underlying24 rfl (by rfl) ⟨_, _, _, rfl, m1.base_le (by simp; omega), b0.out⟩
set_option maxHeartbeats 2000000 in
theorem rGivebad (s : Str) (ok : StrOk s) (x : Int) (x0 : -9223372036854775808 ≤ x ∧ x ≤ 9223372036854775807) (A : Option Addr) (n c : Nat) (w : World) (h : Byt w A n c s.out) (hn : n ≤ 100000) (e0 : rightS s = true) (e1 : giveB s.sd x = false) : Calls Try.prog 19 #[.agg #[.int .i64 (s).id, .int .u8 (s).st, .int .i64 (s).sd, .int .i64 (s).rc, .int .i64 (s).ow, .bool (s).an, .bool (s).en, .slice A n c, .int .u8 (s).ur, .bool (s).inc, .int .i64 (s).sl], .int .i64 x] w (StBP (s) false w) := by
  have hc := h.cap; have hx := h.mx; have hl := h.len
  have RT := Lib.hid fun (A : Option Addr) (c : Nat) W => rSRight s ok A n c W hl (by omega)
  rw [e0] at RT
  have MV := Lib.hid fun W => wnGiveR s.sd x ok.sd.1 ok.sd.2 x0.1 x0.2 W
  rw [e1] at MV
  clear e1
  generalize giveV s.sd x = sv at *
  have b0 := ((Bel.refl w).alloc (.cells #[.int .i64 (s).id, .int .u8 (s).st, .int .i64 (s).sd, .int .i64 (s).rc, .int .i64 (s).ow, .bool (s).an, .bool (s).en, .slice A n c, .int .u8 (s).ur, .bool (s).inc, .int .i64 (s).sl] 24)).alloc (.cells #[.int .i64 0, .int .u8 0, .int .i64 0, .int .i64 0, .int .i64 0, .bool false, .bool false, .slice none 0 0, .int .u8 0, .bool false, .int .i64 0] 24)
  have q0 := (Blk.new w 24 #[.int .i64 (s).id, .int .u8 (s).st, .int .i64 (s).sd, .int .i64 (s).rc, .int .i64 (s).ow, .bool (s).an, .bool (s).en, .slice A n c, .int .u8 (s).ur, .bool (s).inc, .int .i64 (s).sl]).alloc (.cells #[.int .i64 0, .int .u8 0, .int .i64 0, .int .i64 0, .int .i64 0, .bool false, .bool false, .slice none 0 0, .int .u8 0, .bool false, .int .i64 0] 24)
  have qr := Blk.newAt (b := w.heap.size + 1) (w.alloc (.cells #[.int .i64 (s).id, .int .u8 (s).st, .int .i64 (s).sd, .int .i64 (s).rc, .int .i64 (s).ow, .bool (s).an, .bool (s).en, .slice A n c, .int .u8 (s).ur, .bool (s).inc, .int .i64 (s).sl] 24)) 24 #[.int .i64 0, .int .u8 0, .int .i64 0, .int .i64 0, .int .i64 0, .bool false, .bool false, .slice none 0 0, .int .u8 0, .bool false, .int .i64 0] (by simp)
  have y := (h.alloc (.cells #[.int .i64 (s).id, .int .u8 (s).st, .int .i64 (s).sd, .int .i64 (s).rc, .int .i64 (s).ow, .bool (s).an, .bool (s).en, .slice A n c, .int .u8 (s).ur, .bool (s).inc, .int .i64 (s).sl] 24)).alloc (.cells #[.int .i64 0, .int .u8 0, .int .i64 0, .int .i64 0, .int .i64 0, .bool false, .bool false, .slice none 0 0, .int .u8 0, .bool false, .int .i64 0] 24)
  have sz := b0.out.size
  have HL := Lib.hid hl
  clear h hl e0
  go_enter Try.func19, Try.ntmps19
  go_wp2_with (first
    | (go_at_call 36; (with_reducible refine (rSOwn s A n c _ y (by omega)).mono ?_); rintro e w9 ⟨A1, n1, c1, rfl, m1, hb⟩; obtain rfl : n1 = n := (by have h1 := m1.len; have h2 := HL.out; omega); replace b0 := b0.below hb; (try replace q0 := q0.below hb); (try replace qr := qr.below hb); (try replace m1 := m1.below hb); (try clear q0_2); (try have q0_2 := q0.at 2 rfl); (try clear qr_2); (try have qr_2 := qr.at 2 rfl); clear hb y)
    | (go_at_call 31; (with_reducible refine (RT.out _ _ _).mono ?_); rintro e w9 ⟨rfl, hb⟩; replace b0 := b0.below hb; (try replace q0 := q0.below hb); (try replace qr := qr.below hb); (try replace m1 := m1.below hb); (try clear q0_2); (try have q0_2 := q0.at 2 rfl); (try clear qr_2); (try have qr_2 := qr.at 2 rfl))
    | (go_at_call 46; (with_reducible refine (MV.out _).mono ?_); rintro e w9 ⟨rfl, rfl⟩)
    | (refine wpList_getB rfl _ _ rfl rfl q0 Try.underlying24 rfl (by rfl) ?_)
    | (refine wpList_putB rfl _ _ _ rfl rfl rfl qr (by rfl) (by rfl) (by rfl) ?_; intro w9 qn hg; replace b0 := b0.grown hg (by omega); (try replace m1 := m1.grownB qr (by decide) hg); (try replace q0 := q0.grown hg (by omega)); clear hg qr; have qr := qn; clear qn; (try clear q0_2); (try have q0_2 := q0.at 2 rfl); (try clear qr_2); (try have qr_2 := qr.at 2 rfl))
    | (refine wpList_putB rfl _ _ _ rfl rfl rfl q0 (by rfl) (by rfl) (by rfl) ?_; intro w9 qn hg; replace b0 := b0.grown hg (by omega); (try replace m1 := m1.grownB q0 (by decide) hg); (try replace qr := qr.grown hg (by omega)); clear hg q0; have q0 := qn; clear qn; (try clear q0_2); (try have q0_2 := q0.at 2 rfl); (try clear qr_2); (try have qr_2 := qr.at 2 rfl))
    | (refine wpList_putF rfl _ _ _ rfl rfl rfl q0 rfl (by rfl) (by rfl) ?_; intro w9 qn hg; (try simp only [List.setIfInBounds_toArray, List.set_cons_succ, List.set_cons_zero] at qn); replace b0 := b0.grown hg (by omega); (try replace m1 := m1.grownB q0 (by decide) hg); (try replace qr := qr.grown hg (by omega)); clear hg q0; have q0 := qn; clear qn; (try clear q0_2); (try have q0_2 := q0.at 2 rfl); (try clear qr_2); (try have qr_2 := qr.at 2 rfl)))
  exact res2ct rfl rfl rfl rfl qr Try.underlying24 rfl (by rfl) ⟨_, _, _, rfl, m1.base_le (by simp; omega), b0.out⟩
set_option maxHeartbeats 2000000 in
theorem rGiveok (s : Str) (ok : StrOk s) (x : Int) (x0 : -9223372036854775808 ≤ x ∧ x ≤ 9223372036854775807) (A : Option Addr) (n c : Nat) (w : World) (h : Byt w A n c s.out) (hn : n ≤ 100000) (e0 : rightS s = true) (e1 : giveB s.sd x = true) : Calls Try.prog 19 #[.agg #[.int .i64 (s).id, .int .u8 (s).st, .int .i64 (s).sd, .int .i64 (s).rc, .int .i64 (s).ow, .bool (s).an, .bool (s).en, .slice A n c, .int .u8 (s).ur, .bool (s).inc, .int .i64 (s).sl], .int .i64 x] w (StBP ({ s with sd := giveV s.sd x }) true w) := by
  have hc := h.cap; have hx := h.mx; have hl := h.len
  have RT := Lib.hid fun (A : Option Addr) (c : Nat) W => rSRight s ok A n c W hl (by omega)
  rw [e0] at RT
  have MV := Lib.hid fun W => wnGiveR s.sd x ok.sd.1 ok.sd.2 x0.1 x0.2 W
  rw [e1] at MV
  clear e1
  generalize giveV s.sd x = sv at *
  have b0 := ((Bel.refl w).alloc (.cells #[.int .i64 (s).id, .int .u8 (s).st, .int .i64 (s).sd, .int .i64 (s).rc, .int .i64 (s).ow, .bool (s).an, .bool (s).en, .slice A n c, .int .u8 (s).ur, .bool (s).inc, .int .i64 (s).sl] 24)).alloc (.cells #[.int .i64 0, .int .u8 0, .int .i64 0, .int .i64 0, .int .i64 0, .bool false, .bool false, .slice none 0 0, .int .u8 0, .bool false, .int .i64 0] 24)
  have q0 := (Blk.new w 24 #[.int .i64 (s).id, .int .u8 (s).st, .int .i64 (s).sd, .int .i64 (s).rc, .int .i64 (s).ow, .bool (s).an, .bool (s).en, .slice A n c, .int .u8 (s).ur, .bool (s).inc, .int .i64 (s).sl]).alloc (.cells #[.int .i64 0, .int .u8 0, .int .i64 0, .int .i64 0, .int .i64 0, .bool false, .bool false, .slice none 0 0, .int .u8 0, .bool false, .int .i64 0] 24)
  have qr := Blk.newAt (b := w.heap.size + 1) (w.alloc (.cells #[.int .i64 (s).id, .int .u8 (s).st, .int .i64 (s).sd, .int .i64 (s).rc, .int .i64 (s).ow, .bool (s).an, .bool (s).en, .slice A n c, .int .u8 (s).ur, .bool (s).inc, .int .i64 (s).sl] 24)) 24 #[.int .i64 0, .int .u8 0, .int .i64 0, .int .i64 0, .int .i64 0, .bool false, .bool false, .slice none 0 0, .int .u8 0, .bool false, .int .i64 0] (by simp)
  have y := (h.alloc (.cells #[.int .i64 (s).id, .int .u8 (s).st, .int .i64 (s).sd, .int .i64 (s).rc, .int .i64 (s).ow, .bool (s).an, .bool (s).en, .slice A n c, .int .u8 (s).ur, .bool (s).inc, .int .i64 (s).sl] 24)).alloc (.cells #[.int .i64 0, .int .u8 0, .int .i64 0, .int .i64 0, .int .i64 0, .bool false, .bool false, .slice none 0 0, .int .u8 0, .bool false, .int .i64 0] 24)
  have sz := b0.out.size
  have HL := Lib.hid hl
  clear h hl e0
  go_enter Try.func19, Try.ntmps19
  go_wp2_with (first
    | (go_at_call 36; (with_reducible refine (rSOwn s A n c _ y (by omega)).mono ?_); rintro e w9 ⟨A1, n1, c1, rfl, m1, hb⟩; obtain rfl : n1 = n := (by have h1 := m1.len; have h2 := HL.out; omega); replace b0 := b0.below hb; (try replace q0 := q0.below hb); (try replace qr := qr.below hb); (try replace m1 := m1.below hb); (try clear q0_2); (try have q0_2 := q0.at 2 rfl); (try clear qr_2); (try have qr_2 := qr.at 2 rfl); clear hb y)
    | (go_at_call 31; (with_reducible refine (RT.out _ _ _).mono ?_); rintro e w9 ⟨rfl, hb⟩; replace b0 := b0.below hb; (try replace q0 := q0.below hb); (try replace qr := qr.below hb); (try replace m1 := m1.below hb); (try clear q0_2); (try have q0_2 := q0.at 2 rfl); (try clear qr_2); (try have qr_2 := qr.at 2 rfl))
    | (go_at_call 46; (with_reducible refine (MV.out _).mono ?_); rintro e w9 ⟨rfl, rfl⟩)
    | (refine wpList_getB rfl _ _ rfl rfl q0 Try.underlying24 rfl (by rfl) ?_)
    | (refine wpList_putB rfl _ _ _ rfl rfl rfl qr (by rfl) (by rfl) (by rfl) ?_; intro w9 qn hg; replace b0 := b0.grown hg (by omega); (try replace m1 := m1.grownB qr (by decide) hg); (try replace q0 := q0.grown hg (by omega)); clear hg qr; have qr := qn; clear qn; (try clear q0_2); (try have q0_2 := q0.at 2 rfl); (try clear qr_2); (try have qr_2 := qr.at 2 rfl))
    | (refine wpList_putB rfl _ _ _ rfl rfl rfl q0 (by rfl) (by rfl) (by rfl) ?_; intro w9 qn hg; replace b0 := b0.grown hg (by omega); (try replace m1 := m1.grownB q0 (by decide) hg); (try replace qr := qr.grown hg (by omega)); clear hg q0; have q0 := qn; clear qn; (try clear q0_2); (try have q0_2 := q0.at 2 rfl); (try clear qr_2); (try have qr_2 := qr.at 2 rfl))
    | (refine wpList_putF rfl _ _ _ rfl rfl rfl q0 rfl (by rfl) (by rfl) ?_; intro w9 qn hg; (try simp only [List.setIfInBounds_toArray, List.set_cons_succ, List.set_cons_zero] at qn); replace b0 := b0.grown hg (by omega); (try replace m1 := m1.grownB q0 (by decide) hg); (try replace qr := qr.grown hg (by omega)); clear hg q0; have q0 := qn; clear qn; (try clear q0_2); (try have q0_2 := q0.at 2 rfl); (try clear qr_2); (try have qr_2 := qr.at 2 rfl)))
  exact res2ct rfl rfl rfl rfl qr Try.underlying24 rfl (by rfl) ⟨_, _, _, rfl, m1.base_le (by simp; omega), b0.out⟩
theorem rGive (s : Str) (ok : StrOk s) (x : Int) (x0 : -9223372036854775808 ≤ x ∧ x ≤ 9223372036854775807) (A : Option Addr) (n c : Nat) (w : World) (h : Byt w A n c s.out) (hn : n ≤ 100000) : Calls Try.prog 19 #[.agg #[.int .i64 (s).id, .int .u8 (s).st, .int .i64 (s).sd, .int .i64 (s).rc, .int .i64 (s).ow, .bool (s).an, .bool (s).en, .slice A n c, .int .u8 (s).ur, .bool (s).inc, .int .i64 (s).sl], .int .i64 x] w (StBP (givS s x) (givB s x) w) := by
  unfold givS givB
  by_cases r : RightS s
  · rw [if_pos r, if_pos r]
    cases hb : giveB s.sd x
    · have e : giveV s.sd x = s.sd := by
        simp only [giveB, decide_eq_false_iff_not] at hb
        unfold giveV
        rw [if_neg hb]
      have e2 : ({ s with sd := giveV s.sd x } : Str) = s := by rw [e]
      rw [e2]
      exact rGivebad s ok x x0 A n c w h hn (rightS_yes r) hb
    · exact rGiveok s ok x x0 A n c w h hn (rightS_yes r) hb
  · rw [if_neg r, if_neg r]
    exact rGiveno s ok x x0 A n c w h hn (rightS_no r)
set_option maxHeartbeats 2000000 in
theorem sendsShiftno (s : Str) (ok : StrOk s) (x : Int) (x0 : -9223372036854775808 ≤ x ∧ x ≤ 9223372036854775807) (A : Option Addr) (n c : Nat) (w : World) (h : Byt w A n c s.out) (hn : n ≤ 100000) (e0 : rightS s = false) : Calls Try.prog 44 #[.agg #[.int .i64 (s).id, .int .u8 (s).st, .int .i64 (s).sd, .int .i64 (s).rc, .int .i64 (s).ow, .bool (s).an, .bool (s).en, .slice A n c, .int .u8 (s).ur, .bool (s).inc, .int .i64 (s).sl], .int .i64 x, .func (.func 47) #[] #[]] w (StBP (s) false w) := by
  have hc := h.cap; have hx := h.mx; have hl := h.len
  have RT := Lib.hid fun (A : Option Addr) (c : Nat) W => fSRight s ok A n c W hl (by omega)
  rw [e0] at RT
  have MV := Lib.hid fun W => wnShift s.sd x ok.sd.1 ok.sd.2 x0.1 x0.2 W
  skip
  skip
  have b0 := ((Bel.refl w).alloc (.cells #[.int .i64 (s).id, .int .u8 (s).st, .int .i64 (s).sd, .int .i64 (s).rc, .int .i64 (s).ow, .bool (s).an, .bool (s).en, .slice A n c, .int .u8 (s).ur, .bool (s).inc, .int .i64 (s).sl] 24)).alloc (.cells #[.int .i64 0, .int .u8 0, .int .i64 0, .int .i64 0, .int .i64 0, .bool false, .bool false, .slice none 0 0, .int .u8 0, .bool false, .int .i64 0] 24)
  have q0 := (Blk.new w 24 #[.int .i64 (s).id, .int .u8 (s).st, .int .i64 (s).sd, .int .i64 (s).rc, .int .i64 (s).ow, .bool (s).an, .bool (s).en, .slice A n c, .int .u8 (s).ur, .bool (s).inc, .int .i64 (s).sl]).alloc (.cells #[.int .i64 0, .int .u8 0, .int .i64 0, .int .i64 0, .int .i64 0, .bool false, .bool false, .slice none 0 0, .int .u8 0, .bool false, .int .i64 0] 24)
  have qr := Blk.newAt (b := w.heap.size + 1) (w.alloc (.cells #[.int .i64 (s).id, .int .u8 (s).st, .int .i64 (s).sd, .int .i64 (s).rc, .int .i64 (s).ow, .bool (s).an, .bool (s).en, .slice A n c, .int .u8 (s).ur, .bool (s).inc, .int .i64 (s).sl] 24)) 24 #[.int .i64 0, .int .u8 0, .int .i64 0, .int .i64 0, .int .i64 0, .bool false, .bool false, .slice none 0 0, .int .u8 0, .bool false, .int .i64 0] (by simp)
  have y := (h.alloc (.cells #[.int .i64 (s).id, .int .u8 (s).st, .int .i64 (s).sd, .int .i64 (s).rc, .int .i64 (s).ow, .bool (s).an, .bool (s).en, .slice A n c, .int .u8 (s).ur, .bool (s).inc, .int .i64 (s).sl] 24)).alloc (.cells #[.int .i64 0, .int .u8 0, .int .i64 0, .int .i64 0, .int .i64 0, .bool false, .bool false, .slice none 0 0, .int .u8 0, .bool false, .int .i64 0] 24)
  have sz := b0.out.size
  have HL := Lib.hid hl
  clear h hl e0
  go_enter Try.func44, Try.ntmps44
  go_wp2_with fail
  refine wp_scope_hop 1 ?_
  go_wp2_with (first
    | (go_at_call 33; (with_reducible refine (fSOwn s A n c _ y (by omega)).mono ?_); rintro e w9 ⟨A1, n1, c1, rfl, m1, hb⟩; obtain rfl : n1 = n := (by have h1 := m1.len; have h2 := HL.out; omega); replace b0 := b0.below hb; (try replace q0 := q0.below hb); (try replace qr := qr.below hb); (try replace m1 := m1.below hb); (try clear q0_2); (try have q0_2 := q0.at 2 rfl); (try clear qr_2); (try have qr_2 := qr.at 2 rfl); clear hb y)
    | (go_at_call 30; (with_reducible refine (RT.out _ _ _).mono ?_); rintro e w9 ⟨rfl, hb⟩; replace b0 := b0.below hb; (try replace q0 := q0.below hb); (try replace qr := qr.below hb); (try replace m1 := m1.below hb); (try clear q0_2); (try have q0_2 := q0.at 2 rfl); (try clear qr_2); (try have qr_2 := qr.at 2 rfl))
    | (go_at_call 47; (with_reducible refine (MV.out _).mono ?_); rintro e w9 ⟨rfl, rfl⟩)
    | (refine wpList_getB rfl _ _ rfl rfl q0 Try.underlying24 rfl (by rfl) ?_)
    | (refine wpList_getB rfl _ _ rfl rfl qr Try.underlying24 rfl (by rfl) ?_)
    | (refine wpList_putB rfl _ _ _ rfl rfl rfl qr (by rfl) (by rfl) (by rfl) ?_; intro w9 qn hg; replace b0 := b0.grown hg (by omega); (try replace m1 := m1.grownB qr (by decide) hg); (try replace q0 := q0.grown hg (by omega)); clear hg qr; have qr := qn; clear qn; (try clear q0_2); (try have q0_2 := q0.at 2 rfl); (try clear qr_2); (try have qr_2 := qr.at 2 rfl))
    | (refine wpList_putF rfl _ _ _ rfl rfl rfl qr rfl (by rfl) (by rfl) ?_; intro w9 qn hg; (try simp only [List.setIfInBounds_toArray, List.set_cons_succ, List.set_cons_zero] at qn); replace b0 := b0.grown hg (by omega); (try replace m1 := m1.grownB qr (by decide) hg); (try replace q0 := q0.grown hg (by omega)); clear hg qr; have qr := qn; clear qn; (try clear q0_2); (try have q0_2 := q0.at 2 rfl); (try clear qr_2); (try have qr_2 := qr.at 2 rfl))
    | ((with_reducible refine wp_goto_then rfl ?_)) | ((with_reducible refine wp_goto ?_); refine hop_goto rfl ?_) | ((with_reducible refine wp_label ?_)) | ((with_reducible refine hop_ret ?_)))
  exact res2ct rfl rfl rfl rfl qr Try.underlying24 rfl (by rfl) ⟨_, _, _, rfl, m1.base_le (by simp; omega), b0.out⟩
set_option maxHeartbeats 2000000 in
theorem sendsShiftok (s : Str) (ok : StrOk s) (x : Int) (x0 : -9223372036854775808 ≤ x ∧ x ≤ 9223372036854775807) (A : Option Addr) (n c : Nat) (w : World) (h : Byt w A n c s.out) (hn : n ≤ 100000) (e0 : rightS s = true) : Calls Try.prog 44 #[.agg #[.int .i64 (s).id, .int .u8 (s).st, .int .i64 (s).sd, .int .i64 (s).rc, .int .i64 (s).ow, .bool (s).an, .bool (s).en, .slice A n c, .int .u8 (s).ur, .bool (s).inc, .int .i64 (s).sl], .int .i64 x, .func (.func 47) #[] #[]] w (StBP ({ s with sd := shiftV s.sd x }) (shiftB s.sd x) w) := by
  have hc := h.cap; have hx := h.mx; have hl := h.len
  have RT := Lib.hid fun (A : Option Addr) (c : Nat) W => fSRight s ok A n c W hl (by omega)
  rw [e0] at RT
  have MV := Lib.hid fun W => wnShift s.sd x ok.sd.1 ok.sd.2 x0.1 x0.2 W
  generalize shiftV s.sd x = sv at *
  generalize shiftB s.sd x = sb at *
  have b0 := ((Bel.refl w).alloc (.cells #[.int .i64 (s).id, .int .u8 (s).st, .int .i64 (s).sd, .int .i64 (s).rc, .int .i64 (s).ow, .bool (s).an, .bool (s).en, .slice A n c, .int .u8 (s).ur, .bool (s).inc, .int .i64 (s).sl] 24)).alloc (.cells #[.int .i64 0, .int .u8 0, .int .i64 0, .int .i64 0, .int .i64 0, .bool false, .bool false, .slice none 0 0, .int .u8 0, .bool false, .int .i64 0] 24)
  have q0 := (Blk.new w 24 #[.int .i64 (s).id, .int .u8 (s).st, .int .i64 (s).sd, .int .i64 (s).rc, .int .i64 (s).ow, .bool (s).an, .bool (s).en, .slice A n c, .int .u8 (s).ur, .bool (s).inc, .int .i64 (s).sl]).alloc (.cells #[.int .i64 0, .int .u8 0, .int .i64 0, .int .i64 0, .int .i64 0, .bool false, .bool false, .slice none 0 0, .int .u8 0, .bool false, .int .i64 0] 24)
  have qr := Blk.newAt (b := w.heap.size + 1) (w.alloc (.cells #[.int .i64 (s).id, .int .u8 (s).st, .int .i64 (s).sd, .int .i64 (s).rc, .int .i64 (s).ow, .bool (s).an, .bool (s).en, .slice A n c, .int .u8 (s).ur, .bool (s).inc, .int .i64 (s).sl] 24)) 24 #[.int .i64 0, .int .u8 0, .int .i64 0, .int .i64 0, .int .i64 0, .bool false, .bool false, .slice none 0 0, .int .u8 0, .bool false, .int .i64 0] (by simp)
  have y := (h.alloc (.cells #[.int .i64 (s).id, .int .u8 (s).st, .int .i64 (s).sd, .int .i64 (s).rc, .int .i64 (s).ow, .bool (s).an, .bool (s).en, .slice A n c, .int .u8 (s).ur, .bool (s).inc, .int .i64 (s).sl] 24)).alloc (.cells #[.int .i64 0, .int .u8 0, .int .i64 0, .int .i64 0, .int .i64 0, .bool false, .bool false, .slice none 0 0, .int .u8 0, .bool false, .int .i64 0] 24)
  have sz := b0.out.size
  have HL := Lib.hid hl
  clear h hl e0
  go_enter Try.func44, Try.ntmps44
  go_wp2_with fail
  refine wp_scope_hop 1 ?_
  go_wp2_with (first
    | (go_at_call 33; (with_reducible refine (fSOwn s A n c _ y (by omega)).mono ?_); rintro e w9 ⟨A1, n1, c1, rfl, m1, hb⟩; obtain rfl : n1 = n := (by have h1 := m1.len; have h2 := HL.out; omega); replace b0 := b0.below hb; (try replace q0 := q0.below hb); (try replace qr := qr.below hb); (try replace m1 := m1.below hb); (try clear q0_2); (try have q0_2 := q0.at 2 rfl); (try clear qr_2); (try have qr_2 := qr.at 2 rfl); clear hb y)
    | (go_at_call 30; (with_reducible refine (RT.out _ _ _).mono ?_); rintro e w9 ⟨rfl, hb⟩; replace b0 := b0.below hb; (try replace q0 := q0.below hb); (try replace qr := qr.below hb); (try replace m1 := m1.below hb); (try clear q0_2); (try have q0_2 := q0.at 2 rfl); (try clear qr_2); (try have qr_2 := qr.at 2 rfl))
    | (go_at_call 47; (with_reducible refine (MV.out _).mono ?_); rintro e w9 ⟨rfl, rfl⟩)
    | (refine wpList_getB rfl _ _ rfl rfl q0 Try.underlying24 rfl (by rfl) ?_)
    | (refine wpList_getB rfl _ _ rfl rfl qr Try.underlying24 rfl (by rfl) ?_)
    | (refine wpList_putB rfl _ _ _ rfl rfl rfl qr (by rfl) (by rfl) (by rfl) ?_; intro w9 qn hg; replace b0 := b0.grown hg (by omega); (try replace m1 := m1.grownB qr (by decide) hg); (try replace q0 := q0.grown hg (by omega)); clear hg qr; have qr := qn; clear qn; (try clear q0_2); (try have q0_2 := q0.at 2 rfl); (try clear qr_2); (try have qr_2 := qr.at 2 rfl))
    | (refine wpList_putF rfl _ _ _ rfl rfl rfl qr rfl (by rfl) (by rfl) ?_; intro w9 qn hg; (try simp only [List.setIfInBounds_toArray, List.set_cons_succ, List.set_cons_zero] at qn); replace b0 := b0.grown hg (by omega); (try replace m1 := m1.grownB qr (by decide) hg); (try replace q0 := q0.grown hg (by omega)); clear hg qr; have qr := qn; clear qn; (try clear q0_2); (try have q0_2 := q0.at 2 rfl); (try clear qr_2); (try have qr_2 := qr.at 2 rfl))
    | ((with_reducible refine wp_goto_then rfl ?_)) | ((with_reducible refine wp_goto ?_); refine hop_goto rfl ?_) | ((with_reducible refine wp_label ?_)) | ((with_reducible refine hop_ret ?_)))
  exact res2ct rfl rfl rfl rfl qr Try.underlying24 rfl (by rfl) ⟨_, _, _, rfl, m1.base_le (by simp; omega), b0.out⟩
theorem sendsShift (s : Str) (ok : StrOk s) (x : Int) (x0 : -9223372036854775808 ≤ x ∧ x ≤ 9223372036854775807) (A : Option Addr) (n c : Nat) (w : World) (h : Byt w A n c s.out) (hn : n ≤ 100000) : Calls Try.prog 44 #[.agg #[.int .i64 (s).id, .int .u8 (s).st, .int .i64 (s).sd, .int .i64 (s).rc, .int .i64 (s).ow, .bool (s).an, .bool (s).en, .slice A n c, .int .u8 (s).ur, .bool (s).inc, .int .i64 (s).sl], .int .i64 x, .func (.func 47) #[] #[]] w (StBP (shfS s x) (shfB s x) w) := by
  unfold shfS shfB
  by_cases r : RightS s
  · rw [if_pos r, if_pos r]
    exact sendsShiftok s ok x x0 A n c w h hn (rightS_yes r)
  · rw [if_neg r, if_neg r]
    exact sendsShiftno s ok x x0 A n c w h hn (rightS_no r)
set_option maxHeartbeats 2000000 in
theorem fShift (s : Str) (ok : StrOk s) (x : Int) (x0 : -9223372036854775808 ≤ x ∧ x ≤ 9223372036854775807) (A : Option Addr) (n c : Nat) (w : World) (h : Byt w A n c s.out) (hn : n ≤ 100000) : Calls Try.prog 20 #[.agg #[.int .i64 (s).id, .int .u8 (s).st, .int .i64 (s).sd, .int .i64 (s).rc, .int .i64 (s).ow, .bool (s).an, .bool (s).en, .slice A n c, .int .u8 (s).ur, .bool (s).inc, .int .i64 (s).sl], .int .i64 x] w (StBP (shfS s x) (shfB s x) w) := by
  have b0 := ((Bel.refl w).alloc (.cells #[.int .i64 (s).id, .int .u8 (s).st, .int .i64 (s).sd, .int .i64 (s).rc, .int .i64 (s).ow, .bool (s).an, .bool (s).en, .slice A n c, .int .u8 (s).ur, .bool (s).inc, .int .i64 (s).sl] 24)).alloc (.cells #[.int .i64 0, .int .u8 0, .int .i64 0, .int .i64 0, .int .i64 0, .bool false, .bool false, .slice none 0 0, .int .u8 0, .bool false, .int .i64 0] 24)
  have q0 := (Blk.new w 24 #[.int .i64 (s).id, .int .u8 (s).st, .int .i64 (s).sd, .int .i64 (s).rc, .int .i64 (s).ow, .bool (s).an, .bool (s).en, .slice A n c, .int .u8 (s).ur, .bool (s).inc, .int .i64 (s).sl]).alloc (.cells #[.int .i64 0, .int .u8 0, .int .i64 0, .int .i64 0, .int .i64 0, .bool false, .bool false, .slice none 0 0, .int .u8 0, .bool false, .int .i64 0] 24)
  have qr := Blk.newAt (b := w.heap.size + 1) (w.alloc (.cells #[.int .i64 (s).id, .int .u8 (s).st, .int .i64 (s).sd, .int .i64 (s).rc, .int .i64 (s).ow, .bool (s).an, .bool (s).en, .slice A n c, .int .u8 (s).ur, .bool (s).inc, .int .i64 (s).sl] 24)) 24 #[.int .i64 0, .int .u8 0, .int .i64 0, .int .i64 0, .int .i64 0, .bool false, .bool false, .slice none 0 0, .int .u8 0, .bool false, .int .i64 0] (by simp)
  have y := (h.alloc (.cells #[.int .i64 (s).id, .int .u8 (s).st, .int .i64 (s).sd, .int .i64 (s).rc, .int .i64 (s).ow, .bool (s).an, .bool (s).en, .slice A n c, .int .u8 (s).ur, .bool (s).inc, .int .i64 (s).sl] 24)).alloc (.cells #[.int .i64 0, .int .u8 0, .int .i64 0, .int .i64 0, .int .i64 0, .bool false, .bool false, .slice none 0 0, .int .u8 0, .bool false, .int .i64 0] 24)
  have sz := b0.out.size
  have SD := Lib.hid (sendsShift s ok x x0 A n c _ y hn)
  generalize shfS s x = t at *
  generalize shfB s x = tb at *
  clear h y
  go_enter Try.func20, Try.ntmps20
  go_wp2_with (first
    | (go_at_call 44; refine SD.out.mono ?_; rintro e w9 ⟨A1, n1, c1, rfl, m1, hb⟩; replace b0 := b0.below hb; (try replace q0 := q0.below hb); (try replace qr := qr.below hb); (try replace m1 := m1.below hb); clear hb)
    | (refine wpList_getB rfl _ _ rfl rfl q0 Try.underlying24 rfl (by rfl) ?_)
    | (refine wpList_putB rfl _ _ _ rfl rfl rfl qr (by rfl) (by rfl) (by rfl) ?_; intro w9 qn hg; replace b0 := b0.grown hg (by omega); (try replace m1 := m1.grownB qr (by decide) hg); (try replace q0 := q0.grown hg (by omega)); clear hg qr; have qr := qn; clear qn))
  exact res2ct rfl rfl rfl rfl qr Try.underlying24 rfl (by rfl) ⟨_, _, _, rfl, m1.base_le (by simp; omega), b0.out⟩
set_option maxHeartbeats 2000000 in
theorem rShiftno (s : Str) (ok : StrOk s) (x : Int) (x0 : -9223372036854775808 ≤ x ∧ x ≤ 9223372036854775807) (A : Option Addr) (n c : Nat) (w : World) (h : Byt w A n c s.out) (hn : n ≤ 100000) (e0 : rightS s = false) : Calls Try.prog 21 #[.agg #[.int .i64 (s).id, .int .u8 (s).st, .int .i64 (s).sd, .int .i64 (s).rc, .int .i64 (s).ow, .bool (s).an, .bool (s).en, .slice A n c, .int .u8 (s).ur, .bool (s).inc, .int .i64 (s).sl], .int .i64 x] w (StBP (s) false w) := by
  have hc := h.cap; have hx := h.mx; have hl := h.len
  have RT := Lib.hid fun (A : Option Addr) (c : Nat) W => rSRight s ok A n c W hl (by omega)
  rw [e0] at RT
  have MV := Lib.hid fun W => wnShiftR s.sd x ok.sd.1 ok.sd.2 x0.1 x0.2 W
  generalize shiftV s.sd x = sv at *
  generalize shiftB s.sd x = sb at *
  have b0 := ((Bel.refl w).alloc (.cells #[.int .i64 (s).id, .int .u8 (s).st, .int .i64 (s).sd, .int .i64 (s).rc, .int .i64 (s).ow, .bool (s).an, .bool (s).en, .slice A n c, .int .u8 (s).ur, .bool (s).inc, .int .i64 (s).sl] 24)).alloc (.cells #[.int .i64 0, .int .u8 0, .int .i64 0, .int .i64 0, .int .i64 0, .bool false, .bool false, .slice none 0 0, .int .u8 0, .bool false, .int .i64 0] 24)
  have q0 := (Blk.new w 24 #[.int .i64 (s).id, .int .u8 (s).st, .int .i64 (s).sd, .int .i64 (s).rc, .int .i64 (s).ow, .bool (s).an, .bool (s).en, .slice A n c, .int .u8 (s).ur, .bool (s).inc, .int .i64 (s).sl]).alloc (.cells #[.int .i64 0, .int .u8 0, .int .i64 0, .int .i64 0, .int .i64 0, .bool false, .bool false, .slice none 0 0, .int .u8 0, .bool false, .int .i64 0] 24)
  have qr := Blk.newAt (b := w.heap.size + 1) (w.alloc (.cells #[.int .i64 (s).id, .int .u8 (s).st, .int .i64 (s).sd, .int .i64 (s).rc, .int .i64 (s).ow, .bool (s).an, .bool (s).en, .slice A n c, .int .u8 (s).ur, .bool (s).inc, .int .i64 (s).sl] 24)) 24 #[.int .i64 0, .int .u8 0, .int .i64 0, .int .i64 0, .int .i64 0, .bool false, .bool false, .slice none 0 0, .int .u8 0, .bool false, .int .i64 0] (by simp)
  have y := (h.alloc (.cells #[.int .i64 (s).id, .int .u8 (s).st, .int .i64 (s).sd, .int .i64 (s).rc, .int .i64 (s).ow, .bool (s).an, .bool (s).en, .slice A n c, .int .u8 (s).ur, .bool (s).inc, .int .i64 (s).sl] 24)).alloc (.cells #[.int .i64 0, .int .u8 0, .int .i64 0, .int .i64 0, .int .i64 0, .bool false, .bool false, .slice none 0 0, .int .u8 0, .bool false, .int .i64 0] 24)
  have sz := b0.out.size
  have HL := Lib.hid hl
  clear h hl e0
  go_enter Try.func21, Try.ntmps21
  go_wp2_with (first
    | (go_at_call 36; (with_reducible refine (rSOwn s A n c _ y (by omega)).mono ?_); rintro e w9 ⟨A1, n1, c1, rfl, m1, hb⟩; obtain rfl : n1 = n := (by have h1 := m1.len; have h2 := HL.out; omega); replace b0 := b0.below hb; (try replace q0 := q0.below hb); (try replace qr := qr.below hb); (try replace m1 := m1.below hb); (try clear q0_2); (try have q0_2 := q0.at 2 rfl); (try clear qr_2); (try have qr_2 := qr.at 2 rfl); clear hb y)
    | (go_at_call 31; (with_reducible refine (RT.out _ _ _).mono ?_); rintro e w9 ⟨rfl, hb⟩; replace b0 := b0.below hb; (try replace q0 := q0.below hb); (try replace qr := qr.below hb); (try replace m1 := m1.below hb); (try clear q0_2); (try have q0_2 := q0.at 2 rfl); (try clear qr_2); (try have qr_2 := qr.at 2 rfl))
    | (go_at_call 48; (with_reducible refine (MV.out _).mono ?_); rintro e w9 ⟨rfl, rfl⟩)
    | (refine wpList_getB rfl _ _ rfl rfl q0 Try.underlying24 rfl (by rfl) ?_)
    | (refine wpList_putB rfl _ _ _ rfl rfl rfl qr (by rfl) (by rfl) (by rfl) ?_; intro w9 qn hg; replace b0 := b0.grown hg (by omega); (try replace m1 := m1.grownB qr (by decide) hg); (try replace q0 := q0.grown hg (by omega)); clear hg qr; have qr := qn; clear qn; (try clear q0_2); (try have q0_2 := q0.at 2 rfl); (try clear qr_2); (try have qr_2 := qr.at 2 rfl))
    | (refine wpList_putB rfl _ _ _ rfl rfl rfl q0 (by rfl) (by rfl) (by rfl) ?_; intro w9 qn hg; replace b0 := b0.grown hg (by omega); (try replace m1 := m1.grownB q0 (by decide) hg); (try replace qr := qr.grown hg (by omega)); clear hg q0; have q0 := qn; clear qn; (try clear q0_2); (try have q0_2 := q0.at 2 rfl); (try clear qr_2); (try have qr_2 := qr.at 2 rfl))
    | (refine wpList_putF rfl _ _ _ rfl rfl rfl q0 rfl (by rfl) (by rfl) ?_; intro w9 qn hg; (try simp only [List.setIfInBounds_toArray, List.set_cons_succ, List.set_cons_zero] at qn); replace b0 := b0.grown hg (by omega); (try replace m1 := m1.grownB q0 (by decide) hg); (try replace qr := qr.grown hg (by omega)); clear hg q0; have q0 := qn; clear qn; (try clear q0_2); (try have q0_2 := q0.at 2 rfl); (try clear qr_2); (try have qr_2 := qr.at 2 rfl)))
  exact res2ct rfl rfl rfl rfl qr Try.underlying24 rfl (by rfl) ⟨_, _, _, rfl, m1.base_le (by simp; omega), b0.out⟩
set_option maxHeartbeats 2000000 in
theorem rShiftbad (s : Str) (ok : StrOk s) (x : Int) (x0 : -9223372036854775808 ≤ x ∧ x ≤ 9223372036854775807) (A : Option Addr) (n c : Nat) (w : World) (h : Byt w A n c s.out) (hn : n ≤ 100000) (e0 : rightS s = true) (e1 : shiftB s.sd x = false) : Calls Try.prog 21 #[.agg #[.int .i64 (s).id, .int .u8 (s).st, .int .i64 (s).sd, .int .i64 (s).rc, .int .i64 (s).ow, .bool (s).an, .bool (s).en, .slice A n c, .int .u8 (s).ur, .bool (s).inc, .int .i64 (s).sl], .int .i64 x] w (StBP (s) false w) := by
  have hc := h.cap; have hx := h.mx; have hl := h.len
  have RT := Lib.hid fun (A : Option Addr) (c : Nat) W => rSRight s ok A n c W hl (by omega)
  rw [e0] at RT
  have MV := Lib.hid fun W => wnShiftR s.sd x ok.sd.1 ok.sd.2 x0.1 x0.2 W
  rw [e1] at MV
  clear e1
  generalize shiftV s.sd x = sv at *
  have b0 := ((Bel.refl w).alloc (.cells #[.int .i64 (s).id, .int .u8 (s).st, .int .i64 (s).sd, .int .i64 (s).rc, .int .i64 (s).ow, .bool (s).an, .bool (s).en, .slice A n c, .int .u8 (s).ur, .bool (s).inc, .int .i64 (s).sl] 24)).alloc (.cells #[.int .i64 0, .int .u8 0, .int .i64 0, .int .i64 0, .int .i64 0, .bool false, .bool false, .slice none 0 0, .int .u8 0, .bool false, .int .i64 0] 24)
  have q0 := (Blk.new w 24 #[.int .i64 (s).id, .int .u8 (s).st, .int .i64 (s).sd, .int .i64 (s).rc, .int .i64 (s).ow, .bool (s).an, .bool (s).en, .slice A n c, .int .u8 (s).ur, .bool (s).inc, .int .i64 (s).sl]).alloc (.cells #[.int .i64 0, .int .u8 0, .int .i64 0, .int .i64 0, .int .i64 0, .bool false, .bool false, .slice none 0 0, .int .u8 0, .bool false, .int .i64 0] 24)
  have qr := Blk.newAt (b := w.heap.size + 1) (w.alloc (.cells #[.int .i64 (s).id, .int .u8 (s).st, .int .i64 (s).sd, .int .i64 (s).rc, .int .i64 (s).ow, .bool (s).an, .bool (s).en, .slice A n c, .int .u8 (s).ur, .bool (s).inc, .int .i64 (s).sl] 24)) 24 #[.int .i64 0, .int .u8 0, .int .i64 0, .int .i64 0, .int .i64 0, .bool false, .bool false, .slice none 0 0, .int .u8 0, .bool false, .int .i64 0] (by simp)
  have y := (h.alloc (.cells #[.int .i64 (s).id, .int .u8 (s).st, .int .i64 (s).sd, .int .i64 (s).rc, .int .i64 (s).ow, .bool (s).an, .bool (s).en, .slice A n c, .int .u8 (s).ur, .bool (s).inc, .int .i64 (s).sl] 24)).alloc (.cells #[.int .i64 0, .int .u8 0, .int .i64 0, .int .i64 0, .int .i64 0, .bool false, .bool false, .slice none 0 0, .int .u8 0, .bool false, .int .i64 0] 24)
  have sz := b0.out.size
  have HL := Lib.hid hl
  clear h hl e0
  go_enter Try.func21, Try.ntmps21
  go_wp2_with (first
    | (go_at_call 36; (with_reducible refine (rSOwn s A n c _ y (by omega)).mono ?_); rintro e w9 ⟨A1, n1, c1, rfl, m1, hb⟩; obtain rfl : n1 = n := (by have h1 := m1.len; have h2 := HL.out; omega); replace b0 := b0.below hb; (try replace q0 := q0.below hb); (try replace qr := qr.below hb); (try replace m1 := m1.below hb); (try clear q0_2); (try have q0_2 := q0.at 2 rfl); (try clear qr_2); (try have qr_2 := qr.at 2 rfl); clear hb y)
    | (go_at_call 31; (with_reducible refine (RT.out _ _ _).mono ?_); rintro e w9 ⟨rfl, hb⟩; replace b0 := b0.below hb; (try replace q0 := q0.below hb); (try replace qr := qr.below hb); (try replace m1 := m1.below hb); (try clear q0_2); (try have q0_2 := q0.at 2 rfl); (try clear qr_2); (try have qr_2 := qr.at 2 rfl))
    | (go_at_call 48; (with_reducible refine (MV.out _).mono ?_); rintro e w9 ⟨rfl, rfl⟩)
    | (refine wpList_getB rfl _ _ rfl rfl q0 Try.underlying24 rfl (by rfl) ?_)
    | (refine wpList_putB rfl _ _ _ rfl rfl rfl qr (by rfl) (by rfl) (by rfl) ?_; intro w9 qn hg; replace b0 := b0.grown hg (by omega); (try replace m1 := m1.grownB qr (by decide) hg); (try replace q0 := q0.grown hg (by omega)); clear hg qr; have qr := qn; clear qn; (try clear q0_2); (try have q0_2 := q0.at 2 rfl); (try clear qr_2); (try have qr_2 := qr.at 2 rfl))
    | (refine wpList_putB rfl _ _ _ rfl rfl rfl q0 (by rfl) (by rfl) (by rfl) ?_; intro w9 qn hg; replace b0 := b0.grown hg (by omega); (try replace m1 := m1.grownB q0 (by decide) hg); (try replace qr := qr.grown hg (by omega)); clear hg q0; have q0 := qn; clear qn; (try clear q0_2); (try have q0_2 := q0.at 2 rfl); (try clear qr_2); (try have qr_2 := qr.at 2 rfl))
    | (refine wpList_putF rfl _ _ _ rfl rfl rfl q0 rfl (by rfl) (by rfl) ?_; intro w9 qn hg; (try simp only [List.setIfInBounds_toArray, List.set_cons_succ, List.set_cons_zero] at qn); replace b0 := b0.grown hg (by omega); (try replace m1 := m1.grownB q0 (by decide) hg); (try replace qr := qr.grown hg (by omega)); clear hg q0; have q0 := qn; clear qn; (try clear q0_2); (try have q0_2 := q0.at 2 rfl); (try clear qr_2); (try have qr_2 := qr.at 2 rfl)))
  exact res2ct rfl rfl rfl rfl qr Try.underlying24 rfl (by rfl) ⟨_, _, _, rfl, m1.base_le (by simp; omega), b0.out⟩
set_option maxHeartbeats 2000000 in
theorem rShiftok (s : Str) (ok : StrOk s) (x : Int) (x0 : -9223372036854775808 ≤ x ∧ x ≤ 9223372036854775807) (A : Option Addr) (n c : Nat) (w : World) (h : Byt w A n c s.out) (hn : n ≤ 100000) (e0 : rightS s = true) (e1 : shiftB s.sd x = true) : Calls Try.prog 21 #[.agg #[.int .i64 (s).id, .int .u8 (s).st, .int .i64 (s).sd, .int .i64 (s).rc, .int .i64 (s).ow, .bool (s).an, .bool (s).en, .slice A n c, .int .u8 (s).ur, .bool (s).inc, .int .i64 (s).sl], .int .i64 x] w (StBP ({ s with sd := shiftV s.sd x }) true w) := by
  have hc := h.cap; have hx := h.mx; have hl := h.len
  have RT := Lib.hid fun (A : Option Addr) (c : Nat) W => rSRight s ok A n c W hl (by omega)
  rw [e0] at RT
  have MV := Lib.hid fun W => wnShiftR s.sd x ok.sd.1 ok.sd.2 x0.1 x0.2 W
  rw [e1] at MV
  clear e1
  generalize shiftV s.sd x = sv at *
  have b0 := ((Bel.refl w).alloc (.cells #[.int .i64 (s).id, .int .u8 (s).st, .int .i64 (s).sd, .int .i64 (s).rc, .int .i64 (s).ow, .bool (s).an, .bool (s).en, .slice A n c, .int .u8 (s).ur, .bool (s).inc, .int .i64 (s).sl] 24)).alloc (.cells #[.int .i64 0, .int .u8 0, .int .i64 0, .int .i64 0, .int .i64 0, .bool false, .bool false, .slice none 0 0, .int .u8 0, .bool false, .int .i64 0] 24)
  have q0 := (Blk.new w 24 #[.int .i64 (s).id, .int .u8 (s).st, .int .i64 (s).sd, .int .i64 (s).rc, .int .i64 (s).ow, .bool (s).an, .bool (s).en, .slice A n c, .int .u8 (s).ur, .bool (s).inc, .int .i64 (s).sl]).alloc (.cells #[.int .i64 0, .int .u8 0, .int .i64 0, .int .i64 0, .int .i64 0, .bool false, .bool false, .slice none 0 0, .int .u8 0, .bool false, .int .i64 0] 24)
  have qr := Blk.newAt (b := w.heap.size + 1) (w.alloc (.cells #[.int .i64 (s).id, .int .u8 (s).st, .int .i64 (s).sd, .int .i64 (s).rc, .int .i64 (s).ow, .bool (s).an, .bool (s).en, .slice A n c, .int .u8 (s).ur, .bool (s).inc, .int .i64 (s).sl] 24)) 24 #[.int .i64 0, .int .u8 0, .int .i64 0, .int .i64 0, .int .i64 0, .bool false, .bool false, .slice none 0 0, .int .u8 0, .bool false, .int .i64 0] (by simp)
  have y := (h.alloc (.cells #[.int .i64 (s).id, .int .u8 (s).st, .int .i64 (s).sd, .int .i64 (s).rc, .int .i64 (s).ow, .bool (s).an, .bool (s).en, .slice A n c, .int .u8 (s).ur, .bool (s).inc, .int .i64 (s).sl] 24)).alloc (.cells #[.int .i64 0, .int .u8 0, .int .i64 0, .int .i64 0, .int .i64 0, .bool false, .bool false, .slice none 0 0, .int .u8 0, .bool false, .int .i64 0] 24)
  have sz := b0.out.size
  have HL := Lib.hid hl
  clear h hl e0
  go_enter Try.func21, Try.ntmps21
  go_wp2_with (first
    | (go_at_call 36; (with_reducible refine (rSOwn s A n c _ y (by omega)).mono ?_); rintro e w9 ⟨A1, n1, c1, rfl, m1, hb⟩; obtain rfl : n1 = n := (by have h1 := m1.len; have h2 := HL.out; omega); replace b0 := b0.below hb; (try replace q0 := q0.below hb); (try replace qr := qr.below hb); (try replace m1 := m1.below hb); (try clear q0_2); (try have q0_2 := q0.at 2 rfl); (try clear qr_2); (try have qr_2 := qr.at 2 rfl); clear hb y)
    | (go_at_call 31; (with_reducible refine (RT.out _ _ _).mono ?_); rintro e w9 ⟨rfl, hb⟩; replace b0 := b0.below hb; (try replace q0 := q0.below hb); (try replace qr := qr.below hb); (try replace m1 := m1.below hb); (try clear q0_2); (try have q0_2 := q0.at 2 rfl); (try clear qr_2); (try have qr_2 := qr.at 2 rfl))
    | (go_at_call 48; (with_reducible refine (MV.out _).mono ?_); rintro e w9 ⟨rfl, rfl⟩)
    | (refine wpList_getB rfl _ _ rfl rfl q0 Try.underlying24 rfl (by rfl) ?_)
    | (refine wpList_putB rfl _ _ _ rfl rfl rfl qr (by rfl) (by rfl) (by rfl) ?_; intro w9 qn hg; replace b0 := b0.grown hg (by omega); (try replace m1 := m1.grownB qr (by decide) hg); (try replace q0 := q0.grown hg (by omega)); clear hg qr; have qr := qn; clear qn; (try clear q0_2); (try have q0_2 := q0.at 2 rfl); (try clear qr_2); (try have qr_2 := qr.at 2 rfl))
    | (refine wpList_putB rfl _ _ _ rfl rfl rfl q0 (by rfl) (by rfl) (by rfl) ?_; intro w9 qn hg; replace b0 := b0.grown hg (by omega); (try replace m1 := m1.grownB q0 (by decide) hg); (try replace qr := qr.grown hg (by omega)); clear hg q0; have q0 := qn; clear qn; (try clear q0_2); (try have q0_2 := q0.at 2 rfl); (try clear qr_2); (try have qr_2 := qr.at 2 rfl))
    | (refine wpList_putF rfl _ _ _ rfl rfl rfl q0 rfl (by rfl) (by rfl) ?_; intro w9 qn hg; (try simp only [List.setIfInBounds_toArray, List.set_cons_succ, List.set_cons_zero] at qn); replace b0 := b0.grown hg (by omega); (try replace m1 := m1.grownB q0 (by decide) hg); (try replace qr := qr.grown hg (by omega)); clear hg q0; have q0 := qn; clear qn; (try clear q0_2); (try have q0_2 := q0.at 2 rfl); (try clear qr_2); (try have qr_2 := qr.at 2 rfl)))
  exact res2ct rfl rfl rfl rfl qr Try.underlying24 rfl (by rfl) ⟨_, _, _, rfl, m1.base_le (by simp; omega), b0.out⟩
theorem rShift (s : Str) (ok : StrOk s) (x : Int) (x0 : -9223372036854775808 ≤ x ∧ x ≤ 9223372036854775807) (A : Option Addr) (n c : Nat) (w : World) (h : Byt w A n c s.out) (hn : n ≤ 100000) : Calls Try.prog 21 #[.agg #[.int .i64 (s).id, .int .u8 (s).st, .int .i64 (s).sd, .int .i64 (s).rc, .int .i64 (s).ow, .bool (s).an, .bool (s).en, .slice A n c, .int .u8 (s).ur, .bool (s).inc, .int .i64 (s).sl], .int .i64 x] w (StBP (shfS s x) (shfB s x) w) := by
  unfold shfS shfB
  by_cases r : RightS s
  · rw [if_pos r, if_pos r]
    cases hb : shiftB s.sd x
    · have e : shiftV s.sd x = s.sd := by
        simp only [shiftB, decide_eq_false_iff_not] at hb
        unfold shiftV
        rw [if_neg hb]
      have e2 : ({ s with sd := shiftV s.sd x } : Str) = s := by rw [e]
      rw [e2]
      exact rShiftbad s ok x x0 A n c w h hn (rightS_yes r) hb
    · exact rShiftok s ok x x0 A n c w h hn (rightS_yes r) hb
  · rw [if_neg r, if_neg r]
    exact rShiftno s ok x x0 A n c w h hn (rightS_no r)
end Go.Proofs.Ytaaeflomjcpfpaa
