/- StreamTells: both sides tell the same: the walk. -/
import Derived.Test.YtaaeflomjcpfpaaSn
import Derived.Test.YtaaeflomjcpfpaaSj
import Derived.Test.YtaaeflomjcpfpaaSo
import Derived.Test.YtaaeflomjcpfpaaSp
import Derived.Test.YtaaeflomjcpfpaaSz
import Derived.StillTailTactics
namespace Go.Proofs.Ytaaeflomjcpfpaa
open Go.RowKit Go.Shelf
set_option linter.unusedVariables false
set_option linter.unusedSimpArgs false

theorem sameS_me (t : Str) : sameS t t = true := decide_eq_true rfl
theorem newR_out (id sd rc : Int) (en : Bool) : (newR id sd rc en).out = [] := by unfold newR; split <;> rfl
set_option maxRecDepth 100000 in
set_option maxHeartbeats 8000000 in
theorem tellsNo1 (s : Str) (ok : StrOk s) (A : Option Addr) (n c : Nat) (o : Str) (oko : StrOk o) (A1 : Option Addr) (n1 c1 : Nat) (W : World) (h : Byt W A n c s.out) (h1 : Byt W A1 n1 c1 o.out) (st : Int) (s0 : 0 ≤ st) (kd : Int) (en : Bool) (x : Int) (X0 : (-9223372036854775808 ≤ x ∧ x ≤ 9223372036854775807)) (sd : Int) (D0 : (-9223372036854775808 ≤ sd ∧ sd ≤ 9223372036854775807)) (rc : Int) (R0 : (-9223372036854775808 ≤ rc ∧ rc ≤ 9223372036854775807)) (f0 : 3000 < n) :
    Calls Try.prog 3 #[.agg #[.int .i64 (s).id, .int .u8 (s).st, .int .i64 (s).sd, .int .i64 (s).rc, .int .i64 (s).ow, .bool (s).an, .bool (s).en, .slice A n c, .int .u8 (s).ur, .bool (s).inc, .int .i64 (s).sl], .agg #[.int .i64 (o).id, .int .u8 (o).st, .int .i64 (o).sd, .int .i64 (o).rc, .int .i64 (o).ow, .bool (o).an, .bool (o).en, .slice A1 n1 c1, .int .u8 (o).ur, .bool (o).inc, .int .i64 (o).sl], .int .u8 st, .int .u8 kd, .bool en, .int .i64 x, .int .i64 sd, .int .i64 rc] W fun e w' => e = .returned (.bool true) ∧ Below W.heap.size W w' := by
  have hl := h.len; have hmx := h.mx; have hcp := h.cap; have hl1 := h1.len; have hmx1 := h1.mx; have hcp1 := h1.cap
  have b0 := ((Bel.refl W).alloc (.cells #[.int .i64 (s).id, .int .u8 (s).st, .int .i64 (s).sd, .int .i64 (s).rc, .int .i64 (s).ow, .bool (s).an, .bool (s).en, .slice A n c, .int .u8 (s).ur, .bool (s).inc, .int .i64 (s).sl] 24)).alloc (.cells #[.int .i64 (o).id, .int .u8 (o).st, .int .i64 (o).sd, .int .i64 (o).rc, .int .i64 (o).ow, .bool (o).an, .bool (o).en, .slice A1 n1 c1, .int .u8 (o).ur, .bool (o).inc, .int .i64 (o).sl] 24)
  have q8 := (Blk.new W 24 #[.int .i64 (s).id, .int .u8 (s).st, .int .i64 (s).sd, .int .i64 (s).rc, .int .i64 (s).ow, .bool (s).an, .bool (s).en, .slice A n c, .int .u8 (s).ur, .bool (s).inc, .int .i64 (s).sl]).alloc (.cells #[.int .i64 (o).id, .int .u8 (o).st, .int .i64 (o).sd, .int .i64 (o).rc, .int .i64 (o).ow, .bool (o).an, .bool (o).en, .slice A1 n1 c1, .int .u8 (o).ur, .bool (o).inc, .int .i64 (o).sl] 24)
  have q9 := Blk.newAt (b := W.heap.size + 1) (W.alloc (.cells #[.int .i64 (s).id, .int .u8 (s).st, .int .i64 (s).sd, .int .i64 (s).rc, .int .i64 (s).ow, .bool (s).an, .bool (s).en, .slice A n c, .int .u8 (s).ur, .bool (s).inc, .int .i64 (s).sl] 24)) 24 #[.int .i64 (o).id, .int .u8 (o).st, .int .i64 (o).sd, .int .i64 (o).rc, .int .i64 (o).ow, .bool (o).an, .bool (o).en, .slice A1 n1 c1, .int .u8 (o).ur, .bool (o).inc, .int .i64 (o).sl] (by simp)
  have GR1 := Lib.hid fun (A : Option Addr) (c : Nat) w => rGreat s A n c w (by omega)
  rw [show decide (3000 < n) = true from decide_eq_true (by omega)] at GR1
  clear hl hmx hcp hl1 hmx1 hcp1 h h1 X0 D0 R0 f0
  go_enter Try.func3, Try.ntmps3
  go_wp2_with (first
    | ((with_reducible refine wpList_id ?_); refine wpList_getB rfl _ _ rfl rfl q8 Try.underlying24 rfl (by rfl) ?_)
    | ((with_reducible refine wpList_id ?_); refine wpList_getG (by rfl) _ _ rfl rfl q9 Try.underlying24 rfl (by rfl) ?_)
    | (go_at_call 7; (with_reducible refine (GR1.out _ _ _).mono ?_); rintro e w9 ⟨rfl, hb⟩; replace b0 := b0.below hb; (try replace q8 := q8.below hb); (try replace q9 := q9.below hb))
    | (go_at_call 8; (with_reducible refine (fWakes _).mono ?_); rintro e w9 ⟨rfl, hb⟩; replace b0 := b0.below hb))
  go_ret
  exact ⟨rfl, b0.out⟩
set_option maxRecDepth 100000 in
set_option maxHeartbeats 8000000 in
theorem tellsNo2 (s : Str) (ok : StrOk s) (A : Option Addr) (n c : Nat) (o : Str) (oko : StrOk o) (A1 : Option Addr) (n1 c1 : Nat) (W : World) (h : Byt W A n c s.out) (h1 : Byt W A1 n1 c1 o.out) (st : Int) (s0 : 0 ≤ st) (kd : Int) (en : Bool) (x : Int) (X0 : (-9223372036854775808 ≤ x ∧ x ≤ 9223372036854775807)) (sd : Int) (D0 : (-9223372036854775808 ≤ sd ∧ sd ≤ 9223372036854775807)) (rc : Int) (R0 : (-9223372036854775808 ≤ rc ∧ rc ≤ 9223372036854775807)) (f0 : n ≤ 3000) (f1 : 3000 < n1) :
    Calls Try.prog 3 #[.agg #[.int .i64 (s).id, .int .u8 (s).st, .int .i64 (s).sd, .int .i64 (s).rc, .int .i64 (s).ow, .bool (s).an, .bool (s).en, .slice A n c, .int .u8 (s).ur, .bool (s).inc, .int .i64 (s).sl], .agg #[.int .i64 (o).id, .int .u8 (o).st, .int .i64 (o).sd, .int .i64 (o).rc, .int .i64 (o).ow, .bool (o).an, .bool (o).en, .slice A1 n1 c1, .int .u8 (o).ur, .bool (o).inc, .int .i64 (o).sl], .int .u8 st, .int .u8 kd, .bool en, .int .i64 x, .int .i64 sd, .int .i64 rc] W fun e w' => e = .returned (.bool true) ∧ Below W.heap.size W w' := by
  have hl := h.len; have hmx := h.mx; have hcp := h.cap; have hl1 := h1.len; have hmx1 := h1.mx; have hcp1 := h1.cap
  have b0 := ((Bel.refl W).alloc (.cells #[.int .i64 (s).id, .int .u8 (s).st, .int .i64 (s).sd, .int .i64 (s).rc, .int .i64 (s).ow, .bool (s).an, .bool (s).en, .slice A n c, .int .u8 (s).ur, .bool (s).inc, .int .i64 (s).sl] 24)).alloc (.cells #[.int .i64 (o).id, .int .u8 (o).st, .int .i64 (o).sd, .int .i64 (o).rc, .int .i64 (o).ow, .bool (o).an, .bool (o).en, .slice A1 n1 c1, .int .u8 (o).ur, .bool (o).inc, .int .i64 (o).sl] 24)
  have q8 := (Blk.new W 24 #[.int .i64 (s).id, .int .u8 (s).st, .int .i64 (s).sd, .int .i64 (s).rc, .int .i64 (s).ow, .bool (s).an, .bool (s).en, .slice A n c, .int .u8 (s).ur, .bool (s).inc, .int .i64 (s).sl]).alloc (.cells #[.int .i64 (o).id, .int .u8 (o).st, .int .i64 (o).sd, .int .i64 (o).rc, .int .i64 (o).ow, .bool (o).an, .bool (o).en, .slice A1 n1 c1, .int .u8 (o).ur, .bool (o).inc, .int .i64 (o).sl] 24)
  have q9 := Blk.newAt (b := W.heap.size + 1) (W.alloc (.cells #[.int .i64 (s).id, .int .u8 (s).st, .int .i64 (s).sd, .int .i64 (s).rc, .int .i64 (s).ow, .bool (s).an, .bool (s).en, .slice A n c, .int .u8 (s).ur, .bool (s).inc, .int .i64 (s).sl] 24)) 24 #[.int .i64 (o).id, .int .u8 (o).st, .int .i64 (o).sd, .int .i64 (o).rc, .int .i64 (o).ow, .bool (o).an, .bool (o).en, .slice A1 n1 c1, .int .u8 (o).ur, .bool (o).inc, .int .i64 (o).sl] (by simp)
  have GR1 := Lib.hid fun (A : Option Addr) (c : Nat) w => rGreat s A n c w (by omega)
  rw [show decide (3000 < n) = false from decide_eq_false (by omega)] at GR1
  have GR2 := Lib.hid fun (A : Option Addr) (c : Nat) w => rGreat o A n1 c w (by omega)
  rw [show decide (3000 < n1) = true from decide_eq_true (by omega)] at GR2
  clear hl hmx hcp hl1 hmx1 hcp1 h h1 X0 D0 R0 f0 f1
  go_enter Try.func3, Try.ntmps3
  go_wp2_with (first
    | ((with_reducible refine wpList_id ?_); refine wpList_getB rfl _ _ rfl rfl q8 Try.underlying24 rfl (by rfl) ?_)
    | ((with_reducible refine wpList_id ?_); refine wpList_getG (by rfl) _ _ rfl rfl q9 Try.underlying24 rfl (by rfl) ?_)
    | (go_at_call 7; (with_reducible refine (GR1.out _ _ _).mono ?_); rintro e w9 ⟨rfl, hb⟩; replace b0 := b0.below hb; (try replace q8 := q8.below hb); (try replace q9 := q9.below hb))
    | (go_at_call 7; (with_reducible refine (GR2.out _ _ _).mono ?_); rintro e w9 ⟨rfl, hb⟩; replace b0 := b0.below hb; (try replace q8 := q8.below hb); (try replace q9 := q9.below hb))
    | (go_at_call 8; (with_reducible refine (fWakes _).mono ?_); rintro e w9 ⟨rfl, hb⟩; replace b0 := b0.below hb))
  go_ret
  exact ⟨rfl, b0.out⟩
set_option maxRecDepth 100000 in
set_option maxHeartbeats 8000000 in
theorem tellsOk (s : Str) (ok : StrOk s) (A : Option Addr) (n c : Nat) (o : Str) (oko : StrOk o) (A1 : Option Addr) (n1 c1 : Nat) (W : World) (h : Byt W A n c s.out) (h1 : Byt W A1 n1 c1 o.out) (st : Int) (s0 : 0 ≤ st) (kd : Int) (en : Bool) (x : Int) (X0 : (-9223372036854775808 ≤ x ∧ x ≤ 9223372036854775807)) (sd : Int) (D0 : (-9223372036854775808 ≤ sd ∧ sd ≤ 9223372036854775807)) (rc : Int) (R0 : (-9223372036854775808 ≤ rc ∧ rc ≤ 9223372036854775807)) (f0 : n ≤ 3000) (f1 : n1 ≤ 3000) :
    Calls Try.prog 3 #[.agg #[.int .i64 (s).id, .int .u8 (s).st, .int .i64 (s).sd, .int .i64 (s).rc, .int .i64 (s).ow, .bool (s).an, .bool (s).en, .slice A n c, .int .u8 (s).ur, .bool (s).inc, .int .i64 (s).sl], .agg #[.int .i64 (o).id, .int .u8 (o).st, .int .i64 (o).sd, .int .i64 (o).rc, .int .i64 (o).ow, .bool (o).an, .bool (o).en, .slice A1 n1 c1, .int .u8 (o).ur, .bool (o).inc, .int .i64 (o).sl], .int .u8 st, .int .u8 kd, .bool en, .int .i64 x, .int .i64 sd, .int .i64 rc] W fun e w' => e = .returned (.bool true) ∧ Below W.heap.size W w' := by
  have hl := h.len; have hmx := h.mx; have hcp := h.cap; have hl1 := h1.len; have hmx1 := h1.mx; have hcp1 := h1.cap
  have b0 := ((Bel.refl W).alloc (.cells #[.int .i64 (s).id, .int .u8 (s).st, .int .i64 (s).sd, .int .i64 (s).rc, .int .i64 (s).ow, .bool (s).an, .bool (s).en, .slice A n c, .int .u8 (s).ur, .bool (s).inc, .int .i64 (s).sl] 24)).alloc (.cells #[.int .i64 (o).id, .int .u8 (o).st, .int .i64 (o).sd, .int .i64 (o).rc, .int .i64 (o).ow, .bool (o).an, .bool (o).en, .slice A1 n1 c1, .int .u8 (o).ur, .bool (o).inc, .int .i64 (o).sl] 24)
  have q8 := (Blk.new W 24 #[.int .i64 (s).id, .int .u8 (s).st, .int .i64 (s).sd, .int .i64 (s).rc, .int .i64 (s).ow, .bool (s).an, .bool (s).en, .slice A n c, .int .u8 (s).ur, .bool (s).inc, .int .i64 (s).sl]).alloc (.cells #[.int .i64 (o).id, .int .u8 (o).st, .int .i64 (o).sd, .int .i64 (o).rc, .int .i64 (o).ow, .bool (o).an, .bool (o).en, .slice A1 n1 c1, .int .u8 (o).ur, .bool (o).inc, .int .i64 (o).sl] 24)
  have q9 := Blk.newAt (b := W.heap.size + 1) (W.alloc (.cells #[.int .i64 (s).id, .int .u8 (s).st, .int .i64 (s).sd, .int .i64 (s).rc, .int .i64 (s).ow, .bool (s).an, .bool (s).en, .slice A n c, .int .u8 (s).ur, .bool (s).inc, .int .i64 (s).sl] 24)) 24 #[.int .i64 (o).id, .int .u8 (o).st, .int .i64 (o).sd, .int .i64 (o).rc, .int .i64 (o).ow, .bool (o).an, .bool (o).en, .slice A1 n1 c1, .int .u8 (o).ur, .bool (o).inc, .int .i64 (o).sl] (by simp)
  have GR1 := Lib.hid fun (A : Option Addr) (c : Nat) w => rGreat s A n c w (by omega)
  rw [show decide (3000 < n) = false from decide_eq_false (by omega)] at GR1
  have GR2 := Lib.hid fun (A : Option Addr) (c : Nat) w => rGreat o A n1 c w (by omega)
  rw [show decide (3000 < n1) = false from decide_eq_false (by omega)] at GR2
  have hN := newR_out x sd rc en
  have Y8 := Lib.hid h
  have Y9 := Lib.hid h1
  have HL := Lib.hid hl
  have HL1 := Lib.hid hl1
  have NW := Lib.hid fun W => fNew x sd rc en X0 D0 R0 W
  have NX := Lib.hid fun W => rNew x sd rc en X0 D0 R0 W
  have DT := Lib.hid fun (A : Option Addr) (c : Nat) w (h : Byt w A n c s.out) => fData s ok x en X0 A n c w h (by omega)
  have DU := Lib.hid fun (A : Option Addr) (c : Nat) w (h : Byt w A n c s.out) => rData s ok x en X0 A n c w h (by omega)
  have CM := Lib.hid fun w => fComes st kd en s0 w
  have CN := Lib.hid fun w => rComes st kd en w
  have SN := Lib.hid fun w => fSends st kd en s0 w
  have SO := Lib.hid fun w => rSends st kd en w
  have LV := Lib.hid fun w => fLive st s0 w
  have LW := Lib.hid fun w => rLive st w
  have AN := Lib.hid fun w => fAnswers st s0 w
  have AO := Lib.hid fun w => rAnswers st w
  have BA := Lib.hid fun (A : Option Addr) (c : Nat) w (h : Byt w A n c s.out) => fBack s ok A n c w h (by omega)
  have BB := Lib.hid fun (A : Option Addr) (c : Nat) w (h : Byt w A n c s.out) => rBack s ok A n c w h (by omega)
  have GI := Lib.hid fun (A : Option Addr) (c : Nat) w (h : Byt w A n c s.out) => fGive s ok x X0 A n c w h (by omega)
  have GJ := Lib.hid fun (A : Option Addr) (c : Nat) w (h : Byt w A n c s.out) => rGive s ok x X0 A n c w h (by omega)
  have SH := Lib.hid fun (A : Option Addr) (c : Nat) w (h : Byt w A n c s.out) => fShift s ok x X0 A n c w h (by omega)
  have SI := Lib.hid fun (A : Option Addr) (c : Nat) w (h : Byt w A n c s.out) => rShift s ok x X0 A n c w h (by omega)
  have OV := Lib.hid fun (A : Option Addr) (c : Nat) w (h : Byt w A n c s.out) => fOver s ok st s0 A n c w h (by omega)
  have OX := Lib.hid fun (A : Option Addr) (c : Nat) w (h : Byt w A n c s.out) => rOver s ok st s0 A n c w h (by omega)
  have RT := Lib.hid fun (A : Option Addr) (c : Nat) w => fSRight s ok A n c w hl (by omega)
  have RU := Lib.hid fun (A : Option Addr) (c : Nat) w => rSRight s ok A n c w hl (by omega)
  have SS := Lib.hid fun (A : Option Addr) (c : Nat) (B : Option Addr) (d : Nat) w (h : Byt w A n c s.out) (h2 : Byt w B n1 d o.out) => fSSame s o A n c B n1 d w h h2
  have SV := Lib.hid fun (A : Option Addr) (c : Nat) (B : Option Addr) (d : Nat) w (h : Byt w A n c s.out) (h2 : Byt w B n1 d o.out) => rSSame s o A n c B n1 d w h h2
  have OW := Lib.hid fun (A : Option Addr) (c : Nat) w (h : Byt w A n c s.out) => fSOwn s A n c w h (by omega)
  have SM := Lib.hid fun (t : Str) (A : Option Addr) (n c : Nat) (B : Option Addr) (m d : Nat) w (h : Byt w A n c t.out) (h2 : Byt w B m d t.out) => rSSame t t A n c B m d w h h2
  simp only [sameS_me] at SM
  generalize newR x sd rc en = N at *
  generalize newE x sd rc en = ne at *
  generalize dataS s x en = dt at *
  generalize dataC s x en = dc at *
  generalize comesF st kd en = cm at *
  generalize backS s = bk at *
  generalize backN s = bn at *
  generalize givS s x = gi at *
  generalize givB s x = gb at *
  generalize shfS s x = sh at *
  generalize shfB s x = sb at *
  generalize overS s st = ov at *
  generalize liveB st = lv at *
  generalize ansB st = av at *
  generalize rightS s = rt at *
  generalize sameS s o = so at *
  rcases hsn : sendsF st kd en with ⟨sx, sy⟩
  rw [hsn] at SN SO
  clear hsn
  have HN : Hid (∀ w, Byt w none 0 0 N.out) := Lib.hid fun w => by rw [hN]; exact Byt.nil w
  clear hl hmx hcp hl1 hmx1 hcp1 h h1 X0 D0 R0 f0 f1 hN ok oko s0
  go_enter Try.func3, Try.ntmps3
  go_upto_region 3 with (first
    | ((with_reducible refine wpList_id ?_); refine wpList_getB rfl _ _ rfl rfl q8 Try.underlying24 rfl (by rfl) ?_)
    | ((with_reducible refine wpList_id ?_); refine wpList_getG (by rfl) _ _ rfl rfl q9 Try.underlying24 rfl (by rfl) ?_)
    | (go_at_call 7; (with_reducible refine (GR1.out _ _ _).mono ?_); rintro e w9 ⟨rfl, hb⟩; replace b0 := b0.below hb; (try replace q8 := q8.below hb); (try replace q9 := q9.below hb))
    | (go_at_call 7; (with_reducible refine (GR2.out _ _ _).mono ?_); rintro e w9 ⟨rfl, hb⟩; replace b0 := b0.below hb; (try replace q8 := q8.below hb); (try replace q9 := q9.below hb)))
  go_upto_region 4 with (first
    | (go_at_call 9; (with_reducible refine (NW.out _).mono ?_); rintro e w17 ⟨rfl, hb⟩; replace b0 := b0.below hb; (try replace q8 := q8.below hb); (try replace q9 := q9.below hb); have q17 := Blk.new w17 24 #[.int .i64 0, .int .u8 0, .int .i64 0, .int .i64 0, .int .i64 0, .bool false, .bool false, .slice none 0 0, .int .u8 0, .bool false, .int .i64 0]; have hz := b0.out.size; have hz8 := q8.lt; have hz9 := q9.lt; replace b0 := b0.alloc (.cells #[.int .i64 0, .int .u8 0, .int .i64 0, .int .i64 0, .int .i64 0, .bool false, .bool false, .slice none 0 0, .int .u8 0, .bool false, .int .i64 0] 24); replace q8 := q8.alloc (.cells #[.int .i64 0, .int .u8 0, .int .i64 0, .int .i64 0, .int .i64 0, .bool false, .bool false, .slice none 0 0, .int .u8 0, .bool false, .int .i64 0] 24); replace q9 := q9.alloc (.cells #[.int .i64 0, .int .u8 0, .int .i64 0, .int .i64 0, .int .i64 0, .bool false, .bool false, .slice none 0 0, .int .u8 0, .bool false, .int .i64 0] 24); clear hb)
    | ((with_reducible refine wpList_id ?_); refine wpList_putB rfl _ _ _ rfl rfl rfl q17 (by rfl) (by rfl) (by rfl) ?_; intro w9 qn hg; replace b0 := b0.grown hg (by omega); (try replace q8 := q8.grown hg (by omega)); (try replace q9 := q9.grown hg (by omega)); clear hg q17; have q17 := qn; clear qn))
  go_upto_region 5 with (first
    | (go_at_call 10; (with_reducible refine (NX.out _).mono ?_); rintro e w19 ⟨rfl, hb⟩; replace b0 := b0.below hb; (try replace q8 := q8.below hb); (try replace q9 := q9.below hb); (try replace q17 := q17.below hb); have q19 := Blk.new w19 24 #[.int .i64 0, .int .u8 0, .int .i64 0, .int .i64 0, .int .i64 0, .bool false, .bool false, .slice none 0 0, .int .u8 0, .bool false, .int .i64 0]; have hz17 := q17.lt; have hz := b0.out.size; have hz8 := q8.lt; have hz9 := q9.lt; replace b0 := b0.alloc (.cells #[.int .i64 0, .int .u8 0, .int .i64 0, .int .i64 0, .int .i64 0, .bool false, .bool false, .slice none 0 0, .int .u8 0, .bool false, .int .i64 0] 24); replace q8 := q8.alloc (.cells #[.int .i64 0, .int .u8 0, .int .i64 0, .int .i64 0, .int .i64 0, .bool false, .bool false, .slice none 0 0, .int .u8 0, .bool false, .int .i64 0] 24); replace q9 := q9.alloc (.cells #[.int .i64 0, .int .u8 0, .int .i64 0, .int .i64 0, .int .i64 0, .bool false, .bool false, .slice none 0 0, .int .u8 0, .bool false, .int .i64 0] 24); replace q17 := q17.alloc (.cells #[.int .i64 0, .int .u8 0, .int .i64 0, .int .i64 0, .int .i64 0, .bool false, .bool false, .slice none 0 0, .int .u8 0, .bool false, .int .i64 0] 24); clear hb)
    | ((with_reducible refine wpList_id ?_); refine wpList_putB rfl _ _ _ rfl rfl rfl q19 (by rfl) (by rfl) (by rfl) ?_; intro w9 qn hg; replace b0 := b0.grown hg (by omega); (try replace q8 := q8.grown hg (by omega)); (try replace q9 := q9.grown hg (by omega)); (try replace q17 := q17.grown hg (by omega)); clear hg q19; have q19 := qn; clear qn))
  go_upto_region 6 with (first
    | ((with_reducible refine wpList_id ?_); refine wpList_getB rfl _ _ rfl rfl q8 Try.underlying24 rfl (by rfl) ?_)
    | (go_at_call 11; (with_reducible refine (DT.out _ _ _ (Y8.out.below b0.out)).mono ?_); rintro e wd ⟨A21, n21, c21, rfl, m21, hb⟩; replace m21 := m21.base_le (Nat.zero_le _); replace b0 := b0.below hb; (try replace q8 := q8.below hb); (try replace q9 := q9.below hb); (try replace q17 := q17.below hb); (try replace q19 := q19.below hb); have q21 := (Blk.new wd 24 #[.int .i64 0, .int .u8 0, .int .i64 0, .int .i64 0, .int .i64 0, .bool false, .bool false, .slice none 0 0, .int .u8 0, .bool false, .int .i64 0]).alloc (.cells #[.int .u8 0, .bool false, .bool false, .int .u32 0] 32); have q22 := Blk.newAt (b := wd.heap.size + 1) (wd.alloc (.cells #[.int .i64 0, .int .u8 0, .int .i64 0, .int .i64 0, .int .i64 0, .bool false, .bool false, .slice none 0 0, .int .u8 0, .bool false, .int .i64 0] 24)) 32 #[.int .u8 0, .bool false, .bool false, .int .u32 0] (by simp); have hz := b0.out.size; have hz8 := q8.lt; have hz9 := q9.lt; have hz17 := q17.lt; have hz19 := q19.lt; replace b0 := (b0.alloc (.cells #[.int .i64 0, .int .u8 0, .int .i64 0, .int .i64 0, .int .i64 0, .bool false, .bool false, .slice none 0 0, .int .u8 0, .bool false, .int .i64 0] 24)).alloc (.cells #[.int .u8 0, .bool false, .bool false, .int .u32 0] 32); replace q8 := (q8.alloc (.cells #[.int .i64 0, .int .u8 0, .int .i64 0, .int .i64 0, .int .i64 0, .bool false, .bool false, .slice none 0 0, .int .u8 0, .bool false, .int .i64 0] 24)).alloc (.cells #[.int .u8 0, .bool false, .bool false, .int .u32 0] 32); replace q9 := (q9.alloc (.cells #[.int .i64 0, .int .u8 0, .int .i64 0, .int .i64 0, .int .i64 0, .bool false, .bool false, .slice none 0 0, .int .u8 0, .bool false, .int .i64 0] 24)).alloc (.cells #[.int .u8 0, .bool false, .bool false, .int .u32 0] 32); replace q17 := (q17.alloc (.cells #[.int .i64 0, .int .u8 0, .int .i64 0, .int .i64 0, .int .i64 0, .bool false, .bool false, .slice none 0 0, .int .u8 0, .bool false, .int .i64 0] 24)).alloc (.cells #[.int .u8 0, .bool false, .bool false, .int .u32 0] 32); replace q19 := (q19.alloc (.cells #[.int .i64 0, .int .u8 0, .int .i64 0, .int .i64 0, .int .i64 0, .bool false, .bool false, .slice none 0 0, .int .u8 0, .bool false, .int .i64 0] 24)).alloc (.cells #[.int .u8 0, .bool false, .bool false, .int .u32 0] 32); replace m21 := (m21.alloc (.cells #[.int .i64 0, .int .u8 0, .int .i64 0, .int .i64 0, .int .i64 0, .bool false, .bool false, .slice none 0 0, .int .u8 0, .bool false, .int .i64 0] 24)).alloc (.cells #[.int .u8 0, .bool false, .bool false, .int .u32 0] 32); clear hb)
    | ((with_reducible refine wpList_id ?_); refine wpList_putB rfl _ _ _ rfl rfl rfl q21 (by rfl) (by rfl) (by rfl) ?_; intro w9 qn hg; replace b0 := b0.grown hg (by omega); (try replace m21 := m21.grownB q21 (by decide) hg); (try replace q8 := q8.grown hg (by omega)); (try replace q9 := q9.grown hg (by omega)); (try replace q17 := q17.grown hg (by omega)); (try replace q19 := q19.grown hg (by omega)); (try replace q22 := q22.grown hg (by omega)); clear hg q21; have q21 := qn; clear qn)
    | ((with_reducible refine wpList_id ?_); refine wpList_putB rfl _ _ _ rfl rfl rfl q22 (by rfl) (by rfl) (by rfl) ?_; intro w9 qn hg; replace b0 := b0.grown hg (by omega); (try replace m21 := m21.grownB q22 (by decide) hg); (try replace q8 := q8.grown hg (by omega)); (try replace q9 := q9.grown hg (by omega)); (try replace q17 := q17.grown hg (by omega)); (try replace q19 := q19.grown hg (by omega)); (try replace q21 := q21.grown hg (by omega)); clear hg q22; have q22 := qn; clear qn))
  go_upto_region 7 with (first
    | ((with_reducible refine wpList_id ?_); refine wpList_getB rfl _ _ rfl rfl q8 Try.underlying24 rfl (by rfl) ?_)
    | (go_at_call 12; (with_reducible refine (DU.out _ _ _ (Y8.out.below b0.out)).mono ?_); rintro e wd ⟨A23, n23, c23, rfl, m23, hb⟩; replace m23 := m23.base_le (Nat.zero_le _); replace b0 := b0.below hb; (try replace q8 := q8.below hb); (try replace q9 := q9.below hb); (try replace q17 := q17.below hb); (try replace q19 := q19.below hb); (try replace q21 := q21.below hb); (try replace q22 := q22.below hb); (try replace m21 := m21.below hb); have q23 := (Blk.new wd 24 #[.int .i64 0, .int .u8 0, .int .i64 0, .int .i64 0, .int .i64 0, .bool false, .bool false, .slice none 0 0, .int .u8 0, .bool false, .int .i64 0]).alloc (.cells #[.int .u8 0, .bool false, .bool false, .int .u32 0] 32); have q24 := Blk.newAt (b := wd.heap.size + 1) (wd.alloc (.cells #[.int .i64 0, .int .u8 0, .int .i64 0, .int .i64 0, .int .i64 0, .bool false, .bool false, .slice none 0 0, .int .u8 0, .bool false, .int .i64 0] 24)) 32 #[.int .u8 0, .bool false, .bool false, .int .u32 0] (by simp); have hz := b0.out.size; have hz8 := q8.lt; have hz9 := q9.lt; have hz17 := q17.lt; have hz19 := q19.lt; have hz21 := q21.lt; have hz22 := q22.lt; replace b0 := (b0.alloc (.cells #[.int .i64 0, .int .u8 0, .int .i64 0, .int .i64 0, .int .i64 0, .bool false, .bool false, .slice none 0 0, .int .u8 0, .bool false, .int .i64 0] 24)).alloc (.cells #[.int .u8 0, .bool false, .bool false, .int .u32 0] 32); replace q8 := (q8.alloc (.cells #[.int .i64 0, .int .u8 0, .int .i64 0, .int .i64 0, .int .i64 0, .bool false, .bool false, .slice none 0 0, .int .u8 0, .bool false, .int .i64 0] 24)).alloc (.cells #[.int .u8 0, .bool false, .bool false, .int .u32 0] 32); replace q9 := (q9.alloc (.cells #[.int .i64 0, .int .u8 0, .int .i64 0, .int .i64 0, .int .i64 0, .bool false, .bool false, .slice none 0 0, .int .u8 0, .bool false, .int .i64 0] 24)).alloc (.cells #[.int .u8 0, .bool false, .bool false, .int .u32 0] 32); replace q17 := (q17.alloc (.cells #[.int .i64 0, .int .u8 0, .int .i64 0, .int .i64 0, .int .i64 0, .bool false, .bool false, .slice none 0 0, .int .u8 0, .bool false, .int .i64 0] 24)).alloc (.cells #[.int .u8 0, .bool false, .bool false, .int .u32 0] 32); replace q19 := (q19.alloc (.cells #[.int .i64 0, .int .u8 0, .int .i64 0, .int .i64 0, .int .i64 0, .bool false, .bool false, .slice none 0 0, .int .u8 0, .bool false, .int .i64 0] 24)).alloc (.cells #[.int .u8 0, .bool false, .bool false, .int .u32 0] 32); replace q21 := (q21.alloc (.cells #[.int .i64 0, .int .u8 0, .int .i64 0, .int .i64 0, .int .i64 0, .bool false, .bool false, .slice none 0 0, .int .u8 0, .bool false, .int .i64 0] 24)).alloc (.cells #[.int .u8 0, .bool false, .bool false, .int .u32 0] 32); replace q22 := (q22.alloc (.cells #[.int .i64 0, .int .u8 0, .int .i64 0, .int .i64 0, .int .i64 0, .bool false, .bool false, .slice none 0 0, .int .u8 0, .bool false, .int .i64 0] 24)).alloc (.cells #[.int .u8 0, .bool false, .bool false, .int .u32 0] 32); replace m21 := (m21.alloc (.cells #[.int .i64 0, .int .u8 0, .int .i64 0, .int .i64 0, .int .i64 0, .bool false, .bool false, .slice none 0 0, .int .u8 0, .bool false, .int .i64 0] 24)).alloc (.cells #[.int .u8 0, .bool false, .bool false, .int .u32 0] 32); replace m23 := (m23.alloc (.cells #[.int .i64 0, .int .u8 0, .int .i64 0, .int .i64 0, .int .i64 0, .bool false, .bool false, .slice none 0 0, .int .u8 0, .bool false, .int .i64 0] 24)).alloc (.cells #[.int .u8 0, .bool false, .bool false, .int .u32 0] 32); clear hb)
    | ((with_reducible refine wpList_id ?_); refine wpList_putB rfl _ _ _ rfl rfl rfl q23 (by rfl) (by rfl) (by rfl) ?_; intro w9 qn hg; replace b0 := b0.grown hg (by omega); (try replace m21 := m21.grownB q23 (by decide) hg); (try replace m23 := m23.grownB q23 (by decide) hg); (try replace q8 := q8.grown hg (by omega)); (try replace q9 := q9.grown hg (by omega)); (try replace q17 := q17.grown hg (by omega)); (try replace q19 := q19.grown hg (by omega)); (try replace q21 := q21.grown hg (by omega)); (try replace q22 := q22.grown hg (by omega)); (try replace q24 := q24.grown hg (by omega)); clear hg q23; have q23 := qn; clear qn)
    | ((with_reducible refine wpList_id ?_); refine wpList_putB rfl _ _ _ rfl rfl rfl q24 (by rfl) (by rfl) (by rfl) ?_; intro w9 qn hg; replace b0 := b0.grown hg (by omega); (try replace m21 := m21.grownB q24 (by decide) hg); (try replace m23 := m23.grownB q24 (by decide) hg); (try replace q8 := q8.grown hg (by omega)); (try replace q9 := q9.grown hg (by omega)); (try replace q17 := q17.grown hg (by omega)); (try replace q19 := q19.grown hg (by omega)); (try replace q21 := q21.grown hg (by omega)); (try replace q22 := q22.grown hg (by omega)); (try replace q23 := q23.grown hg (by omega)); clear hg q24; have q24 := qn; clear qn))
  go_upto_region 9 with (first
    | ((with_reducible refine wpList_id ?_); refine wpList_getB rfl _ _ rfl rfl q17 Try.underlying24 rfl (by rfl) ?_)
    | ((with_reducible refine wpList_id ?_); refine wpList_getB rfl _ _ rfl rfl q19 Try.underlying24 rfl (by rfl) ?_)
    | ((with_reducible refine wpList_id ?_); refine wpList_getG (by rfl) _ _ rfl rfl q21 Try.underlying24 rfl (by rfl) ?_)
    | ((with_reducible refine wpList_id ?_); refine wpList_getG (by rfl) _ _ rfl rfl q23 Try.underlying24 rfl (by rfl) ?_)
    | ((with_reducible refine wpList_id ?_); refine wpList_getG (by rfl) _ _ rfl rfl q22 Try.underlying32 rfl (by rfl) ?_)
    | ((with_reducible refine wpList_id ?_); refine wpList_getG (by rfl) _ _ rfl rfl q24 Try.underlying32 rfl (by rfl) ?_)
    | (go_at_call 13; (with_reducible refine (SM.out N _ _ _ _ _ _ _ (HN.out _) (HN.out _)).mono ?_); rintro e w9 ⟨rfl, hb⟩; replace b0 := b0.below hb; (try replace q8 := q8.below hb); (try replace q9 := q9.below hb); (try replace q17 := q17.below hb); (try replace q19 := q19.below hb); (try replace q21 := q21.below hb); (try replace q22 := q22.below hb); (try replace q23 := q23.below hb); (try replace q24 := q24.below hb); (try replace m21 := m21.below hb); (try replace m23 := m23.below hb))
    | (go_at_call 13; (with_reducible refine (SM.out dt _ _ _ _ _ _ _ m21.byt m23.byt).mono ?_); rintro e w9 ⟨rfl, hb⟩; replace b0 := b0.below hb; (try replace q8 := q8.below hb); (try replace q9 := q9.below hb); (try replace q17 := q17.below hb); (try replace q19 := q19.below hb); (try replace q21 := q21.below hb); (try replace q22 := q22.below hb); (try replace q23 := q23.below hb); (try replace q24 := q24.below hb); (try replace m21 := m21.below hb); (try replace m23 := m23.below hb))
    | (go_at_call 14; (with_reducible refine (CM.out _).mono ?_); rintro e w9 ⟨rfl, hb⟩; replace b0 := b0.below hb; (try replace q8 := q8.below hb); (try replace q9 := q9.below hb); (try replace q17 := q17.below hb); (try replace q19 := q19.below hb); (try replace q21 := q21.below hb); (try replace q22 := q22.below hb); (try replace q23 := q23.below hb); (try replace q24 := q24.below hb); (try replace m21 := m21.below hb); (try replace m23 := m23.below hb))
    | (go_at_call 15; (with_reducible refine (CN.out _).mono ?_); rintro e w9 ⟨rfl, hb⟩; replace b0 := b0.below hb; (try replace q8 := q8.below hb); (try replace q9 := q9.below hb); (try replace q17 := q17.below hb); (try replace q19 := q19.below hb); (try replace q21 := q21.below hb); (try replace q22 := q22.below hb); (try replace q23 := q23.below hb); (try replace q24 := q24.below hb); (try replace m21 := m21.below hb); (try replace m23 := m23.below hb)))
  go_upto_region 10 with (first
    | ((with_reducible refine wpList_id ?_); refine wpList_getB rfl _ _ rfl rfl q8 Try.underlying24 rfl (by rfl) ?_)
    | (go_at_call 16; (with_reducible refine (BA.out _ _ _ (Y8.out.below b0.out)).mono ?_); rintro e wd ⟨A31, n31, c31, rfl, m17, hb⟩; replace m17 := m17.base_le (Nat.zero_le _); replace b0 := b0.below hb; (try replace q8 := q8.below hb); (try replace q9 := q9.below hb); (try replace q17 := q17.below hb); (try replace q19 := q19.below hb); (try replace q21 := q21.below hb); (try replace q22 := q22.below hb); (try replace q23 := q23.below hb); (try replace q24 := q24.below hb); (try replace m21 := m21.below hb); (try replace m23 := m23.below hb); clear hb)
    | ((with_reducible refine wpList_id ?_); refine wpList_putB rfl _ _ _ rfl rfl rfl q17 (by rfl) (by rfl) (by rfl) ?_; intro w9 qn hg; replace b0 := b0.grown hg (by omega); (try replace m21 := m21.grownB q17 (by decide) hg); (try replace m23 := m23.grownB q17 (by decide) hg); (try replace m17 := m17.grownB q17 (by decide) hg); (try replace q8 := q8.grown hg (by omega)); (try replace q9 := q9.grown hg (by omega)); (try replace q19 := q19.grown hg (by omega)); (try replace q21 := q21.grown hg (by omega)); (try replace q22 := q22.grown hg (by omega)); (try replace q23 := q23.grown hg (by omega)); (try replace q24 := q24.grown hg (by omega)); clear hg q17; have q17 := qn; clear qn))
  go_upto_region 11 with (first
    | ((with_reducible refine wpList_id ?_); refine wpList_getB rfl _ _ rfl rfl q8 Try.underlying24 rfl (by rfl) ?_)
    | (go_at_call 17; (with_reducible refine (BB.out _ _ _ (Y8.out.below b0.out)).mono ?_); rintro e wd ⟨A33, n33, c33, rfl, m19, hb⟩; replace m19 := m19.base_le (Nat.zero_le _); replace b0 := b0.below hb; (try replace q8 := q8.below hb); (try replace q9 := q9.below hb); (try replace q17 := q17.below hb); (try replace q19 := q19.below hb); (try replace q21 := q21.below hb); (try replace q22 := q22.below hb); (try replace q23 := q23.below hb); (try replace q24 := q24.below hb); (try replace m21 := m21.below hb); (try replace m23 := m23.below hb); (try replace m17 := m17.below hb); clear hb)
    | ((with_reducible refine wpList_id ?_); refine wpList_putB rfl _ _ _ rfl rfl rfl q19 (by rfl) (by rfl) (by rfl) ?_; intro w9 qn hg; replace b0 := b0.grown hg (by omega); (try replace m21 := m21.grownB q19 (by decide) hg); (try replace m23 := m23.grownB q19 (by decide) hg); (try replace m17 := m17.grownB q19 (by decide) hg); (try replace m19 := m19.grownB q19 (by decide) hg); (try replace q8 := q8.grown hg (by omega)); (try replace q9 := q9.grown hg (by omega)); (try replace q17 := q17.grown hg (by omega)); (try replace q21 := q21.grown hg (by omega)); (try replace q22 := q22.grown hg (by omega)); (try replace q23 := q23.grown hg (by omega)); (try replace q24 := q24.grown hg (by omega)); clear hg q19; have q19 := qn; clear qn))
  go_upto_region 12 with (first
    | ((with_reducible refine wpList_id ?_); refine wpList_getB rfl _ _ rfl rfl q8 Try.underlying24 rfl (by rfl) ?_)
    | (go_at_call 18; (with_reducible refine (GI.out _ _ _ (Y8.out.below b0.out)).mono ?_); clear m21; rintro e wd ⟨A35, n35, c35, rfl, m21, hb⟩; replace m21 := m21.base_le (Nat.zero_le _); replace b0 := b0.below hb; (try replace q8 := q8.below hb); (try replace q9 := q9.below hb); (try replace q17 := q17.below hb); (try replace q19 := q19.below hb); (try replace q21 := q21.below hb); (try replace q22 := q22.below hb); (try replace q23 := q23.below hb); (try replace q24 := q24.below hb); (try replace m23 := m23.below hb); (try replace m17 := m17.below hb); (try replace m19 := m19.below hb); clear hb)
    | ((with_reducible refine wpList_id ?_); refine wpList_putB rfl _ _ _ rfl rfl rfl q21 (by rfl) (by rfl) (by rfl) ?_; intro w9 qn hg; replace b0 := b0.grown hg (by omega); (try replace m23 := m23.grownB q21 (by decide) hg); (try replace m17 := m17.grownB q21 (by decide) hg); (try replace m19 := m19.grownB q21 (by decide) hg); (try replace m21 := m21.grownB q21 (by decide) hg); (try replace q8 := q8.grown hg (by omega)); (try replace q9 := q9.grown hg (by omega)); (try replace q17 := q17.grown hg (by omega)); (try replace q19 := q19.grown hg (by omega)); (try replace q22 := q22.grown hg (by omega)); (try replace q23 := q23.grown hg (by omega)); (try replace q24 := q24.grown hg (by omega)); clear hg q21; have q21 := qn; clear qn))
  go_upto_region 13 with (first
    | ((with_reducible refine wpList_id ?_); refine wpList_getB rfl _ _ rfl rfl q8 Try.underlying24 rfl (by rfl) ?_)
    | (go_at_call 19; (with_reducible refine (GJ.out _ _ _ (Y8.out.below b0.out)).mono ?_); clear m23; rintro e wd ⟨A37, n37, c37, rfl, m23, hb⟩; replace m23 := m23.base_le (Nat.zero_le _); replace b0 := b0.below hb; (try replace q8 := q8.below hb); (try replace q9 := q9.below hb); (try replace q17 := q17.below hb); (try replace q19 := q19.below hb); (try replace q21 := q21.below hb); (try replace q22 := q22.below hb); (try replace q23 := q23.below hb); (try replace q24 := q24.below hb); (try replace m17 := m17.below hb); (try replace m19 := m19.below hb); (try replace m21 := m21.below hb); clear hb)
    | ((with_reducible refine wpList_id ?_); refine wpList_putB rfl _ _ _ rfl rfl rfl q23 (by rfl) (by rfl) (by rfl) ?_; intro w9 qn hg; replace b0 := b0.grown hg (by omega); (try replace m17 := m17.grownB q23 (by decide) hg); (try replace m19 := m19.grownB q23 (by decide) hg); (try replace m21 := m21.grownB q23 (by decide) hg); (try replace m23 := m23.grownB q23 (by decide) hg); (try replace q8 := q8.grown hg (by omega)); (try replace q9 := q9.grown hg (by omega)); (try replace q17 := q17.grown hg (by omega)); (try replace q19 := q19.grown hg (by omega)); (try replace q21 := q21.grown hg (by omega)); (try replace q22 := q22.grown hg (by omega)); (try replace q24 := q24.grown hg (by omega)); clear hg q23; have q23 := qn; clear qn))
  go_upto_region 15 with (first
    | ((with_reducible refine wpList_id ?_); refine wpList_getB rfl _ _ rfl rfl q17 Try.underlying24 rfl (by rfl) ?_)
    | ((with_reducible refine wpList_id ?_); refine wpList_getB rfl _ _ rfl rfl q19 Try.underlying24 rfl (by rfl) ?_)
    | ((with_reducible refine wpList_id ?_); refine wpList_getG (by rfl) _ _ rfl rfl q21 Try.underlying24 rfl (by rfl) ?_)
    | ((with_reducible refine wpList_id ?_); refine wpList_getG (by rfl) _ _ rfl rfl q23 Try.underlying24 rfl (by rfl) ?_)
    | (go_at_call 13; (with_reducible refine (SM.out bk _ _ _ _ _ _ _ m17.byt m19.byt).mono ?_); rintro e w9 ⟨rfl, hb⟩; replace b0 := b0.below hb; (try replace q8 := q8.below hb); (try replace q9 := q9.below hb); (try replace q17 := q17.below hb); (try replace q19 := q19.below hb); (try replace q21 := q21.below hb); (try replace q22 := q22.below hb); (try replace q23 := q23.below hb); (try replace q24 := q24.below hb); (try replace m17 := m17.below hb); (try replace m19 := m19.below hb); (try replace m21 := m21.below hb); (try replace m23 := m23.below hb))
    | (go_at_call 13; (with_reducible refine (SM.out gi _ _ _ _ _ _ _ m21.byt m23.byt).mono ?_); rintro e w9 ⟨rfl, hb⟩; replace b0 := b0.below hb; (try replace q8 := q8.below hb); (try replace q9 := q9.below hb); (try replace q17 := q17.below hb); (try replace q19 := q19.below hb); (try replace q21 := q21.below hb); (try replace q22 := q22.below hb); (try replace q23 := q23.below hb); (try replace q24 := q24.below hb); (try replace m17 := m17.below hb); (try replace m19 := m19.below hb); (try replace m21 := m21.below hb); (try replace m23 := m23.below hb)))
  go_upto_region 16 with (first
    | ((with_reducible refine wpList_id ?_); refine wpList_getB rfl _ _ rfl rfl q8 Try.underlying24 rfl (by rfl) ?_)
    | (go_at_call 20; (with_reducible refine (SH.out _ _ _ (Y8.out.below b0.out)).mono ?_); clear m17; rintro e wd ⟨A41, n41, c41, rfl, m17, hb⟩; replace m17 := m17.base_le (Nat.zero_le _); replace b0 := b0.below hb; (try replace q8 := q8.below hb); (try replace q9 := q9.below hb); (try replace q17 := q17.below hb); (try replace q19 := q19.below hb); (try replace q21 := q21.below hb); (try replace q22 := q22.below hb); (try replace q23 := q23.below hb); (try replace q24 := q24.below hb); (try replace m19 := m19.below hb); (try replace m21 := m21.below hb); (try replace m23 := m23.below hb); clear hb)
    | ((with_reducible refine wpList_id ?_); refine wpList_putB rfl _ _ _ rfl rfl rfl q17 (by rfl) (by rfl) (by rfl) ?_; intro w9 qn hg; replace b0 := b0.grown hg (by omega); (try replace m19 := m19.grownB q17 (by decide) hg); (try replace m21 := m21.grownB q17 (by decide) hg); (try replace m23 := m23.grownB q17 (by decide) hg); (try replace m17 := m17.grownB q17 (by decide) hg); (try replace q8 := q8.grown hg (by omega)); (try replace q9 := q9.grown hg (by omega)); (try replace q19 := q19.grown hg (by omega)); (try replace q21 := q21.grown hg (by omega)); (try replace q22 := q22.grown hg (by omega)); (try replace q23 := q23.grown hg (by omega)); (try replace q24 := q24.grown hg (by omega)); clear hg q17; have q17 := qn; clear qn))
  go_upto_region 17 with (first
    | ((with_reducible refine wpList_id ?_); refine wpList_getB rfl _ _ rfl rfl q8 Try.underlying24 rfl (by rfl) ?_)
    | (go_at_call 21; (with_reducible refine (SI.out _ _ _ (Y8.out.below b0.out)).mono ?_); clear m19; rintro e wd ⟨A43, n43, c43, rfl, m19, hb⟩; replace m19 := m19.base_le (Nat.zero_le _); replace b0 := b0.below hb; (try replace q8 := q8.below hb); (try replace q9 := q9.below hb); (try replace q17 := q17.below hb); (try replace q19 := q19.below hb); (try replace q21 := q21.below hb); (try replace q22 := q22.below hb); (try replace q23 := q23.below hb); (try replace q24 := q24.below hb); (try replace m21 := m21.below hb); (try replace m23 := m23.below hb); (try replace m17 := m17.below hb); clear hb)
    | ((with_reducible refine wpList_id ?_); refine wpList_putB rfl _ _ _ rfl rfl rfl q19 (by rfl) (by rfl) (by rfl) ?_; intro w9 qn hg; replace b0 := b0.grown hg (by omega); (try replace m21 := m21.grownB q19 (by decide) hg); (try replace m23 := m23.grownB q19 (by decide) hg); (try replace m17 := m17.grownB q19 (by decide) hg); (try replace m19 := m19.grownB q19 (by decide) hg); (try replace q8 := q8.grown hg (by omega)); (try replace q9 := q9.grown hg (by omega)); (try replace q17 := q17.grown hg (by omega)); (try replace q21 := q21.grown hg (by omega)); (try replace q22 := q22.grown hg (by omega)); (try replace q23 := q23.grown hg (by omega)); (try replace q24 := q24.grown hg (by omega)); clear hg q19; have q19 := qn; clear qn))
  go_upto_region 18 with (first
    | (go_at_call 22; (with_reducible refine (SN.out _).mono ?_); rintro e w9 ⟨rfl, hb⟩; replace b0 := b0.below hb; (try replace q8 := q8.below hb); (try replace q9 := q9.below hb); (try replace q17 := q17.below hb); (try replace q19 := q19.below hb); (try replace q21 := q21.below hb); (try replace q22 := q22.below hb); (try replace q23 := q23.below hb); (try replace q24 := q24.below hb); (try replace m21 := m21.below hb); (try replace m23 := m23.below hb); (try replace m17 := m17.below hb); (try replace m19 := m19.below hb)))
  go_upto_region 19 with (first
    | (go_at_call 23; (with_reducible refine (SO.out _).mono ?_); rintro e w9 ⟨rfl, hb⟩; replace b0 := b0.below hb; (try replace q8 := q8.below hb); (try replace q9 := q9.below hb); (try replace q17 := q17.below hb); (try replace q19 := q19.below hb); (try replace q21 := q21.below hb); (try replace q22 := q22.below hb); (try replace q23 := q23.below hb); (try replace q24 := q24.below hb); (try replace m21 := m21.below hb); (try replace m23 := m23.below hb); (try replace m17 := m17.below hb); (try replace m19 := m19.below hb)))
  clear q21 q22 q23 q24 m21 m23
  replace b0 := b0.drew
  replace q8 := q8.drew
  replace q9 := q9.drew
  replace q17 := q17.drew
  replace q19 := q19.drew
  replace m17 := m17.drew
  replace m19 := m19.drew
  refine wp_region_G (fun w' => (Blk w' W.heap.size 24 #[.int .i64 (s).id, .int .u8 (s).st, .int .i64 (s).sd, .int .i64 (s).rc, .int .i64 (s).ow, .bool (s).an, .bool (s).en, .slice A n c, .int .u8 (s).ur, .bool (s).inc, .int .i64 (s).sl] ∧ Blk w' w17.heap.size 24 #[.int .i64 (sh).id, .int .u8 (sh).st, .int .i64 (sh).sd, .int .i64 (sh).rc, .int .i64 (sh).ow, .bool (sh).an, .bool (sh).en, .slice A41 n41 c41, .int .u8 (sh).ur, .bool (sh).inc, .int .i64 (sh).sl]) ∧ Blk w' w19.heap.size 24 #[.int .i64 (sh).id, .int .u8 (sh).st, .int .i64 (sh).sd, .int .i64 (sh).rc, .int .i64 (sh).ow, .bool (sh).an, .bool (sh).en, .slice A43 n43 c43, .int .u8 (sh).ur, .bool (sh).inc, .int .i64 (sh).sl]) [] (by kernel_rfl) ?_
  have S0 := (And.intro (And.intro q8 q17) q19)
  refine wpAnyG_take 0 (v := .agg #[.int .i64 (sh).id, .int .u8 (sh).st, .int .i64 (sh).sd, .int .i64 (sh).rc, .int .i64 (sh).ow, .bool (sh).an, .bool (sh).en, .slice A41 n41 c41, .int .u8 (sh).ur, .bool (sh).inc, .int .i64 (sh).sl]) rfl (by kernel_rfl) (fun _ _ _ h => h) S0 (Or.inl ⟨by rfl, by intro w' hSw; exact exec_getB (by rfl) (by rfl) hSw.1.2 Try.underlying24 (by rfl) (by rfl)⟩) ?_; (try simp only [Act.put, List.getElem_toArray, List.getElem_cons_succ, List.getElem_cons_zero, List.setIfInBounds_toArray, List.set_cons_zero, List.set_cons_succ])
  refine wpAnyG_take 1 (v := .agg #[.int .i64 (sh).id, .int .u8 (sh).st, .int .i64 (sh).sd, .int .i64 (sh).rc, .int .i64 (sh).ow, .bool (sh).an, .bool (sh).en, .slice A43 n43 c43, .int .u8 (sh).ur, .bool (sh).inc, .int .i64 (sh).sl]) rfl (by kernel_rfl) (fun _ _ _ h => h) S0 (Or.inl ⟨by rfl, by intro w' hSw; exact exec_getB (by rfl) (by rfl) hSw.2 Try.underlying24 (by rfl) (by rfl)⟩) ?_; (try simp only [Act.put, List.getElem_toArray, List.getElem_cons_succ, List.getElem_cons_zero, List.setIfInBounds_toArray, List.set_cons_zero, List.set_cons_succ])
  clear S0
  refine wpAnyG_one 2 (by kernel_rfl) rfl (fun K hK => ?_)
  rw [if_pos (by rfl)]
  go_simp
  (with_reducible refine (SM.out sh _ _ _ _ _ _ _ m17.byt m19.byt).mono ?_)
  rintro e wr ⟨rfl, hb⟩
  replace b0 := b0.below hb
  replace q8 := q8.below hb
  replace q9 := q9.below hb
  replace q17 := q17.below hb
  replace q19 := q19.below hb
  replace m17 := m17.below hb
  replace m19 := m19.below hb
  clear hb
  (try go_simp)
  refine hK.out _ _ (fun _ => (And.intro (And.intro q8 q17) q19)) ?_
  clear hK K
  (try simp only [Act.put, List.getElem_toArray, List.getElem_cons_succ, List.getElem_cons_zero, List.setIfInBounds_toArray, List.set_cons_zero, List.set_cons_succ])
  have S0 := (And.intro (And.intro q8 q17) q19)
  refine wpAnyG_take 3 (v := ?_) rfl (by kernel_rfl) (fun _ _ _ h => h) S0 (Or.inl ⟨by rfl, by intro w' hSw; go_simp; try with_reducible rfl⟩) ?_; (try simp only [Act.put, List.getElem_toArray, List.getElem_cons_succ, List.getElem_cons_zero, List.setIfInBounds_toArray, List.set_cons_zero, List.set_cons_succ])
  refine wpAnyG_take 4 (v := ?_) rfl (by kernel_rfl) (fun _ _ _ h => h) S0 (Or.inl ⟨by rfl, by intro w' hSw; go_simp; try with_reducible rfl⟩) ?_; (try simp only [Act.put, List.getElem_toArray, List.getElem_cons_succ, List.getElem_cons_zero, List.setIfInBounds_toArray, List.set_cons_zero, List.set_cons_succ])
  refine wpAnyG_take 5 (v := ?_) rfl (by kernel_rfl) (fun _ _ _ h => h) S0 (Or.inl ⟨by rfl, by intro w' hSw; go_simp; try with_reducible rfl⟩) ?_; (try simp only [Act.put, List.getElem_toArray, List.getElem_cons_succ, List.getElem_cons_zero, List.setIfInBounds_toArray, List.set_cons_zero, List.set_cons_succ])
  refine wpAnyG_take 6 (v := ?_) rfl (by kernel_rfl) (fun _ _ _ h => h) S0 (Or.inl ⟨by rfl, by intro w' hSw; go_simp; try with_reducible rfl⟩) ?_; (try simp only [Act.put, List.getElem_toArray, List.getElem_cons_succ, List.getElem_cons_zero, List.setIfInBounds_toArray, List.set_cons_zero, List.set_cons_succ])
  refine wpAnyG_take 7 (v := ?_) rfl (by kernel_rfl) (fun _ _ _ h => h) S0 (Or.inl ⟨by rfl, by intro w' hSw; go_simp; try with_reducible rfl⟩) ?_; (try simp only [Act.put, List.getElem_toArray, List.getElem_cons_succ, List.getElem_cons_zero, List.setIfInBounds_toArray, List.set_cons_zero, List.set_cons_succ])
  refine wpAnyG_take 8 (v := ?_) rfl (by kernel_rfl) (fun _ _ _ h => h) S0 (Or.inl ⟨by rfl, by intro w' hSw; go_simp; try with_reducible rfl⟩) ?_; (try simp only [Act.put, List.getElem_toArray, List.getElem_cons_succ, List.getElem_cons_zero, List.setIfInBounds_toArray, List.set_cons_zero, List.set_cons_succ])
  refine wpAnyG_take 9 (v := ?_) rfl (by kernel_rfl) (fun _ _ _ h => h) S0 (Or.inl ⟨by rfl, by intro w' hSw; go_simp; try with_reducible rfl⟩) ?_; (try simp only [Act.put, List.getElem_toArray, List.getElem_cons_succ, List.getElem_cons_zero, List.setIfInBounds_toArray, List.set_cons_zero, List.set_cons_succ])
  refine wpAnyG_take 10 (v := ?_) rfl (by kernel_rfl) (fun _ _ _ h => h) S0 (Or.inl ⟨by rfl, by intro w' hSw; go_simp; try with_reducible rfl⟩) ?_; (try simp only [Act.put, List.getElem_toArray, List.getElem_cons_succ, List.getElem_cons_zero, List.setIfInBounds_toArray, List.set_cons_zero, List.set_cons_succ])
  refine wpAnyG_take 11 (v := ?_) rfl (by kernel_rfl) (fun _ _ _ h => h) S0 (Or.inl ⟨by rfl, by intro w' hSw; go_simp; try with_reducible rfl⟩) ?_; (try simp only [Act.put, List.getElem_toArray, List.getElem_cons_succ, List.getElem_cons_zero, List.setIfInBounds_toArray, List.set_cons_zero, List.set_cons_succ])
  refine wpAnyG_take 12 (v := ?_) rfl (by kernel_rfl) (fun _ _ _ h => h) S0 (Or.inl ⟨by rfl, by intro w' hSw; go_simp; try with_reducible rfl⟩) ?_; (try simp only [Act.put, List.getElem_toArray, List.getElem_cons_succ, List.getElem_cons_zero, List.setIfInBounds_toArray, List.set_cons_zero, List.set_cons_succ])
  refine wpAnyG_take 13 (v := ?_) rfl (by kernel_rfl) (fun _ _ _ h => h) S0 (Or.inl ⟨by rfl, by intro w' hSw; go_simp; try with_reducible rfl⟩) ?_; (try simp only [Act.put, List.getElem_toArray, List.getElem_cons_succ, List.getElem_cons_zero, List.setIfInBounds_toArray, List.set_cons_zero, List.set_cons_succ])
  refine wpAnyG_take 14 (v := ?_) rfl (by kernel_rfl) (fun _ _ _ h => h) S0 (Or.inl ⟨by rfl, by intro w' hSw; go_simp; try with_reducible rfl⟩) ?_; (try simp only [Act.put, List.getElem_toArray, List.getElem_cons_succ, List.getElem_cons_zero, List.setIfInBounds_toArray, List.set_cons_zero, List.set_cons_succ])
  refine wpAnyG_take 15 (v := ?_) rfl (by kernel_rfl) (fun _ _ _ h => h) S0 (Or.inl ⟨by rfl, by intro w' hSw; go_simp; try with_reducible rfl⟩) ?_; (try simp only [Act.put, List.getElem_toArray, List.getElem_cons_succ, List.getElem_cons_zero, List.setIfInBounds_toArray, List.set_cons_zero, List.set_cons_succ])
  refine wpAnyG_take 16 (v := ?_) rfl (by kernel_rfl) (fun _ _ _ h => h) S0 (Or.inl ⟨by rfl, by intro w' hSw; go_simp; try with_reducible rfl⟩) ?_; (try simp only [Act.put, List.getElem_toArray, List.getElem_cons_succ, List.getElem_cons_zero, List.setIfInBounds_toArray, List.set_cons_zero, List.set_cons_succ])
  refine wpAnyG_take 17 (v := ?_) rfl (by kernel_rfl) (fun _ _ _ h => h) S0 (Or.inl ⟨by rfl, by intro w' hSw; go_simp; try with_reducible rfl⟩) ?_; (try simp only [Act.put, List.getElem_toArray, List.getElem_cons_succ, List.getElem_cons_zero, List.setIfInBounds_toArray, List.set_cons_zero, List.set_cons_succ])
  refine wpAnyG_take 18 (v := ?_) rfl (by kernel_rfl) (fun _ _ _ h => h) S0 (Or.inl ⟨by rfl, by intro w' hSw; go_simp; try with_reducible rfl⟩) ?_; (try simp only [Act.put, List.getElem_toArray, List.getElem_cons_succ, List.getElem_cons_zero, List.setIfInBounds_toArray, List.set_cons_zero, List.set_cons_succ])
  refine wpAnyG_take 19 (v := ?_) rfl (by kernel_rfl) (fun _ _ _ h => h) S0 (Or.inl ⟨by rfl, by intro w' hSw; go_simp; try with_reducible rfl⟩) ?_; (try simp only [Act.put, List.getElem_toArray, List.getElem_cons_succ, List.getElem_cons_zero, List.setIfInBounds_toArray, List.set_cons_zero, List.set_cons_succ])
  refine wpAnyG_take 20 (v := .agg #[.int .i64 (s).id, .int .u8 (s).st, .int .i64 (s).sd, .int .i64 (s).rc, .int .i64 (s).ow, .bool (s).an, .bool (s).en, .slice A n c, .int .u8 (s).ur, .bool (s).inc, .int .i64 (s).sl]) rfl (by kernel_rfl) (fun _ _ _ h => h) S0 (Or.inl ⟨by rfl, by intro w' hSw; exact exec_getB (by rfl) (by rfl) hSw.1.1 Try.underlying24 (by rfl) (by rfl)⟩) ?_; (try simp only [Act.put, List.getElem_toArray, List.getElem_cons_succ, List.getElem_cons_zero, List.setIfInBounds_toArray, List.set_cons_zero, List.set_cons_succ])
  refine wpAnyG_take 21 (v := ?_) rfl (by kernel_rfl) (fun _ _ _ h => h) S0 (Or.inl ⟨by rfl, by intro w' hSw; go_simp; try with_reducible rfl⟩) ?_; (try simp only [Act.put, List.getElem_toArray, List.getElem_cons_succ, List.getElem_cons_zero, List.setIfInBounds_toArray, List.set_cons_zero, List.set_cons_succ])
  refine wpAnyG_take 23 (v := .agg #[.int .i64 (s).id, .int .u8 (s).st, .int .i64 (s).sd, .int .i64 (s).rc, .int .i64 (s).ow, .bool (s).an, .bool (s).en, .slice A n c, .int .u8 (s).ur, .bool (s).inc, .int .i64 (s).sl]) rfl (by kernel_rfl) (fun _ _ _ h => h) S0 (Or.inl ⟨by rfl, by intro w' hSw; exact exec_getB (by rfl) (by rfl) hSw.1.1 Try.underlying24 (by rfl) (by rfl)⟩) ?_; (try simp only [Act.put, List.getElem_toArray, List.getElem_cons_succ, List.getElem_cons_zero, List.setIfInBounds_toArray, List.set_cons_zero, List.set_cons_succ])
  refine wpAnyG_take 24 (v := ?_) rfl (by kernel_rfl) (fun _ _ _ h => h) S0 (Or.inl ⟨by rfl, by intro w' hSw; go_simp; try with_reducible rfl⟩) ?_; (try simp only [Act.put, List.getElem_toArray, List.getElem_cons_succ, List.getElem_cons_zero, List.setIfInBounds_toArray, List.set_cons_zero, List.set_cons_succ])
  clear S0
  refine wpAnyG_one 22 (by kernel_rfl) rfl (fun K hK => ?_)
  rw [if_pos (by rfl)]
  go_simp
  (with_reducible refine (OV.out _ _ _ (Y8.out.below b0.out)).mono ?_)
  rintro e wr ⟨A51, n51, c51, rfl, m51, hb⟩
  replace b0 := b0.below hb
  replace q8 := q8.below hb
  replace q9 := q9.below hb
  replace q17 := q17.below hb
  replace q19 := q19.below hb
  replace m17 := m17.below hb
  replace m19 := m19.below hb
  clear hb
  (try go_simp)
  refine hK.out _ _ (fun _ => (And.intro (And.intro q8 q17) q19)) ?_
  clear hK K
  (try simp only [Act.put, List.getElem_toArray, List.getElem_cons_succ, List.getElem_cons_zero, List.setIfInBounds_toArray, List.set_cons_zero, List.set_cons_succ])
  refine wpAnyG_one 25 (by kernel_rfl) rfl (fun K hK => ?_)
  rw [if_pos (by rfl)]
  go_simp
  (with_reducible refine (OX.out _ _ _ (Y8.out.below b0.out)).mono ?_)
  rintro e wr ⟨A53, n53, c53, rfl, m53, hb⟩
  replace b0 := b0.below hb
  replace q8 := q8.below hb
  replace q9 := q9.below hb
  replace q17 := q17.below hb
  replace q19 := q19.below hb
  replace m17 := m17.below hb
  replace m19 := m19.below hb
  replace m51 := m51.below hb
  clear hb
  (try go_simp)
  refine hK.out _ _ (fun _ => (And.intro (And.intro q8 q17) q19)) ?_
  clear hK K
  (try simp only [Act.put, List.getElem_toArray, List.getElem_cons_succ, List.getElem_cons_zero, List.setIfInBounds_toArray, List.set_cons_zero, List.set_cons_succ])
  refine wpAnyG_one 26 (by kernel_rfl) rfl (fun K hK => ?_)
  rw [if_pos (by rfl)]
  go_simp
  (with_reducible refine (SM.out ov _ _ _ _ _ _ _ m51.byt m53.byt).mono ?_)
  rintro e wr ⟨rfl, hb⟩
  replace b0 := b0.below hb
  replace q8 := q8.below hb
  replace q9 := q9.below hb
  replace q17 := q17.below hb
  replace q19 := q19.below hb
  replace m17 := m17.below hb
  replace m19 := m19.below hb
  clear hb m51 m53
  (try go_simp)
  refine hK.out _ _ (fun _ => (And.intro (And.intro q8 q17) q19)) ?_
  clear hK K
  (try simp only [Act.put, List.getElem_toArray, List.getElem_cons_succ, List.getElem_cons_zero, List.setIfInBounds_toArray, List.set_cons_zero, List.set_cons_succ])
  have S0 := (And.intro (And.intro q8 q17) q19)
  refine wpAnyG_take 27 (v := ?_) rfl (by kernel_rfl) (fun _ _ _ h => h) S0 (Or.inl ⟨by rfl, by intro w' hSw; go_simp; try with_reducible rfl⟩) ?_; (try simp only [Act.put, List.getElem_toArray, List.getElem_cons_succ, List.getElem_cons_zero, List.setIfInBounds_toArray, List.set_cons_zero, List.set_cons_succ])
  refine wpAnyG_take 28 (v := ?_) rfl (by kernel_rfl) (fun _ _ _ h => h) S0 (Or.inl ⟨by rfl, by intro w' hSw; go_simp; try with_reducible rfl⟩) ?_; (try simp only [Act.put, List.getElem_toArray, List.getElem_cons_succ, List.getElem_cons_zero, List.setIfInBounds_toArray, List.set_cons_zero, List.set_cons_succ])
  clear S0
  refine wpAnyG_done (by kernel_rfl) ?_ _
  go_upto_region 21 with fail
  clear q17 q19 m17 m19
  replace b0 := b0.drew
  replace q8 := q8.drew
  replace q9 := q9.drew
  refine wp_region_G (fun w' => Blk w' W.heap.size 24 #[.int .i64 (s).id, .int .u8 (s).st, .int .i64 (s).sd, .int .i64 (s).rc, .int .i64 (s).ow, .bool (s).an, .bool (s).en, .slice A n c, .int .u8 (s).ur, .bool (s).inc, .int .i64 (s).sl] ∧ Blk w' (W.heap.size + 1) 24 #[.int .i64 (o).id, .int .u8 (o).st, .int .i64 (o).sd, .int .i64 (o).rc, .int .i64 (o).ow, .bool (o).an, .bool (o).en, .slice A1 n1 c1, .int .u8 (o).ur, .bool (o).inc, .int .i64 (o).sl]) [] (by kernel_rfl) ?_
  have S0 := (And.intro q8 q9)
  refine wpAnyG_take 0 (v := ?_) rfl (by kernel_rfl) (fun _ _ _ h => h) S0 (Or.inl ⟨by rfl, by intro w' hSw; go_simp; try with_reducible rfl⟩) ?_; (try simp only [Act.put, List.getElem_toArray, List.getElem_cons_succ, List.getElem_cons_zero, List.setIfInBounds_toArray, List.set_cons_zero, List.set_cons_succ])
  refine wpAnyG_take 2 (v := ?_) rfl (by kernel_rfl) (fun _ _ _ h => h) S0 (Or.inl ⟨by rfl, by intro w' hSw; go_simp; try with_reducible rfl⟩) ?_; (try simp only [Act.put, List.getElem_toArray, List.getElem_cons_succ, List.getElem_cons_zero, List.setIfInBounds_toArray, List.set_cons_zero, List.set_cons_succ])
  clear S0
  refine wpAnyG_one 1 (by kernel_rfl) rfl (fun K hK => ?_)
  rw [if_pos (by rfl)]
  go_simp
  (with_reducible refine (LV.out _).mono ?_)
  rintro e wr ⟨rfl, rfl⟩
  (try go_simp)
  refine hK.out _ _ (fun _ => (And.intro q8 q9)) ?_
  clear hK K
  (try simp only [Act.put, List.getElem_toArray, List.getElem_cons_succ, List.getElem_cons_zero, List.setIfInBounds_toArray, List.set_cons_zero, List.set_cons_succ])
  refine wpAnyG_one 3 (by kernel_rfl) rfl (fun K hK => ?_)
  rw [if_pos (by rfl)]
  go_simp
  (with_reducible refine (LW.out _).mono ?_)
  rintro e wr ⟨rfl, rfl⟩
  (try go_simp)
  refine hK.out _ _ (fun _ => (And.intro q8 q9)) ?_
  clear hK K
  (try simp only [Act.put, List.getElem_toArray, List.getElem_cons_succ, List.getElem_cons_zero, List.setIfInBounds_toArray, List.set_cons_zero, List.set_cons_succ])
  have S0 := (And.intro q8 q9)
  refine wpAnyG_take 4 (v := ?_) rfl (by kernel_rfl) (fun _ _ _ h => h) S0 (Or.inl ⟨by rfl, by intro w' hSw; go_simp; try with_reducible rfl⟩) ?_; (try simp only [Act.put, List.getElem_toArray, List.getElem_cons_succ, List.getElem_cons_zero, List.setIfInBounds_toArray, List.set_cons_zero, List.set_cons_succ])
  refine wpAnyG_take 5 (v := ?_) rfl (by kernel_rfl) (fun _ _ _ h => h) S0 (Or.inl ⟨by rfl, by intro w' hSw; go_simp; try with_reducible rfl⟩) ?_; (try simp only [Act.put, List.getElem_toArray, List.getElem_cons_succ, List.getElem_cons_zero, List.setIfInBounds_toArray, List.set_cons_zero, List.set_cons_succ])
  refine wpAnyG_take 6 (v := ?_) rfl (by kernel_rfl) (fun _ _ _ h => h) S0 (Or.inl ⟨by rfl, by intro w' hSw; go_simp; try with_reducible rfl⟩) ?_; (try simp only [Act.put, List.getElem_toArray, List.getElem_cons_succ, List.getElem_cons_zero, List.setIfInBounds_toArray, List.set_cons_zero, List.set_cons_succ])
  refine wpAnyG_take 8 (v := ?_) rfl (by kernel_rfl) (fun _ _ _ h => h) S0 (Or.inl ⟨by rfl, by intro w' hSw; go_simp; try with_reducible rfl⟩) ?_; (try simp only [Act.put, List.getElem_toArray, List.getElem_cons_succ, List.getElem_cons_zero, List.setIfInBounds_toArray, List.set_cons_zero, List.set_cons_succ])
  clear S0
  refine wpAnyG_one 7 (by kernel_rfl) rfl (fun K hK => ?_)
  rw [if_pos (by rfl)]
  go_simp
  (with_reducible refine (AN.out _).mono ?_)
  rintro e wr ⟨rfl, rfl⟩
  (try go_simp)
  refine hK.out _ _ (fun _ => (And.intro q8 q9)) ?_
  clear hK K
  (try simp only [Act.put, List.getElem_toArray, List.getElem_cons_succ, List.getElem_cons_zero, List.setIfInBounds_toArray, List.set_cons_zero, List.set_cons_succ])
  refine wpAnyG_one 9 (by kernel_rfl) rfl (fun K hK => ?_)
  rw [if_pos (by rfl)]
  go_simp
  (with_reducible refine (AO.out _).mono ?_)
  rintro e wr ⟨rfl, rfl⟩
  (try go_simp)
  refine hK.out _ _ (fun _ => (And.intro q8 q9)) ?_
  clear hK K
  (try simp only [Act.put, List.getElem_toArray, List.getElem_cons_succ, List.getElem_cons_zero, List.setIfInBounds_toArray, List.set_cons_zero, List.set_cons_succ])
  have S0 := (And.intro q8 q9)
  refine wpAnyG_take 10 (v := ?_) rfl (by kernel_rfl) (fun _ _ _ h => h) S0 (Or.inl ⟨by rfl, by intro w' hSw; go_simp; try with_reducible rfl⟩) ?_; (try simp only [Act.put, List.getElem_toArray, List.getElem_cons_succ, List.getElem_cons_zero, List.setIfInBounds_toArray, List.set_cons_zero, List.set_cons_succ])
  refine wpAnyG_take 11 (v := ?_) rfl (by kernel_rfl) (fun _ _ _ h => h) S0 (Or.inl ⟨by rfl, by intro w' hSw; go_simp; try with_reducible rfl⟩) ?_; (try simp only [Act.put, List.getElem_toArray, List.getElem_cons_succ, List.getElem_cons_zero, List.setIfInBounds_toArray, List.set_cons_zero, List.set_cons_succ])
  refine wpAnyG_take 12 (v := ?_) rfl (by kernel_rfl) (fun _ _ _ h => h) S0 (Or.inl ⟨by rfl, by intro w' hSw; go_simp; try with_reducible rfl⟩) ?_; (try simp only [Act.put, List.getElem_toArray, List.getElem_cons_succ, List.getElem_cons_zero, List.setIfInBounds_toArray, List.set_cons_zero, List.set_cons_succ])
  refine wpAnyG_take 13 (v := .agg #[.int .i64 (s).id, .int .u8 (s).st, .int .i64 (s).sd, .int .i64 (s).rc, .int .i64 (s).ow, .bool (s).an, .bool (s).en, .slice A n c, .int .u8 (s).ur, .bool (s).inc, .int .i64 (s).sl]) rfl (by kernel_rfl) (fun _ _ _ h => h) S0 (Or.inl ⟨by rfl, by intro w' hSw; exact exec_getB (by rfl) (by rfl) hSw.1 Try.underlying24 (by rfl) (by rfl)⟩) ?_; (try simp only [Act.put, List.getElem_toArray, List.getElem_cons_succ, List.getElem_cons_zero, List.setIfInBounds_toArray, List.set_cons_zero, List.set_cons_succ])
  refine wpAnyG_take 15 (v := .agg #[.int .i64 (s).id, .int .u8 (s).st, .int .i64 (s).sd, .int .i64 (s).rc, .int .i64 (s).ow, .bool (s).an, .bool (s).en, .slice A n c, .int .u8 (s).ur, .bool (s).inc, .int .i64 (s).sl]) rfl (by kernel_rfl) (fun _ _ _ h => h) S0 (Or.inl ⟨by rfl, by intro w' hSw; exact exec_getB (by rfl) (by rfl) hSw.1 Try.underlying24 (by rfl) (by rfl)⟩) ?_; (try simp only [Act.put, List.getElem_toArray, List.getElem_cons_succ, List.getElem_cons_zero, List.setIfInBounds_toArray, List.set_cons_zero, List.set_cons_succ])
  clear S0
  refine wpAnyG_one 14 (by kernel_rfl) rfl (fun K hK => ?_)
  rw [if_pos (by rfl)]
  go_simp
  (with_reducible refine (RT.out _ _ _).mono ?_)
  rintro e wr ⟨rfl, hb⟩
  replace b0 := b0.below hb
  replace q8 := q8.below hb
  replace q9 := q9.below hb
  clear hb
  (try go_simp)
  refine hK.out _ _ (fun _ => (And.intro q8 q9)) ?_
  clear hK K
  (try simp only [Act.put, List.getElem_toArray, List.getElem_cons_succ, List.getElem_cons_zero, List.setIfInBounds_toArray, List.set_cons_zero, List.set_cons_succ])
  refine wpAnyG_one 16 (by kernel_rfl) rfl (fun K hK => ?_)
  rw [if_pos (by rfl)]
  go_simp
  (with_reducible refine (RU.out _ _ _).mono ?_)
  rintro e wr ⟨rfl, hb⟩
  replace b0 := b0.below hb
  replace q8 := q8.below hb
  replace q9 := q9.below hb
  clear hb
  (try go_simp)
  refine hK.out _ _ (fun _ => (And.intro q8 q9)) ?_
  clear hK K
  (try simp only [Act.put, List.getElem_toArray, List.getElem_cons_succ, List.getElem_cons_zero, List.setIfInBounds_toArray, List.set_cons_zero, List.set_cons_succ])
  have S0 := (And.intro q8 q9)
  refine wpAnyG_take 17 (v := ?_) rfl (by kernel_rfl) (fun _ _ _ h => h) S0 (Or.inl ⟨by rfl, by intro w' hSw; go_simp; try with_reducible rfl⟩) ?_; (try simp only [Act.put, List.getElem_toArray, List.getElem_cons_succ, List.getElem_cons_zero, List.setIfInBounds_toArray, List.set_cons_zero, List.set_cons_succ])
  refine wpAnyG_take 18 (v := ?_) rfl (by kernel_rfl) (fun _ _ _ h => h) S0 (Or.inl ⟨by rfl, by intro w' hSw; go_simp; try with_reducible rfl⟩) ?_; (try simp only [Act.put, List.getElem_toArray, List.getElem_cons_succ, List.getElem_cons_zero, List.setIfInBounds_toArray, List.set_cons_zero, List.set_cons_succ])
  refine wpAnyG_take 19 (v := ?_) rfl (by kernel_rfl) (fun _ _ _ h => h) S0 (Or.inl ⟨by rfl, by intro w' hSw; go_simp; try with_reducible rfl⟩) ?_; (try simp only [Act.put, List.getElem_toArray, List.getElem_cons_succ, List.getElem_cons_zero, List.setIfInBounds_toArray, List.set_cons_zero, List.set_cons_succ])
  refine wpAnyG_take 20 (v := .agg #[.int .i64 (s).id, .int .u8 (s).st, .int .i64 (s).sd, .int .i64 (s).rc, .int .i64 (s).ow, .bool (s).an, .bool (s).en, .slice A n c, .int .u8 (s).ur, .bool (s).inc, .int .i64 (s).sl]) rfl (by kernel_rfl) (fun _ _ _ h => h) S0 (Or.inl ⟨by rfl, by intro w' hSw; exact exec_getB (by rfl) (by rfl) hSw.1 Try.underlying24 (by rfl) (by rfl)⟩) ?_; (try simp only [Act.put, List.getElem_toArray, List.getElem_cons_succ, List.getElem_cons_zero, List.setIfInBounds_toArray, List.set_cons_zero, List.set_cons_succ])
  refine wpAnyG_take 21 (v := .agg #[.int .i64 (o).id, .int .u8 (o).st, .int .i64 (o).sd, .int .i64 (o).rc, .int .i64 (o).ow, .bool (o).an, .bool (o).en, .slice A1 n1 c1, .int .u8 (o).ur, .bool (o).inc, .int .i64 (o).sl]) rfl (by kernel_rfl) (fun _ _ _ h => h) S0 (Or.inl ⟨by rfl, by intro w' hSw; exact exec_getB (by rfl) (by rfl) hSw.2 Try.underlying24 (by rfl) (by rfl)⟩) ?_; (try simp only [Act.put, List.getElem_toArray, List.getElem_cons_succ, List.getElem_cons_zero, List.setIfInBounds_toArray, List.set_cons_zero, List.set_cons_succ])
  refine wpAnyG_take 23 (v := .agg #[.int .i64 (s).id, .int .u8 (s).st, .int .i64 (s).sd, .int .i64 (s).rc, .int .i64 (s).ow, .bool (s).an, .bool (s).en, .slice A n c, .int .u8 (s).ur, .bool (s).inc, .int .i64 (s).sl]) rfl (by kernel_rfl) (fun _ _ _ h => h) S0 (Or.inl ⟨by rfl, by intro w' hSw; exact exec_getB (by rfl) (by rfl) hSw.1 Try.underlying24 (by rfl) (by rfl)⟩) ?_; (try simp only [Act.put, List.getElem_toArray, List.getElem_cons_succ, List.getElem_cons_zero, List.setIfInBounds_toArray, List.set_cons_zero, List.set_cons_succ])
  refine wpAnyG_take 24 (v := .agg #[.int .i64 (o).id, .int .u8 (o).st, .int .i64 (o).sd, .int .i64 (o).rc, .int .i64 (o).ow, .bool (o).an, .bool (o).en, .slice A1 n1 c1, .int .u8 (o).ur, .bool (o).inc, .int .i64 (o).sl]) rfl (by kernel_rfl) (fun _ _ _ h => h) S0 (Or.inl ⟨by rfl, by intro w' hSw; exact exec_getB (by rfl) (by rfl) hSw.2 Try.underlying24 (by rfl) (by rfl)⟩) ?_; (try simp only [Act.put, List.getElem_toArray, List.getElem_cons_succ, List.getElem_cons_zero, List.setIfInBounds_toArray, List.set_cons_zero, List.set_cons_succ])
  clear S0
  refine wpAnyG_one 22 (by kernel_rfl) rfl (fun K hK => ?_)
  rw [if_pos (by rfl)]
  go_simp
  (with_reducible refine (SS.out _ _ _ _ _ (Y8.out.below b0.out) (Y9.out.below b0.out)).mono ?_)
  rintro e wr ⟨rfl, hb⟩
  replace b0 := b0.below hb
  replace q8 := q8.below hb
  replace q9 := q9.below hb
  clear hb
  (try go_simp)
  refine hK.out _ _ (fun _ => (And.intro q8 q9)) ?_
  clear hK K
  (try simp only [Act.put, List.getElem_toArray, List.getElem_cons_succ, List.getElem_cons_zero, List.setIfInBounds_toArray, List.set_cons_zero, List.set_cons_succ])
  refine wpAnyG_one 25 (by kernel_rfl) rfl (fun K hK => ?_)
  rw [if_pos (by rfl)]
  go_simp
  (with_reducible refine (SV.out _ _ _ _ _ (Y8.out.below b0.out) (Y9.out.below b0.out)).mono ?_)
  rintro e wr ⟨rfl, hb⟩
  replace b0 := b0.below hb
  replace q8 := q8.below hb
  replace q9 := q9.below hb
  clear hb
  (try go_simp)
  refine hK.out _ _ (fun _ => (And.intro q8 q9)) ?_
  clear hK K
  (try simp only [Act.put, List.getElem_toArray, List.getElem_cons_succ, List.getElem_cons_zero, List.setIfInBounds_toArray, List.set_cons_zero, List.set_cons_succ])
  have S0 := (And.intro q8 q9)
  refine wpAnyG_take 26 (v := ?_) rfl (by kernel_rfl) (fun _ _ _ h => h) S0 (Or.inl ⟨by rfl, by intro w' hSw; go_simp; try with_reducible rfl⟩) ?_; (try simp only [Act.put, List.getElem_toArray, List.getElem_cons_succ, List.getElem_cons_zero, List.setIfInBounds_toArray, List.set_cons_zero, List.set_cons_succ])
  refine wpAnyG_take 27 (v := ?_) rfl (by kernel_rfl) (fun _ _ _ h => h) S0 (Or.inl ⟨by rfl, by intro w' hSw; go_simp; try with_reducible rfl⟩) ?_; (try simp only [Act.put, List.getElem_toArray, List.getElem_cons_succ, List.getElem_cons_zero, List.setIfInBounds_toArray, List.set_cons_zero, List.set_cons_succ])
  refine wpAnyG_take 28 (v := ?_) rfl (by kernel_rfl) (fun _ _ _ h => h) S0 (Or.inl ⟨by rfl, by intro w' hSw; go_simp; try with_reducible rfl⟩) ?_; (try simp only [Act.put, List.getElem_toArray, List.getElem_cons_succ, List.getElem_cons_zero, List.setIfInBounds_toArray, List.set_cons_zero, List.set_cons_succ])
  refine wpAnyG_take 29 (v := .agg #[.int .i64 (s).id, .int .u8 (s).st, .int .i64 (s).sd, .int .i64 (s).rc, .int .i64 (s).ow, .bool (s).an, .bool (s).en, .slice A n c, .int .u8 (s).ur, .bool (s).inc, .int .i64 (s).sl]) rfl (by kernel_rfl) (fun _ _ _ h => h) S0 (Or.inl ⟨by rfl, by intro w' hSw; exact exec_getB (by rfl) (by rfl) hSw.1 Try.underlying24 (by rfl) (by rfl)⟩) ?_; (try simp only [Act.put, List.getElem_toArray, List.getElem_cons_succ, List.getElem_cons_zero, List.setIfInBounds_toArray, List.set_cons_zero, List.set_cons_succ])
  refine wpAnyG_take 31 (v := .agg #[.int .i64 (s).id, .int .u8 (s).st, .int .i64 (s).sd, .int .i64 (s).rc, .int .i64 (s).ow, .bool (s).an, .bool (s).en, .slice A n c, .int .u8 (s).ur, .bool (s).inc, .int .i64 (s).sl]) rfl (by kernel_rfl) (fun _ _ _ h => h) S0 (Or.inl ⟨by rfl, by intro w' hSw; exact exec_getB (by rfl) (by rfl) hSw.1 Try.underlying24 (by rfl) (by rfl)⟩) ?_; (try simp only [Act.put, List.getElem_toArray, List.getElem_cons_succ, List.getElem_cons_zero, List.setIfInBounds_toArray, List.set_cons_zero, List.set_cons_succ])
  clear S0
  refine wpAnyG_one 30 (by kernel_rfl) rfl (fun K hK => ?_)
  rw [if_pos (by rfl)]
  go_simp
  (with_reducible refine (OW.out _ _ _ (Y8.out.below b0.out)).mono ?_)
  rintro e wr ⟨A61, n61, c61, rfl, m61, hb⟩
  replace b0 := b0.below hb
  replace q8 := q8.below hb
  replace q9 := q9.below hb
  clear hb
  (try go_simp)
  refine hK.out _ _ (fun _ => (And.intro q8 q9)) ?_
  clear hK K
  (try simp only [Act.put, List.getElem_toArray, List.getElem_cons_succ, List.getElem_cons_zero, List.setIfInBounds_toArray, List.set_cons_zero, List.set_cons_succ])
  refine wpAnyG_one 32 (by kernel_rfl) rfl (fun K hK => ?_)
  rw [if_pos (by rfl)]
  go_simp
  (with_reducible refine (SM.out s _ _ _ _ _ _ _ m61.byt (Y8.out.below b0.out)).mono ?_)
  rintro e wr ⟨rfl, hb⟩
  replace b0 := b0.below hb
  replace q8 := q8.below hb
  replace q9 := q9.below hb
  clear hb m61
  (try go_simp)
  refine hK.out _ _ (fun _ => (And.intro q8 q9)) ?_
  clear hK K
  (try simp only [Act.put, List.getElem_toArray, List.getElem_cons_succ, List.getElem_cons_zero, List.setIfInBounds_toArray, List.set_cons_zero, List.set_cons_succ])
  have S0 := (And.intro q8 q9)
  refine wpAnyG_take 33 (v := ?_) rfl (by kernel_rfl) (fun _ _ _ h => h) S0 (Or.inl ⟨by rfl, by intro w' hSw; go_simp; try with_reducible rfl⟩) ?_; (try simp only [Act.put, List.getElem_toArray, List.getElem_cons_succ, List.getElem_cons_zero, List.setIfInBounds_toArray, List.set_cons_zero, List.set_cons_succ])
  refine wpAnyG_take 34 (v := ?_) rfl (by kernel_rfl) (fun _ _ _ h => h) S0 (Or.inl ⟨by rfl, by intro w' hSw; go_simp; try with_reducible rfl⟩) ?_; (try simp only [Act.put, List.getElem_toArray, List.getElem_cons_succ, List.getElem_cons_zero, List.setIfInBounds_toArray, List.set_cons_zero, List.set_cons_succ])
  clear S0
  refine wpAnyG_one 35 (by kernel_rfl) rfl (fun K hK => ?_)
  rw [if_pos (by rfl)]
  go_simp
  (with_reducible refine (fWakes _).mono ?_)
  rintro e wr ⟨rfl, hb⟩
  replace b0 := b0.below hb
  replace q8 := q8.below hb
  replace q9 := q9.below hb
  clear hb
  (try go_simp)
  refine hK.out _ _ (fun _ => (And.intro q8 q9)) ?_
  clear hK K
  (try simp only [Act.put, List.getElem_toArray, List.getElem_cons_succ, List.getElem_cons_zero, List.setIfInBounds_toArray, List.set_cons_zero, List.set_cons_succ])
  have S0 := (And.intro q8 q9)
  refine wpAnyG_take 36 (v := ?_) rfl (by kernel_rfl) (fun _ _ _ h => h) S0 (Or.inl ⟨by rfl, by intro w' hSw; go_simp; try with_reducible rfl⟩) ?_; (try simp only [Act.put, List.getElem_toArray, List.getElem_cons_succ, List.getElem_cons_zero, List.setIfInBounds_toArray, List.set_cons_zero, List.set_cons_succ])
  refine wpAnyG_take 37 (v := ?_) rfl (by kernel_rfl) (fun _ _ _ h => h) S0 (Or.inl ⟨by rfl, by intro w' hSw; go_simp; try with_reducible rfl⟩) ?_; (try simp only [Act.put, List.getElem_toArray, List.getElem_cons_succ, List.getElem_cons_zero, List.setIfInBounds_toArray, List.set_cons_zero, List.set_cons_succ])
  clear S0
  refine wpAnyG_done (by kernel_rfl) ?_ _
  go_wp2_with fail
  go_ret
  exact ⟨by simp, b0.out⟩
end Go.Proofs.Ytaaeflomjcpfpaa
