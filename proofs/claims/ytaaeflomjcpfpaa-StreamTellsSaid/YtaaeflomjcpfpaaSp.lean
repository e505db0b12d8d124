/- The statements' own wakes of streams returns true. -/
import Derived.Test.YtaaeflomjcpfpaaSn
import Derived.Test.YtaaeflomjcpfpaaSj
import Derived.Test.YtaaeflomjcpfpaaSz
namespace Go.Proofs.Ytaaeflomjcpfpaa
open Go.RowKit Go.Shelf
set_option linter.unusedVariables false
set_option linter.unusedSimpArgs false

theorem wk1 : newR 1 100 50 false = ⟨1, 1, 100, 50, 0, false, false, [], 3, false, -1⟩ := by decide
theorem wk2 : newE 1 100 50 false = 0 := by decide
theorem wk3 : newR 2 100 50 false = ⟨0, 0, 0, 0, 0, false, false, [], 0, false, 0⟩ := by decide
theorem wk4 : newE 2 100 50 false = 2 := by decide
theorem wk5 : dataS ⟨1, 1, 100, 50, 0, false, false, [], 3, false, -1⟩ 30 true = ⟨1, 2, 100, 20, 30, false, false, [], 3, false, -1⟩ := by decide
theorem wk6 : dataC ⟨1, 1, 100, 50, 0, false, false, [], 3, false, -1⟩ 30 true = ⟨2, true, false, 0⟩ := by decide
theorem wk7 : dataS ⟨1, 1, 100, 50, 0, false, false, [], 3, false, -1⟩ 51 false = ⟨1, 5, 100, 50, 0, false, false, [], 3, false, -1⟩ := by decide
theorem wk8 : dataC ⟨1, 1, 100, 50, 0, false, false, [], 3, false, -1⟩ 51 false = ⟨5, false, false, 3⟩ := by decide
theorem wk9 : backS ⟨1, 1, 100, 50, 0, false, false, [], 3, false, -1⟩ = ⟨1, 1, 100, 50, 0, false, false, [], 3, false, -1⟩ := by decide
theorem wk10 : backN ⟨1, 1, 100, 50, 0, false, false, [], 3, false, -1⟩ = 0 := by decide
theorem wk11 : comesF 2 1 false = ⟨5, false, false, 5⟩ := by decide
theorem wk12 : sendsF 2 0 true = (4, true) := by decide
theorem wk13 : sendsF 3 0 false = (3, false) := by decide
theorem wk14 : givS ⟨1, 1, 100, 50, 0, false, false, [], 3, false, -1⟩ 5 = ⟨1, 1, 105, 50, 0, false, false, [], 3, false, -1⟩ := by decide
theorem wk15 : givB ⟨1, 1, 100, 50, 0, false, false, [], 3, false, -1⟩ 5 = true := by decide
theorem wk16 : shfS ⟨1, 1, 100, 50, 0, false, false, [], 3, false, -1⟩ (-200) = ⟨1, 1, -100, 50, 0, false, false, [], 3, false, -1⟩ := by decide
theorem wk17 : shfB ⟨1, 1, 100, 50, 0, false, false, [], 3, false, -1⟩ (-200) = true := by decide
theorem wk18 : rightS ⟨1, 2, 100, 20, 30, false, false, [], 3, false, -1⟩ = true := by decide
theorem wk19 : overS ⟨1, 2, 100, 20, 30, false, false, [], 3, false, -1⟩ 6 = ⟨1, 6, 100, 20, 30, false, false, [], 3, false, -1⟩ := by decide
theorem wk20 : sameS ⟨1, 2, 100, 20, 30, false, false, [], 3, false, -1⟩ ⟨1, 1, 100, 50, 0, false, false, [], 3, false, -1⟩ = false := by decide
theorem wk21 : liveB 3 = true := by decide
theorem wk22 : ansB 3 = false := by decide
theorem okS0 : StrOk ⟨1, 1, 100, 50, 0, false, false, [], 3, false, -1⟩ := ⟨by simp, by simp, by simp, by simp, by simp, by simp, by simp, Bs.nil⟩
theorem okD1 : StrOk ⟨1, 2, 100, 20, 30, false, false, [], 3, false, -1⟩ := ⟨by simp, by simp, by simp, by simp, by simp, by simp, by simp, Bs.nil⟩
theorem Ret.bl {b : Bool} {w : World} {e : Ending} {w' : World} (h : Ret (.bool b) w e w') : BoolP b w e w' := ⟨h.1, by rw [← h.2]; exact Below.refl _ _⟩
noncomputable def wkOps : Array Oper := regOf Try.f8 107

set_option maxRecDepth 100000 in
set_option maxHeartbeats 2000000 in
theorem fWakes (W : World) : Calls Try.prog 8 #[] W fun e w' => e = .returned (.bool true) ∧ Below W.heap.size W w' := by
  have N1 := Lib.hid fun w => fNew 1 100 50 false (by simp) (by simp) (by simp) w
  rw [wk1, wk2] at N1
  have N2 := Lib.hid fun w => fNew 2 100 50 false (by simp) (by simp) (by simp) w
  rw [wk3, wk4] at N2
  have DA := Lib.hid fun w => fData ⟨1, 1, 100, 50, 0, false, false, [], 3, false, -1⟩ okS0 30 true (by simp) none 0 0 w (Byt.nil w) (by simp)
  rw [wk5, wk6] at DA
  have DB := Lib.hid fun w => fData ⟨1, 1, 100, 50, 0, false, false, [], 3, false, -1⟩ okS0 51 false (by simp) none 0 0 w (Byt.nil w) (by simp)
  rw [wk7, wk8] at DB
  have BK := Lib.hid fun w => fBack ⟨1, 1, 100, 50, 0, false, false, [], 3, false, -1⟩ okS0 none 0 0 w (Byt.nil w) (by simp)
  rw [wk9, wk10] at BK
  have CO := Lib.hid fun w => fComes 2 1 false (by simp) w
  rw [wk11] at CO
  have SA := Lib.hid fun w => fSends 2 0 true (by simp) w
  rw [wk12] at SA
  have SB := Lib.hid fun w => fSends 3 0 false (by simp) w
  rw [wk13] at SB
  have GI := Lib.hid fun w => fGive ⟨1, 1, 100, 50, 0, false, false, [], 3, false, -1⟩ okS0 5 (by simp) none 0 0 w (Byt.nil w) (by simp)
  rw [wk14, wk15] at GI
  have SH := Lib.hid fun w => fShift ⟨1, 1, 100, 50, 0, false, false, [], 3, false, -1⟩ okS0 (-200) (by simp) none 0 0 w (Byt.nil w) (by simp)
  rw [wk16, wk17] at SH
  have LI := Lib.hid fun w => fLive 3 (by simp) w
  rw [wk21] at LI
  have AN := Lib.hid fun w => fAnswers 3 (by simp) w
  rw [wk22] at AN
  have RT := Lib.hid fun (A : Option Addr) (c : Nat) w => fSRight ⟨1, 2, 100, 20, 30, false, false, [], 3, false, -1⟩ okD1 A 0 c w rfl (by simp)
  rw [wk18] at RT
  have OW := Lib.hid fun (A : Option Addr) (c : Nat) w (h : Byt w A 0 c []) => fSOwn ⟨1, 2, 100, 20, 30, false, false, [], 3, false, -1⟩ A 0 c w h (by simp)
  have OV := Lib.hid fun (A : Option Addr) (c : Nat) w (h : Byt w A 0 c []) => fOver ⟨1, 2, 100, 20, 30, false, false, [], 3, false, -1⟩ okD1 6 (by simp) A 0 c w h (by simp)
  rw [wk19] at OV
  have SM1 := Lib.hid fun (A : Option Addr) (c : Nat) w (h : Byt w A 0 c []) => fSSame ⟨1, 1, 100, 50, 0, false, false, [], 3, false, -1⟩ ⟨1, 1, 100, 50, 0, false, false, [], 3, false, -1⟩ A 0 c none 0 0 w h (Byt.nil w)
  rw [sameS_self] at SM1
  have SM2 := Lib.hid fun (A : Option Addr) (c : Nat) (B : Option Addr) (d : Nat) w (h : Byt w A 0 c []) (h2 : Byt w B 0 d []) => fSSame ⟨1, 2, 100, 20, 30, false, false, [], 3, false, -1⟩ ⟨1, 2, 100, 20, 30, false, false, [], 3, false, -1⟩ A 0 c B 0 d w h h2
  rw [sameS_self] at SM2
  have SM3 := Lib.hid fun (A : Option Addr) (c : Nat) w (h : Byt w A 0 c []) => fSSame ⟨1, 2, 100, 20, 30, false, false, [], 3, false, -1⟩ ⟨1, 1, 100, 50, 0, false, false, [], 3, false, -1⟩ A 0 c none 0 0 w h (Byt.nil w)
  rw [wk20] at SM3
  have hfl : ∀ (A : Option Addr) (n c : Nat) W, (Instr.field 24 (.agg #[.int .i64 1, .int .u8 6, .int .i64 100, .int .i64 20, .int .i64 30, .bool false, .bool false, .slice A n c, .int .u8 3, .bool false, .int .i64 (-1)]) 1).run Try.prog W = .ok (.int .u8 6) W := fun A n c W => by kernel_rfl
  have b0 := Bel.refl W
  go_enter Try.func8, Try.ntmps8
  go_wp2_with fail
  refine (N1.out _).mono ?_
  rintro e w1 ⟨rfl, hb⟩
  replace b0 := (b0).below hb
  replace b0 := b0.alloc (.cells #[.int .i64 1, .int .u8 1, .int .i64 100, .int .i64 50, .int .i64 0, .bool false, .bool false, .slice none 0 0, .int .u8 3, .bool false, .int .i64 (-1)] 24)
  have q1 := Blk.newAt (b := w1.heap.size) w1 24 #[.int .i64 1, .int .u8 1, .int .i64 100, .int .i64 50, .int .i64 0, .bool false, .bool false, .slice none 0 0, .int .u8 3, .bool false, .int .i64 (-1)] rfl
  clear hb
  go_wp2_with (first | ((with_reducible refine wpList_id ?_); refine wpList_getB rfl _ _ rfl rfl q1 Try.underlying24 rfl (by rfl) ?_))
  refine (N2.out _).mono ?_
  rintro e w2 ⟨rfl, hb⟩
  replace b0 := (b0).below hb; replace q1 := (q1).below hb
  replace b0 := b0.alloc (.cells #[.int .i64 0, .int .u8 0, .int .i64 0, .int .i64 0, .int .i64 0, .bool false, .bool false, .slice none 0 0, .int .u8 0, .bool false, .int .i64 0] 24)
  replace q1 := q1.alloc (.cells #[.int .i64 0, .int .u8 0, .int .i64 0, .int .i64 0, .int .i64 0, .bool false, .bool false, .slice none 0 0, .int .u8 0, .bool false, .int .i64 0] 24)
  have q3 := Blk.newAt (b := w2.heap.size) w2 24 #[.int .i64 0, .int .u8 0, .int .i64 0, .int .i64 0, .int .i64 0, .bool false, .bool false, .slice none 0 0, .int .u8 0, .bool false, .int .i64 0] rfl
  clear hb
  go_wp2_with (first | ((with_reducible refine wpList_id ?_); refine wpList_getB rfl _ _ rfl rfl q1 Try.underlying24 rfl (by rfl) ?_) | ((with_reducible refine wpList_id ?_); refine wpList_getB rfl _ _ rfl rfl q3 Try.underlying24 rfl (by rfl) ?_))
  refine (DA.out _).mono ?_
  rintro e w3 ⟨A5, n5, c5, rfl, m5, hb⟩
  replace b0 := (b0).below hb; replace q1 := (q1).below hb; replace q3 := (q3).below hb
  obtain rfl : n5 = 0 := by have h := m5.len; simpa using h.symm
  replace b0 := b0.alloc (.cells #[.int .i64 1, .int .u8 2, .int .i64 100, .int .i64 20, .int .i64 30, .bool false, .bool false, .slice A5 0 c5, .int .u8 3, .bool false, .int .i64 (-1)] 24)
  replace q1 := q1.alloc (.cells #[.int .i64 1, .int .u8 2, .int .i64 100, .int .i64 20, .int .i64 30, .bool false, .bool false, .slice A5 0 c5, .int .u8 3, .bool false, .int .i64 (-1)] 24)
  replace q3 := q3.alloc (.cells #[.int .i64 1, .int .u8 2, .int .i64 100, .int .i64 20, .int .i64 30, .bool false, .bool false, .slice A5 0 c5, .int .u8 3, .bool false, .int .i64 (-1)] 24)
  replace m5 := m5.alloc (.cells #[.int .i64 1, .int .u8 2, .int .i64 100, .int .i64 20, .int .i64 30, .bool false, .bool false, .slice A5 0 c5, .int .u8 3, .bool false, .int .i64 (-1)] 24)
  have q5 := Blk.newAt (b := w3.heap.size) w3 24 #[.int .i64 1, .int .u8 2, .int .i64 100, .int .i64 20, .int .i64 30, .bool false, .bool false, .slice A5 0 c5, .int .u8 3, .bool false, .int .i64 (-1)] rfl
  replace b0 := b0.alloc (.cells #[.int .u8 2, .bool true, .bool false, .int .u32 0] 32)
  replace q1 := q1.alloc (.cells #[.int .u8 2, .bool true, .bool false, .int .u32 0] 32)
  replace q3 := q3.alloc (.cells #[.int .u8 2, .bool true, .bool false, .int .u32 0] 32)
  replace m5 := m5.alloc (.cells #[.int .u8 2, .bool true, .bool false, .int .u32 0] 32)
  replace q5 := q5.alloc (.cells #[.int .u8 2, .bool true, .bool false, .int .u32 0] 32)
  have q6 := Blk.newAt (b := w3.heap.size + 1) (w3.alloc (.cells #[.int .i64 1, .int .u8 2, .int .i64 100, .int .i64 20, .int .i64 30, .bool false, .bool false, .slice A5 0 c5, .int .u8 3, .bool false, .int .i64 (-1)] 24)) 32 #[.int .u8 2, .bool true, .bool false, .int .u32 0] (by simp)
  clear hb
  go_wp2_with (first | ((with_reducible refine wpList_id ?_); refine wpList_getB rfl _ _ rfl rfl q1 Try.underlying24 rfl (by rfl) ?_) | ((with_reducible refine wpList_id ?_); refine wpList_getB rfl _ _ rfl rfl q3 Try.underlying24 rfl (by rfl) ?_) | ((with_reducible refine wpList_id ?_); refine wpList_getB rfl _ _ rfl rfl q5 Try.underlying24 rfl (by rfl) ?_) | ((with_reducible refine wpList_id ?_); refine wpList_getB rfl _ _ rfl rfl q6 Try.underlying32 rfl (by rfl) ?_))
  refine (DB.out _).mono ?_
  rintro e w4 ⟨A7, n7, c7, rfl, m7, hb⟩
  replace b0 := (b0).below hb; replace q1 := (q1).below hb; replace q3 := (q3).below hb; replace m5 := (m5).below hb; replace q5 := (q5).below hb; replace q6 := (q6).below hb
  obtain rfl : n7 = 0 := by have h := m7.len; simpa using h.symm
  replace b0 := b0.alloc (.cells #[.int .i64 1, .int .u8 5, .int .i64 100, .int .i64 50, .int .i64 0, .bool false, .bool false, .slice A7 0 c7, .int .u8 3, .bool false, .int .i64 (-1)] 24)
  replace q1 := q1.alloc (.cells #[.int .i64 1, .int .u8 5, .int .i64 100, .int .i64 50, .int .i64 0, .bool false, .bool false, .slice A7 0 c7, .int .u8 3, .bool false, .int .i64 (-1)] 24)
  replace q3 := q3.alloc (.cells #[.int .i64 1, .int .u8 5, .int .i64 100, .int .i64 50, .int .i64 0, .bool false, .bool false, .slice A7 0 c7, .int .u8 3, .bool false, .int .i64 (-1)] 24)
  replace m5 := m5.alloc (.cells #[.int .i64 1, .int .u8 5, .int .i64 100, .int .i64 50, .int .i64 0, .bool false, .bool false, .slice A7 0 c7, .int .u8 3, .bool false, .int .i64 (-1)] 24)
  replace q5 := q5.alloc (.cells #[.int .i64 1, .int .u8 5, .int .i64 100, .int .i64 50, .int .i64 0, .bool false, .bool false, .slice A7 0 c7, .int .u8 3, .bool false, .int .i64 (-1)] 24)
  replace q6 := q6.alloc (.cells #[.int .i64 1, .int .u8 5, .int .i64 100, .int .i64 50, .int .i64 0, .bool false, .bool false, .slice A7 0 c7, .int .u8 3, .bool false, .int .i64 (-1)] 24)
  replace m7 := m7.alloc (.cells #[.int .i64 1, .int .u8 5, .int .i64 100, .int .i64 50, .int .i64 0, .bool false, .bool false, .slice A7 0 c7, .int .u8 3, .bool false, .int .i64 (-1)] 24)
  have q7 := Blk.newAt (b := w4.heap.size) w4 24 #[.int .i64 1, .int .u8 5, .int .i64 100, .int .i64 50, .int .i64 0, .bool false, .bool false, .slice A7 0 c7, .int .u8 3, .bool false, .int .i64 (-1)] rfl
  replace b0 := b0.alloc (.cells #[.int .u8 5, .bool false, .bool false, .int .u32 3] 32)
  replace q1 := q1.alloc (.cells #[.int .u8 5, .bool false, .bool false, .int .u32 3] 32)
  replace q3 := q3.alloc (.cells #[.int .u8 5, .bool false, .bool false, .int .u32 3] 32)
  replace m5 := m5.alloc (.cells #[.int .u8 5, .bool false, .bool false, .int .u32 3] 32)
  replace q5 := q5.alloc (.cells #[.int .u8 5, .bool false, .bool false, .int .u32 3] 32)
  replace q6 := q6.alloc (.cells #[.int .u8 5, .bool false, .bool false, .int .u32 3] 32)
  replace m7 := m7.alloc (.cells #[.int .u8 5, .bool false, .bool false, .int .u32 3] 32)
  replace q7 := q7.alloc (.cells #[.int .u8 5, .bool false, .bool false, .int .u32 3] 32)
  have q8 := Blk.newAt (b := w4.heap.size + 1) (w4.alloc (.cells #[.int .i64 1, .int .u8 5, .int .i64 100, .int .i64 50, .int .i64 0, .bool false, .bool false, .slice A7 0 c7, .int .u8 3, .bool false, .int .i64 (-1)] 24)) 32 #[.int .u8 5, .bool false, .bool false, .int .u32 3] (by simp)
  clear hb
  go_wp2_with (first | ((with_reducible refine wpList_id ?_); refine wpList_getB rfl _ _ rfl rfl q1 Try.underlying24 rfl (by rfl) ?_) | ((with_reducible refine wpList_id ?_); refine wpList_getB rfl _ _ rfl rfl q3 Try.underlying24 rfl (by rfl) ?_) | ((with_reducible refine wpList_id ?_); refine wpList_getB rfl _ _ rfl rfl q5 Try.underlying24 rfl (by rfl) ?_) | ((with_reducible refine wpList_id ?_); refine wpList_getB rfl _ _ rfl rfl q6 Try.underlying32 rfl (by rfl) ?_) | ((with_reducible refine wpList_id ?_); refine wpList_getB rfl _ _ rfl rfl q7 Try.underlying24 rfl (by rfl) ?_) | ((with_reducible refine wpList_id ?_); refine wpList_getB rfl _ _ rfl rfl q8 Try.underlying32 rfl (by rfl) ?_))
  refine (BK.out _).mono ?_
  rintro e w5 ⟨A9, n9, c9, rfl, m9, hb⟩
  replace b0 := (b0).below hb; replace q1 := (q1).below hb; replace q3 := (q3).below hb; replace m5 := (m5).below hb; replace q5 := (q5).below hb; replace q6 := (q6).below hb; replace m7 := (m7).below hb; replace q7 := (q7).below hb; replace q8 := (q8).below hb
  obtain rfl : n9 = 0 := by have h := m9.len; simpa using h.symm
  replace b0 := b0.alloc (.cells #[.int .i64 1, .int .u8 1, .int .i64 100, .int .i64 50, .int .i64 0, .bool false, .bool false, .slice A9 0 c9, .int .u8 3, .bool false, .int .i64 (-1)] 24)
  replace q1 := q1.alloc (.cells #[.int .i64 1, .int .u8 1, .int .i64 100, .int .i64 50, .int .i64 0, .bool false, .bool false, .slice A9 0 c9, .int .u8 3, .bool false, .int .i64 (-1)] 24)
  replace q3 := q3.alloc (.cells #[.int .i64 1, .int .u8 1, .int .i64 100, .int .i64 50, .int .i64 0, .bool false, .bool false, .slice A9 0 c9, .int .u8 3, .bool false, .int .i64 (-1)] 24)
  replace m5 := m5.alloc (.cells #[.int .i64 1, .int .u8 1, .int .i64 100, .int .i64 50, .int .i64 0, .bool false, .bool false, .slice A9 0 c9, .int .u8 3, .bool false, .int .i64 (-1)] 24)
  replace q5 := q5.alloc (.cells #[.int .i64 1, .int .u8 1, .int .i64 100, .int .i64 50, .int .i64 0, .bool false, .bool false, .slice A9 0 c9, .int .u8 3, .bool false, .int .i64 (-1)] 24)
  replace q6 := q6.alloc (.cells #[.int .i64 1, .int .u8 1, .int .i64 100, .int .i64 50, .int .i64 0, .bool false, .bool false, .slice A9 0 c9, .int .u8 3, .bool false, .int .i64 (-1)] 24)
  replace m7 := m7.alloc (.cells #[.int .i64 1, .int .u8 1, .int .i64 100, .int .i64 50, .int .i64 0, .bool false, .bool false, .slice A9 0 c9, .int .u8 3, .bool false, .int .i64 (-1)] 24)
  replace q7 := q7.alloc (.cells #[.int .i64 1, .int .u8 1, .int .i64 100, .int .i64 50, .int .i64 0, .bool false, .bool false, .slice A9 0 c9, .int .u8 3, .bool false, .int .i64 (-1)] 24)
  replace q8 := q8.alloc (.cells #[.int .i64 1, .int .u8 1, .int .i64 100, .int .i64 50, .int .i64 0, .bool false, .bool false, .slice A9 0 c9, .int .u8 3, .bool false, .int .i64 (-1)] 24)
  replace m9 := m9.alloc (.cells #[.int .i64 1, .int .u8 1, .int .i64 100, .int .i64 50, .int .i64 0, .bool false, .bool false, .slice A9 0 c9, .int .u8 3, .bool false, .int .i64 (-1)] 24)
  have q9 := Blk.newAt (b := w5.heap.size) w5 24 #[.int .i64 1, .int .u8 1, .int .i64 100, .int .i64 50, .int .i64 0, .bool false, .bool false, .slice A9 0 c9, .int .u8 3, .bool false, .int .i64 (-1)] rfl
  clear hb
  go_wp2_with (first | ((with_reducible refine wpList_id ?_); refine wpList_getB rfl _ _ rfl rfl q1 Try.underlying24 rfl (by rfl) ?_) | ((with_reducible refine wpList_id ?_); refine wpList_getB rfl _ _ rfl rfl q3 Try.underlying24 rfl (by rfl) ?_) | ((with_reducible refine wpList_id ?_); refine wpList_getB rfl _ _ rfl rfl q5 Try.underlying24 rfl (by rfl) ?_) | ((with_reducible refine wpList_id ?_); refine wpList_getB rfl _ _ rfl rfl q6 Try.underlying32 rfl (by rfl) ?_) | ((with_reducible refine wpList_id ?_); refine wpList_getB rfl _ _ rfl rfl q7 Try.underlying24 rfl (by rfl) ?_) | ((with_reducible refine wpList_id ?_); refine wpList_getB rfl _ _ rfl rfl q8 Try.underlying32 rfl (by rfl) ?_) | ((with_reducible refine wpList_id ?_); refine wpList_getB rfl _ _ rfl rfl q9 Try.underlying24 rfl (by rfl) ?_))
  refine (CO.out _).mono ?_
  rintro e w6 ⟨rfl, hb⟩
  replace b0 := (b0).below hb; replace q1 := (q1).below hb; replace q3 := (q3).below hb; replace m5 := (m5).below hb; replace q5 := (q5).below hb; replace q6 := (q6).below hb; replace m7 := (m7).below hb; replace q7 := (q7).below hb; replace q8 := (q8).below hb; replace m9 := (m9).below hb; replace q9 := (q9).below hb
  replace b0 := b0.alloc (.cells #[.int .u8 5, .bool false, .bool false, .int .u32 5] 32)
  replace q1 := q1.alloc (.cells #[.int .u8 5, .bool false, .bool false, .int .u32 5] 32)
  replace q3 := q3.alloc (.cells #[.int .u8 5, .bool false, .bool false, .int .u32 5] 32)
  replace m5 := m5.alloc (.cells #[.int .u8 5, .bool false, .bool false, .int .u32 5] 32)
  replace q5 := q5.alloc (.cells #[.int .u8 5, .bool false, .bool false, .int .u32 5] 32)
  replace q6 := q6.alloc (.cells #[.int .u8 5, .bool false, .bool false, .int .u32 5] 32)
  replace m7 := m7.alloc (.cells #[.int .u8 5, .bool false, .bool false, .int .u32 5] 32)
  replace q7 := q7.alloc (.cells #[.int .u8 5, .bool false, .bool false, .int .u32 5] 32)
  replace q8 := q8.alloc (.cells #[.int .u8 5, .bool false, .bool false, .int .u32 5] 32)
  replace m9 := m9.alloc (.cells #[.int .u8 5, .bool false, .bool false, .int .u32 5] 32)
  replace q9 := q9.alloc (.cells #[.int .u8 5, .bool false, .bool false, .int .u32 5] 32)
  have q11 := Blk.newAt (b := w6.heap.size) w6 32 #[.int .u8 5, .bool false, .bool false, .int .u32 5] rfl
  clear hb
  go_wp2_with (first | ((with_reducible refine wpList_id ?_); refine wpList_getB rfl _ _ rfl rfl q1 Try.underlying24 rfl (by rfl) ?_) | ((with_reducible refine wpList_id ?_); refine wpList_getB rfl _ _ rfl rfl q3 Try.underlying24 rfl (by rfl) ?_) | ((with_reducible refine wpList_id ?_); refine wpList_getB rfl _ _ rfl rfl q5 Try.underlying24 rfl (by rfl) ?_) | ((with_reducible refine wpList_id ?_); refine wpList_getB rfl _ _ rfl rfl q6 Try.underlying32 rfl (by rfl) ?_) | ((with_reducible refine wpList_id ?_); refine wpList_getB rfl _ _ rfl rfl q7 Try.underlying24 rfl (by rfl) ?_) | ((with_reducible refine wpList_id ?_); refine wpList_getB rfl _ _ rfl rfl q8 Try.underlying32 rfl (by rfl) ?_) | ((with_reducible refine wpList_id ?_); refine wpList_getB rfl _ _ rfl rfl q9 Try.underlying24 rfl (by rfl) ?_) | ((with_reducible refine wpList_id ?_); refine wpList_getB rfl _ _ rfl rfl q11 Try.underlying32 rfl (by rfl) ?_))
  refine (SA.out _).mono ?_
  rintro e w7 ⟨rfl, hb⟩
  replace b0 := (b0).below hb; replace q1 := (q1).below hb; replace q3 := (q3).below hb; replace m5 := (m5).below hb; replace q5 := (q5).below hb; replace q6 := (q6).below hb; replace m7 := (m7).below hb; replace q7 := (q7).below hb; replace q8 := (q8).below hb; replace m9 := (m9).below hb; replace q9 := (q9).below hb; replace q11 := (q11).below hb
  clear hb
  go_wp2_with (first | ((with_reducible refine wpList_id ?_); refine wpList_getB rfl _ _ rfl rfl q1 Try.underlying24 rfl (by rfl) ?_) | ((with_reducible refine wpList_id ?_); refine wpList_getB rfl _ _ rfl rfl q3 Try.underlying24 rfl (by rfl) ?_) | ((with_reducible refine wpList_id ?_); refine wpList_getB rfl _ _ rfl rfl q5 Try.underlying24 rfl (by rfl) ?_) | ((with_reducible refine wpList_id ?_); refine wpList_getB rfl _ _ rfl rfl q6 Try.underlying32 rfl (by rfl) ?_) | ((with_reducible refine wpList_id ?_); refine wpList_getB rfl _ _ rfl rfl q7 Try.underlying24 rfl (by rfl) ?_) | ((with_reducible refine wpList_id ?_); refine wpList_getB rfl _ _ rfl rfl q8 Try.underlying32 rfl (by rfl) ?_) | ((with_reducible refine wpList_id ?_); refine wpList_getB rfl _ _ rfl rfl q9 Try.underlying24 rfl (by rfl) ?_) | ((with_reducible refine wpList_id ?_); refine wpList_getB rfl _ _ rfl rfl q11 Try.underlying32 rfl (by rfl) ?_))
  refine (SB.out _).mono ?_
  rintro e w8 ⟨rfl, hb⟩
  replace b0 := (b0).below hb; replace q1 := (q1).below hb; replace q3 := (q3).below hb; replace m5 := (m5).below hb; replace q5 := (q5).below hb; replace q6 := (q6).below hb; replace m7 := (m7).below hb; replace q7 := (q7).below hb; replace q8 := (q8).below hb; replace m9 := (m9).below hb; replace q9 := (q9).below hb; replace q11 := (q11).below hb
  clear hb
  go_wp2_with (first | ((with_reducible refine wpList_id ?_); refine wpList_getB rfl _ _ rfl rfl q1 Try.underlying24 rfl (by rfl) ?_) | ((with_reducible refine wpList_id ?_); refine wpList_getB rfl _ _ rfl rfl q3 Try.underlying24 rfl (by rfl) ?_) | ((with_reducible refine wpList_id ?_); refine wpList_getB rfl _ _ rfl rfl q5 Try.underlying24 rfl (by rfl) ?_) | ((with_reducible refine wpList_id ?_); refine wpList_getB rfl _ _ rfl rfl q6 Try.underlying32 rfl (by rfl) ?_) | ((with_reducible refine wpList_id ?_); refine wpList_getB rfl _ _ rfl rfl q7 Try.underlying24 rfl (by rfl) ?_) | ((with_reducible refine wpList_id ?_); refine wpList_getB rfl _ _ rfl rfl q8 Try.underlying32 rfl (by rfl) ?_) | ((with_reducible refine wpList_id ?_); refine wpList_getB rfl _ _ rfl rfl q9 Try.underlying24 rfl (by rfl) ?_) | ((with_reducible refine wpList_id ?_); refine wpList_getB rfl _ _ rfl rfl q11 Try.underlying32 rfl (by rfl) ?_))
  refine (GI.out _).mono ?_
  rintro e w10 ⟨A16, n16, c16, rfl, m16, hb⟩
  replace b0 := (b0).below hb; replace q1 := (q1).below hb; replace q3 := (q3).below hb; replace m5 := (m5).below hb; replace q5 := (q5).below hb; replace q6 := (q6).below hb; replace m7 := (m7).below hb; replace q7 := (q7).below hb; replace q8 := (q8).below hb; replace m9 := (m9).below hb; replace q9 := (q9).below hb; replace q11 := (q11).below hb
  obtain rfl : n16 = 0 := by have h := m16.len; simpa using h.symm
  replace b0 := b0.alloc (.cells #[.int .i64 1, .int .u8 1, .int .i64 105, .int .i64 50, .int .i64 0, .bool false, .bool false, .slice A16 0 c16, .int .u8 3, .bool false, .int .i64 (-1)] 24)
  replace q1 := q1.alloc (.cells #[.int .i64 1, .int .u8 1, .int .i64 105, .int .i64 50, .int .i64 0, .bool false, .bool false, .slice A16 0 c16, .int .u8 3, .bool false, .int .i64 (-1)] 24)
  replace q3 := q3.alloc (.cells #[.int .i64 1, .int .u8 1, .int .i64 105, .int .i64 50, .int .i64 0, .bool false, .bool false, .slice A16 0 c16, .int .u8 3, .bool false, .int .i64 (-1)] 24)
  replace m5 := m5.alloc (.cells #[.int .i64 1, .int .u8 1, .int .i64 105, .int .i64 50, .int .i64 0, .bool false, .bool false, .slice A16 0 c16, .int .u8 3, .bool false, .int .i64 (-1)] 24)
  replace q5 := q5.alloc (.cells #[.int .i64 1, .int .u8 1, .int .i64 105, .int .i64 50, .int .i64 0, .bool false, .bool false, .slice A16 0 c16, .int .u8 3, .bool false, .int .i64 (-1)] 24)
  replace q6 := q6.alloc (.cells #[.int .i64 1, .int .u8 1, .int .i64 105, .int .i64 50, .int .i64 0, .bool false, .bool false, .slice A16 0 c16, .int .u8 3, .bool false, .int .i64 (-1)] 24)
  replace m7 := m7.alloc (.cells #[.int .i64 1, .int .u8 1, .int .i64 105, .int .i64 50, .int .i64 0, .bool false, .bool false, .slice A16 0 c16, .int .u8 3, .bool false, .int .i64 (-1)] 24)
  replace q7 := q7.alloc (.cells #[.int .i64 1, .int .u8 1, .int .i64 105, .int .i64 50, .int .i64 0, .bool false, .bool false, .slice A16 0 c16, .int .u8 3, .bool false, .int .i64 (-1)] 24)
  replace q8 := q8.alloc (.cells #[.int .i64 1, .int .u8 1, .int .i64 105, .int .i64 50, .int .i64 0, .bool false, .bool false, .slice A16 0 c16, .int .u8 3, .bool false, .int .i64 (-1)] 24)
  replace m9 := m9.alloc (.cells #[.int .i64 1, .int .u8 1, .int .i64 105, .int .i64 50, .int .i64 0, .bool false, .bool false, .slice A16 0 c16, .int .u8 3, .bool false, .int .i64 (-1)] 24)
  replace q9 := q9.alloc (.cells #[.int .i64 1, .int .u8 1, .int .i64 105, .int .i64 50, .int .i64 0, .bool false, .bool false, .slice A16 0 c16, .int .u8 3, .bool false, .int .i64 (-1)] 24)
  replace q11 := q11.alloc (.cells #[.int .i64 1, .int .u8 1, .int .i64 105, .int .i64 50, .int .i64 0, .bool false, .bool false, .slice A16 0 c16, .int .u8 3, .bool false, .int .i64 (-1)] 24)
  replace m16 := m16.alloc (.cells #[.int .i64 1, .int .u8 1, .int .i64 105, .int .i64 50, .int .i64 0, .bool false, .bool false, .slice A16 0 c16, .int .u8 3, .bool false, .int .i64 (-1)] 24)
  have q16 := Blk.newAt (b := w10.heap.size) w10 24 #[.int .i64 1, .int .u8 1, .int .i64 105, .int .i64 50, .int .i64 0, .bool false, .bool false, .slice A16 0 c16, .int .u8 3, .bool false, .int .i64 (-1)] rfl
  clear hb
  go_wp2_with (first | ((with_reducible refine wpList_id ?_); refine wpList_getB rfl _ _ rfl rfl q1 Try.underlying24 rfl (by rfl) ?_) | ((with_reducible refine wpList_id ?_); refine wpList_getB rfl _ _ rfl rfl q3 Try.underlying24 rfl (by rfl) ?_) | ((with_reducible refine wpList_id ?_); refine wpList_getB rfl _ _ rfl rfl q5 Try.underlying24 rfl (by rfl) ?_) | ((with_reducible refine wpList_id ?_); refine wpList_getB rfl _ _ rfl rfl q6 Try.underlying32 rfl (by rfl) ?_) | ((with_reducible refine wpList_id ?_); refine wpList_getB rfl _ _ rfl rfl q7 Try.underlying24 rfl (by rfl) ?_) | ((with_reducible refine wpList_id ?_); refine wpList_getB rfl _ _ rfl rfl q8 Try.underlying32 rfl (by rfl) ?_) | ((with_reducible refine wpList_id ?_); refine wpList_getB rfl _ _ rfl rfl q9 Try.underlying24 rfl (by rfl) ?_) | ((with_reducible refine wpList_id ?_); refine wpList_getB rfl _ _ rfl rfl q11 Try.underlying32 rfl (by rfl) ?_) | ((with_reducible refine wpList_id ?_); refine wpList_getB rfl _ _ rfl rfl q16 Try.underlying24 rfl (by rfl) ?_))
  refine (SH.out _).mono ?_
  rintro e w11 ⟨A18, n18, c18, rfl, m18, hb⟩
  replace b0 := (b0).below hb; replace q1 := (q1).below hb; replace q3 := (q3).below hb; replace m5 := (m5).below hb; replace q5 := (q5).below hb; replace q6 := (q6).below hb; replace m7 := (m7).below hb; replace q7 := (q7).below hb; replace q8 := (q8).below hb; replace m9 := (m9).below hb; replace q9 := (q9).below hb; replace q11 := (q11).below hb; replace m16 := (m16).below hb; replace q16 := (q16).below hb
  obtain rfl : n18 = 0 := by have h := m18.len; simpa using h.symm
  replace b0 := b0.alloc (.cells #[.int .i64 1, .int .u8 1, .int .i64 (-100), .int .i64 50, .int .i64 0, .bool false, .bool false, .slice A18 0 c18, .int .u8 3, .bool false, .int .i64 (-1)] 24)
  replace q1 := q1.alloc (.cells #[.int .i64 1, .int .u8 1, .int .i64 (-100), .int .i64 50, .int .i64 0, .bool false, .bool false, .slice A18 0 c18, .int .u8 3, .bool false, .int .i64 (-1)] 24)
  replace q3 := q3.alloc (.cells #[.int .i64 1, .int .u8 1, .int .i64 (-100), .int .i64 50, .int .i64 0, .bool false, .bool false, .slice A18 0 c18, .int .u8 3, .bool false, .int .i64 (-1)] 24)
  replace m5 := m5.alloc (.cells #[.int .i64 1, .int .u8 1, .int .i64 (-100), .int .i64 50, .int .i64 0, .bool false, .bool false, .slice A18 0 c18, .int .u8 3, .bool false, .int .i64 (-1)] 24)
  replace q5 := q5.alloc (.cells #[.int .i64 1, .int .u8 1, .int .i64 (-100), .int .i64 50, .int .i64 0, .bool false, .bool false, .slice A18 0 c18, .int .u8 3, .bool false, .int .i64 (-1)] 24)
  replace q6 := q6.alloc (.cells #[.int .i64 1, .int .u8 1, .int .i64 (-100), .int .i64 50, .int .i64 0, .bool false, .bool false, .slice A18 0 c18, .int .u8 3, .bool false, .int .i64 (-1)] 24)
  replace m7 := m7.alloc (.cells #[.int .i64 1, .int .u8 1, .int .i64 (-100), .int .i64 50, .int .i64 0, .bool false, .bool false, .slice A18 0 c18, .int .u8 3, .bool false, .int .i64 (-1)] 24)
  replace q7 := q7.alloc (.cells #[.int .i64 1, .int .u8 1, .int .i64 (-100), .int .i64 50, .int .i64 0, .bool false, .bool false, .slice A18 0 c18, .int .u8 3, .bool false, .int .i64 (-1)] 24)
  replace q8 := q8.alloc (.cells #[.int .i64 1, .int .u8 1, .int .i64 (-100), .int .i64 50, .int .i64 0, .bool false, .bool false, .slice A18 0 c18, .int .u8 3, .bool false, .int .i64 (-1)] 24)
  replace m9 := m9.alloc (.cells #[.int .i64 1, .int .u8 1, .int .i64 (-100), .int .i64 50, .int .i64 0, .bool false, .bool false, .slice A18 0 c18, .int .u8 3, .bool false, .int .i64 (-1)] 24)
  replace q9 := q9.alloc (.cells #[.int .i64 1, .int .u8 1, .int .i64 (-100), .int .i64 50, .int .i64 0, .bool false, .bool false, .slice A18 0 c18, .int .u8 3, .bool false, .int .i64 (-1)] 24)
  replace q11 := q11.alloc (.cells #[.int .i64 1, .int .u8 1, .int .i64 (-100), .int .i64 50, .int .i64 0, .bool false, .bool false, .slice A18 0 c18, .int .u8 3, .bool false, .int .i64 (-1)] 24)
  replace m16 := m16.alloc (.cells #[.int .i64 1, .int .u8 1, .int .i64 (-100), .int .i64 50, .int .i64 0, .bool false, .bool false, .slice A18 0 c18, .int .u8 3, .bool false, .int .i64 (-1)] 24)
  replace q16 := q16.alloc (.cells #[.int .i64 1, .int .u8 1, .int .i64 (-100), .int .i64 50, .int .i64 0, .bool false, .bool false, .slice A18 0 c18, .int .u8 3, .bool false, .int .i64 (-1)] 24)
  have q18 := Blk.newAt (b := w11.heap.size) w11 24 #[.int .i64 1, .int .u8 1, .int .i64 (-100), .int .i64 50, .int .i64 0, .bool false, .bool false, .slice A18 0 c18, .int .u8 3, .bool false, .int .i64 (-1)] rfl
  clear hb m7 m16 m18 q3
  go_wp2_with fail
  generalize w11.alloc (.cells #[.int .i64 1, .int .u8 1, .int .i64 (-100), .int .i64 50, .int .i64 0, .bool false, .bool false, .slice A18 0 c18, .int .u8 3, .bool false, .int .i64 (-1)] 24) = W7 at *
  obtain ⟨SW, HS⟩ : ∃ SW : World → Prop, Hid (SW = CellsAt [(⟨w1.heap.size, 0, none⟩, .int .i64 1), (⟨w1.heap.size, 1, none⟩, .int .u8 1), (⟨w1.heap.size, 2, none⟩, .int .i64 100), (⟨w1.heap.size, 3, none⟩, .int .i64 50), (⟨w1.heap.size, 4, none⟩, .int .i64 0), (⟨w1.heap.size, 5, none⟩, .bool false), (⟨w1.heap.size, 6, none⟩, .bool false), (⟨w1.heap.size, 7, none⟩, .slice none 0 0), (⟨w1.heap.size, 8, none⟩, .int .u8 3), (⟨w1.heap.size, 9, none⟩, .bool false), (⟨w1.heap.size, 10, none⟩, .int .i64 (-1)), (⟨w3.heap.size, 0, none⟩, .int .i64 1), (⟨w3.heap.size, 1, none⟩, .int .u8 2), (⟨w3.heap.size, 2, none⟩, .int .i64 100), (⟨w3.heap.size, 3, none⟩, .int .i64 20), (⟨w3.heap.size, 4, none⟩, .int .i64 30), (⟨w3.heap.size, 5, none⟩, .bool false), (⟨w3.heap.size, 6, none⟩, .bool false), (⟨w3.heap.size, 7, none⟩, .slice A5 0 c5), (⟨w3.heap.size, 8, none⟩, .int .u8 3), (⟨w3.heap.size, 9, none⟩, .bool false), (⟨w3.heap.size, 10, none⟩, .int .i64 (-1)), (⟨w3.heap.size + 1, 0, none⟩, .int .u8 2), (⟨w3.heap.size + 1, 1, none⟩, .bool true), (⟨w3.heap.size + 1, 2, none⟩, .bool false), (⟨w3.heap.size + 1, 3, none⟩, .int .u32 0), (⟨w4.heap.size, 0, none⟩, .int .i64 1), (⟨w4.heap.size, 1, none⟩, .int .u8 5), (⟨w4.heap.size, 2, none⟩, .int .i64 100), (⟨w4.heap.size, 3, none⟩, .int .i64 50), (⟨w4.heap.size, 4, none⟩, .int .i64 0), (⟨w4.heap.size, 5, none⟩, .bool false), (⟨w4.heap.size, 6, none⟩, .bool false), (⟨w4.heap.size, 7, none⟩, .slice A7 0 c7), (⟨w4.heap.size, 8, none⟩, .int .u8 3), (⟨w4.heap.size, 9, none⟩, .bool false), (⟨w4.heap.size, 10, none⟩, .int .i64 (-1)), (⟨w4.heap.size + 1, 0, none⟩, .int .u8 5), (⟨w4.heap.size + 1, 1, none⟩, .bool false), (⟨w4.heap.size + 1, 2, none⟩, .bool false), (⟨w4.heap.size + 1, 3, none⟩, .int .u32 3), (⟨w5.heap.size, 0, none⟩, .int .i64 1), (⟨w5.heap.size, 1, none⟩, .int .u8 1), (⟨w5.heap.size, 2, none⟩, .int .i64 100), (⟨w5.heap.size, 3, none⟩, .int .i64 50), (⟨w5.heap.size, 4, none⟩, .int .i64 0), (⟨w5.heap.size, 5, none⟩, .bool false), (⟨w5.heap.size, 6, none⟩, .bool false), (⟨w5.heap.size, 7, none⟩, .slice A9 0 c9), (⟨w5.heap.size, 8, none⟩, .int .u8 3), (⟨w5.heap.size, 9, none⟩, .bool false), (⟨w5.heap.size, 10, none⟩, .int .i64 (-1)), (⟨w6.heap.size, 0, none⟩, .int .u8 5), (⟨w6.heap.size, 1, none⟩, .bool false), (⟨w6.heap.size, 2, none⟩, .bool false), (⟨w6.heap.size, 3, none⟩, .int .u32 5), (⟨w10.heap.size, 0, none⟩, .int .i64 1), (⟨w10.heap.size, 1, none⟩, .int .u8 1), (⟨w10.heap.size, 2, none⟩, .int .i64 105), (⟨w10.heap.size, 3, none⟩, .int .i64 50), (⟨w10.heap.size, 4, none⟩, .int .i64 0), (⟨w10.heap.size, 5, none⟩, .bool false), (⟨w10.heap.size, 6, none⟩, .bool false), (⟨w10.heap.size, 7, none⟩, .slice A16 0 c16), (⟨w10.heap.size, 8, none⟩, .int .u8 3), (⟨w10.heap.size, 9, none⟩, .bool false), (⟨w10.heap.size, 10, none⟩, .int .i64 (-1)), (⟨w11.heap.size, 0, none⟩, .int .i64 1), (⟨w11.heap.size, 1, none⟩, .int .u8 1), (⟨w11.heap.size, 2, none⟩, .int .i64 (-100)), (⟨w11.heap.size, 3, none⟩, .int .i64 50), (⟨w11.heap.size, 4, none⟩, .int .i64 0), (⟨w11.heap.size, 5, none⟩, .bool false), (⟨w11.heap.size, 6, none⟩, .bool false), (⟨w11.heap.size, 7, none⟩, .slice A18 0 c18), (⟨w11.heap.size, 8, none⟩, .int .u8 3), (⟨w11.heap.size, 9, none⟩, .bool false), (⟨w11.heap.size, 10, none⟩, .int .i64 (-1))]) := ⟨_, Lib.hid rfl⟩
  have sw0 : SW W7.drew := by
    rw [HS.out]
    exact ⟨q1.at 0 rfl, q1.at 1 rfl, q1.at 2 rfl, q1.at 3 rfl, q1.at 4 rfl, q1.at 5 rfl, q1.at 6 rfl, q1.at 7 rfl, q1.at 8 rfl, q1.at 9 rfl, q1.at 10 rfl, q5.at 0 rfl, q5.at 1 rfl, q5.at 2 rfl, q5.at 3 rfl, q5.at 4 rfl, q5.at 5 rfl, q5.at 6 rfl, q5.at 7 rfl, q5.at 8 rfl, q5.at 9 rfl, q5.at 10 rfl, q6.at 0 rfl, q6.at 1 rfl, q6.at 2 rfl, q6.at 3 rfl, q7.at 0 rfl, q7.at 1 rfl, q7.at 2 rfl, q7.at 3 rfl, q7.at 4 rfl, q7.at 5 rfl, q7.at 6 rfl, q7.at 7 rfl, q7.at 8 rfl, q7.at 9 rfl, q7.at 10 rfl, q8.at 0 rfl, q8.at 1 rfl, q8.at 2 rfl, q8.at 3 rfl, q9.at 0 rfl, q9.at 1 rfl, q9.at 2 rfl, q9.at 3 rfl, q9.at 4 rfl, q9.at 5 rfl, q9.at 6 rfl, q9.at 7 rfl, q9.at 8 rfl, q9.at 9 rfl, q9.at 10 rfl, q11.at 0 rfl, q11.at 1 rfl, q11.at 2 rfl, q11.at 3 rfl, q16.at 0 rfl, q16.at 1 rfl, q16.at 2 rfl, q16.at 3 rfl, q16.at 4 rfl, q16.at 5 rfl, q16.at 6 rfl, q16.at 7 rfl, q16.at 8 rfl, q16.at 9 rfl, q16.at 10 rfl, q18.at 0 rfl, q18.at 1 rfl, q18.at 2 rfl, q18.at 3 rfl, q18.at 4 rfl, q18.at 5 rfl, q18.at 6 rfl, q18.at 7 rfl, q18.at 8 rfl, q18.at 9 rfl, q18.at 10 rfl, trivial⟩
  replace b0 := b0.drew
  replace m5 := m5.drew
  replace m9 := m9.drew
  clear q1 q5 q6 q7 q8 q9 q11 q16 q18
  (try simp only [List.append_eq, List.cons_append, List.nil_append])
  have HB : Hid (∀ w w', SW w → Below w.heap.size w w' → SW w') := Lib.hid fun w w' h hb => by rw [HS.out] at h ⊢; exact CellsAt.below h hb
  refine wp_region_N wkOps SW (by as_aux_lemma => kernel_rfl) (by as_aux_lemma => kernel_rfl) (fun d _ _ _ _ h => by cases d <;> exact h) (fun Q HQ hp => ?_)
  refine wpAnyG_takesF [0, 1, 2, 3, 4, 5, 6, 7, 8, 9, 10, 11, 12, 13, 14, 15, 16, 17, 18, 19, 20, 21, 22, 23, 24, 25, 26, 27, 28, 29, 30, 31, 32, 33, 34, 35, 36, 37, 38, 39, 40, 41, 42] 64 (by as_aux_lemma => kernel_rfl) (by as_aux_lemma => kernel_rfl) hp sw0 ?_
  refine pureW_e1 2 (by (conv => lhs; whnf; arg 1; whnf)) (by rfl) (by (conv => lhs; whnf)) (fun ρ hρ h1 w1 hSw => by have hc := hρ.const; clear hρ; clear hSw; go_simp; try with_reducible rfl) ?_; (try simp only [Act.put, List.setIfInBounds_toArray, List.set_cons_succ, List.set_cons_zero])
  refine pureW_e1 62 (by (conv => lhs; whnf; arg 1; whnf)) (by rfl) (by (conv => lhs; whnf)) (fun ρ hρ h1 w1 hSw => by have hc := hρ.const; clear hρ; clear hSw; go_simp; try with_reducible rfl) ?_; (try simp only [Act.put, List.setIfInBounds_toArray, List.set_cons_succ, List.set_cons_zero])
  refine pureW_e1 63 (by (conv => lhs; whnf; arg 1; whnf)) (by rfl) (by (conv => lhs; whnf)) (fun ρ hρ h1 w1 hSw => by have hc := hρ.const; clear hρ; clear hSw; go_simp; try with_reducible rfl) ?_; (try simp only [Act.put, List.setIfInBounds_toArray, List.set_cons_succ, List.set_cons_zero])
  refine pureW_e1 4 (by (conv => lhs; whnf; arg 1; whnf)) (by rfl) (by (conv => lhs; whnf)) (fun ρ hρ h1 w1 hSw => by have hc := hρ.const; clear hρ; clear hSw; go_simp; try with_reducible rfl) ?_; (try simp only [Act.put, List.setIfInBounds_toArray, List.set_cons_succ, List.set_cons_zero])
  refine pureW_e1 65 (by (conv => lhs; whnf; arg 1; whnf)) (by rfl) (by (conv => lhs; whnf)) (fun ρ hρ h1 w1 hSw => by have hc := hρ.const; clear hρ; clear hSw; go_simp; try with_reducible rfl) ?_; (try simp only [Act.put, List.setIfInBounds_toArray, List.set_cons_succ, List.set_cons_zero])
  refine pureW_e2 64 66 (by (conv => lhs; whnf; arg 1; whnf)) (by rfl) (by (conv => lhs; whnf)) (by (conv => lhs; whnf)) (fun ρ hρ h1 h2 w1 hSw => by have hc := hρ.const; clear hρ; clear hSw; go_simp; try with_reducible rfl) ?_; (try simp only [Act.put, List.setIfInBounds_toArray, List.set_cons_succ, List.set_cons_zero])
  refine pureW_e1 67 (by (conv => lhs; whnf; arg 1; whnf)) (by rfl) (by (conv => lhs; whnf)) (fun ρ hρ h1 w1 hSw => by have hc := hρ.const; clear hρ; clear hSw; go_simp; try with_reducible rfl) ?_; (try simp only [Act.put, List.setIfInBounds_toArray, List.set_cons_succ, List.set_cons_zero])
  refine pureW_e1 6 (by (conv => lhs; whnf; arg 1; whnf)) (by rfl) (by (conv => lhs; whnf)) (fun ρ hρ h1 w1 hSw => by have hc := hρ.const; clear hρ; rw [HS.out] at hSw; simp only [CellsAt] at hSw; go_simp; try with_reducible rfl) ?_; (try simp only [Act.put, List.setIfInBounds_toArray, List.set_cons_succ, List.set_cons_zero])
  refine pureW_e0  (by (conv => lhs; whnf; arg 1; whnf)) (by rfl)  (fun ρ hρ  w1 hSw => by have hc := hρ.const; clear hρ; clear hSw; go_simp; try with_reducible rfl) ?_; (try simp only [Act.put, List.setIfInBounds_toArray, List.set_cons_succ, List.set_cons_zero])
  refine pureW_e2 69 70 (by (conv => lhs; whnf; arg 1; whnf)) (by rfl) (by (conv => lhs; whnf)) (by (conv => lhs; whnf)) (fun ρ hρ h1 h2 w1 hSw => by have hc := hρ.const; clear hρ; clear hSw; go_simp; try with_reducible rfl) ?_; (try simp only [Act.put, List.setIfInBounds_toArray, List.set_cons_succ, List.set_cons_zero])
  refine pureW_e2 68 71 (by (conv => lhs; whnf; arg 1; whnf)) (by rfl) (by (conv => lhs; whnf)) (by (conv => lhs; whnf)) (fun ρ hρ h1 h2 w1 hSw => by have hc := hρ.const; clear hρ; clear hSw; go_simp; try with_reducible rfl) ?_; (try simp only [Act.put, List.setIfInBounds_toArray, List.set_cons_succ, List.set_cons_zero])
  refine pureW_e1 72 (by (conv => lhs; whnf; arg 1; whnf)) (by rfl) (by (conv => lhs; whnf)) (fun ρ hρ h1 w1 hSw => by have hc := hρ.const; clear hρ; clear hSw; go_simp; try with_reducible rfl) ?_; (try simp only [Act.put, List.setIfInBounds_toArray, List.set_cons_succ, List.set_cons_zero])
  refine pureW_e1 5 (by (conv => lhs; whnf; arg 1; whnf)) (by rfl) (by (conv => lhs; whnf)) (fun ρ hρ h1 w1 hSw => by have hc := hρ.const; clear hρ; clear hSw; go_simp; try with_reducible rfl) ?_; (try simp only [Act.put, List.setIfInBounds_toArray, List.set_cons_succ, List.set_cons_zero])
  refine pureW_e1 74 (by (conv => lhs; whnf; arg 1; whnf)) (by rfl) (by (conv => lhs; whnf)) (fun ρ hρ h1 w1 hSw => by have hc := hρ.const; clear hρ; rw [HS.out] at hSw; simp only [CellsAt] at hSw; go_simp; try with_reducible rfl) ?_; (try simp only [Act.put, List.setIfInBounds_toArray, List.set_cons_succ, List.set_cons_zero])
  refine pureW_e1 75 (by (conv => lhs; whnf; arg 1; whnf)) (by rfl) (by (conv => lhs; whnf)) (fun ρ hρ h1 w1 hSw => by have hc := hρ.const; clear hρ; clear hSw; go_simp; try with_reducible rfl) ?_; (try simp only [Act.put, List.setIfInBounds_toArray, List.set_cons_succ, List.set_cons_zero])
  refine pureW_e2 73 76 (by (conv => lhs; whnf; arg 1; whnf)) (by rfl) (by (conv => lhs; whnf)) (by (conv => lhs; whnf)) (fun ρ hρ h1 h2 w1 hSw => by have hc := hρ.const; clear hρ; clear hSw; go_simp; try with_reducible rfl) ?_; (try simp only [Act.put, List.setIfInBounds_toArray, List.set_cons_succ, List.set_cons_zero])
  refine pureW_e1 77 (by (conv => lhs; whnf; arg 1; whnf)) (by rfl) (by (conv => lhs; whnf)) (fun ρ hρ h1 w1 hSw => by have hc := hρ.const; clear hρ; clear hSw; go_simp; try with_reducible rfl) ?_; (try simp only [Act.put, List.setIfInBounds_toArray, List.set_cons_succ, List.set_cons_zero])
  refine pureW_e1 5 (by (conv => lhs; whnf; arg 1; whnf)) (by rfl) (by (conv => lhs; whnf)) (fun ρ hρ h1 w1 hSw => by have hc := hρ.const; clear hρ; clear hSw; go_simp; try with_reducible rfl) ?_; (try simp only [Act.put, List.setIfInBounds_toArray, List.set_cons_succ, List.set_cons_zero])
  refine pureW_e1 79 (by (conv => lhs; whnf; arg 1; whnf)) (by rfl) (by (conv => lhs; whnf)) (fun ρ hρ h1 w1 hSw => by have hc := hρ.const; clear hρ; rw [HS.out] at hSw; simp only [CellsAt] at hSw; go_simp; try with_reducible rfl) ?_; (try simp only [Act.put, List.setIfInBounds_toArray, List.set_cons_succ, List.set_cons_zero])
  refine pureW_e1 80 (by (conv => lhs; whnf; arg 1; whnf)) (by rfl) (by (conv => lhs; whnf)) (fun ρ hρ h1 w1 hSw => by have hc := hρ.const; clear hρ; clear hSw; go_simp; try with_reducible rfl) ?_; (try simp only [Act.put, List.setIfInBounds_toArray, List.set_cons_succ, List.set_cons_zero])
  refine pureW_e2 78 81 (by (conv => lhs; whnf; arg 1; whnf)) (by rfl) (by (conv => lhs; whnf)) (by (conv => lhs; whnf)) (fun ρ hρ h1 h2 w1 hSw => by have hc := hρ.const; clear hρ; clear hSw; go_simp; try with_reducible rfl) ?_; (try simp only [Act.put, List.setIfInBounds_toArray, List.set_cons_succ, List.set_cons_zero])
  refine pureW_e1 82 (by (conv => lhs; whnf; arg 1; whnf)) (by rfl) (by (conv => lhs; whnf)) (fun ρ hρ h1 w1 hSw => by have hc := hρ.const; clear hρ; clear hSw; go_simp; try with_reducible rfl) ?_; (try simp only [Act.put, List.setIfInBounds_toArray, List.set_cons_succ, List.set_cons_zero])
  refine pureW_e1 5 (by (conv => lhs; whnf; arg 1; whnf)) (by rfl) (by (conv => lhs; whnf)) (fun ρ hρ h1 w1 hSw => by have hc := hρ.const; clear hρ; clear hSw; go_simp; try with_reducible rfl) ?_; (try simp only [Act.put, List.setIfInBounds_toArray, List.set_cons_succ, List.set_cons_zero])
  refine pureW_e1 84 (by (conv => lhs; whnf; arg 1; whnf)) (by rfl) (by (conv => lhs; whnf)) (fun ρ hρ h1 w1 hSw => by have hc := hρ.const; clear hρ; rw [HS.out] at hSw; simp only [CellsAt] at hSw; go_simp; try with_reducible rfl) ?_; (try simp only [Act.put, List.setIfInBounds_toArray, List.set_cons_succ, List.set_cons_zero])
  refine pureW_e1 85 (by (conv => lhs; whnf; arg 1; whnf)) (by rfl) (by (conv => lhs; whnf)) (fun ρ hρ h1 w1 hSw => by have hc := hρ.const; clear hρ; clear hSw; go_simp; try with_reducible rfl) ?_; (try simp only [Act.put, List.setIfInBounds_toArray, List.set_cons_succ, List.set_cons_zero])
  refine pureW_e2 83 86 (by (conv => lhs; whnf; arg 1; whnf)) (by rfl) (by (conv => lhs; whnf)) (by (conv => lhs; whnf)) (fun ρ hρ h1 h2 w1 hSw => by have hc := hρ.const; clear hρ; clear hSw; go_simp; try with_reducible rfl) ?_; (try simp only [Act.put, List.setIfInBounds_toArray, List.set_cons_succ, List.set_cons_zero])
  refine pureW_e1 87 (by (conv => lhs; whnf; arg 1; whnf)) (by rfl) (by (conv => lhs; whnf)) (fun ρ hρ h1 w1 hSw => by have hc := hρ.const; clear hρ; clear hSw; go_simp; try with_reducible rfl) ?_; (try simp only [Act.put, List.setIfInBounds_toArray, List.set_cons_succ, List.set_cons_zero])
  refine pureW_e1 8 (by (conv => lhs; whnf; arg 1; whnf)) (by rfl) (by (conv => lhs; whnf)) (fun ρ hρ h1 w1 hSw => by have hc := hρ.const; clear hρ; rw [HS.out] at hSw; simp only [CellsAt] at hSw; go_simp; try with_reducible rfl) ?_; (try simp only [Act.put, List.setIfInBounds_toArray, List.set_cons_succ, List.set_cons_zero])
  refine pureW_e0  (by (conv => lhs; whnf; arg 1; whnf)) (by rfl)  (fun ρ hρ  w1 hSw => by have hc := hρ.const; clear hρ; clear hSw; go_simp; try with_reducible rfl) ?_; (try simp only [Act.put, List.setIfInBounds_toArray, List.set_cons_succ, List.set_cons_zero])
  refine pureW_e2 89 90 (by (conv => lhs; whnf; arg 1; whnf)) (by rfl) (by (conv => lhs; whnf)) (by (conv => lhs; whnf)) (fun ρ hρ h1 h2 w1 hSw => by have hc := hρ.const; clear hρ; clear hSw; go_simp; try with_reducible rfl) ?_; (try simp only [Act.put, List.setIfInBounds_toArray, List.set_cons_succ, List.set_cons_zero])
  refine pureW_e2 88 91 (by (conv => lhs; whnf; arg 1; whnf)) (by rfl) (by (conv => lhs; whnf)) (by (conv => lhs; whnf)) (fun ρ hρ h1 h2 w1 hSw => by have hc := hρ.const; clear hρ; clear hSw; go_simp; try with_reducible rfl) ?_; (try simp only [Act.put, List.setIfInBounds_toArray, List.set_cons_succ, List.set_cons_zero])
  refine pureW_e1 92 (by (conv => lhs; whnf; arg 1; whnf)) (by rfl) (by (conv => lhs; whnf)) (fun ρ hρ h1 w1 hSw => by have hc := hρ.const; clear hρ; clear hSw; go_simp; try with_reducible rfl) ?_; (try simp only [Act.put, List.setIfInBounds_toArray, List.set_cons_succ, List.set_cons_zero])
  refine pureW_e1 7 (by (conv => lhs; whnf; arg 1; whnf)) (by rfl) (by (conv => lhs; whnf)) (fun ρ hρ h1 w1 hSw => by have hc := hρ.const; clear hρ; clear hSw; go_simp; try with_reducible rfl) ?_; (try simp only [Act.put, List.setIfInBounds_toArray, List.set_cons_succ, List.set_cons_zero])
  refine pureW_e1 94 (by (conv => lhs; whnf; arg 1; whnf)) (by rfl) (by (conv => lhs; whnf)) (fun ρ hρ h1 w1 hSw => by have hc := hρ.const; clear hρ; rw [HS.out] at hSw; simp only [CellsAt] at hSw; go_simp; try with_reducible rfl) ?_; (try simp only [Act.put, List.setIfInBounds_toArray, List.set_cons_succ, List.set_cons_zero])
  refine pureW_e1 95 (by (conv => lhs; whnf; arg 1; whnf)) (by rfl) (by (conv => lhs; whnf)) (fun ρ hρ h1 w1 hSw => by have hc := hρ.const; clear hρ; clear hSw; go_simp; try with_reducible rfl) ?_; (try simp only [Act.put, List.setIfInBounds_toArray, List.set_cons_succ, List.set_cons_zero])
  refine pureW_e2 93 96 (by (conv => lhs; whnf; arg 1; whnf)) (by rfl) (by (conv => lhs; whnf)) (by (conv => lhs; whnf)) (fun ρ hρ h1 h2 w1 hSw => by have hc := hρ.const; clear hρ; clear hSw; go_simp; try with_reducible rfl) ?_; (try simp only [Act.put, List.setIfInBounds_toArray, List.set_cons_succ, List.set_cons_zero])
  refine pureW_e1 97 (by (conv => lhs; whnf; arg 1; whnf)) (by rfl) (by (conv => lhs; whnf)) (fun ρ hρ h1 w1 hSw => by have hc := hρ.const; clear hρ; clear hSw; go_simp; try with_reducible rfl) ?_; (try simp only [Act.put, List.setIfInBounds_toArray, List.set_cons_succ, List.set_cons_zero])
  refine pureW_e1 10 (by (conv => lhs; whnf; arg 1; whnf)) (by rfl) (by (conv => lhs; whnf)) (fun ρ hρ h1 w1 hSw => by have hc := hρ.const; clear hρ; clear hSw; go_simp; try with_reducible rfl) ?_; (try simp only [Act.put, List.setIfInBounds_toArray, List.set_cons_succ, List.set_cons_zero])
  refine pureW_e1 99 (by (conv => lhs; whnf; arg 1; whnf)) (by rfl) (by (conv => lhs; whnf)) (fun ρ hρ h1 w1 hSw => by have hc := hρ.const; clear hρ; clear hSw; go_simp; try with_reducible rfl) ?_; (try simp only [Act.put, List.setIfInBounds_toArray, List.set_cons_succ, List.set_cons_zero])
  refine pureW_e2 98 100 (by (conv => lhs; whnf; arg 1; whnf)) (by rfl) (by (conv => lhs; whnf)) (by (conv => lhs; whnf)) (fun ρ hρ h1 h2 w1 hSw => by have hc := hρ.const; clear hρ; clear hSw; go_simp; try with_reducible rfl) ?_; (try simp only [Act.put, List.setIfInBounds_toArray, List.set_cons_succ, List.set_cons_zero])
  refine pureW_e1 101 (by (conv => lhs; whnf; arg 1; whnf)) (by rfl) (by (conv => lhs; whnf)) (fun ρ hρ h1 w1 hSw => by have hc := hρ.const; clear hρ; clear hSw; go_simp; try with_reducible rfl) ?_; (try simp only [Act.put, List.setIfInBounds_toArray, List.set_cons_succ, List.set_cons_zero])
  refine pureW_e1 9 (by (conv => lhs; whnf; arg 1; whnf)) (by rfl) (by (conv => lhs; whnf)) (fun ρ hρ h1 w1 hSw => by have hc := hρ.const; clear hρ; rw [HS.out] at hSw; simp only [CellsAt] at hSw; go_simp; try with_reducible rfl) ?_; (try simp only [Act.put, List.setIfInBounds_toArray, List.set_cons_succ, List.set_cons_zero])
  refine pureW_e1 1 (by (conv => lhs; whnf; arg 1; whnf)) (by rfl) (by (conv => lhs; whnf)) (fun ρ hρ h1 w1 hSw => by have hc := hρ.const; clear hρ; rw [HS.out] at hSw; simp only [CellsAt] at hSw; go_simp; try with_reducible rfl) ?_; (try simp only [Act.put, List.setIfInBounds_toArray, List.set_cons_succ, List.set_cons_zero])
  refine pureW_nil ?_
  refine wpAnyG_oneN 43 63 (by as_aux_lemma => kernel_rfl) (by as_aux_lemma => kernel_rfl) (by (conv => lhs; whnf; arg 1; whnf)) (by rfl) (fun K hK => ?_)
  go_simp
  refine (SM1.out _ _ _ m9.byt).mono ?_
  rintro e wr1 ⟨rfl, hb⟩
  replace b0 := (b0).below hb
  replace m5 := (m5).below hb
  replace m9 := (m9).below hb
  have sw1 := HB.out _ _ sw0 hb
  (try go_simp)
  refine hK.out _ _ sw1 ?_
  clear hK K hb sw0
  refine wpAnyG_takesF [44, 45, 46, 47, 48, 49, 50, 51, 52, 53, 54, 55, 56, 57, 58, 59, 60, 61, 62, 63, 64, 65, 66, 67, 68, 69, 70, 71, 72, 73, 74, 75, 76, 77] 29 (by as_aux_lemma => kernel_rfl) (by as_aux_lemma => kernel_rfl) hp sw1 ?_
  refine pureW_e2 102 105 (by (conv => lhs; whnf; arg 1; whnf)) (by rfl) (by (conv => lhs; whnf)) (by (conv => lhs; whnf)) (fun ρ hρ h1 h2 w1 hSw => by have hc := hρ.const; clear hρ; clear hSw; go_simp; try with_reducible rfl) ?_; (try simp only [Act.put, List.setIfInBounds_toArray, List.set_cons_succ, List.set_cons_zero])
  refine pureW_e1 106 (by (conv => lhs; whnf; arg 1; whnf)) (by rfl) (by (conv => lhs; whnf)) (fun ρ hρ h1 w1 hSw => by have hc := hρ.const; clear hρ; clear hSw; go_simp; try with_reducible rfl) ?_; (try simp only [Act.put, List.setIfInBounds_toArray, List.set_cons_succ, List.set_cons_zero])
  refine pureW_e1 11 (by (conv => lhs; whnf; arg 1; whnf)) (by rfl) (by (conv => lhs; whnf)) (fun ρ hρ h1 w1 hSw => by have hc := hρ.const; clear hρ; rw [HS.out] at hSw; simp only [CellsAt] at hSw; go_simp; try with_reducible rfl) ?_; (try simp only [Act.put, List.setIfInBounds_toArray, List.set_cons_succ, List.set_cons_zero])
  refine pureW_e0  (by (conv => lhs; whnf; arg 1; whnf)) (by rfl)  (fun ρ hρ  w1 hSw => by have hc := hρ.const; clear hρ; clear hSw; go_simp; try with_reducible rfl) ?_; (try simp only [Act.put, List.setIfInBounds_toArray, List.set_cons_succ, List.set_cons_zero])
  refine pureW_e2 108 109 (by (conv => lhs; whnf; arg 1; whnf)) (by rfl) (by (conv => lhs; whnf)) (by (conv => lhs; whnf)) (fun ρ hρ h1 h2 w1 hSw => by have hc := hρ.const; clear hρ; clear hSw; go_simp; try with_reducible rfl) ?_; (try simp only [Act.put, List.setIfInBounds_toArray, List.set_cons_succ, List.set_cons_zero])
  refine pureW_e2 107 110 (by (conv => lhs; whnf; arg 1; whnf)) (by rfl) (by (conv => lhs; whnf)) (by (conv => lhs; whnf)) (fun ρ hρ h1 h2 w1 hSw => by have hc := hρ.const; clear hρ; clear hSw; go_simp; try with_reducible rfl) ?_; (try simp only [Act.put, List.setIfInBounds_toArray, List.set_cons_succ, List.set_cons_zero])
  refine pureW_e1 111 (by (conv => lhs; whnf; arg 1; whnf)) (by rfl) (by (conv => lhs; whnf)) (fun ρ hρ h1 w1 hSw => by have hc := hρ.const; clear hρ; clear hSw; go_simp; try with_reducible rfl) ?_; (try simp only [Act.put, List.setIfInBounds_toArray, List.set_cons_succ, List.set_cons_zero])
  refine pureW_e1 13 (by (conv => lhs; whnf; arg 1; whnf)) (by rfl) (by (conv => lhs; whnf)) (fun ρ hρ h1 w1 hSw => by have hc := hρ.const; clear hρ; clear hSw; go_simp; try with_reducible rfl) ?_; (try simp only [Act.put, List.setIfInBounds_toArray, List.set_cons_succ, List.set_cons_zero])
  refine pureW_e2 112 113 (by (conv => lhs; whnf; arg 1; whnf)) (by rfl) (by (conv => lhs; whnf)) (by (conv => lhs; whnf)) (fun ρ hρ h1 h2 w1 hSw => by have hc := hρ.const; clear hρ; clear hSw; go_simp; try with_reducible rfl) ?_; (try simp only [Act.put, List.setIfInBounds_toArray, List.set_cons_succ, List.set_cons_zero])
  refine pureW_e1 114 (by (conv => lhs; whnf; arg 1; whnf)) (by rfl) (by (conv => lhs; whnf)) (fun ρ hρ h1 w1 hSw => by have hc := hρ.const; clear hρ; clear hSw; go_simp; try with_reducible rfl) ?_; (try simp only [Act.put, List.setIfInBounds_toArray, List.set_cons_succ, List.set_cons_zero])
  refine pureW_e1 12 (by (conv => lhs; whnf; arg 1; whnf)) (by rfl) (by (conv => lhs; whnf)) (fun ρ hρ h1 w1 hSw => by have hc := hρ.const; clear hρ; clear hSw; go_simp; try with_reducible rfl) ?_; (try simp only [Act.put, List.setIfInBounds_toArray, List.set_cons_succ, List.set_cons_zero])
  refine pureW_e1 116 (by (conv => lhs; whnf; arg 1; whnf)) (by rfl) (by (conv => lhs; whnf)) (fun ρ hρ h1 w1 hSw => by have hc := hρ.const; clear hρ; clear hSw; go_simp; try with_reducible rfl) ?_; (try simp only [Act.put, List.setIfInBounds_toArray, List.set_cons_succ, List.set_cons_zero])
  refine pureW_e2 115 117 (by (conv => lhs; whnf; arg 1; whnf)) (by rfl) (by (conv => lhs; whnf)) (by (conv => lhs; whnf)) (fun ρ hρ h1 h2 w1 hSw => by have hc := hρ.const; clear hρ; clear hSw; go_simp; try with_reducible rfl) ?_; (try simp only [Act.put, List.setIfInBounds_toArray, List.set_cons_succ, List.set_cons_zero])
  refine pureW_e1 118 (by (conv => lhs; whnf; arg 1; whnf)) (by rfl) (by (conv => lhs; whnf)) (fun ρ hρ h1 w1 hSw => by have hc := hρ.const; clear hρ; clear hSw; go_simp; try with_reducible rfl) ?_; (try simp only [Act.put, List.setIfInBounds_toArray, List.set_cons_succ, List.set_cons_zero])
  refine pureW_e1 15 (by (conv => lhs; whnf; arg 1; whnf)) (by rfl) (by (conv => lhs; whnf)) (fun ρ hρ h1 w1 hSw => by have hc := hρ.const; clear hρ; clear hSw; go_simp; try with_reducible rfl) ?_; (try simp only [Act.put, List.setIfInBounds_toArray, List.set_cons_succ, List.set_cons_zero])
  refine pureW_e1 120 (by (conv => lhs; whnf; arg 1; whnf)) (by rfl) (by (conv => lhs; whnf)) (fun ρ hρ h1 w1 hSw => by have hc := hρ.const; clear hρ; clear hSw; go_simp; try with_reducible rfl) ?_; (try simp only [Act.put, List.setIfInBounds_toArray, List.set_cons_succ, List.set_cons_zero])
  refine pureW_e2 119 121 (by (conv => lhs; whnf; arg 1; whnf)) (by rfl) (by (conv => lhs; whnf)) (by (conv => lhs; whnf)) (fun ρ hρ h1 h2 w1 hSw => by have hc := hρ.const; clear hρ; clear hSw; go_simp; try with_reducible rfl) ?_; (try simp only [Act.put, List.setIfInBounds_toArray, List.set_cons_succ, List.set_cons_zero])
  refine pureW_e1 122 (by (conv => lhs; whnf; arg 1; whnf)) (by rfl) (by (conv => lhs; whnf)) (fun ρ hρ h1 w1 hSw => by have hc := hρ.const; clear hρ; clear hSw; go_simp; try with_reducible rfl) ?_; (try simp only [Act.put, List.setIfInBounds_toArray, List.set_cons_succ, List.set_cons_zero])
  refine pureW_e1 17 (by (conv => lhs; whnf; arg 1; whnf)) (by rfl) (by (conv => lhs; whnf)) (fun ρ hρ h1 w1 hSw => by have hc := hρ.const; clear hρ; clear hSw; go_simp; try with_reducible rfl) ?_; (try simp only [Act.put, List.setIfInBounds_toArray, List.set_cons_succ, List.set_cons_zero])
  refine pureW_e2 123 124 (by (conv => lhs; whnf; arg 1; whnf)) (by rfl) (by (conv => lhs; whnf)) (by (conv => lhs; whnf)) (fun ρ hρ h1 h2 w1 hSw => by have hc := hρ.const; clear hρ; clear hSw; go_simp; try with_reducible rfl) ?_; (try simp only [Act.put, List.setIfInBounds_toArray, List.set_cons_succ, List.set_cons_zero])
  refine pureW_e1 125 (by (conv => lhs; whnf; arg 1; whnf)) (by rfl) (by (conv => lhs; whnf)) (fun ρ hρ h1 w1 hSw => by have hc := hρ.const; clear hρ; clear hSw; go_simp; try with_reducible rfl) ?_; (try simp only [Act.put, List.setIfInBounds_toArray, List.set_cons_succ, List.set_cons_zero])
  refine pureW_e1 16 (by (conv => lhs; whnf; arg 1; whnf)) (by rfl) (by (conv => lhs; whnf)) (fun ρ hρ h1 w1 hSw => by have hc := hρ.const; clear hρ; clear hSw; go_simp; try with_reducible rfl) ?_; (try simp only [Act.put, List.setIfInBounds_toArray, List.set_cons_succ, List.set_cons_zero])
  refine pureW_e1 127 (by (conv => lhs; whnf; arg 1; whnf)) (by rfl) (by (conv => lhs; whnf)) (fun ρ hρ h1 w1 hSw => by have hc := hρ.const; clear hρ; rw [HS.out] at hSw; simp only [CellsAt] at hSw; go_simp; try with_reducible rfl) ?_; (try simp only [Act.put, List.setIfInBounds_toArray, List.set_cons_succ, List.set_cons_zero])
  refine pureW_e1 128 (by (conv => lhs; whnf; arg 1; whnf)) (by rfl) (by (conv => lhs; whnf)) (fun ρ hρ h1 w1 hSw => by have hc := hρ.const; clear hρ; clear hSw; go_simp; try with_reducible rfl) ?_; (try simp only [Act.put, List.setIfInBounds_toArray, List.set_cons_succ, List.set_cons_zero])
  refine pureW_e2 126 129 (by (conv => lhs; whnf; arg 1; whnf)) (by rfl) (by (conv => lhs; whnf)) (by (conv => lhs; whnf)) (fun ρ hρ h1 h2 w1 hSw => by have hc := hρ.const; clear hρ; clear hSw; go_simp; try with_reducible rfl) ?_; (try simp only [Act.put, List.setIfInBounds_toArray, List.set_cons_succ, List.set_cons_zero])
  refine pureW_e1 130 (by (conv => lhs; whnf; arg 1; whnf)) (by rfl) (by (conv => lhs; whnf)) (fun ρ hρ h1 w1 hSw => by have hc := hρ.const; clear hρ; clear hSw; go_simp; try with_reducible rfl) ?_; (try simp only [Act.put, List.setIfInBounds_toArray, List.set_cons_succ, List.set_cons_zero])
  refine pureW_e1 19 (by (conv => lhs; whnf; arg 1; whnf)) (by rfl) (by (conv => lhs; whnf)) (fun ρ hρ h1 w1 hSw => by have hc := hρ.const; clear hρ; clear hSw; go_simp; try with_reducible rfl) ?_; (try simp only [Act.put, List.setIfInBounds_toArray, List.set_cons_succ, List.set_cons_zero])
  refine pureW_e2 131 132 (by (conv => lhs; whnf; arg 1; whnf)) (by rfl) (by (conv => lhs; whnf)) (by (conv => lhs; whnf)) (fun ρ hρ h1 h2 w1 hSw => by have hc := hρ.const; clear hρ; clear hSw; go_simp; try with_reducible rfl) ?_; (try simp only [Act.put, List.setIfInBounds_toArray, List.set_cons_succ, List.set_cons_zero])
  refine pureW_e1 133 (by (conv => lhs; whnf; arg 1; whnf)) (by rfl) (by (conv => lhs; whnf)) (fun ρ hρ h1 w1 hSw => by have hc := hρ.const; clear hρ; clear hSw; go_simp; try with_reducible rfl) ?_; (try simp only [Act.put, List.setIfInBounds_toArray, List.set_cons_succ, List.set_cons_zero])
  refine pureW_e1 18 (by (conv => lhs; whnf; arg 1; whnf)) (by rfl) (by (conv => lhs; whnf)) (fun ρ hρ h1 w1 hSw => by have hc := hρ.const; clear hρ; clear hSw; go_simp; try with_reducible rfl) ?_; (try simp only [Act.put, List.setIfInBounds_toArray, List.set_cons_succ, List.set_cons_zero])
  refine pureW_e1 135 (by (conv => lhs; whnf; arg 1; whnf)) (by rfl) (by (conv => lhs; whnf)) (fun ρ hρ h1 w1 hSw => by have hc := hρ.const; clear hρ; rw [HS.out] at hSw; simp only [CellsAt] at hSw; go_simp; try with_reducible rfl) ?_; (try simp only [Act.put, List.setIfInBounds_toArray, List.set_cons_succ, List.set_cons_zero])
  refine pureW_e1 136 (by (conv => lhs; whnf; arg 1; whnf)) (by rfl) (by (conv => lhs; whnf)) (fun ρ hρ h1 w1 hSw => by have hc := hρ.const; clear hρ; clear hSw; go_simp; try with_reducible rfl) ?_; (try simp only [Act.put, List.setIfInBounds_toArray, List.set_cons_succ, List.set_cons_zero])
  refine pureW_e2 134 137 (by (conv => lhs; whnf; arg 1; whnf)) (by rfl) (by (conv => lhs; whnf)) (by (conv => lhs; whnf)) (fun ρ hρ h1 h2 w1 hSw => by have hc := hρ.const; clear hρ; clear hSw; go_simp; try with_reducible rfl) ?_; (try simp only [Act.put, List.setIfInBounds_toArray, List.set_cons_succ, List.set_cons_zero])
  refine pureW_e1 138 (by (conv => lhs; whnf; arg 1; whnf)) (by rfl) (by (conv => lhs; whnf)) (fun ρ hρ h1 w1 hSw => by have hc := hρ.const; clear hρ; clear hSw; go_simp; try with_reducible rfl) ?_; (try simp only [Act.put, List.setIfInBounds_toArray, List.set_cons_succ, List.set_cons_zero])
  refine pureW_nil ?_
  refine wpAnyG_oneN 78 28 (by as_aux_lemma => kernel_rfl) (by as_aux_lemma => kernel_rfl) (by (conv => lhs; whnf; arg 1; whnf)) (by rfl) (fun K hK => ?_)
  go_simp
  refine ((LI.out _).mono fun _ _ => Ret.bl).mono ?_
  rintro e wr2 ⟨rfl, hb⟩
  replace b0 := (b0).below hb
  replace m5 := (m5).below hb
  replace m9 := (m9).below hb
  have sw2 := HB.out _ _ sw1 hb
  (try go_simp)
  refine hK.out _ _ sw2 ?_
  clear hK K hb sw1
  refine wpAnyG_takesF [79, 80] 26 (by as_aux_lemma => kernel_rfl) (by as_aux_lemma => kernel_rfl) hp sw2 ?_
  refine pureW_e2 139 140 (by (conv => lhs; whnf; arg 1; whnf)) (by rfl) (by (conv => lhs; whnf)) (by (conv => lhs; whnf)) (fun ρ hρ h1 h2 w1 hSw => by have hc := hρ.const; clear hρ; clear hSw; go_simp; try with_reducible rfl) ?_; (try simp only [Act.put, List.setIfInBounds_toArray, List.set_cons_succ, List.set_cons_zero])
  refine pureW_e1 141 (by (conv => lhs; whnf; arg 1; whnf)) (by rfl) (by (conv => lhs; whnf)) (fun ρ hρ h1 w1 hSw => by have hc := hρ.const; clear hρ; clear hSw; go_simp; try with_reducible rfl) ?_; (try simp only [Act.put, List.setIfInBounds_toArray, List.set_cons_succ, List.set_cons_zero])
  refine pureW_nil ?_
  refine wpAnyG_oneN 81 25 (by as_aux_lemma => kernel_rfl) (by as_aux_lemma => kernel_rfl) (by (conv => lhs; whnf; arg 1; whnf)) (by rfl) (fun K hK => ?_)
  go_simp
  refine ((AN.out _).mono fun _ _ => Ret.bl).mono ?_
  rintro e wr3 ⟨rfl, hb⟩
  replace b0 := (b0).below hb
  replace m5 := (m5).below hb
  replace m9 := (m9).below hb
  have sw3 := HB.out _ _ sw2 hb
  (try go_simp)
  refine hK.out _ _ sw3 ?_
  clear hK K hb sw2
  refine wpAnyG_takesF [82, 83, 84, 85] 21 (by as_aux_lemma => kernel_rfl) (by as_aux_lemma => kernel_rfl) hp sw3 ?_
  refine pureW_e1 143 (by (conv => lhs; whnf; arg 1; whnf)) (by rfl) (by (conv => lhs; whnf)) (fun ρ hρ h1 w1 hSw => by have hc := hρ.const; clear hρ; clear hSw; go_simp; try with_reducible rfl) ?_; (try simp only [Act.put, List.setIfInBounds_toArray, List.set_cons_succ, List.set_cons_zero])
  refine pureW_e2 142 144 (by (conv => lhs; whnf; arg 1; whnf)) (by rfl) (by (conv => lhs; whnf)) (by (conv => lhs; whnf)) (fun ρ hρ h1 h2 w1 hSw => by have hc := hρ.const; clear hρ; clear hSw; go_simp; try with_reducible rfl) ?_; (try simp only [Act.put, List.setIfInBounds_toArray, List.set_cons_succ, List.set_cons_zero])
  refine pureW_e1 145 (by (conv => lhs; whnf; arg 1; whnf)) (by rfl) (by (conv => lhs; whnf)) (fun ρ hρ h1 w1 hSw => by have hc := hρ.const; clear hρ; clear hSw; go_simp; try with_reducible rfl) ?_; (try simp only [Act.put, List.setIfInBounds_toArray, List.set_cons_succ, List.set_cons_zero])
  refine pureW_e1 5 (by (conv => lhs; whnf; arg 1; whnf)) (by rfl) (by (conv => lhs; whnf)) (fun ρ hρ h1 w1 hSw => by have hc := hρ.const; clear hρ; rw [HS.out] at hSw; simp only [CellsAt] at hSw; go_simp; try with_reducible rfl) ?_; (try simp only [Act.put, List.setIfInBounds_toArray, List.set_cons_succ, List.set_cons_zero])
  refine pureW_nil ?_
  refine wpAnyG_oneN 86 20 (by as_aux_lemma => kernel_rfl) (by as_aux_lemma => kernel_rfl) (by (conv => lhs; whnf; arg 1; whnf)) (by rfl) (fun K hK => ?_)
  go_simp
  refine (RT.out _ _ _).mono ?_
  rintro e wr4 ⟨rfl, hb⟩
  replace b0 := (b0).below hb
  replace m5 := (m5).below hb
  replace m9 := (m9).below hb
  have sw4 := HB.out _ _ sw3 hb
  (try go_simp)
  refine hK.out _ _ sw4 ?_
  clear hK K hb sw3
  refine wpAnyG_takesF [87, 88, 89, 91] 16 (by as_aux_lemma => kernel_rfl) (by as_aux_lemma => kernel_rfl) hp sw4 ?_
  refine pureW_e2 146 148 (by (conv => lhs; whnf; arg 1; whnf)) (by rfl) (by (conv => lhs; whnf)) (by (conv => lhs; whnf)) (fun ρ hρ h1 h2 w1 hSw => by have hc := hρ.const; clear hρ; clear hSw; go_simp; try with_reducible rfl) ?_; (try simp only [Act.put, List.setIfInBounds_toArray, List.set_cons_succ, List.set_cons_zero])
  refine pureW_e1 149 (by (conv => lhs; whnf; arg 1; whnf)) (by rfl) (by (conv => lhs; whnf)) (fun ρ hρ h1 w1 hSw => by have hc := hρ.const; clear hρ; clear hSw; go_simp; try with_reducible rfl) ?_; (try simp only [Act.put, List.setIfInBounds_toArray, List.set_cons_succ, List.set_cons_zero])
  refine pureW_e1 5 (by (conv => lhs; whnf; arg 1; whnf)) (by rfl) (by (conv => lhs; whnf)) (fun ρ hρ h1 w1 hSw => by have hc := hρ.const; clear hρ; rw [HS.out] at hSw; simp only [CellsAt] at hSw; go_simp; try with_reducible rfl) ?_; (try simp only [Act.put, List.setIfInBounds_toArray, List.set_cons_succ, List.set_cons_zero])
  refine pureW_e1 5 (by (conv => lhs; whnf; arg 1; whnf)) (by rfl) (by (conv => lhs; whnf)) (fun ρ hρ h1 w1 hSw => by have hc := hρ.const; clear hρ; rw [HS.out] at hSw; simp only [CellsAt] at hSw; go_simp; try with_reducible rfl) ?_; (try simp only [Act.put, List.setIfInBounds_toArray, List.set_cons_succ, List.set_cons_zero])
  refine pureW_nil ?_
  refine wpAnyG_oneN 90 15 (by as_aux_lemma => kernel_rfl) (by as_aux_lemma => kernel_rfl) (by (conv => lhs; whnf; arg 1; whnf)) (by rfl) (fun K hK => ?_)
  go_simp
  refine (OW.out _ _ _ m5.byt).mono ?_
  rintro e wr5 ⟨A0, n0, c0, rfl, m0, hb⟩
  replace b0 := (b0).below hb
  replace m5 := (m5).below hb
  replace m9 := (m9).below hb
  obtain rfl : n0 = 0 := by have h := m0.len; simpa using h.symm
  have sw5 := HB.out _ _ sw4 hb
  (try go_simp)
  refine hK.out _ _ sw5 ?_
  clear hK K hb sw4
  refine wpAnyG_oneN 92 14 (by as_aux_lemma => kernel_rfl) (by as_aux_lemma => kernel_rfl) (by (conv => lhs; whnf; arg 1; whnf)) (by rfl) (fun K hK => ?_)
  go_simp
  refine (SM2.out _ _ _ _ _ m0.byt m5.byt).mono ?_
  rintro e wr6 ⟨rfl, hb⟩
  replace b0 := (b0).below hb
  replace m5 := (m5).below hb
  replace m9 := (m9).below hb
  have sw6 := HB.out _ _ sw5 hb
  (try go_simp)
  refine hK.out _ _ sw6 ?_
  clear hK K hb sw5
  refine wpAnyG_takesF [93, 94, 95, 96] 10 (by as_aux_lemma => kernel_rfl) (by as_aux_lemma => kernel_rfl) hp sw6 ?_
  refine pureW_e2 150 154 (by (conv => lhs; whnf; arg 1; whnf)) (by rfl) (by (conv => lhs; whnf)) (by (conv => lhs; whnf)) (fun ρ hρ h1 h2 w1 hSw => by have hc := hρ.const; clear hρ; clear hSw; go_simp; try with_reducible rfl) ?_; (try simp only [Act.put, List.setIfInBounds_toArray, List.set_cons_succ, List.set_cons_zero])
  refine pureW_e1 155 (by (conv => lhs; whnf; arg 1; whnf)) (by rfl) (by (conv => lhs; whnf)) (fun ρ hρ h1 w1 hSw => by have hc := hρ.const; clear hρ; clear hSw; go_simp; try with_reducible rfl) ?_; (try simp only [Act.put, List.setIfInBounds_toArray, List.set_cons_succ, List.set_cons_zero])
  refine pureW_e1 5 (by (conv => lhs; whnf; arg 1; whnf)) (by rfl) (by (conv => lhs; whnf)) (fun ρ hρ h1 w1 hSw => by have hc := hρ.const; clear hρ; rw [HS.out] at hSw; simp only [CellsAt] at hSw; go_simp; try with_reducible rfl) ?_; (try simp only [Act.put, List.setIfInBounds_toArray, List.set_cons_succ, List.set_cons_zero])
  refine pureW_e1 1 (by (conv => lhs; whnf; arg 1; whnf)) (by rfl) (by (conv => lhs; whnf)) (fun ρ hρ h1 w1 hSw => by have hc := hρ.const; clear hρ; rw [HS.out] at hSw; simp only [CellsAt] at hSw; go_simp; try with_reducible rfl) ?_; (try simp only [Act.put, List.setIfInBounds_toArray, List.set_cons_succ, List.set_cons_zero])
  refine pureW_nil ?_
  refine wpAnyG_oneN 97 9 (by as_aux_lemma => kernel_rfl) (by as_aux_lemma => kernel_rfl) (by (conv => lhs; whnf; arg 1; whnf)) (by rfl) (fun K hK => ?_)
  go_simp
  refine (SM3.out _ _ _ m5.byt).mono ?_
  rintro e wr7 ⟨rfl, hb⟩
  replace b0 := (b0).below hb
  replace m5 := (m5).below hb
  replace m9 := (m9).below hb
  have sw7 := HB.out _ _ sw6 hb
  (try go_simp)
  refine hK.out _ _ sw7 ?_
  clear hK K hb sw6
  refine wpAnyG_takesF [98, 99, 100, 101] 5 (by as_aux_lemma => kernel_rfl) (by as_aux_lemma => kernel_rfl) hp sw7 ?_
  refine pureW_e1 159 (by (conv => lhs; whnf; arg 1; whnf)) (by rfl) (by (conv => lhs; whnf)) (fun ρ hρ h1 w1 hSw => by have hc := hρ.const; clear hρ; clear hSw; go_simp; try with_reducible rfl) ?_; (try simp only [Act.put, List.setIfInBounds_toArray, List.set_cons_succ, List.set_cons_zero])
  refine pureW_e2 156 160 (by (conv => lhs; whnf; arg 1; whnf)) (by rfl) (by (conv => lhs; whnf)) (by (conv => lhs; whnf)) (fun ρ hρ h1 h2 w1 hSw => by have hc := hρ.const; clear hρ; clear hSw; go_simp; try with_reducible rfl) ?_; (try simp only [Act.put, List.setIfInBounds_toArray, List.set_cons_succ, List.set_cons_zero])
  refine pureW_e1 161 (by (conv => lhs; whnf; arg 1; whnf)) (by rfl) (by (conv => lhs; whnf)) (fun ρ hρ h1 w1 hSw => by have hc := hρ.const; clear hρ; clear hSw; go_simp; try with_reducible rfl) ?_; (try simp only [Act.put, List.setIfInBounds_toArray, List.set_cons_succ, List.set_cons_zero])
  refine pureW_e1 5 (by (conv => lhs; whnf; arg 1; whnf)) (by rfl) (by (conv => lhs; whnf)) (fun ρ hρ h1 w1 hSw => by have hc := hρ.const; clear hρ; rw [HS.out] at hSw; simp only [CellsAt] at hSw; go_simp; try with_reducible rfl) ?_; (try simp only [Act.put, List.setIfInBounds_toArray, List.set_cons_succ, List.set_cons_zero])
  refine pureW_nil ?_
  refine wpAnyG_oneN 102 4 (by as_aux_lemma => kernel_rfl) (by as_aux_lemma => kernel_rfl) (by (conv => lhs; whnf; arg 1; whnf)) (by rfl) (fun K hK => ?_)
  go_simp
  refine (OV.out _ _ _ m5.byt).mono ?_
  rintro e wr8 ⟨A6, n6, c6, rfl, m6, hb⟩
  replace b0 := (b0).below hb
  replace m5 := (m5).below hb
  replace m9 := (m9).below hb
  have hf6 := hfl A6 n6 c6
  have sw8 := HB.out _ _ sw7 hb
  (try go_simp)
  refine hK.out _ _ sw8 ?_
  clear hK K hb sw7
  refine wpAnyG_takesF [103, 104, 105, 106] 0 (by as_aux_lemma => kernel_rfl) (by as_aux_lemma => kernel_rfl) hp sw8 ?_
  refine pureW_e1 164 (by (conv => lhs; whnf; arg 1; whnf)) (by rfl) (by (conv => lhs; whnf)) (fun ρ hρ h1 w1 hSw => by have hc := hρ.const; clear hρ; clear hSw; go_simp; try with_reducible rfl) ?_; (try simp only [Act.put, List.setIfInBounds_toArray, List.set_cons_succ, List.set_cons_zero])
  refine pureW_e1 165 (by (conv => lhs; whnf; arg 1; whnf)) (by rfl) (by (conv => lhs; whnf)) (fun ρ hρ h1 w1 hSw => by have hc := hρ.const; clear hρ; clear hSw; go_simp; try with_reducible rfl) ?_; (try simp only [Act.put, List.setIfInBounds_toArray, List.set_cons_succ, List.set_cons_zero])
  refine pureW_e2 162 166 (by (conv => lhs; whnf; arg 1; whnf)) (by rfl) (by (conv => lhs; whnf)) (by (conv => lhs; whnf)) (fun ρ hρ h1 h2 w1 hSw => by have hc := hρ.const; clear hρ; clear hSw; go_simp; try with_reducible rfl) ?_; (try simp only [Act.put, List.setIfInBounds_toArray, List.set_cons_succ, List.set_cons_zero])
  refine pureW_e1 167 (by (conv => lhs; whnf; arg 1; whnf)) (by rfl) (by (conv => lhs; whnf)) (fun ρ hρ h1 w1 hSw => by have hc := hρ.const; clear hρ; clear hSw; go_simp; try with_reducible rfl) ?_; (try simp only [Act.put, List.setIfInBounds_toArray, List.set_cons_zero])
  refine pureW_nil ?_
  refine wpAnyG_done (by as_aux_lemma => kernel_rfl) ?_ _
  rw [HQ.out]
  go_wp2
  go_ret
  exact ⟨rfl, b0.out⟩
end Go.Proofs.Ytaaeflomjcpfpaa
