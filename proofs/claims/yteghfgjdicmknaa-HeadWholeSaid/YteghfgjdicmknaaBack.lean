/- HeadBack: what is put is taken; what is taken has just those bytes: the walk (printed by genback.py). -/
import Derived.Test.YteghfgjdicmknaaTells
import Derived.Test.YteghfgjdicmknaaHb
namespace Go.Proofs.Yteghfgjdicmknaa
open Go.RowKit Go.Shelf
set_option linter.unusedVariables false

theorem Mine.pos {base : Nat} {w : World} {A : Option Addr} {n c : Nat} {l : List Int} (h : Mine base w A n c l) (hn : 0 < n) : ∃ g, A = some ⟨g, 0, none⟩ ∧ base ≤ g ∧ g < w.heap.size := by
  rcases h.cases with ⟨_, h0, _⟩ | ⟨g, e, hb, hs, _⟩
  · omega
  · exact ⟨g, e, hb, hs⟩
theorem Byt.farP {w : World} {A : Option Addr} {n c : Nat} {l : List Int} (h : Byt w A n c l) (hn : 0 < n) {p : Addr} (hp : w.heap.size ≤ p.block) {w' : World} (hb : Below w.heap.size w w') (v : Value) : Byt (w'.setCell p v) A n c l := by
  obtain ⟨b, o, e, hlt, _⟩ := h.cell hn
  refine (h.below hb).far (fun b' o' e' => ?_) v
  rw [e] at e'
  simp at e'
  omega

set_option maxRecDepth 100000 in
set_option maxHeartbeats 600000 in
theorem backBig (L k f s : Int) (A : Option Addr) (n c : Nat) (W : World) (hl : 3000 < n) :
    Calls Try.prog 4 #[.agg #[.int .i64 L, .int .u8 k, .int .u8 f, .int .i64 s], .slice A n c] W fun e w' => e = .returned (.bool true) ∧ Below W.heap.size W w' := by
  have b0 := (Bel.refl W).alloc (.cells #[.int .i64 L, .int .u8 k, .int .u8 f, .int .i64 s] 23)
  go_enter Try.func4, Try.ntmps4
  go_wp2_with (first | (go_at_call 7; refine (fWakes _).mono ?_; rintro e w' ⟨rfl, hb⟩; replace b0 := Bel.step (W := W) (by repeat (first | exact b0 | refine Bel.alloc ?_ _)) hb))
  go_ret
  exact ⟨rfl, b0.out⟩

set_option maxRecDepth 100000 in
set_option maxHeartbeats 600000 in
theorem backYesShort (L k f s : Int) (A : Option Addr) (n c : Nat) (l : List Int) (W : World) (h : Byt W A n c l) (h1 : n ≤ 3000) (P : List Int)
    (P1 : Hid (∀ w, Calls Try.prog 8 #[.agg #[.int .i64 L, .int .u8 k, .int .u8 f, .int .i64 s]] w fun e W' => ∃ A c, e = .returned (.tuple #[.slice A 9 c, .int .i64 0]) ∧ Mine w.heap.size W' A 9 c P ∧ Below w.heap.size w W'))
    (R2 : Hid (∀ w, Calls Try.prog 16 #[.agg #[.int .i64 L, .int .u8 k, .int .u8 f, .int .i64 s]] w (BoolP true w)))
    (hPl : Hid (P.length = 9))
    (T0 : Hid (∀ (w : World) (A : Option Addr) (c : Nat), Byt w A (9 + n) c (P ++ l) → Calls Try.prog 10 #[.slice A (9 + n) c] w fun e W' => ∃ A c, e = .returned (.tuple #[.agg #[.int .i64 L, .int .u8 k, .int .u8 f, .int .i64 s], .slice A n c, .int .i64 0]) ∧ Mine w.heap.size W' A n c l ∧ Below w.heap.size w W'))
    (T1 : Hid (∀ w, Byt w A n c l → Calls Try.prog 10 #[.slice A n c] w (TakeQ 0 0 0 0 [] 10 w))) (hn : n < 9) :
    Calls Try.prog 4 #[.agg #[.int .i64 L, .int .u8 k, .int .u8 f, .int .i64 s], .slice A n c] W fun e w' => e = .returned (.bool true) ∧ Below W.heap.size W w' := by
  have q := Blk4.new W 23 (.int .i64 L) (.int .u8 k) (.int .u8 f) (.int .i64 s)
  have b0 := (Bel.refl W).alloc (.cells #[.int .i64 L, .int .u8 k, .int .u8 f, .int .i64 s] 23)
  have y := h.alloc (.cells #[.int .i64 L, .int .u8 k, .int .u8 f, .int .i64 s] 23)
  have hcap := y.cap
  clear h
  go_enter Try.func4, Try.ntmps4
  go_wp2_with fail
  refine (P1.out _).mono ?_
  rintro e w1 ⟨A1, c1, rfl, m1, hb⟩
  replace b0 := (b0).below hb; replace q := (q).below hb; replace y := (y).below hb
  have y1 := m1.byt
  obtain ⟨z0, z1, z2, z3⟩ := q.cells
  go_wp2_with fail
  refine (R2.out _).mono ?_
  rintro e w2 ⟨rfl, hb⟩
  replace b0 := (b0).below hb; replace q := (q).below hb; replace y := (y).below hb; replace y1 := (y1).below hb
  clear z0 z1 z2 z3
  have sz2 := b0.out.size
  go_wp2_with (first
    | (at_builtin; refine wpList_copy w2 rfl (.tmp 46) (.tmp 47) rfl rfl (by rfl) A1 9 c1 P rfl y1 (by decide) ?_; intro A3 c3 w3 m3 hb3)
    | (at_builtin; go_must (refine wpList_app w3 rfl (.tmp 48) (.tmp 49) rfl w2.heap.size A3 9 c3 P rfl m3 A n c l rfl (y.below hb3) (by have := hPl.out; have := y.len; omega) hb3.size ?_); intro A4 c4 w4 m4 hb4 _ _))
  have hb34 := hb3.trans hb4
  replace b0 := (b0).below hb34; replace q := (q).below hb34; replace y := (y).below hb34
  refine (T0.out _ _ _ m4.byt).mono ?_
  rintro e w5 ⟨A5, c5, rfl, m5, hb⟩
  replace b0 := (b0).below hb; replace q := (q).below hb; replace y := (y).below hb
  have q5 := Blk4.new w5 23 (.int .i64 L) (.int .u8 k) (.int .u8 f) (.int .i64 s)
  have y5 := m5.byt.alloc (.cells #[.int .i64 L, .int .u8 k, .int .u8 f, .int .i64 s] 23)
  replace q := q.alloc (.cells #[.int .i64 L, .int .u8 k, .int .u8 f, .int .i64 s] 23)
  replace b0 := b0.alloc (.cells #[.int .i64 L, .int .u8 k, .int .u8 f, .int .i64 s] 23)
  replace y := y.alloc (.cells #[.int .i64 L, .int .u8 k, .int .u8 f, .int .i64 s] 23)
  obtain ⟨z0, z1, z2, z3⟩ := q.cells
  obtain ⟨x0, x1, x2, x3⟩ := q5.cells
  clear hb3 hb4 hb34
  go_wp2_with fail
  refine (fSameT l _ y5 y).mono ?_
  rintro e w' ⟨rfl, rfl⟩
  clear z0 z1 z2 z3 x0 x1 x2 x3 q5 y5 m5 m4 m3
  have hlt : decide ((n : Int) < 9) = true := decide_eq_true (by omega)
  go_wp2_with fail
  refine (T1.out _ y).mono ?_
  rintro e w6 ⟨⟨A6, m6, c6, rfl, h6⟩, hb⟩
  replace b0 := (b0).below hb; replace q := (q).below hb; replace y := (y).below hb
  have e6 := h6.len
  obtain rfl : m6 = 0 := by simpa using e6.symm
  have q6 := Blk4.new w6 23 (.int .i64 0) (.int .u8 0) (.int .u8 0) (.int .i64 0)
  replace b0 := b0.alloc (.cells #[.int .i64 0, .int .u8 0, .int .u8 0, .int .i64 0] 23)
  obtain ⟨z0, z1, z2, z3⟩ := q6.cells
  go_wp2_with (first | (go_at_call 7; refine (fWakes _).mono ?_; rintro e w' ⟨rfl, hb⟩; replace b0 := b0.step hb))
  go_ret
  exact ⟨rfl, b0.out⟩

set_option maxRecDepth 100000 in
set_option maxHeartbeats 600000 in
theorem backYesNine (L k f s : Int) (A : Option Addr) (n c : Nat) (l : List Int) (W : World) (h : Byt W A n c l) (h1 : n ≤ 3000) (P : List Int)
    (P1 : Hid (∀ w, Calls Try.prog 8 #[.agg #[.int .i64 L, .int .u8 k, .int .u8 f, .int .i64 s]] w fun e W' => ∃ A c, e = .returned (.tuple #[.slice A 9 c, .int .i64 0]) ∧ Mine w.heap.size W' A 9 c P ∧ Below w.heap.size w W'))
    (R2 : Hid (∀ w, Calls Try.prog 16 #[.agg #[.int .i64 L, .int .u8 k, .int .u8 f, .int .i64 s]] w (BoolP true w)))
    (hPl : Hid (P.length = 9))
    (T0 : Hid (∀ (w : World) (A : Option Addr) (c : Nat), Byt w A (9 + n) c (P ++ l) → Calls Try.prog 10 #[.slice A (9 + n) c] w fun e W' => ∃ A c, e = .returned (.tuple #[.agg #[.int .i64 L, .int .u8 k, .int .u8 f, .int .i64 s], .slice A n c, .int .i64 0]) ∧ Mine w.heap.size W' A n c l ∧ Below w.heap.size w W'))
    (TL TK TF TS V V' : Int) (R C : List Int)
    (T1 : Hid (∀ w, Byt w A n c l → Calls Try.prog 10 #[.slice A n c] w (TakeQ TL TK TF TS (l.drop 9) 0 w)))
    (P3 : Hid (∀ w, Calls Try.prog 8 #[.agg #[.int .i64 TL, .int .u8 TK, .int .u8 TF, .int .i64 TS]] w fun e W' => ∃ A c, e = .returned (.tuple #[.slice A 9 c, .int .i64 0]) ∧ Mine w.heap.size W' A 9 c ((l.take 9).set 5 V') ∧ Below w.heap.size w W'))
    (hV : Hid ((l.take 9)[5]?.getD 0 = V)) (hV' : bits .and .u8 V 127 = V') (v0 : 0 ≤ V') (v1 : V' ≤ 255) (hn : 9 ≤ n) (hc : Hid (c = 9)) :
    Calls Try.prog 4 #[.agg #[.int .i64 L, .int .u8 k, .int .u8 f, .int .i64 s], .slice A n c] W fun e w' => e = .returned (.bool true) ∧ Below W.heap.size W w' := by
  have q := Blk4.new W 23 (.int .i64 L) (.int .u8 k) (.int .u8 f) (.int .i64 s)
  have b0 := (Bel.refl W).alloc (.cells #[.int .i64 L, .int .u8 k, .int .u8 f, .int .i64 s] 23)
  have y := h.alloc (.cells #[.int .i64 L, .int .u8 k, .int .u8 f, .int .i64 s] 23)
  have hcap := y.cap
  clear h
  go_enter Try.func4, Try.ntmps4
  go_wp2_with fail
  refine (P1.out _).mono ?_
  rintro e w1 ⟨A1, c1, rfl, m1, hb⟩
  replace b0 := (b0).below hb; replace q := (q).below hb; replace y := (y).below hb
  have y1 := m1.byt
  obtain ⟨z0, z1, z2, z3⟩ := q.cells
  go_wp2_with fail
  refine (R2.out _).mono ?_
  rintro e w2 ⟨rfl, hb⟩
  replace b0 := (b0).below hb; replace q := (q).below hb; replace y := (y).below hb; replace y1 := (y1).below hb
  clear z0 z1 z2 z3
  have sz2 := b0.out.size
  go_wp2_with (first
    | (at_builtin; refine wpList_copy w2 rfl (.tmp 46) (.tmp 47) rfl rfl (by rfl) A1 9 c1 P rfl y1 (by decide) ?_; intro A3 c3 w3 m3 hb3)
    | (at_builtin; go_must (refine wpList_app w3 rfl (.tmp 48) (.tmp 49) rfl w2.heap.size A3 9 c3 P rfl m3 A n c l rfl (y.below hb3) (by have := hPl.out; have := y.len; omega) hb3.size ?_); intro A4 c4 w4 m4 hb4 _ _))
  have hb34 := hb3.trans hb4
  replace b0 := (b0).below hb34; replace q := (q).below hb34; replace y := (y).below hb34
  refine (T0.out _ _ _ m4.byt).mono ?_
  rintro e w5 ⟨A5, c5, rfl, m5, hb⟩
  replace b0 := (b0).below hb; replace q := (q).below hb; replace y := (y).below hb
  have q5 := Blk4.new w5 23 (.int .i64 L) (.int .u8 k) (.int .u8 f) (.int .i64 s)
  have y5 := m5.byt.alloc (.cells #[.int .i64 L, .int .u8 k, .int .u8 f, .int .i64 s] 23)
  replace q := q.alloc (.cells #[.int .i64 L, .int .u8 k, .int .u8 f, .int .i64 s] 23)
  replace b0 := b0.alloc (.cells #[.int .i64 L, .int .u8 k, .int .u8 f, .int .i64 s] 23)
  replace y := y.alloc (.cells #[.int .i64 L, .int .u8 k, .int .u8 f, .int .i64 s] 23)
  obtain ⟨z0, z1, z2, z3⟩ := q.cells
  obtain ⟨x0, x1, x2, x3⟩ := q5.cells
  clear hb3 hb4 hb34
  go_wp2_with fail
  refine (fSameT l _ y5 y).mono ?_
  rintro e w' ⟨rfl, rfl⟩
  clear z0 z1 z2 z3 x0 x1 x2 x3 q5 y5 m5 m4 m3
  have hlt : decide ((n : Int) < 9) = false := decide_eq_false (by omega)
  go_wp2_with fail
  refine (T1.out _ y).mono ?_
  rintro e w6 ⟨⟨A6, m6, c6, rfl, h6⟩, hb⟩
  replace b0 := (b0).below hb; replace q := (q).below hb; replace y := (y).below hb
  have q6 := Blk4.new w6 23 (.int .i64 TL) (.int .u8 TK) (.int .u8 TF) (.int .i64 TS)
  replace h6 := h6.alloc (.cells #[.int .i64 TL, .int .u8 TK, .int .u8 TF, .int .i64 TS] 23)
  replace b0 := b0.alloc (.cells #[.int .i64 TL, .int .u8 TK, .int .u8 TF, .int .i64 TS] 23)
  replace y := y.alloc (.cells #[.int .i64 TL, .int .u8 TK, .int .u8 TF, .int .i64 TS] 23)
  have sz6 := b0.out.size
  have g9 : (9 : Int) ≤ (c : Int) := by omega
  have g8 : (9 : Int) ≤ (n : Int) := by omega
  have hnc : (n : Int) ≤ (c : Int) := by omega
  have hb6s : w6.heap.size < (w6.alloc (.cells #[.int .i64 TL, .int .u8 TK, .int .u8 TF, .int .i64 TS] 23)).heap.size := by simp
  go_wp2_with (at_builtin; go_must (refine wpList_copy (w6.alloc (.cells #[.int .i64 TL, .int .u8 TK, .int .u8 TF, .int .i64 TS] 23)) rfl (.tmp 97) (.tmp 99) rfl rfl (by simp) A 9 c (l.take 9) rfl (y.init (k := 9) hn) (by decide) ?_); intro A7 c7 w7 m7 hb7; obtain ⟨g7, rfl, hg7, hgs⟩ := m7.pos (by decide); have cc := m7.cellAt (j := 5) (by decide); have ff := m7.frozenAt 5; rw [hV.out] at cc; have m8 := m7.stored 5 v0 v1; have q8 := (q6.below hb7).setFar (p := ⟨g7, 5, none⟩) (Nat.ne_of_lt (Nat.lt_of_lt_of_le hb6s hg7)) (.int .u8 V'); have y8 := y.farP (p := ⟨g7, 5, none⟩) (Nat.lt_of_lt_of_le (by decide) hn) hg7 hb7 (.int .u8 V'); have h8 := (h6.below hb7).far (p := ⟨g7, 5, none⟩) (fun g e => h6.cases.elim (fun h => by simp [h.1] at e) (fun ⟨g', e', _, hl, _⟩ => by rw [e'] at e; simp at e; subst e; exact Nat.ne_of_lt (Nat.lt_of_lt_of_le hl hg7))) (.int .u8 V'); have b8 : Bel W (w7.setCell ⟨g7, 5, none⟩ (.int .u8 V')) := ⟨(b0.step hb7).out.setCell (p := ⟨g7, 5, none⟩) (Nat.le_trans sz6 hg7) _⟩; obtain ⟨z0, z1, z2, z3⟩ := q8.cells; clear q8 m7 hb7)
  refine (P3.out _).mono ?_
  rintro e w9 ⟨A9, c9, rfl, m9, hb⟩
  replace b8 := (b8).below hb; replace m8 := (m8).below hb; replace y8 := (y8).below hb; replace h8 := (h8).below hb
  clear cc ff z0 z1 z2 z3
  go_wp2_with fail
  refine (fSameT _ _ m9.byt m8.byt).mono ?_
  rintro e w' ⟨rfl, rfl⟩
  have yt : Byt w9 A (n - 9) 0 (l.drop 9) := by have e := hc.out; subst e; exact y8.tail_all hn
  have hcc := hc.out
  go_wp2_with fail
  refine (fSameT _ _ h8.byt yt).mono ?_
  rintro e w' ⟨rfl, rfl⟩
  have b0 := b8
  go_wp2_with (first | (go_at_call 7; refine (fWakes _).mono ?_; rintro e w' ⟨rfl, hb⟩; replace b0 := b0.step hb))
  go_ret
  exact ⟨rfl, b0.out⟩

set_option maxRecDepth 100000 in
set_option maxHeartbeats 600000 in
theorem backYesMore (L k f s : Int) (A : Option Addr) (n c : Nat) (l : List Int) (W : World) (h : Byt W A n c l) (h1 : n ≤ 3000) (P : List Int)
    (P1 : Hid (∀ w, Calls Try.prog 8 #[.agg #[.int .i64 L, .int .u8 k, .int .u8 f, .int .i64 s]] w fun e W' => ∃ A c, e = .returned (.tuple #[.slice A 9 c, .int .i64 0]) ∧ Mine w.heap.size W' A 9 c P ∧ Below w.heap.size w W'))
    (R2 : Hid (∀ w, Calls Try.prog 16 #[.agg #[.int .i64 L, .int .u8 k, .int .u8 f, .int .i64 s]] w (BoolP true w)))
    (hPl : Hid (P.length = 9))
    (T0 : Hid (∀ (w : World) (A : Option Addr) (c : Nat), Byt w A (9 + n) c (P ++ l) → Calls Try.prog 10 #[.slice A (9 + n) c] w fun e W' => ∃ A c, e = .returned (.tuple #[.agg #[.int .i64 L, .int .u8 k, .int .u8 f, .int .i64 s], .slice A n c, .int .i64 0]) ∧ Mine w.heap.size W' A n c l ∧ Below w.heap.size w W'))
    (TL TK TF TS V V' : Int) (R C : List Int)
    (T1 : Hid (∀ w, Byt w A n c l → Calls Try.prog 10 #[.slice A n c] w (TakeQ TL TK TF TS (l.drop 9) 0 w)))
    (P3 : Hid (∀ w, Calls Try.prog 8 #[.agg #[.int .i64 TL, .int .u8 TK, .int .u8 TF, .int .i64 TS]] w fun e W' => ∃ A c, e = .returned (.tuple #[.slice A 9 c, .int .i64 0]) ∧ Mine w.heap.size W' A 9 c ((l.take 9).set 5 V') ∧ Below w.heap.size w W'))
    (hV : Hid ((l.take 9)[5]?.getD 0 = V)) (hV' : bits .and .u8 V 127 = V') (v0 : 0 ≤ V') (v1 : V' ≤ 255) (hn : 9 ≤ n) (hc : ¬ c = 9) :
    Calls Try.prog 4 #[.agg #[.int .i64 L, .int .u8 k, .int .u8 f, .int .i64 s], .slice A n c] W fun e w' => e = .returned (.bool true) ∧ Below W.heap.size W w' := by
  have q := Blk4.new W 23 (.int .i64 L) (.int .u8 k) (.int .u8 f) (.int .i64 s)
  have b0 := (Bel.refl W).alloc (.cells #[.int .i64 L, .int .u8 k, .int .u8 f, .int .i64 s] 23)
  have y := h.alloc (.cells #[.int .i64 L, .int .u8 k, .int .u8 f, .int .i64 s] 23)
  have hcap := y.cap
  clear h
  go_enter Try.func4, Try.ntmps4
  go_wp2_with fail
  refine (P1.out _).mono ?_
  rintro e w1 ⟨A1, c1, rfl, m1, hb⟩
  replace b0 := (b0).below hb; replace q := (q).below hb; replace y := (y).below hb
  have y1 := m1.byt
  obtain ⟨z0, z1, z2, z3⟩ := q.cells
  go_wp2_with fail
  refine (R2.out _).mono ?_
  rintro e w2 ⟨rfl, hb⟩
  replace b0 := (b0).below hb; replace q := (q).below hb; replace y := (y).below hb; replace y1 := (y1).below hb
  clear z0 z1 z2 z3
  have sz2 := b0.out.size
  go_wp2_with (first
    | (at_builtin; refine wpList_copy w2 rfl (.tmp 46) (.tmp 47) rfl rfl (by rfl) A1 9 c1 P rfl y1 (by decide) ?_; intro A3 c3 w3 m3 hb3)
    | (at_builtin; go_must (refine wpList_app w3 rfl (.tmp 48) (.tmp 49) rfl w2.heap.size A3 9 c3 P rfl m3 A n c l rfl (y.below hb3) (by have := hPl.out; have := y.len; omega) hb3.size ?_); intro A4 c4 w4 m4 hb4 _ _))
  have hb34 := hb3.trans hb4
  replace b0 := (b0).below hb34; replace q := (q).below hb34; replace y := (y).below hb34
  refine (T0.out _ _ _ m4.byt).mono ?_
  rintro e w5 ⟨A5, c5, rfl, m5, hb⟩
  replace b0 := (b0).below hb; replace q := (q).below hb; replace y := (y).below hb
  have q5 := Blk4.new w5 23 (.int .i64 L) (.int .u8 k) (.int .u8 f) (.int .i64 s)
  have y5 := m5.byt.alloc (.cells #[.int .i64 L, .int .u8 k, .int .u8 f, .int .i64 s] 23)
  replace q := q.alloc (.cells #[.int .i64 L, .int .u8 k, .int .u8 f, .int .i64 s] 23)
  replace b0 := b0.alloc (.cells #[.int .i64 L, .int .u8 k, .int .u8 f, .int .i64 s] 23)
  replace y := y.alloc (.cells #[.int .i64 L, .int .u8 k, .int .u8 f, .int .i64 s] 23)
  obtain ⟨z0, z1, z2, z3⟩ := q.cells
  obtain ⟨x0, x1, x2, x3⟩ := q5.cells
  clear hb3 hb4 hb34
  go_wp2_with fail
  refine (fSameT l _ y5 y).mono ?_
  rintro e w' ⟨rfl, rfl⟩
  clear z0 z1 z2 z3 x0 x1 x2 x3 q5 y5 m5 m4 m3
  have hlt : decide ((n : Int) < 9) = false := decide_eq_false (by omega)
  go_wp2_with fail
  refine (T1.out _ y).mono ?_
  rintro e w6 ⟨⟨A6, m6, c6, rfl, h6⟩, hb⟩
  replace b0 := (b0).below hb; replace q := (q).below hb; replace y := (y).below hb
  have q6 := Blk4.new w6 23 (.int .i64 TL) (.int .u8 TK) (.int .u8 TF) (.int .i64 TS)
  replace h6 := h6.alloc (.cells #[.int .i64 TL, .int .u8 TK, .int .u8 TF, .int .i64 TS] 23)
  replace b0 := b0.alloc (.cells #[.int .i64 TL, .int .u8 TK, .int .u8 TF, .int .i64 TS] 23)
  replace y := y.alloc (.cells #[.int .i64 TL, .int .u8 TK, .int .u8 TF, .int .i64 TS] 23)
  have sz6 := b0.out.size
  have g9 : (9 : Int) ≤ (c : Int) := by omega
  have g8 : (9 : Int) ≤ (n : Int) := by omega
  have hnc : (n : Int) ≤ (c : Int) := by omega
  have hb6s : w6.heap.size < (w6.alloc (.cells #[.int .i64 TL, .int .u8 TK, .int .u8 TF, .int .i64 TS] 23)).heap.size := by simp
  go_wp2_with (at_builtin; go_must (refine wpList_copy (w6.alloc (.cells #[.int .i64 TL, .int .u8 TK, .int .u8 TF, .int .i64 TS] 23)) rfl (.tmp 97) (.tmp 99) rfl rfl (by simp) A 9 c (l.take 9) rfl (y.init (k := 9) hn) (by decide) ?_); intro A7 c7 w7 m7 hb7; obtain ⟨g7, rfl, hg7, hgs⟩ := m7.pos (by decide); have cc := m7.cellAt (j := 5) (by decide); have ff := m7.frozenAt 5; rw [hV.out] at cc; have m8 := m7.stored 5 v0 v1; have q8 := (q6.below hb7).setFar (p := ⟨g7, 5, none⟩) (Nat.ne_of_lt (Nat.lt_of_lt_of_le hb6s hg7)) (.int .u8 V'); have y8 := y.farP (p := ⟨g7, 5, none⟩) (Nat.lt_of_lt_of_le (by decide) hn) hg7 hb7 (.int .u8 V'); have h8 := (h6.below hb7).far (p := ⟨g7, 5, none⟩) (fun g e => h6.cases.elim (fun h => by simp [h.1] at e) (fun ⟨g', e', _, hl, _⟩ => by rw [e'] at e; simp at e; subst e; exact Nat.ne_of_lt (Nat.lt_of_lt_of_le hl hg7))) (.int .u8 V'); have b8 : Bel W (w7.setCell ⟨g7, 5, none⟩ (.int .u8 V')) := ⟨(b0.step hb7).out.setCell (p := ⟨g7, 5, none⟩) (Nat.le_trans sz6 hg7) _⟩; obtain ⟨z0, z1, z2, z3⟩ := q8.cells; clear q8 m7 hb7)
  refine (P3.out _).mono ?_
  rintro e w9 ⟨A9, c9, rfl, m9, hb⟩
  replace b8 := (b8).below hb; replace m8 := (m8).below hb; replace y8 := (y8).below hb; replace h8 := (h8).below hb
  clear cc ff z0 z1 z2 z3
  go_wp2_with fail
  refine (fSameT _ _ m9.byt m8.byt).mono ?_
  rintro e w' ⟨rfl, rfl⟩
  obtain ⟨bb, oo, rfl, _, _⟩ := y8.cell (Nat.lt_of_lt_of_le (by decide) hn)
  have yt := y8.tail hn hc
  go_wp2_with fail
  refine (fSameT _ _ h8.byt yt).mono ?_
  rintro e w' ⟨rfl, rfl⟩
  have b0 := b8
  go_wp2_with (first | (go_at_call 7; refine (fWakes _).mono ?_; rintro e w' ⟨rfl, hb⟩; replace b0 := b0.step hb))
  go_ret
  exact ⟨rfl, b0.out⟩

set_option maxRecDepth 100000 in
set_option maxHeartbeats 600000 in
theorem backNoShort (L k f s : Int) (A : Option Addr) (n c : Nat) (l : List Int) (W : World) (h : Byt W A n c l) (h1 : n ≤ 3000) (P : List Int)
    (P1 : Hid (∀ w, Calls Try.prog 8 #[.agg #[.int .i64 L, .int .u8 k, .int .u8 f, .int .i64 s]] w fun e W' => ∃ A c, e = .returned (.tuple #[.slice A 0 c, .int .i64 2]) ∧ Mine w.heap.size W' A 0 c P ∧ Below w.heap.size w W'))
    (R2 : Hid (∀ w, Calls Try.prog 16 #[.agg #[.int .i64 L, .int .u8 k, .int .u8 f, .int .i64 s]] w (BoolP false w)))
    (T1 : Hid (∀ w, Byt w A n c l → Calls Try.prog 10 #[.slice A n c] w (TakeQ 0 0 0 0 [] 10 w))) (hn : n < 9) :
    Calls Try.prog 4 #[.agg #[.int .i64 L, .int .u8 k, .int .u8 f, .int .i64 s], .slice A n c] W fun e w' => e = .returned (.bool true) ∧ Below W.heap.size W w' := by
  have q := Blk4.new W 23 (.int .i64 L) (.int .u8 k) (.int .u8 f) (.int .i64 s)
  have b0 := (Bel.refl W).alloc (.cells #[.int .i64 L, .int .u8 k, .int .u8 f, .int .i64 s] 23)
  have y := h.alloc (.cells #[.int .i64 L, .int .u8 k, .int .u8 f, .int .i64 s] 23)
  have hcap := y.cap
  clear h
  go_enter Try.func4, Try.ntmps4
  go_wp2_with fail
  refine (P1.out _).mono ?_
  rintro e w1 ⟨A1, c1, rfl, m1, hb⟩
  replace b0 := (b0).below hb; replace q := (q).below hb; replace y := (y).below hb
  have y1 := m1.byt
  obtain ⟨z0, z1, z2, z3⟩ := q.cells
  go_wp2_with fail
  refine (R2.out _).mono ?_
  rintro e w2 ⟨rfl, hb⟩
  replace b0 := (b0).below hb; replace q := (q).below hb; replace y := (y).below hb; replace y1 := (y1).below hb
  clear z0 z1 z2 z3
  have hlt : decide ((n : Int) < 9) = true := decide_eq_true (by omega)
  go_wp2_with fail
  refine (T1.out _ y).mono ?_
  rintro e w6 ⟨⟨A6, m6, c6, rfl, h6⟩, hb⟩
  replace b0 := (b0).below hb; replace q := (q).below hb; replace y := (y).below hb
  have e6 := h6.len
  obtain rfl : m6 = 0 := by simpa using e6.symm
  have q6 := Blk4.new w6 23 (.int .i64 0) (.int .u8 0) (.int .u8 0) (.int .i64 0)
  replace b0 := b0.alloc (.cells #[.int .i64 0, .int .u8 0, .int .u8 0, .int .i64 0] 23)
  obtain ⟨z0, z1, z2, z3⟩ := q6.cells
  go_wp2_with (first | (go_at_call 7; refine (fWakes _).mono ?_; rintro e w' ⟨rfl, hb⟩; replace b0 := b0.step hb))
  go_ret
  exact ⟨rfl, b0.out⟩

set_option maxRecDepth 100000 in
set_option maxHeartbeats 600000 in
theorem backNoNine (L k f s : Int) (A : Option Addr) (n c : Nat) (l : List Int) (W : World) (h : Byt W A n c l) (h1 : n ≤ 3000) (P : List Int)
    (P1 : Hid (∀ w, Calls Try.prog 8 #[.agg #[.int .i64 L, .int .u8 k, .int .u8 f, .int .i64 s]] w fun e W' => ∃ A c, e = .returned (.tuple #[.slice A 0 c, .int .i64 2]) ∧ Mine w.heap.size W' A 0 c P ∧ Below w.heap.size w W'))
    (R2 : Hid (∀ w, Calls Try.prog 16 #[.agg #[.int .i64 L, .int .u8 k, .int .u8 f, .int .i64 s]] w (BoolP false w)))
    (TL TK TF TS V V' : Int) (R C : List Int)
    (T1 : Hid (∀ w, Byt w A n c l → Calls Try.prog 10 #[.slice A n c] w (TakeQ TL TK TF TS (l.drop 9) 0 w)))
    (P3 : Hid (∀ w, Calls Try.prog 8 #[.agg #[.int .i64 TL, .int .u8 TK, .int .u8 TF, .int .i64 TS]] w fun e W' => ∃ A c, e = .returned (.tuple #[.slice A 9 c, .int .i64 0]) ∧ Mine w.heap.size W' A 9 c ((l.take 9).set 5 V') ∧ Below w.heap.size w W'))
    (hV : Hid ((l.take 9)[5]?.getD 0 = V)) (hV' : bits .and .u8 V 127 = V') (v0 : 0 ≤ V') (v1 : V' ≤ 255) (hn : 9 ≤ n) (hc : Hid (c = 9)) :
    Calls Try.prog 4 #[.agg #[.int .i64 L, .int .u8 k, .int .u8 f, .int .i64 s], .slice A n c] W fun e w' => e = .returned (.bool true) ∧ Below W.heap.size W w' := by
  have q := Blk4.new W 23 (.int .i64 L) (.int .u8 k) (.int .u8 f) (.int .i64 s)
  have b0 := (Bel.refl W).alloc (.cells #[.int .i64 L, .int .u8 k, .int .u8 f, .int .i64 s] 23)
  have y := h.alloc (.cells #[.int .i64 L, .int .u8 k, .int .u8 f, .int .i64 s] 23)
  have hcap := y.cap
  clear h
  go_enter Try.func4, Try.ntmps4
  go_wp2_with fail
  refine (P1.out _).mono ?_
  rintro e w1 ⟨A1, c1, rfl, m1, hb⟩
  replace b0 := (b0).below hb; replace q := (q).below hb; replace y := (y).below hb
  have y1 := m1.byt
  obtain ⟨z0, z1, z2, z3⟩ := q.cells
  go_wp2_with fail
  refine (R2.out _).mono ?_
  rintro e w2 ⟨rfl, hb⟩
  replace b0 := (b0).below hb; replace q := (q).below hb; replace y := (y).below hb; replace y1 := (y1).below hb
  clear z0 z1 z2 z3
  have hlt : decide ((n : Int) < 9) = false := decide_eq_false (by omega)
  go_wp2_with fail
  refine (T1.out _ y).mono ?_
  rintro e w6 ⟨⟨A6, m6, c6, rfl, h6⟩, hb⟩
  replace b0 := (b0).below hb; replace q := (q).below hb; replace y := (y).below hb
  have q6 := Blk4.new w6 23 (.int .i64 TL) (.int .u8 TK) (.int .u8 TF) (.int .i64 TS)
  replace h6 := h6.alloc (.cells #[.int .i64 TL, .int .u8 TK, .int .u8 TF, .int .i64 TS] 23)
  replace b0 := b0.alloc (.cells #[.int .i64 TL, .int .u8 TK, .int .u8 TF, .int .i64 TS] 23)
  replace y := y.alloc (.cells #[.int .i64 TL, .int .u8 TK, .int .u8 TF, .int .i64 TS] 23)
  have sz6 := b0.out.size
  have g9 : (9 : Int) ≤ (c : Int) := by omega
  have g8 : (9 : Int) ≤ (n : Int) := by omega
  have hnc : (n : Int) ≤ (c : Int) := by omega
  have hb6s : w6.heap.size < (w6.alloc (.cells #[.int .i64 TL, .int .u8 TK, .int .u8 TF, .int .i64 TS] 23)).heap.size := by simp
  go_wp2_with (at_builtin; go_must (refine wpList_copy (w6.alloc (.cells #[.int .i64 TL, .int .u8 TK, .int .u8 TF, .int .i64 TS] 23)) rfl (.tmp 97) (.tmp 99) rfl rfl (by simp) A 9 c (l.take 9) rfl (y.init (k := 9) hn) (by decide) ?_); intro A7 c7 w7 m7 hb7; obtain ⟨g7, rfl, hg7, hgs⟩ := m7.pos (by decide); have cc := m7.cellAt (j := 5) (by decide); have ff := m7.frozenAt 5; rw [hV.out] at cc; have m8 := m7.stored 5 v0 v1; have q8 := (q6.below hb7).setFar (p := ⟨g7, 5, none⟩) (Nat.ne_of_lt (Nat.lt_of_lt_of_le hb6s hg7)) (.int .u8 V'); have y8 := y.farP (p := ⟨g7, 5, none⟩) (Nat.lt_of_lt_of_le (by decide) hn) hg7 hb7 (.int .u8 V'); have h8 := (h6.below hb7).far (p := ⟨g7, 5, none⟩) (fun g e => h6.cases.elim (fun h => by simp [h.1] at e) (fun ⟨g', e', _, hl, _⟩ => by rw [e'] at e; simp at e; subst e; exact Nat.ne_of_lt (Nat.lt_of_lt_of_le hl hg7))) (.int .u8 V'); have b8 : Bel W (w7.setCell ⟨g7, 5, none⟩ (.int .u8 V')) := ⟨(b0.step hb7).out.setCell (p := ⟨g7, 5, none⟩) (Nat.le_trans sz6 hg7) _⟩; obtain ⟨z0, z1, z2, z3⟩ := q8.cells; clear q8 m7 hb7)
  refine (P3.out _).mono ?_
  rintro e w9 ⟨A9, c9, rfl, m9, hb⟩
  replace b8 := (b8).below hb; replace m8 := (m8).below hb; replace y8 := (y8).below hb; replace h8 := (h8).below hb
  clear cc ff z0 z1 z2 z3
  go_wp2_with fail
  refine (fSameT _ _ m9.byt m8.byt).mono ?_
  rintro e w' ⟨rfl, rfl⟩
  have yt : Byt w9 A (n - 9) 0 (l.drop 9) := by have e := hc.out; subst e; exact y8.tail_all hn
  have hcc := hc.out
  go_wp2_with fail
  refine (fSameT _ _ h8.byt yt).mono ?_
  rintro e w' ⟨rfl, rfl⟩
  have b0 := b8
  go_wp2_with (first | (go_at_call 7; refine (fWakes _).mono ?_; rintro e w' ⟨rfl, hb⟩; replace b0 := b0.step hb))
  go_ret
  exact ⟨rfl, b0.out⟩

set_option maxRecDepth 100000 in
set_option maxHeartbeats 600000 in
theorem backNoMore (L k f s : Int) (A : Option Addr) (n c : Nat) (l : List Int) (W : World) (h : Byt W A n c l) (h1 : n ≤ 3000) (P : List Int)
    (P1 : Hid (∀ w, Calls Try.prog 8 #[.agg #[.int .i64 L, .int .u8 k, .int .u8 f, .int .i64 s]] w fun e W' => ∃ A c, e = .returned (.tuple #[.slice A 0 c, .int .i64 2]) ∧ Mine w.heap.size W' A 0 c P ∧ Below w.heap.size w W'))
    (R2 : Hid (∀ w, Calls Try.prog 16 #[.agg #[.int .i64 L, .int .u8 k, .int .u8 f, .int .i64 s]] w (BoolP false w)))
    (TL TK TF TS V V' : Int) (R C : List Int)
    (T1 : Hid (∀ w, Byt w A n c l → Calls Try.prog 10 #[.slice A n c] w (TakeQ TL TK TF TS (l.drop 9) 0 w)))
    (P3 : Hid (∀ w, Calls Try.prog 8 #[.agg #[.int .i64 TL, .int .u8 TK, .int .u8 TF, .int .i64 TS]] w fun e W' => ∃ A c, e = .returned (.tuple #[.slice A 9 c, .int .i64 0]) ∧ Mine w.heap.size W' A 9 c ((l.take 9).set 5 V') ∧ Below w.heap.size w W'))
    (hV : Hid ((l.take 9)[5]?.getD 0 = V)) (hV' : bits .and .u8 V 127 = V') (v0 : 0 ≤ V') (v1 : V' ≤ 255) (hn : 9 ≤ n) (hc : ¬ c = 9) :
    Calls Try.prog 4 #[.agg #[.int .i64 L, .int .u8 k, .int .u8 f, .int .i64 s], .slice A n c] W fun e w' => e = .returned (.bool true) ∧ Below W.heap.size W w' := by
  have q := Blk4.new W 23 (.int .i64 L) (.int .u8 k) (.int .u8 f) (.int .i64 s)
  have b0 := (Bel.refl W).alloc (.cells #[.int .i64 L, .int .u8 k, .int .u8 f, .int .i64 s] 23)
  have y := h.alloc (.cells #[.int .i64 L, .int .u8 k, .int .u8 f, .int .i64 s] 23)
  have hcap := y.cap
  clear h
  go_enter Try.func4, Try.ntmps4
  go_wp2_with fail
  refine (P1.out _).mono ?_
  rintro e w1 ⟨A1, c1, rfl, m1, hb⟩
  replace b0 := (b0).below hb; replace q := (q).below hb; replace y := (y).below hb
  have y1 := m1.byt
  obtain ⟨z0, z1, z2, z3⟩ := q.cells
  go_wp2_with fail
  refine (R2.out _).mono ?_
  rintro e w2 ⟨rfl, hb⟩
  replace b0 := (b0).below hb; replace q := (q).below hb; replace y := (y).below hb; replace y1 := (y1).below hb
  clear z0 z1 z2 z3
  have hlt : decide ((n : Int) < 9) = false := decide_eq_false (by omega)
  go_wp2_with fail
  refine (T1.out _ y).mono ?_
  rintro e w6 ⟨⟨A6, m6, c6, rfl, h6⟩, hb⟩
  replace b0 := (b0).below hb; replace q := (q).below hb; replace y := (y).below hb
  have q6 := Blk4.new w6 23 (.int .i64 TL) (.int .u8 TK) (.int .u8 TF) (.int .i64 TS)
  replace h6 := h6.alloc (.cells #[.int .i64 TL, .int .u8 TK, .int .u8 TF, .int .i64 TS] 23)
  replace b0 := b0.alloc (.cells #[.int .i64 TL, .int .u8 TK, .int .u8 TF, .int .i64 TS] 23)
  replace y := y.alloc (.cells #[.int .i64 TL, .int .u8 TK, .int .u8 TF, .int .i64 TS] 23)
  have sz6 := b0.out.size
  have g9 : (9 : Int) ≤ (c : Int) := by omega
  have g8 : (9 : Int) ≤ (n : Int) := by omega
  have hnc : (n : Int) ≤ (c : Int) := by omega
  have hb6s : w6.heap.size < (w6.alloc (.cells #[.int .i64 TL, .int .u8 TK, .int .u8 TF, .int .i64 TS] 23)).heap.size := by simp
  go_wp2_with (at_builtin; go_must (refine wpList_copy (w6.alloc (.cells #[.int .i64 TL, .int .u8 TK, .int .u8 TF, .int .i64 TS] 23)) rfl (.tmp 97) (.tmp 99) rfl rfl (by simp) A 9 c (l.take 9) rfl (y.init (k := 9) hn) (by decide) ?_); intro A7 c7 w7 m7 hb7; obtain ⟨g7, rfl, hg7, hgs⟩ := m7.pos (by decide); have cc := m7.cellAt (j := 5) (by decide); have ff := m7.frozenAt 5; rw [hV.out] at cc; have m8 := m7.stored 5 v0 v1; have q8 := (q6.below hb7).setFar (p := ⟨g7, 5, none⟩) (Nat.ne_of_lt (Nat.lt_of_lt_of_le hb6s hg7)) (.int .u8 V'); have y8 := y.farP (p := ⟨g7, 5, none⟩) (Nat.lt_of_lt_of_le (by decide) hn) hg7 hb7 (.int .u8 V'); have h8 := (h6.below hb7).far (p := ⟨g7, 5, none⟩) (fun g e => h6.cases.elim (fun h => by simp [h.1] at e) (fun ⟨g', e', _, hl, _⟩ => by rw [e'] at e; simp at e; subst e; exact Nat.ne_of_lt (Nat.lt_of_lt_of_le hl hg7))) (.int .u8 V'); have b8 : Bel W (w7.setCell ⟨g7, 5, none⟩ (.int .u8 V')) := ⟨(b0.step hb7).out.setCell (p := ⟨g7, 5, none⟩) (Nat.le_trans sz6 hg7) _⟩; obtain ⟨z0, z1, z2, z3⟩ := q8.cells; clear q8 m7 hb7)
  refine (P3.out _).mono ?_
  rintro e w9 ⟨A9, c9, rfl, m9, hb⟩
  replace b8 := (b8).below hb; replace m8 := (m8).below hb; replace y8 := (y8).below hb; replace h8 := (h8).below hb
  clear cc ff z0 z1 z2 z3
  go_wp2_with fail
  refine (fSameT _ _ m9.byt m8.byt).mono ?_
  rintro e w' ⟨rfl, rfl⟩
  obtain ⟨bb, oo, rfl, _, _⟩ := y8.cell (Nat.lt_of_lt_of_le (by decide) hn)
  have yt := y8.tail hn hc
  go_wp2_with fail
  refine (fSameT _ _ h8.byt yt).mono ?_
  rintro e w' ⟨rfl, rfl⟩
  have b0 := b8
  go_wp2_with (first | (go_at_call 7; refine (fWakes _).mono ?_; rintro e w' ⟨rfl, hb⟩; replace b0 := b0.step hb))
  go_ret
  exact ⟨rfl, b0.out⟩
end Go.Proofs.Yteghfgjdicmknaa
