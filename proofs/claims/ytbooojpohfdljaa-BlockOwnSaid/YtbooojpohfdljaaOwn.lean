/- BlockOwn: blocks are told in memory of their own: the walk. -/
import Derived.Test.YtbooojpohfdljaaTells
import Derived.Test.YtbooojpohfdljaaJd
import Derived.Test.YtbooojpohfdljaaM
import Derived.Deep.QuietTactic
import Derived.BigQuiet
import Derived.StillTailTactics
namespace Go.Proofs.Ytbooojpohfdljaa
open Go.RowKit Go.Shelf
set_option linter.unusedVariables false

theorem xor_bd (y : Int) (h0 : 0 ≤ y) (h1 : y ≤ 255) : 0 ≤ bits .xor .u8 y 255 ∧ bits .xor .u8 y 255 ≤ 255 := by
  have h : bits .xor .u8 y 255 = IntKind.u8.wrap (((BitVec.ofInt 8 y ^^^ BitVec.ofInt 8 255).toNat : Nat) : Int) := rfl
  rw [h]
  simp [IntKind.wrap, IntKind.signed, IntKind.bits]
  omega

/-- A store of a byte into whatever block of bytes: a slice of the call's own stays one. -/
theorem Mine.poke {base : Nat} {W : World} {A : Option Addr} {n c : Nat} {l : List Int} (h : Mine base W A n c l) (g j : Nat) {y : Int} (y0 : 0 ≤ y) (y1 : y ≤ 255) : ∃ l', Mine base (W.setCell ⟨g, j, none⟩ (.int .u8 y)) A n c l' := by
  by_cases e : A = some ⟨g, 0, none⟩
  · subst e
    exact ⟨_, h.stored j y0 y1⟩
  · exact ⟨l, h.far (fun g' e' eg => e (by rw [e', eg])) _⟩
theorem Blk.poke {W : World} {b g : Nat} {t : TypeId} {cs : Array Value} {base : Nat} {n c : Nat} {l : List Int} (h : Blk W b t cs) (ht : t ≠ 5) (hm : Mine base W (some ⟨g, 0, none⟩) n c l) (j : Nat) (v : Value) : Blk (W.setCell ⟨g, j, none⟩ v) b t cs :=
  h.setFar (p := ⟨g, j, none⟩) (fun e => h.not_row ht hm g rfl e.symm) v
/-- What stays while the two slices are written. -/
structure OwnI (w0 wr : World) (S : Int) (E : Bool) (A : Option Addr) (n c : Nat) (K F St : Int) (B : Option Addr) (m d : Nat) (pd la ic cd : Int) (Pa : Option Addr) (Pn Pc : Nat) (rk al : Bool) (dp wt : Int)
    (N1 N2 N3 N4 : Nat) (oS : Int) (oE : Bool) (A1 : Option Addr) (m1 c1 : Nat) (wS : Int) (wE : Bool) (B1 : Option Addr) (n1 d1 : Nat) : Prop where
  below : Below w0.heap.size w0 wr
  o : ∃ l, Mine w0.heap.size wr A1 m1 c1 l
  w : ∃ l, Mine w0.heap.size wr B1 n1 d1 l
  qb : Blk wr N1 24 #[.int .i64 S, .bool E, .slice A n c]
  qf : Blk wr N2 30 #[.int .u8 K, .int .u8 F, .int .i64 St, .slice B m d, .int .i64 pd, .int .i64 la, .int .i64 ic, .int .u32 cd, .slice Pa Pn Pc, .bool rk, .bool al, .int .i64 dp, .int .u8 wt]
  qo : Blk wr N3 24 #[.int .i64 oS, .bool oE, .slice A1 m1 c1]
  qw : Blk wr N4 24 #[.int .i64 wS, .bool wE, .slice B1 n1 d1]
section
variable {w0 wr wr' : World} {S : Int} {E : Bool} {A : Option Addr} {n c : Nat} {K F St : Int} {B : Option Addr} {m d : Nat} {pd la ic cd : Int} {Pa : Option Addr} {Pn Pc : Nat} {rk al : Bool} {dp wt : Int}
    {N1 N2 N3 N4 : Nat} {oS : Int} {oE : Bool} {A1 : Option Addr} {m1 c1 : Nat} {wS : Int} {wE : Bool} {B1 : Option Addr} {n1 d1 : Nat}
theorem OwnI.drew (h : OwnI w0 wr S E A n c K F St B m d pd la ic cd Pa Pn Pc rk al dp wt N1 N2 N3 N4 oS oE A1 m1 c1 wS wE B1 n1 d1) : OwnI w0 wr.drew S E A n c K F St B m d pd la ic cd Pa Pn Pc rk al dp wt N1 N2 N3 N4 oS oE A1 m1 c1 wS wE B1 n1 d1 :=
  ⟨h.below.trans (drew_below _ _), h.o, h.w, h.qb, h.qf, h.qo, h.qw⟩
theorem OwnI.poke (h : OwnI w0 wr S E A n c K F St B m d pd la ic cd Pa Pn Pc rk al dp wt N1 N2 N3 N4 oS oE A1 m1 c1 wS wE B1 n1 d1) {g n' c' : Nat} {l : List Int} (hm : Mine w0.heap.size wr (some ⟨g, 0, none⟩) n' c' l) (hg : w0.heap.size ≤ g) (j : Nat) {y : Int} (y0 : 0 ≤ y) (y1 : y ≤ 255) :
    OwnI w0 (wr.setCell ⟨g, j, none⟩ (.int .u8 y)) S E A n c K F St B m d pd la ic cd Pa Pn Pc rk al dp wt N1 N2 N3 N4 oS oE A1 m1 c1 wS wE B1 n1 d1 := by
  obtain ⟨lo, ho⟩ := h.o
  obtain ⟨lw, hw⟩ := h.w
  exact ⟨h.below.setCell hg _, ho.poke g j y0 y1, hw.poke g j y0 y1, h.qb.poke (by decide) hm j _, h.qf.poke (by decide) hm j _, h.qo.poke (by decide) hm j _, h.qw.poke (by decide) hm j _⟩
end

set_option maxRecDepth 100000 in
set_option maxHeartbeats 4000000 in
theorem ownBig1 (S : Int) (E : Bool) (A : Option Addr) (n c : Nat) (D : List Int) (K F St : Int) (B : Option Addr) (m d : Nat) (X : List Int) (pd la ic cd : Int) (Pa : Option Addr) (Pn Pc : Nat) (rk al : Bool) (dp wt : Int) (W : World)
    (h : Byt W A n c D) (hx : Byt W B m d X) (g0 : 5000 < n) :
    Calls Try.prog 6 #[.agg #[.int .i64 S, .bool E, .slice A n c], .agg #[.int .u8 K, .int .u8 F, .int .i64 St, .slice B m d, .int .i64 pd, .int .i64 la, .int .i64 ic, .int .u32 cd, .slice Pa Pn Pc, .bool rk, .bool al, .int .i64 dp, .int .u8 wt]] W fun e w' => e = .returned (.bool true) ∧ Below W.heap.size W w' := by
  have G0 := Lib.hid fun w => fGreatE (A := A) (n := n) (c := c) (b := true) (decide_eq_true (by omega)) (Nat.le_trans h.cap h.mx) w
  clear h hx
  have b0 := Bel.refl W
  replace b0 := b0.alloc (.cells #[.int .i64 S, .bool E, .slice A n c] 24)
  have qb := Blk.newAt (b := W.heap.size) W 24 #[.int .i64 S, .bool E, .slice A n c] rfl
  replace b0 := b0.alloc (.cells #[.int .u8 K, .int .u8 F, .int .i64 St, .slice B m d, .int .i64 pd, .int .i64 la, .int .i64 ic, .int .u32 cd, .slice Pa Pn Pc, .bool rk, .bool al, .int .i64 dp, .int .u8 wt] 30)
  replace qb := qb.alloc (.cells #[.int .u8 K, .int .u8 F, .int .i64 St, .slice B m d, .int .i64 pd, .int .i64 la, .int .i64 ic, .int .u32 cd, .slice Pa Pn Pc, .bool rk, .bool al, .int .i64 dp, .int .u8 wt] 30)
  have qf := Blk.newAt (b := W.heap.size + 1) (W.alloc (.cells #[.int .i64 S, .bool E, .slice A n c] 24)) 30 #[.int .u8 K, .int .u8 F, .int .i64 St, .slice B m d, .int .i64 pd, .int .i64 la, .int .i64 ic, .int .u32 cd, .slice Pa Pn Pc, .bool rk, .bool al, .int .i64 dp, .int .u8 wt] (by simp)
  have zqb0 := qb.at 0 rfl
  have zqb1 := qb.at 1 rfl
  have zqb2 := qb.at 2 rfl
  have zqf0 := qf.at 0 rfl
  have zqf1 := qf.at 1 rfl
  have zqf2 := qf.at 2 rfl
  have zqf3 := qf.at 3 rfl
  have zqf4 := qf.at 4 rfl
  have zqf5 := qf.at 5 rfl
  have zqf6 := qf.at 6 rfl
  have zqf7 := qf.at 7 rfl
  have zqf8 := qf.at 8 rfl
  have zqf9 := qf.at 9 rfl
  have zqf10 := qf.at 10 rfl
  have zqf11 := qf.at 11 rfl
  have zqf12 := qf.at 12 rfl
  go_enter Try.func6, Try.ntmps6
  go_wp2_with (first | (go_at_call 7; (with_reducible refine (G0.out _).mono ?_); rintro e w1 ⟨rfl, rfl⟩) | (go_at_call 8; refine (fWakes _).mono ?_; rintro e wk ⟨rfl, hb⟩; replace b0 := b0.below hb))
  go_ret
  exact ⟨rfl, b0.out⟩

set_option maxRecDepth 100000 in
set_option maxHeartbeats 4000000 in
theorem ownBig2 (S : Int) (E : Bool) (A : Option Addr) (n c : Nat) (D : List Int) (K F St : Int) (B : Option Addr) (m d : Nat) (X : List Int) (pd la ic cd : Int) (Pa : Option Addr) (Pn Pc : Nat) (rk al : Bool) (dp wt : Int) (W : World)
    (h : Byt W A n c D) (hx : Byt W B m d X) (g0 : n ≤ 5000) (g1 : 5000 < m) :
    Calls Try.prog 6 #[.agg #[.int .i64 S, .bool E, .slice A n c], .agg #[.int .u8 K, .int .u8 F, .int .i64 St, .slice B m d, .int .i64 pd, .int .i64 la, .int .i64 ic, .int .u32 cd, .slice Pa Pn Pc, .bool rk, .bool al, .int .i64 dp, .int .u8 wt]] W fun e w' => e = .returned (.bool true) ∧ Below W.heap.size W w' := by
  have G0 := Lib.hid fun w => fGreatE (A := A) (n := n) (c := c) (b := false) (decide_eq_false (by omega)) (Nat.le_trans h.cap h.mx) w
  have G1 := Lib.hid fun w => fGreatE (A := B) (n := m) (c := d) (b := true) (decide_eq_true (by omega)) (Nat.le_trans hx.cap hx.mx) w
  clear h hx
  have b0 := Bel.refl W
  replace b0 := b0.alloc (.cells #[.int .i64 S, .bool E, .slice A n c] 24)
  have qb := Blk.newAt (b := W.heap.size) W 24 #[.int .i64 S, .bool E, .slice A n c] rfl
  replace b0 := b0.alloc (.cells #[.int .u8 K, .int .u8 F, .int .i64 St, .slice B m d, .int .i64 pd, .int .i64 la, .int .i64 ic, .int .u32 cd, .slice Pa Pn Pc, .bool rk, .bool al, .int .i64 dp, .int .u8 wt] 30)
  replace qb := qb.alloc (.cells #[.int .u8 K, .int .u8 F, .int .i64 St, .slice B m d, .int .i64 pd, .int .i64 la, .int .i64 ic, .int .u32 cd, .slice Pa Pn Pc, .bool rk, .bool al, .int .i64 dp, .int .u8 wt] 30)
  have qf := Blk.newAt (b := W.heap.size + 1) (W.alloc (.cells #[.int .i64 S, .bool E, .slice A n c] 24)) 30 #[.int .u8 K, .int .u8 F, .int .i64 St, .slice B m d, .int .i64 pd, .int .i64 la, .int .i64 ic, .int .u32 cd, .slice Pa Pn Pc, .bool rk, .bool al, .int .i64 dp, .int .u8 wt] (by simp)
  have zqb0 := qb.at 0 rfl
  have zqb1 := qb.at 1 rfl
  have zqb2 := qb.at 2 rfl
  have zqf0 := qf.at 0 rfl
  have zqf1 := qf.at 1 rfl
  have zqf2 := qf.at 2 rfl
  have zqf3 := qf.at 3 rfl
  have zqf4 := qf.at 4 rfl
  have zqf5 := qf.at 5 rfl
  have zqf6 := qf.at 6 rfl
  have zqf7 := qf.at 7 rfl
  have zqf8 := qf.at 8 rfl
  have zqf9 := qf.at 9 rfl
  have zqf10 := qf.at 10 rfl
  have zqf11 := qf.at 11 rfl
  have zqf12 := qf.at 12 rfl
  go_enter Try.func6, Try.ntmps6
  go_wp2_with (first | (go_at_call 7; (with_reducible refine (G0.out _).mono ?_); rintro e w1 ⟨rfl, rfl⟩) | (go_at_call 7; (with_reducible refine (G1.out _).mono ?_); rintro e w1 ⟨rfl, rfl⟩) | (go_at_call 8; refine (fWakes _).mono ?_; rintro e wk ⟨rfl, hb⟩; replace b0 := b0.below hb))
  go_ret
  exact ⟨rfl, b0.out⟩

noncomputable def ownOps : Array Oper := regAt Try.f6 3

set_option maxRecDepth 100000 in
set_option maxHeartbeats 8000000 in
theorem ownOk (S : Int) (E : Bool) (A : Option Addr) (n c : Nat) (D : List Int) (K F St : Int) (B : Option Addr) (m d : Nat) (X : List Int) (pd la ic cd : Int) (Pa : Option Addr) (Pn Pc : Nat) (rk al : Bool) (dp wt : Int) (W : World)
    (h : Byt W A n c D) (hx : Byt W B m d X) (g0 : n ≤ 5000) (g1 : m ≤ 5000) (S0 : -9223372036854775808 ≤ S) (S1 : S ≤ 9223372036854775807) (f0 : 0 ≤ F) (f1 : F ≤ 255) :
    Calls Try.prog 6 #[.agg #[.int .i64 S, .bool E, .slice A n c], .agg #[.int .u8 K, .int .u8 F, .int .i64 St, .slice B m d, .int .i64 pd, .int .i64 la, .int .i64 ic, .int .u32 cd, .slice Pa Pn Pc, .bool rk, .bool al, .int .i64 dp, .int .u8 wt]] W fun e w' => e = .returned (.bool true) ∧ Below W.heap.size W w' := by
  have G0 := Lib.hid fun w => fGreatE (A := A) (n := n) (c := c) (b := false) (decide_eq_false (by omega)) (Nat.le_trans h.cap h.mx) w
  have G1 := Lib.hid fun w => fGreatE (A := B) (n := m) (c := d) (b := false) (decide_eq_false (by omega)) (Nat.le_trans hx.cap hx.mx) w
  obtain ⟨r, hr⟩ : ∃ r, takeB S E D K F St X = r := ⟨_, rfl⟩
  obtain ⟨oS, oE, oD, wS, wE, wD, done, fw, fc, e'⟩ := r
  have T1 : Hid (∀ w, Byt w A n c D → Byt w B m d X → Calls Try.prog 9 #[.agg #[.int .i64 S, .bool E, .slice A n c], .agg #[.int .u8 K, .int .u8 F, .int .i64 St, .slice B m d, .int .i64 pd, .int .i64 la, .int .i64 ic, .int .u32 cd, .slice Pa Pn Pc, .bool rk, .bool al, .int .i64 dp, .int .u8 wt]] w fun e W' => ∃ A m c B n d, e = .returned (.tuple #[.agg #[.int .i64 oS, .bool oE, .slice A m c], .agg #[.int .i64 wS, .bool wE, .slice B n d], .bool done, .agg #[.bool fw, .int .i64 0, .int .u32 fc], .int .i64 e']) ∧ Mine w.heap.size W' A m c oD ∧ Mine w.heap.size W' B n d wD ∧ Below w.heap.size w W') := Lib.hid fun w h h' => by
    have := fBTake S E A n c D K F St B m d X pd la ic cd Pa Pn Pc rk al dp wt w h h' g0 g1 S0 S1 f0 f1
    rw [hr] at this
    exact this
  clear hr S0 S1 f0 f1
  have b0 := Bel.refl W
  replace b0 := b0.alloc (.cells #[.int .i64 S, .bool E, .slice A n c] 24)
  replace h := h.alloc (.cells #[.int .i64 S, .bool E, .slice A n c] 24)
  replace hx := hx.alloc (.cells #[.int .i64 S, .bool E, .slice A n c] 24)
  have qb := Blk.newAt (b := W.heap.size) W 24 #[.int .i64 S, .bool E, .slice A n c] rfl
  replace b0 := b0.alloc (.cells #[.int .u8 K, .int .u8 F, .int .i64 St, .slice B m d, .int .i64 pd, .int .i64 la, .int .i64 ic, .int .u32 cd, .slice Pa Pn Pc, .bool rk, .bool al, .int .i64 dp, .int .u8 wt] 30)
  replace h := h.alloc (.cells #[.int .u8 K, .int .u8 F, .int .i64 St, .slice B m d, .int .i64 pd, .int .i64 la, .int .i64 ic, .int .u32 cd, .slice Pa Pn Pc, .bool rk, .bool al, .int .i64 dp, .int .u8 wt] 30)
  replace hx := hx.alloc (.cells #[.int .u8 K, .int .u8 F, .int .i64 St, .slice B m d, .int .i64 pd, .int .i64 la, .int .i64 ic, .int .u32 cd, .slice Pa Pn Pc, .bool rk, .bool al, .int .i64 dp, .int .u8 wt] 30)
  replace qb := qb.alloc (.cells #[.int .u8 K, .int .u8 F, .int .i64 St, .slice B m d, .int .i64 pd, .int .i64 la, .int .i64 ic, .int .u32 cd, .slice Pa Pn Pc, .bool rk, .bool al, .int .i64 dp, .int .u8 wt] 30)
  have qf := Blk.newAt (b := W.heap.size + 1) (W.alloc (.cells #[.int .i64 S, .bool E, .slice A n c] 24)) 30 #[.int .u8 K, .int .u8 F, .int .i64 St, .slice B m d, .int .i64 pd, .int .i64 la, .int .i64 ic, .int .u32 cd, .slice Pa Pn Pc, .bool rk, .bool al, .int .i64 dp, .int .u8 wt] (by simp)
  have zqb0 := qb.at 0 rfl
  have zqb1 := qb.at 1 rfl
  have zqb2 := qb.at 2 rfl
  have zqf0 := qf.at 0 rfl
  have zqf1 := qf.at 1 rfl
  have zqf2 := qf.at 2 rfl
  have zqf3 := qf.at 3 rfl
  have zqf4 := qf.at 4 rfl
  have zqf5 := qf.at 5 rfl
  have zqf6 := qf.at 6 rfl
  have zqf7 := qf.at 7 rfl
  have zqf8 := qf.at 8 rfl
  have zqf9 := qf.at 9 rfl
  have zqf10 := qf.at 10 rfl
  have zqf11 := qf.at 11 rfl
  have zqf12 := qf.at 12 rfl
  go_enter Try.func6, Try.ntmps6
  go_wp2_with (first | (go_at_call 7; (with_reducible refine (G0.out _).mono ?_); rintro e w1 ⟨rfl, rfl⟩) | (go_at_call 7; (with_reducible refine (G1.out _).mono ?_); rintro e w1 ⟨rfl, rfl⟩))
  generalize (W.alloc (.cells #[.int .i64 S, .bool E, .slice A n c] 24)).alloc (.cells #[.int .u8 K, .int .u8 F, .int .i64 St, .slice B m d, .int .i64 pd, .int .i64 la, .int .i64 ic, .int .u32 cd, .slice Pa Pn Pc, .bool rk, .bool al, .int .i64 dp, .int .u8 wt] 30) = W2 at *
  obtain ⟨SW, HS⟩ : ∃ SW : World → Prop, Hid (SW = fun w' => CellsAt [(⟨W.heap.size, 0, none⟩, .int .i64 S), (⟨W.heap.size, 1, none⟩, .bool E), (⟨W.heap.size, 2, none⟩, .slice A n c), (⟨W.heap.size + 1, 0, none⟩, .int .u8 K), (⟨W.heap.size + 1, 1, none⟩, .int .u8 F), (⟨W.heap.size + 1, 2, none⟩, .int .i64 St), (⟨W.heap.size + 1, 3, none⟩, .slice B m d), (⟨W.heap.size + 1, 4, none⟩, .int .i64 pd), (⟨W.heap.size + 1, 5, none⟩, .int .i64 la), (⟨W.heap.size + 1, 6, none⟩, .int .i64 ic), (⟨W.heap.size + 1, 7, none⟩, .int .u32 cd), (⟨W.heap.size + 1, 8, none⟩, .slice Pa Pn Pc), (⟨W.heap.size + 1, 9, none⟩, .bool rk), (⟨W.heap.size + 1, 10, none⟩, .bool al), (⟨W.heap.size + 1, 11, none⟩, .int .i64 dp), (⟨W.heap.size + 1, 12, none⟩, .int .u8 wt)] w' ∧ ((convert 22 9 (.slice A n c)).run Try.prog w' = .ok (.string (strOf D)) w') ∧ ((convert 22 9 (.slice B m d)).run Try.prog w' = .ok (.string (strOf X)) w')) := ⟨_, Lib.hid rfl⟩
  have sw0 : SW W2.drew := by
    rw [HS.out]
    exact ⟨⟨qb.at 0 rfl, qb.at 1 rfl, qb.at 2 rfl, qf.at 0 rfl, qf.at 1 rfl, qf.at 2 rfl, qf.at 3 rfl, qf.at 4 rfl, qf.at 5 rfl, qf.at 6 rfl, qf.at 7 rfl, qf.at 8 rfl, qf.at 9 rfl, qf.at 10 rfl, qf.at 11 rfl, qf.at 12 rfl, trivial⟩, h.drew.conv, hx.drew.conv⟩
  clear zqb0 zqb1 zqb2 zqf0 zqf1 zqf2 zqf3 zqf4 zqf5 zqf6 zqf7 zqf8 zqf9 zqf10 zqf11 zqf12
  replace b0 := b0.drew
  replace h := h.drew
  replace hx := hx.drew
  replace qb := qb.drew
  replace qf := qf.drew
  (try simp only [List.append_eq, List.cons_append, List.nil_append])
  refine wp_region_N ownOps SW (by as_aux_lemma => kernel_rfl) (by as_aux_lemma => kernel_rfl) (fun d _ _ _ _ h => by cases d <;> exact h) (fun Q HQ hp => ?_)
  refine wpAnyG_takesF [0, 1, 2, 3, 4, 5, 6, 7] 0 (by as_aux_lemma => kernel_rfl) (by as_aux_lemma => kernel_rfl) hp sw0 ?_
  refine pureW_e1 2 (by (conv => lhs; whnf; arg 1; whnf)) (by rfl) (by (conv => lhs; whnf)) (fun ρ hρ h1 w1 hSw => by have hc := hρ.const; clear hρ; clear hSw; go_simp; try with_reducible rfl) ?_; (try simp only [Act.put, List.setIfInBounds_toArray, List.set_cons_succ, List.set_cons_zero])
  refine pureW_e1 23 (by (conv => lhs; whnf; arg 1; whnf)) (by rfl) (by (conv => lhs; whnf)) (fun ρ hρ h1 w1 hSw => by have hc := hρ.const; clear hρ; rw [HS.out] at hSw; simp only [CellsAt] at hSw; go_simp; try with_reducible rfl) ?_; (try simp only [Act.put, List.setIfInBounds_toArray, List.set_cons_succ, List.set_cons_zero])
  refine pureW_e1 24 (by (conv => lhs; whnf; arg 1; whnf)) (by rfl) (by (conv => lhs; whnf)) (fun ρ hρ h1 w1 hSw => by have hc := hρ.const; clear hρ; rw [HS.out] at hSw; simp only [CellsAt] at hSw; go_simp; try with_reducible rfl) ?_; (try simp only [Act.put, List.setIfInBounds_toArray, List.set_cons_succ, List.set_cons_zero])
  refine pureW_e1 3 (by (conv => lhs; whnf; arg 1; whnf)) (by rfl) (by (conv => lhs; whnf)) (fun ρ hρ h1 w1 hSw => by have hc := hρ.const; clear hρ; clear hSw; go_simp; try with_reducible rfl) ?_; (try simp only [Act.put, List.setIfInBounds_toArray, List.set_cons_succ, List.set_cons_zero])
  refine pureW_e1 26 (by (conv => lhs; whnf; arg 1; whnf)) (by rfl) (by (conv => lhs; whnf)) (fun ρ hρ h1 w1 hSw => by have hc := hρ.const; clear hρ; rw [HS.out] at hSw; simp only [CellsAt] at hSw; go_simp; try with_reducible rfl) ?_; (try simp only [Act.put, List.setIfInBounds_toArray, List.set_cons_succ, List.set_cons_zero])
  refine pureW_e1 27 (by (conv => lhs; whnf; arg 1; whnf)) (by rfl) (by (conv => lhs; whnf)) (fun ρ hρ h1 w1 hSw => by have hc := hρ.const; clear hρ; rw [HS.out] at hSw; simp only [CellsAt] at hSw; go_simp; try with_reducible rfl) ?_; (try simp only [Act.put, List.setIfInBounds_toArray, List.set_cons_succ, List.set_cons_zero])
  refine pureW_e1 25 (by (conv => lhs; whnf; arg 1; whnf)) (by rfl) (by (conv => lhs; whnf)) (fun ρ hρ h1 w1 hSw => by have hc := hρ.const; clear hρ; clear hSw; go_simp; try with_reducible rfl) ?_; (try simp only [Act.put, List.setIfInBounds_toArray, List.set_cons_succ, List.set_cons_zero])
  refine pureW_e1 28 (by (conv => lhs; whnf; arg 1; whnf)) (by rfl) (by (conv => lhs; whnf)) (fun ρ hρ h1 w1 hSw => by have hc := hρ.const; clear hρ; clear hSw; go_simp; try with_reducible rfl) ?_; (try simp only [Act.put, List.setIfInBounds_toArray, List.set_cons_succ, List.set_cons_zero])
  refine pureW_nil ?_
  refine wpAnyG_done (by as_aux_lemma => kernel_rfl) ?_ _
  rw [HQ.out]
  have b00 := b0
  have zqb0 : W2.cell? ⟨W.heap.size, 0, none⟩ = some (.int .i64 S) := qb.at 0 rfl
  have zqb1 : W2.cell? ⟨W.heap.size, 1, none⟩ = some (.bool E) := qb.at 1 rfl
  have zqb2 : W2.cell? ⟨W.heap.size, 2, none⟩ = some (.slice A n c) := qb.at 2 rfl
  have zqf0 : W2.cell? ⟨W.heap.size + 1, 0, none⟩ = some (.int .u8 K) := qf.at 0 rfl
  have zqf1 : W2.cell? ⟨W.heap.size + 1, 1, none⟩ = some (.int .u8 F) := qf.at 1 rfl
  have zqf2 : W2.cell? ⟨W.heap.size + 1, 2, none⟩ = some (.int .i64 St) := qf.at 2 rfl
  have zqf3 : W2.cell? ⟨W.heap.size + 1, 3, none⟩ = some (.slice B m d) := qf.at 3 rfl
  have zqf4 : W2.cell? ⟨W.heap.size + 1, 4, none⟩ = some (.int .i64 pd) := qf.at 4 rfl
  have zqf5 : W2.cell? ⟨W.heap.size + 1, 5, none⟩ = some (.int .i64 la) := qf.at 5 rfl
  have zqf6 : W2.cell? ⟨W.heap.size + 1, 6, none⟩ = some (.int .i64 ic) := qf.at 6 rfl
  have zqf7 : W2.cell? ⟨W.heap.size + 1, 7, none⟩ = some (.int .u32 cd) := qf.at 7 rfl
  have zqf8 : W2.cell? ⟨W.heap.size + 1, 8, none⟩ = some (.slice Pa Pn Pc) := qf.at 8 rfl
  have zqf9 : W2.cell? ⟨W.heap.size + 1, 9, none⟩ = some (.bool rk) := qf.at 9 rfl
  have zqf10 : W2.cell? ⟨W.heap.size + 1, 10, none⟩ = some (.bool al) := qf.at 10 rfl
  have zqf11 : W2.cell? ⟨W.heap.size + 1, 11, none⟩ = some (.int .i64 dp) := qf.at 11 rfl
  have zqf12 : W2.cell? ⟨W.heap.size + 1, 12, none⟩ = some (.int .u8 wt) := qf.at 12 rfl
  go_wp2_with fail
  refine (T1.out _ h hx).mono ?_
  rintro e w1 ⟨A1, m1, c1, B1, n1, d1, rfl, mo, mw, hb⟩
  have hb0 := hb
  generalize hW0 : W2.drew = w0 at *
  clear zqb0 zqb1 zqb2 zqf0 zqf1 zqf2 zqf3 zqf4 zqf5 zqf6 zqf7 zqf8 zqf9 zqf10 zqf11 zqf12
  have h0 := h
  have hx0 := hx
  replace b0 := (b0).below hb; replace h := (h).below hb; replace hx := (hx).below hb; replace qb := (qb).below hb; replace qf := (qf).below hb
  clear h hx
  replace b0 := b0.alloc (.cells #[.int .i64 oS, .bool oE, .slice A1 m1 c1] 24)
  replace qb := qb.alloc (.cells #[.int .i64 oS, .bool oE, .slice A1 m1 c1] 24)
  replace qf := qf.alloc (.cells #[.int .i64 oS, .bool oE, .slice A1 m1 c1] 24)
  have qo := Blk.newAt (b := w1.heap.size) w1 24 #[.int .i64 oS, .bool oE, .slice A1 m1 c1] rfl
  replace b0 := b0.alloc (.cells #[.int .i64 wS, .bool wE, .slice B1 n1 d1] 24)
  replace qb := qb.alloc (.cells #[.int .i64 wS, .bool wE, .slice B1 n1 d1] 24)
  replace qf := qf.alloc (.cells #[.int .i64 wS, .bool wE, .slice B1 n1 d1] 24)
  replace qo := qo.alloc (.cells #[.int .i64 wS, .bool wE, .slice B1 n1 d1] 24)
  have qw := Blk.newAt (b := w1.heap.size + 1) (w1.alloc (.cells #[.int .i64 oS, .bool oE, .slice A1 m1 c1] 24)) 24 #[.int .i64 wS, .bool wE, .slice B1 n1 d1] (by simp)
  replace b0 := b0.alloc (.cells #[.bool fw, .int .i64 0, .int .u32 fc] 34)
  replace qb := qb.alloc (.cells #[.bool fw, .int .i64 0, .int .u32 fc] 34)
  replace qf := qf.alloc (.cells #[.bool fw, .int .i64 0, .int .u32 fc] 34)
  replace qo := qo.alloc (.cells #[.bool fw, .int .i64 0, .int .u32 fc] 34)
  replace qw := qw.alloc (.cells #[.bool fw, .int .i64 0, .int .u32 fc] 34)
  have I0 : OwnI w0 (((w1.alloc (.cells #[.int .i64 oS, .bool oE, .slice A1 m1 c1] 24)).alloc (.cells #[.int .i64 wS, .bool wE, .slice B1 n1 d1] 24)).alloc (.cells #[.bool fw, .int .i64 0, .int .u32 fc] 34)) S E A n c K F St B m d pd la ic cd Pa Pn Pc rk al dp wt W.heap.size (W.heap.size + 1) w1.heap.size (w1.heap.size + 1) oS oE A1 m1 c1 wS wE B1 n1 d1 := ⟨((hb0.alloc hb0.size _).alloc (Nat.le_trans hb0.size (by simp)) _).alloc (Nat.le_trans hb0.size (by simp; omega)) _, ⟨_, ((mo.alloc _).alloc _).alloc _⟩, ⟨_, ((mw.alloc _).alloc _).alloc _⟩, qb, qf, qo, qw⟩
  have BW : W.heap.size ≤ w0.heap.size := by
    exact b00.out.size
  clear mo mw qb qf qo qw hb0 hb b0
  go_wp2_with fail
  go_loopw [12] (fun v wr => ∃ k : Nat, k ≤ m1 ∧ v = .int .i64 k ∧ OwnI w0 wr S E A n c K F St B m d pd la ic cd Pa Pn Pc rk al dp wt W.heap.size (W.heap.size + 1) w1.heap.size (w1.heap.size + 1) oS oE A1 m1 c1 wS wE B1 n1 d1) (fun v _ => m1 - (intOf v).toNat)
  case atStart => exact ⟨0, Nat.zero_le _, rfl, I0⟩
  case round =>
    obtain ⟨k, hk, rfl, I⟩ := hrel
    have z1 := I.qo.at 2 rfl
    by_cases hlt : k < m1
    · obtain ⟨lo, hmn⟩ := I.o
      obtain ⟨_, h0, _⟩ | ⟨g, rfl, hgb, hg, hnc, hcm, _, _⟩ := hmn.cases
      · omega
      have hc1 := hmn.cellAt (j := k) hlt
      have hf1 := hmn.frozenAt k
      have hy := hmn.2.get k
      have hx := xor_bd _ hy.1 hy.2
      have i0 : (0 : Int) ≤ (k : Int) := by omega
      have i1 : (k : Int) < (m1 : Int) := by omega
      have I2 := I.drew.poke (hmn.drew) hgb k hx.1 hx.2
      have HI := Lib.hid I2
      clear I I2 hmn hy hx
      go_wp2_with fail
      go_still_tail 10, (by kernel_rfl)
      go_wp2
      exact ⟨⟨k + 1, by omega, by simp, HI.out⟩, by simp [intOf]; omega⟩
    · obtain rfl : m1 = k := by omega
      go_wp2_with fail
      clear z1
      go_loopw [13] (fun v wr => ∃ k : Nat, k ≤ n1 ∧ v = .int .i64 k ∧ OwnI w0 wr S E A n c K F St B m d pd la ic cd Pa Pn Pc rk al dp wt W.heap.size (W.heap.size + 1) w1.heap.size (w1.heap.size + 1) oS oE A1 m1 c1 wS wE B1 n1 d1) (fun v _ => n1 - (intOf v).toNat)
      case atStart => exact ⟨0, Nat.zero_le _, rfl, I⟩
      case round =>
        obtain ⟨k, hk, rfl, I⟩ := hrel
        have z1 := I.qw.at 2 rfl
        by_cases hlt : k < n1
        · obtain ⟨lo, hmn⟩ := I.w
          obtain ⟨_, h0, _⟩ | ⟨g, rfl, hgb, hg, hnc, hcm, _, _⟩ := hmn.cases
          · omega
          have hc1 := hmn.cellAt (j := k) hlt
          have hf1 := hmn.frozenAt k
          have hy := hmn.2.get k
          have hx := xor_bd _ hy.1 hy.2
          have i0 : (0 : Int) ≤ (k : Int) := by omega
          have i1 : (k : Int) < (n1 : Int) := by omega
          have I2 := I.drew.poke (hmn.drew) hgb k hx.1 hx.2
          have HI := Lib.hid I2
          clear I I2 hmn hy hx
          go_wp2_with fail
          go_still_tail 10, (by kernel_rfl)
          go_wp2
          exact ⟨⟨k + 1, by omega, by simp, HI.out⟩, by simp [intOf]; omega⟩
        · obtain rfl : n1 = k := by omega
          have y1 : Byt wr A n c D := h0.below I.below
          have y2 : Byt wr B m d X := hx0.below I.below
          have b3 : Bel W wr := ⟨b00.out.trans (I.below.mono BW)⟩
          have e1 := y1.conv
          have e2 := y2.conv
          have zb0 := I.qb.at 0 rfl
          have zb1 := I.qb.at 1 rfl
          have zb2 := I.qb.at 2 rfl
          have zf0 := I.qf.at 0 rfl
          have zf1 := I.qf.at 1 rfl
          have zf2 := I.qf.at 2 rfl
          have zf3 := I.qf.at 3 rfl
          have zf4 := I.qf.at 4 rfl
          have zf5 := I.qf.at 5 rfl
          have zf6 := I.qf.at 6 rfl
          have zf7 := I.qf.at 7 rfl
          have zf8 := I.qf.at 8 rfl
          have zf9 := I.qf.at 9 rfl
          have zf10 := I.qf.at 10 rfl
          have zf11 := I.qf.at 11 rfl
          have zf12 := I.qf.at 12 rfl
          clear b00 h0 hx0 y1 y2 I
          go_wp2_with (first | (go_at_call 8; refine (fWakes _).mono ?_; rintro e wk ⟨rfl, hb⟩; replace b3 := b3.below hb))
          go_ret
          exact ⟨rfl, b3.out⟩

theorem wOwn {W : World} (S : Int) (E : Bool) (A : Option Addr) (n c : Nat) (D : List Int) (bS : -9223372036854775808 ≤ S ∧ S ≤ 9223372036854775807) (h : Byt W A n c D)
    (K F St : Int) (B : Option Addr) (m d : Nat) (X : List Int) (pd la ic cd : Int) (Pa : Option Addr) (Pn Pc : Nat) (rk al : Bool) (dp wt : Int) (bF : 0 ≤ F ∧ F ≤ 255) (hx : Byt W B m d X) :
    Calls Try.prog 6 #[.agg #[.int .i64 S, .bool E, .slice A n c], .agg #[.int .u8 K, .int .u8 F, .int .i64 St, .slice B m d, .int .i64 pd, .int .i64 la, .int .i64 ic, .int .u32 cd, .slice Pa Pn Pc, .bool rk, .bool al, .int .i64 dp, .int .u8 wt]] W fun e w' => e = .returned (.bool true) ∧ Below W.heap.size W w' := by
  by_cases g0 : 5000 < n
  · exact ownBig1 S E A n c D K F St B m d X pd la ic cd Pa Pn Pc rk al dp wt W h hx g0
  by_cases g1 : 5000 < m
  · exact ownBig2 S E A n c D K F St B m d X pd la ic cd Pa Pn Pc rk al dp wt W h hx (by omega) g1
  · exact ownOk S E A n c D K F St B m d X pd la ic cd Pa Pn Pc rk al dp wt W h hx (by omega) (by omega) bS.1 bS.2 bF.1 bF.2
end Go.Proofs.Ytbooojpohfdljaa
