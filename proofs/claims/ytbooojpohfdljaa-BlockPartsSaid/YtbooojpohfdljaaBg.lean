/- The statements' own wakes returns true. -/
import Derived.Test.YtbooojpohfdljaaBc
import Derived.Test.YtbooojpohfdljaaBd
import Derived.Test.YtbooojpohfdljaaJc
namespace Go.Proofs.Ytbooojpohfdljaa
open Go.RowKit Go.Shelf
set_option linter.unusedVariables false

instance : DecidablePred Bs := fun l => inferInstanceAs (Decidable (∀ x ∈ l, 0 ≤ x ∧ x ≤ 255))
theorem fBTakeE {S : Int} {E : Bool} {A : Option Addr} {n c : Nat} {D : List Int} {K F St : Int} {B : Option Addr} {m d : Nat} {X : List Int} {pd la ic cd : Int} {Pa : Option Addr} {Pn Pc : Nat} {rk al : Bool} {dp wt : Int}
    {oS : Int} {oE : Bool} {oD : List Int} {wS : Int} {wE : Bool} {wD : List Int} {done fw : Bool} {fc e' : Int} (n1 n2 : Nat) (h1 : oD.length = n1) (h2 : wD.length = n2)
    (hr : takeB S E D K F St X = ⟨oS, oE, oD, wS, wE, wD, done, fw, fc, e'⟩) (w : World)
    (h : Byt w A n c D) (h' : Byt w B m d X) (hn : n ≤ 5000) (hm : m ≤ 5000) (S0 : -9223372036854775808 ≤ S) (S1 : S ≤ 9223372036854775807) (f0 : 0 ≤ F) (f1 : F ≤ 255) :
    Calls Try.prog 9 #[.agg #[.int .i64 S, .bool E, .slice A n c], .agg #[.int .u8 K, .int .u8 F, .int .i64 St, .slice B m d, .int .i64 pd, .int .i64 la, .int .i64 ic, .int .u32 cd, .slice Pa Pn Pc, .bool rk, .bool al, .int .i64 dp, .int .u8 wt]] w fun e W' => ∃ A c B d, e = .returned (.tuple #[.agg #[.int .i64 oS, .bool oE, .slice A n1 c], .agg #[.int .i64 wS, .bool wE, .slice B n2 d], .bool done, .agg #[.bool fw, .int .i64 0, .int .u32 fc], .int .i64 e']) ∧ Mine w.heap.size W' A n1 c oD ∧ Mine w.heap.size W' B n2 d wD ∧ Below w.heap.size w W' := by
  subst h1 h2
  have := fBTake S E A n c D K F St B m d X pd la ic cd Pa Pn Pc rk al dp wt w h h' hn hm S0 S1 f0 f1
  rw [hr] at this
  refine this.mono ?_
  rintro e W' ⟨A, m, c, B, n, d, rfl, hm, hm', hb⟩
  have := hm.len
  subst this
  have := hm'.len
  subst this
  exact ⟨A, c, B, d, rfl, hm, hm', hb⟩
theorem fBOpenE {S : Int} {E : Bool} {A : Option Addr} {n c : Nat} {b : Bool} (hr : openB S = b) (w : World) : Calls Try.prog 14 #[.agg #[.int .i64 S, .bool E, .slice A n c]] w (BoolP b w) := by subst hr; exact fBOpen S E A n c w
theorem fBRightE {S : Int} {E : Bool} {A : Option Addr} {n c : Nat} {D : List Int} {b : Bool} (hr : rightB S E D = b) (w : World) (h : Byt w A n c D) (S0 : -9223372036854775808 ≤ S) (S1 : S ≤ 9223372036854775807) : Calls Try.prog 12 #[.agg #[.int .i64 S, .bool E, .slice A n c]] w (BoolP b w) := by subst hr; exact fBRight S E A n c D w h S0 S1
theorem fBSameE {S : Int} {E : Bool} {A : Option Addr} {n c : Nat} {D : List Int} {S' : Int} {E' : Bool} {B : Option Addr} {m d : Nat} {D' : List Int} {b : Bool} (hr : sameB S E D S' E' D' = b) (w : World) (h : Byt w A n c D) (h' : Byt w B m d D') :
    Calls Try.prog 16 #[.agg #[.int .i64 S, .bool E, .slice A n c], .agg #[.int .i64 S', .bool E', .slice B m d]] w (BoolP b w) := by subst hr; exact fBSame S E A n c D S' E' B m d D' w h h'
theorem rBSameE {S : Int} {E : Bool} {A : Option Addr} {n c : Nat} {D : List Int} {S' : Int} {E' : Bool} {B : Option Addr} {m d : Nat} {D' : List Int} {b : Bool} (hr : sameB S E D S' E' D' = b) (w : World) (h : Byt w A n c D) (h' : Byt w B m d D') :
    Calls Try.prog 11 #[.agg #[.int .i64 S, .bool E, .slice A n c], .agg #[.int .i64 S', .bool E', .slice B m d]] w (BoolP b w) := by subst hr; exact rBSame S E A n c D S' E' B m d D' w h h'


noncomputable def wkOps : Array Oper := regOf Try.f8 95

set_option maxRecDepth 100000 in
set_option maxHeartbeats 8000000 in
theorem fWakes (W : World) : Calls Try.prog 8 #[] W fun e w' => e = .returned (.bool true) ∧ Below W.heap.size W w' := by
  have b0 := Bel.refl W
  go_enter Try.func8, Try.ntmps8
  go_wp2_with fail
  refine (fBTakeE 2 0 rfl rfl (show takeB 0 false [] 1 1 3 [1, 2] = ⟨3, true, [1, 2], 0, false, [], false, false, 0, 0⟩ by kernel_rfl) _ (Byt.nil _) (lit2 (by simp) (by decide)) (by decide) (by decide) (by decide) (by decide) (by decide) (by decide)).mono ?_
  replace b0 := b0.alloc (.cells #[.int .u8 1, .int .u8 2] 5)
  rintro e w1 ⟨A1, c1, B1, d1, rfl, mo1, mw1, hb⟩
  replace b0 := (b0).below hb
  have ya := mo1.byt
  replace b0 := b0.alloc (.cells #[.int .i64 3, .bool true, .slice A1 2 c1] 24)
  replace ya := ya.alloc (.cells #[.int .i64 3, .bool true, .slice A1 2 c1] 24)
  have qa := Blk.newAt (b := w1.heap.size) w1 24 #[.int .i64 3, .bool true, .slice A1 2 c1] rfl
  replace b0 := b0.alloc (.cells #[.int .i64 0, .bool false, .slice B1 0 d1] 24)
  replace ya := ya.alloc (.cells #[.int .i64 0, .bool false, .slice B1 0 d1] 24)
  replace qa := qa.alloc (.cells #[.int .i64 0, .bool false, .slice B1 0 d1] 24)
  replace b0 := b0.alloc (.cells #[.bool false, .int .i64 0, .int .u32 0] 34)
  replace ya := ya.alloc (.cells #[.bool false, .int .i64 0, .int .u32 0] 34)
  replace qa := qa.alloc (.cells #[.bool false, .int .i64 0, .int .u32 0] 34)
  have qf := Blk.newAt (b := w1.heap.size + 1 + 1) ((w1.alloc (.cells #[.int .i64 3, .bool true, .slice A1 2 c1] 24)).alloc (.cells #[.int .i64 0, .bool false, .slice B1 0 d1] 24)) 34 #[.bool false, .int .i64 0, .int .u32 0] (by simp)
  have zqa0 := qa.at 0 rfl
  have zqa1 := qa.at 1 rfl
  have zqa2 := qa.at 2 rfl
  have zqf0 := qf.at 0 rfl
  have zqf1 := qf.at 1 rfl
  have zqf2 := qf.at 2 rfl
  clear mo1 mw1
  go_wp2_with fail
  refine (fBTakeE 0 3 rfl rfl (show takeB 3 true [1, 2] 9 4 3 [4] = ⟨0, false, [], 3, true, [1, 2, 4], true, false, 0, 0⟩ by kernel_rfl) _ (ya.alloc _) (lit1 (by simp) (by decide)) (by decide) (by decide) (by decide) (by decide) (by decide) (by decide)).mono ?_
  replace b0 := b0.alloc (.cells #[.int .u8 4] 5)
  replace ya := ya.alloc (.cells #[.int .u8 4] 5)
  replace qa := qa.alloc (.cells #[.int .u8 4] 5)
  replace qf := qf.alloc (.cells #[.int .u8 4] 5)
  rintro e w2 ⟨A2, c2, B2, d2, rfl, mo2, mw2, hb⟩
  replace b0 := (b0).below hb; replace ya := (ya).below hb; replace qa := (qa).below hb; replace qf := (qf).below hb
  have yb := mo2.byt
  have yw := mw2.byt
  replace b0 := b0.alloc (.cells #[.int .i64 0, .bool false, .slice A2 0 c2] 24)
  replace ya := ya.alloc (.cells #[.int .i64 0, .bool false, .slice A2 0 c2] 24)
  replace qa := qa.alloc (.cells #[.int .i64 0, .bool false, .slice A2 0 c2] 24)
  replace qf := qf.alloc (.cells #[.int .i64 0, .bool false, .slice A2 0 c2] 24)
  replace yb := yb.alloc (.cells #[.int .i64 0, .bool false, .slice A2 0 c2] 24)
  replace yw := yw.alloc (.cells #[.int .i64 0, .bool false, .slice A2 0 c2] 24)
  have qb := Blk.newAt (b := w2.heap.size) w2 24 #[.int .i64 0, .bool false, .slice A2 0 c2] rfl
  replace b0 := b0.alloc (.cells #[.int .i64 3, .bool true, .slice B2 3 d2] 24)
  replace ya := ya.alloc (.cells #[.int .i64 3, .bool true, .slice B2 3 d2] 24)
  replace qa := qa.alloc (.cells #[.int .i64 3, .bool true, .slice B2 3 d2] 24)
  replace qf := qf.alloc (.cells #[.int .i64 3, .bool true, .slice B2 3 d2] 24)
  replace yb := yb.alloc (.cells #[.int .i64 3, .bool true, .slice B2 3 d2] 24)
  replace yw := yw.alloc (.cells #[.int .i64 3, .bool true, .slice B2 3 d2] 24)
  replace qb := qb.alloc (.cells #[.int .i64 3, .bool true, .slice B2 3 d2] 24)
  have qw := Blk.newAt (b := w2.heap.size + 1) (w2.alloc (.cells #[.int .i64 0, .bool false, .slice A2 0 c2] 24)) 24 #[.int .i64 3, .bool true, .slice B2 3 d2] (by simp)
  replace b0 := b0.alloc (.cells #[.bool false, .int .i64 0, .int .u32 0] 34)
  replace ya := ya.alloc (.cells #[.bool false, .int .i64 0, .int .u32 0] 34)
  replace qa := qa.alloc (.cells #[.bool false, .int .i64 0, .int .u32 0] 34)
  replace qf := qf.alloc (.cells #[.bool false, .int .i64 0, .int .u32 0] 34)
  replace yb := yb.alloc (.cells #[.bool false, .int .i64 0, .int .u32 0] 34)
  replace yw := yw.alloc (.cells #[.bool false, .int .i64 0, .int .u32 0] 34)
  replace qb := qb.alloc (.cells #[.bool false, .int .i64 0, .int .u32 0] 34)
  replace qw := qw.alloc (.cells #[.bool false, .int .i64 0, .int .u32 0] 34)
  have qg := Blk.newAt (b := w2.heap.size + 1 + 1) ((w2.alloc (.cells #[.int .i64 0, .bool false, .slice A2 0 c2] 24)).alloc (.cells #[.int .i64 3, .bool true, .slice B2 3 d2] 24)) 34 #[.bool false, .int .i64 0, .int .u32 0] (by simp)
  clear zqa0 zqa1 zqa2 zqf0 zqf1 zqf2
  have zqa0 := qa.at 0 rfl
  have zqa1 := qa.at 1 rfl
  have zqa2 := qa.at 2 rfl
  have zqf0 := qf.at 0 rfl
  have zqf1 := qf.at 1 rfl
  have zqf2 := qf.at 2 rfl
  have zqb0 := qb.at 0 rfl
  have zqb1 := qb.at 1 rfl
  have zqb2 := qb.at 2 rfl
  have zqw0 := qw.at 0 rfl
  have zqw1 := qw.at 1 rfl
  have zqw2 := qw.at 2 rfl
  have zqg0 := qg.at 0 rfl
  have zqg1 := qg.at 1 rfl
  have zqg2 := qg.at 2 rfl
  clear mo2 mw2
  go_wp2_with fail
  refine (fBTakeE 2 0 rfl rfl (show takeB 3 true [1, 2] 6 0 0 [] = ⟨3, true, [1, 2], 0, false, [], false, true, 1, 0⟩ by kernel_rfl) _ ya (Byt.nil _) (by decide) (by decide) (by decide) (by decide) (by decide) (by decide)).mono ?_
  rintro e w3 ⟨A3, c3, B3, d3, rfl, mo3, mw3, hb⟩
  replace b0 := (b0).below hb; replace ya := (ya).below hb; replace qa := (qa).below hb; replace qf := (qf).below hb; replace yb := (yb).below hb; replace yw := (yw).below hb; replace qb := (qb).below hb; replace qw := (qw).below hb; replace qg := (qg).below hb
  replace b0 := b0.alloc (.cells #[.int .i64 3, .bool true, .slice A3 2 c3] 24)
  replace ya := ya.alloc (.cells #[.int .i64 3, .bool true, .slice A3 2 c3] 24)
  replace qa := qa.alloc (.cells #[.int .i64 3, .bool true, .slice A3 2 c3] 24)
  replace qf := qf.alloc (.cells #[.int .i64 3, .bool true, .slice A3 2 c3] 24)
  replace yb := yb.alloc (.cells #[.int .i64 3, .bool true, .slice A3 2 c3] 24)
  replace yw := yw.alloc (.cells #[.int .i64 3, .bool true, .slice A3 2 c3] 24)
  replace qb := qb.alloc (.cells #[.int .i64 3, .bool true, .slice A3 2 c3] 24)
  replace qw := qw.alloc (.cells #[.int .i64 3, .bool true, .slice A3 2 c3] 24)
  replace qg := qg.alloc (.cells #[.int .i64 3, .bool true, .slice A3 2 c3] 24)
  replace b0 := b0.alloc (.cells #[.int .i64 0, .bool false, .slice B3 0 d3] 24)
  replace ya := ya.alloc (.cells #[.int .i64 0, .bool false, .slice B3 0 d3] 24)
  replace qa := qa.alloc (.cells #[.int .i64 0, .bool false, .slice B3 0 d3] 24)
  replace qf := qf.alloc (.cells #[.int .i64 0, .bool false, .slice B3 0 d3] 24)
  replace yb := yb.alloc (.cells #[.int .i64 0, .bool false, .slice B3 0 d3] 24)
  replace yw := yw.alloc (.cells #[.int .i64 0, .bool false, .slice B3 0 d3] 24)
  replace qb := qb.alloc (.cells #[.int .i64 0, .bool false, .slice B3 0 d3] 24)
  replace qw := qw.alloc (.cells #[.int .i64 0, .bool false, .slice B3 0 d3] 24)
  replace qg := qg.alloc (.cells #[.int .i64 0, .bool false, .slice B3 0 d3] 24)
  replace b0 := b0.alloc (.cells #[.bool true, .int .i64 0, .int .u32 1] 34)
  replace ya := ya.alloc (.cells #[.bool true, .int .i64 0, .int .u32 1] 34)
  replace qa := qa.alloc (.cells #[.bool true, .int .i64 0, .int .u32 1] 34)
  replace qf := qf.alloc (.cells #[.bool true, .int .i64 0, .int .u32 1] 34)
  replace yb := yb.alloc (.cells #[.bool true, .int .i64 0, .int .u32 1] 34)
  replace yw := yw.alloc (.cells #[.bool true, .int .i64 0, .int .u32 1] 34)
  replace qb := qb.alloc (.cells #[.bool true, .int .i64 0, .int .u32 1] 34)
  replace qw := qw.alloc (.cells #[.bool true, .int .i64 0, .int .u32 1] 34)
  replace qg := qg.alloc (.cells #[.bool true, .int .i64 0, .int .u32 1] 34)
  have qi := Blk.newAt (b := w3.heap.size + 1 + 1) ((w3.alloc (.cells #[.int .i64 3, .bool true, .slice A3 2 c3] 24)).alloc (.cells #[.int .i64 0, .bool false, .slice B3 0 d3] 24)) 34 #[.bool true, .int .i64 0, .int .u32 1] (by simp)
  clear zqa0 zqa1 zqa2 zqf0 zqf1 zqf2 zqb0 zqb1 zqb2 zqw0 zqw1 zqw2 zqg0 zqg1 zqg2
  have zqa0 := qa.at 0 rfl
  have zqa1 := qa.at 1 rfl
  have zqa2 := qa.at 2 rfl
  have zqf0 := qf.at 0 rfl
  have zqf1 := qf.at 1 rfl
  have zqf2 := qf.at 2 rfl
  have zqb0 := qb.at 0 rfl
  have zqb1 := qb.at 1 rfl
  have zqb2 := qb.at 2 rfl
  have zqw0 := qw.at 0 rfl
  have zqw1 := qw.at 1 rfl
  have zqw2 := qw.at 2 rfl
  have zqg0 := qg.at 0 rfl
  have zqg1 := qg.at 1 rfl
  have zqg2 := qg.at 2 rfl
  have zqi0 := qi.at 0 rfl
  have zqi1 := qi.at 1 rfl
  have zqi2 := qi.at 2 rfl
  clear mo3 mw3
  go_wp2_with fail
  refine (fBTakeE 0 0 rfl rfl (show takeB 0 false [] 9 0 3 [] = ⟨0, false, [], 0, false, [], false, true, 1, 0⟩ by kernel_rfl) _ (Byt.nil _) (Byt.nil _) (by decide) (by decide) (by decide) (by decide) (by decide) (by decide)).mono ?_
  rintro e w4 ⟨A4, c4, B4, d4, rfl, mo4, mw4, hb⟩
  replace b0 := (b0).below hb; replace ya := (ya).below hb; replace qa := (qa).below hb; replace qf := (qf).below hb; replace yb := (yb).below hb; replace yw := (yw).below hb; replace qb := (qb).below hb; replace qw := (qw).below hb; replace qg := (qg).below hb; replace qi := (qi).below hb
  replace b0 := b0.alloc (.cells #[.int .i64 0, .bool false, .slice A4 0 c4] 24)
  replace ya := ya.alloc (.cells #[.int .i64 0, .bool false, .slice A4 0 c4] 24)
  replace qa := qa.alloc (.cells #[.int .i64 0, .bool false, .slice A4 0 c4] 24)
  replace qf := qf.alloc (.cells #[.int .i64 0, .bool false, .slice A4 0 c4] 24)
  replace yb := yb.alloc (.cells #[.int .i64 0, .bool false, .slice A4 0 c4] 24)
  replace yw := yw.alloc (.cells #[.int .i64 0, .bool false, .slice A4 0 c4] 24)
  replace qb := qb.alloc (.cells #[.int .i64 0, .bool false, .slice A4 0 c4] 24)
  replace qw := qw.alloc (.cells #[.int .i64 0, .bool false, .slice A4 0 c4] 24)
  replace qg := qg.alloc (.cells #[.int .i64 0, .bool false, .slice A4 0 c4] 24)
  replace qi := qi.alloc (.cells #[.int .i64 0, .bool false, .slice A4 0 c4] 24)
  replace b0 := b0.alloc (.cells #[.int .i64 0, .bool false, .slice B4 0 d4] 24)
  replace ya := ya.alloc (.cells #[.int .i64 0, .bool false, .slice B4 0 d4] 24)
  replace qa := qa.alloc (.cells #[.int .i64 0, .bool false, .slice B4 0 d4] 24)
  replace qf := qf.alloc (.cells #[.int .i64 0, .bool false, .slice B4 0 d4] 24)
  replace yb := yb.alloc (.cells #[.int .i64 0, .bool false, .slice B4 0 d4] 24)
  replace yw := yw.alloc (.cells #[.int .i64 0, .bool false, .slice B4 0 d4] 24)
  replace qb := qb.alloc (.cells #[.int .i64 0, .bool false, .slice B4 0 d4] 24)
  replace qw := qw.alloc (.cells #[.int .i64 0, .bool false, .slice B4 0 d4] 24)
  replace qg := qg.alloc (.cells #[.int .i64 0, .bool false, .slice B4 0 d4] 24)
  replace qi := qi.alloc (.cells #[.int .i64 0, .bool false, .slice B4 0 d4] 24)
  replace b0 := b0.alloc (.cells #[.bool true, .int .i64 0, .int .u32 1] 34)
  replace ya := ya.alloc (.cells #[.bool true, .int .i64 0, .int .u32 1] 34)
  replace qa := qa.alloc (.cells #[.bool true, .int .i64 0, .int .u32 1] 34)
  replace qf := qf.alloc (.cells #[.bool true, .int .i64 0, .int .u32 1] 34)
  replace yb := yb.alloc (.cells #[.bool true, .int .i64 0, .int .u32 1] 34)
  replace yw := yw.alloc (.cells #[.bool true, .int .i64 0, .int .u32 1] 34)
  replace qb := qb.alloc (.cells #[.bool true, .int .i64 0, .int .u32 1] 34)
  replace qw := qw.alloc (.cells #[.bool true, .int .i64 0, .int .u32 1] 34)
  replace qg := qg.alloc (.cells #[.bool true, .int .i64 0, .int .u32 1] 34)
  replace qi := qi.alloc (.cells #[.bool true, .int .i64 0, .int .u32 1] 34)
  have qk := Blk.newAt (b := w4.heap.size + 1 + 1) ((w4.alloc (.cells #[.int .i64 0, .bool false, .slice A4 0 c4] 24)).alloc (.cells #[.int .i64 0, .bool false, .slice B4 0 d4] 24)) 34 #[.bool true, .int .i64 0, .int .u32 1] (by simp)
  clear zqa0 zqa1 zqa2 zqf0 zqf1 zqf2 zqb0 zqb1 zqb2 zqw0 zqw1 zqw2 zqg0 zqg1 zqg2 zqi0 zqi1 zqi2
  have zqa0 := qa.at 0 rfl
  have zqa1 := qa.at 1 rfl
  have zqa2 := qa.at 2 rfl
  have zqf0 := qf.at 0 rfl
  have zqf1 := qf.at 1 rfl
  have zqf2 := qf.at 2 rfl
  have zqb0 := qb.at 0 rfl
  have zqb1 := qb.at 1 rfl
  have zqb2 := qb.at 2 rfl
  have zqw0 := qw.at 0 rfl
  have zqw1 := qw.at 1 rfl
  have zqw2 := qw.at 2 rfl
  have zqg0 := qg.at 0 rfl
  have zqg1 := qg.at 1 rfl
  have zqg2 := qg.at 2 rfl
  have zqi0 := qi.at 0 rfl
  have zqi1 := qi.at 1 rfl
  have zqi2 := qi.at 2 rfl
  have zqk0 := qk.at 0 rfl
  have zqk1 := qk.at 1 rfl
  have zqk2 := qk.at 2 rfl
  clear mo4 mw4
  go_wp2_with fail
  refine (fBTakeE 0 0 rfl rfl (show takeB 0 false [] 6 0 0 [] = ⟨0, false, [], 0, false, [], false, false, 0, 0⟩ by kernel_rfl) _ (Byt.nil _) (Byt.nil _) (by decide) (by decide) (by decide) (by decide) (by decide) (by decide)).mono ?_
  rintro e w5 ⟨A5, c5, B5, d5, rfl, mo5, mw5, hb⟩
  replace b0 := (b0).below hb; replace ya := (ya).below hb; replace qa := (qa).below hb; replace qf := (qf).below hb; replace yb := (yb).below hb; replace yw := (yw).below hb; replace qb := (qb).below hb; replace qw := (qw).below hb; replace qg := (qg).below hb; replace qi := (qi).below hb; replace qk := (qk).below hb
  replace b0 := b0.alloc (.cells #[.int .i64 0, .bool false, .slice A5 0 c5] 24)
  replace ya := ya.alloc (.cells #[.int .i64 0, .bool false, .slice A5 0 c5] 24)
  replace qa := qa.alloc (.cells #[.int .i64 0, .bool false, .slice A5 0 c5] 24)
  replace qf := qf.alloc (.cells #[.int .i64 0, .bool false, .slice A5 0 c5] 24)
  replace yb := yb.alloc (.cells #[.int .i64 0, .bool false, .slice A5 0 c5] 24)
  replace yw := yw.alloc (.cells #[.int .i64 0, .bool false, .slice A5 0 c5] 24)
  replace qb := qb.alloc (.cells #[.int .i64 0, .bool false, .slice A5 0 c5] 24)
  replace qw := qw.alloc (.cells #[.int .i64 0, .bool false, .slice A5 0 c5] 24)
  replace qg := qg.alloc (.cells #[.int .i64 0, .bool false, .slice A5 0 c5] 24)
  replace qi := qi.alloc (.cells #[.int .i64 0, .bool false, .slice A5 0 c5] 24)
  replace qk := qk.alloc (.cells #[.int .i64 0, .bool false, .slice A5 0 c5] 24)
  replace b0 := b0.alloc (.cells #[.int .i64 0, .bool false, .slice B5 0 d5] 24)
  replace ya := ya.alloc (.cells #[.int .i64 0, .bool false, .slice B5 0 d5] 24)
  replace qa := qa.alloc (.cells #[.int .i64 0, .bool false, .slice B5 0 d5] 24)
  replace qf := qf.alloc (.cells #[.int .i64 0, .bool false, .slice B5 0 d5] 24)
  replace yb := yb.alloc (.cells #[.int .i64 0, .bool false, .slice B5 0 d5] 24)
  replace yw := yw.alloc (.cells #[.int .i64 0, .bool false, .slice B5 0 d5] 24)
  replace qb := qb.alloc (.cells #[.int .i64 0, .bool false, .slice B5 0 d5] 24)
  replace qw := qw.alloc (.cells #[.int .i64 0, .bool false, .slice B5 0 d5] 24)
  replace qg := qg.alloc (.cells #[.int .i64 0, .bool false, .slice B5 0 d5] 24)
  replace qi := qi.alloc (.cells #[.int .i64 0, .bool false, .slice B5 0 d5] 24)
  replace qk := qk.alloc (.cells #[.int .i64 0, .bool false, .slice B5 0 d5] 24)
  replace b0 := b0.alloc (.cells #[.bool false, .int .i64 0, .int .u32 0] 34)
  replace ya := ya.alloc (.cells #[.bool false, .int .i64 0, .int .u32 0] 34)
  replace qa := qa.alloc (.cells #[.bool false, .int .i64 0, .int .u32 0] 34)
  replace qf := qf.alloc (.cells #[.bool false, .int .i64 0, .int .u32 0] 34)
  replace yb := yb.alloc (.cells #[.bool false, .int .i64 0, .int .u32 0] 34)
  replace yw := yw.alloc (.cells #[.bool false, .int .i64 0, .int .u32 0] 34)
  replace qb := qb.alloc (.cells #[.bool false, .int .i64 0, .int .u32 0] 34)
  replace qw := qw.alloc (.cells #[.bool false, .int .i64 0, .int .u32 0] 34)
  replace qg := qg.alloc (.cells #[.bool false, .int .i64 0, .int .u32 0] 34)
  replace qi := qi.alloc (.cells #[.bool false, .int .i64 0, .int .u32 0] 34)
  replace qk := qk.alloc (.cells #[.bool false, .int .i64 0, .int .u32 0] 34)
  have qm := Blk.newAt (b := w5.heap.size + 1 + 1) ((w5.alloc (.cells #[.int .i64 0, .bool false, .slice A5 0 c5] 24)).alloc (.cells #[.int .i64 0, .bool false, .slice B5 0 d5] 24)) 34 #[.bool false, .int .i64 0, .int .u32 0] (by simp)
  clear zqa0 zqa1 zqa2 zqf0 zqf1 zqf2 zqb0 zqb1 zqb2 zqw0 zqw1 zqw2 zqg0 zqg1 zqg2 zqi0 zqi1 zqi2 zqk0 zqk1 zqk2
  have zqa0 := qa.at 0 rfl
  have zqa1 := qa.at 1 rfl
  have zqa2 := qa.at 2 rfl
  have zqf0 := qf.at 0 rfl
  have zqf1 := qf.at 1 rfl
  have zqf2 := qf.at 2 rfl
  have zqb0 := qb.at 0 rfl
  have zqb1 := qb.at 1 rfl
  have zqb2 := qb.at 2 rfl
  have zqw0 := qw.at 0 rfl
  have zqw1 := qw.at 1 rfl
  have zqw2 := qw.at 2 rfl
  have zqg0 := qg.at 0 rfl
  have zqg1 := qg.at 1 rfl
  have zqg2 := qg.at 2 rfl
  have zqi0 := qi.at 0 rfl
  have zqi1 := qi.at 1 rfl
  have zqi2 := qi.at 2 rfl
  have zqk0 := qk.at 0 rfl
  have zqk1 := qk.at 1 rfl
  have zqk2 := qk.at 2 rfl
  have zqm0 := qm.at 0 rfl
  have zqm1 := qm.at 1 rfl
  have zqm2 := qm.at 2 rfl
  clear mo5 mw5
  go_wp2_with fail
  refine (fBTakeE 0 0 rfl rfl (show takeB 0 false [] 1 0 0 [] = ⟨0, false, [], 0, false, [], false, false, 0, 2⟩ by kernel_rfl) _ (Byt.nil _) (Byt.nil _) (by decide) (by decide) (by decide) (by decide) (by decide) (by decide)).mono ?_
  rintro e w6 ⟨A6, c6, B6, d6, rfl, mo6, mw6, hb⟩
  replace b0 := (b0).below hb; replace ya := (ya).below hb; replace qa := (qa).below hb; replace qf := (qf).below hb; replace yb := (yb).below hb; replace yw := (yw).below hb; replace qb := (qb).below hb; replace qw := (qw).below hb; replace qg := (qg).below hb; replace qi := (qi).below hb; replace qk := (qk).below hb; replace qm := (qm).below hb
  replace b0 := b0.alloc (.cells #[.int .i64 0, .bool false, .slice A6 0 c6] 24)
  replace ya := ya.alloc (.cells #[.int .i64 0, .bool false, .slice A6 0 c6] 24)
  replace qa := qa.alloc (.cells #[.int .i64 0, .bool false, .slice A6 0 c6] 24)
  replace qf := qf.alloc (.cells #[.int .i64 0, .bool false, .slice A6 0 c6] 24)
  replace yb := yb.alloc (.cells #[.int .i64 0, .bool false, .slice A6 0 c6] 24)
  replace yw := yw.alloc (.cells #[.int .i64 0, .bool false, .slice A6 0 c6] 24)
  replace qb := qb.alloc (.cells #[.int .i64 0, .bool false, .slice A6 0 c6] 24)
  replace qw := qw.alloc (.cells #[.int .i64 0, .bool false, .slice A6 0 c6] 24)
  replace qg := qg.alloc (.cells #[.int .i64 0, .bool false, .slice A6 0 c6] 24)
  replace qi := qi.alloc (.cells #[.int .i64 0, .bool false, .slice A6 0 c6] 24)
  replace qk := qk.alloc (.cells #[.int .i64 0, .bool false, .slice A6 0 c6] 24)
  replace qm := qm.alloc (.cells #[.int .i64 0, .bool false, .slice A6 0 c6] 24)
  replace b0 := b0.alloc (.cells #[.int .i64 0, .bool false, .slice B6 0 d6] 24)
  replace ya := ya.alloc (.cells #[.int .i64 0, .bool false, .slice B6 0 d6] 24)
  replace qa := qa.alloc (.cells #[.int .i64 0, .bool false, .slice B6 0 d6] 24)
  replace qf := qf.alloc (.cells #[.int .i64 0, .bool false, .slice B6 0 d6] 24)
  replace yb := yb.alloc (.cells #[.int .i64 0, .bool false, .slice B6 0 d6] 24)
  replace yw := yw.alloc (.cells #[.int .i64 0, .bool false, .slice B6 0 d6] 24)
  replace qb := qb.alloc (.cells #[.int .i64 0, .bool false, .slice B6 0 d6] 24)
  replace qw := qw.alloc (.cells #[.int .i64 0, .bool false, .slice B6 0 d6] 24)
  replace qg := qg.alloc (.cells #[.int .i64 0, .bool false, .slice B6 0 d6] 24)
  replace qi := qi.alloc (.cells #[.int .i64 0, .bool false, .slice B6 0 d6] 24)
  replace qk := qk.alloc (.cells #[.int .i64 0, .bool false, .slice B6 0 d6] 24)
  replace qm := qm.alloc (.cells #[.int .i64 0, .bool false, .slice B6 0 d6] 24)
  replace b0 := b0.alloc (.cells #[.bool false, .int .i64 0, .int .u32 0] 34)
  replace ya := ya.alloc (.cells #[.bool false, .int .i64 0, .int .u32 0] 34)
  replace qa := qa.alloc (.cells #[.bool false, .int .i64 0, .int .u32 0] 34)
  replace qf := qf.alloc (.cells #[.bool false, .int .i64 0, .int .u32 0] 34)
  replace yb := yb.alloc (.cells #[.bool false, .int .i64 0, .int .u32 0] 34)
  replace yw := yw.alloc (.cells #[.bool false, .int .i64 0, .int .u32 0] 34)
  replace qb := qb.alloc (.cells #[.bool false, .int .i64 0, .int .u32 0] 34)
  replace qw := qw.alloc (.cells #[.bool false, .int .i64 0, .int .u32 0] 34)
  replace qg := qg.alloc (.cells #[.bool false, .int .i64 0, .int .u32 0] 34)
  replace qi := qi.alloc (.cells #[.bool false, .int .i64 0, .int .u32 0] 34)
  replace qk := qk.alloc (.cells #[.bool false, .int .i64 0, .int .u32 0] 34)
  replace qm := qm.alloc (.cells #[.bool false, .int .i64 0, .int .u32 0] 34)
  clear mo6 mw6
  have ql := Blk.newAt (b := w6.heap.size + 1 + 1 + 1) (((w6.alloc (.cells #[.int .i64 0, .bool false, .slice A6 0 c6] 24)).alloc (.cells #[.int .i64 0, .bool false, .slice B6 0 d6] 24)).alloc (.cells #[.bool false, .int .i64 0, .int .u32 0] 34)) 34 #[.bool true, .int .i64 0, .int .u32 1] (by simp)
  replace b0 := b0.alloc (.cells #[.bool true, .int .i64 0, .int .u32 1] 34)
  replace ya := ya.alloc (.cells #[.bool true, .int .i64 0, .int .u32 1] 34)
  replace qa := qa.alloc (.cells #[.bool true, .int .i64 0, .int .u32 1] 34)
  replace qf := qf.alloc (.cells #[.bool true, .int .i64 0, .int .u32 1] 34)
  replace yb := yb.alloc (.cells #[.bool true, .int .i64 0, .int .u32 1] 34)
  replace yw := yw.alloc (.cells #[.bool true, .int .i64 0, .int .u32 1] 34)
  replace qb := qb.alloc (.cells #[.bool true, .int .i64 0, .int .u32 1] 34)
  replace qw := qw.alloc (.cells #[.bool true, .int .i64 0, .int .u32 1] 34)
  replace qg := qg.alloc (.cells #[.bool true, .int .i64 0, .int .u32 1] 34)
  replace qi := qi.alloc (.cells #[.bool true, .int .i64 0, .int .u32 1] 34)
  replace qk := qk.alloc (.cells #[.bool true, .int .i64 0, .int .u32 1] 34)
  replace qm := qm.alloc (.cells #[.bool true, .int .i64 0, .int .u32 1] 34)
  clear zqa0 zqa1 zqa2 zqf0 zqf1 zqf2 zqb0 zqb1 zqb2 zqw0 zqw1 zqw2 zqg0 zqg1 zqg2 zqi0 zqi1 zqi2 zqk0 zqk1 zqk2 zqm0 zqm1 zqm2
  have zqa0 := qa.at 0 rfl
  have zqa1 := qa.at 1 rfl
  have zqa2 := qa.at 2 rfl
  have zqf0 := qf.at 0 rfl
  have zqf1 := qf.at 1 rfl
  have zqf2 := qf.at 2 rfl
  have zqb0 := qb.at 0 rfl
  have zqb1 := qb.at 1 rfl
  have zqb2 := qb.at 2 rfl
  have zqw0 := qw.at 0 rfl
  have zqw1 := qw.at 1 rfl
  have zqw2 := qw.at 2 rfl
  have zqg0 := qg.at 0 rfl
  have zqg1 := qg.at 1 rfl
  have zqg2 := qg.at 2 rfl
  have zqi0 := qi.at 0 rfl
  have zqi1 := qi.at 1 rfl
  have zqi2 := qi.at 2 rfl
  have zqk0 := qk.at 0 rfl
  have zqk1 := qk.at 1 rfl
  have zqk2 := qk.at 2 rfl
  have zqm0 := qm.at 0 rfl
  have zqm1 := qm.at 1 rfl
  have zqm2 := qm.at 2 rfl
  have zql0 := ql.at 0 rfl
  have zql1 := ql.at 1 rfl
  have zql2 := ql.at 2 rfl
  go_wp2_with fail
  generalize (((w6.alloc (.cells #[.int .i64 0, .bool false, .slice A6 0 c6] 24)).alloc (.cells #[.int .i64 0, .bool false, .slice B6 0 d6] 24)).alloc (.cells #[.bool false, .int .i64 0, .int .u32 0] 34)).alloc (.cells #[.bool true, .int .i64 0, .int .u32 1] 34) = W7 at *
  obtain ⟨S, HS⟩ : ∃ S : World → Prop, Hid (S = CellsAt [(⟨w1.heap.size, 0, none⟩, (.int .i64 3)), (⟨w1.heap.size, 1, none⟩, (.bool true)), (⟨w1.heap.size, 2, none⟩, (.slice A1 2 c1)), (⟨w1.heap.size + 1 + 1, 0, none⟩, (.bool false)), (⟨w1.heap.size + 1 + 1, 1, none⟩, (.int .i64 0)), (⟨w1.heap.size + 1 + 1, 2, none⟩, (.int .u32 0)), (⟨w2.heap.size, 0, none⟩, (.int .i64 0)), (⟨w2.heap.size, 1, none⟩, (.bool false)), (⟨w2.heap.size, 2, none⟩, (.slice A2 0 c2)), (⟨w2.heap.size + 1, 0, none⟩, (.int .i64 3)), (⟨w2.heap.size + 1, 1, none⟩, (.bool true)), (⟨w2.heap.size + 1, 2, none⟩, (.slice B2 3 d2)), (⟨w2.heap.size + 1 + 1, 0, none⟩, (.bool false)), (⟨w2.heap.size + 1 + 1, 1, none⟩, (.int .i64 0)), (⟨w2.heap.size + 1 + 1, 2, none⟩, (.int .u32 0)), (⟨w3.heap.size + 1 + 1, 0, none⟩, (.bool true)), (⟨w3.heap.size + 1 + 1, 1, none⟩, (.int .i64 0)), (⟨w3.heap.size + 1 + 1, 2, none⟩, (.int .u32 1)), (⟨w4.heap.size + 1 + 1, 0, none⟩, (.bool true)), (⟨w4.heap.size + 1 + 1, 1, none⟩, (.int .i64 0)), (⟨w4.heap.size + 1 + 1, 2, none⟩, (.int .u32 1)), (⟨w5.heap.size + 1 + 1, 0, none⟩, (.bool false)), (⟨w5.heap.size + 1 + 1, 1, none⟩, (.int .i64 0)), (⟨w5.heap.size + 1 + 1, 2, none⟩, (.int .u32 0)), (⟨w6.heap.size + 1 + 1 + 1, 0, none⟩, (.bool true)), (⟨w6.heap.size + 1 + 1 + 1, 1, none⟩, (.int .i64 0)), (⟨w6.heap.size + 1 + 1 + 1, 2, none⟩, (.int .u32 1))]) := ⟨_, Lib.hid rfl⟩
  have S0 : S W7.drew := by
    rw [HS.out]
    exact ⟨qa.at 0 rfl, qa.at 1 rfl, qa.at 2 rfl, qf.at 0 rfl, qf.at 1 rfl, qf.at 2 rfl, qb.at 0 rfl, qb.at 1 rfl, qb.at 2 rfl, qw.at 0 rfl, qw.at 1 rfl, qw.at 2 rfl, qg.at 0 rfl, qg.at 1 rfl, qg.at 2 rfl, qi.at 0 rfl, qi.at 1 rfl, qi.at 2 rfl, qk.at 0 rfl, qk.at 1 rfl, qk.at 2 rfl, qm.at 0 rfl, qm.at 1 rfl, qm.at 2 rfl, ql.at 0 rfl, ql.at 1 rfl, ql.at 2 rfl, trivial⟩
  replace b0 := b0.drew
  replace ya := ya.drew
  replace yb := yb.drew
  replace yw := yw.drew
  clear qa qf qb qw qg qi qk qm ql zqa0 zqa1 zqa2 zqf0 zqf1 zqf2 zqb0 zqb1 zqb2 zqw0 zqw1 zqw2 zqg0 zqg1 zqg2 zqi0 zqi1 zqi2 zqk0 zqk1 zqk2 zqm0 zqm1 zqm2 zql0 zql1 zql2
  have L3 : ∀ (w : World) (g : Nat), w.heap.size = g → Byt (w.alloc (.cells #[.int .u8 1, .int .u8 2, .int .u8 4] 5)) (some ⟨g, 0, none⟩) 3 3 [1, 2, 4] := fun w g hg => lit3 hg (by decide)
  have HL := Lib.hid L3
  clear L3
  simp only [List.append_eq, List.cons_append, List.nil_append]
  have HB : Hid (∀ w w', S w → Below w.heap.size w w' → S w') := Lib.hid fun w w' h hb => by rw [HS.out] at h ⊢; exact CellsAt.below h hb
  refine wp_region_N wkOps S (by as_aux_lemma => kernel_rfl) (by as_aux_lemma => kernel_rfl) (fun d _ _ _ _ h => by cases d <;> exact h) (fun Q HQ hp => ?_)
  refine wpAnyG_takesF [0, 1, 2, 3, 4, 5, 6, 7, 8, 9, 10, 11, 12] 82 (by as_aux_lemma => kernel_rfl) (by as_aux_lemma => kernel_rfl) hp S0 ?_
  refine pureW_e1 3 (by (conv => lhs; whnf; arg 1; whnf)) (by rfl) (by (conv => lhs; whnf)) (fun ρ hρ h1 w1 hSw => by have hc := hρ.const; clear hρ; clear hSw; go_simp; try with_reducible rfl) ?_; (try simp only [Act.put, List.setIfInBounds_toArray, List.set_cons_succ, List.set_cons_zero])
  refine pureW_e1 89 (by (conv => lhs; whnf; arg 1; whnf)) (by rfl) (by (conv => lhs; whnf)) (fun ρ hρ h1 w1 hSw => by have hc := hρ.const; clear hρ; clear hSw; go_simp; try with_reducible rfl) ?_; (try simp only [Act.put, List.setIfInBounds_toArray, List.set_cons_succ, List.set_cons_zero])
  refine pureW_e1 90 (by (conv => lhs; whnf; arg 1; whnf)) (by rfl) (by (conv => lhs; whnf)) (fun ρ hρ h1 w1 hSw => by have hc := hρ.const; clear hρ; clear hSw; go_simp; try with_reducible rfl) ?_; (try simp only [Act.put, List.setIfInBounds_toArray, List.set_cons_succ, List.set_cons_zero])
  refine pureW_e1 4 (by (conv => lhs; whnf; arg 1; whnf)) (by rfl) (by (conv => lhs; whnf)) (fun ρ hρ h1 w1 hSw => by have hc := hρ.const; clear hρ; rw [HS.out] at hSw; simp only [CellsAt] at hSw; go_simp; try with_reducible rfl) ?_; (try simp only [Act.put, List.setIfInBounds_toArray, List.set_cons_succ, List.set_cons_zero])
  refine pureW_e0  (by (conv => lhs; whnf; arg 1; whnf)) (by rfl)  (fun ρ hρ  w1 hSw => by have hc := hρ.const; clear hρ; clear hSw; go_simp; try with_reducible rfl) ?_; (try simp only [Act.put, List.setIfInBounds_toArray, List.set_cons_succ, List.set_cons_zero])
  refine pureW_e2 92 93 (by (conv => lhs; whnf; arg 1; whnf)) (by rfl) (by (conv => lhs; whnf)) (by (conv => lhs; whnf)) (fun ρ hρ h1 h2 w1 hSw => by have hc := hρ.const; clear hρ; clear hSw; go_simp; try with_reducible rfl) ?_; (try simp only [Act.put, List.setIfInBounds_toArray, List.set_cons_succ, List.set_cons_zero])
  refine pureW_e2 91 94 (by (conv => lhs; whnf; arg 1; whnf)) (by rfl) (by (conv => lhs; whnf)) (by (conv => lhs; whnf)) (fun ρ hρ h1 h2 w1 hSw => by have hc := hρ.const; clear hρ; clear hSw; go_simp; try with_reducible rfl) ?_; (try simp only [Act.put, List.setIfInBounds_toArray, List.set_cons_succ, List.set_cons_zero])
  refine pureW_e1 95 (by (conv => lhs; whnf; arg 1; whnf)) (by rfl) (by (conv => lhs; whnf)) (fun ρ hρ h1 w1 hSw => by have hc := hρ.const; clear hρ; clear hSw; go_simp; try with_reducible rfl) ?_; (try simp only [Act.put, List.setIfInBounds_toArray, List.set_cons_succ, List.set_cons_zero])
  refine pureW_e1 5 (by (conv => lhs; whnf; arg 1; whnf)) (by rfl) (by (conv => lhs; whnf)) (fun ρ hρ h1 w1 hSw => by have hc := hρ.const; clear hρ; clear hSw; go_simp; try with_reducible rfl) ?_; (try simp only [Act.put, List.setIfInBounds_toArray, List.set_cons_succ, List.set_cons_zero])
  refine pureW_e1 97 (by (conv => lhs; whnf; arg 1; whnf)) (by rfl) (by (conv => lhs; whnf)) (fun ρ hρ h1 w1 hSw => by have hc := hρ.const; clear hρ; clear hSw; go_simp; try with_reducible rfl) ?_; (try simp only [Act.put, List.setIfInBounds_toArray, List.set_cons_succ, List.set_cons_zero])
  refine pureW_e2 96 98 (by (conv => lhs; whnf; arg 1; whnf)) (by rfl) (by (conv => lhs; whnf)) (by (conv => lhs; whnf)) (fun ρ hρ h1 h2 w1 hSw => by have hc := hρ.const; clear hρ; clear hSw; go_simp; try with_reducible rfl) ?_; (try simp only [Act.put, List.setIfInBounds_toArray, List.set_cons_succ, List.set_cons_zero])
  refine pureW_e1 99 (by (conv => lhs; whnf; arg 1; whnf)) (by rfl) (by (conv => lhs; whnf)) (fun ρ hρ h1 w1 hSw => by have hc := hρ.const; clear hρ; clear hSw; go_simp; try with_reducible rfl) ?_; (try simp only [Act.put, List.setIfInBounds_toArray, List.set_cons_succ, List.set_cons_zero])
  refine pureW_e1 1 (by (conv => lhs; whnf; arg 1; whnf)) (by rfl) (by (conv => lhs; whnf)) (fun ρ hρ h1 w1 hSw => by have hc := hρ.const; clear hρ; rw [HS.out] at hSw; simp only [CellsAt] at hSw; go_simp; try with_reducible rfl) ?_; (try simp only [Act.put, List.setIfInBounds_toArray, List.set_cons_succ, List.set_cons_zero])
  refine pureW_nil ?_
  refine wpAnyG_oneN 13 81 (by as_aux_lemma => kernel_rfl) (by as_aux_lemma => kernel_rfl) (by (conv => lhs; whnf; arg 1; whnf)) (by rfl) (fun K hK => ?_)
  go_simp
  refine (fBOpenE (show openB 3 = true by decide) _).mono ?_
  rintro e wr1 ⟨rfl, hb⟩
  replace b0 := (b0).below hb
  replace ya := (ya).below hb
  replace yb := (yb).below hb
  replace yw := (yw).below hb
  have S1 := HB.out _ _ S0 hb
  (try go_simp)
  refine hK.out _ _ S1 ?_
  clear hK K hb S0
  refine wpAnyG_takesF [14, 15, 16, 17, 18, 19, 20, 21, 22, 23, 24, 25, 26, 27, 28] 66 (by as_aux_lemma => kernel_rfl) (by as_aux_lemma => kernel_rfl) hp S1 ?_
  refine pureW_e2 100 102 (by (conv => lhs; whnf; arg 1; whnf)) (by rfl) (by (conv => lhs; whnf)) (by (conv => lhs; whnf)) (fun ρ hρ h1 h2 w1 hSw => by have hc := hρ.const; clear hρ; clear hSw; go_simp; try with_reducible rfl) ?_; (try simp only [Act.put, List.setIfInBounds_toArray, List.set_cons_succ, List.set_cons_zero])
  refine pureW_e1 103 (by (conv => lhs; whnf; arg 1; whnf)) (by rfl) (by (conv => lhs; whnf)) (fun ρ hρ h1 w1 hSw => by have hc := hρ.const; clear hρ; clear hSw; go_simp; try with_reducible rfl) ?_; (try simp only [Act.put, List.setIfInBounds_toArray, List.set_cons_succ, List.set_cons_zero])
  refine pureW_e1 8 (by (conv => lhs; whnf; arg 1; whnf)) (by rfl) (by (conv => lhs; whnf)) (fun ρ hρ h1 w1 hSw => by have hc := hρ.const; clear hρ; clear hSw; go_simp; try with_reducible rfl) ?_; (try simp only [Act.put, List.setIfInBounds_toArray, List.set_cons_succ, List.set_cons_zero])
  refine pureW_e2 104 105 (by (conv => lhs; whnf; arg 1; whnf)) (by rfl) (by (conv => lhs; whnf)) (by (conv => lhs; whnf)) (fun ρ hρ h1 h2 w1 hSw => by have hc := hρ.const; clear hρ; clear hSw; go_simp; try with_reducible rfl) ?_; (try simp only [Act.put, List.setIfInBounds_toArray, List.set_cons_succ, List.set_cons_zero])
  refine pureW_e1 106 (by (conv => lhs; whnf; arg 1; whnf)) (by rfl) (by (conv => lhs; whnf)) (fun ρ hρ h1 w1 hSw => by have hc := hρ.const; clear hρ; clear hSw; go_simp; try with_reducible rfl) ?_; (try simp only [Act.put, List.setIfInBounds_toArray, List.set_cons_succ, List.set_cons_zero])
  refine pureW_e1 9 (by (conv => lhs; whnf; arg 1; whnf)) (by rfl) (by (conv => lhs; whnf)) (fun ρ hρ h1 w1 hSw => by have hc := hρ.const; clear hρ; rw [HS.out] at hSw; simp only [CellsAt] at hSw; go_simp; try with_reducible rfl) ?_; (try simp only [Act.put, List.setIfInBounds_toArray, List.set_cons_succ, List.set_cons_zero])
  refine pureW_e0  (by (conv => lhs; whnf; arg 1; whnf)) (by rfl)  (fun ρ hρ  w1 hSw => by have hc := hρ.const; clear hρ; clear hSw; go_simp; try with_reducible rfl) ?_; (try simp only [Act.put, List.setIfInBounds_toArray, List.set_cons_succ, List.set_cons_zero])
  refine pureW_e2 108 109 (by (conv => lhs; whnf; arg 1; whnf)) (by rfl) (by (conv => lhs; whnf)) (by (conv => lhs; whnf)) (fun ρ hρ h1 h2 w1 hSw => by have hc := hρ.const; clear hρ; clear hSw; go_simp; try with_reducible rfl) ?_; (try simp only [Act.put, List.setIfInBounds_toArray, List.set_cons_succ, List.set_cons_zero])
  refine pureW_e2 107 110 (by (conv => lhs; whnf; arg 1; whnf)) (by rfl) (by (conv => lhs; whnf)) (by (conv => lhs; whnf)) (fun ρ hρ h1 h2 w1 hSw => by have hc := hρ.const; clear hρ; clear hSw; go_simp; try with_reducible rfl) ?_; (try simp only [Act.put, List.setIfInBounds_toArray, List.set_cons_succ, List.set_cons_zero])
  refine pureW_e1 111 (by (conv => lhs; whnf; arg 1; whnf)) (by rfl) (by (conv => lhs; whnf)) (fun ρ hρ h1 w1 hSw => by have hc := hρ.const; clear hρ; clear hSw; go_simp; try with_reducible rfl) ?_; (try simp only [Act.put, List.setIfInBounds_toArray, List.set_cons_succ, List.set_cons_zero])
  refine pureW_e1 10 (by (conv => lhs; whnf; arg 1; whnf)) (by rfl) (by (conv => lhs; whnf)) (fun ρ hρ h1 w1 hSw => by have hc := hρ.const; clear hρ; clear hSw; go_simp; try with_reducible rfl) ?_; (try simp only [Act.put, List.setIfInBounds_toArray, List.set_cons_succ, List.set_cons_zero])
  refine pureW_e1 113 (by (conv => lhs; whnf; arg 1; whnf)) (by rfl) (by (conv => lhs; whnf)) (fun ρ hρ h1 w1 hSw => by have hc := hρ.const; clear hρ; clear hSw; go_simp; try with_reducible rfl) ?_; (try simp only [Act.put, List.setIfInBounds_toArray, List.set_cons_succ, List.set_cons_zero])
  refine pureW_e2 112 114 (by (conv => lhs; whnf; arg 1; whnf)) (by rfl) (by (conv => lhs; whnf)) (by (conv => lhs; whnf)) (fun ρ hρ h1 h2 w1 hSw => by have hc := hρ.const; clear hρ; clear hSw; go_simp; try with_reducible rfl) ?_; (try simp only [Act.put, List.setIfInBounds_toArray, List.set_cons_succ, List.set_cons_zero])
  refine pureW_e1 115 (by (conv => lhs; whnf; arg 1; whnf)) (by rfl) (by (conv => lhs; whnf)) (fun ρ hρ h1 w1 hSw => by have hc := hρ.const; clear hρ; clear hSw; go_simp; try with_reducible rfl) ?_; (try simp only [Act.put, List.setIfInBounds_toArray, List.set_cons_succ, List.set_cons_zero])
  refine pureW_e1 7 (by (conv => lhs; whnf; arg 1; whnf)) (by rfl) (by (conv => lhs; whnf)) (fun ρ hρ h1 w1 hSw => by have hc := hρ.const; clear hρ; rw [HS.out] at hSw; simp only [CellsAt] at hSw; go_simp; try with_reducible rfl) ?_; (try simp only [Act.put, List.setIfInBounds_toArray, List.set_cons_succ, List.set_cons_zero])
  refine pureW_nil ?_
  refine wpAnyG_oneN 29 65 (by as_aux_lemma => kernel_rfl) (by as_aux_lemma => kernel_rfl) (by (conv => lhs; whnf; arg 1; whnf)) (by rfl) (fun K hK => ?_)
  go_simp
  have S2 := HB.out _ _ S1 ((Below.refl _ _).alloc (Nat.le_refl _) (.cells #[.int .u8 1, .int .u8 2, .int .u8 4] 5))
  replace b0 := b0.alloc (.cells #[.int .u8 1, .int .u8 2, .int .u8 4] 5)
  replace ya := ya.alloc (.cells #[.int .u8 1, .int .u8 2, .int .u8 4] 5)
  replace yb := yb.alloc (.cells #[.int .u8 1, .int .u8 2, .int .u8 4] 5)
  replace yw := yw.alloc (.cells #[.int .u8 1, .int .u8 2, .int .u8 4] 5)
  (try go_simp)
  refine hK.out _ _ S2 ?_
  clear hK K S1
  refine wpAnyG_takesF [30] 64 (by as_aux_lemma => kernel_rfl) (by as_aux_lemma => kernel_rfl) hp S2 ?_
  refine pureW_e1 118 (by (conv => lhs; whnf; arg 1; whnf)) (by rfl) (by (conv => lhs; whnf)) (fun ρ hρ h1 w1 hSw => by have hc := hρ.const; clear hρ; clear hSw; go_simp; try with_reducible rfl) ?_; (try simp only [Act.put, List.setIfInBounds_toArray, List.set_cons_succ, List.set_cons_zero])
  refine pureW_nil ?_
  refine wpAnyG_oneN 31 63 (by as_aux_lemma => kernel_rfl) (by as_aux_lemma => kernel_rfl) (by (conv => lhs; whnf; arg 1; whnf)) (by rfl) (fun K hK => ?_)
  go_simp
  refine (rBSameE (show sameB 3 true [1, 2, 4] 3 true [1, 2, 4] = true by decide) _ yw (HL.out _ _ rfl)).mono ?_
  rintro e wr3 ⟨rfl, hb⟩
  replace b0 := (b0).below hb
  replace ya := (ya).below hb
  replace yb := (yb).below hb
  replace yw := (yw).below hb
  have S3 := HB.out _ _ S2 hb
  (try go_simp)
  refine hK.out _ _ S3 ?_
  clear hK K hb S2
  refine wpAnyG_takesF [32, 33, 34, 35] 59 (by as_aux_lemma => kernel_rfl) (by as_aux_lemma => kernel_rfl) hp S3 ?_
  refine pureW_e2 116 120 (by (conv => lhs; whnf; arg 1; whnf)) (by rfl) (by (conv => lhs; whnf)) (by (conv => lhs; whnf)) (fun ρ hρ h1 h2 w1 hSw => by have hc := hρ.const; clear hρ; clear hSw; go_simp; try with_reducible rfl) ?_; (try simp only [Act.put, List.setIfInBounds_toArray, List.set_cons_succ, List.set_cons_zero])
  refine pureW_e1 121 (by (conv => lhs; whnf; arg 1; whnf)) (by rfl) (by (conv => lhs; whnf)) (fun ρ hρ h1 w1 hSw => by have hc := hρ.const; clear hρ; clear hSw; go_simp; try with_reducible rfl) ?_; (try simp only [Act.put, List.setIfInBounds_toArray, List.set_cons_succ, List.set_cons_zero])
  refine pureW_e1 6 (by (conv => lhs; whnf; arg 1; whnf)) (by rfl) (by (conv => lhs; whnf)) (fun ρ hρ h1 w1 hSw => by have hc := hρ.const; clear hρ; rw [HS.out] at hSw; simp only [CellsAt] at hSw; go_simp; try with_reducible rfl) ?_; (try simp only [Act.put, List.setIfInBounds_toArray, List.set_cons_succ, List.set_cons_zero])
  refine pureW_e0  (by (conv => lhs; whnf; arg 1; whnf)) (by rfl)  (fun ρ hρ  w1 hSw => by have hc := hρ.const; clear hρ; clear hSw; go_simp; try with_reducible rfl) ?_; (try simp only [Act.put, List.setIfInBounds_toArray, List.set_cons_succ, List.set_cons_zero])
  refine pureW_nil ?_
  refine wpAnyG_oneN 36 58 (by as_aux_lemma => kernel_rfl) (by as_aux_lemma => kernel_rfl) (by (conv => lhs; whnf; arg 1; whnf)) (by rfl) (fun K hK => ?_)
  go_simp
  refine (rBSameE (show sameB 0 false [] 0 false [] = true by decide) _ yb (Byt.nil _)).mono ?_
  rintro e wr4 ⟨rfl, hb⟩
  replace b0 := (b0).below hb
  replace ya := (ya).below hb
  replace yb := (yb).below hb
  replace yw := (yw).below hb
  have S4 := HB.out _ _ S3 hb
  (try go_simp)
  refine hK.out _ _ S4 ?_
  clear hK K hb S3
  refine wpAnyG_takesF [37, 38, 39, 40, 41, 42, 43, 44, 45, 46, 47, 48, 49, 50, 51, 52, 53, 54, 55, 56, 57, 58, 59, 60, 61, 62, 63, 64, 65, 66, 67, 68, 69, 70, 71, 72, 73, 74] 20 (by as_aux_lemma => kernel_rfl) (by as_aux_lemma => kernel_rfl) hp S4 ?_
  refine pureW_e2 122 125 (by (conv => lhs; whnf; arg 1; whnf)) (by rfl) (by (conv => lhs; whnf)) (by (conv => lhs; whnf)) (fun ρ hρ h1 h2 w1 hSw => by have hc := hρ.const; clear hρ; clear hSw; go_simp; try with_reducible rfl) ?_; (try simp only [Act.put, List.setIfInBounds_toArray, List.set_cons_succ, List.set_cons_zero])
  refine pureW_e1 126 (by (conv => lhs; whnf; arg 1; whnf)) (by rfl) (by (conv => lhs; whnf)) (fun ρ hρ h1 w1 hSw => by have hc := hρ.const; clear hρ; clear hSw; go_simp; try with_reducible rfl) ?_; (try simp only [Act.put, List.setIfInBounds_toArray, List.set_cons_succ, List.set_cons_zero])
  refine pureW_e1 14 (by (conv => lhs; whnf; arg 1; whnf)) (by rfl) (by (conv => lhs; whnf)) (fun ρ hρ h1 w1 hSw => by have hc := hρ.const; clear hρ; rw [HS.out] at hSw; simp only [CellsAt] at hSw; go_simp; try with_reducible rfl) ?_; (try simp only [Act.put, List.setIfInBounds_toArray, List.set_cons_succ, List.set_cons_zero])
  refine pureW_e1 31 (by (conv => lhs; whnf; arg 1; whnf)) (by rfl) (by (conv => lhs; whnf)) (fun ρ hρ h1 w1 hSw => by have hc := hρ.const; clear hρ; rw [HS.out] at hSw; simp only [CellsAt] at hSw; go_simp; try with_reducible rfl) ?_; (try simp only [Act.put, List.setIfInBounds_toArray, List.set_cons_succ, List.set_cons_zero])
  refine pureW_e2 128 129 (by (conv => lhs; whnf; arg 1; whnf)) (by rfl) (by (conv => lhs; whnf)) (by (conv => lhs; whnf)) (fun ρ hρ h1 h2 w1 hSw => by have hc := hρ.const; clear hρ; clear hSw; go_simp; try with_reducible rfl) ?_; (try simp only [Act.put, List.setIfInBounds_toArray, List.set_cons_succ, List.set_cons_zero])
  refine pureW_e2 127 130 (by (conv => lhs; whnf; arg 1; whnf)) (by rfl) (by (conv => lhs; whnf)) (by (conv => lhs; whnf)) (fun ρ hρ h1 h2 w1 hSw => by have hc := hρ.const; clear hρ; clear hSw; go_simp; try with_reducible rfl) ?_; (try simp only [Act.put, List.setIfInBounds_toArray, List.set_cons_succ, List.set_cons_zero])
  refine pureW_e1 131 (by (conv => lhs; whnf; arg 1; whnf)) (by rfl) (by (conv => lhs; whnf)) (fun ρ hρ h1 w1 hSw => by have hc := hρ.const; clear hρ; clear hSw; go_simp; try with_reducible rfl) ?_; (try simp only [Act.put, List.setIfInBounds_toArray, List.set_cons_succ, List.set_cons_zero])
  refine pureW_e1 15 (by (conv => lhs; whnf; arg 1; whnf)) (by rfl) (by (conv => lhs; whnf)) (fun ρ hρ h1 w1 hSw => by have hc := hρ.const; clear hρ; clear hSw; go_simp; try with_reducible rfl) ?_; (try simp only [Act.put, List.setIfInBounds_toArray, List.set_cons_succ, List.set_cons_zero])
  refine pureW_e1 133 (by (conv => lhs; whnf; arg 1; whnf)) (by rfl) (by (conv => lhs; whnf)) (fun ρ hρ h1 w1 hSw => by have hc := hρ.const; clear hρ; clear hSw; go_simp; try with_reducible rfl) ?_; (try simp only [Act.put, List.setIfInBounds_toArray, List.set_cons_succ, List.set_cons_zero])
  refine pureW_e2 132 134 (by (conv => lhs; whnf; arg 1; whnf)) (by rfl) (by (conv => lhs; whnf)) (by (conv => lhs; whnf)) (fun ρ hρ h1 h2 w1 hSw => by have hc := hρ.const; clear hρ; clear hSw; go_simp; try with_reducible rfl) ?_; (try simp only [Act.put, List.setIfInBounds_toArray, List.set_cons_succ, List.set_cons_zero])
  refine pureW_e1 135 (by (conv => lhs; whnf; arg 1; whnf)) (by rfl) (by (conv => lhs; whnf)) (fun ρ hρ h1 w1 hSw => by have hc := hρ.const; clear hρ; clear hSw; go_simp; try with_reducible rfl) ?_; (try simp only [Act.put, List.setIfInBounds_toArray, List.set_cons_succ, List.set_cons_zero])
  refine pureW_e1 19 (by (conv => lhs; whnf; arg 1; whnf)) (by rfl) (by (conv => lhs; whnf)) (fun ρ hρ h1 w1 hSw => by have hc := hρ.const; clear hρ; rw [HS.out] at hSw; simp only [CellsAt] at hSw; go_simp; try with_reducible rfl) ?_; (try simp only [Act.put, List.setIfInBounds_toArray, List.set_cons_succ, List.set_cons_zero])
  refine pureW_e1 31 (by (conv => lhs; whnf; arg 1; whnf)) (by rfl) (by (conv => lhs; whnf)) (fun ρ hρ h1 w1 hSw => by have hc := hρ.const; clear hρ; rw [HS.out] at hSw; simp only [CellsAt] at hSw; go_simp; try with_reducible rfl) ?_; (try simp only [Act.put, List.setIfInBounds_toArray, List.set_cons_succ, List.set_cons_zero])
  refine pureW_e2 137 138 (by (conv => lhs; whnf; arg 1; whnf)) (by rfl) (by (conv => lhs; whnf)) (by (conv => lhs; whnf)) (fun ρ hρ h1 h2 w1 hSw => by have hc := hρ.const; clear hρ; clear hSw; go_simp; try with_reducible rfl) ?_; (try simp only [Act.put, List.setIfInBounds_toArray, List.set_cons_succ, List.set_cons_zero])
  refine pureW_e2 136 139 (by (conv => lhs; whnf; arg 1; whnf)) (by rfl) (by (conv => lhs; whnf)) (by (conv => lhs; whnf)) (fun ρ hρ h1 h2 w1 hSw => by have hc := hρ.const; clear hρ; clear hSw; go_simp; try with_reducible rfl) ?_; (try simp only [Act.put, List.setIfInBounds_toArray, List.set_cons_succ, List.set_cons_zero])
  refine pureW_e1 140 (by (conv => lhs; whnf; arg 1; whnf)) (by rfl) (by (conv => lhs; whnf)) (fun ρ hρ h1 w1 hSw => by have hc := hρ.const; clear hρ; clear hSw; go_simp; try with_reducible rfl) ?_; (try simp only [Act.put, List.setIfInBounds_toArray, List.set_cons_succ, List.set_cons_zero])
  refine pureW_e1 20 (by (conv => lhs; whnf; arg 1; whnf)) (by rfl) (by (conv => lhs; whnf)) (fun ρ hρ h1 w1 hSw => by have hc := hρ.const; clear hρ; clear hSw; go_simp; try with_reducible rfl) ?_; (try simp only [Act.put, List.setIfInBounds_toArray, List.set_cons_succ, List.set_cons_zero])
  refine pureW_e1 142 (by (conv => lhs; whnf; arg 1; whnf)) (by rfl) (by (conv => lhs; whnf)) (fun ρ hρ h1 w1 hSw => by have hc := hρ.const; clear hρ; clear hSw; go_simp; try with_reducible rfl) ?_; (try simp only [Act.put, List.setIfInBounds_toArray, List.set_cons_succ, List.set_cons_zero])
  refine pureW_e2 141 143 (by (conv => lhs; whnf; arg 1; whnf)) (by rfl) (by (conv => lhs; whnf)) (by (conv => lhs; whnf)) (fun ρ hρ h1 h2 w1 hSw => by have hc := hρ.const; clear hρ; clear hSw; go_simp; try with_reducible rfl) ?_; (try simp only [Act.put, List.setIfInBounds_toArray, List.set_cons_succ, List.set_cons_zero])
  refine pureW_e1 144 (by (conv => lhs; whnf; arg 1; whnf)) (by rfl) (by (conv => lhs; whnf)) (fun ρ hρ h1 w1 hSw => by have hc := hρ.const; clear hρ; clear hSw; go_simp; try with_reducible rfl) ?_; (try simp only [Act.put, List.setIfInBounds_toArray, List.set_cons_succ, List.set_cons_zero])
  refine pureW_e1 23 (by (conv => lhs; whnf; arg 1; whnf)) (by rfl) (by (conv => lhs; whnf)) (fun ρ hρ h1 w1 hSw => by have hc := hρ.const; clear hρ; clear hSw; go_simp; try with_reducible rfl) ?_; (try simp only [Act.put, List.setIfInBounds_toArray, List.set_cons_succ, List.set_cons_zero])
  refine pureW_e1 146 (by (conv => lhs; whnf; arg 1; whnf)) (by rfl) (by (conv => lhs; whnf)) (fun ρ hρ h1 w1 hSw => by have hc := hρ.const; clear hρ; clear hSw; go_simp; try with_reducible rfl) ?_; (try simp only [Act.put, List.setIfInBounds_toArray, List.set_cons_succ, List.set_cons_zero])
  refine pureW_e2 145 147 (by (conv => lhs; whnf; arg 1; whnf)) (by rfl) (by (conv => lhs; whnf)) (by (conv => lhs; whnf)) (fun ρ hρ h1 h2 w1 hSw => by have hc := hρ.const; clear hρ; clear hSw; go_simp; try with_reducible rfl) ?_; (try simp only [Act.put, List.setIfInBounds_toArray, List.set_cons_succ, List.set_cons_zero])
  refine pureW_e1 148 (by (conv => lhs; whnf; arg 1; whnf)) (by rfl) (by (conv => lhs; whnf)) (fun ρ hρ h1 w1 hSw => by have hc := hρ.const; clear hρ; clear hSw; go_simp; try with_reducible rfl) ?_; (try simp only [Act.put, List.setIfInBounds_toArray, List.set_cons_succ, List.set_cons_zero])
  refine pureW_e1 24 (by (conv => lhs; whnf; arg 1; whnf)) (by rfl) (by (conv => lhs; whnf)) (fun ρ hρ h1 w1 hSw => by have hc := hρ.const; clear hρ; rw [HS.out] at hSw; simp only [CellsAt] at hSw; go_simp; try with_reducible rfl) ?_; (try simp only [Act.put, List.setIfInBounds_toArray, List.set_cons_succ, List.set_cons_zero])
  refine pureW_e0  (by (conv => lhs; whnf; arg 1; whnf)) (by rfl)  (fun ρ hρ  w1 hSw => by have hc := hρ.const; clear hρ; clear hSw; go_simp; try with_reducible rfl) ?_; (try simp only [Act.put, List.setIfInBounds_toArray, List.set_cons_succ, List.set_cons_zero])
  refine pureW_e2 150 151 (by (conv => lhs; whnf; arg 1; whnf)) (by rfl) (by (conv => lhs; whnf)) (by (conv => lhs; whnf)) (fun ρ hρ h1 h2 w1 hSw => by have hc := hρ.const; clear hρ; clear hSw; go_simp; try with_reducible rfl) ?_; (try simp only [Act.put, List.setIfInBounds_toArray, List.set_cons_succ, List.set_cons_zero])
  refine pureW_e2 149 152 (by (conv => lhs; whnf; arg 1; whnf)) (by rfl) (by (conv => lhs; whnf)) (by (conv => lhs; whnf)) (fun ρ hρ h1 h2 w1 hSw => by have hc := hρ.const; clear hρ; clear hSw; go_simp; try with_reducible rfl) ?_; (try simp only [Act.put, List.setIfInBounds_toArray, List.set_cons_succ, List.set_cons_zero])
  refine pureW_e1 153 (by (conv => lhs; whnf; arg 1; whnf)) (by rfl) (by (conv => lhs; whnf)) (fun ρ hρ h1 w1 hSw => by have hc := hρ.const; clear hρ; clear hSw; go_simp; try with_reducible rfl) ?_; (try simp only [Act.put, List.setIfInBounds_toArray, List.set_cons_succ, List.set_cons_zero])
  refine pureW_e1 25 (by (conv => lhs; whnf; arg 1; whnf)) (by rfl) (by (conv => lhs; whnf)) (fun ρ hρ h1 w1 hSw => by have hc := hρ.const; clear hρ; clear hSw; go_simp; try with_reducible rfl) ?_; (try simp only [Act.put, List.setIfInBounds_toArray, List.set_cons_succ, List.set_cons_zero])
  refine pureW_e1 155 (by (conv => lhs; whnf; arg 1; whnf)) (by rfl) (by (conv => lhs; whnf)) (fun ρ hρ h1 w1 hSw => by have hc := hρ.const; clear hρ; clear hSw; go_simp; try with_reducible rfl) ?_; (try simp only [Act.put, List.setIfInBounds_toArray, List.set_cons_succ, List.set_cons_zero])
  refine pureW_e2 154 156 (by (conv => lhs; whnf; arg 1; whnf)) (by rfl) (by (conv => lhs; whnf)) (by (conv => lhs; whnf)) (fun ρ hρ h1 h2 w1 hSw => by have hc := hρ.const; clear hρ; clear hSw; go_simp; try with_reducible rfl) ?_; (try simp only [Act.put, List.setIfInBounds_toArray, List.set_cons_succ, List.set_cons_zero])
  refine pureW_e1 157 (by (conv => lhs; whnf; arg 1; whnf)) (by rfl) (by (conv => lhs; whnf)) (fun ρ hρ h1 w1 hSw => by have hc := hρ.const; clear hρ; clear hSw; go_simp; try with_reducible rfl) ?_; (try simp only [Act.put, List.setIfInBounds_toArray, List.set_cons_succ, List.set_cons_zero])
  refine pureW_e1 30 (by (conv => lhs; whnf; arg 1; whnf)) (by rfl) (by (conv => lhs; whnf)) (fun ρ hρ h1 w1 hSw => by have hc := hρ.const; clear hρ; clear hSw; go_simp; try with_reducible rfl) ?_; (try simp only [Act.put, List.setIfInBounds_toArray, List.set_cons_succ, List.set_cons_zero])
  refine pureW_e1 159 (by (conv => lhs; whnf; arg 1; whnf)) (by rfl) (by (conv => lhs; whnf)) (fun ρ hρ h1 w1 hSw => by have hc := hρ.const; clear hρ; clear hSw; go_simp; try with_reducible rfl) ?_; (try simp only [Act.put, List.setIfInBounds_toArray, List.set_cons_succ, List.set_cons_zero])
  refine pureW_e2 158 160 (by (conv => lhs; whnf; arg 1; whnf)) (by rfl) (by (conv => lhs; whnf)) (by (conv => lhs; whnf)) (fun ρ hρ h1 h2 w1 hSw => by have hc := hρ.const; clear hρ; clear hSw; go_simp; try with_reducible rfl) ?_; (try simp only [Act.put, List.setIfInBounds_toArray, List.set_cons_succ, List.set_cons_zero])
  refine pureW_e1 161 (by (conv => lhs; whnf; arg 1; whnf)) (by rfl) (by (conv => lhs; whnf)) (fun ρ hρ h1 w1 hSw => by have hc := hρ.const; clear hρ; clear hSw; go_simp; try with_reducible rfl) ?_; (try simp only [Act.put, List.setIfInBounds_toArray, List.set_cons_succ, List.set_cons_zero])
  refine pureW_e1 1 (by (conv => lhs; whnf; arg 1; whnf)) (by rfl) (by (conv => lhs; whnf)) (fun ρ hρ h1 w1 hSw => by have hc := hρ.const; clear hρ; rw [HS.out] at hSw; simp only [CellsAt] at hSw; go_simp; try with_reducible rfl) ?_; (try simp only [Act.put, List.setIfInBounds_toArray, List.set_cons_succ, List.set_cons_zero])
  refine pureW_nil ?_
  refine wpAnyG_oneN 75 19 (by as_aux_lemma => kernel_rfl) (by as_aux_lemma => kernel_rfl) (by (conv => lhs; whnf; arg 1; whnf)) (by rfl) (fun K hK => ?_)
  go_simp
  refine (fBRightE (show rightB 3 true [1, 2] = true by decide) _ ya (by decide) (by decide)).mono ?_
  rintro e wr5 ⟨rfl, hb⟩
  replace b0 := (b0).below hb
  replace ya := (ya).below hb
  replace yb := (yb).below hb
  replace yw := (yw).below hb
  have S5 := HB.out _ _ S4 hb
  (try go_simp)
  refine hK.out _ _ S5 ?_
  clear hK K hb S4
  refine wpAnyG_takesF [76, 77, 78] 16 (by as_aux_lemma => kernel_rfl) (by as_aux_lemma => kernel_rfl) hp S5 ?_
  refine pureW_e2 162 164 (by (conv => lhs; whnf; arg 1; whnf)) (by rfl) (by (conv => lhs; whnf)) (by (conv => lhs; whnf)) (fun ρ hρ h1 h2 w1 hSw => by have hc := hρ.const; clear hρ; clear hSw; go_simp; try with_reducible rfl) ?_; (try simp only [Act.put, List.setIfInBounds_toArray, List.set_cons_succ, List.set_cons_zero])
  refine pureW_e1 165 (by (conv => lhs; whnf; arg 1; whnf)) (by rfl) (by (conv => lhs; whnf)) (fun ρ hρ h1 w1 hSw => by have hc := hρ.const; clear hρ; clear hSw; go_simp; try with_reducible rfl) ?_; (try simp only [Act.put, List.setIfInBounds_toArray, List.set_cons_succ, List.set_cons_zero])
  refine pureW_e0  (by (conv => lhs; whnf; arg 1; whnf)) (by rfl)  (fun ρ hρ  w1 hSw => by have hc := hρ.const; clear hρ; clear hSw; go_simp; try with_reducible rfl) ?_; (try simp only [Act.put, List.setIfInBounds_toArray, List.set_cons_succ, List.set_cons_zero])
  refine pureW_nil ?_
  refine wpAnyG_oneN 79 15 (by as_aux_lemma => kernel_rfl) (by as_aux_lemma => kernel_rfl) (by (conv => lhs; whnf; arg 1; whnf)) (by rfl) (fun K hK => ?_)
  go_simp
  refine (fBRightE (show rightB 0 true [] = false by decide) _ (Byt.nil _) (by decide) (by decide)).mono ?_
  rintro e wr6 ⟨rfl, hb⟩
  replace b0 := (b0).below hb
  replace ya := (ya).below hb
  replace yb := (yb).below hb
  replace yw := (yw).below hb
  have S6 := HB.out _ _ S5 hb
  (try go_simp)
  refine hK.out _ _ S6 ?_
  clear hK K hb S5
  refine wpAnyG_takesF [80, 81, 82, 83, 85] 10 (by as_aux_lemma => kernel_rfl) (by as_aux_lemma => kernel_rfl) hp S6 ?_
  refine pureW_e1 168 (by (conv => lhs; whnf; arg 1; whnf)) (by rfl) (by (conv => lhs; whnf)) (fun ρ hρ h1 w1 hSw => by have hc := hρ.const; clear hρ; clear hSw; go_simp; try with_reducible rfl) ?_; (try simp only [Act.put, List.setIfInBounds_toArray, List.set_cons_succ, List.set_cons_zero])
  refine pureW_e2 166 169 (by (conv => lhs; whnf; arg 1; whnf)) (by rfl) (by (conv => lhs; whnf)) (by (conv => lhs; whnf)) (fun ρ hρ h1 h2 w1 hSw => by have hc := hρ.const; clear hρ; clear hSw; go_simp; try with_reducible rfl) ?_; (try simp only [Act.put, List.setIfInBounds_toArray, List.set_cons_succ, List.set_cons_zero])
  refine pureW_e1 170 (by (conv => lhs; whnf; arg 1; whnf)) (by rfl) (by (conv => lhs; whnf)) (fun ρ hρ h1 w1 hSw => by have hc := hρ.const; clear hρ; clear hSw; go_simp; try with_reducible rfl) ?_; (try simp only [Act.put, List.setIfInBounds_toArray, List.set_cons_succ, List.set_cons_zero])
  refine pureW_e1 1 (by (conv => lhs; whnf; arg 1; whnf)) (by rfl) (by (conv => lhs; whnf)) (fun ρ hρ h1 w1 hSw => by have hc := hρ.const; clear hρ; rw [HS.out] at hSw; simp only [CellsAt] at hSw; go_simp; try with_reducible rfl) ?_; (try simp only [Act.put, List.setIfInBounds_toArray, List.set_cons_succ, List.set_cons_zero])
  refine pureW_e1 1 (by (conv => lhs; whnf; arg 1; whnf)) (by rfl) (by (conv => lhs; whnf)) (fun ρ hρ h1 w1 hSw => by have hc := hρ.const; clear hρ; rw [HS.out] at hSw; simp only [CellsAt] at hSw; go_simp; try with_reducible rfl) ?_; (try simp only [Act.put, List.setIfInBounds_toArray, List.set_cons_succ, List.set_cons_zero])
  refine pureW_nil ?_
  refine wpAnyG_oneN 84 9 (by as_aux_lemma => kernel_rfl) (by as_aux_lemma => kernel_rfl) (by (conv => lhs; whnf; arg 1; whnf)) (by rfl) (fun K hK => ?_)
  go_simp
  refine (fBOwn 3 true _ _ _ [1, 2] _ ya (by decide)).mono ?_
  rintro e wr7 ⟨Ao, co, rfl, mo, hb⟩
  replace b0 := (b0).below hb
  replace ya := (ya).below hb
  replace yb := (yb).below hb
  replace yw := (yw).below hb
  have yo := mo.byt
  have S7 := HB.out _ _ S6 hb
  (try go_simp)
  refine hK.out _ _ S7 ?_
  clear hK K hb S6
  refine wpAnyG_oneN 86 8 (by as_aux_lemma => kernel_rfl) (by as_aux_lemma => kernel_rfl) (by (conv => lhs; whnf; arg 1; whnf)) (by rfl) (fun K hK => ?_)
  go_simp
  refine (fBSameE (show sameB 3 true [1, 2] 3 true [1, 2] = true by decide) _ yo ya).mono ?_
  rintro e wr8 ⟨rfl, hb⟩
  replace b0 := (b0).below hb
  replace ya := (ya).below hb
  replace yb := (yb).below hb
  replace yw := (yw).below hb
  have S8 := HB.out _ _ S7 hb
  (try go_simp)
  refine hK.out _ _ S8 ?_
  clear hK K hb S7
  refine wpAnyG_takesF [87, 88, 89, 90] 4 (by as_aux_lemma => kernel_rfl) (by as_aux_lemma => kernel_rfl) hp S8 ?_
  refine pureW_e2 171 175 (by (conv => lhs; whnf; arg 1; whnf)) (by rfl) (by (conv => lhs; whnf)) (by (conv => lhs; whnf)) (fun ρ hρ h1 h2 w1 hSw => by have hc := hρ.const; clear hρ; clear hSw; go_simp; try with_reducible rfl) ?_; (try simp only [Act.put, List.setIfInBounds_toArray, List.set_cons_succ, List.set_cons_zero])
  refine pureW_e1 176 (by (conv => lhs; whnf; arg 1; whnf)) (by rfl) (by (conv => lhs; whnf)) (fun ρ hρ h1 w1 hSw => by have hc := hρ.const; clear hρ; clear hSw; go_simp; try with_reducible rfl) ?_; (try simp only [Act.put, List.setIfInBounds_toArray, List.set_cons_succ, List.set_cons_zero])
  refine pureW_e1 1 (by (conv => lhs; whnf; arg 1; whnf)) (by rfl) (by (conv => lhs; whnf)) (fun ρ hρ h1 w1 hSw => by have hc := hρ.const; clear hρ; rw [HS.out] at hSw; simp only [CellsAt] at hSw; go_simp; try with_reducible rfl) ?_; (try simp only [Act.put, List.setIfInBounds_toArray, List.set_cons_succ, List.set_cons_zero])
  refine pureW_e1 7 (by (conv => lhs; whnf; arg 1; whnf)) (by rfl) (by (conv => lhs; whnf)) (fun ρ hρ h1 w1 hSw => by have hc := hρ.const; clear hρ; rw [HS.out] at hSw; simp only [CellsAt] at hSw; go_simp; try with_reducible rfl) ?_; (try simp only [Act.put, List.setIfInBounds_toArray, List.set_cons_succ, List.set_cons_zero])
  refine pureW_nil ?_
  refine wpAnyG_oneN 91 3 (by as_aux_lemma => kernel_rfl) (by as_aux_lemma => kernel_rfl) (by (conv => lhs; whnf; arg 1; whnf)) (by rfl) (fun K hK => ?_)
  go_simp
  refine (fBSameE (show sameB 3 true [1, 2] 3 true [1, 2, 4] = false by decide) _ ya yw).mono ?_
  rintro e wr9 ⟨rfl, hb⟩
  replace b0 := (b0).below hb
  replace ya := (ya).below hb
  replace yb := (yb).below hb
  replace yw := (yw).below hb
  have S9 := HB.out _ _ S8 hb
  (try go_simp)
  refine hK.out _ _ S9 ?_
  clear hK K hb S8
  refine wpAnyG_takesF [92, 93, 94] 0 (by as_aux_lemma => kernel_rfl) (by as_aux_lemma => kernel_rfl) hp S9 ?_
  refine pureW_e1 180 (by (conv => lhs; whnf; arg 1; whnf)) (by rfl) (by (conv => lhs; whnf)) (fun ρ hρ h1 w1 hSw => by have hc := hρ.const; clear hρ; clear hSw; go_simp; try with_reducible rfl) ?_; (try simp only [Act.put, List.setIfInBounds_toArray, List.set_cons_succ, List.set_cons_zero])
  refine pureW_e2 177 181 (by (conv => lhs; whnf; arg 1; whnf)) (by rfl) (by (conv => lhs; whnf)) (by (conv => lhs; whnf)) (fun ρ hρ h1 h2 w1 hSw => by have hc := hρ.const; clear hρ; clear hSw; go_simp; try with_reducible rfl) ?_; (try simp only [Act.put, List.setIfInBounds_toArray, List.set_cons_succ, List.set_cons_zero])
  refine pureW_e1 182 (by (conv => lhs; whnf; arg 1; whnf)) (by rfl) (by (conv => lhs; whnf)) (fun ρ hρ h1 w1 hSw => by have hc := hρ.const; clear hρ; clear hSw; go_simp; try with_reducible rfl) ?_; (try simp only [Act.put, List.setIfInBounds_toArray, List.set_cons_zero])
  refine pureW_nil ?_
  refine wpAnyG_done (by as_aux_lemma => kernel_rfl) ?_ _
  rw [HQ.out]
  go_wp2
  go_ret
  exact ⟨rfl, b0.out⟩
end Go.Proofs.Ytbooojpohfdljaa
