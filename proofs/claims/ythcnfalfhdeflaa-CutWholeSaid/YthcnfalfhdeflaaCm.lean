/- The statements' own wakes of readers returns true. -/
import Derived.Test.YthcnfalfhdeflaaCj
import Derived.Test.YthcnfalfhdeflaaCl
import Derived.Test.YthcnfalfhdeflaaJd
namespace Go.Proofs.Ythcnfalfhdeflaa
open Go.RowKit Go.Shelf
set_option linter.unusedVariables false
set_option linter.unusedSimpArgs false

instance : DecidablePred Bs := fun l => inferInstanceAs (Decidable (∀ x ∈ l, 0 ≤ x ∧ x ≤ 255))
theorem lit9 {w : World} {g : Nat} {x1 x2 x3 x4 x5 x6 x7 x8 x9 : Int} (hg : w.heap.size = g) (h : Bs [x1, x2, x3, x4, x5, x6, x7, x8, x9]) : Byt (w.alloc (.cells #[.int .u8 x1, .int .u8 x2, .int .u8 x3, .int .u8 x4, .int .u8 x5, .int .u8 x6, .int .u8 x7, .int .u8 x8, .int .u8 x9] 5)) (some ⟨g, 0, none⟩) 9 9 [x1, x2, x3, x4, x5, x6, x7, x8, x9] := by
  subst hg
  exact (Mine.lit (base := 0) w _ (Nat.zero_le _) h (by simp) 9 rfl).byt
theorem wk1 : feedC 0 [] (preL ++ [0, 0, 0, 4, 0, 0, 0, 0, 0, 7]) = ⟨24, [7], [⟨0, 4, 0, 0, []⟩], false, 0⟩ := by decide
theorem wk2 : feedC 0 [] [71] = ⟨0, [], [], true, 1⟩ := by decide
theorem wk4 : feedC 24 [] [0, 64, 1, 0, 0, 0, 0, 0, 1] = ⟨24, [], [], true, 6⟩ := by decide
theorem wk5 : sameC 24 [7] 24 [7] = true := by decide
theorem wk6 : rightC 24 [7] = true := by decide
theorem wk7 : rightC 1 [1] = false := by decide
/-- A block's first cells. -/
def PcAt (W : World) (g : Nat) (cs : Array Value) : Prop := g < W.heap.size ∧ ∀ (i : Nat) v, cs[i]? = some v → W.cell? ⟨g, i, none⟩ = some v
section
variable {W W' : World} {g : Nat} {cs : Array Value}
theorem PcAt.at (h : PcAt W g cs) (i : Nat) {v : Value} (hv : cs[i]? = some v) : W.cell? ⟨g, i, none⟩ = some v := h.2 i v hv
theorem PcAt.below (h : PcAt W g cs) (hb : Below W.heap.size W W') : PcAt W' g cs := ⟨Nat.lt_of_lt_of_le h.1 hb.size, fun i v hv => (hb.cell (p := ⟨g, i, none⟩) h.1).trans (h.2 i v hv)⟩
theorem PcAt.alloc (h : PcAt W g cs) (o : Obj) : PcAt (W.alloc o) g cs := h.below ((Below.refl _ W).alloc (Nat.le_refl _) o)
theorem PcAt.drew (h : PcAt W g cs) : PcAt W.drew g cs := h.below (drew_below _ _)
theorem PcAt.grownB (h : PcAt W g cs) {b : Nat} (hg : W.grownBy W' (some b)) (hne : g ≠ b) : PcAt W' g cs :=
  ⟨Nat.lt_of_lt_of_le h.1 hg.size, fun i v hv => (World.cell?_of_block (hg.block g h.1 (fun e => hne (by simpa using e)))).trans (h.2 i v hv)⟩
end
/-- One piece that the call owns. -/
theorem MineC.one {base : Nat} {W : World} {B : Option Addr} {m d : Nat} {es : List Pe} {p : Pc} (h : MineC base W B m d es) (hp : es.map (·.p) = [p]) (hd : p.d = []) :
    m = 1 ∧ ∃ g A c, B = some ⟨g, 0, none⟩ ∧ base ≤ g ∧ PcAt W g #[.int .i64 p.L, .int .u8 p.k, .int .u8 p.f, .int .i64 p.s, .slice A 0 c] := by
  have hl := h.len
  rcases es with _ | ⟨e, _ | ⟨e2, r⟩⟩
  · simp at hp
  · simp at hp hl
    subst hl hp
    refine ⟨rfl, ?_⟩
    rcases h.1.2 with ⟨e1, h0⟩ | ⟨g, cap, cur, e1, hb, hg, _⟩
    · omega
    · simp at e1
      obtain ⟨rfl, rfl⟩ := e1
      refine ⟨g, e.A, e.c, rfl, hb, (Array.getElem?_eq_some_iff.1 hg).1, fun i v hv => ?_⟩
      have hc := h.1.cells (g := g) rfl i v (by simpa [pecells, peV, hd] using hv)
      rw [Go.WideShapes.add_plain] at hc
      rw [Nat.zero_add] at hc
      exact hc
  · simp at hp
noncomputable def wkOps : Array Oper := regAt Try.f8 6

set_option maxRecDepth 100000 in
set_option maxHeartbeats 4000000 in
theorem fWakes (W : World) : Calls Try.prog 8 #[] W fun e w' => e = .returned (.bool true) ∧ Below W.heap.size W w' := by
  have F1 := Lib.hid fun (B : Option Addr) (e : Nat) w (hc : Byt w B 34 e (preL ++ [0, 0, 0, 4, 0, 0, 0, 0, 0, 7])) => fFeed 0 ⟨by omega, by omega⟩ none 0 0 [] B 34 e (preL ++ [0, 0, 0, 4, 0, 0, 0, 0, 0, 7]) w (Byt.nil w) hc (by omega) (by omega) (by decide)
  rw [wk1] at F1
  have F2 := Lib.hid fun (B : Option Addr) (e : Nat) w (hc : Byt w B 1 e [71]) => fFeed 0 ⟨by omega, by omega⟩ none 0 0 [] B 1 e [71] w (Byt.nil w) hc (by omega) (by omega) (by decide)
  rw [wk2] at F2
  have F3 := Lib.hid fun w => feedNo 25 ⟨by omega, by omega⟩ none 0 0 [] none 0 0 [] w (Byt.nil w) (Byt.nil w) (by omega) (by omega) (by decide)
  have F4 := Lib.hid fun (B : Option Addr) (e : Nat) w (hc : Byt w B 9 e [0, 64, 1, 0, 0, 0, 0, 0, 1]) => fFeed 24 ⟨by omega, by omega⟩ none 0 0 [] B 9 e [0, 64, 1, 0, 0, 0, 0, 0, 1] w (Byt.nil w) hc (by omega) (by omega) (by decide)
  rw [wk4] at F4
  have SM := Lib.hid fun (A : Option Addr) (c : Nat) (B : Option Addr) (d : Nat) w (h : Byt w A 1 c [7]) (h2 : Byt w B 1 d [7]) => fRSame 24 A 1 c [7] 24 B 1 d [7] w h h2
  rw [wk5] at SM
  have BG1 := Lib.hid fun (A : Option Addr) (c : Nat) w => fBegun 24 A 1 c w
  rw [show ((24 : Int) == 24) = true from rfl] at BG1
  have BG2 := Lib.hid fun w => fBegun 23 none 0 0 w
  rw [show ((23 : Int) == 24) = false from rfl] at BG2
  have RG1 := Lib.hid fun (A : Option Addr) (c : Nat) w (h : Byt w A 1 c [7]) => fRRight 24 A 1 c [7] w h (by omega)
  rw [wk6] at RG1
  have RG2 := Lib.hid fun (A : Option Addr) (c : Nat) w (h : Byt w A 1 c [1]) => fRRight 1 A 1 c [1] w h (by omega)
  rw [wk7] at RG2
  have OW := Lib.hid fun (A : Option Addr) (c : Nat) w (h : Byt w A 1 c [7]) => fROwn 24 A 1 c [7] w h (by omega)
  have b0 := Bel.refl W
  go_enter Try.func8, Try.ntmps8
  go_upto_region 2 with ((go_at_call 15; (with_reducible refine (fPreface _).mono ?_); rintro e wp ⟨Ap, cp, rfl, yp, hb⟩; replace b0 := b0.below hb; have sp := b0.out.size; clear hb))
  have YP := Lib.hid yp
  go_wp2_with (first
    | (at_builtin; refine wpList_copy wp rfl (.tmp 21) (.tmp 22) rfl rfl (by rfl) Ap 24 cp preL rfl YP.out (by decide) ?_; intro A2 c2 w2 m2 hb2; replace b0 := b0.step hb2)
    | (at_builtin; refine wpList_app _ rfl (.tmp 23) (.tmp 24) rfl wp.heap.size A2 24 c2 preL rfl (m2.alloc _) (some ⟨w2.heap.size, 0, none⟩) 10 10 [0, 0, 0, 4, 0, 0, 0, 0, 0, 7] rfl (Mine.lit (base := 0) w2 [0, 0, 0, 4, 0, 0, 0, 0, 0, 7] (Nat.zero_le _) (by decide) (by decide) 10 rfl).byt (by decide) (by have := hb2.size; simp; omega) ?_; intro A3 c3 w3 m3 hb3 hg3 hat3; replace b0 : Bel W w3 := (b0.alloc (.cells #[.int .u8 0, .int .u8 0, .int .u8 0, .int .u8 4, .int .u8 0, .int .u8 0, .int .u8 0, .int .u8 0, .int .u8 0, .int .u8 7] 5)).stepB hb3 sp; clear hg3 hat3))
  refine (F1.out _ _ _ m3.byt).mono ?_
  rintro e w4 ⟨Aw4, nw4, cw4, Bw4, mw4, dw4, esw4, rfl, mAw4, mCw4, hpw4, hb⟩
  replace b0 := b0.below hb
  obtain rfl : nw4 = 1 := by have h := mAw4.len; simpa using h.symm
  obtain ⟨rfl, gp, Ap1, cp1, rfl, hgp, pc⟩ := MineC.one mCw4 hpw4 rfl
  simp only at pc
  clear mCw4 hpw4
  replace b0 := (b0.alloc (.cells #[.int .i64 24, .slice Aw4 1 cw4] 24)).alloc (.cells #[.bool false, .int .i64 0, .int .u32 0] 31)
  replace mAw4 := (mAw4.alloc (.cells #[.int .i64 24, .slice Aw4 1 cw4] 24)).alloc (.cells #[.bool false, .int .i64 0, .int .u32 0] 31)
  replace pc := (pc.alloc (.cells #[.int .i64 24, .slice Aw4 1 cw4] 24)).alloc (.cells #[.bool false, .int .i64 0, .int .u32 0] 31)
  have r1 := (Blk.new w4 24 #[.int .i64 24, .slice Aw4 1 cw4]).alloc (.cells #[.bool false, .int .i64 0, .int .u32 0] 31)
  have f1 := Blk.newAt (b := w4.heap.size + 1) (w4.alloc (.cells #[.int .i64 24, .slice Aw4 1 cw4] 24)) 31 #[.bool false, .int .i64 0, .int .u32 0] (by simp)
  clear hb
  go_wp2_with fail
  replace pc := pc.alloc (.cells #[.int .u8 71] 5)
  replace mAw4 := mAw4.alloc (.cells #[.int .u8 71] 5)
  replace f1 := f1.alloc (.cells #[.int .u8 71] 5)
  replace r1 := r1.alloc (.cells #[.int .u8 71] 5)
  replace b0 := b0.alloc (.cells #[.int .u8 71] 5)
  refine (F2.out _ _ _ (lit1 (by simp) (by decide))).mono ?_
  rintro e w5 ⟨Aw5, nw5, cw5, Bw5, mw5, dw5, esw5, rfl, mAw5, mCw5, hpw5, hb⟩
  replace b0 := b0.below hb
  replace r1 := r1.below hb
  replace f1 := f1.below hb
  replace mAw4 := mAw4.below hb
  replace pc := pc.below hb
  have e5 : esw5 = [] := by simpa using hpw5
  obtain rfl : mw5 = 0 := by have h := mCw5.len; rw [e5] at h; exact h.symm
  clear mAw5 mCw5 hpw5 e5
  replace b0 := (b0.alloc (.cells #[.int .i64 0, .slice Aw5 nw5 cw5] 24)).alloc (.cells #[.bool true, .int .i64 0, .int .u32 1] 31)
  replace r1 := (r1.alloc (.cells #[.int .i64 0, .slice Aw5 nw5 cw5] 24)).alloc (.cells #[.bool true, .int .i64 0, .int .u32 1] 31)
  replace f1 := (f1.alloc (.cells #[.int .i64 0, .slice Aw5 nw5 cw5] 24)).alloc (.cells #[.bool true, .int .i64 0, .int .u32 1] 31)
  replace mAw4 := (mAw4.alloc (.cells #[.int .i64 0, .slice Aw5 nw5 cw5] 24)).alloc (.cells #[.bool true, .int .i64 0, .int .u32 1] 31)
  replace pc := (pc.alloc (.cells #[.int .i64 0, .slice Aw5 nw5 cw5] 24)).alloc (.cells #[.bool true, .int .i64 0, .int .u32 1] 31)
  have r2 := (Blk.new w5 24 #[.int .i64 0, .slice Aw5 nw5 cw5]).alloc (.cells #[.bool true, .int .i64 0, .int .u32 1] 31)
  have f2 := Blk.newAt (b := w5.heap.size + 1) (w5.alloc (.cells #[.int .i64 0, .slice Aw5 nw5 cw5] 24)) 31 #[.bool true, .int .i64 0, .int .u32 1] (by simp)
  clear hb
  go_wp2_with fail
  refine (F3.out _).mono ?_
  rintro e w6 ⟨Aw6, nw6, cw6, Bw6, mw6, dw6, esw6, rfl, mAw6, mCw6, hpw6, hb⟩
  replace b0 := b0.below hb
  replace r1 := r1.below hb
  replace f1 := f1.below hb
  replace r2 := r2.below hb
  replace f2 := f2.below hb
  replace mAw4 := mAw4.below hb
  replace pc := pc.below hb
  clear mAw6 mCw6 hpw6
  replace b0 := (b0.alloc (.cells #[.int .i64 25, .slice Aw6 nw6 cw6] 24)).alloc (.cells #[.bool false, .int .i64 0, .int .u32 0] 31)
  replace r1 := (r1.alloc (.cells #[.int .i64 25, .slice Aw6 nw6 cw6] 24)).alloc (.cells #[.bool false, .int .i64 0, .int .u32 0] 31)
  replace f1 := (f1.alloc (.cells #[.int .i64 25, .slice Aw6 nw6 cw6] 24)).alloc (.cells #[.bool false, .int .i64 0, .int .u32 0] 31)
  replace r2 := (r2.alloc (.cells #[.int .i64 25, .slice Aw6 nw6 cw6] 24)).alloc (.cells #[.bool false, .int .i64 0, .int .u32 0] 31)
  replace f2 := (f2.alloc (.cells #[.int .i64 25, .slice Aw6 nw6 cw6] 24)).alloc (.cells #[.bool false, .int .i64 0, .int .u32 0] 31)
  replace mAw4 := (mAw4.alloc (.cells #[.int .i64 25, .slice Aw6 nw6 cw6] 24)).alloc (.cells #[.bool false, .int .i64 0, .int .u32 0] 31)
  replace pc := (pc.alloc (.cells #[.int .i64 25, .slice Aw6 nw6 cw6] 24)).alloc (.cells #[.bool false, .int .i64 0, .int .u32 0] 31)
  have r3 := (Blk.new w6 24 #[.int .i64 25, .slice Aw6 nw6 cw6]).alloc (.cells #[.bool false, .int .i64 0, .int .u32 0] 31)
  have f3 := Blk.newAt (b := w6.heap.size + 1) (w6.alloc (.cells #[.int .i64 25, .slice Aw6 nw6 cw6] 24)) 31 #[.bool false, .int .i64 0, .int .u32 0] (by simp)
  clear hb
  go_wp2_with fail
  replace pc := pc.alloc (.cells #[.int .u8 0, .int .u8 64, .int .u8 1, .int .u8 0, .int .u8 0, .int .u8 0, .int .u8 0, .int .u8 0, .int .u8 1] 5)
  replace mAw4 := mAw4.alloc (.cells #[.int .u8 0, .int .u8 64, .int .u8 1, .int .u8 0, .int .u8 0, .int .u8 0, .int .u8 0, .int .u8 0, .int .u8 1] 5)
  replace f3 := f3.alloc (.cells #[.int .u8 0, .int .u8 64, .int .u8 1, .int .u8 0, .int .u8 0, .int .u8 0, .int .u8 0, .int .u8 0, .int .u8 1] 5)
  replace r3 := r3.alloc (.cells #[.int .u8 0, .int .u8 64, .int .u8 1, .int .u8 0, .int .u8 0, .int .u8 0, .int .u8 0, .int .u8 0, .int .u8 1] 5)
  replace f2 := f2.alloc (.cells #[.int .u8 0, .int .u8 64, .int .u8 1, .int .u8 0, .int .u8 0, .int .u8 0, .int .u8 0, .int .u8 0, .int .u8 1] 5)
  replace r2 := r2.alloc (.cells #[.int .u8 0, .int .u8 64, .int .u8 1, .int .u8 0, .int .u8 0, .int .u8 0, .int .u8 0, .int .u8 0, .int .u8 1] 5)
  replace f1 := f1.alloc (.cells #[.int .u8 0, .int .u8 64, .int .u8 1, .int .u8 0, .int .u8 0, .int .u8 0, .int .u8 0, .int .u8 0, .int .u8 1] 5)
  replace r1 := r1.alloc (.cells #[.int .u8 0, .int .u8 64, .int .u8 1, .int .u8 0, .int .u8 0, .int .u8 0, .int .u8 0, .int .u8 0, .int .u8 1] 5)
  replace b0 := b0.alloc (.cells #[.int .u8 0, .int .u8 64, .int .u8 1, .int .u8 0, .int .u8 0, .int .u8 0, .int .u8 0, .int .u8 0, .int .u8 1] 5)
  refine (F4.out _ _ _ (lit9 (by simp) (by decide))).mono ?_
  rintro e w7 ⟨Aw7, nw7, cw7, Bw7, mw7, dw7, esw7, rfl, mAw7, mCw7, hpw7, hb⟩
  replace b0 := b0.below hb
  replace r1 := r1.below hb
  replace f1 := f1.below hb
  replace r2 := r2.below hb
  replace f2 := f2.below hb
  replace r3 := r3.below hb
  replace f3 := f3.below hb
  replace mAw4 := mAw4.below hb
  replace pc := pc.below hb
  clear mAw7 mCw7 hpw7
  replace b0 := (b0.alloc (.cells #[.int .i64 24, .slice Aw7 nw7 cw7] 24)).alloc (.cells #[.bool true, .int .i64 0, .int .u32 6] 31)
  replace r1 := (r1.alloc (.cells #[.int .i64 24, .slice Aw7 nw7 cw7] 24)).alloc (.cells #[.bool true, .int .i64 0, .int .u32 6] 31)
  replace f1 := (f1.alloc (.cells #[.int .i64 24, .slice Aw7 nw7 cw7] 24)).alloc (.cells #[.bool true, .int .i64 0, .int .u32 6] 31)
  replace r2 := (r2.alloc (.cells #[.int .i64 24, .slice Aw7 nw7 cw7] 24)).alloc (.cells #[.bool true, .int .i64 0, .int .u32 6] 31)
  replace f2 := (f2.alloc (.cells #[.int .i64 24, .slice Aw7 nw7 cw7] 24)).alloc (.cells #[.bool true, .int .i64 0, .int .u32 6] 31)
  replace r3 := (r3.alloc (.cells #[.int .i64 24, .slice Aw7 nw7 cw7] 24)).alloc (.cells #[.bool true, .int .i64 0, .int .u32 6] 31)
  replace f3 := (f3.alloc (.cells #[.int .i64 24, .slice Aw7 nw7 cw7] 24)).alloc (.cells #[.bool true, .int .i64 0, .int .u32 6] 31)
  replace mAw4 := (mAw4.alloc (.cells #[.int .i64 24, .slice Aw7 nw7 cw7] 24)).alloc (.cells #[.bool true, .int .i64 0, .int .u32 6] 31)
  replace pc := (pc.alloc (.cells #[.int .i64 24, .slice Aw7 nw7 cw7] 24)).alloc (.cells #[.bool true, .int .i64 0, .int .u32 6] 31)
  have r4 := (Blk.new w7 24 #[.int .i64 24, .slice Aw7 nw7 cw7]).alloc (.cells #[.bool true, .int .i64 0, .int .u32 6] 31)
  have f4 := Blk.newAt (b := w7.heap.size + 1) (w7.alloc (.cells #[.int .i64 24, .slice Aw7 nw7 cw7] 24)) 31 #[.bool true, .int .i64 0, .int .u32 6] (by simp)
  clear hb
  go_wp2_with fail
  clear r2
  clear r3
  clear f3
  clear r4
  generalize (w7.alloc (.cells #[.int .i64 24, .slice Aw7 nw7 cw7] 24)).alloc (.cells #[.bool true, .int .i64 0, .int .u32 6] 31) = w9 at *
  obtain ⟨SW, HS⟩ : ∃ SW : World → Prop, Hid (SW = CellsAt [(⟨w4.heap.size, 0, none⟩, .int .i64 24), (⟨w4.heap.size, 1, none⟩, .slice Aw4 1 cw4), (⟨w4.heap.size + 1, 0, none⟩, .bool false), (⟨w4.heap.size + 1, 1, none⟩, .int .i64 0), (⟨w4.heap.size + 1, 2, none⟩, .int .u32 0), (⟨w5.heap.size + 1, 0, none⟩, .bool true), (⟨w5.heap.size + 1, 1, none⟩, .int .i64 0), (⟨w5.heap.size + 1, 2, none⟩, .int .u32 1), (⟨w7.heap.size + 1, 0, none⟩, .bool true), (⟨w7.heap.size + 1, 1, none⟩, .int .i64 0), (⟨w7.heap.size + 1, 2, none⟩, .int .u32 6), (⟨gp, 0, none⟩, .int .i64 0), (⟨gp, 1, none⟩, .int .u8 4), (⟨gp, 2, none⟩, .int .u8 0), (⟨gp, 3, none⟩, .int .i64 0), (⟨gp, 4, none⟩, .slice Ap1 0 cp1)]) := ⟨_, Lib.hid rfl⟩
  have sw0 : SW w9.drew := by
    rw [HS.out]
    exact ⟨r1.at 0 rfl, r1.at 1 rfl, f1.at 0 rfl, f1.at 1 rfl, f1.at 2 rfl, f2.at 0 rfl, f2.at 1 rfl, f2.at 2 rfl, f4.at 0 rfl, f4.at 1 rfl, f4.at 2 rfl, pc.at 0 rfl, pc.at 1 rfl, pc.at 2 rfl, pc.at 3 rfl, pc.at 4 rfl, trivial⟩
  replace b0 := b0.drew
  replace mAw4 := mAw4.drew
  clear r1 f1 f2 f4 pc
  (try simp only [List.append_eq, List.cons_append, List.nil_append])
  have HB : Hid (∀ w w', SW w → Below w.heap.size w w' → SW w') := Lib.hid fun w w' h hb => by rw [HS.out] at h ⊢; exact CellsAt.below h hb
  refine wp_region_N wkOps SW (by as_aux_lemma => kernel_rfl) (by as_aux_lemma => kernel_rfl) (fun d _ _ _ _ h => by cases d <;> exact h) (fun Q HQ hp => ?_)
  refine wpAnyG_takesF [0, 1, 2, 3, 4, 5, 6, 7, 8, 9, 10, 11, 12, 13, 14, 15, 16, 17, 18, 19, 20, 21, 22, 23, 24, 25, 26, 27, 28, 29, 30, 31, 32, 33, 34] 57 (by as_aux_lemma => kernel_rfl) (by as_aux_lemma => kernel_rfl) hp sw0 ?_
  refine pureW_e1 1 (by (conv => lhs; whnf; arg 1; whnf)) (by rfl) (by (conv => lhs; whnf)) (fun ρ hρ h1 w1 hSw => by have hc := hρ.const; clear hρ; clear hSw; go_simp; try with_reducible rfl) ?_; (try simp only [Act.put, List.setIfInBounds_toArray, List.set_cons_succ, List.set_cons_zero])
  refine pureW_e1 54 (by (conv => lhs; whnf; arg 1; whnf)) (by rfl) (by (conv => lhs; whnf)) (fun ρ hρ h1 w1 hSw => by have hc := hρ.const; clear hρ; clear hSw; go_simp; try with_reducible rfl) ?_; (try simp only [Act.put, List.setIfInBounds_toArray, List.set_cons_succ, List.set_cons_zero])
  refine pureW_e1 55 (by (conv => lhs; whnf; arg 1; whnf)) (by rfl) (by (conv => lhs; whnf)) (fun ρ hρ h1 w1 hSw => by have hc := hρ.const; clear hρ; clear hSw; go_simp; try with_reducible rfl) ?_; (try simp only [Act.put, List.setIfInBounds_toArray, List.set_cons_succ, List.set_cons_zero])
  refine pureW_e1 56 (by (conv => lhs; whnf; arg 1; whnf)) (by rfl) (by (conv => lhs; whnf)) (fun ρ hρ h1 w1 hSw => by have hc := hρ.const; clear hρ; clear hSw; go_simp; try with_reducible rfl) ?_; (try simp only [Act.put, List.setIfInBounds_toArray, List.set_cons_succ, List.set_cons_zero])
  refine pureW_e1 5 (by (conv => lhs; whnf; arg 1; whnf)) (by rfl) (by (conv => lhs; whnf)) (fun ρ hρ h1 w1 hSw => by have hc := hρ.const; clear hρ; clear hSw; go_simp; try with_reducible rfl) ?_; (try simp only [Act.put, List.setIfInBounds_toArray, List.set_cons_succ, List.set_cons_zero])
  refine pureW_e1 58 (by (conv => lhs; whnf; arg 1; whnf)) (by rfl) (by (conv => lhs; whnf)) (fun ρ hρ h1 w1 hSw => by have hc := hρ.const; clear hρ; clear hSw; go_simp; try with_reducible rfl) ?_; (try simp only [Act.put, List.setIfInBounds_toArray, List.set_cons_succ, List.set_cons_zero])
  refine pureW_e2 57 59 (by (conv => lhs; whnf; arg 1; whnf)) (by rfl) (by (conv => lhs; whnf)) (by (conv => lhs; whnf)) (fun ρ hρ h1 h2 w1 hSw => by have hc := hρ.const; clear hρ; clear hSw; go_simp; try with_reducible rfl) ?_; (try simp only [Act.put, List.setIfInBounds_toArray, List.set_cons_succ, List.set_cons_zero])
  refine pureW_e1 60 (by (conv => lhs; whnf; arg 1; whnf)) (by rfl) (by (conv => lhs; whnf)) (fun ρ hρ h1 w1 hSw => by have hc := hρ.const; clear hρ; clear hSw; go_simp; try with_reducible rfl) ?_; (try simp only [Act.put, List.setIfInBounds_toArray, List.set_cons_succ, List.set_cons_zero])
  refine pureW_e1 4 (by (conv => lhs; whnf; arg 1; whnf)) (by rfl) (by (conv => lhs; whnf)) (fun ρ hρ h1 w1 hSw => by have hc := hρ.const; clear hρ; rw [HS.out] at hSw; simp only [CellsAt] at hSw; go_simp; try with_reducible rfl) ?_; (try simp only [Act.put, List.setIfInBounds_toArray, List.set_cons_succ, List.set_cons_zero])
  refine pureW_e0  (by (conv => lhs; whnf; arg 1; whnf)) (by rfl)  (fun ρ hρ  w1 hSw => by have hc := hρ.const; clear hρ; clear hSw; go_simp; try with_reducible rfl) ?_; (try simp only [Act.put, List.setIfInBounds_toArray, List.set_cons_succ, List.set_cons_zero])
  refine pureW_e2 62 63 (by (conv => lhs; whnf; arg 1; whnf)) (by rfl) (by (conv => lhs; whnf)) (by (conv => lhs; whnf)) (fun ρ hρ h1 h2 w1 hSw => by have hc := hρ.const; clear hρ; clear hSw; go_simp; try with_reducible rfl) ?_; (try simp only [Act.put, List.setIfInBounds_toArray, List.set_cons_succ, List.set_cons_zero])
  refine pureW_e2 61 64 (by (conv => lhs; whnf; arg 1; whnf)) (by rfl) (by (conv => lhs; whnf)) (by (conv => lhs; whnf)) (fun ρ hρ h1 h2 w1 hSw => by have hc := hρ.const; clear hρ; clear hSw; go_simp; try with_reducible rfl) ?_; (try simp only [Act.put, List.setIfInBounds_toArray, List.set_cons_succ, List.set_cons_zero])
  refine pureW_e1 65 (by (conv => lhs; whnf; arg 1; whnf)) (by rfl) (by (conv => lhs; whnf)) (fun ρ hρ h1 w1 hSw => by have hc := hρ.const; clear hρ; clear hSw; go_simp; try with_reducible rfl) ?_; (try simp only [Act.put, List.setIfInBounds_toArray, List.set_cons_succ, List.set_cons_zero])
  refine pureW_e1 3 (by (conv => lhs; whnf; arg 1; whnf)) (by rfl) (by (conv => lhs; whnf)) (fun ρ hρ h1 w1 hSw => by have hc := hρ.const; clear hρ; clear hSw; go_simp; try with_reducible rfl) ?_; (try simp only [Act.put, List.setIfInBounds_toArray, List.set_cons_succ, List.set_cons_zero])
  refine pureW_e1 67 (by (conv => lhs; whnf; arg 1; whnf)) (by rfl) (by (conv => lhs; whnf)) (fun ρ hρ h1 w1 hSw => by have hc := hρ.const; clear hρ; clear hSw; go_simp; try with_reducible rfl) ?_; (try simp only [Act.put, List.setIfInBounds_toArray, List.set_cons_succ, List.set_cons_zero])
  refine pureW_e1 68 (by (conv => lhs; whnf; arg 1; whnf)) (by rfl) (by (conv => lhs; whnf)) (fun ρ hρ h1 w1 hSw => by have hc := hρ.const; clear hρ; clear hSw; go_simp; try with_reducible rfl) ?_; (try simp only [Act.put, List.setIfInBounds_toArray, List.set_cons_succ, List.set_cons_zero])
  refine pureW_e2 66 69 (by (conv => lhs; whnf; arg 1; whnf)) (by rfl) (by (conv => lhs; whnf)) (by (conv => lhs; whnf)) (fun ρ hρ h1 h2 w1 hSw => by have hc := hρ.const; clear hρ; clear hSw; go_simp; try with_reducible rfl) ?_; (try simp only [Act.put, List.setIfInBounds_toArray, List.set_cons_succ, List.set_cons_zero])
  refine pureW_e1 70 (by (conv => lhs; whnf; arg 1; whnf)) (by rfl) (by (conv => lhs; whnf)) (fun ρ hρ h1 w1 hSw => by have hc := hρ.const; clear hρ; clear hSw; go_simp; try with_reducible rfl) ?_; (try simp only [Act.put, List.setIfInBounds_toArray, List.set_cons_succ, List.set_cons_zero])
  refine pureW_e1 3 (by (conv => lhs; whnf; arg 1; whnf)) (by rfl) (by (conv => lhs; whnf)) (fun ρ hρ h1 w1 hSw => by have hc := hρ.const; clear hρ; clear hSw; go_simp; try with_reducible rfl) ?_; (try simp only [Act.put, List.setIfInBounds_toArray, List.set_cons_succ, List.set_cons_zero])
  refine pureW_e1 72 (by (conv => lhs; whnf; arg 1; whnf)) (by rfl) (by (conv => lhs; whnf)) (fun ρ hρ h1 w1 hSw => by have hc := hρ.const; clear hρ; clear hSw; go_simp; try with_reducible rfl) ?_; (try simp only [Act.put, List.setIfInBounds_toArray, List.set_cons_succ, List.set_cons_zero])
  refine pureW_e1 73 (by (conv => lhs; whnf; arg 1; whnf)) (by rfl) (by (conv => lhs; whnf)) (fun ρ hρ h1 w1 hSw => by have hc := hρ.const; clear hρ; clear hSw; go_simp; try with_reducible rfl) ?_; (try simp only [Act.put, List.setIfInBounds_toArray, List.set_cons_succ, List.set_cons_zero])
  refine pureW_e1 74 (by (conv => lhs; whnf; arg 1; whnf)) (by rfl) (by (conv => lhs; whnf)) (fun ρ hρ h1 w1 hSw => by have hc := hρ.const; clear hρ; clear hSw; go_simp; try with_reducible rfl) ?_; (try simp only [Act.put, List.setIfInBounds_toArray, List.set_cons_succ, List.set_cons_zero])
  refine pureW_e1 75 (by (conv => lhs; whnf; arg 1; whnf)) (by rfl) (by (conv => lhs; whnf)) (fun ρ hρ h1 w1 hSw => by have hc := hρ.const; clear hρ; rw [HS.out] at hSw; simp only [CellsAt] at hSw; go_simp; try with_reducible rfl) ?_; (try simp only [Act.put, List.setIfInBounds_toArray, List.set_cons_succ, List.set_cons_zero])
  refine pureW_e1 76 (by (conv => lhs; whnf; arg 1; whnf)) (by rfl) (by (conv => lhs; whnf)) (fun ρ hρ h1 w1 hSw => by have hc := hρ.const; clear hρ; clear hSw; go_simp; try with_reducible rfl) ?_; (try simp only [Act.put, List.setIfInBounds_toArray, List.set_cons_succ, List.set_cons_zero])
  refine pureW_e2 71 77 (by (conv => lhs; whnf; arg 1; whnf)) (by rfl) (by (conv => lhs; whnf)) (by (conv => lhs; whnf)) (fun ρ hρ h1 h2 w1 hSw => by have hc := hρ.const; clear hρ; clear hSw; go_simp; try with_reducible rfl) ?_; (try simp only [Act.put, List.setIfInBounds_toArray, List.set_cons_succ, List.set_cons_zero])
  refine pureW_e1 78 (by (conv => lhs; whnf; arg 1; whnf)) (by rfl) (by (conv => lhs; whnf)) (fun ρ hρ h1 w1 hSw => by have hc := hρ.const; clear hρ; clear hSw; go_simp; try with_reducible rfl) ?_; (try simp only [Act.put, List.setIfInBounds_toArray, List.set_cons_succ, List.set_cons_zero])
  refine pureW_e1 3 (by (conv => lhs; whnf; arg 1; whnf)) (by rfl) (by (conv => lhs; whnf)) (fun ρ hρ h1 w1 hSw => by have hc := hρ.const; clear hρ; clear hSw; go_simp; try with_reducible rfl) ?_; (try simp only [Act.put, List.setIfInBounds_toArray, List.set_cons_succ, List.set_cons_zero])
  refine pureW_e1 80 (by (conv => lhs; whnf; arg 1; whnf)) (by rfl) (by (conv => lhs; whnf)) (fun ρ hρ h1 w1 hSw => by have hc := hρ.const; clear hρ; clear hSw; go_simp; try with_reducible rfl) ?_; (try simp only [Act.put, List.setIfInBounds_toArray, List.set_cons_succ, List.set_cons_zero])
  refine pureW_e1 81 (by (conv => lhs; whnf; arg 1; whnf)) (by rfl) (by (conv => lhs; whnf)) (fun ρ hρ h1 w1 hSw => by have hc := hρ.const; clear hρ; clear hSw; go_simp; try with_reducible rfl) ?_; (try simp only [Act.put, List.setIfInBounds_toArray, List.set_cons_succ, List.set_cons_zero])
  refine pureW_e1 82 (by (conv => lhs; whnf; arg 1; whnf)) (by rfl) (by (conv => lhs; whnf)) (fun ρ hρ h1 w1 hSw => by have hc := hρ.const; clear hρ; rw [HS.out] at hSw; simp only [CellsAt] at hSw; go_simp; try with_reducible rfl) ?_; (try simp only [Act.put, List.setIfInBounds_toArray, List.set_cons_succ, List.set_cons_zero])
  refine pureW_e1 83 (by (conv => lhs; whnf; arg 1; whnf)) (by rfl) (by (conv => lhs; whnf)) (fun ρ hρ h1 w1 hSw => by have hc := hρ.const; clear hρ; clear hSw; go_simp; try with_reducible rfl) ?_; (try simp only [Act.put, List.setIfInBounds_toArray, List.set_cons_succ, List.set_cons_zero])
  refine pureW_e1 84 (by (conv => lhs; whnf; arg 1; whnf)) (by rfl) (by (conv => lhs; whnf)) (fun ρ hρ h1 w1 hSw => by have hc := hρ.const; clear hρ; clear hSw; go_simp; try with_reducible rfl) ?_; (try simp only [Act.put, List.setIfInBounds_toArray, List.set_cons_succ, List.set_cons_zero])
  refine pureW_e2 79 85 (by (conv => lhs; whnf; arg 1; whnf)) (by rfl) (by (conv => lhs; whnf)) (by (conv => lhs; whnf)) (fun ρ hρ h1 h2 w1 hSw => by have hc := hρ.const; clear hρ; clear hSw; go_simp; try with_reducible rfl) ?_; (try simp only [Act.put, List.setIfInBounds_toArray, List.set_cons_succ, List.set_cons_zero])
  refine pureW_e1 86 (by (conv => lhs; whnf; arg 1; whnf)) (by rfl) (by (conv => lhs; whnf)) (fun ρ hρ h1 w1 hSw => by have hc := hρ.const; clear hρ; clear hSw; go_simp; try with_reducible rfl) ?_; (try simp only [Act.put, List.setIfInBounds_toArray, List.set_cons_succ, List.set_cons_zero])
  refine pureW_e1 2 (by (conv => lhs; whnf; arg 1; whnf)) (by rfl) (by (conv => lhs; whnf)) (fun ρ hρ h1 w1 hSw => by have hc := hρ.const; clear hρ; rw [HS.out] at hSw; simp only [CellsAt] at hSw; go_simp; try with_reducible rfl) ?_; (try simp only [Act.put, List.setIfInBounds_toArray, List.set_cons_succ, List.set_cons_zero])
  refine pureW_nil ?_
  refine wpAnyG_oneN 35 56 (by as_aux_lemma => kernel_rfl) (by as_aux_lemma => kernel_rfl) (by (conv => lhs; whnf; arg 1; whnf)) (by rfl) (fun K hK => ?_)
  go_simp
  have sw1 := HB.out _ _ sw0 ((Below.refl _ _).alloc (Nat.le_refl _) (.cells #[.int .u8 7] 5))
  replace b0 := b0.alloc (.cells #[.int .u8 7] 5)
  replace mAw4 := mAw4.alloc (.cells #[.int .u8 7] 5)
  (try go_simp)
  refine hK.out _ _ sw1 ?_
  clear hK K sw0
  refine wpAnyG_takesF [36] 55 (by as_aux_lemma => kernel_rfl) (by as_aux_lemma => kernel_rfl) hp sw1 ?_
  refine pureW_e1 89 (by (conv => lhs; whnf; arg 1; whnf)) (by rfl) (by (conv => lhs; whnf)) (fun ρ hρ h1 w1 hSw => by have hc := hρ.const; clear hρ; clear hSw; go_simp; try with_reducible rfl) ?_; (try simp only [Act.put, List.setIfInBounds_toArray, List.set_cons_succ, List.set_cons_zero])
  refine pureW_nil ?_
  refine wpAnyG_oneN 37 54 (by as_aux_lemma => kernel_rfl) (by as_aux_lemma => kernel_rfl) (by (conv => lhs; whnf; arg 1; whnf)) (by rfl) (fun K hK => ?_)
  go_simp
  refine (SM.out _ _ _ _ _ mAw4.byt (lit1 (by first | rfl | simp) (by decide))).mono ?_
  rintro e wr2 ⟨rfl, hb⟩
  replace b0 := (b0).below hb
  replace mAw4 := (mAw4).below hb
  have sw2 := HB.out _ _ sw1 hb
  (try go_simp)
  refine hK.out _ _ sw2 ?_
  clear hK K hb sw1
  refine wpAnyG_takesF [38, 39, 40, 41, 42, 43, 44, 45, 46, 47, 48, 49, 50, 51, 52, 53, 54, 55, 56, 57, 58, 59, 60, 61, 62, 63, 64, 65, 66, 67] 24 (by as_aux_lemma => kernel_rfl) (by as_aux_lemma => kernel_rfl) hp sw2 ?_
  refine pureW_e2 87 91 (by (conv => lhs; whnf; arg 1; whnf)) (by rfl) (by (conv => lhs; whnf)) (by (conv => lhs; whnf)) (fun ρ hρ h1 h2 w1 hSw => by have hc := hρ.const; clear hρ; clear hSw; go_simp; try with_reducible rfl) ?_; (try simp only [Act.put, List.setIfInBounds_toArray, List.set_cons_succ, List.set_cons_zero])
  refine pureW_e1 92 (by (conv => lhs; whnf; arg 1; whnf)) (by rfl) (by (conv => lhs; whnf)) (fun ρ hρ h1 w1 hSw => by have hc := hρ.const; clear hρ; clear hSw; go_simp; try with_reducible rfl) ?_; (try simp only [Act.put, List.setIfInBounds_toArray, List.set_cons_succ, List.set_cons_zero])
  refine pureW_e1 7 (by (conv => lhs; whnf; arg 1; whnf)) (by rfl) (by (conv => lhs; whnf)) (fun ρ hρ h1 w1 hSw => by have hc := hρ.const; clear hρ; clear hSw; go_simp; try with_reducible rfl) ?_; (try simp only [Act.put, List.setIfInBounds_toArray, List.set_cons_succ, List.set_cons_zero])
  refine pureW_e1 94 (by (conv => lhs; whnf; arg 1; whnf)) (by rfl) (by (conv => lhs; whnf)) (fun ρ hρ h1 w1 hSw => by have hc := hρ.const; clear hρ; clear hSw; go_simp; try with_reducible rfl) ?_; (try simp only [Act.put, List.setIfInBounds_toArray, List.set_cons_succ, List.set_cons_zero])
  refine pureW_e1 95 (by (conv => lhs; whnf; arg 1; whnf)) (by rfl) (by (conv => lhs; whnf)) (fun ρ hρ h1 w1 hSw => by have hc := hρ.const; clear hρ; clear hSw; go_simp; try with_reducible rfl) ?_; (try simp only [Act.put, List.setIfInBounds_toArray, List.set_cons_succ, List.set_cons_zero])
  refine pureW_e2 93 96 (by (conv => lhs; whnf; arg 1; whnf)) (by rfl) (by (conv => lhs; whnf)) (by (conv => lhs; whnf)) (fun ρ hρ h1 h2 w1 hSw => by have hc := hρ.const; clear hρ; clear hSw; go_simp; try with_reducible rfl) ?_; (try simp only [Act.put, List.setIfInBounds_toArray, List.set_cons_succ, List.set_cons_zero])
  refine pureW_e1 97 (by (conv => lhs; whnf; arg 1; whnf)) (by rfl) (by (conv => lhs; whnf)) (fun ρ hρ h1 w1 hSw => by have hc := hρ.const; clear hρ; clear hSw; go_simp; try with_reducible rfl) ?_; (try simp only [Act.put, List.setIfInBounds_toArray, List.set_cons_succ, List.set_cons_zero])
  refine pureW_e1 8 (by (conv => lhs; whnf; arg 1; whnf)) (by rfl) (by (conv => lhs; whnf)) (fun ρ hρ h1 w1 hSw => by have hc := hρ.const; clear hρ; rw [HS.out] at hSw; simp only [CellsAt] at hSw; go_simp; try with_reducible rfl) ?_; (try simp only [Act.put, List.setIfInBounds_toArray, List.set_cons_succ, List.set_cons_zero])
  refine pureW_e0  (by (conv => lhs; whnf; arg 1; whnf)) (by rfl)  (fun ρ hρ  w1 hSw => by have hc := hρ.const; clear hρ; clear hSw; go_simp; try with_reducible rfl) ?_; (try simp only [Act.put, List.setIfInBounds_toArray, List.set_cons_succ, List.set_cons_zero])
  refine pureW_e2 99 100 (by (conv => lhs; whnf; arg 1; whnf)) (by rfl) (by (conv => lhs; whnf)) (by (conv => lhs; whnf)) (fun ρ hρ h1 h2 w1 hSw => by have hc := hρ.const; clear hρ; clear hSw; go_simp; try with_reducible rfl) ?_; (try simp only [Act.put, List.setIfInBounds_toArray, List.set_cons_succ, List.set_cons_zero])
  refine pureW_e2 98 101 (by (conv => lhs; whnf; arg 1; whnf)) (by rfl) (by (conv => lhs; whnf)) (by (conv => lhs; whnf)) (fun ρ hρ h1 h2 w1 hSw => by have hc := hρ.const; clear hρ; clear hSw; go_simp; try with_reducible rfl) ?_; (try simp only [Act.put, List.setIfInBounds_toArray, List.set_cons_succ, List.set_cons_zero])
  refine pureW_e1 102 (by (conv => lhs; whnf; arg 1; whnf)) (by rfl) (by (conv => lhs; whnf)) (fun ρ hρ h1 w1 hSw => by have hc := hρ.const; clear hρ; clear hSw; go_simp; try with_reducible rfl) ?_; (try simp only [Act.put, List.setIfInBounds_toArray, List.set_cons_succ, List.set_cons_zero])
  refine pureW_e1 9 (by (conv => lhs; whnf; arg 1; whnf)) (by rfl) (by (conv => lhs; whnf)) (fun ρ hρ h1 w1 hSw => by have hc := hρ.const; clear hρ; clear hSw; go_simp; try with_reducible rfl) ?_; (try simp only [Act.put, List.setIfInBounds_toArray, List.set_cons_succ, List.set_cons_zero])
  refine pureW_e1 104 (by (conv => lhs; whnf; arg 1; whnf)) (by rfl) (by (conv => lhs; whnf)) (fun ρ hρ h1 w1 hSw => by have hc := hρ.const; clear hρ; clear hSw; go_simp; try with_reducible rfl) ?_; (try simp only [Act.put, List.setIfInBounds_toArray, List.set_cons_succ, List.set_cons_zero])
  refine pureW_e2 103 105 (by (conv => lhs; whnf; arg 1; whnf)) (by rfl) (by (conv => lhs; whnf)) (by (conv => lhs; whnf)) (fun ρ hρ h1 h2 w1 hSw => by have hc := hρ.const; clear hρ; clear hSw; go_simp; try with_reducible rfl) ?_; (try simp only [Act.put, List.setIfInBounds_toArray, List.set_cons_succ, List.set_cons_zero])
  refine pureW_e1 106 (by (conv => lhs; whnf; arg 1; whnf)) (by rfl) (by (conv => lhs; whnf)) (fun ρ hρ h1 w1 hSw => by have hc := hρ.const; clear hρ; clear hSw; go_simp; try with_reducible rfl) ?_; (try simp only [Act.put, List.setIfInBounds_toArray, List.set_cons_succ, List.set_cons_zero])
  refine pureW_e1 13 (by (conv => lhs; whnf; arg 1; whnf)) (by rfl) (by (conv => lhs; whnf)) (fun ρ hρ h1 w1 hSw => by have hc := hρ.const; clear hρ; clear hSw; go_simp; try with_reducible rfl) ?_; (try simp only [Act.put, List.setIfInBounds_toArray, List.set_cons_succ, List.set_cons_zero])
  refine pureW_e1 108 (by (conv => lhs; whnf; arg 1; whnf)) (by rfl) (by (conv => lhs; whnf)) (fun ρ hρ h1 w1 hSw => by have hc := hρ.const; clear hρ; clear hSw; go_simp; try with_reducible rfl) ?_; (try simp only [Act.put, List.setIfInBounds_toArray, List.set_cons_succ, List.set_cons_zero])
  refine pureW_e2 107 109 (by (conv => lhs; whnf; arg 1; whnf)) (by rfl) (by (conv => lhs; whnf)) (by (conv => lhs; whnf)) (fun ρ hρ h1 h2 w1 hSw => by have hc := hρ.const; clear hρ; clear hSw; go_simp; try with_reducible rfl) ?_; (try simp only [Act.put, List.setIfInBounds_toArray, List.set_cons_succ, List.set_cons_zero])
  refine pureW_e1 110 (by (conv => lhs; whnf; arg 1; whnf)) (by rfl) (by (conv => lhs; whnf)) (fun ρ hρ h1 w1 hSw => by have hc := hρ.const; clear hρ; clear hSw; go_simp; try with_reducible rfl) ?_; (try simp only [Act.put, List.setIfInBounds_toArray, List.set_cons_succ, List.set_cons_zero])
  refine pureW_e1 16 (by (conv => lhs; whnf; arg 1; whnf)) (by rfl) (by (conv => lhs; whnf)) (fun ρ hρ h1 w1 hSw => by have hc := hρ.const; clear hρ; rw [HS.out] at hSw; simp only [CellsAt] at hSw; go_simp; try with_reducible rfl) ?_; (try simp only [Act.put, List.setIfInBounds_toArray, List.set_cons_succ, List.set_cons_zero])
  refine pureW_e0  (by (conv => lhs; whnf; arg 1; whnf)) (by rfl)  (fun ρ hρ  w1 hSw => by have hc := hρ.const; clear hρ; clear hSw; go_simp; try with_reducible rfl) ?_; (try simp only [Act.put, List.setIfInBounds_toArray, List.set_cons_succ, List.set_cons_zero])
  refine pureW_e2 112 113 (by (conv => lhs; whnf; arg 1; whnf)) (by rfl) (by (conv => lhs; whnf)) (by (conv => lhs; whnf)) (fun ρ hρ h1 h2 w1 hSw => by have hc := hρ.const; clear hρ; clear hSw; go_simp; try with_reducible rfl) ?_; (try simp only [Act.put, List.setIfInBounds_toArray, List.set_cons_succ, List.set_cons_zero])
  refine pureW_e2 111 114 (by (conv => lhs; whnf; arg 1; whnf)) (by rfl) (by (conv => lhs; whnf)) (by (conv => lhs; whnf)) (fun ρ hρ h1 h2 w1 hSw => by have hc := hρ.const; clear hρ; clear hSw; go_simp; try with_reducible rfl) ?_; (try simp only [Act.put, List.setIfInBounds_toArray, List.set_cons_succ, List.set_cons_zero])
  refine pureW_e1 115 (by (conv => lhs; whnf; arg 1; whnf)) (by rfl) (by (conv => lhs; whnf)) (fun ρ hρ h1 w1 hSw => by have hc := hρ.const; clear hρ; clear hSw; go_simp; try with_reducible rfl) ?_; (try simp only [Act.put, List.setIfInBounds_toArray, List.set_cons_succ, List.set_cons_zero])
  refine pureW_e1 17 (by (conv => lhs; whnf; arg 1; whnf)) (by rfl) (by (conv => lhs; whnf)) (fun ρ hρ h1 w1 hSw => by have hc := hρ.const; clear hρ; clear hSw; go_simp; try with_reducible rfl) ?_; (try simp only [Act.put, List.setIfInBounds_toArray, List.set_cons_succ, List.set_cons_zero])
  refine pureW_e1 117 (by (conv => lhs; whnf; arg 1; whnf)) (by rfl) (by (conv => lhs; whnf)) (fun ρ hρ h1 w1 hSw => by have hc := hρ.const; clear hρ; clear hSw; go_simp; try with_reducible rfl) ?_; (try simp only [Act.put, List.setIfInBounds_toArray, List.set_cons_succ, List.set_cons_zero])
  refine pureW_e2 116 118 (by (conv => lhs; whnf; arg 1; whnf)) (by rfl) (by (conv => lhs; whnf)) (by (conv => lhs; whnf)) (fun ρ hρ h1 h2 w1 hSw => by have hc := hρ.const; clear hρ; clear hSw; go_simp; try with_reducible rfl) ?_; (try simp only [Act.put, List.setIfInBounds_toArray, List.set_cons_succ, List.set_cons_zero])
  refine pureW_e1 119 (by (conv => lhs; whnf; arg 1; whnf)) (by rfl) (by (conv => lhs; whnf)) (fun ρ hρ h1 w1 hSw => by have hc := hρ.const; clear hρ; clear hSw; go_simp; try with_reducible rfl) ?_; (try simp only [Act.put, List.setIfInBounds_toArray, List.set_cons_succ, List.set_cons_zero])
  refine pureW_e1 2 (by (conv => lhs; whnf; arg 1; whnf)) (by rfl) (by (conv => lhs; whnf)) (fun ρ hρ h1 w1 hSw => by have hc := hρ.const; clear hρ; rw [HS.out] at hSw; simp only [CellsAt] at hSw; go_simp; try with_reducible rfl) ?_; (try simp only [Act.put, List.setIfInBounds_toArray, List.set_cons_succ, List.set_cons_zero])
  refine pureW_nil ?_
  refine wpAnyG_oneN 68 23 (by as_aux_lemma => kernel_rfl) (by as_aux_lemma => kernel_rfl) (by (conv => lhs; whnf; arg 1; whnf)) (by rfl) (fun K hK => ?_)
  go_simp
  refine (BG1.out _ _ _).mono ?_
  rintro e wr3 ⟨rfl, hb⟩
  replace b0 := (b0).below hb
  replace mAw4 := (mAw4).below hb
  have sw3 := HB.out _ _ sw2 hb
  (try go_simp)
  refine hK.out _ _ sw3 ?_
  clear hK K hb sw2
  refine wpAnyG_takesF [69, 70, 71] 20 (by as_aux_lemma => kernel_rfl) (by as_aux_lemma => kernel_rfl) hp sw3 ?_
  refine pureW_e2 120 122 (by (conv => lhs; whnf; arg 1; whnf)) (by rfl) (by (conv => lhs; whnf)) (by (conv => lhs; whnf)) (fun ρ hρ h1 h2 w1 hSw => by have hc := hρ.const; clear hρ; clear hSw; go_simp; try with_reducible rfl) ?_; (try simp only [Act.put, List.setIfInBounds_toArray, List.set_cons_succ, List.set_cons_zero])
  refine pureW_e1 123 (by (conv => lhs; whnf; arg 1; whnf)) (by rfl) (by (conv => lhs; whnf)) (fun ρ hρ h1 w1 hSw => by have hc := hρ.const; clear hρ; clear hSw; go_simp; try with_reducible rfl) ?_; (try simp only [Act.put, List.setIfInBounds_toArray, List.set_cons_succ, List.set_cons_zero])
  refine pureW_e0  (by (conv => lhs; whnf; arg 1; whnf)) (by rfl)  (fun ρ hρ  w1 hSw => by have hc := hρ.const; clear hρ; clear hSw; go_simp; try with_reducible rfl) ?_; (try simp only [Act.put, List.setIfInBounds_toArray, List.set_cons_succ, List.set_cons_zero])
  refine pureW_nil ?_
  refine wpAnyG_oneN 72 19 (by as_aux_lemma => kernel_rfl) (by as_aux_lemma => kernel_rfl) (by (conv => lhs; whnf; arg 1; whnf)) (by rfl) (fun K hK => ?_)
  go_simp
  refine (BG2.out _).mono ?_
  rintro e wr4 ⟨rfl, hb⟩
  replace b0 := (b0).below hb
  replace mAw4 := (mAw4).below hb
  have sw4 := HB.out _ _ sw3 hb
  (try go_simp)
  refine hK.out _ _ sw4 ?_
  clear hK K hb sw3
  refine wpAnyG_takesF [73, 74, 75, 76] 15 (by as_aux_lemma => kernel_rfl) (by as_aux_lemma => kernel_rfl) hp sw4 ?_
  refine pureW_e1 126 (by (conv => lhs; whnf; arg 1; whnf)) (by rfl) (by (conv => lhs; whnf)) (fun ρ hρ h1 w1 hSw => by have hc := hρ.const; clear hρ; clear hSw; go_simp; try with_reducible rfl) ?_; (try simp only [Act.put, List.setIfInBounds_toArray, List.set_cons_succ, List.set_cons_zero])
  refine pureW_e2 124 127 (by (conv => lhs; whnf; arg 1; whnf)) (by rfl) (by (conv => lhs; whnf)) (by (conv => lhs; whnf)) (fun ρ hρ h1 h2 w1 hSw => by have hc := hρ.const; clear hρ; clear hSw; go_simp; try with_reducible rfl) ?_; (try simp only [Act.put, List.setIfInBounds_toArray, List.set_cons_succ, List.set_cons_zero])
  refine pureW_e1 128 (by (conv => lhs; whnf; arg 1; whnf)) (by rfl) (by (conv => lhs; whnf)) (fun ρ hρ h1 w1 hSw => by have hc := hρ.const; clear hρ; clear hSw; go_simp; try with_reducible rfl) ?_; (try simp only [Act.put, List.setIfInBounds_toArray, List.set_cons_succ, List.set_cons_zero])
  refine pureW_e1 2 (by (conv => lhs; whnf; arg 1; whnf)) (by rfl) (by (conv => lhs; whnf)) (fun ρ hρ h1 w1 hSw => by have hc := hρ.const; clear hρ; rw [HS.out] at hSw; simp only [CellsAt] at hSw; go_simp; try with_reducible rfl) ?_; (try simp only [Act.put, List.setIfInBounds_toArray, List.set_cons_succ, List.set_cons_zero])
  refine pureW_nil ?_
  refine wpAnyG_oneN 77 14 (by as_aux_lemma => kernel_rfl) (by as_aux_lemma => kernel_rfl) (by (conv => lhs; whnf; arg 1; whnf)) (by rfl) (fun K hK => ?_)
  go_simp
  refine (RG1.out _ _ _ mAw4.byt).mono ?_
  rintro e wr5 ⟨rfl, hb⟩
  replace b0 := (b0).below hb
  replace mAw4 := (mAw4).below hb
  have sw5 := HB.out _ _ sw4 hb
  (try go_simp)
  refine hK.out _ _ sw5 ?_
  clear hK K hb sw4
  refine wpAnyG_takesF [78, 79] 12 (by as_aux_lemma => kernel_rfl) (by as_aux_lemma => kernel_rfl) hp sw5 ?_
  refine pureW_e2 129 131 (by (conv => lhs; whnf; arg 1; whnf)) (by rfl) (by (conv => lhs; whnf)) (by (conv => lhs; whnf)) (fun ρ hρ h1 h2 w1 hSw => by have hc := hρ.const; clear hρ; clear hSw; go_simp; try with_reducible rfl) ?_; (try simp only [Act.put, List.setIfInBounds_toArray, List.set_cons_succ, List.set_cons_zero])
  refine pureW_e1 132 (by (conv => lhs; whnf; arg 1; whnf)) (by rfl) (by (conv => lhs; whnf)) (fun ρ hρ h1 w1 hSw => by have hc := hρ.const; clear hρ; clear hSw; go_simp; try with_reducible rfl) ?_; (try simp only [Act.put, List.setIfInBounds_toArray, List.set_cons_succ, List.set_cons_zero])
  refine pureW_nil ?_
  refine wpAnyG_oneN 80 11 (by as_aux_lemma => kernel_rfl) (by as_aux_lemma => kernel_rfl) (by (conv => lhs; whnf; arg 1; whnf)) (by rfl) (fun K hK => ?_)
  go_simp
  have sw6 := HB.out _ _ sw5 ((Below.refl _ _).alloc (Nat.le_refl _) (.cells #[.int .u8 1] 5))
  replace b0 := b0.alloc (.cells #[.int .u8 1] 5)
  replace mAw4 := mAw4.alloc (.cells #[.int .u8 1] 5)
  (try go_simp)
  refine hK.out _ _ sw6 ?_
  clear hK K sw5
  refine wpAnyG_takesF [81] 10 (by as_aux_lemma => kernel_rfl) (by as_aux_lemma => kernel_rfl) hp sw6 ?_
  refine pureW_e1 134 (by (conv => lhs; whnf; arg 1; whnf)) (by rfl) (by (conv => lhs; whnf)) (fun ρ hρ h1 w1 hSw => by have hc := hρ.const; clear hρ; clear hSw; go_simp; try with_reducible rfl) ?_; (try simp only [Act.put, List.setIfInBounds_toArray, List.set_cons_succ, List.set_cons_zero])
  refine pureW_nil ?_
  refine wpAnyG_oneN 82 9 (by as_aux_lemma => kernel_rfl) (by as_aux_lemma => kernel_rfl) (by (conv => lhs; whnf; arg 1; whnf)) (by rfl) (fun K hK => ?_)
  go_simp
  refine (RG2.out _ _ _ (lit1 (by first | rfl | simp) (by decide))).mono ?_
  rintro e wr7 ⟨rfl, hb⟩
  replace b0 := (b0).below hb
  replace mAw4 := (mAw4).below hb
  have sw7 := HB.out _ _ sw6 hb
  (try go_simp)
  refine hK.out _ _ sw7 ?_
  clear hK K hb sw6
  refine wpAnyG_takesF [83, 84, 85, 86, 88] 4 (by as_aux_lemma => kernel_rfl) (by as_aux_lemma => kernel_rfl) hp sw7 ?_
  refine pureW_e1 136 (by (conv => lhs; whnf; arg 1; whnf)) (by rfl) (by (conv => lhs; whnf)) (fun ρ hρ h1 w1 hSw => by have hc := hρ.const; clear hρ; clear hSw; go_simp; try with_reducible rfl) ?_; (try simp only [Act.put, List.setIfInBounds_toArray, List.set_cons_succ, List.set_cons_zero])
  refine pureW_e2 133 137 (by (conv => lhs; whnf; arg 1; whnf)) (by rfl) (by (conv => lhs; whnf)) (by (conv => lhs; whnf)) (fun ρ hρ h1 h2 w1 hSw => by have hc := hρ.const; clear hρ; clear hSw; go_simp; try with_reducible rfl) ?_; (try simp only [Act.put, List.setIfInBounds_toArray, List.set_cons_succ, List.set_cons_zero])
  refine pureW_e1 138 (by (conv => lhs; whnf; arg 1; whnf)) (by rfl) (by (conv => lhs; whnf)) (fun ρ hρ h1 w1 hSw => by have hc := hρ.const; clear hρ; clear hSw; go_simp; try with_reducible rfl) ?_; (try simp only [Act.put, List.setIfInBounds_toArray, List.set_cons_succ, List.set_cons_zero])
  refine pureW_e1 2 (by (conv => lhs; whnf; arg 1; whnf)) (by rfl) (by (conv => lhs; whnf)) (fun ρ hρ h1 w1 hSw => by have hc := hρ.const; clear hρ; rw [HS.out] at hSw; simp only [CellsAt] at hSw; go_simp; try with_reducible rfl) ?_; (try simp only [Act.put, List.setIfInBounds_toArray, List.set_cons_succ, List.set_cons_zero])
  refine pureW_e1 2 (by (conv => lhs; whnf; arg 1; whnf)) (by rfl) (by (conv => lhs; whnf)) (fun ρ hρ h1 w1 hSw => by have hc := hρ.const; clear hρ; rw [HS.out] at hSw; simp only [CellsAt] at hSw; go_simp; try with_reducible rfl) ?_; (try simp only [Act.put, List.setIfInBounds_toArray, List.set_cons_succ, List.set_cons_zero])
  refine pureW_nil ?_
  refine wpAnyG_oneN 87 3 (by as_aux_lemma => kernel_rfl) (by as_aux_lemma => kernel_rfl) (by (conv => lhs; whnf; arg 1; whnf)) (by rfl) (fun K hK => ?_)
  go_simp
  refine (OW.out _ _ _ mAw4.byt).mono ?_
  rintro e wr8 ⟨Ao, co, rfl, mo, hb⟩
  replace b0 := (b0).below hb
  replace mAw4 := (mAw4).below hb
  have sw8 := HB.out _ _ sw7 hb
  (try go_simp)
  refine hK.out _ _ sw8 ?_
  clear hK K hb sw7
  refine wpAnyG_oneN 89 2 (by as_aux_lemma => kernel_rfl) (by as_aux_lemma => kernel_rfl) (by (conv => lhs; whnf; arg 1; whnf)) (by rfl) (fun K hK => ?_)
  go_simp
  refine (SM.out _ _ _ _ _ mo.byt mAw4.byt).mono ?_
  rintro e wr9 ⟨rfl, hb⟩
  replace b0 := (b0).below hb
  replace mAw4 := (mAw4).below hb
  have sw9 := HB.out _ _ sw8 hb
  (try go_simp)
  refine hK.out _ _ sw9 ?_
  clear hK K hb sw8
  refine wpAnyG_takesF [90, 91] 0 (by as_aux_lemma => kernel_rfl) (by as_aux_lemma => kernel_rfl) hp sw9 ?_
  refine pureW_e2 139 143 (by (conv => lhs; whnf; arg 1; whnf)) (by rfl) (by (conv => lhs; whnf)) (by (conv => lhs; whnf)) (fun ρ hρ h1 h2 w1 hSw => by have hc := hρ.const; clear hρ; clear hSw; go_simp; try with_reducible rfl) ?_; (try simp only [Act.put, List.setIfInBounds_toArray, List.set_cons_succ, List.set_cons_zero])
  refine pureW_e1 144 (by (conv => lhs; whnf; arg 1; whnf)) (by rfl) (by (conv => lhs; whnf)) (fun ρ hρ h1 w1 hSw => by have hc := hρ.const; clear hρ; clear hSw; go_simp; try with_reducible rfl) ?_; (try simp only [Act.put, List.setIfInBounds_toArray, List.set_cons_zero])
  refine pureW_nil ?_
  refine wpAnyG_done (by as_aux_lemma => kernel_rfl) ?_ _
  rw [HQ.out]
  go_wp2
  go_ret
  exact ⟨rfl, b0.out⟩
end Go.Proofs.Ythcnfalfhdeflaa
