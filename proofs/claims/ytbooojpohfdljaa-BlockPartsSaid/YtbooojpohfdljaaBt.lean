/- What comes of a frame: the outcome; words for the walk. -/
import Derived.Test.YtbooojpohfdljaaBr
namespace Go.Proofs.Ytbooojpohfdljaa
open Go.RowKit Go.Shelf
set_option linter.unusedVariables false

/-- What Take answers: the block that is open behind it, the whole one, whether there is one, the fault (of the whole, its code), the error. -/
structure BOut where
  oS : Int
  oE : Bool
  oD : List Int
  wS : Int
  wE : Bool
  wD : List Int
  done : Bool
  fw : Bool
  fc : Int
  e : Int
def TakeP (r : BOut) (w : World) (e : Ending) (W' : World) : Prop :=
  ∃ A m c B n d, e = .returned (.tuple #[.agg #[.int .i64 r.oS, .bool r.oE, .slice A m c], .agg #[.int .i64 r.wS, .bool r.wE, .slice B n d], .bool r.done, .agg #[.bool r.fw, .int .i64 0, .int .u32 r.fc], .int .i64 r.e]) ∧ Mine w.heap.size W' A m c r.oD ∧ Mine w.heap.size W' B n d r.wD ∧ Below w.heap.size w W'
theorem zInt (w : World) : (zeroValue 3).run Try.prog w = .ok (.int .i64 0) w := by kernel_rfl
/-- What a block that is finished comes to, its bytes not too many. -/
def finB (S : Int) (E : Bool) (D : List Int) (S' : Int) (E' : Bool) (D' : List Int) (F : Int) : BOut :=
  if 4096 < D'.length then ⟨S, E, D, 0, false, [], false, true, 11, 0⟩
  else if F / 4 % 2 = 1 then ⟨0, false, [], S', E', D', true, false, 0, 0⟩
  else ⟨S', E', D', 0, false, [], false, false, 0, 0⟩
def takeB (S : Int) (E : Bool) (D : List Int) (K F St : Int) (X : List Int) : BOut :=
  if rightB S E D = false ∨ (K = 1 ∨ K = 9) ∧ strB St = false then ⟨S, E, D, 0, false, [], false, false, 0, 2⟩
  else if 0 < S then
    if K = 9 ∧ St = S then finB S E D S E (D ++ X) F
    else ⟨S, E, D, 0, false, [], false, true, 1, 0⟩
  else if K = 1 then finB S E D St (decide (F % 2 = 1)) X F
  else if K = 9 then ⟨S, E, D, 0, false, [], false, true, 1, 0⟩
  else ⟨S, E, D, 0, false, [], false, false, 0, 0⟩

section
variable {W W' : World} {b g : Nat} {t t' : TypeId} {cs : Array Value} {x0 x1 x2 y0 y1 y2 : Value}
/-- Three stores into block g. -/
abbrev put3 (W : World) (g : Nat) (y0 y1 y2 : Value) : World := ((W.setCell ⟨g, 0, none⟩ y0).setCell ⟨g, 1, none⟩ y1).setCell ⟨g, 2, none⟩ y2
theorem Blk.put3 (h : Blk W g t #[x0, x1, x2]) (y0 y1 y2 : Value) : Blk (((W.setCell ⟨g, 0, none⟩ y0).setCell ⟨g, 1, none⟩ y1).setCell ⟨g, 2, none⟩ y2) g t #[y0, y1, y2] := ((h.set 0 y0).set 1 y1).set 2 y2
theorem Blk.far3 (h : Blk W b t cs) (hg : b ≠ g) (y0 y1 y2 : Value) : Blk (((W.setCell ⟨g, 0, none⟩ y0).setCell ⟨g, 1, none⟩ y1).setCell ⟨g, 2, none⟩ y2) b t cs := ((h.setFar (p := ⟨g, 0, none⟩) hg y0).setFar (p := ⟨g, 1, none⟩) hg y1).setFar (p := ⟨g, 2, none⟩) hg y2
theorem Bel.put3 (h : Bel W W') (hg : W.heap.size ≤ g) (y0 y1 y2 : Value) : Bel W (((W'.setCell ⟨g, 0, none⟩ y0).setCell ⟨g, 1, none⟩ y1).setCell ⟨g, 2, none⟩ y2) := ((h.set (p := ⟨g, 0, none⟩) hg y0).set (p := ⟨g, 1, none⟩) hg y1).set (p := ⟨g, 2, none⟩) hg y2
theorem Mine.put3 {base : Nat} {A : Option Addr} {n c : Nat} {l : List Int} (hm : Mine base W A n c l) (h : Blk W g t #[x0, x1, x2]) (ht : t ≠ 5) (y0 y1 y2 : Value) : Mine base (((W.setCell ⟨g, 0, none⟩ y0).setCell ⟨g, 1, none⟩ y1).setCell ⟨g, 2, none⟩ y2) A n c l :=
  ((hm.farB h ht 0 y0).farB (h.set 0 y0) ht 1 y1).farB ((h.set 0 y0).set 1 y1) ht 2 y2
theorem Byt.put3 {w : World} {A : Option Addr} {n c : Nat} {l : List Int} (h : Byt w A n c l) (hg : w.heap.size ≤ g) (hb : Below w.heap.size w W') (y0 y1 y2 : Value) : Byt (((W'.setCell ⟨g, 0, none⟩ y0).setCell ⟨g, 1, none⟩ y1).setCell ⟨g, 2, none⟩ y2) A n c l :=
  h.far0 (p := ⟨g, 2, none⟩) hg ((hb.setCell (p := ⟨g, 0, none⟩) hg y0).setCell (p := ⟨g, 1, none⟩) hg y1) y2
end

/-- The six blocks of a Take: the block, the frame, what is told: the open one, the whole one, the fault; the next one. -/
structure TkF (W : World) (N : Nat) (cb cf co cw cx cn : Array Value) : Prop where
  b : Blk W N 24 cb
  f : Blk W (N + 1) 30 cf
  o : Blk W (N + 1 + 1) 24 co
  w : Blk W (N + 1 + 1 + 1) 24 cw
  x : Blk W (N + 1 + 1 + 1 + 1) 34 cx
  n : Blk W (N + 1 + 1 + 1 + 1 + 1) 24 cn
section
variable {W W' : World} {N : Nat} {cb cf co cw cx cn : Array Value}
theorem TkF.below (h : TkF W N cb cf co cw cx cn) (k : Below W.heap.size W W') : TkF W' N cb cf co cw cx cn := ⟨h.b.below k, h.f.below k, h.o.below k, h.w.below k, h.x.below k, h.n.below k⟩
theorem TkF.belowB (h : TkF W N cb cf co cw cx cn) {B : Nat} (k : Below B W W') (hB : N + 5 < B) : TkF W' N cb cf co cw cx cn := ⟨h.b.belowB k (by omega), h.f.belowB k (by omega), h.o.belowB k (by omega), h.w.belowB k (by omega), h.x.belowB k (by omega), h.n.belowB k (by omega)⟩
theorem TkF.alloc (h : TkF W N cb cf co cw cx cn) (o : Obj) : TkF (W.alloc o) N cb cf co cw cx cn := ⟨h.b.alloc o, h.f.alloc o, h.o.alloc o, h.w.alloc o, h.x.alloc o, h.n.alloc o⟩
theorem TkF.drew (h : TkF W N cb cf co cw cx cn) : TkF W.drew N cb cf co cw cx cn := ⟨h.b, h.f, h.o, h.w, h.x, h.n⟩
theorem TkF.setO {x0 x1 x2 : Value} (h : TkF W N cb cf #[x0, x1, x2] cw cx cn) (y0 y1 y2 : Value) : TkF (((W.setCell ⟨N + 1 + 1, 0, none⟩ y0).setCell ⟨N + 1 + 1, 1, none⟩ y1).setCell ⟨N + 1 + 1, 2, none⟩ y2) N cb cf #[y0, y1, y2] cw cx cn :=
  ⟨h.b.far3 (by omega) _ _ _, h.f.far3 (by omega) _ _ _, h.o.put3 _ _ _, h.w.far3 (by omega) _ _ _, h.x.far3 (by omega) _ _ _, h.n.far3 (by omega) _ _ _⟩
theorem TkF.setW {x0 x1 x2 : Value} (h : TkF W N cb cf co #[x0, x1, x2] cx cn) (y0 y1 y2 : Value) : TkF (((W.setCell ⟨N + 1 + 1 + 1, 0, none⟩ y0).setCell ⟨N + 1 + 1 + 1, 1, none⟩ y1).setCell ⟨N + 1 + 1 + 1, 2, none⟩ y2) N cb cf co #[y0, y1, y2] cx cn :=
  ⟨h.b.far3 (by omega) _ _ _, h.f.far3 (by omega) _ _ _, h.o.far3 (by omega) _ _ _, h.w.put3 _ _ _, h.x.far3 (by omega) _ _ _, h.n.far3 (by omega) _ _ _⟩
theorem TkF.setX {x0 x1 x2 : Value} (h : TkF W N cb cf co cw #[x0, x1, x2] cn) (y0 y1 y2 : Value) : TkF (((W.setCell ⟨N + 1 + 1 + 1 + 1, 0, none⟩ y0).setCell ⟨N + 1 + 1 + 1 + 1, 1, none⟩ y1).setCell ⟨N + 1 + 1 + 1 + 1, 2, none⟩ y2) N cb cf co cw #[y0, y1, y2] cn :=
  ⟨h.b.far3 (by omega) _ _ _, h.f.far3 (by omega) _ _ _, h.o.far3 (by omega) _ _ _, h.w.far3 (by omega) _ _ _, h.x.put3 _ _ _, h.n.far3 (by omega) _ _ _⟩
theorem TkF.setN {x0 x1 x2 : Value} (h : TkF W N cb cf co cw cx #[x0, x1, x2]) (y0 y1 y2 : Value) : TkF (((W.setCell ⟨N + 1 + 1 + 1 + 1 + 1, 0, none⟩ y0).setCell ⟨N + 1 + 1 + 1 + 1 + 1, 1, none⟩ y1).setCell ⟨N + 1 + 1 + 1 + 1 + 1, 2, none⟩ y2) N cb cf co cw cx #[y0, y1, y2] :=
  ⟨h.b.far3 (by omega) _ _ _, h.f.far3 (by omega) _ _ _, h.o.far3 (by omega) _ _ _, h.w.far3 (by omega) _ _ _, h.x.far3 (by omega) _ _ _, h.n.put3 _ _ _⟩
theorem TkF.setN2 {x0 x1 x2 : Value} (h : TkF W N cb cf co cw cx #[x0, x1, x2]) (y2 : Value) : TkF (W.setCell ⟨N + 1 + 1 + 1 + 1 + 1, 2, none⟩ y2) N cb cf co cw cx #[x0, x1, y2] :=
  ⟨h.b.setFar (show N ≠ N + 1 + 1 + 1 + 1 + 1 by omega) _, h.f.setFar (show N + 1 ≠ N + 1 + 1 + 1 + 1 + 1 by omega) _, h.o.setFar (show N + 1 + 1 ≠ N + 1 + 1 + 1 + 1 + 1 by omega) _, h.w.setFar (show N + 1 + 1 + 1 ≠ N + 1 + 1 + 1 + 1 + 1 by omega) _, h.x.setFar (show N + 1 + 1 + 1 + 1 ≠ N + 1 + 1 + 1 + 1 + 1 by omega) _, h.n.set 2 _⟩
theorem TkF.new (w : World) (cb cf : Array Value) : TkF ((((((w.alloc (.cells cb 24)).alloc (.cells cf 30)).alloc (.cells #[.int .i64 0, .bool false, .slice none 0 0] 24)).alloc (.cells #[.int .i64 0, .bool false, .slice none 0 0] 24)).alloc (.cells #[.bool false, .int .i64 0, .int .u32 0] 34)).alloc (.cells #[.int .i64 0, .bool false, .slice none 0 0] 24)) w.heap.size cb cf
    #[.int .i64 0, .bool false, .slice none 0 0] #[.int .i64 0, .bool false, .slice none 0 0] #[.bool false, .int .i64 0, .int .u32 0] #[.int .i64 0, .bool false, .slice none 0 0] := by
  refine ⟨?_, ?_, ?_, ?_, ?_, ?_⟩
  · exact (((((Blk.newAt w _ _ rfl).alloc _).alloc _).alloc _).alloc _).alloc _
  · exact ((((Blk.newAt _ _ _ (by simp)).alloc _).alloc _).alloc _).alloc _
  · exact (((Blk.newAt _ _ _ (by simp)).alloc _).alloc _).alloc _
  · exact ((Blk.newAt _ _ _ (by simp)).alloc _).alloc _
  · exact (Blk.newAt _ _ _ (by simp)).alloc _
  · exact Blk.newAt _ _ _ (by simp)
end
end Go.Proofs.Ytbooojpohfdljaa
