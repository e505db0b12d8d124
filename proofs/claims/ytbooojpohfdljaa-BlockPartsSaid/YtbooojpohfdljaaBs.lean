/- Words for the walk of the document's Take. -/
import Derived.Test.YtbooojpohfdljaaBt
namespace Go.Proofs.Ytbooojpohfdljaa
open Go.RowKit Go.Shelf
set_option linter.unusedVariables false

/-- The five blocks of the document's Take: the block, the frame, what is told: the open one, the whole one, the fault. -/
structure RkF (W : World) (N : Nat) (cb cf co cw cx : Array Value) : Prop where
  b : Blk W N 24 cb
  f : Blk W (N + 1) 30 cf
  o : Blk W (N + 1 + 1) 24 co
  w : Blk W (N + 1 + 1 + 1) 24 cw
  x : Blk W (N + 1 + 1 + 1 + 1) 34 cx
section
variable {W W' : World} {N : Nat} {cb cf co cw cx : Array Value}
theorem RkF.below (h : RkF W N cb cf co cw cx) (k : Below W.heap.size W W') : RkF W' N cb cf co cw cx := ⟨h.b.below k, h.f.below k, h.o.below k, h.w.below k, h.x.below k⟩
theorem RkF.belowB (h : RkF W N cb cf co cw cx) {B : Nat} (k : Below B W W') (hB : N + 4 < B) : RkF W' N cb cf co cw cx := ⟨h.b.belowB k (by omega), h.f.belowB k (by omega), h.o.belowB k (by omega), h.w.belowB k (by omega), h.x.belowB k (by omega)⟩
theorem RkF.alloc (h : RkF W N cb cf co cw cx) (o : Obj) : RkF (W.alloc o) N cb cf co cw cx := ⟨h.b.alloc o, h.f.alloc o, h.o.alloc o, h.w.alloc o, h.x.alloc o⟩
theorem RkF.drew (h : RkF W N cb cf co cw cx) : RkF W.drew N cb cf co cw cx := ⟨h.b, h.f, h.o, h.w, h.x⟩
theorem RkF.far (h : RkF W N cb cf co cw cx) {g : Nat} (hg : N + 4 < g) (i : Nat) (v : Value) : RkF (W.setCell ⟨g, i, none⟩ v) N cb cf co cw cx :=
  ⟨h.b.setFar (show N ≠ g by omega) v, h.f.setFar (show N + 1 ≠ g by omega) v, h.o.setFar (show N + 1 + 1 ≠ g by omega) v, h.w.setFar (show N + 1 + 1 + 1 ≠ g by omega) v, h.x.setFar (show N + 1 + 1 + 1 + 1 ≠ g by omega) v⟩
theorem RkF.far3 (h : RkF W N cb cf co cw cx) {g : Nat} (hg : N + 4 < g) (y0 y1 y2 : Value) : RkF (((W.setCell ⟨g, 0, none⟩ y0).setCell ⟨g, 1, none⟩ y1).setCell ⟨g, 2, none⟩ y2) N cb cf co cw cx := ((h.far hg 0 y0).far hg 1 y1).far hg 2 y2
theorem RkF.setB {x0 x1 x2 : Value} (h : RkF W N #[x0, x1, x2] cf co cw cx) (y0 y1 y2 : Value) : RkF (((W.setCell ⟨N, 0, none⟩ y0).setCell ⟨N, 1, none⟩ y1).setCell ⟨N, 2, none⟩ y2) N #[y0, y1, y2] cf co cw cx :=
  ⟨h.b.put3 _ _ _, h.f.far3 (by omega) _ _ _, h.o.far3 (by omega) _ _ _, h.w.far3 (by omega) _ _ _, h.x.far3 (by omega) _ _ _⟩
theorem RkF.setO {x0 x1 x2 : Value} (h : RkF W N cb cf #[x0, x1, x2] cw cx) (y0 y1 y2 : Value) : RkF (((W.setCell ⟨N + 1 + 1, 0, none⟩ y0).setCell ⟨N + 1 + 1, 1, none⟩ y1).setCell ⟨N + 1 + 1, 2, none⟩ y2) N cb cf #[y0, y1, y2] cw cx :=
  ⟨h.b.far3 (by omega) _ _ _, h.f.far3 (by omega) _ _ _, h.o.put3 _ _ _, h.w.far3 (by omega) _ _ _, h.x.far3 (by omega) _ _ _⟩
theorem RkF.setW {x0 x1 x2 : Value} (h : RkF W N cb cf co #[x0, x1, x2] cx) (y0 y1 y2 : Value) : RkF (((W.setCell ⟨N + 1 + 1 + 1, 0, none⟩ y0).setCell ⟨N + 1 + 1 + 1, 1, none⟩ y1).setCell ⟨N + 1 + 1 + 1, 2, none⟩ y2) N cb cf co #[y0, y1, y2] cx :=
  ⟨h.b.far3 (by omega) _ _ _, h.f.far3 (by omega) _ _ _, h.o.far3 (by omega) _ _ _, h.w.put3 _ _ _, h.x.far3 (by omega) _ _ _⟩
theorem RkF.setX {x0 x1 x2 : Value} (h : RkF W N cb cf co cw #[x0, x1, x2]) (y0 y1 y2 : Value) : RkF (((W.setCell ⟨N + 1 + 1 + 1 + 1, 0, none⟩ y0).setCell ⟨N + 1 + 1 + 1 + 1, 1, none⟩ y1).setCell ⟨N + 1 + 1 + 1 + 1, 2, none⟩ y2) N cb cf co cw #[y0, y1, y2] :=
  ⟨h.b.far3 (by omega) _ _ _, h.f.far3 (by omega) _ _ _, h.o.far3 (by omega) _ _ _, h.w.far3 (by omega) _ _ _, h.x.put3 _ _ _⟩
theorem RkF.new (w : World) (cb cf : Array Value) : RkF (((((w.alloc (.cells cb 24)).alloc (.cells cf 30)).alloc (.cells #[.int .i64 0, .bool false, .slice none 0 0] 24)).alloc (.cells #[.int .i64 0, .bool false, .slice none 0 0] 24)).alloc (.cells #[.bool false, .int .i64 0, .int .u32 0] 34)) w.heap.size cb cf
    #[.int .i64 0, .bool false, .slice none 0 0] #[.int .i64 0, .bool false, .slice none 0 0] #[.bool false, .int .i64 0, .int .u32 0] := by
  refine ⟨?_, ?_, ?_, ?_, ?_⟩
  · exact ((((Blk.newAt w _ _ rfl).alloc _).alloc _).alloc _).alloc _
  · exact (((Blk.newAt _ _ _ (by simp)).alloc _).alloc _).alloc _
  · exact ((Blk.newAt _ _ _ (by simp)).alloc _).alloc _
  · exact (Blk.newAt _ _ _ (by simp)).alloc _
  · exact Blk.newAt _ _ _ (by simp)
end

/-- append(nil, u...). -/
theorem wpList_app0 (w : World) {ops : Array Oper} {rest : List Oper} {o : Oper} {a : Act} {Q : Exit → Act → World → Prop} (hgd : o.guard = none) (s x : Operand)
    (ho : o.op = .call { callee := .builtin .append, args := #[s, x], argTypes := #[22, 22] })
    (base : Nat) (hs : a.eval s = .slice none 0 0) (B : Option Addr) (m d : Nat) (l' : List Int) (hx : a.eval x = .slice B m d) (hr : Byt w B m d l')
    (hlen : m ≤ 140737488355328) (hbase : base ≤ w.heap.size)
    (h : ∀ A' c' w', Mine base w' A' m c' l' → Below base w w' → wpList Try.prog ops Q rest (a.put o.dst (.slice A' m c')) w') : wpList Try.prog ops Q (o :: rest) a w := by
  have hl' := hr.len
  refine wpList_app w hgd s x ho base none 0 0 [] hs (Mine.nil _ _) B m d l' hx hr (by simp; omega) hbase ?_
  intro A' c' w' h1 h2 _ _
  rw [Nat.zero_add] at h1 ⊢
  exact h A' c' w' (by simpa using h1) h2
theorem Blk.grownRow {W W' : World} {b : Nat} {t : TypeId} {cs : Array Value} (h : Blk W b t cs) (ht : t ≠ 5) {base : Nat} {A : Option Addr} {n c : Nat} {l : List Int} (hm : Mine base W A n c l) (hg : W.grownBy W' (Value.slice A n c).ownBlock) : Blk W' b t cs :=
  (hg.block b h.lt (fun e => by
    rcases hm.cases with ⟨rfl, _⟩ | ⟨g, rfl, _⟩
    · simp [Value.ownBlock] at e
    · simp [Value.ownBlock] at e
      exact h.not_row ht hm g rfl e.symm)).trans h
end Go.Proofs.Ytbooojpohfdljaa
