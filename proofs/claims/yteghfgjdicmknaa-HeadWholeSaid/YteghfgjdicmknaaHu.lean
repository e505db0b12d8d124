/- The contract of the document's Whole. -/
import Derived.Test.YteghfgjdicmknaaHv
namespace Go.Proofs.Yteghfgjdicmknaa
open Go.RowKit Go.Shelf
set_option linter.unusedVariables false

set_option maxRecDepth 100000 in
set_option maxHeartbeats 1000000 in
theorem rwNo (A : Option Addr) (n c : Nat) (w : World) (L k f s : Int) (R : List Int) (E : Int)
    (HT : Hid (∀ X, Calls Try.prog 11 #[.slice A n c] (w.alloc X) (TakeQ L k f s R E (w.alloc X)))) (hno : E = 10 ∨ E = 0 ∧ (R.length : Int) < L) :
    Calls Try.prog 14 #[.slice A n c] w (WholeQ L k f s [] [] 10 w) := by
  have q0 := Blk4.new w 23 (.int .i64 0) (.int .u8 0) (.int .u8 0) (.int .i64 0)
  have qb : Below w.heap.size w (w.alloc (.cells #[.int .i64 0, .int .u8 0, .int .u8 0, .int .i64 0] 23)) := (Below.refl _ _).alloc (Nat.le_refl _) _
  have Q0 := Lib.hid q0
  have QB := Lib.hid qb
  clear q0 qb
  go_enter Try.func14, Try.ntmps14
  go_wp2_with fail
  refine (HT.out _).mono ?_
  rintro e W1 ⟨⟨A1, m1, c1, rfl, hm1⟩, hb1⟩
  have t1 := (Q0.out.below hb1).alloc (.cells #[.int .i64 L, .int .u8 k, .int .u8 f, .int .i64 s] 23)
  have t2 := Blk4.new W1 23 (.int .i64 L) (.int .u8 k) (.int .u8 f) (.int .i64 s)
  have bb := (QB.out.trans (hb1.mono QB.out.size))
  have bp := bb.alloc bb.size (.cells #[.int .i64 L, .int .u8 k, .int .u8 f, .int .i64 s] 23)
  have hl1 := hm1.len
  have f0 := t1.frozen 0
  have f1 := t1.frozen 1
  have f2 := t1.frozen 2
  have f3 := t1.frozen 3
  obtain ⟨z0, z1, z2, z3⟩ := t1.cells
  have p5 := t1.put (.int .i64 L) (.int .u8 k) (.int .u8 f) (.int .i64 s)
  have b5 := below_put4 bp (Nat.le_refl _) (.int .i64 L) (.int .u8 k) (.int .u8 f) (.int .i64 s)
  obtain ⟨x0, x1, x2, x3⟩ := p5.cells
  have hWl := t1.lt
  rcases hno with rfl | ⟨rfl, hlt⟩
  · clear t1 t2 p5 bb bp
    go_wp2
    exact bodyPost_ret (v := .tuple #[.agg #[.int .i64 L, .int .u8 k, .int .u8 f, .int .i64 s], .slice none 0 0, .slice none 0 0, .int .i64 10]) (by simp [results, Try.f14, go_sem, x0, x1, x2, x3]) rfl ⟨⟨none, 0, 0, none, 0, 0, rfl, Mine.nil _ _, Mine.nil _ _⟩, b5⟩
  · have g9 : (m1 : Int) < L := by omega
    clear t1 t2 p5 bb bp
    go_wp2
    exact bodyPost_ret (v := .tuple #[.agg #[.int .i64 L, .int .u8 k, .int .u8 f, .int .i64 s], .slice none 0 0, .slice none 0 0, .int .i64 10]) (by simp [results, Try.f14, go_sem, x0, x1, x2, x3]) rfl ⟨⟨none, 0, 0, none, 0, 0, rfl, Mine.nil _ _, Mine.nil _ _⟩, b5⟩

theorem rHWhole (A : Option Addr) (n c : Nat) (l : List Int) (w : World) (h : Byt w A n c l) (hn2 : n ≤ 140737488355328) :
    Calls Try.prog 14 #[.slice A n c] w (WholeP l w) := by
  have hl := h.len
  have hbd := hL_bd h.bs
  have hrl := hR_len l
  have HT : Hid (∀ X, Calls Try.prog 11 #[.slice A n c] (w.alloc X) (TakeQ (hL l) (hK l) (hF l) (hS l) (hR l) (hE l) (w.alloc X))) := Lib.hid fun X => rHTake A n c l (w.alloc X) (h.alloc X) hn2
  unfold WholeP wP wR wE
  cases ok : wOk l
  · have no := of_decide_eq_false ok
    refine rwNo A n c w _ _ _ _ _ _ HT ?_
    by_cases h9 : l.length < 9
    · exact .inl (by unfold hE; rw [if_pos h9])
    · exact .inr ⟨by unfold hE; rw [if_neg h9], by omega⟩
  · have yes := of_decide_eq_true ok
    have hE0 : hE l = 0 := by unfold hE; rw [if_neg (by omega)]
    rw [hE0] at HT
    generalize hL l = L at *
    generalize hR l = R at *
    obtain ⟨L, rfl⟩ := toNat_lit hbd.1
    simp only [Int.toNat_natCast, if_true]
    by_cases h0 : L = 0
    · subst h0
      simp only [List.take_zero, List.drop_zero]
      exact rwZero A n c w _ _ _ R HT (by omega)
    · exact rwYes A n c w L _ _ _ R HT (by omega) (by omega) (by omega)
end Go.Proofs.Yteghfgjdicmknaa
