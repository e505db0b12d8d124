/- Bytes that are made at once: make([]byte, n), and stores into it. -/
import Derived.Test.YthcnfalfhdeflaaR
import Derived.Test.YthcnfalfhdeflaaBits
import Derived.Deep.OwnRows
namespace Go.Proofs.Ythcnfalfhdeflaa
open Go.RowKit Go.Shelf
set_option linter.unusedVariables false

theorem make8 (n : Nat) (h : n ≤ 281474976710656) (w : World) :
    (Instr.makeSlice 22 (.int .i64 (n : Int)) (.int .i64 (n : Int))).run Try.prog w = .ok (.slice (some ⟨w.heap.size, 0, none⟩) n n) (w.alloc (.cells (madeCells #[.int .u8 0] n) 5)) :=
  run_make_row' (P := Try.prog) 22 5 (.int .u8 0) 1 (by kernel_rfl) info8 rfl .i64 .i64 n (by omega) (by omega) w

section
variable {base : Nat} {w : World} {g n c : Nat} {l : List Int}
theorem Mine.make (w : World) (n : Nat) (hb : base ≤ w.heap.size) (hn : n ≤ 281474976710656) : Mine base (w.alloc (.cells (madeCells #[.int .u8 0] n) 5)) (some ⟨w.heap.size, 0, none⟩) n n (List.replicate n 0) := by
  have h := World.ownsRow_lit (base := base) (e := 5) (size := 1) w (madeCells #[.int .u8 0] n) n hb (by simp [maxLen]; omega) (by rw [size_madeCells]; omega)
  rw [toList_madeCells_one] at h
  exact ⟨by simpa using h, fun c hc => by simp at hc; omega⟩
theorem Mine.cellAt (h : Mine base w (some ⟨g, 0, none⟩) n c l) {j : Nat} (hj : j < n) : w.cell? ⟨g, j, none⟩ = some (.int .u8 (l[j]?.getD 0)) := by
  have hl := h.len
  rw [h.1.cellAt j (by omega)]
  simp [show j < l.length by omega]
theorem Mine.frozenAt (h : Mine base w (some ⟨g, 0, none⟩) n c l) (j : Nat) : w.frozen? ⟨g, j, none⟩ = false := h.1.frozenAt j
theorem Mine.stored (h : Mine base w (some ⟨g, 0, none⟩) n c l) (j : Nat) {y : Int} (y0 : 0 ≤ y) (y1 : y ≤ 255) : Mine base (w.setCell ⟨g, j, none⟩ (.int .u8 y)) (some ⟨g, 0, none⟩) n c (l.set j y) := by
  have := (h.1.stored j (.int .u8 y)).1
  rw [← List.map_set] at this
  refine ⟨this, fun c hc => ?_⟩
  rcases List.mem_or_eq_of_mem_set hc with h' | rfl
  · exact h.2 c h'
  · exact ⟨y0, y1⟩
end
end Go.Proofs.Ythcnfalfhdeflaa
