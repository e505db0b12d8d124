/- Slice expressions of bytes with their address behind a name; copy into bytes of the call's own. -/
import Derived.Test.YthcnfalfhdeflaaM
import Derived.Test.YthcnfalfhdeflaaL
import Derived.Laws.CopyOwn
namespace Go.Proofs.Ythcnfalfhdeflaa
open Go.RowKit Go.Shelf
set_option linter.unusedVariables false

theorem run_cut_lh (w : World) (A : Option Addr) (n c : Nat) (l h : Int) (h0 : 0 ≤ l) (h1 : l ≤ h) (h2 : h ≤ c) :
    (Instr.slice 22 (.slice A n c) (some (.int .i64 l)) (some (.int .i64 h)) none).run Try.prog w = .ok (.slice (cutA A c l.toNat) (h.toNat - l.toNat) (c - l.toNat)) w := by
  rw [run_slice_lh (P := Try.prog) w 22 A n c (by kernel_rfl) .i64 .i64 l h h0 h1 h2]
  rw [show ∀ w, (sizeOf (Try.prog.elem 22)).run Try.prog w = .ok 1 w from fun w => by kernel_rfl]
  simp [Result.andThen, sliced, cutA]
theorem run_cut_h (w : World) (A : Option Addr) (n c : Nat) (h : Int) (h0 : 0 ≤ h) (h2 : h ≤ c) :
    (Instr.slice 22 (.slice A n c) none (some (.int .i64 h)) none).run Try.prog w = .ok (.slice (cutA A c 0) h.toNat c) w := by
  rw [run_slice_h (P := Try.prog) w 22 A n c (by kernel_rfl) .i64 h h0 h2]
  rw [show ∀ w, (sizeOf (Try.prog.elem 22)).run Try.prog w = .ok 1 w from fun w => by kernel_rfl]
  simp [Result.andThen, sliced, cutA]
theorem run_cut_l (w : World) (A : Option Addr) (n c : Nat) (l : Int) (h0 : 0 ≤ l) (h1 : l ≤ n) :
    (Instr.slice 22 (.slice A n c) (some (.int .i64 l)) none none).run Try.prog w = .ok (.slice (cutA A c l.toNat) (n - l.toNat) (c - l.toNat)) w := by
  rw [run_slice_l (P := Try.prog) w 22 A n c (by kernel_rfl) .i64 l h0 h1]
  rw [show ∀ w, (sizeOf (Try.prog.elem 22)).run Try.prog w = .ok 1 w from fun w => by kernel_rfl]
  simp [Result.andThen, sliced, cutA]

/-- The slice expression where its bounds are not right: as it is. -/
noncomputable def cutElse (w : World) (A : Option Addr) (n c : Nat) (l h : Option Value) : Result Value := (Instr.slice 22 (.slice A n c) l h none).run Try.prog w
theorem run_cutI_lh (w : World) (A : Option Addr) (n c : Nat) (l h : Int) :
    (Instr.slice 22 (.slice A n c) (some (.int .i64 l)) (some (.int .i64 h)) none).run Try.prog w = if 0 ≤ l ∧ l ≤ h ∧ h ≤ c then .ok (.slice (cutA A c l.toNat) (h.toNat - l.toNat) (c - l.toNat)) w else cutElse w A n c (some (.int .i64 l)) (some (.int .i64 h)) := by
  split
  · rename_i hh
    exact run_cut_lh w A n c l h hh.1 hh.2.1 hh.2.2
  · rfl
theorem run_cutI_h (w : World) (A : Option Addr) (n c : Nat) (h : Int) :
    (Instr.slice 22 (.slice A n c) none (some (.int .i64 h)) none).run Try.prog w = if 0 ≤ h ∧ h ≤ c then .ok (.slice (cutA A c 0) h.toNat c) w else cutElse w A n c none (some (.int .i64 h)) := by
  split
  · rename_i hh
    exact run_cut_h w A n c h hh.1 hh.2
  · rfl
theorem run_cutI_l (w : World) (A : Option Addr) (n c : Nat) (l : Int) :
    (Instr.slice 22 (.slice A n c) (some (.int .i64 l)) none none).run Try.prog w = if 0 ≤ l ∧ l ≤ n then .ok (.slice (cutA A c l.toNat) (n - l.toNat) (c - l.toNat)) w else cutElse w A n c (some (.int .i64 l)) none := by
  split
  · rename_i hh
    exact run_cut_l w A n c l hh.1 hh.2
  · rfl
theorem Byt.cutL {w : World} {A : Option Addr} {n c : Nat} {l : List Int} (h : Byt w A n c l) {lo : Nat} (h1 : lo ≤ n) : Byt w (cutA A c lo) (n - lo) (c - lo) (l.drop lo) := by
  have := h.cut h1 (Nat.le_refl n)
  rwa [List.take_of_length_le (by rw [h.len]; exact Nat.le_refl _)] at this
theorem Byt.cutH {w : World} {A : Option Addr} {n c : Nat} {l : List Int} (h : Byt w A n c l) {hi : Nat} (h1 : hi ≤ n) : Byt w (cutA A c 0) hi c (l.take hi) := by
  have := h.cut (Nat.zero_le _) h1
  simpa using this

/-- Bytes of the call's own that are as long as their block: the block. -/
theorem Mine.whole {base : Nat} {W : World} {g n : Nat} {l : List Int} (h : Mine base W (some ⟨g, 0, none⟩) n n l) : Blk W g 5 (l.map (Value.int .u8)).toArray := by
  have hl := h.len
  rcases h.1.2 with ⟨e, _⟩ | ⟨g', cap, cur, e, _, hg, _, _, hcs, htake⟩
  · cases e
  · simp at e
    obtain ⟨rfl, rfl⟩ := e
    rw [List.take_of_length_le (by simp; omega)] at htake
    unfold Blk
    rw [hg, ← htake]
theorem Mine.ofBlk {base : Nat} {W : World} {g n : Nat} {l : List Int} (h : Blk W g 5 (l.map (Value.int .u8)).toArray) (hb : base ≤ g) (hs : Bs l) (hl : l.length = n) (hn : n ≤ 9223372036854775807) : Mine base W (some ⟨g, 0, none⟩) n n l := by
  refine ⟨⟨by simp [hl], .inr ⟨g, n, _, rfl, hb, h, Nat.le_refl _, by simpa [maxLen] using hn, by simp [hl], ?_⟩⟩, hs⟩
  rw [List.take_of_length_le (by simp [hl])]

/-- copy(o[off:], u): o of the call's own, as long as its block. -/
theorem wpList_fill (W : World) {ops : Array Oper} {rest : List Oper} {o : Oper} {a : Act} {Q : Exit → Act → World → Prop} (hgd : o.guard = none) (d s : Operand)
    (ho : o.op = .call { callee := .builtin .copy, args := #[d, s], argTypes := #[22, 22] })
    (base g n off : Nat) (l : List Int) (hown : Mine base W (some ⟨g, 0, none⟩) n n l) (hd : a.eval d = .slice (cutA (some ⟨g, 0, none⟩) n off) (n - off) (n - off))
    (B : Option Addr) (m dd : Nat) (l' : List Int) (hs : a.eval s = .slice B m dd) (hr : Byt W B m dd l') (hfit : off + m ≤ n) (hbg : base ≤ g)
    (h : ∀ w', Mine base w' (some ⟨g, 0, none⟩) n n (l.take off ++ l' ++ l.drop (off + m)) → Below base W w' → wpList Try.prog ops Q rest (a.put o.dst (.int .i64 m)) w') : wpList Try.prog ops Q (o :: rest) a W := by
  have hl := hown.len
  have hl' := hr.len
  have hmx : n ≤ 9223372036854775807 := by
    rcases hown.cases with ⟨e, _⟩ | ⟨_, _, _, _, h1, h2, _⟩
    · cases e
    · omega
  refine wpList_copy_splice hgd d s 22 22 ho 5 Try.underlying22 (by kernel_rfl) _ B (n - off) (n - off) m dd hd hs g off (l.map (Value.int .u8)) 5 hown.whole (l'.map (Value.int .u8)) (by simp [hl', Nat.min_eq_left (show m ≤ n - off by omega)]) (fun hp => ?_) (by simp; omega) (fun v hv => ?_) base W (Below.refl _ _) hbg ?_
  · have hm : 0 < m := by simpa [hl'] using hp
    obtain ⟨b, q, rfl, _, hc⟩ := hr.cell hm
    refine ⟨?_, _, rfl, fun j v hj => ?_⟩
    · unfold cutA
      rw [if_neg (by omega)]
      simp [Go.WideShapes.add_plain]
    · have hj' : j < m := by have := (List.getElem?_eq_some_iff.1 hj).1; simpa [hl'] using this
      rw [Go.WideShapes.add_plain, hc j hj', ← hj, List.getElem?_map, List.getElem?_eq_getElem (by omega)]
      rfl
  · obtain ⟨y, _, rfl⟩ := List.mem_map.1 hv
    rfl
  · intro w' hg hb
    have e : goInt (l'.map (Value.int .u8)).length = .int .i64 m := by simp [goInt, hl']
    rw [e]
    refine h w' (Mine.ofBlk ?_ hbg ((hown.2.take _).append hr.bs |>.append (hown.2.drop _)) (by simp; omega) hmx) hb
    have := hg.out
    unfold Blk
    rw [this]
    simp [splice, hl']
end Go.Proofs.Ythcnfalfhdeflaa
