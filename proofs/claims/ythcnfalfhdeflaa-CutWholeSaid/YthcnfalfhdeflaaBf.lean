/- The contracts of bytes.Clone and of the turn of bytes into a string. -/
import Derived.Test.YthcnfalfhdeflaaB
namespace Go.Proofs.Ythcnfalfhdeflaa
open Go.RowKit Go.ChangeShapes Go.WideShapes

theorem fClone (A : Option Addr) (n c : Nat) (l : List Int) (w : World) (h : Byt w A n c l) (hn : n ≤ 140737488355328) :
    Calls Try.prog 23 #[.slice A n c] w fun e w' => ∃ A' c', e = .returned (.slice A' n c') ∧ Mine w.heap.size w' A' n c' l ∧ Below w.heap.size w w' := by
  have q22 : ∀ (w : World) (a : Option Addr) (n c n' c' : Nat), (binOp .eql 22 (.slice a n c) (.slice none n' c')).run Try.prog w = .ok (.bool a.isNone) w := fun w a n c n' c' => Lib.run_eql_slice_nil w _ _ a n c n' c' Try.underlying22
  have hl := h.len
  rcases A with _ | a
  · have hc := h.nn rfl
    have hcap := h.cap
    obtain rfl : n = 0 := by omega
    obtain rfl : l = [] := List.eq_nil_of_length_eq_zero hl
    subst hc
    go_enter Try.func23, Try.ntmps23
    go_wp2
    go_ret
    exact ⟨none, 0, rfl, Mine.nil _ _, Below.refl _ _⟩
  · have H := Lib.hid h
    have Hl := Lib.hid hl
    clear h hl
    go_enter Try.func23, Try.ntmps23
    go_wp2_with (at_builtin; refine wpList_app _ rfl (.tmp 5) (.tmp 6) rfl w.heap.size (some ⟨w.heap.size, 0, none⟩) 0 0 [] rfl (by exact Mine.lit w [] (Nat.le_refl _) Bs.nil (by simp) 0 rfl) (some a) n c l rfl (H.out.alloc _) (by have := Hl.out; simp; omega) (by simp) ?_; intro A' c' w1 hown hbel hgr hat)
    go_ret
    have hb2 : Below w.heap.size w (w.alloc (.cells #[] 5)) := (Below.refl _ _).alloc (Nat.le_refl _) _
    exact ⟨A', c', by simp, by simpa using hown, hb2.trans hbel⟩

/-- A slice of bytes as a string. -/
def strOf (l : List Int) : ByteArray := strOfNums l
theorem Byt.conv {w : World} {A : Option Addr} {n c : Nat} {l : List Int} (h : Byt w A n c l) : (convert 22 9 (.slice A n c)).run Try.prog w = .ok (.string (strOf l)) w := by
  have hl := h.len
  rcases Nat.eq_zero_or_pos n with h0 | h0
  · subst h0
    obtain rfl : l = [] := List.eq_nil_of_length_eq_zero hl
    rw [run_convert_bytes_string w 22 9 5 _ 0 c Try.underlying22 Try.underlying5 Try.underlying9]
    cases A <;> simp [Conv.bytesToString, loadCells, strOf, strOfNums]
    all_goals rfl
  · obtain ⟨b, o, rfl, _, hc⟩ := h.cell h0
    exact run_convert_bytes_arg (P := Try.prog) w 22 5 Try.underlying22 Try.underlying5 b o n c l hl (fun i hi => by rw [hc i hi]; rfl) 9 Try.underlying9
theorem strOf_inj {l m : List Int} (hl : Bs l) (hm : Bs m) (h : strOf l = strOf m) : l = m := by
  have h1 : (strOf l).data.toList = (strOf m).data.toList := by rw [h]
  unfold strOf at h1
  rw [strOfNums_data, strOfNums_data] at h1
  have h2 := congrArg (List.map fun x : UInt8 => (x.toNat : Int)) h1
  have key : ∀ k : List Int, Bs k → (k.map fun n => UInt8.ofNat n.toNat).map (fun x : UInt8 => (x.toNat : Int)) = k := fun k hk => by
    rw [List.map_map]
    conv => rhs; rw [← List.map_id k]
    refine List.map_congr_left fun x hx => ?_
    have := hk x hx
    simp
    omega
  rwa [key l hl, key m hm] at h2
def eqB (l m : List Int) : Bool := l == m

end Go.Proofs.Ythcnfalfhdeflaa
