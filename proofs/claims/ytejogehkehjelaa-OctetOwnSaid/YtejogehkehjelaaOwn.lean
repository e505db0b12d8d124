/- OctetOwn: bytes are told in memory of their own: the walk. -/
import Derived.Test.YtejogehkehjelaaTells
import Derived.Test.YtejogehkehjelaaA
namespace Go.Proofs.Ytejogehkehjelaa
open Go.RowKit Go.Shelf
set_option linter.unusedVariables false

set_option maxRecDepth 100000 in
set_option maxHeartbeats 8000000 in
theorem ownBig (A : Option Addr) (n c : Nat) (x0 x1 x2 : Int) (W : World) (hl : 100 < n) :
    Calls Try.prog 7 #[.slice A n c, .int .i64 x0, .int .i64 x1, .int .i64 x2] W fun e w' => e = .returned (.bool true) ∧ Below W.heap.size W w' := by
  have b0 := Bel.refl W
  go_enter Try.func7, Try.ntmps7
  go_wp2_with (first | (go_at_call 8; refine (fWakes _).mono ?_; rintro e w' ⟨rfl, hb⟩; replace b0 := Bel.step (W := W) (by repeat (first | exact b0 | refine Bel.alloc ?_ _)) hb))
  go_ret
  exact ⟨rfl, ((by repeat (first | exact b0 | refine Bel.alloc ?_ _)) : Bel W _).out⟩

theorem xor_bd (y : Int) (h0 : 0 ≤ y) (h1 : y ≤ 255) : 0 ≤ bits .xor .u8 y 255 ∧ bits .xor .u8 y 255 ≤ 255 := by
  have h : bits .xor .u8 y 255 = IntKind.u8.wrap (((BitVec.ofInt 8 y ^^^ BitVec.ofInt 8 255).toNat : Nat) : Int) := rfl
  rw [h]
  simp [IntKind.wrap, IntKind.signed, IntKind.bits]
  omega

set_option maxRecDepth 100000 in
set_option maxHeartbeats 8000000 in
theorem ownOk (A : Option Addr) (n c : Nat) (l : List Int) (used code many : Int) (W : World) (h : Byt W A n c l) (h1 : n ≤ 100) (u1 : used ≤ 9223372036854775807) :
    Calls Try.prog 7 #[.slice A n c, .int .i64 used, .int .i64 code, .int .i64 many] W fun e w' => e = .returned (.bool true) ∧ Below W.heap.size W w' := by
  have b0 := Bel.refl W
  go_enter Try.func7, Try.ntmps7
  go_wp2_with (first
    | (at_builtin; refine wpList_copy W rfl (.tmp 18) (.tmp 19) rfl rfl rfl A n c l rfl h (by omega) ?_; intro A1 c1 w1 hm1 hb; replace b0 := Bel.step (W := W) b0 hb)
    | (go_at_call 20; refine (fOLay _ _ _ l _ _ _ _ (by repeat (first | exact Mine.byt (by assumption) | assumption | refine Byt.alloc ?_ _ | refine Byt.below ?_ (by assumption))) (by omega) (by omega)).mono ?_; rintro e w2 ⟨⟨A2, m2, c2, rfl, hm2⟩, hb2⟩))
  have hbel2 := b0.out.trans (hb2.mono b0.out.size)
  go_loopw [13] (fun v wr => ∃ k : Nat, k ≤ m2 ∧ v = .int .i64 k ∧ (∃ l', Mine w1.heap.size wr A2 m2 c2 l') ∧ Below w1.heap.size w1 wr) (fun v _ => m2 - (intOf v).toNat)
  case atStart => exact ⟨0, Nat.zero_le _, rfl, ⟨_, hm2⟩, hb2⟩
  case round =>
    obtain ⟨k, hk, rfl, ⟨l', hmn⟩, hbel⟩ := hrel
    by_cases hlt : k < m2
    · obtain ⟨_, h0, _⟩ | ⟨g, rfl, hgb, hg, hnc, hcm, _, _⟩ := hmn.cases
      · omega
      have hc1 := hmn.cellAt (j := k) hlt
      have hf1 := hmn.frozenAt k
      have hy := hmn.2.get k
      have hx := xor_bd _ hy.1 hy.2
      have hst := hmn.stored k hx.1 hx.2
      go_wp2
      exact ⟨⟨k + 1, by omega, by simp, ⟨_, hst⟩, hbel.setCell hgb _⟩, by simp [intOf]; omega⟩
    · obtain rfl : k = m2 := by omega
      have y1 : Byt wr A n c l := (h.below hb).below hbel
      have y2 : Byt wr A1 n c1 l := (hm1.byt).below hbel
      have b3 : Bel W wr := b0.step hbel
      clear b0 hb hb2 hbel2
      have b0 := b3
      go_wp2_with (first
        | (go_at_call 15; refine (rOSameT l _ y1 y2).mono ?_; rintro e w' ⟨rfl, rfl⟩)
        | (go_at_call 8; refine (fWakes _).mono ?_; rintro e w' ⟨rfl, hb⟩; replace b0 := Bel.step (W := W) (by repeat (first | exact b0 | refine Bel.alloc ?_ _)) hb))
      go_ret
      exact ⟨rfl, ((by repeat (first | exact b0 | refine Bel.alloc ?_ _)) : Bel W _).out⟩

theorem wOwn {W : World} (A : Option Addr) (n c : Nat) (l : List Int) (h : Byt W A n c l) (used : Int) (_ : -9223372036854775808 ≤ used) (u1 : used ≤ 9223372036854775807) (code : Int) (_ : -9223372036854775808 ≤ code) (_ : code ≤ 9223372036854775807) (many : Int) (_ : -9223372036854775808 ≤ many) (_ : many ≤ 9223372036854775807) :
    Calls Try.prog 7 #[.slice A n c, .int .i64 used, .int .i64 code, .int .i64 many] W fun e w' => e = .returned (.bool true) ∧ Below W.heap.size W w' := by
  by_cases hl : 100 < n
  · exact ownBig A n c used code many W hl
  · exact ownOk A n c l used code many W h (by omega) u1
end Go.Proofs.Ytejogehkehjelaa
