/- HeadFlags: all of some flags are set just if each is: the walk. -/
import Derived.Test.YteghfgjdicmknaaTells
import Derived.Test.YteghfgjdicmknaaFl
namespace Go.Proofs.Yteghfgjdicmknaa
open Go.RowKit Go.Shelf
set_option linter.unusedVariables false

set_option maxRecDepth 100000 in
set_option maxHeartbeats 8000000 in
theorem flagsOk (L k f s : Int) (x0 : Int) (W : World) (f0 : 0 ≤ f ∧ f ≤ 255) (u0 : 0 ≤ x0 ∧ x0 ≤ 255) :
    Calls Try.prog 6 #[.agg #[.int .i64 L, .int .u8 k, .int .u8 f, .int .i64 s], .int .u8 x0] W fun e w' => e = .returned (.bool true) ∧ Below W.heap.size W w' := by
  have q := Blk4.new W 23 (.int .i64 L) (.int .u8 k) (.int .u8 f) (.int .i64 s)
  have b0 := (Bel.refl W).alloc (.cells #[.int .i64 L, .int .u8 k, .int .u8 f, .int .i64 s] 23)
  have H1 := Lib.hid fun (x : Int) (w : World) (g0 : 0 ≤ x ∧ x ≤ 255) => fHas L k f s x w f0.1 f0.2 g0.1 g0.2
  have Hq := Lib.hid q
  have Hb := Lib.hid b0
  clear q b0
  go_enter Try.func6, Try.ntmps6
  go_wp2
  go_loopw [5, 6] (fun a i wr => ∃ j : Nat, j ≤ 8 ∧ a = .bool (allF f x0 j) ∧ i = .int .i64 j ∧ Blk4 wr W.heap.size 23 (.int .i64 L) (.int .u8 k) (.int .u8 f) (.int .i64 s) ∧ Bel W wr) (fun _ i _ => 8 - (intOf i).toNat)
  case atStart => exact ⟨0, by omega, rfl, rfl, Hq.out, Hb.out⟩
  case round =>
    obtain ⟨j, hj, rfl, rfl, q, b0⟩ := hrel
    by_cases hlt : j < 8
    · have hsucc := allF_succ f x0 j
      have Hs := Lib.hid hsucc
      clear hsucc
      have hB : ∃ B : Int, (2 : Int) ^ j % 256 = B ∧ B = ((2 ^ j : Nat) : Int) ∧ 0 ≤ B ∧ B ≤ 255 := by
        have hp : 2 ^ j ≤ 2 ^ 7 := Nat.pow_le_pow_right (by decide) (by omega)
        have e : ((2 : Int) ^ j) = ((2 ^ j : Nat) : Int) := by simp
        rw [e]
        generalize 2 ^ j = M at hp ⊢
        exact ⟨(M : Int), by omega, rfl, by omega, by omega⟩
      obtain ⟨B, hB, hB2, B0, B1⟩ := hB
      have hx : (bits .and .u8 x0 B != 0) = !(x0.toNat &&& 2 ^ j == 0) := by
        subst hB2
        rw [u8_and _ _ u0.1 (by omega) B0 (by omega)]
        simp only [Int.toNat_natCast]
        rw [Bool.eq_iff_iff]
        simp
      have hA := hasAnd f B f0.1 f0.2 B0 B1
      have hF : flagB f x0 j = ((x0.toNat &&& 2 ^ j == 0) || hasB f B) := by unfold flagB; rw [hB2]
      have HF := Lib.hid hF
      have H2 := Lib.hid fun w => H1.out B w ⟨B0, B1⟩
      clear hF hB2 B0 B1
      generalize (x0.toNat &&& 2 ^ j == 0) = X at *
      generalize hall : allF f x0 j = G at *
      have HA := Lib.hid hall
      clear hall
      cases X
      case true =>
        have hx' : (bits .and .u8 x0 B != 0) = false := hx
        obtain ⟨z0, z1, z2, z3⟩ := q.cells
        go_wp2_with fail
        have hS : wr.drew.cell? ⟨W.heap.size, 0, none⟩ = some (.int .i64 L) ∧ wr.drew.cell? ⟨W.heap.size, 1, none⟩ = some (.int .u8 k) ∧ wr.drew.cell? ⟨W.heap.size, 2, none⟩ = some (.int .u8 f) ∧ wr.drew.cell? ⟨W.heap.size, 3, none⟩ = some (.int .i64 s) := q.cells
        have hD : Bel W wr.drew := ⟨b0.out.trans (draw_bel _ _)⟩
        have qD := q.drew
        go_region_held3 (fun w' => w'.cell? ⟨W.heap.size, 0, none⟩ = some (.int .i64 L) ∧ w'.cell? ⟨W.heap.size, 1, none⟩ = some (.int .u8 k) ∧ w'.cell? ⟨W.heap.size, 2, none⟩ = some (.int .u8 f) ∧ w'.cell? ⟨W.heap.size, 3, none⟩ = some (.int .i64 s)) (first | assumption | exact cells4_below (by assumption) (by assumption)) (first
          | (go_at_call 17; refine (H2.out _).mono ?_; rintro e w9 ⟨rfl, hb9⟩; have b9 := hD.step hb9; have q9 := qD.below hb9))
        go_wp2
        refine ⟨⟨j + 1, by omega, ?_, by go_num, q9, b9⟩, by simp [intOf]; omega⟩
        rw [Hs.out, HF.out]; simp
      case false =>
        have hx' : (bits .and .u8 x0 B != 0) = true := hx
        cases G
        case true =>
          obtain ⟨z0, z1, z2, z3⟩ := q.cells
          go_wp2_with fail
          refine (H2.out _).mono ?_
          rintro e w' ⟨rfl, hb⟩
          replace b0 := b0.step hb
          replace q := q.below hb
          clear z0 z1 z2 z3
          obtain ⟨z0, z1, z2, z3⟩ := q.cells
          go_wp2_with fail
          have hS : w'.drew.cell? ⟨W.heap.size, 0, none⟩ = some (.int .i64 L) ∧ w'.drew.cell? ⟨W.heap.size, 1, none⟩ = some (.int .u8 k) ∧ w'.drew.cell? ⟨W.heap.size, 2, none⟩ = some (.int .u8 f) ∧ w'.drew.cell? ⟨W.heap.size, 3, none⟩ = some (.int .i64 s) := q.cells
          have hD : Bel W w'.drew := ⟨b0.out.trans (draw_bel _ _)⟩
          have qD := q.drew
          go_region_held3 (fun w' => w'.cell? ⟨W.heap.size, 0, none⟩ = some (.int .i64 L) ∧ w'.cell? ⟨W.heap.size, 1, none⟩ = some (.int .u8 k) ∧ w'.cell? ⟨W.heap.size, 2, none⟩ = some (.int .u8 f) ∧ w'.cell? ⟨W.heap.size, 3, none⟩ = some (.int .i64 s)) (first | assumption | exact cells4_below (by assumption) (by assumption)) (first
            | (go_at_call 17; refine (H2.out _).mono ?_; rintro e w9 ⟨rfl, hb9⟩; have b9 := hD.step hb9; have q9 := qD.below hb9))
          go_wp2
          refine ⟨⟨j + 1, by omega, ?_, by go_num, q9, b9⟩, by simp [intOf]; omega⟩
          rw [Hs.out, HF.out]; simp
        case false =>
          obtain ⟨z0, z1, z2, z3⟩ := q.cells
          go_wp2_with fail
          have hS : wr.drew.cell? ⟨W.heap.size, 0, none⟩ = some (.int .i64 L) ∧ wr.drew.cell? ⟨W.heap.size, 1, none⟩ = some (.int .u8 k) ∧ wr.drew.cell? ⟨W.heap.size, 2, none⟩ = some (.int .u8 f) ∧ wr.drew.cell? ⟨W.heap.size, 3, none⟩ = some (.int .i64 s) := q.cells
          have hD : Bel W wr.drew := ⟨b0.out.trans (draw_bel _ _)⟩
          have qD := q.drew
          go_region_held3 (fun w' => w'.cell? ⟨W.heap.size, 0, none⟩ = some (.int .i64 L) ∧ w'.cell? ⟨W.heap.size, 1, none⟩ = some (.int .u8 k) ∧ w'.cell? ⟨W.heap.size, 2, none⟩ = some (.int .u8 f) ∧ w'.cell? ⟨W.heap.size, 3, none⟩ = some (.int .i64 s)) (first | assumption | exact cells4_below (by assumption) (by assumption)) (first
            | (go_at_call 17; refine (H2.out _).mono ?_; rintro e w9 ⟨rfl, hb9⟩; have b9 := hD.step hb9; have q9 := qD.below hb9))
          go_wp2
          refine ⟨⟨j + 1, by omega, ?_, by go_num, q9, b9⟩, by simp [intOf]; omega⟩
          rw [Hs.out, HF.out]; simp
    · obtain rfl : j = 8 := by omega
      rw [allF_all f x0 f0 u0]
      obtain ⟨z0, z1, z2, z3⟩ := q.cells
      go_wp2_with fail
      refine (H1.out _ _ u0).mono ?_
      rintro e w' ⟨rfl, hb⟩
      replace b0 := b0.step hb
      replace q := q.below hb
      clear z0 z1 z2 z3
      obtain ⟨z0, z1, z2, z3⟩ := q.cells
      go_wp2_with fail
      refine (H1.out _ _ (by decide)).mono ?_
      rintro e w'' ⟨rfl, hb⟩
      replace b0 := b0.step hb
      have h00 : hasB f 0 = true := by unfold hasB; simp
      go_wp2_with (first | (go_at_call 7; refine (fWakes _).mono ?_; rintro e w' ⟨rfl, hb⟩; replace b0 := b0.step hb))
      go_ret
      exact ⟨rfl, b0.out⟩

theorem wFlags {W : World} (L k f s : Int) (bL : -9223372036854775808 ≤ L ∧ L ≤ 9223372036854775807) (bs : -9223372036854775808 ≤ s ∧ s ≤ 9223372036854775807) (bk : 0 ≤ k ∧ k ≤ 255) (bf : 0 ≤ f ∧ f ≤ 255)
    (x0 : Int) (u0 : 0 ≤ x0) (u1 : x0 ≤ 255) :
    Calls Try.prog 6 #[.agg #[.int .i64 L, .int .u8 k, .int .u8 f, .int .i64 s], .int .u8 x0] W fun e w' => e = .returned (.bool true) ∧ Below W.heap.size W w' :=
  flagsOk L k f s x0 W bf ⟨u0, u1⟩
end Go.Proofs.Yteghfgjdicmknaa
