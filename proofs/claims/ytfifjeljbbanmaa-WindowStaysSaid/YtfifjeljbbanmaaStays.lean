/- WindowStays: whatever is done a window that may be stays one, and so on: the walk. -/
import Derived.Test.YtfifjeljbbanmaaBack
import Derived.Deep.SlicePairs
import Derived.ProofKit
namespace Go.Proofs.Ytfifjeljbbanmaa
open Go.RowKit Go.Deep Go.ChangeShapes Go.WideShapes

/-- Bounds of an int. -/
def I64 (n : Int) : Prop := -9223372036854775808 ≤ n ∧ n ≤ 9223372036854775807
theorem i64_wf {n : Int} (h : (Lit.int .i64 n).wf = true) : I64 n := by
  simpa [Lit.wf, IntKind.min, IntKind.max, IntKind.signed, IntKind.bits, I64] using h

/-- A slice of deeds: each has its two numbers in two cells. -/
def Deeds (w : World) (A : Option Addr) (len : Nat) (D N : Nat → Int) : Prop :=
  len = 0 ∨ ∃ b off, A = some ⟨b, off, none⟩ ∧ ∀ k, k < len → w.cell? ⟨b, off + k * 2, none⟩ = some (.int .i64 (D k)) ∧ w.cell? ⟨b, off + k * 2 + 1, none⟩ = some (.int .i64 (N k)) ∧ I64 (D k) ∧ I64 (N k)

theorem choose2 {p : Nat → Int → Int → Prop} {len : Nat} (h : ∀ k, k < len → ∃ x y, p k x y) : ∃ D N : Nat → Int, ∀ k, k < len → p k (D k) (N k) := by
  refine ⟨fun k => if hk : k < len then (h k hk).choose else 0, fun k => if hk : k < len then (h k hk).choose_spec.choose else 0, fun k hk => ?_⟩
  simp only [hk, dite_true]
  exact (h k hk).choose_spec.choose_spec

theorem openDeeds {H : Type} {enc : TypeId × Value → H} {W : World} {base : Nat} {v : Value} {d : DataW H} {p : List MemPlace}
    (h : DataW.Trod enc Try.prog W 0 (fun _ => true) true 30 v d p) (ho : Value.okWide Try.prog W .any base 30 v) :
    ∃ A len cap D N, v = .slice A len cap ∧ len ≤ maxLen ∧ Deeds W A len D N := by
  obtain ⟨A, len, cap, rfl⟩ := okWide_slice Try.underlying30 ho
  obtain ⟨fuel, hf⟩ := h
  rcases open_slice_pairs Try.underlying30 Try.underlying32 (by kernel_rfl) rfl rfl (by kernel_rfl) (by kernel_rfl) hf with ⟨hcs, _⟩ | ⟨a, l, c, m, n, V0, V1, D0, D1, P0, P1, hcs, _, hl, hm, hmm, _, hx⟩
  · simp [Value.cells] at hcs
    obtain ⟨rfl, rfl, rfl⟩ := hcs
    exact ⟨none, 0, 0, fun _ => 0, fun _ => 0, rfl, by simp [maxLen], .inl rfl⟩
  · simp [Value.cells] at hcs
    obtain ⟨rfl, rfl, rfl⟩ := hcs
    have key : ∀ k, k < len → ∃ x y : Int, W.cell? (a.add (k * 2)) = some (.int .i64 x) ∧ W.cell? (a.add (k * 2 + 1)) = some (.int .i64 y) ∧ I64 x ∧ I64 y := by
      intro k hk
      obtain ⟨c0, c1, t0, t1⟩ := hx k (by simp at hmm; omega)
      obtain ⟨x, e0, _, w0⟩ := DataW.trod_int Try.underlying3 t0
      obtain ⟨y, e1, _, w1⟩ := DataW.trod_int Try.underlying3 t1
      simp at e0 e1
      exact ⟨x, y, by rw [c0, e0], by rw [c1, e1], i64_wf w0, i64_wf w1⟩
    obtain ⟨D, N, hDN⟩ := choose2 key
    refine ⟨some a, len, cap, D, N, rfl, by omega, ?_⟩
    rcases Nat.eq_zero_or_pos len with h0 | h0
    · exact .inl h0
    · obtain ⟨b, off, spot⟩ := a
      have hc := (hDN 0 h0).1
      have hspot : spot = none := by simpa [Addr.add] using World.cell?_spot hc
      subst hspot
      refine .inr ⟨b, off, rfl, fun k hk => ?_⟩
      obtain ⟨g0, g1, g2, g3⟩ := hDN k hk
      rw [add_plain] at g0 g1
      exact ⟨g0, by simpa [Nat.add_assoc] using g1, g2, g3⟩

set_option maxRecDepth 100000 in
set_option maxHeartbeats 16000000 in
theorem walkStays (w : Int) (h0 : -9223372036854775808 ≤ w) (h1 : w ≤ 9223372036854775807) (A : Option Addr) (len cap : Nat) (D N : Nat → Int) (W : World) (hlen : len ≤ maxLen) (hD : Deeds W A len D N) :
    Calls Try.prog 5 #[.int .i64 w, .slice A len cap] W fun e w' => e = .returned (.bool true) ∧ Below W.heap.size W w' := by
  have b0 := Below.refl W.heap.size W
  unfold maxLen at hlen
  by_cases hw : -2147483647 ≤ w ∧ w ≤ 2147483647
  · obtain ⟨w0, w1⟩ := hw
    have r1 := rgt_t ⟨w0, w1⟩
    by_cases hl : 60 < len
    · have z1 : decide (w < -2147483647) = false := decide_eq_false (by omega)
      have z2 : decide (2147483647 < w) = false := decide_eq_false (by omega)
      go_enter Try.func5, Try.ntmps5
      go_wp2_with (first
    | (go_at_call 7; refine (fTake _ _ (by omega) (by omega) (by omega) (by omega) _).mono ?_; rintro e w' ⟨rfl, rfl⟩)
    | (go_at_call 9; refine (fGive _ _ (by omega) (by omega) (by omega) (by omega) _).mono ?_; rintro e w' ⟨rfl, rfl⟩)
    | (go_at_call 11; refine (fShift _ _ (by omega) (by omega) (by omega) (by omega) _).mono ?_; rintro e w' ⟨rfl, rfl⟩)
    | (go_at_call 15; refine (fCan _ (by omega) (by omega) _).mono ?_; rintro e w' ⟨rfl, rfl⟩)
    | (go_at_call 13; refine (fRight _ (by omega) (by omega) _).mono ?_; rintro e w' ⟨rfl, rfl⟩)
    | (go_at_call 8; refine (fTakeR _ _ (by omega) (by omega) (by omega) (by omega) _).mono ?_; rintro e w' ⟨rfl, rfl⟩)
    | (go_at_call 10; refine (fGiveR _ _ (by omega) (by omega) (by omega) (by omega) _).mono ?_; rintro e w' ⟨rfl, rfl⟩)
    | (go_at_call 12; refine (fShiftR _ _ (by omega) (by omega) (by omega) (by omega) _).mono ?_; rintro e w' ⟨rfl, rfl⟩)
    | (go_at_call 16; refine (fCanR _ (by omega) (by omega) _).mono ?_; rintro e w' ⟨rfl, rfl⟩)
    | (go_at_call 14; refine (fRightR _ (by omega) (by omega) _).mono ?_; rintro e w' ⟨rfl, rfl⟩)
    | (go_at_call 17; refine (fCut _ _ _ _ _ (by omega) (by omega) (by omega) (by omega) _).mono ?_; rintro e w' ⟨rfl, hb⟩; replace b0 := b0.trans (hb.mono b0.size))
    | (go_at_call 18; refine (fCutR _ _ _ _ _ (by omega) (by omega) (by omega) (by omega) _).mono ?_; rintro e w' ⟨rfl, rfl⟩)
    | (go_at_call 19; refine (fWakes _).mono ?_; rintro e w' ⟨rfl, hb⟩; replace b0 := b0.trans (hb.mono b0.size)))
      all_goals go_ret
      all_goals exact ⟨rfl, b0⟩
    · go_enter Try.func5, Try.ntmps5
      go_wp2_with (first
    | (go_at_call 7; refine (fTake _ _ (by omega) (by omega) (by omega) (by omega) _).mono ?_; rintro e w' ⟨rfl, rfl⟩)
    | (go_at_call 9; refine (fGive _ _ (by omega) (by omega) (by omega) (by omega) _).mono ?_; rintro e w' ⟨rfl, rfl⟩)
    | (go_at_call 11; refine (fShift _ _ (by omega) (by omega) (by omega) (by omega) _).mono ?_; rintro e w' ⟨rfl, rfl⟩)
    | (go_at_call 15; refine (fCan _ (by omega) (by omega) _).mono ?_; rintro e w' ⟨rfl, rfl⟩)
    | (go_at_call 13; refine (fRight _ (by omega) (by omega) _).mono ?_; rintro e w' ⟨rfl, rfl⟩)
    | (go_at_call 8; refine (fTakeR _ _ (by omega) (by omega) (by omega) (by omega) _).mono ?_; rintro e w' ⟨rfl, rfl⟩)
    | (go_at_call 10; refine (fGiveR _ _ (by omega) (by omega) (by omega) (by omega) _).mono ?_; rintro e w' ⟨rfl, rfl⟩)
    | (go_at_call 12; refine (fShiftR _ _ (by omega) (by omega) (by omega) (by omega) _).mono ?_; rintro e w' ⟨rfl, rfl⟩)
    | (go_at_call 16; refine (fCanR _ (by omega) (by omega) _).mono ?_; rintro e w' ⟨rfl, rfl⟩)
    | (go_at_call 14; refine (fRightR _ (by omega) (by omega) _).mono ?_; rintro e w' ⟨rfl, rfl⟩)
    | (go_at_call 17; refine (fCut _ _ _ _ _ (by omega) (by omega) (by omega) (by omega) _).mono ?_; rintro e w' ⟨rfl, hb⟩; replace b0 := b0.trans (hb.mono b0.size))
    | (go_at_call 18; refine (fCutR _ _ _ _ _ (by omega) (by omega) (by omega) (by omega) _).mono ?_; rintro e w' ⟨rfl, rfl⟩)
    | (go_at_call 19; refine (fWakes _).mono ?_; rintro e w' ⟨rfl, hb⟩; replace b0 := b0.trans (hb.mono b0.size)))
      go_loop [5, 6] (fun x i => ∃ (k : Nat) (u : Int), k ≤ len ∧ i = .int .i64 k ∧ x = .int .i64 u ∧ -2147483647 ≤ u ∧ u ≤ 2147483647) (fun _ i => len - (intOf i).toNat)
      case atStart => exact ⟨0, w, Nat.zero_le _, rfl, rfl, w0, w1⟩
      case round =>
        obtain ⟨k, u, hk, rfl, rfl, u0, u1⟩ := hrel
        by_cases hlt : k < len
        · obtain ⟨b, off, rfl, hcell⟩ := hD.resolve_left (by omega)
          obtain ⟨c0, c1, ⟨d0, d1⟩, e0, e1⟩ := hcell k hlt
          clear hcell
          generalize D k = d at *
          generalize N k = n at *
          have cl := can_le u
          by_cases hd0 : d = 0
          · subst hd0
            rcases take_cases u n with ⟨t1, t2⟩ | ⟨t1, t2, q1, q2, q3, q4⟩
            · skip
              by_cases ho : u < 0
              · have cn : can (u) = 0 := if_neg (by omega)
                go_wp2_with (first
    | (go_at_call 7; refine (fTake _ _ (by omega) (by omega) (by omega) (by omega) _).mono ?_; rintro e w' ⟨rfl, rfl⟩)
    | (go_at_call 9; refine (fGive _ _ (by omega) (by omega) (by omega) (by omega) _).mono ?_; rintro e w' ⟨rfl, rfl⟩)
    | (go_at_call 11; refine (fShift _ _ (by omega) (by omega) (by omega) (by omega) _).mono ?_; rintro e w' ⟨rfl, rfl⟩)
    | (go_at_call 15; refine (fCan _ (by omega) (by omega) _).mono ?_; rintro e w' ⟨rfl, rfl⟩)
    | (go_at_call 13; refine (fRight _ (by omega) (by omega) _).mono ?_; rintro e w' ⟨rfl, rfl⟩)
    | (go_at_call 8; refine (fTakeR _ _ (by omega) (by omega) (by omega) (by omega) _).mono ?_; rintro e w' ⟨rfl, rfl⟩)
    | (go_at_call 10; refine (fGiveR _ _ (by omega) (by omega) (by omega) (by omega) _).mono ?_; rintro e w' ⟨rfl, rfl⟩)
    | (go_at_call 12; refine (fShiftR _ _ (by omega) (by omega) (by omega) (by omega) _).mono ?_; rintro e w' ⟨rfl, rfl⟩)
    | (go_at_call 16; refine (fCanR _ (by omega) (by omega) _).mono ?_; rintro e w' ⟨rfl, rfl⟩)
    | (go_at_call 14; refine (fRightR _ (by omega) (by omega) _).mono ?_; rintro e w' ⟨rfl, rfl⟩)
    | (go_at_call 17; refine (fCut _ _ _ _ _ (by omega) (by omega) (by omega) (by omega) _).mono ?_; rintro e w' ⟨rfl, hb⟩; replace b0 := b0.trans (hb.mono b0.size))
    | (go_at_call 18; refine (fCutR _ _ _ _ _ (by omega) (by omega) (by omega) (by omega) _).mono ?_; rintro e w' ⟨rfl, rfl⟩)
    | (go_at_call 19; refine (fWakes _).mono ?_; rintro e w' ⟨rfl, hb⟩; replace b0 := b0.trans (hb.mono b0.size)))
                all_goals go_round
                all_goals first | (case rel => exact ⟨k + 1, u, by omega, by go_num, by go_num, by omega, by omega⟩) | (case measure => simp [intOf]; omega)
              · have cn : can (u) = u := if_pos (by omega)
                have ho2 : 0 ≤ u := by omega
                clear ho
                go_wp2_with (first
    | (go_at_call 7; refine (fTake _ _ (by omega) (by omega) (by omega) (by omega) _).mono ?_; rintro e w' ⟨rfl, rfl⟩)
    | (go_at_call 9; refine (fGive _ _ (by omega) (by omega) (by omega) (by omega) _).mono ?_; rintro e w' ⟨rfl, rfl⟩)
    | (go_at_call 11; refine (fShift _ _ (by omega) (by omega) (by omega) (by omega) _).mono ?_; rintro e w' ⟨rfl, rfl⟩)
    | (go_at_call 15; refine (fCan _ (by omega) (by omega) _).mono ?_; rintro e w' ⟨rfl, rfl⟩)
    | (go_at_call 13; refine (fRight _ (by omega) (by omega) _).mono ?_; rintro e w' ⟨rfl, rfl⟩)
    | (go_at_call 8; refine (fTakeR _ _ (by omega) (by omega) (by omega) (by omega) _).mono ?_; rintro e w' ⟨rfl, rfl⟩)
    | (go_at_call 10; refine (fGiveR _ _ (by omega) (by omega) (by omega) (by omega) _).mono ?_; rintro e w' ⟨rfl, rfl⟩)
    | (go_at_call 12; refine (fShiftR _ _ (by omega) (by omega) (by omega) (by omega) _).mono ?_; rintro e w' ⟨rfl, rfl⟩)
    | (go_at_call 16; refine (fCanR _ (by omega) (by omega) _).mono ?_; rintro e w' ⟨rfl, rfl⟩)
    | (go_at_call 14; refine (fRightR _ (by omega) (by omega) _).mono ?_; rintro e w' ⟨rfl, rfl⟩)
    | (go_at_call 17; refine (fCut _ _ _ _ _ (by omega) (by omega) (by omega) (by omega) _).mono ?_; rintro e w' ⟨rfl, hb⟩; replace b0 := b0.trans (hb.mono b0.size))
    | (go_at_call 18; refine (fCutR _ _ _ _ _ (by omega) (by omega) (by omega) (by omega) _).mono ?_; rintro e w' ⟨rfl, rfl⟩)
    | (go_at_call 19; refine (fWakes _).mono ?_; rintro e w' ⟨rfl, hb⟩; replace b0 := b0.trans (hb.mono b0.size)))
                all_goals go_round
                all_goals first | (case rel => exact ⟨k + 1, u, by omega, by go_num, by go_num, by omega, by omega⟩) | (case measure => simp [intOf]; omega)
            · by_cases hu : u < 0
              · have cu : can u = 0 := if_neg (by omega)
                have hn : n ≤ 0 := by omega
                clear cl q4
                by_cases ho : u - n < 0
                · have cn : can (u - n) = 0 := if_neg (by omega)
                  go_wp2_with (first
    | (go_at_call 7; refine (fTake _ _ (by omega) (by omega) (by omega) (by omega) _).mono ?_; rintro e w' ⟨rfl, rfl⟩)
    | (go_at_call 9; refine (fGive _ _ (by omega) (by omega) (by omega) (by omega) _).mono ?_; rintro e w' ⟨rfl, rfl⟩)
    | (go_at_call 11; refine (fShift _ _ (by omega) (by omega) (by omega) (by omega) _).mono ?_; rintro e w' ⟨rfl, rfl⟩)
    | (go_at_call 15; refine (fCan _ (by omega) (by omega) _).mono ?_; rintro e w' ⟨rfl, rfl⟩)
    | (go_at_call 13; refine (fRight _ (by omega) (by omega) _).mono ?_; rintro e w' ⟨rfl, rfl⟩)
    | (go_at_call 8; refine (fTakeR _ _ (by omega) (by omega) (by omega) (by omega) _).mono ?_; rintro e w' ⟨rfl, rfl⟩)
    | (go_at_call 10; refine (fGiveR _ _ (by omega) (by omega) (by omega) (by omega) _).mono ?_; rintro e w' ⟨rfl, rfl⟩)
    | (go_at_call 12; refine (fShiftR _ _ (by omega) (by omega) (by omega) (by omega) _).mono ?_; rintro e w' ⟨rfl, rfl⟩)
    | (go_at_call 16; refine (fCanR _ (by omega) (by omega) _).mono ?_; rintro e w' ⟨rfl, rfl⟩)
    | (go_at_call 14; refine (fRightR _ (by omega) (by omega) _).mono ?_; rintro e w' ⟨rfl, rfl⟩)
    | (go_at_call 17; refine (fCut _ _ _ _ _ (by omega) (by omega) (by omega) (by omega) _).mono ?_; rintro e w' ⟨rfl, hb⟩; replace b0 := b0.trans (hb.mono b0.size))
    | (go_at_call 18; refine (fCutR _ _ _ _ _ (by omega) (by omega) (by omega) (by omega) _).mono ?_; rintro e w' ⟨rfl, rfl⟩)
    | (go_at_call 19; refine (fWakes _).mono ?_; rintro e w' ⟨rfl, hb⟩; replace b0 := b0.trans (hb.mono b0.size)))
                  all_goals go_round
                  all_goals first | (case rel => exact ⟨k + 1, u - n, by omega, by go_num, by go_num, by omega, by omega⟩) | (case measure => simp [intOf]; omega)
                · exact absurd ho (by omega)
              · have cu : can u = u := if_pos (by omega)
                have hu2 : 0 ≤ u := by omega
                have hn : n ≤ u := by omega
                clear cl q4 hu
                by_cases ho : u - n < 0
                · exact absurd ho (by omega)
                · have cn : can (u - n) = u - n := if_pos (by omega)
                  have ho2 : 0 ≤ u - n := by omega
                  clear ho
                  go_wp2_with (first
    | (go_at_call 7; refine (fTake _ _ (by omega) (by omega) (by omega) (by omega) _).mono ?_; rintro e w' ⟨rfl, rfl⟩)
    | (go_at_call 9; refine (fGive _ _ (by omega) (by omega) (by omega) (by omega) _).mono ?_; rintro e w' ⟨rfl, rfl⟩)
    | (go_at_call 11; refine (fShift _ _ (by omega) (by omega) (by omega) (by omega) _).mono ?_; rintro e w' ⟨rfl, rfl⟩)
    | (go_at_call 15; refine (fCan _ (by omega) (by omega) _).mono ?_; rintro e w' ⟨rfl, rfl⟩)
    | (go_at_call 13; refine (fRight _ (by omega) (by omega) _).mono ?_; rintro e w' ⟨rfl, rfl⟩)
    | (go_at_call 8; refine (fTakeR _ _ (by omega) (by omega) (by omega) (by omega) _).mono ?_; rintro e w' ⟨rfl, rfl⟩)
    | (go_at_call 10; refine (fGiveR _ _ (by omega) (by omega) (by omega) (by omega) _).mono ?_; rintro e w' ⟨rfl, rfl⟩)
    | (go_at_call 12; refine (fShiftR _ _ (by omega) (by omega) (by omega) (by omega) _).mono ?_; rintro e w' ⟨rfl, rfl⟩)
    | (go_at_call 16; refine (fCanR _ (by omega) (by omega) _).mono ?_; rintro e w' ⟨rfl, rfl⟩)
    | (go_at_call 14; refine (fRightR _ (by omega) (by omega) _).mono ?_; rintro e w' ⟨rfl, rfl⟩)
    | (go_at_call 17; refine (fCut _ _ _ _ _ (by omega) (by omega) (by omega) (by omega) _).mono ?_; rintro e w' ⟨rfl, hb⟩; replace b0 := b0.trans (hb.mono b0.size))
    | (go_at_call 18; refine (fCutR _ _ _ _ _ (by omega) (by omega) (by omega) (by omega) _).mono ?_; rintro e w' ⟨rfl, rfl⟩)
    | (go_at_call 19; refine (fWakes _).mono ?_; rintro e w' ⟨rfl, hb⟩; replace b0 := b0.trans (hb.mono b0.size)))
                  all_goals go_round
                  all_goals first | (case rel => exact ⟨k + 1, u - n, by omega, by go_num, by go_num, by omega, by omega⟩) | (case measure => simp [intOf]; omega)
          · by_cases hd1 : d = 1
            · subst hd1
              clear cl
              rcases give_cases u n with ⟨t1, t2⟩ | ⟨t1, t2, q1, q2, q3, q4, q5⟩
              · skip
                by_cases ho : u < 0
                · have cn : can (u) = 0 := if_neg (by omega)
                  go_wp2_with (first
    | (go_at_call 7; refine (fTake _ _ (by omega) (by omega) (by omega) (by omega) _).mono ?_; rintro e w' ⟨rfl, rfl⟩)
    | (go_at_call 9; refine (fGive _ _ (by omega) (by omega) (by omega) (by omega) _).mono ?_; rintro e w' ⟨rfl, rfl⟩)
    | (go_at_call 11; refine (fShift _ _ (by omega) (by omega) (by omega) (by omega) _).mono ?_; rintro e w' ⟨rfl, rfl⟩)
    | (go_at_call 15; refine (fCan _ (by omega) (by omega) _).mono ?_; rintro e w' ⟨rfl, rfl⟩)
    | (go_at_call 13; refine (fRight _ (by omega) (by omega) _).mono ?_; rintro e w' ⟨rfl, rfl⟩)
    | (go_at_call 8; refine (fTakeR _ _ (by omega) (by omega) (by omega) (by omega) _).mono ?_; rintro e w' ⟨rfl, rfl⟩)
    | (go_at_call 10; refine (fGiveR _ _ (by omega) (by omega) (by omega) (by omega) _).mono ?_; rintro e w' ⟨rfl, rfl⟩)
    | (go_at_call 12; refine (fShiftR _ _ (by omega) (by omega) (by omega) (by omega) _).mono ?_; rintro e w' ⟨rfl, rfl⟩)
    | (go_at_call 16; refine (fCanR _ (by omega) (by omega) _).mono ?_; rintro e w' ⟨rfl, rfl⟩)
    | (go_at_call 14; refine (fRightR _ (by omega) (by omega) _).mono ?_; rintro e w' ⟨rfl, rfl⟩)
    | (go_at_call 17; refine (fCut _ _ _ _ _ (by omega) (by omega) (by omega) (by omega) _).mono ?_; rintro e w' ⟨rfl, hb⟩; replace b0 := b0.trans (hb.mono b0.size))
    | (go_at_call 18; refine (fCutR _ _ _ _ _ (by omega) (by omega) (by omega) (by omega) _).mono ?_; rintro e w' ⟨rfl, rfl⟩)
    | (go_at_call 19; refine (fWakes _).mono ?_; rintro e w' ⟨rfl, hb⟩; replace b0 := b0.trans (hb.mono b0.size)))
                  all_goals go_round
                  all_goals first | (case rel => exact ⟨k + 1, u, by omega, by go_num, by go_num, by omega, by omega⟩) | (case measure => simp [intOf]; omega)
                · have cn : can (u) = u := if_pos (by omega)
                  have ho2 : 0 ≤ u := by omega
                  clear ho
                  go_wp2_with (first
    | (go_at_call 7; refine (fTake _ _ (by omega) (by omega) (by omega) (by omega) _).mono ?_; rintro e w' ⟨rfl, rfl⟩)
    | (go_at_call 9; refine (fGive _ _ (by omega) (by omega) (by omega) (by omega) _).mono ?_; rintro e w' ⟨rfl, rfl⟩)
    | (go_at_call 11; refine (fShift _ _ (by omega) (by omega) (by omega) (by omega) _).mono ?_; rintro e w' ⟨rfl, rfl⟩)
    | (go_at_call 15; refine (fCan _ (by omega) (by omega) _).mono ?_; rintro e w' ⟨rfl, rfl⟩)
    | (go_at_call 13; refine (fRight _ (by omega) (by omega) _).mono ?_; rintro e w' ⟨rfl, rfl⟩)
    | (go_at_call 8; refine (fTakeR _ _ (by omega) (by omega) (by omega) (by omega) _).mono ?_; rintro e w' ⟨rfl, rfl⟩)
    | (go_at_call 10; refine (fGiveR _ _ (by omega) (by omega) (by omega) (by omega) _).mono ?_; rintro e w' ⟨rfl, rfl⟩)
    | (go_at_call 12; refine (fShiftR _ _ (by omega) (by omega) (by omega) (by omega) _).mono ?_; rintro e w' ⟨rfl, rfl⟩)
    | (go_at_call 16; refine (fCanR _ (by omega) (by omega) _).mono ?_; rintro e w' ⟨rfl, rfl⟩)
    | (go_at_call 14; refine (fRightR _ (by omega) (by omega) _).mono ?_; rintro e w' ⟨rfl, rfl⟩)
    | (go_at_call 17; refine (fCut _ _ _ _ _ (by omega) (by omega) (by omega) (by omega) _).mono ?_; rintro e w' ⟨rfl, hb⟩; replace b0 := b0.trans (hb.mono b0.size))
    | (go_at_call 18; refine (fCutR _ _ _ _ _ (by omega) (by omega) (by omega) (by omega) _).mono ?_; rintro e w' ⟨rfl, rfl⟩)
    | (go_at_call 19; refine (fWakes _).mono ?_; rintro e w' ⟨rfl, hb⟩; replace b0 := b0.trans (hb.mono b0.size)))
                  all_goals go_round
                  all_goals first | (case rel => exact ⟨k + 1, u, by omega, by go_num, by go_num, by omega, by omega⟩) | (case measure => simp [intOf]; omega)
              · skip
                by_cases ho : u + n < 0
                · have cn : can (u + n) = 0 := if_neg (by omega)
                  go_wp2_with (first
    | (go_at_call 7; refine (fTake _ _ (by omega) (by omega) (by omega) (by omega) _).mono ?_; rintro e w' ⟨rfl, rfl⟩)
    | (go_at_call 9; refine (fGive _ _ (by omega) (by omega) (by omega) (by omega) _).mono ?_; rintro e w' ⟨rfl, rfl⟩)
    | (go_at_call 11; refine (fShift _ _ (by omega) (by omega) (by omega) (by omega) _).mono ?_; rintro e w' ⟨rfl, rfl⟩)
    | (go_at_call 15; refine (fCan _ (by omega) (by omega) _).mono ?_; rintro e w' ⟨rfl, rfl⟩)
    | (go_at_call 13; refine (fRight _ (by omega) (by omega) _).mono ?_; rintro e w' ⟨rfl, rfl⟩)
    | (go_at_call 8; refine (fTakeR _ _ (by omega) (by omega) (by omega) (by omega) _).mono ?_; rintro e w' ⟨rfl, rfl⟩)
    | (go_at_call 10; refine (fGiveR _ _ (by omega) (by omega) (by omega) (by omega) _).mono ?_; rintro e w' ⟨rfl, rfl⟩)
    | (go_at_call 12; refine (fShiftR _ _ (by omega) (by omega) (by omega) (by omega) _).mono ?_; rintro e w' ⟨rfl, rfl⟩)
    | (go_at_call 16; refine (fCanR _ (by omega) (by omega) _).mono ?_; rintro e w' ⟨rfl, rfl⟩)
    | (go_at_call 14; refine (fRightR _ (by omega) (by omega) _).mono ?_; rintro e w' ⟨rfl, rfl⟩)
    | (go_at_call 17; refine (fCut _ _ _ _ _ (by omega) (by omega) (by omega) (by omega) _).mono ?_; rintro e w' ⟨rfl, hb⟩; replace b0 := b0.trans (hb.mono b0.size))
    | (go_at_call 18; refine (fCutR _ _ _ _ _ (by omega) (by omega) (by omega) (by omega) _).mono ?_; rintro e w' ⟨rfl, rfl⟩)
    | (go_at_call 19; refine (fWakes _).mono ?_; rintro e w' ⟨rfl, hb⟩; replace b0 := b0.trans (hb.mono b0.size)))
                  all_goals go_round
                  all_goals first | (case rel => exact ⟨k + 1, u + n, by omega, by go_num, by go_num, by omega, by omega⟩) | (case measure => simp [intOf]; omega)
                · have cn : can (u + n) = u + n := if_pos (by omega)
                  have ho2 : 0 ≤ u + n := by omega
                  clear ho
                  go_wp2_with (first
    | (go_at_call 7; refine (fTake _ _ (by omega) (by omega) (by omega) (by omega) _).mono ?_; rintro e w' ⟨rfl, rfl⟩)
    | (go_at_call 9; refine (fGive _ _ (by omega) (by omega) (by omega) (by omega) _).mono ?_; rintro e w' ⟨rfl, rfl⟩)
    | (go_at_call 11; refine (fShift _ _ (by omega) (by omega) (by omega) (by omega) _).mono ?_; rintro e w' ⟨rfl, rfl⟩)
    | (go_at_call 15; refine (fCan _ (by omega) (by omega) _).mono ?_; rintro e w' ⟨rfl, rfl⟩)
    | (go_at_call 13; refine (fRight _ (by omega) (by omega) _).mono ?_; rintro e w' ⟨rfl, rfl⟩)
    | (go_at_call 8; refine (fTakeR _ _ (by omega) (by omega) (by omega) (by omega) _).mono ?_; rintro e w' ⟨rfl, rfl⟩)
    | (go_at_call 10; refine (fGiveR _ _ (by omega) (by omega) (by omega) (by omega) _).mono ?_; rintro e w' ⟨rfl, rfl⟩)
    | (go_at_call 12; refine (fShiftR _ _ (by omega) (by omega) (by omega) (by omega) _).mono ?_; rintro e w' ⟨rfl, rfl⟩)
    | (go_at_call 16; refine (fCanR _ (by omega) (by omega) _).mono ?_; rintro e w' ⟨rfl, rfl⟩)
    | (go_at_call 14; refine (fRightR _ (by omega) (by omega) _).mono ?_; rintro e w' ⟨rfl, rfl⟩)
    | (go_at_call 17; refine (fCut _ _ _ _ _ (by omega) (by omega) (by omega) (by omega) _).mono ?_; rintro e w' ⟨rfl, hb⟩; replace b0 := b0.trans (hb.mono b0.size))
    | (go_at_call 18; refine (fCutR _ _ _ _ _ (by omega) (by omega) (by omega) (by omega) _).mono ?_; rintro e w' ⟨rfl, rfl⟩)
    | (go_at_call 19; refine (fWakes _).mono ?_; rintro e w' ⟨rfl, hb⟩; replace b0 := b0.trans (hb.mono b0.size)))
                  all_goals go_round
                  all_goals first | (case rel => exact ⟨k + 1, u + n, by omega, by go_num, by go_num, by omega, by omega⟩) | (case measure => simp [intOf]; omega)
            · have hd2 : (d == 0) = false := by simpa using hd0
              have hd3 : (d == 1) = false := by simpa using hd1
              clear cl hd0 hd1
              rcases shift_cases u n with ⟨t1, t2⟩ | ⟨t1, t2, q1, q2, q3, q4, q5, q6⟩
              · skip
                by_cases ho : u < 0
                · have cn : can (u) = 0 := if_neg (by omega)
                  go_wp2_with (first
    | (go_at_call 7; refine (fTake _ _ (by omega) (by omega) (by omega) (by omega) _).mono ?_; rintro e w' ⟨rfl, rfl⟩)
    | (go_at_call 9; refine (fGive _ _ (by omega) (by omega) (by omega) (by omega) _).mono ?_; rintro e w' ⟨rfl, rfl⟩)
    | (go_at_call 11; refine (fShift _ _ (by omega) (by omega) (by omega) (by omega) _).mono ?_; rintro e w' ⟨rfl, rfl⟩)
    | (go_at_call 15; refine (fCan _ (by omega) (by omega) _).mono ?_; rintro e w' ⟨rfl, rfl⟩)
    | (go_at_call 13; refine (fRight _ (by omega) (by omega) _).mono ?_; rintro e w' ⟨rfl, rfl⟩)
    | (go_at_call 8; refine (fTakeR _ _ (by omega) (by omega) (by omega) (by omega) _).mono ?_; rintro e w' ⟨rfl, rfl⟩)
    | (go_at_call 10; refine (fGiveR _ _ (by omega) (by omega) (by omega) (by omega) _).mono ?_; rintro e w' ⟨rfl, rfl⟩)
    | (go_at_call 12; refine (fShiftR _ _ (by omega) (by omega) (by omega) (by omega) _).mono ?_; rintro e w' ⟨rfl, rfl⟩)
    | (go_at_call 16; refine (fCanR _ (by omega) (by omega) _).mono ?_; rintro e w' ⟨rfl, rfl⟩)
    | (go_at_call 14; refine (fRightR _ (by omega) (by omega) _).mono ?_; rintro e w' ⟨rfl, rfl⟩)
    | (go_at_call 17; refine (fCut _ _ _ _ _ (by omega) (by omega) (by omega) (by omega) _).mono ?_; rintro e w' ⟨rfl, hb⟩; replace b0 := b0.trans (hb.mono b0.size))
    | (go_at_call 18; refine (fCutR _ _ _ _ _ (by omega) (by omega) (by omega) (by omega) _).mono ?_; rintro e w' ⟨rfl, rfl⟩)
    | (go_at_call 19; refine (fWakes _).mono ?_; rintro e w' ⟨rfl, hb⟩; replace b0 := b0.trans (hb.mono b0.size)))
                  all_goals go_round
                  all_goals first | (case rel => exact ⟨k + 1, u, by omega, by go_num, by go_num, by omega, by omega⟩) | (case measure => simp [intOf]; omega)
                · have cn : can (u) = u := if_pos (by omega)
                  have ho2 : 0 ≤ u := by omega
                  clear ho
                  go_wp2_with (first
    | (go_at_call 7; refine (fTake _ _ (by omega) (by omega) (by omega) (by omega) _).mono ?_; rintro e w' ⟨rfl, rfl⟩)
    | (go_at_call 9; refine (fGive _ _ (by omega) (by omega) (by omega) (by omega) _).mono ?_; rintro e w' ⟨rfl, rfl⟩)
    | (go_at_call 11; refine (fShift _ _ (by omega) (by omega) (by omega) (by omega) _).mono ?_; rintro e w' ⟨rfl, rfl⟩)
    | (go_at_call 15; refine (fCan _ (by omega) (by omega) _).mono ?_; rintro e w' ⟨rfl, rfl⟩)
    | (go_at_call 13; refine (fRight _ (by omega) (by omega) _).mono ?_; rintro e w' ⟨rfl, rfl⟩)
    | (go_at_call 8; refine (fTakeR _ _ (by omega) (by omega) (by omega) (by omega) _).mono ?_; rintro e w' ⟨rfl, rfl⟩)
    | (go_at_call 10; refine (fGiveR _ _ (by omega) (by omega) (by omega) (by omega) _).mono ?_; rintro e w' ⟨rfl, rfl⟩)
    | (go_at_call 12; refine (fShiftR _ _ (by omega) (by omega) (by omega) (by omega) _).mono ?_; rintro e w' ⟨rfl, rfl⟩)
    | (go_at_call 16; refine (fCanR _ (by omega) (by omega) _).mono ?_; rintro e w' ⟨rfl, rfl⟩)
    | (go_at_call 14; refine (fRightR _ (by omega) (by omega) _).mono ?_; rintro e w' ⟨rfl, rfl⟩)
    | (go_at_call 17; refine (fCut _ _ _ _ _ (by omega) (by omega) (by omega) (by omega) _).mono ?_; rintro e w' ⟨rfl, hb⟩; replace b0 := b0.trans (hb.mono b0.size))
    | (go_at_call 18; refine (fCutR _ _ _ _ _ (by omega) (by omega) (by omega) (by omega) _).mono ?_; rintro e w' ⟨rfl, rfl⟩)
    | (go_at_call 19; refine (fWakes _).mono ?_; rintro e w' ⟨rfl, hb⟩; replace b0 := b0.trans (hb.mono b0.size)))
                  all_goals go_round
                  all_goals first | (case rel => exact ⟨k + 1, u, by omega, by go_num, by go_num, by omega, by omega⟩) | (case measure => simp [intOf]; omega)
              · skip
                by_cases ho : u + n < 0
                · have cn : can (u + n) = 0 := if_neg (by omega)
                  go_wp2_with (first
    | (go_at_call 7; refine (fTake _ _ (by omega) (by omega) (by omega) (by omega) _).mono ?_; rintro e w' ⟨rfl, rfl⟩)
    | (go_at_call 9; refine (fGive _ _ (by omega) (by omega) (by omega) (by omega) _).mono ?_; rintro e w' ⟨rfl, rfl⟩)
    | (go_at_call 11; refine (fShift _ _ (by omega) (by omega) (by omega) (by omega) _).mono ?_; rintro e w' ⟨rfl, rfl⟩)
    | (go_at_call 15; refine (fCan _ (by omega) (by omega) _).mono ?_; rintro e w' ⟨rfl, rfl⟩)
    | (go_at_call 13; refine (fRight _ (by omega) (by omega) _).mono ?_; rintro e w' ⟨rfl, rfl⟩)
    | (go_at_call 8; refine (fTakeR _ _ (by omega) (by omega) (by omega) (by omega) _).mono ?_; rintro e w' ⟨rfl, rfl⟩)
    | (go_at_call 10; refine (fGiveR _ _ (by omega) (by omega) (by omega) (by omega) _).mono ?_; rintro e w' ⟨rfl, rfl⟩)
    | (go_at_call 12; refine (fShiftR _ _ (by omega) (by omega) (by omega) (by omega) _).mono ?_; rintro e w' ⟨rfl, rfl⟩)
    | (go_at_call 16; refine (fCanR _ (by omega) (by omega) _).mono ?_; rintro e w' ⟨rfl, rfl⟩)
    | (go_at_call 14; refine (fRightR _ (by omega) (by omega) _).mono ?_; rintro e w' ⟨rfl, rfl⟩)
    | (go_at_call 17; refine (fCut _ _ _ _ _ (by omega) (by omega) (by omega) (by omega) _).mono ?_; rintro e w' ⟨rfl, hb⟩; replace b0 := b0.trans (hb.mono b0.size))
    | (go_at_call 18; refine (fCutR _ _ _ _ _ (by omega) (by omega) (by omega) (by omega) _).mono ?_; rintro e w' ⟨rfl, rfl⟩)
    | (go_at_call 19; refine (fWakes _).mono ?_; rintro e w' ⟨rfl, hb⟩; replace b0 := b0.trans (hb.mono b0.size)))
                  all_goals go_round
                  all_goals first | (case rel => exact ⟨k + 1, u + n, by omega, by go_num, by go_num, by omega, by omega⟩) | (case measure => simp [intOf]; omega)
                · have cn : can (u + n) = u + n := if_pos (by omega)
                  have ho2 : 0 ≤ u + n := by omega
                  clear ho
                  go_wp2_with (first
    | (go_at_call 7; refine (fTake _ _ (by omega) (by omega) (by omega) (by omega) _).mono ?_; rintro e w' ⟨rfl, rfl⟩)
    | (go_at_call 9; refine (fGive _ _ (by omega) (by omega) (by omega) (by omega) _).mono ?_; rintro e w' ⟨rfl, rfl⟩)
    | (go_at_call 11; refine (fShift _ _ (by omega) (by omega) (by omega) (by omega) _).mono ?_; rintro e w' ⟨rfl, rfl⟩)
    | (go_at_call 15; refine (fCan _ (by omega) (by omega) _).mono ?_; rintro e w' ⟨rfl, rfl⟩)
    | (go_at_call 13; refine (fRight _ (by omega) (by omega) _).mono ?_; rintro e w' ⟨rfl, rfl⟩)
    | (go_at_call 8; refine (fTakeR _ _ (by omega) (by omega) (by omega) (by omega) _).mono ?_; rintro e w' ⟨rfl, rfl⟩)
    | (go_at_call 10; refine (fGiveR _ _ (by omega) (by omega) (by omega) (by omega) _).mono ?_; rintro e w' ⟨rfl, rfl⟩)
    | (go_at_call 12; refine (fShiftR _ _ (by omega) (by omega) (by omega) (by omega) _).mono ?_; rintro e w' ⟨rfl, rfl⟩)
    | (go_at_call 16; refine (fCanR _ (by omega) (by omega) _).mono ?_; rintro e w' ⟨rfl, rfl⟩)
    | (go_at_call 14; refine (fRightR _ (by omega) (by omega) _).mono ?_; rintro e w' ⟨rfl, rfl⟩)
    | (go_at_call 17; refine (fCut _ _ _ _ _ (by omega) (by omega) (by omega) (by omega) _).mono ?_; rintro e w' ⟨rfl, hb⟩; replace b0 := b0.trans (hb.mono b0.size))
    | (go_at_call 18; refine (fCutR _ _ _ _ _ (by omega) (by omega) (by omega) (by omega) _).mono ?_; rintro e w' ⟨rfl, rfl⟩)
    | (go_at_call 19; refine (fWakes _).mono ?_; rintro e w' ⟨rfl, hb⟩; replace b0 := b0.trans (hb.mono b0.size)))
                  all_goals go_round
                  all_goals first | (case rel => exact ⟨k + 1, u + n, by omega, by go_num, by go_num, by omega, by omega⟩) | (case measure => simp [intOf]; omega)
        · obtain rfl : k = len := by omega
          go_wp2_with (first
    | (go_at_call 7; refine (fTake _ _ (by omega) (by omega) (by omega) (by omega) _).mono ?_; rintro e w' ⟨rfl, rfl⟩)
    | (go_at_call 9; refine (fGive _ _ (by omega) (by omega) (by omega) (by omega) _).mono ?_; rintro e w' ⟨rfl, rfl⟩)
    | (go_at_call 11; refine (fShift _ _ (by omega) (by omega) (by omega) (by omega) _).mono ?_; rintro e w' ⟨rfl, rfl⟩)
    | (go_at_call 15; refine (fCan _ (by omega) (by omega) _).mono ?_; rintro e w' ⟨rfl, rfl⟩)
    | (go_at_call 13; refine (fRight _ (by omega) (by omega) _).mono ?_; rintro e w' ⟨rfl, rfl⟩)
    | (go_at_call 8; refine (fTakeR _ _ (by omega) (by omega) (by omega) (by omega) _).mono ?_; rintro e w' ⟨rfl, rfl⟩)
    | (go_at_call 10; refine (fGiveR _ _ (by omega) (by omega) (by omega) (by omega) _).mono ?_; rintro e w' ⟨rfl, rfl⟩)
    | (go_at_call 12; refine (fShiftR _ _ (by omega) (by omega) (by omega) (by omega) _).mono ?_; rintro e w' ⟨rfl, rfl⟩)
    | (go_at_call 16; refine (fCanR _ (by omega) (by omega) _).mono ?_; rintro e w' ⟨rfl, rfl⟩)
    | (go_at_call 14; refine (fRightR _ (by omega) (by omega) _).mono ?_; rintro e w' ⟨rfl, rfl⟩)
    | (go_at_call 17; refine (fCut _ _ _ _ _ (by omega) (by omega) (by omega) (by omega) _).mono ?_; rintro e w' ⟨rfl, hb⟩; replace b0 := b0.trans (hb.mono b0.size))
    | (go_at_call 18; refine (fCutR _ _ _ _ _ (by omega) (by omega) (by omega) (by omega) _).mono ?_; rintro e w' ⟨rfl, rfl⟩)
    | (go_at_call 19; refine (fWakes _).mono ?_; rintro e w' ⟨rfl, hb⟩; replace b0 := b0.trans (hb.mono b0.size)))
          go_ret
          exact ⟨rfl, b0⟩
  · have r1 := rgt_n hw
    by_cases hw2 : w < -2147483647
    · skip
      go_enter Try.func5, Try.ntmps5
      go_wp2_with (first
    | (go_at_call 7; refine (fTake _ _ (by omega) (by omega) (by omega) (by omega) _).mono ?_; rintro e w' ⟨rfl, rfl⟩)
    | (go_at_call 9; refine (fGive _ _ (by omega) (by omega) (by omega) (by omega) _).mono ?_; rintro e w' ⟨rfl, rfl⟩)
    | (go_at_call 11; refine (fShift _ _ (by omega) (by omega) (by omega) (by omega) _).mono ?_; rintro e w' ⟨rfl, rfl⟩)
    | (go_at_call 15; refine (fCan _ (by omega) (by omega) _).mono ?_; rintro e w' ⟨rfl, rfl⟩)
    | (go_at_call 13; refine (fRight _ (by omega) (by omega) _).mono ?_; rintro e w' ⟨rfl, rfl⟩)
    | (go_at_call 8; refine (fTakeR _ _ (by omega) (by omega) (by omega) (by omega) _).mono ?_; rintro e w' ⟨rfl, rfl⟩)
    | (go_at_call 10; refine (fGiveR _ _ (by omega) (by omega) (by omega) (by omega) _).mono ?_; rintro e w' ⟨rfl, rfl⟩)
    | (go_at_call 12; refine (fShiftR _ _ (by omega) (by omega) (by omega) (by omega) _).mono ?_; rintro e w' ⟨rfl, rfl⟩)
    | (go_at_call 16; refine (fCanR _ (by omega) (by omega) _).mono ?_; rintro e w' ⟨rfl, rfl⟩)
    | (go_at_call 14; refine (fRightR _ (by omega) (by omega) _).mono ?_; rintro e w' ⟨rfl, rfl⟩)
    | (go_at_call 17; refine (fCut _ _ _ _ _ (by omega) (by omega) (by omega) (by omega) _).mono ?_; rintro e w' ⟨rfl, hb⟩; replace b0 := b0.trans (hb.mono b0.size))
    | (go_at_call 18; refine (fCutR _ _ _ _ _ (by omega) (by omega) (by omega) (by omega) _).mono ?_; rintro e w' ⟨rfl, rfl⟩)
    | (go_at_call 19; refine (fWakes _).mono ?_; rintro e w' ⟨rfl, hb⟩; replace b0 := b0.trans (hb.mono b0.size)))
      all_goals go_ret
      all_goals exact ⟨rfl, b0⟩
    · have hw3 : 2147483647 < w := by omega
      have z1 : decide (w < -2147483647) = false := decide_eq_false hw2
      clear hw hw2
      go_enter Try.func5, Try.ntmps5
      go_wp2_with (first
    | (go_at_call 7; refine (fTake _ _ (by omega) (by omega) (by omega) (by omega) _).mono ?_; rintro e w' ⟨rfl, rfl⟩)
    | (go_at_call 9; refine (fGive _ _ (by omega) (by omega) (by omega) (by omega) _).mono ?_; rintro e w' ⟨rfl, rfl⟩)
    | (go_at_call 11; refine (fShift _ _ (by omega) (by omega) (by omega) (by omega) _).mono ?_; rintro e w' ⟨rfl, rfl⟩)
    | (go_at_call 15; refine (fCan _ (by omega) (by omega) _).mono ?_; rintro e w' ⟨rfl, rfl⟩)
    | (go_at_call 13; refine (fRight _ (by omega) (by omega) _).mono ?_; rintro e w' ⟨rfl, rfl⟩)
    | (go_at_call 8; refine (fTakeR _ _ (by omega) (by omega) (by omega) (by omega) _).mono ?_; rintro e w' ⟨rfl, rfl⟩)
    | (go_at_call 10; refine (fGiveR _ _ (by omega) (by omega) (by omega) (by omega) _).mono ?_; rintro e w' ⟨rfl, rfl⟩)
    | (go_at_call 12; refine (fShiftR _ _ (by omega) (by omega) (by omega) (by omega) _).mono ?_; rintro e w' ⟨rfl, rfl⟩)
    | (go_at_call 16; refine (fCanR _ (by omega) (by omega) _).mono ?_; rintro e w' ⟨rfl, rfl⟩)
    | (go_at_call 14; refine (fRightR _ (by omega) (by omega) _).mono ?_; rintro e w' ⟨rfl, rfl⟩)
    | (go_at_call 17; refine (fCut _ _ _ _ _ (by omega) (by omega) (by omega) (by omega) _).mono ?_; rintro e w' ⟨rfl, hb⟩; replace b0 := b0.trans (hb.mono b0.size))
    | (go_at_call 18; refine (fCutR _ _ _ _ _ (by omega) (by omega) (by omega) (by omega) _).mono ?_; rintro e w' ⟨rfl, rfl⟩)
    | (go_at_call 19; refine (fWakes _).mono ?_; rintro e w' ⟨rfl, hb⟩; replace b0 := b0.trans (hb.mono b0.size)))
      all_goals go_ret
      all_goals exact ⟨rfl, b0⟩

theorem walkStaysRaw {H : Type} {enc : TypeId × Value → H} {W : World} {base : Nat} {d : DataW H} {p : List MemPlace} (w : Int) (h0 : -9223372036854775808 ≤ w) (h1 : w ≤ 9223372036854775807) (v : Value)
    (h : DataW.Trod enc Try.prog W 0 (fun _ => true) true 30 v d p) (ho : Value.okWide Try.prog W .any base 30 v) :
    Calls Try.prog 5 #[.int .i64 w, v] W fun e w' => e = .returned (.bool true) ∧ Below W.heap.size W w' := by
  obtain ⟨A, len, cap, D, N, rfl, hl, hD⟩ := openDeeds h ho
  exact walkStays w h0 h1 A len cap D N W hl hD
end Go.Proofs.Ytfifjeljbbanmaa
