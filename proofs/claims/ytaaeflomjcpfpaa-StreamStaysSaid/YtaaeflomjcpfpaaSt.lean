/- StreamStays: whatever is done a stream that may be stays one: the walk. -/
import Derived.Test.YtaaeflomjcpfpaaStn
import Derived.Test.YtaaeflomjcpfpaaSo
import Derived.Test.YtaaeflomjcpfpaaSr
import Derived.Test.YtaaeflomjcpfpaaSz
import Derived.StillTailTactics
import Derived.Deep.QuietTactic
import Derived.BigQuiet
namespace Go.Proofs.Ytaaeflomjcpfpaa
open Go.RowKit Go.Shelf
set_option linter.unusedVariables false
set_option linter.unusedSimpArgs false

set_option maxRecDepth 100000 in
set_option maxHeartbeats 4000000 in
theorem staysOk (s0 : Str) (ok0 : StrOk s0) (A0 : Option Addr) (n0 c0 : Nat) (A : Option Addr) (n c : Nat) (z : Nat → Int × Int × Bool) (hz : ∀ i, (-9223372036854775808 ≤ (z i).1 ∧ (z i).1 ≤ 9223372036854775807) ∧ (-9223372036854775808 ≤ (z i).2.1 ∧ (z i).2.1 ≤ 9223372036854775807)) (W : World) (h : Byt W A0 n0 c0 s0.out) (hT : Tri W A n c (fun i => .int .i64 (z i).1) (fun i => .int .i64 (z i).2.1) (fun i => .bool (z i).2.2)) (f0 : n0 ≤ 3000) (f1 : n ≤ 30) (f2 : RightS s0) (f3 : s0.rc + s0.ow ≤ 2147483647) :
    Calls Try.prog 5 #[.agg #[.int .i64 (s0).id, .int .u8 (s0).st, .int .i64 (s0).sd, .int .i64 (s0).rc, .int .i64 (s0).ow, .bool (s0).an, .bool (s0).en, .slice A0 n0 c0, .int .u8 (s0).ur, .bool (s0).inc, .int .i64 (s0).sl], .slice A n c] W fun e w' => e = .returned (.bool true) ∧ Below W.heap.size W w' := by
  have hl := h.len; have hmx := h.mx; have hcp := h.cap
  have GR := Lib.hid fun (A : Option Addr) (c : Nat) w => rGreat s0 A n0 c w (by omega)
  rw [show decide (3000 < n0) = false from decide_eq_false (by omega)] at GR
  have d1 : decide ((30 : Int) < n) = false := decide_eq_false (by omega)
  have RT := Lib.hid fun (A : Option Addr) (c : Nat) w => rSRight s0 ok0 A n0 c w hl (by omega)
  rw [show rightS s0 = true from rightS_yes f2] at RT
  have r4 := f2.2.2.2.1
  have r5 := f2.2.2.2.2.1
  have d3 : decide (2147483647 < s0.rc + s0.ow) = false := decide_eq_false (by omega)
  have e0 := r4.1; have e1 := r4.2; have e2 := r5.1; have e3 := r5.2; clear r4 r5
  have b0 := (Bel.refl W).alloc (.cells #[.int .i64 (s0).id, .int .u8 (s0).st, .int .i64 (s0).sd, .int .i64 (s0).rc, .int .i64 (s0).ow, .bool (s0).an, .bool (s0).en, .slice A0 n0 c0, .int .u8 (s0).ur, .bool (s0).inc, .int .i64 (s0).sl] 24)
  have q0 := Blk.new W 24 #[.int .i64 (s0).id, .int .u8 (s0).st, .int .i64 (s0).sd, .int .i64 (s0).rc, .int .i64 (s0).ow, .bool (s0).an, .bool (s0).en, .slice A0 n0 c0, .int .u8 (s0).ur, .bool (s0).inc, .int .i64 (s0).sl]
  have y := h.alloc (.cells #[.int .i64 (s0).id, .int .u8 (s0).st, .int .i64 (s0).sd, .int .i64 (s0).rc, .int .i64 (s0).ow, .bool (s0).an, .bool (s0).en, .slice A0 n0 c0, .int .u8 (s0).ur, .bool (s0).inc, .int .i64 (s0).sl] 24)
  have HT := Lib.hid hT
  have HL := Lib.hid hl
  have F1 := Lib.hid f1
  have F3 := Lib.hid f3
  have FR := Lib.hid f2
  clear hl hmx hcp f0 f1 f2 f3 h hT
  go_enter Try.func5, Try.ntmps5
  go_wp2_with (first
    | ((with_reducible refine wpList_id ?_); refine wpList_getB rfl _ _ rfl rfl q0 Try.underlying24 rfl (by rfl) ?_)
    | ((with_reducible refine wpList_id ?_); refine wpList_getG (by rfl) _ _ rfl rfl q0 Try.underlying24 rfl (by rfl) ?_)
    | (go_at_call 7; (with_reducible refine (GR.out _ _ _).mono ?_); rintro e w9 ⟨rfl, hb⟩; replace b0 := b0.below hb; (try replace q0 := q0.below hb); (try replace y := y.below hb); (try clear q0_3); (try have q0_3 := q0.at 3 rfl); (try clear q0_4); (try have q0_4 := q0.at 4 rfl))
    | (go_at_call 31; (with_reducible refine (RT.out _ _ _).mono ?_); rintro e w9 ⟨rfl, hb⟩; replace b0 := b0.below hb; (try replace q0 := q0.below hb); (try replace y := y.below hb); (try clear q0_3); (try have q0_3 := q0.at 3 rfl); (try clear q0_4); (try have q0_4 := q0.at 4 rfl)))
  go_loopw [6] (fun u wr => ∃ (i : Nat) (s : Str) (A1 : Option Addr) (n1 c1 : Nat), i ≤ n ∧ Keep s0 s ∧ u = .int .i64 i ∧ Bel W wr ∧ Blk wr W.heap.size 24 #[.int .i64 (s).id, .int .u8 (s).st, .int .i64 (s).sd, .int .i64 (s).rc, .int .i64 (s).ow, .bool (s).an, .bool (s).en, .slice A1 n1 c1, .int .u8 (s).ur, .bool (s).inc, .int .i64 (s).sl] ∧ Byt wr A1 n1 c1 s.out) (fun u _ => n - (intOf u).toNat)
  case atStart => exact ⟨0, s0, A0, n0, c0, Nat.zero_le _, Keep.refl FR.out ok0, rfl, b0, q0, y⟩
  case round =>
    (try clear q0_3 q0_4)
    clear b0 q0 y
    obtain ⟨i, s, A1, n1, c1, hi, kp, rfl, b0, q0, y⟩ := hrel
    have T0 := HT.out.below b0.out
    by_cases hlt : i < n
    case neg =>
      as_aux_lemma =>
        obtain rfl : i = n := by omega
        have i1 : decide ((i : Int) < (i : Int)) = false := by simp
        clear q0 y kp T0
        go_wp2_with (first | (go_at_call 8; (with_reducible refine (fWakes _).mono ?_); rintro e w9 ⟨rfl, hb⟩; replace b0 := b0.below hb))
        go_ret
        exact ⟨rfl, b0.out⟩
    obtain ⟨b, o, rfl, hbs, hcell⟩ := T0.at' (by omega)
    obtain ⟨k0, k1, k2⟩ := hcell i hlt
    have hk := hz i
    generalize hzi : z i = zi at k0 k1 k2 hk
    obtain ⟨dd, x, en⟩ := zi
    simp only at k0 k1 k2 hk
    clear hcell hzi
    obtain ⟨D0, X0⟩ := hk
    have i0 : (0 : Int) ≤ (i : Int) := by omega
    have i1 : (i : Int) < (n : Int) := by omega
    have hl1 : n ≤ c := T0.le
    have hl2 := T0.mx
    clear T0
    have hl := y.len
    obtain ⟨r, ok, kid, kle⟩ := kp
    have hn1 : n1 ≤ 65535 := by have := r.2.2.2.2.2.1; omega
    have hall : s.rc + s.ow ≤ 2147483647 := by have := F3.out; omega
    have r4 := r.2.2.2.1
    have r5 := r.2.2.2.2.1
    have KID := Lib.hid kid
    have KLE := Lib.hid kle
    clear kid kle hl
    have lt0 := q0.lt
    have q0w := q0
    have qo := Blk.new wr 24 #[.int .i64 (s).id, .int .u8 (s).st, .int .i64 (s).sd, .int .i64 (s).rc, .int .i64 (s).ow, .bool (s).an, .bool (s).en, .slice A1 n1 c1, .int .u8 (s).ur, .bool (s).inc, .int .i64 (s).sl]
    replace b0 := b0.alloc (.cells #[.int .i64 (s).id, .int .u8 (s).st, .int .i64 (s).sd, .int .i64 (s).rc, .int .i64 (s).ow, .bool (s).an, .bool (s).en, .slice A1 n1 c1, .int .u8 (s).ur, .bool (s).inc, .int .i64 (s).sl] 24)
    replace q0 := q0.alloc (.cells #[.int .i64 (s).id, .int .u8 (s).st, .int .i64 (s).sd, .int .i64 (s).rc, .int .i64 (s).ow, .bool (s).an, .bool (s).en, .slice A1 n1 c1, .int .u8 (s).ur, .bool (s).inc, .int .i64 (s).sl] 24)
    replace y := y.alloc (.cells #[.int .i64 (s).id, .int .u8 (s).st, .int .i64 (s).sd, .int .i64 (s).rc, .int .i64 (s).ow, .bool (s).an, .bool (s).en, .slice A1 n1 c1, .int .u8 (s).ur, .bool (s).inc, .int .i64 (s).sl] 24)
    by_cases d0 : dd = 0
    · subst d0
      have DK := Lib.hid (data_keep r ok x en hall)
      have DT := Lib.hid fun (A : Option Addr) (c : Nat) w (h : Byt w A n1 c s.out) => fData s ok x en X0 A n1 c w h (by omega)
      generalize dataS s x en = t at *
      generalize dataC s x en = C at *
      go_upto_region 12 with (first | ((with_reducible refine wpList_id ?_); refine wpList_getB rfl _ _ rfl rfl q0w Try.underlying24 rfl (by rfl) ?_))
      have hb1 : b < (wr.alloc (.cells #[.int .i64 (s).id, .int .u8 (s).st, .int .i64 (s).sd, .int .i64 (s).rc, .int .i64 (s).ow, .bool (s).an, .bool (s).en, .slice A1 n1 c1, .int .u8 (s).ur, .bool (s).inc, .int .i64 (s).sl] 24)).heap.size := by rw [World.size_alloc]; omega
      replace k2 := ((Below.refl wr.heap.size wr).alloc (Nat.le_refl _) (.cells #[.int .i64 (s).id, .int .u8 (s).st, .int .i64 (s).sd, .int .i64 (s).rc, .int .i64 (s).ow, .bool (s).an, .bool (s).en, .slice A1 n1 c1, .int .u8 (s).ur, .bool (s).inc, .int .i64 (s).sl] 24)).cell (p := ⟨b, o + i * 3 + 2, none⟩) hbs |>.trans k2
      have ltw : W.heap.size < wr.heap.size := lt0
      have ltw1 : wr.heap.size < (wr.alloc (.cells #[.int .i64 (s).id, .int .u8 (s).st, .int .i64 (s).sd, .int .i64 (s).rc, .int .i64 (s).ow, .bool (s).an, .bool (s).en, .slice A1 n1 c1, .int .u8 (s).ur, .bool (s).inc, .int .i64 (s).sl] 24)).heap.size := by rw [World.size_alloc]; omega
      generalize hw1 : wr.alloc (.cells #[.int .i64 (s).id, .int .u8 (s).st, .int .i64 (s).sd, .int .i64 (s).rc, .int .i64 (s).ow, .bool (s).an, .bool (s).en, .slice A1 n1 c1, .int .u8 (s).ur, .bool (s).inc, .int .i64 (s).sl] 24) = w1 at *
      clear hw1 k0 k1 q0w
      refine wp_cutR (fun a a' w' => ∃ g9 g10 A2 n2 c2, a' = (((((((((((((a.put (some 65) (.agg #[.int .i64 (s).id, .int .u8 (s).st, .int .i64 (s).sd, .int .i64 (s).rc, .int .i64 (s).ow, .bool (s).an, .bool (s).en, .slice A1 n1 c1, .int .u8 (s).ur, .bool (s).inc, .int .i64 (s).sl])).put (some 66) (.int .i64 x)).put (some 67) (.slice (some ⟨b, o, none⟩) n c)).put (some 68) (.int .i64 i)).put (some 69) (.pointer (some ⟨b, o + i * 3, none⟩))).put (some 70) (.pointer (some ⟨b, o + i * 3 + 2, none⟩))).put (some 71) (.bool en)).put (some 72) (.tuple #[.agg #[.int .i64 (t).id, .int .u8 (t).st, .int .i64 (t).sd, .int .i64 (t).rc, .int .i64 (t).ow, .bool (t).an, .bool (t).en, .slice A2 n2 c2, .int .u8 (t).ur, .bool (t).inc, .int .i64 (t).sl], .agg #[.int .u8 (C).st, .bool (C).take, .bool (C).whole, .int .u32 (C).code]])).put (some 64) (.tuple #[.agg #[.int .i64 (t).id, .int .u8 (t).st, .int .i64 (t).sd, .int .i64 (t).rc, .int .i64 (t).ow, .bool (t).an, .bool (t).en, .slice A2 n2 c2, .int .u8 (t).ur, .bool (t).inc, .int .i64 (t).sl], .agg #[.int .u8 (C).st, .bool (C).take, .bool (C).whole, .int .u32 (C).code]])).put (some 73) (.agg #[.int .i64 (t).id, .int .u8 (t).st, .int .i64 (t).sd, .int .i64 (t).rc, .int .i64 (t).ow, .bool (t).an, .bool (t).en, .slice A2 n2 c2, .int .u8 (t).ur, .bool (t).inc, .int .i64 (t).sl])).put (some 74) (.agg #[.int .u8 (C).st, .bool (C).take, .bool (C).whole, .int .u32 (C).code])).put (some 9) (.pointer (some ⟨g9, 0, none⟩))).put (some 10) (.pointer (some ⟨g10, 0, none⟩))) ∧ Blk w' g9 24 #[.int .i64 (t).id, .int .u8 (t).st, .int .i64 (t).sd, .int .i64 (t).rc, .int .i64 (t).ow, .bool (t).an, .bool (t).en, .slice A2 n2 c2, .int .u8 (t).ur, .bool (t).inc, .int .i64 (t).sl] ∧ Blk w' g10 32 #[.int .u8 (C).st, .bool (C).take, .bool (C).whole, .int .u32 (C).code] ∧ Mine 0 w' A2 n2 c2 t.out ∧ Below w1.heap.size w1 w' ∧ w1.heap.size ≤ g9 ∧ w1.heap.size ≤ g10 ∧ g9 ≠ g10) ?reg ?rest
      case reg =>
        as_aux_lemma =>
          have bw := (Bel.refl w1).drew
          refine wp_region_G (fun w' => Blk w' W.heap.size 24 #[.int .i64 (s).id, .int .u8 (s).st, .int .i64 (s).sd, .int .i64 (s).rc, .int .i64 (s).ow, .bool (s).an, .bool (s).en, .slice A1 n1 c1, .int .u8 (s).ur, .bool (s).inc, .int .i64 (s).sl] ∧ w'.cell? ⟨b, o + i * 3 + 2, none⟩ = some (.bool en)) [] (by kernel_rfl) ?_
          have S0 : Blk (w1.drew) W.heap.size 24 #[.int .i64 (s).id, .int .u8 (s).st, .int .i64 (s).sd, .int .i64 (s).rc, .int .i64 (s).ow, .bool (s).an, .bool (s).en, .slice A1 n1 c1, .int .u8 (s).ur, .bool (s).inc, .int .i64 (s).sl] ∧ (w1.drew).cell? ⟨b, o + i * 3 + 2, none⟩ = some (.bool en) := ⟨q0.below bw.out, (bw.out.cell (p := ⟨b, o + i * 3 + 2, none⟩) hb1).trans k2⟩
          refine wpAnyG_take 0 (v := .agg #[.int .i64 (s).id, .int .u8 (s).st, .int .i64 (s).sd, .int .i64 (s).rc, .int .i64 (s).ow, .bool (s).an, .bool (s).en, .slice A1 n1 c1, .int .u8 (s).ur, .bool (s).inc, .int .i64 (s).sl]) rfl (by kernel_rfl) (by intro _ _ _ h; cases h.1) S0 (Or.inl ⟨by rfl, by intro w' hSw; have z0 := hSw.2; exact exec_getB (by rfl) (by rfl) hSw.1 Try.underlying24 (by rfl) (by rfl)⟩) ?_; (try simp only [Act.put, List.getElem_toArray, List.getElem_cons_succ, List.getElem_cons_zero, List.setIfInBounds_toArray, List.set_cons_zero, List.set_cons_succ])
          refine wpAnyG_take 1 (v := ?_) rfl (by kernel_rfl) (by intro _ _ _ h; cases h.1) S0 (Or.inl ⟨by rfl, by intro w' hSw; have z0 := hSw.2; go_simp; try with_reducible rfl⟩) ?_; (try simp only [Act.put, List.getElem_toArray, List.getElem_cons_succ, List.getElem_cons_zero, List.setIfInBounds_toArray, List.set_cons_zero, List.set_cons_succ])
          refine wpAnyG_take 2 (v := ?_) rfl (by kernel_rfl) (by intro _ _ _ h; cases h.1) S0 (Or.inl ⟨by rfl, by intro w' hSw; have z0 := hSw.2; go_simp; try with_reducible rfl⟩) ?_; (try simp only [Act.put, List.getElem_toArray, List.getElem_cons_succ, List.getElem_cons_zero, List.setIfInBounds_toArray, List.set_cons_zero, List.set_cons_succ])
          refine wpAnyG_take 3 (v := ?_) rfl (by kernel_rfl) (by intro _ _ _ h; cases h.1) S0 (Or.inl ⟨by rfl, by intro w' hSw; have z0 := hSw.2; go_simp; try with_reducible rfl⟩) ?_; (try simp only [Act.put, List.getElem_toArray, List.getElem_cons_succ, List.getElem_cons_zero, List.setIfInBounds_toArray, List.set_cons_zero, List.set_cons_succ])
          refine wpAnyG_take 4 (v := ?_) rfl (by kernel_rfl) (by intro _ _ _ h; cases h.1) S0 (Or.inl ⟨by rfl, by intro w' hSw; have z0 := hSw.2; go_simp; try with_reducible rfl⟩) ?_; (try simp only [Act.put, List.getElem_toArray, List.getElem_cons_succ, List.getElem_cons_zero, List.setIfInBounds_toArray, List.set_cons_zero, List.set_cons_succ])
          refine wpAnyG_take 5 (v := ?_) rfl (by kernel_rfl) (by intro _ _ _ h; cases h.1) S0 (Or.inl ⟨by rfl, by intro w' hSw; have z0 := hSw.2; go_simp; try with_reducible rfl⟩) ?_; (try simp only [Act.put, List.getElem_toArray, List.getElem_cons_succ, List.getElem_cons_zero, List.setIfInBounds_toArray, List.set_cons_zero, List.set_cons_succ])
          refine wpAnyG_take 6 (v := ?_) rfl (by kernel_rfl) (by intro _ _ _ h; cases h.1) S0 (Or.inl ⟨by rfl, by intro w' hSw; have z0 := hSw.2; go_simp; try with_reducible rfl⟩) ?_; (try simp only [Act.put, List.getElem_toArray, List.getElem_cons_succ, List.getElem_cons_zero, List.setIfInBounds_toArray, List.set_cons_zero, List.set_cons_succ])
          clear S0
          refine wpAnyG_three 7 11 12 (by kernel_rfl) rfl rfl rfl (fun K hK => ?_) (fun K hK => ?_) (fun K hK => ?_)
          · rw [if_pos (by rfl)]
            go_simp
            (with_reducible refine (DT.out _ _ _ (y.below bw.out)).mono ?_)
            rintro e wd ⟨A2, n2, c2, rfl, m2, hb⟩
            replace m2 := m2.base_le (Nat.zero_le _)
            replace bw := bw.below hb
            clear hb
            (try go_simp)
            refine hK.out _ _ (fun _ => ⟨q0.below bw.out, (bw.out.cell (p := ⟨b, o + i * 3 + 2, none⟩) hb1).trans k2⟩) ?_
            clear hK K
            (try simp only [Act.put, List.getElem_toArray, List.getElem_cons_succ, List.getElem_cons_zero, List.setIfInBounds_toArray, List.set_cons_zero, List.set_cons_succ])
            have S0 : Blk (wd) W.heap.size 24 #[.int .i64 (s).id, .int .u8 (s).st, .int .i64 (s).sd, .int .i64 (s).rc, .int .i64 (s).ow, .bool (s).an, .bool (s).en, .slice A1 n1 c1, .int .u8 (s).ur, .bool (s).inc, .int .i64 (s).sl] ∧ (wd).cell? ⟨b, o + i * 3 + 2, none⟩ = some (.bool en) := ⟨q0.below bw.out, (bw.out.cell (p := ⟨b, o + i * 3 + 2, none⟩) hb1).trans k2⟩
            refine wpAnyG_take 8 (v := ?_) rfl (by kernel_rfl) (by intro _ _ _ h; cases h.1) S0 (Or.inl ⟨by rfl, by intro w' hSw; have z0 := hSw.2; go_simp; try with_reducible rfl⟩) ?_; (try simp only [Act.put, List.getElem_toArray, List.getElem_cons_succ, List.getElem_cons_zero, List.setIfInBounds_toArray, List.set_cons_zero, List.set_cons_succ])
            refine wpAnyG_take 9 (v := ?_) rfl (by kernel_rfl) (by intro _ _ _ h; cases h.1) S0 (Or.inl ⟨by rfl, by intro w' hSw; have z0 := hSw.2; go_simp; try with_reducible rfl⟩) ?_; (try simp only [Act.put, List.getElem_toArray, List.getElem_cons_succ, List.getElem_cons_zero, List.setIfInBounds_toArray, List.set_cons_zero, List.set_cons_succ])
            refine wpAnyG_take 10 (v := ?_) rfl (by kernel_rfl) (by intro _ _ _ h; cases h.1) S0 (Or.inl ⟨by rfl, by intro w' hSw; have z0 := hSw.2; go_simp; try with_reducible rfl⟩) ?_; (try simp only [Act.put, List.getElem_toArray, List.getElem_cons_succ, List.getElem_cons_zero, List.setIfInBounds_toArray, List.set_cons_zero, List.set_cons_succ])
            clear S0
            refine wpAnyG_two 11 12 (by kernel_rfl) rfl rfl (fun K hK => ?_) (fun K hK => ?_)
            · rw [if_pos (by rfl)]
              go_simp
              have h9 : w1.heap.size ≤ wd.heap.size := by first | omega | (have hs := bw.out.size; (try simp at hs); omega)
              have q9 : Blk (wd.alloc (.cells #[.int .i64 0, .int .u8 0, .int .i64 0, .int .i64 0, .int .i64 0, .bool false, .bool false, .slice none 0 0, .int .u8 0, .bool false, .int .i64 0] 24)) (wd.heap.size) 24 #[.int .i64 0, .int .u8 0, .int .i64 0, .int .i64 0, .int .i64 0, .bool false, .bool false, .slice none 0 0, .int .u8 0, .bool false, .int .i64 0] := Blk.newAt (b := wd.heap.size) wd 24 #[.int .i64 0, .int .u8 0, .int .i64 0, .int .i64 0, .int .i64 0, .bool false, .bool false, .slice none 0 0, .int .u8 0, .bool false, .int .i64 0] (by simp)
              replace bw : Bel w1 (wd.alloc (.cells #[.int .i64 0, .int .u8 0, .int .i64 0, .int .i64 0, .int .i64 0, .bool false, .bool false, .slice none 0 0, .int .u8 0, .bool false, .int .i64 0] 24)) := ⟨(bw.alloc (.cells #[.int .i64 0, .int .u8 0, .int .i64 0, .int .i64 0, .int .i64 0, .bool false, .bool false, .slice none 0 0, .int .u8 0, .bool false, .int .i64 0] 24)).out⟩
              replace m2 : Mine 0 (wd.alloc (.cells #[.int .i64 0, .int .u8 0, .int .i64 0, .int .i64 0, .int .i64 0, .bool false, .bool false, .slice none 0 0, .int .u8 0, .bool false, .int .i64 0] 24)) A2 n2 c2 t.out := m2.alloc (.cells #[.int .i64 0, .int .u8 0, .int .i64 0, .int .i64 0, .int .i64 0, .bool false, .bool false, .slice none 0 0, .int .u8 0, .bool false, .int .i64 0] 24)
              (try go_simp)
              refine hK.out _ _ (fun _ => ⟨q0.below bw.out, (bw.out.cell (p := ⟨b, o + i * 3 + 2, none⟩) hb1).trans k2⟩) ?_
              clear hK K
              (try simp only [Act.put, List.getElem_toArray, List.getElem_cons_succ, List.getElem_cons_zero, List.setIfInBounds_toArray, List.set_cons_zero, List.set_cons_succ])
              refine wpAnyG_one 12 (by kernel_rfl) rfl (fun K hK => ?_)
              rw [if_pos (by rfl)]
              go_simp
              have h10 : w1.heap.size ≤ wd.heap.size + 1 := by first | omega | (have hs := bw.out.size; (try simp at hs); omega)
              have hne : wd.heap.size ≠ wd.heap.size + 1 := Nat.ne_of_lt (by have hs := q9.lt; (try simp at hs); omega)
              have q10 : Blk ((wd.alloc (.cells #[.int .i64 0, .int .u8 0, .int .i64 0, .int .i64 0, .int .i64 0, .bool false, .bool false, .slice none 0 0, .int .u8 0, .bool false, .int .i64 0] 24)).alloc (.cells #[.int .u8 0, .bool false, .bool false, .int .u32 0] 32)) (wd.heap.size + 1) 32 #[.int .u8 0, .bool false, .bool false, .int .u32 0] := Blk.newAt (b := wd.heap.size + 1) (wd.alloc (.cells #[.int .i64 0, .int .u8 0, .int .i64 0, .int .i64 0, .int .i64 0, .bool false, .bool false, .slice none 0 0, .int .u8 0, .bool false, .int .i64 0] 24)) 32 #[.int .u8 0, .bool false, .bool false, .int .u32 0] (by simp)
              replace bw : Bel w1 ((wd.alloc (.cells #[.int .i64 0, .int .u8 0, .int .i64 0, .int .i64 0, .int .i64 0, .bool false, .bool false, .slice none 0 0, .int .u8 0, .bool false, .int .i64 0] 24)).alloc (.cells #[.int .u8 0, .bool false, .bool false, .int .u32 0] 32)) := ⟨(bw.alloc (.cells #[.int .u8 0, .bool false, .bool false, .int .u32 0] 32)).out⟩
              replace m2 : Mine 0 ((wd.alloc (.cells #[.int .i64 0, .int .u8 0, .int .i64 0, .int .i64 0, .int .i64 0, .bool false, .bool false, .slice none 0 0, .int .u8 0, .bool false, .int .i64 0] 24)).alloc (.cells #[.int .u8 0, .bool false, .bool false, .int .u32 0] 32)) A2 n2 c2 t.out := m2.alloc (.cells #[.int .u8 0, .bool false, .bool false, .int .u32 0] 32)
              replace q9 : Blk ((wd.alloc (.cells #[.int .i64 0, .int .u8 0, .int .i64 0, .int .i64 0, .int .i64 0, .bool false, .bool false, .slice none 0 0, .int .u8 0, .bool false, .int .i64 0] 24)).alloc (.cells #[.int .u8 0, .bool false, .bool false, .int .u32 0] 32)) (wd.heap.size) 24 #[.int .i64 0, .int .u8 0, .int .i64 0, .int .i64 0, .int .i64 0, .bool false, .bool false, .slice none 0 0, .int .u8 0, .bool false, .int .i64 0] := q9.alloc (.cells #[.int .u8 0, .bool false, .bool false, .int .u32 0] 32)
              (try go_simp)
              refine hK.out _ _ (fun _ => ⟨q0.below bw.out, (bw.out.cell (p := ⟨b, o + i * 3 + 2, none⟩) hb1).trans k2⟩) ?_
              clear hK K
              (try simp only [Act.put, List.getElem_toArray, List.getElem_cons_succ, List.getElem_cons_zero, List.setIfInBounds_toArray, List.set_cons_zero, List.set_cons_succ])
              refine wpAnyG_one 13 (by kernel_rfl) rfl (fun K hK => ?_)
              rw [if_pos (by rfl)]
              refine wp_putB _ _ _ rfl rfl rfl q9 (by rfl) (by rfl) (by rfl) ?_
              intro w8 qn hg
              replace bw := bw.grown hg h9
              replace m2 := m2.grownB q9 (by decide) hg
              replace q10 := q10.grown hg ((hne).symm)
              clear hg q9
              have q9 := qn
              clear qn
              (try go_simp)
              refine hK.out _ _ (fun _ => ⟨q0.below bw.out, (bw.out.cell (p := ⟨b, o + i * 3 + 2, none⟩) hb1).trans k2⟩) ?_
              clear hK K
              (try simp only [Act.put, List.getElem_toArray, List.getElem_cons_succ, List.getElem_cons_zero, List.setIfInBounds_toArray, List.set_cons_zero, List.set_cons_succ])
              refine wpAnyG_one 14 (by kernel_rfl) rfl (fun K hK => ?_)
              rw [if_pos (by rfl)]
              refine wp_putB _ _ _ rfl rfl rfl q10 (by rfl) (by rfl) (by rfl) ?_
              intro w8 qn hg
              replace bw := bw.grown hg h10
              replace m2 := m2.grownB q10 (by decide) hg
              replace q9 := q9.grown hg (hne)
              clear hg q10
              have q10 := qn
              clear qn
              (try go_simp)
              refine hK.out _ _ (fun _ => ⟨q0.below bw.out, (bw.out.cell (p := ⟨b, o + i * 3 + 2, none⟩) hb1).trans k2⟩) ?_
              clear hK K
              (try simp only [Act.put, List.getElem_toArray, List.getElem_cons_succ, List.getElem_cons_zero, List.setIfInBounds_toArray, List.set_cons_zero, List.set_cons_succ])
              refine wpAnyG_done (by kernel_rfl) ⟨rfl, _, _, A2, n2, c2, ?_, q9, q10, m2, bw.out, h9, h10, hne⟩ _
              (try simp only [Act.put, List.getElem_toArray, List.getElem_cons_succ, List.getElem_cons_zero, List.setIfInBounds_toArray, List.set_cons_zero, List.set_cons_succ])
            · rw [if_pos (by rfl)]
              go_simp
              have h10 : w1.heap.size ≤ wd.heap.size := by first | omega | (have hs := bw.out.size; (try simp at hs); omega)
              have q10 : Blk (wd.alloc (.cells #[.int .u8 0, .bool false, .bool false, .int .u32 0] 32)) (wd.heap.size) 32 #[.int .u8 0, .bool false, .bool false, .int .u32 0] := Blk.newAt (b := wd.heap.size) wd 32 #[.int .u8 0, .bool false, .bool false, .int .u32 0] (by simp)
              replace bw : Bel w1 (wd.alloc (.cells #[.int .u8 0, .bool false, .bool false, .int .u32 0] 32)) := ⟨(bw.alloc (.cells #[.int .u8 0, .bool false, .bool false, .int .u32 0] 32)).out⟩
              replace m2 : Mine 0 (wd.alloc (.cells #[.int .u8 0, .bool false, .bool false, .int .u32 0] 32)) A2 n2 c2 t.out := m2.alloc (.cells #[.int .u8 0, .bool false, .bool false, .int .u32 0] 32)
              (try go_simp)
              refine hK.out _ _ (fun _ => ⟨q0.below bw.out, (bw.out.cell (p := ⟨b, o + i * 3 + 2, none⟩) hb1).trans k2⟩) ?_
              clear hK K
              (try simp only [Act.put, List.getElem_toArray, List.getElem_cons_succ, List.getElem_cons_zero, List.setIfInBounds_toArray, List.set_cons_zero, List.set_cons_succ])
              refine wpAnyG_one 11 (by kernel_rfl) rfl (fun K hK => ?_)
              rw [if_pos (by rfl)]
              go_simp
              have h9 : w1.heap.size ≤ wd.heap.size + 1 := by first | omega | (have hs := bw.out.size; (try simp at hs); omega)
              have hne : wd.heap.size ≠ wd.heap.size + 1 := Nat.ne_of_lt (by have hs := q10.lt; (try simp at hs); omega)
              have q9 : Blk ((wd.alloc (.cells #[.int .u8 0, .bool false, .bool false, .int .u32 0] 32)).alloc (.cells #[.int .i64 0, .int .u8 0, .int .i64 0, .int .i64 0, .int .i64 0, .bool false, .bool false, .slice none 0 0, .int .u8 0, .bool false, .int .i64 0] 24)) (wd.heap.size + 1) 24 #[.int .i64 0, .int .u8 0, .int .i64 0, .int .i64 0, .int .i64 0, .bool false, .bool false, .slice none 0 0, .int .u8 0, .bool false, .int .i64 0] := Blk.newAt (b := wd.heap.size + 1) (wd.alloc (.cells #[.int .u8 0, .bool false, .bool false, .int .u32 0] 32)) 24 #[.int .i64 0, .int .u8 0, .int .i64 0, .int .i64 0, .int .i64 0, .bool false, .bool false, .slice none 0 0, .int .u8 0, .bool false, .int .i64 0] (by simp)
              replace bw : Bel w1 ((wd.alloc (.cells #[.int .u8 0, .bool false, .bool false, .int .u32 0] 32)).alloc (.cells #[.int .i64 0, .int .u8 0, .int .i64 0, .int .i64 0, .int .i64 0, .bool false, .bool false, .slice none 0 0, .int .u8 0, .bool false, .int .i64 0] 24)) := ⟨(bw.alloc (.cells #[.int .i64 0, .int .u8 0, .int .i64 0, .int .i64 0, .int .i64 0, .bool false, .bool false, .slice none 0 0, .int .u8 0, .bool false, .int .i64 0] 24)).out⟩
              replace m2 : Mine 0 ((wd.alloc (.cells #[.int .u8 0, .bool false, .bool false, .int .u32 0] 32)).alloc (.cells #[.int .i64 0, .int .u8 0, .int .i64 0, .int .i64 0, .int .i64 0, .bool false, .bool false, .slice none 0 0, .int .u8 0, .bool false, .int .i64 0] 24)) A2 n2 c2 t.out := m2.alloc (.cells #[.int .i64 0, .int .u8 0, .int .i64 0, .int .i64 0, .int .i64 0, .bool false, .bool false, .slice none 0 0, .int .u8 0, .bool false, .int .i64 0] 24)
              replace q10 : Blk ((wd.alloc (.cells #[.int .u8 0, .bool false, .bool false, .int .u32 0] 32)).alloc (.cells #[.int .i64 0, .int .u8 0, .int .i64 0, .int .i64 0, .int .i64 0, .bool false, .bool false, .slice none 0 0, .int .u8 0, .bool false, .int .i64 0] 24)) (wd.heap.size) 32 #[.int .u8 0, .bool false, .bool false, .int .u32 0] := q10.alloc (.cells #[.int .i64 0, .int .u8 0, .int .i64 0, .int .i64 0, .int .i64 0, .bool false, .bool false, .slice none 0 0, .int .u8 0, .bool false, .int .i64 0] 24)
              (try go_simp)
              refine hK.out _ _ (fun _ => ⟨q0.below bw.out, (bw.out.cell (p := ⟨b, o + i * 3 + 2, none⟩) hb1).trans k2⟩) ?_
              clear hK K
              (try simp only [Act.put, List.getElem_toArray, List.getElem_cons_succ, List.getElem_cons_zero, List.setIfInBounds_toArray, List.set_cons_zero, List.set_cons_succ])
              refine wpAnyG_one 13 (by kernel_rfl) rfl (fun K hK => ?_)
              rw [if_pos (by rfl)]
              refine wp_putB _ _ _ rfl rfl rfl q9 (by rfl) (by rfl) (by rfl) ?_
              intro w8 qn hg
              replace bw := bw.grown hg h9
              replace m2 := m2.grownB q9 (by decide) hg
              replace q10 := q10.grown hg ((hne.symm).symm)
              clear hg q9
              have q9 := qn
              clear qn
              (try go_simp)
              refine hK.out _ _ (fun _ => ⟨q0.below bw.out, (bw.out.cell (p := ⟨b, o + i * 3 + 2, none⟩) hb1).trans k2⟩) ?_
              clear hK K
              (try simp only [Act.put, List.getElem_toArray, List.getElem_cons_succ, List.getElem_cons_zero, List.setIfInBounds_toArray, List.set_cons_zero, List.set_cons_succ])
              refine wpAnyG_one 14 (by kernel_rfl) rfl (fun K hK => ?_)
              rw [if_pos (by rfl)]
              refine wp_putB _ _ _ rfl rfl rfl q10 (by rfl) (by rfl) (by rfl) ?_
              intro w8 qn hg
              replace bw := bw.grown hg h10
              replace m2 := m2.grownB q10 (by decide) hg
              replace q9 := q9.grown hg (hne.symm)
              clear hg q10
              have q10 := qn
              clear qn
              (try go_simp)
              refine hK.out _ _ (fun _ => ⟨q0.below bw.out, (bw.out.cell (p := ⟨b, o + i * 3 + 2, none⟩) hb1).trans k2⟩) ?_
              clear hK K
              (try simp only [Act.put, List.getElem_toArray, List.getElem_cons_succ, List.getElem_cons_zero, List.setIfInBounds_toArray, List.set_cons_zero, List.set_cons_succ])
              refine wpAnyG_done (by kernel_rfl) ⟨rfl, _, _, A2, n2, c2, ?_, q9, q10, m2, bw.out, h9, h10, hne.symm⟩ _
              (try simp only [Act.put, List.getElem_toArray, List.getElem_cons_succ, List.getElem_cons_zero, List.setIfInBounds_toArray, List.set_cons_zero, List.set_cons_succ])
          · rw [if_pos (by rfl)]
            go_simp
            have h9 : w1.heap.size ≤ w1.heap.size := by first | omega | (have hs := bw.out.size; (try simp at hs); omega)
            have q9 : Blk (w1.alloc (.cells #[.int .i64 0, .int .u8 0, .int .i64 0, .int .i64 0, .int .i64 0, .bool false, .bool false, .slice none 0 0, .int .u8 0, .bool false, .int .i64 0] 24)).drew (w1.heap.size) 24 #[.int .i64 0, .int .u8 0, .int .i64 0, .int .i64 0, .int .i64 0, .bool false, .bool false, .slice none 0 0, .int .u8 0, .bool false, .int .i64 0] := Blk.newAt (b := w1.heap.size) w1 24 #[.int .i64 0, .int .u8 0, .int .i64 0, .int .i64 0, .int .i64 0, .bool false, .bool false, .slice none 0 0, .int .u8 0, .bool false, .int .i64 0] (by simp)
            replace bw : Bel w1 (w1.alloc (.cells #[.int .i64 0, .int .u8 0, .int .i64 0, .int .i64 0, .int .i64 0, .bool false, .bool false, .slice none 0 0, .int .u8 0, .bool false, .int .i64 0] 24)).drew := ⟨(bw.alloc (.cells #[.int .i64 0, .int .u8 0, .int .i64 0, .int .i64 0, .int .i64 0, .bool false, .bool false, .slice none 0 0, .int .u8 0, .bool false, .int .i64 0] 24)).out⟩
            (try go_simp)
            refine hK.out _ _ (fun _ => ⟨q0.below bw.out, (bw.out.cell (p := ⟨b, o + i * 3 + 2, none⟩) hb1).trans k2⟩) ?_
            clear hK K
            (try simp only [Act.put, List.getElem_toArray, List.getElem_cons_succ, List.getElem_cons_zero, List.setIfInBounds_toArray, List.set_cons_zero, List.set_cons_succ])
            refine wpAnyG_two 7 12 (by kernel_rfl) rfl rfl (fun K hK => ?_) (fun K hK => ?_)
            · rw [if_pos (by rfl)]
              go_simp
              (with_reducible refine (DT.out _ _ _ (y.below bw.out)).mono ?_)
              rintro e wd ⟨A2, n2, c2, rfl, m2, hb⟩
              replace m2 := m2.base_le (Nat.zero_le _)
              replace bw := bw.below hb
              replace q9 := q9.below hb
              clear hb
              (try go_simp)
              refine hK.out _ _ (fun _ => ⟨q0.below bw.out, (bw.out.cell (p := ⟨b, o + i * 3 + 2, none⟩) hb1).trans k2⟩) ?_
              clear hK K
              (try simp only [Act.put, List.getElem_toArray, List.getElem_cons_succ, List.getElem_cons_zero, List.setIfInBounds_toArray, List.set_cons_zero, List.set_cons_succ])
              have S0 : Blk (wd) W.heap.size 24 #[.int .i64 (s).id, .int .u8 (s).st, .int .i64 (s).sd, .int .i64 (s).rc, .int .i64 (s).ow, .bool (s).an, .bool (s).en, .slice A1 n1 c1, .int .u8 (s).ur, .bool (s).inc, .int .i64 (s).sl] ∧ (wd).cell? ⟨b, o + i * 3 + 2, none⟩ = some (.bool en) := ⟨q0.below bw.out, (bw.out.cell (p := ⟨b, o + i * 3 + 2, none⟩) hb1).trans k2⟩
              refine wpAnyG_take 8 (v := ?_) rfl (by kernel_rfl) (by intro _ _ _ h; cases h.1) S0 (Or.inl ⟨by rfl, by intro w' hSw; have z0 := hSw.2; go_simp; try with_reducible rfl⟩) ?_; (try simp only [Act.put, List.getElem_toArray, List.getElem_cons_succ, List.getElem_cons_zero, List.setIfInBounds_toArray, List.set_cons_zero, List.set_cons_succ])
              refine wpAnyG_take 9 (v := ?_) rfl (by kernel_rfl) (by intro _ _ _ h; cases h.1) S0 (Or.inl ⟨by rfl, by intro w' hSw; have z0 := hSw.2; go_simp; try with_reducible rfl⟩) ?_; (try simp only [Act.put, List.getElem_toArray, List.getElem_cons_succ, List.getElem_cons_zero, List.setIfInBounds_toArray, List.set_cons_zero, List.set_cons_succ])
              refine wpAnyG_take 10 (v := ?_) rfl (by kernel_rfl) (by intro _ _ _ h; cases h.1) S0 (Or.inl ⟨by rfl, by intro w' hSw; have z0 := hSw.2; go_simp; try with_reducible rfl⟩) ?_; (try simp only [Act.put, List.getElem_toArray, List.getElem_cons_succ, List.getElem_cons_zero, List.setIfInBounds_toArray, List.set_cons_zero, List.set_cons_succ])
              clear S0
              refine wpAnyG_one 12 (by kernel_rfl) rfl (fun K hK => ?_)
              rw [if_pos (by rfl)]
              go_simp
              have h10 : w1.heap.size ≤ wd.heap.size := by first | omega | (have hs := bw.out.size; (try simp at hs); omega)
              have hne : w1.heap.size ≠ wd.heap.size := Nat.ne_of_lt (by have hs := q9.lt; (try simp at hs); omega)
              have q10 : Blk (wd.alloc (.cells #[.int .u8 0, .bool false, .bool false, .int .u32 0] 32)) (wd.heap.size) 32 #[.int .u8 0, .bool false, .bool false, .int .u32 0] := Blk.newAt (b := wd.heap.size) wd 32 #[.int .u8 0, .bool false, .bool false, .int .u32 0] (by simp)
              replace bw : Bel w1 (wd.alloc (.cells #[.int .u8 0, .bool false, .bool false, .int .u32 0] 32)) := ⟨(bw.alloc (.cells #[.int .u8 0, .bool false, .bool false, .int .u32 0] 32)).out⟩
              replace q9 : Blk (wd.alloc (.cells #[.int .u8 0, .bool false, .bool false, .int .u32 0] 32)) (w1.heap.size) 24 #[.int .i64 0, .int .u8 0, .int .i64 0, .int .i64 0, .int .i64 0, .bool false, .bool false, .slice none 0 0, .int .u8 0, .bool false, .int .i64 0] := q9.alloc (.cells #[.int .u8 0, .bool false, .bool false, .int .u32 0] 32)
              replace m2 : Mine 0 (wd.alloc (.cells #[.int .u8 0, .bool false, .bool false, .int .u32 0] 32)) A2 n2 c2 t.out := m2.alloc (.cells #[.int .u8 0, .bool false, .bool false, .int .u32 0] 32)
              (try go_simp)
              refine hK.out _ _ (fun _ => ⟨q0.below bw.out, (bw.out.cell (p := ⟨b, o + i * 3 + 2, none⟩) hb1).trans k2⟩) ?_
              clear hK K
              (try simp only [Act.put, List.getElem_toArray, List.getElem_cons_succ, List.getElem_cons_zero, List.setIfInBounds_toArray, List.set_cons_zero, List.set_cons_succ])
              refine wpAnyG_one 13 (by kernel_rfl) rfl (fun K hK => ?_)
              rw [if_pos (by rfl)]
              refine wp_putB _ _ _ rfl rfl rfl q9 (by rfl) (by rfl) (by rfl) ?_
              intro w8 qn hg
              replace bw := bw.grown hg h9
              replace m2 := m2.grownB q9 (by decide) hg
              replace q10 := q10.grown hg ((hne).symm)
              clear hg q9
              have q9 := qn
              clear qn
              (try go_simp)
              refine hK.out _ _ (fun _ => ⟨q0.below bw.out, (bw.out.cell (p := ⟨b, o + i * 3 + 2, none⟩) hb1).trans k2⟩) ?_
              clear hK K
              (try simp only [Act.put, List.getElem_toArray, List.getElem_cons_succ, List.getElem_cons_zero, List.setIfInBounds_toArray, List.set_cons_zero, List.set_cons_succ])
              refine wpAnyG_one 14 (by kernel_rfl) rfl (fun K hK => ?_)
              rw [if_pos (by rfl)]
              refine wp_putB _ _ _ rfl rfl rfl q10 (by rfl) (by rfl) (by rfl) ?_
              intro w8 qn hg
              replace bw := bw.grown hg h10
              replace m2 := m2.grownB q10 (by decide) hg
              replace q9 := q9.grown hg (hne)
              clear hg q10
              have q10 := qn
              clear qn
              (try go_simp)
              refine hK.out _ _ (fun _ => ⟨q0.below bw.out, (bw.out.cell (p := ⟨b, o + i * 3 + 2, none⟩) hb1).trans k2⟩) ?_
              clear hK K
              (try simp only [Act.put, List.getElem_toArray, List.getElem_cons_succ, List.getElem_cons_zero, List.setIfInBounds_toArray, List.set_cons_zero, List.set_cons_succ])
              refine wpAnyG_done (by kernel_rfl) ⟨rfl, _, _, A2, n2, c2, ?_, q9, q10, m2, bw.out, h9, h10, hne⟩ _
              (try simp only [Act.put, List.getElem_toArray, List.getElem_cons_succ, List.getElem_cons_zero, List.setIfInBounds_toArray, List.set_cons_zero, List.set_cons_succ])
            · rw [if_pos (by rfl)]
              go_simp
              have h10 : w1.heap.size ≤ w1.heap.size + 1 := by first | omega | (have hs := bw.out.size; (try simp at hs); omega)
              have hne : w1.heap.size ≠ w1.heap.size + 1 := Nat.ne_of_lt (by have hs := q9.lt; (try simp at hs); omega)
              have q10 : Blk ((w1.alloc (.cells #[.int .i64 0, .int .u8 0, .int .i64 0, .int .i64 0, .int .i64 0, .bool false, .bool false, .slice none 0 0, .int .u8 0, .bool false, .int .i64 0] 24)).alloc (.cells #[.int .u8 0, .bool false, .bool false, .int .u32 0] 32)).drew (w1.heap.size + 1) 32 #[.int .u8 0, .bool false, .bool false, .int .u32 0] := Blk.newAt (b := w1.heap.size + 1) (w1.alloc (.cells #[.int .i64 0, .int .u8 0, .int .i64 0, .int .i64 0, .int .i64 0, .bool false, .bool false, .slice none 0 0, .int .u8 0, .bool false, .int .i64 0] 24)) 32 #[.int .u8 0, .bool false, .bool false, .int .u32 0] (by simp)
              replace bw : Bel w1 ((w1.alloc (.cells #[.int .i64 0, .int .u8 0, .int .i64 0, .int .i64 0, .int .i64 0, .bool false, .bool false, .slice none 0 0, .int .u8 0, .bool false, .int .i64 0] 24)).alloc (.cells #[.int .u8 0, .bool false, .bool false, .int .u32 0] 32)).drew := ⟨(bw.alloc (.cells #[.int .u8 0, .bool false, .bool false, .int .u32 0] 32)).out⟩
              replace q9 : Blk ((w1.alloc (.cells #[.int .i64 0, .int .u8 0, .int .i64 0, .int .i64 0, .int .i64 0, .bool false, .bool false, .slice none 0 0, .int .u8 0, .bool false, .int .i64 0] 24)).alloc (.cells #[.int .u8 0, .bool false, .bool false, .int .u32 0] 32)).drew (w1.heap.size) 24 #[.int .i64 0, .int .u8 0, .int .i64 0, .int .i64 0, .int .i64 0, .bool false, .bool false, .slice none 0 0, .int .u8 0, .bool false, .int .i64 0] := q9.alloc (.cells #[.int .u8 0, .bool false, .bool false, .int .u32 0] 32)
              (try go_simp)
              refine hK.out _ _ (fun _ => ⟨q0.below bw.out, (bw.out.cell (p := ⟨b, o + i * 3 + 2, none⟩) hb1).trans k2⟩) ?_
              clear hK K
              (try simp only [Act.put, List.getElem_toArray, List.getElem_cons_succ, List.getElem_cons_zero, List.setIfInBounds_toArray, List.set_cons_zero, List.set_cons_succ])
              refine wpAnyG_one 7 (by kernel_rfl) rfl (fun K hK => ?_)
              rw [if_pos (by rfl)]
              go_simp
              (with_reducible refine (DT.out _ _ _ (y.below bw.out)).mono ?_)
              rintro e wd ⟨A2, n2, c2, rfl, m2, hb⟩
              replace m2 := m2.base_le (Nat.zero_le _)
              replace bw := bw.below hb
              replace q9 := q9.below hb
              replace q10 := q10.below hb
              clear hb
              (try go_simp)
              refine hK.out _ _ (fun _ => ⟨q0.below bw.out, (bw.out.cell (p := ⟨b, o + i * 3 + 2, none⟩) hb1).trans k2⟩) ?_
              clear hK K
              (try simp only [Act.put, List.getElem_toArray, List.getElem_cons_succ, List.getElem_cons_zero, List.setIfInBounds_toArray, List.set_cons_zero, List.set_cons_succ])
              have S0 : Blk (wd) W.heap.size 24 #[.int .i64 (s).id, .int .u8 (s).st, .int .i64 (s).sd, .int .i64 (s).rc, .int .i64 (s).ow, .bool (s).an, .bool (s).en, .slice A1 n1 c1, .int .u8 (s).ur, .bool (s).inc, .int .i64 (s).sl] ∧ (wd).cell? ⟨b, o + i * 3 + 2, none⟩ = some (.bool en) := ⟨q0.below bw.out, (bw.out.cell (p := ⟨b, o + i * 3 + 2, none⟩) hb1).trans k2⟩
              refine wpAnyG_take 8 (v := ?_) rfl (by kernel_rfl) (by intro _ _ _ h; cases h.1) S0 (Or.inl ⟨by rfl, by intro w' hSw; have z0 := hSw.2; go_simp; try with_reducible rfl⟩) ?_; (try simp only [Act.put, List.getElem_toArray, List.getElem_cons_succ, List.getElem_cons_zero, List.setIfInBounds_toArray, List.set_cons_zero, List.set_cons_succ])
              refine wpAnyG_take 9 (v := ?_) rfl (by kernel_rfl) (by intro _ _ _ h; cases h.1) S0 (Or.inl ⟨by rfl, by intro w' hSw; have z0 := hSw.2; go_simp; try with_reducible rfl⟩) ?_; (try simp only [Act.put, List.getElem_toArray, List.getElem_cons_succ, List.getElem_cons_zero, List.setIfInBounds_toArray, List.set_cons_zero, List.set_cons_succ])
              refine wpAnyG_take 10 (v := ?_) rfl (by kernel_rfl) (by intro _ _ _ h; cases h.1) S0 (Or.inl ⟨by rfl, by intro w' hSw; have z0 := hSw.2; go_simp; try with_reducible rfl⟩) ?_; (try simp only [Act.put, List.getElem_toArray, List.getElem_cons_succ, List.getElem_cons_zero, List.setIfInBounds_toArray, List.set_cons_zero, List.set_cons_succ])
              clear S0
              refine wpAnyG_one 13 (by kernel_rfl) rfl (fun K hK => ?_)
              rw [if_pos (by rfl)]
              refine wp_putB _ _ _ rfl rfl rfl q9 (by rfl) (by rfl) (by rfl) ?_
              intro w8 qn hg
              replace bw := bw.grown hg h9
              replace m2 := m2.grownB q9 (by decide) hg
              replace q10 := q10.grown hg ((hne).symm)
              clear hg q9
              have q9 := qn
              clear qn
              (try go_simp)
              refine hK.out _ _ (fun _ => ⟨q0.below bw.out, (bw.out.cell (p := ⟨b, o + i * 3 + 2, none⟩) hb1).trans k2⟩) ?_
              clear hK K
              (try simp only [Act.put, List.getElem_toArray, List.getElem_cons_succ, List.getElem_cons_zero, List.setIfInBounds_toArray, List.set_cons_zero, List.set_cons_succ])
              refine wpAnyG_one 14 (by kernel_rfl) rfl (fun K hK => ?_)
              rw [if_pos (by rfl)]
              refine wp_putB _ _ _ rfl rfl rfl q10 (by rfl) (by rfl) (by rfl) ?_
              intro w8 qn hg
              replace bw := bw.grown hg h10
              replace m2 := m2.grownB q10 (by decide) hg
              replace q9 := q9.grown hg (hne)
              clear hg q10
              have q10 := qn
              clear qn
              (try go_simp)
              refine hK.out _ _ (fun _ => ⟨q0.below bw.out, (bw.out.cell (p := ⟨b, o + i * 3 + 2, none⟩) hb1).trans k2⟩) ?_
              clear hK K
              (try simp only [Act.put, List.getElem_toArray, List.getElem_cons_succ, List.getElem_cons_zero, List.setIfInBounds_toArray, List.set_cons_zero, List.set_cons_succ])
              refine wpAnyG_done (by kernel_rfl) ⟨rfl, _, _, A2, n2, c2, ?_, q9, q10, m2, bw.out, h9, h10, hne⟩ _
              (try simp only [Act.put, List.getElem_toArray, List.getElem_cons_succ, List.getElem_cons_zero, List.setIfInBounds_toArray, List.set_cons_zero, List.set_cons_succ])
          · rw [if_pos (by rfl)]
            go_simp
            have h10 : w1.heap.size ≤ w1.heap.size := by first | omega | (have hs := bw.out.size; (try simp at hs); omega)
            have q10 : Blk (w1.alloc (.cells #[.int .u8 0, .bool false, .bool false, .int .u32 0] 32)).drew (w1.heap.size) 32 #[.int .u8 0, .bool false, .bool false, .int .u32 0] := Blk.newAt (b := w1.heap.size) w1 32 #[.int .u8 0, .bool false, .bool false, .int .u32 0] (by simp)
            replace bw : Bel w1 (w1.alloc (.cells #[.int .u8 0, .bool false, .bool false, .int .u32 0] 32)).drew := ⟨(bw.alloc (.cells #[.int .u8 0, .bool false, .bool false, .int .u32 0] 32)).out⟩
            (try go_simp)
            refine hK.out _ _ (fun _ => ⟨q0.below bw.out, (bw.out.cell (p := ⟨b, o + i * 3 + 2, none⟩) hb1).trans k2⟩) ?_
            clear hK K
            (try simp only [Act.put, List.getElem_toArray, List.getElem_cons_succ, List.getElem_cons_zero, List.setIfInBounds_toArray, List.set_cons_zero, List.set_cons_succ])
            refine wpAnyG_two 7 11 (by kernel_rfl) rfl rfl (fun K hK => ?_) (fun K hK => ?_)
            · rw [if_pos (by rfl)]
              go_simp
              (with_reducible refine (DT.out _ _ _ (y.below bw.out)).mono ?_)
              rintro e wd ⟨A2, n2, c2, rfl, m2, hb⟩
              replace m2 := m2.base_le (Nat.zero_le _)
              replace bw := bw.below hb
              replace q10 := q10.below hb
              clear hb
              (try go_simp)
              refine hK.out _ _ (fun _ => ⟨q0.below bw.out, (bw.out.cell (p := ⟨b, o + i * 3 + 2, none⟩) hb1).trans k2⟩) ?_
              clear hK K
              (try simp only [Act.put, List.getElem_toArray, List.getElem_cons_succ, List.getElem_cons_zero, List.setIfInBounds_toArray, List.set_cons_zero, List.set_cons_succ])
              have S0 : Blk (wd) W.heap.size 24 #[.int .i64 (s).id, .int .u8 (s).st, .int .i64 (s).sd, .int .i64 (s).rc, .int .i64 (s).ow, .bool (s).an, .bool (s).en, .slice A1 n1 c1, .int .u8 (s).ur, .bool (s).inc, .int .i64 (s).sl] ∧ (wd).cell? ⟨b, o + i * 3 + 2, none⟩ = some (.bool en) := ⟨q0.below bw.out, (bw.out.cell (p := ⟨b, o + i * 3 + 2, none⟩) hb1).trans k2⟩
              refine wpAnyG_take 8 (v := ?_) rfl (by kernel_rfl) (by intro _ _ _ h; cases h.1) S0 (Or.inl ⟨by rfl, by intro w' hSw; have z0 := hSw.2; go_simp; try with_reducible rfl⟩) ?_; (try simp only [Act.put, List.getElem_toArray, List.getElem_cons_succ, List.getElem_cons_zero, List.setIfInBounds_toArray, List.set_cons_zero, List.set_cons_succ])
              refine wpAnyG_take 9 (v := ?_) rfl (by kernel_rfl) (by intro _ _ _ h; cases h.1) S0 (Or.inl ⟨by rfl, by intro w' hSw; have z0 := hSw.2; go_simp; try with_reducible rfl⟩) ?_; (try simp only [Act.put, List.getElem_toArray, List.getElem_cons_succ, List.getElem_cons_zero, List.setIfInBounds_toArray, List.set_cons_zero, List.set_cons_succ])
              refine wpAnyG_take 10 (v := ?_) rfl (by kernel_rfl) (by intro _ _ _ h; cases h.1) S0 (Or.inl ⟨by rfl, by intro w' hSw; have z0 := hSw.2; go_simp; try with_reducible rfl⟩) ?_; (try simp only [Act.put, List.getElem_toArray, List.getElem_cons_succ, List.getElem_cons_zero, List.setIfInBounds_toArray, List.set_cons_zero, List.set_cons_succ])
              clear S0
              refine wpAnyG_one 11 (by kernel_rfl) rfl (fun K hK => ?_)
              rw [if_pos (by rfl)]
              go_simp
              have h9 : w1.heap.size ≤ wd.heap.size := by first | omega | (have hs := bw.out.size; (try simp at hs); omega)
              have hne : w1.heap.size ≠ wd.heap.size := Nat.ne_of_lt (by have hs := q10.lt; (try simp at hs); omega)
              have q9 : Blk (wd.alloc (.cells #[.int .i64 0, .int .u8 0, .int .i64 0, .int .i64 0, .int .i64 0, .bool false, .bool false, .slice none 0 0, .int .u8 0, .bool false, .int .i64 0] 24)) (wd.heap.size) 24 #[.int .i64 0, .int .u8 0, .int .i64 0, .int .i64 0, .int .i64 0, .bool false, .bool false, .slice none 0 0, .int .u8 0, .bool false, .int .i64 0] := Blk.newAt (b := wd.heap.size) wd 24 #[.int .i64 0, .int .u8 0, .int .i64 0, .int .i64 0, .int .i64 0, .bool false, .bool false, .slice none 0 0, .int .u8 0, .bool false, .int .i64 0] (by simp)
              replace bw : Bel w1 (wd.alloc (.cells #[.int .i64 0, .int .u8 0, .int .i64 0, .int .i64 0, .int .i64 0, .bool false, .bool false, .slice none 0 0, .int .u8 0, .bool false, .int .i64 0] 24)) := ⟨(bw.alloc (.cells #[.int .i64 0, .int .u8 0, .int .i64 0, .int .i64 0, .int .i64 0, .bool false, .bool false, .slice none 0 0, .int .u8 0, .bool false, .int .i64 0] 24)).out⟩
              replace q10 : Blk (wd.alloc (.cells #[.int .i64 0, .int .u8 0, .int .i64 0, .int .i64 0, .int .i64 0, .bool false, .bool false, .slice none 0 0, .int .u8 0, .bool false, .int .i64 0] 24)) (w1.heap.size) 32 #[.int .u8 0, .bool false, .bool false, .int .u32 0] := q10.alloc (.cells #[.int .i64 0, .int .u8 0, .int .i64 0, .int .i64 0, .int .i64 0, .bool false, .bool false, .slice none 0 0, .int .u8 0, .bool false, .int .i64 0] 24)
              replace m2 : Mine 0 (wd.alloc (.cells #[.int .i64 0, .int .u8 0, .int .i64 0, .int .i64 0, .int .i64 0, .bool false, .bool false, .slice none 0 0, .int .u8 0, .bool false, .int .i64 0] 24)) A2 n2 c2 t.out := m2.alloc (.cells #[.int .i64 0, .int .u8 0, .int .i64 0, .int .i64 0, .int .i64 0, .bool false, .bool false, .slice none 0 0, .int .u8 0, .bool false, .int .i64 0] 24)
              (try go_simp)
              refine hK.out _ _ (fun _ => ⟨q0.below bw.out, (bw.out.cell (p := ⟨b, o + i * 3 + 2, none⟩) hb1).trans k2⟩) ?_
              clear hK K
              (try simp only [Act.put, List.getElem_toArray, List.getElem_cons_succ, List.getElem_cons_zero, List.setIfInBounds_toArray, List.set_cons_zero, List.set_cons_succ])
              refine wpAnyG_one 13 (by kernel_rfl) rfl (fun K hK => ?_)
              rw [if_pos (by rfl)]
              refine wp_putB _ _ _ rfl rfl rfl q9 (by rfl) (by rfl) (by rfl) ?_
              intro w8 qn hg
              replace bw := bw.grown hg h9
              replace m2 := m2.grownB q9 (by decide) hg
              replace q10 := q10.grown hg ((hne.symm).symm)
              clear hg q9
              have q9 := qn
              clear qn
              (try go_simp)
              refine hK.out _ _ (fun _ => ⟨q0.below bw.out, (bw.out.cell (p := ⟨b, o + i * 3 + 2, none⟩) hb1).trans k2⟩) ?_
              clear hK K
              (try simp only [Act.put, List.getElem_toArray, List.getElem_cons_succ, List.getElem_cons_zero, List.setIfInBounds_toArray, List.set_cons_zero, List.set_cons_succ])
              refine wpAnyG_one 14 (by kernel_rfl) rfl (fun K hK => ?_)
              rw [if_pos (by rfl)]
              refine wp_putB _ _ _ rfl rfl rfl q10 (by rfl) (by rfl) (by rfl) ?_
              intro w8 qn hg
              replace bw := bw.grown hg h10
              replace m2 := m2.grownB q10 (by decide) hg
              replace q9 := q9.grown hg (hne.symm)
              clear hg q10
              have q10 := qn
              clear qn
              (try go_simp)
              refine hK.out _ _ (fun _ => ⟨q0.below bw.out, (bw.out.cell (p := ⟨b, o + i * 3 + 2, none⟩) hb1).trans k2⟩) ?_
              clear hK K
              (try simp only [Act.put, List.getElem_toArray, List.getElem_cons_succ, List.getElem_cons_zero, List.setIfInBounds_toArray, List.set_cons_zero, List.set_cons_succ])
              refine wpAnyG_done (by kernel_rfl) ⟨rfl, _, _, A2, n2, c2, ?_, q9, q10, m2, bw.out, h9, h10, hne.symm⟩ _
              (try simp only [Act.put, List.getElem_toArray, List.getElem_cons_succ, List.getElem_cons_zero, List.setIfInBounds_toArray, List.set_cons_zero, List.set_cons_succ])
            · rw [if_pos (by rfl)]
              go_simp
              have h9 : w1.heap.size ≤ w1.heap.size + 1 := by first | omega | (have hs := bw.out.size; (try simp at hs); omega)
              have hne : w1.heap.size ≠ w1.heap.size + 1 := Nat.ne_of_lt (by have hs := q10.lt; (try simp at hs); omega)
              have q9 : Blk ((w1.alloc (.cells #[.int .u8 0, .bool false, .bool false, .int .u32 0] 32)).alloc (.cells #[.int .i64 0, .int .u8 0, .int .i64 0, .int .i64 0, .int .i64 0, .bool false, .bool false, .slice none 0 0, .int .u8 0, .bool false, .int .i64 0] 24)).drew (w1.heap.size + 1) 24 #[.int .i64 0, .int .u8 0, .int .i64 0, .int .i64 0, .int .i64 0, .bool false, .bool false, .slice none 0 0, .int .u8 0, .bool false, .int .i64 0] := Blk.newAt (b := w1.heap.size + 1) (w1.alloc (.cells #[.int .u8 0, .bool false, .bool false, .int .u32 0] 32)) 24 #[.int .i64 0, .int .u8 0, .int .i64 0, .int .i64 0, .int .i64 0, .bool false, .bool false, .slice none 0 0, .int .u8 0, .bool false, .int .i64 0] (by simp)
              replace bw : Bel w1 ((w1.alloc (.cells #[.int .u8 0, .bool false, .bool false, .int .u32 0] 32)).alloc (.cells #[.int .i64 0, .int .u8 0, .int .i64 0, .int .i64 0, .int .i64 0, .bool false, .bool false, .slice none 0 0, .int .u8 0, .bool false, .int .i64 0] 24)).drew := ⟨(bw.alloc (.cells #[.int .i64 0, .int .u8 0, .int .i64 0, .int .i64 0, .int .i64 0, .bool false, .bool false, .slice none 0 0, .int .u8 0, .bool false, .int .i64 0] 24)).out⟩
              replace q10 : Blk ((w1.alloc (.cells #[.int .u8 0, .bool false, .bool false, .int .u32 0] 32)).alloc (.cells #[.int .i64 0, .int .u8 0, .int .i64 0, .int .i64 0, .int .i64 0, .bool false, .bool false, .slice none 0 0, .int .u8 0, .bool false, .int .i64 0] 24)).drew (w1.heap.size) 32 #[.int .u8 0, .bool false, .bool false, .int .u32 0] := q10.alloc (.cells #[.int .i64 0, .int .u8 0, .int .i64 0, .int .i64 0, .int .i64 0, .bool false, .bool false, .slice none 0 0, .int .u8 0, .bool false, .int .i64 0] 24)
              (try go_simp)
              refine hK.out _ _ (fun _ => ⟨q0.below bw.out, (bw.out.cell (p := ⟨b, o + i * 3 + 2, none⟩) hb1).trans k2⟩) ?_
              clear hK K
              (try simp only [Act.put, List.getElem_toArray, List.getElem_cons_succ, List.getElem_cons_zero, List.setIfInBounds_toArray, List.set_cons_zero, List.set_cons_succ])
              refine wpAnyG_one 7 (by kernel_rfl) rfl (fun K hK => ?_)
              rw [if_pos (by rfl)]
              go_simp
              (with_reducible refine (DT.out _ _ _ (y.below bw.out)).mono ?_)
              rintro e wd ⟨A2, n2, c2, rfl, m2, hb⟩
              replace m2 := m2.base_le (Nat.zero_le _)
              replace bw := bw.below hb
              replace q10 := q10.below hb
              replace q9 := q9.below hb
              clear hb
              (try go_simp)
              refine hK.out _ _ (fun _ => ⟨q0.below bw.out, (bw.out.cell (p := ⟨b, o + i * 3 + 2, none⟩) hb1).trans k2⟩) ?_
              clear hK K
              (try simp only [Act.put, List.getElem_toArray, List.getElem_cons_succ, List.getElem_cons_zero, List.setIfInBounds_toArray, List.set_cons_zero, List.set_cons_succ])
              have S0 : Blk (wd) W.heap.size 24 #[.int .i64 (s).id, .int .u8 (s).st, .int .i64 (s).sd, .int .i64 (s).rc, .int .i64 (s).ow, .bool (s).an, .bool (s).en, .slice A1 n1 c1, .int .u8 (s).ur, .bool (s).inc, .int .i64 (s).sl] ∧ (wd).cell? ⟨b, o + i * 3 + 2, none⟩ = some (.bool en) := ⟨q0.below bw.out, (bw.out.cell (p := ⟨b, o + i * 3 + 2, none⟩) hb1).trans k2⟩
              refine wpAnyG_take 8 (v := ?_) rfl (by kernel_rfl) (by intro _ _ _ h; cases h.1) S0 (Or.inl ⟨by rfl, by intro w' hSw; have z0 := hSw.2; go_simp; try with_reducible rfl⟩) ?_; (try simp only [Act.put, List.getElem_toArray, List.getElem_cons_succ, List.getElem_cons_zero, List.setIfInBounds_toArray, List.set_cons_zero, List.set_cons_succ])
              refine wpAnyG_take 9 (v := ?_) rfl (by kernel_rfl) (by intro _ _ _ h; cases h.1) S0 (Or.inl ⟨by rfl, by intro w' hSw; have z0 := hSw.2; go_simp; try with_reducible rfl⟩) ?_; (try simp only [Act.put, List.getElem_toArray, List.getElem_cons_succ, List.getElem_cons_zero, List.setIfInBounds_toArray, List.set_cons_zero, List.set_cons_succ])
              refine wpAnyG_take 10 (v := ?_) rfl (by kernel_rfl) (by intro _ _ _ h; cases h.1) S0 (Or.inl ⟨by rfl, by intro w' hSw; have z0 := hSw.2; go_simp; try with_reducible rfl⟩) ?_; (try simp only [Act.put, List.getElem_toArray, List.getElem_cons_succ, List.getElem_cons_zero, List.setIfInBounds_toArray, List.set_cons_zero, List.set_cons_succ])
              clear S0
              refine wpAnyG_one 13 (by kernel_rfl) rfl (fun K hK => ?_)
              rw [if_pos (by rfl)]
              refine wp_putB _ _ _ rfl rfl rfl q9 (by rfl) (by rfl) (by rfl) ?_
              intro w8 qn hg
              replace bw := bw.grown hg h9
              replace m2 := m2.grownB q9 (by decide) hg
              replace q10 := q10.grown hg ((hne.symm).symm)
              clear hg q9
              have q9 := qn
              clear qn
              (try go_simp)
              refine hK.out _ _ (fun _ => ⟨q0.below bw.out, (bw.out.cell (p := ⟨b, o + i * 3 + 2, none⟩) hb1).trans k2⟩) ?_
              clear hK K
              (try simp only [Act.put, List.getElem_toArray, List.getElem_cons_succ, List.getElem_cons_zero, List.setIfInBounds_toArray, List.set_cons_zero, List.set_cons_succ])
              refine wpAnyG_one 14 (by kernel_rfl) rfl (fun K hK => ?_)
              rw [if_pos (by rfl)]
              refine wp_putB _ _ _ rfl rfl rfl q10 (by rfl) (by rfl) (by rfl) ?_
              intro w8 qn hg
              replace bw := bw.grown hg h10
              replace m2 := m2.grownB q10 (by decide) hg
              replace q9 := q9.grown hg (hne.symm)
              clear hg q10
              have q10 := qn
              clear qn
              (try go_simp)
              refine hK.out _ _ (fun _ => ⟨q0.below bw.out, (bw.out.cell (p := ⟨b, o + i * 3 + 2, none⟩) hb1).trans k2⟩) ?_
              clear hK K
              (try simp only [Act.put, List.getElem_toArray, List.getElem_cons_succ, List.getElem_cons_zero, List.setIfInBounds_toArray, List.set_cons_zero, List.set_cons_succ])
              refine wpAnyG_done (by kernel_rfl) ⟨rfl, _, _, A2, n2, c2, ?_, q9, q10, m2, bw.out, h9, h10, hne.symm⟩ _
              (try simp only [Act.put, List.getElem_toArray, List.getElem_cons_succ, List.getElem_cons_zero, List.setIfInBounds_toArray, List.set_cons_zero, List.set_cons_succ])
      case rest =>
        rintro a' w' ⟨g9, g10, A2, n2, c2, rfl, q9, q10, m2, hb, h9, h10, hne⟩
        (try simp only [Act.put, List.getElem_toArray, List.getElem_cons_succ, List.getElem_cons_zero, List.setIfInBounds_toArray, List.set_cons_zero, List.set_cons_succ])
        replace b0 := b0.below hb
        replace q0 := q0.below hb
        replace qo := qo.below hb
        clear hb y k2
        have z9 : wr.heap.size ≠ g9 := by omega
        have z0 : W.heap.size ≠ g9 := by omega
        have z1 : W.heap.size ≠ wr.heap.size := by omega
        have z2 := z9.symm
        have z3 := z0.symm
        have z4 := z1.symm
        have z5 : g10 ≠ wr.heap.size := by omega
        have z6 : g10 ≠ W.heap.size := by omega
        have KP := Lib.hid DK.out.1
        have a0 := r4.1; have a1 := r4.2; have a2 := r5.1; have a3 := r5.2; clear r4 r5
        have RT2 := Lib.hid fun (A : Option Addr) (c : Nat) w => rSRight t KP.out.ok A n2 c w m2.len (by have := m2.byt.cap; have := m2.byt.mx; omega)
        rw [rightS_yes KP.out.r] at RT2
        have E9 : (t.id != s.id) = false := bne_eq_false_iff_eq.2 KP.out.id
        have E8 : decide (s0.rc + s0.ow < t.rc + t.ow) = false := decide_eq_false (by have := KP.out.le; have := KLE.out; omega)
        have t4 := KP.out.r.2.2.2.1
        have t5 := KP.out.r.2.2.2.2.1
        have t6 := t4.1; have t7 := t4.2; have t8 := t5.1; have t9 := t5.2; clear t4 t5
        skip; (try clear q0_0); (try have q0_0 := q0.at 0 rfl); (try clear q0_3); (try have q0_3 := q0.at 3 rfl); (try clear q0_4); (try have q0_4 := q0.at 4 rfl); (try clear qo_0); (try have qo_0 := qo.at 0 rfl); (try clear qo_3); (try have qo_3 := qo.at 3 rfl); (try clear qo_4); (try have qo_4 := qo.at 4 rfl); (try clear q9_3); (try have q9_3 := q9.at 3 rfl); (try clear q9_4); (try have q9_4 := q9.at 4 rfl); (try clear q10_1); (try have q10_1 := q10.at 1 rfl)
        cases hct : C.take
        · as_aux_lemma =>
            have E1 : (t.rc != s.rc) = false := bne_eq_false_iff_eq.2 (DK.out.2.2 hct)
            go_upto_region 15 with fail
            go_upto_region 25 with (first | ((with_reducible refine wpList_id ?_); refine wpList_getB rfl _ _ rfl rfl q9 Try.underlying24 rfl (by rfl) ?_) | ((with_reducible refine wpList_id ?_); refine wpList_putB rfl _ _ _ rfl rfl rfl qo (by rfl) (by rfl) (by rfl) ?_; intro w9 qn hg; replace b0 := b0.grown hg (by omega); (try replace m2 := m2.grownB qo (by decide) hg); (try replace q0 := q0.grown hg (by omega)); (try replace q9 := q9.grown hg (by omega)); (try replace q10 := q10.grown hg (by omega)); clear hg qo; have qo := qn; clear qn; (try clear q0_0); (try have q0_0 := q0.at 0 rfl); (try clear q0_3); (try have q0_3 := q0.at 3 rfl); (try clear q0_4); (try have q0_4 := q0.at 4 rfl); (try clear qo_0); (try have qo_0 := qo.at 0 rfl); (try clear qo_3); (try have qo_3 := qo.at 3 rfl); (try clear qo_4); (try have qo_4 := qo.at 4 rfl); (try clear q9_3); (try have q9_3 := q9.at 3 rfl); (try clear q9_4); (try have q9_4 := q9.at 4 rfl); (try clear q10_1); (try have q10_1 := q10.at 1 rfl)))
            go_upto_region 27 with (first | ((with_reducible refine wpList_id ?_); refine wpList_getB rfl _ _ rfl rfl qo Try.underlying24 rfl (by rfl) ?_) | (go_at_call 31; (with_reducible refine (RT2.out _ _ _).mono ?_); rintro e w9 ⟨rfl, hb⟩; replace b0 := b0.below hb; (try replace q0 := q0.below hb); (try replace qo := qo.below hb); (try replace q9 := q9.below hb); (try replace q10 := q10.below hb); (try replace m2 := m2.below hb); (try clear q0_0); (try have q0_0 := q0.at 0 rfl); (try clear q0_3); (try have q0_3 := q0.at 3 rfl); (try clear q0_4); (try have q0_4 := q0.at 4 rfl); (try clear qo_0); (try have qo_0 := qo.at 0 rfl); (try clear qo_3); (try have qo_3 := qo.at 3 rfl); (try clear qo_4); (try have qo_4 := qo.at 4 rfl); (try clear q9_3); (try have q9_3 := q9.at 3 rfl); (try clear q9_4); (try have q9_4 := q9.at 4 rfl); (try clear q10_1); (try have q10_1 := q10.at 1 rfl)))
            go_wp2_with (first
              | ((with_reducible refine wpList_id ?_); refine wpList_getB rfl _ _ rfl rfl qo Try.underlying24 rfl (by rfl) ?_)
              | ((with_reducible refine wpList_id ?_); refine wpList_putB rfl _ _ _ rfl rfl rfl q0 (by rfl) (by rfl) (by rfl) ?_; intro w9 qn hg; replace b0 := b0.grown hg (by omega); (try replace m2 := m2.grownB q0 (by decide) hg); (try replace qo := qo.grown hg (by omega)); (try replace q9 := q9.grown hg (by omega)); (try replace q10 := q10.grown hg (by omega)); clear hg q0; have q0 := qn; clear qn; (try clear q0_0); (try have q0_0 := q0.at 0 rfl); (try clear q0_3); (try have q0_3 := q0.at 3 rfl); (try clear q0_4); (try have q0_4 := q0.at 4 rfl); (try clear qo_0); (try have qo_0 := qo.at 0 rfl); (try clear qo_3); (try have qo_3 := qo.at 3 rfl); (try clear qo_4); (try have qo_4 := qo.at 4 rfl); (try clear q9_3); (try have q9_3 := q9.at 3 rfl); (try clear q9_4); (try have q9_4 := q9.at 4 rfl); (try clear q10_1); (try have q10_1 := q10.at 1 rfl)))
            go_roundw
            case rel => exact ⟨i + 1, t, A2, n2, c2, by omega, ⟨KP.out.r, KP.out.ok, KP.out.id.trans KID.out, by have := KP.out.le; have := KLE.out; omega⟩, by simp, b0, q0, m2.byt⟩
            case measure => simp [intOf]; omega
        · as_aux_lemma =>
            obtain ⟨⟨X1, X2⟩, e1, e2⟩ := DK.out.2.1 hct
            have d1 : decide (x < 0) = false := decide_eq_false (by omega)
            have E1 : (t.rc != s.rc - x) = false := bne_eq_false_iff_eq.2 e1
            have E2 : (t.ow != s.ow + x) = false := bne_eq_false_iff_eq.2 e2
            clear e1 e2
            go_upto_region 15 with fail
            go_upto_region 25 with (first | ((with_reducible refine wpList_id ?_); refine wpList_getB rfl _ _ rfl rfl q9 Try.underlying24 rfl (by rfl) ?_) | ((with_reducible refine wpList_id ?_); refine wpList_putB rfl _ _ _ rfl rfl rfl qo (by rfl) (by rfl) (by rfl) ?_; intro w9 qn hg; replace b0 := b0.grown hg (by omega); (try replace m2 := m2.grownB qo (by decide) hg); (try replace q0 := q0.grown hg (by omega)); (try replace q9 := q9.grown hg (by omega)); (try replace q10 := q10.grown hg (by omega)); clear hg qo; have qo := qn; clear qn; (try clear q0_0); (try have q0_0 := q0.at 0 rfl); (try clear q0_3); (try have q0_3 := q0.at 3 rfl); (try clear q0_4); (try have q0_4 := q0.at 4 rfl); (try clear qo_0); (try have qo_0 := qo.at 0 rfl); (try clear qo_3); (try have qo_3 := qo.at 3 rfl); (try clear qo_4); (try have qo_4 := qo.at 4 rfl); (try clear q9_3); (try have q9_3 := q9.at 3 rfl); (try clear q9_4); (try have q9_4 := q9.at 4 rfl); (try clear q10_1); (try have q10_1 := q10.at 1 rfl)))
            go_upto_region 27 with (first | ((with_reducible refine wpList_id ?_); refine wpList_getB rfl _ _ rfl rfl qo Try.underlying24 rfl (by rfl) ?_) | (go_at_call 31; (with_reducible refine (RT2.out _ _ _).mono ?_); rintro e w9 ⟨rfl, hb⟩; replace b0 := b0.below hb; (try replace q0 := q0.below hb); (try replace qo := qo.below hb); (try replace q9 := q9.below hb); (try replace q10 := q10.below hb); (try replace m2 := m2.below hb); (try clear q0_0); (try have q0_0 := q0.at 0 rfl); (try clear q0_3); (try have q0_3 := q0.at 3 rfl); (try clear q0_4); (try have q0_4 := q0.at 4 rfl); (try clear qo_0); (try have qo_0 := qo.at 0 rfl); (try clear qo_3); (try have qo_3 := qo.at 3 rfl); (try clear qo_4); (try have qo_4 := qo.at 4 rfl); (try clear q9_3); (try have q9_3 := q9.at 3 rfl); (try clear q9_4); (try have q9_4 := q9.at 4 rfl); (try clear q10_1); (try have q10_1 := q10.at 1 rfl)))
            go_wp2_with (first
              | ((with_reducible refine wpList_id ?_); refine wpList_getB rfl _ _ rfl rfl qo Try.underlying24 rfl (by rfl) ?_)
              | ((with_reducible refine wpList_id ?_); refine wpList_putB rfl _ _ _ rfl rfl rfl q0 (by rfl) (by rfl) (by rfl) ?_; intro w9 qn hg; replace b0 := b0.grown hg (by omega); (try replace m2 := m2.grownB q0 (by decide) hg); (try replace qo := qo.grown hg (by omega)); (try replace q9 := q9.grown hg (by omega)); (try replace q10 := q10.grown hg (by omega)); clear hg q0; have q0 := qn; clear qn; (try clear q0_0); (try have q0_0 := q0.at 0 rfl); (try clear q0_3); (try have q0_3 := q0.at 3 rfl); (try clear q0_4); (try have q0_4 := q0.at 4 rfl); (try clear qo_0); (try have qo_0 := qo.at 0 rfl); (try clear qo_3); (try have qo_3 := qo.at 3 rfl); (try clear qo_4); (try have qo_4 := qo.at 4 rfl); (try clear q9_3); (try have q9_3 := q9.at 3 rfl); (try clear q9_4); (try have q9_4 := q9.at 4 rfl); (try clear q10_1); (try have q10_1 := q10.at 1 rfl)))
            go_roundw
            case rel => exact ⟨i + 1, t, A2, n2, c2, by omega, ⟨KP.out.r, KP.out.ok, KP.out.id.trans KID.out, by have := KP.out.le; have := KLE.out; omega⟩, by simp, b0, q0, m2.byt⟩
            case measure => simp [intOf]; omega
    have c0 : (dd == 0) = false := beq_eq_false_iff_ne.2 d0
    by_cases d1 : dd = 1
    · as_aux_lemma =>
        subst d1
        skip
        have DK := Lib.hid (back_keep r ok hall)
        have DT := Lib.hid fun (A : Option Addr) (c : Nat) w (h : Byt w A n1 c s.out) => fBack s ok A n1 c w h (by omega)
        generalize backS s = t at *
        generalize backN s = bN at *
        have KP := Lib.hid DK.out.1
        have ltw : W.heap.size < wr.heap.size := lt0
        have z1 : W.heap.size ≠ wr.heap.size := by omega
        have z4 := z1.symm
        have a0 := r4.1; have a1 := r4.2; have a2 := r5.1; have a3 := r5.2; clear r4 r5
        go_upto_region 17 with (first | ((with_reducible refine wpList_id ?_); refine wpList_getB rfl _ _ rfl rfl q0w Try.underlying24 rfl (by rfl) ?_))
        clear k0 k1 k2 q0w
        go_upto_region 18 with (first | ((with_reducible refine wpList_id ?_); refine wpList_getB rfl _ _ rfl rfl q0 Try.underlying24 rfl (by rfl) ?_) | (go_at_call 16; (with_reducible refine (DT.out _ _ _ y).mono ?_); rintro e wd ⟨A2, n2, c2, rfl, m2, hb⟩; replace m2 := m2.base_le (Nat.zero_le _); replace b0 := b0.below hb; replace q0 := q0.below hb; replace qo := qo.below hb; have hz0 := q0.lt; have hz1 := qo.lt; have hz := b0.out.size; have qb := Blk.new wd 24 #[.int .i64 (t).id, .int .u8 (t).st, .int .i64 (t).sd, .int .i64 (t).rc, .int .i64 (t).ow, .bool (t).an, .bool (t).en, .slice A2 n2 c2, .int .u8 (t).ur, .bool (t).inc, .int .i64 (t).sl]; replace b0 := b0.alloc (.cells #[.int .i64 (t).id, .int .u8 (t).st, .int .i64 (t).sd, .int .i64 (t).rc, .int .i64 (t).ow, .bool (t).an, .bool (t).en, .slice A2 n2 c2, .int .u8 (t).ur, .bool (t).inc, .int .i64 (t).sl] 24); replace q0 := q0.alloc (.cells #[.int .i64 (t).id, .int .u8 (t).st, .int .i64 (t).sd, .int .i64 (t).rc, .int .i64 (t).ow, .bool (t).an, .bool (t).en, .slice A2 n2 c2, .int .u8 (t).ur, .bool (t).inc, .int .i64 (t).sl] 24); replace qo := qo.alloc (.cells #[.int .i64 (t).id, .int .u8 (t).st, .int .i64 (t).sd, .int .i64 (t).rc, .int .i64 (t).ow, .bool (t).an, .bool (t).en, .slice A2 n2 c2, .int .u8 (t).ur, .bool (t).inc, .int .i64 (t).sl] 24); replace m2 := m2.alloc (.cells #[.int .i64 (t).id, .int .u8 (t).st, .int .i64 (t).sd, .int .i64 (t).rc, .int .i64 (t).ow, .bool (t).an, .bool (t).en, .slice A2 n2 c2, .int .u8 (t).ur, .bool (t).inc, .int .i64 (t).sl] 24); clear hb y))
        have RT2 := Lib.hid fun (A : Option Addr) (c : Nat) w => rSRight t KP.out.ok A n2 c w m2.len (by have := m2.byt.cap; have := m2.byt.mx; omega)
        rw [rightS_yes KP.out.r] at RT2
        have E9 : (t.id != s.id) = false := bne_eq_false_iff_eq.2 KP.out.id
        have E8 : decide (s0.rc + s0.ow < t.rc + t.ow) = false := decide_eq_false (by have := KP.out.le; have := KLE.out; omega)
        have t4 := KP.out.r.2.2.2.1
        have t5 := KP.out.r.2.2.2.2.1
        have t6 := t4.1; have t7 := t4.2; have t8 := t5.1; have t9 := t5.2; clear t4 t5
        have z2 : wr.heap.size ≠ wd.heap.size := by omega
        have z3 : W.heap.size ≠ wd.heap.size := by omega
        have E1 : (t.ow != 0) = false := bne_eq_false_iff_eq.2 DK.out.2.1
        have E2 : (t.rc != s.rc + bN) = false := bne_eq_false_iff_eq.2 DK.out.2.2.2.1
        obtain ⟨n0b, n1b⟩ := DK.out.2.2.2.2
        skip; (try clear q0_0); (try have q0_0 := q0.at 0 rfl); (try clear q0_3); (try have q0_3 := q0.at 3 rfl); (try clear q0_4); (try have q0_4 := q0.at 4 rfl); (try clear qo_0); (try have qo_0 := qo.at 0 rfl); (try clear qo_3); (try have qo_3 := qo.at 3 rfl); (try clear qo_4); (try have qo_4 := qo.at 4 rfl); (try clear qb_3); (try have qb_3 := qb.at 3 rfl); (try clear qb_4); (try have qb_4 := qb.at 4 rfl)
        cases hb0 : (bN != 0)
        · as_aux_lemma =>
            go_upto_region 20 with fail
            go_upto_region 25 with (first | ((with_reducible refine wpList_id ?_); refine wpList_getB rfl _ _ rfl rfl qb Try.underlying24 rfl (by rfl) ?_) | ((with_reducible refine wpList_id ?_); refine wpList_putB rfl _ _ _ rfl rfl rfl qo (by rfl) (by rfl) (by rfl) ?_; intro w9 qn hg; replace b0 := b0.grown hg (by omega); (try replace m2 := m2.grownB qo (by decide) hg); (try replace q0 := q0.grown hg (by omega)); (try replace qb := qb.grown hg (by omega)); clear hg qo; have qo := qn; clear qn; (try clear q0_0); (try have q0_0 := q0.at 0 rfl); (try clear q0_3); (try have q0_3 := q0.at 3 rfl); (try clear q0_4); (try have q0_4 := q0.at 4 rfl); (try clear qo_0); (try have qo_0 := qo.at 0 rfl); (try clear qo_3); (try have qo_3 := qo.at 3 rfl); (try clear qo_4); (try have qo_4 := qo.at 4 rfl); (try clear qb_3); (try have qb_3 := qb.at 3 rfl); (try clear qb_4); (try have qb_4 := qb.at 4 rfl)))
            go_upto_region 27 with (first | ((with_reducible refine wpList_id ?_); refine wpList_getB rfl _ _ rfl rfl qo Try.underlying24 rfl (by rfl) ?_) | (go_at_call 31; (with_reducible refine (RT2.out _ _ _).mono ?_); rintro e w9 ⟨rfl, hb⟩; replace b0 := b0.below hb; (try replace q0 := q0.below hb); (try replace qo := qo.below hb); (try replace qb := qb.below hb); (try replace m2 := m2.below hb); (try clear q0_0); (try have q0_0 := q0.at 0 rfl); (try clear q0_3); (try have q0_3 := q0.at 3 rfl); (try clear q0_4); (try have q0_4 := q0.at 4 rfl); (try clear qo_0); (try have qo_0 := qo.at 0 rfl); (try clear qo_3); (try have qo_3 := qo.at 3 rfl); (try clear qo_4); (try have qo_4 := qo.at 4 rfl); (try clear qb_3); (try have qb_3 := qb.at 3 rfl); (try clear qb_4); (try have qb_4 := qb.at 4 rfl)))
            go_wp2_with (first
              | ((with_reducible refine wpList_id ?_); refine wpList_getB rfl _ _ rfl rfl qo Try.underlying24 rfl (by rfl) ?_)
              | ((with_reducible refine wpList_id ?_); refine wpList_putB rfl _ _ _ rfl rfl rfl q0 (by rfl) (by rfl) (by rfl) ?_; intro w9 qn hg; replace b0 := b0.grown hg (by omega); (try replace m2 := m2.grownB q0 (by decide) hg); (try replace qo := qo.grown hg (by omega)); (try replace qb := qb.grown hg (by omega)); clear hg q0; have q0 := qn; clear qn; (try clear q0_0); (try have q0_0 := q0.at 0 rfl); (try clear q0_3); (try have q0_3 := q0.at 3 rfl); (try clear q0_4); (try have q0_4 := q0.at 4 rfl); (try clear qo_0); (try have qo_0 := qo.at 0 rfl); (try clear qo_3); (try have qo_3 := qo.at 3 rfl); (try clear qo_4); (try have qo_4 := qo.at 4 rfl); (try clear qb_3); (try have qb_3 := qb.at 3 rfl); (try clear qb_4); (try have qb_4 := qb.at 4 rfl)))
            go_roundw
            case rel => exact ⟨i + 1, t, A2, n2, c2, by omega, ⟨KP.out.r, KP.out.ok, KP.out.id.trans KID.out, by have := KP.out.le; have := KLE.out; omega⟩, by simp, b0, q0, m2.byt⟩
            case measure => simp [intOf]; omega
        · as_aux_lemma =>
            have E3 : (bN != s.ow) = false := bne_eq_false_iff_eq.2 (DK.out.2.2.1.resolve_left (bne_iff_ne.1 hb0))
            go_upto_region 20 with fail
            go_upto_region 25 with (first | ((with_reducible refine wpList_id ?_); refine wpList_getB rfl _ _ rfl rfl qb Try.underlying24 rfl (by rfl) ?_) | ((with_reducible refine wpList_id ?_); refine wpList_putB rfl _ _ _ rfl rfl rfl qo (by rfl) (by rfl) (by rfl) ?_; intro w9 qn hg; replace b0 := b0.grown hg (by omega); (try replace m2 := m2.grownB qo (by decide) hg); (try replace q0 := q0.grown hg (by omega)); (try replace qb := qb.grown hg (by omega)); clear hg qo; have qo := qn; clear qn; (try clear q0_0); (try have q0_0 := q0.at 0 rfl); (try clear q0_3); (try have q0_3 := q0.at 3 rfl); (try clear q0_4); (try have q0_4 := q0.at 4 rfl); (try clear qo_0); (try have qo_0 := qo.at 0 rfl); (try clear qo_3); (try have qo_3 := qo.at 3 rfl); (try clear qo_4); (try have qo_4 := qo.at 4 rfl); (try clear qb_3); (try have qb_3 := qb.at 3 rfl); (try clear qb_4); (try have qb_4 := qb.at 4 rfl)))
            go_upto_region 27 with (first | ((with_reducible refine wpList_id ?_); refine wpList_getB rfl _ _ rfl rfl qo Try.underlying24 rfl (by rfl) ?_) | (go_at_call 31; (with_reducible refine (RT2.out _ _ _).mono ?_); rintro e w9 ⟨rfl, hb⟩; replace b0 := b0.below hb; (try replace q0 := q0.below hb); (try replace qo := qo.below hb); (try replace qb := qb.below hb); (try replace m2 := m2.below hb); (try clear q0_0); (try have q0_0 := q0.at 0 rfl); (try clear q0_3); (try have q0_3 := q0.at 3 rfl); (try clear q0_4); (try have q0_4 := q0.at 4 rfl); (try clear qo_0); (try have qo_0 := qo.at 0 rfl); (try clear qo_3); (try have qo_3 := qo.at 3 rfl); (try clear qo_4); (try have qo_4 := qo.at 4 rfl); (try clear qb_3); (try have qb_3 := qb.at 3 rfl); (try clear qb_4); (try have qb_4 := qb.at 4 rfl)))
            go_wp2_with (first
              | ((with_reducible refine wpList_id ?_); refine wpList_getB rfl _ _ rfl rfl qo Try.underlying24 rfl (by rfl) ?_)
              | ((with_reducible refine wpList_id ?_); refine wpList_putB rfl _ _ _ rfl rfl rfl q0 (by rfl) (by rfl) (by rfl) ?_; intro w9 qn hg; replace b0 := b0.grown hg (by omega); (try replace m2 := m2.grownB q0 (by decide) hg); (try replace qo := qo.grown hg (by omega)); (try replace qb := qb.grown hg (by omega)); clear hg q0; have q0 := qn; clear qn; (try clear q0_0); (try have q0_0 := q0.at 0 rfl); (try clear q0_3); (try have q0_3 := q0.at 3 rfl); (try clear q0_4); (try have q0_4 := q0.at 4 rfl); (try clear qo_0); (try have qo_0 := qo.at 0 rfl); (try clear qo_3); (try have qo_3 := qo.at 3 rfl); (try clear qo_4); (try have qo_4 := qo.at 4 rfl); (try clear qb_3); (try have qb_3 := qb.at 3 rfl); (try clear qb_4); (try have qb_4 := qb.at 4 rfl)))
            go_roundw
            case rel => exact ⟨i + 1, t, A2, n2, c2, by omega, ⟨KP.out.r, KP.out.ok, KP.out.id.trans KID.out, by have := KP.out.le; have := KLE.out; omega⟩, by simp, b0, q0, m2.byt⟩
            case measure => simp [intOf]; omega
    have c1 : (dd == 1) = false := beq_eq_false_iff_ne.2 d1
    by_cases d2 : dd = 2
    · as_aux_lemma =>
        subst d2
        skip
        have KP := Lib.hid (show Keep s (givS s x) from by unfold givS; rw [if_pos r]; exact sd_keep r ok _ (by have := r.2.2.1; unfold giveV; split <;> omega))
        have DT := Lib.hid fun (A : Option Addr) (c : Nat) w (h : Byt w A n1 c s.out) => fGive s ok x X0 A n1 c w h (by omega)
        generalize givS s x = t at *
        generalize givB s x = gb at *
        have ltw : W.heap.size < wr.heap.size := lt0
        have z1 : W.heap.size ≠ wr.heap.size := by omega
        have z4 := z1.symm
        have a0 := r4.1; have a1 := r4.2; have a2 := r5.1; have a3 := r5.2; clear r4 r5
        go_upto_region 22 with (first | ((with_reducible refine wpList_id ?_); refine wpList_getB rfl _ _ rfl rfl q0w Try.underlying24 rfl (by rfl) ?_))
        clear k0 k1 k2 q0w
        skip; (try clear q0_0); (try have q0_0 := q0.at 0 rfl); (try clear q0_3); (try have q0_3 := q0.at 3 rfl); (try clear q0_4); (try have q0_4 := q0.at 4 rfl); (try clear qo_0); (try have qo_0 := qo.at 0 rfl); (try clear qo_3); (try have qo_3 := qo.at 3 rfl); (try clear qo_4); (try have qo_4 := qo.at 4 rfl)
        go_upto_region 25 with (first | ((with_reducible refine wpList_id ?_); refine wpList_getB rfl _ _ rfl rfl q0 Try.underlying24 rfl (by rfl) ?_) | (go_at_call 18; (with_reducible refine (DT.out _ _ _ y).mono ?_); rintro e wd ⟨A2, n2, c2, rfl, m2, hb⟩; replace m2 := m2.base_le (Nat.zero_le _); replace b0 := b0.below hb; replace q0 := q0.below hb; replace qo := qo.below hb; clear hb y) | ((with_reducible refine wpList_id ?_); refine wpList_putB rfl _ _ _ rfl rfl rfl qo (by rfl) (by rfl) (by rfl) ?_; intro w9 qn hg; replace b0 := b0.grown hg (by omega); (try replace m2 := m2.grownB qo (by decide) hg); (try replace q0 := q0.grown hg (by omega)); clear hg qo; have qo := qn; clear qn; (try clear q0_0); (try have q0_0 := q0.at 0 rfl); (try clear q0_3); (try have q0_3 := q0.at 3 rfl); (try clear q0_4); (try have q0_4 := q0.at 4 rfl); (try clear qo_0); (try have qo_0 := qo.at 0 rfl); (try clear qo_3); (try have qo_3 := qo.at 3 rfl); (try clear qo_4); (try have qo_4 := qo.at 4 rfl)))
        have RT2 := Lib.hid fun (A : Option Addr) (c : Nat) w => rSRight t KP.out.ok A n2 c w m2.len (by have := m2.byt.cap; have := m2.byt.mx; omega)
        rw [rightS_yes KP.out.r] at RT2
        have E9 : (t.id != s.id) = false := bne_eq_false_iff_eq.2 KP.out.id
        have E8 : decide (s0.rc + s0.ow < t.rc + t.ow) = false := decide_eq_false (by have := KP.out.le; have := KLE.out; omega)
        have t4 := KP.out.r.2.2.2.1
        have t5 := KP.out.r.2.2.2.2.1
        have t6 := t4.1; have t7 := t4.2; have t8 := t5.1; have t9 := t5.2; clear t4 t5
        skip; (try clear q0_0); (try have q0_0 := q0.at 0 rfl); (try clear q0_3); (try have q0_3 := q0.at 3 rfl); (try clear q0_4); (try have q0_4 := q0.at 4 rfl); (try clear qo_0); (try have qo_0 := qo.at 0 rfl); (try clear qo_3); (try have qo_3 := qo.at 3 rfl); (try clear qo_4); (try have qo_4 := qo.at 4 rfl)
        go_upto_region 27 with (first | ((with_reducible refine wpList_id ?_); refine wpList_getB rfl _ _ rfl rfl qo Try.underlying24 rfl (by rfl) ?_) | (go_at_call 31; (with_reducible refine (RT2.out _ _ _).mono ?_); rintro e w9 ⟨rfl, hb⟩; replace b0 := b0.below hb; (try replace q0 := q0.below hb); (try replace qo := qo.below hb); (try replace m2 := m2.below hb); (try clear q0_0); (try have q0_0 := q0.at 0 rfl); (try clear q0_3); (try have q0_3 := q0.at 3 rfl); (try clear q0_4); (try have q0_4 := q0.at 4 rfl); (try clear qo_0); (try have qo_0 := qo.at 0 rfl); (try clear qo_3); (try have qo_3 := qo.at 3 rfl); (try clear qo_4); (try have qo_4 := qo.at 4 rfl)))
        go_wp2_with (first
          | ((with_reducible refine wpList_id ?_); refine wpList_getB rfl _ _ rfl rfl qo Try.underlying24 rfl (by rfl) ?_)
          | ((with_reducible refine wpList_id ?_); refine wpList_putB rfl _ _ _ rfl rfl rfl q0 (by rfl) (by rfl) (by rfl) ?_; intro w9 qn hg; replace b0 := b0.grown hg (by omega); (try replace m2 := m2.grownB q0 (by decide) hg); (try replace qo := qo.grown hg (by omega)); clear hg q0; have q0 := qn; clear qn; (try clear q0_0); (try have q0_0 := q0.at 0 rfl); (try clear q0_3); (try have q0_3 := q0.at 3 rfl); (try clear q0_4); (try have q0_4 := q0.at 4 rfl); (try clear qo_0); (try have qo_0 := qo.at 0 rfl); (try clear qo_3); (try have qo_3 := qo.at 3 rfl); (try clear qo_4); (try have qo_4 := qo.at 4 rfl)))
        go_roundw
        case rel => exact ⟨i + 1, t, A2, n2, c2, by omega, ⟨KP.out.r, KP.out.ok, KP.out.id.trans KID.out, by have := KP.out.le; have := KLE.out; omega⟩, by simp, b0, q0, m2.byt⟩
        case measure => simp [intOf]; omega
    have c2 : (dd == 2) = false := beq_eq_false_iff_ne.2 d2
    by_cases d3 : dd = 3
    · as_aux_lemma =>
        subst d3
        skip
        have KP := Lib.hid (show Keep s (shfS s x) from by unfold shfS; rw [if_pos r]; exact sd_keep r ok _ (by have := r.2.2.1; unfold shiftV; split <;> omega))
        have DT := Lib.hid fun (A : Option Addr) (c : Nat) w (h : Byt w A n1 c s.out) => fShift s ok x X0 A n1 c w h (by omega)
        generalize shfS s x = t at *
        generalize shfB s x = gb at *
        have ltw : W.heap.size < wr.heap.size := lt0
        have z1 : W.heap.size ≠ wr.heap.size := by omega
        have z4 := z1.symm
        have a0 := r4.1; have a1 := r4.2; have a2 := r5.1; have a3 := r5.2; clear r4 r5
        go_upto_region 24 with (first | ((with_reducible refine wpList_id ?_); refine wpList_getB rfl _ _ rfl rfl q0w Try.underlying24 rfl (by rfl) ?_))
        clear k0 k1 k2 q0w
        skip; (try clear q0_0); (try have q0_0 := q0.at 0 rfl); (try clear q0_3); (try have q0_3 := q0.at 3 rfl); (try clear q0_4); (try have q0_4 := q0.at 4 rfl); (try clear qo_0); (try have qo_0 := qo.at 0 rfl); (try clear qo_3); (try have qo_3 := qo.at 3 rfl); (try clear qo_4); (try have qo_4 := qo.at 4 rfl)
        go_upto_region 25 with (first | ((with_reducible refine wpList_id ?_); refine wpList_getB rfl _ _ rfl rfl q0 Try.underlying24 rfl (by rfl) ?_) | (go_at_call 20; (with_reducible refine (DT.out _ _ _ y).mono ?_); rintro e wd ⟨A2, n2, c2, rfl, m2, hb⟩; replace m2 := m2.base_le (Nat.zero_le _); replace b0 := b0.below hb; replace q0 := q0.below hb; replace qo := qo.below hb; clear hb y) | ((with_reducible refine wpList_id ?_); refine wpList_putB rfl _ _ _ rfl rfl rfl qo (by rfl) (by rfl) (by rfl) ?_; intro w9 qn hg; replace b0 := b0.grown hg (by omega); (try replace m2 := m2.grownB qo (by decide) hg); (try replace q0 := q0.grown hg (by omega)); clear hg qo; have qo := qn; clear qn; (try clear q0_0); (try have q0_0 := q0.at 0 rfl); (try clear q0_3); (try have q0_3 := q0.at 3 rfl); (try clear q0_4); (try have q0_4 := q0.at 4 rfl); (try clear qo_0); (try have qo_0 := qo.at 0 rfl); (try clear qo_3); (try have qo_3 := qo.at 3 rfl); (try clear qo_4); (try have qo_4 := qo.at 4 rfl)))
        have RT2 := Lib.hid fun (A : Option Addr) (c : Nat) w => rSRight t KP.out.ok A n2 c w m2.len (by have := m2.byt.cap; have := m2.byt.mx; omega)
        rw [rightS_yes KP.out.r] at RT2
        have E9 : (t.id != s.id) = false := bne_eq_false_iff_eq.2 KP.out.id
        have E8 : decide (s0.rc + s0.ow < t.rc + t.ow) = false := decide_eq_false (by have := KP.out.le; have := KLE.out; omega)
        have t4 := KP.out.r.2.2.2.1
        have t5 := KP.out.r.2.2.2.2.1
        have t6 := t4.1; have t7 := t4.2; have t8 := t5.1; have t9 := t5.2; clear t4 t5
        skip; (try clear q0_0); (try have q0_0 := q0.at 0 rfl); (try clear q0_3); (try have q0_3 := q0.at 3 rfl); (try clear q0_4); (try have q0_4 := q0.at 4 rfl); (try clear qo_0); (try have qo_0 := qo.at 0 rfl); (try clear qo_3); (try have qo_3 := qo.at 3 rfl); (try clear qo_4); (try have qo_4 := qo.at 4 rfl)
        go_upto_region 27 with (first | ((with_reducible refine wpList_id ?_); refine wpList_getB rfl _ _ rfl rfl qo Try.underlying24 rfl (by rfl) ?_) | (go_at_call 31; (with_reducible refine (RT2.out _ _ _).mono ?_); rintro e w9 ⟨rfl, hb⟩; replace b0 := b0.below hb; (try replace q0 := q0.below hb); (try replace qo := qo.below hb); (try replace m2 := m2.below hb); (try clear q0_0); (try have q0_0 := q0.at 0 rfl); (try clear q0_3); (try have q0_3 := q0.at 3 rfl); (try clear q0_4); (try have q0_4 := q0.at 4 rfl); (try clear qo_0); (try have qo_0 := qo.at 0 rfl); (try clear qo_3); (try have qo_3 := qo.at 3 rfl); (try clear qo_4); (try have qo_4 := qo.at 4 rfl)))
        go_wp2_with (first
          | ((with_reducible refine wpList_id ?_); refine wpList_getB rfl _ _ rfl rfl qo Try.underlying24 rfl (by rfl) ?_)
          | ((with_reducible refine wpList_id ?_); refine wpList_putB rfl _ _ _ rfl rfl rfl q0 (by rfl) (by rfl) (by rfl) ?_; intro w9 qn hg; replace b0 := b0.grown hg (by omega); (try replace m2 := m2.grownB q0 (by decide) hg); (try replace qo := qo.grown hg (by omega)); clear hg q0; have q0 := qn; clear qn; (try clear q0_0); (try have q0_0 := q0.at 0 rfl); (try clear q0_3); (try have q0_3 := q0.at 3 rfl); (try clear q0_4); (try have q0_4 := q0.at 4 rfl); (try clear qo_0); (try have qo_0 := qo.at 0 rfl); (try clear qo_3); (try have qo_3 := qo.at 3 rfl); (try clear qo_4); (try have qo_4 := qo.at 4 rfl)))
        go_roundw
        case rel => exact ⟨i + 1, t, A2, n2, c2, by omega, ⟨KP.out.r, KP.out.ok, KP.out.id.trans KID.out, by have := KP.out.le; have := KLE.out; omega⟩, by simp, b0, q0, m2.byt⟩
        case measure => simp [intOf]; omega
    have c3 : (dd == 3) = false := beq_eq_false_iff_ne.2 d3
    by_cases h1 : x < 0
    · as_aux_lemma =>
        have KP := Lib.hid ((over_keep r ok (0) (by omega)).1)
        have DT := Lib.hid fun (A : Option Addr) (c : Nat) w (h : Byt w A n1 c s.out) => fOver s ok (0) (by omega) A n1 c w h (by omega)
        generalize overS s (0) = t at *
        have ltw : W.heap.size < wr.heap.size := lt0
        have z1 : W.heap.size ≠ wr.heap.size := by omega
        have z4 := z1.symm
        have a0 := r4.1; have a1 := r4.2; have a2 := r5.1; have a3 := r5.2; clear r4 r5
        go_upto_region 10 with (first | ((with_reducible refine wpList_id ?_); refine wpList_getB rfl _ _ rfl rfl q0w Try.underlying24 rfl (by rfl) ?_))
        clear k0 k1 k2 q0w
        skip; (try clear q0_0); (try have q0_0 := q0.at 0 rfl); (try clear q0_3); (try have q0_3 := q0.at 3 rfl); (try clear q0_4); (try have q0_4 := q0.at 4 rfl); (try clear qo_0); (try have qo_0 := qo.at 0 rfl); (try clear qo_3); (try have qo_3 := qo.at 3 rfl); (try clear qo_4); (try have qo_4 := qo.at 4 rfl)
        go_upto_region 25 with (first | ((with_reducible refine wpList_id ?_); refine wpList_getB rfl _ _ rfl rfl q0 Try.underlying24 rfl (by rfl) ?_) | (go_at_call 24; (with_reducible refine (DT.out _ _ _ y).mono ?_); rintro e wd ⟨A2, n2, c2, rfl, m2, hb⟩; replace m2 := m2.base_le (Nat.zero_le _); replace b0 := b0.below hb; replace q0 := q0.below hb; replace qo := qo.below hb; clear hb y) | ((with_reducible refine wpList_id ?_); refine wpList_putB rfl _ _ _ rfl rfl rfl qo (by rfl) (by rfl) (by rfl) ?_; intro w9 qn hg; replace b0 := b0.grown hg (by omega); (try replace m2 := m2.grownB qo (by decide) hg); (try replace q0 := q0.grown hg (by omega)); clear hg qo; have qo := qn; clear qn; (try clear q0_0); (try have q0_0 := q0.at 0 rfl); (try clear q0_3); (try have q0_3 := q0.at 3 rfl); (try clear q0_4); (try have q0_4 := q0.at 4 rfl); (try clear qo_0); (try have qo_0 := qo.at 0 rfl); (try clear qo_3); (try have qo_3 := qo.at 3 rfl); (try clear qo_4); (try have qo_4 := qo.at 4 rfl)))
        have RT2 := Lib.hid fun (A : Option Addr) (c : Nat) w => rSRight t KP.out.ok A n2 c w m2.len (by have := m2.byt.cap; have := m2.byt.mx; omega)
        rw [rightS_yes KP.out.r] at RT2
        have E9 : (t.id != s.id) = false := bne_eq_false_iff_eq.2 KP.out.id
        have E8 : decide (s0.rc + s0.ow < t.rc + t.ow) = false := decide_eq_false (by have := KP.out.le; have := KLE.out; omega)
        have t4 := KP.out.r.2.2.2.1
        have t5 := KP.out.r.2.2.2.2.1
        have t6 := t4.1; have t7 := t4.2; have t8 := t5.1; have t9 := t5.2; clear t4 t5
        skip; (try clear q0_0); (try have q0_0 := q0.at 0 rfl); (try clear q0_3); (try have q0_3 := q0.at 3 rfl); (try clear q0_4); (try have q0_4 := q0.at 4 rfl); (try clear qo_0); (try have qo_0 := qo.at 0 rfl); (try clear qo_3); (try have qo_3 := qo.at 3 rfl); (try clear qo_4); (try have qo_4 := qo.at 4 rfl)
        go_upto_region 27 with (first | ((with_reducible refine wpList_id ?_); refine wpList_getB rfl _ _ rfl rfl qo Try.underlying24 rfl (by rfl) ?_) | (go_at_call 31; (with_reducible refine (RT2.out _ _ _).mono ?_); rintro e w9 ⟨rfl, hb⟩; replace b0 := b0.below hb; (try replace q0 := q0.below hb); (try replace qo := qo.below hb); (try replace m2 := m2.below hb); (try clear q0_0); (try have q0_0 := q0.at 0 rfl); (try clear q0_3); (try have q0_3 := q0.at 3 rfl); (try clear q0_4); (try have q0_4 := q0.at 4 rfl); (try clear qo_0); (try have qo_0 := qo.at 0 rfl); (try clear qo_3); (try have qo_3 := qo.at 3 rfl); (try clear qo_4); (try have qo_4 := qo.at 4 rfl)))
        go_wp2_with (first
          | ((with_reducible refine wpList_id ?_); refine wpList_getB rfl _ _ rfl rfl qo Try.underlying24 rfl (by rfl) ?_)
          | ((with_reducible refine wpList_id ?_); refine wpList_putB rfl _ _ _ rfl rfl rfl q0 (by rfl) (by rfl) (by rfl) ?_; intro w9 qn hg; replace b0 := b0.grown hg (by omega); (try replace m2 := m2.grownB q0 (by decide) hg); (try replace qo := qo.grown hg (by omega)); clear hg q0; have q0 := qn; clear qn; (try clear q0_0); (try have q0_0 := q0.at 0 rfl); (try clear q0_3); (try have q0_3 := q0.at 3 rfl); (try clear q0_4); (try have q0_4 := q0.at 4 rfl); (try clear qo_0); (try have qo_0 := qo.at 0 rfl); (try clear qo_3); (try have qo_3 := qo.at 3 rfl); (try clear qo_4); (try have qo_4 := qo.at 4 rfl)))
        go_roundw
        case rel => exact ⟨i + 1, t, A2, n2, c2, by omega, ⟨KP.out.r, KP.out.ok, KP.out.id.trans KID.out, by have := KP.out.le; have := KLE.out; omega⟩, by simp, b0, q0, m2.byt⟩
        case measure => simp [intOf]; omega
    by_cases h2 : 255 < x
    · as_aux_lemma =>
        have KP := Lib.hid ((over_keep r ok (255) (by omega)).1)
        have DT := Lib.hid fun (A : Option Addr) (c : Nat) w (h : Byt w A n1 c s.out) => fOver s ok (255) (by omega) A n1 c w h (by omega)
        generalize overS s (255) = t at *
        have ltw : W.heap.size < wr.heap.size := lt0
        have z1 : W.heap.size ≠ wr.heap.size := by omega
        have z4 := z1.symm
        have a0 := r4.1; have a1 := r4.2; have a2 := r5.1; have a3 := r5.2; clear r4 r5
        go_upto_region 10 with (first | ((with_reducible refine wpList_id ?_); refine wpList_getB rfl _ _ rfl rfl q0w Try.underlying24 rfl (by rfl) ?_))
        clear k0 k1 k2 q0w
        skip; (try clear q0_0); (try have q0_0 := q0.at 0 rfl); (try clear q0_3); (try have q0_3 := q0.at 3 rfl); (try clear q0_4); (try have q0_4 := q0.at 4 rfl); (try clear qo_0); (try have qo_0 := qo.at 0 rfl); (try clear qo_3); (try have qo_3 := qo.at 3 rfl); (try clear qo_4); (try have qo_4 := qo.at 4 rfl)
        go_upto_region 25 with (first | ((with_reducible refine wpList_id ?_); refine wpList_getB rfl _ _ rfl rfl q0 Try.underlying24 rfl (by rfl) ?_) | (go_at_call 24; (with_reducible refine (DT.out _ _ _ y).mono ?_); rintro e wd ⟨A2, n2, c2, rfl, m2, hb⟩; replace m2 := m2.base_le (Nat.zero_le _); replace b0 := b0.below hb; replace q0 := q0.below hb; replace qo := qo.below hb; clear hb y) | ((with_reducible refine wpList_id ?_); refine wpList_putB rfl _ _ _ rfl rfl rfl qo (by rfl) (by rfl) (by rfl) ?_; intro w9 qn hg; replace b0 := b0.grown hg (by omega); (try replace m2 := m2.grownB qo (by decide) hg); (try replace q0 := q0.grown hg (by omega)); clear hg qo; have qo := qn; clear qn; (try clear q0_0); (try have q0_0 := q0.at 0 rfl); (try clear q0_3); (try have q0_3 := q0.at 3 rfl); (try clear q0_4); (try have q0_4 := q0.at 4 rfl); (try clear qo_0); (try have qo_0 := qo.at 0 rfl); (try clear qo_3); (try have qo_3 := qo.at 3 rfl); (try clear qo_4); (try have qo_4 := qo.at 4 rfl)))
        have RT2 := Lib.hid fun (A : Option Addr) (c : Nat) w => rSRight t KP.out.ok A n2 c w m2.len (by have := m2.byt.cap; have := m2.byt.mx; omega)
        rw [rightS_yes KP.out.r] at RT2
        have E9 : (t.id != s.id) = false := bne_eq_false_iff_eq.2 KP.out.id
        have E8 : decide (s0.rc + s0.ow < t.rc + t.ow) = false := decide_eq_false (by have := KP.out.le; have := KLE.out; omega)
        have t4 := KP.out.r.2.2.2.1
        have t5 := KP.out.r.2.2.2.2.1
        have t6 := t4.1; have t7 := t4.2; have t8 := t5.1; have t9 := t5.2; clear t4 t5
        skip; (try clear q0_0); (try have q0_0 := q0.at 0 rfl); (try clear q0_3); (try have q0_3 := q0.at 3 rfl); (try clear q0_4); (try have q0_4 := q0.at 4 rfl); (try clear qo_0); (try have qo_0 := qo.at 0 rfl); (try clear qo_3); (try have qo_3 := qo.at 3 rfl); (try clear qo_4); (try have qo_4 := qo.at 4 rfl)
        go_upto_region 27 with (first | ((with_reducible refine wpList_id ?_); refine wpList_getB rfl _ _ rfl rfl qo Try.underlying24 rfl (by rfl) ?_) | (go_at_call 31; (with_reducible refine (RT2.out _ _ _).mono ?_); rintro e w9 ⟨rfl, hb⟩; replace b0 := b0.below hb; (try replace q0 := q0.below hb); (try replace qo := qo.below hb); (try replace m2 := m2.below hb); (try clear q0_0); (try have q0_0 := q0.at 0 rfl); (try clear q0_3); (try have q0_3 := q0.at 3 rfl); (try clear q0_4); (try have q0_4 := q0.at 4 rfl); (try clear qo_0); (try have qo_0 := qo.at 0 rfl); (try clear qo_3); (try have qo_3 := qo.at 3 rfl); (try clear qo_4); (try have qo_4 := qo.at 4 rfl)))
        go_wp2_with (first
          | ((with_reducible refine wpList_id ?_); refine wpList_getB rfl _ _ rfl rfl qo Try.underlying24 rfl (by rfl) ?_)
          | ((with_reducible refine wpList_id ?_); refine wpList_putB rfl _ _ _ rfl rfl rfl q0 (by rfl) (by rfl) (by rfl) ?_; intro w9 qn hg; replace b0 := b0.grown hg (by omega); (try replace m2 := m2.grownB q0 (by decide) hg); (try replace qo := qo.grown hg (by omega)); clear hg q0; have q0 := qn; clear qn; (try clear q0_0); (try have q0_0 := q0.at 0 rfl); (try clear q0_3); (try have q0_3 := q0.at 3 rfl); (try clear q0_4); (try have q0_4 := q0.at 4 rfl); (try clear qo_0); (try have qo_0 := qo.at 0 rfl); (try clear qo_3); (try have qo_3 := qo.at 3 rfl); (try clear qo_4); (try have qo_4 := qo.at 4 rfl)))
        go_roundw
        case rel => exact ⟨i + 1, t, A2, n2, c2, by omega, ⟨KP.out.r, KP.out.ok, KP.out.id.trans KID.out, by have := KP.out.le; have := KLE.out; omega⟩, by simp, b0, q0, m2.byt⟩
        case measure => simp [intOf]; omega
    · as_aux_lemma =>
        have KP := Lib.hid ((over_keep r ok (x) (by omega)).1)
        have DT := Lib.hid fun (A : Option Addr) (c : Nat) w (h : Byt w A n1 c s.out) => fOver s ok (x) (by omega) A n1 c w h (by omega)
        generalize overS s (x) = t at *
        have ltw : W.heap.size < wr.heap.size := lt0
        have z1 : W.heap.size ≠ wr.heap.size := by omega
        have z4 := z1.symm
        have a0 := r4.1; have a1 := r4.2; have a2 := r5.1; have a3 := r5.2; clear r4 r5
        go_upto_region 10 with (first | ((with_reducible refine wpList_id ?_); refine wpList_getB rfl _ _ rfl rfl q0w Try.underlying24 rfl (by rfl) ?_))
        clear k0 k1 k2 q0w
        skip; (try clear q0_0); (try have q0_0 := q0.at 0 rfl); (try clear q0_3); (try have q0_3 := q0.at 3 rfl); (try clear q0_4); (try have q0_4 := q0.at 4 rfl); (try clear qo_0); (try have qo_0 := qo.at 0 rfl); (try clear qo_3); (try have qo_3 := qo.at 3 rfl); (try clear qo_4); (try have qo_4 := qo.at 4 rfl)
        go_upto_region 25 with (first | ((with_reducible refine wpList_id ?_); refine wpList_getB rfl _ _ rfl rfl q0 Try.underlying24 rfl (by rfl) ?_) | (go_at_call 24; (with_reducible refine (DT.out _ _ _ y).mono ?_); rintro e wd ⟨A2, n2, c2, rfl, m2, hb⟩; replace m2 := m2.base_le (Nat.zero_le _); replace b0 := b0.below hb; replace q0 := q0.below hb; replace qo := qo.below hb; clear hb y) | ((with_reducible refine wpList_id ?_); refine wpList_putB rfl _ _ _ rfl rfl rfl qo (by rfl) (by rfl) (by rfl) ?_; intro w9 qn hg; replace b0 := b0.grown hg (by omega); (try replace m2 := m2.grownB qo (by decide) hg); (try replace q0 := q0.grown hg (by omega)); clear hg qo; have qo := qn; clear qn; (try clear q0_0); (try have q0_0 := q0.at 0 rfl); (try clear q0_3); (try have q0_3 := q0.at 3 rfl); (try clear q0_4); (try have q0_4 := q0.at 4 rfl); (try clear qo_0); (try have qo_0 := qo.at 0 rfl); (try clear qo_3); (try have qo_3 := qo.at 3 rfl); (try clear qo_4); (try have qo_4 := qo.at 4 rfl)))
        have RT2 := Lib.hid fun (A : Option Addr) (c : Nat) w => rSRight t KP.out.ok A n2 c w m2.len (by have := m2.byt.cap; have := m2.byt.mx; omega)
        rw [rightS_yes KP.out.r] at RT2
        have E9 : (t.id != s.id) = false := bne_eq_false_iff_eq.2 KP.out.id
        have E8 : decide (s0.rc + s0.ow < t.rc + t.ow) = false := decide_eq_false (by have := KP.out.le; have := KLE.out; omega)
        have t4 := KP.out.r.2.2.2.1
        have t5 := KP.out.r.2.2.2.2.1
        have t6 := t4.1; have t7 := t4.2; have t8 := t5.1; have t9 := t5.2; clear t4 t5
        skip; (try clear q0_0); (try have q0_0 := q0.at 0 rfl); (try clear q0_3); (try have q0_3 := q0.at 3 rfl); (try clear q0_4); (try have q0_4 := q0.at 4 rfl); (try clear qo_0); (try have qo_0 := qo.at 0 rfl); (try clear qo_3); (try have qo_3 := qo.at 3 rfl); (try clear qo_4); (try have qo_4 := qo.at 4 rfl)
        go_upto_region 27 with (first | ((with_reducible refine wpList_id ?_); refine wpList_getB rfl _ _ rfl rfl qo Try.underlying24 rfl (by rfl) ?_) | (go_at_call 31; (with_reducible refine (RT2.out _ _ _).mono ?_); rintro e w9 ⟨rfl, hb⟩; replace b0 := b0.below hb; (try replace q0 := q0.below hb); (try replace qo := qo.below hb); (try replace m2 := m2.below hb); (try clear q0_0); (try have q0_0 := q0.at 0 rfl); (try clear q0_3); (try have q0_3 := q0.at 3 rfl); (try clear q0_4); (try have q0_4 := q0.at 4 rfl); (try clear qo_0); (try have qo_0 := qo.at 0 rfl); (try clear qo_3); (try have qo_3 := qo.at 3 rfl); (try clear qo_4); (try have qo_4 := qo.at 4 rfl)))
        go_wp2_with (first
          | ((with_reducible refine wpList_id ?_); refine wpList_getB rfl _ _ rfl rfl qo Try.underlying24 rfl (by rfl) ?_)
          | ((with_reducible refine wpList_id ?_); refine wpList_putB rfl _ _ _ rfl rfl rfl q0 (by rfl) (by rfl) (by rfl) ?_; intro w9 qn hg; replace b0 := b0.grown hg (by omega); (try replace m2 := m2.grownB q0 (by decide) hg); (try replace qo := qo.grown hg (by omega)); clear hg q0; have q0 := qn; clear qn; (try clear q0_0); (try have q0_0 := q0.at 0 rfl); (try clear q0_3); (try have q0_3 := q0.at 3 rfl); (try clear q0_4); (try have q0_4 := q0.at 4 rfl); (try clear qo_0); (try have qo_0 := qo.at 0 rfl); (try clear qo_3); (try have qo_3 := qo.at 3 rfl); (try clear qo_4); (try have qo_4 := qo.at 4 rfl)))
        go_roundw
        case rel => exact ⟨i + 1, t, A2, n2, c2, by omega, ⟨KP.out.r, KP.out.ok, KP.out.id.trans KID.out, by have := KP.out.le; have := KLE.out; omega⟩, by simp, b0, q0, m2.byt⟩
        case measure => simp [intOf]; omega
end Go.Proofs.Ytaaeflomjcpfpaa
