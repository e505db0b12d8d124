/- StreamStays: whatever is done a stream that may be stays one: what it lets be. -/
import Derived.Test.YtaaeflomjcpfpaaStp
import Derived.Test.YtaaeflomjcpfpaaSo
import Derived.Test.YtaaeflomjcpfpaaSr
import Derived.Test.YtaaeflomjcpfpaaSz
import Derived.Test.YtaaeflomjcpfpaaSp
import Derived.StillTailTactics
import Derived.Deep.QuietTactic
import Derived.BigQuiet
namespace Go.Proofs.Ytaaeflomjcpfpaa
open Go.RowKit Go.Shelf
set_option linter.unusedVariables false
set_option linter.unusedSimpArgs false

/-- A code's walk is cut: what it leaves is told, whatever order it drew. -/
theorem wp_cutR {P : Program} {code : Code} {Q : Exit → Act → World → Prop} {a : Act} {w : World} (R : Act → Act → World → Prop)
    (h : code.wp P (fun e a' w' => e = .normal ∧ R a a' w') a w) (k : ∀ a' w', R a a' w' → Q .normal a' w') : code.wp P Q a w :=
  Code.wp_mono (fun e a' w' h => by obtain ⟨rfl, hr⟩ := h; exact k a' w' hr) h
section
variable {P : Program} {ops : Array Oper} {Q : Exit → Act → World → Prop} {md : Region.Mode} {S : World → Prop} {ex : List Nat}
/-- Three may come up. -/
theorem wpAnyG_three (i j l : Nat) {oi oj ol : Oper} {fuel : Nat} {listed : Array Bool} {a : Act} {w : World} (hr : Region.ready md ops listed = [i, j, l]) (hoi : ops[i]? = some oi) (hoj : ops[j]? = some oj) (hol : ops[l]? = some ol)
    (hi : ∀ K : Act → World → Prop, Shut (∀ a w, (ex.contains i = false → S w) → wpAnyG P md ops Q S ex fuel (listed.setIfInBounds i true) a w → K a w) → if Region.wanted oi (yielded ops a.tmps) = true then Oper.wp P oi a w K Q else K (a.put oi.dst undef) w)
    (hj : ∀ K : Act → World → Prop, Shut (∀ a w, (ex.contains j = false → S w) → wpAnyG P md ops Q S ex fuel (listed.setIfInBounds j true) a w → K a w) → if Region.wanted oj (yielded ops a.tmps) = true then Oper.wp P oj a w K Q else K (a.put oj.dst undef) w)
    (hl : ∀ K : Act → World → Prop, Shut (∀ a w, (ex.contains l = false → S w) → wpAnyG P md ops Q S ex fuel (listed.setIfInBounds l true) a w → K a w) → if Region.wanted ol (yielded ops a.tmps) = true then Oper.wp P ol a w K Q else K (a.put ol.dst undef) w) :
    wpAnyG P md ops Q S ex (fuel + 1) listed a w :=
  ⟨fun h0 => (by rw [hr] at h0; cases h0), fun k hk => by
    rw [hr] at hk
    simp only [List.mem_cons, List.not_mem_nil, or_false] at hk
    rcases hk with rfl | rfl | rfl
    · exact wpOp_step hoi (fun K' hK => hi K' (fun a w hS hW => hK a w ⟨hS, hW⟩))
    · exact wpOp_step hoj (fun K' hK => hj K' (fun a w hS hW => hK a w ⟨hS, hW⟩))
    · exact wpOp_step hol (fun K' hK => hl K' (fun a w hS hW => hK a w ⟨hS, hW⟩))⟩
end
set_option maxRecDepth 100000 in
set_option maxHeartbeats 4000000 in
theorem staysNo1 (s0 : Str) (ok0 : StrOk s0) (A0 : Option Addr) (n0 c0 : Nat) (A : Option Addr) (n c : Nat) (z : Nat → Int × Int × Bool) (hz : ∀ i, (-9223372036854775808 ≤ (z i).1 ∧ (z i).1 ≤ 9223372036854775807) ∧ (-9223372036854775808 ≤ (z i).2.1 ∧ (z i).2.1 ≤ 9223372036854775807)) (W : World) (h : Byt W A0 n0 c0 s0.out) (hT : Tri W A n c (fun i => .int .i64 (z i).1) (fun i => .int .i64 (z i).2.1) (fun i => .bool (z i).2.2)) (f0 : 3000 < n0) :
    Calls Try.prog 5 #[.agg #[.int .i64 (s0).id, .int .u8 (s0).st, .int .i64 (s0).sd, .int .i64 (s0).rc, .int .i64 (s0).ow, .bool (s0).an, .bool (s0).en, .slice A0 n0 c0, .int .u8 (s0).ur, .bool (s0).inc, .int .i64 (s0).sl], .slice A n c] W fun e w' => e = .returned (.bool true) ∧ Below W.heap.size W w' := by
  have hl := h.len; have hmx := h.mx; have hcp := h.cap
  have GR := Lib.hid fun (A : Option Addr) (c : Nat) w => rGreat s0 A n0 c w (by omega)
  rw [show decide (3000 < n0) = true from decide_eq_true f0] at GR
  have b0 := (Bel.refl W).alloc (.cells #[.int .i64 (s0).id, .int .u8 (s0).st, .int .i64 (s0).sd, .int .i64 (s0).rc, .int .i64 (s0).ow, .bool (s0).an, .bool (s0).en, .slice A0 n0 c0, .int .u8 (s0).ur, .bool (s0).inc, .int .i64 (s0).sl] 24)
  have q0 := Blk.new W 24 #[.int .i64 (s0).id, .int .u8 (s0).st, .int .i64 (s0).sd, .int .i64 (s0).rc, .int .i64 (s0).ow, .bool (s0).an, .bool (s0).en, .slice A0 n0 c0, .int .u8 (s0).ur, .bool (s0).inc, .int .i64 (s0).sl]
  clear hl hmx hcp f0
  go_enter Try.func5, Try.ntmps5
  go_wp2_with (first
    | ((with_reducible refine wpList_id ?_); refine wpList_getB rfl _ _ rfl rfl q0 Try.underlying24 rfl (by rfl) ?_)
    | ((with_reducible refine wpList_id ?_); refine wpList_getG (by rfl) _ _ rfl rfl q0 Try.underlying24 rfl (by rfl) ?_)
    | (go_at_call 7; (with_reducible refine (GR.out _ _ _).mono ?_); rintro e w9 ⟨rfl, hb⟩; replace b0 := b0.below hb; (try replace q0 := q0.below hb); (try clear q0_3); (try have q0_3 := q0.at 3 rfl); (try clear q0_4); (try have q0_4 := q0.at 4 rfl))
    | (go_at_call 8; (with_reducible refine (fWakes _).mono ?_); rintro e w9 ⟨rfl, hb⟩; replace b0 := b0.below hb))
  go_ret
  exact ⟨rfl, b0.out⟩
set_option maxRecDepth 100000 in
set_option maxHeartbeats 4000000 in
theorem staysNo2 (s0 : Str) (ok0 : StrOk s0) (A0 : Option Addr) (n0 c0 : Nat) (A : Option Addr) (n c : Nat) (z : Nat → Int × Int × Bool) (hz : ∀ i, (-9223372036854775808 ≤ (z i).1 ∧ (z i).1 ≤ 9223372036854775807) ∧ (-9223372036854775808 ≤ (z i).2.1 ∧ (z i).2.1 ≤ 9223372036854775807)) (W : World) (h : Byt W A0 n0 c0 s0.out) (hT : Tri W A n c (fun i => .int .i64 (z i).1) (fun i => .int .i64 (z i).2.1) (fun i => .bool (z i).2.2)) (f0 : n0 ≤ 3000) (f1 : 30 < n) :
    Calls Try.prog 5 #[.agg #[.int .i64 (s0).id, .int .u8 (s0).st, .int .i64 (s0).sd, .int .i64 (s0).rc, .int .i64 (s0).ow, .bool (s0).an, .bool (s0).en, .slice A0 n0 c0, .int .u8 (s0).ur, .bool (s0).inc, .int .i64 (s0).sl], .slice A n c] W fun e w' => e = .returned (.bool true) ∧ Below W.heap.size W w' := by
  have hl := h.len; have hmx := h.mx; have hcp := h.cap
  have GR := Lib.hid fun (A : Option Addr) (c : Nat) w => rGreat s0 A n0 c w (by omega)
  rw [show decide (3000 < n0) = false from decide_eq_false (by omega)] at GR
  have d1 : decide ((30 : Int) < n) = true := decide_eq_true (by omega)
  have b0 := (Bel.refl W).alloc (.cells #[.int .i64 (s0).id, .int .u8 (s0).st, .int .i64 (s0).sd, .int .i64 (s0).rc, .int .i64 (s0).ow, .bool (s0).an, .bool (s0).en, .slice A0 n0 c0, .int .u8 (s0).ur, .bool (s0).inc, .int .i64 (s0).sl] 24)
  have q0 := Blk.new W 24 #[.int .i64 (s0).id, .int .u8 (s0).st, .int .i64 (s0).sd, .int .i64 (s0).rc, .int .i64 (s0).ow, .bool (s0).an, .bool (s0).en, .slice A0 n0 c0, .int .u8 (s0).ur, .bool (s0).inc, .int .i64 (s0).sl]
  clear hl hmx hcp f0 f1
  go_enter Try.func5, Try.ntmps5
  go_wp2_with (first
    | ((with_reducible refine wpList_id ?_); refine wpList_getB rfl _ _ rfl rfl q0 Try.underlying24 rfl (by rfl) ?_)
    | ((with_reducible refine wpList_id ?_); refine wpList_getG (by rfl) _ _ rfl rfl q0 Try.underlying24 rfl (by rfl) ?_)
    | (go_at_call 7; (with_reducible refine (GR.out _ _ _).mono ?_); rintro e w9 ⟨rfl, hb⟩; replace b0 := b0.below hb; (try replace q0 := q0.below hb); (try clear q0_3); (try have q0_3 := q0.at 3 rfl); (try clear q0_4); (try have q0_4 := q0.at 4 rfl))
    | (go_at_call 8; (with_reducible refine (fWakes _).mono ?_); rintro e w9 ⟨rfl, hb⟩; replace b0 := b0.below hb))
  go_ret
  exact ⟨rfl, b0.out⟩
set_option maxRecDepth 100000 in
set_option maxHeartbeats 4000000 in
theorem staysNo3 (s0 : Str) (ok0 : StrOk s0) (A0 : Option Addr) (n0 c0 : Nat) (A : Option Addr) (n c : Nat) (z : Nat → Int × Int × Bool) (hz : ∀ i, (-9223372036854775808 ≤ (z i).1 ∧ (z i).1 ≤ 9223372036854775807) ∧ (-9223372036854775808 ≤ (z i).2.1 ∧ (z i).2.1 ≤ 9223372036854775807)) (W : World) (h : Byt W A0 n0 c0 s0.out) (hT : Tri W A n c (fun i => .int .i64 (z i).1) (fun i => .int .i64 (z i).2.1) (fun i => .bool (z i).2.2)) (f0 : n0 ≤ 3000) (f1 : n ≤ 30) (f2 : ¬RightS s0) :
    Calls Try.prog 5 #[.agg #[.int .i64 (s0).id, .int .u8 (s0).st, .int .i64 (s0).sd, .int .i64 (s0).rc, .int .i64 (s0).ow, .bool (s0).an, .bool (s0).en, .slice A0 n0 c0, .int .u8 (s0).ur, .bool (s0).inc, .int .i64 (s0).sl], .slice A n c] W fun e w' => e = .returned (.bool true) ∧ Below W.heap.size W w' := by
  have hl := h.len; have hmx := h.mx; have hcp := h.cap
  have GR := Lib.hid fun (A : Option Addr) (c : Nat) w => rGreat s0 A n0 c w (by omega)
  rw [show decide (3000 < n0) = false from decide_eq_false (by omega)] at GR
  have d1 : decide ((30 : Int) < n) = false := decide_eq_false (by omega)
  have RT := Lib.hid fun (A : Option Addr) (c : Nat) w => rSRight s0 ok0 A n0 c w hl (by omega)
  rw [show rightS s0 = false from rightS_no f2] at RT
  have b0 := (Bel.refl W).alloc (.cells #[.int .i64 (s0).id, .int .u8 (s0).st, .int .i64 (s0).sd, .int .i64 (s0).rc, .int .i64 (s0).ow, .bool (s0).an, .bool (s0).en, .slice A0 n0 c0, .int .u8 (s0).ur, .bool (s0).inc, .int .i64 (s0).sl] 24)
  have q0 := Blk.new W 24 #[.int .i64 (s0).id, .int .u8 (s0).st, .int .i64 (s0).sd, .int .i64 (s0).rc, .int .i64 (s0).ow, .bool (s0).an, .bool (s0).en, .slice A0 n0 c0, .int .u8 (s0).ur, .bool (s0).inc, .int .i64 (s0).sl]
  clear hl hmx hcp f0 f1 f2
  go_enter Try.func5, Try.ntmps5
  go_wp2_with (first
    | ((with_reducible refine wpList_id ?_); refine wpList_getB rfl _ _ rfl rfl q0 Try.underlying24 rfl (by rfl) ?_)
    | ((with_reducible refine wpList_id ?_); refine wpList_getG (by rfl) _ _ rfl rfl q0 Try.underlying24 rfl (by rfl) ?_)
    | (go_at_call 7; (with_reducible refine (GR.out _ _ _).mono ?_); rintro e w9 ⟨rfl, hb⟩; replace b0 := b0.below hb; (try replace q0 := q0.below hb); (try clear q0_3); (try have q0_3 := q0.at 3 rfl); (try clear q0_4); (try have q0_4 := q0.at 4 rfl))
    | (go_at_call 31; (with_reducible refine (RT.out _ _ _).mono ?_); rintro e w9 ⟨rfl, hb⟩; replace b0 := b0.below hb; (try replace q0 := q0.below hb); (try clear q0_3); (try have q0_3 := q0.at 3 rfl); (try clear q0_4); (try have q0_4 := q0.at 4 rfl))
    | (go_at_call 8; (with_reducible refine (fWakes _).mono ?_); rintro e w9 ⟨rfl, hb⟩; replace b0 := b0.below hb))
  go_ret
  exact ⟨rfl, b0.out⟩
set_option maxRecDepth 100000 in
set_option maxHeartbeats 4000000 in
theorem staysNo4 (s0 : Str) (ok0 : StrOk s0) (A0 : Option Addr) (n0 c0 : Nat) (A : Option Addr) (n c : Nat) (z : Nat → Int × Int × Bool) (hz : ∀ i, (-9223372036854775808 ≤ (z i).1 ∧ (z i).1 ≤ 9223372036854775807) ∧ (-9223372036854775808 ≤ (z i).2.1 ∧ (z i).2.1 ≤ 9223372036854775807)) (W : World) (h : Byt W A0 n0 c0 s0.out) (hT : Tri W A n c (fun i => .int .i64 (z i).1) (fun i => .int .i64 (z i).2.1) (fun i => .bool (z i).2.2)) (f0 : n0 ≤ 3000) (f1 : n ≤ 30) (f2 : RightS s0) (f3 : 2147483647 < s0.rc + s0.ow) :
    Calls Try.prog 5 #[.agg #[.int .i64 (s0).id, .int .u8 (s0).st, .int .i64 (s0).sd, .int .i64 (s0).rc, .int .i64 (s0).ow, .bool (s0).an, .bool (s0).en, .slice A0 n0 c0, .int .u8 (s0).ur, .bool (s0).inc, .int .i64 (s0).sl], .slice A n c] W fun e w' => e = .returned (.bool true) ∧ Below W.heap.size W w' := by
  have hl := h.len; have hmx := h.mx; have hcp := h.cap
  have GR := Lib.hid fun (A : Option Addr) (c : Nat) w => rGreat s0 A n0 c w (by omega)
  rw [show decide (3000 < n0) = false from decide_eq_false (by omega)] at GR
  have d1 : decide ((30 : Int) < n) = false := decide_eq_false (by omega)
  have RT := Lib.hid fun (A : Option Addr) (c : Nat) w => rSRight s0 ok0 A n0 c w hl (by omega)
  rw [show rightS s0 = true from rightS_yes f2] at RT
  have r4 := f2.2.2.2.1
  have r5 := f2.2.2.2.2.1
  have d3 : decide (2147483647 < s0.rc + s0.ow) = true := decide_eq_true (by omega)
  have e0 := r4.1; have e1 := r4.2; have e2 := r5.1; have e3 := r5.2; clear r4 r5
  have b0 := (Bel.refl W).alloc (.cells #[.int .i64 (s0).id, .int .u8 (s0).st, .int .i64 (s0).sd, .int .i64 (s0).rc, .int .i64 (s0).ow, .bool (s0).an, .bool (s0).en, .slice A0 n0 c0, .int .u8 (s0).ur, .bool (s0).inc, .int .i64 (s0).sl] 24)
  have q0 := Blk.new W 24 #[.int .i64 (s0).id, .int .u8 (s0).st, .int .i64 (s0).sd, .int .i64 (s0).rc, .int .i64 (s0).ow, .bool (s0).an, .bool (s0).en, .slice A0 n0 c0, .int .u8 (s0).ur, .bool (s0).inc, .int .i64 (s0).sl]
  clear hl hmx hcp f0 f1 f2 f3
  go_enter Try.func5, Try.ntmps5
  go_wp2_with (first
    | ((with_reducible refine wpList_id ?_); refine wpList_getB rfl _ _ rfl rfl q0 Try.underlying24 rfl (by rfl) ?_)
    | ((with_reducible refine wpList_id ?_); refine wpList_getG (by rfl) _ _ rfl rfl q0 Try.underlying24 rfl (by rfl) ?_)
    | (go_at_call 7; (with_reducible refine (GR.out _ _ _).mono ?_); rintro e w9 ⟨rfl, hb⟩; replace b0 := b0.below hb; (try replace q0 := q0.below hb); (try clear q0_3); (try have q0_3 := q0.at 3 rfl); (try clear q0_4); (try have q0_4 := q0.at 4 rfl))
    | (go_at_call 31; (with_reducible refine (RT.out _ _ _).mono ?_); rintro e w9 ⟨rfl, hb⟩; replace b0 := b0.below hb; (try replace q0 := q0.below hb); (try clear q0_3); (try have q0_3 := q0.at 3 rfl); (try clear q0_4); (try have q0_4 := q0.at 4 rfl))
    | (go_at_call 8; (with_reducible refine (fWakes _).mono ?_); rintro e w9 ⟨rfl, hb⟩; replace b0 := b0.below hb))
  go_ret
  exact ⟨rfl, b0.out⟩
end Go.Proofs.Ytaaeflomjcpfpaa
