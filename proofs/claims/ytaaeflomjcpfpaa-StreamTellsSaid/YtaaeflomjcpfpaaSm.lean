/- DATA: the contracts. -/
import Derived.Test.YtaaeflomjcpfpaaSl
import Derived.Test.YtaaeflomjcpfpaaSy
import Derived.Deep.Cut
namespace Go.Proofs.Ytaaeflomjcpfpaa
open Go.RowKit Go.Shelf
set_option linter.unusedVariables false
set_option linter.unusedSimpArgs false

def DtP (s : Str) (c : Cm) (w : World) (e : Ending) (W' : World) : Prop := ∃ A n d, e = .returned (.tuple #[.agg #[.int .i64 (s).id, .int .u8 (s).st, .int .i64 (s).sd, .int .i64 (s).rc, .int .i64 (s).ow, .bool (s).an, .bool (s).en, .slice A n d, .int .u8 (s).ur, .bool (s).inc, .int .i64 (s).sl], .agg #[.int .u8 (c).st, .bool (c).take, .bool (c).whole, .int .u32 (c).code]]) ∧ Mine w.heap.size W' A n d s.out ∧ Below w.heap.size w W'
def dataC (s : Str) (x : Int) (en : Bool) : Cm := if RightS s then (if (comesF s.st 0 en).take = true ∧ ¬(0 ≤ x ∧ x ≤ s.rc) then ⟨5, false, false, 3⟩ else comesF s.st 0 en) else ⟨s.st, false, false, 0⟩
def dataS (s : Str) (x : Int) (en : Bool) : Str :=
  if RightS s then (if (comesF s.st 0 en).take = true then (if 0 ≤ x ∧ x ≤ s.rc then overS { s with rc := s.rc - x, ow := if s.ow + x ≤ 2147483647 then s.ow + x else 2147483647 } (comesF s.st 0 en).st else overS s 5)
    else if (comesF s.st 0 en).whole = false ∧ (comesF s.st 0 en).code ≠ 0 then overS s (comesF s.st 0 en).st else s) else s
theorem comes_st0 {st kd : Int} {en : Bool} (h : 0 ≤ st) : 0 ≤ (comesF st kd en).st := by unfold comesF; (repeat' split) <;> simp <;> omega
theorem comes_whole0 {st kd : Int} {en : Bool} {cs : Int} (h : comesF st kd en = ⟨cs, false, true, 0⟩) : False := by
  unfold comesF at h
  repeat' split at h
  all_goals simp at h
theorem okTake {s : Str} (ok : StrOk s) {r o : Int} (hr : -9223372036854775808 ≤ r ∧ r ≤ 9223372036854775807) (ho : -9223372036854775808 ≤ o ∧ o ≤ 9223372036854775807) : StrOk { s with rc := r, ow := o } := ⟨ok.id, ok.st, ok.sd, hr, ho, ok.ur, ok.sl, ok.bs⟩
theorem Mine.drewM {base : Nat} {w : World} {A : Option Addr} {n c : Nat} {l : List Int} (h : Mine base w A n c l) : Mine base w.drew A n c l := h
set_option maxHeartbeats 1000000 in
theorem fDatano (s : Str) (ok : StrOk s) (x : Int) (en : Bool) (x0 : -9223372036854775808 ≤ x ∧ x ≤ 9223372036854775807) (A : Option Addr) (n c : Nat) (w : World) (h : Byt w A n c s.out) (hn : n ≤ 100000) (e0 : rightS s = false)  :
    Calls Try.prog 11 #[.agg #[.int .i64 (s).id, .int .u8 (s).st, .int .i64 (s).sd, .int .i64 (s).rc, .int .i64 (s).ow, .bool (s).an, .bool (s).en, .slice A n c, .int .u8 (s).ur, .bool (s).inc, .int .i64 (s).sl], .int .i64 x, .bool en] w (DtP s ⟨s.st, false, false, 0⟩ w) := by
  have hc := h.cap; have hx := h.mx; have hl := h.len
  have RT := Lib.hid fun (A : Option Addr) (c : Nat) W => fSRight s ok A n c W hl (by omega)
  rw [e0] at RT
  have b0 := (((Bel.refl w).alloc (.cells #[.int .i64 (s).id, .int .u8 (s).st, .int .i64 (s).sd, .int .i64 (s).rc, .int .i64 (s).ow, .bool (s).an, .bool (s).en, .slice A n c, .int .u8 (s).ur, .bool (s).inc, .int .i64 (s).sl] 24)).alloc (.cells #[.int .i64 0, .int .u8 0, .int .i64 0, .int .i64 0, .int .i64 0, .bool false, .bool false, .slice none 0 0, .int .u8 0, .bool false, .int .i64 0] 24)).alloc (.cells #[.int .u8 0, .bool false, .bool false, .int .u32 0] 32)
  have q0 := ((Blk.new w 24 #[.int .i64 (s).id, .int .u8 (s).st, .int .i64 (s).sd, .int .i64 (s).rc, .int .i64 (s).ow, .bool (s).an, .bool (s).en, .slice A n c, .int .u8 (s).ur, .bool (s).inc, .int .i64 (s).sl]).alloc (.cells #[.int .i64 0, .int .u8 0, .int .i64 0, .int .i64 0, .int .i64 0, .bool false, .bool false, .slice none 0 0, .int .u8 0, .bool false, .int .i64 0] 24)).alloc (.cells #[.int .u8 0, .bool false, .bool false, .int .u32 0] 32)
  have qr := (Blk.newAt (b := w.heap.size + 1) (w.alloc (.cells #[.int .i64 (s).id, .int .u8 (s).st, .int .i64 (s).sd, .int .i64 (s).rc, .int .i64 (s).ow, .bool (s).an, .bool (s).en, .slice A n c, .int .u8 (s).ur, .bool (s).inc, .int .i64 (s).sl] 24)) 24 #[.int .i64 0, .int .u8 0, .int .i64 0, .int .i64 0, .int .i64 0, .bool false, .bool false, .slice none 0 0, .int .u8 0, .bool false, .int .i64 0] (by simp)).alloc (.cells #[.int .u8 0, .bool false, .bool false, .int .u32 0] 32)
  have qc := Blk.newAt (b := w.heap.size + 1 + 1) ((w.alloc (.cells #[.int .i64 (s).id, .int .u8 (s).st, .int .i64 (s).sd, .int .i64 (s).rc, .int .i64 (s).ow, .bool (s).an, .bool (s).en, .slice A n c, .int .u8 (s).ur, .bool (s).inc, .int .i64 (s).sl] 24)).alloc (.cells #[.int .i64 0, .int .u8 0, .int .i64 0, .int .i64 0, .int .i64 0, .bool false, .bool false, .slice none 0 0, .int .u8 0, .bool false, .int .i64 0] 24)) 32 #[.int .u8 0, .bool false, .bool false, .int .u32 0] (by simp)
  have y := ((h.alloc (.cells #[.int .i64 (s).id, .int .u8 (s).st, .int .i64 (s).sd, .int .i64 (s).rc, .int .i64 (s).ow, .bool (s).an, .bool (s).en, .slice A n c, .int .u8 (s).ur, .bool (s).inc, .int .i64 (s).sl] 24)).alloc (.cells #[.int .i64 0, .int .u8 0, .int .i64 0, .int .i64 0, .int .i64 0, .bool false, .bool false, .slice none 0 0, .int .u8 0, .bool false, .int .i64 0] 24)).alloc (.cells #[.int .u8 0, .bool false, .bool false, .int .u32 0] 32)
  have sz := b0.out.size
  have HL := Lib.hid hl
  clear h hl e0
  go_enter Try.func11, Try.ntmps11
  go_wp2_with fail
  refine wp_region_G (fun w' => Blk w' w.heap.size 24 #[.int .i64 (s).id, .int .u8 (s).st, .int .i64 (s).sd, .int .i64 (s).rc, .int .i64 (s).ow, .bool (s).an, .bool (s).en, .slice A n c, .int .u8 (s).ur, .bool (s).inc, .int .i64 (s).sl]) [] (by kernel_rfl) ?_
  replace b0 := b0.drew
  replace q0 := q0.drew
  replace qr := qr.drew
  replace qc := qc.drew
  have S0 := q0
  replace y := y.drew
  refine wpAnyG_take 0 (v := _) rfl (by kernel_rfl) (fun _ _ _ h => h) S0 (Or.inl ⟨by rfl, fun w' hSw => exec_getB rfl rfl (hSw) Try.underlying24 rfl (by rfl)⟩) ?_; (try simp only [Act.put, go_sem])
  refine wpAnyG_take 2 (v := ?_) rfl (by kernel_rfl) (fun _ _ _ h => h) S0 (Or.inl ⟨by rfl, by intro w' hSw; go_simp; try with_reducible rfl⟩) ?_; (try simp only [Act.put, go_sem])
  refine wpAnyG_take 3 (v := ?_) rfl (by kernel_rfl) (fun _ _ _ h => h) S0 (Or.inl ⟨by rfl, by intro w' hSw; have z := (hSw).at 1 rfl; go_simp; try with_reducible rfl⟩) ?_; (try simp only [Act.put, go_sem])
  refine wpAnyG_take 4 (v := ?_) rfl (by kernel_rfl) (fun _ _ _ h => h) S0 (Or.inl ⟨by rfl, by intro w' hSw; go_simp; try with_reducible rfl⟩) ?_; (try simp only [Act.put, go_sem])
  refine wpAnyG_one 1 (by kernel_rfl) rfl (fun K hK => ?_)
  go_simp
  refine (fSOwn s A n c _ y (by omega)).mono ?_
  rintro e w9 ⟨A1, n1, c1, rfl, m1, hb⟩
  replace b0 := b0.below hb
  replace q0 := q0.below hb
  replace qr := qr.below hb
  replace qc := qc.below hb
  obtain rfl : n1 = n := by have h1 := m1.len; have h2 := HL.out; omega
  clear y hb
  clear S0
  have S0 := q0
  (try go_simp)
  refine hK.out _ _ (fun _ => S0) ?_
  clear hK K
  refine wpAnyG_one 5 (by kernel_rfl) rfl (fun K hK => ?_)
  rw [if_pos (by rfl)]
  refine wp_putB _ _ _ rfl rfl rfl qr (by rfl) (by rfl) (by rfl) ?_
  intro w9 qn hg
  replace b0 := b0.grown hg (by omega)
  replace m1 := m1.grownB qr (by decide) hg
  replace q0 := q0.grown hg (by omega)
  replace qc := qc.grown hg (by omega)
  clear hg qr
  have qr := qn
  clear qn
  clear S0
  have S0 := q0
  (try go_simp)
  refine hK.out _ _ (fun _ => S0) ?_
  clear hK K
  refine wpAnyG_one 6 (by kernel_rfl) rfl (fun K hK => ?_)
  rw [if_pos (by rfl)]
  refine wp_putB _ _ _ rfl rfl rfl qc (by rfl) (by rfl) (by rfl) ?_
  intro w9 qn hg
  replace b0 := b0.grown hg (by omega)
  replace m1 := m1.grownB qc (by decide) hg
  replace q0 := q0.grown hg (by omega)
  replace qr := qr.grown hg (by omega)
  clear hg qc
  have qc := qn
  clear qn
  clear S0
  have S0 := q0
  (try go_simp)
  refine hK.out _ _ (fun _ => S0) ?_
  clear hK K
  clear S0
  refine wpAnyG_done (by kernel_rfl) ?_ _
  have q0_1 := q0.at 1 rfl
  have q0_3 := q0.at 3 rfl
  have qr_3 := qr.at 3 rfl
  have qr_4 := qr.at 4 rfl
  have qc_0 := qc.at 0 rfl
  have qc_1 := qc.at 1 rfl
  have qc_2 := qc.at 2 rfl
  have qc_3 := qc.at 3 rfl
  go_wp2_with (first
    | (go_at_call 30; (with_reducible refine (RT.out _ _ _).mono ?_); rintro e w9 ⟨rfl, hb⟩; replace b0 := b0.below hb; (try replace q0 := q0.below hb); (try replace qr := qr.below hb); (try replace qc := qc.below hb); (try replace m1 := m1.below hb); (try replace m2 := m2.below hb); (try clear q0_1); (try have q0_1 := q0.at 1 rfl); (try clear q0_3); (try have q0_3 := q0.at 3 rfl); (try clear qr_3); (try have qr_3 := qr.at 3 rfl); (try clear qr_4); (try have qr_4 := qr.at 4 rfl); (try clear qc_0); (try have qc_0 := qc.at 0 rfl); (try clear qc_1); (try have qc_1 := qc.at 1 rfl); (try clear qc_2); (try have qc_2 := qc.at 2 rfl); (try clear qc_3); (try have qc_3 := qc.at 3 rfl))
    | ((with_reducible refine wpList_id ?_); refine wpList_getB rfl _ _ rfl rfl q0 Try.underlying24 rfl (by rfl) ?_)
    | ((with_reducible refine wpList_id ?_); refine wpList_getB rfl _ _ rfl rfl qr Try.underlying24 rfl (by rfl) ?_)
    | ((with_reducible refine wpList_id ?_); refine wpList_putB rfl _ _ _ rfl rfl rfl qr (by rfl) (by rfl) (by rfl) ?_; intro w9 qn hg; replace b0 := b0.grown hg (by omega); (try replace m1 := m1.grownB qr (by decide) hg); (try replace m2 := m2.grownB qr (by decide) hg); (try replace q0 := q0.grown hg (by omega)); (try replace qc := qc.grown hg (by omega)); clear hg qr; have qr := qn; clear qn; (try clear q0_1); (try have q0_1 := q0.at 1 rfl); (try clear q0_3); (try have q0_3 := q0.at 3 rfl); (try clear qr_3); (try have qr_3 := qr.at 3 rfl); (try clear qr_4); (try have qr_4 := qr.at 4 rfl); (try clear qc_0); (try have qc_0 := qc.at 0 rfl); (try clear qc_1); (try have qc_1 := qc.at 1 rfl); (try clear qc_2); (try have qc_2 := qc.at 2 rfl); (try clear qc_3); (try have qc_3 := qc.at 3 rfl))
    | ((with_reducible refine wpList_id ?_); refine wpList_putB rfl _ _ _ rfl rfl rfl qc (by rfl) (by rfl) (by rfl) ?_; intro w9 qn hg; replace b0 := b0.grown hg (by omega); (try replace m1 := m1.grownB qc (by decide) hg); (try replace m2 := m2.grownB qc (by decide) hg); (try replace q0 := q0.grown hg (by omega)); (try replace qr := qr.grown hg (by omega)); clear hg qc; have qc := qn; clear qn; (try clear q0_1); (try have q0_1 := q0.at 1 rfl); (try clear q0_3); (try have q0_3 := q0.at 3 rfl); (try clear qr_3); (try have qr_3 := qr.at 3 rfl); (try clear qr_4); (try have qr_4 := qr.at 4 rfl); (try clear qc_0); (try have qc_0 := qc.at 0 rfl); (try clear qc_1); (try have qc_1 := qc.at 1 rfl); (try clear qc_2); (try have qc_2 := qc.at 2 rfl); (try clear qc_3); (try have qc_3 := qc.at 3 rfl))
    | ((with_reducible refine wpList_id ?_); refine wpList_putF rfl _ _ _ rfl rfl rfl qr rfl (by rfl) (by rfl) ?_; intro w9 qn hg; (try simp only [List.setIfInBounds_toArray, List.set_cons_succ, List.set_cons_zero] at qn); replace b0 := b0.grown hg (by omega); (try replace m1 := m1.grownB qr (by decide) hg); (try replace m2 := m2.grownB qr (by decide) hg); (try replace q0 := q0.grown hg (by omega)); (try replace qc := qc.grown hg (by omega)); clear hg qr; have qr := qn; clear qn; (try clear q0_1); (try have q0_1 := q0.at 1 rfl); (try clear q0_3); (try have q0_3 := q0.at 3 rfl); (try clear qr_3); (try have qr_3 := qr.at 3 rfl); (try clear qr_4); (try have qr_4 := qr.at 4 rfl); (try clear qc_0); (try have qc_0 := qc.at 0 rfl); (try clear qc_1); (try have qc_1 := qc.at 1 rfl); (try clear qc_2); (try have qc_2 := qc.at 2 rfl); (try clear qc_3); (try have qc_3 := qc.at 3 rfl)))
  (try clear q0_1); (try clear q0_3); (try clear qr_3); (try clear qr_4); (try clear qc_0); (try clear qc_1); (try clear qc_2); (try clear qc_3)
  refine wp_region_G (fun w' => Blk w' (w.heap.size + 1) 24 #[.int .i64 ((s)).id, .int .u8 ((s)).st, .int .i64 ((s)).sd, .int .i64 ((s)).rc, .int .i64 ((s)).ow, .bool ((s)).an, .bool ((s)).en, .slice A1 n1 c1, .int .u8 ((s)).ur, .bool ((s)).inc, .int .i64 ((s)).sl] ∧ Blk w' (w.heap.size + 1 + 1) 32 #[.int .u8 s.st, .bool false, .bool false, .int .u32 0]) [] (by kernel_rfl) ?_
  replace b0 := b0.drew
  replace q0 := q0.drew
  replace qr := qr.drew
  replace qc := qc.drew
  replace m1 := m1.drew
  have S0 := And.intro qr qc
  refine wpAnyG_take 0 (v := _) rfl (by kernel_rfl) (fun _ _ _ h => h) S0 (Or.inl ⟨by rfl, fun w' hSw => exec_getB rfl rfl (hSw.1) Try.underlying24 rfl (by rfl)⟩) ?_; (try simp only [Act.put, go_sem])
  refine wpAnyG_take 1 (v := _) rfl (by kernel_rfl) (fun _ _ _ h => h) S0 (Or.inl ⟨by rfl, fun w' hSw => exec_getB rfl rfl (hSw.2) Try.underlying32 rfl (by rfl)⟩) ?_; (try simp only [Act.put, go_sem])
  refine wpAnyG_one 2 (by kernel_rfl) rfl (fun K hK => ?_)
  rw [if_pos (by rfl)]
  refine wp_putB _ _ _ rfl rfl rfl qr (by rfl) (by rfl) (by rfl) ?_
  intro w9 qn hg
  replace b0 := b0.grown hg (by omega)
  replace m1 := m1.grownB qr (by decide) hg
  replace q0 := q0.grown hg (by omega)
  replace qc := qc.grown hg (by omega)
  clear hg qr
  have qr := qn
  clear qn
  clear S0
  have S0 := And.intro qr qc
  (try go_simp)
  refine hK.out _ _ (fun _ => S0) ?_
  clear hK K
  refine wpAnyG_one 3 (by kernel_rfl) rfl (fun K hK => ?_)
  rw [if_pos (by rfl)]
  refine wp_putB _ _ _ rfl rfl rfl qc (by rfl) (by rfl) (by rfl) ?_
  intro w9 qn hg
  replace b0 := b0.grown hg (by omega)
  replace m1 := m1.grownB qc (by decide) hg
  replace q0 := q0.grown hg (by omega)
  replace qr := qr.grown hg (by omega)
  clear hg qc
  have qc := qn
  clear qn
  clear S0
  have S0 := And.intro qr qc
  (try go_simp)
  refine hK.out _ _ (fun _ => S0) ?_
  clear hK K
  clear S0
  refine wpAnyG_done (by kernel_rfl) ?_ _
  go_wp2_with fail
  exact res2cc rfl rfl rfl rfl qr Try.underlying24 rfl (by rfl) qc Try.underlying32 rfl (by rfl) ⟨_, _, _, rfl, m1.base_le (by first | exact Nat.le_refl _ | (simp; omega)), b0.out⟩
set_option maxHeartbeats 1000000 in
theorem fDataw1 (s : Str) (ok : StrOk s) (x : Int) (en : Bool) (x0 : -9223372036854775808 ≤ x ∧ x ≤ 9223372036854775807) (cs : Int) (cc : Int) (k0 : 0 ≤ cs) (hc0 : comesF s.st 0 en = ⟨cs, false, false, cc⟩) (A : Option Addr) (n c : Nat) (w : World) (h : Byt w A n c s.out) (hn : n ≤ 100000) (e0 : rightS s = true) (f0 : (cc != 0) = true) :
    Calls Try.prog 11 #[.agg #[.int .i64 (s).id, .int .u8 (s).st, .int .i64 (s).sd, .int .i64 (s).rc, .int .i64 (s).ow, .bool (s).an, .bool (s).en, .slice A n c, .int .u8 (s).ur, .bool (s).inc, .int .i64 (s).sl], .int .i64 x, .bool en] w (DtP (overS (s) cs) ⟨cs, false, false, cc⟩ w) := by
  have hc := h.cap; have hx := h.mx; have hl := h.len
  have RT := Lib.hid fun (A : Option Addr) (c : Nat) W => fSRight s ok A n c W hl (by omega)
  rw [e0] at RT
  have hR : RightS s := of_decide_eq_true e0
  obtain ⟨_, _, _, ⟨r0, r1⟩, ⟨w0, w1⟩, _⟩ := hR
  have CM := Lib.hid fun W => fComes s.st 0 en ok.st.1 W
  rw [hc0] at CM
  have OV := Lib.hid fun (A : Option Addr) (c : Nat) W (h : Byt W A n c s.out) => fOver s ok cs k0 A n c W h hn
  generalize overS s cs = tt at *
  have b0 := (((Bel.refl w).alloc (.cells #[.int .i64 (s).id, .int .u8 (s).st, .int .i64 (s).sd, .int .i64 (s).rc, .int .i64 (s).ow, .bool (s).an, .bool (s).en, .slice A n c, .int .u8 (s).ur, .bool (s).inc, .int .i64 (s).sl] 24)).alloc (.cells #[.int .i64 0, .int .u8 0, .int .i64 0, .int .i64 0, .int .i64 0, .bool false, .bool false, .slice none 0 0, .int .u8 0, .bool false, .int .i64 0] 24)).alloc (.cells #[.int .u8 0, .bool false, .bool false, .int .u32 0] 32)
  have q0 := ((Blk.new w 24 #[.int .i64 (s).id, .int .u8 (s).st, .int .i64 (s).sd, .int .i64 (s).rc, .int .i64 (s).ow, .bool (s).an, .bool (s).en, .slice A n c, .int .u8 (s).ur, .bool (s).inc, .int .i64 (s).sl]).alloc (.cells #[.int .i64 0, .int .u8 0, .int .i64 0, .int .i64 0, .int .i64 0, .bool false, .bool false, .slice none 0 0, .int .u8 0, .bool false, .int .i64 0] 24)).alloc (.cells #[.int .u8 0, .bool false, .bool false, .int .u32 0] 32)
  have qr := (Blk.newAt (b := w.heap.size + 1) (w.alloc (.cells #[.int .i64 (s).id, .int .u8 (s).st, .int .i64 (s).sd, .int .i64 (s).rc, .int .i64 (s).ow, .bool (s).an, .bool (s).en, .slice A n c, .int .u8 (s).ur, .bool (s).inc, .int .i64 (s).sl] 24)) 24 #[.int .i64 0, .int .u8 0, .int .i64 0, .int .i64 0, .int .i64 0, .bool false, .bool false, .slice none 0 0, .int .u8 0, .bool false, .int .i64 0] (by simp)).alloc (.cells #[.int .u8 0, .bool false, .bool false, .int .u32 0] 32)
  have qc := Blk.newAt (b := w.heap.size + 1 + 1) ((w.alloc (.cells #[.int .i64 (s).id, .int .u8 (s).st, .int .i64 (s).sd, .int .i64 (s).rc, .int .i64 (s).ow, .bool (s).an, .bool (s).en, .slice A n c, .int .u8 (s).ur, .bool (s).inc, .int .i64 (s).sl] 24)).alloc (.cells #[.int .i64 0, .int .u8 0, .int .i64 0, .int .i64 0, .int .i64 0, .bool false, .bool false, .slice none 0 0, .int .u8 0, .bool false, .int .i64 0] 24)) 32 #[.int .u8 0, .bool false, .bool false, .int .u32 0] (by simp)
  have y := ((h.alloc (.cells #[.int .i64 (s).id, .int .u8 (s).st, .int .i64 (s).sd, .int .i64 (s).rc, .int .i64 (s).ow, .bool (s).an, .bool (s).en, .slice A n c, .int .u8 (s).ur, .bool (s).inc, .int .i64 (s).sl] 24)).alloc (.cells #[.int .i64 0, .int .u8 0, .int .i64 0, .int .i64 0, .int .i64 0, .bool false, .bool false, .slice none 0 0, .int .u8 0, .bool false, .int .i64 0] 24)).alloc (.cells #[.int .u8 0, .bool false, .bool false, .int .u32 0] 32)
  have sz := b0.out.size
  have HL := Lib.hid hl
  clear h hl e0 hc0
  go_enter Try.func11, Try.ntmps11
  go_wp2_with fail
  refine wp_region_G (fun w' => Blk w' w.heap.size 24 #[.int .i64 (s).id, .int .u8 (s).st, .int .i64 (s).sd, .int .i64 (s).rc, .int .i64 (s).ow, .bool (s).an, .bool (s).en, .slice A n c, .int .u8 (s).ur, .bool (s).inc, .int .i64 (s).sl]) [] (by kernel_rfl) ?_
  replace b0 := b0.drew
  replace q0 := q0.drew
  replace qr := qr.drew
  replace qc := qc.drew
  have S0 := q0
  replace y := y.drew
  refine wpAnyG_take 0 (v := _) rfl (by kernel_rfl) (fun _ _ _ h => h) S0 (Or.inl ⟨by rfl, fun w' hSw => exec_getB rfl rfl (hSw) Try.underlying24 rfl (by rfl)⟩) ?_; (try simp only [Act.put, go_sem])
  refine wpAnyG_take 2 (v := ?_) rfl (by kernel_rfl) (fun _ _ _ h => h) S0 (Or.inl ⟨by rfl, by intro w' hSw; go_simp; try with_reducible rfl⟩) ?_; (try simp only [Act.put, go_sem])
  refine wpAnyG_take 3 (v := ?_) rfl (by kernel_rfl) (fun _ _ _ h => h) S0 (Or.inl ⟨by rfl, by intro w' hSw; have z := (hSw).at 1 rfl; go_simp; try with_reducible rfl⟩) ?_; (try simp only [Act.put, go_sem])
  refine wpAnyG_take 4 (v := ?_) rfl (by kernel_rfl) (fun _ _ _ h => h) S0 (Or.inl ⟨by rfl, by intro w' hSw; go_simp; try with_reducible rfl⟩) ?_; (try simp only [Act.put, go_sem])
  refine wpAnyG_one 1 (by kernel_rfl) rfl (fun K hK => ?_)
  go_simp
  refine (fSOwn s A n c _ y (by omega)).mono ?_
  rintro e w9 ⟨A1, n1, c1, rfl, m1, hb⟩
  replace b0 := b0.below hb
  replace q0 := q0.below hb
  replace qr := qr.below hb
  replace qc := qc.below hb
  obtain rfl : n1 = n := by have h1 := m1.len; have h2 := HL.out; omega
  clear y hb
  clear S0
  have S0 := q0
  (try go_simp)
  refine hK.out _ _ (fun _ => S0) ?_
  clear hK K
  refine wpAnyG_one 5 (by kernel_rfl) rfl (fun K hK => ?_)
  rw [if_pos (by rfl)]
  refine wp_putB _ _ _ rfl rfl rfl qr (by rfl) (by rfl) (by rfl) ?_
  intro w9 qn hg
  replace b0 := b0.grown hg (by omega)
  replace m1 := m1.grownB qr (by decide) hg
  replace q0 := q0.grown hg (by omega)
  replace qc := qc.grown hg (by omega)
  clear hg qr
  have qr := qn
  clear qn
  clear S0
  have S0 := q0
  (try go_simp)
  refine hK.out _ _ (fun _ => S0) ?_
  clear hK K
  refine wpAnyG_one 6 (by kernel_rfl) rfl (fun K hK => ?_)
  rw [if_pos (by rfl)]
  refine wp_putB _ _ _ rfl rfl rfl qc (by rfl) (by rfl) (by rfl) ?_
  intro w9 qn hg
  replace b0 := b0.grown hg (by omega)
  replace m1 := m1.grownB qc (by decide) hg
  replace q0 := q0.grown hg (by omega)
  replace qr := qr.grown hg (by omega)
  clear hg qc
  have qc := qn
  clear qn
  clear S0
  have S0 := q0
  (try go_simp)
  refine hK.out _ _ (fun _ => S0) ?_
  clear hK K
  clear S0
  refine wpAnyG_done (by kernel_rfl) ?_ _
  have q0_1 := q0.at 1 rfl
  have q0_3 := q0.at 3 rfl
  have qr_3 := qr.at 3 rfl
  have qr_4 := qr.at 4 rfl
  have qc_0 := qc.at 0 rfl
  have qc_1 := qc.at 1 rfl
  have qc_2 := qc.at 2 rfl
  have qc_3 := qc.at 3 rfl
  go_wp2_with (first
    | (go_at_call 30; (with_reducible refine (RT.out _ _ _).mono ?_); rintro e w9 ⟨rfl, hb⟩; replace b0 := b0.below hb; (try replace q0 := q0.below hb); (try replace qr := qr.below hb); (try replace qc := qc.below hb); (try replace m1 := m1.below hb); (try replace m2 := m2.below hb); (try clear q0_1); (try have q0_1 := q0.at 1 rfl); (try clear q0_3); (try have q0_3 := q0.at 3 rfl); (try clear qr_3); (try have qr_3 := qr.at 3 rfl); (try clear qr_4); (try have qr_4 := qr.at 4 rfl); (try clear qc_0); (try have qc_0 := qc.at 0 rfl); (try clear qc_1); (try have qc_1 := qc.at 1 rfl); (try clear qc_2); (try have qc_2 := qc.at 2 rfl); (try clear qc_3); (try have qc_3 := qc.at 3 rfl))
    | (go_at_call 14; (with_reducible refine (CM.out _).mono ?_); rintro e w9 ⟨rfl, hb⟩; replace b0 := b0.below hb; (try replace q0 := q0.below hb); (try replace qr := qr.below hb); (try replace qc := qc.below hb); (try replace m1 := m1.below hb); (try replace m2 := m2.below hb); (try clear q0_1); (try have q0_1 := q0.at 1 rfl); (try clear q0_3); (try have q0_3 := q0.at 3 rfl); (try clear qr_3); (try have qr_3 := qr.at 3 rfl); (try clear qr_4); (try have qr_4 := qr.at 4 rfl); (try clear qc_0); (try have qc_0 := qc.at 0 rfl); (try clear qc_1); (try have qc_1 := qc.at 1 rfl); (try clear qc_2); (try have qc_2 := qc.at 2 rfl); (try clear qc_3); (try have qc_3 := qc.at 3 rfl))
    | (go_at_call 24; (with_reducible refine (OV.out _ _ _ m1.byt).mono ?_); rintro e w9 ⟨A2, n2, c2, rfl, m2, hb⟩; have hs := b0.out.size; replace m2 := m2.base_le hs; clear hs; replace b0 := b0.below hb; (try replace q0 := q0.below hb); (try replace qr := qr.below hb); (try replace qc := qc.below hb); (try replace m1 := m1.below hb); skip; (try clear q0_1); (try have q0_1 := q0.at 1 rfl); (try clear q0_3); (try have q0_3 := q0.at 3 rfl); (try clear qr_3); (try have qr_3 := qr.at 3 rfl); (try clear qr_4); (try have qr_4 := qr.at 4 rfl); (try clear qc_0); (try have qc_0 := qc.at 0 rfl); (try clear qc_1); (try have qc_1 := qc.at 1 rfl); (try clear qc_2); (try have qc_2 := qc.at 2 rfl); (try clear qc_3); (try have qc_3 := qc.at 3 rfl))
    | ((with_reducible refine wpList_id ?_); refine wpList_getB rfl _ _ rfl rfl q0 Try.underlying24 rfl (by rfl) ?_)
    | ((with_reducible refine wpList_id ?_); refine wpList_getB rfl _ _ rfl rfl qr Try.underlying24 rfl (by rfl) ?_)
    | ((with_reducible refine wpList_id ?_); refine wpList_putB rfl _ _ _ rfl rfl rfl qr (by rfl) (by rfl) (by rfl) ?_; intro w9 qn hg; replace b0 := b0.grown hg (by omega); (try replace m1 := m1.grownB qr (by decide) hg); (try replace m2 := m2.grownB qr (by decide) hg); (try replace q0 := q0.grown hg (by omega)); (try replace qc := qc.grown hg (by omega)); clear hg qr; have qr := qn; clear qn; (try clear q0_1); (try have q0_1 := q0.at 1 rfl); (try clear q0_3); (try have q0_3 := q0.at 3 rfl); (try clear qr_3); (try have qr_3 := qr.at 3 rfl); (try clear qr_4); (try have qr_4 := qr.at 4 rfl); (try clear qc_0); (try have qc_0 := qc.at 0 rfl); (try clear qc_1); (try have qc_1 := qc.at 1 rfl); (try clear qc_2); (try have qc_2 := qc.at 2 rfl); (try clear qc_3); (try have qc_3 := qc.at 3 rfl))
    | ((with_reducible refine wpList_id ?_); refine wpList_putB rfl _ _ _ rfl rfl rfl qc (by rfl) (by rfl) (by rfl) ?_; intro w9 qn hg; replace b0 := b0.grown hg (by omega); (try replace m1 := m1.grownB qc (by decide) hg); (try replace m2 := m2.grownB qc (by decide) hg); (try replace q0 := q0.grown hg (by omega)); (try replace qr := qr.grown hg (by omega)); clear hg qc; have qc := qn; clear qn; (try clear q0_1); (try have q0_1 := q0.at 1 rfl); (try clear q0_3); (try have q0_3 := q0.at 3 rfl); (try clear qr_3); (try have qr_3 := qr.at 3 rfl); (try clear qr_4); (try have qr_4 := qr.at 4 rfl); (try clear qc_0); (try have qc_0 := qc.at 0 rfl); (try clear qc_1); (try have qc_1 := qc.at 1 rfl); (try clear qc_2); (try have qc_2 := qc.at 2 rfl); (try clear qc_3); (try have qc_3 := qc.at 3 rfl))
    | ((with_reducible refine wpList_id ?_); refine wpList_putF rfl _ _ _ rfl rfl rfl qr rfl (by rfl) (by rfl) ?_; intro w9 qn hg; (try simp only [List.setIfInBounds_toArray, List.set_cons_succ, List.set_cons_zero] at qn); replace b0 := b0.grown hg (by omega); (try replace m1 := m1.grownB qr (by decide) hg); (try replace m2 := m2.grownB qr (by decide) hg); (try replace q0 := q0.grown hg (by omega)); (try replace qc := qc.grown hg (by omega)); clear hg qr; have qr := qn; clear qn; (try clear q0_1); (try have q0_1 := q0.at 1 rfl); (try clear q0_3); (try have q0_3 := q0.at 3 rfl); (try clear qr_3); (try have qr_3 := qr.at 3 rfl); (try clear qr_4); (try have qr_4 := qr.at 4 rfl); (try clear qc_0); (try have qc_0 := qc.at 0 rfl); (try clear qc_1); (try have qc_1 := qc.at 1 rfl); (try clear qc_2); (try have qc_2 := qc.at 2 rfl); (try clear qc_3); (try have qc_3 := qc.at 3 rfl)))
  (try clear q0_1); (try clear q0_3); (try clear qr_3); (try clear qr_4); (try clear qc_0); (try clear qc_1); (try clear qc_2); (try clear qc_3)
  refine wp_region_G (fun w' => Blk w' (w.heap.size + 1) 24 #[.int .i64 ((tt)).id, .int .u8 ((tt)).st, .int .i64 ((tt)).sd, .int .i64 ((tt)).rc, .int .i64 ((tt)).ow, .bool ((tt)).an, .bool ((tt)).en, .slice A2 n2 c2, .int .u8 ((tt)).ur, .bool ((tt)).inc, .int .i64 ((tt)).sl] ∧ Blk w' (w.heap.size + 1 + 1) 32 #[.int .u8 cs, .bool false, .bool false, .int .u32 cc]) [] (by kernel_rfl) ?_
  replace b0 := b0.drew
  replace q0 := q0.drew
  replace qr := qr.drew
  replace qc := qc.drew
  replace m1 := m1.drew
  replace m2 := m2.drew
  have S0 := And.intro qr qc
  refine wpAnyG_take 0 (v := _) rfl (by kernel_rfl) (fun _ _ _ h => h) S0 (Or.inl ⟨by rfl, fun w' hSw => exec_getB rfl rfl (hSw.1) Try.underlying24 rfl (by rfl)⟩) ?_; (try simp only [Act.put, go_sem])
  refine wpAnyG_take 1 (v := _) rfl (by kernel_rfl) (fun _ _ _ h => h) S0 (Or.inl ⟨by rfl, fun w' hSw => exec_getB rfl rfl (hSw.2) Try.underlying32 rfl (by rfl)⟩) ?_; (try simp only [Act.put, go_sem])
  refine wpAnyG_one 2 (by kernel_rfl) rfl (fun K hK => ?_)
  rw [if_pos (by rfl)]
  refine wp_putB _ _ _ rfl rfl rfl qr (by rfl) (by rfl) (by rfl) ?_
  intro w9 qn hg
  replace b0 := b0.grown hg (by omega)
  replace m1 := m1.grownB qr (by decide) hg
  replace m2 := m2.grownB qr (by decide) hg
  replace q0 := q0.grown hg (by omega)
  replace qc := qc.grown hg (by omega)
  clear hg qr
  have qr := qn
  clear qn
  clear S0
  have S0 := And.intro qr qc
  (try go_simp)
  refine hK.out _ _ (fun _ => S0) ?_
  clear hK K
  refine wpAnyG_one 3 (by kernel_rfl) rfl (fun K hK => ?_)
  rw [if_pos (by rfl)]
  refine wp_putB _ _ _ rfl rfl rfl qc (by rfl) (by rfl) (by rfl) ?_
  intro w9 qn hg
  replace b0 := b0.grown hg (by omega)
  replace m1 := m1.grownB qc (by decide) hg
  replace m2 := m2.grownB qc (by decide) hg
  replace q0 := q0.grown hg (by omega)
  replace qr := qr.grown hg (by omega)
  clear hg qc
  have qc := qn
  clear qn
  clear S0
  have S0 := And.intro qr qc
  (try go_simp)
  refine hK.out _ _ (fun _ => S0) ?_
  clear hK K
  clear S0
  refine wpAnyG_done (by kernel_rfl) ?_ _
  go_wp2_with fail
  exact res2cc rfl rfl rfl rfl qr Try.underlying24 rfl (by rfl) qc Try.underlying32 rfl (by rfl) ⟨_, _, _, rfl, m2.base_le (by first | exact Nat.le_refl _ | (simp; omega)), b0.out⟩
set_option maxHeartbeats 1000000 in
theorem fDataw2 (s : Str) (ok : StrOk s) (x : Int) (en : Bool) (x0 : -9223372036854775808 ≤ x ∧ x ≤ 9223372036854775807) (cs : Int) (cc : Int) (k0 : 0 ≤ cs) (hc0 : comesF s.st 0 en = ⟨cs, false, true, cc⟩) (A : Option Addr) (n c : Nat) (w : World) (h : Byt w A n c s.out) (hn : n ≤ 100000) (e0 : rightS s = true) (f0 : (cc != 0) = true) :
    Calls Try.prog 11 #[.agg #[.int .i64 (s).id, .int .u8 (s).st, .int .i64 (s).sd, .int .i64 (s).rc, .int .i64 (s).ow, .bool (s).an, .bool (s).en, .slice A n c, .int .u8 (s).ur, .bool (s).inc, .int .i64 (s).sl], .int .i64 x, .bool en] w (DtP s ⟨cs, false, true, cc⟩ w) := by
  have hc := h.cap; have hx := h.mx; have hl := h.len
  have RT := Lib.hid fun (A : Option Addr) (c : Nat) W => fSRight s ok A n c W hl (by omega)
  rw [e0] at RT
  have hR : RightS s := of_decide_eq_true e0
  obtain ⟨_, _, _, ⟨r0, r1⟩, ⟨w0, w1⟩, _⟩ := hR
  have CM := Lib.hid fun W => fComes s.st 0 en ok.st.1 W
  rw [hc0] at CM
  have b0 := (((Bel.refl w).alloc (.cells #[.int .i64 (s).id, .int .u8 (s).st, .int .i64 (s).sd, .int .i64 (s).rc, .int .i64 (s).ow, .bool (s).an, .bool (s).en, .slice A n c, .int .u8 (s).ur, .bool (s).inc, .int .i64 (s).sl] 24)).alloc (.cells #[.int .i64 0, .int .u8 0, .int .i64 0, .int .i64 0, .int .i64 0, .bool false, .bool false, .slice none 0 0, .int .u8 0, .bool false, .int .i64 0] 24)).alloc (.cells #[.int .u8 0, .bool false, .bool false, .int .u32 0] 32)
  have q0 := ((Blk.new w 24 #[.int .i64 (s).id, .int .u8 (s).st, .int .i64 (s).sd, .int .i64 (s).rc, .int .i64 (s).ow, .bool (s).an, .bool (s).en, .slice A n c, .int .u8 (s).ur, .bool (s).inc, .int .i64 (s).sl]).alloc (.cells #[.int .i64 0, .int .u8 0, .int .i64 0, .int .i64 0, .int .i64 0, .bool false, .bool false, .slice none 0 0, .int .u8 0, .bool false, .int .i64 0] 24)).alloc (.cells #[.int .u8 0, .bool false, .bool false, .int .u32 0] 32)
  have qr := (Blk.newAt (b := w.heap.size + 1) (w.alloc (.cells #[.int .i64 (s).id, .int .u8 (s).st, .int .i64 (s).sd, .int .i64 (s).rc, .int .i64 (s).ow, .bool (s).an, .bool (s).en, .slice A n c, .int .u8 (s).ur, .bool (s).inc, .int .i64 (s).sl] 24)) 24 #[.int .i64 0, .int .u8 0, .int .i64 0, .int .i64 0, .int .i64 0, .bool false, .bool false, .slice none 0 0, .int .u8 0, .bool false, .int .i64 0] (by simp)).alloc (.cells #[.int .u8 0, .bool false, .bool false, .int .u32 0] 32)
  have qc := Blk.newAt (b := w.heap.size + 1 + 1) ((w.alloc (.cells #[.int .i64 (s).id, .int .u8 (s).st, .int .i64 (s).sd, .int .i64 (s).rc, .int .i64 (s).ow, .bool (s).an, .bool (s).en, .slice A n c, .int .u8 (s).ur, .bool (s).inc, .int .i64 (s).sl] 24)).alloc (.cells #[.int .i64 0, .int .u8 0, .int .i64 0, .int .i64 0, .int .i64 0, .bool false, .bool false, .slice none 0 0, .int .u8 0, .bool false, .int .i64 0] 24)) 32 #[.int .u8 0, .bool false, .bool false, .int .u32 0] (by simp)
  have y := ((h.alloc (.cells #[.int .i64 (s).id, .int .u8 (s).st, .int .i64 (s).sd, .int .i64 (s).rc, .int .i64 (s).ow, .bool (s).an, .bool (s).en, .slice A n c, .int .u8 (s).ur, .bool (s).inc, .int .i64 (s).sl] 24)).alloc (.cells #[.int .i64 0, .int .u8 0, .int .i64 0, .int .i64 0, .int .i64 0, .bool false, .bool false, .slice none 0 0, .int .u8 0, .bool false, .int .i64 0] 24)).alloc (.cells #[.int .u8 0, .bool false, .bool false, .int .u32 0] 32)
  have sz := b0.out.size
  have HL := Lib.hid hl
  clear h hl e0 hc0
  go_enter Try.func11, Try.ntmps11
  go_wp2_with fail
  refine wp_region_G (fun w' => Blk w' w.heap.size 24 #[.int .i64 (s).id, .int .u8 (s).st, .int .i64 (s).sd, .int .i64 (s).rc, .int .i64 (s).ow, .bool (s).an, .bool (s).en, .slice A n c, .int .u8 (s).ur, .bool (s).inc, .int .i64 (s).sl]) [] (by kernel_rfl) ?_
  replace b0 := b0.drew
  replace q0 := q0.drew
  replace qr := qr.drew
  replace qc := qc.drew
  have S0 := q0
  replace y := y.drew
  refine wpAnyG_take 0 (v := _) rfl (by kernel_rfl) (fun _ _ _ h => h) S0 (Or.inl ⟨by rfl, fun w' hSw => exec_getB rfl rfl (hSw) Try.underlying24 rfl (by rfl)⟩) ?_; (try simp only [Act.put, go_sem])
  refine wpAnyG_take 2 (v := ?_) rfl (by kernel_rfl) (fun _ _ _ h => h) S0 (Or.inl ⟨by rfl, by intro w' hSw; go_simp; try with_reducible rfl⟩) ?_; (try simp only [Act.put, go_sem])
  refine wpAnyG_take 3 (v := ?_) rfl (by kernel_rfl) (fun _ _ _ h => h) S0 (Or.inl ⟨by rfl, by intro w' hSw; have z := (hSw).at 1 rfl; go_simp; try with_reducible rfl⟩) ?_; (try simp only [Act.put, go_sem])
  refine wpAnyG_take 4 (v := ?_) rfl (by kernel_rfl) (fun _ _ _ h => h) S0 (Or.inl ⟨by rfl, by intro w' hSw; go_simp; try with_reducible rfl⟩) ?_; (try simp only [Act.put, go_sem])
  refine wpAnyG_one 1 (by kernel_rfl) rfl (fun K hK => ?_)
  go_simp
  refine (fSOwn s A n c _ y (by omega)).mono ?_
  rintro e w9 ⟨A1, n1, c1, rfl, m1, hb⟩
  replace b0 := b0.below hb
  replace q0 := q0.below hb
  replace qr := qr.below hb
  replace qc := qc.below hb
  obtain rfl : n1 = n := by have h1 := m1.len; have h2 := HL.out; omega
  clear y hb
  clear S0
  have S0 := q0
  (try go_simp)
  refine hK.out _ _ (fun _ => S0) ?_
  clear hK K
  refine wpAnyG_one 5 (by kernel_rfl) rfl (fun K hK => ?_)
  rw [if_pos (by rfl)]
  refine wp_putB _ _ _ rfl rfl rfl qr (by rfl) (by rfl) (by rfl) ?_
  intro w9 qn hg
  replace b0 := b0.grown hg (by omega)
  replace m1 := m1.grownB qr (by decide) hg
  replace q0 := q0.grown hg (by omega)
  replace qc := qc.grown hg (by omega)
  clear hg qr
  have qr := qn
  clear qn
  clear S0
  have S0 := q0
  (try go_simp)
  refine hK.out _ _ (fun _ => S0) ?_
  clear hK K
  refine wpAnyG_one 6 (by kernel_rfl) rfl (fun K hK => ?_)
  rw [if_pos (by rfl)]
  refine wp_putB _ _ _ rfl rfl rfl qc (by rfl) (by rfl) (by rfl) ?_
  intro w9 qn hg
  replace b0 := b0.grown hg (by omega)
  replace m1 := m1.grownB qc (by decide) hg
  replace q0 := q0.grown hg (by omega)
  replace qr := qr.grown hg (by omega)
  clear hg qc
  have qc := qn
  clear qn
  clear S0
  have S0 := q0
  (try go_simp)
  refine hK.out _ _ (fun _ => S0) ?_
  clear hK K
  clear S0
  refine wpAnyG_done (by kernel_rfl) ?_ _
  have q0_1 := q0.at 1 rfl
  have q0_3 := q0.at 3 rfl
  have qr_3 := qr.at 3 rfl
  have qr_4 := qr.at 4 rfl
  have qc_0 := qc.at 0 rfl
  have qc_1 := qc.at 1 rfl
  have qc_2 := qc.at 2 rfl
  have qc_3 := qc.at 3 rfl
  go_wp2_with (first
    | (go_at_call 30; (with_reducible refine (RT.out _ _ _).mono ?_); rintro e w9 ⟨rfl, hb⟩; replace b0 := b0.below hb; (try replace q0 := q0.below hb); (try replace qr := qr.below hb); (try replace qc := qc.below hb); (try replace m1 := m1.below hb); (try replace m2 := m2.below hb); (try clear q0_1); (try have q0_1 := q0.at 1 rfl); (try clear q0_3); (try have q0_3 := q0.at 3 rfl); (try clear qr_3); (try have qr_3 := qr.at 3 rfl); (try clear qr_4); (try have qr_4 := qr.at 4 rfl); (try clear qc_0); (try have qc_0 := qc.at 0 rfl); (try clear qc_1); (try have qc_1 := qc.at 1 rfl); (try clear qc_2); (try have qc_2 := qc.at 2 rfl); (try clear qc_3); (try have qc_3 := qc.at 3 rfl))
    | (go_at_call 14; (with_reducible refine (CM.out _).mono ?_); rintro e w9 ⟨rfl, hb⟩; replace b0 := b0.below hb; (try replace q0 := q0.below hb); (try replace qr := qr.below hb); (try replace qc := qc.below hb); (try replace m1 := m1.below hb); (try replace m2 := m2.below hb); (try clear q0_1); (try have q0_1 := q0.at 1 rfl); (try clear q0_3); (try have q0_3 := q0.at 3 rfl); (try clear qr_3); (try have qr_3 := qr.at 3 rfl); (try clear qr_4); (try have qr_4 := qr.at 4 rfl); (try clear qc_0); (try have qc_0 := qc.at 0 rfl); (try clear qc_1); (try have qc_1 := qc.at 1 rfl); (try clear qc_2); (try have qc_2 := qc.at 2 rfl); (try clear qc_3); (try have qc_3 := qc.at 3 rfl))
    | ((with_reducible refine wpList_id ?_); refine wpList_getB rfl _ _ rfl rfl q0 Try.underlying24 rfl (by rfl) ?_)
    | ((with_reducible refine wpList_id ?_); refine wpList_getB rfl _ _ rfl rfl qr Try.underlying24 rfl (by rfl) ?_)
    | ((with_reducible refine wpList_id ?_); refine wpList_putB rfl _ _ _ rfl rfl rfl qr (by rfl) (by rfl) (by rfl) ?_; intro w9 qn hg; replace b0 := b0.grown hg (by omega); (try replace m1 := m1.grownB qr (by decide) hg); (try replace m2 := m2.grownB qr (by decide) hg); (try replace q0 := q0.grown hg (by omega)); (try replace qc := qc.grown hg (by omega)); clear hg qr; have qr := qn; clear qn; (try clear q0_1); (try have q0_1 := q0.at 1 rfl); (try clear q0_3); (try have q0_3 := q0.at 3 rfl); (try clear qr_3); (try have qr_3 := qr.at 3 rfl); (try clear qr_4); (try have qr_4 := qr.at 4 rfl); (try clear qc_0); (try have qc_0 := qc.at 0 rfl); (try clear qc_1); (try have qc_1 := qc.at 1 rfl); (try clear qc_2); (try have qc_2 := qc.at 2 rfl); (try clear qc_3); (try have qc_3 := qc.at 3 rfl))
    | ((with_reducible refine wpList_id ?_); refine wpList_putB rfl _ _ _ rfl rfl rfl qc (by rfl) (by rfl) (by rfl) ?_; intro w9 qn hg; replace b0 := b0.grown hg (by omega); (try replace m1 := m1.grownB qc (by decide) hg); (try replace m2 := m2.grownB qc (by decide) hg); (try replace q0 := q0.grown hg (by omega)); (try replace qr := qr.grown hg (by omega)); clear hg qc; have qc := qn; clear qn; (try clear q0_1); (try have q0_1 := q0.at 1 rfl); (try clear q0_3); (try have q0_3 := q0.at 3 rfl); (try clear qr_3); (try have qr_3 := qr.at 3 rfl); (try clear qr_4); (try have qr_4 := qr.at 4 rfl); (try clear qc_0); (try have qc_0 := qc.at 0 rfl); (try clear qc_1); (try have qc_1 := qc.at 1 rfl); (try clear qc_2); (try have qc_2 := qc.at 2 rfl); (try clear qc_3); (try have qc_3 := qc.at 3 rfl))
    | ((with_reducible refine wpList_id ?_); refine wpList_putF rfl _ _ _ rfl rfl rfl qr rfl (by rfl) (by rfl) ?_; intro w9 qn hg; (try simp only [List.setIfInBounds_toArray, List.set_cons_succ, List.set_cons_zero] at qn); replace b0 := b0.grown hg (by omega); (try replace m1 := m1.grownB qr (by decide) hg); (try replace m2 := m2.grownB qr (by decide) hg); (try replace q0 := q0.grown hg (by omega)); (try replace qc := qc.grown hg (by omega)); clear hg qr; have qr := qn; clear qn; (try clear q0_1); (try have q0_1 := q0.at 1 rfl); (try clear q0_3); (try have q0_3 := q0.at 3 rfl); (try clear qr_3); (try have qr_3 := qr.at 3 rfl); (try clear qr_4); (try have qr_4 := qr.at 4 rfl); (try clear qc_0); (try have qc_0 := qc.at 0 rfl); (try clear qc_1); (try have qc_1 := qc.at 1 rfl); (try clear qc_2); (try have qc_2 := qc.at 2 rfl); (try clear qc_3); (try have qc_3 := qc.at 3 rfl)))
  (try clear q0_1); (try clear q0_3); (try clear qr_3); (try clear qr_4); (try clear qc_0); (try clear qc_1); (try clear qc_2); (try clear qc_3)
  refine wp_region_G (fun w' => Blk w' (w.heap.size + 1) 24 #[.int .i64 ((s)).id, .int .u8 ((s)).st, .int .i64 ((s)).sd, .int .i64 ((s)).rc, .int .i64 ((s)).ow, .bool ((s)).an, .bool ((s)).en, .slice A1 n1 c1, .int .u8 ((s)).ur, .bool ((s)).inc, .int .i64 ((s)).sl] ∧ Blk w' (w.heap.size + 1 + 1) 32 #[.int .u8 cs, .bool false, .bool true, .int .u32 cc]) [] (by kernel_rfl) ?_
  replace b0 := b0.drew
  replace q0 := q0.drew
  replace qr := qr.drew
  replace qc := qc.drew
  replace m1 := m1.drew
  have S0 := And.intro qr qc
  refine wpAnyG_take 0 (v := _) rfl (by kernel_rfl) (fun _ _ _ h => h) S0 (Or.inl ⟨by rfl, fun w' hSw => exec_getB rfl rfl (hSw.1) Try.underlying24 rfl (by rfl)⟩) ?_; (try simp only [Act.put, go_sem])
  refine wpAnyG_take 1 (v := _) rfl (by kernel_rfl) (fun _ _ _ h => h) S0 (Or.inl ⟨by rfl, fun w' hSw => exec_getB rfl rfl (hSw.2) Try.underlying32 rfl (by rfl)⟩) ?_; (try simp only [Act.put, go_sem])
  refine wpAnyG_one 2 (by kernel_rfl) rfl (fun K hK => ?_)
  rw [if_pos (by rfl)]
  refine wp_putB _ _ _ rfl rfl rfl qr (by rfl) (by rfl) (by rfl) ?_
  intro w9 qn hg
  replace b0 := b0.grown hg (by omega)
  replace m1 := m1.grownB qr (by decide) hg
  replace q0 := q0.grown hg (by omega)
  replace qc := qc.grown hg (by omega)
  clear hg qr
  have qr := qn
  clear qn
  clear S0
  have S0 := And.intro qr qc
  (try go_simp)
  refine hK.out _ _ (fun _ => S0) ?_
  clear hK K
  refine wpAnyG_one 3 (by kernel_rfl) rfl (fun K hK => ?_)
  rw [if_pos (by rfl)]
  refine wp_putB _ _ _ rfl rfl rfl qc (by rfl) (by rfl) (by rfl) ?_
  intro w9 qn hg
  replace b0 := b0.grown hg (by omega)
  replace m1 := m1.grownB qc (by decide) hg
  replace q0 := q0.grown hg (by omega)
  replace qr := qr.grown hg (by omega)
  clear hg qc
  have qc := qn
  clear qn
  clear S0
  have S0 := And.intro qr qc
  (try go_simp)
  refine hK.out _ _ (fun _ => S0) ?_
  clear hK K
  clear S0
  refine wpAnyG_done (by kernel_rfl) ?_ _
  go_wp2_with fail
  exact res2cc rfl rfl rfl rfl qr Try.underlying24 rfl (by rfl) qc Try.underlying32 rfl (by rfl) ⟨_, _, _, rfl, m1.base_le (by first | exact Nat.le_refl _ | (simp; omega)), b0.out⟩
set_option maxHeartbeats 1000000 in
theorem fDataw2b (s : Str) (ok : StrOk s) (x : Int) (en : Bool) (x0 : -9223372036854775808 ≤ x ∧ x ≤ 9223372036854775807) (cs : Int) (k0 : 0 ≤ cs) (hc0 : comesF s.st 0 en = ⟨cs, false, false, 0⟩) (A : Option Addr) (n c : Nat) (w : World) (h : Byt w A n c s.out) (hn : n ≤ 100000) (e0 : rightS s = true)  :
    Calls Try.prog 11 #[.agg #[.int .i64 (s).id, .int .u8 (s).st, .int .i64 (s).sd, .int .i64 (s).rc, .int .i64 (s).ow, .bool (s).an, .bool (s).en, .slice A n c, .int .u8 (s).ur, .bool (s).inc, .int .i64 (s).sl], .int .i64 x, .bool en] w (DtP s ⟨cs, false, false, 0⟩ w) := by
  have hc := h.cap; have hx := h.mx; have hl := h.len
  have RT := Lib.hid fun (A : Option Addr) (c : Nat) W => fSRight s ok A n c W hl (by omega)
  rw [e0] at RT
  have hR : RightS s := of_decide_eq_true e0
  obtain ⟨_, _, _, ⟨r0, r1⟩, ⟨w0, w1⟩, _⟩ := hR
  have CM := Lib.hid fun W => fComes s.st 0 en ok.st.1 W
  rw [hc0] at CM
  have b0 := (((Bel.refl w).alloc (.cells #[.int .i64 (s).id, .int .u8 (s).st, .int .i64 (s).sd, .int .i64 (s).rc, .int .i64 (s).ow, .bool (s).an, .bool (s).en, .slice A n c, .int .u8 (s).ur, .bool (s).inc, .int .i64 (s).sl] 24)).alloc (.cells #[.int .i64 0, .int .u8 0, .int .i64 0, .int .i64 0, .int .i64 0, .bool false, .bool false, .slice none 0 0, .int .u8 0, .bool false, .int .i64 0] 24)).alloc (.cells #[.int .u8 0, .bool false, .bool false, .int .u32 0] 32)
  have q0 := ((Blk.new w 24 #[.int .i64 (s).id, .int .u8 (s).st, .int .i64 (s).sd, .int .i64 (s).rc, .int .i64 (s).ow, .bool (s).an, .bool (s).en, .slice A n c, .int .u8 (s).ur, .bool (s).inc, .int .i64 (s).sl]).alloc (.cells #[.int .i64 0, .int .u8 0, .int .i64 0, .int .i64 0, .int .i64 0, .bool false, .bool false, .slice none 0 0, .int .u8 0, .bool false, .int .i64 0] 24)).alloc (.cells #[.int .u8 0, .bool false, .bool false, .int .u32 0] 32)
  have qr := (Blk.newAt (b := w.heap.size + 1) (w.alloc (.cells #[.int .i64 (s).id, .int .u8 (s).st, .int .i64 (s).sd, .int .i64 (s).rc, .int .i64 (s).ow, .bool (s).an, .bool (s).en, .slice A n c, .int .u8 (s).ur, .bool (s).inc, .int .i64 (s).sl] 24)) 24 #[.int .i64 0, .int .u8 0, .int .i64 0, .int .i64 0, .int .i64 0, .bool false, .bool false, .slice none 0 0, .int .u8 0, .bool false, .int .i64 0] (by simp)).alloc (.cells #[.int .u8 0, .bool false, .bool false, .int .u32 0] 32)
  have qc := Blk.newAt (b := w.heap.size + 1 + 1) ((w.alloc (.cells #[.int .i64 (s).id, .int .u8 (s).st, .int .i64 (s).sd, .int .i64 (s).rc, .int .i64 (s).ow, .bool (s).an, .bool (s).en, .slice A n c, .int .u8 (s).ur, .bool (s).inc, .int .i64 (s).sl] 24)).alloc (.cells #[.int .i64 0, .int .u8 0, .int .i64 0, .int .i64 0, .int .i64 0, .bool false, .bool false, .slice none 0 0, .int .u8 0, .bool false, .int .i64 0] 24)) 32 #[.int .u8 0, .bool false, .bool false, .int .u32 0] (by simp)
  have y := ((h.alloc (.cells #[.int .i64 (s).id, .int .u8 (s).st, .int .i64 (s).sd, .int .i64 (s).rc, .int .i64 (s).ow, .bool (s).an, .bool (s).en, .slice A n c, .int .u8 (s).ur, .bool (s).inc, .int .i64 (s).sl] 24)).alloc (.cells #[.int .i64 0, .int .u8 0, .int .i64 0, .int .i64 0, .int .i64 0, .bool false, .bool false, .slice none 0 0, .int .u8 0, .bool false, .int .i64 0] 24)).alloc (.cells #[.int .u8 0, .bool false, .bool false, .int .u32 0] 32)
  have sz := b0.out.size
  have HL := Lib.hid hl
  clear h hl e0 hc0
  go_enter Try.func11, Try.ntmps11
  go_wp2_with fail
  refine wp_region_G (fun w' => Blk w' w.heap.size 24 #[.int .i64 (s).id, .int .u8 (s).st, .int .i64 (s).sd, .int .i64 (s).rc, .int .i64 (s).ow, .bool (s).an, .bool (s).en, .slice A n c, .int .u8 (s).ur, .bool (s).inc, .int .i64 (s).sl]) [] (by kernel_rfl) ?_
  replace b0 := b0.drew
  replace q0 := q0.drew
  replace qr := qr.drew
  replace qc := qc.drew
  have S0 := q0
  replace y := y.drew
  refine wpAnyG_take 0 (v := _) rfl (by kernel_rfl) (fun _ _ _ h => h) S0 (Or.inl ⟨by rfl, fun w' hSw => exec_getB rfl rfl (hSw) Try.underlying24 rfl (by rfl)⟩) ?_; (try simp only [Act.put, go_sem])
  refine wpAnyG_take 2 (v := ?_) rfl (by kernel_rfl) (fun _ _ _ h => h) S0 (Or.inl ⟨by rfl, by intro w' hSw; go_simp; try with_reducible rfl⟩) ?_; (try simp only [Act.put, go_sem])
  refine wpAnyG_take 3 (v := ?_) rfl (by kernel_rfl) (fun _ _ _ h => h) S0 (Or.inl ⟨by rfl, by intro w' hSw; have z := (hSw).at 1 rfl; go_simp; try with_reducible rfl⟩) ?_; (try simp only [Act.put, go_sem])
  refine wpAnyG_take 4 (v := ?_) rfl (by kernel_rfl) (fun _ _ _ h => h) S0 (Or.inl ⟨by rfl, by intro w' hSw; go_simp; try with_reducible rfl⟩) ?_; (try simp only [Act.put, go_sem])
  refine wpAnyG_one 1 (by kernel_rfl) rfl (fun K hK => ?_)
  go_simp
  refine (fSOwn s A n c _ y (by omega)).mono ?_
  rintro e w9 ⟨A1, n1, c1, rfl, m1, hb⟩
  replace b0 := b0.below hb
  replace q0 := q0.below hb
  replace qr := qr.below hb
  replace qc := qc.below hb
  obtain rfl : n1 = n := by have h1 := m1.len; have h2 := HL.out; omega
  clear y hb
  clear S0
  have S0 := q0
  (try go_simp)
  refine hK.out _ _ (fun _ => S0) ?_
  clear hK K
  refine wpAnyG_one 5 (by kernel_rfl) rfl (fun K hK => ?_)
  rw [if_pos (by rfl)]
  refine wp_putB _ _ _ rfl rfl rfl qr (by rfl) (by rfl) (by rfl) ?_
  intro w9 qn hg
  replace b0 := b0.grown hg (by omega)
  replace m1 := m1.grownB qr (by decide) hg
  replace q0 := q0.grown hg (by omega)
  replace qc := qc.grown hg (by omega)
  clear hg qr
  have qr := qn
  clear qn
  clear S0
  have S0 := q0
  (try go_simp)
  refine hK.out _ _ (fun _ => S0) ?_
  clear hK K
  refine wpAnyG_one 6 (by kernel_rfl) rfl (fun K hK => ?_)
  rw [if_pos (by rfl)]
  refine wp_putB _ _ _ rfl rfl rfl qc (by rfl) (by rfl) (by rfl) ?_
  intro w9 qn hg
  replace b0 := b0.grown hg (by omega)
  replace m1 := m1.grownB qc (by decide) hg
  replace q0 := q0.grown hg (by omega)
  replace qr := qr.grown hg (by omega)
  clear hg qc
  have qc := qn
  clear qn
  clear S0
  have S0 := q0
  (try go_simp)
  refine hK.out _ _ (fun _ => S0) ?_
  clear hK K
  clear S0
  refine wpAnyG_done (by kernel_rfl) ?_ _
  have q0_1 := q0.at 1 rfl
  have q0_3 := q0.at 3 rfl
  have qr_3 := qr.at 3 rfl
  have qr_4 := qr.at 4 rfl
  have qc_0 := qc.at 0 rfl
  have qc_1 := qc.at 1 rfl
  have qc_2 := qc.at 2 rfl
  have qc_3 := qc.at 3 rfl
  go_wp2_with (first
    | (go_at_call 30; (with_reducible refine (RT.out _ _ _).mono ?_); rintro e w9 ⟨rfl, hb⟩; replace b0 := b0.below hb; (try replace q0 := q0.below hb); (try replace qr := qr.below hb); (try replace qc := qc.below hb); (try replace m1 := m1.below hb); (try replace m2 := m2.below hb); (try clear q0_1); (try have q0_1 := q0.at 1 rfl); (try clear q0_3); (try have q0_3 := q0.at 3 rfl); (try clear qr_3); (try have qr_3 := qr.at 3 rfl); (try clear qr_4); (try have qr_4 := qr.at 4 rfl); (try clear qc_0); (try have qc_0 := qc.at 0 rfl); (try clear qc_1); (try have qc_1 := qc.at 1 rfl); (try clear qc_2); (try have qc_2 := qc.at 2 rfl); (try clear qc_3); (try have qc_3 := qc.at 3 rfl))
    | (go_at_call 14; (with_reducible refine (CM.out _).mono ?_); rintro e w9 ⟨rfl, hb⟩; replace b0 := b0.below hb; (try replace q0 := q0.below hb); (try replace qr := qr.below hb); (try replace qc := qc.below hb); (try replace m1 := m1.below hb); (try replace m2 := m2.below hb); (try clear q0_1); (try have q0_1 := q0.at 1 rfl); (try clear q0_3); (try have q0_3 := q0.at 3 rfl); (try clear qr_3); (try have qr_3 := qr.at 3 rfl); (try clear qr_4); (try have qr_4 := qr.at 4 rfl); (try clear qc_0); (try have qc_0 := qc.at 0 rfl); (try clear qc_1); (try have qc_1 := qc.at 1 rfl); (try clear qc_2); (try have qc_2 := qc.at 2 rfl); (try clear qc_3); (try have qc_3 := qc.at 3 rfl))
    | ((with_reducible refine wpList_id ?_); refine wpList_getB rfl _ _ rfl rfl q0 Try.underlying24 rfl (by rfl) ?_)
    | ((with_reducible refine wpList_id ?_); refine wpList_getB rfl _ _ rfl rfl qr Try.underlying24 rfl (by rfl) ?_)
    | ((with_reducible refine wpList_id ?_); refine wpList_putB rfl _ _ _ rfl rfl rfl qr (by rfl) (by rfl) (by rfl) ?_; intro w9 qn hg; replace b0 := b0.grown hg (by omega); (try replace m1 := m1.grownB qr (by decide) hg); (try replace m2 := m2.grownB qr (by decide) hg); (try replace q0 := q0.grown hg (by omega)); (try replace qc := qc.grown hg (by omega)); clear hg qr; have qr := qn; clear qn; (try clear q0_1); (try have q0_1 := q0.at 1 rfl); (try clear q0_3); (try have q0_3 := q0.at 3 rfl); (try clear qr_3); (try have qr_3 := qr.at 3 rfl); (try clear qr_4); (try have qr_4 := qr.at 4 rfl); (try clear qc_0); (try have qc_0 := qc.at 0 rfl); (try clear qc_1); (try have qc_1 := qc.at 1 rfl); (try clear qc_2); (try have qc_2 := qc.at 2 rfl); (try clear qc_3); (try have qc_3 := qc.at 3 rfl))
    | ((with_reducible refine wpList_id ?_); refine wpList_putB rfl _ _ _ rfl rfl rfl qc (by rfl) (by rfl) (by rfl) ?_; intro w9 qn hg; replace b0 := b0.grown hg (by omega); (try replace m1 := m1.grownB qc (by decide) hg); (try replace m2 := m2.grownB qc (by decide) hg); (try replace q0 := q0.grown hg (by omega)); (try replace qr := qr.grown hg (by omega)); clear hg qc; have qc := qn; clear qn; (try clear q0_1); (try have q0_1 := q0.at 1 rfl); (try clear q0_3); (try have q0_3 := q0.at 3 rfl); (try clear qr_3); (try have qr_3 := qr.at 3 rfl); (try clear qr_4); (try have qr_4 := qr.at 4 rfl); (try clear qc_0); (try have qc_0 := qc.at 0 rfl); (try clear qc_1); (try have qc_1 := qc.at 1 rfl); (try clear qc_2); (try have qc_2 := qc.at 2 rfl); (try clear qc_3); (try have qc_3 := qc.at 3 rfl))
    | ((with_reducible refine wpList_id ?_); refine wpList_putF rfl _ _ _ rfl rfl rfl qr rfl (by rfl) (by rfl) ?_; intro w9 qn hg; (try simp only [List.setIfInBounds_toArray, List.set_cons_succ, List.set_cons_zero] at qn); replace b0 := b0.grown hg (by omega); (try replace m1 := m1.grownB qr (by decide) hg); (try replace m2 := m2.grownB qr (by decide) hg); (try replace q0 := q0.grown hg (by omega)); (try replace qc := qc.grown hg (by omega)); clear hg qr; have qr := qn; clear qn; (try clear q0_1); (try have q0_1 := q0.at 1 rfl); (try clear q0_3); (try have q0_3 := q0.at 3 rfl); (try clear qr_3); (try have qr_3 := qr.at 3 rfl); (try clear qr_4); (try have qr_4 := qr.at 4 rfl); (try clear qc_0); (try have qc_0 := qc.at 0 rfl); (try clear qc_1); (try have qc_1 := qc.at 1 rfl); (try clear qc_2); (try have qc_2 := qc.at 2 rfl); (try clear qc_3); (try have qc_3 := qc.at 3 rfl)))
  (try clear q0_1); (try clear q0_3); (try clear qr_3); (try clear qr_4); (try clear qc_0); (try clear qc_1); (try clear qc_2); (try clear qc_3)
  refine wp_region_G (fun w' => Blk w' (w.heap.size + 1) 24 #[.int .i64 ((s)).id, .int .u8 ((s)).st, .int .i64 ((s)).sd, .int .i64 ((s)).rc, .int .i64 ((s)).ow, .bool ((s)).an, .bool ((s)).en, .slice A1 n1 c1, .int .u8 ((s)).ur, .bool ((s)).inc, .int .i64 ((s)).sl] ∧ Blk w' (w.heap.size + 1 + 1) 32 #[.int .u8 cs, .bool false, .bool false, .int .u32 0]) [] (by kernel_rfl) ?_
  replace b0 := b0.drew
  replace q0 := q0.drew
  replace qr := qr.drew
  replace qc := qc.drew
  replace m1 := m1.drew
  have S0 := And.intro qr qc
  refine wpAnyG_take 0 (v := _) rfl (by kernel_rfl) (fun _ _ _ h => h) S0 (Or.inl ⟨by rfl, fun w' hSw => exec_getB rfl rfl (hSw.1) Try.underlying24 rfl (by rfl)⟩) ?_; (try simp only [Act.put, go_sem])
  refine wpAnyG_take 1 (v := _) rfl (by kernel_rfl) (fun _ _ _ h => h) S0 (Or.inl ⟨by rfl, fun w' hSw => exec_getB rfl rfl (hSw.2) Try.underlying32 rfl (by rfl)⟩) ?_; (try simp only [Act.put, go_sem])
  refine wpAnyG_one 2 (by kernel_rfl) rfl (fun K hK => ?_)
  rw [if_pos (by rfl)]
  refine wp_putB _ _ _ rfl rfl rfl qr (by rfl) (by rfl) (by rfl) ?_
  intro w9 qn hg
  replace b0 := b0.grown hg (by omega)
  replace m1 := m1.grownB qr (by decide) hg
  replace q0 := q0.grown hg (by omega)
  replace qc := qc.grown hg (by omega)
  clear hg qr
  have qr := qn
  clear qn
  clear S0
  have S0 := And.intro qr qc
  (try go_simp)
  refine hK.out _ _ (fun _ => S0) ?_
  clear hK K
  refine wpAnyG_one 3 (by kernel_rfl) rfl (fun K hK => ?_)
  rw [if_pos (by rfl)]
  refine wp_putB _ _ _ rfl rfl rfl qc (by rfl) (by rfl) (by rfl) ?_
  intro w9 qn hg
  replace b0 := b0.grown hg (by omega)
  replace m1 := m1.grownB qc (by decide) hg
  replace q0 := q0.grown hg (by omega)
  replace qr := qr.grown hg (by omega)
  clear hg qc
  have qc := qn
  clear qn
  clear S0
  have S0 := And.intro qr qc
  (try go_simp)
  refine hK.out _ _ (fun _ => S0) ?_
  clear hK K
  clear S0
  refine wpAnyG_done (by kernel_rfl) ?_ _
  go_wp2_with fail
  exact res2cc rfl rfl rfl rfl qr Try.underlying24 rfl (by rfl) qc Try.underlying32 rfl (by rfl) ⟨_, _, _, rfl, m1.base_le (by first | exact Nat.le_refl _ | (simp; omega)), b0.out⟩
set_option maxHeartbeats 1000000 in
theorem fDataw3 (s : Str) (ok : StrOk s) (x : Int) (en : Bool) (x0 : -9223372036854775808 ≤ x ∧ x ≤ 9223372036854775807) (cs : Int) (cw : Bool) (cc : Int) (k0 : 0 ≤ cs) (hc0 : comesF s.st 0 en = ⟨cs, true, cw, cc⟩) (A : Option Addr) (n c : Nat) (w : World) (h : Byt w A n c s.out) (hn : n ≤ 100000) (e0 : rightS s = true) (f0 : withinB x s.rc = false) :
    Calls Try.prog 11 #[.agg #[.int .i64 (s).id, .int .u8 (s).st, .int .i64 (s).sd, .int .i64 (s).rc, .int .i64 (s).ow, .bool (s).an, .bool (s).en, .slice A n c, .int .u8 (s).ur, .bool (s).inc, .int .i64 (s).sl], .int .i64 x, .bool en] w (DtP (overS (s) 5) ⟨5, false, false, 3⟩ w) := by
  have hc := h.cap; have hx := h.mx; have hl := h.len
  have RT := Lib.hid fun (A : Option Addr) (c : Nat) W => fSRight s ok A n c W hl (by omega)
  rw [e0] at RT
  have hR : RightS s := of_decide_eq_true e0
  obtain ⟨_, _, _, ⟨r0, r1⟩, ⟨w0, w1⟩, _⟩ := hR
  have CM := Lib.hid fun W => fComes s.st 0 en ok.st.1 W
  rw [hc0] at CM
  have WI := Lib.hid fun W => fWithin x s.rc W
  rw [f0] at WI
  simp only [withinB, decide_eq_true_eq, decide_eq_false_iff_not] at f0
  have OV := Lib.hid fun (A : Option Addr) (c : Nat) W (h : Byt W A n c s.out) => fOver s ok 5 (by omega) A n c W h hn
  generalize overS s 5 = tt at *
  have b0 := (((Bel.refl w).alloc (.cells #[.int .i64 (s).id, .int .u8 (s).st, .int .i64 (s).sd, .int .i64 (s).rc, .int .i64 (s).ow, .bool (s).an, .bool (s).en, .slice A n c, .int .u8 (s).ur, .bool (s).inc, .int .i64 (s).sl] 24)).alloc (.cells #[.int .i64 0, .int .u8 0, .int .i64 0, .int .i64 0, .int .i64 0, .bool false, .bool false, .slice none 0 0, .int .u8 0, .bool false, .int .i64 0] 24)).alloc (.cells #[.int .u8 0, .bool false, .bool false, .int .u32 0] 32)
  have q0 := ((Blk.new w 24 #[.int .i64 (s).id, .int .u8 (s).st, .int .i64 (s).sd, .int .i64 (s).rc, .int .i64 (s).ow, .bool (s).an, .bool (s).en, .slice A n c, .int .u8 (s).ur, .bool (s).inc, .int .i64 (s).sl]).alloc (.cells #[.int .i64 0, .int .u8 0, .int .i64 0, .int .i64 0, .int .i64 0, .bool false, .bool false, .slice none 0 0, .int .u8 0, .bool false, .int .i64 0] 24)).alloc (.cells #[.int .u8 0, .bool false, .bool false, .int .u32 0] 32)
  have qr := (Blk.newAt (b := w.heap.size + 1) (w.alloc (.cells #[.int .i64 (s).id, .int .u8 (s).st, .int .i64 (s).sd, .int .i64 (s).rc, .int .i64 (s).ow, .bool (s).an, .bool (s).en, .slice A n c, .int .u8 (s).ur, .bool (s).inc, .int .i64 (s).sl] 24)) 24 #[.int .i64 0, .int .u8 0, .int .i64 0, .int .i64 0, .int .i64 0, .bool false, .bool false, .slice none 0 0, .int .u8 0, .bool false, .int .i64 0] (by simp)).alloc (.cells #[.int .u8 0, .bool false, .bool false, .int .u32 0] 32)
  have qc := Blk.newAt (b := w.heap.size + 1 + 1) ((w.alloc (.cells #[.int .i64 (s).id, .int .u8 (s).st, .int .i64 (s).sd, .int .i64 (s).rc, .int .i64 (s).ow, .bool (s).an, .bool (s).en, .slice A n c, .int .u8 (s).ur, .bool (s).inc, .int .i64 (s).sl] 24)).alloc (.cells #[.int .i64 0, .int .u8 0, .int .i64 0, .int .i64 0, .int .i64 0, .bool false, .bool false, .slice none 0 0, .int .u8 0, .bool false, .int .i64 0] 24)) 32 #[.int .u8 0, .bool false, .bool false, .int .u32 0] (by simp)
  have y := ((h.alloc (.cells #[.int .i64 (s).id, .int .u8 (s).st, .int .i64 (s).sd, .int .i64 (s).rc, .int .i64 (s).ow, .bool (s).an, .bool (s).en, .slice A n c, .int .u8 (s).ur, .bool (s).inc, .int .i64 (s).sl] 24)).alloc (.cells #[.int .i64 0, .int .u8 0, .int .i64 0, .int .i64 0, .int .i64 0, .bool false, .bool false, .slice none 0 0, .int .u8 0, .bool false, .int .i64 0] 24)).alloc (.cells #[.int .u8 0, .bool false, .bool false, .int .u32 0] 32)
  have sz := b0.out.size
  have HL := Lib.hid hl
  clear h hl e0 hc0
  go_enter Try.func11, Try.ntmps11
  go_wp2_with fail
  refine wp_region_G (fun w' => Blk w' w.heap.size 24 #[.int .i64 (s).id, .int .u8 (s).st, .int .i64 (s).sd, .int .i64 (s).rc, .int .i64 (s).ow, .bool (s).an, .bool (s).en, .slice A n c, .int .u8 (s).ur, .bool (s).inc, .int .i64 (s).sl]) [] (by kernel_rfl) ?_
  replace b0 := b0.drew
  replace q0 := q0.drew
  replace qr := qr.drew
  replace qc := qc.drew
  have S0 := q0
  replace y := y.drew
  refine wpAnyG_take 0 (v := _) rfl (by kernel_rfl) (fun _ _ _ h => h) S0 (Or.inl ⟨by rfl, fun w' hSw => exec_getB rfl rfl (hSw) Try.underlying24 rfl (by rfl)⟩) ?_; (try simp only [Act.put, go_sem])
  refine wpAnyG_take 2 (v := ?_) rfl (by kernel_rfl) (fun _ _ _ h => h) S0 (Or.inl ⟨by rfl, by intro w' hSw; go_simp; try with_reducible rfl⟩) ?_; (try simp only [Act.put, go_sem])
  refine wpAnyG_take 3 (v := ?_) rfl (by kernel_rfl) (fun _ _ _ h => h) S0 (Or.inl ⟨by rfl, by intro w' hSw; have z := (hSw).at 1 rfl; go_simp; try with_reducible rfl⟩) ?_; (try simp only [Act.put, go_sem])
  refine wpAnyG_take 4 (v := ?_) rfl (by kernel_rfl) (fun _ _ _ h => h) S0 (Or.inl ⟨by rfl, by intro w' hSw; go_simp; try with_reducible rfl⟩) ?_; (try simp only [Act.put, go_sem])
  refine wpAnyG_one 1 (by kernel_rfl) rfl (fun K hK => ?_)
  go_simp
  refine (fSOwn s A n c _ y (by omega)).mono ?_
  rintro e w9 ⟨A1, n1, c1, rfl, m1, hb⟩
  replace b0 := b0.below hb
  replace q0 := q0.below hb
  replace qr := qr.below hb
  replace qc := qc.below hb
  obtain rfl : n1 = n := by have h1 := m1.len; have h2 := HL.out; omega
  clear y hb
  clear S0
  have S0 := q0
  (try go_simp)
  refine hK.out _ _ (fun _ => S0) ?_
  clear hK K
  refine wpAnyG_one 5 (by kernel_rfl) rfl (fun K hK => ?_)
  rw [if_pos (by rfl)]
  refine wp_putB _ _ _ rfl rfl rfl qr (by rfl) (by rfl) (by rfl) ?_
  intro w9 qn hg
  replace b0 := b0.grown hg (by omega)
  replace m1 := m1.grownB qr (by decide) hg
  replace q0 := q0.grown hg (by omega)
  replace qc := qc.grown hg (by omega)
  clear hg qr
  have qr := qn
  clear qn
  clear S0
  have S0 := q0
  (try go_simp)
  refine hK.out _ _ (fun _ => S0) ?_
  clear hK K
  refine wpAnyG_one 6 (by kernel_rfl) rfl (fun K hK => ?_)
  rw [if_pos (by rfl)]
  refine wp_putB _ _ _ rfl rfl rfl qc (by rfl) (by rfl) (by rfl) ?_
  intro w9 qn hg
  replace b0 := b0.grown hg (by omega)
  replace m1 := m1.grownB qc (by decide) hg
  replace q0 := q0.grown hg (by omega)
  replace qr := qr.grown hg (by omega)
  clear hg qc
  have qc := qn
  clear qn
  clear S0
  have S0 := q0
  (try go_simp)
  refine hK.out _ _ (fun _ => S0) ?_
  clear hK K
  clear S0
  refine wpAnyG_done (by kernel_rfl) ?_ _
  have q0_1 := q0.at 1 rfl
  have q0_3 := q0.at 3 rfl
  have qr_3 := qr.at 3 rfl
  have qr_4 := qr.at 4 rfl
  have qc_0 := qc.at 0 rfl
  have qc_1 := qc.at 1 rfl
  have qc_2 := qc.at 2 rfl
  have qc_3 := qc.at 3 rfl
  go_wp2_with (first
    | (go_at_call 30; (with_reducible refine (RT.out _ _ _).mono ?_); rintro e w9 ⟨rfl, hb⟩; replace b0 := b0.below hb; (try replace q0 := q0.below hb); (try replace qr := qr.below hb); (try replace qc := qc.below hb); (try replace m1 := m1.below hb); (try replace m2 := m2.below hb); (try clear q0_1); (try have q0_1 := q0.at 1 rfl); (try clear q0_3); (try have q0_3 := q0.at 3 rfl); (try clear qr_3); (try have qr_3 := qr.at 3 rfl); (try clear qr_4); (try have qr_4 := qr.at 4 rfl); (try clear qc_0); (try have qc_0 := qc.at 0 rfl); (try clear qc_1); (try have qc_1 := qc.at 1 rfl); (try clear qc_2); (try have qc_2 := qc.at 2 rfl); (try clear qc_3); (try have qc_3 := qc.at 3 rfl))
    | (go_at_call 14; (with_reducible refine (CM.out _).mono ?_); rintro e w9 ⟨rfl, hb⟩; replace b0 := b0.below hb; (try replace q0 := q0.below hb); (try replace qr := qr.below hb); (try replace qc := qc.below hb); (try replace m1 := m1.below hb); (try replace m2 := m2.below hb); (try clear q0_1); (try have q0_1 := q0.at 1 rfl); (try clear q0_3); (try have q0_3 := q0.at 3 rfl); (try clear qr_3); (try have qr_3 := qr.at 3 rfl); (try clear qr_4); (try have qr_4 := qr.at 4 rfl); (try clear qc_0); (try have qc_0 := qc.at 0 rfl); (try clear qc_1); (try have qc_1 := qc.at 1 rfl); (try clear qc_2); (try have qc_2 := qc.at 2 rfl); (try clear qc_3); (try have qc_3 := qc.at 3 rfl))
    | (go_at_call 34; (with_reducible refine (WI.out _).mono ?_); rintro e w9 ⟨rfl, rfl⟩)
    | (go_at_call 35; refine (fReset _ _).mono ?_; rintro e w9 ⟨rfl, hb⟩; replace b0 := b0.below hb; (try replace q0 := q0.below hb); (try replace qr := qr.below hb); (try replace qc := qc.below hb); (try replace m1 := m1.below hb); (try replace m2 := m2.below hb); (try clear q0_1); (try have q0_1 := q0.at 1 rfl); (try clear q0_3); (try have q0_3 := q0.at 3 rfl); (try clear qr_3); (try have qr_3 := qr.at 3 rfl); (try clear qr_4); (try have qr_4 := qr.at 4 rfl); (try clear qc_0); (try have qc_0 := qc.at 0 rfl); (try clear qc_1); (try have qc_1 := qc.at 1 rfl); (try clear qc_2); (try have qc_2 := qc.at 2 rfl); (try clear qc_3); (try have qc_3 := qc.at 3 rfl))
    | (go_at_call 24; (with_reducible refine (OV.out _ _ _ m1.byt).mono ?_); rintro e w9 ⟨A2, n2, c2, rfl, m2, hb⟩; have hs := b0.out.size; replace m2 := m2.base_le hs; clear hs; replace b0 := b0.below hb; (try replace q0 := q0.below hb); (try replace qr := qr.below hb); (try replace qc := qc.below hb); (try replace m1 := m1.below hb); skip; (try clear q0_1); (try have q0_1 := q0.at 1 rfl); (try clear q0_3); (try have q0_3 := q0.at 3 rfl); (try clear qr_3); (try have qr_3 := qr.at 3 rfl); (try clear qr_4); (try have qr_4 := qr.at 4 rfl); (try clear qc_0); (try have qc_0 := qc.at 0 rfl); (try clear qc_1); (try have qc_1 := qc.at 1 rfl); (try clear qc_2); (try have qc_2 := qc.at 2 rfl); (try clear qc_3); (try have qc_3 := qc.at 3 rfl))
    | ((with_reducible refine wpList_id ?_); refine wpList_getB rfl _ _ rfl rfl q0 Try.underlying24 rfl (by rfl) ?_)
    | ((with_reducible refine wpList_id ?_); refine wpList_getB rfl _ _ rfl rfl qr Try.underlying24 rfl (by rfl) ?_)
    | ((with_reducible refine wpList_id ?_); refine wpList_putB rfl _ _ _ rfl rfl rfl qr (by rfl) (by rfl) (by rfl) ?_; intro w9 qn hg; replace b0 := b0.grown hg (by omega); (try replace m1 := m1.grownB qr (by decide) hg); (try replace m2 := m2.grownB qr (by decide) hg); (try replace q0 := q0.grown hg (by omega)); (try replace qc := qc.grown hg (by omega)); clear hg qr; have qr := qn; clear qn; (try clear q0_1); (try have q0_1 := q0.at 1 rfl); (try clear q0_3); (try have q0_3 := q0.at 3 rfl); (try clear qr_3); (try have qr_3 := qr.at 3 rfl); (try clear qr_4); (try have qr_4 := qr.at 4 rfl); (try clear qc_0); (try have qc_0 := qc.at 0 rfl); (try clear qc_1); (try have qc_1 := qc.at 1 rfl); (try clear qc_2); (try have qc_2 := qc.at 2 rfl); (try clear qc_3); (try have qc_3 := qc.at 3 rfl))
    | ((with_reducible refine wpList_id ?_); refine wpList_putB rfl _ _ _ rfl rfl rfl qc (by rfl) (by rfl) (by rfl) ?_; intro w9 qn hg; replace b0 := b0.grown hg (by omega); (try replace m1 := m1.grownB qc (by decide) hg); (try replace m2 := m2.grownB qc (by decide) hg); (try replace q0 := q0.grown hg (by omega)); (try replace qr := qr.grown hg (by omega)); clear hg qc; have qc := qn; clear qn; (try clear q0_1); (try have q0_1 := q0.at 1 rfl); (try clear q0_3); (try have q0_3 := q0.at 3 rfl); (try clear qr_3); (try have qr_3 := qr.at 3 rfl); (try clear qr_4); (try have qr_4 := qr.at 4 rfl); (try clear qc_0); (try have qc_0 := qc.at 0 rfl); (try clear qc_1); (try have qc_1 := qc.at 1 rfl); (try clear qc_2); (try have qc_2 := qc.at 2 rfl); (try clear qc_3); (try have qc_3 := qc.at 3 rfl))
    | ((with_reducible refine wpList_id ?_); refine wpList_putF rfl _ _ _ rfl rfl rfl qr rfl (by rfl) (by rfl) ?_; intro w9 qn hg; (try simp only [List.setIfInBounds_toArray, List.set_cons_succ, List.set_cons_zero] at qn); replace b0 := b0.grown hg (by omega); (try replace m1 := m1.grownB qr (by decide) hg); (try replace m2 := m2.grownB qr (by decide) hg); (try replace q0 := q0.grown hg (by omega)); (try replace qc := qc.grown hg (by omega)); clear hg qr; have qr := qn; clear qn; (try clear q0_1); (try have q0_1 := q0.at 1 rfl); (try clear q0_3); (try have q0_3 := q0.at 3 rfl); (try clear qr_3); (try have qr_3 := qr.at 3 rfl); (try clear qr_4); (try have qr_4 := qr.at 4 rfl); (try clear qc_0); (try have qc_0 := qc.at 0 rfl); (try clear qc_1); (try have qc_1 := qc.at 1 rfl); (try clear qc_2); (try have qc_2 := qc.at 2 rfl); (try clear qc_3); (try have qc_3 := qc.at 3 rfl)))
  (try clear q0_1); (try clear q0_3); (try clear qr_3); (try clear qr_4); (try clear qc_0); (try clear qc_1); (try clear qc_2); (try clear qc_3)
  refine wp_region_G (fun w' => Blk w' (w.heap.size + 1) 24 #[.int .i64 ((tt)).id, .int .u8 ((tt)).st, .int .i64 ((tt)).sd, .int .i64 ((tt)).rc, .int .i64 ((tt)).ow, .bool ((tt)).an, .bool ((tt)).en, .slice A2 n2 c2, .int .u8 ((tt)).ur, .bool ((tt)).inc, .int .i64 ((tt)).sl] ∧ Blk w' (w.heap.size + 1 + 1) 32 #[.int .u8 5, .bool false, .bool false, .int .u32 3]) [] (by kernel_rfl) ?_
  replace b0 := b0.drew
  replace q0 := q0.drew
  replace qr := qr.drew
  replace qc := qc.drew
  replace m1 := m1.drew
  replace m2 := m2.drew
  have S0 := And.intro qr qc
  refine wpAnyG_take 0 (v := _) rfl (by kernel_rfl) (fun _ _ _ h => h) S0 (Or.inl ⟨by rfl, fun w' hSw => exec_getB rfl rfl (hSw.1) Try.underlying24 rfl (by rfl)⟩) ?_; (try simp only [Act.put, go_sem])
  refine wpAnyG_take 1 (v := _) rfl (by kernel_rfl) (fun _ _ _ h => h) S0 (Or.inl ⟨by rfl, fun w' hSw => exec_getB rfl rfl (hSw.2) Try.underlying32 rfl (by rfl)⟩) ?_; (try simp only [Act.put, go_sem])
  refine wpAnyG_one 2 (by kernel_rfl) rfl (fun K hK => ?_)
  rw [if_pos (by rfl)]
  refine wp_putB _ _ _ rfl rfl rfl qr (by rfl) (by rfl) (by rfl) ?_
  intro w9 qn hg
  replace b0 := b0.grown hg (by omega)
  replace m1 := m1.grownB qr (by decide) hg
  replace m2 := m2.grownB qr (by decide) hg
  replace q0 := q0.grown hg (by omega)
  replace qc := qc.grown hg (by omega)
  clear hg qr
  have qr := qn
  clear qn
  clear S0
  have S0 := And.intro qr qc
  (try go_simp)
  refine hK.out _ _ (fun _ => S0) ?_
  clear hK K
  refine wpAnyG_one 3 (by kernel_rfl) rfl (fun K hK => ?_)
  rw [if_pos (by rfl)]
  refine wp_putB _ _ _ rfl rfl rfl qc (by rfl) (by rfl) (by rfl) ?_
  intro w9 qn hg
  replace b0 := b0.grown hg (by omega)
  replace m1 := m1.grownB qc (by decide) hg
  replace m2 := m2.grownB qc (by decide) hg
  replace q0 := q0.grown hg (by omega)
  replace qr := qr.grown hg (by omega)
  clear hg qc
  have qc := qn
  clear qn
  clear S0
  have S0 := And.intro qr qc
  (try go_simp)
  refine hK.out _ _ (fun _ => S0) ?_
  clear hK K
  clear S0
  refine wpAnyG_done (by kernel_rfl) ?_ _
  go_wp2_with fail
  exact res2cc rfl rfl rfl rfl qr Try.underlying24 rfl (by rfl) qc Try.underlying32 rfl (by rfl) ⟨_, _, _, rfl, m2.base_le (by first | exact Nat.le_refl _ | (simp; omega)), b0.out⟩
set_option maxHeartbeats 1000000 in
theorem fDataw4a (s : Str) (ok : StrOk s) (x : Int) (en : Bool) (x0 : -9223372036854775808 ≤ x ∧ x ≤ 9223372036854775807) (cs : Int) (cw : Bool) (cc : Int) (k0 : 0 ≤ cs) (hc0 : comesF s.st 0 en = ⟨cs, true, cw, cc⟩) (A : Option Addr) (n c : Nat) (w : World) (h : Byt w A n c s.out) (hn : n ≤ 100000) (e0 : rightS s = true) (f0 : withinB x s.rc = true) (f1 : s.ow + x ≤ 2147483647) :
    Calls Try.prog 11 #[.agg #[.int .i64 (s).id, .int .u8 (s).st, .int .i64 (s).sd, .int .i64 (s).rc, .int .i64 (s).ow, .bool (s).an, .bool (s).en, .slice A n c, .int .u8 (s).ur, .bool (s).inc, .int .i64 (s).sl], .int .i64 x, .bool en] w (DtP (overS ({ s with rc := s.rc - x, ow := s.ow + x }) cs) ⟨cs, true, cw, cc⟩ w) := by
  have hc := h.cap; have hx := h.mx; have hl := h.len
  have RT := Lib.hid fun (A : Option Addr) (c : Nat) W => fSRight s ok A n c W hl (by omega)
  rw [e0] at RT
  have hR : RightS s := of_decide_eq_true e0
  obtain ⟨_, _, _, ⟨r0, r1⟩, ⟨w0, w1⟩, _⟩ := hR
  have CM := Lib.hid fun W => fComes s.st 0 en ok.st.1 W
  rw [hc0] at CM
  have WI := Lib.hid fun W => fWithin x s.rc W
  rw [f0] at WI
  simp only [withinB, decide_eq_true_eq, decide_eq_false_iff_not] at f0
  have OV := Lib.hid fun (A : Option Addr) (c : Nat) W (h : Byt W A n c s.out) => fOver ({ s with rc := s.rc - x, ow := s.ow + x }) (okTake ok ⟨by omega, by omega⟩ ⟨by omega, by omega⟩) cs k0 A n c W h hn
  generalize overS ({ s with rc := s.rc - x, ow := s.ow + x }) cs = tt at *
  have b0 := (((Bel.refl w).alloc (.cells #[.int .i64 (s).id, .int .u8 (s).st, .int .i64 (s).sd, .int .i64 (s).rc, .int .i64 (s).ow, .bool (s).an, .bool (s).en, .slice A n c, .int .u8 (s).ur, .bool (s).inc, .int .i64 (s).sl] 24)).alloc (.cells #[.int .i64 0, .int .u8 0, .int .i64 0, .int .i64 0, .int .i64 0, .bool false, .bool false, .slice none 0 0, .int .u8 0, .bool false, .int .i64 0] 24)).alloc (.cells #[.int .u8 0, .bool false, .bool false, .int .u32 0] 32)
  have q0 := ((Blk.new w 24 #[.int .i64 (s).id, .int .u8 (s).st, .int .i64 (s).sd, .int .i64 (s).rc, .int .i64 (s).ow, .bool (s).an, .bool (s).en, .slice A n c, .int .u8 (s).ur, .bool (s).inc, .int .i64 (s).sl]).alloc (.cells #[.int .i64 0, .int .u8 0, .int .i64 0, .int .i64 0, .int .i64 0, .bool false, .bool false, .slice none 0 0, .int .u8 0, .bool false, .int .i64 0] 24)).alloc (.cells #[.int .u8 0, .bool false, .bool false, .int .u32 0] 32)
  have qr := (Blk.newAt (b := w.heap.size + 1) (w.alloc (.cells #[.int .i64 (s).id, .int .u8 (s).st, .int .i64 (s).sd, .int .i64 (s).rc, .int .i64 (s).ow, .bool (s).an, .bool (s).en, .slice A n c, .int .u8 (s).ur, .bool (s).inc, .int .i64 (s).sl] 24)) 24 #[.int .i64 0, .int .u8 0, .int .i64 0, .int .i64 0, .int .i64 0, .bool false, .bool false, .slice none 0 0, .int .u8 0, .bool false, .int .i64 0] (by simp)).alloc (.cells #[.int .u8 0, .bool false, .bool false, .int .u32 0] 32)
  have qc := Blk.newAt (b := w.heap.size + 1 + 1) ((w.alloc (.cells #[.int .i64 (s).id, .int .u8 (s).st, .int .i64 (s).sd, .int .i64 (s).rc, .int .i64 (s).ow, .bool (s).an, .bool (s).en, .slice A n c, .int .u8 (s).ur, .bool (s).inc, .int .i64 (s).sl] 24)).alloc (.cells #[.int .i64 0, .int .u8 0, .int .i64 0, .int .i64 0, .int .i64 0, .bool false, .bool false, .slice none 0 0, .int .u8 0, .bool false, .int .i64 0] 24)) 32 #[.int .u8 0, .bool false, .bool false, .int .u32 0] (by simp)
  have y := ((h.alloc (.cells #[.int .i64 (s).id, .int .u8 (s).st, .int .i64 (s).sd, .int .i64 (s).rc, .int .i64 (s).ow, .bool (s).an, .bool (s).en, .slice A n c, .int .u8 (s).ur, .bool (s).inc, .int .i64 (s).sl] 24)).alloc (.cells #[.int .i64 0, .int .u8 0, .int .i64 0, .int .i64 0, .int .i64 0, .bool false, .bool false, .slice none 0 0, .int .u8 0, .bool false, .int .i64 0] 24)).alloc (.cells #[.int .u8 0, .bool false, .bool false, .int .u32 0] 32)
  have sz := b0.out.size
  have HL := Lib.hid hl
  clear h hl e0 hc0
  go_enter Try.func11, Try.ntmps11
  go_wp2_with fail
  refine wp_region_G (fun w' => Blk w' w.heap.size 24 #[.int .i64 (s).id, .int .u8 (s).st, .int .i64 (s).sd, .int .i64 (s).rc, .int .i64 (s).ow, .bool (s).an, .bool (s).en, .slice A n c, .int .u8 (s).ur, .bool (s).inc, .int .i64 (s).sl]) [] (by kernel_rfl) ?_
  replace b0 := b0.drew
  replace q0 := q0.drew
  replace qr := qr.drew
  replace qc := qc.drew
  have S0 := q0
  replace y := y.drew
  refine wpAnyG_take 0 (v := _) rfl (by kernel_rfl) (fun _ _ _ h => h) S0 (Or.inl ⟨by rfl, fun w' hSw => exec_getB rfl rfl (hSw) Try.underlying24 rfl (by rfl)⟩) ?_; (try simp only [Act.put, go_sem])
  refine wpAnyG_take 2 (v := ?_) rfl (by kernel_rfl) (fun _ _ _ h => h) S0 (Or.inl ⟨by rfl, by intro w' hSw; go_simp; try with_reducible rfl⟩) ?_; (try simp only [Act.put, go_sem])
  refine wpAnyG_take 3 (v := ?_) rfl (by kernel_rfl) (fun _ _ _ h => h) S0 (Or.inl ⟨by rfl, by intro w' hSw; have z := (hSw).at 1 rfl; go_simp; try with_reducible rfl⟩) ?_; (try simp only [Act.put, go_sem])
  refine wpAnyG_take 4 (v := ?_) rfl (by kernel_rfl) (fun _ _ _ h => h) S0 (Or.inl ⟨by rfl, by intro w' hSw; go_simp; try with_reducible rfl⟩) ?_; (try simp only [Act.put, go_sem])
  refine wpAnyG_one 1 (by kernel_rfl) rfl (fun K hK => ?_)
  go_simp
  refine (fSOwn s A n c _ y (by omega)).mono ?_
  rintro e w9 ⟨A1, n1, c1, rfl, m1, hb⟩
  replace b0 := b0.below hb
  replace q0 := q0.below hb
  replace qr := qr.below hb
  replace qc := qc.below hb
  obtain rfl : n1 = n := by have h1 := m1.len; have h2 := HL.out; omega
  clear y hb
  clear S0
  have S0 := q0
  (try go_simp)
  refine hK.out _ _ (fun _ => S0) ?_
  clear hK K
  refine wpAnyG_one 5 (by kernel_rfl) rfl (fun K hK => ?_)
  rw [if_pos (by rfl)]
  refine wp_putB _ _ _ rfl rfl rfl qr (by rfl) (by rfl) (by rfl) ?_
  intro w9 qn hg
  replace b0 := b0.grown hg (by omega)
  replace m1 := m1.grownB qr (by decide) hg
  replace q0 := q0.grown hg (by omega)
  replace qc := qc.grown hg (by omega)
  clear hg qr
  have qr := qn
  clear qn
  clear S0
  have S0 := q0
  (try go_simp)
  refine hK.out _ _ (fun _ => S0) ?_
  clear hK K
  refine wpAnyG_one 6 (by kernel_rfl) rfl (fun K hK => ?_)
  rw [if_pos (by rfl)]
  refine wp_putB _ _ _ rfl rfl rfl qc (by rfl) (by rfl) (by rfl) ?_
  intro w9 qn hg
  replace b0 := b0.grown hg (by omega)
  replace m1 := m1.grownB qc (by decide) hg
  replace q0 := q0.grown hg (by omega)
  replace qr := qr.grown hg (by omega)
  clear hg qc
  have qc := qn
  clear qn
  clear S0
  have S0 := q0
  (try go_simp)
  refine hK.out _ _ (fun _ => S0) ?_
  clear hK K
  clear S0
  refine wpAnyG_done (by kernel_rfl) ?_ _
  have q0_1 := q0.at 1 rfl
  have q0_3 := q0.at 3 rfl
  have qr_3 := qr.at 3 rfl
  have qr_4 := qr.at 4 rfl
  have qc_0 := qc.at 0 rfl
  have qc_1 := qc.at 1 rfl
  have qc_2 := qc.at 2 rfl
  have qc_3 := qc.at 3 rfl
  go_upto_region 9 with (first
    | (go_at_call 30; (with_reducible refine (RT.out _ _ _).mono ?_); rintro e w9 ⟨rfl, hb⟩; replace b0 := b0.below hb; (try replace q0 := q0.below hb); (try replace qr := qr.below hb); (try replace qc := qc.below hb); (try replace m1 := m1.below hb); (try replace m2 := m2.below hb); (try clear q0_1); (try have q0_1 := q0.at 1 rfl); (try clear q0_3); (try have q0_3 := q0.at 3 rfl); (try clear qr_3); (try have qr_3 := qr.at 3 rfl); (try clear qr_4); (try have qr_4 := qr.at 4 rfl); (try clear qc_0); (try have qc_0 := qc.at 0 rfl); (try clear qc_1); (try have qc_1 := qc.at 1 rfl); (try clear qc_2); (try have qc_2 := qc.at 2 rfl); (try clear qc_3); (try have qc_3 := qc.at 3 rfl))
    | (go_at_call 14; (with_reducible refine (CM.out _).mono ?_); rintro e w9 ⟨rfl, hb⟩; replace b0 := b0.below hb; (try replace q0 := q0.below hb); (try replace qr := qr.below hb); (try replace qc := qc.below hb); (try replace m1 := m1.below hb); (try replace m2 := m2.below hb); (try clear q0_1); (try have q0_1 := q0.at 1 rfl); (try clear q0_3); (try have q0_3 := q0.at 3 rfl); (try clear qr_3); (try have qr_3 := qr.at 3 rfl); (try clear qr_4); (try have qr_4 := qr.at 4 rfl); (try clear qc_0); (try have qc_0 := qc.at 0 rfl); (try clear qc_1); (try have qc_1 := qc.at 1 rfl); (try clear qc_2); (try have qc_2 := qc.at 2 rfl); (try clear qc_3); (try have qc_3 := qc.at 3 rfl))
    | (go_at_call 34; (with_reducible refine (WI.out _).mono ?_); rintro e w9 ⟨rfl, rfl⟩)
    | (go_at_call 24; (with_reducible refine (OV.out _ _ _ m1.byt).mono ?_); rintro e w9 ⟨A2, n2, c2, rfl, m2, hb⟩; have hs := b0.out.size; replace m2 := m2.base_le hs; clear hs; replace b0 := b0.below hb; (try replace q0 := q0.below hb); (try replace qr := qr.below hb); (try replace qc := qc.below hb); (try replace m1 := m1.below hb); skip; (try clear q0_1); (try have q0_1 := q0.at 1 rfl); (try clear q0_3); (try have q0_3 := q0.at 3 rfl); (try clear qr_3); (try have qr_3 := qr.at 3 rfl); (try clear qr_4); (try have qr_4 := qr.at 4 rfl); (try clear qc_0); (try have qc_0 := qc.at 0 rfl); (try clear qc_1); (try have qc_1 := qc.at 1 rfl); (try clear qc_2); (try have qc_2 := qc.at 2 rfl); (try clear qc_3); (try have qc_3 := qc.at 3 rfl))
    | ((with_reducible refine wpList_id ?_); refine wpList_getB rfl _ _ rfl rfl q0 Try.underlying24 rfl (by rfl) ?_)
    | ((with_reducible refine wpList_id ?_); refine wpList_getB rfl _ _ rfl rfl qr Try.underlying24 rfl (by rfl) ?_)
    | ((with_reducible refine wpList_id ?_); refine wpList_putB rfl _ _ _ rfl rfl rfl qr (by rfl) (by rfl) (by rfl) ?_; intro w9 qn hg; replace b0 := b0.grown hg (by omega); (try replace m1 := m1.grownB qr (by decide) hg); (try replace m2 := m2.grownB qr (by decide) hg); (try replace q0 := q0.grown hg (by omega)); (try replace qc := qc.grown hg (by omega)); clear hg qr; have qr := qn; clear qn; (try clear q0_1); (try have q0_1 := q0.at 1 rfl); (try clear q0_3); (try have q0_3 := q0.at 3 rfl); (try clear qr_3); (try have qr_3 := qr.at 3 rfl); (try clear qr_4); (try have qr_4 := qr.at 4 rfl); (try clear qc_0); (try have qc_0 := qc.at 0 rfl); (try clear qc_1); (try have qc_1 := qc.at 1 rfl); (try clear qc_2); (try have qc_2 := qc.at 2 rfl); (try clear qc_3); (try have qc_3 := qc.at 3 rfl))
    | ((with_reducible refine wpList_id ?_); refine wpList_putB rfl _ _ _ rfl rfl rfl qc (by rfl) (by rfl) (by rfl) ?_; intro w9 qn hg; replace b0 := b0.grown hg (by omega); (try replace m1 := m1.grownB qc (by decide) hg); (try replace m2 := m2.grownB qc (by decide) hg); (try replace q0 := q0.grown hg (by omega)); (try replace qr := qr.grown hg (by omega)); clear hg qc; have qc := qn; clear qn; (try clear q0_1); (try have q0_1 := q0.at 1 rfl); (try clear q0_3); (try have q0_3 := q0.at 3 rfl); (try clear qr_3); (try have qr_3 := qr.at 3 rfl); (try clear qr_4); (try have qr_4 := qr.at 4 rfl); (try clear qc_0); (try have qc_0 := qc.at 0 rfl); (try clear qc_1); (try have qc_1 := qc.at 1 rfl); (try clear qc_2); (try have qc_2 := qc.at 2 rfl); (try clear qc_3); (try have qc_3 := qc.at 3 rfl))
    | ((with_reducible refine wpList_id ?_); refine wpList_putF rfl _ _ _ rfl rfl rfl qr rfl (by rfl) (by rfl) ?_; intro w9 qn hg; (try simp only [List.setIfInBounds_toArray, List.set_cons_succ, List.set_cons_zero] at qn); replace b0 := b0.grown hg (by omega); (try replace m1 := m1.grownB qr (by decide) hg); (try replace m2 := m2.grownB qr (by decide) hg); (try replace q0 := q0.grown hg (by omega)); (try replace qc := qc.grown hg (by omega)); clear hg qr; have qr := qn; clear qn; (try clear q0_1); (try have q0_1 := q0.at 1 rfl); (try clear q0_3); (try have q0_3 := q0.at 3 rfl); (try clear qr_3); (try have qr_3 := qr.at 3 rfl); (try clear qr_4); (try have qr_4 := qr.at 4 rfl); (try clear qc_0); (try have qc_0 := qc.at 0 rfl); (try clear qc_1); (try have qc_1 := qc.at 1 rfl); (try clear qc_2); (try have qc_2 := qc.at 2 rfl); (try clear qc_3); (try have qc_3 := qc.at 3 rfl)))
  go_upto_region 10 with fail
  go_wp2_with (first
    | (go_at_call 30; (with_reducible refine (RT.out _ _ _).mono ?_); rintro e w9 ⟨rfl, hb⟩; replace b0 := b0.below hb; (try replace q0 := q0.below hb); (try replace qr := qr.below hb); (try replace qc := qc.below hb); (try replace m1 := m1.below hb); (try replace m2 := m2.below hb); (try clear q0_1); (try have q0_1 := q0.at 1 rfl); (try clear q0_3); (try have q0_3 := q0.at 3 rfl); (try clear qr_3); (try have qr_3 := qr.at 3 rfl); (try clear qr_4); (try have qr_4 := qr.at 4 rfl); (try clear qc_0); (try have qc_0 := qc.at 0 rfl); (try clear qc_1); (try have qc_1 := qc.at 1 rfl); (try clear qc_2); (try have qc_2 := qc.at 2 rfl); (try clear qc_3); (try have qc_3 := qc.at 3 rfl))
    | (go_at_call 14; (with_reducible refine (CM.out _).mono ?_); rintro e w9 ⟨rfl, hb⟩; replace b0 := b0.below hb; (try replace q0 := q0.below hb); (try replace qr := qr.below hb); (try replace qc := qc.below hb); (try replace m1 := m1.below hb); (try replace m2 := m2.below hb); (try clear q0_1); (try have q0_1 := q0.at 1 rfl); (try clear q0_3); (try have q0_3 := q0.at 3 rfl); (try clear qr_3); (try have qr_3 := qr.at 3 rfl); (try clear qr_4); (try have qr_4 := qr.at 4 rfl); (try clear qc_0); (try have qc_0 := qc.at 0 rfl); (try clear qc_1); (try have qc_1 := qc.at 1 rfl); (try clear qc_2); (try have qc_2 := qc.at 2 rfl); (try clear qc_3); (try have qc_3 := qc.at 3 rfl))
    | (go_at_call 34; (with_reducible refine (WI.out _).mono ?_); rintro e w9 ⟨rfl, rfl⟩)
    | (go_at_call 24; (with_reducible refine (OV.out _ _ _ m1.byt).mono ?_); rintro e w9 ⟨A2, n2, c2, rfl, m2, hb⟩; have hs := b0.out.size; replace m2 := m2.base_le hs; clear hs; replace b0 := b0.below hb; (try replace q0 := q0.below hb); (try replace qr := qr.below hb); (try replace qc := qc.below hb); (try replace m1 := m1.below hb); skip; (try clear q0_1); (try have q0_1 := q0.at 1 rfl); (try clear q0_3); (try have q0_3 := q0.at 3 rfl); (try clear qr_3); (try have qr_3 := qr.at 3 rfl); (try clear qr_4); (try have qr_4 := qr.at 4 rfl); (try clear qc_0); (try have qc_0 := qc.at 0 rfl); (try clear qc_1); (try have qc_1 := qc.at 1 rfl); (try clear qc_2); (try have qc_2 := qc.at 2 rfl); (try clear qc_3); (try have qc_3 := qc.at 3 rfl))
    | ((with_reducible refine wpList_id ?_); refine wpList_getB rfl _ _ rfl rfl q0 Try.underlying24 rfl (by rfl) ?_)
    | ((with_reducible refine wpList_id ?_); refine wpList_getB rfl _ _ rfl rfl qr Try.underlying24 rfl (by rfl) ?_)
    | ((with_reducible refine wpList_id ?_); refine wpList_putB rfl _ _ _ rfl rfl rfl qr (by rfl) (by rfl) (by rfl) ?_; intro w9 qn hg; replace b0 := b0.grown hg (by omega); (try replace m1 := m1.grownB qr (by decide) hg); (try replace m2 := m2.grownB qr (by decide) hg); (try replace q0 := q0.grown hg (by omega)); (try replace qc := qc.grown hg (by omega)); clear hg qr; have qr := qn; clear qn; (try clear q0_1); (try have q0_1 := q0.at 1 rfl); (try clear q0_3); (try have q0_3 := q0.at 3 rfl); (try clear qr_3); (try have qr_3 := qr.at 3 rfl); (try clear qr_4); (try have qr_4 := qr.at 4 rfl); (try clear qc_0); (try have qc_0 := qc.at 0 rfl); (try clear qc_1); (try have qc_1 := qc.at 1 rfl); (try clear qc_2); (try have qc_2 := qc.at 2 rfl); (try clear qc_3); (try have qc_3 := qc.at 3 rfl))
    | ((with_reducible refine wpList_id ?_); refine wpList_putB rfl _ _ _ rfl rfl rfl qc (by rfl) (by rfl) (by rfl) ?_; intro w9 qn hg; replace b0 := b0.grown hg (by omega); (try replace m1 := m1.grownB qc (by decide) hg); (try replace m2 := m2.grownB qc (by decide) hg); (try replace q0 := q0.grown hg (by omega)); (try replace qr := qr.grown hg (by omega)); clear hg qc; have qc := qn; clear qn; (try clear q0_1); (try have q0_1 := q0.at 1 rfl); (try clear q0_3); (try have q0_3 := q0.at 3 rfl); (try clear qr_3); (try have qr_3 := qr.at 3 rfl); (try clear qr_4); (try have qr_4 := qr.at 4 rfl); (try clear qc_0); (try have qc_0 := qc.at 0 rfl); (try clear qc_1); (try have qc_1 := qc.at 1 rfl); (try clear qc_2); (try have qc_2 := qc.at 2 rfl); (try clear qc_3); (try have qc_3 := qc.at 3 rfl))
    | ((with_reducible refine wpList_id ?_); refine wpList_putF rfl _ _ _ rfl rfl rfl qr rfl (by rfl) (by rfl) ?_; intro w9 qn hg; (try simp only [List.setIfInBounds_toArray, List.set_cons_succ, List.set_cons_zero] at qn); replace b0 := b0.grown hg (by omega); (try replace m1 := m1.grownB qr (by decide) hg); (try replace m2 := m2.grownB qr (by decide) hg); (try replace q0 := q0.grown hg (by omega)); (try replace qc := qc.grown hg (by omega)); clear hg qr; have qr := qn; clear qn; (try clear q0_1); (try have q0_1 := q0.at 1 rfl); (try clear q0_3); (try have q0_3 := q0.at 3 rfl); (try clear qr_3); (try have qr_3 := qr.at 3 rfl); (try clear qr_4); (try have qr_4 := qr.at 4 rfl); (try clear qc_0); (try have qc_0 := qc.at 0 rfl); (try clear qc_1); (try have qc_1 := qc.at 1 rfl); (try clear qc_2); (try have qc_2 := qc.at 2 rfl); (try clear qc_3); (try have qc_3 := qc.at 3 rfl)))
  (try clear q0_1); (try clear q0_3); (try clear qr_3); (try clear qr_4); (try clear qc_0); (try clear qc_1); (try clear qc_2); (try clear qc_3)
  refine wp_region_G (fun w' => Blk w' (w.heap.size + 1) 24 #[.int .i64 ((tt)).id, .int .u8 ((tt)).st, .int .i64 ((tt)).sd, .int .i64 ((tt)).rc, .int .i64 ((tt)).ow, .bool ((tt)).an, .bool ((tt)).en, .slice A2 n2 c2, .int .u8 ((tt)).ur, .bool ((tt)).inc, .int .i64 ((tt)).sl] ∧ Blk w' (w.heap.size + 1 + 1) 32 #[.int .u8 cs, .bool true, .bool cw, .int .u32 cc]) [] (by kernel_rfl) ?_
  replace b0 := b0.drew
  replace q0 := q0.drew
  replace qr := qr.drew
  replace qc := qc.drew
  replace m1 := m1.drew
  replace m2 := m2.drew
  have S0 := And.intro qr qc
  refine wpAnyG_take 0 (v := _) rfl (by kernel_rfl) (fun _ _ _ h => h) S0 (Or.inl ⟨by rfl, fun w' hSw => exec_getB rfl rfl (hSw.1) Try.underlying24 rfl (by rfl)⟩) ?_; (try simp only [Act.put, go_sem])
  refine wpAnyG_take 1 (v := _) rfl (by kernel_rfl) (fun _ _ _ h => h) S0 (Or.inl ⟨by rfl, fun w' hSw => exec_getB rfl rfl (hSw.2) Try.underlying32 rfl (by rfl)⟩) ?_; (try simp only [Act.put, go_sem])
  refine wpAnyG_one 2 (by kernel_rfl) rfl (fun K hK => ?_)
  rw [if_pos (by rfl)]
  refine wp_putB _ _ _ rfl rfl rfl qr (by rfl) (by rfl) (by rfl) ?_
  intro w9 qn hg
  replace b0 := b0.grown hg (by omega)
  replace m1 := m1.grownB qr (by decide) hg
  replace m2 := m2.grownB qr (by decide) hg
  replace q0 := q0.grown hg (by omega)
  replace qc := qc.grown hg (by omega)
  clear hg qr
  have qr := qn
  clear qn
  clear S0
  have S0 := And.intro qr qc
  (try go_simp)
  refine hK.out _ _ (fun _ => S0) ?_
  clear hK K
  refine wpAnyG_one 3 (by kernel_rfl) rfl (fun K hK => ?_)
  rw [if_pos (by rfl)]
  refine wp_putB _ _ _ rfl rfl rfl qc (by rfl) (by rfl) (by rfl) ?_
  intro w9 qn hg
  replace b0 := b0.grown hg (by omega)
  replace m1 := m1.grownB qc (by decide) hg
  replace m2 := m2.grownB qc (by decide) hg
  replace q0 := q0.grown hg (by omega)
  replace qr := qr.grown hg (by omega)
  clear hg qc
  have qc := qn
  clear qn
  clear S0
  have S0 := And.intro qr qc
  (try go_simp)
  refine hK.out _ _ (fun _ => S0) ?_
  clear hK K
  clear S0
  refine wpAnyG_done (by kernel_rfl) ?_ _
  go_wp2_with fail
  exact res2cc rfl rfl rfl rfl qr Try.underlying24 rfl (by rfl) qc Try.underlying32 rfl (by rfl) ⟨_, _, _, rfl, m2.base_le (by first | exact Nat.le_refl _ | (simp; omega)), b0.out⟩
set_option maxHeartbeats 1000000 in
theorem fDataw4b (s : Str) (ok : StrOk s) (x : Int) (en : Bool) (x0 : -9223372036854775808 ≤ x ∧ x ≤ 9223372036854775807) (cs : Int) (cw : Bool) (cc : Int) (k0 : 0 ≤ cs) (hc0 : comesF s.st 0 en = ⟨cs, true, cw, cc⟩) (A : Option Addr) (n c : Nat) (w : World) (h : Byt w A n c s.out) (hn : n ≤ 100000) (e0 : rightS s = true) (f0 : withinB x s.rc = true) (f1 : 2147483647 < s.ow + x) :
    Calls Try.prog 11 #[.agg #[.int .i64 (s).id, .int .u8 (s).st, .int .i64 (s).sd, .int .i64 (s).rc, .int .i64 (s).ow, .bool (s).an, .bool (s).en, .slice A n c, .int .u8 (s).ur, .bool (s).inc, .int .i64 (s).sl], .int .i64 x, .bool en] w (DtP (overS ({ s with rc := s.rc - x, ow := 2147483647 }) cs) ⟨cs, true, cw, cc⟩ w) := by
  have hc := h.cap; have hx := h.mx; have hl := h.len
  have RT := Lib.hid fun (A : Option Addr) (c : Nat) W => fSRight s ok A n c W hl (by omega)
  rw [e0] at RT
  have hR : RightS s := of_decide_eq_true e0
  obtain ⟨_, _, _, ⟨r0, r1⟩, ⟨w0, w1⟩, _⟩ := hR
  have CM := Lib.hid fun W => fComes s.st 0 en ok.st.1 W
  rw [hc0] at CM
  have WI := Lib.hid fun W => fWithin x s.rc W
  rw [f0] at WI
  simp only [withinB, decide_eq_true_eq, decide_eq_false_iff_not] at f0
  have OV := Lib.hid fun (A : Option Addr) (c : Nat) W (h : Byt W A n c s.out) => fOver ({ s with rc := s.rc - x, ow := 2147483647 }) (okTake ok ⟨by omega, by omega⟩ ⟨by omega, by omega⟩) cs k0 A n c W h hn
  generalize overS ({ s with rc := s.rc - x, ow := 2147483647 }) cs = tt at *
  have b0 := (((Bel.refl w).alloc (.cells #[.int .i64 (s).id, .int .u8 (s).st, .int .i64 (s).sd, .int .i64 (s).rc, .int .i64 (s).ow, .bool (s).an, .bool (s).en, .slice A n c, .int .u8 (s).ur, .bool (s).inc, .int .i64 (s).sl] 24)).alloc (.cells #[.int .i64 0, .int .u8 0, .int .i64 0, .int .i64 0, .int .i64 0, .bool false, .bool false, .slice none 0 0, .int .u8 0, .bool false, .int .i64 0] 24)).alloc (.cells #[.int .u8 0, .bool false, .bool false, .int .u32 0] 32)
  have q0 := ((Blk.new w 24 #[.int .i64 (s).id, .int .u8 (s).st, .int .i64 (s).sd, .int .i64 (s).rc, .int .i64 (s).ow, .bool (s).an, .bool (s).en, .slice A n c, .int .u8 (s).ur, .bool (s).inc, .int .i64 (s).sl]).alloc (.cells #[.int .i64 0, .int .u8 0, .int .i64 0, .int .i64 0, .int .i64 0, .bool false, .bool false, .slice none 0 0, .int .u8 0, .bool false, .int .i64 0] 24)).alloc (.cells #[.int .u8 0, .bool false, .bool false, .int .u32 0] 32)
  have qr := (Blk.newAt (b := w.heap.size + 1) (w.alloc (.cells #[.int .i64 (s).id, .int .u8 (s).st, .int .i64 (s).sd, .int .i64 (s).rc, .int .i64 (s).ow, .bool (s).an, .bool (s).en, .slice A n c, .int .u8 (s).ur, .bool (s).inc, .int .i64 (s).sl] 24)) 24 #[.int .i64 0, .int .u8 0, .int .i64 0, .int .i64 0, .int .i64 0, .bool false, .bool false, .slice none 0 0, .int .u8 0, .bool false, .int .i64 0] (by simp)).alloc (.cells #[.int .u8 0, .bool false, .bool false, .int .u32 0] 32)
  have qc := Blk.newAt (b := w.heap.size + 1 + 1) ((w.alloc (.cells #[.int .i64 (s).id, .int .u8 (s).st, .int .i64 (s).sd, .int .i64 (s).rc, .int .i64 (s).ow, .bool (s).an, .bool (s).en, .slice A n c, .int .u8 (s).ur, .bool (s).inc, .int .i64 (s).sl] 24)).alloc (.cells #[.int .i64 0, .int .u8 0, .int .i64 0, .int .i64 0, .int .i64 0, .bool false, .bool false, .slice none 0 0, .int .u8 0, .bool false, .int .i64 0] 24)) 32 #[.int .u8 0, .bool false, .bool false, .int .u32 0] (by simp)
  have y := ((h.alloc (.cells #[.int .i64 (s).id, .int .u8 (s).st, .int .i64 (s).sd, .int .i64 (s).rc, .int .i64 (s).ow, .bool (s).an, .bool (s).en, .slice A n c, .int .u8 (s).ur, .bool (s).inc, .int .i64 (s).sl] 24)).alloc (.cells #[.int .i64 0, .int .u8 0, .int .i64 0, .int .i64 0, .int .i64 0, .bool false, .bool false, .slice none 0 0, .int .u8 0, .bool false, .int .i64 0] 24)).alloc (.cells #[.int .u8 0, .bool false, .bool false, .int .u32 0] 32)
  have sz := b0.out.size
  have HL := Lib.hid hl
  clear h hl e0 hc0
  go_enter Try.func11, Try.ntmps11
  go_wp2_with fail
  refine wp_region_G (fun w' => Blk w' w.heap.size 24 #[.int .i64 (s).id, .int .u8 (s).st, .int .i64 (s).sd, .int .i64 (s).rc, .int .i64 (s).ow, .bool (s).an, .bool (s).en, .slice A n c, .int .u8 (s).ur, .bool (s).inc, .int .i64 (s).sl]) [] (by kernel_rfl) ?_
  replace b0 := b0.drew
  replace q0 := q0.drew
  replace qr := qr.drew
  replace qc := qc.drew
  have S0 := q0
  replace y := y.drew
  refine wpAnyG_take 0 (v := _) rfl (by kernel_rfl) (fun _ _ _ h => h) S0 (Or.inl ⟨by rfl, fun w' hSw => exec_getB rfl rfl (hSw) Try.underlying24 rfl (by rfl)⟩) ?_; (try simp only [Act.put, go_sem])
  refine wpAnyG_take 2 (v := ?_) rfl (by kernel_rfl) (fun _ _ _ h => h) S0 (Or.inl ⟨by rfl, by intro w' hSw; go_simp; try with_reducible rfl⟩) ?_; (try simp only [Act.put, go_sem])
  refine wpAnyG_take 3 (v := ?_) rfl (by kernel_rfl) (fun _ _ _ h => h) S0 (Or.inl ⟨by rfl, by intro w' hSw; have z := (hSw).at 1 rfl; go_simp; try with_reducible rfl⟩) ?_; (try simp only [Act.put, go_sem])
  refine wpAnyG_take 4 (v := ?_) rfl (by kernel_rfl) (fun _ _ _ h => h) S0 (Or.inl ⟨by rfl, by intro w' hSw; go_simp; try with_reducible rfl⟩) ?_; (try simp only [Act.put, go_sem])
  refine wpAnyG_one 1 (by kernel_rfl) rfl (fun K hK => ?_)
  go_simp
  refine (fSOwn s A n c _ y (by omega)).mono ?_
  rintro e w9 ⟨A1, n1, c1, rfl, m1, hb⟩
  replace b0 := b0.below hb
  replace q0 := q0.below hb
  replace qr := qr.below hb
  replace qc := qc.below hb
  obtain rfl : n1 = n := by have h1 := m1.len; have h2 := HL.out; omega
  clear y hb
  clear S0
  have S0 := q0
  (try go_simp)
  refine hK.out _ _ (fun _ => S0) ?_
  clear hK K
  refine wpAnyG_one 5 (by kernel_rfl) rfl (fun K hK => ?_)
  rw [if_pos (by rfl)]
  refine wp_putB _ _ _ rfl rfl rfl qr (by rfl) (by rfl) (by rfl) ?_
  intro w9 qn hg
  replace b0 := b0.grown hg (by omega)
  replace m1 := m1.grownB qr (by decide) hg
  replace q0 := q0.grown hg (by omega)
  replace qc := qc.grown hg (by omega)
  clear hg qr
  have qr := qn
  clear qn
  clear S0
  have S0 := q0
  (try go_simp)
  refine hK.out _ _ (fun _ => S0) ?_
  clear hK K
  refine wpAnyG_one 6 (by kernel_rfl) rfl (fun K hK => ?_)
  rw [if_pos (by rfl)]
  refine wp_putB _ _ _ rfl rfl rfl qc (by rfl) (by rfl) (by rfl) ?_
  intro w9 qn hg
  replace b0 := b0.grown hg (by omega)
  replace m1 := m1.grownB qc (by decide) hg
  replace q0 := q0.grown hg (by omega)
  replace qr := qr.grown hg (by omega)
  clear hg qc
  have qc := qn
  clear qn
  clear S0
  have S0 := q0
  (try go_simp)
  refine hK.out _ _ (fun _ => S0) ?_
  clear hK K
  clear S0
  refine wpAnyG_done (by kernel_rfl) ?_ _
  have q0_1 := q0.at 1 rfl
  have q0_3 := q0.at 3 rfl
  have qr_3 := qr.at 3 rfl
  have qr_4 := qr.at 4 rfl
  have qc_0 := qc.at 0 rfl
  have qc_1 := qc.at 1 rfl
  have qc_2 := qc.at 2 rfl
  have qc_3 := qc.at 3 rfl
  go_upto_region 9 with (first
    | (go_at_call 30; (with_reducible refine (RT.out _ _ _).mono ?_); rintro e w9 ⟨rfl, hb⟩; replace b0 := b0.below hb; (try replace q0 := q0.below hb); (try replace qr := qr.below hb); (try replace qc := qc.below hb); (try replace m1 := m1.below hb); (try replace m2 := m2.below hb); (try clear q0_1); (try have q0_1 := q0.at 1 rfl); (try clear q0_3); (try have q0_3 := q0.at 3 rfl); (try clear qr_3); (try have qr_3 := qr.at 3 rfl); (try clear qr_4); (try have qr_4 := qr.at 4 rfl); (try clear qc_0); (try have qc_0 := qc.at 0 rfl); (try clear qc_1); (try have qc_1 := qc.at 1 rfl); (try clear qc_2); (try have qc_2 := qc.at 2 rfl); (try clear qc_3); (try have qc_3 := qc.at 3 rfl))
    | (go_at_call 14; (with_reducible refine (CM.out _).mono ?_); rintro e w9 ⟨rfl, hb⟩; replace b0 := b0.below hb; (try replace q0 := q0.below hb); (try replace qr := qr.below hb); (try replace qc := qc.below hb); (try replace m1 := m1.below hb); (try replace m2 := m2.below hb); (try clear q0_1); (try have q0_1 := q0.at 1 rfl); (try clear q0_3); (try have q0_3 := q0.at 3 rfl); (try clear qr_3); (try have qr_3 := qr.at 3 rfl); (try clear qr_4); (try have qr_4 := qr.at 4 rfl); (try clear qc_0); (try have qc_0 := qc.at 0 rfl); (try clear qc_1); (try have qc_1 := qc.at 1 rfl); (try clear qc_2); (try have qc_2 := qc.at 2 rfl); (try clear qc_3); (try have qc_3 := qc.at 3 rfl))
    | (go_at_call 34; (with_reducible refine (WI.out _).mono ?_); rintro e w9 ⟨rfl, rfl⟩)
    | (go_at_call 24; (with_reducible refine (OV.out _ _ _ m1.byt).mono ?_); rintro e w9 ⟨A2, n2, c2, rfl, m2, hb⟩; have hs := b0.out.size; replace m2 := m2.base_le hs; clear hs; replace b0 := b0.below hb; (try replace q0 := q0.below hb); (try replace qr := qr.below hb); (try replace qc := qc.below hb); (try replace m1 := m1.below hb); skip; (try clear q0_1); (try have q0_1 := q0.at 1 rfl); (try clear q0_3); (try have q0_3 := q0.at 3 rfl); (try clear qr_3); (try have qr_3 := qr.at 3 rfl); (try clear qr_4); (try have qr_4 := qr.at 4 rfl); (try clear qc_0); (try have qc_0 := qc.at 0 rfl); (try clear qc_1); (try have qc_1 := qc.at 1 rfl); (try clear qc_2); (try have qc_2 := qc.at 2 rfl); (try clear qc_3); (try have qc_3 := qc.at 3 rfl))
    | ((with_reducible refine wpList_id ?_); refine wpList_getB rfl _ _ rfl rfl q0 Try.underlying24 rfl (by rfl) ?_)
    | ((with_reducible refine wpList_id ?_); refine wpList_getB rfl _ _ rfl rfl qr Try.underlying24 rfl (by rfl) ?_)
    | ((with_reducible refine wpList_id ?_); refine wpList_putB rfl _ _ _ rfl rfl rfl qr (by rfl) (by rfl) (by rfl) ?_; intro w9 qn hg; replace b0 := b0.grown hg (by omega); (try replace m1 := m1.grownB qr (by decide) hg); (try replace m2 := m2.grownB qr (by decide) hg); (try replace q0 := q0.grown hg (by omega)); (try replace qc := qc.grown hg (by omega)); clear hg qr; have qr := qn; clear qn; (try clear q0_1); (try have q0_1 := q0.at 1 rfl); (try clear q0_3); (try have q0_3 := q0.at 3 rfl); (try clear qr_3); (try have qr_3 := qr.at 3 rfl); (try clear qr_4); (try have qr_4 := qr.at 4 rfl); (try clear qc_0); (try have qc_0 := qc.at 0 rfl); (try clear qc_1); (try have qc_1 := qc.at 1 rfl); (try clear qc_2); (try have qc_2 := qc.at 2 rfl); (try clear qc_3); (try have qc_3 := qc.at 3 rfl))
    | ((with_reducible refine wpList_id ?_); refine wpList_putB rfl _ _ _ rfl rfl rfl qc (by rfl) (by rfl) (by rfl) ?_; intro w9 qn hg; replace b0 := b0.grown hg (by omega); (try replace m1 := m1.grownB qc (by decide) hg); (try replace m2 := m2.grownB qc (by decide) hg); (try replace q0 := q0.grown hg (by omega)); (try replace qr := qr.grown hg (by omega)); clear hg qc; have qc := qn; clear qn; (try clear q0_1); (try have q0_1 := q0.at 1 rfl); (try clear q0_3); (try have q0_3 := q0.at 3 rfl); (try clear qr_3); (try have qr_3 := qr.at 3 rfl); (try clear qr_4); (try have qr_4 := qr.at 4 rfl); (try clear qc_0); (try have qc_0 := qc.at 0 rfl); (try clear qc_1); (try have qc_1 := qc.at 1 rfl); (try clear qc_2); (try have qc_2 := qc.at 2 rfl); (try clear qc_3); (try have qc_3 := qc.at 3 rfl))
    | ((with_reducible refine wpList_id ?_); refine wpList_putF rfl _ _ _ rfl rfl rfl qr rfl (by rfl) (by rfl) ?_; intro w9 qn hg; (try simp only [List.setIfInBounds_toArray, List.set_cons_succ, List.set_cons_zero] at qn); replace b0 := b0.grown hg (by omega); (try replace m1 := m1.grownB qr (by decide) hg); (try replace m2 := m2.grownB qr (by decide) hg); (try replace q0 := q0.grown hg (by omega)); (try replace qc := qc.grown hg (by omega)); clear hg qr; have qr := qn; clear qn; (try clear q0_1); (try have q0_1 := q0.at 1 rfl); (try clear q0_3); (try have q0_3 := q0.at 3 rfl); (try clear qr_3); (try have qr_3 := qr.at 3 rfl); (try clear qr_4); (try have qr_4 := qr.at 4 rfl); (try clear qc_0); (try have qc_0 := qc.at 0 rfl); (try clear qc_1); (try have qc_1 := qc.at 1 rfl); (try clear qc_2); (try have qc_2 := qc.at 2 rfl); (try clear qc_3); (try have qc_3 := qc.at 3 rfl)))
  go_upto_region 10 with fail
  go_wp2_with (first
    | (go_at_call 30; (with_reducible refine (RT.out _ _ _).mono ?_); rintro e w9 ⟨rfl, hb⟩; replace b0 := b0.below hb; (try replace q0 := q0.below hb); (try replace qr := qr.below hb); (try replace qc := qc.below hb); (try replace m1 := m1.below hb); (try replace m2 := m2.below hb); (try clear q0_1); (try have q0_1 := q0.at 1 rfl); (try clear q0_3); (try have q0_3 := q0.at 3 rfl); (try clear qr_3); (try have qr_3 := qr.at 3 rfl); (try clear qr_4); (try have qr_4 := qr.at 4 rfl); (try clear qc_0); (try have qc_0 := qc.at 0 rfl); (try clear qc_1); (try have qc_1 := qc.at 1 rfl); (try clear qc_2); (try have qc_2 := qc.at 2 rfl); (try clear qc_3); (try have qc_3 := qc.at 3 rfl))
    | (go_at_call 14; (with_reducible refine (CM.out _).mono ?_); rintro e w9 ⟨rfl, hb⟩; replace b0 := b0.below hb; (try replace q0 := q0.below hb); (try replace qr := qr.below hb); (try replace qc := qc.below hb); (try replace m1 := m1.below hb); (try replace m2 := m2.below hb); (try clear q0_1); (try have q0_1 := q0.at 1 rfl); (try clear q0_3); (try have q0_3 := q0.at 3 rfl); (try clear qr_3); (try have qr_3 := qr.at 3 rfl); (try clear qr_4); (try have qr_4 := qr.at 4 rfl); (try clear qc_0); (try have qc_0 := qc.at 0 rfl); (try clear qc_1); (try have qc_1 := qc.at 1 rfl); (try clear qc_2); (try have qc_2 := qc.at 2 rfl); (try clear qc_3); (try have qc_3 := qc.at 3 rfl))
    | (go_at_call 34; (with_reducible refine (WI.out _).mono ?_); rintro e w9 ⟨rfl, rfl⟩)
    | (go_at_call 24; (with_reducible refine (OV.out _ _ _ m1.byt).mono ?_); rintro e w9 ⟨A2, n2, c2, rfl, m2, hb⟩; have hs := b0.out.size; replace m2 := m2.base_le hs; clear hs; replace b0 := b0.below hb; (try replace q0 := q0.below hb); (try replace qr := qr.below hb); (try replace qc := qc.below hb); (try replace m1 := m1.below hb); skip; (try clear q0_1); (try have q0_1 := q0.at 1 rfl); (try clear q0_3); (try have q0_3 := q0.at 3 rfl); (try clear qr_3); (try have qr_3 := qr.at 3 rfl); (try clear qr_4); (try have qr_4 := qr.at 4 rfl); (try clear qc_0); (try have qc_0 := qc.at 0 rfl); (try clear qc_1); (try have qc_1 := qc.at 1 rfl); (try clear qc_2); (try have qc_2 := qc.at 2 rfl); (try clear qc_3); (try have qc_3 := qc.at 3 rfl))
    | ((with_reducible refine wpList_id ?_); refine wpList_getB rfl _ _ rfl rfl q0 Try.underlying24 rfl (by rfl) ?_)
    | ((with_reducible refine wpList_id ?_); refine wpList_getB rfl _ _ rfl rfl qr Try.underlying24 rfl (by rfl) ?_)
    | ((with_reducible refine wpList_id ?_); refine wpList_putB rfl _ _ _ rfl rfl rfl qr (by rfl) (by rfl) (by rfl) ?_; intro w9 qn hg; replace b0 := b0.grown hg (by omega); (try replace m1 := m1.grownB qr (by decide) hg); (try replace m2 := m2.grownB qr (by decide) hg); (try replace q0 := q0.grown hg (by omega)); (try replace qc := qc.grown hg (by omega)); clear hg qr; have qr := qn; clear qn; (try clear q0_1); (try have q0_1 := q0.at 1 rfl); (try clear q0_3); (try have q0_3 := q0.at 3 rfl); (try clear qr_3); (try have qr_3 := qr.at 3 rfl); (try clear qr_4); (try have qr_4 := qr.at 4 rfl); (try clear qc_0); (try have qc_0 := qc.at 0 rfl); (try clear qc_1); (try have qc_1 := qc.at 1 rfl); (try clear qc_2); (try have qc_2 := qc.at 2 rfl); (try clear qc_3); (try have qc_3 := qc.at 3 rfl))
    | ((with_reducible refine wpList_id ?_); refine wpList_putB rfl _ _ _ rfl rfl rfl qc (by rfl) (by rfl) (by rfl) ?_; intro w9 qn hg; replace b0 := b0.grown hg (by omega); (try replace m1 := m1.grownB qc (by decide) hg); (try replace m2 := m2.grownB qc (by decide) hg); (try replace q0 := q0.grown hg (by omega)); (try replace qr := qr.grown hg (by omega)); clear hg qc; have qc := qn; clear qn; (try clear q0_1); (try have q0_1 := q0.at 1 rfl); (try clear q0_3); (try have q0_3 := q0.at 3 rfl); (try clear qr_3); (try have qr_3 := qr.at 3 rfl); (try clear qr_4); (try have qr_4 := qr.at 4 rfl); (try clear qc_0); (try have qc_0 := qc.at 0 rfl); (try clear qc_1); (try have qc_1 := qc.at 1 rfl); (try clear qc_2); (try have qc_2 := qc.at 2 rfl); (try clear qc_3); (try have qc_3 := qc.at 3 rfl))
    | ((with_reducible refine wpList_id ?_); refine wpList_putF rfl _ _ _ rfl rfl rfl qr rfl (by rfl) (by rfl) ?_; intro w9 qn hg; (try simp only [List.setIfInBounds_toArray, List.set_cons_succ, List.set_cons_zero] at qn); replace b0 := b0.grown hg (by omega); (try replace m1 := m1.grownB qr (by decide) hg); (try replace m2 := m2.grownB qr (by decide) hg); (try replace q0 := q0.grown hg (by omega)); (try replace qc := qc.grown hg (by omega)); clear hg qr; have qr := qn; clear qn; (try clear q0_1); (try have q0_1 := q0.at 1 rfl); (try clear q0_3); (try have q0_3 := q0.at 3 rfl); (try clear qr_3); (try have qr_3 := qr.at 3 rfl); (try clear qr_4); (try have qr_4 := qr.at 4 rfl); (try clear qc_0); (try have qc_0 := qc.at 0 rfl); (try clear qc_1); (try have qc_1 := qc.at 1 rfl); (try clear qc_2); (try have qc_2 := qc.at 2 rfl); (try clear qc_3); (try have qc_3 := qc.at 3 rfl)))
  (try clear q0_1); (try clear q0_3); (try clear qr_3); (try clear qr_4); (try clear qc_0); (try clear qc_1); (try clear qc_2); (try clear qc_3)
  refine wp_region_G (fun w' => Blk w' (w.heap.size + 1) 24 #[.int .i64 ((tt)).id, .int .u8 ((tt)).st, .int .i64 ((tt)).sd, .int .i64 ((tt)).rc, .int .i64 ((tt)).ow, .bool ((tt)).an, .bool ((tt)).en, .slice A2 n2 c2, .int .u8 ((tt)).ur, .bool ((tt)).inc, .int .i64 ((tt)).sl] ∧ Blk w' (w.heap.size + 1 + 1) 32 #[.int .u8 cs, .bool true, .bool cw, .int .u32 cc]) [] (by kernel_rfl) ?_
  replace b0 := b0.drew
  replace q0 := q0.drew
  replace qr := qr.drew
  replace qc := qc.drew
  replace m1 := m1.drew
  replace m2 := m2.drew
  have S0 := And.intro qr qc
  refine wpAnyG_take 0 (v := _) rfl (by kernel_rfl) (fun _ _ _ h => h) S0 (Or.inl ⟨by rfl, fun w' hSw => exec_getB rfl rfl (hSw.1) Try.underlying24 rfl (by rfl)⟩) ?_; (try simp only [Act.put, go_sem])
  refine wpAnyG_take 1 (v := _) rfl (by kernel_rfl) (fun _ _ _ h => h) S0 (Or.inl ⟨by rfl, fun w' hSw => exec_getB rfl rfl (hSw.2) Try.underlying32 rfl (by rfl)⟩) ?_; (try simp only [Act.put, go_sem])
  refine wpAnyG_one 2 (by kernel_rfl) rfl (fun K hK => ?_)
  rw [if_pos (by rfl)]
  refine wp_putB _ _ _ rfl rfl rfl qr (by rfl) (by rfl) (by rfl) ?_
  intro w9 qn hg
  replace b0 := b0.grown hg (by omega)
  replace m1 := m1.grownB qr (by decide) hg
  replace m2 := m2.grownB qr (by decide) hg
  replace q0 := q0.grown hg (by omega)
  replace qc := qc.grown hg (by omega)
  clear hg qr
  have qr := qn
  clear qn
  clear S0
  have S0 := And.intro qr qc
  (try go_simp)
  refine hK.out _ _ (fun _ => S0) ?_
  clear hK K
  refine wpAnyG_one 3 (by kernel_rfl) rfl (fun K hK => ?_)
  rw [if_pos (by rfl)]
  refine wp_putB _ _ _ rfl rfl rfl qc (by rfl) (by rfl) (by rfl) ?_
  intro w9 qn hg
  replace b0 := b0.grown hg (by omega)
  replace m1 := m1.grownB qc (by decide) hg
  replace m2 := m2.grownB qc (by decide) hg
  replace q0 := q0.grown hg (by omega)
  replace qr := qr.grown hg (by omega)
  clear hg qc
  have qc := qn
  clear qn
  clear S0
  have S0 := And.intro qr qc
  (try go_simp)
  refine hK.out _ _ (fun _ => S0) ?_
  clear hK K
  clear S0
  refine wpAnyG_done (by kernel_rfl) ?_ _
  go_wp2_with fail
  exact res2cc rfl rfl rfl rfl qr Try.underlying24 rfl (by rfl) qc Try.underlying32 rfl (by rfl) ⟨_, _, _, rfl, m2.base_le (by first | exact Nat.le_refl _ | (simp; omega)), b0.out⟩
theorem fData (s : Str) (ok : StrOk s) (x : Int) (en : Bool) (x0 : -9223372036854775808 ≤ x ∧ x ≤ 9223372036854775807) (A : Option Addr) (n c : Nat) (w : World) (h : Byt w A n c s.out) (hn : n ≤ 100000) :
    Calls Try.prog 11 #[.agg #[.int .i64 (s).id, .int .u8 (s).st, .int .i64 (s).sd, .int .i64 (s).rc, .int .i64 (s).ow, .bool (s).an, .bool (s).en, .slice A n c, .int .u8 (s).ur, .bool (s).inc, .int .i64 (s).sl], .int .i64 x, .bool en] w (DtP (dataS s x en) (dataC s x en) w) := by
  unfold dataS dataC
  by_cases r : RightS s
  · rw [if_pos r, if_pos r]
    have k := comes_st0 (kd := 0) (en := en) ok.st.1
    obtain ⟨⟨cs, ct, cw, cc⟩, hc0⟩ : ∃ c, comesF s.st 0 en = c := ⟨_, rfl⟩
    rw [hc0] at k ⊢
    have k0 : 0 ≤ cs := k
    cases ct
    · simp only [Bool.false_eq_true, false_and, if_false]
      by_cases hcc : cc = 0
      · subst hcc
        cases cw
        · rw [if_neg (fun q => q.2 rfl)]
          exact fDataw2b s ok x en x0 cs k0 hc0 A n c w h hn (rightS_yes r)
        · exact (comes_whole0 hc0).elim
      · have hcb : (cc != 0) = true := by rw [bne_iff_ne]; exact hcc
        cases cw
        · rw [if_pos ⟨rfl, hcc⟩]
          exact fDataw1 s ok x en x0 cs cc k0 hc0 A n c w h hn (rightS_yes r) hcb
        · rw [if_neg (fun q => by cases q.1)]
          exact fDataw2 s ok x en x0 cs cc k0 hc0 A n c w h hn (rightS_yes r) hcb
    · simp only [true_and, if_true]
      by_cases hx : 0 ≤ x ∧ x ≤ s.rc
      · rw [if_pos hx, if_neg (show ¬¬(0 ≤ x ∧ x ≤ s.rc) from fun q => q hx)]
        by_cases hm : s.ow + x ≤ 2147483647
        · rw [if_pos hm]
          exact fDataw4a s ok x en x0 cs cw cc k0 hc0 A n c w h hn (rightS_yes r) (decide_eq_true hx) hm
        · rw [if_neg hm]
          exact fDataw4b s ok x en x0 cs cw cc k0 hc0 A n c w h hn (rightS_yes r) (decide_eq_true hx) (by omega)
      rw [if_neg hx, if_pos hx]
      exact fDataw3 s ok x en x0 cs cw cc k0 hc0 A n c w h hn (rightS_yes r) (decide_eq_false hx)
  · rw [if_neg r, if_neg r]
    exact fDatano s ok x en x0 A n c w h hn (rightS_no r)
end Go.Proofs.Ytaaeflomjcpfpaa
