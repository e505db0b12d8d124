/- DATA (the document's): the contracts. -/
import Derived.Test.YtaaeflomjcpfpaaSm
import Derived.Deep.Cut
namespace Go.Proofs.Ytaaeflomjcpfpaa
open Go.RowKit Go.Shelf
set_option linter.unusedVariables false
set_option linter.unusedSimpArgs false

set_option maxHeartbeats 1000000 in
theorem rDatano (s : Str) (ok : StrOk s) (x : Int) (en : Bool) (x0 : -9223372036854775808 ≤ x ∧ x ≤ 9223372036854775807) (A : Option Addr) (n c : Nat) (w : World) (h : Byt w A n c s.out) (hn : n ≤ 100000) (e0 : rightS s = false)  :
    Calls Try.prog 12 #[.agg #[.int .i64 (s).id, .int .u8 (s).st, .int .i64 (s).sd, .int .i64 (s).rc, .int .i64 (s).ow, .bool (s).an, .bool (s).en, .slice A n c, .int .u8 (s).ur, .bool (s).inc, .int .i64 (s).sl], .int .i64 x, .bool en] w (DtP s ⟨s.st, false, false, 0⟩ w) := by
  have hc := h.cap; have hx := h.mx; have hl := h.len
  have RT := Lib.hid fun (A : Option Addr) (c : Nat) W => rSRight s ok A n c W hl (by omega)
  rw [e0] at RT
  have b0 := (((Bel.refl w).alloc (.cells #[.int .i64 (s).id, .int .u8 (s).st, .int .i64 (s).sd, .int .i64 (s).rc, .int .i64 (s).ow, .bool (s).an, .bool (s).en, .slice A n c, .int .u8 (s).ur, .bool (s).inc, .int .i64 (s).sl] 24)).alloc (.cells #[.int .i64 0, .int .u8 0, .int .i64 0, .int .i64 0, .int .i64 0, .bool false, .bool false, .slice none 0 0, .int .u8 0, .bool false, .int .i64 0] 24)).alloc (.cells #[.int .u8 0, .bool false, .bool false, .int .u32 0] 32)
  have q0 := ((Blk.new w 24 #[.int .i64 (s).id, .int .u8 (s).st, .int .i64 (s).sd, .int .i64 (s).rc, .int .i64 (s).ow, .bool (s).an, .bool (s).en, .slice A n c, .int .u8 (s).ur, .bool (s).inc, .int .i64 (s).sl]).alloc (.cells #[.int .i64 0, .int .u8 0, .int .i64 0, .int .i64 0, .int .i64 0, .bool false, .bool false, .slice none 0 0, .int .u8 0, .bool false, .int .i64 0] 24)).alloc (.cells #[.int .u8 0, .bool false, .bool false, .int .u32 0] 32)
  have qr := (Blk.newAt (b := w.heap.size + 1) (w.alloc (.cells #[.int .i64 (s).id, .int .u8 (s).st, .int .i64 (s).sd, .int .i64 (s).rc, .int .i64 (s).ow, .bool (s).an, .bool (s).en, .slice A n c, .int .u8 (s).ur, .bool (s).inc, .int .i64 (s).sl] 24)) 24 #[.int .i64 0, .int .u8 0, .int .i64 0, .int .i64 0, .int .i64 0, .bool false, .bool false, .slice none 0 0, .int .u8 0, .bool false, .int .i64 0] (by simp)).alloc (.cells #[.int .u8 0, .bool false, .bool false, .int .u32 0] 32)
  have qc := Blk.newAt (b := w.heap.size + 1 + 1) ((w.alloc (.cells #[.int .i64 (s).id, .int .u8 (s).st, .int .i64 (s).sd, .int .i64 (s).rc, .int .i64 (s).ow, .bool (s).an, .bool (s).en, .slice A n c, .int .u8 (s).ur, .bool (s).inc, .int .i64 (s).sl] 24)).alloc (.cells #[.int .i64 0, .int .u8 0, .int .i64 0, .int .i64 0, .int .i64 0, .bool false, .bool false, .slice none 0 0, .int .u8 0, .bool false, .int .i64 0] 24)) 32 #[.int .u8 0, .bool false, .bool false, .int .u32 0] (by simp)
  have y := ((h.alloc (.cells #[.int .i64 (s).id, .int .u8 (s).st, .int .i64 (s).sd, .int .i64 (s).rc, .int .i64 (s).ow, .bool (s).an, .bool (s).en, .slice A n c, .int .u8 (s).ur, .bool (s).inc, .int .i64 (s).sl] 24)).alloc (.cells #[.int .i64 0, .int .u8 0, .int .i64 0, .int .i64 0, .int .i64 0, .bool false, .bool false, .slice none 0 0, .int .u8 0, .bool false, .int .i64 0] 24)).alloc (.cells #[.int .u8 0, .bool false, .bool false, .int .u32 0] 32)
  have sz := b0.out.size
  have HL := Lib.hid hl
  have h0 := h
  clear h hl e0 y
  have H0 := Lib.hid h0
  have q0_1 := q0.at 1 rfl
  have q0_3 := q0.at 3 rfl
  have q0_4 := q0.at 4 rfl
  go_enter Try.func12, Try.ntmps12
  go_wp2_with (first
    | (go_at_call 31; (with_reducible refine (RT.out _ _ _).mono ?_); rintro e w9 ⟨rfl, hb⟩; replace b0 := b0.below hb; (try replace q0 := q0.below hb); (try replace qr := qr.below hb); (try replace qc := qc.below hb); (try replace qv := qv.below hb); (try clear q0_1); (try have q0_1 := q0.at 1 rfl); (try clear q0_3); (try have q0_3 := q0.at 3 rfl); (try clear q0_4); (try have q0_4 := q0.at 4 rfl); (try clear qv_0); (try have qv_0 := qv.at 0 rfl); (try clear qv_1); (try have qv_1 := qv.at 1 rfl); (try clear qv_2); (try have qv_2 := qv.at 2 rfl); (try clear qv_3); (try have qv_3 := qv.at 3 rfl))
    | ((with_reducible refine wpList_id ?_); refine wpList_getB rfl _ _ rfl rfl q0 Try.underlying24 rfl (by rfl) ?_)
    | ((with_reducible refine wpList_id ?_); refine wpList_putB rfl _ _ _ rfl rfl rfl qv (by rfl) (by rfl) (by rfl) ?_; intro w9 qn hg; replace b0 := b0.grown hg (by omega); (try replace q0 := q0.grown hg (by omega)); (try replace qr := qr.grown hg (by omega)); (try replace qc := qc.grown hg (by omega)); clear hg qv; have qv := qn; clear qn; (try clear q0_1); (try have q0_1 := q0.at 1 rfl); (try clear q0_3); (try have q0_3 := q0.at 3 rfl); (try clear q0_4); (try have q0_4 := q0.at 4 rfl); (try clear qv_0); (try have qv_0 := qv.at 0 rfl); (try clear qv_1); (try have qv_1 := qv.at 1 rfl); (try clear qv_2); (try have qv_2 := qv.at 2 rfl); (try clear qv_3); (try have qv_3 := qv.at 3 rfl))
    | ((with_reducible refine wpList_id ?_); refine wpList_putF rfl _ _ _ rfl rfl rfl q0 rfl (by rfl) (by rfl) ?_; intro w9 qn hg; (try simp only [List.setIfInBounds_toArray, List.set_cons_succ, List.set_cons_zero] at qn); replace b0 := b0.grown hg (by omega); (try replace qr := qr.grown hg (by omega)); (try replace qc := qc.grown hg (by omega)); (try replace qv := qv.grown hg (by omega)); clear hg q0; have q0 := qn; clear qn; (try clear q0_1); (try have q0_1 := q0.at 1 rfl); (try clear q0_3); (try have q0_3 := q0.at 3 rfl); (try clear q0_4); (try have q0_4 := q0.at 4 rfl); (try clear qv_0); (try have qv_0 := qv.at 0 rfl); (try clear qv_1); (try have qv_1 := qv.at 1 rfl); (try clear qv_2); (try have qv_2 := qv.at 2 rfl); (try clear qv_3); (try have qv_3 := qv.at 3 rfl)))
  (try clear q0_1); (try clear q0_3); (try clear q0_4); (try clear qv_0); (try clear qv_1); (try clear qv_2); (try clear qv_3)
  refine wp_region_G (fun w' => Blk w' w.heap.size 24 #[.int .i64 ((s)).id, .int .u8 ((s)).st, .int .i64 ((s)).sd, .int .i64 ((s)).rc, .int .i64 ((s)).ow, .bool ((s)).an, .bool ((s)).en, .slice A n c, .int .u8 ((s)).ur, .bool ((s)).inc, .int .i64 ((s)).sl]) [] (by kernel_rfl) ?_
  replace b0 := b0.drew
  replace q0 := q0.drew
  replace qr := qr.drew
  replace qc := qc.drew
  have S0 := q0
  refine wpAnyG_take 0 (v := _) rfl (by kernel_rfl) (fun _ _ _ h => h) S0 (Or.inl ⟨by rfl, fun w' hSw => exec_getB rfl rfl (hSw) Try.underlying24 rfl (by rfl)⟩) ?_; (try simp only [Act.put, go_sem])
  refine wpAnyG_take 2 (v := ?_) rfl (by kernel_rfl) (fun _ _ _ h => h) S0 (Or.inl ⟨by rfl, by intro w' hSw; go_simp; try with_reducible rfl⟩) ?_; (try simp only [Act.put, go_sem])
  refine wpAnyG_take 3 (v := ?_) rfl (by kernel_rfl) (fun _ _ _ h => h) S0 (Or.inl ⟨by rfl, by intro w' hSw; have z := (hSw).at 1 rfl; go_simp; try with_reducible rfl⟩) ?_; (try simp only [Act.put, go_sem])
  have hs := b0.out.size
  refine wpAnyG_one 1 (by kernel_rfl) rfl (fun K hK => ?_)
  go_simp
  refine (rSOwn s A n c _ (H0.out.below b0.out) (by omega)).mono ?_
  rintro e w9 ⟨A1, n1, c1, rfl, m1, hb⟩
  replace b0 := b0.below hb
  replace q0 := q0.below hb
  replace qr := qr.below hb
  replace qc := qc.below hb
  replace m1 := m1.base_le hs
  clear hs hb
  clear S0
  have S0 := q0
  (try go_simp)
  refine hK.out _ _ (fun _ => S0) ?_
  clear hK K
  refine wpAnyG_one 4 (by kernel_rfl) rfl (fun K hK => ?_)
  go_simp
  refine (rIgnored _ _).mono ?_
  rintro e w9 ⟨rfl, hb⟩
  replace b0 := b0.below hb
  replace q0 := q0.below hb
  replace qr := qr.below hb
  replace qc := qc.below hb
  replace m1 := m1.below hb
  clear hb
  clear S0
  have S0 := q0
  (try go_simp)
  refine hK.out _ _ (fun _ => S0) ?_
  clear hK K
  refine wpAnyG_one 5 (by kernel_rfl) rfl (fun K hK => ?_)
  rw [if_pos (by rfl)]
  refine wp_putB _ _ _ rfl rfl rfl qr (by rfl) (by rfl) (by rfl) ?_
  intro w9 qn hg
  replace b0 := b0.grown hg (by omega)
  replace m1 := m1.grownB qr (by decide) hg
  replace q0 := q0.grown hg (by omega)
  replace qc := qc.grown hg (by omega)
  clear hg qr
  have qr := qn
  clear qn
  clear S0
  have S0 := q0
  (try go_simp)
  refine hK.out _ _ (fun _ => S0) ?_
  clear hK K
  refine wpAnyG_one 6 (by kernel_rfl) rfl (fun K hK => ?_)
  rw [if_pos (by rfl)]
  refine wp_putB _ _ _ rfl rfl rfl qc (by rfl) (by rfl) (by rfl) ?_
  intro w9 qn hg
  replace b0 := b0.grown hg (by omega)
  replace m1 := m1.grownB qc (by decide) hg
  replace q0 := q0.grown hg (by omega)
  replace qr := qr.grown hg (by omega)
  clear hg qc
  have qc := qn
  clear qn
  clear S0
  have S0 := q0
  (try go_simp)
  refine hK.out _ _ (fun _ => S0) ?_
  clear hK K
  clear S0
  refine wpAnyG_done (by kernel_rfl) ?_ _
  go_wp2_with fail
  exact res2cc rfl rfl rfl rfl qr Try.underlying24 rfl (by rfl) qc Try.underlying32 rfl (by rfl) ⟨_, _, _, rfl, m1.base_le (by first | exact Nat.le_refl _ | (simp; omega)), b0.out⟩
set_option maxHeartbeats 1000000 in
theorem rDataw1 (s : Str) (ok : StrOk s) (x : Int) (en : Bool) (x0 : -9223372036854775808 ≤ x ∧ x ≤ 9223372036854775807) (cs : Int) (cc : Int) (k0 : 0 ≤ cs) (hc0 : comesF s.st 0 en = ⟨cs, false, false, cc⟩) (A : Option Addr) (n c : Nat) (w : World) (h : Byt w A n c s.out) (hn : n ≤ 100000) (e0 : rightS s = true) (f0 : (cc != 0) = true) :
    Calls Try.prog 12 #[.agg #[.int .i64 (s).id, .int .u8 (s).st, .int .i64 (s).sd, .int .i64 (s).rc, .int .i64 (s).ow, .bool (s).an, .bool (s).en, .slice A n c, .int .u8 (s).ur, .bool (s).inc, .int .i64 (s).sl], .int .i64 x, .bool en] w (DtP (overS (s) cs) ⟨cs, false, false, cc⟩ w) := by
  have hc := h.cap; have hx := h.mx; have hl := h.len
  have RT := Lib.hid fun (A : Option Addr) (c : Nat) W => rSRight s ok A n c W hl (by omega)
  rw [e0] at RT
  have hR : RightS s := of_decide_eq_true e0
  obtain ⟨_, _, _, ⟨r0, r1⟩, ⟨w0, w1⟩, _⟩ := hR
  have CM := Lib.hid fun W => rComes s.st 0 en W
  rw [hc0] at CM
  have OV := Lib.hid fun (A : Option Addr) (c : Nat) W (h : Byt W A n c s.out) => rOver s ok cs k0 A n c W h hn
  generalize overS s cs = tt at *
  have b0 := (((Bel.refl w).alloc (.cells #[.int .i64 (s).id, .int .u8 (s).st, .int .i64 (s).sd, .int .i64 (s).rc, .int .i64 (s).ow, .bool (s).an, .bool (s).en, .slice A n c, .int .u8 (s).ur, .bool (s).inc, .int .i64 (s).sl] 24)).alloc (.cells #[.int .i64 0, .int .u8 0, .int .i64 0, .int .i64 0, .int .i64 0, .bool false, .bool false, .slice none 0 0, .int .u8 0, .bool false, .int .i64 0] 24)).alloc (.cells #[.int .u8 0, .bool false, .bool false, .int .u32 0] 32)
  have q0 := ((Blk.new w 24 #[.int .i64 (s).id, .int .u8 (s).st, .int .i64 (s).sd, .int .i64 (s).rc, .int .i64 (s).ow, .bool (s).an, .bool (s).en, .slice A n c, .int .u8 (s).ur, .bool (s).inc, .int .i64 (s).sl]).alloc (.cells #[.int .i64 0, .int .u8 0, .int .i64 0, .int .i64 0, .int .i64 0, .bool false, .bool false, .slice none 0 0, .int .u8 0, .bool false, .int .i64 0] 24)).alloc (.cells #[.int .u8 0, .bool false, .bool false, .int .u32 0] 32)
  have qr := (Blk.newAt (b := w.heap.size + 1) (w.alloc (.cells #[.int .i64 (s).id, .int .u8 (s).st, .int .i64 (s).sd, .int .i64 (s).rc, .int .i64 (s).ow, .bool (s).an, .bool (s).en, .slice A n c, .int .u8 (s).ur, .bool (s).inc, .int .i64 (s).sl] 24)) 24 #[.int .i64 0, .int .u8 0, .int .i64 0, .int .i64 0, .int .i64 0, .bool false, .bool false, .slice none 0 0, .int .u8 0, .bool false, .int .i64 0] (by simp)).alloc (.cells #[.int .u8 0, .bool false, .bool false, .int .u32 0] 32)
  have qc := Blk.newAt (b := w.heap.size + 1 + 1) ((w.alloc (.cells #[.int .i64 (s).id, .int .u8 (s).st, .int .i64 (s).sd, .int .i64 (s).rc, .int .i64 (s).ow, .bool (s).an, .bool (s).en, .slice A n c, .int .u8 (s).ur, .bool (s).inc, .int .i64 (s).sl] 24)).alloc (.cells #[.int .i64 0, .int .u8 0, .int .i64 0, .int .i64 0, .int .i64 0, .bool false, .bool false, .slice none 0 0, .int .u8 0, .bool false, .int .i64 0] 24)) 32 #[.int .u8 0, .bool false, .bool false, .int .u32 0] (by simp)
  have y := ((h.alloc (.cells #[.int .i64 (s).id, .int .u8 (s).st, .int .i64 (s).sd, .int .i64 (s).rc, .int .i64 (s).ow, .bool (s).an, .bool (s).en, .slice A n c, .int .u8 (s).ur, .bool (s).inc, .int .i64 (s).sl] 24)).alloc (.cells #[.int .i64 0, .int .u8 0, .int .i64 0, .int .i64 0, .int .i64 0, .bool false, .bool false, .slice none 0 0, .int .u8 0, .bool false, .int .i64 0] 24)).alloc (.cells #[.int .u8 0, .bool false, .bool false, .int .u32 0] 32)
  have sz := b0.out.size
  have HL := Lib.hid hl
  have h0 := h
  clear h hl e0 hc0 y
  have H0 := Lib.hid h0
  have q0_1 := q0.at 1 rfl
  have q0_3 := q0.at 3 rfl
  have q0_4 := q0.at 4 rfl
  go_enter Try.func12, Try.ntmps12
  go_upto_region 4 with (first
    | (go_at_call 31; (with_reducible refine (RT.out _ _ _).mono ?_); rintro e w9 ⟨rfl, hb⟩; replace b0 := b0.below hb; (try replace q0 := q0.below hb); (try replace qr := qr.below hb); (try replace qc := qc.below hb); (try replace qv := qv.below hb); (try clear q0_1); (try have q0_1 := q0.at 1 rfl); (try clear q0_3); (try have q0_3 := q0.at 3 rfl); (try clear q0_4); (try have q0_4 := q0.at 4 rfl); (try clear qv_0); (try have qv_0 := qv.at 0 rfl); (try clear qv_1); (try have qv_1 := qv.at 1 rfl); (try clear qv_2); (try have qv_2 := qv.at 2 rfl); (try clear qv_3); (try have qv_3 := qv.at 3 rfl))
    | (go_at_call 15; (with_reducible refine (CM.out _).mono ?_); rintro e wv ⟨rfl, hb⟩; replace b0 := b0.below hb; (try replace q0 := q0.below hb); (try replace qr := qr.below hb); (try replace qc := qc.below hb); (try replace qv := qv.below hb); (try clear q0_1); (try have q0_1 := q0.at 1 rfl); (try clear q0_3); (try have q0_3 := q0.at 3 rfl); (try clear q0_4); (try have q0_4 := q0.at 4 rfl); (try clear qv_0); (try have qv_0 := qv.at 0 rfl); (try clear qv_1); (try have qv_1 := qv.at 1 rfl); (try clear qv_2); (try have qv_2 := qv.at 2 rfl); (try clear qv_3); (try have qv_3 := qv.at 3 rfl); have hO := qc.lt; have qv := Blk.new wv 32 #[.int .u8 cs, .bool false, .bool false, .int .u32 cc]; replace b0 := b0.alloc (.cells #[.int .u8 cs, .bool false, .bool false, .int .u32 cc] 32); replace q0 := q0.alloc (.cells #[.int .u8 cs, .bool false, .bool false, .int .u32 cc] 32); replace qr := qr.alloc (.cells #[.int .u8 cs, .bool false, .bool false, .int .u32 cc] 32); replace qc := qc.alloc (.cells #[.int .u8 cs, .bool false, .bool false, .int .u32 cc] 32); (try clear q0_1); (try have q0_1 := q0.at 1 rfl); (try clear q0_3); (try have q0_3 := q0.at 3 rfl); (try clear q0_4); (try have q0_4 := q0.at 4 rfl); (try clear qv_0); (try have qv_0 := qv.at 0 rfl); (try clear qv_1); (try have qv_1 := qv.at 1 rfl); (try clear qv_2); (try have qv_2 := qv.at 2 rfl); (try clear qv_3); (try have qv_3 := qv.at 3 rfl); clear hb)
    | ((with_reducible refine wpList_id ?_); refine wpList_getB rfl _ _ rfl rfl q0 Try.underlying24 rfl (by rfl) ?_)
    | ((with_reducible refine wpList_id ?_); refine wpList_putB rfl _ _ _ rfl rfl rfl qv (by rfl) (by rfl) (by rfl) ?_; intro w9 qn hg; replace b0 := b0.grown hg (by omega); (try replace q0 := q0.grown hg (by omega)); (try replace qr := qr.grown hg (by omega)); (try replace qc := qc.grown hg (by omega)); clear hg qv; have qv := qn; clear qn; (try clear q0_1); (try have q0_1 := q0.at 1 rfl); (try clear q0_3); (try have q0_3 := q0.at 3 rfl); (try clear q0_4); (try have q0_4 := q0.at 4 rfl); (try clear qv_0); (try have qv_0 := qv.at 0 rfl); (try clear qv_1); (try have qv_1 := qv.at 1 rfl); (try clear qv_2); (try have qv_2 := qv.at 2 rfl); (try clear qv_3); (try have qv_3 := qv.at 3 rfl))
    | ((with_reducible refine wpList_id ?_); refine wpList_putF rfl _ _ _ rfl rfl rfl q0 rfl (by rfl) (by rfl) ?_; intro w9 qn hg; (try simp only [List.setIfInBounds_toArray, List.set_cons_succ, List.set_cons_zero] at qn); replace b0 := b0.grown hg (by omega); (try replace qr := qr.grown hg (by omega)); (try replace qc := qc.grown hg (by omega)); (try replace qv := qv.grown hg (by omega)); clear hg q0; have q0 := qn; clear qn; (try clear q0_1); (try have q0_1 := q0.at 1 rfl); (try clear q0_3); (try have q0_3 := q0.at 3 rfl); (try clear q0_4); (try have q0_4 := q0.at 4 rfl); (try clear qv_0); (try have qv_0 := qv.at 0 rfl); (try clear qv_1); (try have qv_1 := qv.at 1 rfl); (try clear qv_2); (try have qv_2 := qv.at 2 rfl); (try clear qv_3); (try have qv_3 := qv.at 3 rfl)))
  go_upto_region 6 with fail
  go_wp2_with (first
    | (go_at_call 31; (with_reducible refine (RT.out _ _ _).mono ?_); rintro e w9 ⟨rfl, hb⟩; replace b0 := b0.below hb; (try replace q0 := q0.below hb); (try replace qr := qr.below hb); (try replace qc := qc.below hb); (try replace qv := qv.below hb); (try clear q0_1); (try have q0_1 := q0.at 1 rfl); (try clear q0_3); (try have q0_3 := q0.at 3 rfl); (try clear q0_4); (try have q0_4 := q0.at 4 rfl); (try clear qv_0); (try have qv_0 := qv.at 0 rfl); (try clear qv_1); (try have qv_1 := qv.at 1 rfl); (try clear qv_2); (try have qv_2 := qv.at 2 rfl); (try clear qv_3); (try have qv_3 := qv.at 3 rfl))
    | (go_at_call 15; (with_reducible refine (CM.out _).mono ?_); rintro e wv ⟨rfl, hb⟩; replace b0 := b0.below hb; (try replace q0 := q0.below hb); (try replace qr := qr.below hb); (try replace qc := qc.below hb); (try replace qv := qv.below hb); (try clear q0_1); (try have q0_1 := q0.at 1 rfl); (try clear q0_3); (try have q0_3 := q0.at 3 rfl); (try clear q0_4); (try have q0_4 := q0.at 4 rfl); (try clear qv_0); (try have qv_0 := qv.at 0 rfl); (try clear qv_1); (try have qv_1 := qv.at 1 rfl); (try clear qv_2); (try have qv_2 := qv.at 2 rfl); (try clear qv_3); (try have qv_3 := qv.at 3 rfl); have hO := qc.lt; have qv := Blk.new wv 32 #[.int .u8 cs, .bool false, .bool false, .int .u32 cc]; replace b0 := b0.alloc (.cells #[.int .u8 cs, .bool false, .bool false, .int .u32 cc] 32); replace q0 := q0.alloc (.cells #[.int .u8 cs, .bool false, .bool false, .int .u32 cc] 32); replace qr := qr.alloc (.cells #[.int .u8 cs, .bool false, .bool false, .int .u32 cc] 32); replace qc := qc.alloc (.cells #[.int .u8 cs, .bool false, .bool false, .int .u32 cc] 32); (try clear q0_1); (try have q0_1 := q0.at 1 rfl); (try clear q0_3); (try have q0_3 := q0.at 3 rfl); (try clear q0_4); (try have q0_4 := q0.at 4 rfl); (try clear qv_0); (try have qv_0 := qv.at 0 rfl); (try clear qv_1); (try have qv_1 := qv.at 1 rfl); (try clear qv_2); (try have qv_2 := qv.at 2 rfl); (try clear qv_3); (try have qv_3 := qv.at 3 rfl); clear hb)
    | ((with_reducible refine wpList_id ?_); refine wpList_getB rfl _ _ rfl rfl q0 Try.underlying24 rfl (by rfl) ?_)
    | ((with_reducible refine wpList_id ?_); refine wpList_putB rfl _ _ _ rfl rfl rfl qv (by rfl) (by rfl) (by rfl) ?_; intro w9 qn hg; replace b0 := b0.grown hg (by omega); (try replace q0 := q0.grown hg (by omega)); (try replace qr := qr.grown hg (by omega)); (try replace qc := qc.grown hg (by omega)); clear hg qv; have qv := qn; clear qn; (try clear q0_1); (try have q0_1 := q0.at 1 rfl); (try clear q0_3); (try have q0_3 := q0.at 3 rfl); (try clear q0_4); (try have q0_4 := q0.at 4 rfl); (try clear qv_0); (try have qv_0 := qv.at 0 rfl); (try clear qv_1); (try have qv_1 := qv.at 1 rfl); (try clear qv_2); (try have qv_2 := qv.at 2 rfl); (try clear qv_3); (try have qv_3 := qv.at 3 rfl))
    | ((with_reducible refine wpList_id ?_); refine wpList_putF rfl _ _ _ rfl rfl rfl q0 rfl (by rfl) (by rfl) ?_; intro w9 qn hg; (try simp only [List.setIfInBounds_toArray, List.set_cons_succ, List.set_cons_zero] at qn); replace b0 := b0.grown hg (by omega); (try replace qr := qr.grown hg (by omega)); (try replace qc := qc.grown hg (by omega)); (try replace qv := qv.grown hg (by omega)); clear hg q0; have q0 := qn; clear qn; (try clear q0_1); (try have q0_1 := q0.at 1 rfl); (try clear q0_3); (try have q0_3 := q0.at 3 rfl); (try clear q0_4); (try have q0_4 := q0.at 4 rfl); (try clear qv_0); (try have qv_0 := qv.at 0 rfl); (try clear qv_1); (try have qv_1 := qv.at 1 rfl); (try clear qv_2); (try have qv_2 := qv.at 2 rfl); (try clear qv_3); (try have qv_3 := qv.at 3 rfl)))
  (try clear q0_1); (try clear q0_3); (try clear q0_4); (try clear qv_0); (try clear qv_1); (try clear qv_2); (try clear qv_3)
  refine wp_region_G (fun w' => Blk w' w.heap.size 24 #[.int .i64 ((s)).id, .int .u8 ((s)).st, .int .i64 ((s)).sd, .int .i64 ((s)).rc, .int .i64 ((s)).ow, .bool ((s)).an, .bool ((s)).en, .slice A n c, .int .u8 ((s)).ur, .bool ((s)).inc, .int .i64 ((s)).sl] ∧ Blk w' wv.heap.size 32 #[.int .u8 cs, .bool false, .bool false, .int .u32 cc]) [] (by kernel_rfl) ?_
  replace b0 := b0.drew
  replace q0 := q0.drew
  replace qr := qr.drew
  replace qc := qc.drew
  replace qv := qv.drew
  have S0 := And.intro q0 qv
  refine wpAnyG_take 0 (v := _) rfl (by kernel_rfl) (fun _ _ _ h => h) S0 (Or.inl ⟨by rfl, fun w' hSw => exec_getB rfl rfl (hSw.1) Try.underlying24 rfl (by rfl)⟩) ?_; (try simp only [Act.put, go_sem])
  refine wpAnyG_take 1 (v := ?_) rfl (by kernel_rfl) (fun _ _ _ h => h) S0 (Or.inl ⟨by rfl, by intro w' hSw; go_simp; try with_reducible rfl⟩) ?_; (try simp only [Act.put, go_sem])
  refine wpAnyG_take 2 (v := ?_) rfl (by kernel_rfl) (fun _ _ _ h => h) S0 (Or.inl ⟨by rfl, by intro w' hSw; have z := (hSw.2).at 0 rfl; go_simp; try with_reducible rfl⟩) ?_; (try simp only [Act.put, go_sem])
  refine wpAnyG_take 4 (v := _) rfl (by kernel_rfl) (fun _ _ _ h => h) S0 (Or.inl ⟨by rfl, fun w' hSw => exec_getB rfl rfl (hSw.2) Try.underlying32 rfl (by rfl)⟩) ?_; (try simp only [Act.put, go_sem])
  have hs := b0.out.size
  refine wpAnyG_one 3 (by kernel_rfl) rfl (fun K hK => ?_)
  go_simp
  refine (OV.out _ _ _ (H0.out.below b0.out)).mono ?_
  rintro e w9 ⟨A2, n2, c2, rfl, m2, hb⟩
  replace b0 := b0.below hb
  replace q0 := q0.below hb
  replace qr := qr.below hb
  replace qc := qc.below hb
  replace qv := qv.below hb
  replace m2 := m2.base_le hs
  clear hs hb
  clear S0
  have S0 := And.intro q0 qv
  (try go_simp)
  refine hK.out _ _ (fun _ => S0) ?_
  clear hK K
  refine wpAnyG_one 5 (by kernel_rfl) rfl (fun K hK => ?_)
  rw [if_pos (by rfl)]
  refine wp_putB _ _ _ rfl rfl rfl qr (by rfl) (by rfl) (by rfl) ?_
  intro w9 qn hg
  replace b0 := b0.grown hg (by omega)
  replace m2 := m2.grownB qr (by decide) hg
  replace q0 := q0.grown hg (by omega)
  replace qc := qc.grown hg (by omega)
  replace qv := qv.grown hg (by omega)
  clear hg qr
  have qr := qn
  clear qn
  clear S0
  have S0 := And.intro q0 qv
  (try go_simp)
  refine hK.out _ _ (fun _ => S0) ?_
  clear hK K
  refine wpAnyG_one 6 (by kernel_rfl) rfl (fun K hK => ?_)
  rw [if_pos (by rfl)]
  refine wp_putB _ _ _ rfl rfl rfl qc (by rfl) (by rfl) (by rfl) ?_
  intro w9 qn hg
  replace b0 := b0.grown hg (by omega)
  replace m2 := m2.grownB qc (by decide) hg
  replace q0 := q0.grown hg (by omega)
  replace qr := qr.grown hg (by omega)
  replace qv := qv.grown hg (by omega)
  clear hg qc
  have qc := qn
  clear qn
  clear S0
  have S0 := And.intro q0 qv
  (try go_simp)
  refine hK.out _ _ (fun _ => S0) ?_
  clear hK K
  clear S0
  refine wpAnyG_done (by kernel_rfl) ?_ _
  go_wp2_with fail
  exact res2cc rfl rfl rfl rfl qr Try.underlying24 rfl (by rfl) qc Try.underlying32 rfl (by rfl) ⟨_, _, _, rfl, m2.base_le (by first | exact Nat.le_refl _ | (simp; omega)), b0.out⟩
set_option maxHeartbeats 1000000 in
theorem rDataw2 (s : Str) (ok : StrOk s) (x : Int) (en : Bool) (x0 : -9223372036854775808 ≤ x ∧ x ≤ 9223372036854775807) (cs : Int) (cc : Int) (k0 : 0 ≤ cs) (hc0 : comesF s.st 0 en = ⟨cs, false, true, cc⟩) (A : Option Addr) (n c : Nat) (w : World) (h : Byt w A n c s.out) (hn : n ≤ 100000) (e0 : rightS s = true) (f0 : (cc != 0) = true) :
    Calls Try.prog 12 #[.agg #[.int .i64 (s).id, .int .u8 (s).st, .int .i64 (s).sd, .int .i64 (s).rc, .int .i64 (s).ow, .bool (s).an, .bool (s).en, .slice A n c, .int .u8 (s).ur, .bool (s).inc, .int .i64 (s).sl], .int .i64 x, .bool en] w (DtP s ⟨cs, false, true, cc⟩ w) := by
  have hc := h.cap; have hx := h.mx; have hl := h.len
  have RT := Lib.hid fun (A : Option Addr) (c : Nat) W => rSRight s ok A n c W hl (by omega)
  rw [e0] at RT
  have hR : RightS s := of_decide_eq_true e0
  obtain ⟨_, _, _, ⟨r0, r1⟩, ⟨w0, w1⟩, _⟩ := hR
  have CM := Lib.hid fun W => rComes s.st 0 en W
  rw [hc0] at CM
  have b0 := (((Bel.refl w).alloc (.cells #[.int .i64 (s).id, .int .u8 (s).st, .int .i64 (s).sd, .int .i64 (s).rc, .int .i64 (s).ow, .bool (s).an, .bool (s).en, .slice A n c, .int .u8 (s).ur, .bool (s).inc, .int .i64 (s).sl] 24)).alloc (.cells #[.int .i64 0, .int .u8 0, .int .i64 0, .int .i64 0, .int .i64 0, .bool false, .bool false, .slice none 0 0, .int .u8 0, .bool false, .int .i64 0] 24)).alloc (.cells #[.int .u8 0, .bool false, .bool false, .int .u32 0] 32)
  have q0 := ((Blk.new w 24 #[.int .i64 (s).id, .int .u8 (s).st, .int .i64 (s).sd, .int .i64 (s).rc, .int .i64 (s).ow, .bool (s).an, .bool (s).en, .slice A n c, .int .u8 (s).ur, .bool (s).inc, .int .i64 (s).sl]).alloc (.cells #[.int .i64 0, .int .u8 0, .int .i64 0, .int .i64 0, .int .i64 0, .bool false, .bool false, .slice none 0 0, .int .u8 0, .bool false, .int .i64 0] 24)).alloc (.cells #[.int .u8 0, .bool false, .bool false, .int .u32 0] 32)
  have qr := (Blk.newAt (b := w.heap.size + 1) (w.alloc (.cells #[.int .i64 (s).id, .int .u8 (s).st, .int .i64 (s).sd, .int .i64 (s).rc, .int .i64 (s).ow, .bool (s).an, .bool (s).en, .slice A n c, .int .u8 (s).ur, .bool (s).inc, .int .i64 (s).sl] 24)) 24 #[.int .i64 0, .int .u8 0, .int .i64 0, .int .i64 0, .int .i64 0, .bool false, .bool false, .slice none 0 0, .int .u8 0, .bool false, .int .i64 0] (by simp)).alloc (.cells #[.int .u8 0, .bool false, .bool false, .int .u32 0] 32)
  have qc := Blk.newAt (b := w.heap.size + 1 + 1) ((w.alloc (.cells #[.int .i64 (s).id, .int .u8 (s).st, .int .i64 (s).sd, .int .i64 (s).rc, .int .i64 (s).ow, .bool (s).an, .bool (s).en, .slice A n c, .int .u8 (s).ur, .bool (s).inc, .int .i64 (s).sl] 24)).alloc (.cells #[.int .i64 0, .int .u8 0, .int .i64 0, .int .i64 0, .int .i64 0, .bool false, .bool false, .slice none 0 0, .int .u8 0, .bool false, .int .i64 0] 24)) 32 #[.int .u8 0, .bool false, .bool false, .int .u32 0] (by simp)
  have y := ((h.alloc (.cells #[.int .i64 (s).id, .int .u8 (s).st, .int .i64 (s).sd, .int .i64 (s).rc, .int .i64 (s).ow, .bool (s).an, .bool (s).en, .slice A n c, .int .u8 (s).ur, .bool (s).inc, .int .i64 (s).sl] 24)).alloc (.cells #[.int .i64 0, .int .u8 0, .int .i64 0, .int .i64 0, .int .i64 0, .bool false, .bool false, .slice none 0 0, .int .u8 0, .bool false, .int .i64 0] 24)).alloc (.cells #[.int .u8 0, .bool false, .bool false, .int .u32 0] 32)
  have sz := b0.out.size
  have HL := Lib.hid hl
  have h0 := h
  clear h hl e0 hc0 y
  have H0 := Lib.hid h0
  have q0_1 := q0.at 1 rfl
  have q0_3 := q0.at 3 rfl
  have q0_4 := q0.at 4 rfl
  go_enter Try.func12, Try.ntmps12
  go_upto_region 4 with (first
    | (go_at_call 31; (with_reducible refine (RT.out _ _ _).mono ?_); rintro e w9 ⟨rfl, hb⟩; replace b0 := b0.below hb; (try replace q0 := q0.below hb); (try replace qr := qr.below hb); (try replace qc := qc.below hb); (try replace qv := qv.below hb); (try clear q0_1); (try have q0_1 := q0.at 1 rfl); (try clear q0_3); (try have q0_3 := q0.at 3 rfl); (try clear q0_4); (try have q0_4 := q0.at 4 rfl); (try clear qv_0); (try have qv_0 := qv.at 0 rfl); (try clear qv_1); (try have qv_1 := qv.at 1 rfl); (try clear qv_2); (try have qv_2 := qv.at 2 rfl); (try clear qv_3); (try have qv_3 := qv.at 3 rfl))
    | (go_at_call 15; (with_reducible refine (CM.out _).mono ?_); rintro e wv ⟨rfl, hb⟩; replace b0 := b0.below hb; (try replace q0 := q0.below hb); (try replace qr := qr.below hb); (try replace qc := qc.below hb); (try replace qv := qv.below hb); (try clear q0_1); (try have q0_1 := q0.at 1 rfl); (try clear q0_3); (try have q0_3 := q0.at 3 rfl); (try clear q0_4); (try have q0_4 := q0.at 4 rfl); (try clear qv_0); (try have qv_0 := qv.at 0 rfl); (try clear qv_1); (try have qv_1 := qv.at 1 rfl); (try clear qv_2); (try have qv_2 := qv.at 2 rfl); (try clear qv_3); (try have qv_3 := qv.at 3 rfl); have hO := qc.lt; have qv := Blk.new wv 32 #[.int .u8 cs, .bool false, .bool true, .int .u32 cc]; replace b0 := b0.alloc (.cells #[.int .u8 cs, .bool false, .bool true, .int .u32 cc] 32); replace q0 := q0.alloc (.cells #[.int .u8 cs, .bool false, .bool true, .int .u32 cc] 32); replace qr := qr.alloc (.cells #[.int .u8 cs, .bool false, .bool true, .int .u32 cc] 32); replace qc := qc.alloc (.cells #[.int .u8 cs, .bool false, .bool true, .int .u32 cc] 32); (try clear q0_1); (try have q0_1 := q0.at 1 rfl); (try clear q0_3); (try have q0_3 := q0.at 3 rfl); (try clear q0_4); (try have q0_4 := q0.at 4 rfl); (try clear qv_0); (try have qv_0 := qv.at 0 rfl); (try clear qv_1); (try have qv_1 := qv.at 1 rfl); (try clear qv_2); (try have qv_2 := qv.at 2 rfl); (try clear qv_3); (try have qv_3 := qv.at 3 rfl); clear hb)
    | ((with_reducible refine wpList_id ?_); refine wpList_getB rfl _ _ rfl rfl q0 Try.underlying24 rfl (by rfl) ?_)
    | ((with_reducible refine wpList_id ?_); refine wpList_putB rfl _ _ _ rfl rfl rfl qv (by rfl) (by rfl) (by rfl) ?_; intro w9 qn hg; replace b0 := b0.grown hg (by omega); (try replace q0 := q0.grown hg (by omega)); (try replace qr := qr.grown hg (by omega)); (try replace qc := qc.grown hg (by omega)); clear hg qv; have qv := qn; clear qn; (try clear q0_1); (try have q0_1 := q0.at 1 rfl); (try clear q0_3); (try have q0_3 := q0.at 3 rfl); (try clear q0_4); (try have q0_4 := q0.at 4 rfl); (try clear qv_0); (try have qv_0 := qv.at 0 rfl); (try clear qv_1); (try have qv_1 := qv.at 1 rfl); (try clear qv_2); (try have qv_2 := qv.at 2 rfl); (try clear qv_3); (try have qv_3 := qv.at 3 rfl))
    | ((with_reducible refine wpList_id ?_); refine wpList_putF rfl _ _ _ rfl rfl rfl q0 rfl (by rfl) (by rfl) ?_; intro w9 qn hg; (try simp only [List.setIfInBounds_toArray, List.set_cons_succ, List.set_cons_zero] at qn); replace b0 := b0.grown hg (by omega); (try replace qr := qr.grown hg (by omega)); (try replace qc := qc.grown hg (by omega)); (try replace qv := qv.grown hg (by omega)); clear hg q0; have q0 := qn; clear qn; (try clear q0_1); (try have q0_1 := q0.at 1 rfl); (try clear q0_3); (try have q0_3 := q0.at 3 rfl); (try clear q0_4); (try have q0_4 := q0.at 4 rfl); (try clear qv_0); (try have qv_0 := qv.at 0 rfl); (try clear qv_1); (try have qv_1 := qv.at 1 rfl); (try clear qv_2); (try have qv_2 := qv.at 2 rfl); (try clear qv_3); (try have qv_3 := qv.at 3 rfl)))
  go_upto_region 6 with fail
  go_wp2_with (first
    | (go_at_call 31; (with_reducible refine (RT.out _ _ _).mono ?_); rintro e w9 ⟨rfl, hb⟩; replace b0 := b0.below hb; (try replace q0 := q0.below hb); (try replace qr := qr.below hb); (try replace qc := qc.below hb); (try replace qv := qv.below hb); (try clear q0_1); (try have q0_1 := q0.at 1 rfl); (try clear q0_3); (try have q0_3 := q0.at 3 rfl); (try clear q0_4); (try have q0_4 := q0.at 4 rfl); (try clear qv_0); (try have qv_0 := qv.at 0 rfl); (try clear qv_1); (try have qv_1 := qv.at 1 rfl); (try clear qv_2); (try have qv_2 := qv.at 2 rfl); (try clear qv_3); (try have qv_3 := qv.at 3 rfl))
    | (go_at_call 15; (with_reducible refine (CM.out _).mono ?_); rintro e wv ⟨rfl, hb⟩; replace b0 := b0.below hb; (try replace q0 := q0.below hb); (try replace qr := qr.below hb); (try replace qc := qc.below hb); (try replace qv := qv.below hb); (try clear q0_1); (try have q0_1 := q0.at 1 rfl); (try clear q0_3); (try have q0_3 := q0.at 3 rfl); (try clear q0_4); (try have q0_4 := q0.at 4 rfl); (try clear qv_0); (try have qv_0 := qv.at 0 rfl); (try clear qv_1); (try have qv_1 := qv.at 1 rfl); (try clear qv_2); (try have qv_2 := qv.at 2 rfl); (try clear qv_3); (try have qv_3 := qv.at 3 rfl); have hO := qc.lt; have qv := Blk.new wv 32 #[.int .u8 cs, .bool false, .bool true, .int .u32 cc]; replace b0 := b0.alloc (.cells #[.int .u8 cs, .bool false, .bool true, .int .u32 cc] 32); replace q0 := q0.alloc (.cells #[.int .u8 cs, .bool false, .bool true, .int .u32 cc] 32); replace qr := qr.alloc (.cells #[.int .u8 cs, .bool false, .bool true, .int .u32 cc] 32); replace qc := qc.alloc (.cells #[.int .u8 cs, .bool false, .bool true, .int .u32 cc] 32); (try clear q0_1); (try have q0_1 := q0.at 1 rfl); (try clear q0_3); (try have q0_3 := q0.at 3 rfl); (try clear q0_4); (try have q0_4 := q0.at 4 rfl); (try clear qv_0); (try have qv_0 := qv.at 0 rfl); (try clear qv_1); (try have qv_1 := qv.at 1 rfl); (try clear qv_2); (try have qv_2 := qv.at 2 rfl); (try clear qv_3); (try have qv_3 := qv.at 3 rfl); clear hb)
    | ((with_reducible refine wpList_id ?_); refine wpList_getB rfl _ _ rfl rfl q0 Try.underlying24 rfl (by rfl) ?_)
    | ((with_reducible refine wpList_id ?_); refine wpList_putB rfl _ _ _ rfl rfl rfl qv (by rfl) (by rfl) (by rfl) ?_; intro w9 qn hg; replace b0 := b0.grown hg (by omega); (try replace q0 := q0.grown hg (by omega)); (try replace qr := qr.grown hg (by omega)); (try replace qc := qc.grown hg (by omega)); clear hg qv; have qv := qn; clear qn; (try clear q0_1); (try have q0_1 := q0.at 1 rfl); (try clear q0_3); (try have q0_3 := q0.at 3 rfl); (try clear q0_4); (try have q0_4 := q0.at 4 rfl); (try clear qv_0); (try have qv_0 := qv.at 0 rfl); (try clear qv_1); (try have qv_1 := qv.at 1 rfl); (try clear qv_2); (try have qv_2 := qv.at 2 rfl); (try clear qv_3); (try have qv_3 := qv.at 3 rfl))
    | ((with_reducible refine wpList_id ?_); refine wpList_putF rfl _ _ _ rfl rfl rfl q0 rfl (by rfl) (by rfl) ?_; intro w9 qn hg; (try simp only [List.setIfInBounds_toArray, List.set_cons_succ, List.set_cons_zero] at qn); replace b0 := b0.grown hg (by omega); (try replace qr := qr.grown hg (by omega)); (try replace qc := qc.grown hg (by omega)); (try replace qv := qv.grown hg (by omega)); clear hg q0; have q0 := qn; clear qn; (try clear q0_1); (try have q0_1 := q0.at 1 rfl); (try clear q0_3); (try have q0_3 := q0.at 3 rfl); (try clear q0_4); (try have q0_4 := q0.at 4 rfl); (try clear qv_0); (try have qv_0 := qv.at 0 rfl); (try clear qv_1); (try have qv_1 := qv.at 1 rfl); (try clear qv_2); (try have qv_2 := qv.at 2 rfl); (try clear qv_3); (try have qv_3 := qv.at 3 rfl)))
  (try clear q0_1); (try clear q0_3); (try clear q0_4); (try clear qv_0); (try clear qv_1); (try clear qv_2); (try clear qv_3)
  refine wp_region_G (fun w' => Blk w' w.heap.size 24 #[.int .i64 ((s)).id, .int .u8 ((s)).st, .int .i64 ((s)).sd, .int .i64 ((s)).rc, .int .i64 ((s)).ow, .bool ((s)).an, .bool ((s)).en, .slice A n c, .int .u8 ((s)).ur, .bool ((s)).inc, .int .i64 ((s)).sl] ∧ Blk w' wv.heap.size 32 #[.int .u8 cs, .bool false, .bool true, .int .u32 cc]) [] (by kernel_rfl) ?_
  replace b0 := b0.drew
  replace q0 := q0.drew
  replace qr := qr.drew
  replace qc := qc.drew
  replace qv := qv.drew
  have S0 := And.intro q0 qv
  refine wpAnyG_take 0 (v := _) rfl (by kernel_rfl) (fun _ _ _ h => h) S0 (Or.inl ⟨by rfl, fun w' hSw => exec_getB rfl rfl (hSw.1) Try.underlying24 rfl (by rfl)⟩) ?_; (try simp only [Act.put, go_sem])
  refine wpAnyG_take 2 (v := _) rfl (by kernel_rfl) (fun _ _ _ h => h) S0 (Or.inl ⟨by rfl, fun w' hSw => exec_getB rfl rfl (hSw.2) Try.underlying32 rfl (by rfl)⟩) ?_; (try simp only [Act.put, go_sem])
  have hs := b0.out.size
  refine wpAnyG_one 1 (by kernel_rfl) rfl (fun K hK => ?_)
  go_simp
  refine (rSOwn s A n c _ (H0.out.below b0.out) (by omega)).mono ?_
  rintro e w9 ⟨A1, n1, c1, rfl, m1, hb⟩
  replace b0 := b0.below hb
  replace q0 := q0.below hb
  replace qr := qr.below hb
  replace qc := qc.below hb
  replace qv := qv.below hb
  replace m1 := m1.base_le hs
  clear hs hb
  clear S0
  have S0 := And.intro q0 qv
  (try go_simp)
  refine hK.out _ _ (fun _ => S0) ?_
  clear hK K
  refine wpAnyG_one 3 (by kernel_rfl) rfl (fun K hK => ?_)
  rw [if_pos (by rfl)]
  refine wp_putB _ _ _ rfl rfl rfl qr (by rfl) (by rfl) (by rfl) ?_
  intro w9 qn hg
  replace b0 := b0.grown hg (by omega)
  replace m1 := m1.grownB qr (by decide) hg
  replace q0 := q0.grown hg (by omega)
  replace qc := qc.grown hg (by omega)
  replace qv := qv.grown hg (by omega)
  clear hg qr
  have qr := qn
  clear qn
  clear S0
  have S0 := And.intro q0 qv
  (try go_simp)
  refine hK.out _ _ (fun _ => S0) ?_
  clear hK K
  refine wpAnyG_one 4 (by kernel_rfl) rfl (fun K hK => ?_)
  rw [if_pos (by rfl)]
  refine wp_putB _ _ _ rfl rfl rfl qc (by rfl) (by rfl) (by rfl) ?_
  intro w9 qn hg
  replace b0 := b0.grown hg (by omega)
  replace m1 := m1.grownB qc (by decide) hg
  replace q0 := q0.grown hg (by omega)
  replace qr := qr.grown hg (by omega)
  replace qv := qv.grown hg (by omega)
  clear hg qc
  have qc := qn
  clear qn
  clear S0
  have S0 := And.intro q0 qv
  (try go_simp)
  refine hK.out _ _ (fun _ => S0) ?_
  clear hK K
  clear S0
  refine wpAnyG_done (by kernel_rfl) ?_ _
  go_wp2_with fail
  exact res2cc rfl rfl rfl rfl qr Try.underlying24 rfl (by rfl) qc Try.underlying32 rfl (by rfl) ⟨_, _, _, rfl, m1.base_le (by first | exact Nat.le_refl _ | (simp; omega)), b0.out⟩
set_option maxHeartbeats 1000000 in
theorem rDataw2b (s : Str) (ok : StrOk s) (x : Int) (en : Bool) (x0 : -9223372036854775808 ≤ x ∧ x ≤ 9223372036854775807) (cs : Int) (k0 : 0 ≤ cs) (hc0 : comesF s.st 0 en = ⟨cs, false, false, 0⟩) (A : Option Addr) (n c : Nat) (w : World) (h : Byt w A n c s.out) (hn : n ≤ 100000) (e0 : rightS s = true)  :
    Calls Try.prog 12 #[.agg #[.int .i64 (s).id, .int .u8 (s).st, .int .i64 (s).sd, .int .i64 (s).rc, .int .i64 (s).ow, .bool (s).an, .bool (s).en, .slice A n c, .int .u8 (s).ur, .bool (s).inc, .int .i64 (s).sl], .int .i64 x, .bool en] w (DtP s ⟨cs, false, false, 0⟩ w) := by
  have hc := h.cap; have hx := h.mx; have hl := h.len
  have RT := Lib.hid fun (A : Option Addr) (c : Nat) W => rSRight s ok A n c W hl (by omega)
  rw [e0] at RT
  have hR : RightS s := of_decide_eq_true e0
  obtain ⟨_, _, _, ⟨r0, r1⟩, ⟨w0, w1⟩, _⟩ := hR
  have CM := Lib.hid fun W => rComes s.st 0 en W
  rw [hc0] at CM
  have b0 := (((Bel.refl w).alloc (.cells #[.int .i64 (s).id, .int .u8 (s).st, .int .i64 (s).sd, .int .i64 (s).rc, .int .i64 (s).ow, .bool (s).an, .bool (s).en, .slice A n c, .int .u8 (s).ur, .bool (s).inc, .int .i64 (s).sl] 24)).alloc (.cells #[.int .i64 0, .int .u8 0, .int .i64 0, .int .i64 0, .int .i64 0, .bool false, .bool false, .slice none 0 0, .int .u8 0, .bool false, .int .i64 0] 24)).alloc (.cells #[.int .u8 0, .bool false, .bool false, .int .u32 0] 32)
  have q0 := ((Blk.new w 24 #[.int .i64 (s).id, .int .u8 (s).st, .int .i64 (s).sd, .int .i64 (s).rc, .int .i64 (s).ow, .bool (s).an, .bool (s).en, .slice A n c, .int .u8 (s).ur, .bool (s).inc, .int .i64 (s).sl]).alloc (.cells #[.int .i64 0, .int .u8 0, .int .i64 0, .int .i64 0, .int .i64 0, .bool false, .bool false, .slice none 0 0, .int .u8 0, .bool false, .int .i64 0] 24)).alloc (.cells #[.int .u8 0, .bool false, .bool false, .int .u32 0] 32)
  have qr := (Blk.newAt (b := w.heap.size + 1) (w.alloc (.cells #[.int .i64 (s).id, .int .u8 (s).st, .int .i64 (s).sd, .int .i64 (s).rc, .int .i64 (s).ow, .bool (s).an, .bool (s).en, .slice A n c, .int .u8 (s).ur, .bool (s).inc, .int .i64 (s).sl] 24)) 24 #[.int .i64 0, .int .u8 0, .int .i64 0, .int .i64 0, .int .i64 0, .bool false, .bool false, .slice none 0 0, .int .u8 0, .bool false, .int .i64 0] (by simp)).alloc (.cells #[.int .u8 0, .bool false, .bool false, .int .u32 0] 32)
  have qc := Blk.newAt (b := w.heap.size + 1 + 1) ((w.alloc (.cells #[.int .i64 (s).id, .int .u8 (s).st, .int .i64 (s).sd, .int .i64 (s).rc, .int .i64 (s).ow, .bool (s).an, .bool (s).en, .slice A n c, .int .u8 (s).ur, .bool (s).inc, .int .i64 (s).sl] 24)).alloc (.cells #[.int .i64 0, .int .u8 0, .int .i64 0, .int .i64 0, .int .i64 0, .bool false, .bool false, .slice none 0 0, .int .u8 0, .bool false, .int .i64 0] 24)) 32 #[.int .u8 0, .bool false, .bool false, .int .u32 0] (by simp)
  have y := ((h.alloc (.cells #[.int .i64 (s).id, .int .u8 (s).st, .int .i64 (s).sd, .int .i64 (s).rc, .int .i64 (s).ow, .bool (s).an, .bool (s).en, .slice A n c, .int .u8 (s).ur, .bool (s).inc, .int .i64 (s).sl] 24)).alloc (.cells #[.int .i64 0, .int .u8 0, .int .i64 0, .int .i64 0, .int .i64 0, .bool false, .bool false, .slice none 0 0, .int .u8 0, .bool false, .int .i64 0] 24)).alloc (.cells #[.int .u8 0, .bool false, .bool false, .int .u32 0] 32)
  have sz := b0.out.size
  have HL := Lib.hid hl
  have h0 := h
  clear h hl e0 hc0 y
  have H0 := Lib.hid h0
  have q0_1 := q0.at 1 rfl
  have q0_3 := q0.at 3 rfl
  have q0_4 := q0.at 4 rfl
  go_enter Try.func12, Try.ntmps12
  go_upto_region 4 with (first
    | (go_at_call 31; (with_reducible refine (RT.out _ _ _).mono ?_); rintro e w9 ⟨rfl, hb⟩; replace b0 := b0.below hb; (try replace q0 := q0.below hb); (try replace qr := qr.below hb); (try replace qc := qc.below hb); (try replace qv := qv.below hb); (try clear q0_1); (try have q0_1 := q0.at 1 rfl); (try clear q0_3); (try have q0_3 := q0.at 3 rfl); (try clear q0_4); (try have q0_4 := q0.at 4 rfl); (try clear qv_0); (try have qv_0 := qv.at 0 rfl); (try clear qv_1); (try have qv_1 := qv.at 1 rfl); (try clear qv_2); (try have qv_2 := qv.at 2 rfl); (try clear qv_3); (try have qv_3 := qv.at 3 rfl))
    | (go_at_call 15; (with_reducible refine (CM.out _).mono ?_); rintro e wv ⟨rfl, hb⟩; replace b0 := b0.below hb; (try replace q0 := q0.below hb); (try replace qr := qr.below hb); (try replace qc := qc.below hb); (try replace qv := qv.below hb); (try clear q0_1); (try have q0_1 := q0.at 1 rfl); (try clear q0_3); (try have q0_3 := q0.at 3 rfl); (try clear q0_4); (try have q0_4 := q0.at 4 rfl); (try clear qv_0); (try have qv_0 := qv.at 0 rfl); (try clear qv_1); (try have qv_1 := qv.at 1 rfl); (try clear qv_2); (try have qv_2 := qv.at 2 rfl); (try clear qv_3); (try have qv_3 := qv.at 3 rfl); have hO := qc.lt; have qv := Blk.new wv 32 #[.int .u8 cs, .bool false, .bool false, .int .u32 0]; replace b0 := b0.alloc (.cells #[.int .u8 cs, .bool false, .bool false, .int .u32 0] 32); replace q0 := q0.alloc (.cells #[.int .u8 cs, .bool false, .bool false, .int .u32 0] 32); replace qr := qr.alloc (.cells #[.int .u8 cs, .bool false, .bool false, .int .u32 0] 32); replace qc := qc.alloc (.cells #[.int .u8 cs, .bool false, .bool false, .int .u32 0] 32); (try clear q0_1); (try have q0_1 := q0.at 1 rfl); (try clear q0_3); (try have q0_3 := q0.at 3 rfl); (try clear q0_4); (try have q0_4 := q0.at 4 rfl); (try clear qv_0); (try have qv_0 := qv.at 0 rfl); (try clear qv_1); (try have qv_1 := qv.at 1 rfl); (try clear qv_2); (try have qv_2 := qv.at 2 rfl); (try clear qv_3); (try have qv_3 := qv.at 3 rfl); clear hb)
    | ((with_reducible refine wpList_id ?_); refine wpList_getB rfl _ _ rfl rfl q0 Try.underlying24 rfl (by rfl) ?_)
    | ((with_reducible refine wpList_id ?_); refine wpList_putB rfl _ _ _ rfl rfl rfl qv (by rfl) (by rfl) (by rfl) ?_; intro w9 qn hg; replace b0 := b0.grown hg (by omega); (try replace q0 := q0.grown hg (by omega)); (try replace qr := qr.grown hg (by omega)); (try replace qc := qc.grown hg (by omega)); clear hg qv; have qv := qn; clear qn; (try clear q0_1); (try have q0_1 := q0.at 1 rfl); (try clear q0_3); (try have q0_3 := q0.at 3 rfl); (try clear q0_4); (try have q0_4 := q0.at 4 rfl); (try clear qv_0); (try have qv_0 := qv.at 0 rfl); (try clear qv_1); (try have qv_1 := qv.at 1 rfl); (try clear qv_2); (try have qv_2 := qv.at 2 rfl); (try clear qv_3); (try have qv_3 := qv.at 3 rfl))
    | ((with_reducible refine wpList_id ?_); refine wpList_putF rfl _ _ _ rfl rfl rfl q0 rfl (by rfl) (by rfl) ?_; intro w9 qn hg; (try simp only [List.setIfInBounds_toArray, List.set_cons_succ, List.set_cons_zero] at qn); replace b0 := b0.grown hg (by omega); (try replace qr := qr.grown hg (by omega)); (try replace qc := qc.grown hg (by omega)); (try replace qv := qv.grown hg (by omega)); clear hg q0; have q0 := qn; clear qn; (try clear q0_1); (try have q0_1 := q0.at 1 rfl); (try clear q0_3); (try have q0_3 := q0.at 3 rfl); (try clear q0_4); (try have q0_4 := q0.at 4 rfl); (try clear qv_0); (try have qv_0 := qv.at 0 rfl); (try clear qv_1); (try have qv_1 := qv.at 1 rfl); (try clear qv_2); (try have qv_2 := qv.at 2 rfl); (try clear qv_3); (try have qv_3 := qv.at 3 rfl)))
  go_upto_region 6 with fail
  go_wp2_with (first
    | (go_at_call 31; (with_reducible refine (RT.out _ _ _).mono ?_); rintro e w9 ⟨rfl, hb⟩; replace b0 := b0.below hb; (try replace q0 := q0.below hb); (try replace qr := qr.below hb); (try replace qc := qc.below hb); (try replace qv := qv.below hb); (try clear q0_1); (try have q0_1 := q0.at 1 rfl); (try clear q0_3); (try have q0_3 := q0.at 3 rfl); (try clear q0_4); (try have q0_4 := q0.at 4 rfl); (try clear qv_0); (try have qv_0 := qv.at 0 rfl); (try clear qv_1); (try have qv_1 := qv.at 1 rfl); (try clear qv_2); (try have qv_2 := qv.at 2 rfl); (try clear qv_3); (try have qv_3 := qv.at 3 rfl))
    | (go_at_call 15; (with_reducible refine (CM.out _).mono ?_); rintro e wv ⟨rfl, hb⟩; replace b0 := b0.below hb; (try replace q0 := q0.below hb); (try replace qr := qr.below hb); (try replace qc := qc.below hb); (try replace qv := qv.below hb); (try clear q0_1); (try have q0_1 := q0.at 1 rfl); (try clear q0_3); (try have q0_3 := q0.at 3 rfl); (try clear q0_4); (try have q0_4 := q0.at 4 rfl); (try clear qv_0); (try have qv_0 := qv.at 0 rfl); (try clear qv_1); (try have qv_1 := qv.at 1 rfl); (try clear qv_2); (try have qv_2 := qv.at 2 rfl); (try clear qv_3); (try have qv_3 := qv.at 3 rfl); have hO := qc.lt; have qv := Blk.new wv 32 #[.int .u8 cs, .bool false, .bool false, .int .u32 0]; replace b0 := b0.alloc (.cells #[.int .u8 cs, .bool false, .bool false, .int .u32 0] 32); replace q0 := q0.alloc (.cells #[.int .u8 cs, .bool false, .bool false, .int .u32 0] 32); replace qr := qr.alloc (.cells #[.int .u8 cs, .bool false, .bool false, .int .u32 0] 32); replace qc := qc.alloc (.cells #[.int .u8 cs, .bool false, .bool false, .int .u32 0] 32); (try clear q0_1); (try have q0_1 := q0.at 1 rfl); (try clear q0_3); (try have q0_3 := q0.at 3 rfl); (try clear q0_4); (try have q0_4 := q0.at 4 rfl); (try clear qv_0); (try have qv_0 := qv.at 0 rfl); (try clear qv_1); (try have qv_1 := qv.at 1 rfl); (try clear qv_2); (try have qv_2 := qv.at 2 rfl); (try clear qv_3); (try have qv_3 := qv.at 3 rfl); clear hb)
    | ((with_reducible refine wpList_id ?_); refine wpList_getB rfl _ _ rfl rfl q0 Try.underlying24 rfl (by rfl) ?_)
    | ((with_reducible refine wpList_id ?_); refine wpList_putB rfl _ _ _ rfl rfl rfl qv (by rfl) (by rfl) (by rfl) ?_; intro w9 qn hg; replace b0 := b0.grown hg (by omega); (try replace q0 := q0.grown hg (by omega)); (try replace qr := qr.grown hg (by omega)); (try replace qc := qc.grown hg (by omega)); clear hg qv; have qv := qn; clear qn; (try clear q0_1); (try have q0_1 := q0.at 1 rfl); (try clear q0_3); (try have q0_3 := q0.at 3 rfl); (try clear q0_4); (try have q0_4 := q0.at 4 rfl); (try clear qv_0); (try have qv_0 := qv.at 0 rfl); (try clear qv_1); (try have qv_1 := qv.at 1 rfl); (try clear qv_2); (try have qv_2 := qv.at 2 rfl); (try clear qv_3); (try have qv_3 := qv.at 3 rfl))
    | ((with_reducible refine wpList_id ?_); refine wpList_putF rfl _ _ _ rfl rfl rfl q0 rfl (by rfl) (by rfl) ?_; intro w9 qn hg; (try simp only [List.setIfInBounds_toArray, List.set_cons_succ, List.set_cons_zero] at qn); replace b0 := b0.grown hg (by omega); (try replace qr := qr.grown hg (by omega)); (try replace qc := qc.grown hg (by omega)); (try replace qv := qv.grown hg (by omega)); clear hg q0; have q0 := qn; clear qn; (try clear q0_1); (try have q0_1 := q0.at 1 rfl); (try clear q0_3); (try have q0_3 := q0.at 3 rfl); (try clear q0_4); (try have q0_4 := q0.at 4 rfl); (try clear qv_0); (try have qv_0 := qv.at 0 rfl); (try clear qv_1); (try have qv_1 := qv.at 1 rfl); (try clear qv_2); (try have qv_2 := qv.at 2 rfl); (try clear qv_3); (try have qv_3 := qv.at 3 rfl)))
  (try clear q0_1); (try clear q0_3); (try clear q0_4); (try clear qv_0); (try clear qv_1); (try clear qv_2); (try clear qv_3)
  refine wp_region_G (fun w' => Blk w' w.heap.size 24 #[.int .i64 ((s)).id, .int .u8 ((s)).st, .int .i64 ((s)).sd, .int .i64 ((s)).rc, .int .i64 ((s)).ow, .bool ((s)).an, .bool ((s)).en, .slice A n c, .int .u8 ((s)).ur, .bool ((s)).inc, .int .i64 ((s)).sl] ∧ Blk w' wv.heap.size 32 #[.int .u8 cs, .bool false, .bool false, .int .u32 0]) [] (by kernel_rfl) ?_
  replace b0 := b0.drew
  replace q0 := q0.drew
  replace qr := qr.drew
  replace qc := qc.drew
  replace qv := qv.drew
  have S0 := And.intro q0 qv
  refine wpAnyG_take 0 (v := _) rfl (by kernel_rfl) (fun _ _ _ h => h) S0 (Or.inl ⟨by rfl, fun w' hSw => exec_getB rfl rfl (hSw.1) Try.underlying24 rfl (by rfl)⟩) ?_; (try simp only [Act.put, go_sem])
  refine wpAnyG_take 2 (v := _) rfl (by kernel_rfl) (fun _ _ _ h => h) S0 (Or.inl ⟨by rfl, fun w' hSw => exec_getB rfl rfl (hSw.2) Try.underlying32 rfl (by rfl)⟩) ?_; (try simp only [Act.put, go_sem])
  have hs := b0.out.size
  refine wpAnyG_one 1 (by kernel_rfl) rfl (fun K hK => ?_)
  go_simp
  refine (rSOwn s A n c _ (H0.out.below b0.out) (by omega)).mono ?_
  rintro e w9 ⟨A1, n1, c1, rfl, m1, hb⟩
  replace b0 := b0.below hb
  replace q0 := q0.below hb
  replace qr := qr.below hb
  replace qc := qc.below hb
  replace qv := qv.below hb
  replace m1 := m1.base_le hs
  clear hs hb
  clear S0
  have S0 := And.intro q0 qv
  (try go_simp)
  refine hK.out _ _ (fun _ => S0) ?_
  clear hK K
  refine wpAnyG_one 3 (by kernel_rfl) rfl (fun K hK => ?_)
  rw [if_pos (by rfl)]
  refine wp_putB _ _ _ rfl rfl rfl qr (by rfl) (by rfl) (by rfl) ?_
  intro w9 qn hg
  replace b0 := b0.grown hg (by omega)
  replace m1 := m1.grownB qr (by decide) hg
  replace q0 := q0.grown hg (by omega)
  replace qc := qc.grown hg (by omega)
  replace qv := qv.grown hg (by omega)
  clear hg qr
  have qr := qn
  clear qn
  clear S0
  have S0 := And.intro q0 qv
  (try go_simp)
  refine hK.out _ _ (fun _ => S0) ?_
  clear hK K
  refine wpAnyG_one 4 (by kernel_rfl) rfl (fun K hK => ?_)
  rw [if_pos (by rfl)]
  refine wp_putB _ _ _ rfl rfl rfl qc (by rfl) (by rfl) (by rfl) ?_
  intro w9 qn hg
  replace b0 := b0.grown hg (by omega)
  replace m1 := m1.grownB qc (by decide) hg
  replace q0 := q0.grown hg (by omega)
  replace qr := qr.grown hg (by omega)
  replace qv := qv.grown hg (by omega)
  clear hg qc
  have qc := qn
  clear qn
  clear S0
  have S0 := And.intro q0 qv
  (try go_simp)
  refine hK.out _ _ (fun _ => S0) ?_
  clear hK K
  clear S0
  refine wpAnyG_done (by kernel_rfl) ?_ _
  go_wp2_with fail
  exact res2cc rfl rfl rfl rfl qr Try.underlying24 rfl (by rfl) qc Try.underlying32 rfl (by rfl) ⟨_, _, _, rfl, m1.base_le (by first | exact Nat.le_refl _ | (simp; omega)), b0.out⟩
set_option maxHeartbeats 1000000 in
theorem rDataw3 (s : Str) (ok : StrOk s) (x : Int) (en : Bool) (x0 : -9223372036854775808 ≤ x ∧ x ≤ 9223372036854775807) (cs : Int) (cw : Bool) (cc : Int) (k0 : 0 ≤ cs) (hc0 : comesF s.st 0 en = ⟨cs, true, cw, cc⟩) (A : Option Addr) (n c : Nat) (w : World) (h : Byt w A n c s.out) (hn : n ≤ 100000) (e0 : rightS s = true) (f0 : decide (x < 0) = true) :
    Calls Try.prog 12 #[.agg #[.int .i64 (s).id, .int .u8 (s).st, .int .i64 (s).sd, .int .i64 (s).rc, .int .i64 (s).ow, .bool (s).an, .bool (s).en, .slice A n c, .int .u8 (s).ur, .bool (s).inc, .int .i64 (s).sl], .int .i64 x, .bool en] w (DtP (overS (s) 5) ⟨5, false, false, 3⟩ w) := by
  have hc := h.cap; have hx := h.mx; have hl := h.len
  have RT := Lib.hid fun (A : Option Addr) (c : Nat) W => rSRight s ok A n c W hl (by omega)
  rw [e0] at RT
  have hR : RightS s := of_decide_eq_true e0
  obtain ⟨_, _, _, ⟨r0, r1⟩, ⟨w0, w1⟩, _⟩ := hR
  have CM := Lib.hid fun W => rComes s.st 0 en W
  rw [hc0] at CM
  have OV := Lib.hid fun (A : Option Addr) (c : Nat) W (h : Byt W A n c s.out) => rOver s ok 5 (by omega) A n c W h hn
  generalize overS s 5 = tt at *
  have b0 := (((Bel.refl w).alloc (.cells #[.int .i64 (s).id, .int .u8 (s).st, .int .i64 (s).sd, .int .i64 (s).rc, .int .i64 (s).ow, .bool (s).an, .bool (s).en, .slice A n c, .int .u8 (s).ur, .bool (s).inc, .int .i64 (s).sl] 24)).alloc (.cells #[.int .i64 0, .int .u8 0, .int .i64 0, .int .i64 0, .int .i64 0, .bool false, .bool false, .slice none 0 0, .int .u8 0, .bool false, .int .i64 0] 24)).alloc (.cells #[.int .u8 0, .bool false, .bool false, .int .u32 0] 32)
  have q0 := ((Blk.new w 24 #[.int .i64 (s).id, .int .u8 (s).st, .int .i64 (s).sd, .int .i64 (s).rc, .int .i64 (s).ow, .bool (s).an, .bool (s).en, .slice A n c, .int .u8 (s).ur, .bool (s).inc, .int .i64 (s).sl]).alloc (.cells #[.int .i64 0, .int .u8 0, .int .i64 0, .int .i64 0, .int .i64 0, .bool false, .bool false, .slice none 0 0, .int .u8 0, .bool false, .int .i64 0] 24)).alloc (.cells #[.int .u8 0, .bool false, .bool false, .int .u32 0] 32)
  have qr := (Blk.newAt (b := w.heap.size + 1) (w.alloc (.cells #[.int .i64 (s).id, .int .u8 (s).st, .int .i64 (s).sd, .int .i64 (s).rc, .int .i64 (s).ow, .bool (s).an, .bool (s).en, .slice A n c, .int .u8 (s).ur, .bool (s).inc, .int .i64 (s).sl] 24)) 24 #[.int .i64 0, .int .u8 0, .int .i64 0, .int .i64 0, .int .i64 0, .bool false, .bool false, .slice none 0 0, .int .u8 0, .bool false, .int .i64 0] (by simp)).alloc (.cells #[.int .u8 0, .bool false, .bool false, .int .u32 0] 32)
  have qc := Blk.newAt (b := w.heap.size + 1 + 1) ((w.alloc (.cells #[.int .i64 (s).id, .int .u8 (s).st, .int .i64 (s).sd, .int .i64 (s).rc, .int .i64 (s).ow, .bool (s).an, .bool (s).en, .slice A n c, .int .u8 (s).ur, .bool (s).inc, .int .i64 (s).sl] 24)).alloc (.cells #[.int .i64 0, .int .u8 0, .int .i64 0, .int .i64 0, .int .i64 0, .bool false, .bool false, .slice none 0 0, .int .u8 0, .bool false, .int .i64 0] 24)) 32 #[.int .u8 0, .bool false, .bool false, .int .u32 0] (by simp)
  have y := ((h.alloc (.cells #[.int .i64 (s).id, .int .u8 (s).st, .int .i64 (s).sd, .int .i64 (s).rc, .int .i64 (s).ow, .bool (s).an, .bool (s).en, .slice A n c, .int .u8 (s).ur, .bool (s).inc, .int .i64 (s).sl] 24)).alloc (.cells #[.int .i64 0, .int .u8 0, .int .i64 0, .int .i64 0, .int .i64 0, .bool false, .bool false, .slice none 0 0, .int .u8 0, .bool false, .int .i64 0] 24)).alloc (.cells #[.int .u8 0, .bool false, .bool false, .int .u32 0] 32)
  have sz := b0.out.size
  have HL := Lib.hid hl
  have h0 := h
  clear h hl e0 hc0 y
  have H0 := Lib.hid h0
  have q0_1 := q0.at 1 rfl
  have q0_3 := q0.at 3 rfl
  have q0_4 := q0.at 4 rfl
  go_enter Try.func12, Try.ntmps12
  go_wp2_with (first
    | (go_at_call 31; (with_reducible refine (RT.out _ _ _).mono ?_); rintro e w9 ⟨rfl, hb⟩; replace b0 := b0.below hb; (try replace q0 := q0.below hb); (try replace qr := qr.below hb); (try replace qc := qc.below hb); (try replace qv := qv.below hb); (try clear q0_1); (try have q0_1 := q0.at 1 rfl); (try clear q0_3); (try have q0_3 := q0.at 3 rfl); (try clear q0_4); (try have q0_4 := q0.at 4 rfl); (try clear qv_0); (try have qv_0 := qv.at 0 rfl); (try clear qv_1); (try have qv_1 := qv.at 1 rfl); (try clear qv_2); (try have qv_2 := qv.at 2 rfl); (try clear qv_3); (try have qv_3 := qv.at 3 rfl))
    | (go_at_call 15; (with_reducible refine (CM.out _).mono ?_); rintro e wv ⟨rfl, hb⟩; replace b0 := b0.below hb; (try replace q0 := q0.below hb); (try replace qr := qr.below hb); (try replace qc := qc.below hb); (try replace qv := qv.below hb); (try clear q0_1); (try have q0_1 := q0.at 1 rfl); (try clear q0_3); (try have q0_3 := q0.at 3 rfl); (try clear q0_4); (try have q0_4 := q0.at 4 rfl); (try clear qv_0); (try have qv_0 := qv.at 0 rfl); (try clear qv_1); (try have qv_1 := qv.at 1 rfl); (try clear qv_2); (try have qv_2 := qv.at 2 rfl); (try clear qv_3); (try have qv_3 := qv.at 3 rfl); have hO := qc.lt; have qv := Blk.new wv 32 #[.int .u8 cs, .bool true, .bool cw, .int .u32 cc]; replace b0 := b0.alloc (.cells #[.int .u8 cs, .bool true, .bool cw, .int .u32 cc] 32); replace q0 := q0.alloc (.cells #[.int .u8 cs, .bool true, .bool cw, .int .u32 cc] 32); replace qr := qr.alloc (.cells #[.int .u8 cs, .bool true, .bool cw, .int .u32 cc] 32); replace qc := qc.alloc (.cells #[.int .u8 cs, .bool true, .bool cw, .int .u32 cc] 32); (try clear q0_1); (try have q0_1 := q0.at 1 rfl); (try clear q0_3); (try have q0_3 := q0.at 3 rfl); (try clear q0_4); (try have q0_4 := q0.at 4 rfl); (try clear qv_0); (try have qv_0 := qv.at 0 rfl); (try clear qv_1); (try have qv_1 := qv.at 1 rfl); (try clear qv_2); (try have qv_2 := qv.at 2 rfl); (try clear qv_3); (try have qv_3 := qv.at 3 rfl); clear hb)
    | (go_at_call 38; refine (rReset _ _).mono ?_; rintro e w9 ⟨rfl, hb⟩; replace b0 := b0.below hb; (try replace q0 := q0.below hb); (try replace qr := qr.below hb); (try replace qc := qc.below hb); (try replace qv := qv.below hb); (try clear q0_1); (try have q0_1 := q0.at 1 rfl); (try clear q0_3); (try have q0_3 := q0.at 3 rfl); (try clear q0_4); (try have q0_4 := q0.at 4 rfl); (try clear qv_0); (try have qv_0 := qv.at 0 rfl); (try clear qv_1); (try have qv_1 := qv.at 1 rfl); (try clear qv_2); (try have qv_2 := qv.at 2 rfl); (try clear qv_3); (try have qv_3 := qv.at 3 rfl))
    | ((with_reducible refine wpList_id ?_); refine wpList_getB rfl _ _ rfl rfl q0 Try.underlying24 rfl (by rfl) ?_)
    | ((with_reducible refine wpList_id ?_); refine wpList_putB rfl _ _ _ rfl rfl rfl qv (by rfl) (by rfl) (by rfl) ?_; intro w9 qn hg; replace b0 := b0.grown hg (by omega); (try replace q0 := q0.grown hg (by omega)); (try replace qr := qr.grown hg (by omega)); (try replace qc := qc.grown hg (by omega)); clear hg qv; have qv := qn; clear qn; (try clear q0_1); (try have q0_1 := q0.at 1 rfl); (try clear q0_3); (try have q0_3 := q0.at 3 rfl); (try clear q0_4); (try have q0_4 := q0.at 4 rfl); (try clear qv_0); (try have qv_0 := qv.at 0 rfl); (try clear qv_1); (try have qv_1 := qv.at 1 rfl); (try clear qv_2); (try have qv_2 := qv.at 2 rfl); (try clear qv_3); (try have qv_3 := qv.at 3 rfl))
    | ((with_reducible refine wpList_id ?_); refine wpList_putF rfl _ _ _ rfl rfl rfl q0 rfl (by rfl) (by rfl) ?_; intro w9 qn hg; (try simp only [List.setIfInBounds_toArray, List.set_cons_succ, List.set_cons_zero] at qn); replace b0 := b0.grown hg (by omega); (try replace qr := qr.grown hg (by omega)); (try replace qc := qc.grown hg (by omega)); (try replace qv := qv.grown hg (by omega)); clear hg q0; have q0 := qn; clear qn; (try clear q0_1); (try have q0_1 := q0.at 1 rfl); (try clear q0_3); (try have q0_3 := q0.at 3 rfl); (try clear q0_4); (try have q0_4 := q0.at 4 rfl); (try clear qv_0); (try have qv_0 := qv.at 0 rfl); (try clear qv_1); (try have qv_1 := qv.at 1 rfl); (try clear qv_2); (try have qv_2 := qv.at 2 rfl); (try clear qv_3); (try have qv_3 := qv.at 3 rfl)))
  (try clear q0_1); (try clear q0_3); (try clear q0_4); (try clear qv_0); (try clear qv_1); (try clear qv_2); (try clear qv_3)
  refine wp_region_G (fun w' => Blk w' w.heap.size 24 #[.int .i64 ((s)).id, .int .u8 ((s)).st, .int .i64 ((s)).sd, .int .i64 ((s)).rc, .int .i64 ((s)).ow, .bool ((s)).an, .bool ((s)).en, .slice A n c, .int .u8 ((s)).ur, .bool ((s)).inc, .int .i64 ((s)).sl] ∧ Blk w' wv.heap.size 32 #[.int .u8 5, .bool false, .bool false, .int .u32 3]) [] (by kernel_rfl) ?_
  replace b0 := b0.drew
  replace q0 := q0.drew
  replace qr := qr.drew
  replace qc := qc.drew
  replace qv := qv.drew
  have S0 := And.intro q0 qv
  refine wpAnyG_take 0 (v := _) rfl (by kernel_rfl) (fun _ _ _ h => h) S0 (Or.inl ⟨by rfl, fun w' hSw => exec_getB rfl rfl (hSw.1) Try.underlying24 rfl (by rfl)⟩) ?_; (try simp only [Act.put, go_sem])
  refine wpAnyG_take 1 (v := ?_) rfl (by kernel_rfl) (fun _ _ _ h => h) S0 (Or.inl ⟨by rfl, by intro w' hSw; go_simp; try with_reducible rfl⟩) ?_; (try simp only [Act.put, go_sem])
  refine wpAnyG_take 2 (v := ?_) rfl (by kernel_rfl) (fun _ _ _ h => h) S0 (Or.inl ⟨by rfl, by intro w' hSw; have z := (hSw.2).at 0 rfl; go_simp; try with_reducible rfl⟩) ?_; (try simp only [Act.put, go_sem])
  refine wpAnyG_take 4 (v := _) rfl (by kernel_rfl) (fun _ _ _ h => h) S0 (Or.inl ⟨by rfl, fun w' hSw => exec_getB rfl rfl (hSw.2) Try.underlying32 rfl (by rfl)⟩) ?_; (try simp only [Act.put, go_sem])
  have hs := b0.out.size
  refine wpAnyG_one 3 (by kernel_rfl) rfl (fun K hK => ?_)
  go_simp
  refine (OV.out _ _ _ (H0.out.below b0.out)).mono ?_
  rintro e w9 ⟨A2, n2, c2, rfl, m2, hb⟩
  replace b0 := b0.below hb
  replace q0 := q0.below hb
  replace qr := qr.below hb
  replace qc := qc.below hb
  replace qv := qv.below hb
  replace m2 := m2.base_le hs
  clear hs hb
  clear S0
  have S0 := And.intro q0 qv
  (try go_simp)
  refine hK.out _ _ (fun _ => S0) ?_
  clear hK K
  refine wpAnyG_one 5 (by kernel_rfl) rfl (fun K hK => ?_)
  rw [if_pos (by rfl)]
  refine wp_putB _ _ _ rfl rfl rfl qr (by rfl) (by rfl) (by rfl) ?_
  intro w9 qn hg
  replace b0 := b0.grown hg (by omega)
  replace m2 := m2.grownB qr (by decide) hg
  replace q0 := q0.grown hg (by omega)
  replace qc := qc.grown hg (by omega)
  replace qv := qv.grown hg (by omega)
  clear hg qr
  have qr := qn
  clear qn
  clear S0
  have S0 := And.intro q0 qv
  (try go_simp)
  refine hK.out _ _ (fun _ => S0) ?_
  clear hK K
  refine wpAnyG_one 6 (by kernel_rfl) rfl (fun K hK => ?_)
  rw [if_pos (by rfl)]
  refine wp_putB _ _ _ rfl rfl rfl qc (by rfl) (by rfl) (by rfl) ?_
  intro w9 qn hg
  replace b0 := b0.grown hg (by omega)
  replace m2 := m2.grownB qc (by decide) hg
  replace q0 := q0.grown hg (by omega)
  replace qr := qr.grown hg (by omega)
  replace qv := qv.grown hg (by omega)
  clear hg qc
  have qc := qn
  clear qn
  clear S0
  have S0 := And.intro q0 qv
  (try go_simp)
  refine hK.out _ _ (fun _ => S0) ?_
  clear hK K
  clear S0
  refine wpAnyG_done (by kernel_rfl) ?_ _
  go_wp2_with fail
  exact res2cc rfl rfl rfl rfl qr Try.underlying24 rfl (by rfl) qc Try.underlying32 rfl (by rfl) ⟨_, _, _, rfl, m2.base_le (by first | exact Nat.le_refl _ | (simp; omega)), b0.out⟩
set_option maxHeartbeats 1000000 in
theorem rDataw3b (s : Str) (ok : StrOk s) (x : Int) (en : Bool) (x0 : -9223372036854775808 ≤ x ∧ x ≤ 9223372036854775807) (cs : Int) (cw : Bool) (cc : Int) (k0 : 0 ≤ cs) (hc0 : comesF s.st 0 en = ⟨cs, true, cw, cc⟩) (A : Option Addr) (n c : Nat) (w : World) (h : Byt w A n c s.out) (hn : n ≤ 100000) (e0 : rightS s = true) (f0 : decide (x < 0) = false) (f1 : decide (s.rc < x) = true) :
    Calls Try.prog 12 #[.agg #[.int .i64 (s).id, .int .u8 (s).st, .int .i64 (s).sd, .int .i64 (s).rc, .int .i64 (s).ow, .bool (s).an, .bool (s).en, .slice A n c, .int .u8 (s).ur, .bool (s).inc, .int .i64 (s).sl], .int .i64 x, .bool en] w (DtP (overS (s) 5) ⟨5, false, false, 3⟩ w) := by
  have hc := h.cap; have hx := h.mx; have hl := h.len
  have RT := Lib.hid fun (A : Option Addr) (c : Nat) W => rSRight s ok A n c W hl (by omega)
  rw [e0] at RT
  have hR : RightS s := of_decide_eq_true e0
  obtain ⟨_, _, _, ⟨r0, r1⟩, ⟨w0, w1⟩, _⟩ := hR
  have CM := Lib.hid fun W => rComes s.st 0 en W
  rw [hc0] at CM
  have OV := Lib.hid fun (A : Option Addr) (c : Nat) W (h : Byt W A n c s.out) => rOver s ok 5 (by omega) A n c W h hn
  generalize overS s 5 = tt at *
  have b0 := (((Bel.refl w).alloc (.cells #[.int .i64 (s).id, .int .u8 (s).st, .int .i64 (s).sd, .int .i64 (s).rc, .int .i64 (s).ow, .bool (s).an, .bool (s).en, .slice A n c, .int .u8 (s).ur, .bool (s).inc, .int .i64 (s).sl] 24)).alloc (.cells #[.int .i64 0, .int .u8 0, .int .i64 0, .int .i64 0, .int .i64 0, .bool false, .bool false, .slice none 0 0, .int .u8 0, .bool false, .int .i64 0] 24)).alloc (.cells #[.int .u8 0, .bool false, .bool false, .int .u32 0] 32)
  have q0 := ((Blk.new w 24 #[.int .i64 (s).id, .int .u8 (s).st, .int .i64 (s).sd, .int .i64 (s).rc, .int .i64 (s).ow, .bool (s).an, .bool (s).en, .slice A n c, .int .u8 (s).ur, .bool (s).inc, .int .i64 (s).sl]).alloc (.cells #[.int .i64 0, .int .u8 0, .int .i64 0, .int .i64 0, .int .i64 0, .bool false, .bool false, .slice none 0 0, .int .u8 0, .bool false, .int .i64 0] 24)).alloc (.cells #[.int .u8 0, .bool false, .bool false, .int .u32 0] 32)
  have qr := (Blk.newAt (b := w.heap.size + 1) (w.alloc (.cells #[.int .i64 (s).id, .int .u8 (s).st, .int .i64 (s).sd, .int .i64 (s).rc, .int .i64 (s).ow, .bool (s).an, .bool (s).en, .slice A n c, .int .u8 (s).ur, .bool (s).inc, .int .i64 (s).sl] 24)) 24 #[.int .i64 0, .int .u8 0, .int .i64 0, .int .i64 0, .int .i64 0, .bool false, .bool false, .slice none 0 0, .int .u8 0, .bool false, .int .i64 0] (by simp)).alloc (.cells #[.int .u8 0, .bool false, .bool false, .int .u32 0] 32)
  have qc := Blk.newAt (b := w.heap.size + 1 + 1) ((w.alloc (.cells #[.int .i64 (s).id, .int .u8 (s).st, .int .i64 (s).sd, .int .i64 (s).rc, .int .i64 (s).ow, .bool (s).an, .bool (s).en, .slice A n c, .int .u8 (s).ur, .bool (s).inc, .int .i64 (s).sl] 24)).alloc (.cells #[.int .i64 0, .int .u8 0, .int .i64 0, .int .i64 0, .int .i64 0, .bool false, .bool false, .slice none 0 0, .int .u8 0, .bool false, .int .i64 0] 24)) 32 #[.int .u8 0, .bool false, .bool false, .int .u32 0] (by simp)
  have y := ((h.alloc (.cells #[.int .i64 (s).id, .int .u8 (s).st, .int .i64 (s).sd, .int .i64 (s).rc, .int .i64 (s).ow, .bool (s).an, .bool (s).en, .slice A n c, .int .u8 (s).ur, .bool (s).inc, .int .i64 (s).sl] 24)).alloc (.cells #[.int .i64 0, .int .u8 0, .int .i64 0, .int .i64 0, .int .i64 0, .bool false, .bool false, .slice none 0 0, .int .u8 0, .bool false, .int .i64 0] 24)).alloc (.cells #[.int .u8 0, .bool false, .bool false, .int .u32 0] 32)
  have sz := b0.out.size
  have HL := Lib.hid hl
  have h0 := h
  clear h hl e0 hc0 y
  have H0 := Lib.hid h0
  have q0_1 := q0.at 1 rfl
  have q0_3 := q0.at 3 rfl
  have q0_4 := q0.at 4 rfl
  go_enter Try.func12, Try.ntmps12
  go_wp2_with (first
    | (go_at_call 31; (with_reducible refine (RT.out _ _ _).mono ?_); rintro e w9 ⟨rfl, hb⟩; replace b0 := b0.below hb; (try replace q0 := q0.below hb); (try replace qr := qr.below hb); (try replace qc := qc.below hb); (try replace qv := qv.below hb); (try clear q0_1); (try have q0_1 := q0.at 1 rfl); (try clear q0_3); (try have q0_3 := q0.at 3 rfl); (try clear q0_4); (try have q0_4 := q0.at 4 rfl); (try clear qv_0); (try have qv_0 := qv.at 0 rfl); (try clear qv_1); (try have qv_1 := qv.at 1 rfl); (try clear qv_2); (try have qv_2 := qv.at 2 rfl); (try clear qv_3); (try have qv_3 := qv.at 3 rfl))
    | (go_at_call 15; (with_reducible refine (CM.out _).mono ?_); rintro e wv ⟨rfl, hb⟩; replace b0 := b0.below hb; (try replace q0 := q0.below hb); (try replace qr := qr.below hb); (try replace qc := qc.below hb); (try replace qv := qv.below hb); (try clear q0_1); (try have q0_1 := q0.at 1 rfl); (try clear q0_3); (try have q0_3 := q0.at 3 rfl); (try clear q0_4); (try have q0_4 := q0.at 4 rfl); (try clear qv_0); (try have qv_0 := qv.at 0 rfl); (try clear qv_1); (try have qv_1 := qv.at 1 rfl); (try clear qv_2); (try have qv_2 := qv.at 2 rfl); (try clear qv_3); (try have qv_3 := qv.at 3 rfl); have hO := qc.lt; have qv := Blk.new wv 32 #[.int .u8 cs, .bool true, .bool cw, .int .u32 cc]; replace b0 := b0.alloc (.cells #[.int .u8 cs, .bool true, .bool cw, .int .u32 cc] 32); replace q0 := q0.alloc (.cells #[.int .u8 cs, .bool true, .bool cw, .int .u32 cc] 32); replace qr := qr.alloc (.cells #[.int .u8 cs, .bool true, .bool cw, .int .u32 cc] 32); replace qc := qc.alloc (.cells #[.int .u8 cs, .bool true, .bool cw, .int .u32 cc] 32); (try clear q0_1); (try have q0_1 := q0.at 1 rfl); (try clear q0_3); (try have q0_3 := q0.at 3 rfl); (try clear q0_4); (try have q0_4 := q0.at 4 rfl); (try clear qv_0); (try have qv_0 := qv.at 0 rfl); (try clear qv_1); (try have qv_1 := qv.at 1 rfl); (try clear qv_2); (try have qv_2 := qv.at 2 rfl); (try clear qv_3); (try have qv_3 := qv.at 3 rfl); clear hb)
    | (go_at_call 38; refine (rReset _ _).mono ?_; rintro e w9 ⟨rfl, hb⟩; replace b0 := b0.below hb; (try replace q0 := q0.below hb); (try replace qr := qr.below hb); (try replace qc := qc.below hb); (try replace qv := qv.below hb); (try clear q0_1); (try have q0_1 := q0.at 1 rfl); (try clear q0_3); (try have q0_3 := q0.at 3 rfl); (try clear q0_4); (try have q0_4 := q0.at 4 rfl); (try clear qv_0); (try have qv_0 := qv.at 0 rfl); (try clear qv_1); (try have qv_1 := qv.at 1 rfl); (try clear qv_2); (try have qv_2 := qv.at 2 rfl); (try clear qv_3); (try have qv_3 := qv.at 3 rfl))
    | ((with_reducible refine wpList_id ?_); refine wpList_getB rfl _ _ rfl rfl q0 Try.underlying24 rfl (by rfl) ?_)
    | ((with_reducible refine wpList_id ?_); refine wpList_putB rfl _ _ _ rfl rfl rfl qv (by rfl) (by rfl) (by rfl) ?_; intro w9 qn hg; replace b0 := b0.grown hg (by omega); (try replace q0 := q0.grown hg (by omega)); (try replace qr := qr.grown hg (by omega)); (try replace qc := qc.grown hg (by omega)); clear hg qv; have qv := qn; clear qn; (try clear q0_1); (try have q0_1 := q0.at 1 rfl); (try clear q0_3); (try have q0_3 := q0.at 3 rfl); (try clear q0_4); (try have q0_4 := q0.at 4 rfl); (try clear qv_0); (try have qv_0 := qv.at 0 rfl); (try clear qv_1); (try have qv_1 := qv.at 1 rfl); (try clear qv_2); (try have qv_2 := qv.at 2 rfl); (try clear qv_3); (try have qv_3 := qv.at 3 rfl))
    | ((with_reducible refine wpList_id ?_); refine wpList_putF rfl _ _ _ rfl rfl rfl q0 rfl (by rfl) (by rfl) ?_; intro w9 qn hg; (try simp only [List.setIfInBounds_toArray, List.set_cons_succ, List.set_cons_zero] at qn); replace b0 := b0.grown hg (by omega); (try replace qr := qr.grown hg (by omega)); (try replace qc := qc.grown hg (by omega)); (try replace qv := qv.grown hg (by omega)); clear hg q0; have q0 := qn; clear qn; (try clear q0_1); (try have q0_1 := q0.at 1 rfl); (try clear q0_3); (try have q0_3 := q0.at 3 rfl); (try clear q0_4); (try have q0_4 := q0.at 4 rfl); (try clear qv_0); (try have qv_0 := qv.at 0 rfl); (try clear qv_1); (try have qv_1 := qv.at 1 rfl); (try clear qv_2); (try have qv_2 := qv.at 2 rfl); (try clear qv_3); (try have qv_3 := qv.at 3 rfl)))
  (try clear q0_1); (try clear q0_3); (try clear q0_4); (try clear qv_0); (try clear qv_1); (try clear qv_2); (try clear qv_3)
  refine wp_region_G (fun w' => Blk w' w.heap.size 24 #[.int .i64 ((s)).id, .int .u8 ((s)).st, .int .i64 ((s)).sd, .int .i64 ((s)).rc, .int .i64 ((s)).ow, .bool ((s)).an, .bool ((s)).en, .slice A n c, .int .u8 ((s)).ur, .bool ((s)).inc, .int .i64 ((s)).sl] ∧ Blk w' wv.heap.size 32 #[.int .u8 5, .bool false, .bool false, .int .u32 3]) [] (by kernel_rfl) ?_
  replace b0 := b0.drew
  replace q0 := q0.drew
  replace qr := qr.drew
  replace qc := qc.drew
  replace qv := qv.drew
  have S0 := And.intro q0 qv
  refine wpAnyG_take 0 (v := _) rfl (by kernel_rfl) (fun _ _ _ h => h) S0 (Or.inl ⟨by rfl, fun w' hSw => exec_getB rfl rfl (hSw.1) Try.underlying24 rfl (by rfl)⟩) ?_; (try simp only [Act.put, go_sem])
  refine wpAnyG_take 1 (v := ?_) rfl (by kernel_rfl) (fun _ _ _ h => h) S0 (Or.inl ⟨by rfl, by intro w' hSw; go_simp; try with_reducible rfl⟩) ?_; (try simp only [Act.put, go_sem])
  refine wpAnyG_take 2 (v := ?_) rfl (by kernel_rfl) (fun _ _ _ h => h) S0 (Or.inl ⟨by rfl, by intro w' hSw; have z := (hSw.2).at 0 rfl; go_simp; try with_reducible rfl⟩) ?_; (try simp only [Act.put, go_sem])
  refine wpAnyG_take 4 (v := _) rfl (by kernel_rfl) (fun _ _ _ h => h) S0 (Or.inl ⟨by rfl, fun w' hSw => exec_getB rfl rfl (hSw.2) Try.underlying32 rfl (by rfl)⟩) ?_; (try simp only [Act.put, go_sem])
  have hs := b0.out.size
  refine wpAnyG_one 3 (by kernel_rfl) rfl (fun K hK => ?_)
  go_simp
  refine (OV.out _ _ _ (H0.out.below b0.out)).mono ?_
  rintro e w9 ⟨A2, n2, c2, rfl, m2, hb⟩
  replace b0 := b0.below hb
  replace q0 := q0.below hb
  replace qr := qr.below hb
  replace qc := qc.below hb
  replace qv := qv.below hb
  replace m2 := m2.base_le hs
  clear hs hb
  clear S0
  have S0 := And.intro q0 qv
  (try go_simp)
  refine hK.out _ _ (fun _ => S0) ?_
  clear hK K
  refine wpAnyG_one 5 (by kernel_rfl) rfl (fun K hK => ?_)
  rw [if_pos (by rfl)]
  refine wp_putB _ _ _ rfl rfl rfl qr (by rfl) (by rfl) (by rfl) ?_
  intro w9 qn hg
  replace b0 := b0.grown hg (by omega)
  replace m2 := m2.grownB qr (by decide) hg
  replace q0 := q0.grown hg (by omega)
  replace qc := qc.grown hg (by omega)
  replace qv := qv.grown hg (by omega)
  clear hg qr
  have qr := qn
  clear qn
  clear S0
  have S0 := And.intro q0 qv
  (try go_simp)
  refine hK.out _ _ (fun _ => S0) ?_
  clear hK K
  refine wpAnyG_one 6 (by kernel_rfl) rfl (fun K hK => ?_)
  rw [if_pos (by rfl)]
  refine wp_putB _ _ _ rfl rfl rfl qc (by rfl) (by rfl) (by rfl) ?_
  intro w9 qn hg
  replace b0 := b0.grown hg (by omega)
  replace m2 := m2.grownB qc (by decide) hg
  replace q0 := q0.grown hg (by omega)
  replace qr := qr.grown hg (by omega)
  replace qv := qv.grown hg (by omega)
  clear hg qc
  have qc := qn
  clear qn
  clear S0
  have S0 := And.intro q0 qv
  (try go_simp)
  refine hK.out _ _ (fun _ => S0) ?_
  clear hK K
  clear S0
  refine wpAnyG_done (by kernel_rfl) ?_ _
  go_wp2_with fail
  exact res2cc rfl rfl rfl rfl qr Try.underlying24 rfl (by rfl) qc Try.underlying32 rfl (by rfl) ⟨_, _, _, rfl, m2.base_le (by first | exact Nat.le_refl _ | (simp; omega)), b0.out⟩
set_option maxHeartbeats 1000000 in
theorem rDataw4a (s : Str) (ok : StrOk s) (x : Int) (en : Bool) (x0 : -9223372036854775808 ≤ x ∧ x ≤ 9223372036854775807) (cs : Int) (cw : Bool) (cc : Int) (k0 : 0 ≤ cs) (hc0 : comesF s.st 0 en = ⟨cs, true, cw, cc⟩) (A : Option Addr) (n c : Nat) (w : World) (h : Byt w A n c s.out) (hn : n ≤ 100000) (e0 : rightS s = true) (f0 : decide (x < 0) = false) (f1 : decide (s.rc < x) = false) (f2 : s.ow + x ≤ 2147483647) :
    Calls Try.prog 12 #[.agg #[.int .i64 (s).id, .int .u8 (s).st, .int .i64 (s).sd, .int .i64 (s).rc, .int .i64 (s).ow, .bool (s).an, .bool (s).en, .slice A n c, .int .u8 (s).ur, .bool (s).inc, .int .i64 (s).sl], .int .i64 x, .bool en] w (DtP (overS ({ s with rc := s.rc - x, ow := s.ow + x }) cs) ⟨cs, true, cw, cc⟩ w) := by
  have hc := h.cap; have hx := h.mx; have hl := h.len
  have RT := Lib.hid fun (A : Option Addr) (c : Nat) W => rSRight s ok A n c W hl (by omega)
  rw [e0] at RT
  have hR : RightS s := of_decide_eq_true e0
  obtain ⟨_, _, _, ⟨r0, r1⟩, ⟨w0, w1⟩, _⟩ := hR
  have CM := Lib.hid fun W => rComes s.st 0 en W
  rw [hc0] at CM
  have g0 : ¬x < 0 := by simpa using f0
  have g1 : ¬s.rc < x := by simpa using f1
  have OV := Lib.hid fun (A : Option Addr) (c : Nat) W (h : Byt W A n c s.out) => rOver ({ s with rc := s.rc - x, ow := s.ow + x }) (okTake ok ⟨by omega, by omega⟩ ⟨by omega, by omega⟩) cs k0 A n c W h hn
  generalize overS ({ s with rc := s.rc - x, ow := s.ow + x }) cs = tt at *
  have b0 := (((Bel.refl w).alloc (.cells #[.int .i64 (s).id, .int .u8 (s).st, .int .i64 (s).sd, .int .i64 (s).rc, .int .i64 (s).ow, .bool (s).an, .bool (s).en, .slice A n c, .int .u8 (s).ur, .bool (s).inc, .int .i64 (s).sl] 24)).alloc (.cells #[.int .i64 0, .int .u8 0, .int .i64 0, .int .i64 0, .int .i64 0, .bool false, .bool false, .slice none 0 0, .int .u8 0, .bool false, .int .i64 0] 24)).alloc (.cells #[.int .u8 0, .bool false, .bool false, .int .u32 0] 32)
  have q0 := ((Blk.new w 24 #[.int .i64 (s).id, .int .u8 (s).st, .int .i64 (s).sd, .int .i64 (s).rc, .int .i64 (s).ow, .bool (s).an, .bool (s).en, .slice A n c, .int .u8 (s).ur, .bool (s).inc, .int .i64 (s).sl]).alloc (.cells #[.int .i64 0, .int .u8 0, .int .i64 0, .int .i64 0, .int .i64 0, .bool false, .bool false, .slice none 0 0, .int .u8 0, .bool false, .int .i64 0] 24)).alloc (.cells #[.int .u8 0, .bool false, .bool false, .int .u32 0] 32)
  have qr := (Blk.newAt (b := w.heap.size + 1) (w.alloc (.cells #[.int .i64 (s).id, .int .u8 (s).st, .int .i64 (s).sd, .int .i64 (s).rc, .int .i64 (s).ow, .bool (s).an, .bool (s).en, .slice A n c, .int .u8 (s).ur, .bool (s).inc, .int .i64 (s).sl] 24)) 24 #[.int .i64 0, .int .u8 0, .int .i64 0, .int .i64 0, .int .i64 0, .bool false, .bool false, .slice none 0 0, .int .u8 0, .bool false, .int .i64 0] (by simp)).alloc (.cells #[.int .u8 0, .bool false, .bool false, .int .u32 0] 32)
  have qc := Blk.newAt (b := w.heap.size + 1 + 1) ((w.alloc (.cells #[.int .i64 (s).id, .int .u8 (s).st, .int .i64 (s).sd, .int .i64 (s).rc, .int .i64 (s).ow, .bool (s).an, .bool (s).en, .slice A n c, .int .u8 (s).ur, .bool (s).inc, .int .i64 (s).sl] 24)).alloc (.cells #[.int .i64 0, .int .u8 0, .int .i64 0, .int .i64 0, .int .i64 0, .bool false, .bool false, .slice none 0 0, .int .u8 0, .bool false, .int .i64 0] 24)) 32 #[.int .u8 0, .bool false, .bool false, .int .u32 0] (by simp)
  have y := ((h.alloc (.cells #[.int .i64 (s).id, .int .u8 (s).st, .int .i64 (s).sd, .int .i64 (s).rc, .int .i64 (s).ow, .bool (s).an, .bool (s).en, .slice A n c, .int .u8 (s).ur, .bool (s).inc, .int .i64 (s).sl] 24)).alloc (.cells #[.int .i64 0, .int .u8 0, .int .i64 0, .int .i64 0, .int .i64 0, .bool false, .bool false, .slice none 0 0, .int .u8 0, .bool false, .int .i64 0] 24)).alloc (.cells #[.int .u8 0, .bool false, .bool false, .int .u32 0] 32)
  have sz := b0.out.size
  have HL := Lib.hid hl
  have h0 := h
  clear h hl e0 hc0 y
  have H0 := Lib.hid h0
  have q0_1 := q0.at 1 rfl
  have q0_3 := q0.at 3 rfl
  have q0_4 := q0.at 4 rfl
  go_enter Try.func12, Try.ntmps12
  go_upto_region 9 with (first
    | (go_at_call 31; (with_reducible refine (RT.out _ _ _).mono ?_); rintro e w9 ⟨rfl, hb⟩; replace b0 := b0.below hb; (try replace q0 := q0.below hb); (try replace qr := qr.below hb); (try replace qc := qc.below hb); (try replace qv := qv.below hb); (try clear q0_1); (try have q0_1 := q0.at 1 rfl); (try clear q0_3); (try have q0_3 := q0.at 3 rfl); (try clear q0_4); (try have q0_4 := q0.at 4 rfl); (try clear qv_0); (try have qv_0 := qv.at 0 rfl); (try clear qv_1); (try have qv_1 := qv.at 1 rfl); (try clear qv_2); (try have qv_2 := qv.at 2 rfl); (try clear qv_3); (try have qv_3 := qv.at 3 rfl))
    | (go_at_call 15; (with_reducible refine (CM.out _).mono ?_); rintro e wv ⟨rfl, hb⟩; replace b0 := b0.below hb; (try replace q0 := q0.below hb); (try replace qr := qr.below hb); (try replace qc := qc.below hb); (try replace qv := qv.below hb); (try clear q0_1); (try have q0_1 := q0.at 1 rfl); (try clear q0_3); (try have q0_3 := q0.at 3 rfl); (try clear q0_4); (try have q0_4 := q0.at 4 rfl); (try clear qv_0); (try have qv_0 := qv.at 0 rfl); (try clear qv_1); (try have qv_1 := qv.at 1 rfl); (try clear qv_2); (try have qv_2 := qv.at 2 rfl); (try clear qv_3); (try have qv_3 := qv.at 3 rfl); have hO := qc.lt; have qv := Blk.new wv 32 #[.int .u8 cs, .bool true, .bool cw, .int .u32 cc]; replace b0 := b0.alloc (.cells #[.int .u8 cs, .bool true, .bool cw, .int .u32 cc] 32); replace q0 := q0.alloc (.cells #[.int .u8 cs, .bool true, .bool cw, .int .u32 cc] 32); replace qr := qr.alloc (.cells #[.int .u8 cs, .bool true, .bool cw, .int .u32 cc] 32); replace qc := qc.alloc (.cells #[.int .u8 cs, .bool true, .bool cw, .int .u32 cc] 32); (try clear q0_1); (try have q0_1 := q0.at 1 rfl); (try clear q0_3); (try have q0_3 := q0.at 3 rfl); (try clear q0_4); (try have q0_4 := q0.at 4 rfl); (try clear qv_0); (try have qv_0 := qv.at 0 rfl); (try clear qv_1); (try have qv_1 := qv.at 1 rfl); (try clear qv_2); (try have qv_2 := qv.at 2 rfl); (try clear qv_3); (try have qv_3 := qv.at 3 rfl); clear hb)
    | ((with_reducible refine wpList_id ?_); refine wpList_getB rfl _ _ rfl rfl q0 Try.underlying24 rfl (by rfl) ?_)
    | ((with_reducible refine wpList_id ?_); refine wpList_putB rfl _ _ _ rfl rfl rfl qv (by rfl) (by rfl) (by rfl) ?_; intro w9 qn hg; replace b0 := b0.grown hg (by omega); (try replace q0 := q0.grown hg (by omega)); (try replace qr := qr.grown hg (by omega)); (try replace qc := qc.grown hg (by omega)); clear hg qv; have qv := qn; clear qn; (try clear q0_1); (try have q0_1 := q0.at 1 rfl); (try clear q0_3); (try have q0_3 := q0.at 3 rfl); (try clear q0_4); (try have q0_4 := q0.at 4 rfl); (try clear qv_0); (try have qv_0 := qv.at 0 rfl); (try clear qv_1); (try have qv_1 := qv.at 1 rfl); (try clear qv_2); (try have qv_2 := qv.at 2 rfl); (try clear qv_3); (try have qv_3 := qv.at 3 rfl))
    | ((with_reducible refine wpList_id ?_); refine wpList_putF rfl _ _ _ rfl rfl rfl q0 rfl (by rfl) (by rfl) ?_; intro w9 qn hg; (try simp only [List.setIfInBounds_toArray, List.set_cons_succ, List.set_cons_zero] at qn); replace b0 := b0.grown hg (by omega); (try replace qr := qr.grown hg (by omega)); (try replace qc := qc.grown hg (by omega)); (try replace qv := qv.grown hg (by omega)); clear hg q0; have q0 := qn; clear qn; (try clear q0_1); (try have q0_1 := q0.at 1 rfl); (try clear q0_3); (try have q0_3 := q0.at 3 rfl); (try clear q0_4); (try have q0_4 := q0.at 4 rfl); (try clear qv_0); (try have qv_0 := qv.at 0 rfl); (try clear qv_1); (try have qv_1 := qv.at 1 rfl); (try clear qv_2); (try have qv_2 := qv.at 2 rfl); (try clear qv_3); (try have qv_3 := qv.at 3 rfl)))
  go_upto_region 10 with fail
  go_wp2_with (first
    | (go_at_call 31; (with_reducible refine (RT.out _ _ _).mono ?_); rintro e w9 ⟨rfl, hb⟩; replace b0 := b0.below hb; (try replace q0 := q0.below hb); (try replace qr := qr.below hb); (try replace qc := qc.below hb); (try replace qv := qv.below hb); (try clear q0_1); (try have q0_1 := q0.at 1 rfl); (try clear q0_3); (try have q0_3 := q0.at 3 rfl); (try clear q0_4); (try have q0_4 := q0.at 4 rfl); (try clear qv_0); (try have qv_0 := qv.at 0 rfl); (try clear qv_1); (try have qv_1 := qv.at 1 rfl); (try clear qv_2); (try have qv_2 := qv.at 2 rfl); (try clear qv_3); (try have qv_3 := qv.at 3 rfl))
    | (go_at_call 15; (with_reducible refine (CM.out _).mono ?_); rintro e wv ⟨rfl, hb⟩; replace b0 := b0.below hb; (try replace q0 := q0.below hb); (try replace qr := qr.below hb); (try replace qc := qc.below hb); (try replace qv := qv.below hb); (try clear q0_1); (try have q0_1 := q0.at 1 rfl); (try clear q0_3); (try have q0_3 := q0.at 3 rfl); (try clear q0_4); (try have q0_4 := q0.at 4 rfl); (try clear qv_0); (try have qv_0 := qv.at 0 rfl); (try clear qv_1); (try have qv_1 := qv.at 1 rfl); (try clear qv_2); (try have qv_2 := qv.at 2 rfl); (try clear qv_3); (try have qv_3 := qv.at 3 rfl); have hO := qc.lt; have qv := Blk.new wv 32 #[.int .u8 cs, .bool true, .bool cw, .int .u32 cc]; replace b0 := b0.alloc (.cells #[.int .u8 cs, .bool true, .bool cw, .int .u32 cc] 32); replace q0 := q0.alloc (.cells #[.int .u8 cs, .bool true, .bool cw, .int .u32 cc] 32); replace qr := qr.alloc (.cells #[.int .u8 cs, .bool true, .bool cw, .int .u32 cc] 32); replace qc := qc.alloc (.cells #[.int .u8 cs, .bool true, .bool cw, .int .u32 cc] 32); (try clear q0_1); (try have q0_1 := q0.at 1 rfl); (try clear q0_3); (try have q0_3 := q0.at 3 rfl); (try clear q0_4); (try have q0_4 := q0.at 4 rfl); (try clear qv_0); (try have qv_0 := qv.at 0 rfl); (try clear qv_1); (try have qv_1 := qv.at 1 rfl); (try clear qv_2); (try have qv_2 := qv.at 2 rfl); (try clear qv_3); (try have qv_3 := qv.at 3 rfl); clear hb)
    | ((with_reducible refine wpList_id ?_); refine wpList_getB rfl _ _ rfl rfl q0 Try.underlying24 rfl (by rfl) ?_)
    | ((with_reducible refine wpList_id ?_); refine wpList_putB rfl _ _ _ rfl rfl rfl qv (by rfl) (by rfl) (by rfl) ?_; intro w9 qn hg; replace b0 := b0.grown hg (by omega); (try replace q0 := q0.grown hg (by omega)); (try replace qr := qr.grown hg (by omega)); (try replace qc := qc.grown hg (by omega)); clear hg qv; have qv := qn; clear qn; (try clear q0_1); (try have q0_1 := q0.at 1 rfl); (try clear q0_3); (try have q0_3 := q0.at 3 rfl); (try clear q0_4); (try have q0_4 := q0.at 4 rfl); (try clear qv_0); (try have qv_0 := qv.at 0 rfl); (try clear qv_1); (try have qv_1 := qv.at 1 rfl); (try clear qv_2); (try have qv_2 := qv.at 2 rfl); (try clear qv_3); (try have qv_3 := qv.at 3 rfl))
    | ((with_reducible refine wpList_id ?_); refine wpList_putF rfl _ _ _ rfl rfl rfl q0 rfl (by rfl) (by rfl) ?_; intro w9 qn hg; (try simp only [List.setIfInBounds_toArray, List.set_cons_succ, List.set_cons_zero] at qn); replace b0 := b0.grown hg (by omega); (try replace qr := qr.grown hg (by omega)); (try replace qc := qc.grown hg (by omega)); (try replace qv := qv.grown hg (by omega)); clear hg q0; have q0 := qn; clear qn; (try clear q0_1); (try have q0_1 := q0.at 1 rfl); (try clear q0_3); (try have q0_3 := q0.at 3 rfl); (try clear q0_4); (try have q0_4 := q0.at 4 rfl); (try clear qv_0); (try have qv_0 := qv.at 0 rfl); (try clear qv_1); (try have qv_1 := qv.at 1 rfl); (try clear qv_2); (try have qv_2 := qv.at 2 rfl); (try clear qv_3); (try have qv_3 := qv.at 3 rfl)))
  (try clear q0_1); (try clear q0_3); (try clear q0_4); (try clear qv_0); (try clear qv_1); (try clear qv_2); (try clear qv_3)
  refine wp_region_G (fun w' => Blk w' w.heap.size 24 #[.int .i64 (({ s with rc := s.rc - x, ow := s.ow + x })).id, .int .u8 (({ s with rc := s.rc - x, ow := s.ow + x })).st, .int .i64 (({ s with rc := s.rc - x, ow := s.ow + x })).sd, .int .i64 (({ s with rc := s.rc - x, ow := s.ow + x })).rc, .int .i64 (({ s with rc := s.rc - x, ow := s.ow + x })).ow, .bool (({ s with rc := s.rc - x, ow := s.ow + x })).an, .bool (({ s with rc := s.rc - x, ow := s.ow + x })).en, .slice A n c, .int .u8 (({ s with rc := s.rc - x, ow := s.ow + x })).ur, .bool (({ s with rc := s.rc - x, ow := s.ow + x })).inc, .int .i64 (({ s with rc := s.rc - x, ow := s.ow + x })).sl] ∧ Blk w' wv.heap.size 32 #[.int .u8 cs, .bool true, .bool cw, .int .u32 cc]) [] (by kernel_rfl) ?_
  replace b0 := b0.drew
  replace q0 := q0.drew
  replace qr := qr.drew
  replace qc := qc.drew
  replace qv := qv.drew
  have S0 := And.intro q0 qv
  refine wpAnyG_take 0 (v := _) rfl (by kernel_rfl) (fun _ _ _ h => h) S0 (Or.inl ⟨by rfl, fun w' hSw => exec_getB rfl rfl (hSw.1) Try.underlying24 rfl (by rfl)⟩) ?_; (try simp only [Act.put, go_sem])
  refine wpAnyG_take 1 (v := ?_) rfl (by kernel_rfl) (fun _ _ _ h => h) S0 (Or.inl ⟨by rfl, by intro w' hSw; go_simp; try with_reducible rfl⟩) ?_; (try simp only [Act.put, go_sem])
  refine wpAnyG_take 2 (v := ?_) rfl (by kernel_rfl) (fun _ _ _ h => h) S0 (Or.inl ⟨by rfl, by intro w' hSw; have z := (hSw.2).at 0 rfl; go_simp; try with_reducible rfl⟩) ?_; (try simp only [Act.put, go_sem])
  refine wpAnyG_take 4 (v := _) rfl (by kernel_rfl) (fun _ _ _ h => h) S0 (Or.inl ⟨by rfl, fun w' hSw => exec_getB rfl rfl (hSw.2) Try.underlying32 rfl (by rfl)⟩) ?_; (try simp only [Act.put, go_sem])
  have hs := b0.out.size
  refine wpAnyG_one 3 (by kernel_rfl) rfl (fun K hK => ?_)
  go_simp
  refine (OV.out _ _ _ (H0.out.below b0.out)).mono ?_
  rintro e w9 ⟨A2, n2, c2, rfl, m2, hb⟩
  replace b0 := b0.below hb
  replace q0 := q0.below hb
  replace qr := qr.below hb
  replace qc := qc.below hb
  replace qv := qv.below hb
  replace m2 := m2.base_le hs
  clear hs hb
  clear S0
  have S0 := And.intro q0 qv
  (try go_simp)
  refine hK.out _ _ (fun _ => S0) ?_
  clear hK K
  refine wpAnyG_one 5 (by kernel_rfl) rfl (fun K hK => ?_)
  rw [if_pos (by rfl)]
  refine wp_putB _ _ _ rfl rfl rfl qr (by rfl) (by rfl) (by rfl) ?_
  intro w9 qn hg
  replace b0 := b0.grown hg (by omega)
  replace m2 := m2.grownB qr (by decide) hg
  replace q0 := q0.grown hg (by omega)
  replace qc := qc.grown hg (by omega)
  replace qv := qv.grown hg (by omega)
  clear hg qr
  have qr := qn
  clear qn
  clear S0
  have S0 := And.intro q0 qv
  (try go_simp)
  refine hK.out _ _ (fun _ => S0) ?_
  clear hK K
  refine wpAnyG_one 6 (by kernel_rfl) rfl (fun K hK => ?_)
  rw [if_pos (by rfl)]
  refine wp_putB _ _ _ rfl rfl rfl qc (by rfl) (by rfl) (by rfl) ?_
  intro w9 qn hg
  replace b0 := b0.grown hg (by omega)
  replace m2 := m2.grownB qc (by decide) hg
  replace q0 := q0.grown hg (by omega)
  replace qr := qr.grown hg (by omega)
  replace qv := qv.grown hg (by omega)
  clear hg qc
  have qc := qn
  clear qn
  clear S0
  have S0 := And.intro q0 qv
  (try go_simp)
  refine hK.out _ _ (fun _ => S0) ?_
  clear hK K
  clear S0
  refine wpAnyG_done (by kernel_rfl) ?_ _
  go_wp2_with fail
  exact res2cc rfl rfl rfl rfl qr Try.underlying24 rfl (by rfl) qc Try.underlying32 rfl (by rfl) ⟨_, _, _, rfl, m2.base_le (by first | exact Nat.le_refl _ | (simp; omega)), b0.out⟩
set_option maxHeartbeats 1000000 in
theorem rDataw4b (s : Str) (ok : StrOk s) (x : Int) (en : Bool) (x0 : -9223372036854775808 ≤ x ∧ x ≤ 9223372036854775807) (cs : Int) (cw : Bool) (cc : Int) (k0 : 0 ≤ cs) (hc0 : comesF s.st 0 en = ⟨cs, true, cw, cc⟩) (A : Option Addr) (n c : Nat) (w : World) (h : Byt w A n c s.out) (hn : n ≤ 100000) (e0 : rightS s = true) (f0 : decide (x < 0) = false) (f1 : decide (s.rc < x) = false) (f2 : 2147483647 < s.ow + x) :
    Calls Try.prog 12 #[.agg #[.int .i64 (s).id, .int .u8 (s).st, .int .i64 (s).sd, .int .i64 (s).rc, .int .i64 (s).ow, .bool (s).an, .bool (s).en, .slice A n c, .int .u8 (s).ur, .bool (s).inc, .int .i64 (s).sl], .int .i64 x, .bool en] w (DtP (overS ({ s with rc := s.rc - x, ow := 2147483647 }) cs) ⟨cs, true, cw, cc⟩ w) := by
  have hc := h.cap; have hx := h.mx; have hl := h.len
  have RT := Lib.hid fun (A : Option Addr) (c : Nat) W => rSRight s ok A n c W hl (by omega)
  rw [e0] at RT
  have hR : RightS s := of_decide_eq_true e0
  obtain ⟨_, _, _, ⟨r0, r1⟩, ⟨w0, w1⟩, _⟩ := hR
  have CM := Lib.hid fun W => rComes s.st 0 en W
  rw [hc0] at CM
  have g0 : ¬x < 0 := by simpa using f0
  have g1 : ¬s.rc < x := by simpa using f1
  have OV := Lib.hid fun (A : Option Addr) (c : Nat) W (h : Byt W A n c s.out) => rOver ({ s with rc := s.rc - x, ow := 2147483647 }) (okTake ok ⟨by omega, by omega⟩ ⟨by omega, by omega⟩) cs k0 A n c W h hn
  generalize overS ({ s with rc := s.rc - x, ow := 2147483647 }) cs = tt at *
  have b0 := (((Bel.refl w).alloc (.cells #[.int .i64 (s).id, .int .u8 (s).st, .int .i64 (s).sd, .int .i64 (s).rc, .int .i64 (s).ow, .bool (s).an, .bool (s).en, .slice A n c, .int .u8 (s).ur, .bool (s).inc, .int .i64 (s).sl] 24)).alloc (.cells #[.int .i64 0, .int .u8 0, .int .i64 0, .int .i64 0, .int .i64 0, .bool false, .bool false, .slice none 0 0, .int .u8 0, .bool false, .int .i64 0] 24)).alloc (.cells #[.int .u8 0, .bool false, .bool false, .int .u32 0] 32)
  have q0 := ((Blk.new w 24 #[.int .i64 (s).id, .int .u8 (s).st, .int .i64 (s).sd, .int .i64 (s).rc, .int .i64 (s).ow, .bool (s).an, .bool (s).en, .slice A n c, .int .u8 (s).ur, .bool (s).inc, .int .i64 (s).sl]).alloc (.cells #[.int .i64 0, .int .u8 0, .int .i64 0, .int .i64 0, .int .i64 0, .bool false, .bool false, .slice none 0 0, .int .u8 0, .bool false, .int .i64 0] 24)).alloc (.cells #[.int .u8 0, .bool false, .bool false, .int .u32 0] 32)
  have qr := (Blk.newAt (b := w.heap.size + 1) (w.alloc (.cells #[.int .i64 (s).id, .int .u8 (s).st, .int .i64 (s).sd, .int .i64 (s).rc, .int .i64 (s).ow, .bool (s).an, .bool (s).en, .slice A n c, .int .u8 (s).ur, .bool (s).inc, .int .i64 (s).sl] 24)) 24 #[.int .i64 0, .int .u8 0, .int .i64 0, .int .i64 0, .int .i64 0, .bool false, .bool false, .slice none 0 0, .int .u8 0, .bool false, .int .i64 0] (by simp)).alloc (.cells #[.int .u8 0, .bool false, .bool false, .int .u32 0] 32)
  have qc := Blk.newAt (b := w.heap.size + 1 + 1) ((w.alloc (.cells #[.int .i64 (s).id, .int .u8 (s).st, .int .i64 (s).sd, .int .i64 (s).rc, .int .i64 (s).ow, .bool (s).an, .bool (s).en, .slice A n c, .int .u8 (s).ur, .bool (s).inc, .int .i64 (s).sl] 24)).alloc (.cells #[.int .i64 0, .int .u8 0, .int .i64 0, .int .i64 0, .int .i64 0, .bool false, .bool false, .slice none 0 0, .int .u8 0, .bool false, .int .i64 0] 24)) 32 #[.int .u8 0, .bool false, .bool false, .int .u32 0] (by simp)
  have y := ((h.alloc (.cells #[.int .i64 (s).id, .int .u8 (s).st, .int .i64 (s).sd, .int .i64 (s).rc, .int .i64 (s).ow, .bool (s).an, .bool (s).en, .slice A n c, .int .u8 (s).ur, .bool (s).inc, .int .i64 (s).sl] 24)).alloc (.cells #[.int .i64 0, .int .u8 0, .int .i64 0, .int .i64 0, .int .i64 0, .bool false, .bool false, .slice none 0 0, .int .u8 0, .bool false, .int .i64 0] 24)).alloc (.cells #[.int .u8 0, .bool false, .bool false, .int .u32 0] 32)
  have sz := b0.out.size
  have HL := Lib.hid hl
  have h0 := h
  clear h hl e0 hc0 y
  have H0 := Lib.hid h0
  have q0_1 := q0.at 1 rfl
  have q0_3 := q0.at 3 rfl
  have q0_4 := q0.at 4 rfl
  go_enter Try.func12, Try.ntmps12
  go_upto_region 9 with (first
    | (go_at_call 31; (with_reducible refine (RT.out _ _ _).mono ?_); rintro e w9 ⟨rfl, hb⟩; replace b0 := b0.below hb; (try replace q0 := q0.below hb); (try replace qr := qr.below hb); (try replace qc := qc.below hb); (try replace qv := qv.below hb); (try clear q0_1); (try have q0_1 := q0.at 1 rfl); (try clear q0_3); (try have q0_3 := q0.at 3 rfl); (try clear q0_4); (try have q0_4 := q0.at 4 rfl); (try clear qv_0); (try have qv_0 := qv.at 0 rfl); (try clear qv_1); (try have qv_1 := qv.at 1 rfl); (try clear qv_2); (try have qv_2 := qv.at 2 rfl); (try clear qv_3); (try have qv_3 := qv.at 3 rfl))
    | (go_at_call 15; (with_reducible refine (CM.out _).mono ?_); rintro e wv ⟨rfl, hb⟩; replace b0 := b0.below hb; (try replace q0 := q0.below hb); (try replace qr := qr.below hb); (try replace qc := qc.below hb); (try replace qv := qv.below hb); (try clear q0_1); (try have q0_1 := q0.at 1 rfl); (try clear q0_3); (try have q0_3 := q0.at 3 rfl); (try clear q0_4); (try have q0_4 := q0.at 4 rfl); (try clear qv_0); (try have qv_0 := qv.at 0 rfl); (try clear qv_1); (try have qv_1 := qv.at 1 rfl); (try clear qv_2); (try have qv_2 := qv.at 2 rfl); (try clear qv_3); (try have qv_3 := qv.at 3 rfl); have hO := qc.lt; have qv := Blk.new wv 32 #[.int .u8 cs, .bool true, .bool cw, .int .u32 cc]; replace b0 := b0.alloc (.cells #[.int .u8 cs, .bool true, .bool cw, .int .u32 cc] 32); replace q0 := q0.alloc (.cells #[.int .u8 cs, .bool true, .bool cw, .int .u32 cc] 32); replace qr := qr.alloc (.cells #[.int .u8 cs, .bool true, .bool cw, .int .u32 cc] 32); replace qc := qc.alloc (.cells #[.int .u8 cs, .bool true, .bool cw, .int .u32 cc] 32); (try clear q0_1); (try have q0_1 := q0.at 1 rfl); (try clear q0_3); (try have q0_3 := q0.at 3 rfl); (try clear q0_4); (try have q0_4 := q0.at 4 rfl); (try clear qv_0); (try have qv_0 := qv.at 0 rfl); (try clear qv_1); (try have qv_1 := qv.at 1 rfl); (try clear qv_2); (try have qv_2 := qv.at 2 rfl); (try clear qv_3); (try have qv_3 := qv.at 3 rfl); clear hb)
    | ((with_reducible refine wpList_id ?_); refine wpList_getB rfl _ _ rfl rfl q0 Try.underlying24 rfl (by rfl) ?_)
    | ((with_reducible refine wpList_id ?_); refine wpList_putB rfl _ _ _ rfl rfl rfl qv (by rfl) (by rfl) (by rfl) ?_; intro w9 qn hg; replace b0 := b0.grown hg (by omega); (try replace q0 := q0.grown hg (by omega)); (try replace qr := qr.grown hg (by omega)); (try replace qc := qc.grown hg (by omega)); clear hg qv; have qv := qn; clear qn; (try clear q0_1); (try have q0_1 := q0.at 1 rfl); (try clear q0_3); (try have q0_3 := q0.at 3 rfl); (try clear q0_4); (try have q0_4 := q0.at 4 rfl); (try clear qv_0); (try have qv_0 := qv.at 0 rfl); (try clear qv_1); (try have qv_1 := qv.at 1 rfl); (try clear qv_2); (try have qv_2 := qv.at 2 rfl); (try clear qv_3); (try have qv_3 := qv.at 3 rfl))
    | ((with_reducible refine wpList_id ?_); refine wpList_putF rfl _ _ _ rfl rfl rfl q0 rfl (by rfl) (by rfl) ?_; intro w9 qn hg; (try simp only [List.setIfInBounds_toArray, List.set_cons_succ, List.set_cons_zero] at qn); replace b0 := b0.grown hg (by omega); (try replace qr := qr.grown hg (by omega)); (try replace qc := qc.grown hg (by omega)); (try replace qv := qv.grown hg (by omega)); clear hg q0; have q0 := qn; clear qn; (try clear q0_1); (try have q0_1 := q0.at 1 rfl); (try clear q0_3); (try have q0_3 := q0.at 3 rfl); (try clear q0_4); (try have q0_4 := q0.at 4 rfl); (try clear qv_0); (try have qv_0 := qv.at 0 rfl); (try clear qv_1); (try have qv_1 := qv.at 1 rfl); (try clear qv_2); (try have qv_2 := qv.at 2 rfl); (try clear qv_3); (try have qv_3 := qv.at 3 rfl)))
  go_upto_region 10 with fail
  go_wp2_with (first
    | (go_at_call 31; (with_reducible refine (RT.out _ _ _).mono ?_); rintro e w9 ⟨rfl, hb⟩; replace b0 := b0.below hb; (try replace q0 := q0.below hb); (try replace qr := qr.below hb); (try replace qc := qc.below hb); (try replace qv := qv.below hb); (try clear q0_1); (try have q0_1 := q0.at 1 rfl); (try clear q0_3); (try have q0_3 := q0.at 3 rfl); (try clear q0_4); (try have q0_4 := q0.at 4 rfl); (try clear qv_0); (try have qv_0 := qv.at 0 rfl); (try clear qv_1); (try have qv_1 := qv.at 1 rfl); (try clear qv_2); (try have qv_2 := qv.at 2 rfl); (try clear qv_3); (try have qv_3 := qv.at 3 rfl))
    | (go_at_call 15; (with_reducible refine (CM.out _).mono ?_); rintro e wv ⟨rfl, hb⟩; replace b0 := b0.below hb; (try replace q0 := q0.below hb); (try replace qr := qr.below hb); (try replace qc := qc.below hb); (try replace qv := qv.below hb); (try clear q0_1); (try have q0_1 := q0.at 1 rfl); (try clear q0_3); (try have q0_3 := q0.at 3 rfl); (try clear q0_4); (try have q0_4 := q0.at 4 rfl); (try clear qv_0); (try have qv_0 := qv.at 0 rfl); (try clear qv_1); (try have qv_1 := qv.at 1 rfl); (try clear qv_2); (try have qv_2 := qv.at 2 rfl); (try clear qv_3); (try have qv_3 := qv.at 3 rfl); have hO := qc.lt; have qv := Blk.new wv 32 #[.int .u8 cs, .bool true, .bool cw, .int .u32 cc]; replace b0 := b0.alloc (.cells #[.int .u8 cs, .bool true, .bool cw, .int .u32 cc] 32); replace q0 := q0.alloc (.cells #[.int .u8 cs, .bool true, .bool cw, .int .u32 cc] 32); replace qr := qr.alloc (.cells #[.int .u8 cs, .bool true, .bool cw, .int .u32 cc] 32); replace qc := qc.alloc (.cells #[.int .u8 cs, .bool true, .bool cw, .int .u32 cc] 32); (try clear q0_1); (try have q0_1 := q0.at 1 rfl); (try clear q0_3); (try have q0_3 := q0.at 3 rfl); (try clear q0_4); (try have q0_4 := q0.at 4 rfl); (try clear qv_0); (try have qv_0 := qv.at 0 rfl); (try clear qv_1); (try have qv_1 := qv.at 1 rfl); (try clear qv_2); (try have qv_2 := qv.at 2 rfl); (try clear qv_3); (try have qv_3 := qv.at 3 rfl); clear hb)
    | ((with_reducible refine wpList_id ?_); refine wpList_getB rfl _ _ rfl rfl q0 Try.underlying24 rfl (by rfl) ?_)
    | ((with_reducible refine wpList_id ?_); refine wpList_putB rfl _ _ _ rfl rfl rfl qv (by rfl) (by rfl) (by rfl) ?_; intro w9 qn hg; replace b0 := b0.grown hg (by omega); (try replace q0 := q0.grown hg (by omega)); (try replace qr := qr.grown hg (by omega)); (try replace qc := qc.grown hg (by omega)); clear hg qv; have qv := qn; clear qn; (try clear q0_1); (try have q0_1 := q0.at 1 rfl); (try clear q0_3); (try have q0_3 := q0.at 3 rfl); (try clear q0_4); (try have q0_4 := q0.at 4 rfl); (try clear qv_0); (try have qv_0 := qv.at 0 rfl); (try clear qv_1); (try have qv_1 := qv.at 1 rfl); (try clear qv_2); (try have qv_2 := qv.at 2 rfl); (try clear qv_3); (try have qv_3 := qv.at 3 rfl))
    | ((with_reducible refine wpList_id ?_); refine wpList_putF rfl _ _ _ rfl rfl rfl q0 rfl (by rfl) (by rfl) ?_; intro w9 qn hg; (try simp only [List.setIfInBounds_toArray, List.set_cons_succ, List.set_cons_zero] at qn); replace b0 := b0.grown hg (by omega); (try replace qr := qr.grown hg (by omega)); (try replace qc := qc.grown hg (by omega)); (try replace qv := qv.grown hg (by omega)); clear hg q0; have q0 := qn; clear qn; (try clear q0_1); (try have q0_1 := q0.at 1 rfl); (try clear q0_3); (try have q0_3 := q0.at 3 rfl); (try clear q0_4); (try have q0_4 := q0.at 4 rfl); (try clear qv_0); (try have qv_0 := qv.at 0 rfl); (try clear qv_1); (try have qv_1 := qv.at 1 rfl); (try clear qv_2); (try have qv_2 := qv.at 2 rfl); (try clear qv_3); (try have qv_3 := qv.at 3 rfl)))
  (try clear q0_1); (try clear q0_3); (try clear q0_4); (try clear qv_0); (try clear qv_1); (try clear qv_2); (try clear qv_3)
  refine wp_region_G (fun w' => Blk w' w.heap.size 24 #[.int .i64 (({ s with rc := s.rc - x, ow := 2147483647 })).id, .int .u8 (({ s with rc := s.rc - x, ow := 2147483647 })).st, .int .i64 (({ s with rc := s.rc - x, ow := 2147483647 })).sd, .int .i64 (({ s with rc := s.rc - x, ow := 2147483647 })).rc, .int .i64 (({ s with rc := s.rc - x, ow := 2147483647 })).ow, .bool (({ s with rc := s.rc - x, ow := 2147483647 })).an, .bool (({ s with rc := s.rc - x, ow := 2147483647 })).en, .slice A n c, .int .u8 (({ s with rc := s.rc - x, ow := 2147483647 })).ur, .bool (({ s with rc := s.rc - x, ow := 2147483647 })).inc, .int .i64 (({ s with rc := s.rc - x, ow := 2147483647 })).sl] ∧ Blk w' wv.heap.size 32 #[.int .u8 cs, .bool true, .bool cw, .int .u32 cc]) [] (by kernel_rfl) ?_
  replace b0 := b0.drew
  replace q0 := q0.drew
  replace qr := qr.drew
  replace qc := qc.drew
  replace qv := qv.drew
  have S0 := And.intro q0 qv
  refine wpAnyG_take 0 (v := _) rfl (by kernel_rfl) (fun _ _ _ h => h) S0 (Or.inl ⟨by rfl, fun w' hSw => exec_getB rfl rfl (hSw.1) Try.underlying24 rfl (by rfl)⟩) ?_; (try simp only [Act.put, go_sem])
  refine wpAnyG_take 1 (v := ?_) rfl (by kernel_rfl) (fun _ _ _ h => h) S0 (Or.inl ⟨by rfl, by intro w' hSw; go_simp; try with_reducible rfl⟩) ?_; (try simp only [Act.put, go_sem])
  refine wpAnyG_take 2 (v := ?_) rfl (by kernel_rfl) (fun _ _ _ h => h) S0 (Or.inl ⟨by rfl, by intro w' hSw; have z := (hSw.2).at 0 rfl; go_simp; try with_reducible rfl⟩) ?_; (try simp only [Act.put, go_sem])
  refine wpAnyG_take 4 (v := _) rfl (by kernel_rfl) (fun _ _ _ h => h) S0 (Or.inl ⟨by rfl, fun w' hSw => exec_getB rfl rfl (hSw.2) Try.underlying32 rfl (by rfl)⟩) ?_; (try simp only [Act.put, go_sem])
  have hs := b0.out.size
  refine wpAnyG_one 3 (by kernel_rfl) rfl (fun K hK => ?_)
  go_simp
  refine (OV.out _ _ _ (H0.out.below b0.out)).mono ?_
  rintro e w9 ⟨A2, n2, c2, rfl, m2, hb⟩
  replace b0 := b0.below hb
  replace q0 := q0.below hb
  replace qr := qr.below hb
  replace qc := qc.below hb
  replace qv := qv.below hb
  replace m2 := m2.base_le hs
  clear hs hb
  clear S0
  have S0 := And.intro q0 qv
  (try go_simp)
  refine hK.out _ _ (fun _ => S0) ?_
  clear hK K
  refine wpAnyG_one 5 (by kernel_rfl) rfl (fun K hK => ?_)
  rw [if_pos (by rfl)]
  refine wp_putB _ _ _ rfl rfl rfl qr (by rfl) (by rfl) (by rfl) ?_
  intro w9 qn hg
  replace b0 := b0.grown hg (by omega)
  replace m2 := m2.grownB qr (by decide) hg
  replace q0 := q0.grown hg (by omega)
  replace qc := qc.grown hg (by omega)
  replace qv := qv.grown hg (by omega)
  clear hg qr
  have qr := qn
  clear qn
  clear S0
  have S0 := And.intro q0 qv
  (try go_simp)
  refine hK.out _ _ (fun _ => S0) ?_
  clear hK K
  refine wpAnyG_one 6 (by kernel_rfl) rfl (fun K hK => ?_)
  rw [if_pos (by rfl)]
  refine wp_putB _ _ _ rfl rfl rfl qc (by rfl) (by rfl) (by rfl) ?_
  intro w9 qn hg
  replace b0 := b0.grown hg (by omega)
  replace m2 := m2.grownB qc (by decide) hg
  replace q0 := q0.grown hg (by omega)
  replace qr := qr.grown hg (by omega)
  replace qv := qv.grown hg (by omega)
  clear hg qc
  have qc := qn
  clear qn
  clear S0
  have S0 := And.intro q0 qv
  (try go_simp)
  refine hK.out _ _ (fun _ => S0) ?_
  clear hK K
  clear S0
  refine wpAnyG_done (by kernel_rfl) ?_ _
  go_wp2_with fail
  exact res2cc rfl rfl rfl rfl qr Try.underlying24 rfl (by rfl) qc Try.underlying32 rfl (by rfl) ⟨_, _, _, rfl, m2.base_le (by first | exact Nat.le_refl _ | (simp; omega)), b0.out⟩
theorem rData (s : Str) (ok : StrOk s) (x : Int) (en : Bool) (x0 : -9223372036854775808 ≤ x ∧ x ≤ 9223372036854775807) (A : Option Addr) (n c : Nat) (w : World) (h : Byt w A n c s.out) (hn : n ≤ 100000) :
    Calls Try.prog 12 #[.agg #[.int .i64 (s).id, .int .u8 (s).st, .int .i64 (s).sd, .int .i64 (s).rc, .int .i64 (s).ow, .bool (s).an, .bool (s).en, .slice A n c, .int .u8 (s).ur, .bool (s).inc, .int .i64 (s).sl], .int .i64 x, .bool en] w (DtP (dataS s x en) (dataC s x en) w) := by
  unfold dataS dataC
  by_cases r : RightS s
  · rw [if_pos r, if_pos r]
    have k := comes_st0 (kd := 0) (en := en) ok.st.1
    obtain ⟨⟨cs, ct, cw, cc⟩, hc0⟩ : ∃ c, comesF s.st 0 en = c := ⟨_, rfl⟩
    rw [hc0] at k ⊢
    have k0 : 0 ≤ cs := k
    cases ct
    · simp only [Bool.false_eq_true, false_and, if_false]
      by_cases hcc : cc = 0
      · subst hcc
        cases cw
        · rw [if_neg (fun q => q.2 rfl)]
          exact rDataw2b s ok x en x0 cs k0 hc0 A n c w h hn (rightS_yes r)
        · exact (comes_whole0 hc0).elim
      · have hcb : (cc != 0) = true := by rw [bne_iff_ne]; exact hcc
        cases cw
        · rw [if_pos ⟨rfl, hcc⟩]
          exact rDataw1 s ok x en x0 cs cc k0 hc0 A n c w h hn (rightS_yes r) hcb
        · rw [if_neg (fun q => by cases q.1)]
          exact rDataw2 s ok x en x0 cs cc k0 hc0 A n c w h hn (rightS_yes r) hcb
    · simp only [true_and, if_true]
      by_cases hx : 0 ≤ x ∧ x ≤ s.rc
      · rw [if_pos hx, if_neg (show ¬¬(0 ≤ x ∧ x ≤ s.rc) from fun q => q hx)]
        by_cases hm : s.ow + x ≤ 2147483647
        · rw [if_pos hm]
          exact rDataw4a s ok x en x0 cs cw cc k0 hc0 A n c w h hn (rightS_yes r) (decide_eq_false (by omega)) (decide_eq_false (by omega)) hm
        · rw [if_neg hm]
          exact rDataw4b s ok x en x0 cs cw cc k0 hc0 A n c w h hn (rightS_yes r) (decide_eq_false (by omega)) (decide_eq_false (by omega)) (by omega)
      rw [if_neg hx, if_pos hx]
      by_cases hx0 : x < 0
      · exact rDataw3 s ok x en x0 cs cw cc k0 hc0 A n c w h hn (rightS_yes r) (decide_eq_true hx0)
      · exact rDataw3b s ok x en x0 cs cw cc k0 hc0 A n c w h hn (rightS_yes r) (decide_eq_false hx0) (decide_eq_true (by omega))
  · rw [if_neg r, if_neg r]
    exact rDatano s ok x en x0 A n c w h hn (rightS_no r)
end Go.Proofs.Ytaaeflomjcpfpaa
