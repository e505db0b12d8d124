/- A chunk is read: the contract of Feed. -/
import Derived.Test.YthcnfalfhdeflaaCp
import Derived.Test.YthcnfalfhdeflaaCg
import Derived.Deep.Cut
import Derived.StillTailTactics
import Derived.Deep.QuietTactic
import Derived.Deep.RegionHeld3
namespace Go.Proofs.Ythcnfalfhdeflaa
open Go.RowKit Go.Shelf
attribute [local go_sem] Oper.semAt_some
set_option linter.unusedVariables false
set_option linter.unusedSimpArgs false

set_option maxRecDepth 100000 in
set_option maxHeartbeats 8000000 in
theorem feedRangeQ (p : Int) (p0 : -9223372036854775808 ≤ p ∧ p ≤ 9223372036854775807) (A : Option Addr) (n c : Nat) (l : List Int) (B : Option Addr) (m d : Nat) (ch : List Int) (w : World) (h : Byt w A n c l) (hc : Byt w B m d ch) (hn : n ≤ 50000) (hm : m ≤ 50000) (yes : RightC p l) (p1 : Int) (r1 : List Int) (hpk : preK p ch = (p1, r1, false)) (hre : r1 ≠ []) (ps : List Pc) (rest : List Int) (lg : Bool) (hct : cutC (l ++ r1) = (ps, rest, lg)) (fc0 : Int) (hfc : fc0 = if lg then 6 else 0) : Calls Try.prog 9 #[.agg #[.int .i64 p, .slice A n c], .slice B m d] w (FeedP p1 rest ps lg fc0 0 w) := by
  have OW := Lib.hid fun W (h : Byt W A n c l) => fROwn p A n c l W h (by omega)
  have RG := Lib.hid fun W (h : Byt W A n c l) => fRRight p A n c l W h (by omega)
  rw [show rightC p l = true from decide_eq_true yes] at RG
  have hp := yes.1
  have b0 : Bel w ((((w.alloc (.cells #[.int .i64 p, .slice A n c] 24)).alloc (.cells #[.int .i64 0, .slice none 0 0] 24)).alloc (.cells #[.slice none 0 0] 28)).alloc (.cells #[.bool false, .int .i64 0, .int .u32 0] 31)) := (((((Bel.refl w).alloc _).alloc _).alloc _).alloc _)
  have q2 : Blk ((((w.alloc (.cells #[.int .i64 p, .slice A n c] 24)).alloc (.cells #[.int .i64 0, .slice none 0 0] 24)).alloc (.cells #[.slice none 0 0] 28)).alloc (.cells #[.bool false, .int .i64 0, .int .u32 0] 31)) w.heap.size 24 #[.int .i64 p, .slice A n c] := ((Blk.new w 24 #[.int .i64 p, .slice A n c]).alloc _).alloc _ |>.alloc _
  have q4 : Blk ((((w.alloc (.cells #[.int .i64 p, .slice A n c] 24)).alloc (.cells #[.int .i64 0, .slice none 0 0] 24)).alloc (.cells #[.slice none 0 0] 28)).alloc (.cells #[.bool false, .int .i64 0, .int .u32 0] 31)) (w.heap.size + 1) 24 #[.int .i64 0, .slice none 0 0] := ((Blk.newAt (b := w.heap.size + 1) (w.alloc (.cells #[.int .i64 p, .slice A n c] 24)) 24 #[.int .i64 0, .slice none 0 0] (by simp)).alloc _).alloc _
  have q5 : Blk ((((w.alloc (.cells #[.int .i64 p, .slice A n c] 24)).alloc (.cells #[.int .i64 0, .slice none 0 0] 24)).alloc (.cells #[.slice none 0 0] 28)).alloc (.cells #[.bool false, .int .i64 0, .int .u32 0] 31)) (w.heap.size + 1 + 1) 28 #[.slice none 0 0] := (Blk.newAt (b := w.heap.size + 1 + 1) ((w.alloc (.cells #[.int .i64 p, .slice A n c] 24)).alloc (.cells #[.int .i64 0, .slice none 0 0] 24)) 28 #[.slice none 0 0] (by simp)).alloc _
  have q6 : Blk ((((w.alloc (.cells #[.int .i64 p, .slice A n c] 24)).alloc (.cells #[.int .i64 0, .slice none 0 0] 24)).alloc (.cells #[.slice none 0 0] 28)).alloc (.cells #[.bool false, .int .i64 0, .int .u32 0] 31)) (w.heap.size + 1 + 1 + 1) 31 #[.bool false, .int .i64 0, .int .u32 0] := Blk.newAt (b := w.heap.size + 1 + 1 + 1) (((w.alloc (.cells #[.int .i64 p, .slice A n c] 24)).alloc (.cells #[.int .i64 0, .slice none 0 0] 24)).alloc (.cells #[.slice none 0 0] 28)) 31 #[.bool false, .int .i64 0, .int .u32 0] (by simp)
  have HY := Lib.hid h
  have HC := Lib.hid hc
  have HPK := Lib.hid hpk
  clear h yes hpk
  have HCT := Lib.hid hct
  have HFC := Lib.hid hfc
  clear hc hct hfc
  refine (callsIn_wide (n := 4)).1 ?_
  refine callsIn_of_wp_marks Try.func9 rfl trivial ?_ rfl
  simp only [Try.ntmps9, List.size_toArray, List.length_cons, List.length_nil, Nat.reduceAdd, Nat.reduceSub, Array.replicate_succ, Array.replicate_zero, List.push_toArray, List.append_toArray, List.nil_append, List.cons_append]
  refine wpIn_wide.2 ?_
  go_wp2_with fail
  refine wp_scope_hop 1 ?_
  go_upto_region 2 with (first | ((with_reducible refine wpList_id ?_); refine wpList_getB rfl _ _ rfl rfl q2 Try.underlying24 rfl (by rfl) ?_) | (go_at_call 20; (with_reducible refine (OW.out _ (HY.out.below b0.out)).mono ?_); rintro e w1 ⟨A1, c1, rfl, m1, hb⟩; replace m1 := m1.base_le (show w.heap.size ≤ _ from b0.out.size); replace b0 := b0.below hb; (try replace q2 := q2.below hb); (try replace q4 := q4.below hb); (try replace q5 := q5.below hb); (try replace q6 := q6.below hb); clear hb) | ((with_reducible refine wpList_id ?_); refine wpList_putB rfl _ _ _ rfl rfl rfl q4 (by rfl) (by rfl) (by rfl) ?_; intro w9 qn hg; replace b0 := b0.grown hg (by omega); (try replace m1 := m1.grownB q4 (by decide) hg); (try replace q2 := q2.grown hg (by omega)); (try replace q5 := q5.grown hg (by omega)); (try replace q6 := q6.grown hg (by omega)); clear hg q4; have q4 := qn; clear qn))
  go_upto_region 3 with (first | ((with_reducible refine wpList_id ?_); refine wpList_getB rfl _ _ rfl rfl q2 Try.underlying24 rfl (by rfl) ?_) | (go_at_call 19; (with_reducible refine (RG.out _ (HY.out.below b0.out)).mono ?_); rintro e w9 ⟨rfl, hb⟩; replace b0 := b0.below hb; (try replace q2 := q2.below hb); (try replace q4 := q4.below hb); (try replace q5 := q5.below hb); (try replace q6 := q6.below hb); (try replace m1 := m1.below hb)))
  go_loopw [1] (fun v wr => ∃ (q : Int) (cl : List Int) (B1 : Option Addr) (k d1 : Nat) (fw : Bool) (fc : Int), v = .slice B1 k d1 ∧ preK q cl = preK p ch ∧ (0 ≤ q ∧ q ≤ 24) ∧ k ≤ m ∧ Byt w B1 k d1 cl ∧ Bel w wr ∧ Blk wr w.heap.size 24 #[.int .i64 p, .slice A n c] ∧ Blk wr (w.heap.size + 1) 24 #[.int .i64 q, .slice A1 n c1] ∧ Blk wr (w.heap.size + 1 + 1) 28 #[.slice none 0 0] ∧ Blk wr (w.heap.size + 1 + 1 + 1) 31 #[.bool fw, .int .i64 0, .int .u32 fc] ∧ Mine w.heap.size wr A1 n c1 l) (fun v _ => lenOf v)
  case atStart => exact ⟨p, ch, B, m, d, false, 0, rfl, rfl, hp, Nat.le_refl _, HC.out, b0, q2, q4, q5, q6, m1⟩
  case round =>
    clear b0 q2 q4 q5 q6 m1
    obtain ⟨q, cl, B1, k, d1, fw, fc, rfl, hpk, hq, hkm, hy, b0, q2, q4, q5, q6, m1⟩ := hrel
    have hkl := hy.len
    have hkc := hy.cap; have hkx := hy.mx
    have HY1 := Lib.hid hy
    have HQK := Lib.hid hpk
    clear hy hpk
    have q4_0 := q4.at 0 rfl
    by_cases hk0 : k = 0
    · as_aux_lemma =>
        skip
        have hdn := preK_done (p := q) (l := cl) (.inl (List.eq_nil_of_length_eq_zero (by omega)))
        have cb0 : decide (0 < k) = false := decide_eq_false (by omega)
        rw [HQK.out, HPK.out] at hdn
        simp only [Prod.mk.injEq, and_true] at hdn
        obtain ⟨ea, eb⟩ := hdn
        subst ea eb
        exact absurd (List.eq_nil_of_length_eq_zero (by omega)) hre
    by_cases hq24 : q = 24
    · as_aux_lemma =>
        skip
        have hdn := preK_done (p := q) (l := cl) (.inr hq24)
        have cb0 : decide (0 < k) = true := decide_eq_true (by omega)
        have cb1 : (q == 24) = true := beq_iff_eq.2 hq24
        rw [HQK.out, HPK.out] at hdn
        simp only [Prod.mk.injEq, and_true] at hdn
        obtain ⟨ea, eb⟩ := hdn
        subst ea eb
        (try clear hq24)
        have q4_1 := q4.at 1 rfl
        go_upto_region 8 with (first | ((with_reducible refine wpList_id ?_); refine wpList_getG (by rfl) _ _ rfl rfl q4 Try.underlying24 rfl (by rfl) ?_) | (go_at_call 18; (with_reducible refine (fBegun _ _ _ _ _).mono ?_); rintro e w9 ⟨rfl, hb⟩; replace b0 := b0.below hb; (try replace q2 := q2.below hb); (try replace q4 := q4.below hb); (try replace q5 := q5.below hb); (try replace q6 := q6.below hb); (try replace m1 := m1.below hb); (try clear q4_0); (try have q4_0 := q4.at 0 rfl); (try clear q4_1); (try have q4_1 := q4.at 1 rfl)))
        have hll := m1.len; have hrl := HY1.out.len
        go_upto_region 9 with (first | (at_builtin; go_must (refine wpList_app _ rfl (.tmp 41) (.tmp 42) rfl w.heap.size A1 n c1 l rfl m1 B1 k d1 r1 rfl (HY1.out.below b0.out) (by omega) b0.out.size ?_); intro A2 c2 w2 m2 hb hg hat; replace q2 := q2.app (by decide) m1 hg; replace q4 := q4.app (by decide) m1 hg; replace q5 := q5.app (by decide) m1 hg; replace q6 := q6.app (by decide) m1 hg; replace b0 : Bel w w2 := b0.stepB hb (Nat.le_refl _); clear hb hg hat m1) | ((with_reducible refine wpList_id ?_); refine wpList_putB rfl _ _ _ rfl rfl rfl q6 (by rfl) (by rfl) (by rfl) ?_; intro w9 qn hg; replace b0 := b0.grown hg (by omega); (try replace m2 := m2.grownB q6 (by decide) hg); (try replace q2 := q2.grown hg (by omega)); (try replace q4 := q4.grown hg (by omega)); (try replace q5 := q5.grown hg (by omega)); clear hg q6; have q6 := qn; clear qn; (try clear q4_1); (try have q4_1 := q4.at 1 rfl)) | ((with_reducible refine wpList_id ?_); refine wpList_putF rfl _ _ _ rfl rfl rfl q4 rfl (by rfl) (by rfl) ?_; intro w9 qn hg; (try simp only [List.setIfInBounds_toArray, List.set_cons_succ, List.set_cons_zero] at qn); replace b0 := b0.grown hg (by omega); (try replace m2 := m2.grownB q4 (by decide) hg); (try replace q2 := q2.grown hg (by omega)); (try replace q5 := q5.grown hg (by omega)); (try replace q6 := q6.grown hg (by omega)); clear hg q4; have q4 := qn; clear qn; (try clear q4_1); (try have q4_1 := q4.at 1 rfl)))
        (try clear q4_1)
        have q4_1 := q4.at 1 rfl
        go_wp2_with fail
        refine (callsIn_wide.1 (whole_in 1 A2 (n + k) c2 _)).mono ?_
        rintro e ww ⟨rfl, eww⟩
        obtain ⟨bb, OB, TB, hbo, hTB, hfar, hbn⟩ := m2.buf q2 (by decide)
        have n4 := hbn _ _ _ q4 (by decide) (by omega)
        have n5 := hbn _ _ _ q5 (by decide) (by omega)
        have n6 := hbn _ _ _ q6 (by decide) (by omega)
        have hBa := q6.lt
        have nBa := Nat.ne_of_lt hbo.lt
        have bN : Blk ww w9.heap.size 22 #[.slice A2 (n + k) c2] := (by rw [eww]; exact Blk.new _ _ _)
        replace q4 : Blk ww (w.heap.size + 1) 24 #[.int .i64 p1, .slice A2 (n + k) c2] := (by rw [eww]; exact q4.alloc _)
        replace q5 : Blk ww (w.heap.size + 1 + 1) 28 #[.slice none 0 0] := (by rw [eww]; exact q5.alloc _)
        replace q6 : Blk ww (w.heap.size + 1 + 1 + 1) 31 #[.bool false, .int .i64 0, .int .u32 0] := (by rw [eww]; exact q6.alloc _)
        replace m2 : Mine w.heap.size ww A2 (n + k) c2 (l ++ r1) := (by rw [eww]; exact m2.alloc _)
        replace b0 : Bel w ww := (by rw [eww]; exact b0.alloc _)
        replace hbo : Blk ww bb TB OB := (by rw [eww]; exact hbo.alloc _)
        clear eww hbn q2
        go_wp2_with fail
        generalize w9.heap.size = Ba at *
        have hI0 : FI w bb OB TB p1 (l ++ r1) Ba [] ww := ⟨⟨none, 0, [], q5, MineC.nil _ _, rfl⟩, (by simp), ⟨A2, n + k, c2, q4, m2.byt, hfar⟩, q6, ⟨_, bN⟩, b0.out, hbo⟩
        have hsz := b0.out.size
        have hblt := hbo.lt
        have hNlt := bN.lt
        have HM2 := Lib.hid m2
        have HFAR := Lib.hid hfar
        have HBO := Lib.hid hbo
        clear q4 q5 q6 q4_1 hfar
        refine (wpIn_wide (n := 4)).1 ?_
        refine wpIn_range_E rfl (by decide) (Pv := fun b => b = Ba) (gf := 30) (lb := #[.pointer (some ⟨Ba, 0, none⟩)]) rfl trivial (enters_of Try.func30 (by kernel_rfl) rfl)
          (fun b hb => by subst hb; exact hNlt) (whole_stops 3 (by decide) Ba A2 (n + k) c2 (l ++ r1) (by omega) bb w.heap.size nBa ww hNlt hsz HFAR.out bN HM2.out.byt) (fun h k => h.trans k)
          (fun W lx o o' hl ho hc hw => ⟨KB.put (w := ww) hNlt W lx o o' hl ho hc hw, by simp [World.putObj], World.putObj_heap_other (by omega)⟩) (fun _ => rfl)
          (FI w bb OB TB p1 (l ++ r1) Ba) (fun c pre W => c = .goto 0 ∧ FX w p1 pre W) (FI.own _ hsz) (fun pre X Y h hb => h.below hb) (fun c pre X Y row h hg hr => ⟨h.1, FX.own _ hsz pre X Y row h.2 hg hr⟩)
          (fun b hb pre W v h => by subst hb; exact h.priv hBa nBa v) hI0
          (fun a x a₁ W => ∃ g, a₁ = ((({ tmps := (a.tmps.setIfInBounds 48 (.agg #[.int .i64 x.p.L, .int .u8 x.p.k, .int .u8 x.p.f, .int .i64 x.p.s, .slice x.A x.p.d.length x.c])).setIfInBounds 49 (.slice x.B x.r.length x.d), defers := [] } : Act).put (some 8) (.pointer (some ⟨g, 0, none⟩))).put (some 9) (.slice x.B x.r.length x.d)) ∧ Blk W g 43 #[.int .i64 x.p.L, .int .u8 x.p.k, .int .u8 x.p.f, .int .i64 x.p.s, .slice x.A x.p.d.length x.c] ∧ ItE w.heap.size bb x W ∧ w.heap.size + 1 + 1 + 1 < g)
          (fun x a₁ W lx o o' h ho hc => by
            obtain ⟨g, e, hq, hE, hlt⟩ := h
            have hg := grownBy_putObj' W lx o'
            have hr : ∀ r, some lx = some r → ∃ o : Obj, W.heap[r]? = some o ∧ o.isCells = false := fun r e => by cases e; exact ⟨o, ho, hc⟩
            exact ⟨g, e, hq.keptN hg hr, hE.keptN hg hr, hlt⟩)
          ?assign ?body ?done ?stop
        case assign =>
          as_aux_lemma =>
            rintro x lx pre W K hI hE hK
            simp only [itV]
            gi_wp2
            refine hK _ _ ((KeepsOthers.alloc W _).from _) ⟨fun v hv => hv.alloc _, by simp, Below.heap_alloc W _ bb hI.bo.lt⟩ (hI.below ((Below.refl _ W).alloc (Nat.le_refl _) _)) ⟨W.heap.size, ?_, Blk.new W _ _, hE.below ((Below.refl _ W).alloc (Nat.le_refl _) _), hI.fl.lt⟩
            (try simp only [Act.put, List.getElem_toArray, List.getElem_cons_succ, List.getElem_cons_zero, List.setIfInBounds_toArray, List.set_cons_zero, List.set_cons_succ])
        case body =>
          as_aux_lemma =>
            rintro x lx pre W a₁ hI ⟨g, rfl, q8, hE, hg8⟩ hlen
            (try simp only [Act.put, List.getElem_toArray, List.getElem_cons_succ, List.getElem_cons_zero, List.setIfInBounds_toArray, List.set_cons_zero, List.set_cons_succ])
            obtain ⟨⟨B1, d1, es, q5, mc, hes⟩, hle, ⟨Ax, nx, cx, q4, hyx, hfx⟩, q6, ⟨vb, bx⟩, bel, bo⟩ := hI
            obtain ⟨ok, mp, hyr, hbr, hlg⟩ := hE
            have b0 : Bel w W := ⟨bel⟩
            have HES := Lib.hid hes
            have HLE := Lib.hid hle
            have HLG := Lib.hid hlg
            have HTB := Lib.hid hTB
            have KKx := KK.refl Ba bb W
            have hlen2 : pre.length + 1 ≤ 1000000 := by omega
            skip
            clear hes hle hlg hyx hfx bel
            (try clear z4 z5 z8)
            have z4 := q4.at 1 rfl
            have z5 := q5.at 0 rfl
            have z8 := q8.at 0 rfl
            (try clear f4 f5)
            have f4 := q4.frozen 1
            have f5 := q5.frozen 0
            by_cases hL : 16384 < x.p.L
            · as_aux_lemma =>
                have g1 : decide (16384 < x.p.L) = true := decide_eq_true hL
                gi_wp2_with (first
                  | (refine wpListIn_putF rfl _ _ _ rfl rfl rfl q4 rfl (by rfl) (by rfl) ?_; intro w9 qn hg; (try simp only [List.setIfInBounds_toArray, List.set_cons_succ, List.set_cons_zero] at qn); replace b0 := b0.grown hg (by omega); have kk2 := KKx.grown q4 hg bx.lt bo.lt (by omega) (by omega); clear KKx; have KKx := kk2; clear kk2; have bo2 := bo.grown hg (by omega); replace hyr := hyr.sameB hg.size (bo2.trans bo.symm) hbr; clear bo; have bo := bo2; clear bo2; replace bx := bx.grown hg (by omega); replace mc := mc.grownB q4 (by decide) (by decide) hg; replace mp := mp.grownB q4 (by decide) hg; replace q5 := q5.grown hg (by omega); replace q6 := q6.grown hg (by omega); replace q8 := q8.grown hg (by omega); clear hg q4; have q4 := qn; clear qn; (try clear z4 z5 z8); have z4 := q4.at 1 rfl; have z5 := q5.at 0 rfl; have z8 := q8.at 0 rfl; (try clear f4 f5); have f4 := q4.frozen 1; have f5 := q5.frozen 0)
                  | (gi_at_call 21; refine (CallsIn.inRound lx (callsIn_wide.2 (fBroken 6 _))).mono ?_; rintro e w9 ⟨rfl, hb⟩; replace KKx := KKx.below hb bx.lt bo.lt; replace b0 := b0.below hb; replace bx := bx.below hb; replace bo := bo.below hb; replace hyr := hyr.below hb; replace mc := mc.below hb; replace mp := mp.below hb; replace q4 := q4.below hb; replace q5 := q5.below hb; replace q6 := q6.below hb; replace q8 := q8.below hb; (try clear z4 z5 z8); have z4 := q4.at 1 rfl; have z5 := q5.at 0 rfl; have z8 := q8.at 0 rfl; (try clear f4 f5); have f4 := q4.frozen 1; have f5 := q5.frozen 0; clear hb)
                  | (refine ⟨trivial, ?_⟩; gi_at_call 21; refine (CallsIn.inRound lx (callsIn_wide.2 (fBroken 6 _))).mono ?_; rintro e w9 ⟨rfl, hb⟩; replace KKx := KKx.below hb bx.lt bo.lt; replace b0 := b0.below hb; replace bx := bx.below hb; replace bo := bo.below hb; replace hyr := hyr.below hb; replace mc := mc.below hb; replace mp := mp.below hb; replace q4 := q4.below hb; replace q5 := q5.below hb; replace q6 := q6.below hb; replace q8 := q8.below hb; (try clear z4 z5 z8); have z4 := q4.at 1 rfl; have z5 := q5.at 0 rfl; have z8 := q8.at 0 rfl; (try clear f4 f5); have f4 := q4.frozen 1; have f5 := q5.frozen 0; clear hb)
                  | (refine wpListIn_putB rfl _ _ _ rfl rfl rfl q6 (by rfl) (by rfl) (by rfl) ?_; intro w9 qn hg; replace b0 := b0.grown hg (by omega); have kk2 := KKx.grown q6 hg bx.lt bo.lt (by omega) (by omega); clear KKx; have KKx := kk2; clear kk2; have bo2 := bo.grown hg (by omega); replace hyr := hyr.sameB hg.size (bo2.trans bo.symm) hbr; clear bo; have bo := bo2; clear bo2; replace bx := bx.grown hg (by omega); replace mc := mc.grownB q6 (by decide) (by decide) hg; replace mp := mp.grownB q6 (by decide) hg; replace q4 := q4.grown hg (by omega); replace q5 := q5.grown hg (by omega); replace q8 := q8.grown hg (by omega); clear hg q6; have q6 := qn; clear qn; (try clear z4 z5 z8); have z4 := q4.at 1 rfl; have z5 := q5.at 0 rfl; have z8 := q8.at 0 rfl; (try clear f4 f5); have f4 := q4.frozen 1; have f5 := q5.frozen 0))
                refine wpIn_goto ?_
                refine ⟨KKx.ko.from _, rfl, ⟨pre, x, rfl, HLE.out, hL, B1, d1, es, q5, mc, HES.out⟩, ?_, q6, b0.out⟩
                obtain ⟨e1, e2, e3⟩ := HLG.out hL
                rw [e1, e2, e3] at q4
                exact q4
            · as_aux_lemma =>
                have g1 : decide (16384 < x.p.L) = false := decide_eq_false hL
                gi_wp2_with (first
                  | (refine wpListIn_putF rfl _ _ _ rfl rfl rfl q4 rfl (by rfl) (by rfl) ?_; intro w9 qn hg; (try simp only [List.setIfInBounds_toArray, List.set_cons_succ, List.set_cons_zero] at qn); replace b0 := b0.grown hg (by omega); have kk2 := KKx.grown q4 hg bx.lt bo.lt (by omega) (by omega); clear KKx; have KKx := kk2; clear kk2; have bo2 := bo.grown hg (by omega); replace hyr := hyr.sameB hg.size (bo2.trans bo.symm) hbr; clear bo; have bo := bo2; clear bo2; replace bx := bx.grown hg (by omega); replace mc := mc.grownB q4 (by decide) (by decide) hg; replace mp := mp.grownB q4 (by decide) hg; replace q5 := q5.grown hg (by omega); replace q6 := q6.grown hg (by omega); replace q8 := q8.grown hg (by omega); clear hg q4; have q4 := qn; clear qn; (try clear z4 z5 z8); have z4 := q4.at 1 rfl; have z5 := q5.at 0 rfl; have z8 := q8.at 0 rfl; (try clear f4 f5); have f4 := q4.frozen 1; have f5 := q5.frozen 0)
                  | (gi_at_call 21; refine (CallsIn.inRound lx (callsIn_wide.2 (fBroken 6 _))).mono ?_; rintro e w9 ⟨rfl, hb⟩; replace KKx := KKx.below hb bx.lt bo.lt; replace b0 := b0.below hb; replace bx := bx.below hb; replace bo := bo.below hb; replace hyr := hyr.below hb; replace mc := mc.below hb; replace mp := mp.below hb; replace q4 := q4.below hb; replace q5 := q5.below hb; replace q6 := q6.below hb; replace q8 := q8.below hb; (try clear z4 z5 z8); have z4 := q4.at 1 rfl; have z5 := q5.at 0 rfl; have z8 := q8.at 0 rfl; (try clear f4 f5); have f4 := q4.frozen 1; have f5 := q5.frozen 0; clear hb)
                  | (refine ⟨trivial, ?_⟩; gi_at_call 21; refine (CallsIn.inRound lx (callsIn_wide.2 (fBroken 6 _))).mono ?_; rintro e w9 ⟨rfl, hb⟩; replace KKx := KKx.below hb bx.lt bo.lt; replace b0 := b0.below hb; replace bx := bx.below hb; replace bo := bo.below hb; replace hyr := hyr.below hb; replace mc := mc.below hb; replace mp := mp.below hb; replace q4 := q4.below hb; replace q5 := q5.below hb; replace q6 := q6.below hb; replace q8 := q8.below hb; (try clear z4 z5 z8); have z4 := q4.at 1 rfl; have z5 := q5.at 0 rfl; have z8 := q8.at 0 rfl; (try clear f4 f5); have f4 := q4.frozen 1; have f5 := q5.frozen 0; clear hb)
                  | (refine wpListIn_getB rfl _ _ rfl rfl q8 Try.underlying43 rfl (by rfl) ?_)
                  | (gi_at_builtin; go_must (refine wpListIn_appC _ rfl (.tmp 58) (.tmp 60) rfl w.heap.size B1 pre.length d1 es rfl mc (itE x) rfl rfl ok mp hlen2 b0.out.size ?_); intro B2 d2 w9 mc2 hb2 hg; have KK0 := KKx.below ((Below.refl _ _).alloc (Nat.le_refl _) (.cells (peV (itE x)).toArray 43)) bx.lt bo.lt; have mca := mc.alloc (.cells (peV (itE x)).toArray 43); have bx2 := (bx.alloc (.cells (peV (itE x)).toArray 43)).appC (by decide) mca hg; have bo1 := bo.alloc (.cells (peV (itE x)).toArray 43); have bo2 := bo1.appC HTB.out mca hg; have kk2 := KK0.step hg (fun g e => mca.rowObj g e) (bx2.trans (bx.alloc _).symm) (bo2.trans bo1.symm); clear KKx KK0; have KKx := kk2; clear kk2; have hyr2 := (hyr.alloc (.cells (peV (itE x)).toArray 43)).sameB hg.size (bo2.trans bo1.symm) hbr; clear hyr; have hyr := hyr2; clear hyr2; replace b0 : Bel w w9 := b0.stepB hb2 (Nat.le_refl _); replace q4 := (q4.alloc (.cells (peV (itE x)).toArray 43)).appC (by decide) mca hg; replace q5 := (q5.alloc (.cells (peV (itE x)).toArray 43)).appC (by decide) mca hg; replace q6 := (q6.alloc (.cells (peV (itE x)).toArray 43)).appC (by decide) mca hg; clear q8 z8 mc bx bo bo1 mca mp; have mc := mc2; have bx := bx2; have bo := bo2; clear mc2 bx2 bo2 hb2 hg; clear z4 z5 f4 f5; have hpu : True := trivial; go_must (refine wpListIn_putB rfl _ _ _ rfl rfl rfl q6 (by rfl) (by rfl) (by rfl) ?_; intro w9 qn hg; replace b0 := b0.grown hg (by omega); have kk2 := KKx.grown q6 hg bx.lt bo.lt (by omega) (by omega); clear KKx; have KKx := kk2; clear kk2; have bo2 := bo.grown hg (by omega); replace hyr := hyr.sameB hg.size (bo2.trans bo.symm) hbr; clear bo; have bo := bo2; clear bo2; replace bx := bx.grown hg (by omega); replace mc := mc.grownB q6 (by decide) (by decide) hg; (try replace mp := mp.grownB q6 (by decide) hg); replace q4 := q4.grown hg (by omega); replace q5 := q5.grown hg (by omega); (try replace q8 := q8.grown hg (by omega)); clear hg q6; have q6 := qn; clear qn); go_must (refine wpListIn_putF (v := .slice B2 (pre.length + 1) d2) rfl _ _ _ rfl rfl rfl q5 rfl (by rfl) (by rfl) ?_; intro w9 qn hg; (try simp only [List.setIfInBounds_toArray, List.set_cons_succ, List.set_cons_zero] at qn); replace b0 := b0.grown hg (by omega); have kk2 := KKx.grown q5 hg bx.lt bo.lt (by omega) (by omega); clear KKx; have KKx := kk2; clear kk2; have bo2 := bo.grown hg (by omega); replace hyr := hyr.sameB hg.size (bo2.trans bo.symm) hbr; clear bo; have bo := bo2; clear bo2; replace bx := bx.grown hg (by omega); replace mc := mc.grownB q5 (by decide) (by decide) hg; (try replace mp := mp.grownB q5 (by decide) hg); replace q4 := q4.grown hg (by omega); replace q6 := q6.grown hg (by omega); (try replace q8 := q8.grown hg (by omega)); clear hg q5; have q5 := qn; clear qn))
                  | (refine wpListIn_putB rfl _ _ _ rfl rfl rfl q6 (by rfl) (by rfl) (by rfl) ?_; intro w9 qn hg; replace b0 := b0.grown hg (by omega); have kk2 := KKx.grown q6 hg bx.lt bo.lt (by omega) (by omega); clear KKx; have KKx := kk2; clear kk2; have bo2 := bo.grown hg (by omega); replace hyr := hyr.sameB hg.size (bo2.trans bo.symm) hbr; clear bo; have bo := bo2; clear bo2; replace bx := bx.grown hg (by omega); replace mc := mc.grownB q6 (by decide) (by decide) hg; replace mp := mp.grownB q6 (by decide) hg; replace q4 := q4.grown hg (by omega); replace q5 := q5.grown hg (by omega); replace q8 := q8.grown hg (by omega); clear hg q6; have q6 := qn; clear qn; (try clear z4 z5 z8); have z4 := q4.at 1 rfl; have z5 := q5.at 0 rfl; have z8 := q8.at 0 rfl; (try clear f4 f5); have f4 := q4.frozen 1; have f5 := q5.frozen 0))
                refine ⟨KKx.ko.from _, ⟨fun v hv => KKx.ba.trans hv, KKx.sz, KKx.bb⟩, ⟨B2, d2, es ++ [itE x], by rw [List.length_append]; exact q5, by rw [List.length_append]; exact mc, by rw [List.map_append, List.map_append, HES.out]; rfl⟩, fun y hy => ?_, ⟨x.B, x.r.length, x.d, q4, by rw [List.map_append, List.map_cons, List.map_nil, lastR_snoc]; exact hyr, hbr⟩, q6, ⟨_, bx⟩, b0.out, bo⟩
                rcases List.mem_append.1 hy with hy | hy
                · exact HLE.out y hy
                · simp at hy
                  subst hy
                  omega
        case done =>
          as_aux_lemma =>
            rintro D ys W hD hys hI hK
            (try simp only [Act.put, List.getElem_toArray, List.getElem_cons_succ, List.getElem_cons_zero, List.setIfInBounds_toArray, List.set_cons_zero, List.set_cons_succ])
            obtain ⟨⟨B2, d2, es2, q5, mc, hes2⟩, hle2, ⟨A3, n3, c3, q4, hy3, hf3⟩, q6, ⟨vb, bx⟩, bel, bo⟩ := hI
            have hca := cut_all (l ++ r1).length (l ++ r1) (Nat.le_refl _) (fun x hx => by rw [← hys] at hx; obtain ⟨y, hy, rfl⟩ := List.mem_map.1 hx; exact hle2 y hy)
            have hct2 := HCT.out
            unfold cutC at hct2
            rw [hca] at hct2
            simp only [Prod.mk.injEq] at hct2
            obtain ⟨e1, e2, e3⟩ := hct2
            have hlr := lastR_le (l ++ r1).length (l ++ r1)
            rw [← hys, hy3.len, List.length_append, hll, hrl] at hlr
            have b0 : Bel w W := ⟨bel⟩
            have HDK : DefAt W D := hK
            clear hK
            rw [hys, e2] at hy3
            have E1 := Lib.hid e1
            have E3 := Lib.hid e3
            have HES2 := Lib.hid hes2
            have HYS := Lib.hid hys
            clear e1 e2 e3 hca hes2 hys hle2 hf3
            have CLO := Lib.hid fun W (h : Byt W A3 n3 c3 rest) => fClone A3 n3 c3 rest W h (by omega)
            have q4_1 : W.cell? ⟨w.heap.size + 1, 1, none⟩ = some (.slice A3 n3 c3) := q4.at 1 rfl
            clear bx bo
            go_upto_region 17 with (first | (go_at_call 23; (with_reducible refine (CLO.out _ hy3).mono ?_); rintro e w9 ⟨A4, c4, rfl, m3, hb⟩; replace m3 := m3.base_le (show w.heap.size ≤ _ from (b0.out.size)); replace mc := mc.below hb; replace HDK := HDK.below hb; replace b0 := b0.below hb; (try replace q4 := q4.below hb); (try replace q5 := q5.below hb); (try replace q6 := q6.below hb); skip; (try clear q4_1); (try have q4_1 := q4.at 1 rfl); clear hb) | ((with_reducible refine wpList_id ?_); refine wpList_putF rfl _ _ _ rfl rfl rfl q4 rfl (by rfl) (by rfl) ?_; intro w9 qn hg; (try simp only [List.setIfInBounds_toArray, List.set_cons_succ, List.set_cons_zero] at qn); replace b0 := b0.grown hg (by omega); (try replace m3 := m3.grownB q4 (by decide) hg); (try replace q5 := q5.grown hg (by omega)); (try replace q6 := q6.grown hg (by omega)); replace HDK := HDK.grownB q4 hg; replace mc := mc.grownB q4 (by decide) (by decide) hg; clear hg q4; have q4 := qn; clear qn; (try clear q4_1); (try have q4_1 := q4.at 1 rfl)) | ((with_reducible refine wp_goto_then rfl ?_)) | ((with_reducible refine wp_goto ?_); refine hop_goto rfl ?_) | ((with_reducible refine wp_label ?_)) | ((with_reducible refine hop_ret ?_)))
            (try clear q4_1)
            refine wp_region_noPanic ?_
            replace b0 := b0.drew; replace q4 := q4.drew; replace q5 := q5.drew; replace q6 := q6.drew; (try replace m3 := m3.drew); replace mc := mc.drew; replace HDK := HDK.drew
            refine wp_region_G (fun w' => Blk w' (w.heap.size + 1) 24 #[.int .i64 p1, .slice A4 n3 c4] ∧ Blk w' (w.heap.size + 1 + 1) 28 #[.slice B2 ys.length d2] ∧ Blk w' (w.heap.size + 1 + 1 + 1) 31 #[.bool false, .int .i64 0, .int .u32 0]) [] (by kernel_rfl) ?_
            have S0 := (And.intro q4 (And.intro q5 q6))
            refine wpAnyG_take 0 (v := .agg #[.int .i64 p1, .slice A4 n3 c4]) rfl (by kernel_rfl) (fun _ _ _ h => h) S0 (Or.inl ⟨by rfl, by intro w' hSw; exact exec_getB (by rfl) (by rfl) hSw.1 Try.underlying24 (by rfl) (by rfl)⟩) ?_; (try simp only [Act.put, List.getElem_toArray, List.getElem_cons_succ, List.getElem_cons_zero, List.setIfInBounds_toArray, List.set_cons_zero, List.set_cons_succ])
            refine wpAnyG_take 1 (v := .slice B2 ys.length d2) rfl (by kernel_rfl) (fun _ _ _ h => h) S0 (Or.inl ⟨by rfl, by intro w' hSw; have z0 := hSw.2.1.at 0 rfl; go_simp; try with_reducible rfl⟩) ?_; (try simp only [Act.put, List.getElem_toArray, List.getElem_cons_succ, List.getElem_cons_zero, List.setIfInBounds_toArray, List.set_cons_zero, List.set_cons_succ])
            refine wpAnyG_take 2 (v := .agg #[.bool false, .int .i64 0, .int .u32 0]) rfl (by kernel_rfl) (fun _ _ _ h => h) S0 (Or.inl ⟨by rfl, by intro w' hSw; exact exec_getB (by rfl) (by rfl) hSw.2.2 Try.underlying31 (by rfl) (by rfl)⟩) ?_; (try simp only [Act.put, List.getElem_toArray, List.getElem_cons_succ, List.getElem_cons_zero, List.setIfInBounds_toArray, List.set_cons_zero, List.set_cons_succ])
            clear S0
            refine wpAnyG_one 3 (by kernel_rfl) rfl (fun K hK => ?_)
            rw [if_pos (by rfl)]
            refine wp_putB _ _ _ rfl rfl rfl q4 (by rfl) (by rfl) (by rfl) ?_
            intro w9 qn hg
            replace HDK := HDK.grownB q4 hg
            replace mc := mc.grownB q4 (by decide) (by decide) hg
            replace b0 := b0.grown hg (by omega)
            (try replace m3 := m3.grownB q4 (by decide) hg)
            (try replace q5 := q5.grown hg (by omega))
            (try replace q6 := q6.grown hg (by omega))
            clear hg q4
            have q4 := qn
            clear qn
            (try go_simp)
            refine hK.out _ _ (fun _ => (And.intro q4 (And.intro q5 q6))) ?_
            clear hK K
            (try simp only [Act.put, List.getElem_toArray, List.getElem_cons_succ, List.getElem_cons_zero, List.setIfInBounds_toArray, List.set_cons_zero, List.set_cons_succ])
            refine wpAnyG_one 4 (by kernel_rfl) rfl (fun K hK => ?_)
            rw [if_pos (by rfl)]
            have ya := q5.putAgain; have yc := q5.at 0 rfl; have yf := q5.frozen 0
            go_simp
            clear ya yc yf
            (try go_simp)
            refine hK.out _ _ (fun _ => (And.intro q4 (And.intro q5 q6))) ?_
            clear hK K
            (try simp only [Act.put, List.getElem_toArray, List.getElem_cons_succ, List.getElem_cons_zero, List.setIfInBounds_toArray, List.set_cons_zero, List.set_cons_succ])
            refine wpAnyG_one 5 (by kernel_rfl) rfl (fun K hK => ?_)
            rw [if_pos (by rfl)]
            refine wp_putB _ _ _ rfl rfl rfl q6 (by rfl) (by rfl) (by rfl) ?_
            intro w9 qn hg
            replace HDK := HDK.grownB q6 hg
            replace mc := mc.grownB q6 (by decide) (by decide) hg
            replace b0 := b0.grown hg (by omega)
            (try replace m3 := m3.grownB q6 (by decide) hg)
            (try replace q4 := q4.grown hg (by omega))
            (try replace q5 := q5.grown hg (by omega))
            clear hg q6
            have q6 := qn
            clear qn
            (try go_simp)
            refine hK.out _ _ (fun _ => (And.intro q4 (And.intro q5 q6))) ?_
            clear hK K
            (try simp only [Act.put, List.getElem_toArray, List.getElem_cons_succ, List.getElem_cons_zero, List.setIfInBounds_toArray, List.set_cons_zero, List.set_cons_succ])
            have S0 := (And.intro q4 (And.intro q5 q6))
            refine wpAnyG_take 6 (v := ?_) rfl (by kernel_rfl) (fun _ _ _ h => h) S0 (Or.inl ⟨by rfl, by intro w' hSw; go_simp; try with_reducible rfl⟩) ?_; (try simp only [Act.put, List.getElem_toArray, List.getElem_cons_succ, List.getElem_cons_zero, List.setIfInBounds_toArray, List.set_cons_zero, List.set_cons_succ])
            clear S0
            refine wpAnyG_done (by kernel_rfl) ?_ _
            refine NoPanic.normal ?_
            go_wp2_with (first | ((with_reducible refine wp_goto_then rfl ?_)) | ((with_reducible refine wp_goto ?_); refine hop_goto rfl ?_) | ((with_reducible refine wp_label ?_)) | ((with_reducible refine hop_ret ?_)))
            have hgp := grownBy_putObj' w9 D (.deferred none)
            have hrp : ∀ r, some D = some r → ∃ o : Obj, w9.heap[r]? = some o ∧ o.isCells = false := fun r e => by cases e; exact ⟨_, HDK, rfl⟩
            have hrun := run_takeDeferred (P := Try.prog) (show w9.heap[D]? = some (.deferred (some [])) from HDK)
            have b3 := b0.out.trans (belowK_b (w := w) (Nat.le_refl _) w9 D _ (.deferred none) (by omega) (show w9.heap[D]? = some (.deferred (some [])) from HDK) rfl rfl)
            replace q4 := q4.keptN hgp hrp; replace q5 := q5.keptN hgp hrp; replace q6 := q6.keptN hgp hrp; (try replace m3 := m3.keptN hgp hrp); replace mc := mc.keptN hgp hrp
            have el : lg = false := E3.out.symm
            have ef : fc0 = 0 := by rw [HFC.out, el]; rfl
            refine ⟨by simp, .inl ⟨D, _, rfl, hrun, ?_⟩⟩
            clear hrun
            generalize w9.putObj D (.deferred none) = w10 at *
            have x0 := q4.at 0 rfl; have x1 := q4.at 1 rfl; have x2 := q5.at 0 rfl; have x3 := q6.at 0 rfl; have x4 := q6.at 1 rfl; have x5 := q6.at 2 rfl
            refine ⟨.tuple #[.agg #[.int .i64 p1, .slice A4 n3 c4], .slice B2 ys.length d2, .agg #[.bool false, .int .i64 0, .int .u32 0], .int .i64 0], by simp [results, Try.f9, go_sem, x0, x1, x2, x3, x4, x5], A4, n3, c4, B2, ys.length, d2, es2, (by rw [el, ef]), m3, mc, ?_, b3⟩
            rw [HES2.out, ← E1.out, ← HYS.out, List.map_map]
            rfl
        case stop =>
          as_aux_lemma =>
            rintro D c pre W hD ⟨rr, hsp⟩ ⟨rfl, ⟨xs, x, epre, hle, hL, B2, d2, es2, q5, mc, hes2⟩, q4, q6, bel⟩ hK
            (try simp only [Act.put, List.getElem_toArray, List.getElem_cons_succ, List.getElem_cons_zero, List.setIfInBounds_toArray, List.set_cons_zero, List.set_cons_succ])
            have hcb := cut_break (l ++ r1).length (l ++ r1) (xs.map itP) (itP x) rr (Nat.le_refl _) (by rw [← hsp, epre]; simp) (fun y hy => by obtain ⟨z, hz, rfl⟩ := List.mem_map.1 hy; exact hle z hz) hL
            have hct2 := HCT.out
            unfold cutC at hct2
            rw [hcb] at hct2
            simp only [Prod.mk.injEq] at hct2
            obtain ⟨e1, e2, e3⟩ := hct2
            have b0 : Bel w W := ⟨bel⟩
            have HDK : DefAt W D := hK
            have E1 := Lib.hid e1
            have E2 := Lib.hid e2
            have E3 := Lib.hid e3
            have HES2 := Lib.hid hes2
            clear e1 e2 e3 hcb hes2 hle hsp epre hL hK bel
            refine wpIn_wide.2 ?_
            go_upto_region 17 with (first | ((with_reducible refine wp_goto_then rfl ?_)) | ((with_reducible refine wp_goto ?_); refine hop_goto rfl ?_) | ((with_reducible refine wp_label ?_)) | ((with_reducible refine hop_ret ?_)))
            generalize W = w9 at *
            refine wp_region_noPanic ?_
            replace b0 := b0.drew; replace q4 := q4.drew; replace q5 := q5.drew; replace q6 := q6.drew; (try replace m3 := m3.drew); replace mc := mc.drew; replace HDK := HDK.drew
            refine wp_region_G (fun w' => Blk w' (w.heap.size + 1) 24 #[.int .i64 p1, .slice none 0 0] ∧ Blk w' (w.heap.size + 1 + 1) 28 #[.slice B2 xs.length d2] ∧ Blk w' (w.heap.size + 1 + 1 + 1) 31 #[.bool true, .int .i64 0, .int .u32 6]) [] (by kernel_rfl) ?_
            have S0 := (And.intro q4 (And.intro q5 q6))
            refine wpAnyG_take 0 (v := .agg #[.int .i64 p1, .slice none 0 0]) rfl (by kernel_rfl) (fun _ _ _ h => h) S0 (Or.inl ⟨by rfl, by intro w' hSw; exact exec_getB (by rfl) (by rfl) hSw.1 Try.underlying24 (by rfl) (by rfl)⟩) ?_; (try simp only [Act.put, List.getElem_toArray, List.getElem_cons_succ, List.getElem_cons_zero, List.setIfInBounds_toArray, List.set_cons_zero, List.set_cons_succ])
            refine wpAnyG_take 1 (v := .slice B2 xs.length d2) rfl (by kernel_rfl) (fun _ _ _ h => h) S0 (Or.inl ⟨by rfl, by intro w' hSw; have z0 := hSw.2.1.at 0 rfl; go_simp; try with_reducible rfl⟩) ?_; (try simp only [Act.put, List.getElem_toArray, List.getElem_cons_succ, List.getElem_cons_zero, List.setIfInBounds_toArray, List.set_cons_zero, List.set_cons_succ])
            refine wpAnyG_take 2 (v := .agg #[.bool true, .int .i64 0, .int .u32 6]) rfl (by kernel_rfl) (fun _ _ _ h => h) S0 (Or.inl ⟨by rfl, by intro w' hSw; exact exec_getB (by rfl) (by rfl) hSw.2.2 Try.underlying31 (by rfl) (by rfl)⟩) ?_; (try simp only [Act.put, List.getElem_toArray, List.getElem_cons_succ, List.getElem_cons_zero, List.setIfInBounds_toArray, List.set_cons_zero, List.set_cons_succ])
            clear S0
            refine wpAnyG_one 3 (by kernel_rfl) rfl (fun K hK => ?_)
            rw [if_pos (by rfl)]
            refine wp_putB _ _ _ rfl rfl rfl q4 (by rfl) (by rfl) (by rfl) ?_
            intro w9 qn hg
            replace HDK := HDK.grownB q4 hg
            replace mc := mc.grownB q4 (by decide) (by decide) hg
            replace b0 := b0.grown hg (by omega)
            (try replace m3 := m3.grownB q4 (by decide) hg)
            (try replace q5 := q5.grown hg (by omega))
            (try replace q6 := q6.grown hg (by omega))
            clear hg q4
            have q4 := qn
            clear qn
            (try go_simp)
            refine hK.out _ _ (fun _ => (And.intro q4 (And.intro q5 q6))) ?_
            clear hK K
            (try simp only [Act.put, List.getElem_toArray, List.getElem_cons_succ, List.getElem_cons_zero, List.setIfInBounds_toArray, List.set_cons_zero, List.set_cons_succ])
            refine wpAnyG_one 4 (by kernel_rfl) rfl (fun K hK => ?_)
            rw [if_pos (by rfl)]
            have ya := q5.putAgain; have yc := q5.at 0 rfl; have yf := q5.frozen 0
            go_simp
            clear ya yc yf
            (try go_simp)
            refine hK.out _ _ (fun _ => (And.intro q4 (And.intro q5 q6))) ?_
            clear hK K
            (try simp only [Act.put, List.getElem_toArray, List.getElem_cons_succ, List.getElem_cons_zero, List.setIfInBounds_toArray, List.set_cons_zero, List.set_cons_succ])
            refine wpAnyG_one 5 (by kernel_rfl) rfl (fun K hK => ?_)
            rw [if_pos (by rfl)]
            refine wp_putB _ _ _ rfl rfl rfl q6 (by rfl) (by rfl) (by rfl) ?_
            intro w9 qn hg
            replace HDK := HDK.grownB q6 hg
            replace mc := mc.grownB q6 (by decide) (by decide) hg
            replace b0 := b0.grown hg (by omega)
            (try replace m3 := m3.grownB q6 (by decide) hg)
            (try replace q4 := q4.grown hg (by omega))
            (try replace q5 := q5.grown hg (by omega))
            clear hg q6
            have q6 := qn
            clear qn
            (try go_simp)
            refine hK.out _ _ (fun _ => (And.intro q4 (And.intro q5 q6))) ?_
            clear hK K
            (try simp only [Act.put, List.getElem_toArray, List.getElem_cons_succ, List.getElem_cons_zero, List.setIfInBounds_toArray, List.set_cons_zero, List.set_cons_succ])
            have S0 := (And.intro q4 (And.intro q5 q6))
            refine wpAnyG_take 6 (v := ?_) rfl (by kernel_rfl) (fun _ _ _ h => h) S0 (Or.inl ⟨by rfl, by intro w' hSw; go_simp; try with_reducible rfl⟩) ?_; (try simp only [Act.put, List.getElem_toArray, List.getElem_cons_succ, List.getElem_cons_zero, List.setIfInBounds_toArray, List.set_cons_zero, List.set_cons_succ])
            clear S0
            refine wpAnyG_done (by kernel_rfl) ?_ _
            refine NoPanic.normal ?_
            go_wp2_with (first | ((with_reducible refine wp_goto_then rfl ?_)) | ((with_reducible refine wp_goto ?_); refine hop_goto rfl ?_) | ((with_reducible refine wp_label ?_)) | ((with_reducible refine hop_ret ?_)))
            have hgp := grownBy_putObj' w9 D (.deferred none)
            have hrp : ∀ r, some D = some r → ∃ o : Obj, w9.heap[r]? = some o ∧ o.isCells = false := fun r e => by cases e; exact ⟨_, HDK, rfl⟩
            have hrun := run_takeDeferred (P := Try.prog) (show w9.heap[D]? = some (.deferred (some [])) from HDK)
            have b3 := b0.out.trans (belowK_b (w := w) (Nat.le_refl _) w9 D _ (.deferred none) (by omega) (show w9.heap[D]? = some (.deferred (some [])) from HDK) rfl rfl)
            replace q4 := q4.keptN hgp hrp; replace q5 := q5.keptN hgp hrp; replace q6 := q6.keptN hgp hrp; (try replace m3 := m3.keptN hgp hrp); replace mc := mc.keptN hgp hrp
            have el : lg = true := E3.out.symm
            have ef : fc0 = 6 := by rw [HFC.out, el]; rfl
            refine ⟨by simp, .inl ⟨D, _, rfl, hrun, ?_⟩⟩
            clear hrun
            generalize w9.putObj D (.deferred none) = w10 at *
            have x0 := q4.at 0 rfl; have x1 := q4.at 1 rfl; have x2 := q5.at 0 rfl; have x3 := q6.at 0 rfl; have x4 := q6.at 1 rfl; have x5 := q6.at 2 rfl
            refine ⟨.tuple #[.agg #[.int .i64 p1, .slice none 0 0], .slice B2 xs.length d2, .agg #[.bool true, .int .i64 0, .int .u32 6], .int .i64 0], by simp [results, Try.f9, go_sem, x0, x1, x2, x3, x4, x5], none, 0, 0, B2, xs.length, d2, es2, (by rw [el, ef]), (by rw [← E2.out]; exact Mine.nil _ _), mc, ?_, b3⟩
            rw [HES2.out, ← E1.out, List.map_map]
            rfl
    have cb0 : decide (0 < k) = true := decide_eq_true (by omega)
    have cb1 : (q == 24) = false := beq_eq_false_iff_ne.2 hq24
    obtain ⟨x, r, rfl⟩ : ∃ x r, cl = x :: r := by
      cases cl with
      | nil => simp at hkl; omega
      | cons x r => exact ⟨x, r, rfl⟩
    obtain ⟨bb, oo, rfl, hbb, hcell⟩ := HY1.out.cell (by omega)
    have hc0 := hcell 0 (by omega)
    rw [show (x :: r)[0]?.getD 0 = x from rfl] at hc0
    clear hcell
    obtain ⟨qn, rfl⟩ : ∃ qn : Nat, q = qn := ⟨q.toNat, by omega⟩
    have hix := preL_ix qn (by omega)
    generalize hyv : preL[qn]?.getD 0 = yv at hix
    have HYV := Lib.hid hyv
    clear hyv
    go_upto_region 5 with (first | ((with_reducible refine wpList_id ?_); refine wpList_getG (by rfl) _ _ rfl rfl q4 Try.underlying24 rfl (by rfl) ?_) | (go_at_call 18; (with_reducible refine (fBegun _ _ _ _ _).mono ?_); rintro e w9 ⟨rfl, hb⟩; replace b0 := b0.below hb; (try replace q2 := q2.below hb); (try replace q4 := q4.below hb); (try replace q5 := q5.below hb); (try replace q6 := q6.below hb); (try replace m1 := m1.below hb); (try clear q4_0); (try have q4_0 := q4.at 0 rfl)))
    go_upto_region 6 with (first | (go_at_call 21; (with_reducible refine (fBroken 1 _).mono ?_); rintro e w9 ⟨rfl, hb⟩; replace b0 := b0.below hb; (try replace q2 := q2.below hb); (try replace q4 := q4.below hb); (try replace q5 := q5.below hb); (try replace q6 := q6.below hb); (try replace m1 := m1.below hb); (try clear q4_0); (try have q4_0 := q4.at 0 rfl)) | ((with_reducible refine wpList_id ?_); refine wpList_putB rfl _ _ _ rfl rfl rfl q6 (by rfl) (by rfl) (by rfl) ?_; intro w9 qn hg; replace b0 := b0.grown hg (by omega); (try replace m1 := m1.grownB q6 (by decide) hg); (try replace q2 := q2.grown hg (by omega)); (try replace q4 := q4.grown hg (by omega)); (try replace q5 := q5.grown hg (by omega)); clear hg q6; have q6 := qn; clear qn; (try clear q4_0); (try have q4_0 := q4.at 0 rfl)))
    have hc1 := (b0.out.cell (p := ⟨bb, oo + 0, none⟩) hbb).trans hc0
    clear hc0
    rw [Nat.add_zero] at hc1
    have k0 : 0 < k := by omega
    have hq1 : (0 : Int) ≤ qn := by omega
    by_cases hxy : x = yv
    · as_aux_lemma =>
        have e1 : (x != yv) = false := bne_eq_false_iff_eq.2 hxy
        have hgd := preK_good (r := r) hq24 (show x = preL[(qn : Int).toNat]?.getD 0 by rw [Int.toNat_natCast, HYV.out]; exact hxy)
        have HGD := Lib.hid hgd
        have hwr : IntKind.i64.wrap ((qn : Int) + 1) = qn + 1 := by rw [IntKind.wrap_i64]; omega
        have hcl : ∀ w, (Instr.slice 22 (.slice (some ⟨bb, oo, none⟩) k d1) (some (.int .i64 1)) none none).run Try.prog w = .ok (.slice (cutA (some ⟨bb, oo, none⟩) d1 1) (k - 1) (d1 - 1)) w := fun w => by
          have h1 := run_cut_l w (some ⟨bb, oo, none⟩) k d1 1 (by omega) (by omega)
          exact h1
        clear hxy hgd
        replace hc1 : w9.drew.cell? ⟨bb, oo, none⟩ = some (.int .u8 x) := hc1
        refine wp_region_noPanic ?_
        replace b0 := b0.drew; replace q2 := q2.drew; replace q4 := q4.drew; replace q5 := q5.drew; replace q6 := q6.drew; (try replace m1 := m1.drew); (try replace mc := mc.drew)
        refine wp_region_G (fun w' => Blk w' (w.heap.size + 1) 24 #[.int .i64 qn, .slice A1 n c1] ∧ w'.cell? ⟨bb, oo, none⟩ = some (.int .u8 x)) [] (by kernel_rfl) ?_
        have S0 := (And.intro q4 hc1)
        refine wpAnyG_take 0 (v := ?_) rfl (by kernel_rfl) (fun _ _ _ h => h) S0 (Or.inl ⟨by rfl, by intro w' hSw; have z0 := hSw.1.at 0 rfl; have z1 := hSw.2; go_simp; try with_reducible rfl⟩) ?_; (try simp only [Act.put, List.getElem_toArray, List.getElem_cons_succ, List.getElem_cons_zero, List.setIfInBounds_toArray, List.set_cons_zero, List.set_cons_succ])
        refine wpAnyG_take 1 (v := ?_) rfl (by kernel_rfl) (fun _ _ _ h => h) S0 (Or.inl ⟨by rfl, by intro w' hSw; have z0 := hSw.1.at 0 rfl; have z1 := hSw.2; go_simp; try with_reducible rfl⟩) ?_; (try simp only [Act.put, List.getElem_toArray, List.getElem_cons_succ, List.getElem_cons_zero, List.setIfInBounds_toArray, List.set_cons_zero, List.set_cons_succ])
        refine wpAnyG_take 2 (v := ?_) rfl (by kernel_rfl) (fun _ _ _ h => h) S0 (Or.inl ⟨by rfl, by intro w' hSw; have z0 := hSw.1.at 0 rfl; have z1 := hSw.2; go_simp; try with_reducible rfl⟩) ?_; (try simp only [Act.put, List.getElem_toArray, List.getElem_cons_succ, List.getElem_cons_zero, List.setIfInBounds_toArray, List.set_cons_zero, List.set_cons_succ])
        refine wpAnyG_take 3 (v := ?_) rfl (by kernel_rfl) (fun _ _ _ h => h) S0 (Or.inl ⟨by rfl, by intro w' hSw; have z0 := hSw.1.at 0 rfl; have z1 := hSw.2; go_simp; try with_reducible rfl⟩) ?_; (try simp only [Act.put, List.getElem_toArray, List.getElem_cons_succ, List.getElem_cons_zero, List.setIfInBounds_toArray, List.set_cons_zero, List.set_cons_succ])
        refine wpAnyG_take 4 (v := ?_) rfl (by kernel_rfl) (fun _ _ _ h => h) S0 (Or.inl ⟨by rfl, by intro w' hSw; have z0 := hSw.1.at 0 rfl; have z1 := hSw.2; go_simp; try with_reducible rfl⟩) ?_; (try simp only [Act.put, List.getElem_toArray, List.getElem_cons_succ, List.getElem_cons_zero, List.setIfInBounds_toArray, List.set_cons_zero, List.set_cons_succ])
        refine wpAnyG_take 5 (v := ?_) rfl (by kernel_rfl) (fun _ _ _ h => h) S0 (Or.inl ⟨by rfl, by intro w' hSw; have z0 := hSw.1.at 0 rfl; have z1 := hSw.2; go_simp; try with_reducible rfl⟩) ?_; (try simp only [Act.put, List.getElem_toArray, List.getElem_cons_succ, List.getElem_cons_zero, List.setIfInBounds_toArray, List.set_cons_zero, List.set_cons_succ])
        refine wpAnyG_take 6 (v := ?_) rfl (by kernel_rfl) (fun _ _ _ h => h) S0 (Or.inl ⟨by rfl, by intro w' hSw; have z0 := hSw.1.at 0 rfl; have z1 := hSw.2; go_simp; try with_reducible rfl⟩) ?_; (try simp only [Act.put, List.getElem_toArray, List.getElem_cons_succ, List.getElem_cons_zero, List.setIfInBounds_toArray, List.set_cons_zero, List.set_cons_succ])
        clear S0
        refine wpAnyG_done (by kernel_rfl) ?_ _
        refine NoPanic.normal ?_
        go_upto_region 7 with fail
        (try clear q4_0 hc1)
        replace b0 := b0.drew; replace q2 := q2.drew; replace q4 := q4.drew; replace q5 := q5.drew; replace q6 := q6.drew; replace m1 := m1.drew
        refine wp_region_noPanic ?_
        refine wp_region_G (fun w' => Blk w' (w.heap.size + 1) 24 #[.int .i64 qn, .slice A1 n c1]) [7] (by kernel_rfl) ?_
        refine wpAnyG_take 0 (v := ?_) rfl (by kernel_rfl) (fun _ _ _ h => h) q4 (Or.inl ⟨by rfl, by intro w' hSw; have z0 := hSw.at 0 rfl; go_simp; try with_reducible rfl⟩) ?_; (try simp only [Act.put, List.getElem_toArray, List.getElem_cons_succ, List.getElem_cons_zero, List.setIfInBounds_toArray, List.set_cons_zero, List.set_cons_succ])
        refine wpAnyG_take 1 (v := ?_) rfl (by kernel_rfl) (fun _ _ _ h => h) q4 (Or.inl ⟨by rfl, by intro w' hSw; have z0 := hSw.at 0 rfl; go_simp; try with_reducible rfl⟩) ?_; (try simp only [Act.put, List.getElem_toArray, List.getElem_cons_succ, List.getElem_cons_zero, List.setIfInBounds_toArray, List.set_cons_zero, List.set_cons_succ])
        refine wpAnyG_take 2 (v := ?_) rfl (by kernel_rfl) (fun _ _ _ h => h) q4 (Or.inl ⟨by rfl, by intro w' hSw; have z0 := hSw.at 0 rfl; go_simp; try with_reducible rfl⟩) ?_; (try simp only [Act.put, List.getElem_toArray, List.getElem_cons_succ, List.getElem_cons_zero, List.setIfInBounds_toArray, List.set_cons_zero, List.set_cons_succ])
        refine wpAnyG_take 3 (v := ?_) rfl (by kernel_rfl) (fun _ _ _ h => h) q4 (Or.inl ⟨by rfl, by intro w' hSw; have z0 := hSw.at 0 rfl; go_simp; try with_reducible rfl⟩) ?_; (try simp only [Act.put, List.getElem_toArray, List.getElem_cons_succ, List.getElem_cons_zero, List.setIfInBounds_toArray, List.set_cons_zero, List.set_cons_succ])
        refine wpAnyG_take 4 (v := ?_) rfl (by kernel_rfl) (fun _ _ _ h => h) q4 (Or.inl ⟨by rfl, by intro w' hSw; have z0 := hSw.at 0 rfl; go_simp; try with_reducible rfl⟩) ?_; (try simp only [Act.put, List.getElem_toArray, List.getElem_cons_succ, List.getElem_cons_zero, List.setIfInBounds_toArray, List.set_cons_zero, List.set_cons_succ])
        refine wpAnyG_take 5 (v := ?_) rfl (by kernel_rfl) (fun _ _ _ h => h) q4 (Or.inl ⟨by rfl, by intro w' hSw; have z0 := hSw.at 0 rfl; go_simp; try with_reducible rfl⟩) ?_; (try simp only [Act.put, List.getElem_toArray, List.getElem_cons_succ, List.getElem_cons_zero, List.setIfInBounds_toArray, List.set_cons_zero, List.set_cons_succ])
        refine wpAnyG_take 6 (v := ?_) rfl (by kernel_rfl) (fun _ _ _ h => h) q4 (Or.inl ⟨by rfl, by intro w' hSw; have z0 := hSw.at 0 rfl; go_simp; try with_reducible rfl⟩) ?_; (try simp only [Act.put, List.getElem_toArray, List.getElem_cons_succ, List.getElem_cons_zero, List.setIfInBounds_toArray, List.set_cons_zero, List.set_cons_succ])
        refine wpAnyG_one 7 (by kernel_rfl) rfl (fun K hK => ?_)
        rw [if_pos (by rfl)]
        refine wp_putF _ _ _ rfl rfl rfl q4 rfl (by rfl) (by rfl) ?_
        intro w9 qn9 hg
        (try simp only [List.setIfInBounds_toArray, List.set_cons_succ, List.set_cons_zero] at qn9)
        replace b0 := b0.grown hg (by omega)
        replace m1 := m1.grownB q4 (by decide) hg
        replace q2 := q2.grown hg (by omega)
        replace q5 := q5.grown hg (by omega)
        replace q6 := q6.grown hg (by omega)
        clear hg q4
        have q4 := qn9
        clear qn9
        (try go_simp)
        refine hK.out _ _ (fun h => nomatch h) ?_
        clear hK K
        (try simp only [Act.put, List.getElem_toArray, List.getElem_cons_succ, List.getElem_cons_zero, List.setIfInBounds_toArray, List.set_cons_zero, List.set_cons_succ])
        refine wpAnyG_done (by kernel_rfl) ?_ _
        refine NoPanic.normal ?_
        go_wp2_with fail
        go_roundw
        case rel => exact ⟨qn + 1, r, cutA (some ⟨bb, oo, none⟩) d1 1, k - 1, d1 - 1, true, 1, rfl, HGD.out.symm.trans HQK.out, by omega, by omega, HY1.out.cutL (lo := 1) (by omega), b0, q2, q4, q5, q6, m1⟩
        case measure => simp [lenOf]; omega
    · as_aux_lemma =>
        have e1 : (x != yv) = true := bne_iff_ne.2 hxy
        have hbd := preK_bad (r := r) hq24 (show x ≠ preL[(qn : Int).toNat]?.getD 0 by rw [Int.toNat_natCast, HYV.out]; exact hxy)
        rw [HQK.out, HPK.out] at hbd
        simp at hbd
end Go.Proofs.Ythcnfalfhdeflaa
