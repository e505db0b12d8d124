/- What is wrong with a frame's values: the contract. -/
import Derived.Test.YtnjnpnjjpodnnaaRGv
namespace Go.Proofs.Ytnjnpnjjpodnnaa
open Go.RowKit Go.Shelf
attribute [local go_sem] Oper.semAt_some
set_option linter.unusedVariables false
set_option linter.unusedSimpArgs false

theorem valWays (f : Fm) (h0 : firstS f.prs = 0) : ((f.kd == 8) = true ∧ (f.ic == 0) = true ∧ valS f = ⟨decide (f.st = 0), f.st, 1⟩) ∨
    ((f.kd == 8) = true ∧ (f.ic == 0) = false ∧ (f.kd == 16) = false ∧ f.rk = true ∧ (f.dp == f.st) = true ∧ valS f = ⟨false, f.st, 1⟩) ∨
    ((f.kd == 8) = true ∧ (f.ic == 0) = false ∧ (f.kd == 16) = false ∧ f.rk = true ∧ (f.dp == f.st) = false ∧ valS f = ⟨false, 0, 0⟩) ∨
    ((f.kd == 8) = true ∧ (f.ic == 0) = false ∧ (f.kd == 16) = false ∧ f.rk = false ∧ valS f = ⟨false, 0, 0⟩) ∨
    ((f.kd == 8) = false ∧ (f.kd == 16) = true ∧ (f.la == 0) = false ∧ f.rk = true ∧ (f.dp == f.st) = true ∧ valS f = ⟨false, f.st, 1⟩) ∨
    ((f.kd == 8) = false ∧ (f.kd == 16) = true ∧ (f.la == 0) = false ∧ f.rk = true ∧ (f.dp == f.st) = false ∧ valS f = ⟨false, 0, 0⟩) ∨
    ((f.kd == 8) = false ∧ (f.kd == 16) = true ∧ (f.la == 0) = false ∧ f.rk = false ∧ valS f = ⟨false, 0, 0⟩) ∨
    ((f.kd == 8) = false ∧ (f.kd == 16) = false ∧ f.rk = true ∧ (f.dp == f.st) = true ∧ valS f = ⟨false, f.st, 1⟩) ∨
    ((f.kd == 8) = false ∧ (f.kd == 16) = false ∧ f.rk = true ∧ (f.dp == f.st) = false ∧ valS f = ⟨false, 0, 0⟩) ∨
    ((f.kd == 8) = false ∧ (f.kd == 16) = false ∧ f.rk = false ∧ valS f = ⟨false, 0, 0⟩) ∨
    ((f.kd == 8) = false ∧ (f.kd == 16) = true ∧ (f.la == 0) = true ∧ valS f = ⟨true, 0, 1⟩) := by
  unfold valS
  simp only [h0, ne_eq, not_true_eq_false, if_false]
  by_cases ha : f.kd = 8
  · have hc : ¬ f.kd = 16 := by omega
    by_cases hb : f.ic = 0 <;> cases he : f.rk <;> by_cases hg : f.dp = f.st <;> simp [ha, hb, hg]
  · by_cases hc : f.kd = 16 <;> by_cases hd : f.la = 0 <;> cases he : f.rk <;> by_cases hg : f.dp = f.st <;> simp [ha, hc, hd, hg]
theorem faults_ne (l : List (Int × Int)) (x : Int) (h : x ∈ faults l) : x ≠ 0 := by
  unfold faults at h
  rw [List.mem_filterMap] at h
  obtain ⟨p, _, hp⟩ := h
  by_cases hs : setS p ≠ 0
  · rw [if_pos hs] at hp
    cases hp
    exact hs
  · rw [if_neg hs] at hp
    cases hp
theorem Blk.keptN {W W' : World} {b : Nat} {t : TypeId} {cs : Array Value} {row : Option Nat} (h : Blk W b t cs) (hg : W.grownBy W' row) (hr : ∀ r, row = some r → ∃ o : Obj, W.heap[r]? = some o ∧ o.isCells = false) : Blk W' b t cs :=
  (hg.block b h.lt (fun e => by
    obtain ⟨o, ho, hc⟩ := hr b e.symm
    rw [show W.heap[b]? = _ from h] at ho
    cases ho
    cases hc)).trans h
theorem keeps_grown {W W' : World} {g : Nat} {t : TypeId} {cs : Array Value} (q : Blk W g t cs) (hg : W.grownBy W' (some g)) : KeepsOthers W W' :=
  ⟨hg.size, fun k o hk ho => (hg.block k (Array.getElem?_eq_some_iff.1 hk).1 (fun e => by
    cases e
    rw [show W.heap[g]? = _ from q] at hk
    cases hk
    cases ho)).trans hk⟩
def FltV (x : Flt) (w : World) (e : Ending) (W' : World) : Prop := e = .returned (.agg #[.bool x.wh, .int .i64 x.st, .int .u32 x.cd]) ∧ Below w.heap.size w W'
theorem faulty_stops (n : Nat) (hn : 1 ≤ n) (Ba : Nat) (A : Option Addr) (m c : Nat) (ps : List (Int × Int)) (hm : m ≤ 100000) (B : Nat) (w : World) (h1 : Ba < w.heap.size)
    (hfar : 0 < m → ∀ b o, A = some ⟨b, o, none⟩ → b < B) (hca : Boxed w Ba 26 (.slice A m c)) (hp : Prs w A m c ps) :
    SeqP (fun _ => False) Fence.wide n Try.prog 93 #[.pointer (some ⟨Ba, 0, none⟩)] (fun x : Int => #[Value.agg #[.bool true, .int .i64 0, .int .u32 x]]) (KO B) (fun ys => ys = faults ps) (fun pre => (∃ r, pre ++ r = faults ps) ∧ pre ≠ []) m w :=
  fun l J Jx W hW hJ _ _ hY h0 =>
    faulty1_in n hn l Ba A m c ps hm B J Jx (fun pre X Y hx hb => hJ pre X Y none hx ⟨hb.os, hb.tape, hb.output, hb.size, fun i hi _ => hb.block i hi⟩ (fun r e => by cases e)) hfar hY W ((hW.block Ba h1).trans hca) (hp.below hW) h0
theorem faulty_in (n : Nat) (A : Option Addr) (m c : Nat) (w : World) :
    CallsIn Fence.wide n Try.prog 48 #[.slice A m c] w fun e w' => e = .returned (.func (.func 93) #[] #[.pointer (some ⟨w.heap.size, 0, none⟩)]) ∧ w' = w.alloc (.cells #[.slice A m c] 26) := by
  refine callsIn_of_wp Try.func48 rfl trivial ?_ rfl
  simp only [Try.ntmps48, List.size_toArray, List.length_cons, List.length_nil, Nat.reduceAdd, Nat.reduceSub, Array.replicate_succ, Array.replicate_zero, List.push_toArray, List.append_toArray, List.nil_append, List.cons_append]
  gi_wp2
  go_ret
  exact ⟨by simp, rfl⟩

set_option maxRecDepth 100000 in
set_option maxHeartbeats 4000000 in
theorem values_in (N : Nat) (hN : 3 ≤ N) (f : Fm) (A : Option Addr) (n c : Nat) (P : Option Addr) (pn pc : Nat) (w : World) (hp : Prs w P pn pc f.prs) (hpn : pn ≤ 100000) :
    CallsIn Fence.wide N Try.prog 31 #[.agg #[.int .u8 (f).kd, .int .u8 (f).fl, .int .i64 (f).st, .slice A n c, .int .i64 (f).pd, .int .i64 (f).la, .int .i64 (f).ic, .int .u32 (f).cd, .slice P pn pc, .bool (f).rk, .bool (f).al, .int .i64 (f).dp, .int .u8 (f).wt]] w (FltV (valS f) w) := by
  have h1 : 1 ≤ N := by omega
  have qf := Blk.new w 30 #[.int .u8 (f).kd, .int .u8 (f).fl, .int .i64 (f).st, .slice A n c, .int .i64 (f).pd, .int .i64 (f).la, .int .i64 (f).ic, .int .u32 (f).cd, .slice P pn pc, .bool (f).rk, .bool (f).al, .int .i64 (f).dp, .int .u8 (f).wt]
  have HP := Lib.hid hp
  have hfar : 0 < pn → ∀ b o, P = some ⟨b, o, none⟩ → b < w.heap.size := fun hm b o e => by
    obtain ⟨b', o', e', hlt, _⟩ := hp.cell hm
    rw [e] at e'
    cases e'
    exact hlt
  clear hp
  have z8 := (qf.alloc (.cells #[.bool false, .int .i64 0, .int .u32 0] 34)).at 8 rfl
  refine callsIn_of_wp_marks Try.func31 rfl trivial ?_ rfl
  simp only [Try.ntmps31, List.size_toArray, List.length_cons, List.length_nil, Nat.reduceAdd, Nat.reduceSub, Array.replicate_succ, Array.replicate_zero, List.push_toArray, List.append_toArray, List.nil_append, List.cons_append]
  gi_wp2_with fail
  refine ⟨trivial, (faulty_in _ _ _ _ _).mono ?_⟩
  rintro e w1 ⟨rfl, rfl⟩
  gi_wp2
  clear z8
  have q1 := Blk.new (w.alloc (.cells #[.int .u8 (f).kd, .int .u8 (f).fl, .int .i64 (f).st, .slice A n c, .int .i64 (f).pd, .int .i64 (f).la, .int .i64 (f).ic, .int .u32 (f).cd, .slice P pn pc, .bool (f).rk, .bool (f).al, .int .i64 (f).dp, .int .u8 (f).wt] 30)) 34 #[.bool false, .int .i64 0, .int .u32 0]
  have bx := Boxed.new ((w.alloc (.cells #[.int .u8 (f).kd, .int .u8 (f).fl, .int .i64 (f).st, .slice A n c, .int .i64 (f).pd, .int .i64 (f).la, .int .i64 (f).ic, .int .u32 (f).cd, .slice P pn pc, .bool (f).rk, .bool (f).al, .int .i64 (f).dp, .int .u8 (f).wt] 30)).alloc (.cells #[.bool false, .int .i64 0, .int .u32 0] 34)) 26 (.slice P pn pc)
  replace qf := (qf.alloc (.cells #[.bool false, .int .i64 0, .int .u32 0] 34)).alloc (.cells #[.slice P pn pc] 26)
  replace q1 := q1.alloc (.cells #[.slice P pn pc] 26)
  have hbel : Below w.heap.size w (((w.alloc (.cells #[.int .u8 (f).kd, .int .u8 (f).fl, .int .i64 (f).st, .slice A n c, .int .i64 (f).pd, .int .i64 (f).la, .int .i64 (f).ic, .int .u32 (f).cd, .slice P pn pc, .bool (f).rk, .bool (f).al, .int .i64 (f).dp, .int .u8 (f).wt] 30)).alloc (.cells #[.bool false, .int .i64 0, .int .u32 0] 34)).alloc (.cells #[.slice P pn pc] 26)) := (((Below.refl _ _).alloc (Nat.le_refl _) _).alloc (by simp) _).alloc (by simp; omega) _
  have hsz : (((w.alloc (.cells #[.int .u8 (f).kd, .int .u8 (f).fl, .int .i64 (f).st, .slice A n c, .int .i64 (f).pd, .int .i64 (f).la, .int .i64 (f).ic, .int .u32 (f).cd, .slice P pn pc, .bool (f).rk, .bool (f).al, .int .i64 (f).dp, .int .u8 (f).wt] 30)).alloc (.cells #[.bool false, .int .i64 0, .int .u32 0] 34)).alloc (.cells #[.slice P pn pc] 26)).heap.size = w.heap.size + 1 + 1 + 1 := by simp
  simp only [World.size_alloc] at q1 bx
  have hpp := HP.out.below hbel
  generalize ((w.alloc (.cells #[.int .u8 (f).kd, .int .u8 (f).fl, .int .i64 (f).st, .slice A n c, .int .i64 (f).pd, .int .i64 (f).la, .int .i64 (f).ic, .int .u32 (f).cd, .slice P pn pc, .bool (f).rk, .bool (f).al, .int .i64 (f).dp, .int .u8 (f).wt] 30)).alloc (.cells #[.bool false, .int .i64 0, .int .u32 0] 34)).alloc (.cells #[.slice P pn pc] 26) = w0 at *
  refine wpIn_range_privA rfl h1 (Pv := fun _ => False) (gf := 93) (lb := #[.pointer (some ⟨w.heap.size + 1 + 1, 0, none⟩)]) rfl trivial (enters_of Try.func93 (by kernel_rfl) rfl)
    (fun b hb => hb.elim) (faulty_stops (N - 1) (by omega) (w.heap.size + 1 + 1) P pn pc f.prs hpn w.heap.size w0 (by omega) hfar bx hpp) (fun h k => h.trans k)
    (fun W l o o' hl ho hc hw => KO.put (w := w0) (by omega) W l o' hl) (fun _ => rfl)
    (fun pre W => pre = [] ∧ Blk W w.heap.size 30 #[.int .u8 (f).kd, .int .u8 (f).fl, .int .i64 (f).st, .slice A n c, .int .i64 (f).pd, .int .i64 (f).la, .int .i64 (f).ic, .int .u32 (f).cd, .slice P pn pc, .bool (f).rk, .bool (f).al, .int .i64 (f).dp, .int .u8 (f).wt] ∧ Blk W (w.heap.size + 1) 34 #[.bool false, .int .i64 0, .int .u32 0] ∧ Below w.heap.size w W)
    (fun c pre W => c = .ret ∧ ∃ x, pre = [x] ∧ Blk W (w.heap.size + 1) 34 #[.bool true, .int .i64 0, .int .u32 x] ∧ Below w.heap.size w W)
    (fun s X Y row hs hg hr => by
      obtain ⟨h0, h1, h2, hb⟩ := hs
      exact ⟨h0, h1.keptN hg (fun r e => (hr r e).2), h2.keptN hg (fun r e => (hr r e).2), hb.grown hg hb.size (fun r e => by have := (hr r e).1; omega)⟩)
    (fun c s X Y row hs hg hr => by
      obtain ⟨h0, x, h1, h2, hb⟩ := hs
      exact ⟨h0, x, h1, h2.keptN hg (fun r e => (hr r e).2), hb.grown hg hb.size (fun r e => by have := (hr r e).1; omega)⟩)
    (fun b hb => hb.elim) ⟨rfl, qf, q1, hbel⟩
    (fun x a₁ W => ∃ g, a₁ = ⟨#[.agg #[.int .u8 (f).kd, .int .u8 (f).fl, .int .i64 (f).st, .slice A n c, .int .i64 (f).pd, .int .i64 (f).la, .int .i64 (f).ic, .int .u32 (f).cd, .slice P pn pc, .bool (f).rk, .bool (f).al, .int .i64 (f).dp, .int .u8 (f).wt], .pointer (some ⟨w.heap.size, 0, none⟩), .pointer (some ⟨w.heap.size + 1, 0, none⟩), .pointer (some ⟨g, 0, none⟩), .pointer (some ⟨w.heap.size, 8, none⟩), .slice P pn pc, .func (.func 93) #[] #[.pointer (some ⟨w.heap.size + 1 + 1, 0, none⟩)], .agg #[.bool true, .int .i64 0, .int .u32 x], undef, undef, undef, undef, undef, undef, undef, undef, undef, undef, undef, undef, undef, undef, undef, undef, undef, undef, undef, undef, undef, undef, undef, undef, undef, undef, undef, undef, undef, undef, undef, undef, undef, undef, undef, undef, undef, undef, undef, undef, undef], []⟩ ∧ Blk W g 34 #[.bool true, .int .i64 0, .int .u32 x])
    (fun x a₁ W l o o' he ho hc => by
      obtain ⟨g, e, hq⟩ := he
      refine ⟨g, e, (World.putObj_heap_other (fun eg => ?_)).trans hq⟩
      subst eg
      rw [show W.heap[g]? = _ from hq] at ho
      cases ho
      cases hc)
    ?assign ?body ?done ?stop
  case assign =>
    rintro x l pre W K ⟨h0, h1, h2, hb⟩ hK
    have qx := Blk.new W 34 #[.bool false, .int .i64 0, .int .u32 0]
    have hb2 := Lib.hid h1
    have hc2 := Lib.hid h2
    have kx := KeepsOthers.alloc W (.cells #[.bool false, .int .i64 0, .int .u32 0] 34)
    have hz := hb.size
    replace h1 := h1.alloc (.cells #[.bool false, .int .i64 0, .int .u32 0] 34)
    replace h2 := h2.alloc (.cells #[.bool false, .int .i64 0, .int .u32 0] 34)
    gi_wp2_with (refine wpListIn_putB (ro := some l) rfl _ _ _ rfl rfl rfl qx (by rfl) (by rfl) (by rfl) ?_; intro w9 qn hg)
    have hk9 := keeps_grown qx hg
    have hs9 : W.heap.size ≤ w9.heap.size := Nat.le_trans (by rw [World.size_alloc]; exact Nat.le_succ _) hg.size
    have hne2 : w.heap.size + 1 ≠ W.heap.size := fun e => by
      have h3 := hc2.out.lt
      omega
    have hne1 : w.heap.size ≠ W.heap.size := fun e => by
      have h3 := hb2.out.lt
      omega
    exact hK _ _ ((kx.trans hk9).from _) ⟨hs9, fun b hb1 => (hg.block b (by rw [World.size_alloc]; exact Nat.lt_succ_of_lt (Nat.lt_of_lt_of_le hb1 hz)) (fun e => by cases e; exact absurd hb1 (Nat.not_lt_of_le hz))).trans (Below.heap_alloc W _ b (Nat.lt_of_lt_of_le hb1 hz))⟩
      ⟨h0, h1.grown hg hne1, h2.grown hg hne2, (hb.alloc hb.size _).grown hg (by simp; omega) (fun r e => by cases e; exact hz)⟩ ⟨_, rfl, qn⟩
  case body =>
    rintro x l pre W a₁ ⟨h0, h1, h2, hb⟩ ⟨g, rfl, hq⟩ hlen
    subst h0
    gi_wp2_with (first | (refine wpListIn_getB (ro := some l) rfl _ _ rfl rfl hq Try.underlying34 rfl (by rfl) ?_) | (refine wpListIn_putB (ro := some l) rfl _ _ _ rfl rfl rfl h2 (by rfl) (by rfl) (by rfl) ?_; intro w9 qn hg))
    exact ⟨(keeps_grown h2 hg).from _, rfl, x, rfl, qn, hb.grown hg hb.size (fun r e => by cases e; omega)⟩
  case done =>
    rintro D ys W hD hys ⟨h0, qf, qr, hb⟩ hK
    have hf0 : firstS f.prs = 0 := by rw [faults_first, ← hys, h0]; rfl
    have hw := valWays f hf0
    have hDr : D ≠ w.heap.size + 1 := by omega
    have hDs : w.heap.size + 1 + 1 + 1 ≤ D := by omega
    have hfr : w.heap.size ≠ w.heap.size + 1 := by omega
    obtain ⟨K0, hK0⟩ : ∃ x, f.kd = x := ⟨_, rfl⟩
    obtain ⟨K6, hK6⟩ : ∃ x, f.ic = x := ⟨_, rfl⟩
    obtain ⟨K5, hK5⟩ : ∃ x, f.la = x := ⟨_, rfl⟩
    obtain ⟨K9, hK9⟩ : ∃ x, f.rk = x := ⟨_, rfl⟩
    obtain ⟨K11, hK11⟩ : ∃ x, f.dp = x := ⟨_, rfl⟩
    obtain ⟨K2, hK2⟩ : ∃ x, f.st = x := ⟨_, rfl⟩
    have z0 := qf.at 0 rfl
    have z6 := qf.at 6 rfl
    have z5 := qf.at 5 rfl
    have z9 := qf.at 9 rfl
    have z11 := qf.at 11 rfl
    have z2 := qf.at 2 rfl
    have hb0 : Bel w W := ⟨hb⟩
    rw [hK0] at z0
    rw [hK6] at z6
    rw [hK5] at z5
    rw [hK9] at z9
    rw [hK11] at z11
    rw [hK2] at z2
    rw [hK0, hK6, hK5, hK9, hK11, hK2] at hw
    clear qf hK0 hK6 hK5 hK9 hK11 hK2 hf0 hys h0 hb bx hpp q1 hbel hfar hD
    rcases hw with ⟨f0, f1, hv⟩ | ⟨f0, f1, f2, f3, f4, hv⟩ | ⟨f0, f1, f2, f3, f4, hv⟩ | ⟨f0, f1, f2, f3, hv⟩ | ⟨f0, f1, f2, f3, f4, hv⟩ | ⟨f0, f1, f2, f3, f4, hv⟩ | ⟨f0, f1, f2, f3, hv⟩ | ⟨f0, f1, f2, f3, hv⟩ | ⟨f0, f1, f2, f3, hv⟩ | ⟨f0, f1, f2, hv⟩ | ⟨f0, f1, f2, hv⟩
    · as_aux_lemma =>
        have HV := Lib.hid hv
        clear hv
        gi_wp2_with (first | (refine wpListIn_putB (ro := none) rfl _ _ _ rfl rfl rfl qr (by rfl) (by rfl) (by rfl) ?_; intro w9 qn hg; replace hb0 := hb0.grown hg (Nat.le_succ _); replace hK := (hg.block D (Array.getElem?_eq_some_iff.1 hK).1 (fun e => hDr (by cases e; rfl))).trans hK; clear hg qr; have qr := qn; clear qn))
        have q9 := qr.keptN (grownBy_putObj' _ D (.deferred none)) (fun r e => by cases e; exact ⟨_, hK, rfl⟩)
        have o9 := q9.out Try.underlying34 rfl (by rfl)
        refine ⟨by simp, .inl ⟨_, _, rfl, run_takeDeferred hK, ?_⟩⟩
        rw [HV.out]
        refine ⟨.agg #[.bool (K2 == 0), .int .i64 K2, .int .u32 1], by simp [results, Try.f31, asAddr, Act.put, o9], ?_,  hb0.out.trans (belowK_b (w := w) (Nat.le_refl _) _ D _ _ (by omega) hK rfl rfl)⟩
        rfl
    · as_aux_lemma =>
        have HV := Lib.hid hv
        clear hv
        gi_wp2_with (first | (refine ⟨trivial, ?_⟩; gi_at_call 22; refine (callsIn_wide.2 (fOfF _ _ _)).mono ?_; rintro e w3 ⟨rfl, hb⟩; replace hb0 := hb0.below hb; replace hK := (hb.block D (Array.getElem?_eq_some_iff.1 hK).1).trans hK; replace qr := qr.below hb; clear hb) | (refine wpListIn_putB (ro := none) rfl _ _ _ rfl rfl rfl qr (by rfl) (by rfl) (by rfl) ?_; intro w9 qn hg; replace hb0 := hb0.grown hg (Nat.le_succ _); replace hK := (hg.block D (Array.getElem?_eq_some_iff.1 hK).1 (fun e => hDr (by cases e; rfl))).trans hK; clear hg qr; have qr := qn; clear qn))
        have q9 := qr.keptN (grownBy_putObj' _ D (.deferred none)) (fun r e => by cases e; exact ⟨_, hK, rfl⟩)
        have o9 := q9.out Try.underlying34 rfl (by rfl)
        refine ⟨by simp, .inl ⟨_, _, rfl, run_takeDeferred hK, ?_⟩⟩
        rw [HV.out]
        refine ⟨.agg #[.bool false, .int .i64 K2, .int .u32 1], by simp [results, Try.f31, asAddr, Act.put, o9], ?_,  hb0.out.trans (belowK_b (w := w) (Nat.le_refl _) _ D _ _ (by omega) hK rfl rfl)⟩
        rfl
    · as_aux_lemma =>
        have HV := Lib.hid hv
        clear hv
        gi_wp2_with (first | (refine wpListIn_putB (ro := none) rfl _ _ _ rfl rfl rfl qr (by rfl) (by rfl) (by rfl) ?_; intro w9 qn hg; replace hb0 := hb0.grown hg (Nat.le_succ _); replace hK := (hg.block D (Array.getElem?_eq_some_iff.1 hK).1 (fun e => hDr (by cases e; rfl))).trans hK; clear hg qr; have qr := qn; clear qn))
        have q9 := qr.keptN (grownBy_putObj' _ D (.deferred none)) (fun r e => by cases e; exact ⟨_, hK, rfl⟩)
        have o9 := q9.out Try.underlying34 rfl (by rfl)
        refine ⟨by simp, .inl ⟨_, _, rfl, run_takeDeferred hK, ?_⟩⟩
        rw [HV.out]
        refine ⟨.agg #[.bool false, .int .i64 0, .int .u32 0], by simp [results, Try.f31, asAddr, Act.put, o9], ?_,  hb0.out.trans (belowK_b (w := w) (Nat.le_refl _) _ D _ _ (by omega) hK rfl rfl)⟩
        rfl
    · as_aux_lemma =>
        have HV := Lib.hid hv
        clear hv
        gi_wp2_with (first | (refine wpListIn_putB (ro := none) rfl _ _ _ rfl rfl rfl qr (by rfl) (by rfl) (by rfl) ?_; intro w9 qn hg; replace hb0 := hb0.grown hg (Nat.le_succ _); replace hK := (hg.block D (Array.getElem?_eq_some_iff.1 hK).1 (fun e => hDr (by cases e; rfl))).trans hK; clear hg qr; have qr := qn; clear qn))
        have q9 := qr.keptN (grownBy_putObj' _ D (.deferred none)) (fun r e => by cases e; exact ⟨_, hK, rfl⟩)
        have o9 := q9.out Try.underlying34 rfl (by rfl)
        refine ⟨by simp, .inl ⟨_, _, rfl, run_takeDeferred hK, ?_⟩⟩
        rw [HV.out]
        refine ⟨.agg #[.bool false, .int .i64 0, .int .u32 0], by simp [results, Try.f31, asAddr, Act.put, o9], ?_,  hb0.out.trans (belowK_b (w := w) (Nat.le_refl _) _ D _ _ (by omega) hK rfl rfl)⟩
        rfl
    · as_aux_lemma =>
        have HV := Lib.hid hv
        clear hv
        gi_wp2_with (first | (refine ⟨trivial, ?_⟩; gi_at_call 22; refine (callsIn_wide.2 (fOfF _ _ _)).mono ?_; rintro e w3 ⟨rfl, hb⟩; replace hb0 := hb0.below hb; replace hK := (hb.block D (Array.getElem?_eq_some_iff.1 hK).1).trans hK; replace qr := qr.below hb; clear hb) | (refine wpListIn_putB (ro := none) rfl _ _ _ rfl rfl rfl qr (by rfl) (by rfl) (by rfl) ?_; intro w9 qn hg; replace hb0 := hb0.grown hg (Nat.le_succ _); replace hK := (hg.block D (Array.getElem?_eq_some_iff.1 hK).1 (fun e => hDr (by cases e; rfl))).trans hK; clear hg qr; have qr := qn; clear qn))
        have q9 := qr.keptN (grownBy_putObj' _ D (.deferred none)) (fun r e => by cases e; exact ⟨_, hK, rfl⟩)
        have o9 := q9.out Try.underlying34 rfl (by rfl)
        refine ⟨by simp, .inl ⟨_, _, rfl, run_takeDeferred hK, ?_⟩⟩
        rw [HV.out]
        refine ⟨.agg #[.bool false, .int .i64 K2, .int .u32 1], by simp [results, Try.f31, asAddr, Act.put, o9], ?_,  hb0.out.trans (belowK_b (w := w) (Nat.le_refl _) _ D _ _ (by omega) hK rfl rfl)⟩
        rfl
    · as_aux_lemma =>
        have HV := Lib.hid hv
        clear hv
        gi_wp2_with (first | (refine wpListIn_putB (ro := none) rfl _ _ _ rfl rfl rfl qr (by rfl) (by rfl) (by rfl) ?_; intro w9 qn hg; replace hb0 := hb0.grown hg (Nat.le_succ _); replace hK := (hg.block D (Array.getElem?_eq_some_iff.1 hK).1 (fun e => hDr (by cases e; rfl))).trans hK; clear hg qr; have qr := qn; clear qn))
        have q9 := qr.keptN (grownBy_putObj' _ D (.deferred none)) (fun r e => by cases e; exact ⟨_, hK, rfl⟩)
        have o9 := q9.out Try.underlying34 rfl (by rfl)
        refine ⟨by simp, .inl ⟨_, _, rfl, run_takeDeferred hK, ?_⟩⟩
        rw [HV.out]
        refine ⟨.agg #[.bool false, .int .i64 0, .int .u32 0], by simp [results, Try.f31, asAddr, Act.put, o9], ?_,  hb0.out.trans (belowK_b (w := w) (Nat.le_refl _) _ D _ _ (by omega) hK rfl rfl)⟩
        rfl
    · as_aux_lemma =>
        have HV := Lib.hid hv
        clear hv
        gi_wp2_with (first | (refine wpListIn_putB (ro := none) rfl _ _ _ rfl rfl rfl qr (by rfl) (by rfl) (by rfl) ?_; intro w9 qn hg; replace hb0 := hb0.grown hg (Nat.le_succ _); replace hK := (hg.block D (Array.getElem?_eq_some_iff.1 hK).1 (fun e => hDr (by cases e; rfl))).trans hK; clear hg qr; have qr := qn; clear qn))
        have q9 := qr.keptN (grownBy_putObj' _ D (.deferred none)) (fun r e => by cases e; exact ⟨_, hK, rfl⟩)
        have o9 := q9.out Try.underlying34 rfl (by rfl)
        refine ⟨by simp, .inl ⟨_, _, rfl, run_takeDeferred hK, ?_⟩⟩
        rw [HV.out]
        refine ⟨.agg #[.bool false, .int .i64 0, .int .u32 0], by simp [results, Try.f31, asAddr, Act.put, o9], ?_,  hb0.out.trans (belowK_b (w := w) (Nat.le_refl _) _ D _ _ (by omega) hK rfl rfl)⟩
        rfl
    · as_aux_lemma =>
        have HV := Lib.hid hv
        clear hv
        gi_wp2_with (first | (refine ⟨trivial, ?_⟩; gi_at_call 22; refine (callsIn_wide.2 (fOfF _ _ _)).mono ?_; rintro e w3 ⟨rfl, hb⟩; replace hb0 := hb0.below hb; replace hK := (hb.block D (Array.getElem?_eq_some_iff.1 hK).1).trans hK; replace qr := qr.below hb; clear hb) | (refine wpListIn_putB (ro := none) rfl _ _ _ rfl rfl rfl qr (by rfl) (by rfl) (by rfl) ?_; intro w9 qn hg; replace hb0 := hb0.grown hg (Nat.le_succ _); replace hK := (hg.block D (Array.getElem?_eq_some_iff.1 hK).1 (fun e => hDr (by cases e; rfl))).trans hK; clear hg qr; have qr := qn; clear qn))
        have q9 := qr.keptN (grownBy_putObj' _ D (.deferred none)) (fun r e => by cases e; exact ⟨_, hK, rfl⟩)
        have o9 := q9.out Try.underlying34 rfl (by rfl)
        refine ⟨by simp, .inl ⟨_, _, rfl, run_takeDeferred hK, ?_⟩⟩
        rw [HV.out]
        refine ⟨.agg #[.bool false, .int .i64 K2, .int .u32 1], by simp [results, Try.f31, asAddr, Act.put, o9], ?_,  hb0.out.trans (belowK_b (w := w) (Nat.le_refl _) _ D _ _ (by omega) hK rfl rfl)⟩
        rfl
    · as_aux_lemma =>
        have HV := Lib.hid hv
        clear hv
        gi_wp2_with (first | (refine wpListIn_putB (ro := none) rfl _ _ _ rfl rfl rfl qr (by rfl) (by rfl) (by rfl) ?_; intro w9 qn hg; replace hb0 := hb0.grown hg (Nat.le_succ _); replace hK := (hg.block D (Array.getElem?_eq_some_iff.1 hK).1 (fun e => hDr (by cases e; rfl))).trans hK; clear hg qr; have qr := qn; clear qn))
        have q9 := qr.keptN (grownBy_putObj' _ D (.deferred none)) (fun r e => by cases e; exact ⟨_, hK, rfl⟩)
        have o9 := q9.out Try.underlying34 rfl (by rfl)
        refine ⟨by simp, .inl ⟨_, _, rfl, run_takeDeferred hK, ?_⟩⟩
        rw [HV.out]
        refine ⟨.agg #[.bool false, .int .i64 0, .int .u32 0], by simp [results, Try.f31, asAddr, Act.put, o9], ?_,  hb0.out.trans (belowK_b (w := w) (Nat.le_refl _) _ D _ _ (by omega) hK rfl rfl)⟩
        rfl
    · as_aux_lemma =>
        have HV := Lib.hid hv
        clear hv
        gi_wp2_with (first | (refine wpListIn_putB (ro := none) rfl _ _ _ rfl rfl rfl qr (by rfl) (by rfl) (by rfl) ?_; intro w9 qn hg; replace hb0 := hb0.grown hg (Nat.le_succ _); replace hK := (hg.block D (Array.getElem?_eq_some_iff.1 hK).1 (fun e => hDr (by cases e; rfl))).trans hK; clear hg qr; have qr := qn; clear qn))
        have q9 := qr.keptN (grownBy_putObj' _ D (.deferred none)) (fun r e => by cases e; exact ⟨_, hK, rfl⟩)
        have o9 := q9.out Try.underlying34 rfl (by rfl)
        refine ⟨by simp, .inl ⟨_, _, rfl, run_takeDeferred hK, ?_⟩⟩
        rw [HV.out]
        refine ⟨.agg #[.bool false, .int .i64 0, .int .u32 0], by simp [results, Try.f31, asAddr, Act.put, o9], ?_,  hb0.out.trans (belowK_b (w := w) (Nat.le_refl _) _ D _ _ (by omega) hK rfl rfl)⟩
        rfl
    · as_aux_lemma =>
        have HV := Lib.hid hv
        clear hv
        gi_wp2_with (first | (refine ⟨trivial, ?_⟩; gi_at_call 20; refine (callsIn_wide.2 (fWholeF _ _)).mono ?_; rintro e w3 ⟨rfl, hb⟩; replace hb0 := hb0.below hb; replace hK := (hb.block D (Array.getElem?_eq_some_iff.1 hK).1).trans hK; replace qr := qr.below hb; clear hb) | (refine wpListIn_putB (ro := none) rfl _ _ _ rfl rfl rfl qr (by rfl) (by rfl) (by rfl) ?_; intro w9 qn hg; replace hb0 := hb0.grown hg (Nat.le_succ _); replace hK := (hg.block D (Array.getElem?_eq_some_iff.1 hK).1 (fun e => hDr (by cases e; rfl))).trans hK; clear hg qr; have qr := qn; clear qn))
        have q9 := qr.keptN (grownBy_putObj' _ D (.deferred none)) (fun r e => by cases e; exact ⟨_, hK, rfl⟩)
        have o9 := q9.out Try.underlying34 rfl (by rfl)
        refine ⟨by simp, .inl ⟨_, _, rfl, run_takeDeferred hK, ?_⟩⟩
        rw [HV.out]
        refine ⟨.agg #[.bool true, .int .i64 0, .int .u32 1], by simp [results, Try.f31, asAddr, Act.put, o9], ?_,  hb0.out.trans (belowK_b (w := w) (Nat.le_refl _) _ D _ _ (by omega) hK rfl rfl)⟩
        rfl
  case stop =>
    rintro D c pre W hD ⟨⟨r, hr⟩, hne⟩ ⟨rfl, x, rfl, q, hb⟩ hK
    have hx : firstS f.prs = x := by rw [faults_first, ← hr]; rfl
    have hx0 : x ≠ 0 := faults_ne f.prs x (by rw [← hr]; simp)
    have hv : valS f = ⟨true, 0, x⟩ := by unfold valS; rw [hx, if_pos hx0]
    rw [hv]
    gi_wp2
    have q9 := q.keptN (grownBy_putObj' _ D (.deferred none)) (fun r e => by cases e; exact ⟨_, hK, rfl⟩)
    have o9 := q9.out Try.underlying34 rfl (by rfl)
    refine ⟨by simp, .inl ⟨_, _, rfl, run_takeDeferred hK, ?_⟩⟩
    exact ⟨.agg #[.bool true, .int .i64 0, .int .u32 x], by simp [results, Try.f31, asAddr, o9], rfl, hb.trans (belowK_b (w := w) (Nat.le_refl _) _ D _ _ (by omega) hK rfl rfl)⟩
theorem fValues (f : Fm) (A : Option Addr) (n c : Nat) (P : Option Addr) (pn pc : Nat) (w : World) (hp : Prs w P pn pc f.prs) (hpn : pn ≤ 100000) : Calls Try.prog 31 #[.agg #[.int .u8 (f).kd, .int .u8 (f).fl, .int .i64 (f).st, .slice A n c, .int .i64 (f).pd, .int .i64 (f).la, .int .i64 (f).ic, .int .u32 (f).cd, .slice P pn pc, .bool (f).rk, .bool (f).al, .int .i64 (f).dp, .int .u8 (f).wt]] w (FltV (valS f) w) :=
  callsIn_wide.1 (values_in 3 (Nat.le_refl _) f A n c P pn pc w hp hpn)
end Go.Proofs.Ytnjnpnjjpodnnaa
