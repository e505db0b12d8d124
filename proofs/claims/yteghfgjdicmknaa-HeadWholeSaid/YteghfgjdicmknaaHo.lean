/- The contract of head.Put . -/
import Derived.Test.YteghfgjdicmknaaHq
import Derived.Test.YteghfgjdicmknaaI
namespace Go.Proofs.Yteghfgjdicmknaa
open Go.RowKit Go.Shelf
attribute [local go_sem] Oper.semAt_some
set_option linter.unusedVariables false

set_option maxRecDepth 100000 in
set_option maxHeartbeats 1000000 in
theorem fputHNo (L k f s : Int) (w : World) (L0 : -9223372036854775808 ≤ L) (L1 : L ≤ 9223372036854775807) (s0 : -9223372036854775808 ≤ s) (s1 : s ≤ 9223372036854775807) (ok : okH L s = false) :
    Calls Try.prog 8 #[.agg #[.int .i64 L, .int .u8 k, .int .u8 f, .int .i64 s]] w fun e W' => e = .returned (.tuple #[.slice none 0 0, .int .i64 2]) ∧ Below w.heap.size w W' := by
  have b0 : Bel w ((w.alloc (.cells #[.int .i64 L, .int .u8 k, .int .u8 f, .int .i64 s] 23)).alloc (.cells #[.slice none 0 0] 24)) := ((Bel.refl w).alloc _).alloc _
  have q0 := Boxed.new (w.alloc (.cells #[.int .i64 L, .int .u8 k, .int .u8 f, .int .i64 s] 23)) 24 (.slice none 0 0)
  rw [World.size_alloc] at q0
  have hr := fun W => fHRight L k f s W L0 L1 s0 s1
  rw [ok] at hr
  have HR := Lib.hid hr
  have Q0 := Lib.hid q0
  clear hr ok q0
  go_enter Try.func8, Try.ntmps8
  go_wp2_with (go_at_call 15; refine (HR.out _).mono ?_; rintro e w1 ⟨rfl, hb⟩; replace b0 := b0.step hb; have q1 : Boxed w1 (w.heap.size + 1) 24 (.slice none 0 0) := (hb.block _ Q0.out.lt).trans Q0.out; have z0 := q1.cell; have z1 := q1.frozen)
  have q2 := q1.set (.slice none 0 0)
  have z2 := q2.cell
  have b2 := b0.out.setCell (p := ⟨w.heap.size + 1, 0, none⟩) (by simp) (.slice none 0 0)
  exact bodyPost_ret (v := .tuple #[.slice none 0 0, .int .i64 2]) (by simp [results, Try.f8, go_sem, z2]) rfl ⟨rfl, b2⟩

theorem bigE_take (c n : Nat) {j : Nat} (hj : j < c) : (bigE c n).take (j + 1) = (bigE c n).take j ++ [((n / 256 ^ (c - 1 - j) % 256 : Nat) : Int)] := by
  have h2 : j < (bigE c n).length := by rw [bigE_len]; exact hj
  rw [List.take_succ_eq_append_getElem h2]
  have := bigE_get c n hj
  rw [List.getElem?_eq_getElem h2] at this
  simp at this
  rw [this]
  simp
theorem Blk4.not_row {W : World} {b : Nat} {t : TypeId} {x0 x1 x2 x3 : Value} (h : Blk4 W b t x0 x1 x2 x3) (ht : t ≠ 5) {base : Nat} {A : Option Addr} {n c : Nat} {l : List Int} (hm : Mine base W A n c l) (g : Nat) (e : A = some ⟨g, 0, none⟩) : g ≠ b := fun eg => by
  subst eg
  rcases hm.1.2 with ⟨e', _⟩ | ⟨g', cap, cur, e', _, hg, _⟩
  · rw [e] at e'; simp at e'
  · rw [e] at e'
    simp at e'
    obtain ⟨rfl, _⟩ := e'
    have h' : W.heap[g]? = _ := h
    rw [h'] at hg
    simp at hg
    exact ht hg.2
theorem Blk4.setFar {W : World} {b : Nat} {t : TypeId} {x0 x1 x2 x3 : Value} (h : Blk4 W b t x0 x1 x2 x3) {p : Addr} (hp : b ≠ p.block) (v : Value) : Blk4 (W.setCell p v) b t x0 x1 x2 x3 := (Below.heap_setCell W p v b hp).trans h
/-- The bytes of a head's numbers. -/
def partsB (l : List Part) : List Int := l.flatMap fun x => bigE x.1.2 x.1.1
theorem partsB_snoc (l : List Part) (x : Part) : partsB (l ++ [x]) = partsB l ++ bigE x.1.2 x.1.1 := by simp [partsB]
theorem partsB_len (l : List Part) : (partsB l).length ≤ 4 * l.length := by
  induction l with
  | nil => simp [partsB]
  | cons x l ih =>
    have : partsB (x :: l) = bigE x.1.2 x.1.1 ++ partsB l := by simp [partsB]
    rw [this, List.length_append, bigE_len, List.length_cons]
    have := x.2.2
    omega
theorem bigE_one (k : Nat) (h : k ≤ 255) : bigE 1 k = [(k : Int)] := by
  simp [bigE, List.range_succ]
  omega
theorem partsB_all (L k f s : Nat) (hL : L < 4294967296) (hk : k < 4294967296) (hf : f < 4294967296) (hs : s < 4294967296) (k0 : k ≤ 255) (f0 : f ≤ 255) :
    partsB (partsL L k f s hL hk hf hs) = bigE 3 L ++ [(k : Int), (f : Int)] ++ bigE 4 s := by
  simp [partsB, partsL, part, bigE_one k k0, bigE_one f f0]

set_option maxRecDepth 100000 in
set_option maxHeartbeats 1000000 in
theorem put_in (L k f s : Nat) (w : World) (L1 : L < 16777216) (s1 : s < 2147483648) (k0 : k ≤ 255) (f0 : f ≤ 255) (ok : okH L s = true) :
    CallsIn Fence.wide 3 Try.prog 8 #[.agg #[.int .i64 L, .int .u8 k, .int .u8 f, .int .i64 s]] w fun e W' => (∃ A m c, e = .returned (.tuple #[.slice A m c, .int .i64 0]) ∧ Mine w.heap.size W' A m c (bigE 3 L ++ [(k : Int), (f : Int)] ++ bigE 4 s)) ∧ Below w.heap.size w W' := by
  have hr := fun W => fHRight L k f s W (by omega) (by omega) (by omega) (by omega)
  rw [ok] at hr
  have HR := Lib.hid hr
  have q0 := (Blk4.new w 23 (.int .i64 L) (.int .u8 k) (.int .u8 f) (.int .i64 s)).alloc (.cells #[.slice none 0 0] 24)
  have x0 := Boxed.new (w.alloc (.cells #[.int .i64 L, .int .u8 k, .int .u8 f, .int .i64 s] 23)) 24 (.slice none 0 0)
  have b0 : Bel w ((w.alloc (.cells #[.int .i64 L, .int .u8 k, .int .u8 f, .int .i64 s] 23)).alloc (.cells #[.slice none 0 0] 24)) := ((Bel.refl w).alloc _).alloc _
  rw [World.size_alloc] at x0
  have Q0 := Lib.hid q0
  have X0 := Lib.hid x0
  clear hr ok q0 x0
  refine callsIn_of_wp_marks Try.func8 rfl trivial ?_ rfl
  simp only [Try.ntmps8, List.size_toArray, List.length_cons, List.length_nil, Nat.reduceAdd, Nat.reduceSub, Array.replicate_succ, Array.replicate_zero, List.push_toArray, List.append_toArray, List.nil_append, List.cons_append]
  gi_wp2_with (first
    | (refine ⟨trivial, ?_⟩; gi_at_call 15; refine (callsIn_wide.2 (HR.out _)).mono ?_; rintro e w1 ⟨rfl, hb⟩; replace b0 := b0.step hb; have q1 := Q0.out.below hb; obtain ⟨z0, z1, z2, z3⟩ := q1.cells; have x1 : Boxed w1 (w.heap.size + 1) 24 (.slice none 0 0) := (hb.block _ X0.out.lt).trans X0.out)
    | (refine ⟨trivial, ?_⟩; gi_at_call 21; refine (parts_in _ _ _ _ _ _).mono ?_; rintro e w' ⟨rfl, rfl⟩))
  clear z0 z1 z2 z3 q1
  have hxlt := x1.lt
  have p0 := Blk4.new w1 23 (.int .i64 L) (.int .u8 k) (.int .u8 f) (.int .i64 s)
  have p1 := x1.alloc (.cells #[.int .i64 L, .int .u8 k, .int .u8 f, .int .i64 s] 23)
  have p2 : Below w.heap.size w (w1.alloc (.cells #[.int .i64 L, .int .u8 k, .int .u8 f, .int .i64 s] 23)) := (b0.alloc _).out
  have psz : (w1.alloc (.cells #[.int .i64 L, .int .u8 k, .int .u8 f, .int .i64 s] 23)).heap.size = w1.heap.size + 1 := by simp
  obtain ⟨Bh, hBh⟩ : ∃ Bh, Bh = w1.heap.size := ⟨_, rfl⟩
  rw [← hBh] at p0 hxlt psz ⊢
  clear b0 x1 HR Q0 X0
  generalize w1.alloc (.cells #[.int .i64 L, .int .u8 k, .int .u8 f, .int .i64 s] 23) = W0 at *
  clear hBh
  have kept4 : ∀ {X Y : World} {row : Option Nat}, Blk4 X Bh 23 (.int .i64 L) (.int .u8 k) (.int .u8 f) (.int .i64 s) → X.grownBy Y row → (∀ r, row = some r → ∃ o : Obj, X.heap[r]? = some o ∧ o.isCells = false) → Blk4 Y Bh 23 (.int .i64 L) (.int .u8 k) (.int .u8 f) (.int .i64 s) :=
    fun h hg hr => (grownBy_keeps_cells hg hr h rfl).trans h
  refine wpIn_range_priv rfl (by decide) (Pv := fun _ => False) (gf := 29) (lb := #[.pointer (some ⟨Bh, 0, none⟩)]) rfl trivial (enters_of Try.func29 (by kernel_rfl) rfl)
    (fun b hb => hb.elim) (parts_stops 2 (by decide) Bh L k f s (by omega) (by omega) (by omega) (by omega) L1 k0 f0 s1 _ p0) (fun h k => Same1.trans h k) (Same1.put (by omega)) (fun _ => rfl)
    (fun pre W => (∃ A c, Boxed W (w.heap.size + 1) 24 (.slice A (partsB pre).length c) ∧ Mine w.heap.size W A (partsB pre).length c (partsB pre)) ∧ Blk4 W Bh 23 (.int .i64 L) (.int .u8 k) (.int .u8 f) (.int .i64 s) ∧ Below w.heap.size w W)
    (fun _ _ _ => False)
    (fun s X Y row hs hg hr => by
      obtain ⟨⟨A, c, hb, hmn⟩, hv, hbel⟩ := hs
      exact ⟨⟨A, c, boxed_keptN hb hg (fun r e => (hr r e).2), hmn.keptN hg (fun r e => (hr r e).2)⟩, kept4 hv hg (fun r e => (hr r e).2), hbel.grown hg hbel.size (fun r e => by have := (hr r e).1; have := p2.size; omega)⟩)
    (fun _ _ _ _ _ hs _ _ => hs)
    ?priv ?start ?round ?done ?stop
  case priv => exact fun b hb => hb.elim
  case start => exact ⟨⟨none, 0, p1, Mine.nil _ _⟩, p0, p2⟩
  case round =>
    intro y
    obtain ⟨⟨v, cnt⟩, hy, hcnt⟩ := y
    simp only at hy hcnt
    simp only [encP]
    constructor
    constructor
    · intro l W K hK
      gi_wp2
      exact hK
    · rintro l pre W ⟨⟨A, c, hb, hmn⟩, hv, hbel⟩ hlen
      have hpl := partsB_len pre
      have hpl2 : (partsB pre).length ≤ 16 := by omega
      clear hpl
      have Hsn := Lib.hid (partsB_snoc pre ⟨(v, cnt), hy, hcnt⟩)
      generalize partsB pre = P at *
      gi_wp2
      gi_loopw [5] (fun b wr => ∃ m : Nat, m ≤ cnt ∧ b = .int .i64 (8 * (m : Int) - 8) ∧ (∃ A c, Boxed wr (w.heap.size + 1) 24 (.slice A (P.length + (cnt - m)) c) ∧ Mine w.heap.size wr A (P.length + (cnt - m)) c (P ++ (bigE cnt v).take (cnt - m))) ∧ Blk4 wr Bh 23 (.int .i64 L) (.int .u8 k) (.int .u8 f) (.int .i64 s) ∧ Below w.heap.size w wr ∧ KeepsOthers W wr)
        (fun b _ => (intOf b + 8).toNat)
      case atStart => exact ⟨cnt, Nat.le_refl _, rfl, ⟨A, c, by simpa using hb, by simpa using hmn⟩, hv, hbel, KeepsOthers.refl _⟩
      case round =>
        obtain ⟨m, hm, rfl, ⟨A', c', hb', hm'⟩, hv', hbel', hk'⟩ := hrel
        rcases m with _ | m
        · rw [show (8 * ((0 : Nat) : Int) - 8) = -8 by omega]
          gi_wp2
          have hall : (bigE cnt v).take (cnt - 0) = bigE cnt v := List.take_of_length_le (by rw [bigE_len]; exact Nat.le_refl _)
          rw [hall] at hm'
          have hln := hm'.len
          rw [Nat.sub_zero] at hm' hb'
          refine ⟨hk'.from _, Eq.trans hv' (Eq.symm hv), ⟨A', c', ?_, ?_⟩, hv', hbel'⟩
          · rw [Hsn.out]
            rw [List.length_append, bigE_len]; exact hb'
          · rw [Hsn.out]
            rw [List.length_append, bigE_len]; exact hm'
        · rw [show (8 * ((m + 1 : Nat) : Int) - 8) = 8 * (m : Int) by omega]
          have hz := hb'.cell
          have HB := Lib.hid hb'
          have HV := Lib.hid hv'
          clear hb' hv'
          gi_wp2
          have hz1 : wr.drew.cell? ⟨w.heap.size + 1, 0, none⟩ = some (.slice A' (P.length + (cnt - (m + 1))) c') := hz
          refine wpIn_region_GR (fun w' => w'.cell? ⟨w.heap.size + 1, 0, none⟩ = some (.slice A' (P.length + (cnt - (m + 1))) c')) [7] (by kernel_rfl) (by kernel_rfl) (fun ⟨_, _, h⟩ => h) ?_
          refine wpAnyG_take 0 (v := ?_) rfl (by kernel_rfl) (fun _ _ _ h => h) hz1 (Or.inl ⟨by rfl, by intro w' hSw; (try dsimp only at hSw); go_simp; try with_reducible rfl⟩) ?_; (try simp only [Act.put, go_sem])
          refine wpAnyG_take 1 (v := ?_) rfl (by kernel_rfl) (fun _ _ _ h => h) hz1 (Or.inl ⟨by rfl, by intro w' hSw; (try dsimp only at hSw); go_simp; try with_reducible rfl⟩) ?_; (try simp only [Act.put, go_sem])
          refine wpAnyG_take 2 (v := ?_) rfl (by kernel_rfl) (fun _ _ _ h => h) hz1 (Or.inl ⟨by rfl, by intro w' hSw; (try dsimp only at hSw); go_simp; try with_reducible rfl⟩) ?_; (try simp only [Act.put, go_sem])
          refine wpAnyG_take 3 (v := ?_) rfl (by kernel_rfl) (fun _ _ _ h => h) hz1 (Or.inl ⟨by rfl, by intro w' hSw; (try dsimp only at hSw); go_simp; try with_reducible rfl⟩) ?_; (try simp only [Act.put, go_sem])
          refine wpAnyG_take 4 (v := ?_) rfl (by kernel_rfl) (fun _ _ _ h => h) hz1 (Or.inl ⟨by rfl, by intro w' hSw; (try dsimp only at hSw); go_simp; try with_reducible rfl⟩) ?_; (try simp only [Act.put, go_sem])
          have h8 : (8 * (m : Int)).toNat = 8 * m := by omega
          have hyv : IntKind.u8.wrap ((v : Int) / 2 ^ (8 * m)) = ((v / 256 ^ m % 256 : Nat) : Int) := by rw [pow256]; simp [IntKind.wrap, IntKind.bits, IntKind.signed]
          simp only [h8, hyv]
          have htk : (bigE cnt v).take (cnt - m) = (bigE cnt v).take (cnt - (m + 1)) ++ [((v / 256 ^ m % 256 : Nat) : Int)] := by
            have := bigE_take cnt v (j := cnt - (m + 1)) (by omega)
            rw [show cnt - (m + 1) + 1 = cnt - m by omega, show cnt - 1 - (cnt - (m + 1)) = m by omega] at this
            exact this
          have hyb : 0 ≤ ((v / 256 ^ m % 256 : Nat) : Int) ∧ ((v / 256 ^ m % 256 : Nat) : Int) ≤ 255 := by omega
          have Htk := Lib.hid htk
          clear h8 hyv htk
          generalize ((v / 256 ^ m % 256 : Nat) : Int) = y at *
          have hlen1 : P.length + (cnt - (m + 1)) + 1 = P.length + (cnt - m) := by omega
          have Hln := Lib.hid hlen1
          clear hlen1
          refine wpAnyG_one 5 (by kernel_rfl) rfl (fun K hK => ?_)
          go_simp
          refine hK.out _ _ (fun _ => (World.cell?_alloc_lt wr _ ⟨w.heap.size + 1, 0, none⟩ HB.out.lt).trans hz) ?_
          clear hK K
          refine wpAnyG_one 6 (by kernel_rfl) rfl (fun K hK => ?_)
          refine step_app1 wr.drew rfl (.tmp 19) (.tmp 24) rfl w.heap.size A' _ c' _ rfl hm'.drew y rfl (by rfl) hyb (by omega) hbel'.size ?_
          intro A2 c2 w2 hown2' hgr2
          obtain ⟨g1, g2, g3, g4, g5⟩ := Boxed.appended (W := wr.drew) HB.out (by decide) hm'.drew.1 hbel'.size (by omega) hown2'.1 hgr2
          have hcc := g1.cell
          have hff := g1.frozen
          refine hK.out _ _ (fun _ => hcc) ?_
          clear hK K
          refine wpAnyG_one 7 (by kernel_rfl) rfl (fun K hK => ?_)
          go_simp
          refine hK.out _ _ (fun h => by simp at h) ?_
          clear hK K
          refine wpAnyG_done (by kernel_rfl) ?_ _
          gi_wp2
          have hv2 : Blk4 w2 Bh 23 (.int .i64 L) (.int .u8 k) (.int .u8 f) (.int .i64 s) := by
            refine Eq.trans (hgr2.block Bh (by have := HV.out.lt; simp; omega) (fun e => ?_)) ((HV.out.drew).alloc _)
            rcases hm'.cases with ⟨rfl, _⟩ | ⟨g, rfl, _, _, _⟩
            · simp [Value.ownBlock] at e
            · simp [Value.ownBlock] at e
              exact Blk4.not_row HV.out (by decide) hm' _ rfl e.symm
          have hv3 := hv2.setFar (p := ⟨w.heap.size + 1, 0, none⟩) (by simp; omega) (.slice A2 (P.length + (cnt - (m + 1)) + 1) c2)
          refine ⟨⟨m, by omega, rfl, ⟨A2, c2, ?_, ?_⟩, hv3, hbel'.trans (Below.trans (draw_bel _ _) g5), hk'.trans ((KeepsOthers.drew _).trans g4)⟩, by simp [intOf]; omega⟩
          · rw [← Hln.out]; exact g2
          · rw [← Hln.out, Htk.out, ← List.append_assoc]; exact ⟨g3, hown2'.2⟩
  case done =>
    rintro D ys W hD hys ⟨⟨A, c, hb, hmn⟩, hv, hbel⟩ hK
    have hcb := hb.cell
    have hfb := hb.frozen
    have hl : partsB ys = bigE 3 L ++ [(k : Int), (f : Int)] ++ bigE 4 s := by rw [hys]; exact partsB_all L k f s _ _ _ _ k0 f0
    rw [hl] at hb hmn hcb
    generalize hP : bigE 3 L ++ [(k : Int), (f : Int)] ++ bigE 4 s = P at *
    have HP := Lib.hid hP
    clear hP hl
    gi_wp2
    have hK' := (KeepsOthers.setCell W ⟨w.heap.size + 1, 0, none⟩ (.slice A P.length c)).same D _ hK rfl
    refine ⟨by simp, .inl ⟨_, _, rfl, run_takeDeferred hK', ?_⟩⟩
    have hc5 := cell_kept (hb.set (.slice A P.length c)).cell (grownBy_putObj' _ D (.deferred none)) (fun r e => by cases e; exact ⟨_, hK', rfl⟩)
    refine ⟨.tuple #[.slice A P.length c, .int .i64 0], by simp [results, Try.f8, go_sem, hc5], ⟨A, P.length, c, rfl, ?_⟩, ?_⟩
    · rw [HP.out]
      exact (hmn.box hb (by decide) (.slice A P.length c)).keptN (grownBy_putObj' _ D (.deferred none)) (fun r e => by cases e; exact ⟨_, hK', rfl⟩)
    · exact (hbel.setCell (p := ⟨w.heap.size + 1, 0, none⟩) (by simp) _).trans (belowK_b (w := w) (Nat.le_refl _) _ D _ _ (by have := p2.size; omega) hK' rfl rfl)
  case stop =>
    rintro D c pre W _ _ h _
    exact h.elim

theorem fHPut (L k f s : Int) (w : World) (L0 : -9223372036854775808 ≤ L) (L1 : L ≤ 9223372036854775807) (s0 : -9223372036854775808 ≤ s) (s1 : s ≤ 9223372036854775807) (k0 : 0 ≤ k ∧ k ≤ 255) (f0 : 0 ≤ f ∧ f ≤ 255) :
    Calls Try.prog 8 #[.agg #[.int .i64 L, .int .u8 k, .int .u8 f, .int .i64 s]] w (PutHP L k f s w) := by
  unfold PutHP putH putHe
  cases ok : okH L s
  · refine (fputHNo L k f s w L0 L1 s0 s1 ok).mono ?_
    rintro e W' ⟨rfl, hb⟩
    exact ⟨⟨none, 0, 0, rfl, Mine.nil _ _⟩, hb⟩
  · have yes := of_decide_eq_true ok
    obtain ⟨L, rfl⟩ := toNat_lit yes.1
    obtain ⟨s, rfl⟩ := toNat_lit yes.2.2.1
    obtain ⟨k, rfl⟩ := toNat_lit k0.1
    obtain ⟨f, rfl⟩ := toNat_lit f0.1
    refine (callsIn_wide.1 (put_in L k f s w (by omega) (by omega) (by omega) (by omega) ok)).mono ?_
    rintro e W' ⟨⟨A, m, c, rfl, hm⟩, hb⟩
    exact ⟨⟨A, m, c, rfl, by simpa using hm⟩, hb⟩
end Go.Proofs.Yteghfgjdicmknaa
