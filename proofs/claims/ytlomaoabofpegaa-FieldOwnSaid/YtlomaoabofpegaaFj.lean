/- Settings taken: the contract. -/
import Derived.Test.YtlomaoabofpegaaFi
import Derived.Test.YtlomaoabofpegaaRa
namespace Go.Proofs.Ytlomaoabofpegaa
open Go.RowKit Go.Shelf
attribute [local go_sem] Oper.semAt_some
set_option linter.unusedVariables false

theorem MineP.keptN {base : Nat} {W W' : World} {A : Option Addr} {n c : Nat} {l : List (Int × Int)} {row : Option Nat} (h : MineP base W A n c l) (hg : W.grownBy W' row) (hr : ∀ r, row = some r → ∃ o : Obj, W.heap[r]? = some o ∧ o.isCells = false) : MineP base W' A n c l := by
  refine ⟨⟨h.1.1, ?_⟩, h.2⟩
  rcases h.1.2 with h' | ⟨g, cap, cur, e, hb, hgk, hrest⟩
  · exact .inl h'
  · exact .inr ⟨g, cap, cur, e, hb, (grownBy_keeps_cells hg hr hgk rfl).trans hgk, hrest⟩
theorem MineP.box {base : Nat} {W : World} {A : Option Addr} {n c : Nat} {l : List (Int × Int)} (h : MineP base W A n c l) {B : Nat} {t : TypeId} {u : Value} (hb : Boxed W B t u) (ht : t ≠ 47) (v : Value) : MineP base (W.setCell ⟨B, 0, none⟩ v) A n c l :=
  h.far (fun g e e' => by
    have := hb.not_row ht h.1
    subst e
    exact this (by simp only at e'; simp [Value.ownBlock, e'])) v

/-- append(v, p) within a fence: v of the call's own. -/
theorem wpListIn_appP {F : Fence} {nF : Nat} (W : World) {ops : Array Oper} {rest : List Oper} {o : Oper} {a : Act} {Q : Exit → Act → World → Prop} (hgd : o.guard = none) (s x : Operand)
    (ho : o.op = .call { callee := .builtin .append, args := #[s, x], argTypes := #[25, 25] })
    (base : Nat) (A : Option Addr) (n c : Nat) (l : List (Int × Int)) (hs : a.eval s = .slice A n c) (hown : MineP base W A n c l) (p : Int × Int) {g0 : Nat} (hx : a.eval x = .slice (some ⟨g0, 0, none⟩) 1 1) (hg0 : W.heap.size = g0)
    (hp : (0 ≤ p.1 ∧ p.1 ≤ 65535) ∧ (0 ≤ p.2 ∧ p.2 ≤ 4294967295)) (hlen : n + 1 ≤ 1000000) (hbase : base ≤ W.heap.size)
    (h : ∀ A' c' w', MineP base w' A' (n + 1) c' (l ++ [p]) → (W.alloc (.cells #[.int .u16 p.1, .int .u32 p.2] 47)).grownBy w' (Value.slice A n c).ownBlock → wpListIn F nF Try.prog ops Q rest (a.put o.dst (.slice A' (n + 1) c')) w') :
    wpListIn F nF Try.prog ops Q (o :: rest) a (W.alloc (.cells #[.int .u16 p.1, .int .u32 p.2] 47)) := by
  subst hg0
  obtain ⟨i0, hi, hz0, hz1, hz2⟩ := info_parts infoP
  refine wpListIn_append_own_at _ hgd s x 25 ho base 47 i0 (.agg #[.int .u16 0, .int .u32 0]) 2 8 Try.underlying25 hi hz0 hz1 hz2 rfl (by omega) (.slice A n c) n (pcells l) hs (hown.1.alloc _)
    ⟨W.heap.size, 0, none⟩ 1 1 [.int .u16 p.1, .int .u32 p.2] hx rfl (fun j u hu => ?_) (fun u hu => ?_) (by simp only [maxLen]; omega) (by omega) (by simp; omega) ?_
  · rcases j with _ | _ | j
    · simp at hu; subst hu
      exact (Blk.new W 47 #[.int .u16 p.1, .int .u32 p.2]).at 0 rfl
    · simp at hu; subst hu
      rw [Go.WideShapes.add_plain]
      exact (Blk.new W 47 #[.int .u16 p.1, .int .u32 p.2]).at 1 rfl
    · simp at hu
  · simp at hu
    rcases hu with rfl | rfl <;> rfl
  · intro v' w' hown' hgrow _ _
    rcases hown'.2 with ⟨e, he⟩ | ⟨g, cap, cur, e, hr'⟩
    · omega
    · subst e
      exact h _ _ _ ⟨by rw [pcells_app]; exact hown', hown.2.append (PBs.one hp)⟩ hgrow

set_option maxRecDepth 100000 in
set_option maxHeartbeats 4000000 in
theorem take_in (n : Nat) (hn : 3 ≤ n) (A : Option Addr) (m c : Nat) (bs : List Int) (w : World) (h : Byt w A m c bs) (hm : m ≤ 100000) (h6 : m % 6 = 0) :
    CallsIn Fence.wide n Try.prog 17 #[.slice A m c] w (TkP (prsFrom bs 0) 0 w) := by
  have h1 : 1 ≤ n := by omega
  have e0 : ((m : Int).tmod 6 != 0) = false := by
    rw [Int.tmod_eq_emod_of_nonneg (by omega), bne_eq_false_iff_eq]
    omega
  have e1 : ((m : Int) % 6 != 0) = false := by rw [bne_eq_false_iff_eq]; omega
  have bx := Boxed.new w 25 (.slice none 0 0)
  have hl := h.len
  have HH := Lib.hid h
  have HL := Lib.hid hl
  clear h hl
  refine callsIn_of_wp_marks Try.func17 rfl trivial ?_ rfl
  simp only [Try.ntmps17, List.size_toArray, List.length_cons, List.length_nil, Nat.reduceAdd, Nat.reduceSub, Array.replicate_succ, Array.replicate_zero, List.push_toArray, List.append_toArray, List.nil_append, List.cons_append]
  gi_wp2_with fail
  refine ⟨trivial, (pairs_in _ _ _ _ _).mono ?_⟩
  rintro e w1 ⟨rfl, rfl⟩
  gi_wp2
  have bB := (bx.alloc (.cells #[.slice A m c] 22))
  have bN := Boxed.new (w.alloc (.cells #[.slice none 0 0] 25)) 22 (.slice A m c)
  have hbel : Below w.heap.size w ((w.alloc (.cells #[.slice none 0 0] 25)).alloc (.cells #[.slice A m c] 22)) := ((Below.refl _ _).alloc (Nat.le_refl _) _).alloc (by simp) _
  have hsz : ((w.alloc (.cells #[.slice none 0 0] 25)).alloc (.cells #[.slice A m c] 22)).heap.size = w.heap.size + 1 + 1 := by simp
  rw [World.size_alloc] at bN
  have hby := HH.out.below hbel
  have hfar : 0 < m → ∀ b o, A = some ⟨b, o, none⟩ → b < w.heap.size := fun hm b o e => by
    obtain ⟨b', o', e', hlt, _⟩ := HH.out.cell hm
    rw [e] at e'
    cases e'
    exact hlt
  generalize (w.alloc (.cells #[.slice none 0 0] 25)).alloc (.cells #[.slice A m c] 22) = w0 at *
  refine wpIn_range_privA rfl h1 (Pv := fun b => b = w.heap.size + 1) (gf := 34) (lb := #[.pointer (some ⟨w.heap.size + 1, 0, none⟩)]) rfl trivial (enters_of Try.func34 (by kernel_rfl) rfl)
    (fun b hb => by subst hb; omega) (pairs_stops (n - 1) (by omega) (w.heap.size + 1) A m c bs hm w.heap.size (by omega) w0 (by omega) hfar bN hby) (fun h k => h.trans k)
    (fun W l o o' hl ho hc hw => ⟨KB.put (w := w0) (by omega) W l o o' hl ho hc hw, KO.put (w := w0) (by omega) W l o' hl⟩) (fun _ => rfl)
    (fun pre W => (∃ A' c', Boxed W w.heap.size 25 (.slice A' pre.length c') ∧ MineP w.heap.size W A' pre.length c' (pre.map (·.1))) ∧ (∃ v, Boxed W (w.heap.size + 1) 22 v) ∧ Below w.heap.size w W)
    (fun _ _ _ => False)
    (fun s X Y row hs hg hr => by
      obtain ⟨⟨A', c', hb, hmn⟩, ⟨v, hv⟩, hbel⟩ := hs
      exact ⟨⟨A', c', boxed_keptN hb hg (fun r e => (hr r e).2), hmn.keptN hg (fun r e => (hr r e).2)⟩, ⟨v, boxed_keptN hv hg (fun r e => (hr r e).2)⟩, hbel.grown hg hbel.size (fun r e => by have := (hr r e).1; omega)⟩)
    (fun _ _ _ _ _ hs _ _ => hs)
    ?priv ?start
    (fun x a₁ W => ∃ g, a₁ = ⟨#[.slice A m c, undef, .slice none 0 0, .int .i64 0, .pointer (some ⟨w.heap.size, 0, none⟩), .pointer (some ⟨g, 0, none⟩), .slice A m c, .int .i64 m, .int .i64 ((m : Int) % 6), .bool false, .slice A m c, .func (.func 34) #[] #[.pointer (some ⟨w.heap.size + 1, 0, none⟩)], .agg #[.int .u16 x.1.1, .int .u32 x.1.2], undef, undef, undef, undef, undef], []⟩ ∧ Blk W g 47 #[.int .u16 x.1.1, .int .u32 x.1.2])
    (fun x a₁ W l o o' he ho hc => by
      obtain ⟨g, e, hq⟩ := he
      refine ⟨g, e, (World.putObj_heap_other (fun eg => ?_)).trans hq⟩
      subst eg
      rw [show W.heap[g]? = _ from hq] at ho
      cases ho
      cases hc)
    ?assign ?body ?done ?stop
  case priv =>
    rintro b rfl pre W v ⟨⟨A', c', hb, hmn⟩, ⟨v', hv⟩, hbel⟩
    exact ⟨⟨A', c', hb.other (by omega) _, hmn.box hv (by decide) v⟩, ⟨v, hv.set v⟩, hbel.setCell (p := ⟨w.heap.size + 1, 0, none⟩) (Nat.le_succ _) _⟩
  case start => exact ⟨⟨none, 0, bB, MineP.nil _ _⟩, ⟨_, bN⟩, hbel⟩
  case assign =>
    rintro x l pre W K ⟨⟨A', c', hb, hmn⟩, ⟨v', hv⟩, hbl⟩ hK
    gi_wp2
    exact hK _ _ ((KeepsOthers.alloc W _).from _) ⟨fun v hv => hv.alloc _, by simp, fun b hb => Below.heap_alloc W _ b (Nat.lt_of_lt_of_le hb hbl.size)⟩ ⟨⟨A', c', hb.alloc _, hmn.alloc _⟩, ⟨v', hv.alloc _⟩, hbl.alloc hbl.size _⟩ ⟨W.heap.size, rfl, Blk.new W _ _⟩
  case body =>
    rintro x l pre W a₁ ⟨⟨A', c', hb, hmn⟩, ⟨v', hv⟩, hbl⟩ ⟨g, rfl, hq⟩ hlen
    have hcb := hb.cell
    have z0 := hq.at 0 rfl
    have z1 := hq.at 1 rfl
    have Hb := Lib.hid hb
    have Hv := Lib.hid hv
    have Hq := Lib.hid hq
    clear hb hv hq
    obtain ⟨⟨X, Y⟩, hx⟩ := x
    have hlen2 : pre.length + 1 ≤ 1000000 := by omega
    gi_wp2_with (gi_at_builtin; go_must (refine wpListIn_appP W rfl (.tmp 13) (.tmp 15) rfl w.heap.size A' pre.length c' (pre.map (·.1)) rfl hmn (X, Y) rfl rfl hx hlen2 hbl.size ?_; intro A2 c2 w2 hown2' hgr2; obtain ⟨g1, g2, g3, g4, g5⟩ := Hb.out.appended (by decide) hmn.1 hbl.size (Nat.le_refl _) hown2'.1 hgr2; have hv2 := (Hv.out.alloc _).kept hgr2 (Hv.out.not_row (by decide) hmn.1); have hcc := g1.cell; have hff := g1.frozen))
    exact ⟨g4.from _, ⟨fun v hv => ((hv.alloc _).kept hgr2 (hv.not_row (by decide) hmn.1)).other (by omega) _, g5.size, g5.block⟩, ⟨A2, c2, by simpa using g2, ⟨by simpa using g3, by simpa using hown2'.2⟩⟩, ⟨v', hv2.other (by omega) _⟩, hbl.trans g5⟩
  case done =>
    rintro D ys W hD hys ⟨⟨A', c', hb, hmn⟩, ⟨v', hv⟩, hbl⟩ hK
    have hcb := hb.cell
    gi_wp2
    refine ⟨by simp, .inl ⟨_, _, rfl, run_takeDeferred hK, ?_⟩⟩
    refine ⟨.tuple #[.slice A' ys.length c', .int .i64 0], by simp [results, Try.f17, go_sem], A', ys.length, c', rfl, ?_, ?_⟩
    · have h6 := hmn.keptN (grownBy_putObj' _ D (.deferred none)) (fun r e => by cases e; exact ⟨_, hK, rfl⟩)
      rw [hys] at h6
      exact h6
    · exact hbl.trans (belowK_b (w := w) (Nat.le_refl _) _ D _ _ (by omega) hK rfl rfl)
  case stop =>
    rintro D c pre W _ _ h _
    exact h.elim

theorem fTakePairsNo (A : Option Addr) (n c : Nat) (w : World) (hn : n ≤ 100000) (hs : n % 6 ≠ 0) : Calls Try.prog 17 #[.slice A n c] w (TkP [] 10 w) := by
  have e0 : ((n : Int).tmod 6 != 0) = true := by
    rw [Int.tmod_eq_emod_of_nonneg (by omega), bne_iff_ne]
    omega
  have e1 : ((n : Int) % 6 != 0) = true := by rw [bne_iff_ne]; omega
  clear hs
  go_enter Try.func17, Try.ntmps17
  go_wp2
  go_ret2
  exact ⟨none, 0, 0, rfl, MineP.nil _ _, Below.refl _ _⟩
theorem prsFrom_zero (l : List Int) : prsFrom l 0 = (List.range (l.length / 6)).map (onePr l) := by simp [prsFrom]
theorem fTakePairs (A : Option Addr) (n c : Nat) (l : List Int) (w : World) (h : Byt w A n c l) (hn : n ≤ 100000) : Calls Try.prog 17 #[.slice A n c] w (TkP (takePs l) (takePe l) w) := by
  have hl := h.len
  unfold takePs takePe
  by_cases hs : n % 6 = 0
  · rw [if_pos (by omega), if_pos (by omega), ← prsFrom_zero]
    exact callsIn_wide.1 (take_in 3 (Nat.le_refl _) A n c l w h hn hs)
  · rw [if_neg (by omega), if_neg (by omega)]
    exact fTakePairsNo A n c w hn hs
theorem rTakePairs (A : Option Addr) (n c : Nat) (l : List Int) (w : World) (h : Byt w A n c l) (hn : n ≤ 100000) : Calls Try.prog 18 #[.slice A n c] w (TkP (takePs l) (takePe l) w) := by
  have hl := h.len
  unfold takePs takePe
  by_cases hs : n % 6 = 0
  · rw [if_pos (by omega), if_pos (by omega), hl]
    exact rTakePairsYes A n c l w h hn hs
  · rw [if_neg (by omega), if_neg (by omega)]
    exact rTakePairsNo A n c w hn hs
end Go.Proofs.Ytlomaoabofpegaa
