/- HeadWhole: a frame is whole just if as many bytes stand behind its head as it tells: the walk. -/
import Derived.Test.YteghfgjdicmknaaBack
namespace Go.Proofs.Yteghfgjdicmknaa
open Go.RowKit Go.Shelf
set_option linter.unusedVariables false

theorem Byt.far0 {w : World} {A : Option Addr} {n c : Nat} {l : List Int} (h : Byt w A n c l) {p : Addr} (hp : w.heap.size ≤ p.block) {w' : World} (hb : Below w.heap.size w w') (v : Value) : Byt (w'.setCell p v) A n c l := by
  by_cases hn : 0 < n
  · exact h.farP hn hp hb v
  · exact ⟨h.len, h.cap, h.mx, h.nn, h.bs, fun h0 => absurd h0 hn⟩
theorem Blk4.set0 {W : World} {b : Nat} {t : TypeId} {x0 x1 x2 x3 : Value} (h : Blk4 W b t x0 x1 x2 x3) (y0 : Value) : Blk4 (W.setCell ⟨b, 0, none⟩ y0) b t y0 x1 x2 x3 := by
  have h' : W.heap[b]? = _ := h
  simp [Blk4, World.setCell, Array.getElem?_modify, h']
theorem rHPutE {L k f s : Int} {l : List Int} {e' : Int} {n' : Nat} (hl : l.length = n') (hr : putH L k f s = l) (he : putHe L s = e') (w : World) (L0 : -9223372036854775808 ≤ L) (L1 : L ≤ 9223372036854775807) (s0 : -9223372036854775808 ≤ s) (s1 : s ≤ 9223372036854775807) (k0 : 0 ≤ k ∧ k ≤ 255) (f0 : 0 ≤ f ∧ f ≤ 255) :
    Calls Try.prog 9 #[.agg #[.int .i64 L, .int .u8 k, .int .u8 f, .int .i64 s]] w fun e W' => ∃ A c, e = .returned (.tuple #[.slice A n' c, .int .i64 e']) ∧ Mine w.heap.size W' A n' c l ∧ Below w.heap.size w W' := by
  subst hr he hl
  refine (rHPut L k f s w L0 L1 s0 s1 k0 f0).mono ?_
  rintro e W' ⟨⟨A, m, c, rfl, hm⟩, hb⟩
  have := hm.len
  subst this
  exact ⟨A, c, rfl, hm, hb⟩

set_option maxRecDepth 100000 in
set_option maxHeartbeats 600000 in
theorem wholeBig (L k f s : Int) (A : Option Addr) (n c : Nat) (B : Option Addr) (m d : Nat) (W : World) (hl : 3000 < n ∨ 3000 < m ∨ okH L s = false) (L0 : -9223372036854775808 ≤ L) (L1 : L ≤ 9223372036854775807) (s0 : -9223372036854775808 ≤ s) (s1 : s ≤ 9223372036854775807) :
    Calls Try.prog 5 #[.agg #[.int .i64 L, .int .u8 k, .int .u8 f, .int .i64 s], .slice A n c, .slice B m d] W fun e w' => e = .returned (.bool true) ∧ Below W.heap.size W w' := by
  have b0 := (Bel.refl W).alloc (.cells #[.int .i64 L, .int .u8 k, .int .u8 f, .int .i64 s] 23)
  by_cases h1 : 3000 < n
  · clear hl
    go_enter Try.func5, Try.ntmps5
    go_wp2_with (first | (go_at_call 7; refine (fWakes _).mono ?_; rintro e w' ⟨rfl, hb⟩; replace b0 := b0.step hb))
    go_ret
    exact ⟨rfl, b0.out⟩
  by_cases h2 : 3000 < m
  · have h3 : n ≤ 3000 := by omega
    clear hl h1
    go_enter Try.func5, Try.ntmps5
    go_wp2_with (first | (go_at_call 7; refine (fWakes _).mono ?_; rintro e w' ⟨rfl, hb⟩; replace b0 := b0.step hb))
    go_ret
    exact ⟨rfl, b0.out⟩
  · have h3 : n ≤ 3000 := by omega
    have h4 : m ≤ 3000 := by omega
    have ok : okH L s = false := by rcases hl with h | h | h; · omega
                                    · omega
                                    · exact h
    have R2 := Lib.hid fun w => rHRight L k f s w L0 L1 s0 s1
    rw [ok] at R2
    clear hl h1 h2 ok
    go_enter Try.func5, Try.ntmps5
    go_wp2_with (first
      | (go_at_call 16; refine (R2.out _).mono ?_; rintro e w1 ⟨rfl, hb⟩; replace b0 := b0.step hb)
      | (go_at_call 7; refine (fWakes _).mono ?_; rintro e w' ⟨rfl, hb⟩; replace b0 := b0.step hb))
    go_ret
    exact ⟨rfl, b0.out⟩

set_option maxRecDepth 100000 in
set_option maxHeartbeats 600000 in
theorem wholeOk (L k f s : Int) (A : Option Addr) (n c : Nat) (l : List Int) (B : Option Addr) (m d : Nat) (l' : List Int) (W : World) (h : Byt W A n c l) (h' : Byt W B m d l') (h1 : n ≤ 3000) (h2 : m ≤ 3000) (P : List Int)
    (R2 : Hid (∀ w, Calls Try.prog 16 #[.agg #[.int .i64 L, .int .u8 k, .int .u8 f, .int .i64 s]] w (BoolP true w)))
    (P1 : Hid (∀ w, Calls Try.prog 9 #[.agg #[.int .i64 (n : Int), .int .u8 k, .int .u8 f, .int .i64 s]] w fun e W' => ∃ A c, e = .returned (.tuple #[.slice A 9 c, .int .i64 0]) ∧ Mine w.heap.size W' A 9 c P ∧ Below w.heap.size w W'))
    (hPl : Hid (P.length = 9))
    (T1 : Hid (∀ (w : World) (X : Option Addr) (cx : Nat), Byt w X (9 + n + m) cx (P ++ l ++ l') → Calls Try.prog 13 #[.slice X (9 + n + m) cx] w fun e W' => ∃ A c B d, e = .returned (.tuple #[.agg #[.int .i64 (n : Int), .int .u8 k, .int .u8 f, .int .i64 s], .slice A n c, .slice B m d, .int .i64 0]) ∧ Mine w.heap.size W' A n c l ∧ Mine w.heap.size W' B m d l' ∧ Below w.heap.size w W'))
    (TL TK TF TS : Int)
    (T2 : Hid (∀ (w : World) (X : Option Addr) (cx : Nat), Byt w X (8 + n) cx ((P ++ l).take (8 + n)) → Calls Try.prog 13 #[.slice X (8 + n) cx] w fun e W' => ∃ A c B d, e = .returned (.tuple #[.agg #[.int .i64 TL, .int .u8 TK, .int .u8 TF, .int .i64 TS], .slice A 0 c, .slice B 0 d, .int .i64 10]) ∧ Below w.heap.size w W')) :
    Calls Try.prog 5 #[.agg #[.int .i64 L, .int .u8 k, .int .u8 f, .int .i64 s], .slice A n c, .slice B m d] W fun e w' => e = .returned (.bool true) ∧ Below W.heap.size W w' := by
  have q := Blk4.new W 23 (.int .i64 L) (.int .u8 k) (.int .u8 f) (.int .i64 s)
  have b0 := (Bel.refl W).alloc (.cells #[.int .i64 L, .int .u8 k, .int .u8 f, .int .i64 s] 23)
  have Y := Lib.hid h
  have Y' := Lib.hid h'
  have hl := Lib.hid h.len
  have hl' := Lib.hid h'.len
  clear h h'
  go_enter Try.func5, Try.ntmps5
  go_wp2_with fail
  refine (R2.out _).mono ?_
  rintro e w1 ⟨rfl, hb⟩
  replace b0 := (b0).below hb; replace q := (q).below hb
  obtain ⟨z0, z1, z2, z3⟩ := q.cells
  have f0 := q.frozen 0
  have q2 := q.set0 (.int .i64 (n : Int))
  have b2 : Bel W (w1.setCell ⟨W.heap.size, 0, none⟩ (.int .i64 (n : Int))) := ⟨b0.out.setCell (p := ⟨W.heap.size, 0, none⟩) (Nat.le_refl _) _⟩
  have y := Y.out.far0 (p := ⟨W.heap.size, 0, none⟩) (Nat.le_refl _) b0.out (.int .i64 (n : Int))
  have y' := Y'.out.far0 (p := ⟨W.heap.size, 0, none⟩) (Nat.le_refl _) b0.out (.int .i64 (n : Int))
  obtain ⟨x0, x1, x2, x3⟩ := q2.cells
  clear b0 q
  go_wp2_with fail
  refine (P1.out _).mono ?_
  rintro e w2 ⟨A2, c2, rfl, m2, hb⟩
  replace b2 := (b2).below hb; replace q2 := (q2).below hb; replace y := (y).below hb; replace y' := (y').below hb
  clear z0 z1 z2 z3 x0 x1 x2 x3 f0
  go_wp2_with (first
    | (at_builtin; refine wpList_copy w2 rfl (.tmp 40) (.tmp 41) rfl rfl (by rfl) A2 9 c2 P rfl m2.byt (by decide) ?_; intro A3 c3 w3 m3 hb3)
    | (at_builtin; refine wpList_app w3 rfl (.tmp 42) (.tmp 43) rfl w2.heap.size A3 9 c3 P rfl m3 A n c l rfl (y.below hb3) (by have := hPl.out; have := hl.out; omega) hb3.size ?_; intro A4 c4 w4 m4 hb4 _ _; have hb34 := hb3.trans hb4; replace b2 := (b2).below hb34; replace q2 := (q2).below hb34; replace y := (y).below hb34; replace y' := (y').below hb34; clear hb3 hb4 hb34 m3)
    | (at_builtin; refine wpList_copy w4 rfl (.tmp 46) (.tmp 47) rfl rfl (by rfl) A4 (9 + n) c4 (P ++ l) rfl m4.byt (by omega) ?_; intro A5 c5 w5 m5 hb5)
    | (at_builtin; go_must (refine wpList_app w5 rfl (.tmp 48) (.tmp 49) rfl w4.heap.size A5 (9 + n) c5 (P ++ l) rfl m5 B m d l' rfl (y'.below hb5) (by have := hPl.out; have := hl.out; have := hl'.out; simp; omega) hb5.size ?_); intro A6 c6 w6 m6 hb6 _ _; have hb56 := hb5.trans hb6; have y4 := m4.byt; replace b2 := (b2).below hb56; replace q2 := (q2).below hb56; replace y := (y).below hb56; replace y' := (y').below hb56; replace y4 := (y4).below hb56; clear hb5 hb6 hb56 m5))
  refine (T1.out _ _ _ m6.byt).mono ?_
  rintro e w7 ⟨A7, c7, B7, d7, rfl, m7, m7', hb⟩
  replace b2 := (b2).below hb; replace q2 := (q2).below hb; replace y := (y).below hb; replace y' := (y').below hb; replace y4 := (y4).below hb
  have hc4 := y4.cap
  have g4 : (9 : Int) + (n : Int) ≤ (c4 : Int) := by omega
  have q7 := Blk4.new w7 23 (.int .i64 (n : Int)) (.int .u8 k) (.int .u8 f) (.int .i64 s)
  go_wp2_with fail
  refine (T2.out _ _ _ ((y4.alloc _).init (k := 8 + n) (by omega))).mono ?_
  rintro e w8 ⟨A8, c8, B8, d8, rfl, hb⟩
  have p7 := m7.byt
  have p7' := m7'.byt
  replace b2 := (b2.alloc _).below hb; replace q2 := (q2.alloc _).below hb; replace y := (y.alloc _).below hb; replace y' := (y'.alloc _).below hb; replace p7 := (p7.alloc _).below hb; replace p7' := (p7'.alloc _).below hb
  replace q7 := q7.below hb
  replace q2 := q2.alloc (.cells #[.int .i64 TL, .int .u8 TK, .int .u8 TF, .int .i64 TS] 23)
  replace q7 := q7.alloc (.cells #[.int .i64 TL, .int .u8 TK, .int .u8 TF, .int .i64 TS] 23)
  have b0 := b2.alloc (.cells #[.int .i64 TL, .int .u8 TK, .int .u8 TF, .int .i64 TS] 23)
  obtain ⟨z0, z1, z2, z3⟩ := q2.cells
  obtain ⟨x0, x1, x2, x3⟩ := q7.cells
  go_wp2_with (first
    | (go_at_call 12; (with_reducible refine (fSameT _ _ (p7.alloc _) (y.alloc _)).mono ?_); rintro e w' ⟨rfl, rfl⟩)
    | (go_at_call 12; (with_reducible refine (fSameT _ _ (p7'.alloc _) (y'.alloc _)).mono ?_); rintro e w' ⟨rfl, rfl⟩)
    | (go_at_call 7; refine (fWakes _).mono ?_; rintro e w' ⟨rfl, hb⟩; replace b0 := b0.step hb))
  go_ret
  exact ⟨rfl, b0.out⟩

theorem wWhole {W : World} (L k f s : Int) (bL : -9223372036854775808 ≤ L ∧ L ≤ 9223372036854775807) (bs : -9223372036854775808 ≤ s ∧ s ≤ 9223372036854775807) (bk : 0 ≤ k ∧ k ≤ 255) (bf : 0 ≤ f ∧ f ≤ 255)
    (A : Option Addr) (n c : Nat) (l : List Int) (h : Byt W A n c l) (B : Option Addr) (m d : Nat) (l' : List Int) (h' : Byt W B m d l') :
    Calls Try.prog 5 #[.agg #[.int .i64 L, .int .u8 k, .int .u8 f, .int .i64 s], .slice A n c, .slice B m d] W fun e w' => e = .returned (.bool true) ∧ Below W.heap.size W w' := by
  have hl := h.len
  have hl' := h'.len
  by_cases hbig : 3000 < n ∨ 3000 < m ∨ okH L s = false
  · exact wholeBig L k f s A n c B m d W hbig bL.1 bL.2 bs.1 bs.2
  have h1 : n ≤ 3000 := Nat.le_of_not_lt fun h => hbig (.inl h)
  have h2 : m ≤ 3000 := Nat.le_of_not_lt fun h => hbig (.inr (.inl h))
  have ok : okH L s = true := by
    cases hk : okH L s
    · exact absurd (.inr (.inr hk)) hbig
    · rfl
  have yes := of_decide_eq_true ok
  obtain ⟨s, rfl⟩ := toNat_lit yes.2.2.1
  have okn : okH (n : Int) s = true := decide_eq_true (by omega)
  have hPl : (bigE 3 n ++ [k, f] ++ bigE 4 s).length = 9 := by simp [bigE_len]
  refine wholeOk L k f s A n c l B m d l' W h h' h1 h2 (bigE 3 n ++ [k, f] ++ bigE 4 s) ?_ ?_ (Lib.hid hPl) ?_ (hL ((bigE 3 n ++ [k, f] ++ bigE 4 s ++ l).take (8 + n))) (hK ((bigE 3 n ++ [k, f] ++ bigE 4 s ++ l).take (8 + n))) (hF ((bigE 3 n ++ [k, f] ++ bigE 4 s ++ l).take (8 + n))) (hS ((bigE 3 n ++ [k, f] ++ bigE 4 s ++ l).take (8 + n))) ?_
  · refine Lib.hid fun w => ?_
    have := rHRight L k f s w bL.1 bL.2 bs.1 bs.2
    rwa [ok] at this
  · exact Lib.hid fun w => rHPutE (e' := 0) hPl (by unfold putH; rw [okn]; rfl) (by unfold putHe; rw [okn]; rfl) w (by omega) (by omega) bs.1 bs.2 bk bf
  · refine Lib.hid fun w X cx hw => ?_
    obtain ⟨e1, e2, e3, e4, e5, e6⟩ := head_back n s k f (l ++ l') (by omega) (by omega)
    rw [← List.append_assoc] at e1 e2 e3 e4 e5 e6
    have okw : wOk (bigE 3 n ++ [k, f] ++ bigE 4 s ++ l ++ l') = true := decide_eq_true (by rw [e1, e5]; simp only [List.length_append, bigE_len, List.length_cons, List.length_nil]; omega)
    refine fHWholeE hl hl' ?_ w hw (by omega)
    rw [e1, e2, e3, e4]
    unfold wP wR wE
    rw [okw, e1, e5]
    simp [← hl]
  · refine Lib.hid fun w X cx hw => ?_
    have okw : wOk ((bigE 3 n ++ [k, f] ++ bigE 4 s ++ l).take (8 + n)) = false := by
      refine decide_eq_false ?_
      rintro ⟨g1, g2⟩
      have hn : 0 < n := by
        rw [List.length_take] at g1
        omega
      have et : (bigE 3 n ++ [k, f] ++ bigE 4 s ++ l).take (8 + n) = bigE 3 n ++ [k, f] ++ bigE 4 s ++ l.take (n - 1) := by
        rw [List.take_append, List.take_of_length_le (by omega), hPl, show 8 + n - 9 = n - 1 by omega]
      obtain ⟨e1, e2, e3, e4, e5, e6⟩ := head_back n s k f (l.take (n - 1)) (by omega) (by omega)
      rw [et, e1, e5, List.length_take] at g2
      omega
    have := fHWhole X (8 + n) cx _ w hw (by omega)
    refine this.mono ?_
    rintro e W' ⟨⟨A, m, c, B, j, d, rfl, hm, hm'⟩, hb⟩
    have eP : wP ((bigE 3 n ++ [k, f] ++ bigE 4 s ++ l).take (8 + n)) = [] := by unfold wP; rw [okw]; rfl
    have eR : wR ((bigE 3 n ++ [k, f] ++ bigE 4 s ++ l).take (8 + n)) = [] := by unfold wR; rw [okw]; rfl
    have eE : wE ((bigE 3 n ++ [k, f] ++ bigE 4 s ++ l).take (8 + n)) = 10 := by unfold wE; rw [okw]; rfl
    have e1 := hm.len
    have e2 := hm'.len
    rw [eP] at e1
    rw [eR] at e2
    rw [eE]
    simp at e1 e2
    subst e1 e2
    exact ⟨A, c, B, d, rfl, hb⟩
end Go.Proofs.Yteghfgjdicmknaa
