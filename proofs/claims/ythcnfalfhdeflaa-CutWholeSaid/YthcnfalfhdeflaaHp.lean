/- The document's putting of heads: the contract. -/
import Derived.Test.YthcnfalfhdeflaaHx
import Derived.Test.YthcnfalfhdeflaaHk
namespace Go.Proofs.Ythcnfalfhdeflaa
open Go.RowKit Go.Shelf
set_option linter.unusedVariables false

def putH (L k f s : Int) : List Int := if okH L s then bigE 3 L.toNat ++ [k, f] ++ bigE 4 s.toNat else []
def putHe (L s : Int) : Int := if okH L s then 0 else 2
def PutHP (L k f s : Int) (w : World) (e : Ending) (W' : World) : Prop :=
  (∃ A m c, e = .returned (.tuple #[.slice A m c, .int .i64 (putHe L s)]) ∧ Mine w.heap.size W' A m c (putH L k f s)) ∧ Below w.heap.size w W'

theorem rOPutE {n s : Int} {l : List Int} {e' : Int} (hr : putO n s = l) (he : putOe n s = e') (n1 : n ≤ 9223372036854775807) (w : World) :
    Calls Try.prog 25 #[.int .i64 n, .int .i64 s] w fun e W' => ∃ A c, e = .returned (.tuple #[.slice A l.length c, .int .i64 e']) ∧ Mine w.heap.size W' A l.length c l ∧ Below w.heap.size w W' := by
  subst hr he
  refine (rOPut n s w n1).mono ?_
  rintro e W' ⟨⟨A, m, c, rfl, hm⟩, hb⟩
  have := hm.len
  subst this
  exact ⟨A, c, rfl, hm, hb⟩

set_option maxRecDepth 100000 in
set_option maxHeartbeats 1000000 in
theorem rputHNo (L k f s : Int) (w : World) (L0 : -9223372036854775808 ≤ L) (L1 : L ≤ 9223372036854775807) (s0 : -9223372036854775808 ≤ s) (s1 : s ≤ 9223372036854775807) (ok : okH L s = false) :
    Calls Try.prog 12 #[.agg #[.int .i64 L, .int .u8 k, .int .u8 f, .int .i64 s]] w fun e W' => e = .returned (.tuple #[.slice none 0 0, .int .i64 2]) ∧ Below w.heap.size w W' := by
  have b0 : Bel w (w.alloc (.cells #[.int .i64 L, .int .u8 k, .int .u8 f, .int .i64 s] 41)) := (Bel.refl w).alloc _
  have hr := fun W => rHRight L k f s W L0 L1 s0 s1
  rw [ok] at hr
  have HR := Lib.hid hr
  clear hr ok
  go_enter Try.func12, Try.ntmps12
  go_wp2_with (go_at_call 24; refine (HR.out _).mono ?_; rintro e w1 ⟨rfl, hb⟩; replace b0 := b0.step hb)
  go_ret2
  exact ⟨rfl, b0.out⟩

set_option maxRecDepth 100000 in
set_option maxHeartbeats 1000000 in
theorem rputHYes (L k f s : Int) (w : World) (k0 : 0 ≤ k ∧ k ≤ 255) (f0 : 0 ≤ f ∧ f ≤ 255) (ok : okH L s = true) :
    Calls Try.prog 12 #[.agg #[.int .i64 L, .int .u8 k, .int .u8 f, .int .i64 s]] w fun e W' => (∃ A m c, e = .returned (.tuple #[.slice A m c, .int .i64 0]) ∧ Mine w.heap.size W' A m c (bigE 3 L.toNat ++ [k, f] ++ bigE 4 s.toNat)) ∧ Below w.heap.size w W' := by
  have yes := of_decide_eq_true ok
  have q0 := Blk4.new w 41 (.int .i64 L) (.int .u8 k) (.int .u8 f) (.int .i64 s)
  have b0 : Bel w (w.alloc (.cells #[.int .i64 L, .int .u8 k, .int .u8 f, .int .i64 s] 41)) := (Bel.refl w).alloc _
  have hr := fun W => rHRight L k f s W (by omega) (by omega) (by omega) (by omega)
  rw [ok] at hr
  have HR := Lib.hid hr
  have oka : okO L 3 = true := decide_eq_true (by simp; omega)
  have okb : okO s 4 = true := decide_eq_true (by simp; omega)
  have ha := fun W => rOPutE (l := bigE 3 L.toNat) (show putO L 3 = bigE 3 L.toNat by unfold putO; rw [oka]; rfl) (show putOe L 3 = 0 by unfold putOe; rw [oka]; rfl) (by omega) W
  have hb' := fun W => rOPutE (l := bigE 4 s.toNat) (show putO s 4 = bigE 4 s.toNat by unfold putO; rw [okb]; rfl) (show putOe s 4 = 0 by unfold putOe; rw [okb]; rfl) (by omega) W
  simp only [bigE_len] at ha hb'
  have HA := Lib.hid ha
  have HB := Lib.hid hb'
  have l3 := Lib.hid (bigE_len 3 L.toNat)
  have l4 := Lib.hid (bigE_len 4 s.toNat)
  clear hr ok yes oka okb ha hb'
  generalize bigE 3 L.toNat = P at *
  generalize bigE 4 s.toNat = R at *
  have Q0 := Lib.hid q0
  clear q0
  go_enter Try.func12, Try.ntmps12
  go_wp2_with fail
  refine (HR.out _).mono ?_
  rintro e w1 ⟨rfl, hb⟩
  have q1 := Q0.out.below hb
  replace b0 := b0.step hb
  obtain ⟨z0, z1, z2, z3⟩ := q1.cells
  go_wp2_with fail
  refine (HA.out _).mono ?_
  rintro e w2 ⟨A2, c2, rfl, m2, hb2⟩
  have q2 := q1.below hb2
  have b2 := b0.step hb2
  clear z0 z1 z2 z3
  obtain ⟨z0, z1, z2, z3⟩ := q2.cells
  go_wp2_with fail
  refine (HB.out _).mono ?_
  rintro e w3 ⟨A3, c3, rfl, m3, hb3⟩
  have q3 := q2.below hb3
  have b3 := b2.step hb3
  have m2' := m2.below hb3
  clear z0 z1 z2 z3
  obtain ⟨z0, z1, z2, z3⟩ := q3.cells
  have bs2 : Bs [k, f] := Bs.cons k0 (Bs.one f0.1 f0.2)
  have hsz : w1.heap.size ≤ w3.heap.size := Nat.le_trans hb2.size hb3.size
  have hne : ∀ b o, A3 = some ⟨b, o, none⟩ → some b ≠ (Value.slice A2 3 c2).ownBlock := fun b o e => by
    obtain ⟨_, h0, _⟩ | ⟨g2, rfl, _, hg2, _⟩ := m2.cases
    · omega
    obtain ⟨_, h0, _⟩ | ⟨g3, rfl, hg3, _⟩ := m3.cases
    · omega
    simp at e
    simp [Value.ownBlock]
    omega
  have HNE := Lib.hid hne
  have hl3 := l3.out
  have hl4 := l4.out
  have hlen1 : P.length + [k, f].length ≤ 140737488355328 := by rw [hl3]; simp
  have hlen2 : (P ++ [k, f]).length + R.length ≤ 140737488355328 := by rw [List.length_append, hl3, hl4]; simp
  have N1 := Lib.hid hlen1
  have N2 := Lib.hid hlen2
  clear hne hl3 hl4 hlen1 hlen2
  go_wp2_with (first
    | (at_builtin; refine wpList_app _ rfl (.tmp 23) (.tmp 28) rfl w1.heap.size A2 3 c2 P rfl (m2'.alloc _) (some ⟨w3.heap.size, 0, none⟩) 2 2 [k, f] rfl (lit2 rfl bs2) N1.out (by simp; omega) ?_; intro A4 c4 w4 m4 hb4 hg4 _; have y3 := (m3.byt.alloc _).grown hg4 HNE.out; have hs4 : w1.heap.size ≤ w4.heap.size := Nat.le_trans (by simp; omega) hb4.size)
    | (at_builtin; go_must (refine wpList_app w4 rfl (.tmp 29) (.tmp 30) rfl w1.heap.size A4 5 c4 (P ++ [k, f]) rfl m4 A3 4 c3 R rfl y3 N2.out hs4 ?_; intro A5 c5 w5 m5 hb5 _ _)))
  go_ret2
  have e3 : Below w.heap.size w w3 := b3.out
  have e4 : Below w.heap.size w w4 := (e3.alloc e3.size _).trans (hb4.mono b0.out.size)
  exact ⟨⟨A5, _, c5, rfl, m5.base_le b0.out.size⟩, e4.trans (hb5.mono b0.out.size)⟩

theorem rHPut (L k f s : Int) (w : World) (L0 : -9223372036854775808 ≤ L) (L1 : L ≤ 9223372036854775807) (s0 : -9223372036854775808 ≤ s) (s1 : s ≤ 9223372036854775807) (k0 : 0 ≤ k ∧ k ≤ 255) (f0 : 0 ≤ f ∧ f ≤ 255) :
    Calls Try.prog 12 #[.agg #[.int .i64 L, .int .u8 k, .int .u8 f, .int .i64 s]] w (PutHP L k f s w) := by
  unfold PutHP putH putHe
  cases ok : okH L s
  · refine (rputHNo L k f s w L0 L1 s0 s1 ok).mono ?_
    rintro e W' ⟨rfl, hb⟩
    exact ⟨⟨none, 0, 0, rfl, Mine.nil _ _⟩, hb⟩
  · exact rputHYes L k f s w k0 f0 ok
end Go.Proofs.Ythcnfalfhdeflaa
