/- Settings put: the contracts. -/
import Derived.Test.YtlomaoabofpegaaFc
import Derived.Test.YtlomaoabofpegaaPr
namespace Go.Proofs.Ytlomaoabofpegaa
open Go.RowKit Go.Shelf
set_option linter.unusedVariables false

def pairB (p : Int × Int) : List Int := bigE 2 p.1.toNat ++ bigE 4 p.2.toNat
def putPs (l : List (Int × Int)) : List Int := l.flatMap pairB
theorem pairB_len (p : Int × Int) : (pairB p).length = 6 := by simp [pairB, bigE_len]
theorem putPs_len (l : List (Int × Int)) : (putPs l).length = l.length * 6 := by
  induction l with
  | nil => rfl
  | cons x r ih => simp only [putPs, List.flatMap_cons, List.length_append, List.length_cons, pairB_len] at ih ⊢; omega
theorem putPs_take (l : List (Int × Int)) {k : Nat} (hk : k < l.length) : putPs (l.take (k + 1)) = putPs (l.take k) ++ pairB (pid l k, pva l k) := by
  rw [List.take_succ_eq_append_getElem hk]
  unfold putPs pid pva
  rw [List.flatMap_append, List.getElem?_eq_getElem hk]
  simp
theorem pairB_eq (x y : Nat) (hx : x ≤ 65535) (hy : y ≤ 4294967295) : pairB ((x : Int), (y : Int)) = [(x : Int) / 256, (x : Int) % 256, (y : Int) / 16777216, (y : Int) / 65536 % 256, (y : Int) / 256 % 256, (y : Int) % 256] := by
  simp [pairB, bigE, List.range_succ]
  omega
theorem six_bs (x y : Nat) (hx : x ≤ 65535) (hy : y ≤ 4294967295) : Bs [(x : Int) / 256, (x : Int) % 256, (y : Int) / 16777216, (y : Int) / 65536 % 256, (y : Int) / 256 % 256, (y : Int) % 256] := by
  intro v hv
  simp at hv
  omega

set_option maxHeartbeats 1600000 in
theorem fPutPairs (A : Option Addr) (n c : Nat) (l : List (Int × Int)) (w : World) (h : Prs w A n c l) (hn : n ≤ 100000) :
    Calls Try.prog 21 #[.slice A n c] w fun e W' => ∃ A' c', e = .returned (.slice A' (n * 6) c') ∧ Mine w.heap.size W' A' (n * 6) c' (putPs l) ∧ Below w.heap.size w W' := by
  have hl := h.len
  have HL := Lib.hid hl
  clear hl
  go_enter Try.func21, Try.ntmps21
  go_wp2
  go_loopw [2, 7] (fun v i wr => ∃ (k : Nat) (A' : Option Addr) (c' : Nat), k ≤ n ∧ i = .int .i64 k ∧ v = .slice A' (k * 6) c' ∧ Mine w.heap.size wr A' (k * 6) c' (putPs (l.take k)) ∧ Below w.heap.size w wr) (fun _ i _ => n - (intOf i).toNat)
  case atStart => exact ⟨0, none, 0, Nat.zero_le _, rfl, rfl, Mine.nil _ _, Below.refl _ _⟩
  case round =>
    obtain ⟨k, A', c', hk, rfl, rfl, hm, hb⟩ := hrel
    by_cases hlt : k < n
    · obtain ⟨b, o, rfl, hbl, hc⟩ := (h.below hb).cell (by omega)
      obtain ⟨c1, c2⟩ := hc k hlt
      have hbs := h.bs.get k
      have hs := putPs_take l (k := k) (by have := HL.out; omega)
      obtain ⟨x, hx⟩ := toNat_lit hbs.1.1
      obtain ⟨y, hy⟩ := toNat_lit hbs.2.1
      rw [hx] at c1 hbs hs
      rw [hy] at c2 hbs hs
      have HS := Lib.hid hs
      have hb2 := Lib.hid hb
      have hm2 := Lib.hid hm
      obtain ⟨⟨x0, x1⟩, y0, y1⟩ := hbs
      have i0 : (0 : Int) ≤ (k : Int) := by omega
      have i1 : (k : Int) < (n : Int) := by omega
      clear hc hb h hm hs hx hy
      have h6 := six_bs x y (by omega) (by omega)
      have e6 := pairB_eq x y (by omega) (by omega)
      have E6 := Lib.hid e6
      have M6 : Hid ((k + 1) * 6 = k * 6 + 6) := Lib.hid (by omega)
      have hb3 : Hid (w.heap.size ≤ wr.heap.size) := Lib.hid hb2.out.size
      clear e6
      go_wp2_with (with_reducible refine wpList_app _ rfl (.tmp 11) (.tmp 34) rfl w.heap.size A' (k * 6) c' _ rfl ((hm2.out.alloc _).alloc _) (some ⟨wr.heap.size + 1, 0, none⟩) 6 6 _ rfl (lit6 (by simp) h6) (by rw [putPs_len, List.length_take]; have := HL.out; simp; omega) (by have := hb3.out; simp; omega) ?_; intro A2 c2 w2 hm3 hb4 _ _)
      exact ⟨⟨k + 1, A2, c2, by omega, by simp, by rw [M6.out], by rw [HS.out, E6.out, M6.out]; exact hm3, ((hb2.out.alloc hb3.out _).alloc (by have := hb3.out; simp; omega) _).trans hb4⟩, by simp [intOf]; omega⟩
    · obtain rfl : n = k := by omega
      have hf : l.take n = l := List.take_of_length_le (by have := HL.out; omega)
      rw [hf] at hm
      clear hf
      go_wp2
      go_ret
      exact ⟨A', c', rfl, hm, hb⟩

theorem putTwoR (N : Nat) (hN : N ≤ 65535) (w : World) : Calls Try.prog 27 #[.int .i64 N, .int .i64 2] w fun e W' => ∃ A c, e = .returned (.tuple #[.slice A 2 c, .int .i64 0]) ∧ Mine w.heap.size W' A 2 c (bigE 2 N) ∧ Below w.heap.size w W' := by
  refine (rputYes N 2 w (by decide) (by decide) (by omega) (by omega)).mono ?_
  rintro e W' ⟨⟨A, c, rfl, hm⟩, hb⟩
  exact ⟨A, c, rfl, hm, hb⟩
theorem Mine.other {base b0 : Nat} {w w' : World} {A B : Option Addr} {n c m d : Nat} {l l' : List Int} (hB : Mine base w B m d l') (hA : Mine b0 w A n c l) (hlt : ∀ g, A = some ⟨g, 0, none⟩ → g < base) (hg : w.grownBy w' (Value.slice A n c).ownBlock) : Mine base w' B m d l' := by
  refine hB.grown hg fun g e => ?_
  rcases hA.cases with ⟨rfl, _⟩ | ⟨g', rfl, _⟩
  · intro h; cases h
  · intro h
    have h1 : g = g' := by simpa [Value.ownBlock] using h
    have h2 := hlt g' rfl
    rcases hB.cases with ⟨e2, _⟩ | ⟨g2, e2, h3, _⟩
    · rw [e2] at e; cases e
    · rw [e2] at e
      simp at e

set_option maxHeartbeats 1600000 in
theorem rPutPairs (A : Option Addr) (n c : Nat) (l : List (Int × Int)) (w : World) (h : Prs w A n c l) (hn : n ≤ 100000) :
    Calls Try.prog 22 #[.slice A n c] w fun e W' => ∃ A' c', e = .returned (.slice A' (n * 6) c') ∧ Mine w.heap.size W' A' (n * 6) c' (putPs l) ∧ Below w.heap.size w W' := by
  have hl := h.len
  have HL := Lib.hid hl
  clear hl
  go_enter Try.func22, Try.ntmps22
  go_wp2
  go_loopw [3, 4] (fun v i wr => ∃ (k : Nat) (A' : Option Addr) (c' : Nat), k ≤ n ∧ i = .int .i64 k ∧ v = .slice A' (k * 6) c' ∧ Mine w.heap.size wr A' (k * 6) c' (putPs (l.take k)) ∧ Below w.heap.size w wr) (fun _ i _ => n - (intOf i).toNat)
  case atStart => exact ⟨0, none, 0, Nat.zero_le _, rfl, rfl, Mine.nil _ _, Below.refl _ _⟩
  case round =>
    obtain ⟨k, A', c', hk, rfl, rfl, hm, hb⟩ := hrel
    by_cases hlt : k < n
    · have hp := h.below hb
      obtain ⟨b, o, rfl, hbl, hc⟩ := hp.cell (by omega)
      obtain ⟨c1, c2⟩ := hc k hlt
      have hbs := h.bs.get k
      have hs := putPs_take l (k := k) (by have := HL.out; omega)
      obtain ⟨x, hx⟩ := toNat_lit hbs.1.1
      obtain ⟨y, hy⟩ := toNat_lit hbs.2.1
      rw [hx] at c1 hbs hs
      rw [hy] at c2 hbs hs
      have hpb : pairB ((x : Int), (y : Int)) = bigE 2 x ++ bigE 4 y := by simp [pairB]
      rw [hpb, ← List.append_assoc] at hs
      have HS := Lib.hid hs
      obtain ⟨⟨x0, x1⟩, y0, y1⟩ := hbs
      have hlt2 : Hid (∀ g, A' = some ⟨g, 0, none⟩ → g < wr.heap.size) := Lib.hid fun g e => hm.lt g e
      have i0 : (0 : Int) ≤ (k : Int) := by omega
      have i1 : (k : Int) < (n : Int) := by omega
      have P2 := Lib.hid fun w => putTwoR x (by omega) w
      have P4 := Lib.hid fun w => putRankR y (by omega) (y : Int) rfl w
      have M6 : Hid ((k + 1) * 6 = k * 6 + 2 + 4) := Lib.hid (by omega)
      clear hc hs hx hy hpb h hp
      go_wp2_with fail
      refine (P2.out _).mono ?_
      rintro e w1 ⟨A1, c1', rfl, hm1, hb1⟩
      have c3 := cell_below hb1 c2
      go_wp2_with fail
      refine (P4.out _).mono ?_
      rintro e w2 ⟨A2, c2', rfl, hm2, hb2⟩
      have hm0 := (hm.below hb1).below hb2
      have y1' := hm1.byt.below hb2
      have hsz : w.heap.size ≤ w2.heap.size := Nat.le_trans hb.size (Nat.le_trans hb1.size hb2.size)
      have hbb : Below w.heap.size w w2 := (hb.trans (hb1.mono hb.size)).trans (hb2.mono (Nat.le_trans hb.size hb1.size))
      have h12 : wr.heap.size ≤ w1.heap.size := hb1.size
      clear hb hb1 hb2 hm hm1 c1 c2 c3
      have HZ := Lib.hid hsz
      have HBB := Lib.hid hbb
      have H12 := Lib.hid h12
      clear hsz hbb h12
      go_wp2_with (first
        | (with_reducible refine wpList_app _ rfl (.tmp 35) (.tmp 36) rfl w.heap.size A' (k * 6) c' _ rfl hm0 A1 2 c1' _ rfl y1' (by rw [putPs_len, List.length_take, bigE_len]; have := HL.out; omega) HZ.out ?_; intro A3 c3' w3 hm3 hb3 hg3 _; have y2' := (hm2.other hm0 (fun g e => Nat.lt_of_lt_of_le (hlt2.out g e) H12.out) hg3).byt)
        | (with_reducible refine wpList_app _ rfl (.tmp 37) (.tmp 38) rfl w.heap.size A3 (k * 6 + 2) c3' _ rfl hm3 A2 4 c2' _ rfl y2' (by rw [List.length_append, putPs_len, List.length_take, bigE_len, bigE_len]; have := HL.out; omega) (Nat.le_trans HZ.out hb3.size) ?_; intro A4 c4' w4 hm4 hb4 _ _))
      exact ⟨⟨k + 1, A4, c4', by omega, by simp, by rw [M6.out], by rw [HS.out, M6.out]; exact hm4, (HBB.out.trans hb3).trans hb4⟩, by simp [intOf]; omega⟩
    · obtain rfl : n = k := by omega
      have hf : l.take n = l := List.take_of_length_le (by have := HL.out; omega)
      rw [hf] at hm
      clear hf
      go_wp2
      go_ret
      exact ⟨A', c', rfl, hm, hb⟩
end Go.Proofs.Ytlomaoabofpegaa
