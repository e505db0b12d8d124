/- The contract of first, Bit, Bits. -/
import Derived.Test.YtejogehkehjelaaOb
namespace Go.Proofs.Ytejogehkehjelaa
open Go.RowKit Go.Shelf
attribute [local go_sem] Oper.semAt_some
set_option linter.unusedVariables false

/-- The number that bits tell, the highest first. -/
def bnum (l : List Int) : Int := l.foldl (fun v x => v * 2 + x) 0
theorem bnum_snoc (l : List Int) (x : Int) : bnum (l ++ [x]) = bnum l * 2 + x := by simp [bnum]
theorem bnum_from {l : List Int} (h : ∀ x ∈ l, 0 ≤ x ∧ x ≤ 1) : ∀ v : Nat, ∃ k : Nat, l.foldl (fun v x => v * 2 + x) (v : Int) = k ∧ k < (v + 1) * 2 ^ l.length := by
  induction l with
  | nil => intro v; exact ⟨v, rfl, by simp⟩
  | cons c l ih =>
    intro v
    obtain ⟨c0, c1⟩ := h c (by simp)
    obtain ⟨d, rfl⟩ := toNat_lit c0
    obtain ⟨k, hk, hb⟩ := ih (fun x hx => h x (by simp [hx])) (v * 2 + d)
    refine ⟨k, by rw [← hk]; simp, ?_⟩
    have h2 : (v * 2 + d + 1) * 2 ^ l.length ≤ ((v + 1) * 2) * 2 ^ l.length := Nat.mul_le_mul_right _ (by omega)
    rw [List.length_cons, Nat.pow_succ, Nat.mul_comm (2 ^ l.length) 2, ← Nat.mul_assoc]
    omega
theorem bnum_bd {l : List Int} (h : ∀ x ∈ l, 0 ≤ x ∧ x ≤ 1) : 0 ≤ bnum l ∧ bnum l < ((2 ^ l.length : Nat) : Int) := by
  obtain ⟨k, hk, hb⟩ := bnum_from h 0
  unfold bnum
  rw [show (0 : Int) = ((0 : Nat) : Int) from rfl, hk]
  simp at hb
  omega
theorem bit_bd (l : List Bit) : ∀ x ∈ l.map (·.1), 0 ≤ x ∧ x ≤ 1 := fun y hy => by
  obtain ⟨x, _, rfl⟩ := List.mem_map.1 hy
  exact x.2

theorem or64 (a b : Nat) (ha : a < 4294967296) (hb : b < 4294967296) : bits .or .i64 (a : Int) (b : Int) = ((a ||| b : Nat) : Int) := by
  have h1 : ∀ n : Nat, n < 4294967296 → (BitVec.ofInt 64 (n : Int)).toNat = n := fun n hn => by
    rw [BitVec.ofInt_natCast, BitVec.toNat_ofNat]
    exact Nat.mod_eq_of_lt (by omega)
  have h2 : a ||| b < 2 ^ 32 := Nat.or_lt_two_pow (by omega) (by omega)
  have h3 : (BitVec.ofInt 64 (a : Int) ||| BitVec.ofInt 64 (b : Int)).toNat = a ||| b := by rw [BitVec.toNat_or, h1 a ha, h1 b hb]
  have h4 : bits .or .i64 (a : Int) (b : Int) = IntKind.i64.wrap (((BitVec.ofInt 64 (a : Int) ||| BitVec.ofInt 64 (b : Int)).toNat : Nat) : Int) := rfl
  rw [h4, h3, IntKind.wrap_i64]
  omega
theorem or_bit (V x : Int) (h0 : 0 ≤ V) (h1 : V < 1073741824) (x0 : 0 ≤ x) (x1 : x ≤ 1) : bits .or .i64 (V * 2) x = V * 2 + x := by
  obtain ⟨n, rfl⟩ := toNat_lit h0
  obtain ⟨m, rfl⟩ := toNat_lit x0
  have e : ((n : Int) * 2) = ((2 ^ 1 * n : Nat) : Int) := by omega
  rw [e, or64 _ _ (by omega) (by omega), ← Nat.two_pow_add_eq_or_of_lt (show m < 2 ^ 1 by omega)]
  simp

/-- What is told of the bits from one on. -/
def code (l : List Int) (a many : Nat) : Int := bnum ((bitsFrom l a).take many)
def okBitsO (l : List Int) (a many : Int) : Bool := decide (0 ≤ a ∧ a + many ≤ 8 * (l.length : Int))
def codeN (l : List Int) (a many : Int) : Int := if okBitsO l a many then code l a.toNat many.toNat else 0

set_option maxRecDepth 100000 in
set_option maxHeartbeats 4000000 in
theorem first_in (A : Option Addr) (m c : Nat) (l : List Int) (a many : Nat) (w : World) (h : Byt w A m c l) (hm : m ≤ 100000000) (ha : a ≤ 9223372036854775807) (m1 : 1 ≤ many) (m2 : many ≤ 30) :
    CallsIn Fence.wide 3 Try.prog 24 #[.slice A m c, .int .i64 a, .int .i64 many] w fun e W' =>
      e = .returned (.tuple #[.int .i64 (codeN l a many), .bool (okBitsO l a many)]) ∧ Below w.heap.size w W' := by
  have H := Lib.hid h
  have hl := h.len
  clear h
  have ha0 : decide ((a : Int) < 0) = false := decide_eq_false (by omega)
  refine callsIn_of_wp_marks Try.func24 rfl trivial ?_ rfl
  simp only [Try.ntmps24, List.size_toArray, List.length_cons, List.length_nil, Nat.reduceAdd, Nat.reduceSub, Array.replicate_succ, Array.replicate_zero, List.push_toArray, List.append_toArray, List.nil_append, List.cons_append]
  gi_wp2_with (refine ⟨trivial, ?_⟩; gi_at_call 28; refine (bits_in _ _ _ _ _ _).mono ?_; rintro e w' ⟨rfl, rfl⟩)
  have hby := H.out
  have b0 := ((((Boxed.new w 3 (.int .i64 0)).alloc (.cells #[.bool false] 4)).alloc (.cells #[.int .i64 many] 3)).alloc (.cells #[.slice A m c] 22)).alloc (.cells #[.int .i64 a] 3)
  have b1 := (((Boxed.new (w.alloc (.cells #[.int .i64 0] 3)) 4 (.bool false)).alloc (.cells #[.int .i64 many] 3)).alloc (.cells #[.slice A m c] 22)).alloc (.cells #[.int .i64 a] 3)
  have b2 := ((Boxed.new ((w.alloc (.cells #[.int .i64 0] 3)).alloc (.cells #[.bool false] 4)) 3 (.int .i64 many)).alloc (.cells #[.slice A m c] 22)).alloc (.cells #[.int .i64 a] 3)
  have b3 := (Boxed.new (((w.alloc (.cells #[.int .i64 0] 3)).alloc (.cells #[.bool false] 4)).alloc (.cells #[.int .i64 many] 3)) 22 (.slice A m c)).alloc (.cells #[.int .i64 a] 3)
  have b4 := Boxed.new ((((w.alloc (.cells #[.int .i64 0] 3)).alloc (.cells #[.bool false] 4)).alloc (.cells #[.int .i64 many] 3)).alloc (.cells #[.slice A m c] 22)) 3 (.int .i64 a)
  have hby2 := ((((hby.alloc (.cells #[.int .i64 0] 3)).alloc (.cells #[.bool false] 4)).alloc (.cells #[.int .i64 many] 3)).alloc (.cells #[.slice A m c] 22)).alloc (.cells #[.int .i64 a] 3)
  have hbel := (((((Bel.refl w).alloc (.cells #[.int .i64 0] 3)).alloc (.cells #[.bool false] 4)).alloc (.cells #[.int .i64 many] 3)).alloc (.cells #[.slice A m c] 22)).alloc (.cells #[.int .i64 a] 3)
  have hsz : (((((w.alloc (.cells #[.int .i64 0] 3)).alloc (.cells #[.bool false] 4)).alloc (.cells #[.int .i64 many] 3)).alloc (.cells #[.slice A m c] 22)).alloc (.cells #[.int .i64 a] 3)).heap.size = w.heap.size + 1 + 1 + 1 + 1 + 1 := by simp
  simp only [World.size_alloc] at b1 b2 b3 b4
  generalize (((((w.alloc (.cells #[.int .i64 0] 3)).alloc (.cells #[.bool false] 4)).alloc (.cells #[.int .i64 many] 3)).alloc (.cells #[.slice A m c] 22)).alloc (.cells #[.int .i64 a] 3)) = W0 at *
  have hfar : 0 < m → ∀ b o, A = some ⟨b, o, none⟩ → b < w.heap.size := fun h0 b o e => by
    obtain ⟨b', o', e', hb, _⟩ := hby.cell h0
    rw [e] at e'
    simp at e'
    omega
  clear hby H
  refine wpIn_range_priv rfl (by decide) (Pv := fun b => b = w.heap.size + 1 + 1 + 1 + 1) (gf := 29) rfl trivial (enters_of Try.func29 (by kernel_rfl) rfl)
    (fun b hb => by subst hb; omega) (bits_stops 2 (by decide) (w.heap.size + 1 + 1 + 1 + 1) (w.heap.size + 1 + 1 + 1) (by omega) A m c l hm a ha W0 (by omega) (by omega) (fun h0 b o e => by have := hfar h0 b o e; omega) b4 b3 hby2)
    (fun h k => ⟨h.1.trans k.1, h.2.1.trans k.2.1, h.2.2.trans k.2.2⟩) (fun W l' o o' h1 h2 h3 h4 => ⟨KB.put (by omega) W l' o o' h1 h2 h3 h4, KB.put (by omega) W l' o o' h1 h2 h3 h4, KY.put W l' o o' h2 h3⟩) (fun _ => rfl)
    (fun pre W => Boxed W w.heap.size 3 (.int .i64 (bnum (pre.map (·.1)))) ∧ Boxed W (w.heap.size + 1) 4 (.bool false) ∧ Boxed W (w.heap.size + 1 + 1) 3 (.int .i64 ((many : Int) - pre.length)) ∧ pre.length < many ∧ (∃ v, Boxed W (w.heap.size + 1 + 1 + 1 + 1) 3 v) ∧ Below w.heap.size w W)
    (fun cd pre W => cd = .ret ∧ Boxed W w.heap.size 3 (.int .i64 (bnum (pre.map (·.1)))) ∧ Boxed W (w.heap.size + 1) 4 (.bool true) ∧ pre.length = many ∧ Below w.heap.size w W)
    (fun s X Y row hs hg hr => by
      obtain ⟨h0, h1, h2, h3, ⟨v, h4⟩, hbl⟩ := hs
      exact ⟨boxed_keptN h0 hg (fun r e => (hr r e).2), boxed_keptN h1 hg (fun r e => (hr r e).2), boxed_keptN h2 hg (fun r e => (hr r e).2), h3, ⟨v, boxed_keptN h4 hg (fun r e => (hr r e).2)⟩, hbl.grown hg hbl.size (fun r e => by have := (hr r e).1; omega)⟩)
    (fun cd s X Y row hs hg hr => by
      obtain ⟨hc, h0, h1, h2, hbl⟩ := hs
      exact ⟨hc, boxed_keptN h0 hg (fun r e => (hr r e).2), boxed_keptN h1 hg (fun r e => (hr r e).2), h2, hbl.grown hg hbl.size (fun r e => by have := (hr r e).1; omega)⟩)
    ?priv ?start ?round ?done ?stop
  case priv =>
    rintro b rfl pre W v ⟨h0, h1, h2, h3, ⟨v', h4⟩, hbl⟩
    exact ⟨h0.other (by omega) _, h1.other (by omega) _, h2.other (by omega) _, h3, ⟨v, h4.set v⟩, hbl.setCell (p := ⟨w.heap.size + 1 + 1 + 1 + 1, 0, none⟩) (by simp; omega) _⟩
  case start => exact ⟨b0, b1, by simpa using b2, by simp; omega, ⟨_, b4⟩, hbel.out⟩
  case round =>
    intro y
    constructor
    constructor
    · intro l W K hK
      gi_wp2
      exact hK
    · rintro l pre W ⟨h0, h1, h2, h3, ⟨v', h4⟩, hbl⟩ hlen
      have hbd := bnum_bd (bit_bd pre)
      have hsn := bnum_snoc (pre.map (·.1)) y.1
      have hpw : 2 ^ (pre.map (·.1)).length ≤ 2 ^ 29 := Nat.pow_le_pow_right (by decide) (by rw [List.length_map]; omega)
      have hor := or_bit (bnum (pre.map (·.1))) y.1 hbd.1 (by omega) y.2.1 y.2.2
      have hV : bnum (pre.map (·.1)) < 1073741824 := by omega
      have hV0 := hbd.1
      have Hsn := Lib.hid hsn
      clear hbd hsn hpw
      generalize bnum (pre.map (·.1)) = V at *
      have c0 := h0.cell
      have c1 := h1.cell
      have c2 := h2.cell
      have f0 := h0.frozen
      have f1 := h1.frozen
      have f2 := h2.frozen
      by_cases hlast : (many : Int) - pre.length - 1 = 0
      · gi_wp2
        have k0 : Boxed ((((W.setCell ⟨w.heap.size, 0, none⟩ (.int .i64 (V * 2 + y.1))).setCell ⟨w.heap.size + 1 + 1, 0, none⟩ (.int .i64 0)).setCell ⟨w.heap.size, 0, none⟩ (.int .i64 (V * 2 + y.1))).setCell ⟨w.heap.size + 1, 0, none⟩ (.bool true)) w.heap.size 3 (.int .i64 (V * 2 + y.1)) :=
          (((h0.set _).other (by omega) _).set _).other (by omega) _
        refine ⟨((((KeepsOthers.setCell _ _ _).trans (KeepsOthers.setCell _ _ _)).trans (KeepsOthers.setCell _ _ _)).trans (KeepsOthers.setCell _ _ _)).from _, rfl, by rw [List.map_append, List.map_singleton, Hsn.out]; exact k0, ((((h1.other (by omega) _).other (by omega) _).other (by omega) _).set _), by simp; omega, ?_⟩
        exact (((hbl.setCell (p := ⟨w.heap.size, 0, none⟩) (Nat.le_refl _) _).setCell (p := ⟨w.heap.size + 1 + 1, 0, none⟩) (by simp; omega) _).setCell (p := ⟨w.heap.size, 0, none⟩) (Nat.le_refl _) _).setCell (p := ⟨w.heap.size + 1, 0, none⟩) (by simp) _
      · have hlast' : ((many : Int) - pre.length - 1 == 0) = false := beq_eq_false_iff_ne.2 hlast
        gi_wp2
        refine ⟨((KeepsOthers.setCell _ _ _).trans (KeepsOthers.setCell _ _ _)).from _, ⟨fun v hv => (hv.other (by omega) _).other (by omega) _, fun v hv => (hv.other (by omega) _).other (by omega) _, fun l0 hl0 => (hl0.far (fun b o e => by have := hfar (by omega) b o e; simp; omega) _).far (fun b o e => by have := hfar (by omega) b o e; simp; omega) _⟩,
          by rw [List.map_append, List.map_singleton, Hsn.out]; exact (h0.set _).other (by omega) _, (h1.other (by omega) _).other (by omega) _, ?_, by simp; omega, ⟨v', (h4.other (by omega) _).other (by omega) _⟩, (hbl.setCell (p := ⟨w.heap.size, 0, none⟩) (Nat.le_refl _) _).setCell (p := ⟨w.heap.size + 1 + 1, 0, none⟩) (by simp; omega) _⟩
        have k2 := (h2.other (B' := w.heap.size) (by omega) (.int .i64 (V * 2 + y.1))).set (.int .i64 ((many : Int) - pre.length - 1))
        rw [show ((many : Int) - ((pre ++ [y]).length : Nat)) = (many : Int) - pre.length - 1 by simp; omega]
        exact k2
  case done =>
    rintro D ys W hD hys ⟨h0, h1, h2, h3, ⟨v', h4⟩, hbl⟩ hK
    have c0 := h0.cell
    have c1 := h1.cell
    have f0 := h0.frozen
    have f1 := h1.frozen
    gi_wp2
    have hK' := ((KeepsOthers.setCell W ⟨w.heap.size, 0, none⟩ (.int .i64 0)).trans (KeepsOthers.setCell _ ⟨w.heap.size + 1, 0, none⟩ (.bool false))).same D _ hK rfl
    refine ⟨by simp, .inl ⟨_, _, rfl, run_takeDeferred hK', ?_⟩⟩
    have k0 := cell_kept ((h0.set (.int .i64 0)).other (B' := w.heap.size + 1) (by omega) (.bool false)).cell (grownBy_putObj' _ D (.deferred none)) (fun r e => by cases e; exact ⟨_, hK', rfl⟩)
    have k1 := cell_kept ((h1.other (B' := w.heap.size) (by omega) (.int .i64 0)).set (.bool false)).cell (grownBy_putObj' _ D (.deferred none)) (fun r e => by cases e; exact ⟨_, hK', rfl⟩)
    have hno : okBitsO l a many = false := by
      have e1 := congrArg List.length hys
      rw [List.length_map, bitsFrom_len] at e1
      exact decide_eq_false (by omega)
    refine ⟨.tuple #[.int .i64 0, .bool false], by simp [results, Try.f24, go_sem, k0, k1], by simp [codeN, hno], ?_⟩
    exact ((hbl.setCell (p := ⟨w.heap.size, 0, none⟩) (Nat.le_refl _) _).setCell (p := ⟨w.heap.size + 1, 0, none⟩) (by simp) _).trans (belowK_b (w := w) (Nat.le_refl _) _ D _ _ (by omega) hK' rfl rfl)
  case stop =>
    rintro D cd pre W hD ⟨r, hpre⟩ ⟨rfl, h0, h1, h2, hbl⟩ hK
    have k0 := cell_kept h0.cell (grownBy_putObj' _ D (.deferred none)) (fun r e => by cases e; exact ⟨_, hK, rfl⟩)
    have k1 := cell_kept h1.cell (grownBy_putObj' _ D (.deferred none)) (fun r e => by cases e; exact ⟨_, hK, rfl⟩)
    have hyes : okBitsO l a many = true := by
      have e1 := congrArg List.length hpre
      rw [List.length_append, List.length_map, bitsFrom_len] at e1
      exact decide_eq_true (by omega)
    have hcode : code l a many = bnum (pre.map (·.1)) := by
      unfold code
      rw [← hpre, List.take_append_of_le_length (by rw [List.length_map]; omega), List.take_of_length_le (by rw [List.length_map]; omega)]
    gi_wp2
    refine ⟨by simp, .inl ⟨_, _, rfl, run_takeDeferred hK, ?_⟩⟩
    refine ⟨.tuple #[.int .i64 (bnum (pre.map (·.1))), .bool true], by simp [results, Try.f24, go_sem, k0, k1], by simp [codeN, hyes, hcode], ?_⟩
    exact hbl.trans (belowK_b (w := w) (Nat.le_refl _) _ D _ _ (by omega) hK rfl rfl)
end Go.Proofs.Ytejogehkehjelaa
