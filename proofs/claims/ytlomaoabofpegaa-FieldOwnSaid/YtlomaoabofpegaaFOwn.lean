/- FieldOwn: bytes are told in memory of their own: the walk. -/
import Derived.Test.YtlomaoabofpegaaFw
import Derived.Test.YtlomaoabofpegaaFo
import Derived.Test.YtlomaoabofpegaaA
import Derived.Test.YtlomaoabofpegaaJd
import Derived.Test.YtlomaoabofpegaaM
import Derived.Deep.QuietTactic
import Derived.BigQuiet
import Derived.StillTailTactics
namespace Go.Proofs.Ytlomaoabofpegaa
open Go.RowKit Go.Shelf
set_option linter.unusedVariables false

theorem xor_bd (y : Int) (h0 : 0 ≤ y) (h1 : y ≤ 255) : 0 ≤ bits .xor .u8 y 255 ∧ bits .xor .u8 y 255 ≤ 255 := by
  have h : bits .xor .u8 y 255 = IntKind.u8.wrap (((BitVec.ofInt 8 y ^^^ BitVec.ofInt 8 255).toNat : Nat) : Int) := rfl
  rw [h]
  simp [IntKind.wrap, IntKind.signed, IntKind.bits]
  omega
/-- A store of a byte into whatever block of bytes: a slice of the call's own stays one. -/
theorem Mine.poke {base : Nat} {W : World} {A : Option Addr} {n c : Nat} {l : List Int} (h : Mine base W A n c l) (g j : Nat) {y : Int} (y0 : 0 ≤ y) (y1 : y ≤ 255) : ∃ l', Mine base (W.setCell ⟨g, j, none⟩ (.int .u8 y)) A n c l' := by
  by_cases e : A = some ⟨g, 0, none⟩
  · subst e
    exact ⟨_, h.stored j y0 y1⟩
  · exact ⟨l, h.far (fun g' e' eg => e (by rw [e', eg])) _⟩
theorem Blk.poke {W : World} {b g : Nat} {t : TypeId} {cs : Array Value} {base : Nat} {n c : Nat} {l : List Int} (h : Blk W b t cs) (ht : t ≠ 5) (hm : Mine base W (some ⟨g, 0, none⟩) n c l) (j : Nat) (v : Value) : Blk (W.setCell ⟨g, j, none⟩ v) b t cs :=
  h.setFar (p := ⟨g, j, none⟩) (fun e => h.not_row ht hm g rfl e.symm) v
/-- What stays while the three slices are written. -/
structure FownI (w0 wr : World) (N : Nat) (T : TypeId) (A1 : Option Addr) (n1 c1 : Nat) (A2 : Option Addr) (n2 c2 : Nat) (A3 : Option Addr) (n3 c3 : Nat) : Prop where
  below : Below w0.heap.size w0 wr
  x : ∃ l, Mine w0.heap.size wr A1 n1 c1 l
  y : ∃ l, Mine w0.heap.size wr A2 n2 c2 l
  z : ∃ l, Mine w0.heap.size wr A3 n3 c3 l
  q : Blk wr N T #[.slice A1 n1 c1, .slice A2 n2 c2, .slice A3 n3 c3]
theorem FownI.poke {w0 wr : World} {N : Nat} {T : TypeId} {A1 : Option Addr} {n1 c1 : Nat} {A2 : Option Addr} {n2 c2 : Nat} {A3 : Option Addr} {n3 c3 : Nat} (h : FownI w0 wr N T A1 n1 c1 A2 n2 c2 A3 n3 c3) (hT : T ≠ 5)
    {g n' c' : Nat} {l : List Int} (hm : Mine w0.heap.size wr (some ⟨g, 0, none⟩) n' c' l) (hg : w0.heap.size ≤ g) (j : Nat) {y : Int} (y0 : 0 ≤ y) (y1 : y ≤ 255) :
    FownI w0 (wr.setCell ⟨g, j, none⟩ (.int .u8 y)) N T A1 n1 c1 A2 n2 c2 A3 n3 c3 := by
  obtain ⟨lx, hx⟩ := h.x
  obtain ⟨ly, hy⟩ := h.y
  obtain ⟨lz, hz⟩ := h.z
  exact ⟨h.below.setCell hg _, hx.poke g j y0 y1, hy.poke g j y0 y1, hz.poke g j y0 y1, h.q.poke hT hm j _⟩
theorem FownI.drew {w0 wr : World} {N : Nat} {T : TypeId} {A1 : Option Addr} {n1 c1 : Nat} {A2 : Option Addr} {n2 c2 : Nat} {A3 : Option Addr} {n3 c3 : Nat} (h : FownI w0 wr N T A1 n1 c1 A2 n2 c2 A3 n3 c3) : FownI w0 wr.drew N T A1 n1 c1 A2 n2 c2 A3 n3 c3 :=
  ⟨h.below.trans (drew_below _ _), h.x, h.y, h.z, h.q⟩

set_option maxRecDepth 100000 in
set_option maxHeartbeats 8000000 in
theorem fownOk (A : Option Addr) (n c : Nat) (D : List Int) (m0 : Int) (W : World) (h : Byt W A n c D) (g : n ≤ 600) (M0 : -9223372036854775808 ≤ m0) (M1 : m0 ≤ 9223372036854775807) :
    Calls Try.prog 6 #[.slice A n c, .int .i64 m0] W fun e w' => e = .returned (.bool true) ∧ Below W.heap.size W w' := by
  have b0 := Bel.refl W
  have chb := h.cap; have chm := h.mx
  have y0 : decide ((600 : Int) < n) = false := decide_eq_false (by omega)
  go_enter Try.func6, Try.ntmps6
  go_wp2_with (first
    | (at_builtin; refine wpList_copy W rfl (.tmp 21) (.tmp 22) rfl rfl rfl A n c _ rfl h (by omega) ?_; intro Ay cy wy ym hb))
  replace b0 := b0.below hb; replace h := h.below hb
  have was := ym.byt
  clear ym hb
  have h0 := h
  have b00 := b0
  refine (fPad _ _ _ _ _ _ h (by omega) (by omega) (by omega)).mono ?_
  rintro e w1 ⟨A1, n1, c1, rfl, mx, hb⟩
  have bw : Bel wy w1 := ⟨hb⟩
  have s1 := hb.size
  replace h := h.below hb
  clear hb
  go_wp2_with fail
  refine (fUnpad _ _ _ _ _ h (by omega)).mono ?_
  rintro e w2 ⟨A2, n2, c2, rfl, my, hb⟩
  have s2 := Nat.le_trans s1 hb.size
  replace h := h.below hb; replace bw := bw.below hb; replace mx := mx.below hb
  clear hb
  go_wp2_with fail
  refine (fTakeRank _ _ _ _ _ h (by omega)).mono ?_
  rintro e w3 ⟨A3, n3, c3, rfl, mz, hb⟩
  replace h := h.below hb; replace bw := bw.below hb; replace mx := mx.below hb; replace my := my.below hb
  clear hb
  go_wp2_with fail
  have M0' := Mine.base_le mx (Nat.le_refl wy.heap.size)
  have I0 : FownI wy ((w3.alloc (.cells #[.bool (trA D), .int .i64 (trD D), .int .u8 (trW D)] 24)).alloc (.cells #[.slice A1 n1 c1, .slice A2 n2 c2, .slice A3 n3 c3] 49)) (w3.heap.size + 1) 49 A1 n1 c1 A2 n2 c2 A3 n3 c3 :=
    ⟨((bw.alloc _).alloc _).out, ⟨_, (mx.alloc _).alloc _⟩, ⟨_, ((my.base_le s1).alloc _).alloc _⟩, ⟨_, ((mz.base_le s2).alloc _).alloc _⟩, Blk.newAt _ _ _ (by simp)⟩
  clear M0' mx my mz h bw s1 s2
  go_loopw [15] (fun v wr => ∃ i : Nat, i ≤ 3 ∧ v = .int .i64 i ∧ FownI wy wr (w3.heap.size + 1) 49 A1 n1 c1 A2 n2 c2 A3 n3 c3) (fun v _ => 3 - (intOf v).toNat)
  case atStart => exact ⟨0, by omega, rfl, I0⟩
  case round =>
    obtain ⟨i, hi, rfl, I⟩ := hrel
    rcases (by omega : i = 0 ∨ i = 1 ∨ i = 2 ∨ i = 3) with rfl | rfl | rfl | rfl
    · go_wp2_with fail
      go_loopw [16] (fun v wr => ∃ k : Nat, k ≤ n1 ∧ v = .int .i64 k ∧ FownI wy wr (w3.heap.size + 1) 49 A1 n1 c1 A2 n2 c2 A3 n3 c3) (fun v _ => n1 - (intOf v).toNat)
      case atStart => exact ⟨0, Nat.zero_le _, rfl, I⟩
      case round =>
        clear I
        obtain ⟨k, hk, rfl, I⟩ := hrel
        have z1 := I.q.at 0 rfl
        obtain ⟨lo, hmn⟩ := I.x
        by_cases hlt : k < n1
        · obtain ⟨_, h0', _⟩ | ⟨g', rfl, hgb, hg, hnc, hcm, _, _⟩ := hmn.cases
          · omega
          have hc1 := hmn.cellAt (j := k) hlt
          have hf1 := hmn.frozenAt k
          have hy := hmn.2.get k
          have hx := xor_bd _ hy.1 hy.2
          have i0 : (0 : Int) ≤ (k : Int) := by omega
          have i1 : (k : Int) < (n1 : Int) := by omega
          have I2 := (I.poke (by decide) hmn hgb k hx.1 hx.2).drew
          have HI := Lib.hid I2
          clear I I2 hmn hy hx
          go_wp2_with fail
          go_still_tail 12, (by kernel_rfl)
          go_wp2
          go_roundw
          case rel => (repeat apply Exists.intro); exact ⟨⟨k + 1, by omega, by simp, HI.out⟩, rfl⟩
          case measure => simp [intOf]; omega
        · obtain rfl : n1 = k := by omega
          clear hmn
          have HI := Lib.hid I
          clear I
          go_wp2
          go_roundw
          case rel => exact ⟨0 + 1, by omega, by simp, HI.out⟩
          case measure => simp [intOf]
    · go_wp2_with fail
      go_loopw [16] (fun v wr => ∃ k : Nat, k ≤ n2 ∧ v = .int .i64 k ∧ FownI wy wr (w3.heap.size + 1) 49 A1 n1 c1 A2 n2 c2 A3 n3 c3) (fun v _ => n2 - (intOf v).toNat)
      case atStart => exact ⟨0, Nat.zero_le _, rfl, I⟩
      case round =>
        clear I
        obtain ⟨k, hk, rfl, I⟩ := hrel
        have z1 := I.q.at 1 rfl
        obtain ⟨lo, hmn⟩ := I.y
        by_cases hlt : k < n2
        · obtain ⟨_, h0', _⟩ | ⟨g', rfl, hgb, hg, hnc, hcm, _, _⟩ := hmn.cases
          · omega
          have hc1 := hmn.cellAt (j := k) hlt
          have hf1 := hmn.frozenAt k
          have hy := hmn.2.get k
          have hx := xor_bd _ hy.1 hy.2
          have i0 : (0 : Int) ≤ (k : Int) := by omega
          have i1 : (k : Int) < (n2 : Int) := by omega
          have I2 := (I.poke (by decide) hmn hgb k hx.1 hx.2).drew
          have HI := Lib.hid I2
          clear I I2 hmn hy hx
          go_wp2_with fail
          go_still_tail 12, (by kernel_rfl)
          go_wp2
          go_roundw
          case rel => (repeat apply Exists.intro); exact ⟨⟨k + 1, by omega, by simp, HI.out⟩, rfl⟩
          case measure => simp [intOf]; omega
        · obtain rfl : n2 = k := by omega
          clear hmn
          have HI := Lib.hid I
          clear I
          go_wp2
          go_roundw
          case rel => exact ⟨1 + 1, by omega, by simp, HI.out⟩
          case measure => simp [intOf]
    · go_wp2_with fail
      go_loopw [16] (fun v wr => ∃ k : Nat, k ≤ n3 ∧ v = .int .i64 k ∧ FownI wy wr (w3.heap.size + 1) 49 A1 n1 c1 A2 n2 c2 A3 n3 c3) (fun v _ => n3 - (intOf v).toNat)
      case atStart => exact ⟨0, Nat.zero_le _, rfl, I⟩
      case round =>
        clear I
        obtain ⟨k, hk, rfl, I⟩ := hrel
        have z1 := I.q.at 2 rfl
        obtain ⟨lo, hmn⟩ := I.z
        by_cases hlt : k < n3
        · obtain ⟨_, h0', _⟩ | ⟨g', rfl, hgb, hg, hnc, hcm, _, _⟩ := hmn.cases
          · omega
          have hc1 := hmn.cellAt (j := k) hlt
          have hf1 := hmn.frozenAt k
          have hy := hmn.2.get k
          have hx := xor_bd _ hy.1 hy.2
          have i0 : (0 : Int) ≤ (k : Int) := by omega
          have i1 : (k : Int) < (n3 : Int) := by omega
          have I2 := (I.poke (by decide) hmn hgb k hx.1 hx.2).drew
          have HI := Lib.hid I2
          clear I I2 hmn hy hx
          go_wp2_with fail
          go_still_tail 12, (by kernel_rfl)
          go_wp2
          go_roundw
          case rel => (repeat apply Exists.intro); exact ⟨⟨k + 1, by omega, by simp, HI.out⟩, rfl⟩
          case measure => simp [intOf]; omega
        · obtain rfl : n3 = k := by omega
          clear hmn
          have HI := Lib.hid I
          clear I
          go_wp2
          go_roundw
          case rel => exact ⟨2 + 1, by omega, by simp, HI.out⟩
          case measure => simp [intOf]
    · have y1 : Byt wr A n c D := h0.below I.below
      have y2 := was.below I.below
      have b3 : Bel W wr := ⟨b00.out.trans (I.below.mono b00.out.size)⟩
      clear I h0 was b00 b0
      go_wp2_with fail
      refine (rOSameE (show eqB D D = true by simp [eqB]) _ y1 y2).mono ?_
      rintro e ws ⟨rfl, rfl⟩
      go_wp2_with fail
      refine (fWakes _).mono ?_
      rintro e wk ⟨rfl, hb⟩
      replace b3 := b3.below hb
      go_wp2
      go_ret
      exact ⟨rfl, b3.out⟩

set_option maxRecDepth 100000 in
theorem wOwn {W : World} (A : Option Addr) (n c : Nat) (D : List Int) (h : Byt W A n c D) (m0 : Int) (M0 : -9223372036854775808 ≤ m0) (M1 : m0 ≤ 9223372036854775807) :
    Calls Try.prog 6 #[.slice A n c, .int .i64 m0] W fun e w' => e = .returned (.bool true) ∧ Below W.heap.size W w' := by
  by_cases g : n ≤ 600
  · exact fownOk A n c D m0 W h g M0 M1
  · have b0 := Bel.refl W
    have chb := h.cap; have chm := h.mx
    have y0 : decide ((600 : Int) < n) = true := decide_eq_true (by omega)
    go_enter Try.func6, Try.ntmps6
    go_wp2_with (first | (go_at_call 7; refine (fWakes _).mono ?_; rintro e wk ⟨rfl, hb⟩; replace b0 := b0.below hb))
    go_ret
    exact ⟨rfl, b0.out⟩
end Go.Proofs.Ytlomaoabofpegaa
