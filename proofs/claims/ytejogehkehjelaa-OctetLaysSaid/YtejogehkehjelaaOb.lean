/- The contract of the closure of bits. -/
import Derived.Test.YtejogehkehjelaaOq
import Derived.Test.YtejogehkehjelaaT
namespace Go.Proofs.Ytejogehkehjelaa
open Go.RowKit Go.Shelf
attribute [local go_sem] Oper.semAt_some
set_option linter.unusedVariables false

/-- The k-th bit of bytes. -/
def bitAt (l : List Int) (k : Nat) : Int := l[k / 8]?.getD 0 / 2 ^ (7 - k % 8) % 2
theorem bitAt_bd (l : List Int) (k : Nat) : 0 ≤ bitAt l k ∧ bitAt l k ≤ 1 := by unfold bitAt; omega
/-- The bits from one on. -/
def bitsFrom (l : List Int) (a : Nat) : List Int := (List.range (8 * l.length - a)).map fun i => bitAt l (a + i)
theorem bitsFrom_len (l : List Int) (a : Nat) : (bitsFrom l a).length = 8 * l.length - a := by simp [bitsFrom]
theorem bitsFrom_nil (l : List Int) (a : Nat) (h : 8 * l.length ≤ a) : bitsFrom l a = [] := by simp [bitsFrom, show 8 * l.length - a = 0 by omega]
theorem bitsFrom_cons (l : List Int) (a : Nat) (h : a < 8 * l.length) : bitsFrom l a = bitAt l a :: bitsFrom l (a + 1) := by
  unfold bitsFrom
  rw [show 8 * l.length - a = (8 * l.length - (a + 1)) + 1 by omega, List.range_succ_eq_map]
  simp [Function.comp_def, Nat.add_assoc, Nat.add_comm 1]
/-- A bit. -/
abbrev Bit := { x : Int // 0 ≤ x ∧ x ≤ 1 }

/-- What is a slice of bytes is it still. -/
def KY (A : Option Addr) (n c : Nat) (W W' : World) : Prop := ∀ l, Byt W A n c l → Byt W' A n c l
theorem KY.trans {A : Option Addr} {n c : Nat} {X Y Z : World} (h : KY A n c X Y) (k : KY A n c Y Z) : KY A n c X Z := fun l hl => k l (h l hl)
theorem KY.put {A : Option Addr} {n c : Nat} (W : World) (l : Nat) (o o' : Obj) (h : W.heap[l]? = some o) (hc : o.isCells = false) : KY A n c W (W.putObj l o') := fun bs hb =>
  ⟨hb.len, hb.cap, hb.mx, hb.nn, hb.bs, fun hn => by
    obtain ⟨b, q, e, hlt, hcell⟩ := hb.cell hn
    refine ⟨b, q, e, by simpa [World.putObj] using hlt, fun i hi => ?_⟩
    have hne : b ≠ l := by
      rintro rfl
      have := hcell 0 hn
      simp [World.cell?, h] at this
      cases o <;> simp [Obj.isCells] at hc <;> simp at this
    exact (World.cell?_of_block (World.putObj_heap_other hne)).trans (hcell i hi)⟩
/-- What the iterator wants kept. -/
def Kbits (Ba Bb : Nat) (A : Option Addr) (n c : Nat) (W W' : World) : Prop := KB Ba 3 W W' ∧ KB Bb 22 W W' ∧ KY A n c W W'

def at1 (b : Nat) (W : World) : Nat := match W.cell? ⟨b, 0, none⟩ with | some (.int _ n) => n.toNat | _ => 0

theorem and7 (k : Nat) (hk : k < 4294967296) : bits .and .i64 (k : Int) 7 = ((k % 8 : Nat) : Int) := by
  have := and_mask64 (k : Int) 3 (by omega) (by omega) (by omega)
  simpa using this
theorem and1 (y : Int) (h0 : 0 ≤ y) (h1 : y ≤ 255) : bits .and .u8 y 1 = y % 2 := by
  have := and_mask y 1 h0 h1 (by omega)
  simpa using this

set_option maxRecDepth 100000 in
set_option maxHeartbeats 2000000 in
theorem bits1_in (n : Nat) (hn : 1 ≤ n) (l Ba Bb : Nat) (hab : Ba ≠ Bb) (A : Option Addr) (m c : Nat) (bs : List Int) (hm : m ≤ 100000000) (a : Nat) (ha : a ≤ 9223372036854775807)
    (J Jx : List Bit → World → Prop)
    (hJp : ∀ pre W v, J pre W → J pre (W.setCell ⟨Ba, 0, none⟩ v))
    (hJd : ∀ pre W, J pre W → J pre W.drew)
    (hfar : 0 < m → ∀ b o, A = some ⟨b, o, none⟩ → b ≠ Ba)
    (hY : ∀ pre x W, J pre W → pre.length < 8 * m → YieldAt Fence.wide (n - 1) Try.prog l #[.int .u8 x.1] W fun e W' =>
      (e = .returned (.bool true) ∧ J (pre ++ [x]) W' ∧ Kbits Ba Bb A m c W W') ∨ (e = .returned (.bool false) ∧ Jx (pre ++ [x]) W'))
    (W : World) (hca : Boxed W Ba 3 (.int .i64 a)) (hcb : Boxed W Bb 22 (.slice A m c)) (hby : Byt W A m c bs) (h0 : J [] W) :
    CallsIn Fence.wide n Try.prog 29 #[.func (.yield l) #[] #[], .pointer (some ⟨Ba, 0, none⟩), .pointer (some ⟨Bb, 0, none⟩)] W fun e W' => (∃ v, e = .returned v) ∧
      ((∃ ys : List Bit, ys.map (·.1) = bitsFrom bs a ∧ J ys W') ∨ (∃ pre : List Bit, (∃ r, pre.map (·.1) ++ r = bitsFrom bs a) ∧ Jx pre W')) := by
  have hl := hby.len
  refine callsIn_of_wp Try.func29 rfl trivial ?_ rfl
  simp only [Try.ntmps29, List.size_toArray, List.length_cons, List.length_nil, Nat.reduceAdd, Nat.reduceSub, Array.replicate_succ, Array.replicate_zero, List.push_toArray, List.append_toArray, List.nil_append, List.cons_append]
  gi_wp2
  gi_loopw [4] (fun _ wr => ∃ (pre : List Bit) (k : Nat), pre.map (·.1) ++ bitsFrom bs k = bitsFrom bs a ∧ k ≤ 9223372036854775807 ∧ J pre wr ∧ Boxed wr Ba 3 (.int .i64 k) ∧ Boxed wr Bb 22 (.slice A m c) ∧ Byt wr A m c bs)
    (fun _ wr => 8 * m - at1 Ba wr)
  case atStart => exact ⟨[], a, by simp, ha, h0, hca, hcb, hby⟩
  case round =>
    obtain ⟨pre, k, hpre, hk, hJ, hbx, hbb, hby⟩ := hrel
    have hck := hbx.cell
    have hcc := hbb.cell
    have HB := Lib.hid hbx
    have HC := Lib.hid hbb
    have HY := Lib.hid hby
    clear hbx hbb hby
    by_cases hlt : k < 8 * m
    · have hd : decide ((k : Int) / 8 < (m : Int)) = true := decide_eq_true (by omega)
      obtain ⟨b, o, rfl, hb, hcell⟩ := HY.out.cell (by omega)
      have hc1 := hcell (k / 8) (by omega)
      have hy := HY.out.bs.get (k / 8)
      have hbd := bitAt_bd bs k
      have hba : bs[k / 8]?.getD 0 / 2 ^ (7 - k % 8) % 2 = bitAt bs k := rfl
      have Hba := Lib.hid hba
      clear hba hcell
      generalize bs[k / 8]?.getD 0 = y at *
      have hpl : pre.length + (8 * m - k) = 8 * m - a := by
        have := congrArg List.length hpre
        simp only [List.length_append, List.length_map, bitsFrom_len, hl] at this
        exact this
      obtain ⟨fn, tmps, assign, body, hyy, hR⟩ := hY pre ⟨bitAt bs k, hbd⟩ wr.drew (hJd _ _ hJ) (by omega)
      have ha7 := and7 k (by omega)
      have hw7 : IntKind.i64.wrap (7 - (k : Int) % 8) = ((7 - k % 8 : Nat) : Int) := by rw [IntKind.wrap_i64]; omega
      have hq : y / 2 ^ (7 - k % 8) ≤ y := Int.ediv_le_self _ hy.1
      have hq0 : 0 ≤ y / 2 ^ (7 - k % 8) := Int.ediv_nonneg hy.1 (by have := Nat.two_pow_pos (7 - k % 8); exact_mod_cast Nat.zero_le _)
      have ha1 := and1 (y / 2 ^ (7 - k % 8)) hq0 (by omega)
      rw [Hba.out] at ha1
      have hx0 : (0 : Int) ≤ (k : Int) / 8 := by omega
      have hx1 : (k : Int) / 8 < (m : Int) := by omega
      have hx2 : ((k : Int) / 8).toNat = k / 8 := by omega
      clear hq hq0
      gi_wp2
      refine wpIn_region_tail 11 (by kernel_rfl) (by kernel_rfl) ?_
      simp only [List.take_succ_cons, List.take_zero, List.drop_succ_cons, List.drop_zero]
      repeat still_step
      refine wpStill_nil ?_
      gi_wp2
      refine hR.mono ?_
      rintro e W3 (⟨rfl, hJ3, hk3⟩ | ⟨rfl, hJx3⟩)
      · have hb3 := hk3.1 _ HB.out
        have hc3 := hb3.cell
        have hf3 := hb3.frozen
        gi_wp2
        go_roundw
        case rel =>
          refine ⟨pre ++ [⟨bitAt bs k, hbd⟩], k + 1, by rw [← hpre, bitsFrom_cons bs k (by omega)]; simp, by omega, hJp _ _ _ hJ3, hb3.set _, (hk3.2.1 _ HC.out).other (by omega) _, (hk3.2.2 _ HY.out.drew).far (fun b o e => hfar (by omega) b o e) _⟩
        case measure =>
          have e1 := (hb3.set (.int .i64 ((k : Int) + 1))).cell
          unfold at1
          rw [e1, hck]
          simp; omega
      · gi_wp2
        refine bodyPost_ret (results_none rfl _ _ _) rfl ?_
        exact ⟨⟨_, rfl⟩, .inr ⟨_, ⟨bitsFrom bs (k + 1), by rw [← hpre, bitsFrom_cons bs k (by omega)]; simp⟩, hJx3⟩⟩
    · have hd : decide ((k : Int) / 8 < (m : Int)) = false := decide_eq_false (by omega)
      gi_wp2
      go_end0
      exact ⟨⟨_, rfl⟩, .inl ⟨pre, by rw [← hpre, bitsFrom_nil bs k (by omega)]; simp, hJ⟩⟩

theorem bits_stops (n : Nat) (hn : 1 ≤ n) (Ba Bb : Nat) (hab : Ba ≠ Bb) (A : Option Addr) (m c : Nat) (bs : List Int) (hm : m ≤ 100000000) (a : Nat) (ha : a ≤ 9223372036854775807) (w : World) (h1 : Ba < w.heap.size) (h2 : Bb < w.heap.size)
    (hfar : 0 < m → ∀ b o, A = some ⟨b, o, none⟩ → b ≠ Ba) (hca : Boxed w Ba 3 (.int .i64 a)) (hcb : Boxed w Bb 22 (.slice A m c)) (hby : Byt w A m c bs) :
    SeqP (fun b => b = Ba) Fence.wide n Try.prog 29 #[.pointer (some ⟨Ba, 0, none⟩), .pointer (some ⟨Bb, 0, none⟩)] (fun x : Bit => #[Value.int .u8 x.1]) (Kbits Ba Bb A m c) (fun ys => ys.map (·.1) = bitsFrom bs a) (fun pre => ∃ r, pre.map (·.1) ++ r = bitsFrom bs a) (8 * m) w :=
  fun l J Jx W hW hJ _ hJp hY h0 =>
    bits1_in n hn l Ba Bb hab A m c bs hm a ha J Jx (hJp Ba rfl) (fun pre W hj => hJ pre W W.drew none hj ⟨rfl, rfl, rfl, Nat.le_refl _, fun _ _ _ => rfl⟩ (fun r e => by cases e)) hfar hY W ((hW.block Ba h1).trans hca) ((hW.block Bb h2).trans hcb) (hby.below hW) h0

set_option maxHeartbeats 1000000 in
theorem bits_in (n : Nat) (A : Option Addr) (m c : Nat) (a : Int) (w : World) :
    CallsIn Fence.wide n Try.prog 28 #[.slice A m c, .int .i64 a] w fun e w' => e = .returned (.func (.func 29) #[] #[.pointer (some ⟨w.heap.size + 1, 0, none⟩), .pointer (some ⟨w.heap.size, 0, none⟩)]) ∧ w' = (w.alloc (.cells #[.slice A m c] 22)).alloc (.cells #[.int .i64 a] 3) := by
  refine callsIn_of_wp Try.func28 rfl trivial ?_ rfl
  simp only [Try.ntmps28, List.size_toArray, List.length_cons, List.length_nil, Nat.reduceAdd, Nat.reduceSub, Array.replicate_succ, Array.replicate_zero, List.push_toArray, List.append_toArray, List.nil_append, List.cons_append]
  gi_wp2
  go_ret
  exact ⟨by simp, rfl⟩
end Go.Proofs.Ytejogehkehjelaa
