/- The iterator over the settings of bytes: the contract of its closure. -/
import Derived.Test.YtlomaoabofpegaaFh
import Derived.Test.YtlomaoabofpegaaT
namespace Go.Proofs.Ytlomaoabofpegaa
open Go.RowKit Go.Shelf
attribute [local go_sem] Oper.semAt_some
attribute [local go_sem ↓ high] run_cutI_lh run_cutI_h run_cutI_l
set_option linter.unusedVariables false

/-- A setting. -/
abbrev PrS := { x : Int × Int // (0 ≤ x.1 ∧ x.1 ≤ 65535) ∧ (0 ≤ x.2 ∧ x.2 ≤ 4294967295) }
/-- The settings from one on. -/
def prsFrom (l : List Int) (k : Nat) : List (Int × Int) := (List.range (l.length / 6 - k)).map fun i => onePr l (k + i)
theorem prsFrom_nil (l : List Int) (k : Nat) (h : l.length / 6 ≤ k) : prsFrom l k = [] := by simp [prsFrom, show l.length / 6 - k = 0 by omega]
theorem prsFrom_cons (l : List Int) (k : Nat) (h : k < l.length / 6) : prsFrom l k = onePr l k :: prsFrom l (k + 1) := by
  unfold prsFrom
  rw [show l.length / 6 - k = (l.length / 6 - (k + 1)) + 1 by omega, List.range_succ_eq_map]
  simp [Function.comp_def, Nat.add_assoc, Nat.add_comm 1]
theorem prsFrom_len (l : List Int) (k : Nat) : (prsFrom l k).length = l.length / 6 - k := by simp [prsFrom]
theorem takeO_drop (l : List Int) (a b : Nat) (s : Int) (h : a ≤ l.length) : (takeO (l.drop a) (b : Int) s).1 = (takeO l ((a + b : Nat) : Int) s).1 := by
  unfold takeO
  by_cases hs : 1 ≤ s ∧ s ≤ 4
  · have c1 : 1 ≤ s ∧ s ≤ 4 ∧ 0 ≤ (b : Int) := ⟨hs.1, hs.2, by omega⟩
    have c2 : 1 ≤ s ∧ s ≤ 4 ∧ 0 ≤ ((a + b : Nat) : Int) := ⟨hs.1, hs.2, by omega⟩
    rw [if_pos c1, if_pos c2]
    by_cases hb : (b : Int) + s ≤ ((l.drop a).length : Int)
    · have hb2 : ((a + b : Nat) : Int) + s ≤ (l.length : Int) := by rw [List.length_drop] at hb; omega
      rw [if_pos hb, if_pos hb2]
      simp only [Int.toNat_natCast, List.drop_drop]
    · have hb2 : ¬ ((a + b : Nat) : Int) + s ≤ (l.length : Int) := by rw [List.length_drop] at hb; omega
      rw [if_neg hb, if_neg hb2]
  · have c1 : ¬ (1 ≤ s ∧ s ≤ 4 ∧ 0 ≤ (b : Int)) := fun h => hs ⟨h.1, h.2.1⟩
    have c2 : ¬ (1 ≤ s ∧ s ≤ 4 ∧ 0 ≤ ((a + b : Nat) : Int)) := fun h => hs ⟨h.1, h.2.1⟩
    rw [if_neg c1, if_neg c2]

/-- Blocks below B lie as they lay. -/
def KO (B : Nat) (W W' : World) : Prop := W.heap.size ≤ W'.heap.size ∧ ∀ b, b < B → W'.heap[b]? = W.heap[b]?
theorem KO.trans {B : Nat} {X Y Z : World} (h : KO B X Y) (k : KO B Y Z) : KO B X Z := ⟨Nat.le_trans h.1 k.1, fun b hb => (k.2 b hb).trans (h.2 b hb)⟩
theorem KO.put {B : Nat} {w : World} (hB : B ≤ w.heap.size) (W : World) (l : Nat) (o' : Obj) (hl : w.heap.size ≤ l) : KO B W (W.putObj l o') :=
  ⟨by simp [World.putObj], fun b hb => World.putObj_heap_other (by omega)⟩
theorem KO.byt {B : Nat} {W W' : World} (h : KO B W W') {A : Option Addr} {n c : Nat} {l : List Int} (hy : Byt W A n c l) (hf : 0 < n → ∀ b o, A = some ⟨b, o, none⟩ → b < B) : Byt W' A n c l :=
  ⟨hy.len, hy.cap, hy.mx, hy.nn, hy.bs, fun hn => by
    obtain ⟨b, q, e, hlt, hcell⟩ := hy.cell hn
    exact ⟨b, q, e, Nat.lt_of_lt_of_le hlt h.1, fun i hi => (World.cell?_of_block (h.2 b (hf hn b q e))).trans (hcell i hi)⟩⟩
/-- What the iterator wants kept. -/
def Kprs (Ba B : Nat) (W W' : World) : Prop := KB Ba 22 W W' ∧ KO B W W'
theorem Kprs.trans {Ba B : Nat} {X Y Z : World} (h : Kprs Ba B X Y) (k : Kprs Ba B Y Z) : Kprs Ba B X Z := ⟨KB.trans h.1 k.1, h.2.trans k.2⟩

def lenAt (b : Nat) (W : World) : Nat := match W.cell? ⟨b, 0, none⟩ with | some (.slice _ n _) => n | _ => 0

set_option maxRecDepth 100000 in
set_option maxHeartbeats 2000000 in
theorem pairs1_in (n : Nat) (hn : 1 ≤ n) (l Ba : Nat) (A : Option Addr) (m c : Nat) (bs : List Int) (hm : m ≤ 100000) (B : Nat) (hBa : B ≤ Ba)
    (J Jx : List PrS → World → Prop)
    (hJp : ∀ pre W v, J pre W → J pre (W.setCell ⟨Ba, 0, none⟩ v))
    (hfar : 0 < m → ∀ b o, A = some ⟨b, o, none⟩ → b < B)
    (hY : ∀ pre x W, J pre W → pre.length < m / 6 → YieldAt Fence.wide (n - 1) Try.prog l #[.agg #[.int .u16 x.1.1, .int .u32 x.1.2]] W fun e W' =>
      (e = .returned (.bool true) ∧ J (pre ++ [x]) W' ∧ Kprs Ba B W W') ∨ (e = .returned (.bool false) ∧ Jx (pre ++ [x]) W'))
    (W : World) (hca : Boxed W Ba 22 (.slice A m c)) (hby : Byt W A m c bs) (h0 : J [] W) :
    CallsIn Fence.wide n Try.prog 34 #[.func (.yield l) #[] #[], .pointer (some ⟨Ba, 0, none⟩)] W fun e W' => (∃ v, e = .returned v) ∧
      ((∃ ys : List PrS, ys.map (·.1) = prsFrom bs 0 ∧ J ys W') ∨ (∃ pre : List PrS, (∃ r, pre.map (·.1) ++ r = prsFrom bs 0) ∧ Jx pre W')) := by
  have hl := hby.len
  have HBs := Lib.hid hby.bs
  refine callsIn_of_wp Try.func34 rfl trivial ?_ rfl
  simp only [Try.ntmps34, List.size_toArray, List.length_cons, List.length_nil, Nat.reduceAdd, Nat.reduceSub, Array.replicate_succ, Array.replicate_zero, List.push_toArray, List.append_toArray, List.nil_append, List.cons_append]
  gi_wp2
  gi_loopw [3] (fun _ wr => ∃ (pre : List PrS) (k q r : Nat) (Ak : Option Addr) (ck : Nat), q = 6 * k ∧ r = m - q ∧ q ≤ m ∧ pre.map (·.1) ++ prsFrom bs k = prsFrom bs 0 ∧ J pre wr ∧ Boxed wr Ba 22 (.slice Ak r ck) ∧ Byt wr Ak r ck (bs.drop q) ∧ (0 < r → ∀ b o, Ak = some ⟨b, o, none⟩ → b < B))
    (fun _ wr => lenAt Ba wr)
  case atStart => exact ⟨[], 0, 0, m, A, c, rfl, rfl, Nat.zero_le _, by simp, h0, hca, by simpa using hby, hfar⟩
  case round =>
    obtain ⟨pre, k, q, r, Ak, ck, hq, hr, hqm, hpre, hJ, hbx, hby, hfk⟩ := hrel
    have hck := hbx.cell
    have HB := Lib.hid hbx
    have HY := Lib.hid hby
    have HF := Lib.hid hfk
    have hrb : r ≤ 100000 := by omega
    by_cases hlt : 6 ≤ r
    · have hpl : pre.length + (m / 6 - k) = m / 6 := by
        have := congrArg List.length hpre
        simp only [List.length_append, List.length_map, prsFrom_len, hl] at this
        omega
      have hk1 : k < m / 6 := by omega
      have hbd := onePr_bd HBs.out k
      obtain ⟨⟨X, Y⟩, hXY⟩ : ∃ p, onePr bs k = p := ⟨_, rfl⟩
      rw [hXY] at hbd
      have hX : (takeO bs ((6 * k : Nat) : Int) 2).1 = X := congrArg Prod.fst hXY
      have hY2 : (takeO bs ((6 * k + 2 : Nat) : Int) 4).1 = Y := congrArg Prod.snd hXY
      have T1 : Hid (Calls Try.prog 28 #[.slice Ak r ck, .int .i64 0, .int .i64 2] wr (Ret (.tuple #[.int .i64 X, .int .i64 (takeO (bs.drop q) 0 2).2]) wr)) := by
        have := fOTake Ak r ck (bs.drop q) 0 2 wr (by omega) hby
        have e := takeO_drop bs q 0 2 (by omega)
        rw [Nat.add_zero, hq, hX] at e
        rw [← hq] at e
        rw [show ((0 : Nat) : Int) = 0 from rfl] at e
        rw [e] at this
        exact Lib.hid this
      have T2 : Hid (Calls Try.prog 28 #[.slice Ak r ck, .int .i64 2, .int .i64 4] wr (Ret (.tuple #[.int .i64 Y, .int .i64 (takeO (bs.drop q) 2 4).2]) wr)) := by
        have := fOTake Ak r ck (bs.drop q) 2 4 wr (by omega) hby
        have e := takeO_drop bs q 2 4 (by omega)
        rw [hq, hY2] at e
        rw [← hq] at e
        rw [show ((2 : Nat) : Int) = 2 from rfl] at e
        rw [e] at this
        exact Lib.hid this
      generalize (takeO (bs.drop q) 0 2).2 = E1 at *
      generalize (takeO (bs.drop q) 2 4).2 = E2 at *
      have hcons : prsFrom bs k = (X, Y) :: prsFrom bs (k + 1) := by rw [prsFrom_cons bs k (by omega), hXY]
      obtain ⟨fn, tmps, assign, body, hyy, hR⟩ := hY pre ⟨(X, Y), hbd⟩ wr hJ (by omega)
      have e6 : decide ((6 : Int) ≤ (r : Int)) = true := decide_eq_true (by omega)
      have r0 : (6 : Int) ≤ (r : Int) := by omega
      obtain ⟨⟨X0, X1⟩, Y0, Y1⟩ := hbd
      simp only at X0 X1 Y0 Y1
      have HCo := Lib.hid hcons
      have HPr := Lib.hid hpre
      have HQ := Lib.hid hq
      have HR := Lib.hid hr
      clear hcons hpre hXY hX hY2 hq hr hl hbx hby hfk hpl
      gi_wp2_with fail
      refine ⟨trivial, (callsIn_wide.2 T1.out).mono ?_⟩
      rintro e w1 ⟨rfl, rfl⟩
      gi_wp2_with fail
      refine ⟨trivial, (callsIn_wide.2 T2.out).mono ?_⟩
      rintro e w1 ⟨rfl, rfl⟩
      gi_wp2
      refine hR.mono ?_
      rintro e W3 (⟨rfl, hJ3, hk3⟩ | ⟨rfl, hJx3⟩)
      · have hb3 := hk3.1 _ HB.out
        have hc3 := hb3.cell
        have hf3 := hb3.frozen
        have hy3 := (hk3.2.byt HY.out HF.out).cutL (lo := 6) (by omega)
        have hfk2 : ∀ b o, cutA Ak ck 6 = some ⟨b, o, none⟩ → b < B := fun b o e => by
          have hr6 := HF.out (by omega)
          unfold cutA at e
          split at e
          · exact hr6 b o e
          · obtain ⟨a', ha', he⟩ := Option.map_eq_some_iff.1 e
            obtain ⟨b', o', eA, _⟩ := HY.out.cell (by omega)
            rw [eA] at ha'
            cases ha'
            rw [Go.WideShapes.add_plain] at he
            cases he
            exact hr6 _ _ eA
        have hy4 := hy3.far (p := ⟨Ba, 0, none⟩) (fun b o e => Nat.ne_of_lt (Nat.lt_of_lt_of_le (hfk2 b o e) hBa)) (.slice (cutA Ak ck 6) (r - 6) (ck - 6))
        rw [List.drop_drop] at hy4
        have HY4 := Lib.hid hy4
        have HF2 := Lib.hid hfk2
        clear hy3 hy4 hfk2
        gi_wp2
        refine ⟨⟨pre ++ [⟨(X, Y), ⟨⟨X0, X1⟩, Y0, Y1⟩⟩], k + 1, q + 6, r - 6, cutA Ak ck 6, ck - 6, by have := HQ.out; omega, by have := HR.out; omega, by have := HR.out; omega, by rw [← HPr.out, HCo.out]; simp, hJp _ _ _ hJ3, hb3.set _, HY4.out, fun _ => HF2.out⟩, ?_⟩
        have e1 := (hb3.set (.slice (cutA Ak ck 6) (r - 6) (ck - 6))).cell
        unfold lenAt
        rw [e1, hck]
        simp only
        omega
      · gi_wp2
        refine bodyPost_ret (results_none rfl _ _ _) rfl ?_
        exact ⟨⟨_, rfl⟩, .inr ⟨_, ⟨prsFrom bs (k + 1), by rw [← HPr.out, HCo.out]; simp⟩, hJx3⟩⟩
    · have e6 : decide ((6 : Int) ≤ (r : Int)) = false := decide_eq_false (by omega)
      have hnil : prsFrom bs k = [] := prsFrom_nil bs k (by omega)
      have HPr := Lib.hid hpre
      have HNi := Lib.hid hnil
      clear hpre hnil hq hr hl hbx hby hfk
      gi_wp2
      go_end0
      exact ⟨⟨_, rfl⟩, .inl ⟨pre, by rw [← HPr.out, HNi.out]; simp, hJ⟩⟩

theorem pairs_stops (n : Nat) (hn : 1 ≤ n) (Ba : Nat) (A : Option Addr) (m c : Nat) (bs : List Int) (hm : m ≤ 100000) (B : Nat) (hBa : B ≤ Ba) (w : World) (h1 : Ba < w.heap.size)
    (hfar : 0 < m → ∀ b o, A = some ⟨b, o, none⟩ → b < B) (hca : Boxed w Ba 22 (.slice A m c)) (hby : Byt w A m c bs) :
    SeqP (fun b => b = Ba) Fence.wide n Try.prog 34 #[.pointer (some ⟨Ba, 0, none⟩)] (fun x : PrS => #[Value.agg #[.int .u16 x.1.1, .int .u32 x.1.2]]) (Kprs Ba B) (fun ys => ys.map (·.1) = prsFrom bs 0) (fun pre => ∃ r, pre.map (·.1) ++ r = prsFrom bs 0) (m / 6) w :=
  fun l J Jx W hW hJ _ hJp hY h0 =>
    pairs1_in n hn l Ba A m c bs hm B hBa J Jx (hJp Ba rfl) hfar hY W ((hW.block Ba h1).trans hca) (hby.below hW) h0

theorem pairs_in (n : Nat) (A : Option Addr) (m c : Nat) (w : World) :
    CallsIn Fence.wide n Try.prog 31 #[.slice A m c] w fun e w' => e = .returned (.func (.func 34) #[] #[.pointer (some ⟨w.heap.size, 0, none⟩)]) ∧ w' = w.alloc (.cells #[.slice A m c] 22) := by
  refine callsIn_of_wp Try.func31 rfl trivial ?_ rfl
  simp only [Try.ntmps31, List.size_toArray, List.length_cons, List.length_nil, Nat.reduceAdd, Nat.reduceSub, Array.replicate_succ, Array.replicate_zero, List.push_toArray, List.append_toArray, List.nil_append, List.cons_append]
  gi_wp2
  go_ret
  exact ⟨by simp, rfl⟩
end Go.Proofs.Ytlomaoabofpegaa
