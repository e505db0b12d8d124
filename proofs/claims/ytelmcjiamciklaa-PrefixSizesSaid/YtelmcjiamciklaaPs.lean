/- The contract of the closure of septets. -/
import Derived.Test.YtelmcjiamciklaaR
import Derived.Test.YtelmcjiamciklaaPl
import Derived.Test.YtelmcjiamciklaaBits
namespace Go.Proofs.Ytelmcjiamciklaa
open Go.RowKit Go.Shelf
attribute [local go_sem] Oper.semAt_some

def left1 (b : Nat) (W : World) : Nat := match W.cell? ⟨b, 0, none⟩ with | some (.int _ n) => n.toNat | _ => 0

set_option maxRecDepth 100000 in
set_option maxHeartbeats 2000000 in
theorem septets1_in (F : Fence) (n : Nat) (h7 : F.fn 22) (hro : F.round = none) (hn : 1 ≤ n) (l Bn : Nat) (m : Nat) (hm : m < 4294967296) (J Jx : List Byte → World → Prop)
    (hJp : ∀ pre W v, J pre W → J pre (W.setCell ⟨Bn, 0, none⟩ v))
    (hY : ∀ pre x W, J pre W → pre.length < 5 → YieldAt F (n - 1) Try.prog l #[.int .u8 x.1] W fun e W' =>
      (e = .returned (.bool true) ∧ J (pre ++ [x]) W' ∧ KB Bn 41 W W') ∨ (e = .returned (.bool false) ∧ Jx (pre ++ [x]) W'))
    (W : World) (hc : Boxed W Bn 41 (.int .u32 m)) (h0 : J [] W) :
    CallsIn F n Try.prog 22 #[.func (.yield l) #[] #[], .pointer (some ⟨Bn, 0, none⟩)] W fun e W' => (∃ v, e = .returned v) ∧
      ((∃ ys : List Byte, ys.map (·.1) = septs m ∧ J ys W') ∨ (∃ pre : List Byte, True ∧ Jx pre W')) := by
  have hlen := septs_len 4 m (by omega)
  refine callsIn_of_wp Try.func22 rfl h7 ?_ hro
  simp only [Try.ntmps22, List.size_toArray, List.length_cons, List.length_nil, Nat.reduceAdd, Nat.reduceSub, Array.replicate_succ, Array.replicate_zero, List.push_toArray, List.append_toArray, List.nil_append, List.cons_append]
  gi_wp2
  gi_loopw [3] (fun _ wr => ∃ (pre : List Byte) (k : Nat), pre.map (·.1) ++ septs k = septs m ∧ k < 4294967296 ∧ J pre wr ∧ Boxed wr Bn 41 (.int .u32 k))
    (fun _ wr => left1 Bn wr)
  case atStart => exact ⟨[], m, by simp, hm, h0, hc⟩
  case round =>
    obtain ⟨pre, k, hpre, hk, hJ, hbx⟩ := hrel
    have hck := hbx.cell
    have HB := Lib.hid hbx
    clear hbx
    have hpl : pre.length + (septs k).length ≤ 5 := by rw [← hpre] at hlen; simpa using hlen
    have hp1 := septs_pos k
    by_cases hlt : k < 128
    · have hd : ((k : Int) / 128 != 0) = false := by simp; omega
      obtain ⟨fn, tmps, assign, body, hy, hR⟩ := hY pre ⟨k, by omega⟩ wr hJ (by omega)
      gi_wp2
      refine hR.mono ?_
      rintro e W3 (⟨rfl, hJ3, hk3⟩ | ⟨rfl, hJx3⟩)
      · gi_wp2
        go_end0
        exact ⟨⟨_, rfl⟩, .inl ⟨_, by rw [← hpre, septs_lt hlt]; simp, hJ3⟩⟩
      · gi_wp2
        go_end0
        exact ⟨⟨_, rfl⟩, .inr ⟨_, trivial, hJx3⟩⟩
    · have hd : ((k : Int) / 128 != 0) = true := by simp; omega
      rw [septs_ge hlt] at hpre hpl
      have hp2 := septs_pos (k / 128)
      simp at hpl
      obtain ⟨fn, tmps, assign, body, hy, hR⟩ := hY pre ⟨(k : Int) % 128 + 128, by omega⟩ wr hJ (by omega)
      have hor : bits .or .u8 ((k : Int) % 256) 128 = (k : Int) % 128 + 128 := by rw [or128 _ (by omega) (by omega)]; omega
      gi_wp2
      refine hR.mono ?_
      rintro e W3 (⟨rfl, hJ3, hk3⟩ | ⟨rfl, hJx3⟩)
      · have hb3 := hk3 _ HB.out
        have hc3 := hb3.cell
        have hf3 := hb3.frozen
        gi_wp2
        go_roundw
        case rel =>
          refine ⟨pre ++ [⟨(k : Int) % 128 + 128, by omega⟩], k / 128, by rw [← hpre]; simp, by omega, hJp _ _ _ hJ3, ?_⟩
          exact hb3.set _
        case measure =>
          have e1 := (hb3.set (.int .u32 ((k : Int) / 128))).cell
          unfold left1
          rw [e1, hck]
          simp; omega
      · gi_wp2
        refine bodyPost_ret (results_none rfl _ _ _) rfl ?_
        exact ⟨⟨_, rfl⟩, .inr ⟨_, trivial, hJx3⟩⟩

theorem septets_stops (F : Fence) (n : Nat) (h7 : F.fn 22) (hro : F.round = none) (hn : 1 ≤ n) (Bn m : Nat) (hm : m < 4294967296) (w : World) (hb : Bn < w.heap.size)
    (hc : Boxed w Bn 41 (.int .u32 m)) :
    SeqP (fun b => b = Bn) F n Try.prog 22 #[.pointer (some ⟨Bn, 0, none⟩)] (fun x : Byte => #[Value.int .u8 x.1]) (KB Bn 41) (fun ys => ys.map (·.1) = septs m) (fun _ => True) 5 w :=
  fun l J Jx W hW _ _ hJp hY h0 =>
    septets1_in F n h7 hro hn l Bn m hm J Jx (hJp Bn rfl) hY W ((hW.block Bn hb).trans hc) h0

set_option maxHeartbeats 1000000 in
theorem septets_in (F : Fence) (n : Nat) (h5 : F.fn 18) (hro : F.round = none) (m : Int) (w : World) :
    CallsIn F n Try.prog 18 #[.int .u32 m] w fun e w' => e = .returned (.func (.func 22) #[] #[.pointer (some ⟨w.heap.size, 0, none⟩)]) ∧ w' = w.alloc (.cells #[.int .u32 m] 41) := by
  refine callsIn_of_wp Try.func18 rfl h5 ?_ hro
  simp only [Try.ntmps18, List.size_toArray, List.length_cons, List.length_nil, Nat.reduceAdd, Nat.reduceSub, Array.replicate_succ, Array.replicate_zero, List.push_toArray, List.append_toArray, List.nil_append, List.cons_append]
  gi_wp2
  go_ret
  exact ⟨rfl, rfl⟩
end Go.Proofs.Ytelmcjiamciklaa
