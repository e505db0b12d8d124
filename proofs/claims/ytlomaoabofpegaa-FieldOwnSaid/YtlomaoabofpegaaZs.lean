/- append(v, make([]byte, k)...): as that of a string of k noughts. -/
import Derived.Test.YtlomaoabofpegaaM
import Derived.Test.YtlomaoabofpegaaS
import Derived.Lib.AppendStr
namespace Go.Proofs.Ytlomaoabofpegaa
open Go.RowKit Go.Shelf
set_option linter.unusedVariables false

def zstr (k : Nat) : ByteArray := ⟨(List.replicate k (0 : UInt8)).toArray⟩
theorem zstr_size (k : Nat) : (zstr k).size = k := by simp [zstr, ByteArray.size]
theorem zeros_eq (k : Nat) : Builtin.zeroCells (Value.int .u8 0).cells k = (Array.map (fun b : UInt8 => Value.int .u8 b.toNat) (zstr k).data).extract 0 k := by
  unfold zstr Builtin.zeroCells
  apply Array.ext
  · simp [Value.cells]
  · intro i h1 h2
    simp [Value.cells, Nat.mod_one]
theorem run_append_zeros (w : World) (ty : TypeId) (A : Option Addr) (n c k : Nat) (hk : n + k ≤ 1000000) (k1 : 0 < k) :
    (Builtin.append_ #[22, 3] ty #[.slice A n c, .int .i64 k]).run Try.prog w = (Builtin.append_ #[22, 9] ty #[.slice A n c, .string (zstr k)]).run Try.prog w := by
  obtain ⟨i0, hi, hz0, hz1, hz2⟩ := info_parts info8
  have hw : IntKind.i64.wrap (k : Int) = k := IntWalk.i64_in _ (by omega)
  have h1 : ¬ ((k : Int) < 0) := by omega
  have h2 : ¬ (281474976710656 < (k : Int)) := by omega
  have h5 : ¬ (9223372036854775807 < (n : Int) + (k : Int)) := by omega
  have h6 : ¬ (k = 0) := by omega
  have hs := zstr_size k
  by_cases hroom : n + k ≤ c
  · simp [Builtin.append_, run_underlying Try.underlying22, run_underlying Try.underlying3, run_underlying Try.underlying9, sizeOf, typeInfo, hi, hz1, hz2, asInt, asIntOf, hw, Builtin.lenOf, Builtin.firstCells, h1, h2, h6, hs, hroom, zeros_eq]
  · have h7 : ¬ (281474976710656 < Builtin.nextslicecap (n + k) c) := by
      have := growslice_fits (need := n + k) (old := c) (bytes := 1) (by omega) (by omega)
      omega
    simp [Builtin.append_, run_underlying Try.underlying22, run_underlying Try.underlying3, run_underlying Try.underlying9, sizeOf, typeInfo, hi, hz1, hz2, asInt, asIntOf, hw, Builtin.lenOf, Builtin.firstCells, h1, h2, h5, h6, hs, hroom, h7, zeros_eq]
theorem run_append_none (w : World) (ty : TypeId) (A : Option Addr) (n c : Nat) (hn : n ≤ c) :
    (Builtin.append_ #[22, 3] ty #[.slice A n c, .int .i64 0]).run Try.prog w = .ok (.slice A n c) w := by
  obtain ⟨i0, hi, hz0, hz1, hz2⟩ := info_parts info8
  have hw : IntKind.i64.wrap 0 = 0 := rfl
  cases A <;> simp [Builtin.append_, run_underlying Try.underlying22, run_underlying Try.underlying3, sizeOf, typeInfo, hi, hz2, asInt, asIntOf, hw, hn, storeCells]
theorem strCells_zstr (k : Nat) : Lib.strCells (zstr k) = (List.replicate k (0 : Int)).map (Value.int .u8) := by
  simp [Lib.strCells, zstr]

/-- append(v, make([]byte, k)...): v of the call's own. -/
theorem wpList_appZ (w : World) {ops : Array Oper} {rest : List Oper} {o : Oper} {a : Act} {Q : Exit → Act → World → Prop} (hgd : o.guard = none) (s x : Operand)
    (ho : o.op = .call { callee := .builtin .append, args := #[s, x], argTypes := #[22, 3] })
    (base : Nat) (A : Option Addr) (n c : Nat) (l : List Int) (hs : a.eval s = .slice A n c) (hown : Mine base w A n c l) (k : Nat) (hx : a.eval x = .int .i64 k)
    (hlen : n + k ≤ 1000000) (hbase : base ≤ w.heap.size)
    (h : ∀ A' c' w', Mine base w' A' (n + k) c' (l ++ List.replicate k 0) → Below base w w' → wpList Try.prog ops Q rest (a.put o.dst (.slice A' (n + k) c')) w') : wpList Try.prog ops Q (o :: rest) a w := by
  obtain ⟨i0, hi, hz0, hz1, hz2⟩ := info_parts info8
  refine wpList_plain hgd fun K hK => ?_
  have hrun : ∃ A' c' w', (Builtin.append_ #[22, 3] o.type #[.slice A n c, .int .i64 k]).run Try.prog w = .ok (.slice A' (n + k) c') w' ∧ Mine base w' A' (n + k) c' (l ++ List.replicate k 0) ∧ Below base w w' := by
    rcases Nat.eq_zero_or_pos k with rfl | k1
    · exact ⟨A, c, w, run_append_none w o.type A n c hown.byt.cap, by simpa using hown, Below.refl _ _⟩
    · rw [run_append_zeros w o.type A n c k hlen k1]
      obtain ⟨v', w', hr, h2, h3, _⟩ := Lib.run_append_own_string (P := Try.prog) w base 22 9 o.type 5 i0 Try.underlying22 Try.underlying9 hi hz0 hz1 hz2 (.slice A n c) n (l.map (Value.int .u8)) hown.1 (zstr k) (by rw [zstr_size]; simp [maxLen]; omega) (by rw [zstr_size]; omega) hbase
      rw [strCells_zstr, ← List.map_append, zstr_size] at h2
      rcases h2.2 with ⟨rfl, h0⟩ | ⟨g, cap, cur, rfl, hr'⟩
      · omega
      · exact ⟨_, _, w', hr, ⟨h2, hown.2.append (fun y hy => by simp at hy; omega)⟩, (Below.refl _ _).grown h3 hbase fun q hq => (hown.1.lt q hq).1⟩
  obtain ⟨A', c', w', hr, h2, h3⟩ := hrun
  unfold Oper.wp execOp
  simp only [ho, resolve, invoke, builtin, Sem.run_bind, Sem.run_pure, Result.andThen_ok, List.map_toArray, List.map_cons, List.map_nil, hs, hx, hr]
  exact hK _ _ (h A' c' w' h2 h3)
end Go.Proofs.Ytlomaoabofpegaa
