/- StreamTells: the law's walk, whole. -/
import Derived.Test.YtaaeflomjcpfpaaSu
namespace Go.Proofs.Ytaaeflomjcpfpaa
open Go.RowKit Go.Shelf
set_option linter.unusedVariables false
theorem wTellsR {W : World} (s : Str) (ok : StrOk s) (A : Option Addr) (n c : Nat) (h : Byt W A n c s.out) (o : Str) (oko : StrOk o) (A1 : Option Addr) (n1 c1 : Nat) (h1 : Byt W A1 n1 c1 o.out) (st : Int) (s0 : 0 ≤ st) (s1 : st ≤ 255) (kd : Int) (k0 : 0 ≤ kd) (k1 : kd ≤ 255) (en : Bool)
    (x : Int) (x0 : -9223372036854775808 ≤ x) (x1 : x ≤ 9223372036854775807) (sd : Int) (d0 : -9223372036854775808 ≤ sd) (d1 : sd ≤ 9223372036854775807) (rc : Int) (r0 : -9223372036854775808 ≤ rc) (r1 : rc ≤ 9223372036854775807) :
    Calls Try.prog 3 #[.agg #[.int .i64 (s).id, .int .u8 (s).st, .int .i64 (s).sd, .int .i64 (s).rc, .int .i64 (s).ow, .bool (s).an, .bool (s).en, .slice A n c, .int .u8 (s).ur, .bool (s).inc, .int .i64 (s).sl], .agg #[.int .i64 (o).id, .int .u8 (o).st, .int .i64 (o).sd, .int .i64 (o).rc, .int .i64 (o).ow, .bool (o).an, .bool (o).en, .slice A1 n1 c1, .int .u8 (o).ur, .bool (o).inc, .int .i64 (o).sl], .int .u8 st, .int .u8 kd, .bool en, .int .i64 x, .int .i64 sd, .int .i64 rc] W fun e w' => e = .returned (.bool true) ∧ Below W.heap.size W w' := by
  by_cases f0 : n ≤ 3000
  · by_cases f1 : n1 ≤ 3000
    · exact tellsOk s ok A n c o oko A1 n1 c1 W h h1 st s0 kd en x ⟨x0, x1⟩ sd ⟨d0, d1⟩ rc ⟨r0, r1⟩ f0 f1
    · exact tellsNo2 s ok A n c o oko A1 n1 c1 W h h1 st s0 kd en x ⟨x0, x1⟩ sd ⟨d0, d1⟩ rc ⟨r0, r1⟩ f0 (by omega)
  · exact tellsNo1 s ok A n c o oko A1 n1 c1 W h h1 st s0 kd en x ⟨x0, x1⟩ sd ⟨d0, d1⟩ rc ⟨r0, r1⟩ (by omega)
end Go.Proofs.Ytaaeflomjcpfpaa
