/- StreamStays: the law's walk, whole. -/
import Derived.Test.YtaaeflomjcpfpaaSt
namespace Go.Proofs.Ytaaeflomjcpfpaa
open Go.RowKit Go.Shelf
theorem wStaysR {W : World} (s : Str) (ok : StrOk s) (A0 : Option Addr) (n0 c0 : Nat) (h : Byt W A0 n0 c0 s.out) (A : Option Addr) (n c : Nat) (z : Nat → Int × Int × Bool) (hz : ∀ i, (-9223372036854775808 ≤ (z i).1 ∧ (z i).1 ≤ 9223372036854775807) ∧ (-9223372036854775808 ≤ (z i).2.1 ∧ (z i).2.1 ≤ 9223372036854775807)) (hT : Tri W A n c (fun i => .int .i64 (z i).1) (fun i => .int .i64 (z i).2.1) (fun i => .bool (z i).2.2)) :
    Calls Try.prog 5 #[.agg #[.int .i64 (s).id, .int .u8 (s).st, .int .i64 (s).sd, .int .i64 (s).rc, .int .i64 (s).ow, .bool (s).an, .bool (s).en, .slice A0 n0 c0, .int .u8 (s).ur, .bool (s).inc, .int .i64 (s).sl], .slice A n c] W fun e w' => e = .returned (.bool true) ∧ Below W.heap.size W w' := by
  by_cases f0 : n0 ≤ 3000
  · by_cases f1 : n ≤ 30
    · by_cases f2 : RightS s
      · by_cases f3 : s.rc + s.ow ≤ 2147483647
        · exact staysOk s ok A0 n0 c0 A n c z hz W h hT f0 f1 f2 f3
        · exact staysNo4 s ok A0 n0 c0 A n c z hz W h hT f0 f1 f2 (by omega)
      · exact staysNo3 s ok A0 n0 c0 A n c z hz W h hT f0 f1 f2
    · exact staysNo2 s ok A0 n0 c0 A n c z hz W h hT f0 (by omega)
  · exact staysNo1 s ok A0 n0 c0 A n c z hz W h hT (by omega)
end Go.Proofs.Ytaaeflomjcpfpaa
