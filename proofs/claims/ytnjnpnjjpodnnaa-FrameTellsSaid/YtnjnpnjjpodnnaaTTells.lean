/- FrameTells: what the functions answer is what the document's answer: the walk. -/
import Derived.Test.YtnjnpnjjpodnnaaTGz
import Derived.Test.YtnjnpnjjpodnnaaTGn
import Derived.Test.YtnjnpnjjpodnnaaTGu
import Derived.Test.YtnjnpnjjpodnnaaTGwk
namespace Go.Proofs.Ytnjnpnjjpodnnaa
open Go.RowKit Go.Shelf
set_option linter.unusedVariables false
set_option linter.unusedSimpArgs false

section
variable {W : World}
set_option maxRecDepth 100000 in
set_option maxHeartbeats 8000000 in
theorem tBig1 (L k fl st : Int) (hst : -9223372036854775808 ≤ st ∧ st ≤ 9223372036854775807) (hfl : 0 ≤ fl ∧ fl ≤ 255) (A : Option Addr) (n c : Nat) (D : List Int) (h : Byt W A n c D)
    (f : Fm) (Af : Option Addr) (nf cf : Nat) (Pf : Option Addr) (pnf pcf : Nat) (hf : FmOk f) (bf : Byt W Af nf cf f.da) (pf : Prs W Pf pnf pcf f.prs) (o : Fm) (Ao : Option Addr) (no co : Nat) (Po : Option Addr) (pno pco : Nat) (bo : Byt W Ao no co o.da) (po : Prs W Po pno pco o.prs) (s cd : Int) (g0 : 3000 < n) :
    Calls Try.prog 3 #[.agg #[.int .i64 L, .int .u8 k, .int .u8 fl, .int .i64 st], .slice A n c, .agg #[.int .u8 (f).kd, .int .u8 (f).fl, .int .i64 (f).st, .slice Af nf cf, .int .i64 (f).pd, .int .i64 (f).la, .int .i64 (f).ic, .int .u32 (f).cd, .slice Pf pnf pcf, .bool (f).rk, .bool (f).al, .int .i64 (f).dp, .int .u8 (f).wt], .agg #[.int .u8 (o).kd, .int .u8 (o).fl, .int .i64 (o).st, .slice Ao no co, .int .i64 (o).pd, .int .i64 (o).la, .int .i64 (o).ic, .int .u32 (o).cd, .slice Po pno pco, .bool (o).rk, .bool (o).al, .int .i64 (o).dp, .int .u8 (o).wt], .int .i64 s, .int .u32 cd] W fun e w' => e = .returned (.bool true) ∧ Below W.heap.size W w' := by
  have cn := Nat.le_trans h.cap h.mx
  have cnf := Nat.le_trans bf.cap bf.mx
  have cno := Nat.le_trans bo.cap bo.mx
  have cpf := Nat.le_trans pf.cap pf.mx
  have cpo := Nat.le_trans po.cap po.mx
  have b0 := (((Bel.refl W).alloc (.cells #[.int .i64 L, .int .u8 k, .int .u8 fl, .int .i64 st] 23)).alloc (.cells #[.int .u8 (f).kd, .int .u8 (f).fl, .int .i64 (f).st, .slice Af nf cf, .int .i64 (f).pd, .int .i64 (f).la, .int .i64 (f).ic, .int .u32 (f).cd, .slice Pf pnf pcf, .bool (f).rk, .bool (f).al, .int .i64 (f).dp, .int .u8 (f).wt] 30)).alloc (.cells #[.int .u8 (o).kd, .int .u8 (o).fl, .int .i64 (o).st, .slice Ao no co, .int .i64 (o).pd, .int .i64 (o).la, .int .i64 (o).ic, .int .u32 (o).cd, .slice Po pno pco, .bool (o).rk, .bool (o).al, .int .i64 (o).dp, .int .u8 (o).wt] 30)
  have qh := ((Blk.new W 23 #[.int .i64 L, .int .u8 k, .int .u8 fl, .int .i64 st]).alloc (.cells #[.int .u8 (f).kd, .int .u8 (f).fl, .int .i64 (f).st, .slice Af nf cf, .int .i64 (f).pd, .int .i64 (f).la, .int .i64 (f).ic, .int .u32 (f).cd, .slice Pf pnf pcf, .bool (f).rk, .bool (f).al, .int .i64 (f).dp, .int .u8 (f).wt] 30)).alloc (.cells #[.int .u8 (o).kd, .int .u8 (o).fl, .int .i64 (o).st, .slice Ao no co, .int .i64 (o).pd, .int .i64 (o).la, .int .i64 (o).ic, .int .u32 (o).cd, .slice Po pno pco, .bool (o).rk, .bool (o).al, .int .i64 (o).dp, .int .u8 (o).wt] 30)
  have qf := (Blk.newAt (b := W.heap.size + 1) (W.alloc (.cells #[.int .i64 L, .int .u8 k, .int .u8 fl, .int .i64 st] 23)) 30 #[.int .u8 (f).kd, .int .u8 (f).fl, .int .i64 (f).st, .slice Af nf cf, .int .i64 (f).pd, .int .i64 (f).la, .int .i64 (f).ic, .int .u32 (f).cd, .slice Pf pnf pcf, .bool (f).rk, .bool (f).al, .int .i64 (f).dp, .int .u8 (f).wt] (by simp)).alloc (.cells #[.int .u8 (o).kd, .int .u8 (o).fl, .int .i64 (o).st, .slice Ao no co, .int .i64 (o).pd, .int .i64 (o).la, .int .i64 (o).ic, .int .u32 (o).cd, .slice Po pno pco, .bool (o).rk, .bool (o).al, .int .i64 (o).dp, .int .u8 (o).wt] 30)
  have qo := Blk.newAt (b := W.heap.size + 1 + 1) ((W.alloc (.cells #[.int .i64 L, .int .u8 k, .int .u8 fl, .int .i64 st] 23)).alloc (.cells #[.int .u8 (f).kd, .int .u8 (f).fl, .int .i64 (f).st, .slice Af nf cf, .int .i64 (f).pd, .int .i64 (f).la, .int .i64 (f).ic, .int .u32 (f).cd, .slice Pf pnf pcf, .bool (f).rk, .bool (f).al, .int .i64 (f).dp, .int .u8 (f).wt] 30)) 30 #[.int .u8 (o).kd, .int .u8 (o).fl, .int .i64 (o).st, .slice Ao no co, .int .i64 (o).pd, .int .i64 (o).la, .int .i64 (o).ic, .int .u32 (o).cd, .slice Po pno pco, .bool (o).rk, .bool (o).al, .int .i64 (o).dp, .int .u8 (o).wt] (by simp)
  have z : decide ((3000 : Int) < n) = true := decide_eq_true (by omega)
  clear g0 bf pf bo po h hf
  go_enter Try.func3, Try.ntmps3
  go_wp2_with (go_at_call 9; (with_reducible refine (fWakes _).mono ?_); rintro e w9 ⟨rfl, hb⟩; replace b0 := b0.below hb)
  go_ret
  exact ⟨rfl, b0.out⟩
set_option maxRecDepth 100000 in
set_option maxHeartbeats 8000000 in
theorem tBig2 (L k fl st : Int) (hst : -9223372036854775808 ≤ st ∧ st ≤ 9223372036854775807) (hfl : 0 ≤ fl ∧ fl ≤ 255) (A : Option Addr) (n c : Nat) (D : List Int) (h : Byt W A n c D)
    (f : Fm) (Af : Option Addr) (nf cf : Nat) (Pf : Option Addr) (pnf pcf : Nat) (hf : FmOk f) (bf : Byt W Af nf cf f.da) (pf : Prs W Pf pnf pcf f.prs) (o : Fm) (Ao : Option Addr) (no co : Nat) (Po : Option Addr) (pno pco : Nat) (bo : Byt W Ao no co o.da) (po : Prs W Po pno pco o.prs) (s cd : Int) (g0 : n ≤ 3000) (g1 : 3000 < nf ∨ 300 < pnf) :
    Calls Try.prog 3 #[.agg #[.int .i64 L, .int .u8 k, .int .u8 fl, .int .i64 st], .slice A n c, .agg #[.int .u8 (f).kd, .int .u8 (f).fl, .int .i64 (f).st, .slice Af nf cf, .int .i64 (f).pd, .int .i64 (f).la, .int .i64 (f).ic, .int .u32 (f).cd, .slice Pf pnf pcf, .bool (f).rk, .bool (f).al, .int .i64 (f).dp, .int .u8 (f).wt], .agg #[.int .u8 (o).kd, .int .u8 (o).fl, .int .i64 (o).st, .slice Ao no co, .int .i64 (o).pd, .int .i64 (o).la, .int .i64 (o).ic, .int .u32 (o).cd, .slice Po pno pco, .bool (o).rk, .bool (o).al, .int .i64 (o).dp, .int .u8 (o).wt], .int .i64 s, .int .u32 cd] W fun e w' => e = .returned (.bool true) ∧ Below W.heap.size W w' := by
  have cn := Nat.le_trans h.cap h.mx
  have cnf := Nat.le_trans bf.cap bf.mx
  have cno := Nat.le_trans bo.cap bo.mx
  have cpf := Nat.le_trans pf.cap pf.mx
  have cpo := Nat.le_trans po.cap po.mx
  have Gf := Lib.hid fun w => rGreatF f Af nf cf Pf pnf pcf w cnf cpf true (by have := g1; simp only [Bool.or_eq_true, decide_eq_true_eq]; omega)
  have b0 := (((Bel.refl W).alloc (.cells #[.int .i64 L, .int .u8 k, .int .u8 fl, .int .i64 st] 23)).alloc (.cells #[.int .u8 (f).kd, .int .u8 (f).fl, .int .i64 (f).st, .slice Af nf cf, .int .i64 (f).pd, .int .i64 (f).la, .int .i64 (f).ic, .int .u32 (f).cd, .slice Pf pnf pcf, .bool (f).rk, .bool (f).al, .int .i64 (f).dp, .int .u8 (f).wt] 30)).alloc (.cells #[.int .u8 (o).kd, .int .u8 (o).fl, .int .i64 (o).st, .slice Ao no co, .int .i64 (o).pd, .int .i64 (o).la, .int .i64 (o).ic, .int .u32 (o).cd, .slice Po pno pco, .bool (o).rk, .bool (o).al, .int .i64 (o).dp, .int .u8 (o).wt] 30)
  have qh := ((Blk.new W 23 #[.int .i64 L, .int .u8 k, .int .u8 fl, .int .i64 st]).alloc (.cells #[.int .u8 (f).kd, .int .u8 (f).fl, .int .i64 (f).st, .slice Af nf cf, .int .i64 (f).pd, .int .i64 (f).la, .int .i64 (f).ic, .int .u32 (f).cd, .slice Pf pnf pcf, .bool (f).rk, .bool (f).al, .int .i64 (f).dp, .int .u8 (f).wt] 30)).alloc (.cells #[.int .u8 (o).kd, .int .u8 (o).fl, .int .i64 (o).st, .slice Ao no co, .int .i64 (o).pd, .int .i64 (o).la, .int .i64 (o).ic, .int .u32 (o).cd, .slice Po pno pco, .bool (o).rk, .bool (o).al, .int .i64 (o).dp, .int .u8 (o).wt] 30)
  have qf := (Blk.newAt (b := W.heap.size + 1) (W.alloc (.cells #[.int .i64 L, .int .u8 k, .int .u8 fl, .int .i64 st] 23)) 30 #[.int .u8 (f).kd, .int .u8 (f).fl, .int .i64 (f).st, .slice Af nf cf, .int .i64 (f).pd, .int .i64 (f).la, .int .i64 (f).ic, .int .u32 (f).cd, .slice Pf pnf pcf, .bool (f).rk, .bool (f).al, .int .i64 (f).dp, .int .u8 (f).wt] (by simp)).alloc (.cells #[.int .u8 (o).kd, .int .u8 (o).fl, .int .i64 (o).st, .slice Ao no co, .int .i64 (o).pd, .int .i64 (o).la, .int .i64 (o).ic, .int .u32 (o).cd, .slice Po pno pco, .bool (o).rk, .bool (o).al, .int .i64 (o).dp, .int .u8 (o).wt] 30)
  have qo := Blk.newAt (b := W.heap.size + 1 + 1) ((W.alloc (.cells #[.int .i64 L, .int .u8 k, .int .u8 fl, .int .i64 st] 23)).alloc (.cells #[.int .u8 (f).kd, .int .u8 (f).fl, .int .i64 (f).st, .slice Af nf cf, .int .i64 (f).pd, .int .i64 (f).la, .int .i64 (f).ic, .int .u32 (f).cd, .slice Pf pnf pcf, .bool (f).rk, .bool (f).al, .int .i64 (f).dp, .int .u8 (f).wt] 30)) 30 #[.int .u8 (o).kd, .int .u8 (o).fl, .int .i64 (o).st, .slice Ao no co, .int .i64 (o).pd, .int .i64 (o).la, .int .i64 (o).ic, .int .u32 (o).cd, .slice Po pno pco, .bool (o).rk, .bool (o).al, .int .i64 (o).dp, .int .u8 (o).wt] (by simp)
  have z : decide ((3000 : Int) < n) = false := decide_eq_false (by omega)
  clear g0 g1 bf pf bo po h hf
  go_enter Try.func3, Try.ntmps3
  go_wp2_with (first | ((with_reducible refine wpList_id ?_); refine wpList_getG (by rfl) _ _ rfl rfl qf Try.underlying30 rfl (by rfl) ?_) | (go_at_call 8; (with_reducible refine (Gf.out _).mono ?_); rintro e w9 ⟨rfl, hb⟩; replace b0 := b0.below hb; replace qh := qh.below hb; replace qf := qf.below hb; replace qo := qo.below hb; clear hb) | (go_at_call 9; (with_reducible refine (fWakes _).mono ?_); rintro e w9 ⟨rfl, hb⟩; replace b0 := b0.below hb))
  go_ret
  exact ⟨rfl, b0.out⟩
set_option maxRecDepth 100000 in
set_option maxHeartbeats 8000000 in
theorem tBig3 (L k fl st : Int) (hst : -9223372036854775808 ≤ st ∧ st ≤ 9223372036854775807) (hfl : 0 ≤ fl ∧ fl ≤ 255) (A : Option Addr) (n c : Nat) (D : List Int) (h : Byt W A n c D)
    (f : Fm) (Af : Option Addr) (nf cf : Nat) (Pf : Option Addr) (pnf pcf : Nat) (hf : FmOk f) (bf : Byt W Af nf cf f.da) (pf : Prs W Pf pnf pcf f.prs) (o : Fm) (Ao : Option Addr) (no co : Nat) (Po : Option Addr) (pno pco : Nat) (bo : Byt W Ao no co o.da) (po : Prs W Po pno pco o.prs) (s cd : Int) (g0 : n ≤ 3000) (g1 : nf ≤ 3000 ∧ pnf ≤ 300) (g2 : 3000 < no ∨ 300 < pno) :
    Calls Try.prog 3 #[.agg #[.int .i64 L, .int .u8 k, .int .u8 fl, .int .i64 st], .slice A n c, .agg #[.int .u8 (f).kd, .int .u8 (f).fl, .int .i64 (f).st, .slice Af nf cf, .int .i64 (f).pd, .int .i64 (f).la, .int .i64 (f).ic, .int .u32 (f).cd, .slice Pf pnf pcf, .bool (f).rk, .bool (f).al, .int .i64 (f).dp, .int .u8 (f).wt], .agg #[.int .u8 (o).kd, .int .u8 (o).fl, .int .i64 (o).st, .slice Ao no co, .int .i64 (o).pd, .int .i64 (o).la, .int .i64 (o).ic, .int .u32 (o).cd, .slice Po pno pco, .bool (o).rk, .bool (o).al, .int .i64 (o).dp, .int .u8 (o).wt], .int .i64 s, .int .u32 cd] W fun e w' => e = .returned (.bool true) ∧ Below W.heap.size W w' := by
  have cn := Nat.le_trans h.cap h.mx
  have cnf := Nat.le_trans bf.cap bf.mx
  have cno := Nat.le_trans bo.cap bo.mx
  have cpf := Nat.le_trans pf.cap pf.mx
  have cpo := Nat.le_trans po.cap po.mx
  have Gf := Lib.hid fun w => rGreatF f Af nf cf Pf pnf pcf w cnf cpf false (by have := g1; simp only [Bool.or_eq_false_iff, decide_eq_false_iff_not]; omega)
  have Go := Lib.hid fun w => rGreatF o Ao no co Po pno pco w cno cpo true (by have := g2; simp only [Bool.or_eq_true, decide_eq_true_eq]; omega)
  have b0 := (((Bel.refl W).alloc (.cells #[.int .i64 L, .int .u8 k, .int .u8 fl, .int .i64 st] 23)).alloc (.cells #[.int .u8 (f).kd, .int .u8 (f).fl, .int .i64 (f).st, .slice Af nf cf, .int .i64 (f).pd, .int .i64 (f).la, .int .i64 (f).ic, .int .u32 (f).cd, .slice Pf pnf pcf, .bool (f).rk, .bool (f).al, .int .i64 (f).dp, .int .u8 (f).wt] 30)).alloc (.cells #[.int .u8 (o).kd, .int .u8 (o).fl, .int .i64 (o).st, .slice Ao no co, .int .i64 (o).pd, .int .i64 (o).la, .int .i64 (o).ic, .int .u32 (o).cd, .slice Po pno pco, .bool (o).rk, .bool (o).al, .int .i64 (o).dp, .int .u8 (o).wt] 30)
  have qh := ((Blk.new W 23 #[.int .i64 L, .int .u8 k, .int .u8 fl, .int .i64 st]).alloc (.cells #[.int .u8 (f).kd, .int .u8 (f).fl, .int .i64 (f).st, .slice Af nf cf, .int .i64 (f).pd, .int .i64 (f).la, .int .i64 (f).ic, .int .u32 (f).cd, .slice Pf pnf pcf, .bool (f).rk, .bool (f).al, .int .i64 (f).dp, .int .u8 (f).wt] 30)).alloc (.cells #[.int .u8 (o).kd, .int .u8 (o).fl, .int .i64 (o).st, .slice Ao no co, .int .i64 (o).pd, .int .i64 (o).la, .int .i64 (o).ic, .int .u32 (o).cd, .slice Po pno pco, .bool (o).rk, .bool (o).al, .int .i64 (o).dp, .int .u8 (o).wt] 30)
  have qf := (Blk.newAt (b := W.heap.size + 1) (W.alloc (.cells #[.int .i64 L, .int .u8 k, .int .u8 fl, .int .i64 st] 23)) 30 #[.int .u8 (f).kd, .int .u8 (f).fl, .int .i64 (f).st, .slice Af nf cf, .int .i64 (f).pd, .int .i64 (f).la, .int .i64 (f).ic, .int .u32 (f).cd, .slice Pf pnf pcf, .bool (f).rk, .bool (f).al, .int .i64 (f).dp, .int .u8 (f).wt] (by simp)).alloc (.cells #[.int .u8 (o).kd, .int .u8 (o).fl, .int .i64 (o).st, .slice Ao no co, .int .i64 (o).pd, .int .i64 (o).la, .int .i64 (o).ic, .int .u32 (o).cd, .slice Po pno pco, .bool (o).rk, .bool (o).al, .int .i64 (o).dp, .int .u8 (o).wt] 30)
  have qo := Blk.newAt (b := W.heap.size + 1 + 1) ((W.alloc (.cells #[.int .i64 L, .int .u8 k, .int .u8 fl, .int .i64 st] 23)).alloc (.cells #[.int .u8 (f).kd, .int .u8 (f).fl, .int .i64 (f).st, .slice Af nf cf, .int .i64 (f).pd, .int .i64 (f).la, .int .i64 (f).ic, .int .u32 (f).cd, .slice Pf pnf pcf, .bool (f).rk, .bool (f).al, .int .i64 (f).dp, .int .u8 (f).wt] 30)) 30 #[.int .u8 (o).kd, .int .u8 (o).fl, .int .i64 (o).st, .slice Ao no co, .int .i64 (o).pd, .int .i64 (o).la, .int .i64 (o).ic, .int .u32 (o).cd, .slice Po pno pco, .bool (o).rk, .bool (o).al, .int .i64 (o).dp, .int .u8 (o).wt] (by simp)
  have z : decide ((3000 : Int) < n) = false := decide_eq_false (by omega)
  clear g0 g1 g2 bf pf bo po h hf
  go_enter Try.func3, Try.ntmps3
  go_wp2_with (first | ((with_reducible refine wpList_id ?_); refine wpList_getG (by rfl) _ _ rfl rfl qf Try.underlying30 rfl (by rfl) ?_) | ((with_reducible refine wpList_id ?_); refine wpList_getG (by rfl) _ _ rfl rfl qo Try.underlying30 rfl (by rfl) ?_) | (go_at_call 8; (with_reducible refine (Gf.out _).mono ?_); rintro e w9 ⟨rfl, hb⟩; replace b0 := b0.below hb; replace qh := qh.below hb; replace qf := qf.below hb; replace qo := qo.below hb; clear hb) | (go_at_call 8; (with_reducible refine (Go.out _).mono ?_); rintro e w9 ⟨rfl, hb⟩; replace b0 := b0.below hb; replace qh := qh.below hb; replace qf := qf.below hb; replace qo := qo.below hb; clear hb) | (go_at_call 9; (with_reducible refine (fWakes _).mono ?_); rintro e w9 ⟨rfl, hb⟩; replace b0 := b0.below hb))
  go_ret
  exact ⟨rfl, b0.out⟩
set_option maxRecDepth 100000 in
set_option maxHeartbeats 8000000 in
theorem tOk (L k fl st : Int) (hst : -9223372036854775808 ≤ st ∧ st ≤ 9223372036854775807) (hfl : 0 ≤ fl ∧ fl ≤ 255) (A : Option Addr) (n c : Nat) (D : List Int) (h : Byt W A n c D)
    (f : Fm) (Af : Option Addr) (nf cf : Nat) (Pf : Option Addr) (pnf pcf : Nat) (hf : FmOk f) (bf : Byt W Af nf cf f.da) (pf : Prs W Pf pnf pcf f.prs) (o : Fm) (Ao : Option Addr) (no co : Nat) (Po : Option Addr) (pno pco : Nat) (bo : Byt W Ao no co o.da) (po : Prs W Po pno pco o.prs) (s cd : Int) (g0 : n ≤ 3000) (g1 : nf ≤ 3000 ∧ pnf ≤ 300) (g2 : no ≤ 3000 ∧ pno ≤ 300) :
    Calls Try.prog 3 #[.agg #[.int .i64 L, .int .u8 k, .int .u8 fl, .int .i64 st], .slice A n c, .agg #[.int .u8 (f).kd, .int .u8 (f).fl, .int .i64 (f).st, .slice Af nf cf, .int .i64 (f).pd, .int .i64 (f).la, .int .i64 (f).ic, .int .u32 (f).cd, .slice Pf pnf pcf, .bool (f).rk, .bool (f).al, .int .i64 (f).dp, .int .u8 (f).wt], .agg #[.int .u8 (o).kd, .int .u8 (o).fl, .int .i64 (o).st, .slice Ao no co, .int .i64 (o).pd, .int .i64 (o).la, .int .i64 (o).ic, .int .u32 (o).cd, .slice Po pno pco, .bool (o).rk, .bool (o).al, .int .i64 (o).dp, .int .u8 (o).wt], .int .i64 s, .int .u32 cd] W fun e w' => e = .returned (.bool true) ∧ Below W.heap.size W w' := by
  have cn := Nat.le_trans h.cap h.mx
  have cnf := Nat.le_trans bf.cap bf.mx
  have cno := Nat.le_trans bo.cap bo.mx
  have cpf := Nat.le_trans pf.cap pf.mx
  have cpo := Nat.le_trans po.cap po.mx
  have Gf := Lib.hid fun w => rGreatF f Af nf cf Pf pnf pcf w cnf cpf false (by have := g1; simp only [Bool.or_eq_false_iff, decide_eq_false_iff_not]; omega)
  have Go := Lib.hid fun w => rGreatF o Ao no co Po pno pco w cno cpo false (by have := g2; simp only [Bool.or_eq_false_iff, decide_eq_false_iff_not]; omega)
  obtain ⟨⟨r1, ⟨xw, xs, xc⟩⟩, hr⟩ : ∃ r, parseS k fl st D = r := ⟨_, rfl⟩
  have PF := Lib.hid fun w h => fParse L k fl st A n c D w h (by omega) hst.1 hst.2 hfl.1 hfl.2
  have PR := Lib.hid fun w h => rParse L k fl st A n c D w h (by omega) hst.1 hst.2 hfl.1 hfl.2
  rw [hr] at PF PR
  have UF := Lib.hid fun w h hp => fPutF f hf Af nf cf Pf pnf pcf w h (by omega) hp (by omega)
  have UR := Lib.hid fun w h hp => rPutF f hf Af nf cf Pf pnf pcf w h (by omega) hp (by omega)
  have RF := Lib.hid fun w h hp => fRight f hf Af nf cf Pf pnf pcf w h (by omega) hp (by omega)
  have RR := Lib.hid fun w h hp => rRight f hf Af nf cf Pf pnf pcf w h (by omega) hp (by omega)
  have SF := Lib.hid fun w h1 h2 h3 h4 => fSameF f o Af nf cf Pf pnf pcf Ao no co Po pno pco w h1 h2 h3 h4
  have SR := Lib.hid fun w h1 h2 h3 h4 => rSameF f o Af nf cf Pf pnf pcf Ao no co Po pno pco w h1 h2 h3 h4
  have SX := Lib.hid fun A n c P pn pc B m d R rn rc w h1 h2 h3 h4 => rSameF r1 r1 A n c P pn pc B m d R rn rc w h1 h2 h3 h4
  have SO := Lib.hid fun A n c P pn pc w h1 h2 h3 h4 => rSameF f f A n c P pn pc Af nf cf Pf pnf pcf w h1 h2 h3 h4
  rw [show sameF r1 r1 = true from decide_eq_true rfl] at SX
  rw [show sameF f f = true from decide_eq_true rfl] at SO
  have OW := Lib.hid fun w h hp => fOwnF f Af nf cf Pf pnf pcf w h (by omega) hp (by omega)
  obtain ⟨lp, hlp⟩ : ∃ x, putS f = x := ⟨_, rfl⟩
  obtain ⟨le, hle⟩ : ∃ x, putSe f = x := ⟨_, rfl⟩
  rw [hlp, hle] at UF UR
  obtain ⟨rg, hrg⟩ : ∃ x, rightS f = x := ⟨_, rfl⟩
  rw [hrg] at RF RR
  obtain ⟨sg, hsg⟩ : ∃ x, sameF f o = x := ⟨_, rfl⟩
  rw [hsg] at SF SR
  have H0 := Lib.hid h
  have HF := Lib.hid bf
  have HP := Lib.hid pf
  have HO := Lib.hid bo
  have HQ := Lib.hid po
  have EQ := Lib.hid eqB_self
  have NE := flt_neq xw xs xc
  have b0 := (((Bel.refl W).alloc (.cells #[.int .i64 L, .int .u8 k, .int .u8 fl, .int .i64 st] 23)).alloc (.cells #[.int .u8 (f).kd, .int .u8 (f).fl, .int .i64 (f).st, .slice Af nf cf, .int .i64 (f).pd, .int .i64 (f).la, .int .i64 (f).ic, .int .u32 (f).cd, .slice Pf pnf pcf, .bool (f).rk, .bool (f).al, .int .i64 (f).dp, .int .u8 (f).wt] 30)).alloc (.cells #[.int .u8 (o).kd, .int .u8 (o).fl, .int .i64 (o).st, .slice Ao no co, .int .i64 (o).pd, .int .i64 (o).la, .int .i64 (o).ic, .int .u32 (o).cd, .slice Po pno pco, .bool (o).rk, .bool (o).al, .int .i64 (o).dp, .int .u8 (o).wt] 30)
  have qh := ((Blk.new W 23 #[.int .i64 L, .int .u8 k, .int .u8 fl, .int .i64 st]).alloc (.cells #[.int .u8 (f).kd, .int .u8 (f).fl, .int .i64 (f).st, .slice Af nf cf, .int .i64 (f).pd, .int .i64 (f).la, .int .i64 (f).ic, .int .u32 (f).cd, .slice Pf pnf pcf, .bool (f).rk, .bool (f).al, .int .i64 (f).dp, .int .u8 (f).wt] 30)).alloc (.cells #[.int .u8 (o).kd, .int .u8 (o).fl, .int .i64 (o).st, .slice Ao no co, .int .i64 (o).pd, .int .i64 (o).la, .int .i64 (o).ic, .int .u32 (o).cd, .slice Po pno pco, .bool (o).rk, .bool (o).al, .int .i64 (o).dp, .int .u8 (o).wt] 30)
  have qf := (Blk.newAt (b := W.heap.size + 1) (W.alloc (.cells #[.int .i64 L, .int .u8 k, .int .u8 fl, .int .i64 st] 23)) 30 #[.int .u8 (f).kd, .int .u8 (f).fl, .int .i64 (f).st, .slice Af nf cf, .int .i64 (f).pd, .int .i64 (f).la, .int .i64 (f).ic, .int .u32 (f).cd, .slice Pf pnf pcf, .bool (f).rk, .bool (f).al, .int .i64 (f).dp, .int .u8 (f).wt] (by simp)).alloc (.cells #[.int .u8 (o).kd, .int .u8 (o).fl, .int .i64 (o).st, .slice Ao no co, .int .i64 (o).pd, .int .i64 (o).la, .int .i64 (o).ic, .int .u32 (o).cd, .slice Po pno pco, .bool (o).rk, .bool (o).al, .int .i64 (o).dp, .int .u8 (o).wt] 30)
  have qo := Blk.newAt (b := W.heap.size + 1 + 1) ((W.alloc (.cells #[.int .i64 L, .int .u8 k, .int .u8 fl, .int .i64 st] 23)).alloc (.cells #[.int .u8 (f).kd, .int .u8 (f).fl, .int .i64 (f).st, .slice Af nf cf, .int .i64 (f).pd, .int .i64 (f).la, .int .i64 (f).ic, .int .u32 (f).cd, .slice Pf pnf pcf, .bool (f).rk, .bool (f).al, .int .i64 (f).dp, .int .u8 (f).wt] 30)) 30 #[.int .u8 (o).kd, .int .u8 (o).fl, .int .i64 (o).st, .slice Ao no co, .int .i64 (o).pd, .int .i64 (o).la, .int .i64 (o).ic, .int .u32 (o).cd, .slice Po pno pco, .bool (o).rk, .bool (o).al, .int .i64 (o).dp, .int .u8 (o).wt] (by simp)
  have z : decide ((3000 : Int) < n) = false := decide_eq_false (by omega)
  clear g0 g1 g2 bf pf bo po h hf hr hlp hle hrg hsg
  go_enter Try.func3, Try.ntmps3
  go_upto_region 3 with (first | ((with_reducible refine wpList_id ?_); refine wpList_getG (by rfl) _ _ rfl rfl qf Try.underlying30 rfl (by rfl) ?_) | ((with_reducible refine wpList_id ?_); refine wpList_getG (by rfl) _ _ rfl rfl qo Try.underlying30 rfl (by rfl) ?_) | (go_at_call 8; (with_reducible refine (Gf.out _).mono ?_); rintro e w9 ⟨rfl, hb⟩; replace b0 := b0.below hb; replace qh := qh.below hb; replace qf := qf.below hb; replace qo := qo.below hb; clear hb) | (go_at_call 8; (with_reducible refine (Go.out _).mono ?_); rintro e w9 ⟨rfl, hb⟩; replace b0 := b0.below hb; replace qh := qh.below hb; replace qf := qf.below hb; replace qo := qo.below hb; clear hb))
  go_wp2_with (first | ((with_reducible refine wpList_id ?_); refine wpList_getG (by rfl) _ _ rfl rfl qh Try.underlying23 rfl (by rfl) ?_))
  refine (PF.out _ (H0.out.below b0.out)).mono ?_
  rintro e wx ⟨Bx, mx, dx, Qx, qnx, qcx, rfl, mmx, mpx, hb⟩
  replace b0 := b0.below hb
  replace qh := qh.below hb
  replace qf := qf.below hb
  replace qo := qo.below hb
  clear hb
  replace b0 := (b0.alloc (.cells #[.int .u8 (r1).kd, .int .u8 (r1).fl, .int .i64 (r1).st, .slice Bx mx dx, .int .i64 (r1).pd, .int .i64 (r1).la, .int .i64 (r1).ic, .int .u32 (r1).cd, .slice Qx qnx qcx, .bool (r1).rk, .bool (r1).al, .int .i64 (r1).dp, .int .u8 (r1).wt] 30)).alloc (.cells #[.bool xw, .int .i64 xs, .int .u32 xc] 34)
  replace qh := (qh.alloc (.cells #[.int .u8 (r1).kd, .int .u8 (r1).fl, .int .i64 (r1).st, .slice Bx mx dx, .int .i64 (r1).pd, .int .i64 (r1).la, .int .i64 (r1).ic, .int .u32 (r1).cd, .slice Qx qnx qcx, .bool (r1).rk, .bool (r1).al, .int .i64 (r1).dp, .int .u8 (r1).wt] 30)).alloc (.cells #[.bool xw, .int .i64 xs, .int .u32 xc] 34)
  replace qf := (qf.alloc (.cells #[.int .u8 (r1).kd, .int .u8 (r1).fl, .int .i64 (r1).st, .slice Bx mx dx, .int .i64 (r1).pd, .int .i64 (r1).la, .int .i64 (r1).ic, .int .u32 (r1).cd, .slice Qx qnx qcx, .bool (r1).rk, .bool (r1).al, .int .i64 (r1).dp, .int .u8 (r1).wt] 30)).alloc (.cells #[.bool xw, .int .i64 xs, .int .u32 xc] 34)
  replace qo := (qo.alloc (.cells #[.int .u8 (r1).kd, .int .u8 (r1).fl, .int .i64 (r1).st, .slice Bx mx dx, .int .i64 (r1).pd, .int .i64 (r1).la, .int .i64 (r1).ic, .int .u32 (r1).cd, .slice Qx qnx qcx, .bool (r1).rk, .bool (r1).al, .int .i64 (r1).dp, .int .u8 (r1).wt] 30)).alloc (.cells #[.bool xw, .int .i64 xs, .int .u32 xc] 34)
  replace mmx := (mmx.alloc (.cells #[.int .u8 (r1).kd, .int .u8 (r1).fl, .int .i64 (r1).st, .slice Bx mx dx, .int .i64 (r1).pd, .int .i64 (r1).la, .int .i64 (r1).ic, .int .u32 (r1).cd, .slice Qx qnx qcx, .bool (r1).rk, .bool (r1).al, .int .i64 (r1).dp, .int .u8 (r1).wt] 30)).alloc (.cells #[.bool xw, .int .i64 xs, .int .u32 xc] 34)
  replace mpx := (mpx.alloc (.cells #[.int .u8 (r1).kd, .int .u8 (r1).fl, .int .i64 (r1).st, .slice Bx mx dx, .int .i64 (r1).pd, .int .i64 (r1).la, .int .i64 (r1).ic, .int .u32 (r1).cd, .slice Qx qnx qcx, .bool (r1).rk, .bool (r1).al, .int .i64 (r1).dp, .int .u8 (r1).wt] 30)).alloc (.cells #[.bool xw, .int .i64 xs, .int .u32 xc] 34)
  have qx := (Blk.new wx 30 #[.int .u8 (r1).kd, .int .u8 (r1).fl, .int .i64 (r1).st, .slice Bx mx dx, .int .i64 (r1).pd, .int .i64 (r1).la, .int .i64 (r1).ic, .int .u32 (r1).cd, .slice Qx qnx qcx, .bool (r1).rk, .bool (r1).al, .int .i64 (r1).dp, .int .u8 (r1).wt]).alloc (.cells #[.bool xw, .int .i64 xs, .int .u32 xc] 34)
  have ux := Blk.newAt (b := wx.heap.size + 1) (wx.alloc (.cells #[.int .u8 (r1).kd, .int .u8 (r1).fl, .int .i64 (r1).st, .slice Bx mx dx, .int .i64 (r1).pd, .int .i64 (r1).la, .int .i64 (r1).ic, .int .u32 (r1).cd, .slice Qx qnx qcx, .bool (r1).rk, .bool (r1).al, .int .i64 (r1).dp, .int .u8 (r1).wt] 30)) 34 #[.bool xw, .int .i64 xs, .int .u32 xc] (by simp)
  go_wp2_with (first | ((with_reducible refine wpList_id ?_); refine wpList_getG (by rfl) _ _ rfl rfl qh Try.underlying23 rfl (by rfl) ?_))
  refine (PR.out _ (H0.out.below b0.out)).mono ?_
  rintro e wy ⟨By, my, dy, Qy, qny, qcy, rfl, mmy, mpy, hb⟩
  replace b0 := b0.below hb
  replace qh := qh.below hb
  replace qf := qf.below hb
  replace qo := qo.below hb
  replace mmx := mmx.below hb
  replace mpx := mpx.below hb
  replace qx := qx.below hb
  replace ux := ux.below hb
  clear hb
  replace b0 := (b0.alloc (.cells #[.int .u8 (r1).kd, .int .u8 (r1).fl, .int .i64 (r1).st, .slice By my dy, .int .i64 (r1).pd, .int .i64 (r1).la, .int .i64 (r1).ic, .int .u32 (r1).cd, .slice Qy qny qcy, .bool (r1).rk, .bool (r1).al, .int .i64 (r1).dp, .int .u8 (r1).wt] 30)).alloc (.cells #[.bool xw, .int .i64 xs, .int .u32 xc] 34)
  replace qh := (qh.alloc (.cells #[.int .u8 (r1).kd, .int .u8 (r1).fl, .int .i64 (r1).st, .slice By my dy, .int .i64 (r1).pd, .int .i64 (r1).la, .int .i64 (r1).ic, .int .u32 (r1).cd, .slice Qy qny qcy, .bool (r1).rk, .bool (r1).al, .int .i64 (r1).dp, .int .u8 (r1).wt] 30)).alloc (.cells #[.bool xw, .int .i64 xs, .int .u32 xc] 34)
  replace qf := (qf.alloc (.cells #[.int .u8 (r1).kd, .int .u8 (r1).fl, .int .i64 (r1).st, .slice By my dy, .int .i64 (r1).pd, .int .i64 (r1).la, .int .i64 (r1).ic, .int .u32 (r1).cd, .slice Qy qny qcy, .bool (r1).rk, .bool (r1).al, .int .i64 (r1).dp, .int .u8 (r1).wt] 30)).alloc (.cells #[.bool xw, .int .i64 xs, .int .u32 xc] 34)
  replace qo := (qo.alloc (.cells #[.int .u8 (r1).kd, .int .u8 (r1).fl, .int .i64 (r1).st, .slice By my dy, .int .i64 (r1).pd, .int .i64 (r1).la, .int .i64 (r1).ic, .int .u32 (r1).cd, .slice Qy qny qcy, .bool (r1).rk, .bool (r1).al, .int .i64 (r1).dp, .int .u8 (r1).wt] 30)).alloc (.cells #[.bool xw, .int .i64 xs, .int .u32 xc] 34)
  replace mmx := (mmx.alloc (.cells #[.int .u8 (r1).kd, .int .u8 (r1).fl, .int .i64 (r1).st, .slice By my dy, .int .i64 (r1).pd, .int .i64 (r1).la, .int .i64 (r1).ic, .int .u32 (r1).cd, .slice Qy qny qcy, .bool (r1).rk, .bool (r1).al, .int .i64 (r1).dp, .int .u8 (r1).wt] 30)).alloc (.cells #[.bool xw, .int .i64 xs, .int .u32 xc] 34)
  replace mpx := (mpx.alloc (.cells #[.int .u8 (r1).kd, .int .u8 (r1).fl, .int .i64 (r1).st, .slice By my dy, .int .i64 (r1).pd, .int .i64 (r1).la, .int .i64 (r1).ic, .int .u32 (r1).cd, .slice Qy qny qcy, .bool (r1).rk, .bool (r1).al, .int .i64 (r1).dp, .int .u8 (r1).wt] 30)).alloc (.cells #[.bool xw, .int .i64 xs, .int .u32 xc] 34)
  replace qx := (qx.alloc (.cells #[.int .u8 (r1).kd, .int .u8 (r1).fl, .int .i64 (r1).st, .slice By my dy, .int .i64 (r1).pd, .int .i64 (r1).la, .int .i64 (r1).ic, .int .u32 (r1).cd, .slice Qy qny qcy, .bool (r1).rk, .bool (r1).al, .int .i64 (r1).dp, .int .u8 (r1).wt] 30)).alloc (.cells #[.bool xw, .int .i64 xs, .int .u32 xc] 34)
  replace ux := (ux.alloc (.cells #[.int .u8 (r1).kd, .int .u8 (r1).fl, .int .i64 (r1).st, .slice By my dy, .int .i64 (r1).pd, .int .i64 (r1).la, .int .i64 (r1).ic, .int .u32 (r1).cd, .slice Qy qny qcy, .bool (r1).rk, .bool (r1).al, .int .i64 (r1).dp, .int .u8 (r1).wt] 30)).alloc (.cells #[.bool xw, .int .i64 xs, .int .u32 xc] 34)
  replace mmy := (mmy.alloc (.cells #[.int .u8 (r1).kd, .int .u8 (r1).fl, .int .i64 (r1).st, .slice By my dy, .int .i64 (r1).pd, .int .i64 (r1).la, .int .i64 (r1).ic, .int .u32 (r1).cd, .slice Qy qny qcy, .bool (r1).rk, .bool (r1).al, .int .i64 (r1).dp, .int .u8 (r1).wt] 30)).alloc (.cells #[.bool xw, .int .i64 xs, .int .u32 xc] 34)
  replace mpy := (mpy.alloc (.cells #[.int .u8 (r1).kd, .int .u8 (r1).fl, .int .i64 (r1).st, .slice By my dy, .int .i64 (r1).pd, .int .i64 (r1).la, .int .i64 (r1).ic, .int .u32 (r1).cd, .slice Qy qny qcy, .bool (r1).rk, .bool (r1).al, .int .i64 (r1).dp, .int .u8 (r1).wt] 30)).alloc (.cells #[.bool xw, .int .i64 xs, .int .u32 xc] 34)
  have qy := (Blk.new wy 30 #[.int .u8 (r1).kd, .int .u8 (r1).fl, .int .i64 (r1).st, .slice By my dy, .int .i64 (r1).pd, .int .i64 (r1).la, .int .i64 (r1).ic, .int .u32 (r1).cd, .slice Qy qny qcy, .bool (r1).rk, .bool (r1).al, .int .i64 (r1).dp, .int .u8 (r1).wt]).alloc (.cells #[.bool xw, .int .i64 xs, .int .u32 xc] 34)
  have uy := Blk.newAt (b := wy.heap.size + 1) (wy.alloc (.cells #[.int .u8 (r1).kd, .int .u8 (r1).fl, .int .i64 (r1).st, .slice By my dy, .int .i64 (r1).pd, .int .i64 (r1).la, .int .i64 (r1).ic, .int .u32 (r1).cd, .slice Qy qny qcy, .bool (r1).rk, .bool (r1).al, .int .i64 (r1).dp, .int .u8 (r1).wt] 30)) 34 #[.bool xw, .int .i64 xs, .int .u32 xc] (by simp)
  go_wp2_with (first | ((with_reducible refine wpList_id ?_); refine wpList_getG (by rfl) _ _ rfl rfl qf Try.underlying30 rfl (by rfl) ?_))
  refine (UF.out _ (HF.out.below b0.out) (HP.out.below b0.out)).mono ?_
  rintro e wp ⟨Ap, np, cp, rfl, kp, hb⟩
  replace b0 := b0.below hb
  replace qh := qh.below hb
  replace qf := qf.below hb
  replace qo := qo.below hb
  replace mmx := mmx.below hb
  replace mpx := mpx.below hb
  replace qx := qx.below hb
  replace ux := ux.below hb
  replace mmy := mmy.below hb
  replace mpy := mpy.below hb
  replace qy := qy.below hb
  replace uy := uy.below hb
  clear hb
  go_wp2_with (first | ((with_reducible refine wpList_id ?_); refine wpList_getG (by rfl) _ _ rfl rfl qf Try.underlying30 rfl (by rfl) ?_))
  refine (UR.out _ (HF.out.below b0.out) (HP.out.below b0.out)).mono ?_
  rintro e wq ⟨Aq, nq, cq, rfl, kq, hb⟩
  replace b0 := b0.below hb
  replace qh := qh.below hb
  replace qf := qf.below hb
  replace qo := qo.below hb
  replace mmx := mmx.below hb
  replace mpx := mpx.below hb
  replace qx := qx.below hb
  replace ux := ux.below hb
  replace mmy := mmy.below hb
  replace mpy := mpy.below hb
  replace qy := qy.below hb
  replace uy := uy.below hb
  replace kp := kp.below hb
  clear hb
  go_upto_region 9 with (first | ((with_reducible refine wpList_id ?_); refine wpList_getG (by rfl) _ _ rfl rfl qx Try.underlying30 rfl (by rfl) ?_) | ((with_reducible refine wpList_id ?_); refine wpList_getG (by rfl) _ _ rfl rfl qy Try.underlying30 rfl (by rfl) ?_) | ((with_reducible refine wpList_id ?_); refine wpList_getG (by rfl) _ _ rfl rfl ux Try.underlying34 rfl (by rfl) ?_) | ((with_reducible refine wpList_id ?_); refine wpList_getG (by rfl) _ _ rfl rfl uy Try.underlying34 rfl (by rfl) ?_) | (go_at_call 14; (with_reducible refine (SX.out _ _ _ _ _ _ _ _ _ _ _ _ _ mmx.byt mpx.prs mmy.byt mpy.prs).mono ?_); rintro e w9 ⟨rfl, hb⟩; replace b0 := b0.below hb; replace qh := qh.below hb; replace qf := qf.below hb; replace qo := qo.below hb; replace mmx := mmx.below hb; replace mpx := mpx.below hb; replace qx := qx.below hb; replace ux := ux.below hb; replace mmy := mmy.below hb; replace mpy := mpy.below hb; replace qy := qy.below hb; replace uy := uy.below hb; replace kp := kp.below hb; replace kq := kq.below hb; clear hb) | (go_at_call 15; (with_reducible refine (fSameL _ _ _ _ _ _ _ _ _ kp.byt kq.byt).mono ?_); rintro e w9 ⟨rfl, rfl⟩; rw [EQ.out]))
  clear mmx mpx qx ux mmy mpy qy uy kp kq qh
  replace b0 := b0.drew
  replace qf := qf.drew
  replace qo := qo.drew
  refine wp_region_G (fun w' => Blk w' (W.heap.size + 1) 30 #[.int .u8 (f).kd, .int .u8 (f).fl, .int .i64 (f).st, .slice Af nf cf, .int .i64 (f).pd, .int .i64 (f).la, .int .i64 (f).ic, .int .u32 (f).cd, .slice Pf pnf pcf, .bool (f).rk, .bool (f).al, .int .i64 (f).dp, .int .u8 (f).wt] ∧ Blk w' (W.heap.size + 1 + 1) 30 #[.int .u8 (o).kd, .int .u8 (o).fl, .int .i64 (o).st, .slice Ao no co, .int .i64 (o).pd, .int .i64 (o).la, .int .i64 (o).ic, .int .u32 (o).cd, .slice Po pno pco, .bool (o).rk, .bool (o).al, .int .i64 (o).dp, .int .u8 (o).wt]) [] (by kernel_rfl) ?_
  have S0 := (And.intro qf qo)
  refine wpAnyG_take 0 (v := .agg #[.int .u8 (f).kd, .int .u8 (f).fl, .int .i64 (f).st, .slice Af nf cf, .int .i64 (f).pd, .int .i64 (f).la, .int .i64 (f).ic, .int .u32 (f).cd, .slice Pf pnf pcf, .bool (f).rk, .bool (f).al, .int .i64 (f).dp, .int .u8 (f).wt]) rfl (by kernel_rfl) (fun _ _ _ h => h) S0 (Or.inl ⟨by rfl, by intro w' hSw; exact exec_getB (by rfl) (by rfl) hSw.1 Try.underlying30 rfl (by rfl)⟩) ?_; (try simp only [Act.put, rA, rB, rC, rD, rE, rF])
  refine wpAnyG_take 2 (v := .agg #[.int .u8 (f).kd, .int .u8 (f).fl, .int .i64 (f).st, .slice Af nf cf, .int .i64 (f).pd, .int .i64 (f).la, .int .i64 (f).ic, .int .u32 (f).cd, .slice Pf pnf pcf, .bool (f).rk, .bool (f).al, .int .i64 (f).dp, .int .u8 (f).wt]) rfl (by kernel_rfl) (fun _ _ _ h => h) S0 (Or.inl ⟨by rfl, by intro w' hSw; exact exec_getB (by rfl) (by rfl) hSw.1 Try.underlying30 rfl (by rfl)⟩) ?_; (try simp only [Act.put, rA, rB, rC, rD, rE, rF])
  clear S0
  refine wpAnyG_one 1 (by kernel_rfl) rfl (fun K hK => ?_)
  rw [if_pos (by rfl)]
  go_simp
  (with_reducible refine (RF.out _ (HF.out.below b0.out) (HP.out.below b0.out)).mono ?_)
  rintro e w9 ⟨rfl, hb⟩
  replace b0 := b0.below hb
  replace qf := qf.below hb
  replace qo := qo.below hb
  clear hb
  (try go_simp)
  refine hK.out _ _ (fun _ => (And.intro qf qo)) ?_
  clear hK K
  (try simp only [Act.put, rA, rB, rC, rD, rE, rF])
  refine wpAnyG_one 3 (by kernel_rfl) rfl (fun K hK => ?_)
  rw [if_pos (by rfl)]
  go_simp
  (with_reducible refine (RR.out _ (HF.out.below b0.out) (HP.out.below b0.out)).mono ?_)
  rintro e w9 ⟨rfl, hb⟩
  replace b0 := b0.below hb
  replace qf := qf.below hb
  replace qo := qo.below hb
  clear hb
  (try go_simp)
  refine hK.out _ _ (fun _ => (And.intro qf qo)) ?_
  clear hK K
  (try simp only [Act.put, rA, rB, rC, rD, rE, rF])
  have S0 := (And.intro qf qo)
  refine wpAnyG_take 4 (v := ?_) rfl (by kernel_rfl) (fun _ _ _ h => h) S0 (Or.inl ⟨by rfl, by intro w' hSw; go_simp; try with_reducible rfl⟩) ?_; (try simp only [Act.put, rA, rB, rC, rD, rE, rF])
  refine wpAnyG_take 5 (v := ?_) rfl (by kernel_rfl) (fun _ _ _ h => h) S0 (Or.inl ⟨by rfl, by intro w' hSw; go_simp; try with_reducible rfl⟩) ?_; (try simp only [Act.put, rA, rB, rC, rD, rE, rF])
  refine wpAnyG_take 6 (v := .agg #[.int .u8 (f).kd, .int .u8 (f).fl, .int .i64 (f).st, .slice Af nf cf, .int .i64 (f).pd, .int .i64 (f).la, .int .i64 (f).ic, .int .u32 (f).cd, .slice Pf pnf pcf, .bool (f).rk, .bool (f).al, .int .i64 (f).dp, .int .u8 (f).wt]) rfl (by kernel_rfl) (fun _ _ _ h => h) S0 (Or.inl ⟨by rfl, by intro w' hSw; exact exec_getB (by rfl) (by rfl) hSw.1 Try.underlying30 rfl (by rfl)⟩) ?_; (try simp only [Act.put, rA, rB, rC, rD, rE, rF])
  refine wpAnyG_take 7 (v := .agg #[.int .u8 (o).kd, .int .u8 (o).fl, .int .i64 (o).st, .slice Ao no co, .int .i64 (o).pd, .int .i64 (o).la, .int .i64 (o).ic, .int .u32 (o).cd, .slice Po pno pco, .bool (o).rk, .bool (o).al, .int .i64 (o).dp, .int .u8 (o).wt]) rfl (by kernel_rfl) (fun _ _ _ h => h) S0 (Or.inl ⟨by rfl, by intro w' hSw; exact exec_getB (by rfl) (by rfl) hSw.2 Try.underlying30 rfl (by rfl)⟩) ?_; (try simp only [Act.put, rA, rB, rC, rD, rE, rF])
  refine wpAnyG_take 9 (v := .agg #[.int .u8 (f).kd, .int .u8 (f).fl, .int .i64 (f).st, .slice Af nf cf, .int .i64 (f).pd, .int .i64 (f).la, .int .i64 (f).ic, .int .u32 (f).cd, .slice Pf pnf pcf, .bool (f).rk, .bool (f).al, .int .i64 (f).dp, .int .u8 (f).wt]) rfl (by kernel_rfl) (fun _ _ _ h => h) S0 (Or.inl ⟨by rfl, by intro w' hSw; exact exec_getB (by rfl) (by rfl) hSw.1 Try.underlying30 rfl (by rfl)⟩) ?_; (try simp only [Act.put, rA, rB, rC, rD, rE, rF])
  refine wpAnyG_take 10 (v := .agg #[.int .u8 (o).kd, .int .u8 (o).fl, .int .i64 (o).st, .slice Ao no co, .int .i64 (o).pd, .int .i64 (o).la, .int .i64 (o).ic, .int .u32 (o).cd, .slice Po pno pco, .bool (o).rk, .bool (o).al, .int .i64 (o).dp, .int .u8 (o).wt]) rfl (by kernel_rfl) (fun _ _ _ h => h) S0 (Or.inl ⟨by rfl, by intro w' hSw; exact exec_getB (by rfl) (by rfl) hSw.2 Try.underlying30 rfl (by rfl)⟩) ?_; (try simp only [Act.put, rA, rB, rC, rD, rE, rF])
  clear S0
  refine wpAnyG_one 8 (by kernel_rfl) rfl (fun K hK => ?_)
  rw [if_pos (by rfl)]
  go_simp
  (with_reducible refine (SF.out _ (HF.out.below b0.out) (HP.out.below b0.out) (HO.out.below b0.out) (HQ.out.below b0.out)).mono ?_)
  rintro e w9 ⟨rfl, hb⟩
  replace b0 := b0.below hb
  replace qf := qf.below hb
  replace qo := qo.below hb
  clear hb
  (try go_simp)
  refine hK.out _ _ (fun _ => (And.intro qf qo)) ?_
  clear hK K
  (try simp only [Act.put, rA, rB, rC, rD, rE, rF])
  refine wpAnyG_one 11 (by kernel_rfl) rfl (fun K hK => ?_)
  rw [if_pos (by rfl)]
  go_simp
  (with_reducible refine (SR.out _ (HF.out.below b0.out) (HP.out.below b0.out) (HO.out.below b0.out) (HQ.out.below b0.out)).mono ?_)
  rintro e w9 ⟨rfl, hb⟩
  replace b0 := b0.below hb
  replace qf := qf.below hb
  replace qo := qo.below hb
  clear hb
  (try go_simp)
  refine hK.out _ _ (fun _ => (And.intro qf qo)) ?_
  clear hK K
  (try simp only [Act.put, rA, rB, rC, rD, rE, rF])
  have S0 := (And.intro qf qo)
  refine wpAnyG_take 12 (v := ?_) rfl (by kernel_rfl) (fun _ _ _ h => h) S0 (Or.inl ⟨by rfl, by intro w' hSw; go_simp; try with_reducible rfl⟩) ?_; (try simp only [Act.put, rA, rB, rC, rD, rE, rF])
  refine wpAnyG_take 13 (v := ?_) rfl (by kernel_rfl) (fun _ _ _ h => h) S0 (Or.inl ⟨by rfl, by intro w' hSw; go_simp; try with_reducible rfl⟩) ?_; (try simp only [Act.put, rA, rB, rC, rD, rE, rF])
  refine wpAnyG_take 14 (v := ?_) rfl (by kernel_rfl) (fun _ _ _ h => h) S0 (Or.inl ⟨by rfl, by intro w' hSw; go_simp; try with_reducible rfl⟩) ?_; (try simp only [Act.put, rA, rB, rC, rD, rE, rF])
  refine wpAnyG_take 15 (v := .agg #[.int .u8 (f).kd, .int .u8 (f).fl, .int .i64 (f).st, .slice Af nf cf, .int .i64 (f).pd, .int .i64 (f).la, .int .i64 (f).ic, .int .u32 (f).cd, .slice Pf pnf pcf, .bool (f).rk, .bool (f).al, .int .i64 (f).dp, .int .u8 (f).wt]) rfl (by kernel_rfl) (fun _ _ _ h => h) S0 (Or.inl ⟨by rfl, by intro w' hSw; exact exec_getB (by rfl) (by rfl) hSw.1 Try.underlying30 rfl (by rfl)⟩) ?_; (try simp only [Act.put, rA, rB, rC, rD, rE, rF])
  refine wpAnyG_take 17 (v := .agg #[.int .u8 (f).kd, .int .u8 (f).fl, .int .i64 (f).st, .slice Af nf cf, .int .i64 (f).pd, .int .i64 (f).la, .int .i64 (f).ic, .int .u32 (f).cd, .slice Pf pnf pcf, .bool (f).rk, .bool (f).al, .int .i64 (f).dp, .int .u8 (f).wt]) rfl (by kernel_rfl) (fun _ _ _ h => h) S0 (Or.inl ⟨by rfl, by intro w' hSw; exact exec_getB (by rfl) (by rfl) hSw.1 Try.underlying30 rfl (by rfl)⟩) ?_; (try simp only [Act.put, rA, rB, rC, rD, rE, rF])
  clear S0
  refine wpAnyG_one 16 (by kernel_rfl) rfl (fun K hK => ?_)
  rw [if_pos (by rfl)]
  go_simp
  (with_reducible refine (OW.out _ (HF.out.below b0.out) (HP.out.below b0.out)).mono ?_)
  rintro e w9 ⟨Bw, mw, dw, Qw, qnw, qcw, rfl, mmw, mpw, hb⟩
  replace b0 := b0.below hb
  replace qf := qf.below hb
  replace qo := qo.below hb
  clear hb
  (try go_simp)
  refine hK.out _ _ (fun _ => (And.intro qf qo)) ?_
  clear hK K
  (try simp only [Act.put, rA, rB, rC, rD, rE, rF])
  refine wpAnyG_one 18 (by kernel_rfl) rfl (fun K hK => ?_)
  rw [if_pos (by rfl)]
  have bb := b0
  go_simp
  (with_reducible refine (SO.out _ _ _ _ _ _ _ mmw.byt mpw.prs (HF.out.below b0.out) (HP.out.below b0.out)).mono ?_)
  rintro e w9 ⟨rfl, hb⟩
  clear bb mmw mpw
  replace b0 := b0.below hb
  replace qf := qf.below hb
  replace qo := qo.below hb
  clear hb
  (try go_simp)
  refine hK.out _ _ (fun _ => (And.intro qf qo)) ?_
  clear hK K
  (try simp only [Act.put, rA, rB, rC, rD, rE, rF])
  have S0 := (And.intro qf qo)
  refine wpAnyG_take 19 (v := ?_) rfl (by kernel_rfl) (fun _ _ _ h => h) S0 (Or.inl ⟨by rfl, by intro w' hSw; go_simp; try with_reducible rfl⟩) ?_; (try simp only [Act.put, rA, rB, rC, rD, rE, rF])
  refine wpAnyG_take 20 (v := ?_) rfl (by kernel_rfl) (fun _ _ _ h => h) S0 (Or.inl ⟨by rfl, by intro w' hSw; go_simp; try with_reducible rfl⟩) ?_; (try simp only [Act.put, rA, rB, rC, rD, rE, rF])
  refine wpAnyG_take 21 (v := ?_) rfl (by kernel_rfl) (fun _ _ _ h => h) S0 (Or.inl ⟨by rfl, by intro w' hSw; go_simp; try with_reducible rfl⟩) ?_; (try simp only [Act.put, rA, rB, rC, rD, rE, rF])
  refine wpAnyG_take 23 (v := ?_) rfl (by kernel_rfl) (fun _ _ _ h => h) S0 (Or.inl ⟨by rfl, by intro w' hSw; go_simp; try with_reducible rfl⟩) ?_; (try simp only [Act.put, rA, rB, rC, rD, rE, rF])
  clear S0
  refine wpAnyG_one 22 (by kernel_rfl) rfl (fun K hK => ?_)
  rw [if_pos (by rfl)]
  go_simp
  (with_reducible refine (fWholeF _ _).mono ?_)
  rintro e w9 ⟨rfl, hb⟩
  replace b0 := b0.below hb
  replace qf := qf.below hb
  replace qo := qo.below hb
  clear hb
  (try go_simp)
  refine hK.out _ _ (fun _ => (And.intro qf qo)) ?_
  clear hK K
  (try simp only [Act.put, rA, rB, rC, rD, rE, rF])
  refine wpAnyG_one 24 (by kernel_rfl) rfl (fun K hK => ?_)
  rw [if_pos (by rfl)]
  go_simp
  (with_reducible refine (rWholeF _ _).mono ?_)
  rintro e w9 ⟨rfl, hb⟩
  replace b0 := b0.below hb
  replace qf := qf.below hb
  replace qo := qo.below hb
  clear hb
  (try go_simp)
  refine hK.out _ _ (fun _ => (And.intro qf qo)) ?_
  clear hK K
  (try simp only [Act.put, rA, rB, rC, rD, rE, rF])
  have S0 := (And.intro qf qo)
  refine wpAnyG_take 25 (v := ?_) rfl (by kernel_rfl) (fun _ _ _ h => h) S0 (Or.inl ⟨by rfl, by intro w' hSw; have zz := flt_eqs true 0 cd; go_simp; try with_reducible rfl⟩) ?_; (try simp only [Act.put, rA, rB, rC, rD, rE, rF])
  refine wpAnyG_take 26 (v := ?_) rfl (by kernel_rfl) (fun _ _ _ h => h) S0 (Or.inl ⟨by rfl, by intro w' hSw; go_simp; try with_reducible rfl⟩) ?_; (try simp only [Act.put, rA, rB, rC, rD, rE, rF])
  refine wpAnyG_take 27 (v := ?_) rfl (by kernel_rfl) (fun _ _ _ h => h) S0 (Or.inl ⟨by rfl, by intro w' hSw; go_simp; try with_reducible rfl⟩) ?_; (try simp only [Act.put, rA, rB, rC, rD, rE, rF])
  refine wpAnyG_take 28 (v := ?_) rfl (by kernel_rfl) (fun _ _ _ h => h) S0 (Or.inl ⟨by rfl, by intro w' hSw; go_simp; try with_reducible rfl⟩) ?_; (try simp only [Act.put, rA, rB, rC, rD, rE, rF])
  refine wpAnyG_take 29 (v := ?_) rfl (by kernel_rfl) (fun _ _ _ h => h) S0 (Or.inl ⟨by rfl, by intro w' hSw; go_simp; try with_reducible rfl⟩) ?_; (try simp only [Act.put, rA, rB, rC, rD, rE, rF])
  refine wpAnyG_take 31 (v := ?_) rfl (by kernel_rfl) (fun _ _ _ h => h) S0 (Or.inl ⟨by rfl, by intro w' hSw; go_simp; try with_reducible rfl⟩) ?_; (try simp only [Act.put, rA, rB, rC, rD, rE, rF])
  refine wpAnyG_take 32 (v := ?_) rfl (by kernel_rfl) (fun _ _ _ h => h) S0 (Or.inl ⟨by rfl, by intro w' hSw; go_simp; try with_reducible rfl⟩) ?_; (try simp only [Act.put, rA, rB, rC, rD, rE, rF])
  clear S0
  refine wpAnyG_one 30 (by kernel_rfl) rfl (fun K hK => ?_)
  rw [if_pos (by rfl)]
  go_simp
  (with_reducible refine (fOfF _ _ _).mono ?_)
  rintro e w9 ⟨rfl, hb⟩
  replace b0 := b0.below hb
  replace qf := qf.below hb
  replace qo := qo.below hb
  clear hb
  (try go_simp)
  refine hK.out _ _ (fun _ => (And.intro qf qo)) ?_
  clear hK K
  (try simp only [Act.put, rA, rB, rC, rD, rE, rF])
  refine wpAnyG_one 33 (by kernel_rfl) rfl (fun K hK => ?_)
  rw [if_pos (by rfl)]
  go_simp
  (with_reducible refine (rOfF _ _ _).mono ?_)
  rintro e w9 ⟨rfl, hb⟩
  replace b0 := b0.below hb
  replace qf := qf.below hb
  replace qo := qo.below hb
  clear hb
  (try go_simp)
  refine hK.out _ _ (fun _ => (And.intro qf qo)) ?_
  clear hK K
  (try simp only [Act.put, rA, rB, rC, rD, rE, rF])
  have S0 := (And.intro qf qo)
  refine wpAnyG_take 34 (v := ?_) rfl (by kernel_rfl) (fun _ _ _ h => h) S0 (Or.inl ⟨by rfl, by intro w' hSw; have zz := flt_eqs false s cd; go_simp; try with_reducible rfl⟩) ?_; (try simp only [Act.put, rA, rB, rC, rD, rE, rF])
  refine wpAnyG_take 35 (v := ?_) rfl (by kernel_rfl) (fun _ _ _ h => h) S0 (Or.inl ⟨by rfl, by intro w' hSw; go_simp; try with_reducible rfl⟩) ?_; (try simp only [Act.put, rA, rB, rC, rD, rE, rF])
  refine wpAnyG_take 36 (v := ?_) rfl (by kernel_rfl) (fun _ _ _ h => h) S0 (Or.inl ⟨by rfl, by intro w' hSw; go_simp; try with_reducible rfl⟩) ?_; (try simp only [Act.put, rA, rB, rC, rD, rE, rF])
  clear S0
  refine wpAnyG_one 37 (by kernel_rfl) rfl (fun K hK => ?_)
  rw [if_pos (by rfl)]
  go_simp
  (with_reducible refine (fWakes _).mono ?_)
  rintro e w9 ⟨rfl, hb⟩
  replace b0 := b0.below hb
  replace qf := qf.below hb
  replace qo := qo.below hb
  clear hb
  (try go_simp)
  refine hK.out _ _ (fun _ => (And.intro qf qo)) ?_
  clear hK K
  (try simp only [Act.put, rA, rB, rC, rD, rE, rF])
  have S0 := (And.intro qf qo)
  refine wpAnyG_take 38 (v := ?_) rfl (by kernel_rfl) (fun _ _ _ h => h) S0 (Or.inl ⟨by rfl, by intro w' hSw; go_simp; try with_reducible rfl⟩) ?_; (try simp only [Act.put, rA, rB, rC, rD, rE, rF])
  refine wpAnyG_take 39 (v := ?_) rfl (by kernel_rfl) (fun _ _ _ h => h) S0 (Or.inl ⟨by rfl, by intro w' hSw; go_simp; try with_reducible rfl⟩) ?_; (try simp only [Act.put, rA, rB, rC, rD, rE, rF])
  clear S0
  refine wpAnyG_done (by kernel_rfl) ?_ _
  go_wp2
  go_ret
  exact ⟨rfl, b0.out⟩
theorem wTells (L k fl st : Int) (hst : -9223372036854775808 ≤ st ∧ st ≤ 9223372036854775807) (hfl : 0 ≤ fl ∧ fl ≤ 255) (A : Option Addr) (n c : Nat) (D : List Int) (h : Byt W A n c D)
    (f : Fm) (Af : Option Addr) (nf cf : Nat) (Pf : Option Addr) (pnf pcf : Nat) (hf : FmOk f) (bf : Byt W Af nf cf f.da) (pf : Prs W Pf pnf pcf f.prs) (o : Fm) (Ao : Option Addr) (no co : Nat) (Po : Option Addr) (pno pco : Nat) (bo : Byt W Ao no co o.da) (po : Prs W Po pno pco o.prs) (s cd : Int) :
    Calls Try.prog 3 #[.agg #[.int .i64 L, .int .u8 k, .int .u8 fl, .int .i64 st], .slice A n c, .agg #[.int .u8 (f).kd, .int .u8 (f).fl, .int .i64 (f).st, .slice Af nf cf, .int .i64 (f).pd, .int .i64 (f).la, .int .i64 (f).ic, .int .u32 (f).cd, .slice Pf pnf pcf, .bool (f).rk, .bool (f).al, .int .i64 (f).dp, .int .u8 (f).wt], .agg #[.int .u8 (o).kd, .int .u8 (o).fl, .int .i64 (o).st, .slice Ao no co, .int .i64 (o).pd, .int .i64 (o).la, .int .i64 (o).ic, .int .u32 (o).cd, .slice Po pno pco, .bool (o).rk, .bool (o).al, .int .i64 (o).dp, .int .u8 (o).wt], .int .i64 s, .int .u32 cd] W fun e w' => e = .returned (.bool true) ∧ Below W.heap.size W w' := by
  by_cases g0 : 3000 < n
  · exact tBig1 L k fl st hst hfl A n c D h f Af nf cf Pf pnf pcf hf bf pf o Ao no co Po pno pco bo po s cd g0
  by_cases g1 : 3000 < nf ∨ 300 < pnf
  · exact tBig2 L k fl st hst hfl A n c D h f Af nf cf Pf pnf pcf hf bf pf o Ao no co Po pno pco bo po s cd (by omega) g1
  by_cases g2 : 3000 < no ∨ 300 < pno
  · exact tBig3 L k fl st hst hfl A n c D h f Af nf cf Pf pnf pcf hf bf pf o Ao no co Po pno pco bo po s cd (by omega) (by omega) g2
  · exact tOk L k fl st hst hfl A n c D h f Af nf cf Pf pnf pcf hf bf pf o Ao no co Po pno pco bo po s cd (by omega) (by omega) (by omega)
end
end Go.Proofs.Ytnjnpnjjpodnnaa
