/- The same frames: the contract. -/
import Derived.Test.YtnjnpnjjpodnnaaRGo
namespace Go.Proofs.Ytnjnpnjjpodnnaa
open Go.RowKit Go.Shelf
set_option linter.unusedVariables false
set_option linter.unusedSimpArgs false

def sameF (s t : Fm) : Bool := decide (s = t)
def rkEq (s t : Fm) : Bool := decide (s.al = t.al ∧ s.dp = t.dp ∧ s.wt = t.wt)
theorem sameF_no {s t : Fm} (h : s ≠ t) : sameF s t = false := decide_eq_false h
theorem sameF_yes {s t : Fm} (h0 : (s.kd == t.kd) = true) (h1 : (s.fl == t.fl) = true) (h2 : (s.st == t.st) = true) (h3 : (s.pd == t.pd) = true) (h4 : (s.la == t.la) = true) (h5 : (s.ic == t.ic) = true) (h6 : (s.cd == t.cd) = true) (h7 : (s.rk == t.rk) = true)
    (h8 : rkEq s t = true) (h9 : eqB s.da t.da = true) (h10 : eqP s.prs t.prs = true) : sameF s t = true := by
  refine decide_eq_true ?_
  obtain ⟨s0, s1, s2, s3, s4, s5, s6, s7, s8, s9, s10, s11, s12⟩ := s
  obtain ⟨t0, t1, t2, t3, t4, t5, t6, t7, t8, t9, t10, t11, t12⟩ := t
  simp only [eqB, eqP, rkEq, beq_iff_eq, decide_eq_true_eq] at h0 h1 h2 h3 h4 h5 h6 h7 h8 h9 h10
  obtain ⟨h8, h8', h8''⟩ := h8
  subst h0 h1 h2 h3 h4 h5 h6 h7 h8 h8' h8'' h9 h10
  rfl
theorem rank_eql (s t : Fm) (w : World) : (binOp .eql 28 (.agg #[.bool s.al, .int .i64 s.dp, .int .u8 s.wt]) (.agg #[.bool t.al, .int .i64 t.dp, .int .u8 t.wt])).run Try.prog w = .ok (.bool (rkEq s t)) w := by
  unfold rkEq
  go_simp
  by_cases e1 : s.al = t.al <;> by_cases e2 : s.dp = t.dp <;> by_cases e3 : s.wt = t.wt <;> simp [e1, e2, e3]
set_option maxRecDepth 100000 in
set_option maxHeartbeats 8000000 in
theorem fSameF (s t : Fm) (A : Option Addr) (n c : Nat) (P : Option Addr) (pn pc : Nat) (B : Option Addr) (m d : Nat) (R : Option Addr) (rn rc : Nat) (w : World) (h : Byt w A n c s.da) (hp : Prs w P pn pc s.prs) (h' : Byt w B m d t.da) (hp' : Prs w R rn rc t.prs) : Calls Try.prog 18 #[.agg #[.int .u8 (s).kd, .int .u8 (s).fl, .int .i64 (s).st, .slice A n c, .int .i64 (s).pd, .int .i64 (s).la, .int .i64 (s).ic, .int .u32 (s).cd, .slice P pn pc, .bool (s).rk, .bool (s).al, .int .i64 (s).dp, .int .u8 (s).wt], .agg #[.int .u8 (t).kd, .int .u8 (t).fl, .int .i64 (t).st, .slice B m d, .int .i64 (t).pd, .int .i64 (t).la, .int .i64 (t).ic, .int .u32 (t).cd, .slice R rn rc, .bool (t).rk, .bool (t).al, .int .i64 (t).dp, .int .u8 (t).wt]] w (BoolP (sameF s t) w) := by
  have b0 := ((Bel.refl w).alloc (.cells #[.int .u8 (s).kd, .int .u8 (s).fl, .int .i64 (s).st, .slice A n c, .int .i64 (s).pd, .int .i64 (s).la, .int .i64 (s).ic, .int .u32 (s).cd, .slice P pn pc, .bool (s).rk, .bool (s).al, .int .i64 (s).dp, .int .u8 (s).wt] 30)).alloc (.cells #[.int .u8 (t).kd, .int .u8 (t).fl, .int .i64 (t).st, .slice B m d, .int .i64 (t).pd, .int .i64 (t).la, .int .i64 (t).ic, .int .u32 (t).cd, .slice R rn rc, .bool (t).rk, .bool (t).al, .int .i64 (t).dp, .int .u8 (t).wt] 30)
  have qa := (Blk.new w 30 #[.int .u8 (s).kd, .int .u8 (s).fl, .int .i64 (s).st, .slice A n c, .int .i64 (s).pd, .int .i64 (s).la, .int .i64 (s).ic, .int .u32 (s).cd, .slice P pn pc, .bool (s).rk, .bool (s).al, .int .i64 (s).dp, .int .u8 (s).wt]).alloc (.cells #[.int .u8 (t).kd, .int .u8 (t).fl, .int .i64 (t).st, .slice B m d, .int .i64 (t).pd, .int .i64 (t).la, .int .i64 (t).ic, .int .u32 (t).cd, .slice R rn rc, .bool (t).rk, .bool (t).al, .int .i64 (t).dp, .int .u8 (t).wt] 30)
  have qb := Blk.new (w.alloc (.cells #[.int .u8 (s).kd, .int .u8 (s).fl, .int .i64 (s).st, .slice A n c, .int .i64 (s).pd, .int .i64 (s).la, .int .i64 (s).ic, .int .u32 (s).cd, .slice P pn pc, .bool (s).rk, .bool (s).al, .int .i64 (s).dp, .int .u8 (s).wt] 30)) 30 #[.int .u8 (t).kd, .int .u8 (t).fl, .int .i64 (t).st, .slice B m d, .int .i64 (t).pd, .int .i64 (t).la, .int .i64 (t).ic, .int .u32 (t).cd, .slice R rn rc, .bool (t).rk, .bool (t).al, .int .i64 (t).dp, .int .u8 (t).wt]
  rw [World.size_alloc] at qb
  have y := (h.alloc (.cells #[.int .u8 (s).kd, .int .u8 (s).fl, .int .i64 (s).st, .slice A n c, .int .i64 (s).pd, .int .i64 (s).la, .int .i64 (s).ic, .int .u32 (s).cd, .slice P pn pc, .bool (s).rk, .bool (s).al, .int .i64 (s).dp, .int .u8 (s).wt] 30)).alloc (.cells #[.int .u8 (t).kd, .int .u8 (t).fl, .int .i64 (t).st, .slice B m d, .int .i64 (t).pd, .int .i64 (t).la, .int .i64 (t).ic, .int .u32 (t).cd, .slice R rn rc, .bool (t).rk, .bool (t).al, .int .i64 (t).dp, .int .u8 (t).wt] 30)
  have y' := (h'.alloc (.cells #[.int .u8 (s).kd, .int .u8 (s).fl, .int .i64 (s).st, .slice A n c, .int .i64 (s).pd, .int .i64 (s).la, .int .i64 (s).ic, .int .u32 (s).cd, .slice P pn pc, .bool (s).rk, .bool (s).al, .int .i64 (s).dp, .int .u8 (s).wt] 30)).alloc (.cells #[.int .u8 (t).kd, .int .u8 (t).fl, .int .i64 (t).st, .slice B m d, .int .i64 (t).pd, .int .i64 (t).la, .int .i64 (t).ic, .int .u32 (t).cd, .slice R rn rc, .bool (t).rk, .bool (t).al, .int .i64 (t).dp, .int .u8 (t).wt] 30)
  have p := (hp.alloc (.cells #[.int .u8 (s).kd, .int .u8 (s).fl, .int .i64 (s).st, .slice A n c, .int .i64 (s).pd, .int .i64 (s).la, .int .i64 (s).ic, .int .u32 (s).cd, .slice P pn pc, .bool (s).rk, .bool (s).al, .int .i64 (s).dp, .int .u8 (s).wt] 30)).alloc (.cells #[.int .u8 (t).kd, .int .u8 (t).fl, .int .i64 (t).st, .slice B m d, .int .i64 (t).pd, .int .i64 (t).la, .int .i64 (t).ic, .int .u32 (t).cd, .slice R rn rc, .bool (t).rk, .bool (t).al, .int .i64 (t).dp, .int .u8 (t).wt] 30)
  have p' := (hp'.alloc (.cells #[.int .u8 (s).kd, .int .u8 (s).fl, .int .i64 (s).st, .slice A n c, .int .i64 (s).pd, .int .i64 (s).la, .int .i64 (s).ic, .int .u32 (s).cd, .slice P pn pc, .bool (s).rk, .bool (s).al, .int .i64 (s).dp, .int .u8 (s).wt] 30)).alloc (.cells #[.int .u8 (t).kd, .int .u8 (t).fl, .int .i64 (t).st, .slice B m d, .int .i64 (t).pd, .int .i64 (t).la, .int .i64 (t).ic, .int .u32 (t).cd, .slice R rn rc, .bool (t).rk, .bool (t).al, .int .i64 (t).dp, .int .u8 (t).wt] 30)
  have hrk := rank_eql s t
  have EQ := Lib.hid (fEqualB _ _ _ _ _ _ _ _ _ y y')
  have EP := Lib.hid (fEqualP _ _ _ _ _ _ _ _ _ p p')
  clear y y' p p'
  clear h h' hp hp'
  cases g0 : s.kd == t.kd
  case false =>
    rw [sameF_no (fun h => by rw [h] at g0; simp at g0)]
    go_enter Try.func18, Try.ntmps18
    go_wp2_with (first | ((with_reducible refine wpList_id ?_); refine wpList_getM (cs := [.bool s.al, .int .i64 s.dp, .int .u8 s.wt]) (by rfl) _ _ rfl rfl qa rfl Try.underlying28 rfl (by rfl) ?_) | ((with_reducible refine wpList_id ?_); refine wpList_getM (cs := [.bool t.al, .int .i64 t.dp, .int .u8 t.wt]) (by rfl) _ _ rfl rfl qb rfl Try.underlying28 rfl (by rfl) ?_) | (go_at_call 39; refine EQ.out.mono ?_; rintro e w' ⟨rfl, rfl⟩) | (go_at_call 40; refine EP.out.mono ?_; rintro e w' ⟨rfl, hb⟩; replace b0 := b0.below hb))
    go_ret
    exact ⟨rfl, b0.out⟩
  cases g1 : s.fl == t.fl
  case false =>
    rw [sameF_no (fun h => by rw [h] at g1; simp at g1)]
    go_enter Try.func18, Try.ntmps18
    go_wp2_with (first | ((with_reducible refine wpList_id ?_); refine wpList_getM (cs := [.bool s.al, .int .i64 s.dp, .int .u8 s.wt]) (by rfl) _ _ rfl rfl qa rfl Try.underlying28 rfl (by rfl) ?_) | ((with_reducible refine wpList_id ?_); refine wpList_getM (cs := [.bool t.al, .int .i64 t.dp, .int .u8 t.wt]) (by rfl) _ _ rfl rfl qb rfl Try.underlying28 rfl (by rfl) ?_) | (go_at_call 39; refine EQ.out.mono ?_; rintro e w' ⟨rfl, rfl⟩) | (go_at_call 40; refine EP.out.mono ?_; rintro e w' ⟨rfl, hb⟩; replace b0 := b0.below hb))
    go_ret
    exact ⟨rfl, b0.out⟩
  cases g2 : s.st == t.st
  case false =>
    rw [sameF_no (fun h => by rw [h] at g2; simp at g2)]
    go_enter Try.func18, Try.ntmps18
    go_wp2_with (first | ((with_reducible refine wpList_id ?_); refine wpList_getM (cs := [.bool s.al, .int .i64 s.dp, .int .u8 s.wt]) (by rfl) _ _ rfl rfl qa rfl Try.underlying28 rfl (by rfl) ?_) | ((with_reducible refine wpList_id ?_); refine wpList_getM (cs := [.bool t.al, .int .i64 t.dp, .int .u8 t.wt]) (by rfl) _ _ rfl rfl qb rfl Try.underlying28 rfl (by rfl) ?_) | (go_at_call 39; refine EQ.out.mono ?_; rintro e w' ⟨rfl, rfl⟩) | (go_at_call 40; refine EP.out.mono ?_; rintro e w' ⟨rfl, hb⟩; replace b0 := b0.below hb))
    go_ret
    exact ⟨rfl, b0.out⟩
  cases g3 : s.pd == t.pd
  case false =>
    rw [sameF_no (fun h => by rw [h] at g3; simp at g3)]
    go_enter Try.func18, Try.ntmps18
    go_wp2_with (first | ((with_reducible refine wpList_id ?_); refine wpList_getM (cs := [.bool s.al, .int .i64 s.dp, .int .u8 s.wt]) (by rfl) _ _ rfl rfl qa rfl Try.underlying28 rfl (by rfl) ?_) | ((with_reducible refine wpList_id ?_); refine wpList_getM (cs := [.bool t.al, .int .i64 t.dp, .int .u8 t.wt]) (by rfl) _ _ rfl rfl qb rfl Try.underlying28 rfl (by rfl) ?_) | (go_at_call 39; refine EQ.out.mono ?_; rintro e w' ⟨rfl, rfl⟩) | (go_at_call 40; refine EP.out.mono ?_; rintro e w' ⟨rfl, hb⟩; replace b0 := b0.below hb))
    go_ret
    exact ⟨rfl, b0.out⟩
  cases g4 : s.la == t.la
  case false =>
    rw [sameF_no (fun h => by rw [h] at g4; simp at g4)]
    go_enter Try.func18, Try.ntmps18
    go_wp2_with (first | ((with_reducible refine wpList_id ?_); refine wpList_getM (cs := [.bool s.al, .int .i64 s.dp, .int .u8 s.wt]) (by rfl) _ _ rfl rfl qa rfl Try.underlying28 rfl (by rfl) ?_) | ((with_reducible refine wpList_id ?_); refine wpList_getM (cs := [.bool t.al, .int .i64 t.dp, .int .u8 t.wt]) (by rfl) _ _ rfl rfl qb rfl Try.underlying28 rfl (by rfl) ?_) | (go_at_call 39; refine EQ.out.mono ?_; rintro e w' ⟨rfl, rfl⟩) | (go_at_call 40; refine EP.out.mono ?_; rintro e w' ⟨rfl, hb⟩; replace b0 := b0.below hb))
    go_ret
    exact ⟨rfl, b0.out⟩
  cases g5 : s.ic == t.ic
  case false =>
    rw [sameF_no (fun h => by rw [h] at g5; simp at g5)]
    go_enter Try.func18, Try.ntmps18
    go_wp2_with (first | ((with_reducible refine wpList_id ?_); refine wpList_getM (cs := [.bool s.al, .int .i64 s.dp, .int .u8 s.wt]) (by rfl) _ _ rfl rfl qa rfl Try.underlying28 rfl (by rfl) ?_) | ((with_reducible refine wpList_id ?_); refine wpList_getM (cs := [.bool t.al, .int .i64 t.dp, .int .u8 t.wt]) (by rfl) _ _ rfl rfl qb rfl Try.underlying28 rfl (by rfl) ?_) | (go_at_call 39; refine EQ.out.mono ?_; rintro e w' ⟨rfl, rfl⟩) | (go_at_call 40; refine EP.out.mono ?_; rintro e w' ⟨rfl, hb⟩; replace b0 := b0.below hb))
    go_ret
    exact ⟨rfl, b0.out⟩
  cases g6 : s.cd == t.cd
  case false =>
    rw [sameF_no (fun h => by rw [h] at g6; simp at g6)]
    go_enter Try.func18, Try.ntmps18
    go_wp2_with (first | ((with_reducible refine wpList_id ?_); refine wpList_getM (cs := [.bool s.al, .int .i64 s.dp, .int .u8 s.wt]) (by rfl) _ _ rfl rfl qa rfl Try.underlying28 rfl (by rfl) ?_) | ((with_reducible refine wpList_id ?_); refine wpList_getM (cs := [.bool t.al, .int .i64 t.dp, .int .u8 t.wt]) (by rfl) _ _ rfl rfl qb rfl Try.underlying28 rfl (by rfl) ?_) | (go_at_call 39; refine EQ.out.mono ?_; rintro e w' ⟨rfl, rfl⟩) | (go_at_call 40; refine EP.out.mono ?_; rintro e w' ⟨rfl, hb⟩; replace b0 := b0.below hb))
    go_ret
    exact ⟨rfl, b0.out⟩
  cases g7 : s.rk == t.rk
  case false =>
    rw [sameF_no (fun h => by rw [h] at g7; simp at g7)]
    go_enter Try.func18, Try.ntmps18
    go_wp2_with (first | ((with_reducible refine wpList_id ?_); refine wpList_getM (cs := [.bool s.al, .int .i64 s.dp, .int .u8 s.wt]) (by rfl) _ _ rfl rfl qa rfl Try.underlying28 rfl (by rfl) ?_) | ((with_reducible refine wpList_id ?_); refine wpList_getM (cs := [.bool t.al, .int .i64 t.dp, .int .u8 t.wt]) (by rfl) _ _ rfl rfl qb rfl Try.underlying28 rfl (by rfl) ?_) | (go_at_call 39; refine EQ.out.mono ?_; rintro e w' ⟨rfl, rfl⟩) | (go_at_call 40; refine EP.out.mono ?_; rintro e w' ⟨rfl, hb⟩; replace b0 := b0.below hb))
    go_ret
    exact ⟨rfl, b0.out⟩
  cases g8 : rkEq s t
  case false =>
    rw [sameF_no (fun h => by rw [h] at g8; simp [rkEq] at g8)]
    simp only [g8] at hrk
    go_enter Try.func18, Try.ntmps18
    go_wp2_with (first | ((with_reducible refine wpList_id ?_); refine wpList_getM (cs := [.bool s.al, .int .i64 s.dp, .int .u8 s.wt]) (by rfl) _ _ rfl rfl qa rfl Try.underlying28 rfl (by rfl) ?_) | ((with_reducible refine wpList_id ?_); refine wpList_getM (cs := [.bool t.al, .int .i64 t.dp, .int .u8 t.wt]) (by rfl) _ _ rfl rfl qb rfl Try.underlying28 rfl (by rfl) ?_) | (go_at_call 39; refine EQ.out.mono ?_; rintro e w' ⟨rfl, rfl⟩) | (go_at_call 40; refine EP.out.mono ?_; rintro e w' ⟨rfl, hb⟩; replace b0 := b0.below hb))
    go_ret
    exact ⟨rfl, b0.out⟩
  simp only [g8] at hrk
  cases g9 : eqB s.da t.da
  case false =>
    rw [sameF_no (fun h => by rw [h] at g9; simp [eqB] at g9)]
    rw [g9] at EQ
    go_enter Try.func18, Try.ntmps18
    go_wp2_with (first | ((with_reducible refine wpList_id ?_); refine wpList_getM (cs := [.bool s.al, .int .i64 s.dp, .int .u8 s.wt]) (by rfl) _ _ rfl rfl qa rfl Try.underlying28 rfl (by rfl) ?_) | ((with_reducible refine wpList_id ?_); refine wpList_getM (cs := [.bool t.al, .int .i64 t.dp, .int .u8 t.wt]) (by rfl) _ _ rfl rfl qb rfl Try.underlying28 rfl (by rfl) ?_) | (go_at_call 39; refine EQ.out.mono ?_; rintro e w' ⟨rfl, rfl⟩) | (go_at_call 40; refine EP.out.mono ?_; rintro e w' ⟨rfl, hb⟩; replace b0 := b0.below hb))
    go_ret
    exact ⟨rfl, b0.out⟩
  rw [g9] at EQ
  cases g10 : eqP s.prs t.prs
  case false =>
    rw [sameF_no (fun h => by rw [h] at g10; simp [eqP] at g10)]
    rw [g10] at EP
    go_enter Try.func18, Try.ntmps18
    go_wp2_with (first | ((with_reducible refine wpList_id ?_); refine wpList_getM (cs := [.bool s.al, .int .i64 s.dp, .int .u8 s.wt]) (by rfl) _ _ rfl rfl qa rfl Try.underlying28 rfl (by rfl) ?_) | ((with_reducible refine wpList_id ?_); refine wpList_getM (cs := [.bool t.al, .int .i64 t.dp, .int .u8 t.wt]) (by rfl) _ _ rfl rfl qb rfl Try.underlying28 rfl (by rfl) ?_) | (go_at_call 39; refine EQ.out.mono ?_; rintro e w' ⟨rfl, rfl⟩) | (go_at_call 40; refine EP.out.mono ?_; rintro e w' ⟨rfl, hb⟩; replace b0 := b0.below hb))
    go_ret
    exact ⟨rfl, b0.out⟩
  rw [g10] at EP
  rw [sameF_yes g0 g1 g2 g3 g4 g5 g6 g7 g8 g9 g10]
  go_enter Try.func18, Try.ntmps18
  go_wp2_with (first | ((with_reducible refine wpList_id ?_); refine wpList_getM (cs := [.bool s.al, .int .i64 s.dp, .int .u8 s.wt]) (by rfl) _ _ rfl rfl qa rfl Try.underlying28 rfl (by rfl) ?_) | ((with_reducible refine wpList_id ?_); refine wpList_getM (cs := [.bool t.al, .int .i64 t.dp, .int .u8 t.wt]) (by rfl) _ _ rfl rfl qb rfl Try.underlying28 rfl (by rfl) ?_) | (go_at_call 39; refine EQ.out.mono ?_; rintro e w' ⟨rfl, rfl⟩) | (go_at_call 40; refine EP.out.mono ?_; rintro e w' ⟨rfl, hb⟩; replace b0 := b0.below hb))
  go_ret
  exact ⟨rfl, b0.out⟩
end Go.Proofs.Ytnjnpnjjpodnnaa
