/- The same frames: the contract. -/
import Derived.Test.YtnjnpnjjpodnnaaTGo
import Derived.Test.YtnjnpnjjpodnnaaTGsf
namespace Go.Proofs.Ytnjnpnjjpodnnaa
open Go.RowKit Go.Shelf
set_option linter.unusedVariables false
set_option linter.unusedSimpArgs false

set_option maxRecDepth 100000 in
set_option maxHeartbeats 8000000 in
theorem rSameF (s t : Fm) (A : Option Addr) (n c : Nat) (P : Option Addr) (pn pc : Nat) (B : Option Addr) (m d : Nat) (R : Option Addr) (rn rc : Nat) (w : World) (h : Byt w A n c s.da) (hp : Prs w P pn pc s.prs) (h' : Byt w B m d t.da) (hp' : Prs w R rn rc t.prs) : Calls Try.prog 14 #[.agg #[.int .u8 (s).kd, .int .u8 (s).fl, .int .i64 (s).st, .slice A n c, .int .i64 (s).pd, .int .i64 (s).la, .int .i64 (s).ic, .int .u32 (s).cd, .slice P pn pc, .bool (s).rk, .bool (s).al, .int .i64 (s).dp, .int .u8 (s).wt], .agg #[.int .u8 (t).kd, .int .u8 (t).fl, .int .i64 (t).st, .slice B m d, .int .i64 (t).pd, .int .i64 (t).la, .int .i64 (t).ic, .int .u32 (t).cd, .slice R rn rc, .bool (t).rk, .bool (t).al, .int .i64 (t).dp, .int .u8 (t).wt]] w (BoolP (sameF s t) w) := by
  have b0 := ((Bel.refl w).alloc (.cells #[.int .u8 (s).kd, .int .u8 (s).fl, .int .i64 (s).st, .slice A n c, .int .i64 (s).pd, .int .i64 (s).la, .int .i64 (s).ic, .int .u32 (s).cd, .slice P pn pc, .bool (s).rk, .bool (s).al, .int .i64 (s).dp, .int .u8 (s).wt] 30)).alloc (.cells #[.int .u8 (t).kd, .int .u8 (t).fl, .int .i64 (t).st, .slice B m d, .int .i64 (t).pd, .int .i64 (t).la, .int .i64 (t).ic, .int .u32 (t).cd, .slice R rn rc, .bool (t).rk, .bool (t).al, .int .i64 (t).dp, .int .u8 (t).wt] 30)
  have qa := (Blk.new w 30 #[.int .u8 (s).kd, .int .u8 (s).fl, .int .i64 (s).st, .slice A n c, .int .i64 (s).pd, .int .i64 (s).la, .int .i64 (s).ic, .int .u32 (s).cd, .slice P pn pc, .bool (s).rk, .bool (s).al, .int .i64 (s).dp, .int .u8 (s).wt]).alloc (.cells #[.int .u8 (t).kd, .int .u8 (t).fl, .int .i64 (t).st, .slice B m d, .int .i64 (t).pd, .int .i64 (t).la, .int .i64 (t).ic, .int .u32 (t).cd, .slice R rn rc, .bool (t).rk, .bool (t).al, .int .i64 (t).dp, .int .u8 (t).wt] 30)
  have qb := Blk.new (w.alloc (.cells #[.int .u8 (s).kd, .int .u8 (s).fl, .int .i64 (s).st, .slice A n c, .int .i64 (s).pd, .int .i64 (s).la, .int .i64 (s).ic, .int .u32 (s).cd, .slice P pn pc, .bool (s).rk, .bool (s).al, .int .i64 (s).dp, .int .u8 (s).wt] 30)) 30 #[.int .u8 (t).kd, .int .u8 (t).fl, .int .i64 (t).st, .slice B m d, .int .i64 (t).pd, .int .i64 (t).la, .int .i64 (t).ic, .int .u32 (t).cd, .slice R rn rc, .bool (t).rk, .bool (t).al, .int .i64 (t).dp, .int .u8 (t).wt]
  rw [World.size_alloc] at qb
  have y := (h.alloc (.cells #[.int .u8 (s).kd, .int .u8 (s).fl, .int .i64 (s).st, .slice A n c, .int .i64 (s).pd, .int .i64 (s).la, .int .i64 (s).ic, .int .u32 (s).cd, .slice P pn pc, .bool (s).rk, .bool (s).al, .int .i64 (s).dp, .int .u8 (s).wt] 30)).alloc (.cells #[.int .u8 (t).kd, .int .u8 (t).fl, .int .i64 (t).st, .slice B m d, .int .i64 (t).pd, .int .i64 (t).la, .int .i64 (t).ic, .int .u32 (t).cd, .slice R rn rc, .bool (t).rk, .bool (t).al, .int .i64 (t).dp, .int .u8 (t).wt] 30)
  have y' := (h'.alloc (.cells #[.int .u8 (s).kd, .int .u8 (s).fl, .int .i64 (s).st, .slice A n c, .int .i64 (s).pd, .int .i64 (s).la, .int .i64 (s).ic, .int .u32 (s).cd, .slice P pn pc, .bool (s).rk, .bool (s).al, .int .i64 (s).dp, .int .u8 (s).wt] 30)).alloc (.cells #[.int .u8 (t).kd, .int .u8 (t).fl, .int .i64 (t).st, .slice B m d, .int .i64 (t).pd, .int .i64 (t).la, .int .i64 (t).ic, .int .u32 (t).cd, .slice R rn rc, .bool (t).rk, .bool (t).al, .int .i64 (t).dp, .int .u8 (t).wt] 30)
  have p := (hp.alloc (.cells #[.int .u8 (s).kd, .int .u8 (s).fl, .int .i64 (s).st, .slice A n c, .int .i64 (s).pd, .int .i64 (s).la, .int .i64 (s).ic, .int .u32 (s).cd, .slice P pn pc, .bool (s).rk, .bool (s).al, .int .i64 (s).dp, .int .u8 (s).wt] 30)).alloc (.cells #[.int .u8 (t).kd, .int .u8 (t).fl, .int .i64 (t).st, .slice B m d, .int .i64 (t).pd, .int .i64 (t).la, .int .i64 (t).ic, .int .u32 (t).cd, .slice R rn rc, .bool (t).rk, .bool (t).al, .int .i64 (t).dp, .int .u8 (t).wt] 30)
  have p' := (hp'.alloc (.cells #[.int .u8 (s).kd, .int .u8 (s).fl, .int .i64 (s).st, .slice A n c, .int .i64 (s).pd, .int .i64 (s).la, .int .i64 (s).ic, .int .u32 (s).cd, .slice P pn pc, .bool (s).rk, .bool (s).al, .int .i64 (s).dp, .int .u8 (s).wt] 30)).alloc (.cells #[.int .u8 (t).kd, .int .u8 (t).fl, .int .i64 (t).st, .slice B m d, .int .i64 (t).pd, .int .i64 (t).la, .int .i64 (t).ic, .int .u32 (t).cd, .slice R rn rc, .bool (t).rk, .bool (t).al, .int .i64 (t).dp, .int .u8 (t).wt] 30)
  have hrk := rank_eql s t
  have e1 := y.conv
  have e2 := y'.conv
  have e3 := strOf_eq h.bs h'.bs
  have EP := Lib.hid (rPairs _ _ _ _ _ _ _ _ _ p p')
  clear y y' p p'
  clear h h' hp hp'
  cases g0 : s.kd == t.kd
  case false =>
    rw [sameF_no (fun h => by rw [h] at g0; simp at g0)]
    go_enter Try.func14, Try.ntmps14
    simp only [List.append_eq, List.cons_append, List.nil_append]
    go_wp2_with (first | ((with_reducible refine wpList_id ?_); refine wpList_getM (cs := [.bool s.al, .int .i64 s.dp, .int .u8 s.wt]) (by rfl) _ _ rfl rfl qa rfl Try.underlying28 rfl (by rfl) ?_) | ((with_reducible refine wpList_id ?_); refine wpList_getM (cs := [.bool t.al, .int .i64 t.dp, .int .u8 t.wt]) (by rfl) _ _ rfl rfl qb rfl Try.underlying28 rfl (by rfl) ?_) | (go_at_call 28; refine EP.out.mono ?_; rintro e w' ⟨rfl, hb⟩; replace b0 := b0.below hb; replace qa := qa.below hb; replace qb := qb.below hb; (try clear x9 y9); have x9 := qa.at 9 rfl; have y9 := qb.at 9 rfl))
    go_ret
    exact ⟨rfl, b0.out⟩
  cases g1 : s.fl == t.fl
  case false =>
    rw [sameF_no (fun h => by rw [h] at g1; simp at g1)]
    go_enter Try.func14, Try.ntmps14
    simp only [List.append_eq, List.cons_append, List.nil_append]
    go_wp2_with (first | ((with_reducible refine wpList_id ?_); refine wpList_getM (cs := [.bool s.al, .int .i64 s.dp, .int .u8 s.wt]) (by rfl) _ _ rfl rfl qa rfl Try.underlying28 rfl (by rfl) ?_) | ((with_reducible refine wpList_id ?_); refine wpList_getM (cs := [.bool t.al, .int .i64 t.dp, .int .u8 t.wt]) (by rfl) _ _ rfl rfl qb rfl Try.underlying28 rfl (by rfl) ?_) | (go_at_call 28; refine EP.out.mono ?_; rintro e w' ⟨rfl, hb⟩; replace b0 := b0.below hb; replace qa := qa.below hb; replace qb := qb.below hb; (try clear x9 y9); have x9 := qa.at 9 rfl; have y9 := qb.at 9 rfl))
    go_ret
    exact ⟨rfl, b0.out⟩
  cases g2 : s.st == t.st
  case false =>
    rw [sameF_no (fun h => by rw [h] at g2; simp at g2)]
    go_enter Try.func14, Try.ntmps14
    simp only [List.append_eq, List.cons_append, List.nil_append]
    go_wp2_with (first | ((with_reducible refine wpList_id ?_); refine wpList_getM (cs := [.bool s.al, .int .i64 s.dp, .int .u8 s.wt]) (by rfl) _ _ rfl rfl qa rfl Try.underlying28 rfl (by rfl) ?_) | ((with_reducible refine wpList_id ?_); refine wpList_getM (cs := [.bool t.al, .int .i64 t.dp, .int .u8 t.wt]) (by rfl) _ _ rfl rfl qb rfl Try.underlying28 rfl (by rfl) ?_) | (go_at_call 28; refine EP.out.mono ?_; rintro e w' ⟨rfl, hb⟩; replace b0 := b0.below hb; replace qa := qa.below hb; replace qb := qb.below hb; (try clear x9 y9); have x9 := qa.at 9 rfl; have y9 := qb.at 9 rfl))
    go_ret
    exact ⟨rfl, b0.out⟩
  cases g3 : eqB s.da t.da
  case false =>
    rw [sameF_no (fun h => by rw [h] at g3; simp [eqB] at g3)]
    rw [g3] at e3
    go_enter Try.func14, Try.ntmps14
    simp only [List.append_eq, List.cons_append, List.nil_append]
    go_wp2_with (first | ((with_reducible refine wpList_id ?_); refine wpList_getM (cs := [.bool s.al, .int .i64 s.dp, .int .u8 s.wt]) (by rfl) _ _ rfl rfl qa rfl Try.underlying28 rfl (by rfl) ?_) | ((with_reducible refine wpList_id ?_); refine wpList_getM (cs := [.bool t.al, .int .i64 t.dp, .int .u8 t.wt]) (by rfl) _ _ rfl rfl qb rfl Try.underlying28 rfl (by rfl) ?_) | (go_at_call 28; refine EP.out.mono ?_; rintro e w' ⟨rfl, hb⟩; replace b0 := b0.below hb; replace qa := qa.below hb; replace qb := qb.below hb; (try clear x9 y9); have x9 := qa.at 9 rfl; have y9 := qb.at 9 rfl))
    go_ret
    exact ⟨rfl, b0.out⟩
  rw [g3] at e3
  cases g4 : s.pd == t.pd
  case false =>
    rw [sameF_no (fun h => by rw [h] at g4; simp at g4)]
    go_enter Try.func14, Try.ntmps14
    simp only [List.append_eq, List.cons_append, List.nil_append]
    go_wp2_with (first | ((with_reducible refine wpList_id ?_); refine wpList_getM (cs := [.bool s.al, .int .i64 s.dp, .int .u8 s.wt]) (by rfl) _ _ rfl rfl qa rfl Try.underlying28 rfl (by rfl) ?_) | ((with_reducible refine wpList_id ?_); refine wpList_getM (cs := [.bool t.al, .int .i64 t.dp, .int .u8 t.wt]) (by rfl) _ _ rfl rfl qb rfl Try.underlying28 rfl (by rfl) ?_) | (go_at_call 28; refine EP.out.mono ?_; rintro e w' ⟨rfl, hb⟩; replace b0 := b0.below hb; replace qa := qa.below hb; replace qb := qb.below hb; (try clear x9 y9); have x9 := qa.at 9 rfl; have y9 := qb.at 9 rfl))
    go_ret
    exact ⟨rfl, b0.out⟩
  cases g5 : s.la == t.la
  case false =>
    rw [sameF_no (fun h => by rw [h] at g5; simp at g5)]
    go_enter Try.func14, Try.ntmps14
    simp only [List.append_eq, List.cons_append, List.nil_append]
    go_wp2_with (first | ((with_reducible refine wpList_id ?_); refine wpList_getM (cs := [.bool s.al, .int .i64 s.dp, .int .u8 s.wt]) (by rfl) _ _ rfl rfl qa rfl Try.underlying28 rfl (by rfl) ?_) | ((with_reducible refine wpList_id ?_); refine wpList_getM (cs := [.bool t.al, .int .i64 t.dp, .int .u8 t.wt]) (by rfl) _ _ rfl rfl qb rfl Try.underlying28 rfl (by rfl) ?_) | (go_at_call 28; refine EP.out.mono ?_; rintro e w' ⟨rfl, hb⟩; replace b0 := b0.below hb; replace qa := qa.below hb; replace qb := qb.below hb; (try clear x9 y9); have x9 := qa.at 9 rfl; have y9 := qb.at 9 rfl))
    go_ret
    exact ⟨rfl, b0.out⟩
  cases g6 : s.ic == t.ic
  case false =>
    rw [sameF_no (fun h => by rw [h] at g6; simp at g6)]
    go_enter Try.func14, Try.ntmps14
    simp only [List.append_eq, List.cons_append, List.nil_append]
    go_wp2_with (first | ((with_reducible refine wpList_id ?_); refine wpList_getM (cs := [.bool s.al, .int .i64 s.dp, .int .u8 s.wt]) (by rfl) _ _ rfl rfl qa rfl Try.underlying28 rfl (by rfl) ?_) | ((with_reducible refine wpList_id ?_); refine wpList_getM (cs := [.bool t.al, .int .i64 t.dp, .int .u8 t.wt]) (by rfl) _ _ rfl rfl qb rfl Try.underlying28 rfl (by rfl) ?_) | (go_at_call 28; refine EP.out.mono ?_; rintro e w' ⟨rfl, hb⟩; replace b0 := b0.below hb; replace qa := qa.below hb; replace qb := qb.below hb; (try clear x9 y9); have x9 := qa.at 9 rfl; have y9 := qb.at 9 rfl))
    go_ret
    exact ⟨rfl, b0.out⟩
  cases g7 : s.cd == t.cd
  case false =>
    rw [sameF_no (fun h => by rw [h] at g7; simp at g7)]
    go_enter Try.func14, Try.ntmps14
    simp only [List.append_eq, List.cons_append, List.nil_append]
    go_wp2_with (first | ((with_reducible refine wpList_id ?_); refine wpList_getM (cs := [.bool s.al, .int .i64 s.dp, .int .u8 s.wt]) (by rfl) _ _ rfl rfl qa rfl Try.underlying28 rfl (by rfl) ?_) | ((with_reducible refine wpList_id ?_); refine wpList_getM (cs := [.bool t.al, .int .i64 t.dp, .int .u8 t.wt]) (by rfl) _ _ rfl rfl qb rfl Try.underlying28 rfl (by rfl) ?_) | (go_at_call 28; refine EP.out.mono ?_; rintro e w' ⟨rfl, hb⟩; replace b0 := b0.below hb; replace qa := qa.below hb; replace qb := qb.below hb; (try clear x9 y9); have x9 := qa.at 9 rfl; have y9 := qb.at 9 rfl))
    go_ret
    exact ⟨rfl, b0.out⟩
  cases g8 : eqP s.prs t.prs
  case false =>
    rw [sameF_no (fun h => by rw [h] at g8; simp [eqP] at g8)]
    rw [g8] at EP
    go_enter Try.func14, Try.ntmps14
    simp only [List.append_eq, List.cons_append, List.nil_append]
    go_wp2_with (first | ((with_reducible refine wpList_id ?_); refine wpList_getM (cs := [.bool s.al, .int .i64 s.dp, .int .u8 s.wt]) (by rfl) _ _ rfl rfl qa rfl Try.underlying28 rfl (by rfl) ?_) | ((with_reducible refine wpList_id ?_); refine wpList_getM (cs := [.bool t.al, .int .i64 t.dp, .int .u8 t.wt]) (by rfl) _ _ rfl rfl qb rfl Try.underlying28 rfl (by rfl) ?_) | (go_at_call 28; refine EP.out.mono ?_; rintro e w' ⟨rfl, hb⟩; replace b0 := b0.below hb; replace qa := qa.below hb; replace qb := qb.below hb; (try clear x9 y9); have x9 := qa.at 9 rfl; have y9 := qb.at 9 rfl))
    go_ret
    exact ⟨rfl, b0.out⟩
  rw [g8] at EP
  cases g9 : s.rk == t.rk
  case false =>
    rw [sameF_no (fun h => by rw [h] at g9; simp at g9)]
    go_enter Try.func14, Try.ntmps14
    simp only [List.append_eq, List.cons_append, List.nil_append]
    go_wp2_with (first | ((with_reducible refine wpList_id ?_); refine wpList_getM (cs := [.bool s.al, .int .i64 s.dp, .int .u8 s.wt]) (by rfl) _ _ rfl rfl qa rfl Try.underlying28 rfl (by rfl) ?_) | ((with_reducible refine wpList_id ?_); refine wpList_getM (cs := [.bool t.al, .int .i64 t.dp, .int .u8 t.wt]) (by rfl) _ _ rfl rfl qb rfl Try.underlying28 rfl (by rfl) ?_) | (go_at_call 28; refine EP.out.mono ?_; rintro e w' ⟨rfl, hb⟩; replace b0 := b0.below hb; replace qa := qa.below hb; replace qb := qb.below hb; (try clear x9 y9); have x9 := qa.at 9 rfl; have y9 := qb.at 9 rfl))
    go_ret
    exact ⟨rfl, b0.out⟩
  cases g10 : rkEq s t
  case false =>
    rw [sameF_no (fun h => by rw [h] at g10; simp [rkEq] at g10)]
    simp only [g10] at hrk
    go_enter Try.func14, Try.ntmps14
    simp only [List.append_eq, List.cons_append, List.nil_append]
    go_wp2_with (first | ((with_reducible refine wpList_id ?_); refine wpList_getM (cs := [.bool s.al, .int .i64 s.dp, .int .u8 s.wt]) (by rfl) _ _ rfl rfl qa rfl Try.underlying28 rfl (by rfl) ?_) | ((with_reducible refine wpList_id ?_); refine wpList_getM (cs := [.bool t.al, .int .i64 t.dp, .int .u8 t.wt]) (by rfl) _ _ rfl rfl qb rfl Try.underlying28 rfl (by rfl) ?_) | (go_at_call 28; refine EP.out.mono ?_; rintro e w' ⟨rfl, hb⟩; replace b0 := b0.below hb; replace qa := qa.below hb; replace qb := qb.below hb; (try clear x9 y9); have x9 := qa.at 9 rfl; have y9 := qb.at 9 rfl))
    go_ret
    exact ⟨rfl, b0.out⟩
  simp only [g10] at hrk
  rw [sameF_yes g0 g1 g2 g4 g5 g6 g7 g9 g10 g3 g8]
  go_enter Try.func14, Try.ntmps14
  simp only [List.append_eq, List.cons_append, List.nil_append]
  go_wp2_with (first | ((with_reducible refine wpList_id ?_); refine wpList_getM (cs := [.bool s.al, .int .i64 s.dp, .int .u8 s.wt]) (by rfl) _ _ rfl rfl qa rfl Try.underlying28 rfl (by rfl) ?_) | ((with_reducible refine wpList_id ?_); refine wpList_getM (cs := [.bool t.al, .int .i64 t.dp, .int .u8 t.wt]) (by rfl) _ _ rfl rfl qb rfl Try.underlying28 rfl (by rfl) ?_) | (go_at_call 28; refine EP.out.mono ?_; rintro e w' ⟨rfl, hb⟩; replace b0 := b0.below hb; replace qa := qa.below hb; replace qb := qb.below hb; (try clear x9 y9); have x9 := qa.at 9 rfl; have y9 := qb.at 9 rfl))
  go_ret
  exact ⟨rfl, b0.out⟩
end Go.Proofs.Ytnjnpnjjpodnnaa
