/- The statements' own wakes returns true. -/
import Derived.Test.YtlomaoabofpegaaFj
import Derived.Test.YtlomaoabofpegaaFf
import Derived.Test.YtlomaoabofpegaaOir
namespace Go.Proofs.Ytlomaoabofpegaa
open Go.RowKit Go.Shelf
set_option linter.unusedVariables false

instance : DecidablePred Bs := fun l => inferInstanceAs (Decidable (∀ x ∈ l, 0 ≤ x ∧ x ≤ 255))
instance : DecidablePred PBs := fun l => inferInstanceAs (Decidable (∀ x ∈ l, (0 ≤ x.1 ∧ x.1 ≤ 65535) ∧ (0 ≤ x.2 ∧ x.2 ≤ 4294967295)))
theorem rOSameE {A : Option Addr} {n c : Nat} {l : List Int} {B : Option Addr} {m d : Nat} {l' : List Int} {b : Bool} (hr : eqB l l' = b) (w : World) (h : Byt w A n c l) (h' : Byt w B m d l') :
    Calls Try.prog 12 #[.slice A n c, .slice B m d] w (Ret (.bool b) w) := by
  subst hr
  exact rOSame A n c l B m d l' w h h'
def BytE (N : Nat) (L : List Int) (x : Int) (w : World) (e : Ending) (W' : World) : Prop := ∃ A c, e = .returned (.tuple #[.slice A N c, .int .i64 x]) ∧ Mine w.heap.size W' A N c L ∧ Below w.heap.size w W'
theorem BytP.e {l L : List Int} {x X : Int} {N : Nat} (hl : l = L) (hx : x = X) (hN : L.length = N) {w : World} {e : Ending} {W' : World} (h : BytP l x w e W') : BytE N L X w e W' := by
  subst hl hx
  obtain ⟨A, n, c, he, hm, hb⟩ := h
  have := hm.len
  obtain rfl : n = N := by omega
  exact ⟨A, c, he, hm, hb⟩
theorem UnP.e {l L : List Int} {m M x X : Int} {N : Nat} (hl : l = L) (hm : m = M) (hx : x = X) (hN : L.length = N) {w : World} {e : Ending} {W' : World} (h : UnP l m x w e W') :
    ∃ A c, e = .returned (.tuple #[.slice A N c, .int .i64 M, .int .i64 X]) ∧ Mine w.heap.size W' A N c L ∧ Below w.heap.size w W' := by
  subst hl hm hx
  obtain ⟨A, n, c, he, hm, hb⟩ := h
  have := hm.len
  obtain rfl : n = N := by omega
  exact ⟨A, c, he, hm, hb⟩
theorem TrP.e {al AL : Bool} {dp DP wt WT : Int} {l L : List Int} {x X : Int} {N : Nat} (h1 : al = AL) (h2 : dp = DP) (h3 : wt = WT) (hl : l = L) (hx : x = X) (hN : L.length = N) {w : World} {e : Ending} {W' : World} (h : TrP al dp wt l x w e W') :
    ∃ A c, e = .returned (.tuple #[.agg #[.bool AL, .int .i64 DP, .int .u8 WT], .slice A N c, .int .i64 X]) ∧ Mine w.heap.size W' A N c L ∧ Below w.heap.size w W' := by
  subst h1 h2 h3 hl hx
  obtain ⟨A, n, c, he, hm, hb⟩ := h
  have := hm.len
  obtain rfl : n = N := by omega
  exact ⟨A, c, he, hm, hb⟩
theorem TkP.e {l L : List (Int × Int)} {x X : Int} {N : Nat} (hl : l = L) (hx : x = X) (hN : L.length = N) {w : World} {e : Ending} {W' : World} (h : TkP l x w e W') :
    ∃ A c, e = .returned (.tuple #[.slice A N c, .int .i64 X]) ∧ MineP w.heap.size W' A N c L ∧ Below w.heap.size w W' := by
  subst hl hx
  obtain ⟨A, n, c, he, hm, hb⟩ := h
  have := hm.len
  obtain rfl : n = N := by omega
  exact ⟨A, c, he, hm, hb⟩
theorem lit12 {w : World} {g : Nat} {a b c d e f x y z u v t : Int} (hg : w.heap.size = g) (h : Bs [a, b, c, d, e, f, x, y, z, u, v, t]) : Byt (w.alloc (.cells #[.int .u8 a, .int .u8 b, .int .u8 c, .int .u8 d, .int .u8 e, .int .u8 f, .int .u8 x, .int .u8 y, .int .u8 z, .int .u8 u, .int .u8 v, .int .u8 t] 5)) (some ⟨g, 0, none⟩) 12 12 [a, b, c, d, e, f, x, y, z, u, v, t] := by
  subst hg
  exact (Mine.lit (base := 0) w _ (Nat.zero_le _) h (by simp) 12 rfl).byt
theorem litP2 {w : World} {g : Nat} {a b c d : Int} (hg : w.heap.size = g) (h : PBs [(a, b), (c, d)]) : Prs (w.alloc (.cells #[.int .u16 a, .int .u32 b, .int .u16 c, .int .u32 d] 47)) (some ⟨g, 0, none⟩) 2 2 [(a, b), (c, d)] := by
  subst hg
  have q := Blk.new w 47 #[.int .u16 a, .int .u32 b, .int .u16 c, .int .u32 d]
  refine ⟨rfl, Nat.le_refl _, by decide, (fun e => by cases e), h, fun _ => ⟨_, 0, rfl, by simp, fun i hi => ?_⟩⟩
  rcases i with _ | _ | i
  · exact ⟨q.at 0 rfl, q.at 1 rfl⟩
  · exact ⟨q.at 2 rfl, q.at 3 rfl⟩
  · omega
theorem fLastE {A : Option Addr} {n c : Nat} {l : List (Int × Int)} {id v : Int} {b : Bool} (hr : lastF l id = (v, b)) (w : World) (h : Prs w A n c l) :
    Calls Try.prog 19 #[.slice A n c, .int .u16 id] w fun e W' => e = .returned (.tuple #[.int .u32 v, .bool b]) ∧ Below w.heap.size w W' := by
  have := fLast A n c l id w h
  rwa [hr] at this
theorem fPairsE {A : Option Addr} {n c : Nat} {l : List (Int × Int)} {A' : Option Addr} {m c' : Nat} {l' : List (Int × Int)} {b : Bool} (hr : eqP l l' = b) (w : World) (h : Prs w A n c l) (h' : Prs w A' m c' l') :
    Calls Try.prog 24 #[.slice A n c, .slice A' m c'] w fun e W' => e = .returned (.bool b) ∧ Below w.heap.size w W' := by
  subst hr
  exact fPairs A n c l A' m c' l' w h h'

set_option maxRecDepth 100000 in
set_option maxHeartbeats 8000000 in
theorem fWakes (W : World) : Calls Try.prog 7 #[] W fun e w' => e = .returned (.bool true) ∧ Below W.heap.size W w' := by
  have b0 := Bel.refl W
  go_enter Try.func7, Try.ntmps7
  go_wp2_with fail
  replace b0 := b0.alloc (.cells #[.int .u8 7, .int .u8 8] 5)
  refine (fPad _ _ _ [7, 8] 2 _ (lit2 (by simp) (by decide)) (by decide) (by decide) (by decide)).mono ?_
  intro e w1 hpost
  obtain ⟨A1, c1, rfl, m1, hb⟩ := hpost.e (L := [2, 7, 8, 0, 0]) (X := 0) (N := 5) (by kernel_rfl) (by kernel_rfl) rfl
  replace b0 := (b0).below hb
  have yb := m1.byt
  go_wp2_with fail
  replace b0 := b0.alloc (.cells #[.int .u8 2, .int .u8 7, .int .u8 8, .int .u8 1, .int .u8 9] 5)
  replace yb := yb.alloc (.cells #[.int .u8 2, .int .u8 7, .int .u8 8, .int .u8 1, .int .u8 9] 5)
  refine (fUnpad _ _ _ [2, 7, 8, 1, 9] _ (lit5 (by simp) (by decide)) (by decide)).mono ?_
  intro e w2 hpost
  obtain ⟨A2, c2, rfl, m2, hb⟩ := hpost.e (L := [7, 8]) (M := 3) (X := 0) (N := 2) (by kernel_rfl) (by kernel_rfl) (by kernel_rfl) rfl
  replace b0 := (b0).below hb; replace yb := (yb).below hb
  have yc := m2.byt
  go_wp2_with fail
  refine (fUnpad _ _ _ [] _ (Byt.nil _) (by decide)).mono ?_
  intro e w3 hpost
  obtain ⟨A3, c3, rfl, m3, hb⟩ := hpost.e (L := []) (M := 0) (X := 10) (N := 0) (by kernel_rfl) (by kernel_rfl) (by kernel_rfl) rfl
  replace b0 := (b0).below hb; replace yb := (yb).below hb; replace yc := (yc).below hb
  go_wp2_with fail
  replace b0 := b0.alloc (.cells #[.int .u8 1] 5)
  replace yb := yb.alloc (.cells #[.int .u8 1] 5)
  replace yc := yc.alloc (.cells #[.int .u8 1] 5)
  refine (fUnpad _ _ _ [1] _ (lit1 (by simp) (by decide)) (by decide)).mono ?_
  intro e w4 hpost
  obtain ⟨A4, c4, rfl, m4, hb⟩ := hpost.e (L := []) (M := 0) (X := 11) (N := 0) (by kernel_rfl) (by kernel_rfl) (by kernel_rfl) rfl
  replace b0 := (b0).below hb; replace yb := (yb).below hb; replace yc := (yc).below hb
  go_wp2_with fail
  refine (fPutRank true 3 15 _ (by decide) (by decide) (by decide) (by decide)).mono ?_
  intro e w5 hpost
  obtain ⟨A5, c5, rfl, m5, hb⟩ := hpost.e (L := [128, 0, 0, 3, 15]) (X := 0) (N := 5) (by kernel_rfl) (by kernel_rfl) rfl
  replace b0 := (b0).below hb; replace yb := (yb).below hb; replace yc := (yc).below hb
  have yr := m5.byt
  go_wp2_with fail
  replace b0 := b0.alloc (.cells #[.int .u8 128, .int .u8 0, .int .u8 0, .int .u8 3, .int .u8 15, .int .u8 6] 5)
  replace yb := yb.alloc (.cells #[.int .u8 128, .int .u8 0, .int .u8 0, .int .u8 3, .int .u8 15, .int .u8 6] 5)
  replace yc := yc.alloc (.cells #[.int .u8 128, .int .u8 0, .int .u8 0, .int .u8 3, .int .u8 15, .int .u8 6] 5)
  replace yr := yr.alloc (.cells #[.int .u8 128, .int .u8 0, .int .u8 0, .int .u8 3, .int .u8 15, .int .u8 6] 5)
  refine (fTakeRank _ _ _ [128, 0, 0, 3, 15, 6] _ (lit6 (by simp) (by decide)) (by decide)).mono ?_
  intro e w6 hpost
  obtain ⟨A6, c6, rfl, m6, hb⟩ := hpost.e (AL := true) (DP := 3) (WT := 15) (L := [6]) (X := 0) (N := 1) (by kernel_rfl) (by kernel_rfl) (by kernel_rfl) (by kernel_rfl) (by kernel_rfl) rfl
  replace b0 := (b0).below hb; replace yb := (yb).below hb; replace yc := (yc).below hb; replace yr := (yr).below hb
  have yq := m6.byt
  replace b0 := b0.alloc (.cells #[.bool true, .int .i64 3, .int .u8 15] 24)
  replace yb := yb.alloc (.cells #[.bool true, .int .i64 3, .int .u8 15] 24)
  replace yc := yc.alloc (.cells #[.bool true, .int .i64 3, .int .u8 15] 24)
  replace yr := yr.alloc (.cells #[.bool true, .int .i64 3, .int .u8 15] 24)
  replace yq := yq.alloc (.cells #[.bool true, .int .i64 3, .int .u8 15] 24)
  have qr := Blk.newAt (b := w6.heap.size) w6 24 #[.bool true, .int .i64 3, .int .u8 15] rfl
  go_wp2_with fail
  replace b0 := b0.alloc (.cells #[.int .u16 4, .int .u32 258, .int .u16 4, .int .u32 7] 47)
  replace yb := yb.alloc (.cells #[.int .u16 4, .int .u32 258, .int .u16 4, .int .u32 7] 47)
  replace yc := yc.alloc (.cells #[.int .u16 4, .int .u32 258, .int .u16 4, .int .u32 7] 47)
  replace yr := yr.alloc (.cells #[.int .u16 4, .int .u32 258, .int .u16 4, .int .u32 7] 47)
  replace yq := yq.alloc (.cells #[.int .u16 4, .int .u32 258, .int .u16 4, .int .u32 7] 47)
  replace qr := qr.alloc (.cells #[.int .u16 4, .int .u32 258, .int .u16 4, .int .u32 7] 47)
  refine (fPutPairs _ _ _ [(4, 258), (4, 7)] _ (litP2 (by simp) (by decide)) (by decide)).mono ?_
  rintro e w7 ⟨A7, c7, rfl, m7, hb⟩
  replace b0 := (b0).below hb; replace yb := (yb).below hb; replace yc := (yc).below hb; replace yr := (yr).below hb; replace yq := (yq).below hb; replace qr := (qr).below hb
  have yp : Byt w7 A7 (2 * 6) c7 [0, 4, 0, 0, 1, 2, 0, 4, 0, 0, 0, 7] := m7.byt
  go_wp2_with fail
  refine (fTakePairs _ _ _ _ _ yp (by decide)).mono ?_
  intro e w8 hpost
  obtain ⟨A8, c8, rfl, m8, hb⟩ := hpost.e (L := [(4, 258), (4, 7)]) (X := 0) (N := 2) (by kernel_rfl) (by kernel_rfl) rfl
  replace b0 := (b0).below hb; replace yb := (yb).below hb; replace yc := (yc).below hb; replace yr := (yr).below hb; replace yq := (yq).below hb; replace qr := (qr).below hb; replace yp := (yp).below hb
  have pl := m8.prs
  go_wp2_with fail
  replace b0 := b0.alloc (.cells #[.int .u8 1] 5)
  replace yb := yb.alloc (.cells #[.int .u8 1] 5)
  replace yc := yc.alloc (.cells #[.int .u8 1] 5)
  replace yr := yr.alloc (.cells #[.int .u8 1] 5)
  replace yq := yq.alloc (.cells #[.int .u8 1] 5)
  replace qr := qr.alloc (.cells #[.int .u8 1] 5)
  replace yp := yp.alloc (.cells #[.int .u8 1] 5)
  replace pl := pl.alloc (.cells #[.int .u8 1] 5)
  refine (fTakePairs _ _ _ [1] _ (lit1 (by simp) (by decide)) (by decide)).mono ?_
  intro e w9 hpost
  obtain ⟨A9, c9, rfl, m9, hb⟩ := hpost.e (L := []) (X := 10) (N := 0) (by kernel_rfl) (by kernel_rfl) rfl
  replace b0 := (b0).below hb; replace yb := (yb).below hb; replace yc := (yc).below hb; replace yr := (yr).below hb; replace yq := (yq).below hb; replace qr := (qr).below hb; replace yp := (yp).below hb; replace pl := (pl).below hb
  go_wp2_with fail
  refine (fLastE (show lastF [(4, 258), (4, 7)] 4 = (7, true) by kernel_rfl) _ pl).mono ?_
  intro e w10 hpost
  obtain ⟨rfl, hb⟩ := hpost
  replace b0 := (b0).below hb; replace yb := (yb).below hb; replace yc := (yc).below hb; replace yr := (yr).below hb; replace yq := (yq).below hb; replace qr := (qr).below hb; replace yp := (yp).below hb; replace pl := (pl).below hb
  go_wp2_with fail
  refine (fLastE (show lastF [(4, 258), (4, 7)] 5 = (0, false) by kernel_rfl) _ pl).mono ?_
  intro e w11 hpost
  obtain ⟨rfl, hb⟩ := hpost
  replace b0 := (b0).below hb; replace yb := (yb).below hb; replace yc := (yc).below hb; replace yr := (yr).below hb; replace yq := (yq).below hb; replace qr := (qr).below hb; replace yp := (yp).below hb; replace pl := (pl).below hb
  clear m1 m2 m3 m4 m5 m6 m7 m8 m9
  have ql := qr.lt
  have ql1 : w6.heap.size < w11.heap.size + 1 := by omega
  have ql2 : w6.heap.size < w11.heap.size + 1 + 1 := by omega
  have ql3 : w6.heap.size < w11.heap.size + 1 + 1 + 1 := by omega
  have zqr0 := qr.at 0 rfl
  have zqr1 := qr.at 1 rfl
  have zqr2 := qr.at 2 rfl
  go_wp2_with fail
  replace b0 := b0.alloc (.cells #[.int .u8 2, .int .u8 7, .int .u8 8, .int .u8 0, .int .u8 0] 5)
  replace yb := yb.alloc (.cells #[.int .u8 2, .int .u8 7, .int .u8 8, .int .u8 0, .int .u8 0] 5)
  replace yc := yc.alloc (.cells #[.int .u8 2, .int .u8 7, .int .u8 8, .int .u8 0, .int .u8 0] 5)
  replace yr := yr.alloc (.cells #[.int .u8 2, .int .u8 7, .int .u8 8, .int .u8 0, .int .u8 0] 5)
  replace yq := yq.alloc (.cells #[.int .u8 2, .int .u8 7, .int .u8 8, .int .u8 0, .int .u8 0] 5)
  replace yp := yp.alloc (.cells #[.int .u8 2, .int .u8 7, .int .u8 8, .int .u8 0, .int .u8 0] 5)
  replace pl := pl.alloc (.cells #[.int .u8 2, .int .u8 7, .int .u8 8, .int .u8 0, .int .u8 0] 5)
  refine (rOSameE (show eqB [2, 7, 8, 0, 0] [2, 7, 8, 0, 0] = true by decide) _ yb (lit5 (by simp) (by decide))).mono ?_
  rintro e wr ⟨rfl, rfl⟩
  go_wp2_with fail
  replace b0 := b0.alloc (.cells #[.int .u8 7, .int .u8 8] 5)
  replace yb := yb.alloc (.cells #[.int .u8 7, .int .u8 8] 5)
  replace yc := yc.alloc (.cells #[.int .u8 7, .int .u8 8] 5)
  replace yr := yr.alloc (.cells #[.int .u8 7, .int .u8 8] 5)
  replace yq := yq.alloc (.cells #[.int .u8 7, .int .u8 8] 5)
  replace yp := yp.alloc (.cells #[.int .u8 7, .int .u8 8] 5)
  replace pl := pl.alloc (.cells #[.int .u8 7, .int .u8 8] 5)
  refine (rOSameE (show eqB [7, 8] [7, 8] = true by decide) _ yc (lit2 (by simp) (by decide))).mono ?_
  rintro e wr ⟨rfl, rfl⟩
  go_wp2_with fail
  replace b0 := b0.alloc (.cells #[.int .u8 128, .int .u8 0, .int .u8 0, .int .u8 3, .int .u8 15] 5)
  replace yb := yb.alloc (.cells #[.int .u8 128, .int .u8 0, .int .u8 0, .int .u8 3, .int .u8 15] 5)
  replace yc := yc.alloc (.cells #[.int .u8 128, .int .u8 0, .int .u8 0, .int .u8 3, .int .u8 15] 5)
  replace yr := yr.alloc (.cells #[.int .u8 128, .int .u8 0, .int .u8 0, .int .u8 3, .int .u8 15] 5)
  replace yq := yq.alloc (.cells #[.int .u8 128, .int .u8 0, .int .u8 0, .int .u8 3, .int .u8 15] 5)
  replace yp := yp.alloc (.cells #[.int .u8 128, .int .u8 0, .int .u8 0, .int .u8 3, .int .u8 15] 5)
  replace pl := pl.alloc (.cells #[.int .u8 128, .int .u8 0, .int .u8 0, .int .u8 3, .int .u8 15] 5)
  refine (rOSameE (show eqB [128, 0, 0, 3, 15] [128, 0, 0, 3, 15] = true by decide) _ yr (lit5 (by simp) (by decide))).mono ?_
  rintro e wr ⟨rfl, rfl⟩
  go_wp2_with fail
  replace b0 := b0.alloc (.cells #[.int .u8 6] 5)
  replace yb := yb.alloc (.cells #[.int .u8 6] 5)
  replace yc := yc.alloc (.cells #[.int .u8 6] 5)
  replace yr := yr.alloc (.cells #[.int .u8 6] 5)
  replace yq := yq.alloc (.cells #[.int .u8 6] 5)
  replace yp := yp.alloc (.cells #[.int .u8 6] 5)
  replace pl := pl.alloc (.cells #[.int .u8 6] 5)
  refine (rOSameE (show eqB [6] [6] = true by decide) _ yq (lit1 (by simp) (by decide))).mono ?_
  rintro e wr ⟨rfl, rfl⟩
  go_wp2_with fail
  replace b0 := b0.alloc (.cells #[.int .u8 0, .int .u8 4, .int .u8 0, .int .u8 0, .int .u8 1, .int .u8 2, .int .u8 0, .int .u8 4, .int .u8 0, .int .u8 0, .int .u8 0, .int .u8 7] 5)
  replace yb := yb.alloc (.cells #[.int .u8 0, .int .u8 4, .int .u8 0, .int .u8 0, .int .u8 1, .int .u8 2, .int .u8 0, .int .u8 4, .int .u8 0, .int .u8 0, .int .u8 0, .int .u8 7] 5)
  replace yc := yc.alloc (.cells #[.int .u8 0, .int .u8 4, .int .u8 0, .int .u8 0, .int .u8 1, .int .u8 2, .int .u8 0, .int .u8 4, .int .u8 0, .int .u8 0, .int .u8 0, .int .u8 7] 5)
  replace yr := yr.alloc (.cells #[.int .u8 0, .int .u8 4, .int .u8 0, .int .u8 0, .int .u8 1, .int .u8 2, .int .u8 0, .int .u8 4, .int .u8 0, .int .u8 0, .int .u8 0, .int .u8 7] 5)
  replace yq := yq.alloc (.cells #[.int .u8 0, .int .u8 4, .int .u8 0, .int .u8 0, .int .u8 1, .int .u8 2, .int .u8 0, .int .u8 4, .int .u8 0, .int .u8 0, .int .u8 0, .int .u8 7] 5)
  replace yp := yp.alloc (.cells #[.int .u8 0, .int .u8 4, .int .u8 0, .int .u8 0, .int .u8 1, .int .u8 2, .int .u8 0, .int .u8 4, .int .u8 0, .int .u8 0, .int .u8 0, .int .u8 7] 5)
  replace pl := pl.alloc (.cells #[.int .u8 0, .int .u8 4, .int .u8 0, .int .u8 0, .int .u8 1, .int .u8 2, .int .u8 0, .int .u8 4, .int .u8 0, .int .u8 0, .int .u8 0, .int .u8 7] 5)
  refine (rOSameE (show eqB [0, 4, 0, 0, 1, 2, 0, 4, 0, 0, 0, 7] [0, 4, 0, 0, 1, 2, 0, 4, 0, 0, 0, 7] = true by decide) _ yp (lit12 (by simp) (by decide))).mono ?_
  rintro e wr ⟨rfl, rfl⟩
  go_wp2_with fail
  refine (fPairsE (show eqP [(4, 258), (4, 7)] [(4, 258), (4, 7)] = true by decide) _ pl pl).mono ?_
  rintro e wq ⟨rfl, hb⟩
  replace b0 := (b0).below hb; replace yb := (yb).below hb; replace yc := (yc).below hb; replace yr := (yr).below hb; replace yq := (yq).below hb; replace yp := (yp).below hb; replace pl := (pl).below hb
  go_wp2_with fail
  refine (fPairsE (show eqP [(4, 258), (4, 7)] [] = false by decide) _ pl (Prs.nil _)).mono ?_
  rintro e wq ⟨rfl, hb⟩
  replace b0 := (b0).below hb; replace yb := (yb).below hb; replace yc := (yc).below hb; replace yr := (yr).below hb; replace yq := (yq).below hb; replace yp := (yp).below hb; replace pl := (pl).below hb
  go_wp2
  go_ret
  exact ⟨rfl, b0.out⟩
end Go.Proofs.Ytlomaoabofpegaa
