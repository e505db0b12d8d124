/- What kinds put. -/
import Derived.Test.YtnjnpnjjpodnnaaRGr
import Derived.LoopN
namespace Go.Proofs.Ytnjnpnjjpodnnaa
open Go.RowKit Go.Shelf
set_option linter.unusedVariables false
set_option linter.unusedSimpArgs false

def SlB (base : Nat) (l : List Int) (w : World) (e : Ending) (W' : World) : Prop := ∃ A n c, e = .returned (.slice A n c) ∧ Mine base W' A n c l ∧ Below w.heap.size w W'
theorem putO_len (n : Int) : (putO n 4).length ≤ 4 := by
  unfold putO
  split
  · rw [bigE_len]; decide
  · simp
theorem rankL_len (al : Bool) (dp wt : Int) : (rankL al dp wt).length ≤ 5 := by
  unfold rankL
  split
  · rw [List.length_append, bigE_len]; simp
  · simp
theorem Mine.init {base : Nat} {w : World} {A : Option Addr} {n c : Nat} {l : List Int} (h : Mine base w A n c l) {k : Nat} (hk : k ≤ n) : Mine base w A k c (l.take k) := by
  have hl := h.len
  refine ⟨⟨by simp; omega, ?_⟩, h.2.take k⟩
  rcases h.1.2 with ⟨e, h0⟩ | ⟨g, cap, cur, e, hb, hg, hnc, hcm, hcs, htake⟩
  · simp at e
    obtain ⟨rfl, rfl, rfl⟩ := e
    exact .inl ⟨by simp; omega, by omega⟩
  · simp at e
    obtain ⟨rfl, rfl⟩ := e
    refine .inr ⟨g, c, cur, rfl, hb, hg, by omega, hcm, hcs, ?_⟩
    rw [List.map_take, ← htake, List.take_take, Nat.min_eq_left (by omega)]
    simp
set_option maxRecDepth 100000 in
set_option maxHeartbeats 1000000 in
theorem fPadded (f : Fm) (hf : FmOk f) (A : Option Addr) (n c : Nat) (P : Option Addr) (pn pc : Nat) (base : Nat) (B : Option Addr) (m d : Nat) (l : List Int) (w : World) (hm : Mine base w B m d l) (hbase : base ≤ w.heap.size) (hn : m ≤ 100000) : Calls Try.prog 66 #[.agg #[.int .u8 (f).kd, .int .u8 (f).fl, .int .i64 (f).st, .slice A n c, .int .i64 (f).pd, .int .i64 (f).la, .int .i64 (f).ic, .int .u32 (f).cd, .slice P pn pc, .bool (f).rk, .bool (f).al, .int .i64 (f).dp, .int .u8 (f).wt], .slice B m d] w (SlB base (padP f l) w) := by
  have ha := and8 f.fl hf.fl.1 hf.fl.2
  have PD := Lib.hid fun w h => fPad B m d l (wrap64 (f.pd - 1)) w h hn (by unfold wrap64; omega) (by unfold wrap64; omega)
  clear hf
  have gr := (Bel.refl w).alloc (.cells #[.int .u8 (f).kd, .int .u8 (f).fl, .int .i64 (f).st, .slice A n c, .int .i64 (f).pd, .int .i64 (f).la, .int .i64 (f).ic, .int .u32 (f).cd, .slice P pn pc, .bool (f).rk, .bool (f).al, .int .i64 (f).dp, .int .u8 (f).wt] 30)
  have q := Blk.new w 30 #[.int .u8 (f).kd, .int .u8 (f).fl, .int .i64 (f).st, .slice A n c, .int .i64 (f).pd, .int .i64 (f).la, .int .i64 (f).ic, .int .u32 (f).cd, .slice P pn pc, .bool (f).rk, .bool (f).al, .int .i64 (f).dp, .int .u8 (f).wt]
  have hm1 := hm.alloc (.cells #[.int .u8 (f).kd, .int .u8 (f).fl, .int .i64 (f).st, .slice A n c, .int .i64 (f).pd, .int .i64 (f).la, .int .i64 (f).ic, .int .u32 (f).cd, .slice P pn pc, .bool (f).rk, .bool (f).al, .int .i64 (f).dp, .int .u8 (f).wt] 30)
  have hbs : base ≤ (w.alloc (.cells #[.int .u8 (f).kd, .int .u8 (f).fl, .int .i64 (f).st, .slice A n c, .int .i64 (f).pd, .int .i64 (f).la, .int .i64 (f).ic, .int .u32 (f).cd, .slice P pn pc, .bool (f).rk, .bool (f).al, .int .i64 (f).dp, .int .u8 (f).wt] 30)).heap.size := by rw [World.size_alloc]; omega
  clear hm hbase
  have z1 := q.at 1 rfl
  have z4 := q.at 4 rfl
  unfold padP
  cases hp : hasB f.fl 8
  all_goals rw [hp] at ha; clear hp
  · rw [if_neg (by decide)]
    go_enter Try.func66, Try.ntmps66
    go_wp2
    go_ret
    exact ⟨_, _, _, rfl, hm1, gr.out⟩
  · rw [if_pos rfl]
    go_enter Try.func66, Try.ntmps66
    go_wp2_with (go_at_call 98; (with_reducible refine (PD.out _ hm1.byt).mono ?_); rintro e w9 ⟨B2, m2, d2, rfl, m2h, hb⟩; replace gr := gr.below hb)
    go_ret
    exact ⟨_, _, _, rfl, m2h.base_le hbs, gr.out⟩
set_option maxRecDepth 100000 in
set_option maxHeartbeats 1000000 in
theorem fPlain2 (f : Fm) (hf : FmOk f) (A : Option Addr) (n c : Nat) (P : Option Addr) (pn pc : Nat) (w : World) (h : Byt w A n c f.da) (hn : n ≤ 90000) : Calls Try.prog 91 #[.agg #[.int .u8 (f).kd, .int .u8 (f).fl, .int .i64 (f).st, .slice A n c, .int .i64 (f).pd, .int .i64 (f).la, .int .i64 (f).ic, .int .u32 (f).cd, .slice P pn pc, .bool (f).rk, .bool (f).al, .int .i64 (f).dp, .int .u8 (f).wt]] w (SlP f.da w) := by
  clear hf
  have gr := (Bel.refl w).alloc (.cells #[.int .u8 (f).kd, .int .u8 (f).fl, .int .i64 (f).st, .slice A n c, .int .i64 (f).pd, .int .i64 (f).la, .int .i64 (f).ic, .int .u32 (f).cd, .slice P pn pc, .bool (f).rk, .bool (f).al, .int .i64 (f).dp, .int .u8 (f).wt] 30)
  have q := Blk.new w 30 #[.int .u8 (f).kd, .int .u8 (f).fl, .int .i64 (f).st, .slice A n c, .int .i64 (f).pd, .int .i64 (f).la, .int .i64 (f).ic, .int .u32 (f).cd, .slice P pn pc, .bool (f).rk, .bool (f).al, .int .i64 (f).dp, .int .u8 (f).wt]
  have h1 := h.alloc (.cells #[.int .u8 (f).kd, .int .u8 (f).fl, .int .i64 (f).st, .slice A n c, .int .i64 (f).pd, .int .i64 (f).la, .int .i64 (f).ic, .int .u32 (f).cd, .slice P pn pc, .bool (f).rk, .bool (f).al, .int .i64 (f).dp, .int .u8 (f).wt] 30)
  have z3 := q.at 3 rfl
  clear h
  go_enter Try.func91, Try.ntmps91
  go_wp2_with (go_at_call 41; (with_reducible refine (fClone A n c f.da _ h1 (by omega)).mono ?_); rintro e w9 ⟨B, d, rfl, m1, hb⟩; replace gr := gr.below hb)
  go_ret
  refine ⟨_, _, _, rfl, m1.base_le (by simp), gr.out⟩
set_option maxRecDepth 100000 in
set_option maxHeartbeats 1000000 in
theorem fReset2 (f : Fm) (hf : FmOk f) (A : Option Addr) (n c : Nat) (P : Option Addr) (pn pc : Nat) (w : World) : Calls Try.prog 74 #[.agg #[.int .u8 (f).kd, .int .u8 (f).fl, .int .i64 (f).st, .slice A n c, .int .i64 (f).pd, .int .i64 (f).la, .int .i64 (f).ic, .int .u32 (f).cd, .slice P pn pc, .bool (f).rk, .bool (f).al, .int .i64 (f).dp, .int .u8 (f).wt]] w (SlP (putO f.cd 4) w) := by
  have hcd := hf.cd
  clear hf
  have gr := (Bel.refl w).alloc (.cells #[.int .u8 (f).kd, .int .u8 (f).fl, .int .i64 (f).st, .slice A n c, .int .i64 (f).pd, .int .i64 (f).la, .int .i64 (f).ic, .int .u32 (f).cd, .slice P pn pc, .bool (f).rk, .bool (f).al, .int .i64 (f).dp, .int .u8 (f).wt] 30)
  have q := Blk.new w 30 #[.int .u8 (f).kd, .int .u8 (f).fl, .int .i64 (f).st, .slice A n c, .int .i64 (f).pd, .int .i64 (f).la, .int .i64 (f).ic, .int .u32 (f).cd, .slice P pn pc, .bool (f).rk, .bool (f).al, .int .i64 (f).dp, .int .u8 (f).wt]
  have z7 := q.at 7 rfl
  have hw : IntKind.i64.wrap f.cd = f.cd := by rw [IntKind.wrap_i64]; omega
  go_enter Try.func74, Try.ntmps74
  go_wp2_with (go_at_call 75; (with_reducible refine (fFour f.cd _ (by omega)).mono ?_); rintro e w9 ⟨B, m, d, rfl, m1, hb⟩; replace gr := gr.below hb)
  go_ret
  refine ⟨_, _, _, rfl, m1.base_le (by simp), gr.out⟩
set_option maxRecDepth 100000 in
set_option maxHeartbeats 1000000 in
theorem fWindow2 (f : Fm) (hf : FmOk f) (A : Option Addr) (n c : Nat) (P : Option Addr) (pn pc : Nat) (w : World) : Calls Try.prog 87 #[.agg #[.int .u8 (f).kd, .int .u8 (f).fl, .int .i64 (f).st, .slice A n c, .int .i64 (f).pd, .int .i64 (f).la, .int .i64 (f).ic, .int .u32 (f).cd, .slice P pn pc, .bool (f).rk, .bool (f).al, .int .i64 (f).dp, .int .u8 (f).wt]] w (SlP (putO f.ic 4) w) := by
  have hcd := hf.ic
  clear hf
  have gr := (Bel.refl w).alloc (.cells #[.int .u8 (f).kd, .int .u8 (f).fl, .int .i64 (f).st, .slice A n c, .int .i64 (f).pd, .int .i64 (f).la, .int .i64 (f).ic, .int .u32 (f).cd, .slice P pn pc, .bool (f).rk, .bool (f).al, .int .i64 (f).dp, .int .u8 (f).wt] 30)
  have q := Blk.new w 30 #[.int .u8 (f).kd, .int .u8 (f).fl, .int .i64 (f).st, .slice A n c, .int .i64 (f).pd, .int .i64 (f).la, .int .i64 (f).ic, .int .u32 (f).cd, .slice P pn pc, .bool (f).rk, .bool (f).al, .int .i64 (f).dp, .int .u8 (f).wt]
  have z6 := q.at 6 rfl
  go_enter Try.func87, Try.ntmps87
  go_wp2_with (go_at_call 75; (with_reducible refine (fFour f.ic _ (by omega)).mono ?_); rintro e w9 ⟨B, m, d, rfl, m1, hb⟩; replace gr := gr.below hb)
  go_ret
  refine ⟨_, _, _, rfl, m1.base_le (by simp), gr.out⟩
set_option maxRecDepth 100000 in
set_option maxHeartbeats 1000000 in
theorem fSets2 (f : Fm) (hf : FmOk f) (A : Option Addr) (n c : Nat) (P : Option Addr) (pn pc : Nat) (w : World) (hp : Prs w P pn pc f.prs) (hn : pn ≤ 100000) : Calls Try.prog 80 #[.agg #[.int .u8 (f).kd, .int .u8 (f).fl, .int .i64 (f).st, .slice A n c, .int .i64 (f).pd, .int .i64 (f).la, .int .i64 (f).ic, .int .u32 (f).cd, .slice P pn pc, .bool (f).rk, .bool (f).al, .int .i64 (f).dp, .int .u8 (f).wt]] w (SlP (putPs f.prs) w) := by
  clear hf
  have gr := (Bel.refl w).alloc (.cells #[.int .u8 (f).kd, .int .u8 (f).fl, .int .i64 (f).st, .slice A n c, .int .i64 (f).pd, .int .i64 (f).la, .int .i64 (f).ic, .int .u32 (f).cd, .slice P pn pc, .bool (f).rk, .bool (f).al, .int .i64 (f).dp, .int .u8 (f).wt] 30)
  have q := Blk.new w 30 #[.int .u8 (f).kd, .int .u8 (f).fl, .int .i64 (f).st, .slice A n c, .int .i64 (f).pd, .int .i64 (f).la, .int .i64 (f).ic, .int .u32 (f).cd, .slice P pn pc, .bool (f).rk, .bool (f).al, .int .i64 (f).dp, .int .u8 (f).wt]
  have h1 := hp.alloc (.cells #[.int .u8 (f).kd, .int .u8 (f).fl, .int .i64 (f).st, .slice A n c, .int .i64 (f).pd, .int .i64 (f).la, .int .i64 (f).ic, .int .u32 (f).cd, .slice P pn pc, .bool (f).rk, .bool (f).al, .int .i64 (f).dp, .int .u8 (f).wt] 30)
  have z8 := q.at 8 rfl
  clear hp
  go_enter Try.func80, Try.ntmps80
  go_wp2_with (go_at_call 81; (with_reducible refine (fPutPairs P pn pc f.prs _ h1 hn).mono ?_); rintro e w9 ⟨B, d, rfl, m1, hb⟩; replace gr := gr.below hb)
  go_ret
  refine ⟨_, _, _, rfl, m1.base_le (by simp), gr.out⟩
set_option maxRecDepth 100000 in
set_option maxHeartbeats 1000000 in
theorem fRank2 (f : Fm) (hf : FmOk f) (A : Option Addr) (n c : Nat) (P : Option Addr) (pn pc : Nat) (w : World) : Calls Try.prog 70 #[.agg #[.int .u8 (f).kd, .int .u8 (f).fl, .int .i64 (f).st, .slice A n c, .int .i64 (f).pd, .int .i64 (f).la, .int .i64 (f).ic, .int .u32 (f).cd, .slice P pn pc, .bool (f).rk, .bool (f).al, .int .i64 (f).dp, .int .u8 (f).wt]] w (SlP (rankL f.al f.dp f.wt) w) := by
  have PR := Lib.hid fun w => fPutRank f.al f.dp f.wt w hf.dp.1 hf.dp.2 hf.wt.1 hf.wt.2
  clear hf
  have gr := (Bel.refl w).alloc (.cells #[.int .u8 (f).kd, .int .u8 (f).fl, .int .i64 (f).st, .slice A n c, .int .i64 (f).pd, .int .i64 (f).la, .int .i64 (f).ic, .int .u32 (f).cd, .slice P pn pc, .bool (f).rk, .bool (f).al, .int .i64 (f).dp, .int .u8 (f).wt] 30)
  have q := Blk.new w 30 #[.int .u8 (f).kd, .int .u8 (f).fl, .int .i64 (f).st, .slice A n c, .int .i64 (f).pd, .int .i64 (f).la, .int .i64 (f).ic, .int .u32 (f).cd, .slice P pn pc, .bool (f).rk, .bool (f).al, .int .i64 (f).dp, .int .u8 (f).wt]
  go_enter Try.func70, Try.ntmps70
  go_wp2_with (first | (refine wpList_getM (cs := [.bool f.al, .int .i64 f.dp, .int .u8 f.wt]) (by rfl) _ _ rfl rfl q rfl Try.underlying28 rfl (by rfl) ?_) | (go_at_call 100; (with_reducible refine (PR.out _).mono ?_); rintro e w9 ⟨B, m, d, rfl, m1, hb⟩; replace gr := gr.below hb))
  go_ret
  refine ⟨_, _, _, rfl, m1.base_le (by simp), gr.out⟩
set_option maxRecDepth 100000 in
set_option maxHeartbeats 1000000 in
theorem fData2 (f : Fm) (hf : FmOk f) (A : Option Addr) (n c : Nat) (P : Option Addr) (pn pc : Nat) (w : World) (h : Byt w A n c f.da) (hn : n ≤ 90000) : Calls Try.prog 65 #[.agg #[.int .u8 (f).kd, .int .u8 (f).fl, .int .i64 (f).st, .slice A n c, .int .i64 (f).pd, .int .i64 (f).la, .int .i64 (f).ic, .int .u32 (f).cd, .slice P pn pc, .bool (f).rk, .bool (f).al, .int .i64 (f).dp, .int .u8 (f).wt]] w (SlP (padP f f.da) w) := by
  have gr := (Bel.refl w).alloc (.cells #[.int .u8 (f).kd, .int .u8 (f).fl, .int .i64 (f).st, .slice A n c, .int .i64 (f).pd, .int .i64 (f).la, .int .i64 (f).ic, .int .u32 (f).cd, .slice P pn pc, .bool (f).rk, .bool (f).al, .int .i64 (f).dp, .int .u8 (f).wt] 30)
  have q := Blk.new w 30 #[.int .u8 (f).kd, .int .u8 (f).fl, .int .i64 (f).st, .slice A n c, .int .i64 (f).pd, .int .i64 (f).la, .int .i64 (f).ic, .int .u32 (f).cd, .slice P pn pc, .bool (f).rk, .bool (f).al, .int .i64 (f).dp, .int .u8 (f).wt]
  have h1 := (h.alloc (.cells #[.int .u8 (f).kd, .int .u8 (f).fl, .int .i64 (f).st, .slice A n c, .int .i64 (f).pd, .int .i64 (f).la, .int .i64 (f).ic, .int .u32 (f).cd, .slice P pn pc, .bool (f).rk, .bool (f).al, .int .i64 (f).dp, .int .u8 (f).wt] 30)).drew
  clear h
  go_enter Try.func65, Try.ntmps65
  go_wp2_with fail
  replace q := q.drew
  replace gr := gr.drew
  refine wp_region_G (fun w' => Blk w' w.heap.size 30 #[.int .u8 (f).kd, .int .u8 (f).fl, .int .i64 (f).st, .slice A n c, .int .i64 (f).pd, .int .i64 (f).la, .int .i64 (f).ic, .int .u32 (f).cd, .slice P pn pc, .bool (f).rk, .bool (f).al, .int .i64 (f).dp, .int .u8 (f).wt]) [] (by kernel_rfl) ?_
  have S0 := q
  refine wpAnyG_take 0 (v := .agg #[.int .u8 (f).kd, .int .u8 (f).fl, .int .i64 (f).st, .slice A n c, .int .i64 (f).pd, .int .i64 (f).la, .int .i64 (f).ic, .int .u32 (f).cd, .slice P pn pc, .bool (f).rk, .bool (f).al, .int .i64 (f).dp, .int .u8 (f).wt]) rfl (by kernel_rfl) (fun _ _ _ h => h) S0 (Or.inl ⟨by rfl, by intro w' hSw; exact exec_getB (by rfl) (by rfl) hSw Try.underlying30 rfl (by rfl)⟩) ?_; (try simp only [Act.put, rA, rB, rC, rD, rE, rF])
  refine wpAnyG_take 1 (v := ?_) rfl (by kernel_rfl) (fun _ _ _ h => h) S0 (Or.inl ⟨by rfl, by intro w' hSw; go_simp; try with_reducible rfl⟩) ?_; (try simp only [Act.put, rA, rB, rC, rD, rE, rF])
  refine wpAnyG_take 2 (v := ?_) rfl (by kernel_rfl) (fun _ _ _ h => h) S0 (Or.inl ⟨by rfl, by intro w' hSw; have z3 := hSw.at 3 rfl; go_simp; try with_reducible rfl⟩) ?_; (try simp only [Act.put, rA, rB, rC, rD, rE, rF])
  clear S0
  refine wpAnyG_one 3 (by kernel_rfl) rfl (fun K hK => ?_)
  rw [if_pos (by rfl)]
  go_simp
  (go_at_call 41; (with_reducible refine (fClone A n c f.da _ h1 (by omega)).mono ?_); rintro e w9 ⟨B, d, rfl, m1, hb⟩)
  have sz := gr.out.size
  replace gr := gr.below hb
  replace q := q.below hb
  replace m1 := m1.base_le sz
  clear hb h1
  (try go_simp)
  refine hK.out _ _ (fun _ => q) ?_
  clear hK K
  (try simp only [Act.put, rA, rB, rC, rD, rE, rF])
  refine wpAnyG_one 4 (by kernel_rfl) rfl (fun K hK => ?_)
  rw [if_pos (by rfl)]
  go_simp
  (go_at_call 66; (with_reducible refine (fPadded f hf A n c P pn pc w.heap.size B n d f.da _ m1 gr.out.size (by omega)).mono ?_); rintro e w9 ⟨B2, m2, d2, rfl, m2h, hb⟩)
  have sz := gr.out.size
  replace gr := gr.below hb
  replace q := q.below hb
  clear hb
  (try go_simp)
  refine hK.out _ _ (fun _ => q) ?_
  clear hK K
  (try simp only [Act.put, rA, rB, rC, rD, rE, rF])
  have S0 := q
  refine wpAnyG_take 5 (v := ?_) rfl (by kernel_rfl) (fun _ _ _ h => h) S0 (Or.inl ⟨by rfl, by intro w' hSw; go_simp; try with_reducible rfl⟩) ?_; (try simp only [Act.put, rA, rB, rC, rD, rE, rF])
  clear S0
  refine wpAnyG_done (by kernel_rfl) ?_ _
  go_wp2
  go_ret
  exact ⟨_, _, _, rfl, m2h, gr.out⟩
set_option maxRecDepth 100000 in
set_option maxHeartbeats 1000000 in
theorem fUrgency2 (f : Fm) (hf : FmOk f) (A : Option Addr) (n c : Nat) (P : Option Addr) (pn pc : Nat) (w : World) (h : Byt w A n c f.da) (hn : n ≤ 90000) : Calls Try.prog 89 #[.agg #[.int .u8 (f).kd, .int .u8 (f).fl, .int .i64 (f).st, .slice A n c, .int .i64 (f).pd, .int .i64 (f).la, .int .i64 (f).ic, .int .u32 (f).cd, .slice P pn pc, .bool (f).rk, .bool (f).al, .int .i64 (f).dp, .int .u8 (f).wt]] w (SlP (putO f.la 4 ++ f.da) w) := by
  have hla := hf.la
  clear hf
  have gr := (Bel.refl w).alloc (.cells #[.int .u8 (f).kd, .int .u8 (f).fl, .int .i64 (f).st, .slice A n c, .int .i64 (f).pd, .int .i64 (f).la, .int .i64 (f).ic, .int .u32 (f).cd, .slice P pn pc, .bool (f).rk, .bool (f).al, .int .i64 (f).dp, .int .u8 (f).wt] 30)
  have q := Blk.new w 30 #[.int .u8 (f).kd, .int .u8 (f).fl, .int .i64 (f).st, .slice A n c, .int .i64 (f).pd, .int .i64 (f).la, .int .i64 (f).ic, .int .u32 (f).cd, .slice P pn pc, .bool (f).rk, .bool (f).al, .int .i64 (f).dp, .int .u8 (f).wt]
  have h1 := (h.alloc (.cells #[.int .u8 (f).kd, .int .u8 (f).fl, .int .i64 (f).st, .slice A n c, .int .i64 (f).pd, .int .i64 (f).la, .int .i64 (f).ic, .int .u32 (f).cd, .slice P pn pc, .bool (f).rk, .bool (f).al, .int .i64 (f).dp, .int .u8 (f).wt] 30)).drew
  have hl := h.len
  clear h
  go_enter Try.func89, Try.ntmps89
  go_wp2_with fail
  replace q := q.drew
  replace gr := gr.drew
  refine wp_region_G (fun w' => Blk w' w.heap.size 30 #[.int .u8 (f).kd, .int .u8 (f).fl, .int .i64 (f).st, .slice A n c, .int .i64 (f).pd, .int .i64 (f).la, .int .i64 (f).ic, .int .u32 (f).cd, .slice P pn pc, .bool (f).rk, .bool (f).al, .int .i64 (f).dp, .int .u8 (f).wt]) [] (by kernel_rfl) ?_
  have S0 := q
  refine wpAnyG_take 0 (v := ?_) rfl (by kernel_rfl) (fun _ _ _ h => h) S0 (Or.inl ⟨by rfl, by intro w' hSw; go_simp; try with_reducible rfl⟩) ?_; (try simp only [Act.put, rA, rB, rC, rD, rE, rF])
  refine wpAnyG_take 1 (v := ?_) rfl (by kernel_rfl) (fun _ _ _ h => h) S0 (Or.inl ⟨by rfl, by intro w' hSw; have z5 := hSw.at 5 rfl; go_simp; try with_reducible rfl⟩) ?_; (try simp only [Act.put, rA, rB, rC, rD, rE, rF])
  refine wpAnyG_take 3 (v := ?_) rfl (by kernel_rfl) (fun _ _ _ h => h) S0 (Or.inl ⟨by rfl, by intro w' hSw; go_simp; try with_reducible rfl⟩) ?_; (try simp only [Act.put, rA, rB, rC, rD, rE, rF])
  refine wpAnyG_take 4 (v := ?_) rfl (by kernel_rfl) (fun _ _ _ h => h) S0 (Or.inl ⟨by rfl, by intro w' hSw; have z3 := hSw.at 3 rfl; go_simp; try with_reducible rfl⟩) ?_; (try simp only [Act.put, rA, rB, rC, rD, rE, rF])
  clear S0
  refine wpAnyG_one 2 (by kernel_rfl) rfl (fun K hK => ?_)
  rw [if_pos (by rfl)]
  go_simp
  (go_at_call 75; (with_reducible refine (fFour f.la _ (by omega)).mono ?_); rintro e w9 ⟨B, m, d, rfl, m1, hb⟩)
  have sz := gr.out.size
  replace gr := gr.below hb
  replace q := q.below hb
  have h2 := h1.below hb
  have sz2 := gr.out.size
  replace m1 := m1.base_le (b := w.heap.size + 1) (by simp)
  clear hb h1
  (try go_simp)
  refine hK.out _ _ (fun _ => q) ?_
  clear hK K
  (try simp only [Act.put, rA, rB, rC, rD, rE, rF])
  refine wpAnyG_one 5 (by kernel_rfl) rfl (fun K hK => ?_)
  have hl2 := putO_len f.la
  have sb : w.heap.size + 1 ≤ w9.heap.size := q.lt
  refine step_app _ rfl (.tmp 5) (.tmp 7) rfl (w.heap.size + 1) B m d (putO f.la 4) rfl m1 A n c f.da rfl h2 (by omega) sb ?_
  intro B3 d3 w9 m3 hb _
  replace q := q.belowB hb (Nat.lt_succ_self _)
  replace gr := gr.stepB hb (Nat.le_succ _)
  clear hb
  refine hK.out _ _ (fun _ => q) ?_
  clear hK K
  (try simp only [Act.put, rA, rB, rC, rD, rE, rF])
  have S0 := q
  refine wpAnyG_take 6 (v := ?_) rfl (by kernel_rfl) (fun _ _ _ h => h) S0 (Or.inl ⟨by rfl, by intro w' hSw; go_simp; try with_reducible rfl⟩) ?_; (try simp only [Act.put, rA, rB, rC, rD, rE, rF])
  clear S0
  refine wpAnyG_done (by kernel_rfl) ?_ _
  go_wp2
  go_ret
  exact ⟨_, _, _, rfl, m3.base_le (Nat.le_succ _), gr.out⟩
set_option maxRecDepth 100000 in
set_option maxHeartbeats 1000000 in
theorem fHeads2f (f : Fm) (hf : FmOk f) (A : Option Addr) (n c : Nat) (P : Option Addr) (pn pc : Nat) (w : World) (h : Byt w A n c f.da) (hn : n ≤ 90000) (hk : f.rk = false) : Calls Try.prog 69 #[.agg #[.int .u8 (f).kd, .int .u8 (f).fl, .int .i64 (f).st, .slice A n c, .int .i64 (f).pd, .int .i64 (f).la, .int .i64 (f).ic, .int .u32 (f).cd, .slice P pn pc, .bool (f).rk, .bool (f).al, .int .i64 (f).dp, .int .u8 (f).wt]] w (SlP (padP f ([] ++ f.da)) w) := by
  have hl := h.len
  have hlr := rankL_len f.al f.dp f.wt
  have HP := fun w' B m d l hm hb hn => fPadded f hf A n c P pn pc (w.heap.size + 1) B m d l w' hm hb hn
  have HK := fun w' => fRank2 f hf A n c P pn pc w'
  rw [hk] at HP HK ⊢
  replace HP := Lib.hid HP
  replace HK := Lib.hid HK
  clear hk
  have gr := (Bel.refl w).alloc (.cells #[.int .u8 f.kd, .int .u8 f.fl, .int .i64 f.st, .slice A n c, .int .i64 f.pd, .int .i64 f.la, .int .i64 f.ic, .int .u32 f.cd, .slice P pn pc, .bool false, .bool f.al, .int .i64 f.dp, .int .u8 f.wt] 30)
  have q := Blk.new w 30 #[.int .u8 f.kd, .int .u8 f.fl, .int .i64 f.st, .slice A n c, .int .i64 f.pd, .int .i64 f.la, .int .i64 f.ic, .int .u32 f.cd, .slice P pn pc, .bool false, .bool f.al, .int .i64 f.dp, .int .u8 f.wt]
  have h1 := h.alloc (.cells #[.int .u8 f.kd, .int .u8 f.fl, .int .i64 f.st, .slice A n c, .int .i64 f.pd, .int .i64 f.la, .int .i64 f.ic, .int .u32 f.cd, .slice P pn pc, .bool false, .bool f.al, .int .i64 f.dp, .int .u8 f.wt] 30)
  have z9 := q.at 9 rfl
  clear h
  go_enter Try.func69, Try.ntmps69
  go_wp2_with fail
  clear z9
  replace h1 := h1.drew
  replace q := q.drew
  replace gr := gr.drew
  refine wp_region_G (fun w' => Blk w' w.heap.size 30 #[.int .u8 f.kd, .int .u8 f.fl, .int .i64 f.st, .slice A n c, .int .i64 f.pd, .int .i64 f.la, .int .i64 f.ic, .int .u32 f.cd, .slice P pn pc, .bool false, .bool f.al, .int .i64 f.dp, .int .u8 f.wt]) [] (by kernel_rfl) ?_
  have S0 := q
  refine wpAnyG_take 0 (v := .agg #[.int .u8 f.kd, .int .u8 f.fl, .int .i64 f.st, .slice A n c, .int .i64 f.pd, .int .i64 f.la, .int .i64 f.ic, .int .u32 f.cd, .slice P pn pc, .bool false, .bool f.al, .int .i64 f.dp, .int .u8 f.wt]) rfl (by kernel_rfl) (fun _ _ _ h => h) S0 (Or.inl ⟨by rfl, by intro w' hSw; exact exec_getB (by rfl) (by rfl) hSw Try.underlying30 rfl (by rfl)⟩) ?_; (try simp only [Act.put, rA, rB, rC, rD, rE, rF])
  refine wpAnyG_take 1 (v := ?_) rfl (by kernel_rfl) (fun _ _ _ h => h) S0 (Or.inl ⟨by rfl, by intro w' hSw; go_simp; try with_reducible rfl⟩) ?_; (try simp only [Act.put, rA, rB, rC, rD, rE, rF])
  refine wpAnyG_take 2 (v := ?_) rfl (by kernel_rfl) (fun _ _ _ h => h) S0 (Or.inl ⟨by rfl, by intro w' hSw; go_simp; try with_reducible rfl⟩) ?_; (try simp only [Act.put, rA, rB, rC, rD, rE, rF])
  refine wpAnyG_take 3 (v := ?_) rfl (by kernel_rfl) (fun _ _ _ h => h) S0 (Or.inl ⟨by rfl, by intro w' hSw; have z3 := hSw.at 3 rfl; go_simp; try with_reducible rfl⟩) ?_; (try simp only [Act.put, rA, rB, rC, rD, rE, rF])
  clear S0
  refine wpAnyG_one 4 (by kernel_rfl) rfl (fun K hK => ?_)
  have sb : w.heap.size + 1 ≤ _ := q.lt
  refine step_app _ rfl (.tmp 8) (.tmp 10) rfl (w.heap.size + 1) none 0 0 ([]) rfl (Mine.nil _ _) A n c f.da rfl h1 (by simp; omega) sb ?_
  intro B3 d3 w9 m3 hb _
  replace q := q.belowB hb (Nat.lt_succ_self _)
  replace gr := gr.stepB hb (Nat.le_succ _)
  clear hb sb
  simp only [Nat.zero_add, List.nil_append] at m3
  refine hK.out _ _ (fun _ => q) ?_
  clear hK K
  (try simp only [Act.put, rA, rB, rC, rD, rE, rF])
  refine wpAnyG_one 5 (by kernel_rfl) rfl (fun K hK => ?_)
  rw [if_pos (by rfl)]
  go_simp
  (go_at_call 66; (with_reducible refine (HP.out _ B3 (n) d3 (f.da) m3 (Nat.succ_le_of_lt q.lt) (by omega)).mono ?_); rintro e w9 ⟨B2, m2, d2, rfl, m2h, hb⟩)
  replace gr := gr.below hb
  replace q := q.below hb
  clear hb
  (try go_simp)
  refine hK.out _ _ (fun _ => q) ?_
  clear hK K
  (try simp only [Act.put, rA, rB, rC, rD, rE, rF])
  have S0 := q
  refine wpAnyG_take 6 (v := ?_) rfl (by kernel_rfl) (fun _ _ _ h => h) S0 (Or.inl ⟨by rfl, by intro w' hSw; go_simp; try with_reducible rfl⟩) ?_; (try simp only [Act.put, rA, rB, rC, rD, rE, rF])
  clear S0
  refine wpAnyG_done (by kernel_rfl) ?_ _
  go_wp2
  go_ret
  exact ⟨_, _, _, rfl, m2h.base_le (Nat.le_succ _), gr.out⟩
set_option maxRecDepth 100000 in
set_option maxHeartbeats 1000000 in
theorem fHeads2t (f : Fm) (hf : FmOk f) (A : Option Addr) (n c : Nat) (P : Option Addr) (pn pc : Nat) (w : World) (h : Byt w A n c f.da) (hn : n ≤ 90000) (hk : f.rk = true) : Calls Try.prog 69 #[.agg #[.int .u8 (f).kd, .int .u8 (f).fl, .int .i64 (f).st, .slice A n c, .int .i64 (f).pd, .int .i64 (f).la, .int .i64 (f).ic, .int .u32 (f).cd, .slice P pn pc, .bool (f).rk, .bool (f).al, .int .i64 (f).dp, .int .u8 (f).wt]] w (SlP (padP f (rankL f.al f.dp f.wt ++ f.da)) w) := by
  have hl := h.len
  have hlr := rankL_len f.al f.dp f.wt
  have HP := fun w' B m d l hm hb hn => fPadded f hf A n c P pn pc (w.heap.size + 1) B m d l w' hm hb hn
  have HK := fun w' => fRank2 f hf A n c P pn pc w'
  rw [hk] at HP HK ⊢
  replace HP := Lib.hid HP
  replace HK := Lib.hid HK
  clear hk
  have gr := (Bel.refl w).alloc (.cells #[.int .u8 f.kd, .int .u8 f.fl, .int .i64 f.st, .slice A n c, .int .i64 f.pd, .int .i64 f.la, .int .i64 f.ic, .int .u32 f.cd, .slice P pn pc, .bool true, .bool f.al, .int .i64 f.dp, .int .u8 f.wt] 30)
  have q := Blk.new w 30 #[.int .u8 f.kd, .int .u8 f.fl, .int .i64 f.st, .slice A n c, .int .i64 f.pd, .int .i64 f.la, .int .i64 f.ic, .int .u32 f.cd, .slice P pn pc, .bool true, .bool f.al, .int .i64 f.dp, .int .u8 f.wt]
  have h1 := h.alloc (.cells #[.int .u8 f.kd, .int .u8 f.fl, .int .i64 f.st, .slice A n c, .int .i64 f.pd, .int .i64 f.la, .int .i64 f.ic, .int .u32 f.cd, .slice P pn pc, .bool true, .bool f.al, .int .i64 f.dp, .int .u8 f.wt] 30)
  have z9 := q.at 9 rfl
  clear h
  go_enter Try.func69, Try.ntmps69
  go_wp2_with (first | (refine wpList_getB rfl _ _ rfl rfl q Try.underlying30 rfl (by rfl) ?_) | (go_at_call 70; (with_reducible refine (HK.out _).mono ?_); rintro e w9 ⟨B, m, d, rfl, m1, hb⟩; replace gr := gr.below hb; replace q := q.below hb; replace h1 := h1.below hb; replace m1 := m1.base_le (b := w.heap.size + 1) (by simp); clear z9 hb))
  have hlm := m1.len
  replace h1 := h1.drew
  replace m1 := m1.drew
  replace q := q.drew
  replace gr := gr.drew
  refine wp_region_G (fun w' => Blk w' w.heap.size 30 #[.int .u8 f.kd, .int .u8 f.fl, .int .i64 f.st, .slice A n c, .int .i64 f.pd, .int .i64 f.la, .int .i64 f.ic, .int .u32 f.cd, .slice P pn pc, .bool true, .bool f.al, .int .i64 f.dp, .int .u8 f.wt]) [] (by kernel_rfl) ?_
  have S0 := q
  refine wpAnyG_take 0 (v := .agg #[.int .u8 f.kd, .int .u8 f.fl, .int .i64 f.st, .slice A n c, .int .i64 f.pd, .int .i64 f.la, .int .i64 f.ic, .int .u32 f.cd, .slice P pn pc, .bool true, .bool f.al, .int .i64 f.dp, .int .u8 f.wt]) rfl (by kernel_rfl) (fun _ _ _ h => h) S0 (Or.inl ⟨by rfl, by intro w' hSw; exact exec_getB (by rfl) (by rfl) hSw Try.underlying30 rfl (by rfl)⟩) ?_; (try simp only [Act.put, rA, rB, rC, rD, rE, rF])
  refine wpAnyG_take 1 (v := ?_) rfl (by kernel_rfl) (fun _ _ _ h => h) S0 (Or.inl ⟨by rfl, by intro w' hSw; go_simp; try with_reducible rfl⟩) ?_; (try simp only [Act.put, rA, rB, rC, rD, rE, rF])
  refine wpAnyG_take 2 (v := ?_) rfl (by kernel_rfl) (fun _ _ _ h => h) S0 (Or.inl ⟨by rfl, by intro w' hSw; go_simp; try with_reducible rfl⟩) ?_; (try simp only [Act.put, rA, rB, rC, rD, rE, rF])
  refine wpAnyG_take 3 (v := ?_) rfl (by kernel_rfl) (fun _ _ _ h => h) S0 (Or.inl ⟨by rfl, by intro w' hSw; have z3 := hSw.at 3 rfl; go_simp; try with_reducible rfl⟩) ?_; (try simp only [Act.put, rA, rB, rC, rD, rE, rF])
  clear S0
  refine wpAnyG_one 4 (by kernel_rfl) rfl (fun K hK => ?_)
  have sb : w.heap.size + 1 ≤ _ := q.lt
  refine step_app _ rfl (.tmp 8) (.tmp 10) rfl (w.heap.size + 1) B m d (rankL f.al f.dp f.wt) rfl m1 A n c f.da rfl h1 (by omega) sb ?_
  intro B3 d3 w9 m3 hb _
  replace q := q.belowB hb (Nat.lt_succ_self _)
  replace gr := gr.stepB hb (Nat.le_succ _)
  clear hb sb
  refine hK.out _ _ (fun _ => q) ?_
  clear hK K
  (try simp only [Act.put, rA, rB, rC, rD, rE, rF])
  refine wpAnyG_one 5 (by kernel_rfl) rfl (fun K hK => ?_)
  rw [if_pos (by rfl)]
  go_simp
  (go_at_call 66; (with_reducible refine (HP.out _ B3 (m + n) d3 (rankL f.al f.dp f.wt ++ f.da) m3 (Nat.succ_le_of_lt q.lt) (by omega)).mono ?_); rintro e w9 ⟨B2, m2, d2, rfl, m2h, hb⟩)
  replace gr := gr.below hb
  replace q := q.below hb
  clear hb
  (try go_simp)
  refine hK.out _ _ (fun _ => q) ?_
  clear hK K
  (try simp only [Act.put, rA, rB, rC, rD, rE, rF])
  have S0 := q
  refine wpAnyG_take 6 (v := ?_) rfl (by kernel_rfl) (fun _ _ _ h => h) S0 (Or.inl ⟨by rfl, by intro w' hSw; go_simp; try with_reducible rfl⟩) ?_; (try simp only [Act.put, rA, rB, rC, rD, rE, rF])
  clear S0
  refine wpAnyG_done (by kernel_rfl) ?_ _
  go_wp2
  go_ret
  exact ⟨_, _, _, rfl, m2h.base_le (Nat.le_succ _), gr.out⟩
theorem cutA_zero (A : Option Addr) (c : Nat) : cutA A c 0 = A := by
  unfold cutA
  split
  · rfl
  · cases A with
    | none => rfl
    | some a => simp [Addr.add]
theorem fGrow0 (w : World) : Calls Try.prog 105 #[.slice none 0 0, .int .i64 0] w (Ret (.slice none 0 0) w) := by
  go_enter Try.func105, Try.ntmps105
  go_wp2
  go_ret
  exact ⟨rfl, rfl⟩
set_option maxRecDepth 100000 in
set_option maxHeartbeats 1000000 in
theorem fGrowN (k : Nat) (hk : 0 < k) (hk2 : k ≤ 1000000) (w : World) : Calls Try.prog 105 #[.slice none 0 0, .int .i64 k] w fun e W' => ∃ A c, e = .returned (.slice A 0 c) ∧ Mine w.heap.size W' A 0 c [] ∧ Below w.heap.size w W' := by
  have e1 : decide ((k : Int) < 0) = false := by simp
  have e2 : decide (0 < k) = true := by simpa using hk
  have e3 : wrap64 (k : Int) = k := by unfold wrap64; omega
  have e4 : IntKind.i64.wrap (k : Int) = k := by rw [IntKind.wrap_i64]; omega
  have HC : ∀ (w : World) (A : Option Addr) (n c : Nat), (Instr.slice 24 (.slice A n c) none (some (.int .i64 0)) none).run Try.prog w = .ok (.slice A 0 c) w := fun w A n c => by
    have := run_cut_h w A n c 0 (by decide) (by omega)
    rwa [cutA_zero] at this
  clear hk
  go_enter Try.func105, Try.ntmps105
  go_wp2_with (at_builtin; go_must (refine wpList_appZ _ rfl (.tmp 20) (.tmp 21) rfl w.heap.size none 0 0 [] rfl (Mine.nil _ _) k rfl (by omega) (Nat.le_refl _) ?_); intro A c w9 m1 hb)
  go_ret
  exact ⟨_, _, rfl, by simpa using m1.init (Nat.zero_le _), hb⟩
theorem fGrow (k : Nat) (hk2 : k ≤ 1000000) (w : World) : Calls Try.prog 105 #[.slice none 0 0, .int .i64 k] w fun e W' => ∃ A c, e = .returned (.slice A 0 c) ∧ Mine w.heap.size W' A 0 c [] ∧ Below w.heap.size w W' := by
  rcases Nat.eq_zero_or_pos k with rfl | h
  · refine (fGrow0 w).mono ?_
    rintro e w' ⟨rfl, rfl⟩
    exact ⟨_, _, rfl, Mine.nil _ _, Below.refl _ _⟩
  · exact fGrowN k h hk2 w
set_option maxRecDepth 100000 in
set_option maxHeartbeats 2000000 in
theorem fConcat3 (g : Nat) (A1 : Option Addr) (n1 c1 : Nat) (l1 : List Int) (A2 : Option Addr) (n2 c2 : Nat) (l2 : List Int) (A3 : Option Addr) (n3 c3 : Nat) (l3 : List Int) (w : World) (q : Blk w g 24 #[.slice A1 n1 c1, .slice A2 n2 c2, .slice A3 n3 c3]) (h1 : Byt w A1 n1 c1 l1) (h2 : Byt w A2 n2 c2 l2) (h3 : Byt w A3 n3 c3 l3) (hs : n1 + n2 + n3 ≤ 900000) :
    Calls Try.prog 85 #[.slice (some ⟨g, 0, none⟩) 3 3] w (SlP (l1 ++ l2 ++ l3) w) := by
  have hl1 := h1.len
  have hl2 := h2.len
  have hl3 := h3.len
  have HG := Lib.hid fun w => fGrow (n1 + n2 + n3) (by omega) w
  rw [Int.natCast_add, Int.natCast_add] at HG
  have z0 := q.at 0 rfl
  have z1 := q.at 1 rfl
  have z2 := q.at 2 rfl
  have e1 : wrap64 (n1 : Int) = n1 := by unfold wrap64; omega
  have e2 : wrap64 ((n1 : Int) + n2) = n1 + n2 := by unfold wrap64; omega
  have e3 : wrap64 ((n1 : Int) + n2 + n3) = n1 + n2 + n3 := by unfold wrap64; omega
  have d2 : decide ((n1 : Int) + n2 < 0) = false := by simp; omega
  have d3 : decide ((n1 : Int) + n2 + n3 < 0) = false := by simp; omega
  have H1 := Lib.hid h1
  have H2 := Lib.hid h2
  have H3 := Lib.hid h3
  have HS := Lib.hid hs
  have HL := Lib.hid (And.intro hl1 (And.intro hl2 hl3))
  clear h1 h2 h3 hs hl1 hl2 hl3
  go_enter Try.func85, Try.ntmps85
  go_wp2_with fail
  refine wp_loop_rounds 4 ?_
  rw [rounds_succ]; go_wp2_with fail
  rw [rounds_succ]; go_wp2_with fail
  rw [rounds_succ]; go_wp2_with fail
  rw [rounds_succ]; go_wp2_with fail
  refine (HG.out _).mono ?_
  rintro e w4 ⟨A, c, rfl, m4, b4⟩
  have q4 := q.below b4
  have sz4 := b4.size
  clear z0 z1 z2 e1 e2 e3 d2 d3
  have z0 := q4.at 0 rfl
  go_wp2_with fail
  refine wp_loop_rounds 4 ?_
  rw [rounds_succ]
  go_wp2_with (at_builtin; go_must (refine wpList_app _ rfl (.tmp 31) (.tmp 32) rfl w.heap.size A 0 c [] rfl m4 A1 n1 c1 l1 rfl (H1.out.below b4) (by have := HL.out; have := HS.out; simp; omega) sz4 ?_); intro A5 c5 w5 m5 hb5 _ _; have b5 := b4.trans hb5; clear hb5; simp only [Nat.zero_add, List.nil_append] at m5; have q5 := q.below b5; have z5 := q5.at 1 rfl)
  rw [rounds_succ]
  go_wp2_with (at_builtin; go_must (refine wpList_app _ rfl (.tmp 31) (.tmp 32) rfl w.heap.size A5 n1 c5 l1 rfl m5 A2 n2 c2 l2 rfl (H2.out.below b5) (by have := HL.out; have := HS.out; omega) b5.size ?_); intro A6 c6 w6 m6 hb6 _ _; have b6 := b5.trans hb6; clear hb6; have q6 := q.below b6; have z6 := q6.at 2 rfl)
  rw [rounds_succ]
  go_wp2_with (at_builtin; go_must (refine wpList_app _ rfl (.tmp 31) (.tmp 32) rfl w.heap.size A6 (n1 + n2) c6 (l1 ++ l2) rfl m6 A3 n3 c3 l3 rfl (H3.out.below b6) (by have := HL.out; have := HS.out; rw [List.length_append]; omega) b6.size ?_); intro A7 c7 w7 m7 hb7 _ _; have b7 := b6.trans hb7; clear hb7)
  rw [rounds_succ]; go_wp2_with fail
  go_ret
  exact ⟨_, _, _, rfl, m7, b7⟩
set_option maxRecDepth 100000 in
set_option maxHeartbeats 1000000 in
theorem fGoaway2 (f : Fm) (hf : FmOk f) (A : Option Addr) (n c : Nat) (P : Option Addr) (pn pc : Nat) (w : World) (h : Byt w A n c f.da) (hn : n ≤ 90000) : Calls Try.prog 84 #[.agg #[.int .u8 (f).kd, .int .u8 (f).fl, .int .i64 (f).st, .slice A n c, .int .i64 (f).pd, .int .i64 (f).la, .int .i64 (f).ic, .int .u32 (f).cd, .slice P pn pc, .bool (f).rk, .bool (f).al, .int .i64 (f).dp, .int .u8 (f).wt]] w (SlP (putO f.la 4 ++ putO f.cd 4 ++ f.da) w) := by
  have hla := hf.la
  have hcd := hf.cd
  have hw : IntKind.i64.wrap f.cd = f.cd := by rw [IntKind.wrap_i64]; omega
  have HF1 := Lib.hid fun w => fFour f.la w (by omega)
  have HF2 := Lib.hid fun w => fFour f.cd w (by omega)
  have ln1 := putO_len f.la
  have ln2 := putO_len f.cd
  clear hf hla hcd
  have gr := (Bel.refl w).alloc (.cells #[.int .u8 (f).kd, .int .u8 (f).fl, .int .i64 (f).st, .slice A n c, .int .i64 (f).pd, .int .i64 (f).la, .int .i64 (f).ic, .int .u32 (f).cd, .slice P pn pc, .bool (f).rk, .bool (f).al, .int .i64 (f).dp, .int .u8 (f).wt] 30)
  have q := Blk.new w 30 #[.int .u8 (f).kd, .int .u8 (f).fl, .int .i64 (f).st, .slice A n c, .int .i64 (f).pd, .int .i64 (f).la, .int .i64 (f).ic, .int .u32 (f).cd, .slice P pn pc, .bool (f).rk, .bool (f).al, .int .i64 (f).dp, .int .u8 (f).wt]
  have h1 := (h.alloc (.cells #[.int .u8 (f).kd, .int .u8 (f).fl, .int .i64 (f).st, .slice A n c, .int .i64 (f).pd, .int .i64 (f).la, .int .i64 (f).ic, .int .u32 (f).cd, .slice P pn pc, .bool (f).rk, .bool (f).al, .int .i64 (f).dp, .int .u8 (f).wt] 30)).drew
  have hl := h.len
  clear h
  go_enter Try.func84, Try.ntmps84
  go_wp2_with fail
  replace q := q.drew
  replace gr := gr.drew
  refine wp_region_G (fun w' => Blk w' w.heap.size 30 #[.int .u8 (f).kd, .int .u8 (f).fl, .int .i64 (f).st, .slice A n c, .int .i64 (f).pd, .int .i64 (f).la, .int .i64 (f).ic, .int .u32 (f).cd, .slice P pn pc, .bool (f).rk, .bool (f).al, .int .i64 (f).dp, .int .u8 (f).wt]) [] (by kernel_rfl) ?_
  have S0 := q
  refine wpAnyG_take 0 (v := ?_) rfl (by kernel_rfl) (fun _ _ _ h => h) S0 (Or.inl ⟨by rfl, by intro w' hSw; go_simp; try with_reducible rfl⟩) ?_; (try simp only [Act.put, rA, rB, rC, rD, rE, rF])
  refine wpAnyG_take 1 (v := ?_) rfl (by kernel_rfl) (fun _ _ _ h => h) S0 (Or.inl ⟨by rfl, by intro w' hSw; have z5 := hSw.at 5 rfl; go_simp; try with_reducible rfl⟩) ?_; (try simp only [Act.put, rA, rB, rC, rD, rE, rF])
  refine wpAnyG_take 3 (v := ?_) rfl (by kernel_rfl) (fun _ _ _ h => h) S0 (Or.inl ⟨by rfl, by intro w' hSw; go_simp; try with_reducible rfl⟩) ?_; (try simp only [Act.put, rA, rB, rC, rD, rE, rF])
  refine wpAnyG_take 4 (v := ?_) rfl (by kernel_rfl) (fun _ _ _ h => h) S0 (Or.inl ⟨by rfl, by intro w' hSw; have z7 := hSw.at 7 rfl; go_simp; try with_reducible rfl⟩) ?_; (try simp only [Act.put, rA, rB, rC, rD, rE, rF])
  refine wpAnyG_take 5 (v := ?_) rfl (by kernel_rfl) (fun _ _ _ h => h) S0 (Or.inl ⟨by rfl, by intro w' hSw; go_simp; try with_reducible rfl⟩) ?_; (try simp only [Act.put, rA, rB, rC, rD, rE, rF])
  refine wpAnyG_take 7 (v := ?_) rfl (by kernel_rfl) (fun _ _ _ h => h) S0 (Or.inl ⟨by rfl, by intro w' hSw; go_simp; try with_reducible rfl⟩) ?_; (try simp only [Act.put, rA, rB, rC, rD, rE, rF])
  refine wpAnyG_take 8 (v := ?_) rfl (by kernel_rfl) (fun _ _ _ h => h) S0 (Or.inl ⟨by rfl, by intro w' hSw; have z3 := hSw.at 3 rfl; go_simp; try with_reducible rfl⟩) ?_; (try simp only [Act.put, rA, rB, rC, rD, rE, rF])
  clear S0
  refine wpAnyG_one 2 (by kernel_rfl) rfl (fun K hK => ?_)
  rw [if_pos (by rfl)]
  go_simp
  (go_at_call 75; (with_reducible refine (HF1.out _).mono ?_); rintro e w9 ⟨B1, m1, d1, rfl, k1, hb⟩)
  have sz := gr.out.size
  replace gr := gr.below hb
  replace q := q.below hb
  replace h1 := h1.below hb
  replace k1 := k1.base_le (b := w.heap.size + 1) (by simp)
  clear hb
  (try go_simp)
  refine hK.out _ _ (fun _ => q) ?_
  clear hK K
  (try simp only [Act.put, rA, rB, rC, rD, rE, rF])
  refine wpAnyG_one 6 (by kernel_rfl) rfl (fun K hK => ?_)
  rw [if_pos (by rfl)]
  go_simp
  (go_at_call 75; (with_reducible refine (HF2.out _).mono ?_); rintro e w9 ⟨B2, m2, d2, rfl, k2, hb⟩)
  have sz2 := q.lt
  replace gr := gr.below hb
  replace q := q.below hb
  replace h1 := h1.below hb
  replace k1 := k1.below hb
  replace k2 := k2.base_le (b := w.heap.size + 1) (Nat.succ_le_of_lt sz2)
  clear hb
  (try go_simp)
  refine hK.out _ _ (fun _ => q) ?_
  clear hK K
  (try simp only [Act.put, rA, rB, rC, rD, rE, rF])
  refine wpAnyG_one 9 (by kernel_rfl) rfl (fun K hK => ?_)
  rw [if_pos (by rfl)]
  go_simp
  have qs := Blk.new w9 24 #[.slice B1 m1 d1, .slice B2 m2 d2, .slice A n c]
  replace gr := gr.alloc (.cells #[.slice B1 m1 d1, .slice B2 m2 d2, .slice A n c] 24)
  replace q := q.alloc (.cells #[.slice B1 m1 d1, .slice B2 m2 d2, .slice A n c] 24)
  replace h1 := h1.alloc (.cells #[.slice B1 m1 d1, .slice B2 m2 d2, .slice A n c] 24)
  replace k1 := k1.alloc (.cells #[.slice B1 m1 d1, .slice B2 m2 d2, .slice A n c] 24)
  replace k2 := k2.alloc (.cells #[.slice B1 m1 d1, .slice B2 m2 d2, .slice A n c] 24)
  refine hK.out _ _ (fun _ => q) ?_
  clear hK K
  (try simp only [Act.put, rA, rB, rC, rD, rE, rF])
  refine wpAnyG_one 10 (by kernel_rfl) rfl (fun K hK => ?_)
  rw [if_pos (by rfl)]
  go_simp
  (go_at_call 85; (with_reducible refine (fConcat3 _ B1 m1 d1 _ B2 m2 d2 _ A n c _ _ qs k1.byt k2.byt h1 (by have := k1.len; have := k2.len; omega)).mono ?_); rintro e w9 ⟨B3, m3, d3, rfl, k3, hb⟩)
  have sz3 := gr.out.size
  replace gr := gr.below hb
  replace q := q.below hb
  clear hb
  (try go_simp)
  refine hK.out _ _ (fun _ => q) ?_
  clear hK K
  (try simp only [Act.put, rA, rB, rC, rD, rE, rF])
  have S0 := q
  refine wpAnyG_take 11 (v := ?_) rfl (by kernel_rfl) (fun _ _ _ h => h) S0 (Or.inl ⟨by rfl, by intro w' hSw; go_simp; try with_reducible rfl⟩) ?_; (try simp only [Act.put, rA, rB, rC, rD, rE, rF])
  clear S0
  refine wpAnyG_done (by kernel_rfl) ?_ _
  go_wp2
  go_ret
  exact ⟨_, _, _, rfl, k3.base_le sz3, gr.out⟩
end Go.Proofs.Ytnjnpnjjpodnnaa
