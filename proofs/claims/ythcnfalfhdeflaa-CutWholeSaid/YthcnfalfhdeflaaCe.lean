/- The iterator over the frames of bytes: the contract of its closure. -/
import Derived.Test.YthcnfalfhdeflaaCd
import Derived.Test.YthcnfalfhdeflaaT
import Derived.Test.YthcnfalfhdeflaaV
import Derived.Test.YthcnfalfhdeflaaRe
namespace Go.Proofs.Ythcnfalfhdeflaa
open Go.RowKit Go.Shelf
attribute [local go_sem] Oper.semAt_some
set_option linter.unusedVariables false
set_option linter.unusedSimpArgs false

/-- What is yielded: a frame, what is behind it, where both lie. -/
structure It where
  p : Pc
  r : List Int
  A : Option Addr
  c : Nat
  B : Option Addr
  d : Nat
def itE (x : It) : Pe := ⟨x.p, x.A, x.c⟩
def itV (x : It) : Array Value := #[.agg #[.int .i64 x.p.L, .int .u8 x.p.k, .int .u8 x.p.f, .int .i64 x.p.s, .slice x.A x.p.d.length x.c], .slice x.B x.r.length x.d]
def itP (x : It) : Pc × List Int := (x.p, x.r)
/-- What holds of an item when it is yielded. -/
def ItE (base bb : Nat) (x : It) (W : World) : Prop := PcOk x.p ∧ Mine base W x.A x.p.d.length x.c x.p.d ∧ Byt W x.B x.r.length x.d x.r ∧ (∀ b o, x.B = some ⟨b, o, none⟩ → b = bb) ∧ (16384 < x.p.L → x.B = none ∧ x.d = 0 ∧ x.r = [])
def lenAt (b : Nat) (W : World) : Nat := match W.cell? ⟨b, 0, none⟩ with | some (.slice _ n _) => n | _ => 0
/-- What the iterator wants kept. -/
def KW (Ba bb : Nat) (W W' : World) : Prop := KB Ba 22 W W' ∧ W.heap.size ≤ W'.heap.size ∧ W'.heap[bb]? = W.heap[bb]?
theorem KW.trans {Ba bb : Nat} {X Y Z : World} (h : KW Ba bb X Y) (k : KW Ba bb Y Z) : KW Ba bb X Z := ⟨KB.trans h.1 k.1, Nat.le_trans h.2.1 k.2.1, k.2.2.trans h.2.2⟩
theorem KW.byt {Ba bb : Nat} {W W' : World} (h : KW Ba bb W W') {A : Option Addr} {n c : Nat} {l : List Int} (hy : Byt W A n c l) (hf : ∀ b o, A = some ⟨b, o, none⟩ → b = bb) : Byt W' A n c l :=
  ⟨hy.len, hy.cap, hy.mx, hy.nn, hy.bs, fun hn => by
    obtain ⟨b, q, e, hlt, hcell⟩ := hy.cell hn
    have := hf b q e
    subst this
    exact ⟨b, q, e, Nat.lt_of_lt_of_le hlt h.2.1, fun i hi => (World.cell?_of_block h.2.2).trans (hcell i hi)⟩⟩
theorem exec_build {P : Program} {a : Act} {W : World} {o : Oper} {ty : TypeId} {parts : Array (Nat × Operand)} {ps : Array (Nat × Value)} {cells : Array Value} (ho : o.op = .build ty parts) (hp : parts.map (fun (i, x) => (i, a.eval x)) = ps) (h : P.built ty ps.toList = some cells) :
    (execOp a.eval o).run P W = .ok (.value (.agg cells)) W := by
  unfold execOp
  simp only [ho, hp, Sem.run_bind, run_build W ty ps cells h, Result.andThen_ok, Sem.run_pure]
theorem wpIn_cutR {F : Fence} {n : Nat} {P : Program} {code : Code} {Q : Exit → Act → World → Prop} {a : Act} {w : World} (R : Act → Act → World → Prop)
    (h : code.wpIn F n P (fun e a' w' => e = .normal ∧ R a a' w') a w) (k : ∀ a' w', R a a' w' → Q .normal a' w') : code.wpIn F n P Q a w :=
  wpIn_mono h (fun e a' w' h => by obtain ⟨rfl, hr⟩ := h; exact k a' w' hr)

set_option maxRecDepth 100000 in
set_option maxHeartbeats 6000000 in
theorem whole1_in (n : Nat) (hn : 1 ≤ n) (l Ba : Nat) (A : Option Addr) (m c : Nat) (bs : List Int) (hm : m ≤ 100000) (bb base : Nat) (hne : bb ≠ Ba)
    (J Jx : List It → World → Prop)
    (hJb : ∀ pre X Y, J pre X → Below X.heap.size X Y → J pre Y)
    (hJp : ∀ pre W v, J pre W → J pre (W.setCell ⟨Ba, 0, none⟩ v))
    (hfar : ∀ b o, A = some ⟨b, o, none⟩ → b = bb)
    (hY : ∀ pre x W, J pre W → ItE base bb x W → pre.length < m + 1 → YieldAt Fence.wide (n - 1) Try.prog l (itV x) W fun e W' =>
      (e = .returned (.bool true) ∧ J (pre ++ [x]) W' ∧ KW Ba bb W W') ∨ (e = .returned (.bool false) ∧ Jx (pre ++ [x]) W'))
    (W : World) (hb0 : base ≤ W.heap.size) (hca : Boxed W Ba 22 (.slice A m c)) (hby : Byt W A m c bs) (h0 : J [] W) :
    CallsIn Fence.wide n Try.prog 30 #[.func (.yield l) #[] #[], .pointer (some ⟨Ba, 0, none⟩)] W fun e W' => (∃ v, e = .returned v) ∧
      ((∃ ys : List It, ys.map itP = seqs bs.length bs ∧ J ys W') ∨ (∃ pre : List It, (∃ r, pre.map itP ++ r = seqs bs.length bs) ∧ Jx pre W')) := by
  have hl := hby.len
  refine callsIn_of_wp Try.func30 rfl trivial ?_ rfl
  simp only [Try.ntmps30, List.size_toArray, List.length_cons, List.length_nil, Nat.reduceAdd, Nat.reduceSub, Array.replicate_succ, Array.replicate_zero, List.push_toArray, List.append_toArray, List.nil_append, List.cons_append]
  gi_wp2
  gi_loopw [4] (fun _ wr => ∃ (pre : List It) (k : Nat) (b : List Int) (Ak : Option Addr) (r ck : Nat), pre.map itP ++ seqs k b = seqs bs.length bs ∧ b.length ≤ k ∧ r ≤ m ∧ base ≤ wr.heap.size ∧ J pre wr ∧ Boxed wr Ba 22 (.slice Ak r ck) ∧ Byt wr Ak r ck b ∧ (∀ b o, Ak = some ⟨b, o, none⟩ → b = bb))
    (fun _ wr => lenAt Ba wr)
  case atStart => exact ⟨[], bs.length, bs, A, m, c, by simp, Nat.le_refl _, Nat.le_refl _, hb0, h0, hca, hby, hfar⟩
  case round =>
    obtain ⟨pre, k, b, Ak, r, ck, hseq, hk, hrm, hbs, hJ, hbx, hby, hfk⟩ := hrel
    have hbl := hby.len
    have hcp := hby.cap
    have hmx := hby.mx
    have F1 := Lib.hid (fFirst Ak r ck b wr hby (by omega))
    have hck := hbx.cell
    have HBX := Lib.hid hbx
    have HBY := Lib.hid hby
    have HSQ := Lib.hid hseq
    have HBL := Lib.hid hbl
    have hml := hl
    clear hseq hbx hby hbl hl
    have hLb := hL_bd HBY.out.bs
    unfold HdP at F1
    have hkb := (pcOf_ok HBY.out.bs).k
    have hfb := (pcOf_ok HBY.out.bs).f
    by_cases hlong : LongB b
    · as_aux_lemma =>
        obtain ⟨LN, hLN⟩ : ∃ LN : Nat, hL b = LN := ⟨(hL b).toNat, by omega⟩
        have HLN := Lib.hid hLN
        rw [hLN] at F1
        have hsq := Lib.hid (seqs_long (k := k) hlong hk)
        have hok : hOk b = true := decide_eq_true hlong.1
        have g0 : decide ((LN : Int) ≤ 16384) = false := decide_eq_false (by have := hlong.2; omega)
        have g1 : decide ((16384 : Int) < LN) = true := decide_eq_true (by have := hlong.2; omega)
        have hpl : pre.length < m + 1 := by
          have h1 := congrArg List.length HSQ.out
          have h2 := seqs_len bs.length bs
          rw [hml] at h2
          simp only [List.length_append, List.length_map] at h1
          have h3 : 0 < (seqs k b).length := by rw [hsq.out]; simp
          rw [hml] at h1
          omega
        clear hLN hLb hlong
        gi_wp2_with fail
        refine ⟨trivial, (callsIn_wide.2 F1.out).mono ?_⟩
        rintro e w1 ⟨rfl, hb⟩
        have q3 := Blk.new w1 41 #[.int .i64 LN, .int .u8 (hK b), .int .u8 (hF b), .int .i64 (hS b)]
        have hba := hb.alloc hb.size (.cells #[.int .i64 LN, .int .u8 (hK b), .int .u8 (hF b), .int .i64 (hS b)] 41)
        have hbx := Blk.below (show Blk wr Ba 22 #[.slice Ak r ck] from HBX.out) hba
        have x0 := q3.at 0 rfl
        have x1 := hbx.at 0 rfl
        obtain ⟨fn, tmps, assign, body, hyy, hR⟩ : YieldAt Fence.wide (n - 1) Try.prog l #[.agg #[.int .i64 LN, .int .u8 (hK b), .int .u8 (hF b), .int .i64 (hS b), .slice none 0 0], .slice none 0 0] (w1.alloc (.cells #[.int .i64 LN, .int .u8 (hK b), .int .u8 (hF b), .int .i64 (hS b)] 41)) _ := by
          have := hY pre ⟨pcLong b, [], none, 0, none, 0⟩ _ (hJb _ _ _ hJ hba) ⟨pcLong_ok HBY.out.bs, Mine.nil _ _, Byt.nil _, (fun _ _ e => by cases e), fun _ => ⟨rfl, rfl, rfl⟩⟩ hpl
          simp only [itV, pcLong, HLN.out] at this
          exact this
        have x2 := q3.at 1 rfl; have x3 := q3.at 2 rfl; have x4 := q3.at 3 rfl
        gi_wp2
        refine hR.mono ?_
        rintro e W3 (⟨rfl, hJ3, hk3⟩ | ⟨rfl, hJx3⟩)
        · gi_wp2
          refine bodyPost_ret (results_none rfl _ _ _) rfl ?_
          exact ⟨⟨_, rfl⟩, .inl ⟨_, by rw [← HSQ.out, hsq.out]; simp [itP, pcLong, HLN.out], hJ3⟩⟩
        · gi_wp2
          refine bodyPost_ret (results_none rfl _ _ _) rfl ?_
          exact ⟨⟨_, rfl⟩, .inr ⟨_, ⟨[], by rw [← HSQ.out, hsq.out]; simp [itP, pcLong, HLN.out]⟩, hJx3⟩⟩
    by_cases hgo : GoesB b
    · as_aux_lemma =>
        obtain ⟨LN, hLN⟩ : ∃ LN : Nat, hL b = LN := ⟨(hL b).toNat, by omega⟩
        have HLN := Lib.hid hLN
        rw [hLN] at F1
        obtain ⟨k2, hk2, hkr, hsq0⟩ := seqs_go (k := k) hgo hk
        have hsq := Lib.hid hsq0
        have hok : hOk b = true := decide_eq_true hgo.1
        have hL1 : LN ≤ 16384 := by have := hgo.2.1; omega
        have hL2 : 9 + LN ≤ r := by have := hgo.2.2; have := HBL.out; omega
        have g0 : decide ((LN : Int) ≤ 16384) = true := decide_eq_true (by omega)
        have g1 : decide ((16384 : Int) < LN) = false := decide_eq_false (by omega)
        have g2 : decide ((r : Int) - 9 < LN) = false := decide_eq_false (by omega)
        have hpl : pre.length < m + 1 := by
          have h1 := congrArg List.length HSQ.out
          have h2 := seqs_len bs.length bs
          rw [hml] at h2
          simp only [List.length_append, List.length_map] at h1
          have h3 : 0 < (seqs k b).length := by rw [hsq.out]; simp
          rw [hml] at h1
          omega
        clear hLN hLb hgo hlong hsq0 hk
        gi_wp2_with fail
        refine ⟨trivial, (callsIn_wide.2 F1.out).mono ?_⟩
        rintro e w1 ⟨rfl, hb⟩
        have q3 := Blk.new w1 41 #[.int .i64 LN, .int .u8 (hK b), .int .u8 (hF b), .int .i64 (hS b)]
        have hba := hb.alloc hb.size (.cells #[.int .i64 LN, .int .u8 (hK b), .int .u8 (hF b), .int .i64 (hS b)] 41)
        have hbx := Blk.below (show Blk wr Ba 22 #[.slice Ak r ck] from HBX.out) hba
        have x0 := q3.at 0 rfl
        have x1 := hbx.at 0 rfl
        have hw : IntKind.i64.wrap (9 + (LN : Int)) = 9 + LN := by rw [IntKind.wrap_i64]; omega
        have hcut : ∀ w, (Instr.slice 22 (.slice Ak r ck) (some (.int .i64 9)) (some (.int .i64 (9 + (LN : Int)))) none).run Try.prog w = .ok (.slice (cutA Ak ck 9) LN (ck - 9)) w := fun w => by
          have h1 := run_cut_lh w Ak r ck 9 (9 + LN) (by omega) (by omega) (by omega)
          rwa [show (9 + (LN : Int)).toNat - (9 : Int).toNat = LN by omega, show (9 : Int).toNat = 9 by rfl] at h1
        have hcl : ∀ w, (Instr.slice 22 (.slice Ak r ck) (some (.int .i64 (9 + (LN : Int)))) none none).run Try.prog w = .ok (.slice (cutA Ak ck (9 + LN)) (r - (9 + LN)) (ck - (9 + LN))) w := fun w => by
          have h1 := run_cut_l w Ak r ck (9 + LN) (by omega) (by omega)
          rwa [show (9 + (LN : Int)).toNat = 9 + LN by omega] at h1
        gi_wp2_with fail
        generalize hg3 : w1.heap.size = g3 at *
        have hy1 := HBY.out.below hba
        have hwr : wr.heap.size ≤ (w1.alloc (.cells #[.int .i64 LN, .int .u8 (hK b), .int .u8 (hF b), .int .i64 (hS b)] 41)).heap.size := hba.size
        generalize w1.alloc (.cells #[.int .i64 LN, .int .u8 (hK b), .int .u8 (hF b), .int .i64 (hS b)] 41) = wy at *
        have CL : Hid (∀ w2, Below wy.heap.size wy w2 → Calls Try.prog 23 #[.slice (cutA Ak ck 9) LN (ck - 9)] w2 fun e w' => ∃ A' c', e = .returned (.slice A' LN c') ∧ Mine w2.heap.size w' A' LN c' ((b.drop 9).take LN) ∧ Below w2.heap.size w2 w') := Lib.hid fun w2 hw => by
          have := (hy1.below hw).cut (lo := 9) (hi := 9 + LN) (by omega) hL2
          rw [Nat.add_sub_cancel_left, List.drop_take, Nat.add_sub_cancel_left] at this
          exact fClone _ _ _ _ _ this (by omega)
        refine wpIn_cutR (fun a a' w' => ∃ g5 v33 v34 v35 v36 v37 v38 v39 v40 A1 c1, a' = (((((((((a.put (some 33) v33).put (some 34) v34).put (some 35) v35).put (some 36) v36).put (some 37) v37).put (some 38) v38).put (some 39) v39).put (some 40) v40).put (some 5) (.pointer (some ⟨g5, 0, none⟩))) ∧ Blk w' g5 43 #[.int .i64 LN, .int .u8 (hK b), .int .u8 (hF b), .int .i64 (hS b), .slice A1 LN c1] ∧ Mine base w' A1 LN c1 ((b.drop 9).take LN) ∧ Below wy.heap.size wy w' ∧ wy.heap.size ≤ g5) ?reg ?rest
        case reg =>
          as_aux_lemma =>
            have bw := (Bel.refl wy).drew
            have hbase2 : base ≤ wy.heap.size := Nat.le_trans hbs hwr
            refine wpIn_region_GW (fun w' => Blk w' g3 41 #[.int .i64 LN, .int .u8 (hK b), .int .u8 (hF b), .int .i64 (hS b)] ∧ Blk w' Ba 22 #[.slice Ak r ck]) [] (by kernel_rfl) (by kernel_rfl) (fun ⟨_, _, h⟩ => by cases h.1) ?_
            have S0 := (And.intro (q3.below bw.out) (hbx.below bw.out))
            refine wpAnyG_take 0 (v := .agg #[.int .i64 LN, .int .u8 (hK b), .int .u8 (hF b), .int .i64 (hS b)]) rfl (by kernel_rfl) (by intro _ _ _ h; cases h.1) S0 (Or.inl ⟨by rfl, by intro w' hSw; exact exec_getB (by rfl) (by rfl) hSw.1 Try.underlying41 (by rfl) (by rfl)⟩) ?_; (try simp only [Act.put, List.getElem_toArray, List.getElem_cons_succ, List.getElem_cons_zero, List.setIfInBounds_toArray, List.set_cons_zero, List.set_cons_succ])
            refine wpAnyG_take 1 (v := ?_) rfl (by kernel_rfl) (by intro _ _ _ h; cases h.1) S0 (Or.inl ⟨by rfl, by intro w' hSw; have z0 := hSw.1.at 0 rfl; have z1 := hSw.2.at 0 rfl; go_simp; try with_reducible rfl⟩) ?_; (try simp only [Act.put, List.getElem_toArray, List.getElem_cons_succ, List.getElem_cons_zero, List.setIfInBounds_toArray, List.set_cons_zero, List.set_cons_succ])
            refine wpAnyG_take 2 (v := ?_) rfl (by kernel_rfl) (by intro _ _ _ h; cases h.1) S0 (Or.inl ⟨by rfl, by intro w' hSw; have z0 := hSw.1.at 0 rfl; have z1 := hSw.2.at 0 rfl; go_simp; try with_reducible rfl⟩) ?_; (try simp only [Act.put, List.getElem_toArray, List.getElem_cons_succ, List.getElem_cons_zero, List.setIfInBounds_toArray, List.set_cons_zero, List.set_cons_succ])
            refine wpAnyG_take 3 (v := ?_) rfl (by kernel_rfl) (by intro _ _ _ h; cases h.1) S0 (Or.inl ⟨by rfl, by intro w' hSw; have z0 := hSw.1.at 0 rfl; have z1 := hSw.2.at 0 rfl; go_simp; try with_reducible rfl⟩) ?_; (try simp only [Act.put, List.getElem_toArray, List.getElem_cons_succ, List.getElem_cons_zero, List.setIfInBounds_toArray, List.set_cons_zero, List.set_cons_succ])
            refine wpAnyG_take 4 (v := ?_) rfl (by kernel_rfl) (by intro _ _ _ h; cases h.1) S0 (Or.inl ⟨by rfl, by intro w' hSw; have z0 := hSw.1.at 0 rfl; have z1 := hSw.2.at 0 rfl; go_simp; try with_reducible rfl⟩) ?_; (try simp only [Act.put, List.getElem_toArray, List.getElem_cons_succ, List.getElem_cons_zero, List.setIfInBounds_toArray, List.set_cons_zero, List.set_cons_succ])
            refine wpAnyG_take 5 (v := ?_) rfl (by kernel_rfl) (by intro _ _ _ h; cases h.1) S0 (Or.inl ⟨by rfl, by intro w' hSw; have z0 := hSw.1.at 0 rfl; have z1 := hSw.2.at 0 rfl; go_simp; try with_reducible rfl⟩) ?_; (try simp only [Act.put, List.getElem_toArray, List.getElem_cons_succ, List.getElem_cons_zero, List.setIfInBounds_toArray, List.set_cons_zero, List.set_cons_succ])
            clear S0
            refine wpAnyG_two 6 8 (by kernel_rfl) rfl rfl (fun K hK => ?_) (fun K hK => ?_)
            · rw [if_pos (by rfl)]
              go_simp
              (with_reducible refine (CL.out _ bw.out).mono ?_)
              rintro e wd ⟨A1, c1, rfl, m1, hb⟩
              replace m1 := m1.base_le (Nat.le_trans hbase2 bw.out.size)
              replace bw := bw.below hb
              clear hb
              (try go_simp)
              refine hK.out _ _ (fun _ => (And.intro (q3.below bw.out) (hbx.below bw.out))) ?_
              clear hK K
              (try simp only [Act.put, List.getElem_toArray, List.getElem_cons_succ, List.getElem_cons_zero, List.setIfInBounds_toArray, List.set_cons_zero, List.set_cons_succ])
              have S0 := (And.intro (q3.below bw.out) (hbx.below bw.out))
              refine wpAnyG_take 7 (v := .agg #[.int .i64 LN, .int .u8 (hK b), .int .u8 (hF b), .int .i64 (hS b), .slice A1 LN c1]) rfl (by kernel_rfl) (by intro _ _ _ h; cases h.1) S0 (Or.inl ⟨by rfl, by intro w' hSw; exact exec_build rfl rfl (by kernel_rfl)⟩) ?_; (try simp only [Act.put, List.getElem_toArray, List.getElem_cons_succ, List.getElem_cons_zero, List.setIfInBounds_toArray, List.set_cons_zero, List.set_cons_succ])
              clear S0
              refine wpAnyG_one 8 (by kernel_rfl) rfl (fun K hK => ?_)
              rw [if_pos (by rfl)]
              go_simp
              have h5 : wy.heap.size ≤ wd.heap.size := bw.out.size
              have q5 := Blk.new wd 43 #[.int .i64 0, .int .u8 0, .int .u8 0, .int .i64 0, .slice none 0 0]
              replace bw := bw.alloc (.cells #[.int .i64 0, .int .u8 0, .int .u8 0, .int .i64 0, .slice none 0 0] 43)
              replace m1 := m1.alloc (.cells #[.int .i64 0, .int .u8 0, .int .u8 0, .int .i64 0, .slice none 0 0] 43)
              (try go_simp)
              refine hK.out _ _ (fun _ => (And.intro (q3.below bw.out) (hbx.below bw.out))) ?_
              clear hK K
              (try simp only [Act.put, List.getElem_toArray, List.getElem_cons_succ, List.getElem_cons_zero, List.setIfInBounds_toArray, List.set_cons_zero, List.set_cons_succ])
              refine wpAnyG_one 9 (by kernel_rfl) rfl (fun K hK => ?_)
              rw [if_pos (by rfl)]
              refine wp_putB _ _ _ rfl rfl rfl q5 (by rfl) (by rfl) (by rfl) ?_
              intro w8 qn hg
              replace bw := bw.grown hg h5
              replace m1 := m1.grownB q5 (by decide) hg
              clear hg q5
              have q5 := qn
              clear qn
              (try go_simp)
              refine hK.out _ _ (fun _ => (And.intro (q3.below bw.out) (hbx.below bw.out))) ?_
              clear hK K
              (try simp only [Act.put, List.getElem_toArray, List.getElem_cons_succ, List.getElem_cons_zero, List.setIfInBounds_toArray, List.set_cons_zero, List.set_cons_succ])
              refine wpAnyG_done (by kernel_rfl) ⟨rfl, _, .agg #[.int .i64 LN, .int .u8 (hK b), .int .u8 (hF b), .int .i64 (hS b)], .slice Ak r ck, .pointer (some ⟨g3, 0, none⟩), .int .i64 LN, .int .i64 (9 + (LN : Int)), .slice (cutA Ak ck 9) LN (ck - 9), .slice A1 LN c1, .agg #[.int .i64 LN, .int .u8 (hK b), .int .u8 (hF b), .int .i64 (hS b), .slice A1 LN c1], A1, c1, ?_, q5, m1, bw.out, h5⟩ _
              (try simp only [Act.put, List.getElem_toArray, List.getElem_cons_succ, List.getElem_cons_zero, List.setIfInBounds_toArray, List.set_cons_zero, List.set_cons_succ])
            · rw [if_pos (by rfl)]
              go_simp
              have h5 : wy.heap.size ≤ wy.heap.size := Nat.le_refl _
              have q5 : Blk (wy.alloc (.cells #[.int .i64 0, .int .u8 0, .int .u8 0, .int .i64 0, .slice none 0 0] 43)).drew wy.heap.size 43 #[.int .i64 0, .int .u8 0, .int .u8 0, .int .i64 0, .slice none 0 0] := Blk.new wy 43 #[.int .i64 0, .int .u8 0, .int .u8 0, .int .i64 0, .slice none 0 0]
              replace bw : Bel wy (wy.alloc (.cells #[.int .i64 0, .int .u8 0, .int .u8 0, .int .i64 0, .slice none 0 0] 43)).drew := ⟨(bw.alloc (.cells #[.int .i64 0, .int .u8 0, .int .u8 0, .int .i64 0, .slice none 0 0] 43)).out⟩
              (try go_simp)
              refine hK.out _ _ (fun _ => (And.intro (q3.below bw.out) (hbx.below bw.out))) ?_
              clear hK K
              (try simp only [Act.put, List.getElem_toArray, List.getElem_cons_succ, List.getElem_cons_zero, List.setIfInBounds_toArray, List.set_cons_zero, List.set_cons_succ])
              refine wpAnyG_one 6 (by kernel_rfl) rfl (fun K hK => ?_)
              rw [if_pos (by rfl)]
              go_simp
              (with_reducible refine (CL.out _ bw.out).mono ?_)
              rintro e wd ⟨A1, c1, rfl, m1, hb⟩
              replace m1 := m1.base_le (Nat.le_trans hbase2 bw.out.size)
              replace bw := bw.below hb
              replace q5 := q5.below hb
              clear hb
              (try go_simp)
              refine hK.out _ _ (fun _ => (And.intro (q3.below bw.out) (hbx.below bw.out))) ?_
              clear hK K
              (try simp only [Act.put, List.getElem_toArray, List.getElem_cons_succ, List.getElem_cons_zero, List.setIfInBounds_toArray, List.set_cons_zero, List.set_cons_succ])
              have S0 := (And.intro (q3.below bw.out) (hbx.below bw.out))
              refine wpAnyG_take 7 (v := .agg #[.int .i64 LN, .int .u8 (hK b), .int .u8 (hF b), .int .i64 (hS b), .slice A1 LN c1]) rfl (by kernel_rfl) (by intro _ _ _ h; cases h.1) S0 (Or.inl ⟨by rfl, by intro w' hSw; exact exec_build rfl rfl (by kernel_rfl)⟩) ?_; (try simp only [Act.put, List.getElem_toArray, List.getElem_cons_succ, List.getElem_cons_zero, List.setIfInBounds_toArray, List.set_cons_zero, List.set_cons_succ])
              clear S0
              refine wpAnyG_one 9 (by kernel_rfl) rfl (fun K hK => ?_)
              rw [if_pos (by rfl)]
              refine wp_putB _ _ _ rfl rfl rfl q5 (by rfl) (by rfl) (by rfl) ?_
              intro w8 qn hg
              replace bw := bw.grown hg h5
              replace m1 := m1.grownB q5 (by decide) hg
              clear hg q5
              have q5 := qn
              clear qn
              (try go_simp)
              refine hK.out _ _ (fun _ => (And.intro (q3.below bw.out) (hbx.below bw.out))) ?_
              clear hK K
              (try simp only [Act.put, List.getElem_toArray, List.getElem_cons_succ, List.getElem_cons_zero, List.setIfInBounds_toArray, List.set_cons_zero, List.set_cons_succ])
              refine wpAnyG_done (by kernel_rfl) ⟨rfl, _, .agg #[.int .i64 LN, .int .u8 (hK b), .int .u8 (hF b), .int .i64 (hS b)], .slice Ak r ck, .pointer (some ⟨g3, 0, none⟩), .int .i64 LN, .int .i64 (9 + (LN : Int)), .slice (cutA Ak ck 9) LN (ck - 9), .slice A1 LN c1, .agg #[.int .i64 LN, .int .u8 (hK b), .int .u8 (hF b), .int .i64 (hS b), .slice A1 LN c1], A1, c1, ?_, q5, m1, bw.out, h5⟩ _
              (try simp only [Act.put, List.getElem_toArray, List.getElem_cons_succ, List.getElem_cons_zero, List.setIfInBounds_toArray, List.set_cons_zero, List.set_cons_succ])
        case rest =>
          as_aux_lemma =>
            rintro a5 w5 ⟨g5, v33, v34, v35, v36, v37, v38, v39, v40, A1, c1, rfl, q5, m1, hw5, hg5⟩
            (try simp only [Act.put, List.getElem_toArray, List.getElem_cons_succ, List.getElem_cons_zero, List.setIfInBounds_toArray, List.set_cons_zero, List.set_cons_succ])
            have hbx5 := hbx.below hw5
            have q35 := q3.below hw5
            have hBa := hbx.lt
            have hne5 : g5 ≠ Ba := by omega
            have z0 := q35.at 0 rfl; have z1 := hbx5.at 0 rfl; have zf := hbx5.frozen 0
            have q6 := q5.setFar (p := ⟨Ba, 0, none⟩) hne5 (.slice (cutA Ak ck (9 + LN)) (r - (9 + LN)) (ck - (9 + LN)))
            have hbx6 := hbx5.set 0 (.slice (cutA Ak ck (9 + LN)) (r - (9 + LN)) (ck - (9 + LN)))
            have y1 := hbx6.at 0 rfl
            have y2 := q6.at 0 rfl; have y3 := q6.at 1 rfl; have y4 := q6.at 2 rfl; have y5 := q6.at 3 rfl; have y6 := q6.at 4 rfl
            have hJ6 : J pre (w5.setCell ⟨Ba, 0, none⟩ (.slice (cutA Ak ck (9 + LN)) (r - (9 + LN)) (ck - (9 + LN)))) := hJp _ _ _ (hJb _ _ _ hJ (hba.trans (hw5.mono hwr)))
            have hLt : (hL b).toNat = LN := by have := HLN.out; omega
            have hdl : ((b.drop 9).take LN).length = LN := m1.len
            have hrl : (restOf b).length = r - (9 + LN) := by unfold restOf; rw [List.length_drop, hLt, HBL.out]
            have hcb : ∀ b o, cutA Ak ck (9 + LN) = some ⟨b, o, none⟩ → b = bb := fun b o e => by
              unfold cutA at e
              split at e
              · exact hfk b o e
              · obtain ⟨a', ha', he⟩ := Option.map_eq_some_iff.1 e
                obtain ⟨b', o', eA, _⟩ := HBY.out.cell (by omega)
                rw [eA] at ha'
                cases ha'
                rw [Go.WideShapes.add_plain] at he
                cases he
                exact hfk _ _ eA
            have hby6 : Byt (w5.setCell ⟨Ba, 0, none⟩ (.slice (cutA Ak ck (9 + LN)) (r - (9 + LN)) (ck - (9 + LN)))) (cutA Ak ck (9 + LN)) (r - (9 + LN)) (ck - (9 + LN)) (restOf b) := by
              have h1 := ((hy1.below hw5).cutL (lo := 9 + LN) hL2).far (p := ⟨Ba, 0, none⟩) (fun b o e => by rw [hcb b o e]; exact hne) (.slice (cutA Ak ck (9 + LN)) (r - (9 + LN)) (ck - (9 + LN)))
              unfold restOf
              rw [hLt]
              exact h1
            obtain ⟨fn, tmps, assign, body, hyy, hR⟩ : YieldAt Fence.wide (n - 1) Try.prog l #[.agg #[.int .i64 LN, .int .u8 (hK b), .int .u8 (hF b), .int .i64 (hS b), .slice A1 LN c1], (.slice (cutA Ak ck (9 + LN)) (r - (9 + LN)) (ck - (9 + LN)))] (w5.setCell ⟨Ba, 0, none⟩ (.slice (cutA Ak ck (9 + LN)) (r - (9 + LN)) (ck - (9 + LN)))) fun e W' => (e = .returned (.bool true) ∧ J (pre ++ [⟨pcOf b, restOf b, A1, c1, cutA Ak ck (9 + LN), ck - (9 + LN)⟩]) W' ∧ KW Ba bb (w5.setCell ⟨Ba, 0, none⟩ (.slice (cutA Ak ck (9 + LN)) (r - (9 + LN)) (ck - (9 + LN)))) W') ∨ (e = .returned (.bool false) ∧ Jx (pre ++ [⟨pcOf b, restOf b, A1, c1, cutA Ak ck (9 + LN), ck - (9 + LN)⟩]) W') := by
              have h1 := hY pre ⟨pcOf b, restOf b, A1, c1, cutA Ak ck (9 + LN), ck - (9 + LN)⟩ _ hJ6 ⟨pcOf_ok HBY.out.bs, by simp only [pcOf, hLt, hdl]; exact m1.farB hbx5 (by decide) 0 (.slice (cutA Ak ck (9 + LN)) (r - (9 + LN)) (ck - (9 + LN))), by rw [hrl]; exact hby6, hcb, fun h => absurd h (by show ¬ 16384 < hL b; rw [HLN.out]; omega)⟩ hpl
              simp only [itV, hrl] at h1
              simp only [pcOf, HLN.out, Int.toNat_natCast, hdl] at h1 ⊢
              exact h1
            have HB6 := Lib.hid hbx6
            have HY6 := Lib.hid hby6
            have HCB := Lib.hid hcb
            have HRL := Lib.hid hrl
            have hsz5 : base ≤ (w5.setCell ⟨Ba, 0, none⟩ (.slice (cutA Ak ck (9 + LN)) (r - (9 + LN)) (ck - (9 + LN)))).heap.size := by rw [World.size_setCell]; exact Nat.le_trans (Nat.le_trans hbs hwr) hw5.size
            clear hbx6 hby6 hcb hrl hdl hLt hJ6 hJ
            gi_wp2
            refine hR.mono ?_
            rintro e W3 (⟨rfl, hJ3, hk3⟩ | ⟨rfl, hJx3⟩)
            · gi_wp2
              have hb3 := hk3.1 _ HB6.out
              refine ⟨⟨_, k2, restOf b, cutA Ak ck (9 + LN), r - (9 + LN), ck - (9 + LN), by rw [← HSQ.out, hsq.out]; simp [itP], hkr, by omega, Nat.le_trans hsz5 hk3.2.1, hJ3, hb3, hk3.byt HY6.out HCB.out, HCB.out⟩, ?_⟩
              have e1 := hb3.cell
              unfold lenAt
              rw [e1, hck]
              simp only
              omega
            · gi_wp2
              refine bodyPost_ret (results_none rfl _ _ _) rfl ?_
              exact ⟨⟨_, rfl⟩, .inr ⟨_, ⟨seqs k2 (restOf b), by rw [← HSQ.out, hsq.out]; simp [itP]⟩, hJx3⟩⟩
    as_aux_lemma =>
      have hnil := Lib.hid (seqs_end (k := k) hgo hlong)
      have hend : hOk b = false ∨ (hOk b = true ∧ hL b ≤ 16384 ∧ (r : Int) - 9 < hL b) := by
        have h1 := HBL.out
        unfold hOk
        unfold LongB at hlong
        unfold GoesB at hgo
        by_cases h9 : 9 ≤ b.length
        · exact .inr ⟨decide_eq_true h9, by omega, by omega⟩
        · exact .inl (decide_eq_false h9)
      clear hLb hgo hlong
      gi_wp2_with fail
      refine ⟨trivial, (callsIn_wide.2 F1.out).mono ?_⟩
      rintro e w1 ⟨rfl, hb⟩
      have q3 := Blk.new w1 41 #[.int .i64 (hL b), .int .u8 (hK b), .int .u8 (hF b), .int .i64 (hS b)]
      have hba := hb.alloc hb.size (.cells #[.int .i64 (hL b), .int .u8 (hK b), .int .u8 (hF b), .int .i64 (hS b)] 41)
      have hbx := Blk.below (show Blk wr Ba 22 #[.slice Ak r ck] from HBX.out) hba
      have x0 := q3.at 0 rfl
      have x1 := hbx.at 0 rfl
      rcases hend with he | ⟨he, he2, he3⟩
      · gi_wp2
        all_goals first
          | (rename_i h1 h2; exact absurd h1 (by simp [undef]))
          | (refine bodyPost_ret (results_none rfl _ _ _) rfl ?_; exact ⟨⟨_, rfl⟩, .inl ⟨pre, by rw [← HSQ.out, hnil.out]; simp, hJb _ _ _ hJ hba⟩⟩)
      · have g1 : decide (hL b ≤ 16384) = true := decide_eq_true he2
        have g2 : decide ((r : Int) - 9 < hL b) = true := decide_eq_true he3
        gi_wp2
        refine bodyPost_ret (results_none rfl _ _ _) rfl ?_
        exact ⟨⟨_, rfl⟩, .inl ⟨pre, by rw [← HSQ.out, hnil.out]; simp, hJb _ _ _ hJ hba⟩⟩
theorem whole_stops (n : Nat) (hn : 1 ≤ n) (Ba : Nat) (A : Option Addr) (m c : Nat) (bs : List Int) (hm : m ≤ 100000) (bb base : Nat) (hne : bb ≠ Ba) (w : World) (h1 : Ba < w.heap.size) (hb0 : base ≤ w.heap.size)
    (hfar : ∀ b o, A = some ⟨b, o, none⟩ → b = bb) (hca : Boxed w Ba 22 (.slice A m c)) (hby : Byt w A m c bs) :
    SeqE (fun b => b = Ba) Fence.wide n Try.prog 30 #[.pointer (some ⟨Ba, 0, none⟩)] itV (KW Ba bb) (fun ys => ys.map itP = seqs bs.length bs) (fun pre => ∃ r, pre.map itP ++ r = seqs bs.length bs) (ItE base bb) (m + 1) w :=
  fun l J Jx W hW hJb hJp hY h0 =>
    whole1_in n hn l Ba A m c bs hm bb base hne J Jx hJb (hJp Ba rfl) hfar hY W (Nat.le_trans hb0 hW.size) ((hW.block Ba h1).trans hca) (hby.below hW) h0

theorem whole_in (n : Nat) (A : Option Addr) (m c : Nat) (w : World) :
    CallsIn Fence.wide n Try.prog 22 #[.slice A m c] w fun e w' => e = .returned (.func (.func 30) #[] #[.pointer (some ⟨w.heap.size, 0, none⟩)]) ∧ w' = w.alloc (.cells #[.slice A m c] 22) := by
  refine callsIn_of_wp Try.func22 rfl trivial ?_ rfl
  simp only [Try.ntmps22, List.size_toArray, List.length_cons, List.length_nil, Nat.reduceAdd, Nat.reduceSub, Array.replicate_succ, Array.replicate_zero, List.push_toArray, List.append_toArray, List.nil_append, List.cons_append]
  gi_wp2
  go_ret
  exact ⟨by simp, rfl⟩
end Go.Proofs.Ythcnfalfhdeflaa
