/- What is wrong with a frame's values. -/
import Derived.Test.YtnjnpnjjpodnnaaRGq
import Derived.Sort.CutIn
namespace Go.Proofs.Ytnjnpnjjpodnnaa
open Go.RowKit Go.Shelf
attribute [local go_sem] Oper.semAt_some
set_option linter.unusedVariables false
set_option linter.unusedSimpArgs false

section
variable {P : Program} {W : World} {ops : Array Oper} {rest : List Oper} {o : Oper} {a : Act} {Q : Exit → Act → World → Prop} {g i : Nat} {ty' : TypeId} {old cells : Array Value} {u v : Value} {ro : Option Nat} {nF : Nat}
theorem wpListIn_putB (hgd : o.guard = none) (ty : TypeId) (x y : Operand) (ho : o.op = .store ty x y) (hx : a.eval x = .pointer (some ⟨g, 0, none⟩)) (hy : a.eval y = .agg cells)
    (q : Blk W g ty' old) (hi : (P.info? ty).map (·.size) = some cells.size) (hold : old.size = cells.size) (h1 : cells.toList.all (·.oneCell') = true)
    (h : ∀ W', Blk W' g ty' cells → W.grownBy W' (some g) → wpListIn (wideR ro) nF P ops Q rest (a.put o.dst undef) W') : wpListIn (wideR ro) nF P ops Q (o :: rest) a W :=
  wpListIn_plain hgd fun K hK => opIn_of_op (ro := ro) (by rw [ho]; intro c e; cases e) (wp_putB ty x y ho hx hy q hi hold h1 fun W' q' hg => hK _ _ (h W' q' hg))
theorem wpListIn_getB (hgd : o.guard = none) (ty : TypeId) (x : Operand) (ho : o.op = .load ty x) (hx : a.eval x = .pointer (some ⟨g, 0, none⟩))
    (q : Blk W g ty' old) {d : TypeDesc} (hu : P.underlying ty = some d) (hd : (match d with | .struct _ | .array _ _ => true | _ => false) = true) (hi : (P.info? ty).map (·.size) = some old.size)
    (h : wpListIn (wideR ro) nF P ops Q rest (a.put o.dst (.agg old)) W) : wpListIn (wideR ro) nF P ops Q (o :: rest) a W :=
  wpListIn_plain hgd fun K hK => opIn_of_op (ro := ro) (by rw [ho]; intro c e; cases e) (by
    unfold Oper.wp
    rw [exec_getB ho hx q hu hd hi]
    exact hK _ _ h)
end
theorem setWays (X Y : Int) (y0 : 0 ≤ Y) : ((X == 2) = true ∧ decide (1 < Y) = true ∧ setS (X, Y) = 1) ∨
    ((X == 2) = false ∧ (X == 9) = true ∧ decide (1 < Y) = true ∧ setS (X, Y) = 1) ∨
    ((X == 2) = true ∧ decide (1 < Y) = false ∧ (X == 5) = false ∧ (X == 4) = false ∧ setS (X, Y) = 0) ∨
    ((X == 2) = false ∧ (X == 9) = true ∧ decide (1 < Y) = false ∧ (X == 5) = false ∧ (X == 4) = false ∧ setS (X, Y) = 0) ∨
    ((X == 2) = false ∧ (X == 9) = false ∧ (X == 5) = true ∧ decide (Y < 16384) = true ∧ setS (X, Y) = 1) ∨
    ((X == 2) = false ∧ (X == 9) = false ∧ (X == 5) = true ∧ decide (Y < 16384) = false ∧ (Y / 16777216 != 0) = true ∧ setS (X, Y) = 1) ∨
    ((X == 2) = false ∧ (X == 9) = false ∧ (X == 5) = true ∧ decide (Y < 16384) = false ∧ (Y / 16777216 != 0) = false ∧ (X == 4) = false ∧ setS (X, Y) = 0) ∨
    ((X == 2) = false ∧ (X == 9) = false ∧ (X == 5) = false ∧ (X == 4) = true ∧ (Y / 2147483648 != 0) = true ∧ setS (X, Y) = 3) ∨
    ((X == 2) = false ∧ (X == 9) = false ∧ (X == 5) = false ∧ (X == 4) = true ∧ (Y / 2147483648 != 0) = false ∧ setS (X, Y) = 0) ∨
    ((X == 2) = false ∧ (X == 9) = false ∧ (X == 5) = false ∧ (X == 4) = false ∧ setS (X, Y) = 0) := by
  have e1 : (Y / 16777216 != 0) = decide (16777215 < Y) := by rw [Bool.eq_iff_iff]; simp; omega
  have e2 : (Y / 2147483648 != 0) = decide (2147483647 < Y) := by rw [Bool.eq_iff_iff]; simp; omega
  rw [e1, e2]
  unfold setS
  simp only
  by_cases h2 : X = 2
  · subst h2; by_cases hv : 1 < Y <;> simp [hv]
  by_cases h9 : X = 9
  · subst h9; by_cases hv : 1 < Y <;> simp [hv]
  by_cases h5 : X = 5
  · subst h5; by_cases hv : Y < 16384 <;> by_cases hu : 16777215 < Y <;> simp [hv, hu]
  by_cases h4 : X = 4
  · subst h4; by_cases hv : 2147483647 < Y <;> simp [hv]
  simp [h2, h9, h5, h4]
def faults (l : List (Int × Int)) : List Int := l.filterMap fun p => if setS p ≠ 0 then some (setS p) else none
theorem faults_len (l : List (Int × Int)) : (faults l).length ≤ l.length := List.length_filterMap_le _ _
theorem faults_take (l : List (Int × Int)) {k : Nat} (hk : k < l.length) : faults (l.take (k + 1)) = faults (l.take k) ++ (if setS (pid l k, pva l k) ≠ 0 then [setS (pid l k, pva l k)] else []) := by
  have e : l.take (k + 1) = l.take k ++ [(pid l k, pva l k)] := by
    rw [List.take_add_one, List.getElem?_eq_getElem hk]
    simp only [pid, pva, List.getElem?_eq_getElem hk, Option.getD_some, Option.toList_some]
  unfold faults
  rw [e, List.filterMap_append]
  congr 1
  by_cases h : setS (pid l k, pva l k) ≠ 0 <;> simp [h]
theorem faults_first : ∀ l : List (Int × Int), firstS l = (faults l).head?.getD 0
  | [] => rfl
  | p :: r => by
    unfold firstS
    by_cases h : setS p ≠ 0
    · rw [if_pos h]; simp [faults, h]
    · rw [if_neg h, faults_first r]; simp [faults, h]
theorem faults_pre {l : List (Int × Int)} {k : Nat} {pre : List Int} (hp : pre = faults (l.take k)) : ∃ r, pre ++ r = faults l := by
  refine ⟨faults (l.drop k), ?_⟩
  rw [hp]
  unfold faults
  rw [← List.filterMap_append, List.take_append_drop]
theorem KO.prs {B : Nat} {W W' : World} (h : KO B W W') {A : Option Addr} {n c : Nat} {l : List (Int × Int)} (hy : Prs W A n c l) (hf : 0 < n → ∀ b o, A = some ⟨b, o, none⟩ → b < B) : Prs W' A n c l :=
  ⟨hy.len, hy.cap, hy.mx, hy.nn, hy.bs, fun hn => by
    obtain ⟨b, q, e, hlt, hcell⟩ := hy.cell hn
    have hb := h.2 b (hf hn b q e)
    exact ⟨b, q, e, Nat.lt_of_lt_of_le hlt h.1, fun i hi => ⟨(World.cell?_of_block hb).trans (hcell i hi).1, (World.cell?_of_block hb).trans (hcell i hi).2⟩⟩⟩

set_option maxRecDepth 100000 in
set_option maxHeartbeats 4000000 in
theorem faulty1_in (n : Nat) (hn : 1 ≤ n) (l Ba : Nat) (A : Option Addr) (m c : Nat) (ps : List (Int × Int)) (hm : m ≤ 100000) (B : Nat)
    (J Jx : List Int → World → Prop)
    (hJb : ∀ pre X Y, J pre X → Below X.heap.size X Y → J pre Y)
    (hfar : 0 < m → ∀ b o, A = some ⟨b, o, none⟩ → b < B)
    (hY : ∀ pre x W, J pre W → pre.length < m → YieldAt Fence.wide (n - 1) Try.prog l #[.agg #[.bool true, .int .i64 0, .int .u32 x]] W fun e W' =>
      (e = .returned (.bool true) ∧ J (pre ++ [x]) W' ∧ KO B W W') ∨ (e = .returned (.bool false) ∧ Jx (pre ++ [x]) W'))
    (W : World) (hca : Boxed W Ba 26 (.slice A m c)) (hpr : Prs W A m c ps) (h0 : J [] W) :
    CallsIn Fence.wide n Try.prog 93 #[.func (.yield l) #[] #[], .pointer (some ⟨Ba, 0, none⟩)] W fun e W' => (∃ v, e = .returned v) ∧
      ((∃ ys : List Int, ys = faults ps ∧ J ys W') ∨ (∃ pre : List Int, ((∃ r, pre ++ r = faults ps) ∧ pre ≠ []) ∧ Jx pre W')) := by
  have hl := hpr.len
  have hck := hca.cell
  have HPR := Lib.hid hpr
  clear hpr hca
  refine callsIn_of_wp Try.func93 rfl trivial ?_ rfl
  simp only [Try.ntmps93, List.size_toArray, List.length_cons, List.length_nil, Nat.reduceAdd, Nat.reduceSub, Array.replicate_succ, Array.replicate_zero, List.push_toArray, List.append_toArray, List.nil_append, List.cons_append]
  gi_wp2
  clear hck
  gi_loopw [8] (fun i wr => ∃ (k : Nat) (pre : List Int), k ≤ m ∧ i = .int .i64 k ∧ pre = faults (ps.take k) ∧ J pre wr ∧ Prs wr A m c ps)
    (fun i _ => m - (intOf i).toNat)
  case atStart => exact ⟨0, [], Nat.zero_le _, rfl, by simp [faults], h0, HPR.out⟩
  case round =>
    obtain ⟨k, pre, hk, rfl, hpre, hJ, hpr⟩ := hrel
    by_cases hlt : k < m
    · have hpl : pre.length < m := by
        have h1 := faults_len (ps.take k)
        rw [← hpre, List.length_take] at h1
        omega
      obtain ⟨b, o, hA, hbl, hc⟩ := hpr.cell (by omega)
      have HF := Lib.hid hfar
      subst hA
      obtain ⟨c1, c2⟩ := hc k hlt
      have hbs := hpr.bs.get k
      have hs := faults_take ps (k := k) (by omega)
      rw [← hpre] at hs
      obtain ⟨X, hX⟩ : ∃ X, pid ps k = X := ⟨_, rfl⟩
      obtain ⟨Y, hY0⟩ : ∃ Y, pva ps k = Y := ⟨_, rfl⟩
      rw [hX, hY0] at hs
      rw [hX] at c1
      rw [hY0] at c2 hbs
      have i0 : (0 : Int) ≤ (k : Int) := by omega
      have i1 : (k : Int) < (m : Int) := by omega
      have hways := setWays X Y hbs.2.1
      have HS := Lib.hid hs
      have HPr := Lib.hid hpre
      have HP2 := Lib.hid hpr
      have HL := Lib.hid hl
      have hk1 : Hid (k + 1 ≤ m) := Lib.hid (by omega)
      clear hc hbs hs hX hY0 hpre hpr hfar hk hl hlt
      have qp := Blk.new wr 55 #[.int .u16 0, .int .u32 0]
      have b0 := (Bel.refl wr).alloc (.cells #[.int .u16 0, .int .u32 0] 55)
      rcases hways with ⟨f0, f1, hsv⟩ | ⟨f0, f1, f2, hsv⟩ | ⟨f0, f1, f2, f3, hsv⟩ | ⟨f0, f1, f2, f3, f4, hsv⟩ | ⟨f0, f1, f2, f3, hsv⟩ | ⟨f0, f1, f2, f3, f4, hsv⟩ | ⟨f0, f1, f2, f3, f4, f5, hsv⟩ | ⟨f0, f1, f2, f3, f4, hsv⟩ | ⟨f0, f1, f2, f3, f4, hsv⟩ | ⟨f0, f1, f2, f3, hsv⟩
      · as_aux_lemma =>
          have HV := Lib.hid hsv
          clear hsv
          gi_upto_region 9 with (first | (refine ⟨trivial, ?_⟩; gi_at_call 20; refine (callsIn_wide.2 (fWholeF _ _)).mono ?_; rintro e w3 ⟨rfl, hb⟩; replace b0 := b0.below hb; replace qp := qp.below hb; replace qx := qx.below hb; clear hb; (try clear zp0 zp1 zx0 zx1 zx2); have zp0 := qp.at 0 rfl; have zp1 := qp.at 1 rfl; have zx0 := qx.at 0 rfl; have zx1 := qx.at 1 rfl; have zx2 := qx.at 2 rfl) | (refine wpListIn_putB (ro := none) rfl _ _ _ rfl rfl rfl qp (by rfl) (by rfl) (by rfl) ?_; intro w1 qn hg; replace b0 := b0.grown hg (Nat.le_refl _); clear hg qp; have hz := b0.out.size; have hne : wr.heap.size ≠ w1.heap.size := Nat.ne_of_lt qn.lt; have qx := Blk.new w1 34 #[.bool false, .int .i64 0, .int .u32 0]; have qp := qn.alloc (.cells #[.bool false, .int .i64 0, .int .u32 0] 34); clear qn; replace b0 := b0.alloc (.cells #[.bool false, .int .i64 0, .int .u32 0] 34)) | (refine wpListIn_putB (ro := none) rfl _ _ _ rfl rfl rfl qx (by rfl) (by rfl) (by rfl) ?_; intro w2 qn hg; replace b0 := b0.grown hg hz; replace qp := qp.grown hg hne; clear hg qx; have qx := qn; clear qn; (try clear zp0 zp1 zx0 zx1 zx2); have zp0 := qp.at 0 rfl; have zp1 := qp.at 1 rfl; have zx0 := qx.at 0 rfl; have zx1 := qx.at 1 rfl; have zx2 := qx.at 2 rfl))
          obtain ⟨fn, tmps, assign, body, hyy, hR⟩ := hY pre 1 _ (hJb _ _ _ hJ b0.out) hpl
          have hp9 := Lib.hid (HP2.out.below b0.out)
          gi_wp2
          refine hR.mono ?_
          rintro e W3 (⟨rfl, hJ3, hk3⟩ | ⟨rfl, hJx3⟩)
          · gi_wp2
            exact ⟨⟨k + 1, _, hk1.out, by simp, (by rw [HS.out, HV.out]; simp : pre ++ [1] = _), hJ3, hk3.prs hp9.out HF.out⟩, by simp [intOf]; have := hk1.out; omega⟩
          · gi_wp2
            refine bodyPost_ret (results_none rfl _ _ _) rfl ?_
            refine ⟨⟨_, rfl⟩, .inr ⟨_, ⟨faults_pre (k := k + 1) ?_, by simp⟩, hJx3⟩⟩
            rw [HS.out, HV.out]
            simp
      · as_aux_lemma =>
          have HV := Lib.hid hsv
          clear hsv
          gi_upto_region 9 with (first | (refine ⟨trivial, ?_⟩; gi_at_call 20; refine (callsIn_wide.2 (fWholeF _ _)).mono ?_; rintro e w3 ⟨rfl, hb⟩; replace b0 := b0.below hb; replace qp := qp.below hb; replace qx := qx.below hb; clear hb; (try clear zp0 zp1 zx0 zx1 zx2); have zp0 := qp.at 0 rfl; have zp1 := qp.at 1 rfl; have zx0 := qx.at 0 rfl; have zx1 := qx.at 1 rfl; have zx2 := qx.at 2 rfl) | (refine wpListIn_putB (ro := none) rfl _ _ _ rfl rfl rfl qp (by rfl) (by rfl) (by rfl) ?_; intro w1 qn hg; replace b0 := b0.grown hg (Nat.le_refl _); clear hg qp; have hz := b0.out.size; have hne : wr.heap.size ≠ w1.heap.size := Nat.ne_of_lt qn.lt; have qx := Blk.new w1 34 #[.bool false, .int .i64 0, .int .u32 0]; have qp := qn.alloc (.cells #[.bool false, .int .i64 0, .int .u32 0] 34); clear qn; replace b0 := b0.alloc (.cells #[.bool false, .int .i64 0, .int .u32 0] 34)) | (refine wpListIn_putB (ro := none) rfl _ _ _ rfl rfl rfl qx (by rfl) (by rfl) (by rfl) ?_; intro w2 qn hg; replace b0 := b0.grown hg hz; replace qp := qp.grown hg hne; clear hg qx; have qx := qn; clear qn; (try clear zp0 zp1 zx0 zx1 zx2); have zp0 := qp.at 0 rfl; have zp1 := qp.at 1 rfl; have zx0 := qx.at 0 rfl; have zx1 := qx.at 1 rfl; have zx2 := qx.at 2 rfl))
          obtain ⟨fn, tmps, assign, body, hyy, hR⟩ := hY pre 1 _ (hJb _ _ _ hJ b0.out) hpl
          have hp9 := Lib.hid (HP2.out.below b0.out)
          gi_wp2
          refine hR.mono ?_
          rintro e W3 (⟨rfl, hJ3, hk3⟩ | ⟨rfl, hJx3⟩)
          · gi_wp2
            exact ⟨⟨k + 1, _, hk1.out, by simp, (by rw [HS.out, HV.out]; simp : pre ++ [1] = _), hJ3, hk3.prs hp9.out HF.out⟩, by simp [intOf]; have := hk1.out; omega⟩
          · gi_wp2
            refine bodyPost_ret (results_none rfl _ _ _) rfl ?_
            refine ⟨⟨_, rfl⟩, .inr ⟨_, ⟨faults_pre (k := k + 1) ?_, by simp⟩, hJx3⟩⟩
            rw [HS.out, HV.out]
            simp
      · as_aux_lemma =>
          have HV := Lib.hid hsv
          clear hsv
          gi_upto_region 9 with (first | (refine ⟨trivial, ?_⟩; gi_at_call 20; refine (callsIn_wide.2 (fWholeF _ _)).mono ?_; rintro e w3 ⟨rfl, hb⟩; replace b0 := b0.below hb; replace qp := qp.below hb; replace qx := qx.below hb; clear hb; (try clear zp0 zp1 zx0 zx1 zx2); have zp0 := qp.at 0 rfl; have zp1 := qp.at 1 rfl; have zx0 := qx.at 0 rfl; have zx1 := qx.at 1 rfl; have zx2 := qx.at 2 rfl) | (refine wpListIn_putB (ro := none) rfl _ _ _ rfl rfl rfl qp (by rfl) (by rfl) (by rfl) ?_; intro w1 qn hg; replace b0 := b0.grown hg (Nat.le_refl _); clear hg qp; have hz := b0.out.size; have hne : wr.heap.size ≠ w1.heap.size := Nat.ne_of_lt qn.lt; have qx := Blk.new w1 34 #[.bool false, .int .i64 0, .int .u32 0]; have qp := qn.alloc (.cells #[.bool false, .int .i64 0, .int .u32 0] 34); clear qn; replace b0 := b0.alloc (.cells #[.bool false, .int .i64 0, .int .u32 0] 34)) | (refine wpListIn_putB (ro := none) rfl _ _ _ rfl rfl rfl qx (by rfl) (by rfl) (by rfl) ?_; intro w2 qn hg; replace b0 := b0.grown hg hz; replace qp := qp.grown hg hne; clear hg qx; have qx := qn; clear qn; (try clear zp0 zp1 zx0 zx1 zx2); have zp0 := qp.at 0 rfl; have zp1 := qp.at 1 rfl; have zx0 := qx.at 0 rfl; have zx1 := qx.at 1 rfl; have zx2 := qx.at 2 rfl))
          gi_wp2
          repeat (refine ⟨(by intro f h; cases h), ?_⟩; try gi_wp2)
          exact ⟨⟨k + 1, _, hk1.out, by simp, (by rw [HS.out, HV.out]; simp : pre = _), hJb _ _ _ hJ b0.out, HP2.out.below b0.out⟩, by simp [intOf]; have := hk1.out; omega⟩
      · as_aux_lemma =>
          have HV := Lib.hid hsv
          clear hsv
          gi_upto_region 9 with (first | (refine ⟨trivial, ?_⟩; gi_at_call 20; refine (callsIn_wide.2 (fWholeF _ _)).mono ?_; rintro e w3 ⟨rfl, hb⟩; replace b0 := b0.below hb; replace qp := qp.below hb; replace qx := qx.below hb; clear hb; (try clear zp0 zp1 zx0 zx1 zx2); have zp0 := qp.at 0 rfl; have zp1 := qp.at 1 rfl; have zx0 := qx.at 0 rfl; have zx1 := qx.at 1 rfl; have zx2 := qx.at 2 rfl) | (refine wpListIn_putB (ro := none) rfl _ _ _ rfl rfl rfl qp (by rfl) (by rfl) (by rfl) ?_; intro w1 qn hg; replace b0 := b0.grown hg (Nat.le_refl _); clear hg qp; have hz := b0.out.size; have hne : wr.heap.size ≠ w1.heap.size := Nat.ne_of_lt qn.lt; have qx := Blk.new w1 34 #[.bool false, .int .i64 0, .int .u32 0]; have qp := qn.alloc (.cells #[.bool false, .int .i64 0, .int .u32 0] 34); clear qn; replace b0 := b0.alloc (.cells #[.bool false, .int .i64 0, .int .u32 0] 34)) | (refine wpListIn_putB (ro := none) rfl _ _ _ rfl rfl rfl qx (by rfl) (by rfl) (by rfl) ?_; intro w2 qn hg; replace b0 := b0.grown hg hz; replace qp := qp.grown hg hne; clear hg qx; have qx := qn; clear qn; (try clear zp0 zp1 zx0 zx1 zx2); have zp0 := qp.at 0 rfl; have zp1 := qp.at 1 rfl; have zx0 := qx.at 0 rfl; have zx1 := qx.at 1 rfl; have zx2 := qx.at 2 rfl))
          gi_wp2
          repeat (refine ⟨(by intro f h; cases h), ?_⟩; try gi_wp2)
          exact ⟨⟨k + 1, _, hk1.out, by simp, (by rw [HS.out, HV.out]; simp : pre = _), hJb _ _ _ hJ b0.out, HP2.out.below b0.out⟩, by simp [intOf]; have := hk1.out; omega⟩
      · as_aux_lemma =>
          have HV := Lib.hid hsv
          clear hsv
          gi_upto_region 9 with (first | (refine ⟨trivial, ?_⟩; gi_at_call 20; refine (callsIn_wide.2 (fWholeF _ _)).mono ?_; rintro e w3 ⟨rfl, hb⟩; replace b0 := b0.below hb; replace qp := qp.below hb; replace qx := qx.below hb; clear hb; (try clear zp0 zp1 zx0 zx1 zx2); have zp0 := qp.at 0 rfl; have zp1 := qp.at 1 rfl; have zx0 := qx.at 0 rfl; have zx1 := qx.at 1 rfl; have zx2 := qx.at 2 rfl) | (refine wpListIn_putB (ro := none) rfl _ _ _ rfl rfl rfl qp (by rfl) (by rfl) (by rfl) ?_; intro w1 qn hg; replace b0 := b0.grown hg (Nat.le_refl _); clear hg qp; have hz := b0.out.size; have hne : wr.heap.size ≠ w1.heap.size := Nat.ne_of_lt qn.lt; have qx := Blk.new w1 34 #[.bool false, .int .i64 0, .int .u32 0]; have qp := qn.alloc (.cells #[.bool false, .int .i64 0, .int .u32 0] 34); clear qn; replace b0 := b0.alloc (.cells #[.bool false, .int .i64 0, .int .u32 0] 34)) | (refine wpListIn_putB (ro := none) rfl _ _ _ rfl rfl rfl qx (by rfl) (by rfl) (by rfl) ?_; intro w2 qn hg; replace b0 := b0.grown hg hz; replace qp := qp.grown hg hne; clear hg qx; have qx := qn; clear qn; (try clear zp0 zp1 zx0 zx1 zx2); have zp0 := qp.at 0 rfl; have zp1 := qp.at 1 rfl; have zx0 := qx.at 0 rfl; have zx1 := qx.at 1 rfl; have zx2 := qx.at 2 rfl))
          obtain ⟨fn, tmps, assign, body, hyy, hR⟩ := hY pre 1 _ (hJb _ _ _ hJ b0.out) hpl
          have hp9 := Lib.hid (HP2.out.below b0.out)
          gi_wp2
          refine hR.mono ?_
          rintro e W3 (⟨rfl, hJ3, hk3⟩ | ⟨rfl, hJx3⟩)
          · gi_wp2
            exact ⟨⟨k + 1, _, hk1.out, by simp, (by rw [HS.out, HV.out]; simp : pre ++ [1] = _), hJ3, hk3.prs hp9.out HF.out⟩, by simp [intOf]; have := hk1.out; omega⟩
          · gi_wp2
            refine bodyPost_ret (results_none rfl _ _ _) rfl ?_
            refine ⟨⟨_, rfl⟩, .inr ⟨_, ⟨faults_pre (k := k + 1) ?_, by simp⟩, hJx3⟩⟩
            rw [HS.out, HV.out]
            simp
      · as_aux_lemma =>
          have HV := Lib.hid hsv
          clear hsv
          gi_upto_region 9 with (first | (refine ⟨trivial, ?_⟩; gi_at_call 20; refine (callsIn_wide.2 (fWholeF _ _)).mono ?_; rintro e w3 ⟨rfl, hb⟩; replace b0 := b0.below hb; replace qp := qp.below hb; replace qx := qx.below hb; clear hb; (try clear zp0 zp1 zx0 zx1 zx2); have zp0 := qp.at 0 rfl; have zp1 := qp.at 1 rfl; have zx0 := qx.at 0 rfl; have zx1 := qx.at 1 rfl; have zx2 := qx.at 2 rfl) | (refine wpListIn_putB (ro := none) rfl _ _ _ rfl rfl rfl qp (by rfl) (by rfl) (by rfl) ?_; intro w1 qn hg; replace b0 := b0.grown hg (Nat.le_refl _); clear hg qp; have hz := b0.out.size; have hne : wr.heap.size ≠ w1.heap.size := Nat.ne_of_lt qn.lt; have qx := Blk.new w1 34 #[.bool false, .int .i64 0, .int .u32 0]; have qp := qn.alloc (.cells #[.bool false, .int .i64 0, .int .u32 0] 34); clear qn; replace b0 := b0.alloc (.cells #[.bool false, .int .i64 0, .int .u32 0] 34)) | (refine wpListIn_putB (ro := none) rfl _ _ _ rfl rfl rfl qx (by rfl) (by rfl) (by rfl) ?_; intro w2 qn hg; replace b0 := b0.grown hg hz; replace qp := qp.grown hg hne; clear hg qx; have qx := qn; clear qn; (try clear zp0 zp1 zx0 zx1 zx2); have zp0 := qp.at 0 rfl; have zp1 := qp.at 1 rfl; have zx0 := qx.at 0 rfl; have zx1 := qx.at 1 rfl; have zx2 := qx.at 2 rfl))
          obtain ⟨fn, tmps, assign, body, hyy, hR⟩ := hY pre 1 _ (hJb _ _ _ hJ b0.out) hpl
          have hp9 := Lib.hid (HP2.out.below b0.out)
          gi_wp2
          refine hR.mono ?_
          rintro e W3 (⟨rfl, hJ3, hk3⟩ | ⟨rfl, hJx3⟩)
          · gi_wp2
            exact ⟨⟨k + 1, _, hk1.out, by simp, (by rw [HS.out, HV.out]; simp : pre ++ [1] = _), hJ3, hk3.prs hp9.out HF.out⟩, by simp [intOf]; have := hk1.out; omega⟩
          · gi_wp2
            refine bodyPost_ret (results_none rfl _ _ _) rfl ?_
            refine ⟨⟨_, rfl⟩, .inr ⟨_, ⟨faults_pre (k := k + 1) ?_, by simp⟩, hJx3⟩⟩
            rw [HS.out, HV.out]
            simp
      · as_aux_lemma =>
          have HV := Lib.hid hsv
          clear hsv
          gi_upto_region 9 with (first | (refine ⟨trivial, ?_⟩; gi_at_call 20; refine (callsIn_wide.2 (fWholeF _ _)).mono ?_; rintro e w3 ⟨rfl, hb⟩; replace b0 := b0.below hb; replace qp := qp.below hb; replace qx := qx.below hb; clear hb; (try clear zp0 zp1 zx0 zx1 zx2); have zp0 := qp.at 0 rfl; have zp1 := qp.at 1 rfl; have zx0 := qx.at 0 rfl; have zx1 := qx.at 1 rfl; have zx2 := qx.at 2 rfl) | (refine wpListIn_putB (ro := none) rfl _ _ _ rfl rfl rfl qp (by rfl) (by rfl) (by rfl) ?_; intro w1 qn hg; replace b0 := b0.grown hg (Nat.le_refl _); clear hg qp; have hz := b0.out.size; have hne : wr.heap.size ≠ w1.heap.size := Nat.ne_of_lt qn.lt; have qx := Blk.new w1 34 #[.bool false, .int .i64 0, .int .u32 0]; have qp := qn.alloc (.cells #[.bool false, .int .i64 0, .int .u32 0] 34); clear qn; replace b0 := b0.alloc (.cells #[.bool false, .int .i64 0, .int .u32 0] 34)) | (refine wpListIn_putB (ro := none) rfl _ _ _ rfl rfl rfl qx (by rfl) (by rfl) (by rfl) ?_; intro w2 qn hg; replace b0 := b0.grown hg hz; replace qp := qp.grown hg hne; clear hg qx; have qx := qn; clear qn; (try clear zp0 zp1 zx0 zx1 zx2); have zp0 := qp.at 0 rfl; have zp1 := qp.at 1 rfl; have zx0 := qx.at 0 rfl; have zx1 := qx.at 1 rfl; have zx2 := qx.at 2 rfl))
          gi_wp2
          repeat (refine ⟨(by intro f h; cases h), ?_⟩; try gi_wp2)
          exact ⟨⟨k + 1, _, hk1.out, by simp, (by rw [HS.out, HV.out]; simp : pre = _), hJb _ _ _ hJ b0.out, HP2.out.below b0.out⟩, by simp [intOf]; have := hk1.out; omega⟩
      · as_aux_lemma =>
          have HV := Lib.hid hsv
          clear hsv
          gi_upto_region 9 with (first | (refine ⟨trivial, ?_⟩; gi_at_call 20; refine (callsIn_wide.2 (fWholeF _ _)).mono ?_; rintro e w3 ⟨rfl, hb⟩; replace b0 := b0.below hb; replace qp := qp.below hb; replace qx := qx.below hb; clear hb; (try clear zp0 zp1 zx0 zx1 zx2); have zp0 := qp.at 0 rfl; have zp1 := qp.at 1 rfl; have zx0 := qx.at 0 rfl; have zx1 := qx.at 1 rfl; have zx2 := qx.at 2 rfl) | (refine wpListIn_putB (ro := none) rfl _ _ _ rfl rfl rfl qp (by rfl) (by rfl) (by rfl) ?_; intro w1 qn hg; replace b0 := b0.grown hg (Nat.le_refl _); clear hg qp; have hz := b0.out.size; have hne : wr.heap.size ≠ w1.heap.size := Nat.ne_of_lt qn.lt; have qx := Blk.new w1 34 #[.bool false, .int .i64 0, .int .u32 0]; have qp := qn.alloc (.cells #[.bool false, .int .i64 0, .int .u32 0] 34); clear qn; replace b0 := b0.alloc (.cells #[.bool false, .int .i64 0, .int .u32 0] 34)) | (refine wpListIn_putB (ro := none) rfl _ _ _ rfl rfl rfl qx (by rfl) (by rfl) (by rfl) ?_; intro w2 qn hg; replace b0 := b0.grown hg hz; replace qp := qp.grown hg hne; clear hg qx; have qx := qn; clear qn; (try clear zp0 zp1 zx0 zx1 zx2); have zp0 := qp.at 0 rfl; have zp1 := qp.at 1 rfl; have zx0 := qx.at 0 rfl; have zx1 := qx.at 1 rfl; have zx2 := qx.at 2 rfl))
          obtain ⟨fn, tmps, assign, body, hyy, hR⟩ := hY pre 3 _ (hJb _ _ _ hJ b0.out) hpl
          have hp9 := Lib.hid (HP2.out.below b0.out)
          gi_wp2
          refine hR.mono ?_
          rintro e W3 (⟨rfl, hJ3, hk3⟩ | ⟨rfl, hJx3⟩)
          · gi_wp2
            exact ⟨⟨k + 1, _, hk1.out, by simp, (by rw [HS.out, HV.out]; simp : pre ++ [3] = _), hJ3, hk3.prs hp9.out HF.out⟩, by simp [intOf]; have := hk1.out; omega⟩
          · gi_wp2
            refine bodyPost_ret (results_none rfl _ _ _) rfl ?_
            refine ⟨⟨_, rfl⟩, .inr ⟨_, ⟨faults_pre (k := k + 1) ?_, by simp⟩, hJx3⟩⟩
            rw [HS.out, HV.out]
            simp
      · as_aux_lemma =>
          have HV := Lib.hid hsv
          clear hsv
          gi_upto_region 9 with (first | (refine ⟨trivial, ?_⟩; gi_at_call 20; refine (callsIn_wide.2 (fWholeF _ _)).mono ?_; rintro e w3 ⟨rfl, hb⟩; replace b0 := b0.below hb; replace qp := qp.below hb; replace qx := qx.below hb; clear hb; (try clear zp0 zp1 zx0 zx1 zx2); have zp0 := qp.at 0 rfl; have zp1 := qp.at 1 rfl; have zx0 := qx.at 0 rfl; have zx1 := qx.at 1 rfl; have zx2 := qx.at 2 rfl) | (refine wpListIn_putB (ro := none) rfl _ _ _ rfl rfl rfl qp (by rfl) (by rfl) (by rfl) ?_; intro w1 qn hg; replace b0 := b0.grown hg (Nat.le_refl _); clear hg qp; have hz := b0.out.size; have hne : wr.heap.size ≠ w1.heap.size := Nat.ne_of_lt qn.lt; have qx := Blk.new w1 34 #[.bool false, .int .i64 0, .int .u32 0]; have qp := qn.alloc (.cells #[.bool false, .int .i64 0, .int .u32 0] 34); clear qn; replace b0 := b0.alloc (.cells #[.bool false, .int .i64 0, .int .u32 0] 34)) | (refine wpListIn_putB (ro := none) rfl _ _ _ rfl rfl rfl qx (by rfl) (by rfl) (by rfl) ?_; intro w2 qn hg; replace b0 := b0.grown hg hz; replace qp := qp.grown hg hne; clear hg qx; have qx := qn; clear qn; (try clear zp0 zp1 zx0 zx1 zx2); have zp0 := qp.at 0 rfl; have zp1 := qp.at 1 rfl; have zx0 := qx.at 0 rfl; have zx1 := qx.at 1 rfl; have zx2 := qx.at 2 rfl))
          gi_wp2
          repeat (refine ⟨(by intro f h; cases h), ?_⟩; try gi_wp2)
          exact ⟨⟨k + 1, _, hk1.out, by simp, (by rw [HS.out, HV.out]; simp : pre = _), hJb _ _ _ hJ b0.out, HP2.out.below b0.out⟩, by simp [intOf]; have := hk1.out; omega⟩
      · as_aux_lemma =>
          have HV := Lib.hid hsv
          clear hsv
          gi_upto_region 9 with (first | (refine ⟨trivial, ?_⟩; gi_at_call 20; refine (callsIn_wide.2 (fWholeF _ _)).mono ?_; rintro e w3 ⟨rfl, hb⟩; replace b0 := b0.below hb; replace qp := qp.below hb; replace qx := qx.below hb; clear hb; (try clear zp0 zp1 zx0 zx1 zx2); have zp0 := qp.at 0 rfl; have zp1 := qp.at 1 rfl; have zx0 := qx.at 0 rfl; have zx1 := qx.at 1 rfl; have zx2 := qx.at 2 rfl) | (refine wpListIn_putB (ro := none) rfl _ _ _ rfl rfl rfl qp (by rfl) (by rfl) (by rfl) ?_; intro w1 qn hg; replace b0 := b0.grown hg (Nat.le_refl _); clear hg qp; have hz := b0.out.size; have hne : wr.heap.size ≠ w1.heap.size := Nat.ne_of_lt qn.lt; have qx := Blk.new w1 34 #[.bool false, .int .i64 0, .int .u32 0]; have qp := qn.alloc (.cells #[.bool false, .int .i64 0, .int .u32 0] 34); clear qn; replace b0 := b0.alloc (.cells #[.bool false, .int .i64 0, .int .u32 0] 34)) | (refine wpListIn_putB (ro := none) rfl _ _ _ rfl rfl rfl qx (by rfl) (by rfl) (by rfl) ?_; intro w2 qn hg; replace b0 := b0.grown hg hz; replace qp := qp.grown hg hne; clear hg qx; have qx := qn; clear qn; (try clear zp0 zp1 zx0 zx1 zx2); have zp0 := qp.at 0 rfl; have zp1 := qp.at 1 rfl; have zx0 := qx.at 0 rfl; have zx1 := qx.at 1 rfl; have zx2 := qx.at 2 rfl))
          gi_wp2
          repeat (refine ⟨(by intro f h; cases h), ?_⟩; try gi_wp2)
          exact ⟨⟨k + 1, _, hk1.out, by simp, (by rw [HS.out, HV.out]; simp : pre = _), hJb _ _ _ hJ b0.out, HP2.out.below b0.out⟩, by simp [intOf]; have := hk1.out; omega⟩
    · obtain rfl : m = k := by omega
      have hf : ps.take m = ps := List.take_of_length_le (by omega)
      have HPr := Lib.hid hpre
      have HF := Lib.hid hf
      have e0 : decide ((m : Int) < m) = false := by simp
      clear hpre hf hl hpr hfar
      gi_wp2
      go_end0
      exact ⟨⟨_, rfl⟩, .inl ⟨pre, by rw [HPr.out, HF.out], hJ⟩⟩
end Go.Proofs.Ytnjnpnjjpodnnaa
