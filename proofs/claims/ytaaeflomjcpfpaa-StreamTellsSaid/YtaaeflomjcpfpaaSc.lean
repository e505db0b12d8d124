/- The table of what becomes of frames: the iterators, the walk, what it holds. -/
import Derived.Test.YtaaeflomjcpfpaaSb
namespace Go.Proofs.Ytaaeflomjcpfpaa
open Go.RowKit Go.Shelf Go.ChangeMaps
attribute [local go_sem] Oper.semAt_some
set_option linter.unusedVariables false
set_option linter.unusedSimpArgs false

def up (x : FK) (c : Cm) (m : FK → Option Value) : FK → Option Value := fun y => if y = x then some (cmV c) else m y
def inK (e : Bool) (k : Int) (m : FK → Option Value) : FK → Option Value := if k = 1 then m else up (0, k, e) ⟨0, false, true, 1⟩ m
def in2 (e : Bool) (k : Int) (m : FK → Option Value) : FK → Option Value := up (6, k, e) ⟨6, false, true, 5⟩ (up (4, k, e) ⟨4, false, true, 5⟩ (up (2, k, e) ⟨5, false, false, 5⟩ m))
def in3 (e : Bool) (s : Int) (m : FK → Option Value) : FK → Option Value := up (s, 8, e) ⟨s, true, false, 0⟩ (up (s, 3, e) ⟨6, true, false, 0⟩ m)
def foldK (e : Bool) (ks : List Int) (m : FK → Option Value) : FK → Option Value := ks.foldl (fun m k => inK e k m) m
def fold2 (e : Bool) (ks : List Int) (m : FK → Option Value) : FK → Option Value := ks.foldl (fun m k => in2 e k m) m
def fold3 (e : Bool) (ks : List Int) (m : FK → Option Value) : FK → Option Value := ks.foldl (fun m k => in3 e k m) m
def roundM (e : Bool) (m : FK → Option Value) : FK → Option Value := fold3 e [1, 2, 3] (fold2 e [1, 0] (foldK e [1, 0, 3, 8] m))
def litM : FK → Option Value := allOf tabJ fun _ => none
def foldR (es : List Bool) : FK → Option Value := es.foldl (fun m e => roundM e m) litM
theorem foldK_snoc (e : Bool) (ks : List Int) (k : Int) (m : FK → Option Value) : foldK e (ks ++ [k]) m = inK e k (foldK e ks m) := by simp [foldK]
theorem foldR_snoc (es : List Bool) (e : Bool) : foldR (es ++ [e]) = roundM e (foldR es) := by simp [foldR]

set_option maxHeartbeats 1000000 in
theorem both_stops (n : Nat) (hn : 1 ≤ n) (w : World) :
    SeqStopsK Fence.wide n Try.prog 54 #[] (fun x : Bool => #[Value.bool x]) (fun _ _ => True) (fun xs => xs = [false, true]) (fun _ => True) 2 w := fun l J Jx W _ _ _ hY h0 => by
  refine callsIn_of_wp Try.func54 rfl trivial ?_ rfl
  simp only [Try.ntmps54, List.size_toArray, List.length_cons, List.length_nil, Nat.reduceAdd, Nat.reduceSub, Array.replicate_succ, Array.replicate_zero, List.push_toArray, List.append_toArray, List.nil_append, List.cons_append]
  obtain ⟨f1, t1, a1, b1, hy1, hR1⟩ := hY [] false W h0 (by simp)
  (try dsimp only at hy1)
  gi_wp2
  refine hR1.mono ?_
  rintro e W1 (⟨rfl, hJ1, _⟩ | ⟨rfl, hx1⟩)
  · obtain ⟨f2, t2, a2, b2, hy2, hR2⟩ := hY [false] true W1 hJ1 (by simp)
    (try dsimp only at hy2)
    gi_wp2
    refine hR2.mono ?_
    rintro e W2 (⟨rfl, hJ2, _⟩ | ⟨rfl, hx2⟩)
    · gi_wp2
      go_end0
      exact ⟨⟨_, rfl⟩, .inl ⟨[false, true], rfl, hJ2⟩⟩
    · gi_wp2
      go_end0
      exact ⟨⟨_, rfl⟩, .inr ⟨[false, true], trivial, hx2⟩⟩
  · gi_wp2
    refine ⟨fun _ h => (by cases h), ?_⟩
    gi_wp2
    go_end0
    exact ⟨⟨_, rfl⟩, .inr ⟨[false], trivial, hx1⟩⟩
set_option maxHeartbeats 2000000 in
theorem kinds_stops (n : Nat) (hn : 1 ≤ n) (w : World) :
    SeqStopsK Fence.wide n Try.prog 58 #[] (fun x : Int => #[Value.int .u8 x]) (fun _ _ => True) (fun xs => xs = [1, 0, 3, 8]) (fun _ => True) 4 w := fun l J Jx W _ _ _ hY h0 => by
  refine callsIn_of_wp Try.func58 rfl trivial ?_ rfl
  simp only [Try.ntmps58, List.size_toArray, List.length_cons, List.length_nil, Nat.reduceAdd, Nat.reduceSub, Array.replicate_succ, Array.replicate_zero, List.push_toArray, List.append_toArray, List.nil_append, List.cons_append]
  obtain ⟨f0, t0, a0, b0, hy0, hR0⟩ := hY [] 1 W h0 (by simp)
  (try dsimp only at hy0)
  gi_wp2
  refine hR0.mono ?_
  rintro e W1 (⟨rfl, hJ1, _⟩ | ⟨rfl, hx1⟩)
  · obtain ⟨f1, t1, a1, b1, hy1, hR1⟩ := hY [1] 0 W1 hJ1 (by simp)
    (try dsimp only at hy1)
    gi_wp2
    refine hR1.mono ?_
    rintro e W2 (⟨rfl, hJ2, _⟩ | ⟨rfl, hx2⟩)
    · obtain ⟨f2, t2, a2, b2, hy2, hR2⟩ := hY [1, 0] 3 W2 hJ2 (by simp)
      (try dsimp only at hy2)
      gi_wp2
      refine hR2.mono ?_
      rintro e W3 (⟨rfl, hJ3, _⟩ | ⟨rfl, hx3⟩)
      · obtain ⟨f3, t3, a3, b3, hy3, hR3⟩ := hY [1, 0, 3] 8 W3 hJ3 (by simp)
        (try dsimp only at hy3)
        gi_wp2
        refine hR3.mono ?_
        rintro e W4 (⟨rfl, hJ4, _⟩ | ⟨rfl, hx4⟩)
        · gi_wp2
          go_end0
          exact ⟨⟨_, rfl⟩, .inl ⟨[1, 0, 3, 8], rfl, hJ4⟩⟩
        · gi_wp2
          go_end0
          exact ⟨⟨_, rfl⟩, .inr ⟨[1, 0, 3, 8], trivial, hx4⟩⟩
      · gi_wp2
        refine ⟨fun _ h => (by cases h), ?_⟩
        gi_wp2
        go_end0
        exact ⟨⟨_, rfl⟩, .inr ⟨[1, 0, 3], trivial, hx3⟩⟩
    · gi_wp2
      refine ⟨fun _ h => (by cases h), ?_⟩
      gi_wp2
      refine ⟨fun _ h => (by cases h), ?_⟩
      gi_wp2
      go_end0
      exact ⟨⟨_, rfl⟩, .inr ⟨[1, 0], trivial, hx2⟩⟩
  · gi_wp2
    refine ⟨fun _ h => (by cases h), ?_⟩
    gi_wp2
    refine ⟨fun _ h => (by cases h), ?_⟩
    gi_wp2
    refine ⟨fun _ h => (by cases h), ?_⟩
    gi_wp2
    go_end0
    exact ⟨⟨_, rfl⟩, .inr ⟨[1], trivial, hx1⟩⟩
theorem fKinds (n : Nat) (w : World) : CallsIn Fence.wide n Try.prog 55 #[] w fun e W' => e = .returned (.func (.func 58) #[] #[]) ∧ w = W' := by
  refine callsIn_of_wp Try.func55 rfl trivial ?_ rfl
  simp only [Try.ntmps55, List.size_toArray, List.length_cons, List.length_nil, Nat.reduceAdd, Nat.reduceSub, Array.replicate_succ, Array.replicate_zero, List.push_toArray, List.append_toArray, List.nil_append, List.cons_append]
  gi_wp2
  go_ret
  exact ⟨rfl, rfl⟩

/-- m[x] = v, at an operation that comes up alone. -/
theorem step_upd (w : World) {ops : Array Oper} {o : Oper} {a : Act} {K : Act → World → Prop} {Q : Exit → Act → World → Prop} {E : Prop}
    (hg : o.guard = none) (mo xo vo : Operand) (t : TypeId) (hop : o.op = Op.mapUpdate t mo xo vo) {K' e : TypeId} (KO : KeyOf Try.prog K' frV) (ht : Try.prog.underlying t = some (.map K' e))
    (b : Nat) (m : FK → Option Value) (hm : a.eval mo = .map (some b)) (hown : MapF frV w b m) (x : FK) (c : Cm) (hx : a.eval xo = frV x) (hv : a.eval vo = cmV c)
    (hK : ∀ w', MapF frV w' b (up x c m) → w.grownBy w' (some b) → K (a.put o.dst undef) w') :
    if Go.Region.wanted o (Go.yielded ops a.tmps) = true then Go.Oper.wp Try.prog o a w K Q else E := by
  have hw : Go.Region.wanted o (Go.yielded ops a.tmps) = true := by simp [Go.Region.wanted, hg]
  rw [if_pos hw]
  obtain ⟨w', hrun, r1, r2⟩ := hown.update KO ht x (cmV c)
  unfold Oper.wp
  simp [execOp, hop, hm, hx, hv, hrun, Result.andThen]
  exact hK w' r1 r2
/-- What holds within a round of the outer loop: w: at the call, b0: where the loop's world ends, W: at the round's start. -/
structure TabR (w W : World) (B0 b bA Bx : Nat) (e : Bool) (m : FK → Option Value) (V : World) : Prop where
  map : MapF frV V b m
  ba : Boxed V bA 61 (.map (some b))
  bx : Boxed V Bx 4 (.bool e)
  below : Below w.heap.size w V
  bel : Below w.heap.size W V
  kf : KeepsFrom B0 W V
theorem KeepsFrom.of_below {B : Nat} {V V' : World} (hb : Below V.heap.size V V') : KeepsFrom B V V' := ⟨hb.size, fun k o _ hk _ => (hb.block k (Array.getElem?_eq_some_iff.1 hk).1).trans hk⟩
theorem Boxed.not_map {W : World} {B b : Nat} {t : TypeId} {v : Value} {m : FK → Option Value} (h : Boxed W B t v) (k : MapF frV W b m) : B ≠ b := fun e => by
  obtain ⟨l, c, hl, _⟩ := k
  rw [← e, show W.heap[B]? = _ from h] at hl
  cases hl
section
variable {w W V V' : World} {B0 b bA Bx : Nat} {e : Bool} {m : FK → Option Value}
theorem TabR.drew (h : TabR w W B0 b bA Bx e m V) : TabR w W B0 b bA Bx e m V.drew := ⟨h.map, h.ba, h.bx, h.below.trans (drew_below _ _), h.bel.trans (drew_below _ _), h.kf.trans ((KeepsOthers.drew _).from _)⟩
theorem TabR.call (h : TabR w W B0 b bA Bx e m V) (hb : Below V.heap.size V V') : TabR w W B0 b bA Bx e m V' :=
  ⟨MapF.below h.map hb, Boxed.below h.ba hb, Boxed.below h.bx hb, h.below.trans (hb.mono h.below.size), h.bel.trans (hb.mono h.below.size), h.kf.trans ⟨hb.size, fun k o _ hk _ => (hb.block k (Array.getElem?_eq_some_iff.1 hk).1).trans hk⟩⟩
theorem TabR.alloc (h : TabR w W B0 b bA Bx e m V) (o : Obj) : TabR w W B0 b bA Bx e m (V.alloc o) := h.call ((Below.refl _ V).alloc (Nat.le_refl _) o)
theorem TabR.upd (h : TabR w W B0 b bA Bx e m V) {m' : FK → Option Value} (hm : MapF frV V' b m') (hg : V.grownBy V' (some b)) (hb : w.heap.size ≤ b) (hb2 : b < B0) : TabR w W B0 b bA Bx e m' V' :=
  ⟨hm, h.ba.kept hg (fun e' => Boxed.not_map h.ba h.map (by simpa using e')), h.bx.kept hg (fun e' => Boxed.not_map h.bx h.map (by simpa using e')), h.below.grown hg h.below.size (fun k e' => by simp at e'; omega),
    h.bel.grown hg h.below.size (fun k e' => by simp at e'; omega), h.kf.trans (KeepsFrom.of_grownBy hg (fun j e' => by simp at e'; omega))⟩
end

set_option maxRecDepth 100000 in
set_option maxHeartbeats 8000000 in
theorem table_in (n : Nat) (hn : 8 ≤ n) (w : World) :
    CallsIn Fence.wide n Try.prog 39 #[] w fun e W' => ∃ b, e = .returned (.map (some b)) ∧ MapF frV W' b (foldR [false, true]) ∧ Below w.heap.size w W' := by
  have h1 : 1 ≤ n := by omega
  refine callsIn_of_wp_marks Try.func39 rfl trivial ?_ rfl
  simp only [Try.ntmps39, List.size_toArray, List.length_cons, List.length_nil, Nat.reduceAdd, Nat.reduceSub, Array.replicate_succ, Array.replicate_zero, List.push_toArray, List.append_toArray, List.nil_append, List.cons_append]
  gi_wp2_with fail
  refine wpIn_region_GW (fun _ => True) [] (by kernel_rfl) (by kernel_rfl) (fun ⟨_, W9, h⟩ => by obtain ⟨_, e, _⟩ : ∃ b, Ending.outgrown = Ending.returned (.map (some b)) ∧ MapF frV W9 b (foldR [false, true]) ∧ Below w.heap.size w W9 := h; cases e) (tabRegion w _ ?_)
  intro b bA W0 hb0' hb0 hm0 hbA0 hbx0
  unfold tabFrm1
  have hb1 : b < W0.heap.size := hm0.lt
  have hbA1 : bA < W0.heap.size := (Array.getElem?_eq_some_iff.1 (show W0.heap[bA]? = some _ from hbx0)).1
  gi_wp2
  refine wpIn_rangeFunc_ownH rfl h1 (gf := 54) (lb := #[]) rfl trivial (enters_of Try.func54 (by kernel_rfl) rfl)
    (both_stops (n - 1) (by omega) W0) (fun _ _ => trivial) (fun _ _ _ _ _ _ _ _ => trivial) (Below.refl _ _) (fun _ => rfl)
    (fun pre W => MapF frV W b (foldR pre) ∧ Boxed W bA 61 (.map (some b)) ∧ Below w.heap.size w W)
    (fun _ _ _ => False)
    ?own (fun _ _ _ _ _ hs _ _ => hs) ⟨hm0, hbx0, hb0'⟩
    (fun e a' W => ∃ Bx, w.heap.size ≤ Bx ∧ Boxed W Bx 4 (.bool e) ∧ a' = { tmps := #[.map none, .pointer (some ⟨bA, 0, none⟩), .pointer (some ⟨Bx, 0, none⟩), undef, undef, undef, undef, undef, .map (some b), .agg #[.int .u8 0, .int .u8 1, .bool false], .agg #[.int .u8 1, .bool true, .bool false, .int .u32 0], .agg #[.int .u8 0, .int .u8 1, .bool true], .agg #[.int .u8 2, .bool true, .bool false, .int .u32 0], .agg #[.int .u8 1, .int .u8 1, .bool false], .agg #[.int .u8 5, .bool false, .bool false, .int .u32 1], .agg #[.int .u8 1, .int .u8 1, .bool true], .agg #[.int .u8 2, .bool true, .bool false, .int .u32 0], .agg #[.int .u8 3, .int .u8 1, .bool false], .agg #[.int .u8 5, .bool false, .bool false, .int .u32 1], .agg #[.int .u8 3, .int .u8 1, .bool true], .agg #[.int .u8 4, .bool true, .bool false, .int .u32 0], .agg #[.int .u8 1, .int .u8 0, .bool false], .agg #[.int .u8 1, .bool true, .bool false, .int .u32 0], .agg #[.int .u8 1, .int .u8 0, .bool true], .agg #[.int .u8 2, .bool true, .bool false, .int .u32 0], .agg #[.int .u8 3, .int .u8 0, .bool false], .agg #[.int .u8 3, .bool true, .bool false, .int .u32 0], .agg #[.int .u8 3, .int .u8 0, .bool true], .agg #[.int .u8 4, .bool true, .bool false, .int .u32 0], .map (some b), .bool e, undef, undef, undef, undef, undef, undef, undef, undef, undef, undef, undef, undef, undef, undef, undef, undef, undef, undef, undef, undef, undef, undef, undef, undef, undef, undef, undef, undef, undef, undef, undef, undef, undef, undef, undef, undef, undef, undef, undef, undef, undef, undef, undef, undef, undef, undef, undef, undef, undef, undef], defers := [] })
    (fun x a' _ X Y row hs hg hr => by obtain ⟨Bx, h1, h2, h3⟩ := hs; exact ⟨Bx, h1, boxed_own Bx 4 (fun (_ : Unit) => Value.bool x) () X Y row h2 hg (fun r e => (hr r e).2), h3⟩)
    ?assign ?body ?done ?stop
  case own =>
    rintro s X Y row ⟨hs1, hs2, hs3⟩ hg hr
    refine ⟨hs1.kept (hg.block b hs1.lt (fun e => ?_)), boxed_keptN hs2 hg (fun r e => (hr r e).2), hs3.grown hg hs3.size (fun r e => by have := (hr r e).1; have := hb0'.size; omega)⟩
    have := (hr b e.symm).1
    omega
  case assign =>
    rintro l pre e W K ⟨hs1, hs2, hs3⟩ hK
    gi_wp2
    exact hK _ _ ((KeepsOthers.alloc W _).from _) trivial ⟨hs1.alloc _, hs2.alloc _, hs3.alloc hs3.size _⟩ ⟨W.heap.size, hs3.size, Boxed.new W _ _, rfl⟩
  case body =>
    rintro l pre e a' W hl ⟨r, hr⟩ ⟨hs1, hs2, hs3⟩ ⟨Bx, hBx, bX, rfl⟩ hlt
    have h1' : 1 ≤ n - 1 - 1 := by omega
    have hbW : b < W.heap.size := hs1.lt
    gi_wp2_with (refine ⟨trivial, ?_⟩; gi_at_call 55; refine (CallsIn.inRound l (fKinds _ _)).mono ?_; rintro e1 w' ⟨rfl, rfl⟩)
    refine wpIn_rangeFunc_ownN (l₀ := l) (r₀ := r) rfl hr h1' (gf := 58) (lb := #[]) rfl trivial (enters_of Try.func58 (by kernel_rfl) rfl)
      ((kinds_stops (n - 1 - 1 - 1) (by omega) W).inRound l) (fun _ _ => trivial) (fun _ _ _ _ _ _ _ _ => trivial) (Below.refl _ _) (fun _ => by rfl)
      (fun ks V => TabR w W W0.heap.size b bA Bx e (foldK e ks (foldR pre)) V)
      (fun _ _ _ => False)
      ?own2 (fun _ _ _ _ _ hs _ _ => hs) ⟨hs1, hs2, bX, hs3, Below.refl _ _, KeepsFrom.refl _ _⟩
      (fun x a'' _ => a'' = { tmps := #[.map none, .pointer (some ⟨bA, 0, none⟩), .pointer (some ⟨Bx, 0, none⟩), .int .u8 x, undef, undef, undef, undef, .map (some b), .agg #[.int .u8 0, .int .u8 1, .bool false], .agg #[.int .u8 1, .bool true, .bool false, .int .u32 0], .agg #[.int .u8 0, .int .u8 1, .bool true], .agg #[.int .u8 2, .bool true, .bool false, .int .u32 0], .agg #[.int .u8 1, .int .u8 1, .bool false], .agg #[.int .u8 5, .bool false, .bool false, .int .u32 1], .agg #[.int .u8 1, .int .u8 1, .bool true], .agg #[.int .u8 2, .bool true, .bool false, .int .u32 0], .agg #[.int .u8 3, .int .u8 1, .bool false], .agg #[.int .u8 5, .bool false, .bool false, .int .u32 1], .agg #[.int .u8 3, .int .u8 1, .bool true], .agg #[.int .u8 4, .bool true, .bool false, .int .u32 0], .agg #[.int .u8 1, .int .u8 0, .bool false], .agg #[.int .u8 1, .bool true, .bool false, .int .u32 0], .agg #[.int .u8 1, .int .u8 0, .bool true], .agg #[.int .u8 2, .bool true, .bool false, .int .u32 0], .agg #[.int .u8 3, .int .u8 0, .bool false], .agg #[.int .u8 3, .bool true, .bool false, .int .u32 0], .agg #[.int .u8 3, .int .u8 0, .bool true], .agg #[.int .u8 4, .bool true, .bool false, .int .u32 0], .map (some b), .bool e, .func (.func 58) #[] #[], .int .u8 x, undef, undef, undef, undef, undef, undef, undef, undef, undef, undef, undef, undef, undef, undef, undef, undef, undef, undef, undef, undef, undef, undef, undef, undef, undef, undef, undef, undef, undef, undef, undef, undef, undef, undef, undef, undef, undef, undef, undef, undef, undef, undef, undef, undef, undef, undef, undef, undef], defers := [] })
      (fun _ _ _ _ _ _ hs _ _ => hs)
      ?assign2 ?body2 ?done2 ?stop2
    case own2 =>
      intro s X Y row R hg hr'
      refine ⟨R.map.kept (hg.block b R.map.lt (fun e => ?_)), boxed_keptN R.ba hg (fun r e => (hr' r e).2), boxed_keptN R.bx hg (fun r e => (hr' r e).2), R.below.grown hg R.below.size (fun r e => ?_), R.bel.grown hg R.below.size (fun r e => ?_), ?_⟩
      · have := (hr' b e.symm).1
        omega
      · have := (hr' r e).1; have := hs3.size; omega
      · have := (hr' r e).1; have := hs3.size; omega
      · exact ownFrom_keepsFrom (β := Unit) (Nat.le_refl _) () X Y row R.kf hg hr'
    case assign2 =>
      rintro l2 ks x V K R hK
      gi_wp2
      exact hK _ _ (KeepsFrom.refl _ _) trivial R rfl
    case body2 =>
      rintro l2 ks x a'' V hl2 ⟨r2, hr2⟩ R rfl _
      have hl3 : W0.heap.size ≤ W.heap.size := by
        have := (Array.getElem?_eq_some_iff.1 hr).1
        omega
      by_cases hx : x = 1
      · have hx1 : (x != 1) = false := by rw [bne_eq_false_iff_eq]; exact hx
        have e1 : foldK e (ks ++ [x]) (foldR pre) = foldK e ks (foldR pre) := by rw [foldK_snoc, inK, if_pos hx]
        clear hx
        gi_wp2
        exact ⟨KeepsFrom.refl _ _, trivial, by show TabR w W W0.heap.size b bA Bx e (foldK e (ks ++ [x]) (foldR pre)) V; rw [e1]; exact R⟩
      · have hx1 : (x != 1) = true := by rw [bne_iff_ne]; exact hx
        have e1 : foldK e (ks ++ [x]) (foldR pre) = up (0, x, e) ⟨0, false, true, 1⟩ (foldK e ks (foldR pre)) := by rw [foldK_snoc, inK, if_neg hx]
        have E1 := Lib.hid e1
        clear hx e1
        gi_wp2
        refine wpIn_region_GR (fun w' => w'.cell? ⟨bA, 0, none⟩ = some (.map (some b)) ∧ w'.cell? ⟨Bx, 0, none⟩ = some (.bool e)) [] (by kernel_rfl) (by kernel_rfl) (fun ⟨_, _, h⟩ => h) ?_
        replace R := R.drew
        have HR := Lib.hid R
        have hS0 := Lib.hid (And.intro R.ba.cell R.bx.cell)
        clear R
        refine wpAnyG_take 0 (v := ?_) rfl (by kernel_rfl) (fun _ _ _ h => h) hS0.out (Or.inl ⟨by rfl, by intro w' hSw; (try dsimp only at hSw); go_simp; try with_reducible rfl⟩) ?_; (try simp only [Act.put, go_sem])
        refine wpAnyG_take 1 (v := ?_) rfl (by kernel_rfl) (fun _ _ _ h => h) hS0.out (Or.inl ⟨by rfl, by intro w' hSw; (try dsimp only at hSw); go_simp; try with_reducible rfl⟩) ?_; (try simp only [Act.put, go_sem])
        refine wpAnyG_take 2 (v := ?_) rfl (by kernel_rfl) (fun _ _ _ h => h) hS0.out (Or.inl ⟨by rfl, by intro w' hSw; (try dsimp only at hSw); go_simp; try with_reducible rfl⟩) ?_; (try simp only [Act.put, go_sem])
        refine wpAnyG_take 3 (v := ?_) rfl (by kernel_rfl) (fun _ _ _ h => h) hS0.out (Or.inl ⟨by rfl, by intro w' hSw; (try dsimp only at hSw); go_simp; try with_reducible rfl⟩) ?_; (try simp only [Act.put, go_sem])
        refine wpAnyG_one 4 (by kernel_rfl) rfl (fun K hK => ?_)
        go_simp
        refine (fWhole _ _ _).mono ?_
        rintro e1 w2 ⟨rfl, hb⟩
        have R := HR.out.call hb
        (try go_simp)
        refine hK.out _ _ (fun _ => ⟨R.ba.cell, R.bx.cell⟩) ?_
        clear hK K HR hS0
        refine wpAnyG_one 5 (by kernel_rfl) rfl (fun K hK => ?_)
        refine step_upd _ rfl (.tmp 35) (.tmp 38) (.tmp 39) _ rfl frKey Try.underlying61 b _ rfl R.map (0, x, e) ⟨0, false, true, 1⟩ rfl rfl ?_
        intro w3 hm hg
        replace R := R.upd hm hg hb0 hb1
        refine hK.out _ _ (fun _ => ⟨R.ba.cell, R.bx.cell⟩) ?_
        have kv : KeepsFrom W.heap.size V w3 := ((KeepsOthers.drew V).from _).trans ((KeepsFrom.of_below hb).trans (KeepsFrom.of_grownBy hg (fun j e' => by simp at e'; omega)))
        clear hK K hm hg hb
        refine wpAnyG_done (by kernel_rfl) ?_ _
        gi_wp2
        exact ⟨kv, trivial, by show TabR w W W0.heap.size b bA Bx e (foldK e (ks ++ [x]) (foldR pre)) w3; rw [E1.out]; exact R⟩
    case done2 =>
      rintro ks V rfl R
      have hl3 : W0.heap.size ≤ W.heap.size := by
        have := (Array.getElem?_eq_some_iff.1 hr).1
        omega
      have hlt42 : b < V.heap.size := R.map.lt
      gi_wp2
      have q : Blk (V.alloc (.cells #[.int .u8 1, .int .u8 0] 5)) V.heap.size 5 #[.int .u8 1, .int .u8 0] := Blk.new _ _ _
      replace R := R.alloc (.cells #[.int .u8 1, .int .u8 0] 5)
      have hbV42 : b < V.heap.size := hlt42
      gi_loopw [42] (fun v wr => ∃ k : Nat, k ≤ 2 ∧ v = .int .i64 k ∧ TabR w W W0.heap.size b bA Bx e (fold2 e ([1, 0].take k) (foldK e [1, 0, 3, 8] (foldR pre))) wr ∧ Blk wr V.heap.size 5 #[.int .u8 1, .int .u8 0]) (fun v _ => 2 - (intOf v).toNat)
      case atStart => exact ⟨0, by omega, rfl, R, q⟩
      case round =>
        clear R q
        obtain ⟨k, hk, rfl, R, q⟩ := hrel
        rcases (by omega : k = 0 ∨ k = 1 ∨ k = 2) with rfl | rfl | rfl
        · have zq := q.at 0 rfl
          gi_wp2
          clear zq
          have R := R
          refine wpIn_region_GR (fun w' => w'.cell? ⟨bA, 0, none⟩ = some (.map (some b)) ∧ w'.cell? ⟨Bx, 0, none⟩ = some (.bool e)) [] (by kernel_rfl) (by kernel_rfl) (fun ⟨_, _, h⟩ => h) ?_
          replace R := R.drew
          have HR := Lib.hid R
          have hS0 := Lib.hid (And.intro R.ba.cell R.bx.cell)
          clear R
          have HQ := Lib.hid q
          clear q
          refine wpAnyG_take 0 (v := ?_) rfl (by kernel_rfl) (fun _ _ _ h => h) hS0.out (Or.inl ⟨by rfl, by intro w' hSw; (try dsimp only at hSw); go_simp; try with_reducible rfl⟩) ?_; (try simp only [Act.put, go_sem])
          refine wpAnyG_take 1 (v := ?_) rfl (by kernel_rfl) (fun _ _ _ h => h) hS0.out (Or.inl ⟨by rfl, by intro w' hSw; (try dsimp only at hSw); go_simp; try with_reducible rfl⟩) ?_; (try simp only [Act.put, go_sem])
          refine wpAnyG_take 2 (v := ?_) rfl (by kernel_rfl) (fun _ _ _ h => h) hS0.out (Or.inl ⟨by rfl, by intro w' hSw; (try dsimp only at hSw); go_simp; try with_reducible rfl⟩) ?_; (try simp only [Act.put, go_sem])
          refine wpAnyG_take 3 (v := ?_) rfl (by kernel_rfl) (fun _ _ _ h => h) hS0.out (Or.inl ⟨by rfl, by intro w' hSw; (try dsimp only at hSw); go_simp; try with_reducible rfl⟩) ?_; (try simp only [Act.put, go_sem])
          refine wpAnyG_one 4 (by kernel_rfl) rfl (fun K hK => ?_)
          go_simp
          refine (fReset _ _).mono ?_
          rintro e1 w2 ⟨rfl, hb⟩
          have R := HR.out.call hb
          (try go_simp)
          refine hK.out _ _ (fun _ => ⟨R.ba.cell, R.bx.cell⟩) ?_
          clear hK K HR hS0
          refine wpAnyG_one 5 (by kernel_rfl) rfl (fun K hK => ?_)
          refine step_upd _ rfl (.tmp 46) (.tmp 49) (.tmp 50) _ rfl frKey Try.underlying61 b _ rfl R.map (2, 1, e) ⟨5, false, false, 5⟩ rfl rfl ?_
          intro w3 hm hg
          replace R := R.upd hm hg hb0 hb1
          refine hK.out _ _ (fun _ => ⟨R.ba.cell, R.bx.cell⟩) ?_
          have q := ((HQ.out.drew).below hb).grown hg (by omega)
          clear hK K hm hg hb HQ
          refine wpAnyG_done (by kernel_rfl) ?_ _
          gi_wp2
          have R := R
          refine wpIn_region_GR (fun w' => w'.cell? ⟨bA, 0, none⟩ = some (.map (some b)) ∧ w'.cell? ⟨Bx, 0, none⟩ = some (.bool e)) [] (by kernel_rfl) (by kernel_rfl) (fun ⟨_, _, h⟩ => h) ?_
          replace R := R.drew
          have HR := Lib.hid R
          have hS0 := Lib.hid (And.intro R.ba.cell R.bx.cell)
          clear R
          have HQ := Lib.hid q
          clear q
          refine wpAnyG_take 0 (v := ?_) rfl (by kernel_rfl) (fun _ _ _ h => h) hS0.out (Or.inl ⟨by rfl, by intro w' hSw; (try dsimp only at hSw); go_simp; try with_reducible rfl⟩) ?_; (try simp only [Act.put, go_sem])
          refine wpAnyG_take 1 (v := ?_) rfl (by kernel_rfl) (fun _ _ _ h => h) hS0.out (Or.inl ⟨by rfl, by intro w' hSw; (try dsimp only at hSw); go_simp; try with_reducible rfl⟩) ?_; (try simp only [Act.put, go_sem])
          refine wpAnyG_take 2 (v := ?_) rfl (by kernel_rfl) (fun _ _ _ h => h) hS0.out (Or.inl ⟨by rfl, by intro w' hSw; (try dsimp only at hSw); go_simp; try with_reducible rfl⟩) ?_; (try simp only [Act.put, go_sem])
          refine wpAnyG_take 3 (v := ?_) rfl (by kernel_rfl) (fun _ _ _ h => h) hS0.out (Or.inl ⟨by rfl, by intro w' hSw; (try dsimp only at hSw); go_simp; try with_reducible rfl⟩) ?_; (try simp only [Act.put, go_sem])
          refine wpAnyG_one 4 (by kernel_rfl) rfl (fun K hK => ?_)
          go_simp
          refine (fWhole _ _ _).mono ?_
          rintro e1 w2 ⟨rfl, hb⟩
          have R := HR.out.call hb
          (try go_simp)
          refine hK.out _ _ (fun _ => ⟨R.ba.cell, R.bx.cell⟩) ?_
          clear hK K HR hS0
          refine wpAnyG_one 5 (by kernel_rfl) rfl (fun K hK => ?_)
          refine step_upd _ rfl (.tmp 51) (.tmp 54) (.tmp 55) _ rfl frKey Try.underlying61 b _ rfl R.map (4, 1, e) ⟨4, false, true, 5⟩ rfl rfl ?_
          intro w3 hm hg
          replace R := R.upd hm hg hb0 hb1
          refine hK.out _ _ (fun _ => ⟨R.ba.cell, R.bx.cell⟩) ?_
          have q := ((HQ.out.drew).below hb).grown hg (by omega)
          clear hK K hm hg hb HQ
          refine wpAnyG_done (by kernel_rfl) ?_ _
          gi_wp2
          have R := R
          refine wpIn_region_GR (fun w' => w'.cell? ⟨bA, 0, none⟩ = some (.map (some b)) ∧ w'.cell? ⟨Bx, 0, none⟩ = some (.bool e)) [] (by kernel_rfl) (by kernel_rfl) (fun ⟨_, _, h⟩ => h) ?_
          replace R := R.drew
          have HR := Lib.hid R
          have hS0 := Lib.hid (And.intro R.ba.cell R.bx.cell)
          clear R
          have HQ := Lib.hid q
          clear q
          refine wpAnyG_take 0 (v := ?_) rfl (by kernel_rfl) (fun _ _ _ h => h) hS0.out (Or.inl ⟨by rfl, by intro w' hSw; (try dsimp only at hSw); go_simp; try with_reducible rfl⟩) ?_; (try simp only [Act.put, go_sem])
          refine wpAnyG_take 1 (v := ?_) rfl (by kernel_rfl) (fun _ _ _ h => h) hS0.out (Or.inl ⟨by rfl, by intro w' hSw; (try dsimp only at hSw); go_simp; try with_reducible rfl⟩) ?_; (try simp only [Act.put, go_sem])
          refine wpAnyG_take 2 (v := ?_) rfl (by kernel_rfl) (fun _ _ _ h => h) hS0.out (Or.inl ⟨by rfl, by intro w' hSw; (try dsimp only at hSw); go_simp; try with_reducible rfl⟩) ?_; (try simp only [Act.put, go_sem])
          refine wpAnyG_take 3 (v := ?_) rfl (by kernel_rfl) (fun _ _ _ h => h) hS0.out (Or.inl ⟨by rfl, by intro w' hSw; (try dsimp only at hSw); go_simp; try with_reducible rfl⟩) ?_; (try simp only [Act.put, go_sem])
          refine wpAnyG_one 4 (by kernel_rfl) rfl (fun K hK => ?_)
          go_simp
          refine (fWhole _ _ _).mono ?_
          rintro e1 w2 ⟨rfl, hb⟩
          have R := HR.out.call hb
          (try go_simp)
          refine hK.out _ _ (fun _ => ⟨R.ba.cell, R.bx.cell⟩) ?_
          clear hK K HR hS0
          refine wpAnyG_one 5 (by kernel_rfl) rfl (fun K hK => ?_)
          refine step_upd _ rfl (.tmp 56) (.tmp 59) (.tmp 60) _ rfl frKey Try.underlying61 b _ rfl R.map (6, 1, e) ⟨6, false, true, 5⟩ rfl rfl ?_
          intro w3 hm hg
          replace R := R.upd hm hg hb0 hb1
          refine hK.out _ _ (fun _ => ⟨R.ba.cell, R.bx.cell⟩) ?_
          have q := ((HQ.out.drew).below hb).grown hg (by omega)
          clear hK K hm hg hb HQ
          refine wpAnyG_done (by kernel_rfl) ?_ _
          gi_wp2
          exact ⟨⟨1, by omega, by simp, R, q⟩, by simp [intOf]⟩
        · have zq := q.at 1 rfl
          gi_wp2
          clear zq
          have R := R
          refine wpIn_region_GR (fun w' => w'.cell? ⟨bA, 0, none⟩ = some (.map (some b)) ∧ w'.cell? ⟨Bx, 0, none⟩ = some (.bool e)) [] (by kernel_rfl) (by kernel_rfl) (fun ⟨_, _, h⟩ => h) ?_
          replace R := R.drew
          have HR := Lib.hid R
          have hS0 := Lib.hid (And.intro R.ba.cell R.bx.cell)
          clear R
          have HQ := Lib.hid q
          clear q
          refine wpAnyG_take 0 (v := ?_) rfl (by kernel_rfl) (fun _ _ _ h => h) hS0.out (Or.inl ⟨by rfl, by intro w' hSw; (try dsimp only at hSw); go_simp; try with_reducible rfl⟩) ?_; (try simp only [Act.put, go_sem])
          refine wpAnyG_take 1 (v := ?_) rfl (by kernel_rfl) (fun _ _ _ h => h) hS0.out (Or.inl ⟨by rfl, by intro w' hSw; (try dsimp only at hSw); go_simp; try with_reducible rfl⟩) ?_; (try simp only [Act.put, go_sem])
          refine wpAnyG_take 2 (v := ?_) rfl (by kernel_rfl) (fun _ _ _ h => h) hS0.out (Or.inl ⟨by rfl, by intro w' hSw; (try dsimp only at hSw); go_simp; try with_reducible rfl⟩) ?_; (try simp only [Act.put, go_sem])
          refine wpAnyG_take 3 (v := ?_) rfl (by kernel_rfl) (fun _ _ _ h => h) hS0.out (Or.inl ⟨by rfl, by intro w' hSw; (try dsimp only at hSw); go_simp; try with_reducible rfl⟩) ?_; (try simp only [Act.put, go_sem])
          refine wpAnyG_one 4 (by kernel_rfl) rfl (fun K hK => ?_)
          go_simp
          refine (fReset _ _).mono ?_
          rintro e1 w2 ⟨rfl, hb⟩
          have R := HR.out.call hb
          (try go_simp)
          refine hK.out _ _ (fun _ => ⟨R.ba.cell, R.bx.cell⟩) ?_
          clear hK K HR hS0
          refine wpAnyG_one 5 (by kernel_rfl) rfl (fun K hK => ?_)
          refine step_upd _ rfl (.tmp 46) (.tmp 49) (.tmp 50) _ rfl frKey Try.underlying61 b _ rfl R.map (2, 0, e) ⟨5, false, false, 5⟩ rfl rfl ?_
          intro w3 hm hg
          replace R := R.upd hm hg hb0 hb1
          refine hK.out _ _ (fun _ => ⟨R.ba.cell, R.bx.cell⟩) ?_
          have q := ((HQ.out.drew).below hb).grown hg (by omega)
          clear hK K hm hg hb HQ
          refine wpAnyG_done (by kernel_rfl) ?_ _
          gi_wp2
          have R := R
          refine wpIn_region_GR (fun w' => w'.cell? ⟨bA, 0, none⟩ = some (.map (some b)) ∧ w'.cell? ⟨Bx, 0, none⟩ = some (.bool e)) [] (by kernel_rfl) (by kernel_rfl) (fun ⟨_, _, h⟩ => h) ?_
          replace R := R.drew
          have HR := Lib.hid R
          have hS0 := Lib.hid (And.intro R.ba.cell R.bx.cell)
          clear R
          have HQ := Lib.hid q
          clear q
          refine wpAnyG_take 0 (v := ?_) rfl (by kernel_rfl) (fun _ _ _ h => h) hS0.out (Or.inl ⟨by rfl, by intro w' hSw; (try dsimp only at hSw); go_simp; try with_reducible rfl⟩) ?_; (try simp only [Act.put, go_sem])
          refine wpAnyG_take 1 (v := ?_) rfl (by kernel_rfl) (fun _ _ _ h => h) hS0.out (Or.inl ⟨by rfl, by intro w' hSw; (try dsimp only at hSw); go_simp; try with_reducible rfl⟩) ?_; (try simp only [Act.put, go_sem])
          refine wpAnyG_take 2 (v := ?_) rfl (by kernel_rfl) (fun _ _ _ h => h) hS0.out (Or.inl ⟨by rfl, by intro w' hSw; (try dsimp only at hSw); go_simp; try with_reducible rfl⟩) ?_; (try simp only [Act.put, go_sem])
          refine wpAnyG_take 3 (v := ?_) rfl (by kernel_rfl) (fun _ _ _ h => h) hS0.out (Or.inl ⟨by rfl, by intro w' hSw; (try dsimp only at hSw); go_simp; try with_reducible rfl⟩) ?_; (try simp only [Act.put, go_sem])
          refine wpAnyG_one 4 (by kernel_rfl) rfl (fun K hK => ?_)
          go_simp
          refine (fWhole _ _ _).mono ?_
          rintro e1 w2 ⟨rfl, hb⟩
          have R := HR.out.call hb
          (try go_simp)
          refine hK.out _ _ (fun _ => ⟨R.ba.cell, R.bx.cell⟩) ?_
          clear hK K HR hS0
          refine wpAnyG_one 5 (by kernel_rfl) rfl (fun K hK => ?_)
          refine step_upd _ rfl (.tmp 51) (.tmp 54) (.tmp 55) _ rfl frKey Try.underlying61 b _ rfl R.map (4, 0, e) ⟨4, false, true, 5⟩ rfl rfl ?_
          intro w3 hm hg
          replace R := R.upd hm hg hb0 hb1
          refine hK.out _ _ (fun _ => ⟨R.ba.cell, R.bx.cell⟩) ?_
          have q := ((HQ.out.drew).below hb).grown hg (by omega)
          clear hK K hm hg hb HQ
          refine wpAnyG_done (by kernel_rfl) ?_ _
          gi_wp2
          have R := R
          refine wpIn_region_GR (fun w' => w'.cell? ⟨bA, 0, none⟩ = some (.map (some b)) ∧ w'.cell? ⟨Bx, 0, none⟩ = some (.bool e)) [] (by kernel_rfl) (by kernel_rfl) (fun ⟨_, _, h⟩ => h) ?_
          replace R := R.drew
          have HR := Lib.hid R
          have hS0 := Lib.hid (And.intro R.ba.cell R.bx.cell)
          clear R
          have HQ := Lib.hid q
          clear q
          refine wpAnyG_take 0 (v := ?_) rfl (by kernel_rfl) (fun _ _ _ h => h) hS0.out (Or.inl ⟨by rfl, by intro w' hSw; (try dsimp only at hSw); go_simp; try with_reducible rfl⟩) ?_; (try simp only [Act.put, go_sem])
          refine wpAnyG_take 1 (v := ?_) rfl (by kernel_rfl) (fun _ _ _ h => h) hS0.out (Or.inl ⟨by rfl, by intro w' hSw; (try dsimp only at hSw); go_simp; try with_reducible rfl⟩) ?_; (try simp only [Act.put, go_sem])
          refine wpAnyG_take 2 (v := ?_) rfl (by kernel_rfl) (fun _ _ _ h => h) hS0.out (Or.inl ⟨by rfl, by intro w' hSw; (try dsimp only at hSw); go_simp; try with_reducible rfl⟩) ?_; (try simp only [Act.put, go_sem])
          refine wpAnyG_take 3 (v := ?_) rfl (by kernel_rfl) (fun _ _ _ h => h) hS0.out (Or.inl ⟨by rfl, by intro w' hSw; (try dsimp only at hSw); go_simp; try with_reducible rfl⟩) ?_; (try simp only [Act.put, go_sem])
          refine wpAnyG_one 4 (by kernel_rfl) rfl (fun K hK => ?_)
          go_simp
          refine (fWhole _ _ _).mono ?_
          rintro e1 w2 ⟨rfl, hb⟩
          have R := HR.out.call hb
          (try go_simp)
          refine hK.out _ _ (fun _ => ⟨R.ba.cell, R.bx.cell⟩) ?_
          clear hK K HR hS0
          refine wpAnyG_one 5 (by kernel_rfl) rfl (fun K hK => ?_)
          refine step_upd _ rfl (.tmp 56) (.tmp 59) (.tmp 60) _ rfl frKey Try.underlying61 b _ rfl R.map (6, 0, e) ⟨6, false, true, 5⟩ rfl rfl ?_
          intro w3 hm hg
          replace R := R.upd hm hg hb0 hb1
          refine hK.out _ _ (fun _ => ⟨R.ba.cell, R.bx.cell⟩) ?_
          have q := ((HQ.out.drew).below hb).grown hg (by omega)
          clear hK K hm hg hb HQ
          refine wpAnyG_done (by kernel_rfl) ?_ _
          gi_wp2
          exact ⟨⟨2, by omega, by simp, R, q⟩, by simp [intOf]⟩
        · clear q
          rename World => w5
          have hlt64 : b < w5.heap.size := R.map.lt
          gi_wp2
          have q : Blk (w5.alloc (.cells #[.int .u8 1, .int .u8 2, .int .u8 3] 5)) w5.heap.size 5 #[.int .u8 1, .int .u8 2, .int .u8 3] := Blk.new _ _ _
          replace R := R.alloc (.cells #[.int .u8 1, .int .u8 2, .int .u8 3] 5)
          have hbV64 : b < w5.heap.size := hlt64
          gi_loopw [64] (fun v wr => ∃ k : Nat, k ≤ 3 ∧ v = .int .i64 k ∧ TabR w W W0.heap.size b bA Bx e (fold3 e ([1, 2, 3].take k) (fold2 e [1, 0] (foldK e [1, 0, 3, 8] (foldR pre)))) wr ∧ Blk wr w5.heap.size 5 #[.int .u8 1, .int .u8 2, .int .u8 3]) (fun v _ => 3 - (intOf v).toNat)
          case atStart => exact ⟨0, by omega, rfl, R, q⟩
          case round =>
            clear R q
            obtain ⟨k, hk, rfl, R, q⟩ := hrel
            rcases (by omega : k = 0 ∨ k = 1 ∨ k = 2 ∨ k = 3) with rfl | rfl | rfl | rfl
            · have zq := q.at 0 rfl
              gi_wp2
              clear zq
              have R := R
              refine wpIn_region_GR (fun w' => w'.cell? ⟨bA, 0, none⟩ = some (.map (some b)) ∧ w'.cell? ⟨Bx, 0, none⟩ = some (.bool e)) [] (by kernel_rfl) (by kernel_rfl) (fun ⟨_, _, h⟩ => h) ?_
              replace R := R.drew
              have HR := Lib.hid R
              have hS0 := Lib.hid (And.intro R.ba.cell R.bx.cell)
              clear R
              have HQ := Lib.hid q
              clear q
              refine wpAnyG_take 0 (v := ?_) rfl (by kernel_rfl) (fun _ _ _ h => h) hS0.out (Or.inl ⟨by rfl, by intro w' hSw; (try dsimp only at hSw); go_simp; try with_reducible rfl⟩) ?_; (try simp only [Act.put, go_sem])
              refine wpAnyG_take 1 (v := ?_) rfl (by kernel_rfl) (fun _ _ _ h => h) hS0.out (Or.inl ⟨by rfl, by intro w' hSw; (try dsimp only at hSw); go_simp; try with_reducible rfl⟩) ?_; (try simp only [Act.put, go_sem])
              refine wpAnyG_take 2 (v := ?_) rfl (by kernel_rfl) (fun _ _ _ h => h) hS0.out (Or.inl ⟨by rfl, by intro w' hSw; (try dsimp only at hSw); go_simp; try with_reducible rfl⟩) ?_; (try simp only [Act.put, go_sem])
              refine wpAnyG_take 3 (v := ?_) rfl (by kernel_rfl) (fun _ _ _ h => h) hS0.out (Or.inl ⟨by rfl, by intro w' hSw; (try dsimp only at hSw); go_simp; try with_reducible rfl⟩) ?_; (try simp only [Act.put, go_sem])
              refine wpAnyG_one 4 (by kernel_rfl) rfl (fun K hK => ?_)
              go_simp
              refine (fTook _ _).mono ?_
              rintro e1 w2 ⟨rfl, hb⟩
              have R := HR.out.call hb
              (try go_simp)
              refine hK.out _ _ (fun _ => ⟨R.ba.cell, R.bx.cell⟩) ?_
              clear hK K HR hS0
              refine wpAnyG_one 5 (by kernel_rfl) rfl (fun K hK => ?_)
              refine step_upd _ rfl (.tmp 68) (.tmp 71) (.tmp 72) _ rfl frKey Try.underlying61 b _ rfl R.map (1, 3, e) ⟨6, true, false, 0⟩ rfl rfl ?_
              intro w3 hm hg
              replace R := R.upd hm hg hb0 hb1
              refine hK.out _ _ (fun _ => ⟨R.ba.cell, R.bx.cell⟩) ?_
              have q := ((HQ.out.drew).below hb).grown hg (by omega)
              clear hK K hm hg hb HQ
              refine wpAnyG_done (by kernel_rfl) ?_ _
              gi_wp2
              have R := R
              refine wpIn_region_GR (fun w' => w'.cell? ⟨bA, 0, none⟩ = some (.map (some b)) ∧ w'.cell? ⟨Bx, 0, none⟩ = some (.bool e)) [] (by kernel_rfl) (by kernel_rfl) (fun ⟨_, _, h⟩ => h) ?_
              replace R := R.drew
              have HR := Lib.hid R
              have hS0 := Lib.hid (And.intro R.ba.cell R.bx.cell)
              clear R
              have HQ := Lib.hid q
              clear q
              refine wpAnyG_take 0 (v := ?_) rfl (by kernel_rfl) (fun _ _ _ h => h) hS0.out (Or.inl ⟨by rfl, by intro w' hSw; (try dsimp only at hSw); go_simp; try with_reducible rfl⟩) ?_; (try simp only [Act.put, go_sem])
              refine wpAnyG_take 1 (v := ?_) rfl (by kernel_rfl) (fun _ _ _ h => h) hS0.out (Or.inl ⟨by rfl, by intro w' hSw; (try dsimp only at hSw); go_simp; try with_reducible rfl⟩) ?_; (try simp only [Act.put, go_sem])
              refine wpAnyG_take 2 (v := ?_) rfl (by kernel_rfl) (fun _ _ _ h => h) hS0.out (Or.inl ⟨by rfl, by intro w' hSw; (try dsimp only at hSw); go_simp; try with_reducible rfl⟩) ?_; (try simp only [Act.put, go_sem])
              refine wpAnyG_take 3 (v := ?_) rfl (by kernel_rfl) (fun _ _ _ h => h) hS0.out (Or.inl ⟨by rfl, by intro w' hSw; (try dsimp only at hSw); go_simp; try with_reducible rfl⟩) ?_; (try simp only [Act.put, go_sem])
              refine wpAnyG_take 4 (v := ?_) rfl (by kernel_rfl) (fun _ _ _ h => h) hS0.out (Or.inl ⟨by rfl, by intro w' hSw; (try dsimp only at hSw); go_simp; try with_reducible rfl⟩) ?_; (try simp only [Act.put, go_sem])
              refine wpAnyG_one 5 (by kernel_rfl) rfl (fun K hK => ?_)
              go_simp
              refine (fTook _ _).mono ?_
              rintro e1 w2 ⟨rfl, hb⟩
              have R := HR.out.call hb
              (try go_simp)
              refine hK.out _ _ (fun _ => ⟨R.ba.cell, R.bx.cell⟩) ?_
              clear hK K HR hS0
              refine wpAnyG_one 6 (by kernel_rfl) rfl (fun K hK => ?_)
              refine step_upd _ rfl (.tmp 73) (.tmp 76) (.tmp 78) _ rfl frKey Try.underlying61 b _ rfl R.map (1, 8, e) ⟨1, true, false, 0⟩ rfl rfl ?_
              intro w3 hm hg
              replace R := R.upd hm hg hb0 hb1
              refine hK.out _ _ (fun _ => ⟨R.ba.cell, R.bx.cell⟩) ?_
              have q := ((HQ.out.drew).below hb).grown hg (by omega)
              clear hK K hm hg hb HQ
              refine wpAnyG_done (by kernel_rfl) ?_ _
              gi_wp2
              refine ⟨?_, by simp [intOf]⟩
              repeat apply Exists.intro
              exact ⟨⟨1, by omega, by simp, R, q⟩, rfl⟩
            · have zq := q.at 1 rfl
              gi_wp2
              clear zq
              have R := R
              refine wpIn_region_GR (fun w' => w'.cell? ⟨bA, 0, none⟩ = some (.map (some b)) ∧ w'.cell? ⟨Bx, 0, none⟩ = some (.bool e)) [] (by kernel_rfl) (by kernel_rfl) (fun ⟨_, _, h⟩ => h) ?_
              replace R := R.drew
              have HR := Lib.hid R
              have hS0 := Lib.hid (And.intro R.ba.cell R.bx.cell)
              clear R
              have HQ := Lib.hid q
              clear q
              refine wpAnyG_take 0 (v := ?_) rfl (by kernel_rfl) (fun _ _ _ h => h) hS0.out (Or.inl ⟨by rfl, by intro w' hSw; (try dsimp only at hSw); go_simp; try with_reducible rfl⟩) ?_; (try simp only [Act.put, go_sem])
              refine wpAnyG_take 1 (v := ?_) rfl (by kernel_rfl) (fun _ _ _ h => h) hS0.out (Or.inl ⟨by rfl, by intro w' hSw; (try dsimp only at hSw); go_simp; try with_reducible rfl⟩) ?_; (try simp only [Act.put, go_sem])
              refine wpAnyG_take 2 (v := ?_) rfl (by kernel_rfl) (fun _ _ _ h => h) hS0.out (Or.inl ⟨by rfl, by intro w' hSw; (try dsimp only at hSw); go_simp; try with_reducible rfl⟩) ?_; (try simp only [Act.put, go_sem])
              refine wpAnyG_take 3 (v := ?_) rfl (by kernel_rfl) (fun _ _ _ h => h) hS0.out (Or.inl ⟨by rfl, by intro w' hSw; (try dsimp only at hSw); go_simp; try with_reducible rfl⟩) ?_; (try simp only [Act.put, go_sem])
              refine wpAnyG_one 4 (by kernel_rfl) rfl (fun K hK => ?_)
              go_simp
              refine (fTook _ _).mono ?_
              rintro e1 w2 ⟨rfl, hb⟩
              have R := HR.out.call hb
              (try go_simp)
              refine hK.out _ _ (fun _ => ⟨R.ba.cell, R.bx.cell⟩) ?_
              clear hK K HR hS0
              refine wpAnyG_one 5 (by kernel_rfl) rfl (fun K hK => ?_)
              refine step_upd _ rfl (.tmp 68) (.tmp 71) (.tmp 72) _ rfl frKey Try.underlying61 b _ rfl R.map (2, 3, e) ⟨6, true, false, 0⟩ rfl rfl ?_
              intro w3 hm hg
              replace R := R.upd hm hg hb0 hb1
              refine hK.out _ _ (fun _ => ⟨R.ba.cell, R.bx.cell⟩) ?_
              have q := ((HQ.out.drew).below hb).grown hg (by omega)
              clear hK K hm hg hb HQ
              refine wpAnyG_done (by kernel_rfl) ?_ _
              gi_wp2
              have R := R
              refine wpIn_region_GR (fun w' => w'.cell? ⟨bA, 0, none⟩ = some (.map (some b)) ∧ w'.cell? ⟨Bx, 0, none⟩ = some (.bool e)) [] (by kernel_rfl) (by kernel_rfl) (fun ⟨_, _, h⟩ => h) ?_
              replace R := R.drew
              have HR := Lib.hid R
              have hS0 := Lib.hid (And.intro R.ba.cell R.bx.cell)
              clear R
              have HQ := Lib.hid q
              clear q
              refine wpAnyG_take 0 (v := ?_) rfl (by kernel_rfl) (fun _ _ _ h => h) hS0.out (Or.inl ⟨by rfl, by intro w' hSw; (try dsimp only at hSw); go_simp; try with_reducible rfl⟩) ?_; (try simp only [Act.put, go_sem])
              refine wpAnyG_take 1 (v := ?_) rfl (by kernel_rfl) (fun _ _ _ h => h) hS0.out (Or.inl ⟨by rfl, by intro w' hSw; (try dsimp only at hSw); go_simp; try with_reducible rfl⟩) ?_; (try simp only [Act.put, go_sem])
              refine wpAnyG_take 2 (v := ?_) rfl (by kernel_rfl) (fun _ _ _ h => h) hS0.out (Or.inl ⟨by rfl, by intro w' hSw; (try dsimp only at hSw); go_simp; try with_reducible rfl⟩) ?_; (try simp only [Act.put, go_sem])
              refine wpAnyG_take 3 (v := ?_) rfl (by kernel_rfl) (fun _ _ _ h => h) hS0.out (Or.inl ⟨by rfl, by intro w' hSw; (try dsimp only at hSw); go_simp; try with_reducible rfl⟩) ?_; (try simp only [Act.put, go_sem])
              refine wpAnyG_take 4 (v := ?_) rfl (by kernel_rfl) (fun _ _ _ h => h) hS0.out (Or.inl ⟨by rfl, by intro w' hSw; (try dsimp only at hSw); go_simp; try with_reducible rfl⟩) ?_; (try simp only [Act.put, go_sem])
              refine wpAnyG_one 5 (by kernel_rfl) rfl (fun K hK => ?_)
              go_simp
              refine (fTook _ _).mono ?_
              rintro e1 w2 ⟨rfl, hb⟩
              have R := HR.out.call hb
              (try go_simp)
              refine hK.out _ _ (fun _ => ⟨R.ba.cell, R.bx.cell⟩) ?_
              clear hK K HR hS0
              refine wpAnyG_one 6 (by kernel_rfl) rfl (fun K hK => ?_)
              refine step_upd _ rfl (.tmp 73) (.tmp 76) (.tmp 78) _ rfl frKey Try.underlying61 b _ rfl R.map (2, 8, e) ⟨2, true, false, 0⟩ rfl rfl ?_
              intro w3 hm hg
              replace R := R.upd hm hg hb0 hb1
              refine hK.out _ _ (fun _ => ⟨R.ba.cell, R.bx.cell⟩) ?_
              have q := ((HQ.out.drew).below hb).grown hg (by omega)
              clear hK K hm hg hb HQ
              refine wpAnyG_done (by kernel_rfl) ?_ _
              gi_wp2
              refine ⟨?_, by simp [intOf]⟩
              repeat apply Exists.intro
              exact ⟨⟨2, by omega, by simp, R, q⟩, rfl⟩
            · have zq := q.at 2 rfl
              gi_wp2
              clear zq
              have R := R
              refine wpIn_region_GR (fun w' => w'.cell? ⟨bA, 0, none⟩ = some (.map (some b)) ∧ w'.cell? ⟨Bx, 0, none⟩ = some (.bool e)) [] (by kernel_rfl) (by kernel_rfl) (fun ⟨_, _, h⟩ => h) ?_
              replace R := R.drew
              have HR := Lib.hid R
              have hS0 := Lib.hid (And.intro R.ba.cell R.bx.cell)
              clear R
              have HQ := Lib.hid q
              clear q
              refine wpAnyG_take 0 (v := ?_) rfl (by kernel_rfl) (fun _ _ _ h => h) hS0.out (Or.inl ⟨by rfl, by intro w' hSw; (try dsimp only at hSw); go_simp; try with_reducible rfl⟩) ?_; (try simp only [Act.put, go_sem])
              refine wpAnyG_take 1 (v := ?_) rfl (by kernel_rfl) (fun _ _ _ h => h) hS0.out (Or.inl ⟨by rfl, by intro w' hSw; (try dsimp only at hSw); go_simp; try with_reducible rfl⟩) ?_; (try simp only [Act.put, go_sem])
              refine wpAnyG_take 2 (v := ?_) rfl (by kernel_rfl) (fun _ _ _ h => h) hS0.out (Or.inl ⟨by rfl, by intro w' hSw; (try dsimp only at hSw); go_simp; try with_reducible rfl⟩) ?_; (try simp only [Act.put, go_sem])
              refine wpAnyG_take 3 (v := ?_) rfl (by kernel_rfl) (fun _ _ _ h => h) hS0.out (Or.inl ⟨by rfl, by intro w' hSw; (try dsimp only at hSw); go_simp; try with_reducible rfl⟩) ?_; (try simp only [Act.put, go_sem])
              refine wpAnyG_one 4 (by kernel_rfl) rfl (fun K hK => ?_)
              go_simp
              refine (fTook _ _).mono ?_
              rintro e1 w2 ⟨rfl, hb⟩
              have R := HR.out.call hb
              (try go_simp)
              refine hK.out _ _ (fun _ => ⟨R.ba.cell, R.bx.cell⟩) ?_
              clear hK K HR hS0
              refine wpAnyG_one 5 (by kernel_rfl) rfl (fun K hK => ?_)
              refine step_upd _ rfl (.tmp 68) (.tmp 71) (.tmp 72) _ rfl frKey Try.underlying61 b _ rfl R.map (3, 3, e) ⟨6, true, false, 0⟩ rfl rfl ?_
              intro w3 hm hg
              replace R := R.upd hm hg hb0 hb1
              refine hK.out _ _ (fun _ => ⟨R.ba.cell, R.bx.cell⟩) ?_
              have q := ((HQ.out.drew).below hb).grown hg (by omega)
              clear hK K hm hg hb HQ
              refine wpAnyG_done (by kernel_rfl) ?_ _
              gi_wp2
              have R := R
              refine wpIn_region_GR (fun w' => w'.cell? ⟨bA, 0, none⟩ = some (.map (some b)) ∧ w'.cell? ⟨Bx, 0, none⟩ = some (.bool e)) [] (by kernel_rfl) (by kernel_rfl) (fun ⟨_, _, h⟩ => h) ?_
              replace R := R.drew
              have HR := Lib.hid R
              have hS0 := Lib.hid (And.intro R.ba.cell R.bx.cell)
              clear R
              have HQ := Lib.hid q
              clear q
              refine wpAnyG_take 0 (v := ?_) rfl (by kernel_rfl) (fun _ _ _ h => h) hS0.out (Or.inl ⟨by rfl, by intro w' hSw; (try dsimp only at hSw); go_simp; try with_reducible rfl⟩) ?_; (try simp only [Act.put, go_sem])
              refine wpAnyG_take 1 (v := ?_) rfl (by kernel_rfl) (fun _ _ _ h => h) hS0.out (Or.inl ⟨by rfl, by intro w' hSw; (try dsimp only at hSw); go_simp; try with_reducible rfl⟩) ?_; (try simp only [Act.put, go_sem])
              refine wpAnyG_take 2 (v := ?_) rfl (by kernel_rfl) (fun _ _ _ h => h) hS0.out (Or.inl ⟨by rfl, by intro w' hSw; (try dsimp only at hSw); go_simp; try with_reducible rfl⟩) ?_; (try simp only [Act.put, go_sem])
              refine wpAnyG_take 3 (v := ?_) rfl (by kernel_rfl) (fun _ _ _ h => h) hS0.out (Or.inl ⟨by rfl, by intro w' hSw; (try dsimp only at hSw); go_simp; try with_reducible rfl⟩) ?_; (try simp only [Act.put, go_sem])
              refine wpAnyG_take 4 (v := ?_) rfl (by kernel_rfl) (fun _ _ _ h => h) hS0.out (Or.inl ⟨by rfl, by intro w' hSw; (try dsimp only at hSw); go_simp; try with_reducible rfl⟩) ?_; (try simp only [Act.put, go_sem])
              refine wpAnyG_one 5 (by kernel_rfl) rfl (fun K hK => ?_)
              go_simp
              refine (fTook _ _).mono ?_
              rintro e1 w2 ⟨rfl, hb⟩
              have R := HR.out.call hb
              (try go_simp)
              refine hK.out _ _ (fun _ => ⟨R.ba.cell, R.bx.cell⟩) ?_
              clear hK K HR hS0
              refine wpAnyG_one 6 (by kernel_rfl) rfl (fun K hK => ?_)
              refine step_upd _ rfl (.tmp 73) (.tmp 76) (.tmp 78) _ rfl frKey Try.underlying61 b _ rfl R.map (3, 8, e) ⟨3, true, false, 0⟩ rfl rfl ?_
              intro w3 hm hg
              replace R := R.upd hm hg hb0 hb1
              refine hK.out _ _ (fun _ => ⟨R.ba.cell, R.bx.cell⟩) ?_
              have q := ((HQ.out.drew).below hb).grown hg (by omega)
              clear hK K hm hg hb HQ
              refine wpAnyG_done (by kernel_rfl) ?_ _
              gi_wp2
              refine ⟨?_, by simp [intOf]⟩
              repeat apply Exists.intro
              exact ⟨⟨3, by omega, by simp, R, q⟩, rfl⟩
            · gi_wp2
              exact ⟨R.kf, trivial, by rw [foldR_snoc]; exact R.map, R.ba, R.below⟩
    case stop2 =>
      rintro c ks V _ h
      exact h.elim
  case done =>
    rintro D zs W hD rfl ⟨hs1, hs2, hs3⟩ hK
    have cS := hs2.cell
    gi_wp2
    refine ⟨by simp, .inl ⟨_, _, rfl, run_takeDeferred hK, ?_⟩⟩
    have hne : b ≠ D := by omega
    exact ⟨_, results_tmp rfl _ _ _, b, rfl, hs1.kept (World.putObj_heap_other (by omega)), hs3.trans (belowK_b (w := w) (Nat.le_refl _) W D _ _ (by have := hb0'.size; omega) hK rfl rfl)⟩
  case stop =>
    rintro D c pre W _ _ h _
    exact h.elim
end Go.Proofs.Ytaaeflomjcpfpaa
