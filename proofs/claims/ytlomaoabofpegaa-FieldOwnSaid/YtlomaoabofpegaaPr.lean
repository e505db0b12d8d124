/- Words for slices of settings: one that is read, one that the call owns; append of one. -/
import Derived.Test.YtlomaoabofpegaaCu
import Derived.Test.YtlomaoabofpegaaA
namespace Go.Proofs.Ytlomaoabofpegaa
open Go.RowKit Go.ChangeShapes Go.WideShapes
set_option linter.unusedVariables false

def PBs (l : List (Int × Int)) : Prop := ∀ x ∈ l, (0 ≤ x.1 ∧ x.1 ≤ 65535) ∧ (0 ≤ x.2 ∧ x.2 ≤ 4294967295)
def pid (l : List (Int × Int)) (i : Nat) : Int := (l[i]?.getD (0, 0)).1
def pva (l : List (Int × Int)) (i : Nat) : Int := (l[i]?.getD (0, 0)).2
theorem PBs.nil : PBs [] := fun _ h => by cases h
theorem PBs.get {l : List (Int × Int)} (h : PBs l) (i : Nat) : (0 ≤ pid l i ∧ pid l i ≤ 65535) ∧ (0 ≤ pva l i ∧ pva l i ≤ 4294967295) := by
  unfold pid pva
  rcases Nat.lt_or_ge i l.length with hk | hk
  · rw [List.getElem?_eq_getElem hk]; exact h _ (List.getElem_mem hk)
  · rw [List.getElem?_eq_none hk]; exact ⟨⟨by decide, by decide⟩, ⟨by decide, by decide⟩⟩
theorem PBs.append {l m : List (Int × Int)} (h : PBs l) (k : PBs m) : PBs (l ++ m) := fun y hy => (List.mem_append.1 hy).elim (h y) (k y)
theorem PBs.one {x : Int × Int} (h : (0 ≤ x.1 ∧ x.1 ≤ 65535) ∧ (0 ≤ x.2 ∧ x.2 ≤ 4294967295)) : PBs [x] := fun y hy => by simp at hy; subst hy; exact h

/-- The slice at A of length n, capacity c reads as the settings l. -/
structure Prs (w : World) (A : Option Addr) (n c : Nat) (l : List (Int × Int)) : Prop where
  len : l.length = n
  cap : n ≤ c
  mx : c ≤ 9223372036854775807
  nn : A = none → c = 0
  bs : PBs l
  cell : 0 < n → ∃ b o, A = some ⟨b, o, none⟩ ∧ b < w.heap.size ∧ ∀ i, i < n → w.cell? ⟨b, o + i * 2, none⟩ = some (.int .u16 (pid l i)) ∧ w.cell? ⟨b, o + i * 2 + 1, none⟩ = some (.int .u32 (pva l i))
section
variable {w w' : World} {A : Option Addr} {n c : Nat} {l : List (Int × Int)}
theorem Prs.nil (w : World) : Prs w none 0 0 [] := ⟨rfl, Nat.le_refl _, by decide, fun _ => rfl, PBs.nil, fun h => absurd h (Nat.lt_irrefl _)⟩
theorem Prs.keep (h : Prs w A n c l) (hs : w.heap.size ≤ w'.heap.size) (hk : ∀ b o, b < w.heap.size → w'.cell? ⟨b, o, none⟩ = w.cell? ⟨b, o, none⟩) : Prs w' A n c l :=
  ⟨h.len, h.cap, h.mx, h.nn, h.bs, fun hn => by
    obtain ⟨b, o, e, hb, hc⟩ := h.cell hn
    exact ⟨b, o, e, by omega, fun i hi => ⟨(hk _ _ hb).trans (hc i hi).1, (hk _ _ hb).trans (hc i hi).2⟩⟩⟩
theorem Prs.below (h : Prs w A n c l) (hb : Below w.heap.size w w') : Prs w' A n c l := h.keep hb.size fun _ _ k => hb.cell k
theorem Prs.drew (h : Prs w A n c l) : Prs w.drew A n c l := h.keep (Nat.le_refl _) fun _ _ _ => rfl
theorem Prs.alloc (h : Prs w A n c l) (o : Obj) : Prs (w.alloc o) A n c l := h.keep (by simp) fun b q hb => World.cell?_alloc_lt w o ⟨b, q, none⟩ hb
end

def pcells (l : List (Int × Int)) : List Value := l.flatMap fun x => [Value.int .u16 x.1, Value.int .u32 x.2]
theorem pcells_len (l : List (Int × Int)) : (pcells l).length = l.length * 2 := by
  induction l with
  | nil => rfl
  | cons x r ih => simp only [pcells, List.flatMap_cons, List.length_append, List.length_cons, List.length_nil] at ih ⊢; omega
theorem pcells_app (l m : List (Int × Int)) : pcells (l ++ m) = pcells l ++ pcells m := by simp [pcells]
theorem pcells_at (l : List (Int × Int)) : ∀ i, i < l.length → (pcells l)[i * 2]? = some (.int .u16 (pid l i)) ∧ (pcells l)[i * 2 + 1]? = some (.int .u32 (pva l i)) := by
  induction l with
  | nil => intro i hi; simp at hi
  | cons x r ih =>
    intro i hi
    rcases i with _ | i
    · simp [pcells, pid, pva]
    · have h := ih i (by simpa using hi)
      have e : pcells (x :: r) = Value.int .u16 x.1 :: Value.int .u32 x.2 :: pcells r := by simp [pcells]
      rw [e, show (i + 1) * 2 = i * 2 + 1 + 1 by omega]
      simpa [pid, pva] using h

/-- A slice of the call's own. -/
def MineP (base : Nat) (w : World) (A : Option Addr) (n c : Nat) (l : List (Int × Int)) : Prop :=
  w.ownsRow base 47 2 (.slice A n c) n (pcells l) ∧ PBs l
section
variable {base : Nat} {w w' : World} {A : Option Addr} {n c : Nat} {l : List (Int × Int)}
theorem MineP.len (h : MineP base w A n c l) : l.length = n := by have := h.1.1; rw [pcells_len] at this; omega
theorem MineP.nil (base : Nat) (w : World) : MineP base w none 0 0 [] := ⟨World.ownsRow_nil w base _ 2, PBs.nil⟩
theorem MineP.keep (h : MineP base w A n c l) (hk : ∀ g, g < w.heap.size → A = some ⟨g, 0, none⟩ → w'.heap[g]? = w.heap[g]?) : MineP base w' A n c l := by
  refine ⟨⟨h.1.1, ?_⟩, h.2⟩
  rcases h.1.2 with h' | ⟨g, cap, cur, e, hb, hg, hr⟩
  · exact .inl h'
  · have e' : A = some ⟨g, 0, none⟩ := by simp at e; exact e.1
    exact .inr ⟨g, cap, cur, e, hb, (hk g (Array.getElem?_eq_some_iff.1 hg).1 e').trans hg, hr⟩
theorem MineP.below (h : MineP base w A n c l) (hb : Below w.heap.size w w') : MineP base w' A n c l := h.keep fun g hg _ => hb.block g hg
theorem MineP.alloc (h : MineP base w A n c l) (o : Obj) : MineP base (w.alloc o) A n c l := h.keep fun g hg _ => Below.heap_alloc w o g hg
theorem MineP.drew (h : MineP base w A n c l) : MineP base w.drew A n c l := h
theorem MineP.far (h : MineP base w A n c l) {p : Addr} (hp : ∀ g, A = some ⟨g, 0, none⟩ → g ≠ p.block) (v : Value) : MineP base (w.setCell p v) A n c l :=
  h.keep fun g _ e => Below.heap_setCell w p v g (hp g e)
theorem MineP.base_le (h : MineP base w A n c l) {b : Nat} (hb : b ≤ base) : MineP b w A n c l := by
  refine ⟨⟨h.1.1, ?_⟩, h.2⟩
  rcases h.1.2 with h' | ⟨g, cap, cur, e, hg, hr⟩
  · exact .inl h'
  · exact .inr ⟨g, cap, cur, e, by omega, hr⟩
theorem MineP.prs (h : MineP base w A n c l) : Prs w A n c l := by
  have hl := h.len
  rcases h.1.2 with ⟨e, h0⟩ | ⟨g, cap, cur, e, hb, hg, hnc, hcm, hcs, htake⟩
  · simp at e
    obtain ⟨rfl, _, rfl⟩ := e
    subst h0
    exact ⟨hl, Nat.le_refl _, by decide, fun _ => rfl, h.2, fun k => absurd k (Nat.lt_irrefl _)⟩
  · simp at e
    obtain ⟨rfl, rfl⟩ := e
    refine ⟨hl, hnc, by simpa [maxLen] using hcm, fun e => by simp at e, h.2, fun _ => ⟨g, 0, rfl, (Array.getElem?_eq_some_iff.1 hg).1, fun i hi => ?_⟩⟩
    have hc := h.1.cells (g := g) rfl
    have h1 := pcells_at l i (by omega)
    have c1 := hc (i * 2) _ h1.1
    have c2 := hc (i * 2 + 1) _ h1.2
    rw [add_plain] at c1 c2
    rw [Nat.zero_add] at c1 c2 ⊢
    exact ⟨c1, c2⟩
theorem MineP.lt (h : MineP base w A n c l) (g : Nat) (e : A = some ⟨g, 0, none⟩) : base ≤ g ∧ g < w.heap.size := by
  subst e
  exact h.1.lt g rfl
end

theorem infoP : (Try.prog.info? 47).map (fun i => (i.zero, i.size, i.bytes)) = some (some (.agg #[.int .u16 0, .int .u32 0]), 2, 8) := by kernel_rfl

/-- append(v, p): v of the call's own. -/
theorem wpList_appP (W : World) {ops : Array Oper} {rest : List Oper} {o : Oper} {a : Act} {Q : Exit → Act → World → Prop} (hgd : o.guard = none) (s x : Operand)
    (ho : o.op = .call { callee := .builtin .append, args := #[s, x], argTypes := #[25, 25] })
    (base : Nat) (A : Option Addr) (n c : Nat) (l : List (Int × Int)) (hs : a.eval s = .slice A n c) (hown : MineP base W A n c l) (p : Int × Int) {g0 : Nat} (hx : a.eval x = .slice (some ⟨g0, 0, none⟩) 1 1) (hg0 : W.heap.size = g0)
    (hp : (0 ≤ p.1 ∧ p.1 ≤ 65535) ∧ (0 ≤ p.2 ∧ p.2 ≤ 4294967295)) (hlen : n + 1 ≤ 1000000) (hbase : base ≤ W.heap.size)
    (h : ∀ A' c' w', MineP base w' A' (n + 1) c' (l ++ [p]) → Below base W w' → (W.alloc (.cells #[.int .u16 p.1, .int .u32 p.2] 47)).grownBy w' (Value.slice A n c).ownBlock → wpList Try.prog ops Q rest (a.put o.dst (.slice A' (n + 1) c')) w') :
    wpList Try.prog ops Q (o :: rest) a (W.alloc (.cells #[.int .u16 p.1, .int .u32 p.2] 47)) := by
  subst hg0
  obtain ⟨i0, hi, hz0, hz1, hz2⟩ := info_parts infoP
  have hl := hown.len
  refine wpList_append_own_at _ hgd s x 25 ho base 47 i0 (.agg #[.int .u16 0, .int .u32 0]) 2 8 Try.underlying25 hi hz0 hz1 hz2 rfl (by omega) (.slice A n c) n (pcells l) hs (hown.1.alloc _)
    ⟨W.heap.size, 0, none⟩ 1 1 [.int .u16 p.1, .int .u32 p.2] hx rfl (fun j u hu => ?_) (fun u hu => ?_) (by simp only [maxLen]; omega) (by omega) (by simp; omega) ?_
  · have hb := heap_alloc_new W (.cells #[.int .u16 p.1, .int .u32 p.2] 47)
    rcases j with _ | _ | j
    · simp at hu; subst hu
      exact (Blk.new W 47 #[.int .u16 p.1, .int .u32 p.2]).at 0 rfl
    · simp at hu; subst hu
      rw [add_plain]
      exact (Blk.new W 47 #[.int .u16 p.1, .int .u32 p.2]).at 1 rfl
    · simp at hu
  · simp at hu
    rcases hu with rfl | rfl <;> rfl
  · intro v' w' hown' hgrow _ _
    rcases hown'.2 with ⟨e, he⟩ | ⟨g, cap, cur, e, hr'⟩
    · omega
    · subst e
      refine h _ _ _ ⟨by rw [pcells_app]; exact hown', hown.2.append (PBs.one hp)⟩ (((Below.refl _ _).alloc hbase _).grown hgrow (by simp; omega) fun k hk => (hown.1.lt k hk).1) hgrow
end Go.Proofs.Ytlomaoabofpegaa
