/- A map that the call made, as a function of its keys: what making, storing, looking up do with it; whatever the keys' type. -/
import Derived.Test.YthcnfalfhdeflaaRows
import Derived.WalkKit
import Derived.WalkLawsBesides
import Derived.WalkSpells
import Derived.Maps.Own
import Derived.Maps.OwnOps
namespace Go.Proofs.Ythcnfalfhdeflaa
open Go.RowKit Go.ChangeMaps
set_option linter.unusedVariables false

section
variable {κ : Type} [DecidableEq κ]
/-- The first entry of a key. -/
def look (x : κ) : List (κ × Value × Nat) → Nat → Option (Nat × Value)
  | [], _ => none
  | e :: r, i => if x = e.1 then some (i, e.2.1) else look x r (i + 1)
def upd (x : κ) (v : Value) (clock : Nat) : List (κ × Value × Nat) → List (κ × Value × Nat)
  | [] => [(x, v, clock)]
  | e :: r => if x = e.1 then (e.1, v, e.2.2) :: r else e :: upd x v clock r
def ent (enc : κ → Value) (e : κ × Value × Nat) : MapEntry := { key := enc e.1, val := e.2.1, born := e.2.2 }
theorem look_shift (x : κ) : ∀ (l : List (κ × Value × Nat)) (i : Nat), look x l i = (look x l 0).map fun p => (p.1 + i, p.2)
  | [], _ => rfl
  | e :: r, i => by
    unfold look
    split
    · simp
    · rw [look_shift x r (i + 1), look_shift x r (0 + 1)]
      cases look x r 0 <;> simp
      omega
theorem look_upd (x y : κ) (v : Value) (clock : Nat) : ∀ l : List (κ × Value × Nat), (look y (upd x v clock l) 0).map (·.2) = if y = x then some v else (look y l 0).map (·.2)
  | [] => by
    simp only [upd, look]
    split <;> rfl
  | e :: r => by
    unfold upd
    have ih := look_upd x y v clock r
    by_cases h : x = e.1
    · rw [if_pos h]
      unfold look
      simp only
      by_cases h2 : y = e.1
      · rw [if_pos h2, if_pos (by rw [h2, h]), Option.map_some]
      · rw [if_neg h2, if_neg (by rw [h]; exact h2), if_neg h2]
    · rw [if_neg h]
      unfold look
      by_cases h2 : y = e.1
      · rw [if_pos h2, if_pos h2, if_neg (by rw [h2]; exact fun e' => h e'.symm)]
      · rw [if_neg h2, if_neg h2, look_shift y _ 1, look_shift y r 1]
        cases h3 : look y (upd x v clock r) 0 <;> cases h4 : look y r 0 <;> simp [h3, h4] at ih ⊢ <;> exact ih
theorem upd_new (enc : κ → Value) (x : κ) (v : Value) (clock : Nat) : ∀ l : List (κ × Value × Nat), look x l 0 = none → upd x v clock l = l ++ [(x, v, clock)]
  | [], _ => rfl
  | e :: r, h => by
    unfold look at h
    split at h
    · cases h
    · rename_i h1
      unfold upd
      rw [if_neg h1, upd_new enc x v clock r (by rw [look_shift] at h; cases h2 : look x r 0 <;> simp [h2] at h ⊢)]
      rfl
theorem upd_old (enc : κ → Value) (x : κ) (v : Value) (clock : Nat) : ∀ (l : List (κ × Value × Nat)) (i : Nat) (u : Value), look x l 0 = some (i, u) →
    (l.map (ent enc)).modify i (fun e => { e with key := enc x, val := v }) = (upd x v clock l).map (ent enc) ∧ ∃ e, (l.map (ent enc))[i]? = some e ∧ e.key = enc x
  | [], _, _, h => by cases h
  | e :: r, i, u, h => by
    unfold look at h
    unfold upd
    split at h
    · rename_i h1
      simp at h
      obtain ⟨rfl, rfl⟩ := h
      rw [if_pos h1]
      exact ⟨by simp [ent, h1], _, rfl, by simp [ent, h1]⟩
    · rename_i h1
      rw [if_neg h1]
      rw [look_shift] at h
      cases h2 : look x r 0 with
      | none => simp [h2] at h
      | some p =>
        simp [h2] at h
        obtain ⟨rfl, rfl⟩ := h
        obtain ⟨h3, e', h4, h5⟩ := upd_old enc x v clock r p.1 p.2 h2
        exact ⟨by simp only [List.map_cons, List.modify_succ_cons, h3], e', by simpa using h4, h5⟩

/-- Keys of such a type: they may be keys; one is found as look finds it; it stays. -/
structure KeyOf (P : Program) (K : TypeId) (enc : κ → Value) : Prop where
  check : ∀ (w : World) (em : Bool) (x : κ), (Instr.checkKey em 10000 K (enc x)).run P w = .ok () w
  find : ∀ (w : World) (x : κ) (l : List (κ × Value × Nat)), (Instr.findKey K (enc x) (l.map (ent enc))).run P w = .ok (look x l 0) w
  stays : ∀ (w : World) (x : κ), (Instr.keyThatStays (enc x) (enc x)).run P w = .ok (enc x) w

/-- Block b is a map that holds m. -/
def MapF (enc : κ → Value) (w : World) (b : Nat) (m : κ → Option Value) : Prop :=
  ∃ (l : List (κ × Value × Nat)) (clock : Nat), w.heap[b]? = some (.map (l.map (ent enc)).toArray clock) ∧ ∀ x, (look x l 0).map (·.2) = m x

variable {enc : κ → Value} {w w' : World} {b : Nat} {m : κ → Option Value}
theorem MapF.made (w : World) : MapF enc (w.alloc (.map #[] 0)) w.heap.size (fun _ => none) := ⟨[], 0, (MapKept.heap_alloc w _).1, fun _ => rfl⟩
theorem MapF.lt (h : MapF enc w b m) : b < w.heap.size := by
  obtain ⟨l, c, hb, _⟩ := h
  exact (Array.getElem?_eq_some_iff.1 hb).1
theorem MapF.kept (h : MapF enc w b m) (hk : w'.heap[b]? = w.heap[b]?) : MapF enc w' b m := by
  obtain ⟨l, c, hb, hm⟩ := h
  exact ⟨l, c, hk.trans hb, hm⟩
theorem MapF.below (h : MapF enc w b m) (hb : Below w.heap.size w w') : MapF enc w' b m := h.kept (hb.block b h.lt)
theorem MapF.alloc (h : MapF enc w b m) (o : Obj) : MapF enc (w.alloc o) b m := h.kept (Below.heap_alloc w o b h.lt)

theorem MapF.lookup {P : Program} {t K e : TypeId} (h : MapF enc w b m) (KO : KeyOf P K enc) (ht : P.underlying t = some (.map K e)) {z : Value} (hz : (zeroValue e).run P w = .ok z w) (x : κ) :
    (Instr.lookup t (.map (some b)) (enc x) false).run P w = .ok ((m x).getD z) w := by
  obtain ⟨l, c, hb, hm⟩ := h
  have := hm x
  simp only [Instr.lookup, Sem.run_bind, run_underlying ht, Result.andThen_ok, MapKept.run_getObj_map hb, Sem.run_pure, KO.check, KO.find]
  cases hl : look x l 0 with
  | none => rw [hl] at this; simp [← this, hz]
  | some p => rw [hl] at this; simp [← this]
theorem MapF.lookup_ok {P : Program} {t K e : TypeId} (h : MapF enc w b m) (KO : KeyOf P K enc) (ht : P.underlying t = some (.map K e)) {z : Value} (hz : (zeroValue e).run P w = .ok z w) (x : κ) :
    (Instr.lookup t (.map (some b)) (enc x) true).run P w = .ok (.tuple #[(m x).getD z, .bool (m x).isSome]) w := by
  obtain ⟨l, c, hb, hm⟩ := h
  have := hm x
  simp only [Instr.lookup, Sem.run_bind, run_underlying ht, Result.andThen_ok, MapKept.run_getObj_map hb, Sem.run_pure, KO.check, KO.find]
  cases hl : look x l 0 with
  | none => rw [hl] at this; simp [← this, hz, Result.andThen]
  | some p => rw [hl] at this; simp [← this]

theorem MapF.update {P : Program} {t K e : TypeId} (h : MapF enc w b m) (KO : KeyOf P K enc) (ht : P.underlying t = some (.map K e)) (x : κ) (v : Value) :
    ∃ w', (Instr.mapUpdate t (.map (some b)) (enc x) v).run P w = .ok () w' ∧ MapF enc w' b (fun y => if y = x then some v else m y) ∧ w.grownBy w' (some b) := by
  obtain ⟨l, c, hb, hm⟩ := h
  have fin : ∀ c' : Nat, MapF enc (setBlock w b (.map ((upd x v c l).map (ent enc)).toArray c')) b (fun y => if y = x then some v else m y) ∧ w.grownBy (setBlock w b (.map ((upd x v c l).map (ent enc)).toArray c')) (some b) := fun c' =>
    ⟨⟨upd x v c l, c', heap_setBlock_same hb _, fun y => by rw [look_upd, hm y]⟩, ⟨rfl, rfl, rfl, by simp [setBlock], fun i _ hi => heap_setBlock_other hb _ (fun e => hi (by rw [e]))⟩⟩
  cases hl : look x l 0 with
  | none =>
    refine ⟨setBlock w b (.map ((upd x v c l).map (ent enc)).toArray (c + 1)), ?_, fin (c + 1)⟩
    have e1 : ((upd x v c l).map (ent enc)).toArray = (l.map (ent enc)).toArray.push { key := enc x, val := v, born := c } := by
      rw [upd_new enc x v c l hl]
      simp [ent]
    rw [e1]
    simp only [Instr.mapUpdate, Sem.run_bind, run_underlying ht, Result.andThen_ok, MapKept.run_getObj_map hb, KO.check, KO.find, hl]
    simp [MapKept.run_setObj_map _ hb, setBlock]
  | some p =>
    refine ⟨setBlock w b (.map ((upd x v c l).map (ent enc)).toArray c), ?_, fin c⟩
    obtain ⟨h1, e', h2, h3⟩ := upd_old enc x v c l p.1 p.2 hl
    have e1 : ((upd x v c l).map (ent enc)).toArray = (l.map (ent enc)).toArray.modify p.1 (fun e => { e with key := enc x, val := v }) := by
      rw [← h1]
      simp
    rw [e1]
    have h4 : ((((l.map (ent enc)).toArray[p.1]?).map (·.key)).getD (enc x)) = enc x := by
      rw [List.getElem?_toArray, h2, Option.map_some, Option.getD_some, h3]
    simp only [Instr.mapUpdate, Sem.run_bind, run_underlying ht, Result.andThen_ok, MapKept.run_getObj_map hb, KO.check, KO.find, hl, h4, KO.stays]
    simp [MapKept.run_setObj_map _ hb, setBlock]

/-- m[x] = v, at the operation. -/
theorem wpList_upd {P : Program} (w : World) {ops : Array Oper} {rest : List Oper} {o : Oper} {a : Act} {Q : Exit → Act → World → Prop}
    (hg : o.guard = none) (mo xo vo : Operand) (t : TypeId) (hop : o.op = Op.mapUpdate t mo xo vo) {K e : TypeId} (KO : KeyOf P K enc) (ht : P.underlying t = some (.map K e))
    (b : Nat) (m : κ → Option Value) (hm : a.eval mo = .map (some b)) (hown : MapF enc w b m) (x : κ) (v : Value) (hx : a.eval xo = enc x) (hv : a.eval vo = v)
    (hK : ∀ w', MapF enc w' b (fun y => if y = x then some v else m y) → w.grownBy w' (some b) → wpList P ops Q rest (a.put o.dst undef) w') :
    wpList P ops Q (o :: rest) a w := by
  refine wpList_plain hg fun K' hK' => ?_
  obtain ⟨w', hrun, r1, r2⟩ := hown.update KO ht x v
  unfold Oper.wp
  simp [execOp, hop, hm, hx, hv, hrun, Result.andThen]
  exact hK' _ _ (hK w' r1 r2)
/-- An entry of a literal, at the operation. -/
theorem wpList_ins {P : Program} (w : World) {ops : Array Oper} {rest : List Oper} {o : Oper} {a : Act} {Q : Exit → Act → World → Prop}
    (hg : o.guard = none) (mo xo vo : Operand) (t : TypeId) (hop : o.op = Op.insert t mo xo vo) {K e : TypeId} (KO : KeyOf P K enc) (ht : P.underlying t = some (.map K e))
    (b : Nat) (m : κ → Option Value) (hm : a.eval mo = .map (some b)) (hown : MapF enc w b m) (x : κ) (v : Value) (hx : a.eval xo = enc x) (hv : a.eval vo = v)
    (hK : ∀ w', MapF enc w' b (fun y => if y = x then some v else m y) → w.grownBy w' (some b) → wpList P ops Q rest (a.put o.dst undef) w') :
    wpList P ops Q (o :: rest) a w := by
  refine wpList_plain hg fun K' hK' => ?_
  obtain ⟨w', hrun, r1, r2⟩ := hown.update KO ht x v
  unfold Oper.wp
  simp [execOp, hop, hm, hx, hv, hrun, Result.andThen]
  exact hK' _ _ (hK w' r1 r2)
end

/-- Keys of an integer type. -/
theorem intKey {P : Program} {K : TypeId} {q : IntKind} (hk : P.underlying K = some (.int q)) : KeyOf P K (fun x : Int => Value.int q x) where
  check w em x := by
    show (Instr.checkKey em (9999 + 1) K (Value.int q x)).run P w = _
    rw [Instr.checkKey]
    simp [run_underlying hk]
  find w x l := by
    have h : ∀ (l : List (Int × Value × Nat)) (i : Nat), Instr.findNow (.int q) (Value.int q x) (l.map (ent fun x => Value.int q x)) i = some (look x l i) := by
      intro l
      induction l with
      | nil => intro i; rfl
      | cons e r ih =>
        intro i
        simp only [List.map_cons, Instr.findNow, ent, Instr.sameNow, if_true, look]
        by_cases h1 : x = e.1
        · rw [if_pos h1, h1]
          simp
        · have h2 : (x == e.1) = false := beq_eq_false_iff_ne.2 h1
          rw [if_neg h1, h2]
          exact ih (i + 1)
    simp [Instr.findKey, run_underlying hk, h]
  stays w x := by
    have h : Instr.sameBits (9999 + 1) (Value.int q x) (Value.int q x) = true := by simp [Instr.sameBits]
    unfold Instr.keyThatStays
    rw [show (10000 : Nat) = 9999 + 1 from rfl, h]
    rfl
end Go.Proofs.Ythcnfalfhdeflaa
