/- What kinds read out of payloads. -/
import Derived.Test.YtnjnpnjjpodnnaaRGk
import Derived.Test.YtnjnpnjjpodnnaaRGs
namespace Go.Proofs.Ytnjnpnjjpodnnaa
open Go.RowKit Go.Shelf
set_option linter.unusedVariables false
set_option linter.unusedSimpArgs false

theorem nat_and8 : ∀ a : Fin 256, (a.1 &&& 8 != 0) = (a.1 &&& 8 == 8) := by decide +kernel
theorem nat_and32 : ∀ a : Fin 256, (a.1 &&& 32 == 0) = !(a.1 &&& 32 == 32) := by decide +kernel
theorem and8 (f : Int) (f0 : 0 ≤ f) (f1 : f ≤ 255) : (bits .and .u8 f 8 != 0) = hasB f 8 := by
  obtain ⟨b, rfl⟩ := toNat_lit f0
  rw [u8_and _ _ f0 (by omega) (by decide) (by decide)]
  have := nat_and8 ⟨b, by omega⟩
  unfold hasB
  simp only [Int.toNat_natCast]
  rw [show ((8 : Int).toNat) = 8 from rfl, ← this, Bool.eq_iff_iff]
  simp
theorem and32 (f : Int) (f0 : 0 ≤ f) (f1 : f ≤ 255) : (bits .and .u8 f 32 == 0) = !(hasB f 32) := by
  obtain ⟨b, rfl⟩ := toNat_lit f0
  rw [u8_and _ _ f0 (by omega) (by decide) (by decide)]
  have := nat_and32 ⟨b, by omega⟩
  unfold hasB
  simp only [Int.toNat_natCast]
  rw [show ((32 : Int).toNat) = 32 from rfl, ← this, Bool.eq_iff_iff]
  simp
theorem MineP.not_row {W : World} {b : Nat} {t : TypeId} {cs : Array Value} (h : Blk W b t cs) (ht : t ≠ 55) {base : Nat} {A : Option Addr} {n c : Nat} {l : List (Int × Int)} (hm : MineP base W A n c l) (g : Nat) (e : A = some ⟨g, 0, none⟩) : g ≠ b := fun eg => by
  subst eg
  rcases hm.1.2 with ⟨e', _⟩ | ⟨g', cap, cur, e', _, hg, _⟩
  · rw [e] at e'; simp at e'
  · rw [e] at e'
    simp at e'
    obtain ⟨rfl, _⟩ := e'
    have h' : W.heap[g]? = _ := h
    rw [h'] at hg
    simp at hg
    exact ht hg.2
theorem MineP.grownB {W W' : World} {g : Nat} {t : TypeId} {cs : Array Value} {base : Nat} {A : Option Addr} {n c : Nat} {l : List (Int × Int)} (hm : MineP base W A n c l) (q : Blk W g t cs) (ht : t ≠ 55) (hg : W.grownBy W' (some g)) : MineP base W' A n c l :=
  hm.keep fun g' hlt e => hg.block g' hlt (fun e' => MineP.not_row q ht hm g' e (by simpa using e'))
theorem Byt.grownP {w w' : World} {A : Option Addr} {n c : Nat} {l : List Int} (h : Byt w A n c l) {row : Option Nat} (hg : w.grownBy w' row) (hr : 0 < n → ∀ b o, A = some ⟨b, o, none⟩ → some b ≠ row) : Byt w' A n c l :=
  ⟨h.len, h.cap, h.mx, h.nn, h.bs, fun hn => by
    obtain ⟨b, q, e, hlt, hcell⟩ := h.cell hn
    exact ⟨b, q, e, Nat.lt_of_lt_of_le hlt hg.size, fun i hi => (World.cell?_of_block (hg.block b hlt (hr hn b q e))).trans (hcell i hi)⟩⟩
/-- What is told of reading: the block of a frame is written, nothing else. -/
def RdP (g : Nat) (r : Option Fm) (w : World) (e : Ending) (W' : World) : Prop :=
  w.grownBy W' (some g) ∧ match r with
  | some f => e = .returned (.bool true) ∧ ∃ B m d P pn pc, Blk W' g 30 #[.int .u8 (f).kd, .int .u8 (f).fl, .int .i64 (f).st, .slice B m d, .int .i64 (f).pd, .int .i64 (f).la, .int .i64 (f).ic, .int .u32 (f).cd, .slice P pn pc, .bool (f).rk, .bool (f).al, .int .i64 (f).dp, .int .u8 (f).wt] ∧ Mine w.heap.size W' B m d f.da ∧ MineP w.heap.size W' P pn pc f.prs
  | none => e = .returned (.bool false) ∧ ∃ cs, Blk W' g 30 cs ∧ cs.size = 13
set_option maxRecDepth 100000 in
set_option maxHeartbeats 1000000 in
theorem fPlain1 (kd fl st : Int) (g : Nat) (A : Option Addr) (n c : Nat) (l : List Int) (w : World) (q : Blk w g 30 #[.int .u8 kd, .int .u8 fl, .int .i64 st, .slice none 0 0, .int .i64 0, .int .i64 0, .int .i64 0, .int .u32 0, .slice none 0 0, .bool false, .bool false, .int .i64 0, .int .u8 0]) (h : Byt w A n c l) (hn : n ≤ 100000) : Calls Try.prog 90 #[.pointer (some ⟨g, 0, none⟩), .slice A n c] w (RdP g (some { fm0 kd fl st with da := l }) w) := by
  have gr := Gro.refl g w
  go_enter Try.func90, Try.ntmps90
  go_wp2_with (first | (go_at_call 41; (with_reducible refine (fClone A n c l _ h (by omega)).mono ?_); rintro e w9 ⟨B, d, rfl, m1, hb⟩; replace gr := gr.below hb; replace q := q.below hb; replace h := h.below hb; (try replace m1 := m1.below hb); clear hb) | ((with_reducible refine wpList_id ?_); refine wpList_putF rfl _ _ _ rfl rfl rfl q rfl (by rfl) (by rfl) ?_; intro w9 qn hg; (try simp only [rD, rF, rE] at qn); replace gr := gr.grown hg; (try replace m1 := m1.grownB q (by decide) hg); (try clear h); clear hg q; have q := qn; clear qn))
  go_ret
  exact ⟨gr.out, rfl, _, _, _, _, _, _, q, m1, MineP.nil _ _⟩
set_option maxRecDepth 100000 in
set_option maxHeartbeats 1000000 in
theorem fReset (kd fl st : Int) (g : Nat) (A : Option Addr) (n c : Nat) (l : List Int) (w : World) (q : Blk w g 30 #[.int .u8 kd, .int .u8 fl, .int .i64 st, .slice none 0 0, .int .i64 0, .int .i64 0, .int .i64 0, .int .u32 0, .slice none 0 0, .bool false, .bool false, .int .i64 0, .int .u8 0]) (h : Byt w A n c l) (hn : n ≤ 100000) : Calls Try.prog 72 #[.pointer (some ⟨g, 0, none⟩), .slice A n c] w (RdP g (some { fm0 kd fl st with cd := (takeO l 0 4).1 }) w) := by
  have gr := Gro.refl g w
  go_enter Try.func72, Try.ntmps72
  go_wp2_with (first | (go_at_call 73; (with_reducible refine (fNumber A n c l 0 _ (by decide) h).mono ?_); rintro e w9 ⟨rfl, rfl⟩) | ((with_reducible refine wpList_id ?_); refine wpList_putF rfl _ _ _ rfl rfl rfl q rfl (by rfl) (by rfl) ?_; intro w9 qn hg; (try simp only [rD, rF, rE] at qn); replace gr := gr.grown hg; (try replace m1 := m1.grownB q (by decide) hg); (try clear h); clear hg q; have q := qn; clear qn))
  go_ret
  exact ⟨gr.out, rfl, _, _, _, _, _, _, q, Mine.nil _ _, MineP.nil _ _⟩
set_option maxRecDepth 100000 in
set_option maxHeartbeats 1000000 in
theorem fWindow (kd fl st : Int) (g : Nat) (A : Option Addr) (n c : Nat) (l : List Int) (w : World) (q : Blk w g 30 #[.int .u8 kd, .int .u8 fl, .int .i64 st, .slice none 0 0, .int .i64 0, .int .i64 0, .int .i64 0, .int .u32 0, .slice none 0 0, .bool false, .bool false, .int .i64 0, .int .u8 0]) (h : Byt w A n c l) (hn : n ≤ 100000) : Calls Try.prog 86 #[.pointer (some ⟨g, 0, none⟩), .slice A n c] w (RdP g (some { fm0 kd fl st with ic := streamO l 0 }) w) := by
  have gr := Gro.refl g w
  go_enter Try.func86, Try.ntmps86
  go_wp2_with (first | (go_at_call 83; (with_reducible refine (fOwnN A n c l 0 _ (by decide) h).mono ?_); rintro e w9 ⟨rfl, rfl⟩) | ((with_reducible refine wpList_id ?_); refine wpList_putF rfl _ _ _ rfl rfl rfl q rfl (by rfl) (by rfl) ?_; intro w9 qn hg; (try simp only [rD, rF, rE] at qn); replace gr := gr.grown hg; (try replace m1 := m1.grownB q (by decide) hg); (try clear h); clear hg q; have q := qn; clear qn))
  go_ret
  exact ⟨gr.out, rfl, _, _, _, _, _, _, q, Mine.nil _ _, MineP.nil _ _⟩
set_option maxRecDepth 100000 in
set_option maxHeartbeats 1000000 in
theorem fSets (kd fl st : Int) (g : Nat) (A : Option Addr) (n c : Nat) (l : List Int) (w : World) (q : Blk w g 30 #[.int .u8 kd, .int .u8 fl, .int .i64 st, .slice none 0 0, .int .i64 0, .int .i64 0, .int .i64 0, .int .u32 0, .slice none 0 0, .bool false, .bool false, .int .i64 0, .int .u8 0]) (h : Byt w A n c l) (hn : n ≤ 100000) : Calls Try.prog 78 #[.pointer (some ⟨g, 0, none⟩), .slice A n c] w (RdP g (some { fm0 kd fl st with prs := takePs l }) w) := by
  have gr := Gro.refl g w
  go_enter Try.func78, Try.ntmps78
  go_wp2_with (first | (go_at_call 79; (with_reducible refine (fTakePairs A n c l _ h hn).mono ?_); rintro e w9 ⟨P, pn, pc, rfl, m1, hb⟩; replace gr := gr.below hb; replace q := q.below hb; replace h := h.below hb; (try replace m1 := m1.below hb); clear hb) | ((with_reducible refine wpList_id ?_); refine wpList_putF rfl _ _ _ rfl rfl rfl q rfl (by rfl) (by rfl) ?_; intro w9 qn hg; (try simp only [rD, rF, rE] at qn); replace gr := gr.grown hg; (try replace m1 := m1.grownB q (by decide) hg); (try clear h); clear hg q; have q := qn; clear qn))
  go_ret
  exact ⟨gr.out, rfl, _, _, _, _, _, _, q, Mine.nil _ _, m1⟩
theorem padS_no {fl : Int} (h : hasB fl 8 = false) (b : List Int) : padS fl b = some (b, 0) := by unfold padS; rw [h]; rfl
theorem padS_yes {fl : Int} (h : hasB fl 8 = true) (b : List Int) : padS fl b = if unE b = 0 then some (unO b, unN b) else none := by unfold padS; rw [h]; rfl
/-- Padding taken off: what lies in the frame's block. -/
def UpP (kd fl st : Int) (g : Nat) (r : Option (List Int × Int)) (w : World) (e : Ending) (W' : World) : Prop :=
  w.grownBy W' (some g) ∧ match r with
  | some x => e = .returned (.bool true) ∧ ∃ B m d, Blk W' g 30 #[.int .u8 kd, .int .u8 fl, .int .i64 st, .slice B m d, .int .i64 x.2, .int .i64 0, .int .i64 0, .int .u32 0, .slice none 0 0, .bool false, .bool false, .int .i64 0, .int .u8 0] ∧ Mine w.heap.size W' B m d x.1
  | none => e = .returned (.bool false) ∧ ∃ cs, Blk W' g 30 cs ∧ cs.size = 13
theorem unO_len (l : List Int) : (unO l).length ≤ l.length := by
  unfold unO
  split
  · simp only [List.length_drop, List.length_take]; omega
  · simp
theorem padS_len {fl : Int} {b : List Int} {x : List Int × Int} (h : padS fl b = some x) : x.1.length ≤ b.length := by
  unfold padS at h
  split at h
  · split at h
    · simp only [Option.some.injEq] at h; subst h; exact unO_len b
    · simp at h
  · simp only [Option.some.injEq] at h; subst h; exact Nat.le_refl _
set_option maxRecDepth 100000 in
set_option maxHeartbeats 1000000 in
theorem fUnpaddedU (kd fl st : Int) (g : Nat) (A : Option Addr) (n c : Nat) (l : List Int) (w : World) (q : Blk w g 30 #[.int .u8 kd, .int .u8 fl, .int .i64 st, .slice none 0 0, .int .i64 0, .int .i64 0, .int .i64 0, .int .u32 0, .slice none 0 0, .bool false, .bool false, .int .i64 0, .int .u8 0]) (h : Byt w A n c l) (hn : n ≤ 100000) (hA : 0 < n → ∀ b o, A = some ⟨b, o, none⟩ → b ≠ g) (f0 : 0 ≤ fl) (f1 : fl ≤ 255) : Calls Try.prog 64 #[.pointer (some ⟨g, 0, none⟩), .slice A n c] w (UpP kd fl st g (padS fl l) w) := by
  have gr := Gro.refl g w
  have hl := h.len
  replace hA := Lib.hid hA
  have UN := Lib.hid fun w h => fUnpad A n c l w h hn
  have ha := and8 fl f0 f1
  clear f0 f1
  cases hp : hasB fl 8
  all_goals rw [hp] at ha
  · rw [padS_no hp]
    clear hp
    go_enter Try.func64, Try.ntmps64
    go_wp2_with (first | (go_at_call 41; (with_reducible refine (fClone A n c l _ h (by omega)).mono ?_); rintro e w9 ⟨B, d, rfl, m1, hb⟩; replace gr := gr.below hb; replace q := q.below hb; replace h := h.below hb; (try replace m1 := m1.below hb); clear hb; (try clear z1); have z1 := q.at 1 rfl) | ((with_reducible refine wpList_id ?_); refine wpList_putF rfl _ _ _ rfl rfl rfl q rfl (by rfl) (by rfl) ?_; intro w9 qn hg; (try simp only [rD, rF, rE] at qn); replace gr := gr.grown hg; (try replace m1 := m1.grownB q (by decide) hg); (try replace h := h.grownP hg (fun hp b o e => by simpa using hA.out hp b o e)); clear hg q; have q := qn; clear qn; (try clear z1); have z1 := q.at 1 rfl))
    go_ret
    exact ⟨gr.out, rfl, _, _, _, q, m1⟩
  · rw [padS_yes hp]
    clear hp
    by_cases hE : unE l = 0
    · rw [if_pos hE]
      have e0 := Lib.hid (show (unE l == 0) = true by simpa using hE)
      clear hE
      generalize unE l = E at *
      go_enter Try.func64, Try.ntmps64
      go_wp2_with (first | (go_at_call 41; (with_reducible refine (fClone A n c l _ h (by omega)).mono ?_); rintro e w9 ⟨B, d, rfl, m1, hb⟩; replace gr := gr.below hb; replace q := q.below hb; replace h := h.below hb; (try replace m1 := m1.below hb); clear hb; (try clear z1); have z1 := q.at 1 rfl) | (go_at_call 97; have hz := gr.out.size; (with_reducible refine (UN.out _ h).mono ?_); rintro e w9 ⟨B2, m2, d2, rfl, m2h, hb⟩; replace gr := gr.below hb; replace q := q.below hb; clear m1 hb; have m1 := m2h.base_le hz; clear m2h hz; (try clear z1); have z1 := q.at 1 rfl) | ((with_reducible refine wpList_id ?_); refine wpList_putF rfl _ _ _ rfl rfl rfl q rfl (by rfl) (by rfl) ?_; intro w9 qn hg; (try simp only [rD, rF, rE] at qn); replace gr := gr.grown hg; (try replace m1 := m1.grownB q (by decide) hg); (try replace h := h.grownP hg (fun hp b o e => by simpa using hA.out hp b o e)); clear hg q; have q := qn; clear qn; (try clear z1); have z1 := q.at 1 rfl))
      go_ret
      refine ⟨gr.out, ?_, _, _, _, q, m1⟩
      show Ending.returned (Value.bool _) = _
      exact ret_bool e0.out
    · rw [if_neg hE]
      have e0 := Lib.hid (show (unE l == 0) = false by simpa using hE)
      clear hE
      generalize unE l = E at *
      go_enter Try.func64, Try.ntmps64
      go_wp2_with (first | (go_at_call 41; (with_reducible refine (fClone A n c l _ h (by omega)).mono ?_); rintro e w9 ⟨B, d, rfl, m1, hb⟩; replace gr := gr.below hb; replace q := q.below hb; replace h := h.below hb; (try replace m1 := m1.below hb); clear hb; (try clear z1); have z1 := q.at 1 rfl) | (go_at_call 97; have hz := gr.out.size; (with_reducible refine (UN.out _ h).mono ?_); rintro e w9 ⟨B2, m2, d2, rfl, m2h, hb⟩; replace gr := gr.below hb; replace q := q.below hb; clear m1 hb; have m1 := m2h.base_le hz; clear m2h hz; (try clear z1); have z1 := q.at 1 rfl) | ((with_reducible refine wpList_id ?_); refine wpList_putF rfl _ _ _ rfl rfl rfl q rfl (by rfl) (by rfl) ?_; intro w9 qn hg; (try simp only [rD, rF, rE] at qn); replace gr := gr.grown hg; (try replace m1 := m1.grownB q (by decide) hg); (try replace h := h.grownP hg (fun hp b o e => by simpa using hA.out hp b o e)); clear hg q; have q := qn; clear qn; (try clear z1); have z1 := q.at 1 rfl))
      go_ret
      refine ⟨gr.out, ?_, _, q, rfl⟩
      show Ending.returned (Value.bool _) = _
      exact ret_bool e0.out
theorem fUnpadded (kd fl st : Int) (g : Nat) (A : Option Addr) (n c : Nat) (l : List Int) (w : World) (q : Blk w g 30 #[.int .u8 kd, .int .u8 fl, .int .i64 st, .slice none 0 0, .int .i64 0, .int .i64 0, .int .i64 0, .int .u32 0, .slice none 0 0, .bool false, .bool false, .int .i64 0, .int .u8 0]) (h : Byt w A n c l) (hn : n ≤ 100000) (hA : 0 < n → ∀ b o, A = some ⟨b, o, none⟩ → b ≠ g) (f0 : 0 ≤ fl) (f1 : fl ≤ 255) : Calls Try.prog 64 #[.pointer (some ⟨g, 0, none⟩), .slice A n c] w (RdP g ((padS fl l).map fun x => { fm0 kd fl st with da := x.1, pd := x.2 }) w) := by
  refine (fUnpaddedU kd fl st g A n c l w q h hn hA f0 f1).mono ?_
  rintro e w' ⟨hg, hr⟩
  refine ⟨hg, ?_⟩
  cases hp : padS fl l with
  | none => rw [hp] at hr; exact hr
  | some x =>
    rw [hp] at hr
    obtain ⟨rfl, B, m, d, q', m1⟩ := hr
    exact ⟨rfl, _, _, _, _, _, _, q', m1, MineP.nil _ _⟩
set_option maxRecDepth 100000 in
set_option maxHeartbeats 1000000 in
theorem fRankedB (kd fl st pd : Int) (g : Nat) (B : Option Addr) (m d : Nat) (A : Option Addr) (n c : Nat) (al : Bool) (dp wt E : Int) (R : List Int) (b : Bool) (w : World) (q : Blk w g 30 #[.int .u8 kd, .int .u8 fl, .int .i64 st, .slice B m d, .int .i64 pd, .int .i64 0, .int .i64 0, .int .u32 0, .slice none 0 0, .bool false, .bool false, .int .i64 0, .int .u8 0]) (TR : Hid (Calls Try.prog 99 #[.slice A n c] w (TrP al dp wt R E w))) (hE : Hid ((E == 0) = b)) : Calls Try.prog 68 #[.pointer (some ⟨g, 0, none⟩), .slice A n c] w (RdP g (if b then some { fm0 kd fl st with pd := pd, rk := true, al := al, dp := dp, wt := wt, da := R } else none) w) := by
  generalize hr : (if b = true then some { fm0 kd fl st with pd := pd, rk := true, al := al, dp := dp, wt := wt, da := R } else none) = r
  have HR := Lib.hid hr
  clear hr
  have gr := Gro.refl g w
  go_enter Try.func68, Try.ntmps68
  go_wp2_with (first | (go_at_call 99; (with_reducible refine TR.out.mono ?_); rintro e w5 ⟨B2, m2, d2, rfl, m1, hb⟩; replace gr := gr.below hb; replace q := q.below hb; clear hb; have hz := gr.out.size; have qr := Blk.new w5 28 #[.bool false, .int .i64 0, .int .u8 0]; have hg0 : w5.heap.size ≠ g := Nat.ne_of_gt q.lt; replace q := q.alloc (.cells #[.bool false, .int .i64 0, .int .u8 0] 28); replace gr := gr.alloc (.cells #[.bool false, .int .i64 0, .int .u8 0] 28); replace m1 := m1.alloc (.cells #[.bool false, .int .i64 0, .int .u8 0] 28)) | (refine wpList_putB rfl _ _ _ rfl rfl rfl qr (by rfl) (by rfl) (by rfl) ?_; intro w8 qn hg; replace gr := gr.grownO hg hz; replace m1 := m1.grownB qr (by decide) hg; replace q := q.grown hg hg0.symm; clear hg qr; have qr := qn; clear qn))
  replace q := q.drew
  replace qr := qr.drew
  replace gr := gr.drew
  replace m1 := m1.drew
  refine wp_region_G (fun w' => Blk w' w5.heap.size 28 #[.bool al, .int .i64 dp, .int .u8 wt]) [] (by kernel_rfl) ?_
  have S0 := qr
  refine wpAnyG_take 0 (v := ?_) rfl (by kernel_rfl) (fun _ _ _ h => h) S0 (Or.inl ⟨by rfl, by intro w' hSw; go_simp; try with_reducible rfl⟩) ?_; (try simp only [Act.put, rA, rB, rC, rD, rE, rF])
  refine wpAnyG_take 1 (v := ?_) rfl (by kernel_rfl) (fun _ _ _ h => h) S0 (Or.inl ⟨by rfl, by intro w' hSw; go_simp; try with_reducible rfl⟩) ?_; (try simp only [Act.put, rA, rB, rC, rD, rE, rF])
  refine wpAnyG_take 2 (v := ?_) rfl (by kernel_rfl) (fun _ _ _ h => h) S0 (Or.inl ⟨by rfl, by intro w' hSw; go_simp; try with_reducible rfl⟩) ?_; (try simp only [Act.put, rA, rB, rC, rD, rE, rF])
  refine wpAnyG_take 3 (v := .agg #[.bool al, .int .i64 dp, .int .u8 wt]) rfl (by kernel_rfl) (fun _ _ _ h => h) S0 (Or.inl ⟨by rfl, by intro w' hSw; exact exec_getB (by rfl) (by rfl) hSw Try.underlying28 rfl (by rfl)⟩) ?_; (try simp only [Act.put, rA, rB, rC, rD, rE, rF])
  refine wpAnyG_take 4 (v := ?_) rfl (by kernel_rfl) (fun _ _ _ h => h) S0 (Or.inl ⟨by rfl, by intro w' hSw; go_simp; try with_reducible rfl⟩) ?_; (try simp only [Act.put, rA, rB, rC, rD, rE, rF])
  refine wpAnyG_take 5 (v := ?_) rfl (by kernel_rfl) (fun _ _ _ h => h) S0 (Or.inl ⟨by rfl, by intro w' hSw; go_simp; try with_reducible rfl⟩) ?_; (try simp only [Act.put, rA, rB, rC, rD, rE, rF])
  refine wpAnyG_take 6 (v := ?_) rfl (by kernel_rfl) (fun _ _ _ h => h) S0 (Or.inl ⟨by rfl, by intro w' hSw; go_simp; try with_reducible rfl⟩) ?_; (try simp only [Act.put, rA, rB, rC, rD, rE, rF])
  clear S0
  refine wpAnyG_one 7 (by kernel_rfl) rfl (fun K hK => ?_)
  rw [if_pos (by rfl)]
  refine wp_putF (v := .bool true) _ _ _ rfl rfl rfl q rfl (by rfl) (by rfl) ?_
  intro w9 qn hg
  simp only [rD, rF, rE] at qn
  replace gr := gr.grown hg
  replace m1 := m1.grownB q (by decide) hg
  replace qr := qr.grown hg hg0
  clear hg q; have q := qn; clear qn
  refine hK.out _ _ (fun _ => qr) ?_
  clear hK K
  (try simp only [Act.put, rA, rB, rC, rD, rE, rF])
  have S0 := qr
  refine wpAnyG_take 8 (v := ?_) rfl (by kernel_rfl) (fun _ _ _ h => h) S0 (Or.inl ⟨by rfl, by intro w' hSw; go_simp; try with_reducible rfl⟩) ?_; (try simp only [Act.put, rA, rB, rC, rD, rE, rF])
  refine wpAnyG_take 9 (v := ?_) rfl (by kernel_rfl) (fun _ _ _ h => h) S0 (Or.inl ⟨by rfl, by intro w' hSw; go_simp; try with_reducible rfl⟩) ?_; (try simp only [Act.put, rA, rB, rC, rD, rE, rF])
  clear S0
  refine wpAnyG_one 10 (by kernel_rfl) rfl (fun K hK => ?_)
  rw [if_pos (by rfl)]
  refine wp_putM (cells := #[.bool al, .int .i64 dp, .int .u8 wt]) _ _ _ rfl rfl rfl q (Nat.le_of_ble_eq_true rfl) (by rfl) (by rfl) ?_
  intro w9 qn hg
  simp only [putsA, List.setIfInBounds_toArray, List.set_cons_succ, List.set_cons_zero] at qn
  replace gr := gr.grown hg
  replace m1 := m1.grownB q (by decide) hg
  replace qr := qr.grown hg hg0
  clear hg q; have q := qn; clear qn
  refine hK.out _ _ (fun _ => qr) ?_
  clear hK K
  (try simp only [Act.put, rA, rB, rC, rD, rE, rF])
  have S0 := qr
  refine wpAnyG_take 11 (v := ?_) rfl (by kernel_rfl) (fun _ _ _ h => h) S0 (Or.inl ⟨by rfl, by intro w' hSw; go_simp; try with_reducible rfl⟩) ?_; (try simp only [Act.put, rA, rB, rC, rD, rE, rF])
  refine wpAnyG_take 12 (v := ?_) rfl (by kernel_rfl) (fun _ _ _ h => h) S0 (Or.inl ⟨by rfl, by intro w' hSw; go_simp; try with_reducible rfl⟩) ?_; (try simp only [Act.put, rA, rB, rC, rD, rE, rF])
  clear S0
  refine wpAnyG_one 13 (by kernel_rfl) rfl (fun K hK => ?_)
  rw [if_pos (by rfl)]
  refine wp_putF (v := .slice B2 m2 d2) _ _ _ rfl rfl rfl q rfl (by rfl) (by rfl) ?_
  intro w9 qn hg
  simp only [rD, rF, rE] at qn
  replace gr := gr.grown hg
  replace m1 := m1.grownB q (by decide) hg
  replace qr := qr.grown hg hg0
  clear hg q; have q := qn; clear qn
  refine hK.out _ _ (fun _ => qr) ?_
  clear hK K
  (try simp only [Act.put, rA, rB, rC, rD, rE, rF])
  refine wpAnyG_done (by kernel_rfl) ?_ _
  go_wp2
  go_ret
  refine ⟨gr.out, ?_⟩
  have hr := HR.out
  cases b
  · simp only [Bool.false_eq_true, if_false] at hr
    subst hr
    refine ⟨?_, _, q, rfl⟩
    show Ending.returned (Value.bool _) = _
    exact ret_bool hE.out
  · simp only [if_true] at hr
    subst hr
    refine ⟨?_, _, _, _, _, _, _, q, m1, MineP.nil _ _⟩
    show Ending.returned (Value.bool _) = _
    exact ret_bool hE.out
theorem fRanked (kd fl st pd : Int) (g : Nat) (B : Option Addr) (m d : Nat) (A : Option Addr) (n c : Nat) (l : List Int) (w : World) (q : Blk w g 30 #[.int .u8 kd, .int .u8 fl, .int .i64 st, .slice B m d, .int .i64 pd, .int .i64 0, .int .i64 0, .int .u32 0, .slice none 0 0, .bool false, .bool false, .int .i64 0, .int .u8 0]) (h : Byt w A n c l) (hn : n ≤ 100000) : Calls Try.prog 68 #[.pointer (some ⟨g, 0, none⟩), .slice A n c] w (RdP g (if trE l = 0 then some { fm0 kd fl st with pd := pd, rk := true, al := trA l, dp := trD l, wt := trW l, da := trR l } else none) w) := by
  have h1 := fRankedB kd fl st pd g B m d A n c (trA l) (trD l) (trW l) (trE l) (trR l) (trE l == 0) w q (Lib.hid (fTakeRank A n c l w h hn)) (Lib.hid rfl)
  by_cases hE : trE l = 0
  · rw [if_pos hE]
    rw [show (trE l == 0) = true by simpa using hE, if_pos rfl] at h1
    exact h1
  · rw [if_neg hE]
    rw [show (trE l == 0) = false by simpa using hE, if_neg (by decide)] at h1
    exact h1
set_option maxRecDepth 100000 in
set_option maxHeartbeats 1000000 in
theorem fHeads (kd fl st : Int) (g : Nat) (A : Option Addr) (n c : Nat) (l : List Int) (w : World) (q : Blk w g 30 #[.int .u8 kd, .int .u8 fl, .int .i64 st, .slice none 0 0, .int .i64 0, .int .i64 0, .int .i64 0, .int .u32 0, .slice none 0 0, .bool false, .bool false, .int .i64 0, .int .u8 0]) (h : Byt w A n c l) (hn : n ≤ 100000) (hA : 0 < n → ∀ b o, A = some ⟨b, o, none⟩ → b ≠ g) (f0 : 0 ≤ fl) (f1 : fl ≤ 255) : Calls Try.prog 67 #[.pointer (some ⟨g, 0, none⟩), .slice A n c] w (RdP g ((padS fl l).bind fun x => (if hasB fl 32 = true then (if trE x.1 = 0 then some { fm0 kd fl st with da := trR x.1, pd := x.2, rk := true, al := trA x.1, dp := trD x.1, wt := trW x.1 } else none) else some { fm0 kd fl st with da := x.1, pd := x.2 })) w) := by
  have HU := Lib.hid (fUnpaddedU kd fl st g A n c l w q h hn hA f0 f1)
  have hl := h.len
  have ha := and32 fl f0 f1
  clear f0 f1 hA
  cases hp : padS fl l with
  | none =>
    rw [hp] at HU
    clear hp ha
    show Calls _ _ _ _ (RdP g none w)
    go_enter Try.func67, Try.ntmps67
    go_wp2_with (first | (go_at_call 64; (with_reducible refine HU.out.mono ?_); rintro e w5 ⟨hg, rfl, cs, q5, hs⟩))
    go_ret
    exact ⟨hg, rfl, cs, q5, hs⟩
  | some x =>
    have hx := padS_len hp
    rw [hp] at HU
    obtain ⟨da, pd⟩ := x
    simp only at hx
    clear hp
    show Calls _ _ _ _ (RdP g (if hasB fl 32 = true then (if trE da = 0 then some { fm0 kd fl st with da := trR da, pd := pd, rk := true, al := trA da, dp := trD da, wt := trW da } else none) else some { fm0 kd fl st with da := da, pd := pd }) w)
    cases hk : hasB fl 32
    all_goals rw [hk] at ha
    · clear hk
      rw [if_neg (by decide)]
      go_enter Try.func67, Try.ntmps67
      go_wp2_with (first | (go_at_call 64; (with_reducible refine HU.out.mono ?_); rintro e w5 ⟨hg, rfl, B, m, d, q5, m5⟩; have z1 := q5.at 1 rfl))
      go_ret
      exact ⟨hg, rfl, _, _, _, _, _, _, q5, m5, MineP.nil _ _⟩
    · clear hk
      rw [if_pos rfl]
      generalize hr : (if trE da = 0 then some { fm0 kd fl st with da := trR da, pd := pd, rk := true, al := trA da, dp := trD da, wt := trW da } else none) = r
      have HR := Lib.hid hr
      clear hr
      go_enter Try.func67, Try.ntmps67
      go_wp2_with (first | (go_at_call 64; (with_reducible refine HU.out.mono ?_); rintro e w5 ⟨hg, rfl, B, m, d, q5, m5⟩; have z1 := q5.at 1 rfl; have z3 := q5.at 3 rfl) | (go_at_call 68; (with_reducible refine (fRanked kd fl st pd g B m d B m d da w5 q5 m5.byt (by have := m5.len; omega)).mono ?_); rintro e w6 ⟨hg6, hr6⟩; rw [HR.out] at hr6; have ho : ∃ b, e = .returned (.bool b) := (by cases r with | none => exact ⟨_, hr6.1⟩ | some f => exact ⟨_, hr6.1⟩); obtain ⟨b, rfl⟩ := ho))
      go_ret
      refine ⟨hg.trans hg6, ?_⟩
      cases r with
      | none => exact ⟨by have := hr6.1; simpa using this, hr6.2⟩
      | some f =>
        obtain ⟨h1, B6, m6, d6, P, pn, pc, q6, mm, mp⟩ := hr6
        have hle := hg.size
        exact ⟨by simpa using h1, _, _, _, _, _, _, q6, mm.base_le hle, mp.base_le hle⟩
set_option maxRecDepth 100000 in
set_option maxHeartbeats 1000000 in
theorem fGoaway (kd fl st : Int) (g : Nat) (A : Option Addr) (n c : Nat) (l : List Int) (w : World) (q : Blk w g 30 #[.int .u8 kd, .int .u8 fl, .int .i64 st, .slice none 0 0, .int .i64 0, .int .i64 0, .int .i64 0, .int .u32 0, .slice none 0 0, .bool false, .bool false, .int .i64 0, .int .u8 0]) (h : Byt w A n c l) (hn : n ≤ 100000) (hk : 8 ≤ n) : Calls Try.prog 82 #[.pointer (some ⟨g, 0, none⟩), .slice A n c] w (RdP g (some { fm0 kd fl st with la := streamO l 0, cd := (takeO l 4 4).1, da := l.drop 8 }) w) := by
  have gr := Gro.refl g w
  have HC : ∀ w, (Instr.slice 24 (.slice A n c) (some (.int .i64 8)) none none).run Try.prog w = .ok (.slice (cutA A c 8) (n - 8) (c - 8)) w := fun w => run_cut_l w A n c 8 (by decide) (by omega)
  go_enter Try.func82, Try.ntmps82
  go_wp2_with fail
  replace q := q.drew
  replace h := h.drew
  replace gr := gr.drew
  refine wp_region_G (fun _ => True) [] (by kernel_rfl) ?_
  have S0 := trivial
  refine wpAnyG_take 0 (v := ?_) rfl (by kernel_rfl) (fun _ _ _ h => h) S0 (Or.inl ⟨by rfl, by intro w' hSw; go_simp; try with_reducible rfl⟩) ?_; (try simp only [Act.put, rA, rB, rC, rD, rE, rF])
  refine wpAnyG_take 1 (v := ?_) rfl (by kernel_rfl) (fun _ _ _ h => h) S0 (Or.inl ⟨by rfl, by intro w' hSw; go_simp; try with_reducible rfl⟩) ?_; (try simp only [Act.put, rA, rB, rC, rD, rE, rF])
  refine wpAnyG_take 2 (v := ?_) rfl (by kernel_rfl) (fun _ _ _ h => h) S0 (Or.inl ⟨by rfl, by intro w' hSw; go_simp; try with_reducible rfl⟩) ?_; (try simp only [Act.put, rA, rB, rC, rD, rE, rF])
  refine wpAnyG_take 3 (v := ?_) rfl (by kernel_rfl) (fun _ _ _ h => h) S0 (Or.inl ⟨by rfl, by intro w' hSw; go_simp; try with_reducible rfl⟩) ?_; (try simp only [Act.put, rA, rB, rC, rD, rE, rF])
  refine wpAnyG_take 5 (v := ?_) rfl (by kernel_rfl) (fun _ _ _ h => h) S0 (Or.inl ⟨by rfl, by intro w' hSw; go_simp; try with_reducible rfl⟩) ?_; (try simp only [Act.put, rA, rB, rC, rD, rE, rF])
  refine wpAnyG_take 7 (v := ?_) rfl (by kernel_rfl) (fun _ _ _ h => h) S0 (Or.inl ⟨by rfl, by intro w' hSw; go_simp; try with_reducible rfl⟩) ?_; (try simp only [Act.put, rA, rB, rC, rD, rE, rF])
  refine wpAnyG_take 8 (v := ?_) rfl (by kernel_rfl) (fun _ _ _ h => h) S0 (Or.inl ⟨by rfl, by intro w' hSw; go_simp; try with_reducible rfl⟩) ?_; (try simp only [Act.put, rA, rB, rC, rD, rE, rF])
  clear S0
  refine wpAnyG_one 4 (by kernel_rfl) rfl (fun K hK => ?_)
  rw [if_pos (by rfl)]
  go_simp
  (go_at_call 83; (with_reducible refine (fOwnN A n c l 0 _ (by decide) h).mono ?_); rintro e w9 ⟨rfl, rfl⟩)
  have hzz := gr.out.size
  (try go_simp)
  refine hK.out _ _ (fun _ => trivial) ?_
  clear hK K
  (try simp only [Act.put, rA, rB, rC, rD, rE, rF])
  refine wpAnyG_one 6 (by kernel_rfl) rfl (fun K hK => ?_)
  rw [if_pos (by rfl)]
  go_simp
  (go_at_call 73; (with_reducible refine (fNumber A n c l 4 _ (by decide) h).mono ?_); rintro e w9 ⟨rfl, rfl⟩)
  (try go_simp)
  refine hK.out _ _ (fun _ => trivial) ?_
  clear hK K
  (try simp only [Act.put, rA, rB, rC, rD, rE, rF])
  refine wpAnyG_one 9 (by kernel_rfl) rfl (fun K hK => ?_)
  rw [if_pos (by rfl)]
  go_simp
  (go_at_call 41; (with_reducible refine (fClone _ _ _ (l.drop 8) _ (h.cutL hk) (by omega)).mono ?_); rintro e w9 ⟨B, d, rfl, m0, hb⟩)
  replace gr := gr.below hb
  replace q := q.below hb
  have m1 := m0.base_le hzz
  clear hb m0 h
  (try go_simp)
  refine hK.out _ _ (fun _ => trivial) ?_
  clear hK K
  (try simp only [Act.put, rA, rB, rC, rD, rE, rF])
  have S0 := trivial
  refine wpAnyG_take 10 (v := ?_) rfl (by kernel_rfl) (fun _ _ _ h => h) S0 (Or.inl ⟨by rfl, by intro w' hSw; go_simp; try with_reducible rfl⟩) ?_; (try simp only [Act.put, rA, rB, rC, rD, rE, rF])
  refine wpAnyG_take 11 (v := ?_) rfl (by kernel_rfl) (fun _ _ _ h => h) S0 (Or.inl ⟨by rfl, by intro w' hSw; go_simp; try with_reducible rfl⟩) ?_; (try simp only [Act.put, rA, rB, rC, rD, rE, rF])
  clear S0
  refine wpAnyG_one 12 (by kernel_rfl) rfl (fun K hK => ?_)
  rw [if_pos (by rfl)]
  refine wp_putF (v := .int .i64 (streamO l 0)) _ _ _ rfl rfl rfl q rfl (by rfl) (by rfl) ?_
  intro w9 qn hg
  simp only [rD, rF, rE] at qn
  replace gr := gr.grown hg
  replace m1 := m1.grownB q (by decide) hg
  clear hg q; have q := qn; clear qn
  refine hK.out _ _ (fun _ => trivial) ?_
  clear hK K
  (try simp only [Act.put, rA, rB, rC, rD, rE, rF])
  have S0 := trivial
  refine wpAnyG_take 13 (v := ?_) rfl (by kernel_rfl) (fun _ _ _ h => h) S0 (Or.inl ⟨by rfl, by intro w' hSw; go_simp; try with_reducible rfl⟩) ?_; (try simp only [Act.put, rA, rB, rC, rD, rE, rF])
  refine wpAnyG_take 14 (v := ?_) rfl (by kernel_rfl) (fun _ _ _ h => h) S0 (Or.inl ⟨by rfl, by intro w' hSw; go_simp; try with_reducible rfl⟩) ?_; (try simp only [Act.put, rA, rB, rC, rD, rE, rF])
  clear S0
  refine wpAnyG_one 15 (by kernel_rfl) rfl (fun K hK => ?_)
  rw [if_pos (by rfl)]
  refine wp_putF (v := .int .u32 (takeO l 4 4).1) _ _ _ rfl rfl rfl q rfl (by rfl) (by rfl) ?_
  intro w9 qn hg
  simp only [rD, rF, rE] at qn
  replace gr := gr.grown hg
  replace m1 := m1.grownB q (by decide) hg
  clear hg q; have q := qn; clear qn
  refine hK.out _ _ (fun _ => trivial) ?_
  clear hK K
  (try simp only [Act.put, rA, rB, rC, rD, rE, rF])
  have S0 := trivial
  refine wpAnyG_take 16 (v := ?_) rfl (by kernel_rfl) (fun _ _ _ h => h) S0 (Or.inl ⟨by rfl, by intro w' hSw; go_simp; try with_reducible rfl⟩) ?_; (try simp only [Act.put, rA, rB, rC, rD, rE, rF])
  refine wpAnyG_take 17 (v := ?_) rfl (by kernel_rfl) (fun _ _ _ h => h) S0 (Or.inl ⟨by rfl, by intro w' hSw; go_simp; try with_reducible rfl⟩) ?_; (try simp only [Act.put, rA, rB, rC, rD, rE, rF])
  clear S0
  refine wpAnyG_one 18 (by kernel_rfl) rfl (fun K hK => ?_)
  rw [if_pos (by rfl)]
  refine wp_putF (v := .slice B (n - 8) d) _ _ _ rfl rfl rfl q rfl (by rfl) (by rfl) ?_
  intro w9 qn hg
  simp only [rD, rF, rE] at qn
  replace gr := gr.grown hg
  replace m1 := m1.grownB q (by decide) hg
  clear hg q; have q := qn; clear qn
  refine hK.out _ _ (fun _ => trivial) ?_
  clear hK K
  (try simp only [Act.put, rA, rB, rC, rD, rE, rF])
  refine wpAnyG_done (by kernel_rfl) ?_ _
  go_wp2
  go_ret
  exact ⟨gr.out, rfl, _, _, _, _, _, _, q, m1, MineP.nil _ _⟩
set_option maxRecDepth 100000 in
set_option maxHeartbeats 1000000 in
theorem fUrgency (kd fl st : Int) (g : Nat) (A : Option Addr) (n c : Nat) (l : List Int) (w : World) (q : Blk w g 30 #[.int .u8 kd, .int .u8 fl, .int .i64 st, .slice none 0 0, .int .i64 0, .int .i64 0, .int .i64 0, .int .u32 0, .slice none 0 0, .bool false, .bool false, .int .i64 0, .int .u8 0]) (h : Byt w A n c l) (hn : n ≤ 100000) (hk : 4 ≤ n) : Calls Try.prog 88 #[.pointer (some ⟨g, 0, none⟩), .slice A n c] w (RdP g (some { fm0 kd fl st with la := streamO l 0, da := l.drop 4 }) w) := by
  have gr := Gro.refl g w
  have HC : ∀ w, (Instr.slice 24 (.slice A n c) (some (.int .i64 4)) none none).run Try.prog w = .ok (.slice (cutA A c 4) (n - 4) (c - 4)) w := fun w => run_cut_l w A n c 4 (by decide) (by omega)
  go_enter Try.func88, Try.ntmps88
  go_wp2_with fail
  replace q := q.drew
  replace h := h.drew
  replace gr := gr.drew
  refine wp_region_G (fun _ => True) [] (by kernel_rfl) ?_
  have S0 := trivial
  refine wpAnyG_take 0 (v := ?_) rfl (by kernel_rfl) (fun _ _ _ h => h) S0 (Or.inl ⟨by rfl, by intro w' hSw; go_simp; try with_reducible rfl⟩) ?_; (try simp only [Act.put, rA, rB, rC, rD, rE, rF])
  refine wpAnyG_take 1 (v := ?_) rfl (by kernel_rfl) (fun _ _ _ h => h) S0 (Or.inl ⟨by rfl, by intro w' hSw; go_simp; try with_reducible rfl⟩) ?_; (try simp only [Act.put, rA, rB, rC, rD, rE, rF])
  refine wpAnyG_take 2 (v := ?_) rfl (by kernel_rfl) (fun _ _ _ h => h) S0 (Or.inl ⟨by rfl, by intro w' hSw; go_simp; try with_reducible rfl⟩) ?_; (try simp only [Act.put, rA, rB, rC, rD, rE, rF])
  refine wpAnyG_take 4 (v := ?_) rfl (by kernel_rfl) (fun _ _ _ h => h) S0 (Or.inl ⟨by rfl, by intro w' hSw; go_simp; try with_reducible rfl⟩) ?_; (try simp only [Act.put, rA, rB, rC, rD, rE, rF])
  refine wpAnyG_take 5 (v := ?_) rfl (by kernel_rfl) (fun _ _ _ h => h) S0 (Or.inl ⟨by rfl, by intro w' hSw; go_simp; try with_reducible rfl⟩) ?_; (try simp only [Act.put, rA, rB, rC, rD, rE, rF])
  clear S0
  refine wpAnyG_one 3 (by kernel_rfl) rfl (fun K hK => ?_)
  rw [if_pos (by rfl)]
  go_simp
  (go_at_call 83; (with_reducible refine (fOwnN A n c l 0 _ (by decide) h).mono ?_); rintro e w9 ⟨rfl, rfl⟩)
  have hzz := gr.out.size
  (try go_simp)
  refine hK.out _ _ (fun _ => trivial) ?_
  clear hK K
  (try simp only [Act.put, rA, rB, rC, rD, rE, rF])
  refine wpAnyG_one 6 (by kernel_rfl) rfl (fun K hK => ?_)
  rw [if_pos (by rfl)]
  go_simp
  (go_at_call 41; (with_reducible refine (fClone _ _ _ (l.drop 4) _ (h.cutL hk) (by omega)).mono ?_); rintro e w9 ⟨B, d, rfl, m0, hb⟩)
  replace gr := gr.below hb
  replace q := q.below hb
  have m1 := m0.base_le hzz
  clear hb m0 h
  (try go_simp)
  refine hK.out _ _ (fun _ => trivial) ?_
  clear hK K
  (try simp only [Act.put, rA, rB, rC, rD, rE, rF])
  have S0 := trivial
  refine wpAnyG_take 7 (v := ?_) rfl (by kernel_rfl) (fun _ _ _ h => h) S0 (Or.inl ⟨by rfl, by intro w' hSw; go_simp; try with_reducible rfl⟩) ?_; (try simp only [Act.put, rA, rB, rC, rD, rE, rF])
  refine wpAnyG_take 8 (v := ?_) rfl (by kernel_rfl) (fun _ _ _ h => h) S0 (Or.inl ⟨by rfl, by intro w' hSw; go_simp; try with_reducible rfl⟩) ?_; (try simp only [Act.put, rA, rB, rC, rD, rE, rF])
  clear S0
  refine wpAnyG_one 9 (by kernel_rfl) rfl (fun K hK => ?_)
  rw [if_pos (by rfl)]
  refine wp_putF (v := .int .i64 (streamO l 0)) _ _ _ rfl rfl rfl q rfl (by rfl) (by rfl) ?_
  intro w9 qn hg
  simp only [rD, rF, rE] at qn
  replace gr := gr.grown hg
  replace m1 := m1.grownB q (by decide) hg
  clear hg q; have q := qn; clear qn
  refine hK.out _ _ (fun _ => trivial) ?_
  clear hK K
  (try simp only [Act.put, rA, rB, rC, rD, rE, rF])
  have S0 := trivial
  refine wpAnyG_take 10 (v := ?_) rfl (by kernel_rfl) (fun _ _ _ h => h) S0 (Or.inl ⟨by rfl, by intro w' hSw; go_simp; try with_reducible rfl⟩) ?_; (try simp only [Act.put, rA, rB, rC, rD, rE, rF])
  refine wpAnyG_take 11 (v := ?_) rfl (by kernel_rfl) (fun _ _ _ h => h) S0 (Or.inl ⟨by rfl, by intro w' hSw; go_simp; try with_reducible rfl⟩) ?_; (try simp only [Act.put, rA, rB, rC, rD, rE, rF])
  clear S0
  refine wpAnyG_one 12 (by kernel_rfl) rfl (fun K hK => ?_)
  rw [if_pos (by rfl)]
  refine wp_putF (v := .slice B (n - 4) d) _ _ _ rfl rfl rfl q rfl (by rfl) (by rfl) ?_
  intro w9 qn hg
  simp only [rD, rF, rE] at qn
  replace gr := gr.grown hg
  replace m1 := m1.grownB q (by decide) hg
  clear hg q; have q := qn; clear qn
  refine hK.out _ _ (fun _ => trivial) ?_
  clear hK K
  (try simp only [Act.put, rA, rB, rC, rD, rE, rF])
  refine wpAnyG_done (by kernel_rfl) ?_ _
  go_wp2
  go_ret
  exact ⟨gr.out, rfl, _, _, _, _, _, _, q, m1, MineP.nil _ _⟩
end Go.Proofs.Ytnjnpnjjpodnnaa
