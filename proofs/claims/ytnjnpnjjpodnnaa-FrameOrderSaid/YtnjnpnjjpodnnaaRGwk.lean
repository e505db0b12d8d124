/- The statements' own wakes of frames returns true. -/
import Derived.Test.YtnjnpnjjpodnnaaRGn
import Derived.Test.YtnjnpnjjpodnnaaRGu
namespace Go.Proofs.Ytnjnpnjjpodnnaa
open Go.RowKit Go.Shelf
set_option linter.unusedVariables false
set_option linter.unusedSimpArgs false

instance : DecidablePred Bs := fun l => inferInstanceAs (Decidable (∀ x ∈ l, 0 ≤ x ∧ x ≤ 255))
theorem lit14 {w : World} {g : Nat} (hg : w.heap.size = g) : Byt (w.alloc (.cells #[.int .u8 0, .int .u8 0, .int .u8 5, .int .u8 0, .int .u8 9, .int .u8 0, .int .u8 0, .int .u8 0, .int .u8 1, .int .u8 2, .int .u8 7, .int .u8 8, .int .u8 0, .int .u8 0] 5)) (some ⟨g, 0, none⟩) 14 14 [0, 0, 5, 0, 9, 0, 0, 0, 1, 2, 7, 8, 0, 0] := by
  subst hg
  exact (Mine.lit (base := 0) w [0, 0, 5, 0, 9, 0, 0, 0, 1, 2, 7, 8, 0, 0] (Nat.zero_le _) (by decide) (by simp) 14 rfl).byt
theorem ret_bel {v : Value} {w : World} : ∀ e w', Ret v w e w' → (e = .returned v ∧ Below w.heap.size w w') := fun e w' h => by
  obtain ⟨rfl, rfl⟩ := h
  exact ⟨rfl, Below.refl _ _⟩
def wF1 : Fm := ⟨8, 0, 3, 0, 0, 0, 0, 0, 0, [], [], false, false⟩
def wG : Fm := ⟨0, 9, 1, 3, 0, 0, 0, 0, 0, [7, 8], [], false, false⟩
def wF6 : Fm := ⟨2, 0, 5, 0, 0, 0, 0, 0, 0, [], [], false, false⟩
def wP6 : Fm := ⟨6, 0, 0, 0, 0, 0, 0, 0, 0, [], [], false, false⟩
theorem wk1 : parseS 8 0 3 [128, 0, 0, 0] = (wF1, ⟨false, 3, 1⟩) := by decide +kernel
theorem wk2 : parseS 4 1 0 [0, 0, 0, 0, 0, 0] = (Fm0, ⟨true, 0, 6⟩) := by decide +kernel
theorem wk3 : parseS 0 9 1 [2, 7, 8, 0, 0] = (wG, ⟨false, 0, 0⟩) := by decide +kernel
theorem wk4 : putS wG = [0, 0, 5, 0, 9, 0, 0, 0, 1, 2, 7, 8, 0, 0] ∧ putSe wG = 0 := by decide +kernel
theorem wk5 : parseS 0 8 1 [2, 7] = (Fm0, ⟨true, 0, 1⟩) := by decide +kernel
theorem wk6 : parseS 5 0 1 [] = (Fm0, ⟨true, 0, 1⟩) := by decide +kernel
theorem wk7 : parseS 2 0 5 [] = (wF6, ⟨false, 5, 6⟩) := by decide +kernel
theorem wk8 : putS wP6 = [] ∧ putSe wP6 = 2 := by decide +kernel
theorem wk9 : rightS wG = true ∧ sameF wG wG = true ∧ sameF wF1 wG = false := by decide +kernel
theorem okG : FmOk wG := ⟨by decide, by decide, by decide, by decide, by decide, by decide, by decide, by decide, by decide, by decide⟩
theorem okP6 : FmOk wP6 := ⟨by decide, by decide, by decide, by decide, by decide, by decide, by decide, by decide, by decide, by decide⟩
noncomputable def wkOps : Array Oper := regAt Try.f9 9

set_option maxRecDepth 100000 in
set_option maxHeartbeats 4000000 in
theorem fWakes (W : World) : Calls Try.prog 9 #[] W fun e w' => e = .returned (.bool true) ∧ Below W.heap.size W w' := by
  have P1 := Lib.hid fun (B : Option Addr) (e : Nat) w (hc : Byt w B 4 e [128, 0, 0, 0]) => fParse 0 8 0 3 B 4 e [128, 0, 0, 0] w hc (by decide) (by decide) (by decide) (by decide) (by decide)
  rw [wk1] at P1
  (try simp only [wF1, wG, wF6, wP6, Fm0, fm0] at P1)
  have P2 := Lib.hid fun (B : Option Addr) (e : Nat) w (hc : Byt w B 6 e [0, 0, 0, 0, 0, 0]) => fParse 0 4 1 0 B 6 e [0, 0, 0, 0, 0, 0] w hc (by decide) (by decide) (by decide) (by decide) (by decide)
  rw [wk2] at P2
  (try simp only [wF1, wG, wF6, wP6, Fm0, fm0] at P2)
  have P3 := Lib.hid fun (B : Option Addr) (e : Nat) w (hc : Byt w B 5 e [2, 7, 8, 0, 0]) => fParse 0 0 9 1 B 5 e [2, 7, 8, 0, 0] w hc (by decide) (by decide) (by decide) (by decide) (by decide)
  rw [wk3] at P3
  (try simp only [wF1, wG, wF6, wP6, Fm0, fm0] at P3)
  have P5 := Lib.hid fun (B : Option Addr) (e : Nat) w (hc : Byt w B 2 e [2, 7]) => fParse 0 0 8 1 B 2 e [2, 7] w hc (by decide) (by decide) (by decide) (by decide) (by decide)
  rw [wk5] at P5
  (try simp only [wF1, wG, wF6, wP6, Fm0, fm0] at P5)
  have P6 := Lib.hid fun w => fParse 0 5 0 1 none 0 0 [] w (Byt.nil w) (by decide) (by decide) (by decide) (by decide) (by decide)
  rw [wk6] at P6
  (try simp only [wF1, wG, wF6, wP6, Fm0, fm0] at P6)
  have P7 := Lib.hid fun w => fParse 0 2 0 5 none 0 0 [] w (Byt.nil w) (by decide) (by decide) (by decide) (by decide) (by decide)
  rw [wk7] at P7
  (try simp only [wF1, wG, wF6, wP6, Fm0, fm0] at P7)
  have U4 := Lib.hid fun (A : Option Addr) (n c : Nat) (P : Option Addr) (pn pc : Nat) w (h : Byt w A n c wG.da) (hp : Prs w P pn pc wG.prs) => fPutF wG okG A n c P pn pc w h (by have := h.len; simp [wG] at this; omega) hp (by have := hp.len; simp [wG] at this; omega)
  rw [wk4.1, wk4.2] at U4
  (try simp only [wF1, wG, wF6, wP6, Fm0, fm0] at U4)
  have U8 := Lib.hid fun w => fPutF wP6 okP6 none 0 0 none 0 0 w (Byt.nil w) (by decide) (Prs.nil w) (by decide)
  rw [wk8.1, wk8.2] at U8
  (try simp only [wF1, wG, wF6, wP6, Fm0, fm0] at U8)
  have RG := Lib.hid fun (A : Option Addr) (n c : Nat) (P : Option Addr) (pn pc : Nat) w (h : Byt w A n c wG.da) (hp : Prs w P pn pc wG.prs) => fRight wG okG A n c P pn pc w h (by have := h.len; simp [wG] at this; omega) hp (by have := hp.len; simp [wG] at this; omega)
  rw [wk9.1] at RG
  (try simp only [wF1, wG, wF6, wP6, Fm0, fm0] at RG)
  have S2 := Lib.hid fun (A : Option Addr) (n c : Nat) (B : Option Addr) (d : Nat) w h h2 => (fSameL A n c [7, 8] B 2 d [7, 8] w h h2).mono ret_bel
  rw [show eqB [7, 8] [7, 8] = true from by decide] at S2
  (try simp only [wF1, wG, wF6, wP6, Fm0, fm0] at S2)
  have S14 := Lib.hid fun (A : Option Addr) (n c : Nat) (B : Option Addr) (d : Nat) w h h2 => (fSameL A n c [0, 0, 5, 0, 9, 0, 0, 0, 1, 2, 7, 8, 0, 0] B 14 d [0, 0, 5, 0, 9, 0, 0, 0, 1, 2, 7, 8, 0, 0] w h h2).mono ret_bel
  rw [show eqB [0, 0, 5, 0, 9, 0, 0, 0, 1, 2, 7, 8, 0, 0] [0, 0, 5, 0, 9, 0, 0, 0, 1, 2, 7, 8, 0, 0] = true from by decide] at S14
  (try simp only [wF1, wG, wF6, wP6, Fm0, fm0] at S14)
  have OW := Lib.hid fun (A : Option Addr) (n c : Nat) (P : Option Addr) (pn pc : Nat) w (h : Byt w A n c wG.da) (hp : Prs w P pn pc wG.prs) => fOwnF wG A n c P pn pc w h (by have := h.len; simp [wG] at this; omega) hp (by have := hp.len; simp [wG] at this; omega)
  (try simp only [wF1, wG, wF6, wP6, Fm0, fm0] at OW)
  have SG := Lib.hid fun (A : Option Addr) (n c : Nat) (P : Option Addr) (pn pc : Nat) (B : Option Addr) (m d : Nat) (R : Option Addr) (rn rc : Nat) w h hp h2 hp2 => fSameF wG wG A n c P pn pc B m d R rn rc w h hp h2 hp2
  rw [wk9.2.1] at SG
  (try simp only [wF1, wG, wF6, wP6, Fm0, fm0] at SG)
  have SF := Lib.hid fun (A : Option Addr) (n c : Nat) (P : Option Addr) (pn pc : Nat) (B : Option Addr) (m d : Nat) (R : Option Addr) (rn rc : Nat) w h hp h2 hp2 => fSameF wF1 wG A n c P pn pc B m d R rn rc w h hp h2 hp2
  rw [wk9.2.2] at SF
  (try simp only [wF1, wG, wF6, wP6, Fm0, fm0] at SF)
  have hmk : ∀ w : World, (Instr.makeSlice 24 (.int .i64 6) (.int .i64 6)).run Try.prog w = .ok (.slice (some ⟨w.heap.size, 0, none⟩) 6 6) (w.alloc (.cells #[.int .u8 0, .int .u8 0, .int .u8 0, .int .u8 0, .int .u8 0, .int .u8 0] 5)) := fun _ => by kernel_rfl
  have b0 := Bel.refl W
  go_enter Try.func9, Try.ntmps9
  go_wp2_with fail
  replace b0 := b0.alloc (.cells #[.int .u8 128, .int .u8 0, .int .u8 0, .int .u8 0] 5)
  refine (P1.out _ _ _ (lit4 (by first | rfl | simp) (by decide))).mono ?_
  rintro e w1 ⟨B1, m1, d1, Q1, qn1, qc1, rfl, mm1, mp1, hb⟩
  (try simp only at mm1)
  (try simp only at mp1)
  replace b0 := b0.below hb
  clear hb
  replace b0 := (b0.alloc (.cells #[.int .u8 8, .int .u8 0, .int .i64 3, .slice B1 m1 d1, .int .i64 0, .int .i64 0, .int .i64 0, .int .u32 0, .slice Q1 qn1 qc1, .bool false, .bool false, .int .i64 0, .int .u8 0] 30)).alloc (.cells #[.bool false, .int .i64 3, .int .u32 1] 34)
  replace mm1 := (mm1.alloc (.cells #[.int .u8 8, .int .u8 0, .int .i64 3, .slice B1 m1 d1, .int .i64 0, .int .i64 0, .int .i64 0, .int .u32 0, .slice Q1 qn1 qc1, .bool false, .bool false, .int .i64 0, .int .u8 0] 30)).alloc (.cells #[.bool false, .int .i64 3, .int .u32 1] 34)
  replace mp1 := (mp1.alloc (.cells #[.int .u8 8, .int .u8 0, .int .i64 3, .slice B1 m1 d1, .int .i64 0, .int .i64 0, .int .i64 0, .int .u32 0, .slice Q1 qn1 qc1, .bool false, .bool false, .int .i64 0, .int .u8 0] 30)).alloc (.cells #[.bool false, .int .i64 3, .int .u32 1] 34)
  have q1 := (Blk.new w1 30 #[.int .u8 8, .int .u8 0, .int .i64 3, .slice B1 m1 d1, .int .i64 0, .int .i64 0, .int .i64 0, .int .u32 0, .slice Q1 qn1 qc1, .bool false, .bool false, .int .i64 0, .int .u8 0]).alloc (.cells #[.bool false, .int .i64 3, .int .u32 1] 34)
  have x1 := Blk.newAt (b := w1.heap.size + 1) (w1.alloc (.cells #[.int .u8 8, .int .u8 0, .int .i64 3, .slice B1 m1 d1, .int .i64 0, .int .i64 0, .int .i64 0, .int .u32 0, .slice Q1 qn1 qc1, .bool false, .bool false, .int .i64 0, .int .u8 0] 30)) 34 #[.bool false, .int .i64 3, .int .u32 1] (by simp)
  go_wp2_with fail
  replace b0 := b0.alloc (.cells #[.int .u8 0, .int .u8 0, .int .u8 0, .int .u8 0, .int .u8 0, .int .u8 0] 5)
  replace mm1 := mm1.alloc (.cells #[.int .u8 0, .int .u8 0, .int .u8 0, .int .u8 0, .int .u8 0, .int .u8 0] 5)
  replace mp1 := mp1.alloc (.cells #[.int .u8 0, .int .u8 0, .int .u8 0, .int .u8 0, .int .u8 0, .int .u8 0] 5)
  replace q1 := q1.alloc (.cells #[.int .u8 0, .int .u8 0, .int .u8 0, .int .u8 0, .int .u8 0, .int .u8 0] 5)
  replace x1 := x1.alloc (.cells #[.int .u8 0, .int .u8 0, .int .u8 0, .int .u8 0, .int .u8 0, .int .u8 0] 5)
  refine (P2.out _ _ _ (lit6 (by first | rfl | simp) (by decide))).mono ?_
  rintro e w2 ⟨B2, m2, d2, Q2, qn2, qc2, rfl, mm2, mp2, hb⟩
  replace b0 := b0.below hb
  replace mm1 := mm1.below hb
  replace mp1 := mp1.below hb
  replace q1 := q1.below hb
  replace x1 := x1.below hb
  clear hb
  clear mm2 mp2
  replace b0 := (b0.alloc (.cells #[.int .u8 0, .int .u8 0, .int .i64 0, .slice B2 m2 d2, .int .i64 0, .int .i64 0, .int .i64 0, .int .u32 0, .slice Q2 qn2 qc2, .bool false, .bool false, .int .i64 0, .int .u8 0] 30)).alloc (.cells #[.bool true, .int .i64 0, .int .u32 6] 34)
  replace mm1 := (mm1.alloc (.cells #[.int .u8 0, .int .u8 0, .int .i64 0, .slice B2 m2 d2, .int .i64 0, .int .i64 0, .int .i64 0, .int .u32 0, .slice Q2 qn2 qc2, .bool false, .bool false, .int .i64 0, .int .u8 0] 30)).alloc (.cells #[.bool true, .int .i64 0, .int .u32 6] 34)
  replace mp1 := (mp1.alloc (.cells #[.int .u8 0, .int .u8 0, .int .i64 0, .slice B2 m2 d2, .int .i64 0, .int .i64 0, .int .i64 0, .int .u32 0, .slice Q2 qn2 qc2, .bool false, .bool false, .int .i64 0, .int .u8 0] 30)).alloc (.cells #[.bool true, .int .i64 0, .int .u32 6] 34)
  replace q1 := (q1.alloc (.cells #[.int .u8 0, .int .u8 0, .int .i64 0, .slice B2 m2 d2, .int .i64 0, .int .i64 0, .int .i64 0, .int .u32 0, .slice Q2 qn2 qc2, .bool false, .bool false, .int .i64 0, .int .u8 0] 30)).alloc (.cells #[.bool true, .int .i64 0, .int .u32 6] 34)
  replace x1 := (x1.alloc (.cells #[.int .u8 0, .int .u8 0, .int .i64 0, .slice B2 m2 d2, .int .i64 0, .int .i64 0, .int .i64 0, .int .u32 0, .slice Q2 qn2 qc2, .bool false, .bool false, .int .i64 0, .int .u8 0] 30)).alloc (.cells #[.bool true, .int .i64 0, .int .u32 6] 34)
  have q2 := (Blk.new w2 30 #[.int .u8 0, .int .u8 0, .int .i64 0, .slice B2 m2 d2, .int .i64 0, .int .i64 0, .int .i64 0, .int .u32 0, .slice Q2 qn2 qc2, .bool false, .bool false, .int .i64 0, .int .u8 0]).alloc (.cells #[.bool true, .int .i64 0, .int .u32 6] 34)
  have x2 := Blk.newAt (b := w2.heap.size + 1) (w2.alloc (.cells #[.int .u8 0, .int .u8 0, .int .i64 0, .slice B2 m2 d2, .int .i64 0, .int .i64 0, .int .i64 0, .int .u32 0, .slice Q2 qn2 qc2, .bool false, .bool false, .int .i64 0, .int .u8 0] 30)) 34 #[.bool true, .int .i64 0, .int .u32 6] (by simp)
  go_wp2_with fail
  replace b0 := b0.alloc (.cells #[.int .u8 2, .int .u8 7, .int .u8 8, .int .u8 0, .int .u8 0] 5)
  replace mm1 := mm1.alloc (.cells #[.int .u8 2, .int .u8 7, .int .u8 8, .int .u8 0, .int .u8 0] 5)
  replace mp1 := mp1.alloc (.cells #[.int .u8 2, .int .u8 7, .int .u8 8, .int .u8 0, .int .u8 0] 5)
  replace q1 := q1.alloc (.cells #[.int .u8 2, .int .u8 7, .int .u8 8, .int .u8 0, .int .u8 0] 5)
  replace x1 := x1.alloc (.cells #[.int .u8 2, .int .u8 7, .int .u8 8, .int .u8 0, .int .u8 0] 5)
  replace q2 := q2.alloc (.cells #[.int .u8 2, .int .u8 7, .int .u8 8, .int .u8 0, .int .u8 0] 5)
  replace x2 := x2.alloc (.cells #[.int .u8 2, .int .u8 7, .int .u8 8, .int .u8 0, .int .u8 0] 5)
  refine (P3.out _ _ _ (lit5 (by first | rfl | simp) (by decide))).mono ?_
  rintro e w3 ⟨B3, m3, d3, Q3, qn3, qc3, rfl, mm3, mp3, hb⟩
  (try simp only at mm3)
  (try simp only at mp3)
  replace b0 := b0.below hb
  replace mm1 := mm1.below hb
  replace mp1 := mp1.below hb
  replace q1 := q1.below hb
  replace x1 := x1.below hb
  replace q2 := q2.below hb
  replace x2 := x2.below hb
  clear hb
  replace b0 := (b0.alloc (.cells #[.int .u8 0, .int .u8 9, .int .i64 1, .slice B3 m3 d3, .int .i64 3, .int .i64 0, .int .i64 0, .int .u32 0, .slice Q3 qn3 qc3, .bool false, .bool false, .int .i64 0, .int .u8 0] 30)).alloc (.cells #[.bool false, .int .i64 0, .int .u32 0] 34)
  replace mm1 := (mm1.alloc (.cells #[.int .u8 0, .int .u8 9, .int .i64 1, .slice B3 m3 d3, .int .i64 3, .int .i64 0, .int .i64 0, .int .u32 0, .slice Q3 qn3 qc3, .bool false, .bool false, .int .i64 0, .int .u8 0] 30)).alloc (.cells #[.bool false, .int .i64 0, .int .u32 0] 34)
  replace mp1 := (mp1.alloc (.cells #[.int .u8 0, .int .u8 9, .int .i64 1, .slice B3 m3 d3, .int .i64 3, .int .i64 0, .int .i64 0, .int .u32 0, .slice Q3 qn3 qc3, .bool false, .bool false, .int .i64 0, .int .u8 0] 30)).alloc (.cells #[.bool false, .int .i64 0, .int .u32 0] 34)
  replace q1 := (q1.alloc (.cells #[.int .u8 0, .int .u8 9, .int .i64 1, .slice B3 m3 d3, .int .i64 3, .int .i64 0, .int .i64 0, .int .u32 0, .slice Q3 qn3 qc3, .bool false, .bool false, .int .i64 0, .int .u8 0] 30)).alloc (.cells #[.bool false, .int .i64 0, .int .u32 0] 34)
  replace x1 := (x1.alloc (.cells #[.int .u8 0, .int .u8 9, .int .i64 1, .slice B3 m3 d3, .int .i64 3, .int .i64 0, .int .i64 0, .int .u32 0, .slice Q3 qn3 qc3, .bool false, .bool false, .int .i64 0, .int .u8 0] 30)).alloc (.cells #[.bool false, .int .i64 0, .int .u32 0] 34)
  replace q2 := (q2.alloc (.cells #[.int .u8 0, .int .u8 9, .int .i64 1, .slice B3 m3 d3, .int .i64 3, .int .i64 0, .int .i64 0, .int .u32 0, .slice Q3 qn3 qc3, .bool false, .bool false, .int .i64 0, .int .u8 0] 30)).alloc (.cells #[.bool false, .int .i64 0, .int .u32 0] 34)
  replace x2 := (x2.alloc (.cells #[.int .u8 0, .int .u8 9, .int .i64 1, .slice B3 m3 d3, .int .i64 3, .int .i64 0, .int .i64 0, .int .u32 0, .slice Q3 qn3 qc3, .bool false, .bool false, .int .i64 0, .int .u8 0] 30)).alloc (.cells #[.bool false, .int .i64 0, .int .u32 0] 34)
  replace mm3 := (mm3.alloc (.cells #[.int .u8 0, .int .u8 9, .int .i64 1, .slice B3 m3 d3, .int .i64 3, .int .i64 0, .int .i64 0, .int .u32 0, .slice Q3 qn3 qc3, .bool false, .bool false, .int .i64 0, .int .u8 0] 30)).alloc (.cells #[.bool false, .int .i64 0, .int .u32 0] 34)
  replace mp3 := (mp3.alloc (.cells #[.int .u8 0, .int .u8 9, .int .i64 1, .slice B3 m3 d3, .int .i64 3, .int .i64 0, .int .i64 0, .int .u32 0, .slice Q3 qn3 qc3, .bool false, .bool false, .int .i64 0, .int .u8 0] 30)).alloc (.cells #[.bool false, .int .i64 0, .int .u32 0] 34)
  have q3 := (Blk.new w3 30 #[.int .u8 0, .int .u8 9, .int .i64 1, .slice B3 m3 d3, .int .i64 3, .int .i64 0, .int .i64 0, .int .u32 0, .slice Q3 qn3 qc3, .bool false, .bool false, .int .i64 0, .int .u8 0]).alloc (.cells #[.bool false, .int .i64 0, .int .u32 0] 34)
  have x3 := Blk.newAt (b := w3.heap.size + 1) (w3.alloc (.cells #[.int .u8 0, .int .u8 9, .int .i64 1, .slice B3 m3 d3, .int .i64 3, .int .i64 0, .int .i64 0, .int .u32 0, .slice Q3 qn3 qc3, .bool false, .bool false, .int .i64 0, .int .u8 0] 30)) 34 #[.bool false, .int .i64 0, .int .u32 0] (by simp)
  go_wp2_with fail
  refine (U4.out _ _ _ _ _ _ _ mm3.byt mp3.prs).mono ?_
  rintro e w4 ⟨A4, n4, c4, rfl, k4, hb⟩
  replace b0 := b0.below hb
  replace mm1 := mm1.below hb
  replace mp1 := mp1.below hb
  replace q1 := q1.below hb
  replace x1 := x1.below hb
  replace q2 := q2.below hb
  replace x2 := x2.below hb
  replace mm3 := mm3.below hb
  replace mp3 := mp3.below hb
  replace q3 := q3.below hb
  replace x3 := x3.below hb
  clear hb
  go_wp2_with fail
  replace b0 := b0.alloc (.cells #[.int .u8 2, .int .u8 7] 5)
  replace mm1 := mm1.alloc (.cells #[.int .u8 2, .int .u8 7] 5)
  replace mp1 := mp1.alloc (.cells #[.int .u8 2, .int .u8 7] 5)
  replace q1 := q1.alloc (.cells #[.int .u8 2, .int .u8 7] 5)
  replace x1 := x1.alloc (.cells #[.int .u8 2, .int .u8 7] 5)
  replace q2 := q2.alloc (.cells #[.int .u8 2, .int .u8 7] 5)
  replace x2 := x2.alloc (.cells #[.int .u8 2, .int .u8 7] 5)
  replace mm3 := mm3.alloc (.cells #[.int .u8 2, .int .u8 7] 5)
  replace mp3 := mp3.alloc (.cells #[.int .u8 2, .int .u8 7] 5)
  replace q3 := q3.alloc (.cells #[.int .u8 2, .int .u8 7] 5)
  replace x3 := x3.alloc (.cells #[.int .u8 2, .int .u8 7] 5)
  replace k4 := k4.alloc (.cells #[.int .u8 2, .int .u8 7] 5)
  refine (P5.out _ _ _ (lit2 (by first | rfl | simp) (by decide))).mono ?_
  rintro e w5 ⟨B5, m5, d5, Q5, qn5, qc5, rfl, mm5, mp5, hb⟩
  replace b0 := b0.below hb
  replace mm1 := mm1.below hb
  replace mp1 := mp1.below hb
  replace q1 := q1.below hb
  replace x1 := x1.below hb
  replace q2 := q2.below hb
  replace x2 := x2.below hb
  replace mm3 := mm3.below hb
  replace mp3 := mp3.below hb
  replace q3 := q3.below hb
  replace x3 := x3.below hb
  replace k4 := k4.below hb
  clear hb
  clear mm5 mp5
  replace b0 := (b0.alloc (.cells #[.int .u8 0, .int .u8 0, .int .i64 0, .slice B5 m5 d5, .int .i64 0, .int .i64 0, .int .i64 0, .int .u32 0, .slice Q5 qn5 qc5, .bool false, .bool false, .int .i64 0, .int .u8 0] 30)).alloc (.cells #[.bool true, .int .i64 0, .int .u32 1] 34)
  replace mm1 := (mm1.alloc (.cells #[.int .u8 0, .int .u8 0, .int .i64 0, .slice B5 m5 d5, .int .i64 0, .int .i64 0, .int .i64 0, .int .u32 0, .slice Q5 qn5 qc5, .bool false, .bool false, .int .i64 0, .int .u8 0] 30)).alloc (.cells #[.bool true, .int .i64 0, .int .u32 1] 34)
  replace mp1 := (mp1.alloc (.cells #[.int .u8 0, .int .u8 0, .int .i64 0, .slice B5 m5 d5, .int .i64 0, .int .i64 0, .int .i64 0, .int .u32 0, .slice Q5 qn5 qc5, .bool false, .bool false, .int .i64 0, .int .u8 0] 30)).alloc (.cells #[.bool true, .int .i64 0, .int .u32 1] 34)
  replace q1 := (q1.alloc (.cells #[.int .u8 0, .int .u8 0, .int .i64 0, .slice B5 m5 d5, .int .i64 0, .int .i64 0, .int .i64 0, .int .u32 0, .slice Q5 qn5 qc5, .bool false, .bool false, .int .i64 0, .int .u8 0] 30)).alloc (.cells #[.bool true, .int .i64 0, .int .u32 1] 34)
  replace x1 := (x1.alloc (.cells #[.int .u8 0, .int .u8 0, .int .i64 0, .slice B5 m5 d5, .int .i64 0, .int .i64 0, .int .i64 0, .int .u32 0, .slice Q5 qn5 qc5, .bool false, .bool false, .int .i64 0, .int .u8 0] 30)).alloc (.cells #[.bool true, .int .i64 0, .int .u32 1] 34)
  replace q2 := (q2.alloc (.cells #[.int .u8 0, .int .u8 0, .int .i64 0, .slice B5 m5 d5, .int .i64 0, .int .i64 0, .int .i64 0, .int .u32 0, .slice Q5 qn5 qc5, .bool false, .bool false, .int .i64 0, .int .u8 0] 30)).alloc (.cells #[.bool true, .int .i64 0, .int .u32 1] 34)
  replace x2 := (x2.alloc (.cells #[.int .u8 0, .int .u8 0, .int .i64 0, .slice B5 m5 d5, .int .i64 0, .int .i64 0, .int .i64 0, .int .u32 0, .slice Q5 qn5 qc5, .bool false, .bool false, .int .i64 0, .int .u8 0] 30)).alloc (.cells #[.bool true, .int .i64 0, .int .u32 1] 34)
  replace mm3 := (mm3.alloc (.cells #[.int .u8 0, .int .u8 0, .int .i64 0, .slice B5 m5 d5, .int .i64 0, .int .i64 0, .int .i64 0, .int .u32 0, .slice Q5 qn5 qc5, .bool false, .bool false, .int .i64 0, .int .u8 0] 30)).alloc (.cells #[.bool true, .int .i64 0, .int .u32 1] 34)
  replace mp3 := (mp3.alloc (.cells #[.int .u8 0, .int .u8 0, .int .i64 0, .slice B5 m5 d5, .int .i64 0, .int .i64 0, .int .i64 0, .int .u32 0, .slice Q5 qn5 qc5, .bool false, .bool false, .int .i64 0, .int .u8 0] 30)).alloc (.cells #[.bool true, .int .i64 0, .int .u32 1] 34)
  replace q3 := (q3.alloc (.cells #[.int .u8 0, .int .u8 0, .int .i64 0, .slice B5 m5 d5, .int .i64 0, .int .i64 0, .int .i64 0, .int .u32 0, .slice Q5 qn5 qc5, .bool false, .bool false, .int .i64 0, .int .u8 0] 30)).alloc (.cells #[.bool true, .int .i64 0, .int .u32 1] 34)
  replace x3 := (x3.alloc (.cells #[.int .u8 0, .int .u8 0, .int .i64 0, .slice B5 m5 d5, .int .i64 0, .int .i64 0, .int .i64 0, .int .u32 0, .slice Q5 qn5 qc5, .bool false, .bool false, .int .i64 0, .int .u8 0] 30)).alloc (.cells #[.bool true, .int .i64 0, .int .u32 1] 34)
  replace k4 := (k4.alloc (.cells #[.int .u8 0, .int .u8 0, .int .i64 0, .slice B5 m5 d5, .int .i64 0, .int .i64 0, .int .i64 0, .int .u32 0, .slice Q5 qn5 qc5, .bool false, .bool false, .int .i64 0, .int .u8 0] 30)).alloc (.cells #[.bool true, .int .i64 0, .int .u32 1] 34)
  have q5 := (Blk.new w5 30 #[.int .u8 0, .int .u8 0, .int .i64 0, .slice B5 m5 d5, .int .i64 0, .int .i64 0, .int .i64 0, .int .u32 0, .slice Q5 qn5 qc5, .bool false, .bool false, .int .i64 0, .int .u8 0]).alloc (.cells #[.bool true, .int .i64 0, .int .u32 1] 34)
  have x5 := Blk.newAt (b := w5.heap.size + 1) (w5.alloc (.cells #[.int .u8 0, .int .u8 0, .int .i64 0, .slice B5 m5 d5, .int .i64 0, .int .i64 0, .int .i64 0, .int .u32 0, .slice Q5 qn5 qc5, .bool false, .bool false, .int .i64 0, .int .u8 0] 30)) 34 #[.bool true, .int .i64 0, .int .u32 1] (by simp)
  go_wp2_with fail
  refine (P6.out _).mono ?_
  rintro e w6 ⟨B6, m6, d6, Q6, qn6, qc6, rfl, mm6, mp6, hb⟩
  replace b0 := b0.below hb
  replace mm1 := mm1.below hb
  replace mp1 := mp1.below hb
  replace q1 := q1.below hb
  replace x1 := x1.below hb
  replace q2 := q2.below hb
  replace x2 := x2.below hb
  replace mm3 := mm3.below hb
  replace mp3 := mp3.below hb
  replace q3 := q3.below hb
  replace x3 := x3.below hb
  replace k4 := k4.below hb
  replace q5 := q5.below hb
  replace x5 := x5.below hb
  clear hb
  clear mm6 mp6
  replace b0 := (b0.alloc (.cells #[.int .u8 0, .int .u8 0, .int .i64 0, .slice B6 m6 d6, .int .i64 0, .int .i64 0, .int .i64 0, .int .u32 0, .slice Q6 qn6 qc6, .bool false, .bool false, .int .i64 0, .int .u8 0] 30)).alloc (.cells #[.bool true, .int .i64 0, .int .u32 1] 34)
  replace mm1 := (mm1.alloc (.cells #[.int .u8 0, .int .u8 0, .int .i64 0, .slice B6 m6 d6, .int .i64 0, .int .i64 0, .int .i64 0, .int .u32 0, .slice Q6 qn6 qc6, .bool false, .bool false, .int .i64 0, .int .u8 0] 30)).alloc (.cells #[.bool true, .int .i64 0, .int .u32 1] 34)
  replace mp1 := (mp1.alloc (.cells #[.int .u8 0, .int .u8 0, .int .i64 0, .slice B6 m6 d6, .int .i64 0, .int .i64 0, .int .i64 0, .int .u32 0, .slice Q6 qn6 qc6, .bool false, .bool false, .int .i64 0, .int .u8 0] 30)).alloc (.cells #[.bool true, .int .i64 0, .int .u32 1] 34)
  replace q1 := (q1.alloc (.cells #[.int .u8 0, .int .u8 0, .int .i64 0, .slice B6 m6 d6, .int .i64 0, .int .i64 0, .int .i64 0, .int .u32 0, .slice Q6 qn6 qc6, .bool false, .bool false, .int .i64 0, .int .u8 0] 30)).alloc (.cells #[.bool true, .int .i64 0, .int .u32 1] 34)
  replace x1 := (x1.alloc (.cells #[.int .u8 0, .int .u8 0, .int .i64 0, .slice B6 m6 d6, .int .i64 0, .int .i64 0, .int .i64 0, .int .u32 0, .slice Q6 qn6 qc6, .bool false, .bool false, .int .i64 0, .int .u8 0] 30)).alloc (.cells #[.bool true, .int .i64 0, .int .u32 1] 34)
  replace q2 := (q2.alloc (.cells #[.int .u8 0, .int .u8 0, .int .i64 0, .slice B6 m6 d6, .int .i64 0, .int .i64 0, .int .i64 0, .int .u32 0, .slice Q6 qn6 qc6, .bool false, .bool false, .int .i64 0, .int .u8 0] 30)).alloc (.cells #[.bool true, .int .i64 0, .int .u32 1] 34)
  replace x2 := (x2.alloc (.cells #[.int .u8 0, .int .u8 0, .int .i64 0, .slice B6 m6 d6, .int .i64 0, .int .i64 0, .int .i64 0, .int .u32 0, .slice Q6 qn6 qc6, .bool false, .bool false, .int .i64 0, .int .u8 0] 30)).alloc (.cells #[.bool true, .int .i64 0, .int .u32 1] 34)
  replace mm3 := (mm3.alloc (.cells #[.int .u8 0, .int .u8 0, .int .i64 0, .slice B6 m6 d6, .int .i64 0, .int .i64 0, .int .i64 0, .int .u32 0, .slice Q6 qn6 qc6, .bool false, .bool false, .int .i64 0, .int .u8 0] 30)).alloc (.cells #[.bool true, .int .i64 0, .int .u32 1] 34)
  replace mp3 := (mp3.alloc (.cells #[.int .u8 0, .int .u8 0, .int .i64 0, .slice B6 m6 d6, .int .i64 0, .int .i64 0, .int .i64 0, .int .u32 0, .slice Q6 qn6 qc6, .bool false, .bool false, .int .i64 0, .int .u8 0] 30)).alloc (.cells #[.bool true, .int .i64 0, .int .u32 1] 34)
  replace q3 := (q3.alloc (.cells #[.int .u8 0, .int .u8 0, .int .i64 0, .slice B6 m6 d6, .int .i64 0, .int .i64 0, .int .i64 0, .int .u32 0, .slice Q6 qn6 qc6, .bool false, .bool false, .int .i64 0, .int .u8 0] 30)).alloc (.cells #[.bool true, .int .i64 0, .int .u32 1] 34)
  replace x3 := (x3.alloc (.cells #[.int .u8 0, .int .u8 0, .int .i64 0, .slice B6 m6 d6, .int .i64 0, .int .i64 0, .int .i64 0, .int .u32 0, .slice Q6 qn6 qc6, .bool false, .bool false, .int .i64 0, .int .u8 0] 30)).alloc (.cells #[.bool true, .int .i64 0, .int .u32 1] 34)
  replace k4 := (k4.alloc (.cells #[.int .u8 0, .int .u8 0, .int .i64 0, .slice B6 m6 d6, .int .i64 0, .int .i64 0, .int .i64 0, .int .u32 0, .slice Q6 qn6 qc6, .bool false, .bool false, .int .i64 0, .int .u8 0] 30)).alloc (.cells #[.bool true, .int .i64 0, .int .u32 1] 34)
  replace q5 := (q5.alloc (.cells #[.int .u8 0, .int .u8 0, .int .i64 0, .slice B6 m6 d6, .int .i64 0, .int .i64 0, .int .i64 0, .int .u32 0, .slice Q6 qn6 qc6, .bool false, .bool false, .int .i64 0, .int .u8 0] 30)).alloc (.cells #[.bool true, .int .i64 0, .int .u32 1] 34)
  replace x5 := (x5.alloc (.cells #[.int .u8 0, .int .u8 0, .int .i64 0, .slice B6 m6 d6, .int .i64 0, .int .i64 0, .int .i64 0, .int .u32 0, .slice Q6 qn6 qc6, .bool false, .bool false, .int .i64 0, .int .u8 0] 30)).alloc (.cells #[.bool true, .int .i64 0, .int .u32 1] 34)
  have q6 := (Blk.new w6 30 #[.int .u8 0, .int .u8 0, .int .i64 0, .slice B6 m6 d6, .int .i64 0, .int .i64 0, .int .i64 0, .int .u32 0, .slice Q6 qn6 qc6, .bool false, .bool false, .int .i64 0, .int .u8 0]).alloc (.cells #[.bool true, .int .i64 0, .int .u32 1] 34)
  have x6 := Blk.newAt (b := w6.heap.size + 1) (w6.alloc (.cells #[.int .u8 0, .int .u8 0, .int .i64 0, .slice B6 m6 d6, .int .i64 0, .int .i64 0, .int .i64 0, .int .u32 0, .slice Q6 qn6 qc6, .bool false, .bool false, .int .i64 0, .int .u8 0] 30)) 34 #[.bool true, .int .i64 0, .int .u32 1] (by simp)
  go_wp2_with fail
  refine (P7.out _).mono ?_
  rintro e w7 ⟨B7, m7, d7, Q7, qn7, qc7, rfl, mm7, mp7, hb⟩
  replace b0 := b0.below hb
  replace mm1 := mm1.below hb
  replace mp1 := mp1.below hb
  replace q1 := q1.below hb
  replace x1 := x1.below hb
  replace q2 := q2.below hb
  replace x2 := x2.below hb
  replace mm3 := mm3.below hb
  replace mp3 := mp3.below hb
  replace q3 := q3.below hb
  replace x3 := x3.below hb
  replace k4 := k4.below hb
  replace q5 := q5.below hb
  replace x5 := x5.below hb
  replace q6 := q6.below hb
  replace x6 := x6.below hb
  clear hb
  clear mm7 mp7
  replace b0 := (b0.alloc (.cells #[.int .u8 2, .int .u8 0, .int .i64 5, .slice B7 m7 d7, .int .i64 0, .int .i64 0, .int .i64 0, .int .u32 0, .slice Q7 qn7 qc7, .bool false, .bool false, .int .i64 0, .int .u8 0] 30)).alloc (.cells #[.bool false, .int .i64 5, .int .u32 6] 34)
  replace mm1 := (mm1.alloc (.cells #[.int .u8 2, .int .u8 0, .int .i64 5, .slice B7 m7 d7, .int .i64 0, .int .i64 0, .int .i64 0, .int .u32 0, .slice Q7 qn7 qc7, .bool false, .bool false, .int .i64 0, .int .u8 0] 30)).alloc (.cells #[.bool false, .int .i64 5, .int .u32 6] 34)
  replace mp1 := (mp1.alloc (.cells #[.int .u8 2, .int .u8 0, .int .i64 5, .slice B7 m7 d7, .int .i64 0, .int .i64 0, .int .i64 0, .int .u32 0, .slice Q7 qn7 qc7, .bool false, .bool false, .int .i64 0, .int .u8 0] 30)).alloc (.cells #[.bool false, .int .i64 5, .int .u32 6] 34)
  replace q1 := (q1.alloc (.cells #[.int .u8 2, .int .u8 0, .int .i64 5, .slice B7 m7 d7, .int .i64 0, .int .i64 0, .int .i64 0, .int .u32 0, .slice Q7 qn7 qc7, .bool false, .bool false, .int .i64 0, .int .u8 0] 30)).alloc (.cells #[.bool false, .int .i64 5, .int .u32 6] 34)
  replace x1 := (x1.alloc (.cells #[.int .u8 2, .int .u8 0, .int .i64 5, .slice B7 m7 d7, .int .i64 0, .int .i64 0, .int .i64 0, .int .u32 0, .slice Q7 qn7 qc7, .bool false, .bool false, .int .i64 0, .int .u8 0] 30)).alloc (.cells #[.bool false, .int .i64 5, .int .u32 6] 34)
  replace q2 := (q2.alloc (.cells #[.int .u8 2, .int .u8 0, .int .i64 5, .slice B7 m7 d7, .int .i64 0, .int .i64 0, .int .i64 0, .int .u32 0, .slice Q7 qn7 qc7, .bool false, .bool false, .int .i64 0, .int .u8 0] 30)).alloc (.cells #[.bool false, .int .i64 5, .int .u32 6] 34)
  replace x2 := (x2.alloc (.cells #[.int .u8 2, .int .u8 0, .int .i64 5, .slice B7 m7 d7, .int .i64 0, .int .i64 0, .int .i64 0, .int .u32 0, .slice Q7 qn7 qc7, .bool false, .bool false, .int .i64 0, .int .u8 0] 30)).alloc (.cells #[.bool false, .int .i64 5, .int .u32 6] 34)
  replace mm3 := (mm3.alloc (.cells #[.int .u8 2, .int .u8 0, .int .i64 5, .slice B7 m7 d7, .int .i64 0, .int .i64 0, .int .i64 0, .int .u32 0, .slice Q7 qn7 qc7, .bool false, .bool false, .int .i64 0, .int .u8 0] 30)).alloc (.cells #[.bool false, .int .i64 5, .int .u32 6] 34)
  replace mp3 := (mp3.alloc (.cells #[.int .u8 2, .int .u8 0, .int .i64 5, .slice B7 m7 d7, .int .i64 0, .int .i64 0, .int .i64 0, .int .u32 0, .slice Q7 qn7 qc7, .bool false, .bool false, .int .i64 0, .int .u8 0] 30)).alloc (.cells #[.bool false, .int .i64 5, .int .u32 6] 34)
  replace q3 := (q3.alloc (.cells #[.int .u8 2, .int .u8 0, .int .i64 5, .slice B7 m7 d7, .int .i64 0, .int .i64 0, .int .i64 0, .int .u32 0, .slice Q7 qn7 qc7, .bool false, .bool false, .int .i64 0, .int .u8 0] 30)).alloc (.cells #[.bool false, .int .i64 5, .int .u32 6] 34)
  replace x3 := (x3.alloc (.cells #[.int .u8 2, .int .u8 0, .int .i64 5, .slice B7 m7 d7, .int .i64 0, .int .i64 0, .int .i64 0, .int .u32 0, .slice Q7 qn7 qc7, .bool false, .bool false, .int .i64 0, .int .u8 0] 30)).alloc (.cells #[.bool false, .int .i64 5, .int .u32 6] 34)
  replace k4 := (k4.alloc (.cells #[.int .u8 2, .int .u8 0, .int .i64 5, .slice B7 m7 d7, .int .i64 0, .int .i64 0, .int .i64 0, .int .u32 0, .slice Q7 qn7 qc7, .bool false, .bool false, .int .i64 0, .int .u8 0] 30)).alloc (.cells #[.bool false, .int .i64 5, .int .u32 6] 34)
  replace q5 := (q5.alloc (.cells #[.int .u8 2, .int .u8 0, .int .i64 5, .slice B7 m7 d7, .int .i64 0, .int .i64 0, .int .i64 0, .int .u32 0, .slice Q7 qn7 qc7, .bool false, .bool false, .int .i64 0, .int .u8 0] 30)).alloc (.cells #[.bool false, .int .i64 5, .int .u32 6] 34)
  replace x5 := (x5.alloc (.cells #[.int .u8 2, .int .u8 0, .int .i64 5, .slice B7 m7 d7, .int .i64 0, .int .i64 0, .int .i64 0, .int .u32 0, .slice Q7 qn7 qc7, .bool false, .bool false, .int .i64 0, .int .u8 0] 30)).alloc (.cells #[.bool false, .int .i64 5, .int .u32 6] 34)
  replace q6 := (q6.alloc (.cells #[.int .u8 2, .int .u8 0, .int .i64 5, .slice B7 m7 d7, .int .i64 0, .int .i64 0, .int .i64 0, .int .u32 0, .slice Q7 qn7 qc7, .bool false, .bool false, .int .i64 0, .int .u8 0] 30)).alloc (.cells #[.bool false, .int .i64 5, .int .u32 6] 34)
  replace x6 := (x6.alloc (.cells #[.int .u8 2, .int .u8 0, .int .i64 5, .slice B7 m7 d7, .int .i64 0, .int .i64 0, .int .i64 0, .int .u32 0, .slice Q7 qn7 qc7, .bool false, .bool false, .int .i64 0, .int .u8 0] 30)).alloc (.cells #[.bool false, .int .i64 5, .int .u32 6] 34)
  have q7 := (Blk.new w7 30 #[.int .u8 2, .int .u8 0, .int .i64 5, .slice B7 m7 d7, .int .i64 0, .int .i64 0, .int .i64 0, .int .u32 0, .slice Q7 qn7 qc7, .bool false, .bool false, .int .i64 0, .int .u8 0]).alloc (.cells #[.bool false, .int .i64 5, .int .u32 6] 34)
  have x7 := Blk.newAt (b := w7.heap.size + 1) (w7.alloc (.cells #[.int .u8 2, .int .u8 0, .int .i64 5, .slice B7 m7 d7, .int .i64 0, .int .i64 0, .int .i64 0, .int .u32 0, .slice Q7 qn7 qc7, .bool false, .bool false, .int .i64 0, .int .u8 0] 30)) 34 #[.bool false, .int .i64 5, .int .u32 6] (by simp)
  go_wp2_with fail
  refine (U8.out _).mono ?_
  rintro e w8 ⟨A8, n8, c8, rfl, k8, hb⟩
  replace b0 := b0.below hb
  replace mm1 := mm1.below hb
  replace mp1 := mp1.below hb
  replace q1 := q1.below hb
  replace x1 := x1.below hb
  replace q2 := q2.below hb
  replace x2 := x2.below hb
  replace mm3 := mm3.below hb
  replace mp3 := mp3.below hb
  replace q3 := q3.below hb
  replace x3 := x3.below hb
  replace k4 := k4.below hb
  replace q5 := q5.below hb
  replace x5 := x5.below hb
  replace q6 := q6.below hb
  replace x6 := x6.below hb
  replace q7 := q7.below hb
  replace x7 := x7.below hb
  clear hb
  go_wp2_with fail
  obtain rfl : n4 = 14 := by have := k4.len; simpa using this.symm
  clear q2 q5 q6
  -- 
  obtain ⟨SW, HS⟩ : ∃ SW : World → Prop, Hid (SW = CellsAt [(⟨w1.heap.size, 0, none⟩, .int .u8 8), (⟨w1.heap.size, 1, none⟩, .int .u8 0), (⟨w1.heap.size, 2, none⟩, .int .i64 3), (⟨w1.heap.size, 3, none⟩, .slice B1 m1 d1), (⟨w1.heap.size, 4, none⟩, .int .i64 0), (⟨w1.heap.size, 5, none⟩, .int .i64 0), (⟨w1.heap.size, 6, none⟩, .int .i64 0), (⟨w1.heap.size, 7, none⟩, .int .u32 0), (⟨w1.heap.size, 8, none⟩, .slice Q1 qn1 qc1), (⟨w1.heap.size, 9, none⟩, .bool false), (⟨w1.heap.size, 10, none⟩, .bool false), (⟨w1.heap.size, 11, none⟩, .int .i64 0), (⟨w1.heap.size, 12, none⟩, .int .u8 0), (⟨w1.heap.size + 1, 0, none⟩, .bool false), (⟨w1.heap.size + 1, 1, none⟩, .int .i64 3), (⟨w1.heap.size + 1, 2, none⟩, .int .u32 1), (⟨w2.heap.size + 1, 0, none⟩, .bool true), (⟨w2.heap.size + 1, 1, none⟩, .int .i64 0), (⟨w2.heap.size + 1, 2, none⟩, .int .u32 6), (⟨w3.heap.size, 0, none⟩, .int .u8 0), (⟨w3.heap.size, 1, none⟩, .int .u8 9), (⟨w3.heap.size, 2, none⟩, .int .i64 1), (⟨w3.heap.size, 3, none⟩, .slice B3 m3 d3), (⟨w3.heap.size, 4, none⟩, .int .i64 3), (⟨w3.heap.size, 5, none⟩, .int .i64 0), (⟨w3.heap.size, 6, none⟩, .int .i64 0), (⟨w3.heap.size, 7, none⟩, .int .u32 0), (⟨w3.heap.size, 8, none⟩, .slice Q3 qn3 qc3), (⟨w3.heap.size, 9, none⟩, .bool false), (⟨w3.heap.size, 10, none⟩, .bool false), (⟨w3.heap.size, 11, none⟩, .int .i64 0), (⟨w3.heap.size, 12, none⟩, .int .u8 0), (⟨w3.heap.size + 1, 0, none⟩, .bool false), (⟨w3.heap.size + 1, 1, none⟩, .int .i64 0), (⟨w3.heap.size + 1, 2, none⟩, .int .u32 0), (⟨w5.heap.size + 1, 0, none⟩, .bool true), (⟨w5.heap.size + 1, 1, none⟩, .int .i64 0), (⟨w5.heap.size + 1, 2, none⟩, .int .u32 1), (⟨w6.heap.size + 1, 0, none⟩, .bool true), (⟨w6.heap.size + 1, 1, none⟩, .int .i64 0), (⟨w6.heap.size + 1, 2, none⟩, .int .u32 1), (⟨w7.heap.size, 0, none⟩, .int .u8 2), (⟨w7.heap.size, 1, none⟩, .int .u8 0), (⟨w7.heap.size, 2, none⟩, .int .i64 5), (⟨w7.heap.size, 3, none⟩, .slice B7 m7 d7), (⟨w7.heap.size, 4, none⟩, .int .i64 0), (⟨w7.heap.size, 5, none⟩, .int .i64 0), (⟨w7.heap.size, 6, none⟩, .int .i64 0), (⟨w7.heap.size, 7, none⟩, .int .u32 0), (⟨w7.heap.size, 8, none⟩, .slice Q7 qn7 qc7), (⟨w7.heap.size, 9, none⟩, .bool false), (⟨w7.heap.size, 10, none⟩, .bool false), (⟨w7.heap.size, 11, none⟩, .int .i64 0), (⟨w7.heap.size, 12, none⟩, .int .u8 0), (⟨w7.heap.size + 1, 0, none⟩, .bool false), (⟨w7.heap.size + 1, 1, none⟩, .int .i64 5), (⟨w7.heap.size + 1, 2, none⟩, .int .u32 6)]) := ⟨_, Lib.hid rfl⟩
  have sw0 : SW w8.drew := by
    rw [HS.out]
    exact ⟨q1.at 0 rfl, q1.at 1 rfl, q1.at 2 rfl, q1.at 3 rfl, q1.at 4 rfl, q1.at 5 rfl, q1.at 6 rfl, q1.at 7 rfl, q1.at 8 rfl, q1.at 9 rfl, q1.at 10 rfl, q1.at 11 rfl, q1.at 12 rfl, x1.at 0 rfl, x1.at 1 rfl, x1.at 2 rfl, x2.at 0 rfl, x2.at 1 rfl, x2.at 2 rfl, q3.at 0 rfl, q3.at 1 rfl, q3.at 2 rfl, q3.at 3 rfl, q3.at 4 rfl, q3.at 5 rfl, q3.at 6 rfl, q3.at 7 rfl, q3.at 8 rfl, q3.at 9 rfl, q3.at 10 rfl, q3.at 11 rfl, q3.at 12 rfl, x3.at 0 rfl, x3.at 1 rfl, x3.at 2 rfl, x5.at 0 rfl, x5.at 1 rfl, x5.at 2 rfl, x6.at 0 rfl, x6.at 1 rfl, x6.at 2 rfl, q7.at 0 rfl, q7.at 1 rfl, q7.at 2 rfl, q7.at 3 rfl, q7.at 4 rfl, q7.at 5 rfl, q7.at 6 rfl, q7.at 7 rfl, q7.at 8 rfl, q7.at 9 rfl, q7.at 10 rfl, q7.at 11 rfl, q7.at 12 rfl, x7.at 0 rfl, x7.at 1 rfl, x7.at 2 rfl, trivial⟩
  replace b0 := b0.drew
  replace mm1 := mm1.drew
  replace mp1 := mp1.drew
  replace mm3 := mm3.drew
  replace mp3 := mp3.drew
  replace k4 := k4.drew
  clear q1 x1 x2 q3 x3 x5 x6 q7 x7
  (try simp only [List.append_eq, List.cons_append, List.nil_append])
  have HB : Hid (∀ w w', SW w → Below w.heap.size w w' → SW w') := Lib.hid fun w w' h hb => by rw [HS.out] at h ⊢; exact CellsAt.below h hb
  refine wp_region_N wkOps SW (by as_aux_lemma => kernel_rfl) (by as_aux_lemma => kernel_rfl) (fun d _ _ _ _ h => by cases d <;> exact h) (fun Q HQ hp => ?_)
  refine wpAnyG_takesF [0, 1, 2, 3, 4, 5, 6, 7, 8, 9] 69 (by as_aux_lemma => kernel_rfl) (by as_aux_lemma => kernel_rfl) hp sw0 ?_
  refine pureW_e1 2 (by (conv => lhs; whnf; arg 1; whnf)) (by rfl) (by (conv => lhs; whnf)) (fun ρ hρ h1 w1 hSw => by have hc := hρ.const; clear hρ; rw [HS.out] at hSw; simp only [CellsAt] at hSw; go_simp; try with_reducible rfl) ?_; (try simp only [Act.put, rD, rF, rE])
  refine pureW_e0  (by (conv => lhs; whnf; arg 1; whnf)) (by rfl)  (fun ρ hρ  w1 hSw => by have hc := hρ.const; clear hρ; clear hSw; go_simp; try with_reducible rfl) ?_; (try simp only [Act.put, rD, rF, rE])
  refine pureW_e2 61 62 (by (conv => lhs; whnf; arg 1; whnf)) (by rfl) (by (conv => lhs; whnf)) (by (conv => lhs; whnf)) (fun ρ hρ h1 h2 w1 hSw => by have hc := hρ.const; clear hρ; clear hSw; go_simp; try with_reducible rfl) ?_; (try simp only [Act.put, rD, rF, rE])
  refine pureW_e1 63 (by (conv => lhs; whnf; arg 1; whnf)) (by rfl) (by (conv => lhs; whnf)) (fun ρ hρ h1 w1 hSw => by have hc := hρ.const; clear hρ; clear hSw; go_simp; try with_reducible rfl) ?_; (try simp only [Act.put, rD, rF, rE])
  refine pureW_e1 1 (by (conv => lhs; whnf; arg 1; whnf)) (by rfl) (by (conv => lhs; whnf)) (fun ρ hρ h1 w1 hSw => by have hc := hρ.const; clear hρ; clear hSw; go_simp; try with_reducible rfl) ?_; (try simp only [Act.put, rD, rF, rE])
  refine pureW_e1 65 (by (conv => lhs; whnf; arg 1; whnf)) (by rfl) (by (conv => lhs; whnf)) (fun ρ hρ h1 w1 hSw => by have hc := hρ.const; clear hρ; rw [HS.out] at hSw; simp only [CellsAt] at hSw; go_simp; try with_reducible rfl) ?_; (try simp only [Act.put, rD, rF, rE])
  refine pureW_e1 66 (by (conv => lhs; whnf; arg 1; whnf)) (by rfl) (by (conv => lhs; whnf)) (fun ρ hρ h1 w1 hSw => by have hc := hρ.const; clear hρ; clear hSw; go_simp; try with_reducible rfl) ?_; (try simp only [Act.put, rD, rF, rE])
  refine pureW_e2 64 67 (by (conv => lhs; whnf; arg 1; whnf)) (by rfl) (by (conv => lhs; whnf)) (by (conv => lhs; whnf)) (fun ρ hρ h1 h2 w1 hSw => by have hc := hρ.const; clear hρ; clear hSw; go_simp; try with_reducible rfl) ?_; (try simp only [Act.put, rD, rF, rE])
  refine pureW_e1 68 (by (conv => lhs; whnf; arg 1; whnf)) (by rfl) (by (conv => lhs; whnf)) (fun ρ hρ h1 w1 hSw => by have hc := hρ.const; clear hρ; clear hSw; go_simp; try with_reducible rfl) ?_; (try simp only [Act.put, rD, rF, rE])
  refine pureW_e1 4 (by (conv => lhs; whnf; arg 1; whnf)) (by rfl) (by (conv => lhs; whnf)) (fun ρ hρ h1 w1 hSw => by have hc := hρ.const; clear hρ; rw [HS.out] at hSw; simp only [CellsAt] at hSw; go_simp; try with_reducible rfl) ?_; (try simp only [Act.put, rD, rF, rE])
  refine pureW_nil ?_
  refine wpAnyG_oneN 10 68 (by as_aux_lemma => kernel_rfl) (by as_aux_lemma => kernel_rfl) (by (conv => lhs; whnf; arg 1; whnf)) (by rfl) (fun K hK => ?_)
  go_simp
  refine (fWholeF _ _).mono ?_
  rintro e wr1 ⟨rfl, hb⟩
  replace b0 := (b0).below hb
  replace mm1 := (mm1).below hb
  replace mp1 := (mp1).below hb
  replace mm3 := (mm3).below hb
  replace mp3 := (mp3).below hb
  replace k4 := (k4).below hb
  have sw1 := HB.out _ _ sw0 hb
  (try go_simp)
  refine hK.out _ _ sw1 ?_
  clear hK K hb sw0
  refine wpAnyG_takesF [11, 12, 13, 14, 15, 16, 17, 18, 19, 20, 21, 22, 23, 24, 25] 53 (by as_aux_lemma => kernel_rfl) (by as_aux_lemma => kernel_rfl) hp sw1 ?_
  refine pureW_e2 70 71 (by (conv => lhs; whnf; arg 1; whnf)) (by rfl) (by (conv => lhs; whnf)) (by (conv => lhs; whnf)) (fun ρ hρ h1 h2 w1 hSw => by have hc := hρ.const; clear hρ; clear hSw; go_simp; try with_reducible rfl) ?_; (try simp only [Act.put, rD, rF, rE])
  refine pureW_e2 69 72 (by (conv => lhs; whnf; arg 1; whnf)) (by rfl) (by (conv => lhs; whnf)) (by (conv => lhs; whnf)) (fun ρ hρ h1 h2 w1 hSw => by have hc := hρ.const; clear hρ; clear hSw; go_simp; try with_reducible rfl) ?_; (try simp only [Act.put, rD, rF, rE])
  refine pureW_e1 73 (by (conv => lhs; whnf; arg 1; whnf)) (by rfl) (by (conv => lhs; whnf)) (fun ρ hρ h1 w1 hSw => by have hc := hρ.const; clear hρ; clear hSw; go_simp; try with_reducible rfl) ?_; (try simp only [Act.put, rD, rF, rE])
  refine pureW_e1 6 (by (conv => lhs; whnf; arg 1; whnf)) (by rfl) (by (conv => lhs; whnf)) (fun ρ hρ h1 w1 hSw => by have hc := hρ.const; clear hρ; clear hSw; go_simp; try with_reducible rfl) ?_; (try simp only [Act.put, rD, rF, rE])
  refine pureW_e1 75 (by (conv => lhs; whnf; arg 1; whnf)) (by rfl) (by (conv => lhs; whnf)) (fun ρ hρ h1 w1 hSw => by have hc := hρ.const; clear hρ; rw [HS.out] at hSw; simp only [CellsAt] at hSw; go_simp; try with_reducible rfl) ?_; (try simp only [Act.put, rD, rF, rE])
  refine pureW_e1 76 (by (conv => lhs; whnf; arg 1; whnf)) (by rfl) (by (conv => lhs; whnf)) (fun ρ hρ h1 w1 hSw => by have hc := hρ.const; clear hρ; clear hSw; go_simp; try with_reducible rfl) ?_; (try simp only [Act.put, rD, rF, rE])
  refine pureW_e2 74 77 (by (conv => lhs; whnf; arg 1; whnf)) (by rfl) (by (conv => lhs; whnf)) (by (conv => lhs; whnf)) (fun ρ hρ h1 h2 w1 hSw => by have hc := hρ.const; clear hρ; clear hSw; go_simp; try with_reducible rfl) ?_; (try simp only [Act.put, rD, rF, rE])
  refine pureW_e1 78 (by (conv => lhs; whnf; arg 1; whnf)) (by rfl) (by (conv => lhs; whnf)) (fun ρ hρ h1 w1 hSw => by have hc := hρ.const; clear hρ; clear hSw; go_simp; try with_reducible rfl) ?_; (try simp only [Act.put, rD, rF, rE])
  refine pureW_e1 5 (by (conv => lhs; whnf; arg 1; whnf)) (by rfl) (by (conv => lhs; whnf)) (fun ρ hρ h1 w1 hSw => by have hc := hρ.const; clear hρ; clear hSw; go_simp; try with_reducible rfl) ?_; (try simp only [Act.put, rD, rF, rE])
  refine pureW_e1 80 (by (conv => lhs; whnf; arg 1; whnf)) (by rfl) (by (conv => lhs; whnf)) (fun ρ hρ h1 w1 hSw => by have hc := hρ.const; clear hρ; rw [HS.out] at hSw; simp only [CellsAt] at hSw; go_simp; try with_reducible rfl) ?_; (try simp only [Act.put, rD, rF, rE])
  refine pureW_e1 81 (by (conv => lhs; whnf; arg 1; whnf)) (by rfl) (by (conv => lhs; whnf)) (fun ρ hρ h1 w1 hSw => by have hc := hρ.const; clear hρ; clear hSw; go_simp; try with_reducible rfl) ?_; (try simp only [Act.put, rD, rF, rE])
  refine pureW_e2 79 82 (by (conv => lhs; whnf; arg 1; whnf)) (by rfl) (by (conv => lhs; whnf)) (by (conv => lhs; whnf)) (fun ρ hρ h1 h2 w1 hSw => by have hc := hρ.const; clear hρ; clear hSw; go_simp; try with_reducible rfl) ?_; (try simp only [Act.put, rD, rF, rE])
  refine pureW_e1 83 (by (conv => lhs; whnf; arg 1; whnf)) (by rfl) (by (conv => lhs; whnf)) (fun ρ hρ h1 w1 hSw => by have hc := hρ.const; clear hρ; clear hSw; go_simp; try with_reducible rfl) ?_; (try simp only [Act.put, rD, rF, rE])
  refine pureW_e1 5 (by (conv => lhs; whnf; arg 1; whnf)) (by rfl) (by (conv => lhs; whnf)) (fun ρ hρ h1 w1 hSw => by have hc := hρ.const; clear hρ; clear hSw; go_simp; try with_reducible rfl) ?_; (try simp only [Act.put, rD, rF, rE])
  refine pureW_e1 85 (by (conv => lhs; whnf; arg 1; whnf)) (by rfl) (by (conv => lhs; whnf)) (fun ρ hρ h1 w1 hSw => by have hc := hρ.const; clear hρ; rw [HS.out] at hSw; simp only [CellsAt] at hSw; go_simp; try with_reducible rfl) ?_; (try simp only [Act.put, rD, rF, rE])
  refine pureW_nil ?_
  refine wpAnyG_oneN 26 52 (by as_aux_lemma => kernel_rfl) (by as_aux_lemma => kernel_rfl) (by (conv => lhs; whnf; arg 1; whnf)) (by rfl) (fun K hK => ?_)
  go_simp
  have sw2 := HB.out _ _ sw1 ((Below.refl _ _).alloc (Nat.le_refl _) (.cells #[.int .u8 7, .int .u8 8] 5))
  replace b0 := b0.alloc (.cells #[.int .u8 7, .int .u8 8] 5)
  replace mm1 := mm1.alloc (.cells #[.int .u8 7, .int .u8 8] 5)
  replace mp1 := mp1.alloc (.cells #[.int .u8 7, .int .u8 8] 5)
  replace mm3 := mm3.alloc (.cells #[.int .u8 7, .int .u8 8] 5)
  replace mp3 := mp3.alloc (.cells #[.int .u8 7, .int .u8 8] 5)
  replace k4 := k4.alloc (.cells #[.int .u8 7, .int .u8 8] 5)
  (try go_simp)
  refine hK.out _ _ sw2 ?_
  clear hK K sw1
  refine wpAnyG_oneN 27 51 (by as_aux_lemma => kernel_rfl) (by as_aux_lemma => kernel_rfl) (by (conv => lhs; whnf; arg 1; whnf)) (by rfl) (fun K hK => ?_)
  go_simp
  refine (S2.out _ _ _ _ _ _ mm3.byt (lit2 (by first | rfl | simp) (by decide))).mono ?_
  rintro e wr3 ⟨rfl, hb⟩
  replace b0 := (b0).below hb
  replace mm1 := (mm1).below hb
  replace mp1 := (mp1).below hb
  replace mm3 := (mm3).below hb
  replace mp3 := (mp3).below hb
  replace k4 := (k4).below hb
  have sw3 := HB.out _ _ sw2 hb
  (try go_simp)
  refine hK.out _ _ sw3 ?_
  clear hK K hb sw2
  refine wpAnyG_takesF [28, 29, 30, 31, 32, 33, 34] 44 (by as_aux_lemma => kernel_rfl) (by as_aux_lemma => kernel_rfl) hp sw3 ?_
  refine pureW_e2 84 88 (by (conv => lhs; whnf; arg 1; whnf)) (by rfl) (by (conv => lhs; whnf)) (by (conv => lhs; whnf)) (fun ρ hρ h1 h2 w1 hSw => by have hc := hρ.const; clear hρ; clear hSw; go_simp; try with_reducible rfl) ?_; (try simp only [Act.put, rD, rF, rE])
  refine pureW_e1 89 (by (conv => lhs; whnf; arg 1; whnf)) (by rfl) (by (conv => lhs; whnf)) (fun ρ hρ h1 w1 hSw => by have hc := hρ.const; clear hρ; clear hSw; go_simp; try with_reducible rfl) ?_; (try simp only [Act.put, rD, rF, rE])
  refine pureW_e1 8 (by (conv => lhs; whnf; arg 1; whnf)) (by rfl) (by (conv => lhs; whnf)) (fun ρ hρ h1 w1 hSw => by have hc := hρ.const; clear hρ; clear hSw; go_simp; try with_reducible rfl) ?_; (try simp only [Act.put, rD, rF, rE])
  refine pureW_e1 91 (by (conv => lhs; whnf; arg 1; whnf)) (by rfl) (by (conv => lhs; whnf)) (fun ρ hρ h1 w1 hSw => by have hc := hρ.const; clear hρ; clear hSw; go_simp; try with_reducible rfl) ?_; (try simp only [Act.put, rD, rF, rE])
  refine pureW_e2 90 92 (by (conv => lhs; whnf; arg 1; whnf)) (by rfl) (by (conv => lhs; whnf)) (by (conv => lhs; whnf)) (fun ρ hρ h1 h2 w1 hSw => by have hc := hρ.const; clear hρ; clear hSw; go_simp; try with_reducible rfl) ?_; (try simp only [Act.put, rD, rF, rE])
  refine pureW_e1 93 (by (conv => lhs; whnf; arg 1; whnf)) (by rfl) (by (conv => lhs; whnf)) (fun ρ hρ h1 w1 hSw => by have hc := hρ.const; clear hρ; clear hSw; go_simp; try with_reducible rfl) ?_; (try simp only [Act.put, rD, rF, rE])
  refine pureW_e1 7 (by (conv => lhs; whnf; arg 1; whnf)) (by rfl) (by (conv => lhs; whnf)) (fun ρ hρ h1 w1 hSw => by have hc := hρ.const; clear hρ; clear hSw; go_simp; try with_reducible rfl) ?_; (try simp only [Act.put, rD, rF, rE])
  refine pureW_nil ?_
  refine wpAnyG_oneN 35 43 (by as_aux_lemma => kernel_rfl) (by as_aux_lemma => kernel_rfl) (by (conv => lhs; whnf; arg 1; whnf)) (by rfl) (fun K hK => ?_)
  go_simp
  have sw4 := HB.out _ _ sw3 ((Below.refl _ _).alloc (Nat.le_refl _) (.cells #[.int .u8 0, .int .u8 0, .int .u8 5, .int .u8 0, .int .u8 9, .int .u8 0, .int .u8 0, .int .u8 0, .int .u8 1, .int .u8 2, .int .u8 7, .int .u8 8, .int .u8 0, .int .u8 0] 5))
  replace b0 := b0.alloc (.cells #[.int .u8 0, .int .u8 0, .int .u8 5, .int .u8 0, .int .u8 9, .int .u8 0, .int .u8 0, .int .u8 0, .int .u8 1, .int .u8 2, .int .u8 7, .int .u8 8, .int .u8 0, .int .u8 0] 5)
  replace mm1 := mm1.alloc (.cells #[.int .u8 0, .int .u8 0, .int .u8 5, .int .u8 0, .int .u8 9, .int .u8 0, .int .u8 0, .int .u8 0, .int .u8 1, .int .u8 2, .int .u8 7, .int .u8 8, .int .u8 0, .int .u8 0] 5)
  replace mp1 := mp1.alloc (.cells #[.int .u8 0, .int .u8 0, .int .u8 5, .int .u8 0, .int .u8 9, .int .u8 0, .int .u8 0, .int .u8 0, .int .u8 1, .int .u8 2, .int .u8 7, .int .u8 8, .int .u8 0, .int .u8 0] 5)
  replace mm3 := mm3.alloc (.cells #[.int .u8 0, .int .u8 0, .int .u8 5, .int .u8 0, .int .u8 9, .int .u8 0, .int .u8 0, .int .u8 0, .int .u8 1, .int .u8 2, .int .u8 7, .int .u8 8, .int .u8 0, .int .u8 0] 5)
  replace mp3 := mp3.alloc (.cells #[.int .u8 0, .int .u8 0, .int .u8 5, .int .u8 0, .int .u8 9, .int .u8 0, .int .u8 0, .int .u8 0, .int .u8 1, .int .u8 2, .int .u8 7, .int .u8 8, .int .u8 0, .int .u8 0] 5)
  replace k4 := k4.alloc (.cells #[.int .u8 0, .int .u8 0, .int .u8 5, .int .u8 0, .int .u8 9, .int .u8 0, .int .u8 0, .int .u8 0, .int .u8 1, .int .u8 2, .int .u8 7, .int .u8 8, .int .u8 0, .int .u8 0] 5)
  (try go_simp)
  refine hK.out _ _ sw4 ?_
  clear hK K sw3
  refine wpAnyG_oneN 36 42 (by as_aux_lemma => kernel_rfl) (by as_aux_lemma => kernel_rfl) (by (conv => lhs; whnf; arg 1; whnf)) (by rfl) (fun K hK => ?_)
  go_simp
  refine (S14.out _ _ _ _ _ _ k4.byt (lit14 (by first | rfl | simp))).mono ?_
  rintro e wr5 ⟨rfl, hb⟩
  replace b0 := (b0).below hb
  replace mm1 := (mm1).below hb
  replace mp1 := (mp1).below hb
  replace mm3 := (mm3).below hb
  replace mp3 := (mp3).below hb
  replace k4 := (k4).below hb
  have sw5 := HB.out _ _ sw4 hb
  (try go_simp)
  refine hK.out _ _ sw5 ?_
  clear hK K hb sw4
  refine wpAnyG_takesF [37, 38, 39] 39 (by as_aux_lemma => kernel_rfl) (by as_aux_lemma => kernel_rfl) hp sw5 ?_
  refine pureW_e2 94 97 (by (conv => lhs; whnf; arg 1; whnf)) (by rfl) (by (conv => lhs; whnf)) (by (conv => lhs; whnf)) (fun ρ hρ h1 h2 w1 hSw => by have hc := hρ.const; clear hρ; clear hSw; go_simp; try with_reducible rfl) ?_; (try simp only [Act.put, rD, rF, rE])
  refine pureW_e1 98 (by (conv => lhs; whnf; arg 1; whnf)) (by rfl) (by (conv => lhs; whnf)) (fun ρ hρ h1 w1 hSw => by have hc := hρ.const; clear hρ; clear hSw; go_simp; try with_reducible rfl) ?_; (try simp only [Act.put, rD, rF, rE])
  refine pureW_e1 10 (by (conv => lhs; whnf; arg 1; whnf)) (by rfl) (by (conv => lhs; whnf)) (fun ρ hρ h1 w1 hSw => by have hc := hρ.const; clear hρ; rw [HS.out] at hSw; simp only [CellsAt] at hSw; go_simp; try with_reducible rfl) ?_; (try simp only [Act.put, rD, rF, rE])
  refine pureW_nil ?_
  refine wpAnyG_oneN 40 38 (by as_aux_lemma => kernel_rfl) (by as_aux_lemma => kernel_rfl) (by (conv => lhs; whnf; arg 1; whnf)) (by rfl) (fun K hK => ?_)
  go_simp
  refine (fWholeF _ _).mono ?_
  rintro e wr6 ⟨rfl, hb⟩
  replace b0 := (b0).below hb
  replace mm1 := (mm1).below hb
  replace mp1 := (mp1).below hb
  replace mm3 := (mm3).below hb
  replace mp3 := (mp3).below hb
  replace k4 := (k4).below hb
  have sw6 := HB.out _ _ sw5 hb
  (try go_simp)
  refine hK.out _ _ sw6 ?_
  clear hK K hb sw5
  refine wpAnyG_takesF [41, 42, 43, 44] 34 (by as_aux_lemma => kernel_rfl) (by as_aux_lemma => kernel_rfl) hp sw6 ?_
  refine pureW_e2 100 101 (by (conv => lhs; whnf; arg 1; whnf)) (by rfl) (by (conv => lhs; whnf)) (by (conv => lhs; whnf)) (fun ρ hρ h1 h2 w1 hSw => by have hc := hρ.const; clear hρ; clear hSw; go_simp; try with_reducible rfl) ?_; (try simp only [Act.put, rD, rF, rE])
  refine pureW_e2 99 102 (by (conv => lhs; whnf; arg 1; whnf)) (by rfl) (by (conv => lhs; whnf)) (by (conv => lhs; whnf)) (fun ρ hρ h1 h2 w1 hSw => by have hc := hρ.const; clear hρ; clear hSw; go_simp; try with_reducible rfl) ?_; (try simp only [Act.put, rD, rF, rE])
  refine pureW_e1 103 (by (conv => lhs; whnf; arg 1; whnf)) (by rfl) (by (conv => lhs; whnf)) (fun ρ hρ h1 w1 hSw => by have hc := hρ.const; clear hρ; clear hSw; go_simp; try with_reducible rfl) ?_; (try simp only [Act.put, rD, rF, rE])
  refine pureW_e1 12 (by (conv => lhs; whnf; arg 1; whnf)) (by rfl) (by (conv => lhs; whnf)) (fun ρ hρ h1 w1 hSw => by have hc := hρ.const; clear hρ; rw [HS.out] at hSw; simp only [CellsAt] at hSw; go_simp; try with_reducible rfl) ?_; (try simp only [Act.put, rD, rF, rE])
  refine pureW_nil ?_
  refine wpAnyG_oneN 45 33 (by as_aux_lemma => kernel_rfl) (by as_aux_lemma => kernel_rfl) (by (conv => lhs; whnf; arg 1; whnf)) (by rfl) (fun K hK => ?_)
  go_simp
  refine (fWholeF _ _).mono ?_
  rintro e wr7 ⟨rfl, hb⟩
  replace b0 := (b0).below hb
  replace mm1 := (mm1).below hb
  replace mp1 := (mp1).below hb
  replace mm3 := (mm3).below hb
  replace mp3 := (mp3).below hb
  replace k4 := (k4).below hb
  have sw7 := HB.out _ _ sw6 hb
  (try go_simp)
  refine hK.out _ _ sw7 ?_
  clear hK K hb sw6
  refine wpAnyG_takesF [46, 47, 48, 49] 29 (by as_aux_lemma => kernel_rfl) (by as_aux_lemma => kernel_rfl) hp sw7 ?_
  refine pureW_e2 105 106 (by (conv => lhs; whnf; arg 1; whnf)) (by rfl) (by (conv => lhs; whnf)) (by (conv => lhs; whnf)) (fun ρ hρ h1 h2 w1 hSw => by have hc := hρ.const; clear hρ; clear hSw; go_simp; try with_reducible rfl) ?_; (try simp only [Act.put, rD, rF, rE])
  refine pureW_e2 104 107 (by (conv => lhs; whnf; arg 1; whnf)) (by rfl) (by (conv => lhs; whnf)) (by (conv => lhs; whnf)) (fun ρ hρ h1 h2 w1 hSw => by have hc := hρ.const; clear hρ; clear hSw; go_simp; try with_reducible rfl) ?_; (try simp only [Act.put, rD, rF, rE])
  refine pureW_e1 108 (by (conv => lhs; whnf; arg 1; whnf)) (by rfl) (by (conv => lhs; whnf)) (fun ρ hρ h1 w1 hSw => by have hc := hρ.const; clear hρ; clear hSw; go_simp; try with_reducible rfl) ?_; (try simp only [Act.put, rD, rF, rE])
  refine pureW_e1 14 (by (conv => lhs; whnf; arg 1; whnf)) (by rfl) (by (conv => lhs; whnf)) (fun ρ hρ h1 w1 hSw => by have hc := hρ.const; clear hρ; rw [HS.out] at hSw; simp only [CellsAt] at hSw; go_simp; try with_reducible rfl) ?_; (try simp only [Act.put, rD, rF, rE])
  refine pureW_nil ?_
  refine wpAnyG_oneN 50 28 (by as_aux_lemma => kernel_rfl) (by as_aux_lemma => kernel_rfl) (by (conv => lhs; whnf; arg 1; whnf)) (by rfl) (fun K hK => ?_)
  go_simp
  refine (fOfF _ _ _).mono ?_
  rintro e wr8 ⟨rfl, hb⟩
  replace b0 := (b0).below hb
  replace mm1 := (mm1).below hb
  replace mp1 := (mp1).below hb
  replace mm3 := (mm3).below hb
  replace mp3 := (mp3).below hb
  replace k4 := (k4).below hb
  have sw8 := HB.out _ _ sw7 hb
  (try go_simp)
  refine hK.out _ _ sw8 ?_
  clear hK K hb sw7
  refine wpAnyG_takesF [51, 52, 53, 54, 55, 56, 57, 58, 59, 60, 61, 62, 63] 15 (by as_aux_lemma => kernel_rfl) (by as_aux_lemma => kernel_rfl) hp sw8 ?_
  refine pureW_e2 110 111 (by (conv => lhs; whnf; arg 1; whnf)) (by rfl) (by (conv => lhs; whnf)) (by (conv => lhs; whnf)) (fun ρ hρ h1 h2 w1 hSw => by have hc := hρ.const; clear hρ; clear hSw; go_simp; try with_reducible rfl) ?_; (try simp only [Act.put, rD, rF, rE])
  refine pureW_e2 109 112 (by (conv => lhs; whnf; arg 1; whnf)) (by rfl) (by (conv => lhs; whnf)) (by (conv => lhs; whnf)) (fun ρ hρ h1 h2 w1 hSw => by have hc := hρ.const; clear hρ; clear hSw; go_simp; try with_reducible rfl) ?_; (try simp only [Act.put, rD, rF, rE])
  refine pureW_e1 113 (by (conv => lhs; whnf; arg 1; whnf)) (by rfl) (by (conv => lhs; whnf)) (fun ρ hρ h1 w1 hSw => by have hc := hρ.const; clear hρ; clear hSw; go_simp; try with_reducible rfl) ?_; (try simp only [Act.put, rD, rF, rE])
  refine pureW_e1 13 (by (conv => lhs; whnf; arg 1; whnf)) (by rfl) (by (conv => lhs; whnf)) (fun ρ hρ h1 w1 hSw => by have hc := hρ.const; clear hρ; clear hSw; go_simp; try with_reducible rfl) ?_; (try simp only [Act.put, rD, rF, rE])
  refine pureW_e1 115 (by (conv => lhs; whnf; arg 1; whnf)) (by rfl) (by (conv => lhs; whnf)) (fun ρ hρ h1 w1 hSw => by have hc := hρ.const; clear hρ; rw [HS.out] at hSw; simp only [CellsAt] at hSw; go_simp; try with_reducible rfl) ?_; (try simp only [Act.put, rD, rF, rE])
  refine pureW_e1 116 (by (conv => lhs; whnf; arg 1; whnf)) (by rfl) (by (conv => lhs; whnf)) (fun ρ hρ h1 w1 hSw => by have hc := hρ.const; clear hρ; clear hSw; go_simp; try with_reducible rfl) ?_; (try simp only [Act.put, rD, rF, rE])
  refine pureW_e2 114 117 (by (conv => lhs; whnf; arg 1; whnf)) (by rfl) (by (conv => lhs; whnf)) (by (conv => lhs; whnf)) (fun ρ hρ h1 h2 w1 hSw => by have hc := hρ.const; clear hρ; clear hSw; go_simp; try with_reducible rfl) ?_; (try simp only [Act.put, rD, rF, rE])
  refine pureW_e1 118 (by (conv => lhs; whnf; arg 1; whnf)) (by rfl) (by (conv => lhs; whnf)) (fun ρ hρ h1 w1 hSw => by have hc := hρ.const; clear hρ; clear hSw; go_simp; try with_reducible rfl) ?_; (try simp only [Act.put, rD, rF, rE])
  refine pureW_e1 16 (by (conv => lhs; whnf; arg 1; whnf)) (by rfl) (by (conv => lhs; whnf)) (fun ρ hρ h1 w1 hSw => by have hc := hρ.const; clear hρ; clear hSw; go_simp; try with_reducible rfl) ?_; (try simp only [Act.put, rD, rF, rE])
  refine pureW_e1 120 (by (conv => lhs; whnf; arg 1; whnf)) (by rfl) (by (conv => lhs; whnf)) (fun ρ hρ h1 w1 hSw => by have hc := hρ.const; clear hρ; clear hSw; go_simp; try with_reducible rfl) ?_; (try simp only [Act.put, rD, rF, rE])
  refine pureW_e2 119 121 (by (conv => lhs; whnf; arg 1; whnf)) (by rfl) (by (conv => lhs; whnf)) (by (conv => lhs; whnf)) (fun ρ hρ h1 h2 w1 hSw => by have hc := hρ.const; clear hρ; clear hSw; go_simp; try with_reducible rfl) ?_; (try simp only [Act.put, rD, rF, rE])
  refine pureW_e1 122 (by (conv => lhs; whnf; arg 1; whnf)) (by rfl) (by (conv => lhs; whnf)) (fun ρ hρ h1 w1 hSw => by have hc := hρ.const; clear hρ; clear hSw; go_simp; try with_reducible rfl) ?_; (try simp only [Act.put, rD, rF, rE])
  refine pureW_e1 5 (by (conv => lhs; whnf; arg 1; whnf)) (by rfl) (by (conv => lhs; whnf)) (fun ρ hρ h1 w1 hSw => by have hc := hρ.const; clear hρ; rw [HS.out] at hSw; simp only [CellsAt] at hSw; go_simp; try with_reducible rfl) ?_; (try simp only [Act.put, rD, rF, rE])
  refine pureW_nil ?_
  refine wpAnyG_oneN 64 14 (by as_aux_lemma => kernel_rfl) (by as_aux_lemma => kernel_rfl) (by (conv => lhs; whnf; arg 1; whnf)) (by rfl) (fun K hK => ?_)
  go_simp
  refine (RG.out _ _ _ _ _ _ _ mm3.byt mp3.prs).mono ?_
  rintro e wr9 ⟨rfl, hb⟩
  replace b0 := (b0).below hb
  replace mm1 := (mm1).below hb
  replace mp1 := (mp1).below hb
  replace mm3 := (mm3).below hb
  replace mp3 := (mp3).below hb
  replace k4 := (k4).below hb
  have sw9 := HB.out _ _ sw8 hb
  (try go_simp)
  refine hK.out _ _ sw9 ?_
  clear hK K hb sw8
  refine wpAnyG_takesF [65, 66, 67, 69] 10 (by as_aux_lemma => kernel_rfl) (by as_aux_lemma => kernel_rfl) hp sw9 ?_
  refine pureW_e2 123 125 (by (conv => lhs; whnf; arg 1; whnf)) (by rfl) (by (conv => lhs; whnf)) (by (conv => lhs; whnf)) (fun ρ hρ h1 h2 w1 hSw => by have hc := hρ.const; clear hρ; clear hSw; go_simp; try with_reducible rfl) ?_; (try simp only [Act.put, rD, rF, rE])
  refine pureW_e1 126 (by (conv => lhs; whnf; arg 1; whnf)) (by rfl) (by (conv => lhs; whnf)) (fun ρ hρ h1 w1 hSw => by have hc := hρ.const; clear hρ; clear hSw; go_simp; try with_reducible rfl) ?_; (try simp only [Act.put, rD, rF, rE])
  refine pureW_e1 5 (by (conv => lhs; whnf; arg 1; whnf)) (by rfl) (by (conv => lhs; whnf)) (fun ρ hρ h1 w1 hSw => by have hc := hρ.const; clear hρ; rw [HS.out] at hSw; simp only [CellsAt] at hSw; go_simp; try with_reducible rfl) ?_; (try simp only [Act.put, rD, rF, rE])
  refine pureW_e1 5 (by (conv => lhs; whnf; arg 1; whnf)) (by rfl) (by (conv => lhs; whnf)) (fun ρ hρ h1 w1 hSw => by have hc := hρ.const; clear hρ; rw [HS.out] at hSw; simp only [CellsAt] at hSw; go_simp; try with_reducible rfl) ?_; (try simp only [Act.put, rD, rF, rE])
  refine pureW_nil ?_
  refine wpAnyG_oneN 68 9 (by as_aux_lemma => kernel_rfl) (by as_aux_lemma => kernel_rfl) (by (conv => lhs; whnf; arg 1; whnf)) (by rfl) (fun K hK => ?_)
  go_simp
  refine (OW.out _ _ _ _ _ _ _ mm3.byt mp3.prs).mono ?_
  rintro e wr10 ⟨Bo, mo, do_, Qo, qno, qco, rfl, mmo, mpo, hb⟩
  replace b0 := (b0).below hb
  replace mm1 := (mm1).below hb
  replace mp1 := (mp1).below hb
  replace mm3 := (mm3).below hb
  replace mp3 := (mp3).below hb
  replace k4 := (k4).below hb
  have sw10 := HB.out _ _ sw9 hb
  (try go_simp)
  refine hK.out _ _ sw10 ?_
  clear hK K hb sw9
  refine wpAnyG_oneN 70 8 (by as_aux_lemma => kernel_rfl) (by as_aux_lemma => kernel_rfl) (by (conv => lhs; whnf; arg 1; whnf)) (by rfl) (fun K hK => ?_)
  go_simp
  refine (SG.out _ _ _ _ _ _ _ _ _ _ _ _ _ mmo.byt mpo.prs mm3.byt mp3.prs).mono ?_
  rintro e wr11 ⟨rfl, hb⟩
  replace b0 := (b0).below hb
  replace mm1 := (mm1).below hb
  replace mp1 := (mp1).below hb
  replace mm3 := (mm3).below hb
  replace mp3 := (mp3).below hb
  replace k4 := (k4).below hb
  have sw11 := HB.out _ _ sw10 hb
  (try go_simp)
  refine hK.out _ _ sw11 ?_
  clear hK K hb sw10
  refine wpAnyG_takesF [71, 72, 73, 74] 4 (by as_aux_lemma => kernel_rfl) (by as_aux_lemma => kernel_rfl) hp sw11 ?_
  refine pureW_e2 127 131 (by (conv => lhs; whnf; arg 1; whnf)) (by rfl) (by (conv => lhs; whnf)) (by (conv => lhs; whnf)) (fun ρ hρ h1 h2 w1 hSw => by have hc := hρ.const; clear hρ; clear hSw; go_simp; try with_reducible rfl) ?_; (try simp only [Act.put, rD, rF, rE])
  refine pureW_e1 132 (by (conv => lhs; whnf; arg 1; whnf)) (by rfl) (by (conv => lhs; whnf)) (fun ρ hρ h1 w1 hSw => by have hc := hρ.const; clear hρ; clear hSw; go_simp; try with_reducible rfl) ?_; (try simp only [Act.put, rD, rF, rE])
  refine pureW_e1 1 (by (conv => lhs; whnf; arg 1; whnf)) (by rfl) (by (conv => lhs; whnf)) (fun ρ hρ h1 w1 hSw => by have hc := hρ.const; clear hρ; rw [HS.out] at hSw; simp only [CellsAt] at hSw; go_simp; try with_reducible rfl) ?_; (try simp only [Act.put, rD, rF, rE])
  refine pureW_e1 5 (by (conv => lhs; whnf; arg 1; whnf)) (by rfl) (by (conv => lhs; whnf)) (fun ρ hρ h1 w1 hSw => by have hc := hρ.const; clear hρ; rw [HS.out] at hSw; simp only [CellsAt] at hSw; go_simp; try with_reducible rfl) ?_; (try simp only [Act.put, rD, rF, rE])
  refine pureW_nil ?_
  refine wpAnyG_oneN 75 3 (by as_aux_lemma => kernel_rfl) (by as_aux_lemma => kernel_rfl) (by (conv => lhs; whnf; arg 1; whnf)) (by rfl) (fun K hK => ?_)
  go_simp
  refine (SF.out _ _ _ _ _ _ _ _ _ _ _ _ _ mm1.byt mp1.prs mm3.byt mp3.prs).mono ?_
  rintro e wr12 ⟨rfl, hb⟩
  replace b0 := (b0).below hb
  replace mm1 := (mm1).below hb
  replace mp1 := (mp1).below hb
  replace mm3 := (mm3).below hb
  replace mp3 := (mp3).below hb
  replace k4 := (k4).below hb
  have sw12 := HB.out _ _ sw11 hb
  (try go_simp)
  refine hK.out _ _ sw12 ?_
  clear hK K hb sw11
  refine wpAnyG_takesF [76, 77, 78] 0 (by as_aux_lemma => kernel_rfl) (by as_aux_lemma => kernel_rfl) hp sw12 ?_
  refine pureW_e1 136 (by (conv => lhs; whnf; arg 1; whnf)) (by rfl) (by (conv => lhs; whnf)) (fun ρ hρ h1 w1 hSw => by have hc := hρ.const; clear hρ; clear hSw; go_simp; try with_reducible rfl) ?_; (try simp only [Act.put, rD, rF, rE])
  refine pureW_e2 133 137 (by (conv => lhs; whnf; arg 1; whnf)) (by rfl) (by (conv => lhs; whnf)) (by (conv => lhs; whnf)) (fun ρ hρ h1 h2 w1 hSw => by have hc := hρ.const; clear hρ; clear hSw; go_simp; try with_reducible rfl) ?_; (try simp only [Act.put, rD, rF, rE])
  refine pureW_e1 138 (by (conv => lhs; whnf; arg 1; whnf)) (by rfl) (by (conv => lhs; whnf)) (fun ρ hρ h1 w1 hSw => by have hc := hρ.const; clear hρ; clear hSw; go_simp; try with_reducible rfl) ?_; (try simp only [Act.put, List.setIfInBounds_toArray, List.set_cons_zero])
  refine pureW_nil ?_
  refine wpAnyG_done (by as_aux_lemma => kernel_rfl) ?_ _
  rw [HQ.out]
  go_wp2
  go_ret
  exact ⟨rfl, b0.out⟩
end Go.Proofs.Ytnjnpnjjpodnnaa
