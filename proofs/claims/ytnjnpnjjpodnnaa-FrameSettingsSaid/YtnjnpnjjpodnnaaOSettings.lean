/- FrameSettings: settings are faulty by the first one that is: the walk. -/
import Derived.Test.YtnjnpnjjpodnnaaOGz
import Derived.Test.YtnjnpnjjpodnnaaOGrc
import Derived.Test.YtnjnpnjjpodnnaaOGwk
namespace Go.Proofs.Ytnjnpnjjpodnnaa
open Go.RowKit Go.Shelf
set_option linter.unusedVariables false
set_option linter.unusedSimpArgs false

theorem eqP_self (l : List (Int × Int)) : eqP l l = true := by simp [eqP]
theorem sets_parse {l : List (Int × Int)} (hb : PBs l) (hn : l.length ≤ 300) : parseS 4 0 0 (putPs l) = (if firstS l = 0 then { fm0 4 0 0 with prs := l } else Fm0, ⟨decide (firstS l ≠ 0), 0, firstS l⟩) := by
  have hl := putPs_len l
  have hlo : longOk 4 0 (putPs l).length = true := by
    have : longOk 4 0 (putPs l).length = (decide ((putPs l).length % 6 = 0) && (decide ((putPs l).length = 0) || !(hasB 0 1))) := rfl
    rw [this, hl]
    have h6 : l.length * 6 % 6 = 0 := by omega
    simp [h6, hasB]
  have hr : readS 4 0 0 (putPs l) = some { fm0 4 0 0 with prs := l } := by
    unfold readS
    rw [if_neg (by decide), if_neg (by decide), if_neg (by decide), if_neg (by decide), if_pos rfl, take_putPs hb]
  rw [parse_go (by decide) (by omega) (by decide) hlo, hr]
  by_cases h0 : firstS l = 0
  · have hv : valS { fm0 4 0 0 with prs := l } = ⟨false, 0, 0⟩ := by
      unfold valS
      rw [if_neg (by simpa using h0), if_neg (by simp [fm0]), if_neg (by simp [fm0]), if_neg (by simp [fm0])]
    simp only [hv]
    rw [if_neg (by decide), if_pos h0, h0]
    rfl
  · have hv : valS { fm0 4 0 0 with prs := l } = ⟨true, 0, firstS l⟩ := by
      unfold valS
      rw [if_pos h0]
    simp only [hv]
    rw [if_neg h0, decide_eq_true h0]
    rfl
theorem first_zero : ∀ {l : List (Int × Int)}, firstS l = 0 → ∀ k, k < l.length → setS (pid l k, pva l k) = 0
  | [], _, k, hk => absurd hk (Nat.not_lt_zero _)
  | p :: r, h, k, hk => by
    unfold firstS at h
    by_cases h1 : setS p ≠ 0
    · rw [if_pos h1] at h
      exact absurd h h1
    · rw [if_neg h1] at h
      cases k with
      | zero => simpa [pid, pva] using h1
      | succ k => simpa [pid, pva] using first_zero h k (by simpa using hk)
theorem first_at {l : List (Int × Int)} {k : Nat} (hk : k < l.length) (h : faults (l.take k) = []) (hs : setS (pid l k, pva l k) ≠ 0) : firstS l = setS (pid l k, pva l k) := by
  have e := faults_take l hk
  rw [h, if_pos hs] at e
  obtain ⟨r, hr⟩ := faults_pre (l := l) (k := k + 1) (pre := [setS (pid l k, pva l k)]) (by rw [e]; rfl)
  rw [faults_first, ← hr]
  rfl
theorem first_none {l : List (Int × Int)} (h : faults l = []) : firstS l = 0 := by
  rw [faults_first, h]
  rfl
section
variable {W : World}
set_option maxRecDepth 100000 in
set_option maxHeartbeats 8000000 in
theorem sBig (P : Option Addr) (n c : Nat) (l : List (Int × Int)) (h : Prs W P n c l) (g0 : 300 < n) :
    Calls Try.prog 7 #[.slice P n c] W fun e w' => e = .returned (.bool true) ∧ Below W.heap.size W w' := by
  have cn := Nat.le_trans h.cap h.mx
  have b0 := Bel.refl W
  have z : decide ((300 : Int) < n) = true := decide_eq_true (by omega)
  clear g0 h
  go_enter Try.func7, Try.ntmps7
  go_wp2_with (go_at_call 9; (with_reducible refine (fWakes _).mono ?_); rintro e w9 ⟨rfl, hb⟩; replace b0 := b0.below hb)
  go_ret
  exact ⟨rfl, b0.out⟩
set_option maxRecDepth 100000 in
set_option maxHeartbeats 8000000 in
theorem sGo0 (P : Option Addr) (n c : Nat) (l : List (Int × Int)) (h : Prs W P n c l) (g0 : n ≤ 300) (hv : firstS l = 0) :
    Calls Try.prog 7 #[.slice P n c] W fun e w' => e = .returned (.bool true) ∧ Below W.heap.size W w' := by
  have cn := Nat.le_trans h.cap h.mx
  have hl := h.len
  have hr : parseS 4 0 0 (putPs l) = (⟨4, 0, 0, 0, 0, 0, 0, 0, 0, [], l, false, false⟩, ⟨false, 0, 0⟩) := by
    rw [sets_parse h.bs (by omega), hv]
    rfl
  have PF := Lib.hid fun A n c w h hn => fParse 0 4 0 0 A n c (putPs l) w h hn (by decide) (by decide) (by decide) (by decide)
  rw [hr] at PF
  have HP := Lib.hid h
  have HL := Lib.hid hl
  have HN := Lib.hid g0
  have PP := Lib.hid fun w h => rPutPairs P n c l w h (by omega)
  have HZ := Lib.hid (fun k hk => first_zero (l := l) hv k hk)
  have b0 := Bel.refl W
  have z : decide ((300 : Int) < n) = false := decide_eq_false (by omega)
  clear g0 h hl hr hv
  go_enter Try.func7, Try.ntmps7
  go_wp2_with fail
  refine (PP.out _ (HP.out.below b0.out)).mono ?_
  rintro e wp ⟨A2, c2, rfl, k2, hb⟩
  replace b0 := b0.below hb
  clear hb
  go_wp2_with fail
  refine (PF.out _ _ _ _ k2.byt (by have := HN.out; omega)).mono ?_
  rintro e wx ⟨B, m, d, Q, qn, qc, rfl, mm, mp, hb⟩
  replace b0 := b0.below hb
  clear hb k2 mm
  replace b0 := (b0.alloc (.cells #[.int .u8 4, .int .u8 0, .int .i64 0, .slice B m d, .int .i64 0, .int .i64 0, .int .i64 0, .int .u32 0, .slice Q qn qc, .bool false, .bool false, .int .i64 0, .int .u8 0] 30)).alloc (.cells #[.bool false, .int .i64 0, .int .u32 0] 34)
  replace mp := (mp.alloc (.cells #[.int .u8 4, .int .u8 0, .int .i64 0, .slice B m d, .int .i64 0, .int .i64 0, .int .i64 0, .int .u32 0, .slice Q qn qc, .bool false, .bool false, .int .i64 0, .int .u8 0] 30)).alloc (.cells #[.bool false, .int .i64 0, .int .u32 0] 34)
  have qx := (Blk.new wx 30 #[.int .u8 4, .int .u8 0, .int .i64 0, .slice B m d, .int .i64 0, .int .i64 0, .int .i64 0, .int .u32 0, .slice Q qn qc, .bool false, .bool false, .int .i64 0, .int .u8 0]).alloc (.cells #[.bool false, .int .i64 0, .int .u32 0] 34)
  have ux := Blk.newAt (b := wx.heap.size + 1) (wx.alloc (.cells #[.int .u8 4, .int .u8 0, .int .i64 0, .slice B m d, .int .i64 0, .int .i64 0, .int .i64 0, .int .u32 0, .slice Q qn qc, .bool false, .bool false, .int .i64 0, .int .u8 0] 30)) 34 #[.bool false, .int .i64 0, .int .u32 0] (by simp)
  go_wp2_with fail
  obtain ⟨GX, hGX⟩ : ∃ x, wx.heap.size = x := ⟨_, rfl⟩
  rw [hGX] at qx ux ⊢
  generalize (wx.alloc (.cells #[.int .u8 4, .int .u8 0, .int .i64 0, .slice B m d, .int .i64 0, .int .i64 0, .int .i64 0, .int .u32 0, .slice Q qn qc, .bool false, .bool false, .int .i64 0, .int .u8 0] 30)).alloc (.cells #[.bool false, .int .i64 0, .int .u32 0] 34) = wz at *
  clear hGX
  go_loopw [5] (fun i wr => ∃ k : Nat, k ≤ n ∧ i = .int .i64 k ∧ Blk wr GX 30 #[.int .u8 4, .int .u8 0, .int .i64 0, .slice B m d, .int .i64 0, .int .i64 0, .int .i64 0, .int .u32 0, .slice Q qn qc, .bool false, .bool false, .int .i64 0, .int .u8 0] ∧ Blk wr (GX + 1) 34 #[.bool false, .int .i64 0, .int .u32 0] ∧ MineP 0 wr Q qn qc l ∧ Bel W wr) (fun i _ => n - (intOf i).toNat)
  case atStart => exact ⟨0, Nat.zero_le _, rfl, qx, ux, MineP.base_le mp (Nat.zero_le _), b0⟩
  case round =>
    clear qx ux b0 mp
    obtain ⟨k, hk, rfl, q, u, mp, b0⟩ := hrel
    by_cases hlt : k < n
    · obtain ⟨b, o, hP, hbl, hc⟩ := (HP.out.below b0.out).cell (by omega)
      subst hP
      obtain ⟨c1, c2⟩ := hc k hlt
      have hz := HZ.out k (by have := HL.out; omega)
      obtain ⟨X, hX⟩ : ∃ X, pid l k = X := ⟨_, rfl⟩
      obtain ⟨Y, hY⟩ : ∃ Y, pva l k = Y := ⟨_, rfl⟩
      rw [hX] at c1 hz
      rw [hY] at c2 hz
      have i0 : (0 : Int) ≤ (k : Int) := by omega
      have i1 : (k : Int) < (n : Int) := by omega
      have hk1 : Hid (k + 1 ≤ n) := Lib.hid (by omega)
      clear hX hY hc hk hlt hbl
      have qp := Blk.new wr 55 #[.int .u16 X, .int .u32 Y]
      replace q := q.alloc (.cells #[.int .u16 X, .int .u32 Y] 55)
      replace u := u.alloc (.cells #[.int .u16 X, .int .u32 Y] 55)
      replace b0 := b0.alloc (.cells #[.int .u16 X, .int .u32 Y] 55)
      replace mp := mp.alloc (.cells #[.int .u16 X, .int .u32 Y] 55)
      have y0 := qp.at 0 rfl
      have y1 := qp.at 1 rfl
      rcases setWaysR X Y with ⟨e1, e2, es⟩ | ⟨e1, e2, e3, es⟩ | ⟨e1, e2, e3, e4, es⟩ | ⟨e1, e2, e3, e4, e5, es⟩ | ⟨e1, e2, e3, e4, es⟩ | ⟨e1, e2, e3, e4, e5, es⟩ | ⟨e1, e2, e3, e4, e5, e6, es⟩ | ⟨e1, e2, e3, e4, e5, es⟩ | ⟨e1, e2, e3, e4, e5, es⟩ | ⟨e1, e2, e3, e4, es⟩
      · rw [es] at hz
        exact absurd hz (by decide)
      · rw [es] at hz
        exact absurd hz (by decide)
      · clear hz es
        go_wp2_with fail
        exact ⟨⟨k + 1, hk1.out, by simp, q, u, mp, b0⟩, by simp [intOf]; have := hk1.out; omega⟩
      · clear hz es
        go_wp2_with fail
        exact ⟨⟨k + 1, hk1.out, by simp, q, u, mp, b0⟩, by simp [intOf]; have := hk1.out; omega⟩
      · rw [es] at hz
        exact absurd hz (by decide)
      · rw [es] at hz
        exact absurd hz (by decide)
      · clear hz es
        go_wp2_with fail
        exact ⟨⟨k + 1, hk1.out, by simp, q, u, mp, b0⟩, by simp [intOf]; have := hk1.out; omega⟩
      · rw [es] at hz
        exact absurd hz (by decide)
      · clear hz es
        go_wp2_with fail
        exact ⟨⟨k + 1, hk1.out, by simp, q, u, mp, b0⟩, by simp [intOf]; have := hk1.out; omega⟩
      · clear hz es
        go_wp2_with fail
        exact ⟨⟨k + 1, hk1.out, by simp, q, u, mp, b0⟩, by simp [intOf]; have := hk1.out; omega⟩
    · obtain rfl : n = k := by omega
      clear hk hlt
      have z8 := q.at 8 rfl
      skip
      go_wp2_with (first | ((with_reducible refine wpList_id ?_); refine wpList_getG (by rfl) _ _ rfl rfl u Try.underlying34 rfl (by rfl) ?_) | (go_at_call 28; (with_reducible refine (rPairs _ _ _ l _ _ _ l _ mp.prs (HP.out.below b0.out)).mono ?_); rintro e w9 ⟨rfl, hb⟩; rw [eqP_self]; replace b0 := b0.below hb; clear hb) | (go_at_call 9; (with_reducible refine (fWakes _).mono ?_); rintro e w9 ⟨rfl, hb⟩; replace b0 := b0.below hb))
      go_ret
      exact ⟨rfl, b0.out⟩
set_option maxRecDepth 100000 in
set_option maxHeartbeats 8000000 in
theorem sGo1 (P : Option Addr) (n c : Nat) (l : List (Int × Int)) (h : Prs W P n c l) (g0 : n ≤ 300) (hv : firstS l = 1) :
    Calls Try.prog 7 #[.slice P n c] W fun e w' => e = .returned (.bool true) ∧ Below W.heap.size W w' := by
  have cn := Nat.le_trans h.cap h.mx
  have hl := h.len
  have hr : parseS 4 0 0 (putPs l) = (⟨0, 0, 0, 0, 0, 0, 0, 0, 0, [], [], false, false⟩, ⟨true, 0, 1⟩) := by
    rw [sets_parse h.bs (by omega), hv]
    rfl
  have PF := Lib.hid fun A n c w h hn => fParse 0 4 0 0 A n c (putPs l) w h hn (by decide) (by decide) (by decide) (by decide)
  rw [hr] at PF
  have HP := Lib.hid h
  have HL := Lib.hid hl
  have HN := Lib.hid g0
  have PP := Lib.hid fun w h => rPutPairs P n c l w h (by omega)
  have HV := Lib.hid hv
  have b0 := Bel.refl W
  have z : decide ((300 : Int) < n) = false := decide_eq_false (by omega)
  clear g0 h hl hr hv
  go_enter Try.func7, Try.ntmps7
  go_wp2_with fail
  refine (PP.out _ (HP.out.below b0.out)).mono ?_
  rintro e wp ⟨A2, c2, rfl, k2, hb⟩
  replace b0 := b0.below hb
  clear hb
  go_wp2_with fail
  refine (PF.out _ _ _ _ k2.byt (by have := HN.out; omega)).mono ?_
  rintro e wx ⟨B, m, d, Q, qn, qc, rfl, mm, mp, hb⟩
  replace b0 := b0.below hb
  clear hb k2 mm
  replace b0 := (b0.alloc (.cells #[.int .u8 0, .int .u8 0, .int .i64 0, .slice B m d, .int .i64 0, .int .i64 0, .int .i64 0, .int .u32 0, .slice Q qn qc, .bool false, .bool false, .int .i64 0, .int .u8 0] 30)).alloc (.cells #[.bool true, .int .i64 0, .int .u32 1] 34)
  replace mp := (mp.alloc (.cells #[.int .u8 0, .int .u8 0, .int .i64 0, .slice B m d, .int .i64 0, .int .i64 0, .int .i64 0, .int .u32 0, .slice Q qn qc, .bool false, .bool false, .int .i64 0, .int .u8 0] 30)).alloc (.cells #[.bool true, .int .i64 0, .int .u32 1] 34)
  have qx := (Blk.new wx 30 #[.int .u8 0, .int .u8 0, .int .i64 0, .slice B m d, .int .i64 0, .int .i64 0, .int .i64 0, .int .u32 0, .slice Q qn qc, .bool false, .bool false, .int .i64 0, .int .u8 0]).alloc (.cells #[.bool true, .int .i64 0, .int .u32 1] 34)
  have ux := Blk.newAt (b := wx.heap.size + 1) (wx.alloc (.cells #[.int .u8 0, .int .u8 0, .int .i64 0, .slice B m d, .int .i64 0, .int .i64 0, .int .i64 0, .int .u32 0, .slice Q qn qc, .bool false, .bool false, .int .i64 0, .int .u8 0] 30)) 34 #[.bool true, .int .i64 0, .int .u32 1] (by simp)
  obtain rfl : qn = 0 := by simpa using mp.prs.len.symm
  clear mp
  go_wp2_with fail
  obtain ⟨GX, hGX⟩ : ∃ x, wx.heap.size = x := ⟨_, rfl⟩
  rw [hGX] at qx ux ⊢
  generalize (wx.alloc (.cells #[.int .u8 0, .int .u8 0, .int .i64 0, .slice B m d, .int .i64 0, .int .i64 0, .int .i64 0, .int .u32 0, .slice Q 0 qc, .bool false, .bool false, .int .i64 0, .int .u8 0] 30)).alloc (.cells #[.bool true, .int .i64 0, .int .u32 1] 34) = wz at *
  clear hGX
  go_loopw [5] (fun i wr => ∃ k : Nat, k ≤ n ∧ i = .int .i64 k ∧ Hid (faults (l.take k) = []) ∧ Blk wr GX 30 #[.int .u8 0, .int .u8 0, .int .i64 0, .slice B m d, .int .i64 0, .int .i64 0, .int .i64 0, .int .u32 0, .slice Q 0 qc, .bool false, .bool false, .int .i64 0, .int .u8 0] ∧ Blk wr (GX + 1) 34 #[.bool true, .int .i64 0, .int .u32 1] ∧ Bel W wr) (fun i _ => n - (intOf i).toNat)
  case atStart => exact ⟨0, Nat.zero_le _, rfl, Lib.hid (by simp [faults]), qx, ux, b0⟩
  case round =>
    clear qx ux b0
    obtain ⟨k, hk, rfl, hf, q, u, b0⟩ := hrel
    by_cases hlt : k < n
    · obtain ⟨b, o, hP, hbl, hc⟩ := (HP.out.below b0.out).cell (by omega)
      subst hP
      obtain ⟨c1, c2⟩ := hc k hlt
      have hz := fun hs => first_at (l := l) (k := k) (by have := HL.out; omega) hf.out hs
      have hy := faults_take l (k := k) (by have := HL.out; omega)
      rw [hf.out] at hy
      obtain ⟨X, hX⟩ : ∃ X, pid l k = X := ⟨_, rfl⟩
      obtain ⟨Y, hY⟩ : ∃ Y, pva l k = Y := ⟨_, rfl⟩
      rw [hX] at c1 hz hy
      rw [hY] at c2 hz hy
      have i0 : (0 : Int) ≤ (k : Int) := by omega
      have i1 : (k : Int) < (n : Int) := by omega
      have hk1 : Hid (k + 1 ≤ n) := Lib.hid (by omega)
      clear hX hY hc hk hlt hbl
      have qp := Blk.new wr 55 #[.int .u16 X, .int .u32 Y]
      replace q := q.alloc (.cells #[.int .u16 X, .int .u32 Y] 55)
      replace u := u.alloc (.cells #[.int .u16 X, .int .u32 Y] 55)
      replace b0 := b0.alloc (.cells #[.int .u16 X, .int .u32 Y] 55)
      have y0 := qp.at 0 rfl
      have y1 := qp.at 1 rfl
      rcases setWaysR X Y with ⟨e1, e2, es⟩ | ⟨e1, e2, e3, es⟩ | ⟨e1, e2, e3, e4, es⟩ | ⟨e1, e2, e3, e4, e5, es⟩ | ⟨e1, e2, e3, e4, es⟩ | ⟨e1, e2, e3, e4, e5, es⟩ | ⟨e1, e2, e3, e4, e5, e6, es⟩ | ⟨e1, e2, e3, e4, e5, es⟩ | ⟨e1, e2, e3, e4, e5, es⟩ | ⟨e1, e2, e3, e4, es⟩
      · clear hz hy hf es
        have z8 := q.at 8 rfl
        go_upto_region 9 with fail
        go_wp2_with (first | ((with_reducible refine wpList_id ?_); refine wpList_getG (by rfl) _ _ rfl rfl u Try.underlying34 rfl (by rfl) ?_) | (go_at_call 9; (with_reducible refine (fWakes _).mono ?_); rintro e w9 ⟨rfl, hb⟩; replace b0 := b0.below hb))
        go_ret
        exact ⟨rfl, b0.out⟩
      · clear hz hy hf es
        have z8 := q.at 8 rfl
        go_upto_region 9 with fail
        go_wp2_with (first | ((with_reducible refine wpList_id ?_); refine wpList_getG (by rfl) _ _ rfl rfl u Try.underlying34 rfl (by rfl) ?_) | (go_at_call 9; (with_reducible refine (fWakes _).mono ?_); rintro e w9 ⟨rfl, hb⟩; replace b0 := b0.below hb))
        go_ret
        exact ⟨rfl, b0.out⟩
      · clear hz
        rw [es, if_neg (by decide)] at hy
        have hf2 := Lib.hid (show faults (l.take (k + 1)) = [] by rw [hy]; rfl)
        clear hf hy es
        go_wp2_with fail
        exact ⟨⟨k + 1, hk1.out, by simp, hf2, q, u, b0⟩, by simp [intOf]; have := hk1.out; omega⟩
      · clear hz
        rw [es, if_neg (by decide)] at hy
        have hf2 := Lib.hid (show faults (l.take (k + 1)) = [] by rw [hy]; rfl)
        clear hf hy es
        go_wp2_with fail
        exact ⟨⟨k + 1, hk1.out, by simp, hf2, q, u, b0⟩, by simp [intOf]; have := hk1.out; omega⟩
      · clear hz hy hf es
        have z8 := q.at 8 rfl
        go_upto_region 9 with fail
        go_wp2_with (first | ((with_reducible refine wpList_id ?_); refine wpList_getG (by rfl) _ _ rfl rfl u Try.underlying34 rfl (by rfl) ?_) | (go_at_call 9; (with_reducible refine (fWakes _).mono ?_); rintro e w9 ⟨rfl, hb⟩; replace b0 := b0.below hb))
        go_ret
        exact ⟨rfl, b0.out⟩
      · clear hz hy hf es
        have z8 := q.at 8 rfl
        go_upto_region 9 with fail
        go_wp2_with (first | ((with_reducible refine wpList_id ?_); refine wpList_getG (by rfl) _ _ rfl rfl u Try.underlying34 rfl (by rfl) ?_) | (go_at_call 9; (with_reducible refine (fWakes _).mono ?_); rintro e w9 ⟨rfl, hb⟩; replace b0 := b0.below hb))
        go_ret
        exact ⟨rfl, b0.out⟩
      · clear hz
        rw [es, if_neg (by decide)] at hy
        have hf2 := Lib.hid (show faults (l.take (k + 1)) = [] by rw [hy]; rfl)
        clear hf hy es
        go_wp2_with fail
        exact ⟨⟨k + 1, hk1.out, by simp, hf2, q, u, b0⟩, by simp [intOf]; have := hk1.out; omega⟩
      · have h5 := (hz (by rw [es]; decide)).symm.trans HV.out
        rw [es] at h5
        exact absurd h5 (by decide)
      · clear hz
        rw [es, if_neg (by decide)] at hy
        have hf2 := Lib.hid (show faults (l.take (k + 1)) = [] by rw [hy]; rfl)
        clear hf hy es
        go_wp2_with fail
        exact ⟨⟨k + 1, hk1.out, by simp, hf2, q, u, b0⟩, by simp [intOf]; have := hk1.out; omega⟩
      · clear hz
        rw [es, if_neg (by decide)] at hy
        have hf2 := Lib.hid (show faults (l.take (k + 1)) = [] by rw [hy]; rfl)
        clear hf hy es
        go_wp2_with fail
        exact ⟨⟨k + 1, hk1.out, by simp, hf2, q, u, b0⟩, by simp [intOf]; have := hk1.out; omega⟩
    · exfalso
      have h1 := hf.out
      rw [List.take_of_length_le (by have := HL.out; omega)] at h1
      have h2 := first_none h1
      rw [HV.out] at h2
      exact absurd h2 (by decide)
set_option maxRecDepth 100000 in
set_option maxHeartbeats 8000000 in
theorem sGo3 (P : Option Addr) (n c : Nat) (l : List (Int × Int)) (h : Prs W P n c l) (g0 : n ≤ 300) (hv : firstS l = 3) :
    Calls Try.prog 7 #[.slice P n c] W fun e w' => e = .returned (.bool true) ∧ Below W.heap.size W w' := by
  have cn := Nat.le_trans h.cap h.mx
  have hl := h.len
  have hr : parseS 4 0 0 (putPs l) = (⟨0, 0, 0, 0, 0, 0, 0, 0, 0, [], [], false, false⟩, ⟨true, 0, 3⟩) := by
    rw [sets_parse h.bs (by omega), hv]
    rfl
  have PF := Lib.hid fun A n c w h hn => fParse 0 4 0 0 A n c (putPs l) w h hn (by decide) (by decide) (by decide) (by decide)
  rw [hr] at PF
  have HP := Lib.hid h
  have HL := Lib.hid hl
  have HN := Lib.hid g0
  have PP := Lib.hid fun w h => rPutPairs P n c l w h (by omega)
  have HV := Lib.hid hv
  have b0 := Bel.refl W
  have z : decide ((300 : Int) < n) = false := decide_eq_false (by omega)
  clear g0 h hl hr hv
  go_enter Try.func7, Try.ntmps7
  go_wp2_with fail
  refine (PP.out _ (HP.out.below b0.out)).mono ?_
  rintro e wp ⟨A2, c2, rfl, k2, hb⟩
  replace b0 := b0.below hb
  clear hb
  go_wp2_with fail
  refine (PF.out _ _ _ _ k2.byt (by have := HN.out; omega)).mono ?_
  rintro e wx ⟨B, m, d, Q, qn, qc, rfl, mm, mp, hb⟩
  replace b0 := b0.below hb
  clear hb k2 mm
  replace b0 := (b0.alloc (.cells #[.int .u8 0, .int .u8 0, .int .i64 0, .slice B m d, .int .i64 0, .int .i64 0, .int .i64 0, .int .u32 0, .slice Q qn qc, .bool false, .bool false, .int .i64 0, .int .u8 0] 30)).alloc (.cells #[.bool true, .int .i64 0, .int .u32 3] 34)
  replace mp := (mp.alloc (.cells #[.int .u8 0, .int .u8 0, .int .i64 0, .slice B m d, .int .i64 0, .int .i64 0, .int .i64 0, .int .u32 0, .slice Q qn qc, .bool false, .bool false, .int .i64 0, .int .u8 0] 30)).alloc (.cells #[.bool true, .int .i64 0, .int .u32 3] 34)
  have qx := (Blk.new wx 30 #[.int .u8 0, .int .u8 0, .int .i64 0, .slice B m d, .int .i64 0, .int .i64 0, .int .i64 0, .int .u32 0, .slice Q qn qc, .bool false, .bool false, .int .i64 0, .int .u8 0]).alloc (.cells #[.bool true, .int .i64 0, .int .u32 3] 34)
  have ux := Blk.newAt (b := wx.heap.size + 1) (wx.alloc (.cells #[.int .u8 0, .int .u8 0, .int .i64 0, .slice B m d, .int .i64 0, .int .i64 0, .int .i64 0, .int .u32 0, .slice Q qn qc, .bool false, .bool false, .int .i64 0, .int .u8 0] 30)) 34 #[.bool true, .int .i64 0, .int .u32 3] (by simp)
  obtain rfl : qn = 0 := by simpa using mp.prs.len.symm
  clear mp
  go_wp2_with fail
  obtain ⟨GX, hGX⟩ : ∃ x, wx.heap.size = x := ⟨_, rfl⟩
  rw [hGX] at qx ux ⊢
  generalize (wx.alloc (.cells #[.int .u8 0, .int .u8 0, .int .i64 0, .slice B m d, .int .i64 0, .int .i64 0, .int .i64 0, .int .u32 0, .slice Q 0 qc, .bool false, .bool false, .int .i64 0, .int .u8 0] 30)).alloc (.cells #[.bool true, .int .i64 0, .int .u32 3] 34) = wz at *
  clear hGX
  go_loopw [5] (fun i wr => ∃ k : Nat, k ≤ n ∧ i = .int .i64 k ∧ Hid (faults (l.take k) = []) ∧ Blk wr GX 30 #[.int .u8 0, .int .u8 0, .int .i64 0, .slice B m d, .int .i64 0, .int .i64 0, .int .i64 0, .int .u32 0, .slice Q 0 qc, .bool false, .bool false, .int .i64 0, .int .u8 0] ∧ Blk wr (GX + 1) 34 #[.bool true, .int .i64 0, .int .u32 3] ∧ Bel W wr) (fun i _ => n - (intOf i).toNat)
  case atStart => exact ⟨0, Nat.zero_le _, rfl, Lib.hid (by simp [faults]), qx, ux, b0⟩
  case round =>
    clear qx ux b0
    obtain ⟨k, hk, rfl, hf, q, u, b0⟩ := hrel
    by_cases hlt : k < n
    · obtain ⟨b, o, hP, hbl, hc⟩ := (HP.out.below b0.out).cell (by omega)
      subst hP
      obtain ⟨c1, c2⟩ := hc k hlt
      have hz := fun hs => first_at (l := l) (k := k) (by have := HL.out; omega) hf.out hs
      have hy := faults_take l (k := k) (by have := HL.out; omega)
      rw [hf.out] at hy
      obtain ⟨X, hX⟩ : ∃ X, pid l k = X := ⟨_, rfl⟩
      obtain ⟨Y, hY⟩ : ∃ Y, pva l k = Y := ⟨_, rfl⟩
      rw [hX] at c1 hz hy
      rw [hY] at c2 hz hy
      have i0 : (0 : Int) ≤ (k : Int) := by omega
      have i1 : (k : Int) < (n : Int) := by omega
      have hk1 : Hid (k + 1 ≤ n) := Lib.hid (by omega)
      clear hX hY hc hk hlt hbl
      have qp := Blk.new wr 55 #[.int .u16 X, .int .u32 Y]
      replace q := q.alloc (.cells #[.int .u16 X, .int .u32 Y] 55)
      replace u := u.alloc (.cells #[.int .u16 X, .int .u32 Y] 55)
      replace b0 := b0.alloc (.cells #[.int .u16 X, .int .u32 Y] 55)
      have y0 := qp.at 0 rfl
      have y1 := qp.at 1 rfl
      rcases setWaysR X Y with ⟨e1, e2, es⟩ | ⟨e1, e2, e3, es⟩ | ⟨e1, e2, e3, e4, es⟩ | ⟨e1, e2, e3, e4, e5, es⟩ | ⟨e1, e2, e3, e4, es⟩ | ⟨e1, e2, e3, e4, e5, es⟩ | ⟨e1, e2, e3, e4, e5, e6, es⟩ | ⟨e1, e2, e3, e4, e5, es⟩ | ⟨e1, e2, e3, e4, e5, es⟩ | ⟨e1, e2, e3, e4, es⟩
      · have h5 := (hz (by rw [es]; decide)).symm.trans HV.out
        rw [es] at h5
        exact absurd h5 (by decide)
      · have h5 := (hz (by rw [es]; decide)).symm.trans HV.out
        rw [es] at h5
        exact absurd h5 (by decide)
      · clear hz
        rw [es, if_neg (by decide)] at hy
        have hf2 := Lib.hid (show faults (l.take (k + 1)) = [] by rw [hy]; rfl)
        clear hf hy es
        go_wp2_with fail
        exact ⟨⟨k + 1, hk1.out, by simp, hf2, q, u, b0⟩, by simp [intOf]; have := hk1.out; omega⟩
      · clear hz
        rw [es, if_neg (by decide)] at hy
        have hf2 := Lib.hid (show faults (l.take (k + 1)) = [] by rw [hy]; rfl)
        clear hf hy es
        go_wp2_with fail
        exact ⟨⟨k + 1, hk1.out, by simp, hf2, q, u, b0⟩, by simp [intOf]; have := hk1.out; omega⟩
      · have h5 := (hz (by rw [es]; decide)).symm.trans HV.out
        rw [es] at h5
        exact absurd h5 (by decide)
      · have h5 := (hz (by rw [es]; decide)).symm.trans HV.out
        rw [es] at h5
        exact absurd h5 (by decide)
      · clear hz
        rw [es, if_neg (by decide)] at hy
        have hf2 := Lib.hid (show faults (l.take (k + 1)) = [] by rw [hy]; rfl)
        clear hf hy es
        go_wp2_with fail
        exact ⟨⟨k + 1, hk1.out, by simp, hf2, q, u, b0⟩, by simp [intOf]; have := hk1.out; omega⟩
      · clear hz hy hf es
        have z8 := q.at 8 rfl
        go_upto_region 11 with fail
        go_wp2_with (first | ((with_reducible refine wpList_id ?_); refine wpList_getG (by rfl) _ _ rfl rfl u Try.underlying34 rfl (by rfl) ?_) | (go_at_call 9; (with_reducible refine (fWakes _).mono ?_); rintro e w9 ⟨rfl, hb⟩; replace b0 := b0.below hb))
        go_ret
        exact ⟨rfl, b0.out⟩
      · clear hz
        rw [es, if_neg (by decide)] at hy
        have hf2 := Lib.hid (show faults (l.take (k + 1)) = [] by rw [hy]; rfl)
        clear hf hy es
        go_wp2_with fail
        exact ⟨⟨k + 1, hk1.out, by simp, hf2, q, u, b0⟩, by simp [intOf]; have := hk1.out; omega⟩
      · clear hz
        rw [es, if_neg (by decide)] at hy
        have hf2 := Lib.hid (show faults (l.take (k + 1)) = [] by rw [hy]; rfl)
        clear hf hy es
        go_wp2_with fail
        exact ⟨⟨k + 1, hk1.out, by simp, hf2, q, u, b0⟩, by simp [intOf]; have := hk1.out; omega⟩
    · exfalso
      have h1 := hf.out
      rw [List.take_of_length_le (by have := HL.out; omega)] at h1
      have h2 := first_none h1
      rw [HV.out] at h2
      exact absurd h2 (by decide)
theorem wSettings (P : Option Addr) (n c : Nat) (l : List (Int × Int)) (h : Prs W P n c l) :
    Calls Try.prog 7 #[.slice P n c] W fun e w' => e = .returned (.bool true) ∧ Below W.heap.size W w' := by
  by_cases g0 : 300 < n
  · exact sBig P n c l h g0
  by_cases h0 : firstS l = 0
  · exact sGo0 P n c l h (by omega) h0
  rcases firstS_ne l h0 with h1 | h1
  · exact sGo1 P n c l h (by omega) h1
  · exact sGo3 P n c l h (by omega) h1
end
end Go.Proofs.Ytnjnpnjjpodnnaa
