/- Frames: what is told of payloads, what is put: plain. -/
import Derived.Test.YtnjnpnjjpodnnaaRGa
namespace Go.Proofs.Ytnjnpnjjpodnnaa
open Go.RowKit
set_option linter.unusedVariables false

def fm0 (kd fl st : Int) : Fm := ⟨kd, fl, st, 0, 0, 0, 0, 0, 0, [], [], false, false⟩
/-- Padding taken off, if there is some. -/
def padS (fl : Int) (b : List Int) : Option (List Int × Int) := if hasB fl 8 then (if unE b = 0 then some (unO b, unN b) else none) else some (b, 0)
/-- What stands in a payload that is as long as its kind wants. -/
def readS (kd fl st : Int) (b : List Int) : Option Fm :=
  if kd = 0 then (padS fl b).map fun x => { fm0 kd fl st with da := x.1, pd := x.2 }
  else if kd = 1 then (padS fl b).bind fun x => if hasB fl 32 then (if trE x.1 = 0 then some { fm0 kd fl st with da := trR x.1, pd := x.2, rk := true, al := trA x.1, dp := trD x.1, wt := trW x.1 } else none) else some { fm0 kd fl st with da := x.1, pd := x.2 }
  else if kd = 2 then some { fm0 kd fl st with rk := true, al := trA b, dp := trD b, wt := trW b }
  else if kd = 3 then some { fm0 kd fl st with cd := (takeO b 0 4).1 }
  else if kd = 4 then some { fm0 kd fl st with prs := takePs b }
  else if kd = 7 then some { fm0 kd fl st with la := streamO b 0, cd := (takeO b 4 4).1, da := b.drop 8 }
  else if kd = 8 then some { fm0 kd fl st with ic := streamO b 0 }
  else if kd = 16 then some { fm0 kd fl st with la := streamO b 0, da := b.drop 4 }
  else some { fm0 kd fl st with da := b }
/-- A setting's fault: its code. -/
def setS (p : Int × Int) : Int :=
  if (p.1 = 2 ∨ p.1 = 9) ∧ 1 < p.2 then 1 else if p.1 = 5 ∧ (p.2 < 16384 ∨ 16777215 < p.2) then 1 else if p.1 = 4 ∧ 2147483647 < p.2 then 3 else 0
def firstS : List (Int × Int) → Int
  | [] => 0
  | p :: r => if setS p ≠ 0 then setS p else firstS r
/-- A fault. -/
structure Flt where
  wh : Bool
  st : Int
  cd : Int
deriving DecidableEq
def valS (f : Fm) : Flt :=
  if firstS f.prs ≠ 0 then ⟨true, 0, firstS f.prs⟩
  else if f.kd = 8 ∧ f.ic = 0 then ⟨decide (f.st = 0), f.st, 1⟩
  else if f.kd = 16 ∧ f.la = 0 then ⟨true, 0, 1⟩
  else if f.rk = true ∧ f.dp = f.st then ⟨false, f.st, 1⟩
  else ⟨false, 0, 0⟩
/-- Whether a kind is of a stream (1), of none (2), of either (0). -/
def ofK (k : Int) : Int := if k = 0 ∨ k = 1 ∨ k = 2 ∨ k = 3 ∨ k = 9 then 1 else if k = 4 ∨ k = 6 ∨ k = 7 ∨ k = 16 then 2 else 0
def farK (kd st : Int) : Bool := decide ((ofK kd = 1 ∧ st = 0) ∨ (ofK kd = 2 ∧ st ≠ 0))
def parseS (kd fl st : Int) (b : List Int) : Fm × Flt :=
  if okH 0 st = false then (Fm0, ⟨true, 0, 2⟩)
  else if 16384 < b.length then (Fm0, ⟨true, 0, 6⟩)
  else if kd = 5 ∨ farK kd st = true then (Fm0, ⟨true, 0, 1⟩)
  else if longOk kd fl b.length = false then (if kd = 2 then (fm0 kd fl st, ⟨false, st, 6⟩) else (Fm0, ⟨true, 0, 6⟩))
  else match readS kd fl st b with
    | none => (Fm0, ⟨true, 0, 1⟩)
    | some f => if (valS f).wh then (Fm0, valS f) else (f, valS f)
/-- The bytes behind a head. -/
def padP (f : Fm) (l : List Int) : List Int := if hasB f.fl 8 then padL l (wrap64 (f.pd - 1)) else l
def payS (f : Fm) : List Int :=
  if f.kd = 0 then padP f f.da
  else if f.kd = 1 then padP f ((if f.rk then rankL f.al f.dp f.wt else []) ++ f.da)
  else if f.kd = 2 then rankL f.al f.dp f.wt
  else if f.kd = 3 then putO f.cd 4
  else if f.kd = 4 then putPs f.prs
  else if f.kd = 7 then putO f.la 4 ++ putO f.cd 4 ++ f.da
  else if f.kd = 8 then putO f.ic 4
  else if f.kd = 16 then putO f.la 4 ++ f.da
  else f.da
def rightS (f : Fm) : Bool := decide ((parseS f.kd f.fl f.st (payS f)).2.cd = 0 ∧ f = (parseS f.kd f.fl f.st (payS f)).1)
def putS (f : Fm) : List Int := if rightS f then putH (payS f).length f.kd f.fl f.st ++ payS f else []
def putSe (f : Fm) : Int := if rightS f then 0 else 2
end Go.Proofs.Ytnjnpnjjpodnnaa
