/- Equality of strings of bytes. -/
import Derived.Test.YthcnfalfhdeflaaBf
import Derived.Lib.Bytes
namespace Go.Proofs.Ythcnfalfhdeflaa
open Go.RowKit

theorem strOf_eq {l m : List Int} (hl : Bs l) (hm : Bs m) : ((strOf l).toList == (strOf m).toList) = eqB l m := by
  unfold eqB
  rw [Bool.eq_iff_iff]
  simp only [beq_iff_eq]
  refine ⟨fun h => ?_, fun h => by rw [h]⟩
  unfold strOf at h
  rw [Lib.strOfNums_toList, Lib.strOfNums_toList] at h
  refine strOf_inj hl hm ?_
  unfold strOf strOfNums
  unfold Lib.bytesOf at h
  rw [h]
end Go.Proofs.Ythcnfalfhdeflaa
