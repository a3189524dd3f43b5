/- Parts of the proof. -/
import Derived.Lib.SlicesS
import Derived.Lib.SplitLaws
import Derived.Lib.Walk
namespace Go.Proofs.YtiibocdmlfedkaaGreatDoor
section
open Go.Lib
theorem at_data (s : ByteArray) (k : Nat) (h : k < s.size) : s.data.toList[k]? = some (s[k]'h) := by
 rw [Array.getElem?_toList]
 exact Array.getElem?_eq_getElem h
theorem empty_of (s : ByteArray) (h : s.size = 0) : s.toList = [] ∧ s.toList.isEmpty = true := by
 have : s.toList = [] := by
  rw [toList_data]
  exact List.eq_nil_of_length_eq_zero (by rw [← size_eq]; exact h)
 exact ⟨this, by rw [this]; rfl⟩
theorem full_of (s : ByteArray) (h : 0 < s.size) : (¬ s.toList = []) ∧ s.toList.isEmpty = false := by
 have : ¬ s.toList = [] := fun e => by
  rw [toList_data] at e
  have h2 := size_eq s
  rw [e, List.length_nil] at h2
  omega
 exact ⟨this, by simpa using this⟩
theorem eq_of_data {a b : ByteArray} (h : a.data.toList = b.data.toList) : a = b := by rw [← mk_data a, ← mk_data b, h]
end
end Go.Proofs.YtiibocdmlfedkaaGreatDoor
