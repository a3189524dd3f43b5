/-
  Several texts in one: Plain facts on bytes: a text cut at the first of a byte, a text divided at a byte. No program in sight.
-/
import Derived.Lib.SlicesS
import Derived.Lib.SplitLaws
import Derived.Lib.Walk

/- Plain facts on bytes: a text cut at the first of a byte, a text divided at a byte. No program in sight. -/
namespace Go.Proofs.YtbgkdlfpmbnakaaGreatDoor
open Go.Lib

/-! ### bytes -/
theorem at_data (s : ByteArray) (k : Nat) (h : k < s.size) : s.data.toList[k]? = some (s[k]'h) := by
  rw [Array.getElem?_toList]
  exact Array.getElem?_eq_getElem h
theorem empty_of (s : ByteArray) (h : s.size = 0) : s.toList = [] ∧ s.toList.isEmpty = true := by
  have : s.toList = [] := by
    rw [toList_data]
    exact List.eq_nil_of_length_eq_zero (by rw [← size_eq]; exact h)
  exact ⟨this, by rw [this]; rfl⟩
theorem full_of (s : ByteArray) (h : 0 < s.size) : (¬ s.toList = []) ∧ s.toList.isEmpty = false := by
  have : ¬ s.toList = [] := fun e => by
    rw [toList_data] at e
    have h2 := size_eq s
    rw [e, List.length_nil] at h2
    omega
  exact ⟨this, by simpa using this⟩
theorem eq_of_data {a b : ByteArray} (h : a.data.toList = b.data.toList) : a = b := by rw [← mk_data a, ← mk_data b, h]

/-! ### a text cut at its first space -/
theorem occ_one (l : List UInt8) (c : UInt8) (i : Nat) : occAt l [c] i = true ↔ l[i]? = some c := by
  unfold occAt
  cases h : l.drop i with
  | nil =>
    have : l[i]? = none := List.getElem?_eq_none (by simpa using h)
    simp [this]
  | cons a t =>
    have : l[i]? = some a := by
      have := congrArg (·[0]?) h
      simpa using this
    rw [this]
    simp [List.isPrefixOf]
    exact eq_comm
theorem cut_hit {l : List UInt8} {c : UInt8} {i : Nat} (h : l[i]? = some c) (hn : ∀ j, j < i → l[j]? ≠ some c) : cut l [c] = (l.take i, l.drop (i + 1), true) := by
  have hlt : i < l.length := (List.getElem?_eq_some_iff.1 h).1
  have hi : index l [c] = i := index_first (by omega) ((occ_one l c i).2 h) fun j hj => by
    cases ho : occAt l [c] j
    · rfl
    · exact absurd ((occ_one l c j).1 ho) (hn j hj)
  unfold cut
  rw [if_pos (by omega), hi]
  simp
theorem cut_miss {l : List UInt8} {c : UInt8} (hn : ∀ j : Nat, l[j]? ≠ some c) : cut l [c] = (l, [], false) := by
  have hi : index l [c] = -1 := index_none fun j _ => by
    cases ho : occAt l [c] j
    · rfl
    · exact absurd ((occ_one l c j).1 ho) (hn j)
  unfold cut
  rw [if_neg (by omega)]

/-! ### a text divided -/
theorem split_hit {u sep : List UInt8} {i : Nat} (hs : sep ≠ []) (h : index u sep = i) : split u sep = u.take i :: split (u.drop (i + sep.length)) sep := by
  unfold split
  rw [count_hit hs h, Nat.add_comm, splitK, if_neg (by rw [h]; simp), h]
  simp
theorem split_miss {u sep : List UInt8} (h : index u sep = -1) : split u sep = [u] := by
  unfold split
  rw [count_miss h]
  rfl
end Go.Proofs.YtbgkdlfpmbnakaaGreatDoor
