/-
  What the library's own variables hold ('Std'), and plain facts on numbers in decimal.
-/
import Derived.Test.YtkcbgbpgiihdeaaDoorAdd
import Derived.Test.YtkcbgbpgiihdeaaDoorText
import Derived.Test.YtkcbgbpgiihdeaaDoorShelf
import Derived.WalkSpells
namespace Go.Proofs.YtkcbgbpgiihdeaaDoor
open Go.RowKit
open Go.Lib hiding intOf

/-- What the library's own variables hold, as far as the contracts of the shelf ask. -/
def Std (w : World) : Prop := (∃ m, w.cell? ⟨0, 0, none⟩ = some (.int .i64 m)) ∧ 0 < w.heap.size ∧ 1 < w.heap.size ∧ TabIs Tryd.prog w "internal/strconv.uint64pow10" .u64 pow10Tab
theorem Std.drewN {w : World} (h : Std w) (k : Nat) : Std (w.drewN k) := h

theorem numOk_no_empty {l : List UInt8} (h : l.length = 0) : numOk l = false := by simp [numOk, h]
theorem numOk_no_long {l : List UInt8} (h : 18 < l.length) : numOk l = false := by simp [numOk]; omega
theorem numOk_no_zero {l : List UInt8} (h : 1 < l.length) (h0 : l[0]? = some 48) : numOk l = false := by simp [numOk, h0]; omega
theorem numOk_no_dig {l : List UInt8} (h : l.all isDig = false) : numOk l = false := by simp [numOk, h]
theorem numOk_yes {l : List UInt8} (h1 : 1 ≤ l.length) (h2 : l.length ≤ 18) (h3 : l.length ≤ 1 ∨ l[0]? ≠ some 48) (h : l.all isDig = true) : numOk l = true := by
  simp only [numOk, h, Bool.and_eq_true, decide_eq_true_eq, Bool.or_eq_true, bne_iff_ne]
  exact ⟨⟨h1, h2⟩, h3, trivial⟩
theorem byte_48 {b : UInt8} (h : ((b.toNat : Int) == 48) = true) : b = 48 := by
  have : b.toNat = 48 := by have := beq_iff_eq.1 h; omega
  exact UInt8.toNat_inj.1 this
theorem byte_not {b : UInt8} {n : Nat} (hn : n < 256) (h : ¬ b.toNat = n) : b ≠ UInt8.ofNat n := by
  rintro rfl
  apply h
  simp [UInt8.toNat_ofNat']
  omega

end Go.Proofs.YtkcbgbpgiihdeaaDoor
