/-
  Several texts in one: What the library's own variables hold ('Std').
-/
import Derived.WalkSmall
import Derived.WalkSpells
import Derived.Test.YtjiccijfbpkliaaGreatDoorG02
import Derived.Test.YtjiccijfbpkliaaGreatDoorG04
import Derived.Test.YtjiccijfbpkliaaGreatDoorG06

/- What the library's own variables hold ('Std'). -/
namespace Go.Proofs.YtjiccijfbpkliaaGreatDoor
open Go.RowKit
open Go.Lib hiding intOf

/-- What the library's own variables hold, as far as the contracts of the shelf ask. -/
def Std (w : World) : Prop := (∃ m, w.cell? ⟨0, 0, none⟩ = some (.int .i64 m)) ∧ 0 < w.heap.size ∧ 1 < w.heap.size ∧ TabIs Tryz.prog w "internal/strconv.uint64pow10" .u64 pow10Tab
theorem Std.drewN {w : World} (h : Std w) (k : Nat) : Std (w.drewN k) := h
theorem Std.below {w w' : World} (h : Std w) (hb : Below w.heap.size w w') : Std w' := by
  obtain ⟨⟨m, hm⟩, h1, h2, ht⟩ := h
  refine ⟨⟨m, (hb.cell h1).trans hm⟩, Nat.lt_of_lt_of_le h1 hb.size, Nat.lt_of_lt_of_le h2 hb.size, ?_⟩
  exact var?_below hb (by kernel_rfl) h2 ht
theorem byte_48 {b : UInt8} (h : ((b.toNat : Int) == 48) = true) : b = 48 := by
  have : b.toNat = 48 := by have := beq_iff_eq.1 h; omega
  exact UInt8.toNat_inj.1 this
theorem byte_not {b : UInt8} {n : Nat} (hn : n < 256) (h : ¬ b.toNat = n) : b ≠ UInt8.ofNat n := by
  rintro rfl
  apply h
  simp [UInt8.toNat_ofNat']
  omega
end Go.Proofs.YtjiccijfbpkliaaGreatDoor
