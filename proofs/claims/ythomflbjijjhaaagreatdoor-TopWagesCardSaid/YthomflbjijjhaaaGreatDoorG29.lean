/-
  Several texts in one: What the library's own variables hold ('Std'). What the variables that TopWages reads hold ('StdT').
-/
import Derived.WalkSmall
import Derived.WalkSpells
import Derived.Test.YthomflbjijjhaaaGreatDoorG02
import Derived.Test.YthomflbjijjhaaaGreatDoorG03
import Derived.Test.YthomflbjijjhaaaGreatDoorG25

/- What the library's own variables hold ('Std'). -/
namespace Go.Proofs.YthomflbjijjhaaaGreatDoor
open Go.RowKit
open Go.Lib hiding intOf

/-- What the library's own variables hold, as far as the contracts of the shelf ask. -/
structure Std (w : World) : Prop where
  max : ∃ m, w.cell? ⟨4, 0, none⟩ = some (.int .i64 m)
  b1 : 4 < w.heap.size
  b2 : 3 < w.heap.size
  pow : TabIs Tryz.prog w "internal/strconv.uint64pow10" .u64 pow10Tab
  err : ∃ t p, w.cell? ⟨2, 0, none⟩ = some (.iface t p)
  b3 : 2 < w.heap.size
theorem Std.drewN {w : World} (h : Std w) (k : Nat) : Std (w.drewN k) := ⟨h.max, h.b1, h.b2, h.pow, h.err, h.b3⟩
theorem Std.drew {w : World} (h : Std w) : Std w.drew := ⟨h.max, h.b1, h.b2, h.pow, h.err, h.b3⟩
theorem Std.below {w w' : World} (h : Std w) (hb : Below w.heap.size w w') : Std w' := by
  obtain ⟨⟨m, hm⟩, h1, h2, ht, ⟨t, p, he⟩, h3⟩ := h
  refine ⟨⟨m, (hb.cell h1).trans hm⟩, Nat.lt_of_lt_of_le h1 hb.size, Nat.lt_of_lt_of_le h2 hb.size, ?_, ⟨t, p, (hb.cell h3).trans he⟩, Nat.lt_of_lt_of_le h3 hb.size⟩
  exact var?_below hb (by kernel_rfl) h2 ht
end Go.Proofs.YthomflbjijjhaaaGreatDoor

/- What the variables that TopWages reads hold ('StdT'). -/
namespace Go.Proofs.YthomflbjijjhaaaGreatDoor
open Go.RowKit
open Go.Lib hiding intOf

structure StdT (w : World) : Prop where
  st : Std w
  tz : w.cell? ⟨8, 15, none⟩ = some (.int .u8 4)
  b1 : 8 < w.heap.size
  bd0 : w.cell? ⟨0, 0, none⟩ = some (.int .i64 100000)
  bd1 : w.cell? ⟨0, 1, none⟩ = some (.int .i64 1073741824)
  b2 : 0 < w.heap.size
theorem StdT.drewN {w : World} (h : StdT w) (k : Nat) : StdT (w.drewN k) := ⟨h.st.drewN k, h.tz, h.b1, h.bd0, h.bd1, h.b2⟩
theorem StdT.drew {w : World} (h : StdT w) : StdT w.drew := ⟨h.st.drew, h.tz, h.b1, h.bd0, h.bd1, h.b2⟩
theorem StdT.below {w w' : World} (h : StdT w) (hb : Below w.heap.size w w') : StdT w' :=
  ⟨h.st.below hb, (hb.cell (p := ⟨8, 15, none⟩) h.b1).trans h.tz, Nat.lt_of_lt_of_le h.b1 hb.size, (hb.cell (p := ⟨0, 0, none⟩) h.b2).trans h.bd0, (hb.cell (p := ⟨0, 1, none⟩) h.b2).trans h.bd1, Nat.lt_of_lt_of_le h.b2 hb.size⟩
end Go.Proofs.YthomflbjijjhaaaGreatDoor
