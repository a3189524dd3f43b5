/- Parts of the proof. -/
import Derived.WalkSmall
import Derived.WalkSpells
import Derived.Test.YtiibocdmlfedkaaGreatDoorH02
import Derived.Test.YtiibocdmlfedkaaGreatDoorH04
import Derived.Test.YtiibocdmlfedkaaGreatDoorH05
namespace Go.Proofs.YtiibocdmlfedkaaGreatDoor
section
open Go.RowKit
open Go.Lib hiding intOf
structure Std (w : World) : Prop where
 max : ∃ m, w.cell? ⟨2, 0, none⟩ = some (.int .i64 m)
 b1 : 2 < w.heap.size
 b2 : 3 < w.heap.size
 pow : TabIs Tryz.prog w "internal/strconv.uint64pow10" .u64 pow10Tab
 err : ∃ t p, w.cell? ⟨1, 0, none⟩ = some (.iface t p)
 b3 : 1 < w.heap.size
theorem Std.drewN {w : World} (h : Std w) (k : Nat) : Std (w.drewN k) := ⟨h.max, h.b1, h.b2, h.pow, h.err, h.b3⟩
theorem Std.drew {w : World} (h : Std w) : Std w.drew := ⟨h.max, h.b1, h.b2, h.pow, h.err, h.b3⟩
theorem Std.below {w w' : World} (h : Std w) (hb : Below w.heap.size w w') : Std w' := by
 obtain ⟨⟨m, hm⟩, h1, h2, ht, ⟨t, p, he⟩, h3⟩ := h
 refine ⟨⟨m, (hb.cell h1).trans hm⟩, Nat.lt_of_lt_of_le h1 hb.size, Nat.lt_of_lt_of_le h2 hb.size, ?_, ⟨t, p, (hb.cell h3).trans he⟩, Nat.lt_of_lt_of_le h3 hb.size⟩
 exact var?_below hb (by kernel_rfl) h2 ht
end
end Go.Proofs.YtiibocdmlfedkaaGreatDoor
