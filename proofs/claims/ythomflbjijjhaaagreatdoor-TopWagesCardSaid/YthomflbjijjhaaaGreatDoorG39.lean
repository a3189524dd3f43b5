/-
  Several texts in one: A builder that holds bytes, strings put together, strings.Cut at a line feed. Nothing here walks the program but a library's builder.
-/
import Derived.Test.YthomflbjijjhaaaGreatDoorG14
import Derived.Test.YthomflbjijjhaaaGreatDoorG30
import Derived.Test.YthomflbjijjhaaaGreatDoorG34

/- A builder that holds bytes, strings put together, strings.Cut at a line feed. Nothing here walks the program but a library's builder. -/
namespace Go.Proofs.YthomflbjijjhaaaGreatDoor
open Go.RowKit
open Go.Lib hiding intOf

theorem add2 (a b : ByteArray) (h : a.size + b.size ≤ 2000000000) : ∃ y : ByteArray, (∀ W, (Op.stringOp .add a b).run Tryz.prog W = .ok (.string y) W) ∧ y.data.toList = a.data.toList ++ b.data.toList ∧ y.size = a.size + b.size :=
  ⟨a ++ b, fun W => run_string_add_sum W _ _ (by omega), by simp [ByteArray.data_append], by rw [ByteArray.size_append]⟩

/-- A builder of the call's own that holds the bytes l. -/
def Bytes (B b : Nat) (l : List UInt8) (w : World) : Prop := Lib.IsBuilder 99 5 B b (byteCells l) w
theorem Bytes.fresh (w : World) : Bytes w.heap.size w.heap.size [] (w.alloc (.cells #[.pointer none, .slice none 0 0] 99)) :=
  .inl ⟨Nat.le_refl _, _, heap_alloc_new w _, World.ownsRow_nil _ _ _ _, by simp [Value.ownBlock]⟩
theorem at_below {B b : Nat} {p : Value} {bs : List Value} {w w' : World} (h : Lib.BuilderAt 99 5 B b p bs w) (hb : Below w.heap.size w w') : Lib.BuilderAt 99 5 B b p bs w' := by
  have hlt := h.lt
  obtain ⟨h1, v, h2, h3, h4⟩ := h
  exact ⟨h1, v, (hb.block b hlt).trans h2, own_below h3 hb, h4⟩
theorem Bytes.on {B b : Nat} {l : List UInt8} {w w' : World} (h : Bytes B b l w) (hb : Below w.heap.size w w') : Bytes B b l w' := by
  rcases h with h | h
  · exact .inl (at_below h hb)
  · exact .inr (at_below h hb)
theorem Bytes.ge {B b : Nat} {l : List UInt8} {w : World} (h : Bytes B b l w) : B ≤ b ∧ b < w.heap.size := by
  rcases h with h | h
  · exact ⟨h.1, h.lt⟩
  · exact ⟨h.1, h.lt⟩
theorem write_any (B b : Nat) (l : List UInt8) (s : ByteArray) (w : World) (h : Bytes B b l w) (hlen : l.length + s.size ≤ 2000000000) (hBw : B ≤ w.heap.size) :
    Calls Tryz.prog 25 #[.pointer (some ⟨b, 0, none⟩), .string s] w fun e w' => e = .returned (.tuple #[.int .i64 s.size, .nilIface]) ∧ Bytes B b (l ++ s.data.toList) w' ∧ Below B w w' ∧ BKeep b w w' := by
  refine (writeString_any B b (byteCells l) s w h (by rw [byteCells_length]; omega) hBw).mono ?_
  rintro e w' ⟨rfl, h1, h2, h3⟩
  refine ⟨rfl, .inr ?_, h2, h3⟩
  rw [byteCells_append, ← strCells_eq]
  exact h1
theorem cutN (s : ByteArray) (p d : List UInt8) (f : Bool) (w : World) (hw : Std w) (hs : s.size ≤ 1000000) (h : cut s.data.toList [10] = (p, d, f)) :
    Calls Tryz.prog 38 #[.string s, .string ⟨#[10]⟩] w fun e w' => e = .returned (.tuple #[.string (bytes p), .string (bytes d), .bool f]) ∧ ∃ n, w' = w.drewN n := by
  obtain ⟨m, hm⟩ := hw.max
  refine (Tryz.strings_Cut s ⟨#[10]⟩ m w (by omega) hm).mono fun e w' ⟨he, hn⟩ => ⟨?_, hn⟩
  rw [he]
  have e1 : (⟨#[10]⟩ : ByteArray).data.toList = [10] := rfl
  rw [e1, h]
  rfl
theorem cut_len10 (l : List UInt8) : (cut l [10]).1.length ≤ l.length ∧ (cut l [10]).2.1.length ≤ l.length := by
  unfold cut
  split
  · simp only [List.length_take, List.length_drop]
    omega
  · simp
end Go.Proofs.YthomflbjijjhaaaGreatDoor
