/-
  Several texts in one: A string as bytes, one bit changed, and back. Nothing here is about the program.
-/
import Derived.Lib.ConvBytes
import Derived.Test.YthomflbjijjhaaaGreatDoorG03
import Derived.Test.YthomflbjijjhaaaGreatDoorG31

/- A string as bytes, one bit changed, and back. Nothing here is about the program. -/
namespace Go.Proofs.YthomflbjijjhaaaGreatDoor
open Go.RowKit

theorem xor_byte (b : UInt8) : bits BinOp.xor IntKind.u8 (b.toNat : Int) 1 = ((b ^^^ 1).toNat : Int) := by
  have h : ∀ n, n < 256 → bits BinOp.xor IntKind.u8 ((UInt8.ofNat n).toNat : Int) 1 = ((UInt8.ofNat n ^^^ 1).toNat : Int) := by decide +kernel
  have := h b.toNat b.toNat_lt
  rwa [UInt8.ofNat_toNat] at this
/-- Block g is new and holds the bytes l. -/
structure ByC (w w' : World) (g L : Nat) (l : List UInt8) : Prop where
  len : l.length = L
  new : g = w.heap.size
  below : Below w.heap.size w w'
  cell : ∀ (j : Nat) (b : UInt8), l[j]? = some b → w'.cell? ⟨g, j, none⟩ = some (.int .u8 (b.toNat : Int))
  free : ∀ j, j < L → w'.frozen? ⟨g, j, none⟩ = false
theorem by_conv (y : ByteArray) (w : World) : ∃ (c : Nat) (w' : World), (convert 9 50 (.string y)).run Tryz.prog w = .ok (.slice (some ⟨w.heap.size, 0, none⟩) y.size c) w' ∧ ByC w w' w.heap.size y.size y.data.toList := by
  refine ⟨_, _, Lib.run_convert_string_bytes w 9 50 5 y Tryz.underlying9 Tryz.underlying50 Tryz.underlying5, ⟨by rw [Array.length_toList]; rfl, rfl, ?_, fun j b hb => ?_, fun j hj => ?_⟩⟩
  · refine ⟨?_, ?_, ?_, by rw [Lib.bytesWorld_size]; omega, fun j hj => Lib.bytesWorld_at_old w _ y j hj⟩
    all_goals rfl
  · have hj : j < y.size := by
      have := (List.getElem?_eq_some_iff.1 hb).1
      rwa [Array.length_toList] at this
    rw [Lib.bytesWorld_cell w 5 y j hj, List.getD_eq_getElem?_getD, hb]
    rfl
  · have h := Lib.bytesWorld_at_new w 5 y
    unfold World.frozen?
    simp only [h]
    have hs : y.size ≤ (Lib.bytesCells w 5 y).size := by
      unfold Lib.bytesCells
      rw [Array.size_append, Array.size_map]
      have : y.data.size = y.size := rfl
      omega
    simp
    omega
theorem flip_at {l : List UInt8} {m : Nat} {b : UInt8} (h : l[m]? = some b) : flipJ m l = l.set m (b ^^^ 1) := by
  unfold flipJ
  rw [List.getD_eq_getElem?_getD, h]
  rfl
theorem flip_len (l : List UInt8) (m : Nat) : (flipJ m l).length = l.length := by simp [flipJ]
theorem by_back {w w' : World} {g L m c : Nat} {l : List UInt8} {b : UInt8} (h : ByC w w' g L l) (hb : l[m]? = some b) :
    (convert 50 9 (.slice (some ⟨g, 0, none⟩) L c)).run Tryz.prog (w'.setCell ⟨g, m, none⟩ (.int .u8 ((b ^^^ 1).toNat : Int))) = .ok (.string ⟨(flipJ m l).toArray⟩) (w'.setCell ⟨g, m, none⟩ (.int .u8 ((b ^^^ 1).toNat : Int))) := by
  have hm := (List.getElem?_eq_some_iff.1 hb).1
  have hl : (flipJ m l).length = L := by rw [flip_len]; exact h.len
  rw [← hl]
  refine run_convert_bytes_back (P := Tryz.prog) _ 50 9 5 ⟨g, 0, none⟩ c (flipJ m l) Tryz.underlying50 Tryz.underlying5 Tryz.underlying9 fun j hj => ?_
  rw [Go.WideShapes.add_plain, Nat.zero_add]
  have hjl : j < l.length := by rwa [flip_len] at hj
  by_cases e : m = j
  · subst e
    have h0 := h.cell m b hb
    have h1 : (flipJ m l)[m] = b ^^^ 1 := by simp [flip_at hb]
    rw [h1]
    exact World.cell?_setCell_same w' ⟨g, m, none⟩ _ h0
  · have h1 : (flipJ m l)[j] = l[j] := by
      simp only [flip_at hb]
      rw [List.getElem_set_ne e]
    rw [h1, World.cell?_setCell_other w' ⟨g, m, none⟩ ⟨g, j, none⟩ _ (fun q => e (congrArg (fun a : Addr => a.off) q))]
    exact h.cell j _ (List.getElem?_eq_getElem hjl)
end Go.Proofs.YthomflbjijjhaaaGreatDoor
