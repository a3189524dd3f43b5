/-
  Several texts in one: How further arguments are opened: an int, a Way, a ratio. Nothing here is about a single law.
-/
import Derived.Test.YtjiccijfbpkliaaGreatDoorG30

/- How further arguments are opened: an int, a Way, a ratio. Nothing here is about a single law. -/
namespace Go.Proofs.YtjiccijfbpkliaaGreatDoor
open Go.ChangeShapes Go.WideShapes Go.ChangeAt Go.RowKit

section
variable {H : Type} {enc : TypeId × Value → H} {W : World} {r : Reach} {b0 : Nat} {v : Value} {d : DataW H} {p : List MemPlace}
set_option maxRecDepth 100000 in
theorem open_int1 (hv : Value.okWide Tryz.prog W r b0 3 v) (h : DataW.Trod enc Tryz.prog W 0 (fun _ => true) true 3 v d p) : ∃ z : Int, v = .int .i64 z := by
  obtain ⟨z, rfl⟩ := okWide_int Tryz.underlying3 hv
  exact ⟨z, rfl⟩
set_option maxRecDepth 100000 in
theorem open_way (hv : Value.okWide Tryz.prog W r b0 46 v) (h : DataW.Trod enc Tryz.prog W 0 (fun _ => true) true 46 v d p) : ∃ a b : Int, v = .agg #[.int .i64 a, .int .i64 b] := by
  obtain ⟨v0, v1, y0, y1, k, rfl, _, _, h0, h1⟩ := Go.Joins.open_agg2 Tryz.underlying46 (by kernel_rfl) (by kernel_rfl) hv h
  obtain ⟨a, e0, _⟩ := DataW.trod_int Tryz.underlying3 h0
  obtain ⟨b, e1, _⟩ := DataW.trod_int Tryz.underlying3 h1
  simp at e0 e1
  subst e0
  subst e1
  exact ⟨a, b, rfl⟩
set_option maxRecDepth 100000 in
theorem open_rat1 (hv : Value.okWide Tryz.prog W r b0 36 v) (h : DataW.Trod enc Tryz.prog W 0 (fun _ => true) true 36 v d p) : ∃ q : Rat, RatA W v big q := by
  obtain ⟨cs, rfl, hsz⟩ := okWide_struct Tryz.underlying36 hv
  obtain ⟨fuel, hf⟩ := h
  obtain ⟨neg, A, n, c, B, m, d, q, e, hq⟩ := open_ratio hf
  refine ⟨q, ?_⟩
  have e2 : cs = #[.bool neg, .slice A n c, .slice B m d] := by
    obtain ⟨l⟩ := cs
    simp [Value.cells] at e
    simp [e]
  rw [e2]
  exact hq
end
end Go.Proofs.YtjiccijfbpkliaaGreatDoor
