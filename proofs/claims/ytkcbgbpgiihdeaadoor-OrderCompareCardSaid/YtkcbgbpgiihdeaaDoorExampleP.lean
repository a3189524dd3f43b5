/-
  Plain facts: the examples of chapter 35. No program in sight.
-/
import Derived.Test.YtkcbgbpgiihdeaaDoorPrintP
import Derived.Test.YtkcbgbpgiihdeaaDoorParseP
namespace Go.Proofs.YtkcbgbpgiihdeaaDoor
open Go.Lib

def exZ : List ByteArray := [⟨#[83]⟩, ⟨#[77]⟩, ⟨#[76]⟩]
def exS : ByteArray := ⟨#[83, 32, 51, 44, 32, 76, 32, 49, 50]⟩
def exT : ByteArray := ⟨#[76, 32, 49, 44, 32, 83, 32, 50]⟩
theorem ex1 : parseL exS exZ = [3, 0, 12] ∧ parseE exS exZ = 0 := by decide +kernel
theorem ex2 : parseL exT exZ = [] ∧ parseE exT exZ = 21 := by decide +kernel
theorem ex3 : printE [3, 0, 12] exZ = 0 := by decide +kernel
theorem ex4 : printE [0, 0, 0] exZ = 0 := by decide +kernel
theorem ex3S : printS [3, 0, 12] exZ = exS := by
  rw [printS, if_pos ex3]
  have h1 : itoa 3 = [51] := by rw [itoa, if_neg (by omega)]; exact decDigits_one (by decide)
  have h2 : itoa 12 = [49, 50] := by rw [itoa, if_neg (by omega)]; exact decDigits_two (by decide) (by decide)
  have h3 : texts [3, 0, 12] exZ = [[83, 32, 51], [76, 32, 49, 50]] := by simp [texts, exZ, itemL, h1, h2]
  rw [printT, h3]
  rfl
theorem ex4S : printS [0, 0, 0] exZ = ⟨noneL.toArray⟩ := by
  rw [printS, if_pos ex4]
  rfl
theorem ex5 : addL [3, 0, 12] [1, 2, 3] = [4, 2, 15] ∧ addE [3, 0, 12] [1, 2, 3] = 0 := by decide +kernel
theorem ex6 : shortL [3, 5] [4, 1] = [0, 4] ∧ shortL [4, 1] [3, 5] = [1, 0] ∧ likeE [3, 5] [4, 1] = 0 := by decide +kernel
theorem ex7 : total [5, -3, 1001, 7] = 12 := by decide +kernel
end Go.Proofs.YtkcbgbpgiihdeaaDoor
