/-
  Plain functions: what the functions of chapter 35 on lists of counts come to. No program in sight.
-/
namespace Go.Proofs.YtkcbgbpgiihdeaaDoor

/-- A count. -/
def isC (n : Int) : Bool := decide (0 ≤ n) && decide (n ≤ 1000)
def within (xs : List Int) : Bool := xs.all isC
def sums (a b : List Int) : List Int := List.zipWith (· + ·) a b
def miss (a b : List Int) : List Int := List.zipWith (fun x y => max (x - y) 0) a b
/-- The sum of the counts. -/
def total : List Int → Int
  | [] => 0
  | x :: l => (if isC x then x else 0) + total l
/-- The error of two lists that are not counts of the same sizes. -/
def likeE (a b : List Int) : Int := if a.length = b.length then (if within a && within b then 0 else 3) else 1
def addE (a b : List Int) : Int := if likeE a b = 0 then (if within (sums a b) then 0 else 3) else likeE a b
def addL (a b : List Int) : List Int := if addE a b = 0 then sums a b else []
def shortL (a b : List Int) : List Int := if likeE a b = 0 then miss a b else []

theorem isC_true {n : Int} : isC n = true ↔ 0 ≤ n ∧ n ≤ 1000 := by simp [isC]
theorem isC_false {n : Int} : isC n = false ↔ n < 0 ∨ 1000 < n := by simp [isC]; omega
theorem within_at {xs : List Int} {k : Nat} {x : Int} (h : within xs = true) (hx : xs[k]? = some x) : isC x = true := by
  simp only [within, List.all_eq_true] at h
  exact h x (List.mem_of_getElem? hx)
theorem within_not {xs : List Int} {k : Nat} {x : Int} (hx : xs[k]? = some x) (h : isC x = false) : within xs = false := by
  cases hw : within xs
  · rfl
  · have := within_at hw hx
    rw [h] at this
    cases this
theorem within_succ {xs : List Int} {k : Nat} {x : Int} (h : within (xs.take k) = true) (hx : xs[k]? = some x) (hc : isC x = true) : within (xs.take (k + 1)) = true := by
  simp only [within] at h ⊢
  rw [List.take_add_one, hx, List.all_append, h]
  simp [hc]
theorem within_all {xs : List Int} {n : Nat} (h : within (xs.take n) = true) (hn : xs.length = n) : within xs = true := by
  rwa [List.take_of_length_le (by omega)] at h
theorem sums_at {a b : List Int} {k : Nat} {x y : Int} (hx : a[k]? = some x) (hy : b[k]? = some y) : (sums a b)[k]? = some (x + y) := by
  simp [sums, List.getElem?_zipWith, hx, hy]
theorem miss_at {a b : List Int} {k : Nat} {x y : Int} (hx : a[k]? = some x) (hy : b[k]? = some y) : (miss a b)[k]? = some (max (x - y) 0) := by
  simp [miss, List.getElem?_zipWith, hx, hy]
theorem sums_len {a b : List Int} {n : Nat} (ha : a.length = n) (hb : b.length = n) : (sums a b).length = n := by simp [sums, ha, hb]
theorem miss_len {a b : List Int} {n : Nat} (ha : a.length = n) (hb : b.length = n) : (miss a b).length = n := by simp [miss, ha, hb]
theorem total_append (a b : List Int) : total (a ++ b) = total a + total b := by
  induction a with
  | nil => simp [total]
  | cons x l ih => simp only [List.cons_append, total, ih]; omega
theorem total_succ {xs : List Int} {k : Nat} {x : Int} (hx : xs[k]? = some x) : total (xs.take (k + 1)) = total (xs.take k) + (if isC x then x else 0) := by
  rw [List.take_add_one, hx, total_append]
  simp [total]
theorem total_bound (xs : List Int) : 0 ≤ total xs ∧ total xs ≤ 1000 * xs.length := by
  induction xs with
  | nil => simp [total]
  | cons x l ih =>
    simp only [total, List.length_cons]
    by_cases h : isC x = true
    · have := isC_true.1 h
      rw [if_pos h]
      omega
    · rw [if_neg h]
      omega
theorem likeE_zero {a b : List Int} (h : likeE a b = 0) : a.length = b.length ∧ within a = true ∧ within b = true := by
  unfold likeE at h
  split at h
  · split at h
    · rename_i h1 h2
      simp only [Bool.and_eq_true] at h2
      exact ⟨h1, h2⟩
    · omega
  · omega
theorem likeE_mk {a b : List Int} (h : a.length = b.length) (ha : within a = true) (hb : within b = true) : likeE a b = 0 := by
  simp [likeE, h, ha, hb]
theorem likeE_left {a b : List Int} (h : a.length = b.length) (ha : within a = false) : likeE a b = 3 := by
  simp [likeE, h, ha]
theorem likeE_right {a b : List Int} (h : a.length = b.length) (hb : within b = false) : likeE a b = 3 := by
  simp [likeE, h, hb]
theorem likeE_len {a b : List Int} (h : a.length ≠ b.length) : likeE a b = 1 := by
  simp [likeE, h]
theorem likeE_swap (a b : List Int) : likeE a b = likeE b a := by
  unfold likeE
  by_cases h : a.length = b.length
  · rw [if_pos h, if_pos h.symm, Bool.and_comm]
  · rw [if_neg h, if_neg (fun e => h e.symm)]
end Go.Proofs.YtkcbgbpgiihdeaaDoor
