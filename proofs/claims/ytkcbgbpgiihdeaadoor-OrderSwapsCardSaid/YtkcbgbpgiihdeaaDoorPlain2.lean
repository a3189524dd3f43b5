/-
  Plain laws of chapter 35 on lists of counts: sums and comparisons. No program in sight.
-/
import Derived.Test.YtkcbgbpgiihdeaaDoorPlain
namespace Go.Proofs.YtkcbgbpgiihdeaaDoor

theorem sums_comm : ∀ (a b : List Int), sums a b = sums b a
  | [], [] => rfl
  | [], _ :: _ => rfl
  | _ :: _, [] => rfl
  | x :: a, y :: b => by
    have := sums_comm a b
    simp only [sums, List.zipWith_cons_cons] at this ⊢
    rw [this, Int.add_comm]
theorem addE_comm (a b : List Int) : addE a b = addE b a := by
  unfold addE
  rw [likeE_swap a b, sums_comm a b]
theorem addL_comm (a b : List Int) : addL a b = addL b a := by
  unfold addL
  rw [addE_comm a b, sums_comm a b]
theorem addE_zero {a b : List Int} (h : addE a b = 0) : a.length = b.length ∧ within a = true ∧ within b = true ∧ within (sums a b) = true := by
  unfold addE at h
  by_cases hl : likeE a b = 0
  · obtain ⟨h1, h2, h3⟩ := likeE_zero hl
    rw [if_pos hl] at h
    cases hw : within (sums a b)
    · rw [hw] at h
      cases h
    · exact ⟨h1, h2, h3, rfl⟩
  · rw [if_neg hl] at h
    exact absurd h hl
theorem addE_mk {a b : List Int} (h1 : a.length = b.length) (h2 : within a = true) (h3 : within b = true) (h4 : within (sums a b) = true) : addE a b = 0 := by
  rw [addE, if_pos (likeE_mk h1 h2 h3), h4]
  rfl
theorem addL_of {a b : List Int} (h : addE a b = 0) : addL a b = sums a b := by rw [addL, if_pos h]
theorem sums_zero : ∀ (a : List Int) (n : Nat), a.length = n → sums a (List.replicate n 0) = a
  | [], n, _ => by simp [sums]
  | x :: a, n, h => by
    obtain ⟨m, rfl⟩ : ∃ m, n = m + 1 := ⟨a.length, by simp at h; omega⟩
    have := sums_zero a m (by simpa using h)
    simp only [sums, List.replicate_succ, List.zipWith_cons_cons] at this ⊢
    rw [this, Int.add_zero]
theorem zeros_within (n : Nat) : within (List.replicate n 0) = true := by
  simp only [within, List.all_eq_true]
  intro x hx
  rw [(List.mem_replicate.1 hx).2]
  rfl
theorem add_neutral {a : List Int} {n : Nat} (hn : a.length = n) (h : within a = true) : addE a (List.replicate n 0) = 0 ∧ addL a (List.replicate n 0) = a := by
  have hs := sums_zero a n hn
  have hE : addE a (List.replicate n 0) = 0 := addE_mk (by simpa using hn) h (zeros_within n) (by rw [hs]; exact h)
  exact ⟨hE, by rw [addL_of hE, hs]⟩
theorem total_sums : ∀ {a b : List Int}, a.length = b.length → within a = true → within b = true → within (sums a b) = true → total (sums a b) = total a + total b
  | [], [], _, _, _, _ => rfl
  | [], _ :: _, h, _, _, _ => by simp at h
  | _ :: _, [], h, _, _, _ => by simp at h
  | x :: a, y :: b, h, ha, hb, hs => by
    have e : sums (x :: a) (y :: b) = (x + y) :: sums a b := rfl
    rw [e] at hs ⊢
    have ha2 : isC x = true ∧ within a = true := by simpa [within] using ha
    have hb2 : isC y = true ∧ within b = true := by simpa [within] using hb
    have hs2 : isC (x + y) = true ∧ within (sums a b) = true := by simpa [within] using hs
    have ih := total_sums (by simpa using h) ha2.2 hb2.2 hs2.2
    simp only [total, ha2.1, hb2.1, hs2.1, if_true, ih]
    omega
theorem sums_assoc : ∀ (a b c : List Int), sums (sums a b) c = sums a (sums b c)
  | [], b, c => by cases b <;> cases c <;> rfl
  | _ :: _, [], c => by cases c <;> rfl
  | _ :: _, _ :: _, [] => rfl
  | x :: a, y :: b, z :: c => by
    have := sums_assoc a b c
    simp only [sums, List.zipWith_cons_cons] at this ⊢
    rw [this, Int.add_assoc]
theorem within_part : ∀ {a b : List Int}, a.length = b.length → within a = true → within b = true → ∀ {c : List Int}, c.length = b.length → within c = true → within (sums a (sums b c)) = true → within (sums b c) = true
  | [], [], _, _, _, [], _, _, _ => rfl
  | [], [], _, _, _, _ :: _, h, _, _ => by simp at h
  | [], _ :: _, h, _, _, _, _, _, _ => by simp at h
  | _ :: _, [], h, _, _, _, _, _, _ => by simp at h
  | x :: a, y :: b, _, _, _, [], h, _, _ => by simp at h
  | x :: a, y :: b, h, ha, hb, z :: c, hc, hcw, hs => by
    have ha2 : isC x = true ∧ within a = true := by simpa [within] using ha
    have hb2 : isC y = true ∧ within b = true := by simpa [within] using hb
    have hc2 : isC z = true ∧ within c = true := by simpa [within] using hcw
    have e : sums (x :: a) (sums (y :: b) (z :: c)) = (x + (y + z)) :: sums a (sums b c) := rfl
    rw [e] at hs
    have hs2 : isC (x + (y + z)) = true ∧ within (sums a (sums b c)) = true := by simpa [within] using hs
    have ih := within_part (by simpa using h) ha2.2 hb2.2 (by simpa using hc) hc2.2 hs2.2
    have hx := isC_true.1 ha2.1
    have hy := isC_true.1 hb2.1
    have hz := isC_true.1 hc2.1
    have hxyz := isC_true.1 hs2.1
    have e2 : sums (y :: b) (z :: c) = (y + z) :: sums b c := rfl
    rw [e2]
    have : isC (y + z) = true := isC_true.2 (by omega)
    simp only [within, List.all_cons, this, Bool.true_and]
    exact ih
/-- Add is associative where all sums stay within the bound. -/
theorem add_assoc {a b c : List Int} (h1 : addE a b = 0) (h2 : addE (addL a b) c = 0) : addE b c = 0 ∧ addE a (addL b c) = 0 ∧ addL a (addL b c) = addL (addL a b) c := by
  obtain ⟨l1, wa, wb, wab⟩ := addE_zero h1
  rw [addL_of h1] at h2
  obtain ⟨l2, _, wc, wabc⟩ := addE_zero h2
  have lab : (sums a b).length = b.length := sums_len l1 rfl
  have lbc : b.length = c.length := by rw [← lab]; exact l2
  have wbc : within (sums b c) = true := within_part l1 wa wb lbc.symm wc (by rw [← sums_assoc]; exact wabc)
  have h3 : addE b c = 0 := addE_mk lbc wb wc wbc
  have lbc' : (sums b c).length = a.length := sums_len l1.symm (by rw [← lbc, l1])
  have h4 : addE a (addL b c) = 0 := by
    rw [addL_of h3]
    exact addE_mk lbc'.symm wa wbc (by rw [← sums_assoc]; exact wabc)
  refine ⟨h3, h4, ?_⟩
  rw [addL_of h4, addL_of h3, addL_of h1, addL_of h2, sums_assoc]

/-! ### comparisons -/
theorem miss_facts {x y : Int} : 0 ≤ max (x - y) 0 ∧ 0 ≤ max (y - x) 0 ∧ (max (x - y) 0 = 0 ∨ max (y - x) 0 = 0) ∧ x + max (y - x) 0 = y + max (x - y) 0 := by
  rw [Int.max_def, Int.max_def]
  split <;> split <;> omega
theorem miss_within : ∀ {a b : List Int}, within a = true → within b = true → within (miss a b) = true
  | [], _, _, _ => by simp [miss, within]
  | _ :: _, [], _, _ => by simp [miss, within]
  | x :: a, y :: b, ha, hb => by
    have ha2 : isC x = true ∧ within a = true := by simpa [within] using ha
    have hb2 : isC y = true ∧ within b = true := by simpa [within] using hb
    have ih := miss_within ha2.2 hb2.2
    have hx := isC_true.1 ha2.1
    have hy := isC_true.1 hb2.1
    have e : miss (x :: a) (y :: b) = max (x - y) 0 :: miss a b := rfl
    rw [e]
    have : isC (max (x - y) 0) = true := isC_true.2 (by rw [Int.max_def]; split <;> omega)
    simp only [within, List.all_cons, this, Bool.true_and]
    exact ih
theorem total_zero : ∀ {l : List Int}, within l = true → total l ≤ 0 → ∀ x ∈ l, x = 0
  | [], _, _, x, h => by cases h
  | y :: l, hw, ht, x, h => by
    have hw2 : isC y = true ∧ within l = true := by simpa [within] using hw
    have hy := isC_true.1 hw2.1
    simp only [total, hw2.1, if_true] at ht
    have hb := (total_bound l).1
    rcases List.mem_cons.1 h with h | h
    · omega
    · exact total_zero hw2.2 (by omega) x h
theorem miss_complete : ∀ {a b : List Int}, a.length = b.length → (∀ x ∈ miss b a, x = 0) → sums b (miss a b) = a
  | [], [], _, _ => rfl
  | [], _ :: _, h, _ => by simp at h
  | _ :: _, [], h, _ => by simp at h
  | x :: a, y :: b, h, hz => by
    have e : miss (y :: b) (x :: a) = max (y - x) 0 :: miss b a := rfl
    rw [e] at hz
    have ih := miss_complete (a := a) (b := b) (by simpa using h) (fun z hz' => hz z (by simp [hz']))
    have h0 := hz (max (y - x) 0) (by simp)
    have hf := miss_facts (x := x) (y := y)
    have e2 : sums (y :: b) (miss (x :: a) (y :: b)) = (y + max (x - y) 0) :: sums b (miss a b) := rfl
    rw [e2, ih]
    have : y + max (x - y) 0 = x := by omega
    rw [this]
/-- What is missing completes what was made, if nothing is over. -/
theorem short_complete {a b : List Int} (h : likeE a b = 0) (ht : ¬ 0 < total (shortL b a)) : addE b (shortL a b) = 0 ∧ addL b (shortL a b) = a := by
  obtain ⟨h1, h2, h3⟩ := likeE_zero h
  have h' : likeE b a = 0 := by rw [likeE_swap]; exact h
  rw [shortL, if_pos h'] at ht
  rw [shortL, if_pos h]
  have hz := total_zero (miss_within h3 h2) (by omega)
  have hc := miss_complete h1 hz
  have hE : addE b (miss a b) = 0 := addE_mk (by rw [miss_len h1 rfl]) h3 (miss_within h2 h3) (by rw [hc]; exact h2)
  exact ⟨hE, by rw [addL_of hE, hc]⟩
end Go.Proofs.YtkcbgbpgiihdeaaDoor
