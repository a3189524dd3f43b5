/-
  Plain facts on the counts that a text describes, one step at a time. No program in sight.
-/
import Derived.Test.YtkcbgbpgiihdeaaDoorText
namespace Go.Proofs.YtkcbgbpgiihdeaaDoor
open Go.Lib

theorem item_parts {l : List UInt8} (h : itemOk l = true) : ∃ p d : ByteArray, cut l [32] = (p.data.toList, d.data.toList, true) ∧ 0 < p.size ∧ numOk d.data.toList = true ∧ itemS l = p ∧ itemN l = num d.data.toList := by
  simp only [itemOk, Bool.and_eq_true, decide_eq_true_eq] at h
  refine ⟨⟨(cut l [32]).1.toArray⟩, ⟨(cut l [32]).2.1.toArray⟩, ?_, ?_, ?_, rfl, ?_⟩
  · rw [← h.1]
  · rw [size_eq]; exact h.2.1
  · simpa using h.2.2
  · simp [itemN]
theorem num_all {l : List UInt8} (h : numOk l = true) : 0 ≤ num l ∧ num l < 1000000000000000000 := by
  simp only [numOk, Bool.and_eq_true, decide_eq_true_eq] at h
  obtain ⟨⟨h1, h2⟩, _, h4⟩ := h
  have ht : l.take l.length = l := List.take_of_length_le (Nat.le_refl _)
  obtain ⟨b1, b2⟩ := num_bound l.length l (by rw [ht]; exact h4) (Nat.le_refl _)
  rw [ht] at b1 b2
  refine ⟨b1, Int.lt_of_lt_of_le b2 ?_⟩
  have : (10 : Int) ^ l.length ≤ 10 ^ 18 := by
    have h3 : (10 : Nat) ^ l.length ≤ 10 ^ 18 := Nat.pow_le_pow_right (by omega) h2
    exact_mod_cast h3
  exact this

theorem idxFrom_cases (x : ByteArray) : ∀ (zs : List ByteArray) (i : Nat), (idxFromS zs x i = -1 ∧ x ∉ zs) ∨ ∃ k : Nat, k < zs.length ∧ idxFromS zs x i = ((i + k : Nat) : Int) ∧ zs[k]? = some x ∧ x ∉ zs.take k
  | [], i => .inl ⟨rfl, by simp⟩
  | z :: zs, i => by
    by_cases hz : z = x
    · subst hz
      exact .inr ⟨0, by simp, by simp [idxFromS], rfl, by simp⟩
    · have e : idxFromS (z :: zs) x i = idxFromS zs x (i + 1) := by simp [idxFromS, hz]
      rcases idxFrom_cases x zs (i + 1) with ⟨h, hn⟩ | ⟨k, hk, h, hx, hn⟩
      · exact .inl ⟨by rw [e, h], by simp [hn]; exact fun e => hz e.symm⟩
      · exact .inr ⟨k + 1, by simpa using hk, by rw [e, h]; omega, by simpa using hx, by simp [hn]; exact fun e => hz e.symm⟩
theorem idx_cases (zs : List ByteArray) (x : ByteArray) : (idxOfS zs x = -1 ∧ x ∉ zs) ∨ ∃ k : Nat, k < zs.length ∧ idxOfS zs x = (k : Int) ∧ zs[k]? = some x ∧ x ∉ zs.take k := by
  rcases idxFrom_cases x zs 0 with h | ⟨k, hk, h, hx, hn⟩
  · exact .inl h
  · exact .inr ⟨k, hk, by unfold idxOfS; rw [h, Nat.zero_add], hx, hn⟩

section
variable {sizes : List ByteArray} {st : St} {t : ByteArray}
theorem step_syntax (h : itemOk t.data.toList = false) : step sizes st t = .error 2 := by simp [step, h]
theorem step_found (h : itemOk t.data.toList = true) (hi : idxOfS sizes (itemS t.data.toList) = -1) : step sizes st t = .error 6 := by
  rw [step, if_pos h, if_pos (by omega)]
theorem step_range {k : Nat} (h : itemOk t.data.toList = true) (hi : idxOfS sizes (itemS t.data.toList) = k) (hn : itemN t.data.toList = 0 ∨ 1000 < itemN t.data.toList) : step sizes st t = .error 3 := by
  rw [step, if_pos h, if_neg (by omega), if_pos hn]
theorem step_exists {k : Nat} (h : itemOk t.data.toList = true) (hi : idxOfS sizes (itemS t.data.toList) = k) (hn : ¬ (itemN t.data.toList = 0 ∨ 1000 < itemN t.data.toList)) (hc : st.1.getD k 0 ≠ 0) : step sizes st t = .error 7 := by
  rw [step, if_pos h, if_neg (by omega), if_neg hn, hi, Int.toNat_natCast, if_pos hc]
theorem step_order {k : Nat} (h : itemOk t.data.toList = true) (hi : idxOfS sizes (itemS t.data.toList) = k) (hn : ¬ (itemN t.data.toList = 0 ∨ 1000 < itemN t.data.toList)) (hc : st.1.getD k 0 = 0) (hl : (k : Int) < st.2) : step sizes st t = .error 21 := by
  rw [step, if_pos h, if_neg (by omega), if_neg hn, hi, Int.toNat_natCast, if_neg (fun e => e hc), if_pos hl]
theorem step_ok {k : Nat} (h : itemOk t.data.toList = true) (hi : idxOfS sizes (itemS t.data.toList) = k) (hn : ¬ (itemN t.data.toList = 0 ∨ 1000 < itemN t.data.toList)) (hc : st.1.getD k 0 = 0) (hl : ¬ (k : Int) < st.2) : step sizes st t = .ok (st.1.set k (itemN t.data.toList), (k : Int)) := by
  rw [step, if_pos h, if_neg (by omega), if_neg hn, hi, Int.toNat_natCast, if_neg (fun e => e hc), if_neg hl]
end
theorem run_err {sizes P : List ByteArray} {S st : St} {k : Nat} {t : ByteArray} {e : Int} (h : run sizes P S = run sizes (P.drop k) st) (ht : P[k]? = some t) (hs : step sizes st t = .error e) : run sizes P S = .error e := by
  rw [h, run_at ht, hs]
theorem run_on {sizes P : List ByteArray} {S st st' : St} {k : Nat} {t : ByteArray} (h : run sizes P S = run sizes (P.drop k) st) (ht : P[k]? = some t) (hs : step sizes st t = .ok st') : run sizes P S = run sizes (P.drop (k + 1)) st' := by
  rw [h, run_at ht, hs]
theorem parse_err {s : ByteArray} {sizes : List ByteArray} {e : Int} (h : ¬ (400 < s.size ∨ 12 < sizes.length)) (hn : s.data.toList ≠ [110, 111, 110, 101]) (hr : run sizes (pieces s) (start sizes) = .error e) : parseE s sizes = e ∧ parseL s sizes = [] := by
  rw [parseE, parseL, if_neg h, if_neg h, if_neg hn, if_neg hn, hr]
  exact ⟨rfl, rfl⟩
theorem parse_ok {s : ByteArray} {sizes : List ByteArray} {st : St} (h : ¬ (400 < s.size ∨ 12 < sizes.length)) (hn : s.data.toList ≠ [110, 111, 110, 101]) (hr : run sizes (pieces s) (start sizes) = .ok st) : parseE s sizes = 0 ∧ parseL s sizes = st.1 := by
  rw [parseE, parseL, if_neg h, if_neg h, if_neg hn, if_neg hn, hr]
  exact ⟨rfl, rfl⟩
theorem parse_none {s : ByteArray} {sizes : List ByteArray} (h : ¬ (400 < s.size ∨ 12 < sizes.length)) (hn : s.data.toList = [110, 111, 110, 101]) : parseE s sizes = 0 ∧ parseL s sizes = List.replicate sizes.length 0 := by
  rw [parseE, parseL, if_neg h, if_neg h, if_pos hn, if_pos hn]
  exact ⟨rfl, rfl⟩
theorem parse_long {s : ByteArray} {sizes : List ByteArray} (h : 400 < s.size ∨ 12 < sizes.length) : parseE s sizes = 5 ∧ parseL s sizes = [] := by
  rw [parseE, parseL, if_pos h, if_pos h]
  exact ⟨rfl, rfl⟩
theorem pieces_len (s : ByteArray) : (pieces s).length = countB s ⟨#[44, 32]⟩ + 1 := splitB_all _ (by decide) 0 _ s rfl
theorem pieces_count (s : ByteArray) : countB s ⟨#[44, 32]⟩ ≤ s.size := countB_le _ (by decide) s.size s (Nat.le_refl _)
theorem splitB_piece (sep : ByteArray) : ∀ (k : Nat) (s t : ByteArray), t ∈ splitB sep 0 k s → t.size ≤ s.size
  | 0, s, t, h => by
    rw [splitB_zero, List.mem_singleton] at h
    rw [h]
    exact Nat.le_refl _
  | k + 1, s, t, h => by
    unfold splitB at h
    split at h
    · rw [List.mem_singleton] at h
      rw [h]
      exact Nat.le_refl _
    · rcases List.mem_cons.1 h with h | h
      · rw [h, ByteArray.size_extract]
        omega
      · have := splitB_piece sep k _ t h
        rw [ByteArray.size_extract] at this
        omega
theorem piece_size {s t : ByteArray} {k : Nat} (h : (pieces s)[k]? = some t) : t.size ≤ s.size := splitB_piece _ _ s t (List.mem_of_getElem? h)
theorem within_set {cs : List Int} {k : Nat} {n : Int} (h : within cs = true) (hn : ¬ (n = 0 ∨ 1000 < n)) (h0 : 0 ≤ n) : within (cs.set k n) = true := by
  simp only [within, List.all_eq_true] at h ⊢
  intro x hx
  rcases List.mem_or_eq_of_mem_set hx with h1 | h1
  · exact h x h1
  · rw [h1]
    exact isC_true.2 (by omega)
theorem within_zero (n : Nat) : within (List.replicate n 0) = true := by
  simp only [within, List.all_eq_true]
  intro x hx
  rw [(List.mem_replicate.1 hx).2]
  rfl
theorem step_len {sizes : List ByteArray} {st st' : St} {t : ByteArray} (h : step sizes st t = .ok st') : st'.1.length = st.1.length := by
  unfold step at h
  split at h
  · split at h
    · cases h
    · split at h
      · cases h
      · split at h
        · cases h
        · split at h
          · cases h
          · injection h with h
            rw [← h]
            simp
  · cases h
theorem run_len {sizes : List ByteArray} : ∀ {ts : List ByteArray} {st st' : St}, run sizes ts st = .ok st' → st'.1.length = st.1.length
  | [], st, st', h => by
    rw [run] at h
    injection h with h
    rw [h]
  | t :: ts, st, st', h => by
    rw [run] at h
    cases hs : step sizes st t with
    | error e => rw [hs] at h; cases h
    | ok st1 =>
      rw [hs] at h
      rw [run_len h, step_len hs]
theorem parseL_len (s : ByteArray) (zs : List ByteArray) {m : Nat} (h : zs.length ≤ m) : (parseL s zs).length ≤ m := by
  unfold parseL
  split
  · exact Nat.zero_le _
  · split
    · simpa using h
    · split
      · rename_i st hr
        rw [run_len hr]
        simpa [start] using h
      · exact Nat.zero_le _
end Go.Proofs.YtkcbgbpgiihdeaaDoor
