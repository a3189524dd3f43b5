/-
  Plain functions: the error of Print and the text of counts. No program in sight.
-/
import Derived.Test.YtkcbgbpgiihdeaaDoorSize
import Derived.Lib.Join
import Derived.Lib.ItoaNum
namespace Go.Proofs.YtkcbgbpgiihdeaaDoor
open Go.Lib

def okAt (zs : List ByteArray) (i : Nat) : Bool := !containsS (zs.take i) (zs.getD i ByteArray.empty)
/-- No string is equal to one ahead of it. -/
def noDup (zs : List ByteArray) : Bool := (List.range zs.length).all (okAt zs)
def sized (zs : List ByteArray) : Bool := zs.all fun z => szOk z.data.toList
def printE (cs : List Int) (zs : List ByteArray) : Int :=
  if cs.length = zs.length then
    if sized zs then
      if 12 < zs.length then 5
      else if within cs then
        if noDup zs then 0 else 7
      else 3
    else 1
  else 1
/-- The text of a size and its count. -/
def itemL (z : ByteArray) (n : Int) : List UInt8 := z.data.toList ++ ([32] ++ itoa n)
def texts : List Int → List ByteArray → List (List UInt8)
  | [], _ => []
  | _ :: _, [] => []
  | n :: cs, z :: zs => if n = 0 then texts cs zs else itemL z n :: texts cs zs
def noneL : List UInt8 := [110, 111, 110, 101]
def printT (cs : List Int) (zs : List ByteArray) : List UInt8 := if texts cs zs = [] then noneL else join (texts cs zs) [44, 32]
/-- What Print returns. -/
def printS (cs : List Int) (zs : List ByteArray) : ByteArray := if printE cs zs = 0 then ⟨(printT cs zs).toArray⟩ else ⟨#[]⟩

theorem sized_succ {zs : List ByteArray} {k : Nat} {z : ByteArray} (h : sized (zs.take k) = true) (hz : zs[k]? = some z) (hs : szOk z.data.toList = true) : sized (zs.take (k + 1)) = true := by
  simp only [sized] at h ⊢
  rw [List.take_add_one, hz, List.all_append, h]
  simp [hs]
theorem sized_not {zs : List ByteArray} {k : Nat} {z : ByteArray} (hz : zs[k]? = some z) (hs : szOk z.data.toList = false) : sized zs = false := by
  cases hw : sized zs
  · rfl
  · simp only [sized, List.all_eq_true] at hw
    have := hw z (List.mem_of_getElem? hz)
    rw [hs] at this
    cases this
theorem okAt_of {zs : List ByteArray} {k : Nat} {z : ByteArray} (hz : zs[k]? = some z) : okAt zs k = !containsS (zs.take k) z := by
  simp [okAt, hz]
theorem noDup_not {zs : List ByteArray} {k : Nat} {z : ByteArray} (hz : zs[k]? = some z) (h : z ∈ zs.take k) : noDup zs = false := by
  cases hw : noDup zs
  · rfl
  · simp only [noDup, List.all_eq_true, List.mem_range] at hw
    have h1 := hw k (List.getElem?_eq_some_iff.1 hz).1
    rw [okAt_of hz, (containsS_iff _ _).2 h] at h1
    cases h1
theorem noDup_all {zs : List ByteArray} {n : Nat} (hn : zs.length = n) (h : ∀ j, j < n → okAt zs j = true) : noDup zs = true := by
  simp only [noDup, List.all_eq_true, List.mem_range]
  intro j hj
  exact h j (by omega)
section
variable {cs : List Int} {zs : List ByteArray}
theorem printE_len (h : cs.length ≠ zs.length) : printE cs zs = 1 := by simp [printE, h]
theorem printE_size (h : sized zs = false) : printE cs zs = 1 := by simp [printE, h]
theorem printE_long (h : cs.length = zs.length) (hs : sized zs = true) (hl : 12 < zs.length) : printE cs zs = 5 := by simp [printE, h, hs, hl]
theorem printE_range (h : cs.length = zs.length) (hs : sized zs = true) (hl : ¬ 12 < zs.length) (hw : within cs = false) : printE cs zs = 3 := by simp [printE, h, hs, hl, hw]
theorem printE_dup (h : cs.length = zs.length) (hs : sized zs = true) (hl : ¬ 12 < zs.length) (hw : within cs = true) (hd : noDup zs = false) : printE cs zs = 7 := by simp [printE, h, hs, hl, hw, hd]
theorem printE_ok (h : cs.length = zs.length) (hs : sized zs = true) (hl : ¬ 12 < zs.length) (hw : within cs = true) (hd : noDup zs = true) : printE cs zs = 0 := by simp [printE, h, hs, hl, hw, hd]
theorem printE_parts (h : printE cs zs = 0) : cs.length = zs.length ∧ sized zs = true ∧ ¬ 12 < zs.length ∧ within cs = true ∧ noDup zs = true := by
  by_cases h1 : cs.length = zs.length
  · cases h2 : sized zs
    · rw [printE_size h2] at h; cases h
    · by_cases h3 : 12 < zs.length
      · rw [printE_long h1 h2 h3] at h; cases h
      · cases h4 : within cs
        · rw [printE_range h1 h2 h3 h4] at h; cases h
        · cases h5 : noDup zs
          · rw [printE_dup h1 h2 h3 h4 h5] at h; cases h
          · exact ⟨h1, rfl, h3, rfl, rfl⟩
  · rw [printE_len h1] at h; cases h
end
theorem texts_succ : ∀ {cs : List Int} {zs : List ByteArray} {k : Nat} {n : Int} {z : ByteArray}, cs[k]? = some n → zs[k]? = some z →
    texts (cs.take (k + 1)) (zs.take (k + 1)) = texts (cs.take k) (zs.take k) ++ (if n = 0 then [] else [itemL z n])
  | [], _, _, _, _, h, _ => by simp at h
  | _ :: _, [], _, _, _, _, h => by simp at h
  | c :: cs, y :: zs, 0, n, z, h1, h2 => by
    have e1 : c = n := by simpa using h1
    have e2 : y = z := by simpa using h2
    subst e1 e2
    simp [texts]
  | c :: cs, y :: zs, k + 1, n, z, h1, h2 => by
    have ih := texts_succ (cs := cs) (zs := zs) (k := k) (n := n) (z := z) (by simpa using h1) (by simpa using h2)
    rw [List.take_succ_cons, List.take_succ_cons, List.take_succ_cons, List.take_succ_cons, texts, texts, ih]
    by_cases hc : c = 0
    · rw [if_pos hc, if_pos hc]
    · rw [if_neg hc, if_neg hc, List.cons_append]
theorem join_snoc (xs : List (List UInt8)) (x sep : List UInt8) (h : xs ≠ []) : join (xs ++ [x]) sep = join xs sep ++ (sep ++ x) := by
  cases xs with
  | nil => exact absurd rfl h
  | cons y r =>
    rw [List.cons_append, join_cons, join_cons]
    simp [joinTail]
theorem itemL_ne (z : ByteArray) (n : Int) : itemL z n ≠ [] := by simp [itemL]
theorem texts_ne : ∀ (cs : List Int) (zs : List ByteArray) (t : List UInt8), t ∈ texts cs zs → t ≠ []
  | [], _, t, h => by simp [texts] at h
  | _ :: _, [], t, h => by simp [texts] at h
  | n :: cs, z :: zs, t, h => by
    rw [texts] at h
    by_cases hn : n = 0
    · rw [if_pos hn] at h
      exact texts_ne cs zs t h
    · rw [if_neg hn] at h
      rcases List.mem_cons.1 h with h | h
      · rw [h]
        exact itemL_ne z n
      · exact texts_ne cs zs t h
theorem join_ne {xs : List (List UInt8)} {sep : List UInt8} (h : xs ≠ []) (hx : ∀ t ∈ xs, t ≠ []) : join xs sep ≠ [] := by
  cases xs with
  | nil => exact absurd rfl h
  | cons y r =>
    rw [join_cons]
    intro e
    exact hx y (by simp) (List.append_eq_nil_iff.1 e).1
theorem itoa_len {n : Int} (h0 : 0 ≤ n) (h1 : n ≤ 1000) : (itoa n).length ≤ 4 := by
  rw [itoa, if_neg (by omega), decDigits_length]
  have h : n.toNat ≤ 1000 := by omega
  generalize n.toNat = u at h
  have hb : ∀ u : Nat, u < 10 → nDigits u = 1 := fun u hu => nDigits_small hu
  by_cases a1 : u < 10
  · rw [hb u a1]; omega
  · rw [nDigits_big a1]
    by_cases a2 : u / 10 < 10
    · rw [hb _ a2]; omega
    · rw [nDigits_big a2]
      by_cases a3 : u / 10 / 10 < 10
      · rw [hb _ a3]; omega
      · rw [nDigits_big a3, hb _ (by omega)]; omega
theorem itemL_len {z : ByteArray} {n : Int} (hz : z.size ≤ 1000000) (h0 : 0 ≤ n) (h1 : n ≤ 1000) : (itemL z n).length ≤ 1000005 := by
  have := itoa_len h0 h1
  simp only [itemL, List.length_append, List.length_cons, List.length_nil, ← size_eq]
  omega
theorem texts_len : ∀ (cs : List Int) (zs : List ByteArray), within cs = true → (∀ z ∈ zs, z.size ≤ 1000000) → ∀ t ∈ texts cs zs, t.length ≤ 1000005
  | [], _, _, _, t, h => by simp [texts] at h
  | _ :: _, [], _, _, t, h => by simp [texts] at h
  | n :: cs, z :: zs, hw, hz, t, h => by
    have hw2 : isC n = true ∧ within cs = true := by simpa [within] using hw
    rw [texts] at h
    have ih := texts_len cs zs hw2.2 (fun y hy => hz y (by simp [hy]))
    by_cases hn : n = 0
    · rw [if_pos hn] at h
      exact ih t h
    · rw [if_neg hn] at h
      rcases List.mem_cons.1 h with h | h
      · rw [h]
        have := isC_true.1 hw2.1
        exact itemL_len (hz z (by simp)) this.1 this.2
      · exact ih t h
theorem join_le {sep : List UInt8} : ∀ (xs : List (List UInt8)) (M : Nat), (∀ t ∈ xs, t.length ≤ M) → (join xs sep).length ≤ xs.length * (M + sep.length)
  | [], M, _ => by simp [join_nil]
  | x :: xs, M, h => by
    have hx := h x (by simp)
    cases xs with
    | nil =>
      rw [join_one]
      simp
      omega
    | cons y r =>
      have ih := join_le (sep := sep) (y :: r) M (fun t ht => h t (by simp [ht]))
      have e : join (x :: y :: r) sep = x ++ (sep ++ join (y :: r) sep) := by
        rw [join_cons, join_cons]
        simp [joinTail]
      rw [e, List.length_append, List.length_append, List.length_cons (a := x), Nat.succ_mul]
      omega
end Go.Proofs.YtkcbgbpgiihdeaaDoor
