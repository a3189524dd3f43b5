/-
  Plain laws of chapter 35: the text of counts describes these counts, and the counts that a text describes have this text. No program in sight.
-/
import Derived.Test.YtkcbgbpgiihdeaaGreatDoorPrintP
import Derived.Test.YtkcbgbpgiihdeaaGreatDoorParseP
namespace Go.Proofs.YtkcbgbpgiihdeaaGreatDoor
open Go.Lib

/-! ### decimal numbers -/
theorem dd_small {u : Nat} (h : u < 10) : decDigits u = [UInt8.ofNat (48 + u)] := decDigits_one h
theorem dd_big {u : Nat} (h : ¬ u < 10) : decDigits u = decDigits (u / 10) ++ [UInt8.ofNat (48 + u % 10)] := by rw [decDigits, dif_neg h]
theorem dig_toNat {d : Nat} (h : d < 10) : (UInt8.ofNat (48 + d)).toNat = 48 + d := by
  rw [UInt8.toNat_ofNat']
  exact Nat.mod_eq_of_lt (by omega)
theorem dig_isDig {d : Nat} (h : d < 10) : isDig (UInt8.ofNat (48 + d)) = true := isDig_true.2 (by rw [dig_toNat h]; omega)
theorem num_snoc (l : List UInt8) (b : UInt8) : num (l ++ [b]) = 10 * num l + ((b.toNat : Int) - 48) := by simp [num, List.foldl_append]
theorem dd_ne (u : Nat) : decDigits u ≠ [] := fun e => by
  have h := decDigits_length u
  have h2 := nDigits_pos u
  rw [e] at h
  simp at h
  omega
theorem dd_all : ∀ u : Nat, (decDigits u).all isDig = true := by
  intro u
  induction u using Nat.strongRecOn with
  | _ u ih =>
    by_cases h : u < 10
    · rw [dd_small h]
      simp only [List.all_cons, List.all_nil, Bool.and_true]
      exact dig_isDig h
    · rw [dd_big h, List.all_append, ih (u / 10) (by omega)]
      simp only [List.all_cons, List.all_nil, Bool.and_true, Bool.true_and]
      exact dig_isDig (Nat.mod_lt u (by omega : 0 < 10))
theorem dd_num : ∀ u : Nat, num (decDigits u) = u := by
  intro u
  induction u using Nat.strongRecOn with
  | _ u ih =>
    by_cases h : u < 10
    · rw [dd_small h]
      have := dig_toNat h
      simp only [num, List.foldl_cons, List.foldl_nil, this]
      omega
    · rw [dd_big h, num_snoc, ih (u / 10) (by omega), dig_toNat (Nat.mod_lt u (by omega : 0 < 10))]
      omega
theorem dd_head : ∀ u : Nat, u ≠ 0 → (decDigits u)[0]? ≠ some 48 := by
  intro u
  induction u using Nat.strongRecOn with
  | _ u ih =>
    intro hu
    by_cases h : u < 10
    · rw [dd_small h]
      intro e
      simp only [List.getElem?_cons_zero, Option.some.injEq] at e
      have := congrArg UInt8.toNat e
      rw [dig_toNat h] at this
      simp at this
      omega
    · rw [dd_big h, List.getElem?_append_left (List.length_pos_iff.2 (dd_ne _))]
      exact ih (u / 10) (by omega) (by omega)
theorem itoa_pos {n : Int} (h : 0 ≤ n) : itoa n = decDigits n.toNat := by rw [itoa, if_neg (by omega)]
theorem numOk_itoa {n : Int} (h0 : 1 ≤ n) (h1 : n ≤ 1000) : numOk (itoa n) = true ∧ num (itoa n) = n := by
  have hl := itoa_len (by omega : 0 ≤ n) h1
  rw [itoa_pos (by omega)] at hl ⊢
  have hp : 1 ≤ (decDigits n.toNat).length := by rw [decDigits_length]; exact nDigits_pos _
  refine ⟨?_, by rw [dd_num]; omega⟩
  simp only [numOk, dd_all, Bool.and_eq_true, decide_eq_true_eq, Bool.or_eq_true, bne_iff_ne, and_true]
  exact ⟨⟨hp, by omega⟩, .inr (dd_head _ (by omega))⟩
theorem num_nonneg {l : List UInt8} (h : l.all isDig = true) : 0 ≤ num l := by
  have ht : l.take l.length = l := List.take_of_length_le (Nat.le_refl _)
  have := (num_bound l.length l (by rw [ht]; exact h) (Nat.le_refl _)).1
  rwa [ht] at this
theorem snoc_cases (l : List UInt8) : l = [] ∨ ∃ d b, l = d ++ [b] := by
  rcases List.eq_nil_or_concat l with h | ⟨d, b, h⟩
  · exact .inl h
  · exact .inr ⟨d, b, by simpa using h⟩
theorem num_inv : ∀ (k : Nat) (l : List UInt8), l.length = k → l ≠ [] → l.all isDig = true → (l.length ≤ 1 ∨ l[0]? ≠ some 48) → decDigits (num l).toNat = l ∧ (l[0]? ≠ some 48 → 1 ≤ num l) := by
  intro k
  induction k with
  | zero =>
    intro l hl hne
    exact absurd (List.eq_nil_of_length_eq_zero hl) hne
  | succ k ih =>
    intro l hl hne hd h0
    rcases snoc_cases l with rfl | ⟨d, b, rfl⟩
    · exact absurd rfl hne
    · simp only [List.all_append, List.all_cons, List.all_nil, Bool.and_true, Bool.and_eq_true] at hd
      have hb := isDig_true.1 hd.2
      have hof : UInt8.ofNat (48 + (b.toNat - 48)) = b := by
        rw [show 48 + (b.toNat - 48) = b.toNat by omega]
        exact UInt8.ofNat_toNat
      by_cases hdn : d = []
      · subst hdn
        have e : num ([] ++ [b]) = (b.toNat : Int) - 48 := by simp [num]
        rw [e]
        refine ⟨?_, fun hh => ?_⟩
        · rw [show ((b.toNat : Int) - 48).toNat = b.toNat - 48 by omega, dd_small (by omega), hof]
          rfl
        · have : b ≠ 48 := fun e2 => hh (by simp [e2])
          have : b.toNat ≠ 48 := fun e2 => this (UInt8.toNat_inj.1 (by rw [e2]; rfl))
          omega
      · have hhead : (d ++ [b])[0]? = d[0]? := List.getElem?_append_left (List.length_pos_iff.2 hdn)
        have hdl : 1 ≤ d.length := List.length_pos_iff.2 hdn
        have h0' : d[0]? ≠ some 48 := by
          rcases h0 with h | h
          · rw [List.length_append] at h
            simp only [List.length_cons, List.length_nil] at h
            omega
          · rwa [hhead] at h
        obtain ⟨i1, i2⟩ := ih d (by simp at hl; omega) hdn hd.1 (.inr h0')
        have hpos := i2 h0'
        rw [num_snoc]
        refine ⟨?_, fun _ => by omega⟩
        have e1 : (10 * num d + ((b.toNat : Int) - 48)).toNat = 10 * (num d).toNat + (b.toNat - 48) := by omega
        have e2 : (10 * (num d).toNat + (b.toNat - 48)) / 10 = (num d).toNat := by omega
        have e3 : (10 * (num d).toNat + (b.toNat - 48)) % 10 = b.toNat - 48 := by omega
        rw [e1, dd_big (by omega), e2, e3, i1, hof]
theorem itoa_num {l : List UInt8} (h : numOk l = true) : itoa (num l) = l := by
  simp only [numOk, Bool.and_eq_true, decide_eq_true_eq, Bool.or_eq_true, bne_iff_ne] at h
  obtain ⟨⟨h1, _⟩, h3, h4⟩ := h
  have hn : l ≠ [] := List.length_pos_iff.1 h1
  rw [itoa_pos (num_nonneg h4)]
  exact (num_inv l.length l rfl hn h4 h3).1

/-! ### items -/
theorem sz_no {l : List UInt8} (h : l.all isSz = true) {c : UInt8} (hc : isSz c = false) (j : Nat) : l[j]? ≠ some c := fun e => by
  rw [List.all_eq_true] at h
  have := h c (List.mem_of_getElem? e)
  rw [hc] at this
  cases this
theorem cut_itemL {z : ByteArray} {n : Int} (hz : szOk z.data.toList = true) : cut (itemL z n) [32] = (z.data.toList, itoa n, true) := by
  simp only [szOk, Bool.and_eq_true] at hz
  have h1 : (itemL z n)[z.data.toList.length]? = some 32 := by simp [itemL]
  have h2 : ∀ j, j < z.data.toList.length → (itemL z n)[j]? ≠ some 32 := fun j hj => by
    rw [itemL, List.getElem?_append_left hj]
    exact sz_no hz.2 (by decide) j
  have e1 : (itemL z n).take z.data.toList.length = z.data.toList := by rw [itemL, List.take_left' rfl]
  have e2 : (itemL z n).drop (z.data.toList.length + 1) = itoa n := by rw [itemL, ← List.append_assoc, List.drop_left' (by simp)]
  rw [cut_hit h1 h2, e1, e2]
theorem item_itemL {z : ByteArray} {n : Int} (hz : szOk z.data.toList = true) (h0 : 1 ≤ n) (h1 : n ≤ 1000) : itemOk (itemL z n) = true ∧ itemS (itemL z n) = z ∧ itemN (itemL z n) = n := by
  obtain ⟨i1, i2⟩ := numOk_itoa h0 h1
  rw [itemOk, itemS, itemN, cut_itemL hz]
  refine ⟨?_, mk_data z, i2⟩
  simp only [szOk, Bool.and_eq_true, decide_eq_true_eq] at hz
  simp [i1]
  have := hz.1.1
  simpa using this
theorem itemL_item {l : List UInt8} (h : itemOk l = true) : itemL (itemS l) (itemN l) = l := by
  simp only [itemOk, Bool.and_eq_true] at h
  rw [itemL, itemS, itemN, itoa_num h.2.2]
  have h1 := h.1
  rcases index_spec l [32] with ⟨hi, _⟩ | ⟨i, hi, hil, ho, _⟩
  · rw [cut, if_neg (by omega)] at h1
    cases h1
  · have hx := (occ_one l 32 i).1 ho
    have hlt := (List.getElem?_eq_some_iff.1 hx).1
    have hval := (List.getElem?_eq_some_iff.1 hx).2
    rw [cut, if_pos (by omega), hi]
    simp only [Int.toNat_natCast, List.length_cons, List.length_nil]
    rw [← hval, List.singleton_append]
    have e : l[i] :: l.drop (i + (0 + 1)) = l.drop i := (List.drop_eq_getElem_cons hlt).symm
    rw [e]
    exact List.take_append_drop i l
theorem itemL_comma {z : ByteArray} {n : Int} (hz : szOk z.data.toList = true) (hn : 0 ≤ n) (j : Nat) : (itemL z n)[j]? ≠ some 44 := fun e => by
  simp only [szOk, Bool.and_eq_true] at hz
  have hm := List.mem_of_getElem? e
  simp only [itemL, List.mem_append, List.mem_singleton] at hm
  rcases hm with h | h | h
  · have := (List.all_eq_true.1 hz.2) _ h
    revert this
    decide
  · cases h
  · rw [itoa_pos hn] at h
    have := (List.all_eq_true.1 (dd_all _)) _ h
    revert this
    decide

/-! ### texts joined and divided -/
theorem split_join : ∀ (xs : List (List UInt8)), xs ≠ [] → (∀ x ∈ xs, ∀ j : Nat, x[j]? ≠ some 44) → split (join xs [44, 32]) [44, 32] = xs
  | [], h, _ => absurd rfl h
  | [x], _, h => by
    rw [join_one]
    refine split_miss (index_none fun j _ => ?_)
    cases ho : occAt x [44, 32] j
    · rfl
    · exact absurd ((occ_two x j).1 ho).1 (h x (by simp) j)
  | x :: y :: r, _, h => by
    have e : join (x :: y :: r) [44, 32] = x ++ ([44, 32] ++ join (y :: r) [44, 32]) := by
      rw [join_cons, join_cons]
      simp [joinTail]
    have ih := split_join (y :: r) (by simp) (fun z hz => h z (by simp [hz]))
    rw [e]
    have hx : index (x ++ ([44, 32] ++ join (y :: r) [44, 32])) [44, 32] = (x.length : Int) := by
      refine index_first (by simp) ?_ fun j hj => ?_
      · rw [occ_two]
        simp
      · cases ho : occAt (x ++ ([44, 32] ++ join (y :: r) [44, 32])) [44, 32] j
        · rfl
        · have h2 := ((occ_two _ j).1 ho).1
          rw [List.getElem?_append_left hj] at h2
          exact absurd h2 (h x (by simp) j)
    rw [split_hit (by simp) hx]
    have e2 : (x ++ ([44, 32] ++ join (y :: r) [44, 32])).drop (x.length + ([44, 32] : List UInt8).length) = join (y :: r) [44, 32] := by
      rw [← List.append_assoc, List.drop_left' (by simp)]
    rw [e2, ih]
    simp
theorem split_ne (s sep : List UInt8) : split s sep ≠ [] := by
  unfold split
  cases h : count s sep with
  | zero => simp [splitK]
  | succ k =>
    rw [splitK]
    split <;> simp
theorem join_split : ∀ (k : Nat) (s : List UInt8), s.length ≤ k → join (split s [44, 32]) [44, 32] = s := by
  intro k
  induction k with
  | zero =>
    intro s hs
    have : s = [] := List.eq_nil_of_length_eq_zero (by omega)
    subst this
    rw [split_miss (by decide), join_one]
  | succ k ih =>
    intro s hs
    rcases index_spec s [44, 32] with ⟨hi, _⟩ | ⟨i, hi, _, ho, _⟩
    · rw [split_miss hi, join_one]
    · have ho2 := (occ_two s i).1 ho
      have hlt1 := (List.getElem?_eq_some_iff.1 ho2.2).1
      have hv0 := (List.getElem?_eq_some_iff.1 ho2.1).2
      have hv1 := (List.getElem?_eq_some_iff.1 ho2.2).2
      have ih2 := ih (s.drop (i + 2)) (by rw [List.length_drop]; omega)
      rw [split_hit (by simp) hi]
      have e2 : s.drop (i + ([44, 32] : List UInt8).length) = s.drop (i + 2) := rfl
      rw [e2, join_cons]
      have hj : joinTail [44, 32] (split (s.drop (i + 2)) [44, 32]) = [44, 32] ++ s.drop (i + 2) := by
        cases hsp : split (s.drop (i + 2)) [44, 32] with
        | nil => exact absurd hsp (split_ne _ _)
        | cons y r =>
          rw [hsp, join_cons] at ih2
          rw [← ih2]
          simp [joinTail]
      rw [hj]
      have e3 : s.drop i = 44 :: 32 :: s.drop (i + 2) := by
        rw [List.drop_eq_getElem_cons (by omega : i < s.length), List.drop_eq_getElem_cons hlt1, hv0, hv1]
      have e4 : [44, 32] ++ s.drop (i + 2) = s.drop i := by rw [e3]; rfl
      rw [e4]
      exact List.take_append_drop i s
end Go.Proofs.YtkcbgbpgiihdeaaGreatDoor
