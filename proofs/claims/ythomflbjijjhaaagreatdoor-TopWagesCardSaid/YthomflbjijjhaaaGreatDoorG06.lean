/-
  Several texts in one: Plain facts on numbers in decimal: digits to a number and back, groups of digits. No program in sight.
-/
import Derived.Lib.ItoaNum

/- Plain facts on numbers in decimal: digits to a number and back, groups of digits. No program in sight. -/
namespace Go.Proofs.YthomflbjijjhaaaGreatDoor
open Go.Lib

def isDig (b : UInt8) : Bool := decide (48 ≤ b.toNat) && decide (b.toNat ≤ 57)
theorem isDig_true {b : UInt8} : isDig b = true ↔ 48 ≤ b.toNat ∧ b.toNat ≤ 57 := by simp [isDig]
theorem isDig_false {b : UInt8} : isDig b = false ↔ b.toNat < 48 ∨ 57 < b.toNat := by simp [isDig]; omega
/-- The number with these digits. -/
def valD (l : List UInt8) : Nat := l.foldl (fun n b => n * 10 + (b.toNat - 48)) 0
theorem valD_snoc (l : List UInt8) (b : UInt8) : valD (l ++ [b]) = valD l * 10 + (b.toNat - 48) := by simp [valD, List.foldl_append]
theorem valD_succ {l : List UInt8} {k : Nat} {b : UInt8} (h : l[k]? = some b) : valD (l.take (k + 1)) = valD (l.take k) * 10 + (b.toNat - 48) := by
  rw [List.take_add_one, h]
  exact valD_snoc _ _
/-- Digits without a leading zero. -/
def digOk (l : List UInt8) : Bool := decide (1 ≤ l.length) && ((decide (l.length ≤ 1) || l[0]? != some 48) && l.all isDig)
theorem digOk_iff {l : List UInt8} : digOk l = true ↔ 1 ≤ l.length ∧ (l.length ≤ 1 ∨ l[0]? ≠ some 48) ∧ l.all isDig = true := by
  simp only [digOk, Bool.and_eq_true, decide_eq_true_eq, Bool.or_eq_true, bne_iff_ne]
/-- The error of a number's text. -/
def natE (l : List UInt8) : Int := if 200 < l.length then 5 else if digOk l = true then 0 else 2
theorem natE_long {l : List UInt8} (h : 200 < l.length) : natE l = 5 := by rw [natE, if_pos h]
theorem natE_no {l : List UInt8} (h : ¬ 200 < l.length) (h2 : digOk l = false) : natE l = 2 := by rw [natE, if_neg h, if_neg (by simp [h2])]
theorem natE_ok {l : List UInt8} (h : ¬ 200 < l.length) (h2 : digOk l = true) : natE l = 0 := by rw [natE, if_neg h, if_pos h2]
theorem digOk_empty {l : List UInt8} (h : l.length = 0) : digOk l = false := by simp [digOk, h]
theorem digOk_zero {l : List UInt8} (h : 1 < l.length) (h0 : l[0]? = some 48) : digOk l = false := by simp [digOk, h0]; omega
theorem digOk_bad {l : List UInt8} {k : Nat} {b : UInt8} (hb : l[k]? = some b) (hd : isDig b = false) : digOk l = false := by
  cases ha : digOk l
  · rfl
  · have := (digOk_iff.1 ha).2.2
    rw [List.all_eq_true] at this
    have := this b (List.mem_of_getElem? hb)
    rw [hd] at this
    cases this
theorem digs_succ {l : List UInt8} {k : Nat} {b : UInt8} (h : (l.take k).all isDig = true) (hb : l[k]? = some b) (hd : isDig b = true) : (l.take (k + 1)).all isDig = true := by
  rw [List.take_add_one, hb, List.all_append, h]
  simp [hd]

theorem dec_small {u : Nat} (h : u < 10) : decDigits u = [UInt8.ofNat (48 + u)] := decDigits_one h
theorem dec_big {u : Nat} (h : ¬ u < 10) : decDigits u = decDigits (u / 10) ++ [UInt8.ofNat (48 + u % 10)] := by rw [decDigits, dif_neg h]
theorem digit_nat {d : Nat} (h : d < 10) : (UInt8.ofNat (48 + d)).toNat = 48 + d := by simp [UInt8.toNat_ofNat']; omega
theorem digit_is {d : Nat} (h : d < 10) : isDig (UInt8.ofNat (48 + d)) = true := by rw [isDig_true, digit_nat h]; omega
theorem digit_of {b : UInt8} (h : isDig b = true) : UInt8.ofNat (48 + (b.toNat - 48)) = b := by
  have := isDig_true.1 h
  apply UInt8.toNat_inj.1
  rw [digit_nat (by omega)]
  omega
theorem valD_dec (n : Nat) : valD (decDigits n) = n := by
  induction n using Nat.strongRecOn with
  | _ n ih =>
    by_cases h : n < 10
    · rw [dec_small h]
      show valD ([] ++ [_]) = n
      rw [valD_snoc, digit_nat h]
      simp [valD]
    · rw [dec_big h, valD_snoc, ih _ (by omega), digit_nat (by omega)]
      omega
theorem dec_len_pos (n : Nat) : 1 ≤ (decDigits n).length := by rw [decDigits_length]; exact nDigits_pos n
theorem dec_all (n : Nat) : (decDigits n).all isDig = true := by
  induction n using Nat.strongRecOn with
  | _ n ih =>
    by_cases h : n < 10
    · rw [dec_small h]
      rw [List.all_cons, digit_is h]
      rfl
    · rw [dec_big h, List.all_append, ih _ (by omega)]
      rw [List.all_cons, digit_is (by omega : n % 10 < 10)]
      rfl
theorem dec_head (n : Nat) (h0 : n ≠ 0) : (decDigits n)[0]? ≠ some 48 := by
  induction n using Nat.strongRecOn with
  | _ n ih =>
    by_cases h : n < 10
    · rw [dec_small h]
      intro e
      have e1 : UInt8.ofNat (48 + n) = 48 := by simpa using e
      have e2 := congrArg UInt8.toNat e1
      rw [digit_nat h] at e2
      have : (48 : UInt8).toNat = 48 := rfl
      omega
    · rw [dec_big h, List.getElem?_append_left (by have := dec_len_pos (n / 10); omega)]
      exact ih _ (by omega) (by omega)
theorem dec_ok (n : Nat) : digOk (decDigits n) = true := by
  refine digOk_iff.2 ⟨dec_len_pos n, ?_, dec_all n⟩
  by_cases h : n = 0
  · subst h
    left
    rw [dec_small (by omega)]
    simp
  · exact .inr (dec_head n h)
theorem dec_valD_aux : ∀ (k : Nat) (l : List UInt8), l.length = k + 1 → l.all isDig = true → l[0]? ≠ some 48 → decDigits (valD l) = l ∧ 1 ≤ valD l
  | 0, l, hl, ha, h0 => by
    obtain ⟨b, rfl⟩ : ∃ b, l = [b] := List.length_eq_one_iff.1 hl
    have hb : isDig b = true := by simpa using ha
    have h1 := isDig_true.1 hb
    have hv : valD [b] = b.toNat - 48 := by simp [valD]
    have hne : b.toNat ≠ 48 := fun e => h0 (by simp; exact UInt8.toNat_inj.1 e)
    refine ⟨?_, by rw [hv]; omega⟩
    rw [hv, dec_small (by omega), digit_of hb]
  | k + 1, l, hl, ha, h0 => by
    have e : l = l.take (k + 1) ++ [l[k + 1]'(by omega)] := by
      rw [← List.take_succ_eq_append_getElem (by omega), List.take_of_length_le (by omega)]
    generalize l[k + 1]'(by omega) = b at e
    have hl' : (l.take (k + 1)).length = k + 1 := by rw [List.length_take]; omega
    generalize l.take (k + 1) = t at e hl'
    subst e
    rw [List.all_append, Bool.and_eq_true] at ha
    have hb : isDig b = true := by simpa using ha.2
    have h1 := isDig_true.1 hb
    rw [List.getElem?_append_left (by omega)] at h0
    obtain ⟨i1, i2⟩ := dec_valD_aux k t hl' ha.1 h0
    rw [valD_snoc]
    refine ⟨?_, by omega⟩
    rw [dec_big (by omega), show (valD t * 10 + (b.toNat - 48)) / 10 = valD t by omega, show (valD t * 10 + (b.toNat - 48)) % 10 = b.toNat - 48 by omega, i1, digit_of hb]
theorem dec_valD {l : List UInt8} (h : digOk l = true) : decDigits (valD l) = l := by
  obtain ⟨h1, h2, h3⟩ := digOk_iff.1 h
  rcases h2 with h2 | h2
  · obtain ⟨b, rfl⟩ : ∃ b, l = [b] := List.length_eq_one_iff.1 (by omega)
    have hb : isDig b = true := by simpa using h3
    have h4 := isDig_true.1 hb
    have hv : valD [b] = b.toNat - 48 := by simp [valD]
    rw [hv, dec_small (by omega), digit_of hb]
  · exact (dec_valD_aux (l.length - 1) l (by omega) h3 h2).1
theorem valD_lt (l : List UInt8) (h : l.all isDig = true) : valD l < 10 ^ l.length := by
  suffices ∀ k, ∀ l : List UInt8, l.length = k → l.all isDig = true → valD l < 10 ^ k from this l.length l rfl h
  intro k
  induction k with
  | zero =>
    intro l hl _
    obtain rfl := List.eq_nil_of_length_eq_zero hl
    simp [valD]
  | succ k ih =>
    intro l hl ha
    have e : l = l.take k ++ [l[k]'(by omega)] := by
      rw [← List.take_succ_eq_append_getElem (by omega), List.take_of_length_le (by omega)]
    generalize l[k]'(by omega) = b at e
    have hl' : (l.take k).length = k := by rw [List.length_take]; omega
    generalize l.take k = t at e hl'
    subst e
    rw [List.all_append, Bool.and_eq_true] at ha
    have hb : isDig b = true := by simpa using ha.2
    have h1 := isDig_true.1 hb
    have := ih t hl' ha.1
    rw [valD_snoc, Nat.pow_succ]
    omega

/-! ### groups of digits -/
/-- The digits of r, filled up with zeros to k digits. -/
def padD (k r : Nat) : List UInt8 := List.replicate (k - nDigits r) 48 ++ decDigits r
theorem nDigits_le {r k : Nat} (hk : 1 ≤ k) (h : r < 10 ^ k) : nDigits r ≤ k := by
  induction k generalizing r with
  | zero => omega
  | succ k ih =>
    by_cases h10 : r < 10
    · rw [nDigits_small h10]
      omega
    · rw [nDigits_big h10]
      have hk1 : 1 ≤ k := by
        rcases Nat.eq_zero_or_pos k with h0 | h0
        · subst h0
          simp at h
          omega
        · exact h0
      have := ih (r := r / 10) hk1 (by rw [Nat.pow_succ] at h; omega)
      omega
theorem dec_group (a : Nat) (ha : 1 ≤ a) : ∀ (k r : Nat), 1 ≤ k → r < 10 ^ k → decDigits (a * 10 ^ k + r) = decDigits a ++ padD k r
  | 0, r, hk, _ => by omega
  | 1, r, _, h => by
    have hr : r < 10 := by simpa using h
    rw [dec_big (by omega), padD, nDigits_small hr, dec_small hr, show (a * 10 ^ 1 + r) / 10 = a by omega, show (a * 10 ^ 1 + r) % 10 = r by omega]
    simp
  | k + 2, r, _, h => by
    have hp : 10 ^ (k + 2) = 10 ^ (k + 1) * 10 := Nat.pow_succ ..
    have hpos : 0 < 10 ^ (k + 1) := Nat.pow_pos (by omega)
    have e1 : (a * 10 ^ (k + 2) + r) / 10 = a * 10 ^ (k + 1) + r / 10 := by
      rw [hp, ← Nat.mul_assoc]
      omega
    have e2 : (a * 10 ^ (k + 2) + r) % 10 = r % 10 := by
      rw [hp, ← Nat.mul_assoc]
      omega
    have hge : ¬ a * 10 ^ (k + 2) + r < 10 := by
      have : 1 * 10 ^ (k + 2) ≤ a * 10 ^ (k + 2) := Nat.mul_le_mul_right _ ha
      omega
    rw [dec_big hge, e1, e2, dec_group a ha (k + 1) (r / 10) (by omega) (by omega), List.append_assoc]
    congr 1
    unfold padD
    by_cases h10 : r < 10
    · rw [nDigits_small h10, nDigits_small (by omega : r / 10 < 10), dec_small h10, dec_small (by omega : r / 10 < 10), show r / 10 = 0 by omega, show r % 10 = r by omega]
      rw [show k + 2 - 1 = k + 1 from rfl, show k + 1 - 1 = k from rfl, List.replicate_succ']
      rfl
    · rw [nDigits_big h10, dec_big h10, show k + 2 - (nDigits (r / 10) + 1) = k + 1 - nDigits (r / 10) by omega, List.append_assoc]
end Go.Proofs.YthomflbjijjhaaaGreatDoor
