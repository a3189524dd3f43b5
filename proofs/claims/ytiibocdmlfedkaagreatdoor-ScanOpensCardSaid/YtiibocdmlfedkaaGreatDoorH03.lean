/- Parts of the proof. -/
import Derived.Lib.ItoaNum
namespace Go.Proofs.YtiibocdmlfedkaaGreatDoor
section
open Go.Lib
def isDig (b : UInt8) : Bool := decide (48 ≤ b.toNat) && decide (b.toNat ≤ 57)
theorem isDig_true {b : UInt8} : isDig b = true ↔ 48 ≤ b.toNat ∧ b.toNat ≤ 57 := by simp [isDig]
theorem isDig_false {b : UInt8} : isDig b = false ↔ b.toNat < 48 ∨ 57 < b.toNat := by simp [isDig]; omega
def valD (l : List UInt8) : Nat := l.foldl (fun n b => n * 10 + (b.toNat - 48)) 0
theorem valD_snoc (l : List UInt8) (b : UInt8) : valD (l ++ [b]) = valD l * 10 + (b.toNat - 48) := by simp [valD, List.foldl_append]
def digOk (l : List UInt8) : Bool := decide (1 ≤ l.length) && ((decide (l.length ≤ 1) || l[0]? != some 48) && l.all isDig)
theorem digOk_iff {l : List UInt8} : digOk l = true ↔ 1 ≤ l.length ∧ (l.length ≤ 1 ∨ l[0]? ≠ some 48) ∧ l.all isDig = true := by
 simp only [digOk, Bool.and_eq_true, decide_eq_true_eq, Bool.or_eq_true, bne_iff_ne]
theorem digOk_empty {l : List UInt8} (h : l.length = 0) : digOk l = false := by simp [digOk, h]
theorem digOk_zero {l : List UInt8} (h : 1 < l.length) (h0 : l[0]? = some 48) : digOk l = false := by simp [digOk, h0]; omega
theorem digOk_bad {l : List UInt8} {k : Nat} {b : UInt8} (hb : l[k]? = some b) (hd : isDig b = false) : digOk l = false := by
 cases ha : digOk l
 ·rfl
 ·have := (digOk_iff.1 ha).2.2
  rw [List.all_eq_true] at this
  have := this b (List.mem_of_getElem? hb)
  rw [hd] at this
  cases this
theorem digs_succ {l : List UInt8} {k : Nat} {b : UInt8} (h : (l.take k).all isDig = true) (hb : l[k]? = some b) (hd : isDig b = true) : (l.take (k + 1)).all isDig = true := by
 rw [List.take_add_one, hb, List.all_append, h]
 simp [hd]
theorem dec_small {u : Nat} (h : u < 10) : decDigits u = [UInt8.ofNat (48 + u)] := decDigits_one h
theorem dec_big {u : Nat} (h : ¬ u < 10) : decDigits u = decDigits (u / 10) ++ [UInt8.ofNat (48 + u % 10)] := by rw [decDigits, dif_neg h]
theorem digit_nat {d : Nat} (h : d < 10) : (UInt8.ofNat (48 + d)).toNat = 48 + d := by simp [UInt8.toNat_ofNat']; omega
theorem digit_of {b : UInt8} (h : isDig b = true) : UInt8.ofNat (48 + (b.toNat - 48)) = b := by
 have := isDig_true.1 h
 apply UInt8.toNat_inj.1
 rw [digit_nat (by omega)]
 omega
theorem dec_valD_aux : ∀ (k : Nat) (l : List UInt8), l.length = k + 1 → l.all isDig = true → l[0]? ≠ some 48 → decDigits (valD l) = l ∧ 1 ≤ valD l
 | 0, l, hl, ha, h0 => by
  obtain ⟨b, rfl⟩ : ∃ b, l = [b] := List.length_eq_one_iff.1 hl
  have hb : isDig b = true := by simpa using ha
  have h1 := isDig_true.1 hb
  have hv : valD [b] = b.toNat - 48 := by simp [valD]
  have hne : b.toNat ≠ 48 := fun e => h0 (by simp; exact UInt8.toNat_inj.1 e)
  refine ⟨?_, by rw [hv]; omega⟩
  rw [hv, dec_small (by omega), digit_of hb]
 | k + 1, l, hl, ha, h0 => by
  have e : l = l.take (k + 1) ++ [l[k + 1]'(by omega)] := by
   rw [← List.take_succ_eq_append_getElem (by omega), List.take_of_length_le (by omega)]
  generalize l[k + 1]'(by omega) = b at e
  have hl' : (l.take (k + 1)).length = k + 1 := by rw [List.length_take]; omega
  generalize l.take (k + 1) = t at e hl'
  subst e
  rw [List.all_append, Bool.and_eq_true] at ha
  have hb : isDig b = true := by simpa using ha.2
  have h1 := isDig_true.1 hb
  rw [List.getElem?_append_left (by omega)] at h0
  obtain ⟨i1, i2⟩ := dec_valD_aux k t hl' ha.1 h0
  rw [valD_snoc]
  refine ⟨?_, by omega⟩
  rw [dec_big (by omega), show (valD t * 10 + (b.toNat - 48)) / 10 = valD t by omega, show (valD t * 10 + (b.toNat - 48)) % 10 = b.toNat - 48 by omega, i1, digit_of hb]
theorem dec_valD {l : List UInt8} (h : digOk l = true) : decDigits (valD l) = l := by
 obtain ⟨h1, h2, h3⟩ := digOk_iff.1 h
 rcases h2 with h2 | h2
 ·obtain ⟨b, rfl⟩ : ∃ b, l = [b] := List.length_eq_one_iff.1 (by omega)
  have hb : isDig b = true := by simpa using h3
  have h4 := isDig_true.1 hb
  have hv : valD [b] = b.toNat - 48 := by simp [valD]
  rw [hv, dec_small (by omega), digit_of hb]
 ·exact (dec_valD_aux (l.length - 1) l (by omega) h3 h2).1
theorem nDigits_le {r k : Nat} (hk : 1 ≤ k) (h : r < 10 ^ k) : nDigits r ≤ k := by
 induction k generalizing r with
 | zero => omega
 | succ k ih =>
  by_cases h10 : r < 10
  ·rw [nDigits_small h10]
   omega
  ·rw [nDigits_big h10]
   have hk1 : 1 ≤ k := by
    rcases Nat.eq_zero_or_pos k with h0 | h0
    ·subst h0
     simp at h
     omega
    ·exact h0
   have := ih (r := r / 10) hk1 (by rw [Nat.pow_succ] at h; omega)
   omega
end
end Go.Proofs.YtiibocdmlfedkaaGreatDoor
