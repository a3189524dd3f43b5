/- Parts of the proof. -/
import Derived.Test.YtiibocdmlfedkaaGreatDoorH01
import Derived.Test.YtiibocdmlfedkaaGreatDoorH03
namespace Go.Proofs.YtiibocdmlfedkaaGreatDoor
section
theorem val_split (l : List Nat) (i : Nat) : val l = val (l.take i) + bs ^ i * val (l.drop i) := by
 by_cases h : i ≤ l.length
 ·conv => lhs; rw [← List.take_append_drop i l]
  rw [val_append, List.length_take, Nat.min_eq_left h]
 ·rw [List.take_of_length_le (by omega), List.drop_of_length_le (by omega)]
  simp [val]
theorem val_cons (x : Nat) (l : List Nat) : val (x :: l) = x + bs * val l := rfl
theorem val_congrD : ∀ {a b : List Nat}, (∀ j, a.getD j 0 = b.getD j 0) → val a = val b
 | [], [], _ => rfl
 | [], y :: b, h => by
  have h0 := h 0
  have h1 := val_congrD (a := []) (b := b) (fun j => by simpa using h (j + 1))
  have : y = 0 := by simpa using h0.symm
  rw [val_cons, ← h1, this]
  simp [val]
 | x :: a, [], h => by
  have h0 := h 0
  have h1 := val_congrD (a := a) (b := []) (fun j => by simpa using h (j + 1))
  have : x = 0 := by simpa using h0
  rw [val_cons, h1, this]
  simp [val]
 | x :: a, y :: b, h => by
  have h0 : x = y := by simpa using h 0
  have h1 := val_congrD (a := a) (b := b) (fun j => by simpa using h (j + 1))
  rw [val_cons, val_cons, h1, h0]
theorem getD_drop (l : List Nat) (i j : Nat) : (l.drop i).getD j 0 = l.getD (i + j) 0 := by
 simp [List.getD_eq_getElem?_getD, List.getElem?_drop]
def eqFrom (a b : List Nat) (i : Nat) : Prop := ∀ j, i ≤ j → a.getD j 0 = b.getD j 0
theorem eqFrom_top {a b : List Nat} {i : Nat} (ha : a.length ≤ i) (hb : b.length ≤ i) : eqFrom a b i := fun j hj => by rw [getD_over (by omega), getD_over (by omega)]
theorem eqFrom_step {a b : List Nat} {i : Nat} (h : eqFrom a b (i + 1)) (he : a.getD i 0 = b.getD i 0) : eqFrom a b i := fun j hj => by
 by_cases e : j = i
 ·subst e; exact he
 ·exact h j (by omega)
theorem eqFrom_val {a b : List Nat} {i : Nat} (h : eqFrom a b i) : val (a.drop i) = val (b.drop i) := val_congrD fun j => by rw [getD_drop, getD_drop]; exact h _ (by omega)
theorem eqFrom_zero {a b : List Nat} (h : eqFrom a b 0) : val a = val b := by simpa using eqFrom_val h
theorem take_lt {l : List Nat} (h : okL l) (i : Nat) : val (l.take i) < bs ^ i := by
 have h1 := val_lt (okL_take h i)
 refine Nat.lt_of_lt_of_le h1 (Nat.pow_le_pow_right bs_pos ?_)
 rw [List.length_take]
 omega
theorem eqFrom_lt {a b : List Nat} {i : Nat} (ha : okL a) (h : eqFrom a b (i + 1)) (hlt : a.getD i 0 < b.getD i 0) : val a < val b := by
 rw [val_split a i, val_split b i, val_drop_D a i, val_drop_D b i, eqFrom_val h]
 have h1 := take_lt ha i
 have h2 : bs ^ i * (a.getD i 0 + bs * val (b.drop (i + 1))) + bs ^ i ≤ bs ^ i * (b.getD i 0 + bs * val (b.drop (i + 1))) := by
  rw [← Nat.mul_succ]
  exact Nat.mul_le_mul_left _ (by omega)
 omega
theorem eqFrom_symm {a b : List Nat} {i : Nat} (h : eqFrom a b i) : eqFrom b a i := fun j hj => (h j hj).symm
def bl (v : Nat) : Nat := if v = 0 then 0 else v.log2 + 1
theorem bl_zero : bl 0 = 0 := rfl
theorem bl_lt (v : Nat) : v < 2 ^ bl v := by
 unfold bl
 split
 ·subst_vars; decide
 ·rename_i h
  exact Nat.lt_log2_self
theorem bl_ge {v : Nat} (h : v ≠ 0) : 2 ^ (bl v - 1) ≤ v := by
 unfold bl
 rw [if_neg h, Nat.add_sub_cancel]
 exact Nat.log2_self_le h
theorem bl_pos {v : Nat} (h : v ≠ 0) : 1 ≤ bl v := by unfold bl; rw [if_neg h]; omega
theorem bl_uniq {v k : Nat} (h1 : 2 ^ k ≤ v) (h2 : v < 2 ^ (k + 1)) : bl v = k + 1 := by
 have hv : v ≠ 0 := by
  have : 0 < 2 ^ k := Nat.pow_pos (by omega)
  omega
 unfold bl
 rw [if_neg hv]
 have a := Nat.log2_self_le hv
 have b : v < 2 ^ (v.log2 + 1) := Nat.lt_log2_self
 have c : v.log2 < k + 1 := (Nat.pow_lt_pow_iff_right (a := 2) (by omega)).1 (Nat.lt_of_le_of_lt a h2)
 have d : k < v.log2 + 1 := (Nat.pow_lt_pow_iff_right (a := 2) (by omega)).1 (Nat.lt_of_le_of_lt h1 b)
 omega
theorem bl_half {v : Nat} (h : v ≠ 0) : bl v = bl (v / 2) + 1 := by
 by_cases h1 : v = 1
 ·subst h1; rfl
 ·have h2 : v / 2 ≠ 0 := by omega
  have a := bl_ge h2
  have b := bl_lt (v / 2)
  obtain ⟨k, hk⟩ : ∃ k, bl (v / 2) = k + 1 := ⟨bl (v / 2) - 1, by have := bl_pos h2; omega⟩
  rw [hk] at a b ⊢
  refine bl_uniq ?_ ?_
  ·rw [Nat.pow_succ]; simp at a; omega
  ·rw [Nat.pow_succ]; omega
theorem bs_two : bs = 2 ^ 32 := rfl
theorem bs_pow (n : Nat) : bs ^ n = 2 ^ (32 * n) := by rw [bs_two, ← Nat.pow_mul]
theorem bl_top {l : List Nat} {n x : Nat} (ho : okL l) (hl : l.length = n + 1) (hx : l[n]? = some x) (h0 : x ≠ 0) : bl (val l) = 32 * n + bl x := by
 have e := val_last hl hx
 have h1 := take_lt ho n
 have a := bl_ge h0
 have b := bl_lt x
 obtain ⟨k, hk⟩ : ∃ k, bl x = k + 1 := ⟨bl x - 1, by have := bl_pos h0; omega⟩
 rw [hk] at a b ⊢
 simp only [Nat.add_sub_cancel] at a
 rw [← Nat.add_assoc]
 rw [bs_pow] at e h1
 refine bl_uniq ?_ ?_
 ·rw [Nat.pow_add, e]
  have := Nat.mul_le_mul_left (2 ^ (32 * n)) a
  omega
 ·rw [Nat.add_assoc, Nat.pow_add, e]
  have : 2 ^ (32 * n) * (x + 1) ≤ 2 ^ (32 * n) * 2 ^ (k + 1) := Nat.mul_le_mul_left _ (by omega)
  rw [Nat.mul_add] at this
  omega
theorem bl_mono {a b : Nat} (h : a ≤ b) : bl a ≤ bl b := by
 rcases Nat.eq_zero_or_pos a with h0 | h0
 ·subst h0; rw [bl_zero]; omega
 ·have h1 := bl_ge (v := a) (by omega)
  have h2 := bl_lt b
  have : bl a - 1 < bl b := (Nat.pow_lt_pow_iff_right (a := 2) (by omega)).1 (by omega)
  omega
theorem bl_small {x : Nat} (h : x < bs) : bl x ≤ 32 := by
 rcases Nat.eq_zero_or_pos x with h0 | h0
 ·subst h0; rw [bl_zero]; omega
 ·have h1 := bl_ge (v := x) (by omega)
  rw [bs_two] at h
  have : bl x - 1 < 32 := (Nat.pow_lt_pow_iff_right (a := 2) (by omega)).1 (by omega)
  omega
def shInv (a o : List Nat) (m s i c : Nat) : Prop := o.length = m + i ∧ okL o ∧ c < 2 ^ s ∧ val o + bs ^ (m + i) * c = bs ^ m * (val (a.take i) * 2 ^ s)
theorem shInv_zero (a : List Nat) (m s : Nat) : shInv a (List.replicate m 0) m s 0 0 :=
 ⟨by simp, okL_zeros _, Nat.pow_pos (by omega), by rw [val_zeros]; simp [val]⟩
theorem shInv_succ {a o : List Nat} {m s i c t : Nat} (ha : okL a) (h : shInv a o m s i c) (ht : t = a.getD i 0 * 2 ^ s + c) : shInv a (o ++ [t % bs]) m s (i + 1) (t / bs) := by
 obtain ⟨hl, ho, hc, hv⟩ := h
 have h1 := getD_lt ha i
 refine ⟨by simp [hl]; omega, okL_snoc ho (Nat.mod_lt _ bs_pos), ?_, ?_⟩
 ·refine (Nat.div_lt_iff_lt_mul bs_pos).2 ?_
  have : (a.getD i 0 + 1) * 2 ^ s ≤ bs * 2 ^ s := Nat.mul_le_mul_right _ h1
  rw [Nat.add_mul] at this
  rw [Nat.mul_comm (2 ^ s)]
  omega
 ·rw [val_snoc, hl, val_take_D, ← Nat.add_assoc, pow_s (m + i), Nat.mul_assoc]
  have e : bs ^ (m + i) * (t % bs) + bs ^ (m + i) * (bs * (t / bs)) = bs ^ (m + i) * t := by rw [← Nat.mul_add, Nat.mod_add_div]
  have e2 : bs ^ (m + i) * t = bs ^ (m + i) * (a.getD i 0 * 2 ^ s) + bs ^ (m + i) * c := by rw [ht, Nat.mul_add]
  have e3 : bs ^ m * ((val (a.take i) + bs ^ i * a.getD i 0) * 2 ^ s) = bs ^ m * (val (a.take i) * 2 ^ s) + bs ^ (m + i) * (a.getD i 0 * 2 ^ s) := by
   rw [Nat.add_mul, Nat.mul_add, Nat.pow_add]
   congr 1
   rw [Nat.mul_assoc, Nat.mul_assoc]
  rw [e3]
  omega
theorem shInv_end {a o : List Nat} {m s c : Nat} (hs : s ≤ 31) (h : shInv a o m s a.length c) (t : Nat) (ht : t = c) : okL (o ++ [t % bs]) ∧ val (o ++ [t % bs]) = val a * 2 ^ (32 * m + s) := by
 obtain ⟨hl, ho, hc, hv⟩ := h
 refine ⟨okL_snoc ho (Nat.mod_lt _ bs_pos), ?_⟩
 have hlt : c < bs := by
  have : 2 ^ s ≤ 2 ^ 31 := Nat.pow_le_pow_right (by omega) hs
  unfold bs
  omega
 rw [val_snoc, hl, ht, Nat.mod_eq_of_lt hlt, hv, List.take_length, Nat.pow_add, bs_pow, Nat.mul_left_comm]
theorem shift_parts (n : Nat) : 32 * (n / 32) + n % 32 = n := Nat.div_add_mod n 32
def hfInv (a o : List Nat) (i : Nat) : Prop := o.length = i ∧ okL o ∧ val o + bs ^ i * (val (a.drop i) / 2) = val a / 2
theorem hfInv_zero (a : List Nat) : hfInv a [] 0 := ⟨rfl, okL_nil, by simp [val]⟩
theorem hf_limb {x y : Nat} (hx : x < bs) : x / 2 + y % 2 * 2147483648 < bs := by unfold bs at *; omega
theorem hfInv_succ {a o : List Nat} {i t : Nat} (ha : okL a) (h : hfInv a o i) (ht : t = a.getD i 0 / 2 + a.getD (i + 1) 0 % 2 * 2147483648) : hfInv a (o ++ [t]) (i + 1) := by
 obtain ⟨hl, ho, hv⟩ := h
 have h1 := getD_lt ha i
 refine ⟨by simp [hl], okL_snoc ho (by rw [ht]; exact hf_limb h1), ?_⟩
 rw [val_snoc, hl, pow_s, Nat.mul_assoc, Nat.add_assoc, ← Nat.mul_add, ← hv]
 congr 2
 have e1 := val_drop_D a i
 have e2 := val_drop_D a (i + 1)
 rw [ht, e1]
 rw [e2]
 generalize val (a.drop (i + 1 + 1)) = r
 generalize a.getD i 0 = x at *
 generalize a.getD (i + 1) 0 = y at *
 unfold bs
 omega
theorem hfInv_end {a o : List Nat} (h : hfInv a o a.length) : okL o ∧ val o = val a / 2 := by
 obtain ⟨hl, ho, hv⟩ := h
 rw [List.drop_length] at hv
 exact ⟨ho, by simpa [val] using hv⟩
def bdInv (a b : Nat) (Q : List Nat) (R j : Nat) : Prop := okL Q ∧ val Q % 2 ^ j = 0 ∧ val Q * b + R = a ∧ R < b * 2 ^ j
theorem bdInv_start {a b n m : Nat} (hb : b ≠ 0) (h : bl a = n + bl b) : bdInv a b (List.replicate m 0) a (n + 1) := by
 refine ⟨okL_zeros _, by rw [val_zeros]; simp, by rw [val_zeros]; omega, ?_⟩
 have h1 := bl_lt a
 have h2 := bl_ge hb
 have h3 := bl_pos hb
 have e : bl a = (n + 1) + (bl b - 1) := by omega
 rw [e, Nat.pow_add, Nat.mul_comm] at h1
 exact Nat.lt_of_lt_of_le h1 (Nat.mul_le_mul_right _ h2)
theorem mod_two_pow_succ {v j : Nat} (h : v % 2 ^ (j + 1) = 0) : v % 2 ^ j = 0 := by
 have : 2 ^ j ∣ 2 ^ (j + 1) := ⟨2, by rw [Nat.pow_succ]⟩
 exact Nat.mod_eq_zero_of_dvd (Nat.dvd_trans this (Nat.dvd_of_mod_eq_zero h))
theorem bdInv_no {a b : Nat} {Q : List Nat} {R j : Nat} (h : bdInv a b Q R (j + 1)) (hlt : R < b * 2 ^ j) : bdInv a b Q R j := by
 obtain ⟨h1, h2, h3, _⟩ := h
 exact ⟨h1, mod_two_pow_succ h2, h3, hlt⟩
theorem bit_room {Q : List Nat} {j x : Nat} (ho : okL Q) (h : val Q % 2 ^ (j + 1) = 0) (hx : Q[j / 32]? = some x) : x + 2 ^ (j % 32) < bs := by
 have hk : j % 32 < 32 := Nat.mod_lt _ (by omega)
 have hxb := okL_at ho hx
 have e : j + 1 = 32 * (j / 32) + (j % 32 + 1) := by omega
 obtain ⟨q, hq⟩ := Nat.dvd_of_mod_eq_zero h
 have hs := val_split Q (j / 32)
 have hd := val_drop hx
 have ht := take_lt ho (j / 32)
 rw [bs_pow] at hs ht
 rw [e, Nat.pow_add, Nat.mul_assoc] at hq
 have hz : val (Q.take (j / 32)) = 0 := by
  have h1 : val Q % 2 ^ (32 * (j / 32)) = 0 := by rw [hq, Nat.mul_mod_right]
  rw [hs, Nat.add_mul_mod_self_left, Nat.mod_eq_of_lt ht] at h1
  exact h1
 have hp : 0 < 2 ^ (32 * (j / 32)) := Nat.pow_pos (by omega)
 have hd2 : val (Q.drop (j / 32)) = 2 ^ (j % 32 + 1) * q := by
  rw [hz, Nat.zero_add] at hs
  exact Nat.eq_of_mul_eq_mul_left hp (by rw [← hs, hq])
 have hm : x % 2 ^ (j % 32 + 1) = 0 := by
  have hb : bs = 2 ^ (j % 32 + 1) * 2 ^ (31 - j % 32) := by rw [← Nat.pow_add, bs_two]; congr 1; omega
  have h1 : val (Q.drop (j / 32)) % 2 ^ (j % 32 + 1) = 0 := by rw [hd2, Nat.mul_mod_right]
  rw [hd, hb, Nat.mul_assoc, Nat.add_mul_mod_self_left] at h1
  exact h1
 obtain ⟨r, hr⟩ := Nat.dvd_of_mod_eq_zero hm
 have hb : bs = 2 ^ (j % 32 + 1) * 2 ^ (31 - j % 32) := by rw [← Nat.pow_add, bs_two]; congr 1; omega
 have hr2 : r < 2 ^ (31 - j % 32) := by
  rw [hr, hb] at hxb
  exact Nat.lt_of_mul_lt_mul_left hxb
 have h3 : 2 ^ (j % 32 + 1) * (r + 1) ≤ bs := by rw [hb]; exact Nat.mul_le_mul_left _ (by omega)
 rw [Nat.mul_add, ← hr, Nat.mul_one, Nat.pow_succ] at h3
 have : 0 < 2 ^ (j % 32) := Nat.pow_pos (by omega)
 omega
theorem bdInv_yes {a b : Nat} {Q : List Nat} {R j x : Nat} (h : bdInv a b Q R (j + 1)) (hle : b * 2 ^ j ≤ R) (hx : Q[j / 32]? = some x) : bdInv a b (Q.set (j / 32) (x + 2 ^ (j % 32))) (R - b * 2 ^ j) j := by
 obtain ⟨h1, h2, h3, h4⟩ := h
 have hr := bit_room h1 h2 hx
 have hv : val (Q.set (j / 32) (x + 2 ^ (j % 32))) = val Q + 2 ^ j := by
  have := val_set (x + 2 ^ (j % 32)) hx
  rw [Nat.mul_add, bs_pow, ← Nat.pow_add, shift_parts] at this
  omega
 refine ⟨okL_set h1 _ hr, ?_, ?_, ?_⟩
 ·rw [hv, Nat.add_mod, mod_two_pow_succ h2, Nat.mod_self]
  simp
 ·rw [hv, Nat.add_mul, Nat.mul_comm (2 ^ j)]
  omega
 ·rw [Nat.pow_succ, ← Nat.mul_assoc] at h4
  omega
theorem bdInv_end {a b : Nat} {Q : List Nat} {R : Nat} (h : bdInv a b Q R 0) : okL Q ∧ val Q = a / b ∧ R = a % b := by
 obtain ⟨h1, _, h3, h4⟩ := h
 simp only [Nat.pow_zero, Nat.mul_one] at h4
 refine ⟨h1, ?_, ?_⟩
 ·rw [← h3, Nat.mul_comm, Nat.mul_add_div (by omega), Nat.div_eq_of_lt h4, Nat.add_zero]
 ·rw [← h3, Nat.mul_comm, Nat.mul_add_mod, Nat.mod_eq_of_lt h4]
theorem half_shift (b j : Nat) : b * 2 ^ (j + 1) / 2 = b * 2 ^ j := by
 rw [Nat.pow_succ, ← Nat.mul_assoc, Nat.mul_div_cancel _ (by omega)]
open Go.Lib
def dd (v : Nat) : List UInt8 := if v = 0 then [] else decDigits v
end
end Go.Proofs.YtiibocdmlfedkaaGreatDoor
