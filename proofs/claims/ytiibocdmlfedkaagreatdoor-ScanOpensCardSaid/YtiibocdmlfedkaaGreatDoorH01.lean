/- Parts of the proof. -/
namespace Go.Proofs.YtiibocdmlfedkaaGreatDoor
section
def bs : Nat := 4294967296
theorem bs_pos : 0 < bs := by unfold bs; omega
theorem bs_eq : bs = 4294967296 := rfl
def val : List Nat → Nat
 | [] => 0
 | x :: l => x + bs * val l
def okL (l : List Nat) : Prop := ∀ x ∈ l, x < bs
def tight (l : List Nat) : Prop := l.getLast? ≠ some 0
theorem okL_nil : okL [] := fun x h => by cases h
theorem okL_cons {x : Nat} {l : List Nat} : okL (x :: l) ↔ x < bs ∧ okL l := by simp [okL]
theorem okL_append {a b : List Nat} : okL (a ++ b) ↔ okL a ∧ okL b := by
 simp only [okL, List.mem_append]
 exact ⟨fun h => ⟨fun x hx => h x (.inl hx), fun x hx => h x (.inr hx)⟩, fun h x hx => hx.elim (h.1 x) (h.2 x)⟩
theorem okL_take {l : List Nat} (h : okL l) (k : Nat) : okL (l.take k) := fun x hx => h x (List.mem_of_mem_take hx)
theorem okL_at {l : List Nat} {k x : Nat} (h : okL l) (hx : l[k]? = some x) : x < bs := h x (List.mem_of_getElem? hx)
theorem val_append (a b : List Nat) : val (a ++ b) = val a + bs ^ a.length * val b := by
 induction a with
 | nil => simp [val]
 | cons x a ih =>
  simp only [List.cons_append, val, ih, List.length_cons, Nat.pow_succ, Nat.mul_add]
  have : bs * (bs ^ a.length * val b) = bs ^ a.length * bs * val b := by rw [← Nat.mul_assoc, Nat.mul_comm bs]
  omega
theorem val_snoc (a : List Nat) (x : Nat) : val (a ++ [x]) = val a + bs ^ a.length * x := by
 rw [val_append]
 simp [val]
theorem val_lt {l : List Nat} (h : okL l) : val l < bs ^ l.length := by
 induction l with
 | nil => simp [val]
 | cons x l ih =>
  have h2 := okL_cons.1 h
  have ih := ih h2.2
  simp only [val, List.length_cons, Nat.pow_succ]
  have : bs * (val l + 1) ≤ bs * bs ^ l.length := Nat.mul_le_mul_left bs ih
  rw [Nat.mul_add, Nat.mul_one] at this
  rw [Nat.mul_comm (bs ^ l.length) bs]
  omega
theorem val_take_succ {l : List Nat} {k x : Nat} (hx : l[k]? = some x) : val (l.take (k + 1)) = val (l.take k) + bs ^ k * x := by
 have hk := (List.getElem?_eq_some_iff.1 hx).1
 rw [List.take_add_one, hx]
 show val (l.take k ++ [x]) = _
 rw [val_snoc, List.length_take, Nat.min_eq_left (by omega)]
theorem val_zeros (n : Nat) : val (List.replicate n 0) = 0 := by
 induction n with
 | zero => rfl
 | succ n ih => simp [List.replicate_succ, val, ih]
theorem val_append_zeros (l : List Nat) (n : Nat) : val (l ++ List.replicate n 0) = val l := by
 rw [val_append, val_zeros, Nat.mul_zero, Nat.add_zero]
def limbs (n : Nat) : List Nat := if _h : n = 0 then [] else (n % bs) :: limbs (n / bs)
termination_by n
decreasing_by exact Nat.div_lt_self (by omega) (by unfold bs; omega)
theorem limbs_zero : limbs 0 = [] := by rw [limbs, dif_pos rfl]
theorem limbs_pos {n : Nat} (h : n ≠ 0) : limbs n = (n % bs) :: limbs (n / bs) := by rw [limbs, dif_neg h]
theorem okL_limbs : ∀ n : Nat, okL (limbs n) := by
 intro n
 induction n using Nat.strongRecOn with
 | _ n ih =>
  by_cases h : n = 0
  ·rw [h, limbs_zero]
   exact okL_nil
  ·rw [limbs_pos h]
   exact okL_cons.2 ⟨Nat.mod_lt _ bs_pos, ih _ (Nat.div_lt_self (by omega) (by unfold bs; omega))⟩
theorem val_limbs : ∀ n : Nat, val (limbs n) = n := by
 intro n
 induction n using Nat.strongRecOn with
 | _ n ih =>
  by_cases h : n = 0
  ·rw [h, limbs_zero]
   rfl
  ·rw [limbs_pos h, val, ih _ (Nat.div_lt_self (by omega) (by unfold bs; omega))]
   exact Nat.mod_add_div n bs
theorem limbs_nil {n : Nat} (h : limbs n = []) : n = 0 := by
 have := val_limbs n
 rw [h] at this
 exact this.symm
theorem tight_limbs : ∀ n : Nat, tight (limbs n) := by
 intro n
 induction n using Nat.strongRecOn with
 | _ n ih =>
  by_cases h : n = 0
  ·rw [h, limbs_zero]
   simp [tight]
  ·have hlt := Nat.div_lt_self (by omega : 0 < n) (by unfold bs; omega : 1 < bs)
   have ih := ih _ hlt
   rw [limbs_pos h]
   by_cases h2 : n / bs = 0
   ·rw [h2, limbs_zero]
    intro e
    simp only [List.getLast?_singleton, Option.some.injEq] at e
    have := Nat.mod_add_div n bs
    rw [h2, e] at this
    omega
   ·intro e
    apply ih
    cases hl : limbs (n / bs) with
    | nil => exact absurd (limbs_nil hl) h2
    | cons y r =>
     rw [hl] at e
     rw [List.getLast?_cons_cons] at e
     exact e
theorem val_pos_of_tight : ∀ {l : List Nat}, tight l → l ≠ [] → 0 < val l
 | [], _, h => absurd rfl h
 | [x], ht, _ => by
  have : x ≠ 0 := fun e => ht (by simp [e])
  simp only [val]
  omega
 | x :: y :: l, ht, _ => by
  have h2 : tight (y :: l) := fun e => ht (by rw [List.getLast?_cons_cons]; exact e)
  have := val_pos_of_tight h2 (by simp)
  have h3 : 0 < bs * val (y :: l) := Nat.mul_pos bs_pos this
  show 0 < x + bs * val (y :: l)
  omega
theorem limbs_val : ∀ {l : List Nat}, okL l → tight l → limbs (val l) = l
 | [], _, _ => limbs_zero
 | x :: l, ho, ht => by
  have ho2 := okL_cons.1 ho
  have ht2 : tight l := by
   cases l with
   | nil => simp [tight]
   | cons y r => exact fun e => ht (by rw [List.getLast?_cons_cons]; exact e)
  have hv := val_pos_of_tight ht (by simp)
  have hd : (x + bs * val l) / bs = val l := by
   rw [Nat.add_mul_div_left _ _ bs_pos, Nat.div_eq_of_lt ho2.1, Nat.zero_add]
  have hm : (x + bs * val l) % bs = x := by
   rw [Nat.add_mul_mod_self_left, Nat.mod_eq_of_lt ho2.1]
  rw [limbs_pos (by omega)]
  show (x + bs * val l) % bs :: limbs ((x + bs * val l) / bs) = x :: l
  rw [hm, hd, limbs_val ho2.2 ht2]
theorem limbs_inj {a b : Nat} (h : limbs a = limbs b) : a = b := by rw [← val_limbs a, h, val_limbs]
def width (l : List Nat) : Nat := (limbs (val l)).length
theorem tight_of_last {l : List Nat} {k x : Nat} (hk : l.length = k + 1) (hx : l[k]? = some x) (h0 : x ≠ 0) : tight l := by
 intro e
 rw [List.getLast?_eq_getElem?, hk, Nat.add_sub_cancel, hx] at e
 exact h0 (Option.some.inj e)
theorem limbs_trim {l : List Nat} {k : Nat} (ho : okL l) (hk : k ≤ l.length) (hz : ∀ j x, k ≤ j → l[j]? = some x → x = 0) (ht : k = 0 ∨ ∃ x, l[k - 1]? = some x ∧ x ≠ 0) : limbs (val l) = l.take k := by
 have hv : val l = val (l.take k) := by
  have e : l = l.take k ++ l.drop k := (List.take_append_drop k l).symm
  have hd : l.drop k = List.replicate (l.length - k) 0 := by
   apply List.ext_getElem?
   intro j
   rw [List.getElem?_drop, List.getElem?_replicate]
   by_cases hj : j < l.length - k
   ·rw [if_pos hj]
    have hkj : k + j < l.length := by omega
    have h1 : l[k + j]? = some l[k + j] := List.getElem?_eq_getElem hkj
    rw [h1, hz (k + j) _ (by omega) h1]
   ·rw [if_neg hj]
    exact List.getElem?_eq_none (by omega)
  have h2 : val (l.take k ++ List.replicate (l.length - k) 0) = val (l.take k) := val_append_zeros _ _
  rw [← hd, ← e] at h2
  exact h2
 rw [hv]
 refine limbs_val (okL_take ho k) ?_
 rcases ht with rfl | ⟨x, hx, hx0⟩
 ·simp [tight]
 ·by_cases hk0 : k = 0
  ·subst hk0
   simp [tight]
  ·have hl : (l.take k).length = (k - 1) + 1 := by rw [List.length_take]; omega
   exact tight_of_last (k := k - 1) (x := x) hl (by rw [List.getElem?_take, if_pos (by omega)]; exact hx) hx0
theorem limbs_take_width {l : List Nat} (ho : okL l) : ∃ k, k ≤ l.length ∧ limbs (val l) = l.take k ∧ k = width l := by
 suffices h : ∀ m : Nat, m ≤ l.length → (∀ j x, m ≤ j → l[j]? = some x → x = 0) → ∃ k, k ≤ l.length ∧ limbs (val l) = l.take k by
  obtain ⟨k, hk, he⟩ := h l.length (Nat.le_refl _) (fun j x hj hx => by have := (List.getElem?_eq_some_iff.1 hx).1; omega)
  exact ⟨k, hk, he, by rw [width, he, List.length_take, Nat.min_eq_left hk]⟩
 intro m
 induction m with
 | zero =>
  intro hm hz
  exact ⟨0, Nat.zero_le _, limbs_trim ho (Nat.zero_le _) hz (.inl rfl)⟩
 | succ m ih =>
  intro hm hz
  have hx : l[m]? = some l[m] := List.getElem?_eq_getElem hm
  by_cases h0 : l[m] = 0
  ·refine ih (by omega) fun j x hj hjx => ?_
   by_cases hjm : j = m
   ·subst hjm
    rw [hx] at hjx
    rw [← Option.some.inj hjx]
    exact h0
   ·exact hz j x (by omega) hjx
  ·exact ⟨m + 1, hm, limbs_trim ho hm hz (.inr ⟨l[m], by simp, h0⟩)⟩
theorem limbs_len_le {n k : Nat} (h : n < bs ^ k) : (limbs n).length ≤ k := by
 induction k generalizing n with
 | zero =>
  have : n = 0 := by simpa using h
  rw [this, limbs_zero]
  exact Nat.le_refl _
 | succ k ih =>
  by_cases h0 : n = 0
  ·rw [h0, limbs_zero]
   exact Nat.zero_le _
  ·rw [limbs_pos h0, List.length_cons]
   have : n / bs < bs ^ k := by
    rw [Nat.div_lt_iff_lt_mul bs_pos, ← Nat.pow_succ]
    exact h
   have := ih this
   omega
end
section
def cmpN (a b : Nat) : Int := if a < b then -1 else if b < a then 1 else 0
theorem cmpN_lt {a b : Nat} (h : a < b) : cmpN a b = -1 := by rw [cmpN, if_pos h]
theorem cmpN_gt {a b : Nat} (h : b < a) : cmpN a b = 1 := by rw [cmpN, if_neg (by omega), if_pos h]
theorem cmpN_eq {a b : Nat} (h : a = b) : cmpN a b = 0 := by rw [cmpN, if_neg (by omega), if_neg (by omega)]
theorem limbs_ge {n k : Nat} (h : k < (limbs n).length) : bs ^ k ≤ n := by
 rcases Nat.lt_or_ge n (bs ^ k) with hlt | hge
 ·have := limbs_len_le hlt
  omega
 ·exact hge
theorem lt_of_limbs {a b : Nat} (h : (limbs a).length < (limbs b).length) : a < b := by
 have h1 : a < bs ^ (limbs a).length := by
  have := val_lt (okL_limbs a)
  rwa [val_limbs] at this
 exact Nat.lt_of_lt_of_le h1 (limbs_ge h)
theorem val_lt_of_top {a b : List Nat} {i x y : Nat} (ho : okL a) (hl : a.length = b.length) (hx : a[i]? = some x) (hy : b[i]? = some y) (he : a.drop (i + 1) = b.drop (i + 1)) (hlt : x < y) : val a < val b := by
 have hia := (List.getElem?_eq_some_iff.1 hx).1
 have ea : a = a.take i ++ x :: a.drop (i + 1) := by
  have h1 := (List.take_append_drop i a).symm
  rw [List.drop_eq_getElem_cons hia, (List.getElem?_eq_some_iff.1 hx).2] at h1
  exact h1
 have hib := (List.getElem?_eq_some_iff.1 hy).1
 have eb : b = b.take i ++ y :: b.drop (i + 1) := by
  have h1 := (List.take_append_drop i b).symm
  rw [List.drop_eq_getElem_cons hib, (List.getElem?_eq_some_iff.1 hy).2] at h1
  exact h1
 have hla : (a.take i).length = i := by rw [List.length_take]; omega
 have hlb : (b.take i).length = i := by rw [List.length_take]; omega
 have hva : val a = val (a.take i) + bs ^ i * (x + bs * val (a.drop (i + 1))) := by
  conv => lhs; rw [ea]
  rw [val_append, hla]
  rfl
 have hvb : val b = val (b.take i) + bs ^ i * (y + bs * val (a.drop (i + 1))) := by
  conv => lhs; rw [eb]
  rw [val_append, hlb, he]
  rfl
 have h1 := val_lt (okL_take ho i)
 rw [hla] at h1
 have h2 : bs ^ i * (x + bs * val (a.drop (i + 1)) + 1) ≤ bs ^ i * (y + bs * val (a.drop (i + 1))) := Nat.mul_le_mul_left _ (by omega)
 rw [Nat.mul_add, Nat.mul_one] at h2
 omega
theorem val_set : ∀ {l : List Nat} {k x : Nat} (v : Nat), l[k]? = some x → val (l.set k v) + bs ^ k * x = val l + bs ^ k * v
 | [], k, x, v, h => by simp at h
 | y :: l, 0, x, v, h => by
  have e : y = x := by simpa using h
  subst e
  simp only [List.set_cons_zero, val, Nat.pow_zero, Nat.one_mul]
  omega
 | y :: l, k + 1, x, v, h => by
  have ih := val_set (l := l) (k := k) (x := x) v (by simpa using h)
  simp only [List.set_cons_succ, val, Nat.pow_succ]
  have e1 : bs ^ k * bs * x = bs * (bs ^ k * x) := by rw [Nat.mul_comm (bs ^ k) bs, Nat.mul_assoc]
  have e2 : bs ^ k * bs * v = bs * (bs ^ k * v) := by rw [Nat.mul_comm (bs ^ k) bs, Nat.mul_assoc]
  have e3 := congrArg (bs * ·) ih
  simp only [Nat.mul_add] at e3
  omega
theorem okL_set {l : List Nat} (h : okL l) (k : Nat) {v : Nat} (hv : v < bs) : okL (l.set k v) := by
 intro x hx
 rcases List.mem_or_eq_of_mem_set hx with h1 | h1
 ·exact h x h1
 ·omega
theorem okL_zeros (n : Nat) : okL (List.replicate n 0) := by
 intro x hx
 rw [(List.mem_replicate.1 hx).2]
 exact bs_pos
end
section
def sgn (neg : Bool) (a : Nat) : Int := if neg = true then -(a : Int) else a
theorem sgn_false (a : Nat) : sgn false a = a := rfl
theorem sgn_abs (neg : Bool) (a : Nat) : (sgn neg a).natAbs = a := by cases neg <;> simp [sgn]
def ineg (i : Int) : Bool := decide (i < 0)
theorem sgn_self (i : Int) : sgn (ineg i) i.natAbs = i := by
 unfold sgn ineg
 by_cases h : i < 0
 ·rw [if_pos (by simpa using h)]
  omega
 ·rw [if_neg (by simpa using h)]
  omega
theorem ineg_sgn (neg : Bool) (a : Nat) : ineg (sgn neg a) = (neg && decide (0 < a)) := by
 unfold ineg
 cases neg
 ·simp [sgn]
 ·simp only [sgn, if_true, Bool.true_and, decide_eq_decide]
  omega
theorem sgn_mul (m n : Bool) (a b : Nat) : sgn (m != n) (a * b) = sgn m a * sgn n b := by cases m <;> cases n <;> simp [sgn, Int.mul_neg, Int.neg_mul]
def cmpI (a b : Int) : Int := if a < b then -1 else if b < a then 1 else 0
def rv (i : Int) (d : Nat) : Rat := mkRat i d
theorem rv_self (q : Rat) : rv q.num q.den = q := Rat.mkRat_self q
theorem rv_zero (i : Int) : rv i 0 = 0 := Rat.mkRat_zero i
theorem rv_num {i : Int} {d : Nat} (hd : d ≠ 0) : (rv i d).num.natAbs = i.natAbs / i.natAbs.gcd d ∧ (rv i d).den = d / i.natAbs.gcd d := by
 constructor
 ·rw [rv, Rat.num_mkRat, if_neg hd, Nat.gcd_comm, Int.natAbs_ediv_of_dvd]
  ·simp
  ·exact Int.ofNat_dvd_left.2 (Nat.gcd_dvd_left _ _)
 ·rw [rv, Rat.den_mkRat, if_neg hd, Nat.gcd_comm]
theorem gcd_pos' {a d : Nat} (hd : d ≠ 0) : 0 < a.gcd d := Nat.gcd_pos_of_pos_right _ (by omega)
theorem rv_neg {i : Int} {d : Nat} (hd : d ≠ 0) : ineg (rv i d).num = ineg (sgn (ineg i) (i.natAbs / i.natAbs.gcd d)) := by
 have h1 : (rv i d).num = i / (i.natAbs.gcd d : Nat) := by rw [rv, Rat.num_mkRat, if_neg hd, Nat.gcd_comm]
 have hg : 0 < i.natAbs.gcd d := gcd_pos' hd
 have hdv : ((i.natAbs.gcd d : Nat) : Int) ∣ i := Int.ofNat_dvd_left.2 (Nat.gcd_dvd_left _ _)
 rw [ineg_sgn, h1]
 generalize i.natAbs.gcd d = g at *
 obtain ⟨k, rfl⟩ := hdv
 have hg0 : (g : Int) ≠ 0 := by omega
 rw [Int.mul_ediv_cancel_left _ hg0, Int.natAbs_mul, Int.natAbs_natCast, Nat.mul_div_cancel_left _ hg]
 unfold ineg
 by_cases hk : k < 0
 ·have h2 : (g : Int) * k < 0 := Int.mul_neg_of_pos_of_neg (by omega) hk
  have h3 : 0 < k.natAbs := by omega
  simp [hk, h2, h3]
 ·have h2 : ¬ (g : Int) * k < 0 := by
   have := Int.mul_nonneg (by omega : (0 : Int) ≤ g) (by omega : 0 ≤ k)
   omega
  simp [hk, h2]
theorem rv_eq_zero {i : Int} {d : Nat} (hd : d ≠ 0) : rv i d = 0 ↔ i = 0 := Rat.mkRat_eq_zero hd
theorem rv_eq {i j : Int} {d e : Nat} (hd : d ≠ 0) (he : e ≠ 0) : rv i d = rv j e ↔ i * e = j * d := Rat.mkRat_eq_iff hd he
theorem rv_one (i : Int) : (rv i 1).num = i ∧ (rv i 1).den = 1 := by
 have h := rv_num (i := i) (d := 1) (by omega)
 refine ⟨?_, by rw [h.2, Nat.gcd_one_right]⟩
 rw [rv, Rat.num_mkRat, if_neg (by omega)]
 simp
end
section
theorem val_take_D (l : List Nat) (k : Nat) : val (l.take (k + 1)) = val (l.take k) + bs ^ k * l.getD k 0 := by
 by_cases hk : k < l.length
 ·have hx : l[k]? = some l[k] := List.getElem?_eq_getElem hk
  rw [val_take_succ hx]
  simp [hx]
 ·rw [List.take_of_length_le (by omega), List.take_of_length_le (by omega)]
  simp [List.getElem?_eq_none (by omega : l.length ≤ k)]
theorem getD_lt {l : List Nat} (h : okL l) (k : Nat) : l.getD k 0 < bs := by
 by_cases hk : k < l.length
 ·have hx : l[k]? = some l[k] := List.getElem?_eq_getElem hk
  rw [List.getD_eq_getElem?_getD, hx]
  exact okL_at h hx
 ·rw [List.getD_eq_getElem?_getD, List.getElem?_eq_none (by omega)]
  exact bs_pos
theorem getD_some {l : List Nat} {k x : Nat} (h : l[k]? = some x) : l.getD k 0 = x := by rw [List.getD_eq_getElem?_getD, h]; rfl
theorem getD_over {l : List Nat} {k : Nat} (h : l.length ≤ k) : l.getD k 0 = 0 := by rw [List.getD_eq_getElem?_getD, List.getElem?_eq_none h]; rfl
theorem okL_snoc {l : List Nat} {x : Nat} (h : okL l) (hx : x < bs) : okL (l ++ [x]) := okL_append.2 ⟨h, okL_cons.2 ⟨hx, okL_nil⟩⟩
theorem pow_s (k : Nat) : bs ^ (k + 1) = bs ^ k * bs := Nat.pow_succ ..
def subInv (a b o : List Nat) (k c : Nat) : Prop := o.length = k ∧ okL o ∧ c ≤ 1 ∧ val o + val (b.take k) = val (a.take k) + bs ^ k * c
theorem subInv_zero (a b : List Nat) : subInv a b [] 0 0 := ⟨rfl, okL_nil, by omega, by simp [val]⟩
theorem subInv_succ {a b o : List Nat} {k c d c' : Nat} (h : subInv a b o k c) (hd : d < bs) (hc' : c' ≤ 1) (ht : d + b.getD k 0 + c = a.getD k 0 + bs * c') : subInv a b (o ++ [d]) (k + 1) c' := by
 obtain ⟨hl, ho, hc, hv⟩ := h
 refine ⟨by simp [hl], okL_snoc ho hd, hc', ?_⟩
 rw [val_snoc, hl, val_take_D, val_take_D, pow_s, Nat.mul_assoc]
 have e2 := congrArg (bs ^ k * ·) ht
 simp only [Nat.mul_add] at e2
 omega
theorem subInv_end {a b o : List Nat} {k c : Nat} (h : subInv a b o k c) (ha : a.length ≤ k) (hb : b.length ≤ k) (hle : val b ≤ val a) : val o = val a - val b := by
 obtain ⟨hl, ho, hc, hv⟩ := h
 rw [List.take_of_length_le ha, List.take_of_length_le hb] at hv
 have hlt := val_lt ho
 rw [hl] at hlt
 have : c = 0 := by
  rcases Nat.eq_zero_or_pos c with h0 | h0
  ·exact h0
  ·have : c = 1 := by omega
   subst this
   omega
 subst this
 omega
theorem zero_above {l : List Nat} {k j x : Nat} (h : val l < bs ^ k) (hj : k ≤ j) (hx : l[j]? = some x) : x = 0 := by
 rcases Nat.eq_zero_or_pos x with h0 | h0
 ·exact h0
 ·exfalso
  have h1 := val_take_succ hx
  have h2 : val (l.take (j + 1)) ≤ val l := by
   have e := congrArg val (List.take_append_drop (j + 1) l)
   rw [val_append] at e
   omega
  have h3 : bs ^ k ≤ bs ^ j := Nat.pow_le_pow_right bs_pos hj
  have h4 : bs ^ j * 1 ≤ bs ^ j * x := Nat.mul_le_mul_left _ h0
  omega
def mulInv (a b r : List Nat) (i : Nat) : Prop := r.length = a.length + b.length ∧ okL r ∧ val r = val (a.take i) * val b
theorem mulInv_zero (a b : List Nat) : mulInv a b (List.replicate (a.length + b.length) 0) 0 := ⟨by simp, okL_zeros _, by rw [val_zeros]; simp [val]⟩
def mulIn (a b r : List Nat) (i k c : Nat) : Prop :=
 r.length = a.length + b.length ∧ okL r ∧ c < bs ∧ val r + bs ^ (i + k) * c = val (a.take i) * val b + bs ^ i * (a.getD i 0 * val (b.take k)) ∧ ∀ j x, i + b.length ≤ j → r[j]? = some x → x = 0
theorem mulIn_zero {a b r : List Nat} {i : Nat} (ha : okL a) (hb : okL b) (h : mulInv a b r i) (hi : i ≤ a.length) : mulIn a b r i 0 0 := by
 obtain ⟨hl, ho, hv⟩ := h
 refine ⟨hl, ho, bs_pos, by simp [hv, val], fun j x hj hx => zero_above (k := i + b.length) ?_ hj hx⟩
 rw [hv, Nat.pow_add]
 have h1 := val_lt (okL_take ha i)
 have h2 := val_lt hb
 rw [List.length_take, Nat.min_eq_left hi] at h1
 exact Nat.mul_lt_mul_of_lt_of_lt h1 h2
theorem mul_fits {c x y z : Nat} (hc : c < bs) (hx : x < bs) (hy : y < bs) (hz : z < bs) : c + x * y + z < bs * bs := by
 have h1 : x * y ≤ (bs - 1) * (bs - 1) := Nat.mul_le_mul (by omega) (by omega)
 unfold bs at *
 omega
theorem mulIn_succ {a b r : List Nat} {i k c z t : Nat} (ha : okL a) (hb : okL b) (h : mulIn a b r i k c) (hk : k < b.length) (hz : r[i + k]? = some z) (ht : t = c + a.getD i 0 * b.getD k 0 + z) :
  mulIn a b (r.set (i + k) (t % bs)) i (k + 1) (t / bs) := by
 obtain ⟨hl, ho, hc, hv, h0⟩ := h
 have hzb := okL_at ho hz
 have hfit := mul_fits hc (getD_lt ha i) (getD_lt hb k) hzb
 refine ⟨by rw [List.length_set]; exact hl, okL_set ho _ (Nat.mod_lt _ bs_pos), (Nat.div_lt_iff_lt_mul bs_pos).2 (by omega), ?_, ?_⟩
 ·have hs := val_set (t % bs) hz
  rw [val_take_D, ← Nat.add_assoc i k 1, pow_s, Nat.mul_assoc, Nat.mul_add, Nat.mul_add]
  have e : bs ^ (i + k) * (t % bs) + bs ^ (i + k) * (bs * (t / bs)) = bs ^ (i + k) * t := by rw [← Nat.mul_add, Nat.mod_add_div]
  have e2 : bs ^ (i + k) * t = bs ^ (i + k) * c + bs ^ (i + k) * (a.getD i 0 * b.getD k 0) + bs ^ (i + k) * z := by rw [ht, Nat.mul_add, Nat.mul_add]
  have e3 : bs ^ (i + k) * (a.getD i 0 * b.getD k 0) = bs ^ i * (a.getD i 0 * (bs ^ k * b.getD k 0)) := by
   rw [Nat.pow_add, Nat.mul_assoc]
   congr 1
   exact Nat.mul_left_comm _ _ _
  omega
 ·intro j x hj hx
  rw [List.getElem?_set_ne (by omega)] at hx
  exact h0 j x hj hx
theorem mulIn_end {a b r : List Nat} {i c : Nat} (h : mulIn a b r i b.length c) (hi : i < a.length) : mulInv a b (r.set (i + b.length) c) (i + 1) := by
 obtain ⟨hl, ho, hc, hv, h0⟩ := h
 refine ⟨by rw [List.length_set]; exact hl, okL_set ho _ hc, ?_⟩
 have hx : r[i + b.length]? = some (r[i + b.length]'(by omega)) := List.getElem?_eq_getElem _
 have hx0 := h0 _ _ (Nat.le_refl _) hx
 rw [hx0] at hx
 have hs := val_set c hx
 rw [List.take_of_length_le (Nat.le_refl _)] at hv
 rw [val_take_D, Nat.add_mul, Nat.mul_assoc]
 omega
theorem mulInv_end {a b r : List Nat} (h : mulInv a b r a.length) : okL r ∧ val r = val a * val b := by
 obtain ⟨hl, ho, hv⟩ := h
 rw [List.take_of_length_le (Nat.le_refl _)] at hv
 exact ⟨ho, hv⟩
theorem val_drop {l : List Nat} {k x : Nat} (hx : l[k]? = some x) : val (l.drop k) = x + bs * val (l.drop (k + 1)) := by
 have hk := (List.getElem?_eq_some_iff.1 hx).1
 rw [List.drop_eq_getElem_cons hk, (List.getElem?_eq_some_iff.1 hx).2]
 rfl
theorem val_drop_D (l : List Nat) (k : Nat) : val (l.drop k) = l.getD k 0 + bs * val (l.drop (k + 1)) := by
 by_cases hk : k < l.length
 ·have hx : l[k]? = some l[k] := List.getElem?_eq_getElem hk
  rw [val_drop hx, getD_some hx]
 ·rw [List.drop_of_length_le (by omega), List.drop_of_length_le (by omega), getD_over (by omega)]
  rfl
end
section
theorem val_last {l : List Nat} {n x : Nat} (hl : l.length = n + 1) (hx : l[n]? = some x) : val l = val (l.take n) + bs ^ n * x := by
 rw [← val_take_succ hx, List.take_of_length_le (by omega)]
end
end Go.Proofs.YtiibocdmlfedkaaGreatDoor
