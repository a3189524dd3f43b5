/-
  Several texts in one: Plain facts on natural numbers as lists of limbs to the base 2^32, the lowest first. No program in sight. Plain facts on limbs: comparing, storing a limb, sums, differences, products. No program in sight. Plain facts on signed numbers and ratios in normal form, over Lean's own rational numbers. No program in sight. Plain facts on limbs: what one round of adding, subtracting, multiplying, dividing by a limb and shifting does. No program in sight. Plain facts: the estimate of a digit of a quotient (Knuth). No program in sight. Plain facts on limbs: long division (one digit of the quotient; all digits). No program in sight.
-/

/- Plain facts on natural numbers as lists of limbs to the base 2^32, the lowest first. No program in sight. -/
namespace Go.Proofs.YthomflbjijjhaaaGreatDoor

/-- The base. -/
def bs : Nat := 4294967296
theorem bs_pos : 0 < bs := by unfold bs; omega
theorem bs_eq : bs = 4294967296 := rfl

/-- The number that limbs denote. -/
def val : List Nat → Nat
  | [] => 0
  | x :: l => x + bs * val l
/-- All limbs are below the base. -/
def okL (l : List Nat) : Prop := ∀ x ∈ l, x < bs
/-- A list without high zeros. -/
def tight (l : List Nat) : Prop := l.getLast? ≠ some 0

theorem okL_nil : okL [] := fun x h => by cases h
theorem okL_cons {x : Nat} {l : List Nat} : okL (x :: l) ↔ x < bs ∧ okL l := by simp [okL]
theorem okL_append {a b : List Nat} : okL (a ++ b) ↔ okL a ∧ okL b := by
  simp only [okL, List.mem_append]
  exact ⟨fun h => ⟨fun x hx => h x (.inl hx), fun x hx => h x (.inr hx)⟩, fun h x hx => hx.elim (h.1 x) (h.2 x)⟩
theorem okL_take {l : List Nat} (h : okL l) (k : Nat) : okL (l.take k) := fun x hx => h x (List.mem_of_mem_take hx)
theorem okL_drop {l : List Nat} (h : okL l) (k : Nat) : okL (l.drop k) := fun x hx => h x (List.mem_of_mem_drop hx)
theorem okL_at {l : List Nat} {k x : Nat} (h : okL l) (hx : l[k]? = some x) : x < bs := h x (List.mem_of_getElem? hx)

theorem val_append (a b : List Nat) : val (a ++ b) = val a + bs ^ a.length * val b := by
  induction a with
  | nil => simp [val]
  | cons x a ih =>
    simp only [List.cons_append, val, ih, List.length_cons, Nat.pow_succ, Nat.mul_add]
    have : bs * (bs ^ a.length * val b) = bs ^ a.length * bs * val b := by rw [← Nat.mul_assoc, Nat.mul_comm bs]
    omega
theorem val_snoc (a : List Nat) (x : Nat) : val (a ++ [x]) = val a + bs ^ a.length * x := by
  rw [val_append]
  simp [val]
theorem val_lt {l : List Nat} (h : okL l) : val l < bs ^ l.length := by
  induction l with
  | nil => simp [val]
  | cons x l ih =>
    have h2 := okL_cons.1 h
    have ih := ih h2.2
    simp only [val, List.length_cons, Nat.pow_succ]
    have : bs * (val l + 1) ≤ bs * bs ^ l.length := Nat.mul_le_mul_left bs ih
    rw [Nat.mul_add, Nat.mul_one] at this
    rw [Nat.mul_comm (bs ^ l.length) bs]
    omega
theorem val_take_succ {l : List Nat} {k x : Nat} (hx : l[k]? = some x) : val (l.take (k + 1)) = val (l.take k) + bs ^ k * x := by
  have hk := (List.getElem?_eq_some_iff.1 hx).1
  rw [List.take_add_one, hx]
  show val (l.take k ++ [x]) = _
  rw [val_snoc, List.length_take, Nat.min_eq_left (by omega)]
theorem val_zeros (n : Nat) : val (List.replicate n 0) = 0 := by
  induction n with
  | zero => rfl
  | succ n ih => simp [List.replicate_succ, val, ih]
theorem val_append_zeros (l : List Nat) (n : Nat) : val (l ++ List.replicate n 0) = val l := by
  rw [val_append, val_zeros, Nat.mul_zero, Nat.add_zero]

/-! ### the limbs of a number -/
/-- The limbs of a number, without high zeros. -/
def limbs (n : Nat) : List Nat := if _h : n = 0 then [] else (n % bs) :: limbs (n / bs)
termination_by n
decreasing_by exact Nat.div_lt_self (by omega) (by unfold bs; omega)
theorem limbs_zero : limbs 0 = [] := by rw [limbs, dif_pos rfl]
theorem limbs_pos {n : Nat} (h : n ≠ 0) : limbs n = (n % bs) :: limbs (n / bs) := by rw [limbs, dif_neg h]
theorem okL_limbs : ∀ n : Nat, okL (limbs n) := by
  intro n
  induction n using Nat.strongRecOn with
  | _ n ih =>
    by_cases h : n = 0
    · rw [h, limbs_zero]
      exact okL_nil
    · rw [limbs_pos h]
      exact okL_cons.2 ⟨Nat.mod_lt _ bs_pos, ih _ (Nat.div_lt_self (by omega) (by unfold bs; omega))⟩
theorem val_limbs : ∀ n : Nat, val (limbs n) = n := by
  intro n
  induction n using Nat.strongRecOn with
  | _ n ih =>
    by_cases h : n = 0
    · rw [h, limbs_zero]
      rfl
    · rw [limbs_pos h, val, ih _ (Nat.div_lt_self (by omega) (by unfold bs; omega))]
      exact Nat.mod_add_div n bs
theorem limbs_nil {n : Nat} (h : limbs n = []) : n = 0 := by
  have := val_limbs n
  rw [h] at this
  exact this.symm
theorem tight_limbs : ∀ n : Nat, tight (limbs n) := by
  intro n
  induction n using Nat.strongRecOn with
  | _ n ih =>
    by_cases h : n = 0
    · rw [h, limbs_zero]
      simp [tight]
    · have hlt := Nat.div_lt_self (by omega : 0 < n) (by unfold bs; omega : 1 < bs)
      have ih := ih _ hlt
      rw [limbs_pos h]
      by_cases h2 : n / bs = 0
      · rw [h2, limbs_zero]
        intro e
        simp only [List.getLast?_singleton, Option.some.injEq] at e
        have := Nat.mod_add_div n bs
        rw [h2, e] at this
        omega
      · intro e
        apply ih
        cases hl : limbs (n / bs) with
        | nil => exact absurd (limbs_nil hl) h2
        | cons y r =>
          rw [hl] at e
          rw [List.getLast?_cons_cons] at e
          exact e
theorem val_pos_of_tight : ∀ {l : List Nat}, tight l → l ≠ [] → 0 < val l
  | [], _, h => absurd rfl h
  | [x], ht, _ => by
    have : x ≠ 0 := fun e => ht (by simp [e])
    simp only [val]
    omega
  | x :: y :: l, ht, _ => by
    have h2 : tight (y :: l) := fun e => ht (by rw [List.getLast?_cons_cons]; exact e)
    have := val_pos_of_tight h2 (by simp)
    have h3 : 0 < bs * val (y :: l) := Nat.mul_pos bs_pos this
    show 0 < x + bs * val (y :: l)
    omega
/-- A tight list of limbs is the limbs of its number. -/
theorem limbs_val : ∀ {l : List Nat}, okL l → tight l → limbs (val l) = l
  | [], _, _ => limbs_zero
  | x :: l, ho, ht => by
    have ho2 := okL_cons.1 ho
    have ht2 : tight l := by
      cases l with
      | nil => simp [tight]
      | cons y r => exact fun e => ht (by rw [List.getLast?_cons_cons]; exact e)
    have hv := val_pos_of_tight ht (by simp)
    have hd : (x + bs * val l) / bs = val l := by
      rw [Nat.add_mul_div_left _ _ bs_pos, Nat.div_eq_of_lt ho2.1, Nat.zero_add]
    have hm : (x + bs * val l) % bs = x := by
      rw [Nat.add_mul_mod_self_left, Nat.mod_eq_of_lt ho2.1]
    rw [limbs_pos (by omega)]
    show (x + bs * val l) % bs :: limbs ((x + bs * val l) / bs) = x :: l
    rw [hm, hd, limbs_val ho2.2 ht2]
theorem limbs_inj {a b : Nat} (h : limbs a = limbs b) : a = b := by rw [← val_limbs a, h, val_limbs]

/-! ### high zeros struck -/
/-- How many limbs stand without the high zeros. -/
def width (l : List Nat) : Nat := (limbs (val l)).length
theorem tight_of_last {l : List Nat} {k x : Nat} (hk : l.length = k + 1) (hx : l[k]? = some x) (h0 : x ≠ 0) : tight l := by
  intro e
  rw [List.getLast?_eq_getElem?, hk, Nat.add_sub_cancel, hx] at e
  exact h0 (Option.some.inj e)
/-- If all limbs from k on are 0, and limb k - 1 is not, the first k limbs are those of the number. -/
theorem limbs_trim {l : List Nat} {k : Nat} (ho : okL l) (hk : k ≤ l.length) (hz : ∀ j x, k ≤ j → l[j]? = some x → x = 0) (ht : k = 0 ∨ ∃ x, l[k - 1]? = some x ∧ x ≠ 0) : limbs (val l) = l.take k := by
  have hv : val l = val (l.take k) := by
    have e : l = l.take k ++ l.drop k := (List.take_append_drop k l).symm
    have hd : l.drop k = List.replicate (l.length - k) 0 := by
      apply List.ext_getElem?
      intro j
      rw [List.getElem?_drop, List.getElem?_replicate]
      by_cases hj : j < l.length - k
      · rw [if_pos hj]
        have hkj : k + j < l.length := by omega
        have h1 : l[k + j]? = some l[k + j] := List.getElem?_eq_getElem hkj
        rw [h1, hz (k + j) _ (by omega) h1]
      · rw [if_neg hj]
        exact List.getElem?_eq_none (by omega)
    have h2 : val (l.take k ++ List.replicate (l.length - k) 0) = val (l.take k) := val_append_zeros _ _
    rw [← hd, ← e] at h2
    exact h2
  rw [hv]
  refine limbs_val (okL_take ho k) ?_
  rcases ht with rfl | ⟨x, hx, hx0⟩
  · simp [tight]
  · by_cases hk0 : k = 0
    · subst hk0
      simp [tight]
    · have hl : (l.take k).length = (k - 1) + 1 := by rw [List.length_take]; omega
      exact tight_of_last (k := k - 1) (x := x) hl (by rw [List.getElem?_take, if_pos (by omega)]; exact hx) hx0
theorem limbs_take_width {l : List Nat} (ho : okL l) : ∃ k, k ≤ l.length ∧ limbs (val l) = l.take k ∧ k = width l := by
  suffices h : ∀ m : Nat, m ≤ l.length → (∀ j x, m ≤ j → l[j]? = some x → x = 0) → ∃ k, k ≤ l.length ∧ limbs (val l) = l.take k by
    obtain ⟨k, hk, he⟩ := h l.length (Nat.le_refl _) (fun j x hj hx => by have := (List.getElem?_eq_some_iff.1 hx).1; omega)
    exact ⟨k, hk, he, by rw [width, he, List.length_take, Nat.min_eq_left hk]⟩
  intro m
  induction m with
  | zero =>
    intro hm hz
    exact ⟨0, Nat.zero_le _, limbs_trim ho (Nat.zero_le _) hz (.inl rfl)⟩
  | succ m ih =>
    intro hm hz
    have hx : l[m]? = some l[m] := List.getElem?_eq_getElem hm
    by_cases h0 : l[m] = 0
    · refine ih (by omega) fun j x hj hjx => ?_
      by_cases hjm : j = m
      · subst hjm
        rw [hx] at hjx
        rw [← Option.some.inj hjx]
        exact h0
      · exact hz j x (by omega) hjx
    · exact ⟨m + 1, hm, limbs_trim ho hm hz (.inr ⟨l[m], by simp, h0⟩)⟩
theorem limbs_len_le {n k : Nat} (h : n < bs ^ k) : (limbs n).length ≤ k := by
  induction k generalizing n with
  | zero =>
    have : n = 0 := by simpa using h
    rw [this, limbs_zero]
    exact Nat.le_refl _
  | succ k ih =>
    by_cases h0 : n = 0
    · rw [h0, limbs_zero]
      exact Nat.zero_le _
    · rw [limbs_pos h0, List.length_cons]
      have : n / bs < bs ^ k := by
        rw [Nat.div_lt_iff_lt_mul bs_pos, ← Nat.pow_succ]
        exact h
      have := ih this
      omega
theorem width_le (l : List Nat) (ho : okL l) : width l ≤ l.length := by
  obtain ⟨k, hk, _, he⟩ := limbs_take_width ho
  omega
end Go.Proofs.YthomflbjijjhaaaGreatDoor

/- Plain facts on limbs: comparing, storing a limb, sums, differences, products. No program in sight. -/
namespace Go.Proofs.YthomflbjijjhaaaGreatDoor

/-! ### comparing -/
def cmpN (a b : Nat) : Int := if a < b then -1 else if b < a then 1 else 0
theorem cmpN_lt {a b : Nat} (h : a < b) : cmpN a b = -1 := by rw [cmpN, if_pos h]
theorem cmpN_gt {a b : Nat} (h : b < a) : cmpN a b = 1 := by rw [cmpN, if_neg (by omega), if_pos h]
theorem cmpN_eq {a b : Nat} (h : a = b) : cmpN a b = 0 := by rw [cmpN, if_neg (by omega), if_neg (by omega)]
theorem limbs_ge {n k : Nat} (h : k < (limbs n).length) : bs ^ k ≤ n := by
  rcases Nat.lt_or_ge n (bs ^ k) with hlt | hge
  · have := limbs_len_le hlt
    omega
  · exact hge
theorem lt_of_limbs {a b : Nat} (h : (limbs a).length < (limbs b).length) : a < b := by
  have h1 : a < bs ^ (limbs a).length := by
    have := val_lt (okL_limbs a)
    rwa [val_limbs] at this
  exact Nat.lt_of_lt_of_le h1 (limbs_ge h)
/-- Two lists of limbs that agree above place i are compared there. -/
theorem val_lt_of_top {a b : List Nat} {i x y : Nat} (ho : okL a) (hl : a.length = b.length) (hx : a[i]? = some x) (hy : b[i]? = some y) (he : a.drop (i + 1) = b.drop (i + 1)) (hlt : x < y) : val a < val b := by
  have hia := (List.getElem?_eq_some_iff.1 hx).1
  have ea : a = a.take i ++ x :: a.drop (i + 1) := by
    have h1 := (List.take_append_drop i a).symm
    rw [List.drop_eq_getElem_cons hia, (List.getElem?_eq_some_iff.1 hx).2] at h1
    exact h1
  have hib := (List.getElem?_eq_some_iff.1 hy).1
  have eb : b = b.take i ++ y :: b.drop (i + 1) := by
    have h1 := (List.take_append_drop i b).symm
    rw [List.drop_eq_getElem_cons hib, (List.getElem?_eq_some_iff.1 hy).2] at h1
    exact h1
  have hla : (a.take i).length = i := by rw [List.length_take]; omega
  have hlb : (b.take i).length = i := by rw [List.length_take]; omega
  have hva : val a = val (a.take i) + bs ^ i * (x + bs * val (a.drop (i + 1))) := by
    conv => lhs; rw [ea]
    rw [val_append, hla]
    rfl
  have hvb : val b = val (b.take i) + bs ^ i * (y + bs * val (a.drop (i + 1))) := by
    conv => lhs; rw [eb]
    rw [val_append, hlb, he]
    rfl
  have h1 := val_lt (okL_take ho i)
  rw [hla] at h1
  have h2 : bs ^ i * (x + bs * val (a.drop (i + 1)) + 1) ≤ bs ^ i * (y + bs * val (a.drop (i + 1))) := Nat.mul_le_mul_left _ (by omega)
  rw [Nat.mul_add, Nat.mul_one] at h2
  omega

/-! ### storing a limb -/
theorem val_set : ∀ {l : List Nat} {k x : Nat} (v : Nat), l[k]? = some x → val (l.set k v) + bs ^ k * x = val l + bs ^ k * v
  | [], k, x, v, h => by simp at h
  | y :: l, 0, x, v, h => by
    have e : y = x := by simpa using h
    subst e
    simp only [List.set_cons_zero, val, Nat.pow_zero, Nat.one_mul]
    omega
  | y :: l, k + 1, x, v, h => by
    have ih := val_set (l := l) (k := k) (x := x) v (by simpa using h)
    simp only [List.set_cons_succ, val, Nat.pow_succ]
    have e1 : bs ^ k * bs * x = bs * (bs ^ k * x) := by rw [Nat.mul_comm (bs ^ k) bs, Nat.mul_assoc]
    have e2 : bs ^ k * bs * v = bs * (bs ^ k * v) := by rw [Nat.mul_comm (bs ^ k) bs, Nat.mul_assoc]
    have e3 := congrArg (bs * ·) ih
    simp only [Nat.mul_add] at e3
    omega
theorem okL_set {l : List Nat} (h : okL l) (k : Nat) {v : Nat} (hv : v < bs) : okL (l.set k v) := by
  intro x hx
  rcases List.mem_or_eq_of_mem_set hx with h1 | h1
  · exact h x h1
  · omega
theorem okL_zeros (n : Nat) : okL (List.replicate n 0) := by
  intro x hx
  rw [(List.mem_replicate.1 hx).2]
  exact bs_pos
end Go.Proofs.YthomflbjijjhaaaGreatDoor

/- Plain facts on signed numbers and ratios in normal form, over Lean's own rational numbers. No program in sight. -/
namespace Go.Proofs.YthomflbjijjhaaaGreatDoor

/-- The integer with a sign and a magnitude. -/
def sgn (neg : Bool) (a : Nat) : Int := if neg = true then -(a : Int) else a
theorem sgn_true (a : Nat) : sgn true a = -(a : Int) := rfl
theorem sgn_false (a : Nat) : sgn false a = a := rfl
theorem sgn_abs (neg : Bool) (a : Nat) : (sgn neg a).natAbs = a := by cases neg <;> simp [sgn]
/-- The sign of an integer in normal form. -/
def ineg (i : Int) : Bool := decide (i < 0)
theorem sgn_self (i : Int) : sgn (ineg i) i.natAbs = i := by
  unfold sgn ineg
  by_cases h : i < 0
  · rw [if_pos (by simpa using h)]
    omega
  · rw [if_neg (by simpa using h)]
    omega
theorem ineg_sgn (neg : Bool) (a : Nat) : ineg (sgn neg a) = (neg && decide (0 < a)) := by
  unfold ineg
  cases neg
  · simp [sgn]
  · simp only [sgn, if_true, Bool.true_and, decide_eq_decide]
    omega
theorem sgn_not (neg : Bool) (a : Nat) : sgn (!neg) a = -sgn neg a := by cases neg <;> simp [sgn]
theorem sgn_mul (m n : Bool) (a b : Nat) : sgn (m != n) (a * b) = sgn m a * sgn n b := by cases m <;> cases n <;> simp [sgn, Int.mul_neg, Int.neg_mul]
theorem sgn_add_same (m : Bool) (a b : Nat) : sgn m (a + b) = sgn m a + sgn m b := by cases m <;> simp [sgn] <;> omega
theorem sgn_add_ge {m n : Bool} {a b : Nat} (hne : m ≠ n) (h : b ≤ a) : sgn m (a - b) = sgn m a + sgn n b := by
  cases m <;> cases n <;> simp [sgn] at hne ⊢ <;> omega
theorem sgn_add_lt {m n : Bool} {a b : Nat} (hne : m ≠ n) (h : a ≤ b) : sgn n (b - a) = sgn m a + sgn n b := by
  cases m <;> cases n <;> simp [sgn] at hne ⊢ <;> omega

/-! ### comparing -/
def cmpI (a b : Int) : Int := if a < b then -1 else if b < a then 1 else 0

/-! ### ratios -/
/-- The value of a ratio that is not in normal form; 0 for the denominator 0. -/
def rv (i : Int) (d : Nat) : Rat := mkRat i d
theorem rv_self (q : Rat) : rv q.num q.den = q := Rat.mkRat_self q
theorem rv_zero (i : Int) : rv i 0 = 0 := Rat.mkRat_zero i
theorem rv_num {i : Int} {d : Nat} (hd : d ≠ 0) : (rv i d).num.natAbs = i.natAbs / i.natAbs.gcd d ∧ (rv i d).den = d / i.natAbs.gcd d := by
  constructor
  · rw [rv, Rat.num_mkRat, if_neg hd, Nat.gcd_comm, Int.natAbs_ediv_of_dvd]
    · simp
    · exact Int.ofNat_dvd_left.2 (Nat.gcd_dvd_left _ _)
  · rw [rv, Rat.den_mkRat, if_neg hd, Nat.gcd_comm]
theorem gcd_pos' {a d : Nat} (hd : d ≠ 0) : 0 < a.gcd d := Nat.gcd_pos_of_pos_right _ (by omega)
theorem rv_neg {i : Int} {d : Nat} (hd : d ≠ 0) : ineg (rv i d).num = ineg (sgn (ineg i) (i.natAbs / i.natAbs.gcd d)) := by
  have h1 : (rv i d).num = i / (i.natAbs.gcd d : Nat) := by rw [rv, Rat.num_mkRat, if_neg hd, Nat.gcd_comm]
  have hg : 0 < i.natAbs.gcd d := gcd_pos' hd
  have hdv : ((i.natAbs.gcd d : Nat) : Int) ∣ i := Int.ofNat_dvd_left.2 (Nat.gcd_dvd_left _ _)
  rw [ineg_sgn, h1]
  generalize i.natAbs.gcd d = g at *
  obtain ⟨k, rfl⟩ := hdv
  have hg0 : (g : Int) ≠ 0 := by omega
  rw [Int.mul_ediv_cancel_left _ hg0, Int.natAbs_mul, Int.natAbs_natCast, Nat.mul_div_cancel_left _ hg]
  unfold ineg
  by_cases hk : k < 0
  · have h2 : (g : Int) * k < 0 := Int.mul_neg_of_pos_of_neg (by omega) hk
    have h3 : 0 < k.natAbs := by omega
    simp [hk, h2, h3]
  · have h2 : ¬ (g : Int) * k < 0 := by
      have := Int.mul_nonneg (by omega : (0 : Int) ≤ g) (by omega : 0 ≤ k)
      omega
    simp [hk, h2]
theorem rv_add (i j : Int) {d e : Nat} (hd : d ≠ 0) (he : e ≠ 0) : rv i d + rv j e = rv (i * e + j * d) (d * e) := Rat.mkRat_add_mkRat i j hd he
theorem rv_mul (i j : Int) (d e : Nat) : rv i d * rv j e = rv (i * j) (d * e) := Rat.mkRat_mul_mkRat i j d e
theorem rv_minus (i : Int) (d : Nat) : -rv i d = rv (-i) d := Rat.neg_mkRat i d
theorem rv_eq_zero {i : Int} {d : Nat} (hd : d ≠ 0) : rv i d = 0 ↔ i = 0 := Rat.mkRat_eq_zero hd
/-- Comparing across. -/
theorem rv_eq {i j : Int} {d e : Nat} (hd : d ≠ 0) (he : e ≠ 0) : rv i d = rv j e ↔ i * e = j * d := Rat.mkRat_eq_iff hd he
theorem rv_one (i : Int) : (rv i 1).num = i ∧ (rv i 1).den = 1 := by
  have h := rv_num (i := i) (d := 1) (by omega)
  refine ⟨?_, by rw [h.2, Nat.gcd_one_right]⟩
  rw [rv, Rat.num_mkRat, if_neg (by omega)]
  simp
theorem rv_coprime {i : Int} {d : Nat} (hd : d ≠ 0) (hg : i.natAbs.gcd d = 1) : (rv i d).num = i ∧ (rv i d).den = d := by
  constructor
  · rw [rv, Rat.num_mkRat, if_neg hd, Nat.gcd_comm, hg]
    simp
  · rw [rv, Rat.den_mkRat, if_neg hd, Nat.gcd_comm, hg, Nat.div_one]
theorem den_ne (q : Rat) : q.den ≠ 0 := q.den_nz
theorem num_zero {q : Rat} (h : q.num.natAbs = 0) : q = 0 := Rat.num_eq_zero.1 (by omega)
end Go.Proofs.YthomflbjijjhaaaGreatDoor

/- Plain facts on limbs: what one round of adding, subtracting, multiplying, dividing by a limb and shifting does. No program in sight. -/
namespace Go.Proofs.YthomflbjijjhaaaGreatDoor

theorem val_take_D (l : List Nat) (k : Nat) : val (l.take (k + 1)) = val (l.take k) + bs ^ k * l.getD k 0 := by
  by_cases hk : k < l.length
  · have hx : l[k]? = some l[k] := List.getElem?_eq_getElem hk
    rw [val_take_succ hx]
    simp [hx]
  · rw [List.take_of_length_le (by omega), List.take_of_length_le (by omega)]
    simp [List.getElem?_eq_none (by omega : l.length ≤ k)]
theorem getD_lt {l : List Nat} (h : okL l) (k : Nat) : l.getD k 0 < bs := by
  by_cases hk : k < l.length
  · have hx : l[k]? = some l[k] := List.getElem?_eq_getElem hk
    rw [List.getD_eq_getElem?_getD, hx]
    exact okL_at h hx
  · rw [List.getD_eq_getElem?_getD, List.getElem?_eq_none (by omega)]
    exact bs_pos
theorem getD_some {l : List Nat} {k x : Nat} (h : l[k]? = some x) : l.getD k 0 = x := by rw [List.getD_eq_getElem?_getD, h]; rfl
theorem getD_over {l : List Nat} {k : Nat} (h : l.length ≤ k) : l.getD k 0 = 0 := by rw [List.getD_eq_getElem?_getD, List.getElem?_eq_none h]; rfl
theorem okL_snoc {l : List Nat} {x : Nat} (h : okL l) (hx : x < bs) : okL (l ++ [x]) := okL_append.2 ⟨h, okL_cons.2 ⟨hx, okL_nil⟩⟩
theorem pow_s (k : Nat) : bs ^ (k + 1) = bs ^ k * bs := Nat.pow_succ ..
theorem bpow_pos (k : Nat) : 0 < bs ^ k := Nat.pow_pos bs_pos

/-! ### adding -/
/-- k limbs of a sum stand in o, and c is carried. -/
def addInv (a b o : List Nat) (k c : Nat) : Prop := o.length = k ∧ okL o ∧ c ≤ 1 ∧ val o + bs ^ k * c = val (a.take k) + val (b.take k)
theorem addInv_zero (a b : List Nat) : addInv a b [] 0 0 := ⟨rfl, okL_nil, by omega, by simp [val]⟩
theorem addInv_succ {a b o : List Nat} {k c t : Nat} (ha : okL a) (hb : okL b) (h : addInv a b o k c) (ht : t = c + a.getD k 0 + b.getD k 0) : addInv a b (o ++ [t % bs]) (k + 1) (t / bs) := by
  obtain ⟨hl, ho, hc, hv⟩ := h
  have h1 := getD_lt ha k
  have h2 := getD_lt hb k
  refine ⟨by simp [hl], okL_snoc ho (Nat.mod_lt _ bs_pos), ?_, ?_⟩
  · have : t / bs < 2 := (Nat.div_lt_iff_lt_mul bs_pos).2 (by omega)
    omega
  · rw [val_snoc, hl, val_take_D, val_take_D, pow_s, Nat.mul_assoc]
    have e : bs ^ k * (t % bs) + bs ^ k * (bs * (t / bs)) = bs ^ k * t := by rw [← Nat.mul_add, Nat.mod_add_div]
    have e2 : bs ^ k * t = bs ^ k * c + bs ^ k * a.getD k 0 + bs ^ k * b.getD k 0 := by rw [ht, Nat.mul_add, Nat.mul_add]
    omega
theorem addInv_end {a b o : List Nat} {k c : Nat} (h : addInv a b o k c) (ha : a.length ≤ k) (hb : b.length ≤ k) : okL (o ++ [c]) ∧ val (o ++ [c]) = val a + val b := by
  obtain ⟨hl, ho, hc, hv⟩ := h
  rw [List.take_of_length_le ha, List.take_of_length_le hb] at hv
  exact ⟨okL_snoc ho (by unfold bs; omega), by rw [val_snoc, hl, hv]⟩
theorem addInv_end0 {a b o : List Nat} {k : Nat} (h : addInv a b o k 0) (ha : a.length ≤ k) (hb : b.length ≤ k) : okL o ∧ val o = val a + val b := by
  obtain ⟨hl, ho, hc, hv⟩ := h
  rw [List.take_of_length_le ha, List.take_of_length_le hb] at hv
  exact ⟨ho, by simpa using hv⟩

/-! ### subtracting -/
/-- k limbs of a difference stand in o, and c is borrowed. -/
def subInv (a b o : List Nat) (k c : Nat) : Prop := o.length = k ∧ okL o ∧ c ≤ 1 ∧ val o + val (b.take k) = val (a.take k) + bs ^ k * c
theorem subInv_zero (a b : List Nat) : subInv a b [] 0 0 := ⟨rfl, okL_nil, by omega, by simp [val]⟩
/-- d is the new limb, c' the new borrow. -/
theorem subInv_succ {a b o : List Nat} {k c d c' : Nat} (h : subInv a b o k c) (hd : d < bs) (hc' : c' ≤ 1) (ht : d + b.getD k 0 + c = a.getD k 0 + bs * c') : subInv a b (o ++ [d]) (k + 1) c' := by
  obtain ⟨hl, ho, hc, hv⟩ := h
  refine ⟨by simp [hl], okL_snoc ho hd, hc', ?_⟩
  rw [val_snoc, hl, val_take_D, val_take_D, pow_s, Nat.mul_assoc]
  have e2 := congrArg (bs ^ k * ·) ht
  simp only [Nat.mul_add] at e2
  omega
theorem subInv_end {a b o : List Nat} {k c : Nat} (h : subInv a b o k c) (ha : a.length ≤ k) (hb : b.length ≤ k) (hle : val b ≤ val a) : val o = val a - val b := by
  obtain ⟨hl, ho, hc, hv⟩ := h
  rw [List.take_of_length_le ha, List.take_of_length_le hb] at hv
  have hlt := val_lt ho
  rw [hl] at hlt
  have : c = 0 := by
    rcases Nat.eq_zero_or_pos c with h0 | h0
    · exact h0
    · have : c = 1 := by omega
      subst this
      omega
  subst this
  omega

/-! ### multiplying -/
theorem zero_above {l : List Nat} {k j x : Nat} (h : val l < bs ^ k) (hj : k ≤ j) (hx : l[j]? = some x) : x = 0 := by
  rcases Nat.eq_zero_or_pos x with h0 | h0
  · exact h0
  · exfalso
    have h1 := val_take_succ hx
    have h2 : val (l.take (j + 1)) ≤ val l := by
      have e := congrArg val (List.take_append_drop (j + 1) l)
      rw [val_append] at e
      omega
    have h3 : bs ^ k ≤ bs ^ j := Nat.pow_le_pow_right bs_pos hj
    have h4 : bs ^ j * 1 ≤ bs ^ j * x := Nat.mul_le_mul_left _ h0
    omega
/-- Rows 0 to i - 1 of a product stand in r. -/
def mulInv (a b r : List Nat) (i : Nat) : Prop := r.length = a.length + b.length ∧ okL r ∧ val r = val (a.take i) * val b
theorem mulInv_zero (a b : List Nat) : mulInv a b (List.replicate (a.length + b.length) 0) 0 := ⟨by simp, okL_zeros _, by rw [val_zeros]; simp [val]⟩
/-- ... and of row i the first k limbs, with c carried. -/
def mulIn (a b r : List Nat) (i k c : Nat) : Prop :=
  r.length = a.length + b.length ∧ okL r ∧ c < bs ∧ val r + bs ^ (i + k) * c = val (a.take i) * val b + bs ^ i * (a.getD i 0 * val (b.take k)) ∧ ∀ j x, i + b.length ≤ j → r[j]? = some x → x = 0
theorem mulIn_zero {a b r : List Nat} {i : Nat} (ha : okL a) (hb : okL b) (h : mulInv a b r i) (hi : i ≤ a.length) : mulIn a b r i 0 0 := by
  obtain ⟨hl, ho, hv⟩ := h
  refine ⟨hl, ho, bs_pos, by simp [hv, val], fun j x hj hx => zero_above (k := i + b.length) ?_ hj hx⟩
  rw [hv, Nat.pow_add]
  have h1 := val_lt (okL_take ha i)
  have h2 := val_lt hb
  rw [List.length_take, Nat.min_eq_left hi] at h1
  exact Nat.mul_lt_mul_of_lt_of_lt h1 h2
theorem mul_fits {c x y z : Nat} (hc : c < bs) (hx : x < bs) (hy : y < bs) (hz : z < bs) : c + x * y + z < bs * bs := by
  have h1 : x * y ≤ (bs - 1) * (bs - 1) := Nat.mul_le_mul (by omega) (by omega)
  unfold bs at *
  omega
theorem mulIn_succ {a b r : List Nat} {i k c z t : Nat} (ha : okL a) (hb : okL b) (h : mulIn a b r i k c) (hk : k < b.length) (hz : r[i + k]? = some z) (ht : t = c + a.getD i 0 * b.getD k 0 + z) :
    mulIn a b (r.set (i + k) (t % bs)) i (k + 1) (t / bs) := by
  obtain ⟨hl, ho, hc, hv, h0⟩ := h
  have hzb := okL_at ho hz
  have hfit := mul_fits hc (getD_lt ha i) (getD_lt hb k) hzb
  refine ⟨by rw [List.length_set]; exact hl, okL_set ho _ (Nat.mod_lt _ bs_pos), (Nat.div_lt_iff_lt_mul bs_pos).2 (by omega), ?_, ?_⟩
  · have hs := val_set (t % bs) hz
    rw [val_take_D, ← Nat.add_assoc i k 1, pow_s, Nat.mul_assoc, Nat.mul_add, Nat.mul_add]
    have e : bs ^ (i + k) * (t % bs) + bs ^ (i + k) * (bs * (t / bs)) = bs ^ (i + k) * t := by rw [← Nat.mul_add, Nat.mod_add_div]
    have e2 : bs ^ (i + k) * t = bs ^ (i + k) * c + bs ^ (i + k) * (a.getD i 0 * b.getD k 0) + bs ^ (i + k) * z := by rw [ht, Nat.mul_add, Nat.mul_add]
    have e3 : bs ^ (i + k) * (a.getD i 0 * b.getD k 0) = bs ^ i * (a.getD i 0 * (bs ^ k * b.getD k 0)) := by
      rw [Nat.pow_add, Nat.mul_assoc]
      congr 1
      exact Nat.mul_left_comm _ _ _
    omega
  · intro j x hj hx
    rw [List.getElem?_set_ne (by omega)] at hx
    exact h0 j x hj hx
theorem mulIn_end {a b r : List Nat} {i c : Nat} (h : mulIn a b r i b.length c) (hi : i < a.length) : mulInv a b (r.set (i + b.length) c) (i + 1) := by
  obtain ⟨hl, ho, hc, hv, h0⟩ := h
  refine ⟨by rw [List.length_set]; exact hl, okL_set ho _ hc, ?_⟩
  have hx : r[i + b.length]? = some (r[i + b.length]'(by omega)) := List.getElem?_eq_getElem _
  have hx0 := h0 _ _ (Nat.le_refl _) hx
  rw [hx0] at hx
  have hs := val_set c hx
  rw [List.take_of_length_le (Nat.le_refl _)] at hv
  rw [val_take_D, Nat.add_mul, Nat.mul_assoc]
  omega
theorem mulInv_end {a b r : List Nat} (h : mulInv a b r a.length) : okL r ∧ val r = val a * val b := by
  obtain ⟨hl, ho, hv⟩ := h
  rw [List.take_of_length_le (Nat.le_refl _)] at hv
  exact ⟨ho, hv⟩

/-! ### dividing by one limb -/
theorem val_drop {l : List Nat} {k x : Nat} (hx : l[k]? = some x) : val (l.drop k) = x + bs * val (l.drop (k + 1)) := by
  have hk := (List.getElem?_eq_some_iff.1 hx).1
  rw [List.drop_eq_getElem_cons hk, (List.getElem?_eq_some_iff.1 hx).2]
  rfl
theorem drop_set_self {l : List Nat} {k : Nat} (v : Nat) (hk : k < l.length) : (l.set k v).drop k = v :: l.drop (k + 1) := by
  rw [List.drop_eq_getElem_cons (by rw [List.length_set]; exact hk)]
  have e : (l.set k v).drop (k + 1) = l.drop (k + 1) := by
    apply List.ext_getElem?
    intro j
    rw [List.getElem?_drop, List.getElem?_drop, List.getElem?_set_ne (by omega)]
  rw [e]
  simp
/-- Limbs from i on of a quotient stand in q, and r is left. -/
def divInv (a q : List Nat) (d i r : Nat) : Prop := q.length = a.length ∧ okL q ∧ r < d ∧ val (a.drop i) = val (q.drop i) * d + r
theorem divInv_start {a q : List Nat} {d : Nat} (hd : 0 < d) (hl : q.length = a.length) (ho : okL q) : divInv a q d a.length 0 :=
  ⟨hl, ho, hd, by rw [List.drop_length, ← hl, List.drop_length]; simp [val]⟩
theorem divInv_succ {a q : List Nat} {d i r x t : Nat} (h : divInv a q d (i + 1) r) (hx : a[i]? = some x) (hxb : x < bs) (ht : t = r * bs + x) : divInv a (q.set i (t / d)) d i (t % d) ∧ t / d < bs := by
  obtain ⟨hl, ho, hr, hv⟩ := h
  have hi := (List.getElem?_eq_some_iff.1 hx).1
  have hd : 0 < d := by omega
  have hq : t / d < bs := by
    rw [Nat.div_lt_iff_lt_mul hd]
    have : (r + 1) * bs ≤ d * bs := Nat.mul_le_mul_right _ hr
    rw [Nat.add_mul, Nat.one_mul, Nat.mul_comm d] at this
    omega
  refine ⟨⟨by rw [List.length_set]; exact hl, okL_set ho _ hq, Nat.mod_lt _ hd, ?_⟩, hq⟩
  rw [val_drop hx, drop_set_self _ (by omega)]
  show _ = (t / d + bs * val (q.drop (i + 1))) * d + t % d
  rw [hv, Nat.add_mul]
  have e := Nat.mod_add_div t d
  rw [Nat.mul_comm d] at e
  have e2 : bs * (val (q.drop (i + 1)) * d + r) = bs * val (q.drop (i + 1)) * d + r * bs := by rw [Nat.mul_add, Nat.mul_assoc, Nat.mul_comm bs r]
  omega
theorem divInv_end {a q : List Nat} {d r : Nat} (h : divInv a q d 0 r) : val q = val a / d ∧ r = val a % d := by
  obtain ⟨hl, ho, hr, hv⟩ := h
  simp only [List.drop_zero] at hv
  have hd : 0 < d := by omega
  constructor
  · rw [hv, Nat.mul_comm, Nat.mul_add_div hd, Nat.div_eq_of_lt hr, Nat.add_zero]
  · rw [hv, Nat.mul_comm, Nat.mul_add_mod, Nat.mod_eq_of_lt hr]

/-! ### shifting to the left -/
/-- Limbs 0 to i - 1 are shifted into r; limb i of r has what was shifted out. -/
def leftInv (a r : List Nat) (s i : Nat) : Prop :=
  r.length = a.length + 1 ∧ okL r ∧ val r = val (a.take i) * 2 ^ s ∧ r.getD i 0 < 2 ^ s ∧ ∀ j x, i < j → r[j]? = some x → x = 0
theorem leftInv_zero (a : List Nat) (s : Nat) : leftInv a (List.replicate (a.length + 1) 0) s 0 := by
  refine ⟨by simp, okL_zeros _, by rw [val_zeros]; simp [val], ?_, ?_⟩
  · rw [getD_some (x := 0) (by simp)]
    exact Nat.pow_pos (by omega)
  · intro j x _ hx
    rw [List.getElem?_replicate] at hx
    split at hx
    · exact (Option.some.inj hx).symm
    · cases hx
theorem bs_split {s : Nat} (hs : s ≤ 31) : bs = 2 ^ s * 2 ^ (32 - s) := by
  rw [← Nat.pow_add, show s + (32 - s) = 32 by omega]
  rfl
theorem leftInv_succ {a r : List Nat} {s i x z : Nat} (hs : s ≤ 31) (h : leftInv a r s i) (hx : a[i]? = some x) (hxb : x < bs) (hz : r[i]? = some z) :
    leftInv a ((r.set i (z + x * 2 ^ s % bs)).set (i + 1) (x * 2 ^ s / bs)) s (i + 1) ∧ z + x * 2 ^ s % bs < bs ∧ x * 2 ^ s / bs < bs ∧ z ||| (x * 2 ^ s % bs) = z + x * 2 ^ s % bs := by
  obtain ⟨hl, ho, hv, hzs, h0⟩ := h
  rw [getD_some hz] at hzs
  have hi := (List.getElem?_eq_some_iff.1 hx).1
  have hp : 0 < 2 ^ s := Nat.pow_pos (by omega)
  have hm : x * 2 ^ s % bs = 2 ^ s * (x % 2 ^ (32 - s)) := by
    rw [bs_split hs, Nat.mul_comm x, Nat.mul_mod_mul_left]
  have hq : x * 2 ^ s / bs < 2 ^ s := by
    rw [Nat.div_lt_iff_lt_mul bs_pos, Nat.mul_comm (2 ^ s) bs]
    exact Nat.mul_lt_mul_of_pos_right hxb hp
  have hpb : 2 ^ s ≤ bs := by
    rw [bs_split hs]
    exact Nat.le_mul_of_pos_right _ (Nat.pow_pos (by omega))
  have hsum : z + x * 2 ^ s % bs < bs := by
    rw [hm]
    have h1 : x % 2 ^ (32 - s) < 2 ^ (32 - s) := Nat.mod_lt _ (Nat.pow_pos (by omega))
    have h2 : 2 ^ s * (x % 2 ^ (32 - s) + 1) ≤ 2 ^ s * 2 ^ (32 - s) := Nat.mul_le_mul_left _ h1
    rw [← bs_split hs, Nat.mul_add, Nat.mul_one] at h2
    omega
  have hor : z ||| (x * 2 ^ s % bs) = z + x * 2 ^ s % bs := by
    rw [hm, Nat.or_comm, ← Nat.two_pow_add_eq_or_of_lt hzs, Nat.add_comm]
  refine ⟨⟨by simp [hl], okL_set (okL_set ho _ hsum) _ (by omega), ?_, ?_, ?_⟩, hsum, by omega, hor⟩
  · have hs1 := val_set (z + x * 2 ^ s % bs) hz
    have hi1 : i + 1 < r.length := by omega
    have hy : (r.set i (z + x * 2 ^ s % bs))[i + 1]? = some 0 := by
      rw [List.getElem?_set_ne (by omega), List.getElem?_eq_getElem hi1, h0 (i + 1) _ (by omega) (List.getElem?_eq_getElem hi1)]
    have hs2 := val_set (x * 2 ^ s / bs) hy
    rw [val_take_succ hx, Nat.add_mul]
    have e : bs ^ i * (x * 2 ^ s % bs) + bs ^ (i + 1) * (x * 2 ^ s / bs) = bs ^ i * x * 2 ^ s := by
      rw [pow_s, Nat.mul_assoc, ← Nat.mul_add, Nat.mod_add_div, Nat.mul_assoc]
    rw [Nat.mul_add] at hs1
    omega
  · rw [getD_some (x := x * 2 ^ s / bs) (by rw [List.getElem?_set_self (by rw [List.length_set]; omega)])]
    exact hq
  · intro j y hj hy
    rw [List.getElem?_set_ne (by omega), List.getElem?_set_ne (by omega)] at hy
    exact h0 j y (by omega) hy
theorem leftInv_end {a r : List Nat} {s : Nat} (h : leftInv a r s a.length) : okL r ∧ val r = val a * 2 ^ s ∧ r.getD a.length 0 < 2 ^ s := by
  obtain ⟨hl, ho, hv, hz, h0⟩ := h
  rw [List.take_of_length_le (Nat.le_refl _)] at hv
  exact ⟨ho, hv, hz⟩

/-! ### shifting to the right -/
/-- Limbs 0 to i - 1 of a shifted number stand in r. -/
def rightInv (a r : List Nat) (s i : Nat) : Prop := r.length = a.length ∧ okL r ∧ val (r.take i) + bs ^ i * (val (a.drop i) / 2 ^ s) = val a / 2 ^ s
theorem rightInv_zero {a r : List Nat} {s : Nat} (hl : r.length = a.length) (ho : okL r) : rightInv a r s 0 := ⟨hl, ho, by simp [val]⟩
theorem val_drop_D (l : List Nat) (k : Nat) : val (l.drop k) = l.getD k 0 + bs * val (l.drop (k + 1)) := by
  by_cases hk : k < l.length
  · have hx : l[k]? = some l[k] := List.getElem?_eq_getElem hk
    rw [val_drop hx, getD_some hx]
  · rw [List.drop_of_length_le (by omega), List.drop_of_length_le (by omega), getD_over (by omega)]
    rfl
theorem rightInv_succ {a r : List Nat} {s i : Nat} (hs : s ≤ 31) (ha : okL a) (h : rightInv a r s i) (hi : i < a.length) :
    rightInv a (r.set i ((a.getD i 0 + bs * a.getD (i + 1) 0) / 2 ^ s % bs)) s (i + 1) := by
  obtain ⟨hl, ho, hv⟩ := h
  have hp : 0 < 2 ^ s := Nat.pow_pos (by omega)
  refine ⟨by rw [List.length_set]; exact hl, okL_set ho _ (Nat.mod_lt _ bs_pos), ?_⟩
  have h1 : (r.set i ((a.getD i 0 + bs * a.getD (i + 1) 0) / 2 ^ s % bs)).take (i + 1) = r.take i ++ [(a.getD i 0 + bs * a.getD (i + 1) 0) / 2 ^ s % bs] := by
    rw [List.take_add_one, List.getElem?_set_self (by omega)]
    rw [List.take_set_of_le (Nat.le_refl _)]
    rfl
  rw [h1, val_snoc, List.length_take, Nat.min_eq_left (by omega), ← hv]
  have hA := val_drop_D a i
  have hA1 := val_drop_D a (i + 1)
  have hmod : (a.getD i 0 + bs * a.getD (i + 1) 0) / 2 ^ s % bs = val (a.drop i) / 2 ^ s % bs := by
    rw [hA, hA1, Nat.mul_add, ← Nat.add_assoc]
    have e : bs * (bs * val (a.drop (i + 1 + 1))) = 2 ^ s * (bs * (2 ^ (32 - s) * val (a.drop (i + 1 + 1)))) := by
      conv => lhs; lhs; rw [bs_split hs]
      rw [Nat.mul_assoc]
      congr 1
      exact Nat.mul_left_comm _ _ _
    rw [e, Nat.add_mul_div_left _ _ hp, Nat.add_mul_mod_self_left]
  have hdiv : val (a.drop (i + 1)) / 2 ^ s = val (a.drop i) / 2 ^ s / bs := by
    rw [Nat.div_div_eq_div_mul, Nat.mul_comm, ← Nat.div_div_eq_div_mul, hA, Nat.add_mul_div_left _ _ bs_pos, Nat.div_eq_of_lt (getD_lt ha i), Nat.zero_add]
  rw [hmod, hdiv, pow_s, Nat.mul_assoc, Nat.add_assoc, ← Nat.mul_add, Nat.mod_add_div]
theorem rightInv_end {a r : List Nat} {s : Nat} (h : rightInv a r s a.length) : okL r ∧ val r = val a / 2 ^ s := by
  obtain ⟨hl, ho, hv⟩ := h
  rw [List.take_of_length_le (by omega), List.drop_length] at hv
  refine ⟨ho, ?_⟩
  have : val [] / 2 ^ s = 0 := by simp [val]
  rw [this] at hv
  omega
end Go.Proofs.YthomflbjijjhaaaGreatDoor

/- Plain facts: the estimate of a digit of a quotient (Knuth). No program in sight. -/
namespace Go.Proofs.YthomflbjijjhaaaGreatDoor
section
variable {B P U V top u2 lowU high v2 lowV q r : Nat}

theorem kn_first (hU : U = (top * B + u2) * P + lowU) (hV : V = (high * B + v2) * P + lowV) (hlU : lowU < P) (hu2 : u2 < B) (hh : 0 < high) : U / V ≤ top / high := by
  rw [Nat.le_div_iff_mul_le hh]
  rcases Nat.lt_or_ge top (U / V * high) with h | h
  · exfalso
    have h1 : U / V * V ≤ U := Nat.div_mul_le_self U V
    have h2 : (top + 1) * (B * P) ≤ U / V * high * (B * P) := Nat.mul_le_mul_right _ h
    have h3 : U / V * (high * (B * P)) ≤ U / V * V := Nat.mul_le_mul_left _ (by
      rw [hV, Nat.add_mul, Nat.mul_assoc]
      omega)
    have h4 : (u2 + 1) * P ≤ B * P := Nat.mul_le_mul_right _ hu2
    rw [Nat.add_mul, Nat.one_mul] at h2 h4
    rw [Nat.mul_assoc (U / V)] at h2
    have h5 : (top * B + u2) * P = top * (B * P) + u2 * P := by rw [Nat.add_mul, Nat.mul_assoc]
    omega
  · exact h
theorem kn_step (hU : U = (top * B + u2) * P + lowU) (hV : V = (high * B + v2) * P + lowV) (hlU : lowU < P) (hUV : U < V * B) (hq : q * high + r = top) (h : B ≤ q ∨ r * B + u2 < q * v2) : U / V < q := by
  have hVpos : 0 < V := by
    rcases Nat.eq_zero_or_pos V with h0 | h0
    · rw [h0, Nat.zero_mul] at hUV
      omega
    · exact h0
  rw [Nat.div_lt_iff_lt_mul hVpos]
  rcases h with h | h
  · exact Nat.lt_of_lt_of_le hUV (by rw [Nat.mul_comm]; exact Nat.mul_le_mul_right _ h)
  · have h1 : top * B + u2 + 1 ≤ q * (high * B + v2) := by
      rw [← hq, Nat.add_mul, Nat.mul_add, Nat.mul_assoc]
      omega
    have h2 : (top * B + u2 + 1) * P ≤ q * (high * B + v2) * P := Nat.mul_le_mul_right _ h1
    rw [Nat.add_mul, Nat.one_mul, Nat.mul_assoc q] at h2
    have h3 : q * ((high * B + v2) * P) ≤ q * V := Nat.mul_le_mul_left _ (by omega)
    omega
theorem kn_last (hU : U = (top * B + u2) * P + lowU) (hV : V = (high * B + v2) * P + lowV) (hlV : lowV < P) (hv2 : v2 < B) (hh : 0 < high) (hUV : U < V * B) (hq : q * high + r = top)
    (hex : B ≤ r ∨ ¬ (B ≤ q ∨ r * B + u2 < q * v2)) : q < B ∧ q ≤ U / V + 1 := by
  have hVpos : 0 < V := by
    rcases Nat.eq_zero_or_pos V with h0 | h0
    · rw [h0, Nat.zero_mul] at hUV
      omega
    · exact h0
  have hPpos : 0 < P := by omega
  -- top is at most high * B + B - 1
  have htop : top < (high + 1) * B := by
    rcases Nat.lt_or_ge top ((high + 1) * B) with h | h
    · exact h
    · exfalso
      have h1 : (high + 1) * B * (B * P) ≤ top * (B * P) := Nat.mul_le_mul_right _ h
      have h2 : V ≤ (high + 1) * (B * P) := by
        have h3 : (v2 + 1) * P ≤ B * P := Nat.mul_le_mul_right _ hv2
        rw [Nat.add_mul, Nat.one_mul] at h3
        rw [hV, Nat.add_mul, Nat.add_mul, Nat.one_mul, Nat.mul_assoc]
        omega
      have h4 : V * B ≤ (high + 1) * (B * P) * B := Nat.mul_le_mul_right _ h2
      have h5 : (high + 1) * B * (B * P) = (high + 1) * (B * P) * B := Nat.mul_right_comm _ _ _
      have h6 : (top * B + u2) * P = top * (B * P) + u2 * P := by rw [Nat.add_mul, Nat.mul_assoc]
      omega
  have hqB : q < B := by
    rcases Nat.lt_or_ge q B with h | h
    · exact h
    · exfalso
      have hr : B ≤ r := by
        rcases hex with h1 | h1
        · exact h1
        · exact absurd (.inl h) h1
      have h1 : B * high ≤ q * high := Nat.mul_le_mul_right _ h
      rw [Nat.add_mul, Nat.one_mul, Nat.mul_comm high B] at htop
      omega
  refine ⟨hqB, ?_⟩
  have hle : q * v2 ≤ r * B + u2 := by
    rcases hex with h1 | h1
    · have h2 : q * v2 ≤ B * B := Nat.mul_le_mul (Nat.le_of_lt hqB) (Nat.le_of_lt hv2)
      have h3 : B * B ≤ r * B := Nat.mul_le_mul_right _ h1
      omega
    · rcases Nat.lt_or_ge (r * B + u2) (q * v2) with h2 | h2
      · exact absurd (.inr h2) h1
      · exact h2
  have h1 : q * (high * B + v2) ≤ top * B + u2 := by
    rw [← hq, Nat.add_mul, Nat.mul_add, Nat.mul_assoc]
    omega
  have h2 : q * (high * B + v2) * P ≤ (top * B + u2) * P := Nat.mul_le_mul_right _ h1
  have h3 : q * lowV ≤ q * P := Nat.mul_le_mul_left _ (Nat.le_of_lt hlV)
  have h4 : q * P < B * P := Nat.mul_lt_mul_of_pos_right hqB hPpos
  have h5 : B * P ≤ high * B * P := by
    have : 1 * (B * P) ≤ high * (B * P) := Nat.mul_le_mul_right _ hh
    rw [Nat.one_mul, ← Nat.mul_assoc] at this
    exact this
  have h6 : q * V = q * (high * B + v2) * P + q * lowV := by rw [hV, Nat.mul_add, Nat.mul_assoc]
  have h7 : high * B * P ≤ V := by
    rw [hV, Nat.add_mul]
    omega
  have h8 : q * V < U + V := by omega
  rcases Nat.lt_or_ge (U / V + 1) q with h | h
  · exfalso
    have h9 : (U / V + 2) * V ≤ q * V := Nat.mul_le_mul_right _ h
    have h10 : U < (U / V + 1) * V := by
      rw [← Nat.div_lt_iff_lt_mul hVpos]
      omega
    rw [Nat.add_mul] at h9 h10
    omega
  · exact h
end
end Go.Proofs.YthomflbjijjhaaaGreatDoor

/- Plain facts on limbs: long division (one digit of the quotient; all digits). No program in sight. -/
namespace Go.Proofs.YthomflbjijjhaaaGreatDoor

/-! ### q times v is taken from u -/
def digInv (u v r : List Nat) (q i c b : Nat) : Prop :=
  r.length = u.length ∧ okL r ∧ c < bs ∧ b ≤ 1 ∧ r.drop i = u.drop i ∧ val (r.take i) + q * val (v.take i) = val (u.take i) + bs ^ i * (c + b)
theorem digInv_zero {u : List Nat} (v : List Nat) (q : Nat) (ho : okL u) : digInv u v u q 0 0 0 := ⟨rfl, ho, bs_pos, by omega, rfl, by simp [val]⟩
theorem take_set_self {l : List Nat} {i : Nat} (x : Nat) (hi : i < l.length) : (l.set i x).take (i + 1) = l.take i ++ [x] := by
  rw [List.take_add_one, List.getElem?_set_self hi, List.take_set_of_le (Nat.le_refl _)]
  rfl
theorem drop_set_lt {l : List Nat} {i k : Nat} (x : Nat) (hi : i < k) : (l.set i x).drop k = l.drop k := by
  apply List.ext_getElem?
  intro j
  rw [List.getElem?_drop, List.getElem?_drop, List.getElem?_set_ne (by omega)]
theorem at_of_drop {r u : List Nat} {i : Nat} (h : r.drop i = u.drop i) : r[i]? = u[i]? := by
  have := congrArg (fun l => l[0]?) h
  simpa [List.getElem?_drop] using this
theorem drop_succ_of {r u : List Nat} {i : Nat} (h : r.drop i = u.drop i) : r.drop (i + 1) = u.drop (i + 1) := by
  have := congrArg (fun l => l.drop 1) h
  simpa [List.drop_drop] using this
theorem mul_fits2 {c q y : Nat} (hc : c < bs) (hq : q < bs) (hy : y < bs) : c + q * y < bs * bs := by
  have := mul_fits hc hq hy bs_pos
  omega
/-- e is the new limb, b' the new borrow. -/
theorem digInv_succ {u v r : List Nat} {q i c b x y e b' t : Nat} (h : digInv u v r q i c b) (hx : u[i]? = some x) (hy : v[i]? = some y) (hq : q < bs) (hyb : y < bs) (ht : t = c + q * y) (he : e < bs) (hb' : b' ≤ 1) (heq : e + t % bs + b = x + bs * b') :
    digInv u v (r.set i e) q (i + 1) (t / bs) b' := by
  obtain ⟨hl, ho, hc, hb, hd, hv⟩ := h
  have hi := (List.getElem?_eq_some_iff.1 hx).1
  have hfit := mul_fits2 hc hq hyb
  refine ⟨by rw [List.length_set]; exact hl, okL_set ho _ he, (Nat.div_lt_iff_lt_mul bs_pos).2 (by omega), hb', ?_, ?_⟩
  · rw [drop_set_lt _ (by omega)]
    exact drop_succ_of hd
  · rw [take_set_self _ (by omega), val_snoc, List.length_take, Nat.min_eq_left (by omega), val_take_succ hx, val_take_succ hy, pow_s]
    have e1 : bs ^ i * t = bs ^ i * c + bs ^ i * (q * y) := by rw [ht, Nat.mul_add]
    have e2 : bs ^ i * (t % bs) + bs ^ i * (bs * (t / bs)) = bs ^ i * t := by rw [← Nat.mul_add, Nat.mod_add_div]
    have e3 := congrArg (bs ^ i * ·) heq
    simp only [Nat.mul_add] at e3
    have e4 : q * (bs ^ i * y) = bs ^ i * (q * y) := Nat.mul_left_comm _ _ _
    rw [Nat.mul_add q, e4, Nat.mul_assoc, Nat.mul_add, Nat.mul_add]
    rw [Nat.mul_add] at hv
    omega
theorem val_last {l : List Nat} {n x : Nat} (hl : l.length = n + 1) (hx : l[n]? = some x) : val l = val (l.take n) + bs ^ n * x := by
  rw [← val_take_succ hx, List.take_of_length_le (by omega)]
theorem val_set_last {l : List Nat} {n : Nat} (x : Nat) (hl : l.length = n + 1) : val (l.set n x) = val (l.take n) + bs ^ n * x := by
  have h : (l.set n x)[n]? = some x := List.getElem?_set_self (by omega)
  rw [val_last (by rw [List.length_set]; exact hl) h, List.take_set_of_le (Nat.le_refl _)]
/-- The last limb: no borrow. -/
theorem digInv_fit {u v r : List Nat} {q n c b x : Nat} (h : digInv u v r q n c b) (hn : v.length = n) (hl : u.length = n + 1) (hx : u[n]? = some x) (hle : c + b ≤ x) : val (r.set n (x - (c + b))) + q * val v = val u := by
  obtain ⟨hr, ho, hc, hb, hd, hv⟩ := h
  rw [val_set_last _ (by omega), val_last hl hx]
  rw [List.take_of_length_le (by omega : v.length ≤ n)] at hv
  have e : bs ^ n * x = bs ^ n * (x - (c + b)) + bs ^ n * (c + b) := by rw [← Nat.mul_add]; congr 1; omega
  omega
/-- The last limb: a borrow is left. -/
theorem digInv_over {u v r : List Nat} {q n c b x e : Nat} (h : digInv u v r q n c b) (hn : v.length = n) (hl : u.length = n + 1) (hx : u[n]? = some x) (heq : e + (c + b) = x + bs) : val (r.set n e) + q * val v = val u + bs ^ (n + 1) := by
  obtain ⟨hr, ho, hc, hb, hd, hv⟩ := h
  rw [val_set_last _ (by omega), val_last hl hx]
  rw [List.take_of_length_le (by omega : v.length ≤ n)] at hv
  have e1 := congrArg (bs ^ n * ·) heq
  simp only [Nat.mul_add] at e1
  rw [Nat.mul_add] at hv
  rw [pow_s]
  omega

/-! ### v is added back -/
def backInv (u v r : List Nat) (i c : Nat) : Prop :=
  r.length = u.length ∧ okL r ∧ c ≤ 1 ∧ r.drop i = u.drop i ∧ val (r.take i) + bs ^ i * c = val (u.take i) + val (v.take i)
theorem backInv_zero {u : List Nat} (v : List Nat) (ho : okL u) : backInv u v u 0 0 := ⟨rfl, ho, by omega, rfl, by simp [val]⟩
theorem backInv_succ {u v r : List Nat} {i c x y t : Nat} (h : backInv u v r i c) (hx : u[i]? = some x) (hy : v[i]? = some y) (hxb : x < bs) (hyb : y < bs) (ht : t = c + x + y) : backInv u v (r.set i (t % bs)) (i + 1) (t / bs) := by
  obtain ⟨hl, ho, hc, hd, hv⟩ := h
  have hi := (List.getElem?_eq_some_iff.1 hx).1
  refine ⟨by rw [List.length_set]; exact hl, okL_set ho _ (Nat.mod_lt _ bs_pos), ?_, ?_, ?_⟩
  · have : t / bs < 2 := (Nat.div_lt_iff_lt_mul bs_pos).2 (by omega)
    omega
  · rw [drop_set_lt _ (by omega)]
    exact drop_succ_of hd
  · rw [take_set_self _ (by omega), val_snoc, List.length_take, Nat.min_eq_left (by omega), val_take_succ hx, val_take_succ hy, pow_s, Nat.mul_assoc]
    have e1 : bs ^ i * t = bs ^ i * c + bs ^ i * x + bs ^ i * y := by rw [ht, Nat.mul_add, Nat.mul_add]
    have e2 : bs ^ i * (t % bs) + bs ^ i * (bs * (t / bs)) = bs ^ i * t := by rw [← Nat.mul_add, Nat.mod_add_div]
    omega
theorem backInv_end {u v r : List Nat} {n c x : Nat} (h : backInv u v r n c) (hn : v.length = n) (hl : u.length = n + 1) (hx : u[n]? = some x) :
    ∃ k, val (r.set n ((x + c) % bs)) + bs ^ (n + 1) * k = val u + val v := by
  obtain ⟨hr, ho, hc, hd, hv⟩ := h
  refine ⟨(x + c) / bs, ?_⟩
  rw [val_set_last _ (by omega), val_last hl hx]
  rw [List.take_of_length_le (by omega : v.length ≤ n)] at hv
  rw [pow_s, Nat.mul_assoc]
  have e2 : bs ^ n * ((x + c) % bs) + bs ^ n * (bs * ((x + c) / bs)) = bs ^ n * x + bs ^ n * c := by rw [← Nat.mul_add, Nat.mod_add_div, Nat.mul_add]
  omega

/-! ### one digit -/
theorem div_of_fit {U V q R : Nat} (h : R + q * V = U) (hq : q ≤ U / V + 1) (hge : U / V ≤ q) (hV : 0 < V) : q = U / V ∧ R = U % V := by
  have h1 : q ≤ U / V := by
    rw [Nat.le_div_iff_mul_le hV]
    omega
  have e : q = U / V := by omega
  refine ⟨e, ?_⟩
  have := Nat.mod_add_div U V
  rw [Nat.mul_comm V, ← e] at this
  omega
theorem div_of_over {U V q R R2 P k : Nat} (h : R + q * V = U + P) (hR : R < P) (hq : q ≤ U / V + 1) (hge : U / V ≤ q) (hV : 0 < V) (hVP : V ≤ P) (h2 : R2 + P * k = R + V) (hR2 : R2 < P) : q = U / V + 1 ∧ R2 = U % V := by
  have hm := Nat.mod_lt U hV
  have e := Nat.mod_add_div U V
  rw [Nat.mul_comm V] at e
  have h1 : q ≠ U / V := by
    intro e1
    rw [e1] at h
    omega
  have hq1 : q = U / V + 1 := by omega
  refine ⟨hq1, ?_⟩
  rw [hq1, Nat.add_mul, Nat.one_mul] at h
  have h3 : R2 + P * k = U % V + P := by omega
  have hk : k = 1 := by
    rcases Nat.lt_or_ge k 1 with h4 | h4
    · have : k = 0 := by omega
      subst this
      omega
    · rcases Nat.lt_or_ge k 2 with h5 | h5
      · omega
      · have : P * 2 ≤ P * k := Nat.mul_le_mul_left _ h5
        omega
  subst hk
  omega
/-- The parts of u and v that the estimate looks at. -/
theorem dig_parts {u v : List Nat} {n x0 x1 x2 y1 y2 : Nat} (hu : okL u) (hv : okL v) (hn : v.length = n + 2) (hl : u.length = n + 3) (h0 : u[n + 2]? = some x0) (h1 : u[n + 1]? = some x1) (h2 : u[n]? = some x2) (g1 : v[n + 1]? = some y1) (g2 : v[n]? = some y2) :
    val u = ((x0 * bs + x1) * bs + x2) * bs ^ n + val (u.take n) ∧ val v = (y1 * bs + y2) * bs ^ n + val (v.take n) ∧ val (u.take n) < bs ^ n ∧ val (v.take n) < bs ^ n := by
  have e1 := val_last hl h0
  have e2 := val_take_succ h1
  have e3 := val_take_succ h2
  have f1 := val_last hn g1
  have f2 := val_take_succ g2
  refine ⟨?_, ?_, ?_, ?_⟩
  · have g : ((x0 * bs + x1) * bs + x2) * bs ^ n = x0 * bs * bs * bs ^ n + x1 * bs * bs ^ n + x2 * bs ^ n := by simp only [Nat.add_mul]
    have e2' : val (u.take (n + 2)) = val (u.take (n + 1)) + bs ^ (n + 1) * x1 := e2
    have t1 : bs ^ (n + 2) * x0 = x0 * bs * bs * bs ^ n := by rw [show n + 2 = n + 1 + 1 from rfl, pow_s, pow_s]; ac_rfl
    have t2 : bs ^ (n + 1) * x1 = x1 * bs * bs ^ n := by rw [pow_s]; ac_rfl
    have t3 : bs ^ n * x2 = x2 * bs ^ n := Nat.mul_comm _ _
    omega
  · have g : (y1 * bs + y2) * bs ^ n = y1 * bs * bs ^ n + y2 * bs ^ n := by simp only [Nat.add_mul]
    have t2 : bs ^ (n + 1) * y1 = y1 * bs * bs ^ n := by rw [pow_s]; ac_rfl
    have t3 : bs ^ n * y2 = y2 * bs ^ n := Nat.mul_comm _ _
    omega
  · have := val_lt (okL_take hu n)
    rwa [List.length_take, Nat.min_eq_left (by omega)] at this
  · have := val_lt (okL_take hv n)
    rwa [List.length_take, Nat.min_eq_left (by omega)] at this

/-! ### all digits -/
def dmInv (q u : List Nat) (V U0 i n M : Nat) : Prop :=
  u.length = M + n ∧ q.length = M ∧ okL u ∧ okL q ∧ val (q.drop i) * (bs ^ i * V) + val u = U0 ∧ val (u.drop i) < V
/-- The window that the next digit looks at. -/
theorem dm_window {q u : List Nat} {V U0 i n M : Nat} (h : dmInv q u V U0 (i + 1) n M) (hV : V < bs ^ n) (hi : i < M) :
    ((u.drop i).take (n + 1)).length = n + 1 ∧ okL ((u.drop i).take (n + 1)) ∧ val ((u.drop i).take (n + 1)) < V * bs ∧ val u = val (u.take i) + bs ^ i * val ((u.drop i).take (n + 1)) ∧ val (u.drop (i + (n + 1))) = 0 := by
  obtain ⟨hl, hq, ho, hoq, hv, hlt⟩ := h
  have hlu : (u.drop i).length = M + n - i := by rw [List.length_drop, hl]
  have hz : val (u.drop (i + (n + 1))) = 0 := by
    have e := congrArg val (List.take_append_drop n (u.drop (i + 1)))
    rw [val_append, List.drop_drop, List.length_take, Nat.min_eq_left (by rw [List.length_drop]; omega), show i + 1 + n = i + (n + 1) by omega] at e
    rcases Nat.eq_zero_or_pos (val (u.drop (i + (n + 1)))) with h0 | h0
    · exact h0
    · have : bs ^ n * 1 ≤ bs ^ n * val (u.drop (i + (n + 1))) := Nat.mul_le_mul_left _ h0
      omega
  have e1 := congrArg val (List.take_append_drop (n + 1) (u.drop i))
  rw [val_append, List.drop_drop, hz, Nat.mul_zero, Nat.add_zero] at e1
  have e2 := congrArg val (List.take_append_drop i u)
  rw [val_append, List.length_take, Nat.min_eq_left (by omega)] at e2
  refine ⟨by rw [List.length_take, hlu]; omega, okL_take (okL_drop ho _) _, ?_, ?_, hz⟩
  · rw [e1, val_drop_D]
    have h1 := getD_lt ho i
    have h2 : bs * (val (u.drop (i + 1)) + 1) ≤ bs * V := Nat.mul_le_mul_left _ hlt
    rw [Nat.mul_add, Nat.mul_one, Nat.mul_comm bs V] at h2
    omega
  · rw [e1]
    omega
theorem dm_succ {q u R : List Nat} {V U0 i n M : Nat} (h : dmInv q u V U0 (i + 1) n M) (hV : V < bs ^ n) (hi : i < M) (hV0 : 0 < V) (hR : R.length = n + 1) (hoR : okL R) (hvR : val R = val ((u.drop i).take (n + 1)) % V) :
    dmInv (q.set i (val ((u.drop i).take (n + 1)) / V)) (u.take i ++ R ++ u.drop (i + (n + 1))) V U0 i n M ∧ val ((u.drop i).take (n + 1)) / V < bs := by
  obtain ⟨hwl, hwo, hwlt, hwu, hwz⟩ := dm_window h hV hi
  obtain ⟨hl, hq, ho, hoq, hv, hlt⟩ := h
  have hti : (u.take i).length = i := by rw [List.length_take]; omega
  have hqd : val ((u.drop i).take (n + 1)) / V < bs := by rw [Nat.div_lt_iff_lt_mul hV0, Nat.mul_comm]; exact hwlt
  refine ⟨⟨?_, by rw [List.length_set]; exact hq, ?_, okL_set hoq _ hqd, ?_, ?_⟩, hqd⟩
  · rw [List.length_append, List.length_append, hti, hR, List.length_drop]
    omega
  · exact okL_append.2 ⟨okL_append.2 ⟨okL_take ho _, hoR⟩, okL_drop ho _⟩
  · rw [drop_set_self _ (by omega), val_append, hwz, Nat.mul_zero, Nat.add_zero, val_append, hti, hvR, ← hv, hwu]
    show (val ((u.drop i).take (n + 1)) / V + bs * val (q.drop (i + 1))) * (bs ^ i * V) + _ = _
    rw [pow_s, Nat.add_mul]
    have e := congrArg (bs ^ i * ·) (Nat.mod_add_div (val ((u.drop i).take (n + 1))) V)
    simp only [Nat.mul_add] at e
    have t1 : val ((u.drop i).take (n + 1)) / V * (bs ^ i * V) = bs ^ i * (V * (val ((u.drop i).take (n + 1)) / V)) := by ac_rfl
    have t2 : bs * val (q.drop (i + 1)) * (bs ^ i * V) = val (q.drop (i + 1)) * (bs ^ i * bs * V) := by ac_rfl
    omega
  · rw [List.append_assoc, List.drop_append_of_le_length (by omega), List.drop_of_length_le (by omega), List.nil_append, val_append, hwz, Nat.mul_zero, Nat.add_zero, hvR]
    exact Nat.mod_lt _ hV0
theorem dm_end {q u : List Nat} {V U0 n M : Nat} (h : dmInv q u V U0 0 n M) (hV : V < bs ^ n) : val q = U0 / V ∧ val (u.take n) = U0 % V := by
  obtain ⟨hl, hq, ho, hoq, hv, hlt⟩ := h
  simp only [List.drop_zero, Nat.pow_zero, Nat.one_mul] at hv hlt
  have hV0 : 0 < V := by omega
  have e := congrArg val (List.take_append_drop n u)
  rw [val_append, List.length_take, Nat.min_eq_left (by omega)] at e
  have hz : val (u.drop n) = 0 := by
    rcases Nat.eq_zero_or_pos (val (u.drop n)) with h0 | h0
    · exact h0
    · have : bs ^ n * 1 ≤ bs ^ n * val (u.drop n) := Nat.mul_le_mul_left _ h0
      omega
  rw [hz, Nat.mul_zero, Nat.add_zero] at e
  rw [e, ← hv]
  constructor
  · rw [Nat.mul_comm, Nat.mul_add_div hV0, Nat.div_eq_of_lt hlt, Nat.add_zero]
  · rw [Nat.mul_comm, Nat.mul_add_mod, Nat.mod_eq_of_lt hlt]
/-- Where the division begins: the highest limbs of the shifted number are less than the divisor. -/
theorem dm_start {u v : List Nat} {n M x y : Nat} (ho : okL u) (hn : v.length = n + 1) (hl : u.length = M + (n + 1)) (hx : u[M + n]? = some x) (hy : v[n]? = some y) (hlt : x < y) (q : List Nat) (hq : q.length = M) (hoq : okL q) :
    dmInv q u (val v) (val u) M (n + 1) M := by
  refine ⟨hl, hq, ho, hoq, ?_, ?_⟩
  · rw [List.drop_of_length_le (by omega)]
    simp [val]
  · refine val_lt_of_top (okL_drop ho M) (by rw [List.length_drop]; omega) (i := n) (x := x) (y := y) (by rw [List.getElem?_drop]; exact hx) hy ?_ hlt
    rw [List.drop_drop, List.drop_of_length_le (by omega), List.drop_of_length_le (by omega)]
/-- The shifted divisor: it fits its limbs, and its highest limb is great. -/
theorem norm_top {b v : List Nat} {n s y z : Nat} (hs : s ≤ 31) (hob : okL b) (hb : b.length = n + 1) (hz : b[n]? = some z) (hlo : 2 ^ 31 ≤ z * 2 ^ s) (hhi : z * 2 ^ s < bs) (hov : okL v) (hl : v.length = n + 2) (hv : val v = val b * 2 ^ s) (hy : v[n]? = some y) :
    val (v.take (n + 1)) = val b * 2 ^ s ∧ 2 ^ 31 ≤ y ∧ val b * 2 ^ s < bs ^ (n + 1) := by
  have hp : 0 < 2 ^ s := Nat.pow_pos (by omega)
  have eb := val_last hb hz
  have hbt : val (b.take n) < bs ^ n := by
    have := val_lt (okL_take hob n)
    rwa [List.length_take, Nat.min_eq_left (by omega)] at this
  have hlt : val b * 2 ^ s < bs ^ (n + 1) := by
    have h2 : bs = 2 ^ s * 2 ^ (32 - s) := bs_split hs
    have hz2 : z < 2 ^ (32 - s) := by
      rcases Nat.lt_or_ge z (2 ^ (32 - s)) with h | h
      · exact h
      · exfalso
        have : 2 ^ (32 - s) * 2 ^ s ≤ z * 2 ^ s := Nat.mul_le_mul_right _ h
        rw [Nat.mul_comm, ← h2] at this
        omega
    have h3 : val b < bs ^ n * 2 ^ (32 - s) := by
      have h4 : bs ^ n * (z + 1) ≤ bs ^ n * 2 ^ (32 - s) := Nat.mul_le_mul_left _ hz2
      rw [Nat.mul_add, Nat.mul_one] at h4
      omega
    have h5 : val b * 2 ^ s < bs ^ n * 2 ^ (32 - s) * 2 ^ s := Nat.mul_lt_mul_of_pos_right h3 hp
    rw [Nat.mul_assoc, Nat.mul_comm (2 ^ (32 - s)), ← h2, ← pow_s] at h5
    exact h5
  have hvt : val (v.take (n + 1)) = val b * 2 ^ s := by
    have e := congrArg val (List.take_append_drop (n + 1) v)
    rw [val_append, List.length_take, Nat.min_eq_left (by omega)] at e
    have hz0 : val (v.drop (n + 1)) = 0 := by
      rcases Nat.eq_zero_or_pos (val (v.drop (n + 1))) with h0 | h0
      · exact h0
      · have : bs ^ (n + 1) * 1 ≤ bs ^ (n + 1) * val (v.drop (n + 1)) := Nat.mul_le_mul_left _ h0
        omega
    rw [hz0, Nat.mul_zero, Nat.add_zero] at e
    omega
  refine ⟨hvt, ?_, hlt⟩
  rw [val_take_succ hy] at hvt
  have hvt2 : val (v.take n) < bs ^ n := by
    have := val_lt (okL_take hov n)
    rwa [List.length_take, Nat.min_eq_left (by omega)] at this
  rcases Nat.lt_or_ge y (2 ^ 31) with h | h
  · exfalso
    have h1 : bs ^ n * (y + 1) ≤ bs ^ n * 2 ^ 31 := Nat.mul_le_mul_left _ h
    have h2 : bs ^ n * 2 ^ 31 ≤ bs ^ n * (z * 2 ^ s) := Nat.mul_le_mul_left _ hlo
    have h3 : bs ^ n * (z * 2 ^ s) ≤ val b * 2 ^ s := by
      rw [← Nat.mul_assoc]
      exact Nat.mul_le_mul_right _ (by omega)
    rw [Nat.mul_add, Nat.mul_one] at h1
    omega
  · exact h
theorem div_shift (a b s : Nat) : a * 2 ^ s / (b * 2 ^ s) = a / b ∧ a * 2 ^ s % (b * 2 ^ s) / 2 ^ s = a % b := by
  have hp : 0 < 2 ^ s := Nat.pow_pos (by omega)
  exact ⟨Nat.mul_div_mul_right _ _ hp, by rw [Nat.mul_mod_mul_right, Nat.mul_div_cancel _ hp]⟩
end Go.Proofs.YthomflbjijjhaaaGreatDoor
