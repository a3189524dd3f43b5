/-
  Several texts in one: Plain laws of scans: each operation is open or paid once; operations scanned in their order are all paid. No program in sight.
-/
import Derived.Test.YtgldhjmedidmoaaGreatDoorG07

/- Plain laws of scans: each operation is open or paid once; operations scanned in their order are all paid. No program in sight. -/
namespace Go.Proofs.YtgldhjmedidmoaaGreatDoor

section
variable {s : PStyle} {bs : List PBundle} {ws : List PWorker}
def isTO (t op : Int) (x : PScan) : Bool := decide (x.ticket = t) && decide (x.op = op)
theorem done_any (l : List PScan) (t op : Int) : doneB l t op = l.any (isTO t op) := rfl
theorem count_take : ∀ (k : Nat) {l : List PScan} (t op : Int), GoodL s bs ws l → k ≤ l.length → ((l.take k).filter (isTO t op)).length = if doneB (l.take k) t op = true then 1 else 0
  | 0, l, t, op, _, _ => by simp [doneB]
  | k + 1, l, t, op, h, hk => by
    have hi : k < l.length := by omega
    have hx := h k l[k] (List.getElem?_eq_getElem hi)
    obtain ⟨_, _, _, _, _, _, _, o, w, _, _, _, hd, _, _⟩ := outcome_one hx
    have ih := count_take k t op h (by omega)
    have hda : doneB (l.take k ++ [l[k]]) t op = (doneB (l.take k) t op || isTO t op l[k]) := by
      rw [done_any, done_any, List.any_append]
      simp only [List.any_cons, List.any_nil, Bool.or_false]
    rw [take_get hi, List.filter_append, List.length_append, ih, hda]
    by_cases hm : isTO t op l[k] = true
    · have hm' := hm
      unfold isTO at hm'
      simp only [Bool.and_eq_true, decide_eq_true_eq] at hm'
      rw [hm'.1, hm'.2] at hd
      simp [hm, hd]
    · have hm : isTO t op l[k] = false := by simpa using hm
      simp [hm]
/-- A paid operation is paid once. -/
theorem count_one {l : List PScan} (t op : Int) (h : GoodL s bs ws l) : (l.filter (isTO t op)).length = if doneB l t op = true then 1 else 0 := by
  have := count_take l.length t op h (Nat.le_refl _)
  rwa [List.take_length] at this

/-! ### orders -/
/-- Each operation of a list is one, new, and behind what precedes it. -/
def OrdL (l : List POp) (done : List Nat) : Prop := ∀ (i x : Nat), done[i]? = some x → x < l.length ∧ x ∉ done.take i ∧ ∀ a ∈ (l.map (·.after)).getD x [], a.toNat ∈ done.take i
theorem OrdL.nil (l : List POp) : OrdL l [] := fun i x h => by simp at h
theorem OrdL.snoc {l : List POp} {done : List Nat} {x : Nat} (h : OrdL l done) (hx : x < l.length) (hr : readyB l done x = true) : OrdL l (done ++ [x]) := fun i y hy => by
  unfold readyB at hr
  rw [Bool.and_eq_true, List.all_eq_true] at hr
  rcases Nat.lt_trichotomy i done.length with hi | hi | hi
  · rw [List.getElem?_append_left hi] at hy
    rw [List.take_append_of_le_length (by omega)]
    exact h i y hy
  · subst hi
    rw [List.getElem?_append_right (Nat.le_refl _), Nat.sub_self] at hy
    obtain rfl : x = y := by simpa using hy
    rw [List.take_append_of_le_length (Nat.le_refl _), List.take_length]
    exact ⟨hx, by simpa using hr.1, fun a ha => by simpa using hr.2 a ha⟩
  · rw [List.getElem?_eq_none (by simp; omega)] at hy
    cases hy
theorem next_ready {l : List POp} {done : List Nat} {i : Nat} (h : nextP l done = some i) : i < l.length ∧ readyB l done i = true := by
  unfold nextP at h
  have h1 := List.find?_some h
  have h2 := List.mem_of_find?_eq_some h
  exact ⟨List.mem_range.1 h2, h1⟩
theorem orderF_ord (l : List POp) : ∀ (f : Nat) {done : List Nat}, OrdL l done → OrdL l (orderF l f done)
  | 0, _, h => h
  | f + 1, done, h => by
    rw [orderF]
    cases hn : nextP l done with
    | none => exact h
    | some i => exact orderF_ord l f (h.snoc (next_ready hn).1 (next_ready hn).2)
theorem order_ord (l : List POp) : OrdL l (orderP l) := orderF_ord l _ (OrdL.nil l)
theorem orderF_len (l : List POp) : ∀ (f : Nat) (done : List Nat), (orderF l f done).length ≤ done.length + f
  | 0, done => by simp [orderF]
  | f + 1, done => by
    rw [orderF]
    cases nextP l done with
    | none => simp only; omega
    | some i => simp only; have := orderF_len l f (done ++ [i]); simp at this; omega
theorem order_len (l : List POp) : (orderP l).length ≤ l.length := by
  have := orderF_len l l.length []
  simpa [orderP] using this
theorem OrdL.nodup {l : List POp} {done : List Nat} (h : OrdL l done) : done.Nodup := by
  rw [List.nodup_iff_pairwise_ne, List.pairwise_iff_getElem]
  intro i j hi hj hij e
  have := (h j done[j] (List.getElem?_eq_getElem hj)).2.1
  refine this (List.mem_of_getElem? (i := i) ?_)
  rw [List.getElem?_take, if_pos hij, List.getElem?_eq_getElem hi, e]
theorem drop_one : ∀ {l : List Nat} {n : Nat}, l.Nodup → n ∈ l → (l.filter (fun y => decide (y ≠ n))).length + 1 = l.length
  | [], _, _, h => by cases h
  | x :: l, n, hd, h => by
    obtain ⟨hx, hl⟩ := List.nodup_cons.1 hd
    by_cases e : x = n
    · subst e
      have hf : l.filter (fun y => decide (y ≠ x)) = l := by
        rw [List.filter_eq_self]
        intro a ha
        simp
        rintro rfl
        exact hx ha
      rw [List.filter_cons, if_neg (by simp), hf, List.length_cons]
    · have hm : n ∈ l := by
        rcases List.mem_cons.1 h with rfl | h
        · exact absurd rfl e
        · exact h
      rw [List.filter_cons, if_pos (by simpa using e), List.length_cons, List.length_cons, drop_one hl hm]
/-- As many different numbers below n as there are. -/
theorem all_there : ∀ (n : Nat) (l : List Nat), l.Nodup → (∀ x ∈ l, x < n) → l.length ≤ n ∧ (l.length = n → ∀ k, k < n → k ∈ l)
  | 0, l, _, h => by
    cases l with
    | nil => simp
    | cons x l => exact absurd (h x (by simp)) (by omega)
  | n + 1, l, hd, h => by
    have hf : ∀ x ∈ l.filter (fun y => decide (y ≠ n)), x < n := fun x hx => by
      obtain ⟨h1, h2⟩ := List.mem_filter.1 hx
      have := h x h1
      simp at h2
      omega
    obtain ⟨i1, i2⟩ := all_there n _ (hd.filter _) hf
    by_cases hn : n ∈ l
    · have hlen : (l.filter (fun y => decide (y ≠ n))).length + 1 = l.length := drop_one hd hn
      refine ⟨by omega, fun hl k hk => ?_⟩
      by_cases e : k = n
      · rw [e]; exact hn
      · exact (List.mem_filter.1 (i2 (by omega) k (by omega))).1
    · have hlen : l.filter (fun y => decide (y ≠ n)) = l := by
        rw [List.filter_eq_self]
        intro a ha
        simp
        rintro rfl
        exact hn ha
      rw [hlen] at i1
      exact ⟨by omega, fun hl => by omega⟩

/-! ### in the order of the operations -/
/-- The scans of a bundle's operations in an order, by given workers, at ascending times. -/
def orderScans (t a : Int) (ord : List Nat) (by_ : List Nat) : List PScan := (List.range ord.length).map fun i => ⟨t, (ord.getD i 0 : Nat), (by_.getD i 0 : Nat), a + i⟩
theorem scans_at {t a : Int} {ord by_ : List Nat} {i : Nat} {x : PScan} (h : (orderScans t a ord by_)[i]? = some x) : i < ord.length ∧ x = ⟨t, (ord.getD i 0 : Nat), (by_.getD i 0 : Nat), a + i⟩ := by
  unfold orderScans at h
  rw [List.getElem?_map, Option.map_eq_some_iff] at h
  obtain ⟨j, hj, rfl⟩ := h
  have := List.getElem?_eq_some_iff.1 hj
  obtain ⟨h1, h2⟩ := this
  rw [List.length_range] at h1
  rw [List.getElem_range] at h2
  subst h2
  exact ⟨h1, rfl⟩
theorem scans_take (t a : Int) (ord by_ : List Nat) (k : Nat) (x : PScan) (h : x ∈ (orderScans t a ord by_).take k) : ∃ i, i < k ∧ i < ord.length ∧ x = ⟨t, (ord.getD i 0 : Nat), (by_.getD i 0 : Nat), a + i⟩ := by
  obtain ⟨i, hi⟩ := List.getElem?_of_mem h
  rw [List.getElem?_take] at hi
  split at hi
  · rename_i hik
    exact ⟨i, hik, scans_at hi⟩
  · cases hi
theorem last_le {l : List PScan} {t b : Int} (hb : 0 ≤ b) (h : ∀ x ∈ l, x.at_ ≤ b) : lastP l t ≤ b := by
  unfold lastP
  have key : ∀ (l : List PScan) (z : Int), z ≤ b → (∀ x ∈ l, x.at_ ≤ b) → l.foldl (fun _ x => x.at_) z ≤ b := by
    intro l
    induction l with
    | nil => intro z hz _; exact hz
    | cons x l ih => intro z _ hl; exact ih _ (hl x (by simp)) fun y hy => hl y (by simp [hy])
  exact key _ 0 hb fun x hx => h x (List.mem_filter.1 hx).1
theorem complete_good {t a : Int} {ord by_ : List Nat} (ho : OrdL s.ops ord) (ht : (bs.any fun b => decide (b.ticket = t)) = true) (ha : 0 ≤ a) (ha2 : a + ord.length ≤ 1073741824)
    (hw : ∀ i o, i < ord.length → s.ops[ord.getD i 0]? = some o → ∃ w, ws[by_.getD i 0]? = some w ∧ canB w o.machine = true) (hn : ∀ o ∈ s.ops, ∀ x ∈ o.after, 0 ≤ x) : GoodL s bs ws (orderScans t a ord by_) := by
  intro i x hx
  obtain ⟨hi, rfl⟩ := scans_at hx
  have hoi : ord[i]? = some (ord.getD i 0) := by rw [List.getD_eq_getElem?_getD, List.getElem?_eq_getElem hi]; rfl
  obtain ⟨h1, h2, h3⟩ := ho i _ hoi
  generalize hx0 : ord.getD i 0 = x0 at *
  obtain ⟨o, hop⟩ : ∃ o, s.ops[x0]? = some o := ⟨_, List.getElem?_eq_getElem h1⟩
  obtain ⟨w, hww, hcan⟩ := hw i o hi (by rw [hx0]; exact hop)
  have hwl : by_.getD i 0 < ws.length := (List.getElem?_eq_some_iff.1 hww).1
  have haft : (s.ops.map (·.after)).getD x0 [] = o.after := by rw [List.getD_eq_getElem?_getD, List.getElem?_map, hop]; rfl
  have hdone : doneB ((orderScans t a ord by_).take i) t (x0 : Int) = false := by
    rw [done_any, List.any_eq_false]
    intro y hy
    obtain ⟨j, hj, hjo, rfl⟩ := scans_take _ _ _ _ _ _ hy
    unfold isTO
    simp only [Bool.and_eq_true, decide_eq_true_eq, not_and]
    intro _ e
    refine h2 (List.mem_of_getElem? (i := j) ?_)
    rw [List.getElem?_take, if_pos hj, List.getElem?_eq_getElem hjo]
    have : ord.getD j 0 = ord[j] := by rw [List.getD_eq_getElem?_getD, List.getElem?_eq_getElem hjo]; rfl
    rw [this] at e
    congr 1
    omega
  have hall : (o.after.all fun z => doneB ((orderScans t a ord by_).take i) t z) = true := by
    rw [List.all_eq_true]
    intro z hz
    have hz0 := hn o (List.mem_of_getElem? hop) z hz
    obtain ⟨j, hj⟩ := List.getElem?_of_mem (h3 z (by rw [haft]; exact hz))
    rw [List.getElem?_take] at hj
    split at hj
    · rename_i hji
      have hjl := (List.getElem?_eq_some_iff.1 hj).1
      have hgd : ord.getD j 0 = z.toNat := by rw [List.getD_eq_getElem?_getD, hj]; rfl
      rw [done_any, List.any_eq_true]
      refine ⟨⟨t, (ord.getD j 0 : Nat), (by_.getD j 0 : Nat), a + j⟩, List.mem_of_getElem? (i := j) ?_, ?_⟩
      · rw [List.getElem?_take, if_pos hji, orderScans, List.getElem?_map, List.getElem?_range hjl]
        rfl
      · unfold isTO
        simp only [hgd, decide_true, Bool.true_and, decide_eq_true_eq]
        omega
    · cases hj
  have hlast : lastP ((orderScans t a ord by_).take i) t ≤ a + i := by
    refine last_le (by omega) fun y hy => ?_
    obtain ⟨j, hj, _, rfl⟩ := scans_take _ _ _ _ _ _ hy
    simp only
    omega
  unfold outcomeP
  rw [if_neg (by
    simp only [ht, not_or]
    exact ⟨by simp, by omega, by omega, by omega, by omega, by omega, by omega⟩)]
  simp only [Int.toNat_natCast, hop, hww]
  rw [if_neg (by simp [hcan]), if_neg (by simp [hdone]), if_neg (by simp [hall]), if_neg (by omega)]
theorem complete_open {t a : Int} {ord by_ : List Nat} (ho : OrdL s.ops ord) (hl : ord.length = s.ops.length) (hg : GoodL s bs ws (orderScans t a ord by_)) : openP s bs ws (orderScans t a ord by_) t = [] := by
  unfold openP
  rw [paid_again hg, List.filter_eq_nil_iff]
  intro op hop
  obtain ⟨k, hk, rfl⟩ := List.mem_map.1 hop
  have hmem := (all_there s.ops.length ord ho.nodup (fun x hx => by obtain ⟨i, hi⟩ := List.getElem?_of_mem hx; exact (ho i x hi).1)).2 hl k (List.mem_range.1 hk)
  obtain ⟨j, hj⟩ := List.getElem?_of_mem hmem
  have hjl := (List.getElem?_eq_some_iff.1 hj).1
  have hgd : ord.getD j 0 = k := by rw [List.getD_eq_getElem?_getD, hj]; rfl
  simp only [Bool.not_eq_true', Bool.not_eq_false]
  rw [done_any, List.any_eq_true]
  refine ⟨⟨t, (ord.getD j 0 : Nat), (by_.getD j 0 : Nat), a + j⟩, List.mem_of_getElem? (i := j) ?_, ?_⟩
  · rw [orderScans, List.getElem?_map, List.getElem?_range hjl]
    rfl
  · unfold isTO
    simp only [hgd, decide_true, Bool.and_self]
end
end Go.Proofs.YtgldhjmedidmoaaGreatDoor
