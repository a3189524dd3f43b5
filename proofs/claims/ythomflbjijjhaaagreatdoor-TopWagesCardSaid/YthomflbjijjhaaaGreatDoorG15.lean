/-
  Several texts in one: Plain facts for scan.judgeAll: a floor without an error; outcomes as they are filled in. Nothing here walks the program. Plain wages: what is paid to whom, and what scans behind the recorded ones change. No program in sight. Rows of money in memory: a slice of slices, each of the call's own, that grow one at a time. Nothing here walks the program.
-/
import Derived.Test.YthomflbjijjhaaaGreatDoorG10
import Derived.Test.YthomflbjijjhaaaGreatDoorG14

/- Plain facts for scan.judgeAll: a floor without an error; outcomes as they are filled in. Nothing here walks the program. -/
namespace Go.Proofs.YthomflbjijjhaaaGreatDoor
open Go.RowKit

theorem firstE_zero : ∀ {es : List Int}, firstE es = 0 → ∀ e ∈ es, e = 0
  | [], _, e, h => by cases h
  | x :: es, h, e, he => by
    rw [firstE] at h
    split at h
    · rename_i h1
      exact absurd h h1
    · rename_i h1
      rcases List.mem_cons.1 he with rfl | he
      · simpa using h1
      · exact firstE_zero h e he
section
variable {s : PStyle} {bs : List PBundle} {ws : List PWorker}
theorem scan_zero (h : scanE s bs ws = 0) : opsE s = 0 ∧ bs.length ≤ 60 ∧ (∀ j, j < bs.length → bundleE bs j = 0) ∧ workersE ws = 0 := by
  unfold scanE at h
  split at h
  · rename_i a
    exact absurd h a
  · rename_i a
    split at h
    · cases h
    · rename_i b
      split at h
      · rename_i c
        exact absurd h c
      · rename_i c
        refine ⟨by simpa using a, by omega, fun j hj => ?_, h⟩
        exact firstE_zero (by simpa using c) _ (List.mem_map.2 ⟨j, List.mem_range.2 hj, rfl⟩)
theorem ticket_new (h : scanE s bs ws = 0) {i : Nat} {b : PBundle} (hb : bs[i]? = some b) : b.ticket ∉ (bs.take i).map (·.ticket) := by
  have h1 := (scan_zero h).2.2.1 i (List.getElem?_eq_some_iff.1 hb).1
  intro hm
  rw [bundleE, hb] at h1
  simp only at h1
  split at h1
  · cases h1
  · simp at h1
theorem ops_idx (h : scanE s bs ws = 0) : s.ops.length ≤ 16 ∧ ∀ y ∈ s.ops, ∀ z ∈ y.after, 0 ≤ z ∧ z < (s.ops.length : Int) := by
  obtain ⟨h1, h2, _⟩ := list_zero (ops_zero (scan_zero h).1).2
  refine ⟨h1, fun y hy z hz => ?_⟩
  obtain ⟨j, hj⟩ := List.getElem?_of_mem hy
  obtain ⟨_, h3, _⟩ := op_zero hj (h2 j (List.getElem?_eq_some_iff.1 hj).1)
  obtain ⟨i, hi⟩ := List.getElem?_of_mem hz
  exact idx_at h3 hi
theorem take_tickets {i : Nat} {b : PBundle} (hb : bs[i]? = some b) : (bs.take (i + 1)).map (·.ticket) = (bs.take i).map (·.ticket) ++ [b.ticket] := by
  rw [List.take_add_one, hb]
  simp
theorem judge_snoc {xs : List PScan} {i : Nat} {x : PScan} (h : xs[i]? = some x) : judgeP s bs ws (xs.take (i + 1)) = judgeP s bs ws (xs.take i) ++ [outcomeP s bs ws (paidP s bs ws (xs.take i)) x] := by
  unfold judgeP paidP
  rw [List.take_add_one, h, Option.toList_some, judge_append]
  rfl
theorem paid_snoc {xs : List PScan} {i : Nat} {x : PScan} (h : xs[i]? = some x) : paidP s bs ws (xs.take (i + 1)) = if outcomeP s bs ws (paidP s bs ws (xs.take i)) x = 1 then paidP s bs ws (xs.take i) ++ [x] else paidP s bs ws (xs.take i) := by
  unfold paidP
  rw [List.take_add_one, h, Option.toList_some, run_append]
  rfl
theorem judgeP_len (xs : List PScan) : (judgeP s bs ws xs).length = xs.length := judge_len [] xs
theorem judge_at {xs : List PScan} {i : Nat} {x : PScan} (h : xs[i]? = some x) : (judgeP s bs ws xs)[i]? = some (outcomeP s bs ws (paidP s bs ws (xs.take i)) x) := by
  have hi := (List.getElem?_eq_some_iff.1 h).1
  have h1 := judge_snoc (s := s) (bs := bs) (ws := ws) h
  have hl : (judgeP s bs ws (xs.take i)).length = i := by rw [judgeP_len, List.length_take]; omega
  rw [judge_take] at h1
  have h2 := congrArg (fun l : List Int => l[i]?) h1
  rw [List.getElem?_take, if_pos (Nat.lt_succ_self i), List.getElem?_append_right (by omega), hl, Nat.sub_self] at h2
  exact h2
/-- The error of judging n scans. -/
def judgeErr (s : PStyle) (bs : List PBundle) (ws : List PWorker) (n : Nat) : Int := if scanE s bs ws ≠ 0 then scanE s bs ws else if 300 < n then 5 else 0
theorem jerr_bad {n : Nat} (h : scanE s bs ws ≠ 0 ∨ 300 < n) : judgeErr s bs ws n ≠ 0 ∧ judgeErr s bs ws n = if scanE s bs ws ≠ 0 then scanE s bs ws else 5 := by
  unfold judgeErr
  by_cases h0 : scanE s bs ws = 0
  · have h1 := h.resolve_left (fun q => q h0)
    simp [h0, h1]
  · simp [h0]
theorem jerr_ok {n : Nat} (h : scanE s bs ws = 0) (h1 : ¬ 300 < n) : judgeErr s bs ws n = 0 := by
  unfold judgeErr
  simp [h, h1]
theorem jerr_zero {n : Nat} (h : judgeErr s bs ws n = 0) : scanE s bs ws = 0 ∧ n ≤ 300 := by
  by_cases h0 : scanE s bs ws = 0
  · refine ⟨h0, ?_⟩
    by_cases h1 : 300 < n
    · exact absurd h (jerr_bad (.inr h1)).1
    · omega
  · exact absurd h (jerr_bad (.inl h0)).1
end

/-! ### outcomes as they are filled in -/
/-- n cells: first os, then zeros. -/
def outC (n : Nat) (os : List Int) : Array Value := (ints os ++ List.replicate (n - os.length) (Value.int .i64 0)).toArray
section
variable {n : Nat} {os : List Int}
theorem outC_size (h : os.length ≤ n) : (outC n os).size = n := by
  simp [outC, ints]
  omega
theorem outC_nil : outC n [] = Array.replicate n (Value.int .i64 0) := by
  refine Array.toList_inj.1 ?_
  simp [outC, ints]
theorem outC_set {k : Nat} (hk : os.length = k) (h : k < n) (e : Int) : (outC n os).setIfInBounds k (.int .i64 e) = outC n (os ++ [e]) := by
  subst hk
  refine Array.toList_inj.1 ?_
  obtain ⟨m, hm⟩ : ∃ m, n - os.length = m + 1 := ⟨n - os.length - 1, by omega⟩
  have h2 : n - (os.length + 1) = m := by omega
  simp [outC, ints, hm, h2, List.replicate_succ]
theorem outC_get {k : Nat} {e : Int} (h : os[k]? = some e) : (outC n os)[k]? = some (.int .i64 e) := by
  have hl := (List.getElem?_eq_some_iff.1 h).1
  unfold outC
  rw [List.getElem?_toArray, List.getElem?_append_left (by simpa [ints] using hl)]
  simp [ints, h]
theorem outC_zero {k : Nat} (hk : os.length = k) (h : k < n) : (outC n os)[k]? = some (.int .i64 0) := by
  obtain ⟨m, hm⟩ : ∃ m, n - os.length = m + 1 := ⟨n - os.length - 1, by omega⟩
  unfold outC
  rw [List.getElem?_toArray, List.getElem?_append_right (by simp [ints, hk]), hm]
  simp [ints, hk]
theorem outC_last {e : Int} {k : Nat} (hk : os.length = k) : (outC n (os ++ [e]))[k]? = some (.int .i64 e) := outC_get (by subst hk; simp)
theorem out_reads {w : World} {g : Nat} {t : TypeId} (h : Blk w g t (outC n os)) (hl : os.length = n) : Sl w w.heap.size (some ⟨g, 0, none⟩) n (ints os) := by
  refine ⟨by simp [ints, hl], fun _ => ⟨g, 0, rfl, h.lt, fun j u hu => ?_⟩⟩
  simp only [ints, List.getElem?_map, Option.map_eq_some_iff] at hu
  obtain ⟨e, he, rfl⟩ := hu
  rw [Nat.zero_add]
  exact h.c (outC_get he)
end

/-! ### the records at the start -/
theorem JudM.start {T : TypeId} {w : World} {b0 : Nat} {B : Nat} (h : MapM (Value.int .i64) w b0 []) (hB : B ≤ b0) : JudM T B w b0 (fun _ => 0) [] [] :=
  ⟨⟨[], h, fun t => by rw [mget_nil]; simp⟩, (fun t ht => by cases ht), (fun t ht => by cases ht), (fun t ht => by cases ht), (fun t ht => by cases ht), hB⟩
/-- A store into a block of its own. -/
theorem JudM.far {T : TypeId} {B b0 : Nat} {w : World} {β : Int → Nat} {ts : List Int} {paid : List PScan} (h : JudM T B w b0 β ts paid) {p : Addr} (h0 : b0 ≠ p.block) (h1 : ∀ t ∈ ts, β t ≠ p.block) (u : Value) : JudM T B (w.setCell p u) b0 β ts paid := by
  obtain ⟨m, hm, hg⟩ := h.map
  refine ⟨⟨m, ?_, hg⟩, fun t ht => (h.rec_ t ht).far (h1 t ht) u, h.off, h.inj, h.lo, h.lo0⟩
  obtain ⟨es, clock, hb, h2⟩ := hm
  exact ⟨es, clock, (Below.heap_setCell w p u b0 h0).trans hb, h2⟩
theorem JudM.drew {T : TypeId} {B b0 : Nat} {w : World} {β : Int → Nat} {ts : List Int} {paid : List PScan} (h : JudM T B w b0 β ts paid) : JudM T B w.drew b0 β ts paid := ⟨h.map, h.rec_, h.off, h.inj, h.lo, h.lo0⟩
theorem JudM.lookup {T : TypeId} {B b0 : Nat} {w : World} {β : Int → Nat} {ts : List Int} {paid : List PScan} (h : JudM T B w b0 β ts paid) : ∃ m, MapM (Value.int .i64) w b0 m ∧ (∀ t, t ∈ ts → ∀ z, (mget m t).getD z = .pointer (some ⟨β t, 0, none⟩) ∧ (mget m t).isSome = true) ∧ ∀ t, t ∉ ts → ∀ z, (mget m t).getD z = z ∧ (mget m t).isSome = false := by
  obtain ⟨m, hm, hg⟩ := h.map
  refine ⟨m, hm, fun t ht z => ?_, fun t ht z => ?_⟩
  · rw [hg t, if_pos ht]
    exact ⟨rfl, rfl⟩
  · rw [hg t, if_neg ht]
    exact ⟨rfl, rfl⟩
end Go.Proofs.YthomflbjijjhaaaGreatDoor

/- Plain wages: what is paid to whom, and what scans behind the recorded ones change. No program in sight. -/
namespace Go.Proofs.YthomflbjijjhaaaGreatDoor

structure PTariff where
  rate : Int
  least : Int
structure PPay where
  worker : Int
  work : Int
  top : Int
deriving DecidableEq
def tariffE (t : PTariff) : Int := if t.rate < 0 ∨ 100000 < t.rate ∨ t.least < 0 ∨ 1073741824 < t.least then 3 else 0
def amountP (t : PTariff) (m c : Int) : Int := (m * c * t.rate + 5000) / 10000
/-- The plies of the last bundle with a ticket. -/
def countF (bs : List PBundle) (t : Int) : Option Int := bs.foldl (fun o b => if b.ticket = t then some (b.to_ - b.from_) else o) none
def minutesP (s : PStyle) (op : Int) : Int := ((s.ops.map (·.minutes)).getD op.toNat 0)
def worthP (s : PStyle) (bs : List PBundle) (t : PTariff) (x : PScan) : Int := amountP t (minutesP s x.op) ((countF bs x.ticket).getD 0)
/-- What the paid scans of a worker pay, one after the other. -/
def monies (s : PStyle) (bs : List PBundle) (t : PTariff) (paid : List PScan) (w : Nat) : List Int := (paid.filter fun x => decide (x.worker = (w : Int))).map (worthP s bs t)
def sumP (l : List Int) : Int := l.foldl (· + ·) 0
def payOf (t : PTariff) (w : Nat) (l : List Int) : List PPay := if l = [] then [] else [⟨w, sumP l, max (t.least - sumP l) 0⟩]
def paysP (s : PStyle) (bs : List PBundle) (ws : List PWorker) (t : PTariff) (xs : List PScan) : List PPay := (List.range ws.length).flatMap fun w => payOf t w (monies s bs t (paidP s bs ws xs) w)
def paysE (s : PStyle) (bs : List PBundle) (ws : List PWorker) (t : PTariff) (n : Nat) : Int := if tariffE t ≠ 0 then tariffE t else judgeErr s bs ws n

theorem tariff_ok {t : PTariff} (h : tariffE t = 0) : 0 ≤ t.rate ∧ t.rate ≤ 100000 ∧ 0 ≤ t.least ∧ t.least ≤ 1073741824 := by
  unfold tariffE at h
  split at h
  · cases h
  · omega
theorem tariff_bad {t : PTariff} (h : tariffE t ≠ 0) : tariffE t = 3 := by
  unfold tariffE at h ⊢
  split
  · rfl
  · rename_i h1
    rw [if_neg h1] at h
    exact absurd rfl h
theorem sum_snoc (l : List Int) (x : Int) : sumP (l ++ [x]) = sumP l + x := by
  unfold sumP
  rw [List.foldl_append]
  rfl
theorem sum_app (l k : List Int) : sumP (l ++ k) = sumP l + sumP k := by
  have h : ∀ (k : List Int) (a : Int), k.foldl (· + ·) a = a + k.foldl (· + ·) 0 := by
    intro k
    induction k with
    | nil => intro a; simp
    | cons x k ih =>
      intro a
      rw [List.foldl_cons, List.foldl_cons, ih (a + x), ih (0 + x)]
      omega
  unfold sumP
  rw [List.foldl_append, h k]
theorem sum_nn : ∀ {l : List Int}, (∀ x ∈ l, 0 ≤ x) → 0 ≤ sumP l
  | [], _ => Int.le_refl _
  | x :: l, h => by
    have e : x :: l = [x] ++ l := rfl
    have h1 := sum_nn (l := l) fun y hy => h y (by simp [hy])
    have h2 := h x (by simp)
    rw [e, sum_app]
    have h3 : sumP [x] = x := by simp [sumP]
    omega
theorem sum_le (c : Int) : ∀ {l : List Int}, (∀ x ∈ l, x ≤ c) → sumP l ≤ c * l.length
  | [], _ => by simp [sumP]
  | x :: l, h => by
    have e : x :: l = [x] ++ l := rfl
    have h1 := sum_le c (l := l) fun y hy => h y (by simp [hy])
    have h2 := h x (by simp)
    rw [e, sum_app]
    have h3 : sumP [x] = x := by simp [sumP]
    have h4 : c * ((([x] ++ l).length : Nat) : Int) = c * (l.length : Int) + c := by
      rw [List.length_append, List.length_singleton, Nat.add_comm, Int.natCast_add, Int.mul_add]
      simp
    omega
theorem sum_take {l : List Int} {k : Nat} {x : Int} (h : l[k]? = some x) : sumP (l.take (k + 1)) = sumP (l.take k) + x := by
  rw [List.take_add_one, h, Option.toList_some, sum_snoc]

theorem count_snoc (bs : List PBundle) (b : PBundle) (t : Int) : countF (bs ++ [b]) t = if b.ticket = t then some (b.to_ - b.from_) else countF bs t := by
  unfold countF
  rw [List.foldl_append]
  rfl
theorem count_from : ∀ (bs : List PBundle) (t : Int) (o : Option Int), (bs.any fun b => decide (b.ticket = t)) = true → ∃ b ∈ bs, bs.foldl (fun o b => if b.ticket = t then some (b.to_ - b.from_) else o) o = some (b.to_ - b.from_)
  | [], t, o, h => by simp at h
  | b :: bs, t, o, h => by
    by_cases h1 : (bs.any fun b => decide (b.ticket = t)) = true
    · obtain ⟨c, hc, he⟩ := count_from bs t (if b.ticket = t then some (b.to_ - b.from_) else o) h1
      exact ⟨c, by simp [hc], he⟩
    · have h2 : b.ticket = t := by
        rw [List.any_cons, Bool.or_eq_true, decide_eq_true_eq] at h
        exact h.resolve_right h1
      have hn : ∀ (bs : List PBundle) (o : Option Int), ¬ (bs.any fun b => decide (b.ticket = t)) = true → bs.foldl (fun o b => if b.ticket = t then some (b.to_ - b.from_) else o) o = o := by
        intro bs
        induction bs with
        | nil => intro o _; rfl
        | cons c bs ih =>
          intro o hc
          have hc1 : ¬ c.ticket = t := fun e => hc (by simp [e])
          have hc2 : ¬ (bs.any fun b => decide (b.ticket = t)) = true := fun e => hc (by rw [List.any_cons, e, Bool.or_true])
          rw [List.foldl_cons, if_neg hc1]
          exact ih o hc2
      refine ⟨b, by simp, ?_⟩
      rw [List.foldl_cons, if_pos h2]
      exact hn bs _ h1
section
variable {s : PStyle} {bs : List PBundle} {ws : List PWorker}
theorem bundle_count {b : PBundle} (h : scanE s bs ws = 0) (hb : b ∈ bs) : 0 ≤ b.to_ - b.from_ ∧ b.to_ - b.from_ ≤ 40 := by
  obtain ⟨j, hj⟩ := List.getElem?_of_mem hb
  have h1 := (scan_zero h).2.2.1 j (List.getElem?_eq_some_iff.1 hj).1
  rw [bundleE, hj] at h1
  simp only at h1
  split at h1
  · cases h1
  · omega
/-- What is paid is in range. -/
theorem paid_in {paid : List PScan} {x : PScan} (h : scanE s bs ws = 0) (h1 : outcomeP s bs ws paid x = 1) :
    ∃ o n, s.ops[x.op.toNat]? = some o ∧ 0 ≤ x.op ∧ x.op < s.ops.length ∧ 0 ≤ x.worker ∧ x.worker < ws.length ∧ minutesP s x.op = o.minutes ∧ 1 ≤ o.minutes ∧ o.minutes ≤ 10000 ∧ countF bs x.ticket = some n ∧ 0 ≤ n ∧ n ≤ 40 := by
  obtain ⟨h2, h3, h4, h5, h6, _⟩ := outcome_one h1
  have hk : x.op.toNat < s.ops.length := by omega
  obtain ⟨h7, h8, _⟩ := list_zero (ops_zero (scan_zero h).1).2
  have ho : s.ops[x.op.toNat]? = some s.ops[x.op.toNat] := List.getElem?_eq_getElem hk
  obtain ⟨b, hb, hc⟩ := count_from bs x.ticket none h2
  obtain ⟨h9, h10⟩ := bundle_count h hb
  have h11 := h8 x.op.toNat hk
  refine ⟨_, _, ho, h3, h4, h5, h6, ?_, ?_, ?_, hc, h9, h10⟩
  · rw [minutesP, List.getD_eq_getElem?_getD, List.getElem?_map, ho]
    rfl
  all_goals
    rw [opE, ho] at h11
    simp only at h11
    split at h11
    · cases h11
    · split at h11
      · cases h11
      · split at h11
        · cases h11
        · omega
theorem amount_bounds {t : PTariff} (ht : tariffE t = 0) {m n : Int} (h1 : 1 ≤ m) (h2 : m ≤ 10000) (h3 : 0 ≤ n) (h4 : n ≤ 40) : 0 ≤ m * n ∧ m * n ≤ 400000 ∧ 0 ≤ m * n * t.rate ∧ m * n * t.rate ≤ 40000000000 ∧ 0 ≤ amountP t m n ∧ amountP t m n ≤ 4000001 := by
  obtain ⟨r1, r2, _⟩ := tariff_ok ht
  have a1 : 0 ≤ m * n := Int.mul_nonneg (by omega) h3
  have a2 : m * n ≤ 10000 * 40 := Int.mul_le_mul h2 h4 h3 (by omega)
  have a3 : 0 ≤ m * n * t.rate := Int.mul_nonneg a1 r1
  have a4 : m * n * t.rate ≤ 400000 * 100000 := Int.mul_le_mul (by omega) r2 r1 (by omega)
  refine ⟨a1, by omega, a3, by omega, ?_, ?_⟩ <;> unfold amountP <;> omega
theorem worth_bounds {t : PTariff} (ht : tariffE t = 0) {paid : List PScan} {x : PScan} (h : scanE s bs ws = 0) (h1 : outcomeP s bs ws paid x = 1) : 0 ≤ worthP s bs t x ∧ worthP s bs t x ≤ 4000001 := by
  obtain ⟨o, n, ho, _, _, _, _, hm, m1, m2, hn, n1, n2⟩ := paid_in h h1
  unfold worthP
  rw [hm, hn]
  exact (amount_bounds ht m1 m2 n1 n2).2.2.2.2
theorem monies_bounds {t : PTariff} (ht : tariffE t = 0) (h : scanE s bs ws = 0) (xs : List PScan) (w : Nat) : ∀ z ∈ monies s bs t (paidP s bs ws xs) w, 0 ≤ z ∧ z ≤ 4000001 := by
  intro z hz
  obtain ⟨x, hx, rfl⟩ := List.mem_map.1 hz
  obtain ⟨j, hj⟩ := List.getElem?_of_mem (List.mem_filter.1 hx).1
  exact worth_bounds ht h (paid_good xs j x hj)
theorem monies_len (t : PTariff) (xs : List PScan) (w : Nat) : (monies s bs t (paidP s bs ws xs) w).length ≤ xs.length := by
  unfold monies
  rw [List.length_map]
  refine Nat.le_trans (List.length_filter_le _ _) ?_
  have := run_len (s := s) (bs := bs) (ws := ws) [] xs
  unfold paidP
  simpa using this
theorem monies_snoc (t : PTariff) (paid : List PScan) (x : PScan) (w : Nat) : monies s bs t (paid ++ [x]) w = if x.worker = (w : Int) then monies s bs t paid w ++ [worthP s bs t x] else monies s bs t paid w := by
  unfold monies
  rw [List.filter_append]
  by_cases h : x.worker = (w : Int)
  · rw [if_pos h]
    simp [h]
  · rw [if_neg h]
    simp [h]
theorem monies_more (t : PTariff) (xs : List PScan) (m w : Nat) : ∃ k, monies s bs t (paidP s bs ws xs) w = monies s bs t (paidP s bs ws (xs.take m)) w ++ k := by
  have h : paidP s bs ws xs = paidP s bs ws (xs.take m) ++ (((xs.drop m).zip (judgeF s bs ws (paidP s bs ws (xs.take m)) (xs.drop m))).filter fun p => decide (p.2 = 1)).map (·.1) := by
    have h1 : paidP s bs ws xs = runF s bs ws (paidP s bs ws (xs.take m)) (xs.drop m) := by
      unfold paidP
      rw [← run_append, List.take_append_drop]
    rw [h1, run_filter]
  rw [h]
  unfold monies
  rw [List.filter_append, List.map_append]
  exact ⟨_, rfl⟩
theorem pay_mem {t : PTariff} {xs : List PScan} {p : PPay} (h : p ∈ paysP s bs ws t xs) : ∃ w : Nat, w < ws.length ∧ monies s bs t (paidP s bs ws xs) w ≠ [] ∧ p = ⟨w, sumP (monies s bs t (paidP s bs ws xs) w), max (t.least - sumP (monies s bs t (paidP s bs ws xs) w)) 0⟩ := by
  obtain ⟨w, hw, hp⟩ := List.mem_flatMap.1 h
  unfold payOf at hp
  split at hp
  · cases hp
  · rename_i h1
    exact ⟨w, List.mem_range.1 hw, h1, List.mem_singleton.1 hp⟩
theorem mem_pay {t : PTariff} {xs : List PScan} {w : Nat} (hw : w < ws.length) (h : monies s bs t (paidP s bs ws xs) w ≠ []) : (⟨w, sumP (monies s bs t (paidP s bs ws xs) w), max (t.least - sumP (monies s bs t (paidP s bs ws xs) w)) 0⟩ : PPay) ∈ paysP s bs ws t xs := by
  refine List.mem_flatMap.2 ⟨w, List.mem_range.2 hw, ?_⟩
  unfold payOf
  rw [if_neg h]
  simp
/-- Scans behind the recorded ones take no wage away. -/
theorem pays_kept {t : PTariff} (ht : tariffE t = 0) (h : scanE s bs ws = 0) (xs : List PScan) (m : Nat) {p : PPay} (hp : p ∈ paysP s bs ws t (xs.take m)) : ∃ q ∈ paysP s bs ws t xs, q.worker = p.worker ∧ p.work ≤ q.work := by
  obtain ⟨w, hw, hne, rfl⟩ := pay_mem hp
  obtain ⟨k, hk⟩ := monies_more (s := s) (bs := bs) (ws := ws) t xs m w
  have hne2 : monies s bs t (paidP s bs ws xs) w ≠ [] := by
    rw [hk]
    intro e
    exact hne (List.append_eq_nil_iff.1 e).1
  refine ⟨_, mem_pay hw hne2, rfl, ?_⟩
  show sumP _ ≤ sumP _
  have hb := monies_bounds ht h xs w
  rw [hk] at hb ⊢
  have := sum_nn (l := k) fun z hz => (hb z (List.mem_append_right _ hz)).1
  rw [sum_app]
  omega
theorem paysE_zero {t : PTariff} {n : Nat} (h : paysE s bs ws t n = 0) : tariffE t = 0 ∧ scanE s bs ws = 0 ∧ n ≤ 300 := by
  unfold paysE at h
  split at h
  · rename_i h1
    exact absurd h h1
  · rename_i h1
    obtain ⟨h2, h3⟩ := jerr_zero h
    exact ⟨by simpa using h1, h2, h3⟩
theorem paysE_ok {t : PTariff} {n : Nat} (h : tariffE t = 0) (h1 : scanE s bs ws = 0) (h2 : n ≤ 300) : paysE s bs ws t n = 0 := by
  unfold paysE
  rw [if_neg (by simpa using h), jerr_ok h1 (by omega)]
theorem paysP_len (t : PTariff) (xs : List PScan) : (paysP s bs ws t xs).length ≤ ws.length := by
  have h : ∀ (l : List Nat) (f : Nat → List PPay), (∀ w, (f w).length ≤ 1) → (l.flatMap f).length ≤ l.length := by
    intro l f hf
    induction l with
    | nil => simp
    | cons a l ih =>
      have := hf a
      rw [List.flatMap_cons, List.length_append, List.length_cons]
      omega
  have := h (List.range ws.length) (fun w => payOf t w (monies s bs t (paidP s bs ws xs) w)) fun w => by
    unfold payOf
    split <;> simp
  simpa [paysP] using this
end
end Go.Proofs.YthomflbjijjhaaaGreatDoor

/- Rows of money in memory: a slice of slices, each of the call's own, that grow one at a time. Nothing here walks the program. -/
namespace Go.Proofs.YthomflbjijjhaaaGreatDoor
open Go.RowKit

theorem blk_grew2 {W W' w7 : World} {g : Nat} {T : TypeId} {cs : Array Value} {r : Option Nat} (h : Blk W g T cs) (hg : W'.grownBy w7 r) (hb : Below W.heap.size W W') (hne : some g ≠ r) : Blk w7 g T cs := Blk.grew (h.below hb) hg hne
theorem own_diff {w : World} {base size n g : Nat} {e T : TypeId} {v : Value} {xs : List Value} {cs : Array Value} (h : w.ownsRow base e size v n xs) (hb : Blk w g T cs) (hne : T ≠ e) : some g ≠ v.ownBlock := by
  rcases h.2 with ⟨rfl, _⟩ | ⟨b, cap, cur, rfl, _, hc, _⟩
  · simp [Value.ownBlock]
  · intro q
    obtain rfl : g = b := by simpa [Value.ownBlock] using q
    unfold Blk at hb
    rw [hc] at hb
    injection hb with hb
    injection hb with _ hb _
    exact hne hb.symm
/-- Block g holds a slice for each list; each has a block of its own. -/
structure AmM (T E : TypeId) (W : World) (g : Nat) (vs : List Value) (ms : List (List Int)) : Prop where
  blk : Blk W g T vs.toArray
  len : vs.length = ms.length
  own : ∀ (j : Nat) (v : Value) (m : List Int), vs[j]? = some v → ms[j]? = some m → W.ownsRow (g + 1) E 1 v m.length (ints m)
  off : ∀ (i j : Nat) (u v : Value), i ≠ j → vs[i]? = some u → vs[j]? = some v → u.ownBlock = none ∨ u.ownBlock ≠ v.ownBlock
section
variable {T E : TypeId} {W W' : World} {g : Nat} {vs : List Value} {ms : List (List Int)}
theorem AmM.start (W : World) (T E : TypeId) (k : Nat) : AmM T E (W.alloc (.cells (List.replicate k (Value.slice none 0 0)).toArray T)) W.heap.size (List.replicate k (.slice none 0 0)) (List.replicate k []) := by
  refine ⟨Blk.new _ _ _, by simp, fun j v m hv hm => ?_, fun i j u v _ hu _ => .inl ?_⟩
  · obtain ⟨_, rfl⟩ := by simpa [List.getElem?_replicate] using hv
    obtain ⟨_, rfl⟩ := by simpa [List.getElem?_replicate] using hm
    exact World.ownsRow_nil _ _ _ _
  · obtain ⟨_, rfl⟩ := by simpa [List.getElem?_replicate] using hu
    rfl
theorem AmM.below (h : AmM T E W g vs ms) (hb : Below W.heap.size W W') : AmM T E W' g vs ms :=
  ⟨h.blk.below hb, h.len, fun j v m hv hm => own_below (h.own j v m hv hm) hb, h.off⟩
theorem AmM.drew (h : AmM T E W g vs ms) : AmM T E W.drew g vs ms := h.below ((Below.refl _ _).drew)
theorem AmM.lt (h : AmM T E W g vs ms) : g < W.heap.size := h.blk.lt
theorem AmM.at_ (h : AmM T E W g vs ms) {k : Nat} {m : List Int} (hm : ms[k]? = some m) : ∃ v, vs[k]? = some v ∧ W.cell? ⟨g, k, none⟩ = some v ∧ W.ownsRow (g + 1) E 1 v m.length (ints m) := by
  have hk := (List.getElem?_eq_some_iff.1 hm).1
  have hk2 : k < vs.length := by rw [h.len]; exact hk
  refine ⟨vs[k], List.getElem?_eq_getElem hk2, h.blk.c (by rw [List.getElem?_toArray]; exact List.getElem?_eq_getElem hk2), h.own k _ m (List.getElem?_eq_getElem hk2) hm⟩
/-- The block of slices behind an append to another block. -/
theorem AmM.kept_blk {w7 : World} {v : Value} (h : AmM T E W g vs ms) (hg : W'.grownBy w7 v.ownBlock) (hb : Below W.heap.size W W') (hne : some g ≠ v.ownBlock) : Blk w7 g T vs.toArray := Blk.grew (h.blk.below hb) hg hne
/-- One list grows by a number: its slice comes back and is stored. -/
theorem AmM.grow {k : Nat} {m : List Int} {x : Int} {v v' : Value} (h : AmM T E W g vs ms) (hm : ms[k]? = some m) (hv : vs[k]? = some v)
    (hn : W'.ownsRow (g + 1) E 1 v' (m.length + 1) (ints m ++ [.int .i64 x])) (hg : W.grownBy W' v.ownBlock) (hb : v'.ownBlock = v.ownBlock ∨ v'.ownBlock = some W.heap.size) :
    AmM T E (W'.setCell ⟨g, k, none⟩ v') g (vs.set k v') (ms.set k (m ++ [x])) := by
  have hlt := h.lt
  have hgv : some g ≠ v.ownBlock := own_ne (h.own k v m hv hm) (Nat.lt_succ_self g)
  have hbl : Blk W' g T vs.toArray := Blk.grew h.blk hg hgv
  have hset : W'.grownBy (W'.setCell ⟨g, k, none⟩ v') (some g) := by
    refine ⟨rfl, rfl, rfl, by simp [World.setCell], fun j _ hj => ?_⟩
    exact Below.heap_setCell W' ⟨g, k, none⟩ v' j (fun e => hj (by rw [e]))
  have hk := (List.getElem?_eq_some_iff.1 hm).1
  have hk2 := (List.getElem?_eq_some_iff.1 hv).1
  have hkept : ∀ (u : Value) (l : List Int), W'.ownsRow (g + 1) E 1 u l.length (ints l) → (W'.setCell ⟨g, k, none⟩ v').ownsRow (g + 1) E 1 u l.length (ints l) := fun u l hu => hu.kept hset (.inr (own_ne hu (Nat.lt_succ_self g)).symm)
  have hlts : ∀ (j : Nat) (u : Value), vs[j]? = some u → u.ownBlock ≠ some W.heap.size := fun j u hu e => by
    have hj : j < ms.length := by rw [← h.len]; exact (List.getElem?_eq_some_iff.1 hu).1
    have := (h.own j u _ hu (List.getElem?_eq_getElem hj)).lt _ e
    omega
  refine ⟨?_, by simp [h.len], fun j u l hu hl => ?_, fun i j u w hij hu hw => ?_⟩
  · have := hbl.set_ k v'
    simpa using this
  · rw [List.getElem?_set] at hu hl
    by_cases e : k = j
    · subst e
      rw [if_pos rfl, if_pos hk2] at hu
      rw [if_pos rfl, if_pos hk] at hl
      obtain rfl := Option.some.inj hu
      obtain rfl := Option.some.inj hl
      have h1 : W'.ownsRow (g + 1) E 1 v' (m ++ [x]).length (ints (m ++ [x])) := by simpa [ints] using hn
      exact hkept _ _ h1
    · rw [if_neg e] at hu hl
      refine hkept _ _ ((h.own j u l hu hl).kept hg ?_)
      exact h.off j k u v (fun q => e q.symm) hu hv
  · rw [List.getElem?_set] at hu hw
    by_cases e : k = i
    · subst e
      rw [if_pos rfl, if_pos hk2] at hu
      obtain rfl := Option.some.inj hu
      rw [if_neg hij] at hw
      rcases hb with hb | hb
      · rw [hb]
        exact h.off k j v w hij hv hw
      · exact .inr (by rw [hb]; exact fun q => hlts j w hw q.symm)
    · rw [if_neg e] at hu
      by_cases e2 : k = j
      · subst e2
        rw [if_pos rfl, if_pos hk2] at hw
        obtain rfl := Option.some.inj hw
        rcases hb with hb | hb
        · rw [hb]
          exact h.off i k u v hij hu hv
        · exact .inr (by rw [hb]; exact hlts i u hu)
      · rw [if_neg e2] at hw
        exact h.off i j u w hij hu hw
theorem AmM.step {w7 : World} {k : Nat} {m : List Int} {x : Int} {v v' : Value} (h : AmM T E W g vs ms) (hg : W'.grownBy w7 v.ownBlock) (hb : Below W.heap.size W W') (hm : ms[k]? = some m) (hv : vs[k]? = some v)
    (hn : w7.ownsRow (g + 1) E 1 v' (m.length + 1) (ints m ++ [.int .i64 x])) (hd : v'.ownBlock = v.ownBlock ∨ v'.ownBlock = some W'.heap.size) :
    AmM T E (w7.setCell ⟨g, k, none⟩ v') g (vs.set k v') (ms.set k (m ++ [x])) := (h.below hb).grow hm hv hn hg hd
theorem below_step {w0 w7 : World} {B : Nat} {r : Option Nat} (h : Below B w0 W) (hB : B ≤ W.heap.size) (hg : W'.grownBy w7 r) (hb : Below W.heap.size W W') (hr : ∀ b, r = some b → B ≤ b) : Below B w0 w7 :=
  below_own (h.trans (hb.mono hB)) hg (Nat.le_trans hB hb.size) hr
end
end Go.Proofs.YthomflbjijjhaaaGreatDoor
