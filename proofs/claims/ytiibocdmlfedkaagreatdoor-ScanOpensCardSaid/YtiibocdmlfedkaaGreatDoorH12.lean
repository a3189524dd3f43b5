/- Parts of the proof. -/
import Derived.Test.YtiibocdmlfedkaaGreatDoorH08
import Derived.Test.YtiibocdmlfedkaaGreatDoorH11
namespace Go.Proofs.YtiibocdmlfedkaaGreatDoor
section
section
variable {n i : Nat} {l : List Int} {x : Int}
theorem idx_no (h : l[i]? = some x) (hx : x < 0 ∨ (n : Int) ≤ x) : idxB n l = false := by
 unfold idxB
 rw [List.all_eq_false]
 refine ⟨x, List.mem_of_getElem? h, ?_⟩
 simp
 omega
theorem idx_yes (h : ∀ (j : Nat) (x : Int), l[j]? = some x → 0 ≤ x ∧ x < (n : Int)) : idxB n l = true := by
 unfold idxB
 rw [List.all_eq_true]
 intro x hx
 obtain ⟨j, hj⟩ := List.getElem?_of_mem hx
 simpa using h j x hj
theorem idx_at (h : idxB n l = true) (hx : l[i]? = some x) : 0 ≤ x ∧ x < (n : Int) := by
 unfold idxB at h
 rw [List.all_eq_true] at h
 simpa using h x (List.mem_of_getElem? hx)
theorem dup_yes : ∀ {l : List Int} {i : Nat} {x : Int}, l[i]? = some x → x ∈ l.take i → twiceB l = true
 | [], i, x, h, _ => by simp at h
 | y :: l, 0, x, _, h => by simp at h
 | y :: l, i + 1, x, h, hm => by
  rw [twiceB, Bool.or_eq_true]
  rw [List.getElem?_cons_succ] at h
  rw [List.take_succ_cons] at hm
  rcases List.mem_cons.1 hm with rfl | hm
  ·left
   simpa using List.mem_of_getElem? h
  ·right
   exact dup_yes h hm
theorem dup_no : ∀ {l : List Int}, (∀ (i : Nat) (x : Int), l[i]? = some x → x ∉ l.take i) → twiceB l = false
 | [], _ => rfl
 | y :: l, h => by
  rw [twiceB, Bool.or_eq_false_iff]
  constructor
  ·cases hc : l.contains y
   ·rfl
   ·obtain ⟨j, hj⟩ := List.getElem?_of_mem (by simpa using hc)
    exact absurd (by rw [List.take_succ_cons]; exact List.mem_cons_self) (h (j + 1) y (by simpa using hj))
  ·exact dup_no fun i x hx hm => h (i + 1) x (by simpa using hx) (by rw [List.take_succ_cons]; exact List.mem_cons_of_mem _ hm)
end
section
variable {l : List POp} {u : Option Nat} {i : Nat} {o : POp}
theorem op_name (h : l[i]? = some o) (h1 : nameOk o.name.data.toList = false) : opE l u i = 1 := by rw [opE, h]; simp [h1]
theorem op_twice (h : l[i]? = some o) (h1 : nameOk o.name.data.toList = true) (h2 : hasName o.name ((l.take i).map (·.name)) = true) : opE l u i = 7 := by rw [opE, h]; simp only [h1, h2]; rfl
theorem op_range (h : l[i]? = some o) (h1 : nameOk o.name.data.toList = true) (h2 : hasName o.name ((l.take i).map (·.name)) = false) (h3 : o.machine < 0 ∨ 8 ≤ o.machine ∨ o.minutes < 1 ∨ 10000 < o.minutes) : opE l u i = 3 := by
 rw [opE, h]; simp only [h1, h2, if_pos h3]; rfl
theorem op_index (h : l[i]? = some o) (h1 : nameOk o.name.data.toList = true) (h2 : hasName o.name ((l.take i).map (·.name)) = false) (h3 : ¬ (o.machine < 0 ∨ 8 ≤ o.machine ∨ o.minutes < 1 ∨ 10000 < o.minutes)) (h4 : idxB l.length o.after = false ∨ usesIn u o.uses = false) : opE l u i = 3 := by
 rw [opE, h]; simp only [h1, h2, if_neg h3, if_pos h4]; rfl
theorem op_again (h : l[i]? = some o) (h1 : nameOk o.name.data.toList = true) (h2 : hasName o.name ((l.take i).map (·.name)) = false) (h3 : ¬ (o.machine < 0 ∨ 8 ≤ o.machine ∨ o.minutes < 1 ∨ 10000 < o.minutes)) (h4 : idxB l.length o.after = true) (h4' : usesIn u o.uses = true) (h5 : twiceB o.after = true ∨ usesTwice u o.uses = true) : opE l u i = 7 := by
 rw [opE, h]; simp only [h1, h2, if_neg h3, h4, h4', if_pos h5]; rfl
theorem op_ok (h : l[i]? = some o) (h1 : nameOk o.name.data.toList = true) (h2 : hasName o.name ((l.take i).map (·.name)) = false) (h3 : ¬ (o.machine < 0 ∨ 8 ≤ o.machine ∨ o.minutes < 1 ∨ 10000 < o.minutes)) (h4 : idxB l.length o.after = true) (h4' : usesIn u o.uses = true) (h5 : twiceB o.after = false) (h5' : usesTwice u o.uses = false) : opE l u i = 0 := by
 rw [opE, h]; simp only [h1, h2, if_neg h3, h4, h4', h5, h5']; rfl
theorem op_zero (h : l[i]? = some o) (h0 : opE l u i = 0) : (0 ≤ o.machine ∧ o.machine < 8) ∧ idxB l.length o.after = true ∧ usesIn u o.uses = true := by
 rw [opE, h] at h0
 simp only at h0
 split at h0
 ·cases h0
 ·split at h0
  ·cases h0
  ·split at h0
   ·cases h0
   ·split at h0
    ·cases h0
    ·rename_i a b
     refine ⟨by omega, ?_, ?_⟩
     ·cases hq : idxB l.length o.after
      ·exact absurd (.inl hq) b
      ·rfl
     ·cases hq : usesIn u o.uses
      ·exact absurd (.inr hq) b
      ·rfl
theorem list_long (h : 16 < l.length) : listE l u = 5 := by rw [listE, if_pos h]
theorem list_at (h : ¬ 16 < l.length) (hi : i < l.length) (hz : ∀ j, j < i → opE l u j = 0) {e : Int} (he : opE l u i = e) (h0 : e ≠ 0) : listE l u = e := by
 have hf := firstR_at hi hz (by rw [he]; exact h0)
 rw [listE, if_neg h, if_pos (by rw [hf, he]; exact h0), hf, he]
theorem list_cycle (h : ¬ 16 < l.length) (hz : ∀ j, j < l.length → opE l u j = 0) (h1 : (orderP l).length < l.length) : listE l u = 9 := by
 rw [listE, if_neg h, if_neg (by rw [firstR_none hz]; simp), if_pos h1]
theorem list_ok (h : ¬ 16 < l.length) (hz : ∀ j, j < l.length → opE l u j = 0) (h1 : ¬ (orderP l).length < l.length) : listE l u = 0 := by
 rw [listE, if_neg h, if_neg (by rw [firstR_none hz]; simp), if_neg h1]
theorem list_zero (h : listE l u = 0) : l.length ≤ 16 ∧ (∀ j, j < l.length → opE l u j = 0) ∧ ¬ (orderP l).length < l.length := by
 unfold listE at h
 split at h
 ·cases h
 ·split at h
  ·rename_i h1 h2
   exact absurd h h2
  ·split at h
   ·cases h
   ·rename_i h1 h2 h3
    refine ⟨by omega, ?_, h3⟩
    intro j
    induction j using Nat.strongRecOn with
    | _ j ih =>
     intro hj
     by_cases hz : opE l u j = 0
     ·exact hz
     ·exact absurd (fun e => hz ((firstR_at hj (fun k hk => ih k hk (by omega)) hz).symm.trans e)) h2
end
section
variable {s : PStyle}
theorem ops_style {e : Int} (h : styleE s = e) (h0 : e ≠ 0) : opsE s = e := by rw [opsE, if_pos (by rw [h]; exact h0), h]
theorem ops_list (h : styleE s = 0) {e : Int} (h1 : listE s.ops (some s.uses.length) = e) (h0 : e ≠ 0) : opsE s = e := by
 rw [opsE, if_neg (by simp [h]), if_pos (by rw [h1]; exact h0), h1]
theorem ops_gap (h : styleE s = 0) (h1 : listE s.ops (some s.uses.length) = 0) {k : Nat} (hk : k < s.uses.length) (ht : takenB s k = false) : opsE s = 20 := by
 rw [opsE, if_neg (by simp [h]), if_neg (by simp [h1]), if_pos (all_false hk ht)]
theorem ops_ok (h : styleE s = 0) (h1 : listE s.ops (some s.uses.length) = 0) (ht : ∀ k, k < s.uses.length → takenB s k = true) : opsE s = 0 := by
 rw [opsE, if_neg (by simp [h]), if_neg (by simp [h1]), if_neg (by rw [all_true ht]; simp)]
theorem ops_zero (h : opsE s = 0) : styleE s = 0 ∧ listE s.ops (some s.uses.length) = 0 := by
 unfold opsE at h
 split at h
 ·rename_i a; exact absurd h a
 ·rename_i a
  split at h
  ·rename_i b; exact absurd h b
  ·rename_i b
   exact ⟨by simpa using a, by simpa using b⟩
theorem taken_iff {u : Nat} : takenB s u = true ↔ ∃ o ∈ s.ops, (u : Int) ∈ o.uses := by
 unfold takenB
 rw [List.any_eq_true]
 simp
end
section
variable {l : List PBundle} {i : Nat} {b : PBundle}
theorem bundle_range (h : l[i]? = some b) (h1 : b.to_ ≤ b.from_ ∨ 40 < b.to_ - b.from_) : bundleE l i = 3 := by rw [bundleE, h]; simp [h1]
theorem bundle_twice (h : l[i]? = some b) (h1 : ¬ (b.to_ ≤ b.from_ ∨ 40 < b.to_ - b.from_)) (h2 : b.ticket ∈ (l.take i).map (·.ticket)) : bundleE l i = 7 := by rw [bundleE, h]; simp only [if_neg h1, if_pos h2]
theorem bundle_ok (h : l[i]? = some b) (h1 : ¬ (b.to_ ≤ b.from_ ∨ 40 < b.to_ - b.from_)) (h2 : b.ticket ∉ (l.take i).map (·.ticket)) : bundleE l i = 0 := by rw [bundleE, h]; simp only [if_neg h1, if_neg h2]
end
theorem tick_yes {l : List PBundle} {i j : Nat} {b b' : PBundle} (hj : j < i) (h : l[j]? = some b') (e : b'.ticket = b.ticket) : b.ticket ∈ (l.take i).map (·.ticket) :=
 List.mem_map.2 ⟨b', List.mem_of_getElem? (i := j) (by rw [List.getElem?_take, if_pos hj]; exact h), e⟩
theorem tick_no {l : List PBundle} {i : Nat} {t : Int} (h : ∀ (j : Nat) (b' : PBundle), j < i → l[j]? = some b' → b'.ticket ≠ t) : t ∉ (l.take i).map (·.ticket) := by
 intro hm
 obtain ⟨b', hb, e⟩ := List.mem_map.1 hm
 obtain ⟨j, hj⟩ := List.getElem?_of_mem hb
 rw [List.getElem?_take] at hj
 split at hj
 ·rename_i hlt
  exact h j b' hlt hj e
 ·cases hj
section
variable {l : List PWorker} {i : Nat} {x : PWorker}
theorem worker_name (h : l[i]? = some x) (h1 : nameOk x.name.data.toList = false) : workerE l i = 1 := by rw [workerE, h]; simp [h1]
theorem worker_twice (h : l[i]? = some x) (h1 : nameOk x.name.data.toList = true) (h2 : hasName x.name ((l.take i).map (·.name)) = true) : workerE l i = 7 := by rw [workerE, h]; simp only [h1, h2]; rfl
theorem worker_mach (h : l[i]? = some x) (h1 : nameOk x.name.data.toList = true) (h2 : hasName x.name ((l.take i).map (·.name)) = false) : workerE l i = machE [] x.machines := by rw [workerE, h]; simp only [h1, h2]; rfl
theorem workers_long (h : 12 < l.length) : workersE l = 5 := by rw [workersE, if_pos h]
theorem workers_at (h : ¬ 12 < l.length) (hi : i < l.length) (hz : ∀ j, j < i → workerE l j = 0) {e : Int} (he : workerE l i = e) (h0 : e ≠ 0) : workersE l = e := by
 have hf := firstR_at hi hz (by rw [he]; exact h0)
 rw [workersE, if_neg h, hf, he]
theorem workers_ok (h : ¬ 12 < l.length) (hz : ∀ j, j < l.length → workerE l j = 0) : workersE l = 0 := by rw [workersE, if_neg h, firstR_none hz]
end
theorem mach_at : ∀ {l seen : List Int} {i : Nat} {m : Int}, (∀ (j : Nat) (y : Int), j < i → l[j]? = some y → 0 ≤ y ∧ y < 8 ∧ y ∉ seen ∧ y ∉ l.take j) → l[i]? = some m →
  machE seen l = if m < 0 ∨ 8 ≤ m then 3 else if m ∈ seen ∨ m ∈ l.take i then 7 else machE ((l.take (i + 1)).reverse ++ seen) (l.drop (i + 1))
 | [], seen, i, m, _, h => by simp at h
 | x :: l, seen, 0, m, _, h => by
  obtain rfl : x = m := by simpa using h
  rw [machE]
  simp
 | x :: l, seen, i + 1, m, hz, h => by
  obtain ⟨h1, h2, h3, _⟩ := hz 0 x (by omega) rfl
  rw [machE, if_neg (by omega), if_neg h3, mach_at (i := i) (m := m) (fun j y hj hy => ?_) (by simpa using h)]
  ·simp only [List.mem_cons, List.take_succ_cons, List.drop_succ_cons, List.reverse_cons, List.append_assoc, List.singleton_append]
   have : (m = x ∨ m ∈ seen) ∨ m ∈ List.take i l ↔ m ∈ seen ∨ m = x ∨ m ∈ List.take i l := by
    constructor
    ·rintro ((h | h) | h)
     ·exact .inr (.inl h)
     ·exact .inl h
     ·exact .inr (.inr h)
    ·rintro (h | h | h)
     ·exact .inl (.inr h)
     ·exact .inl (.inl h)
     ·exact .inr h
   simp only [this]
  ·obtain ⟨a, b, c, d⟩ := hz (j + 1) y (by omega) (by simpa using hy)
   rw [List.take_succ_cons, List.mem_cons] at d
   refine ⟨a, b, ?_, fun hm => d (.inr hm)⟩
   rw [List.mem_cons]
   rintro (rfl | hm)
   ·exact d (.inl rfl)
   ·exact c hm
theorem mach_ok : ∀ {l seen : List Int}, (∀ (j : Nat) (y : Int), l[j]? = some y → 0 ≤ y ∧ y < 8 ∧ y ∉ seen ∧ y ∉ l.take j) → machE seen l = 0
 | [], seen, _ => by rw [machE]
 | x :: l, seen, hz => by
  obtain ⟨h1, h2, h3, _⟩ := hz 0 x rfl
  rw [machE, if_neg (by omega), if_neg h3]
  refine mach_ok fun j y hy => ?_
  obtain ⟨a, b, c, d⟩ := hz (j + 1) y (by simpa using hy)
  rw [List.take_succ_cons, List.mem_cons] at d
  refine ⟨a, b, ?_, fun hm => d (.inr hm)⟩
  rw [List.mem_cons]
  rintro (rfl | hm)
  ·exact d (.inl rfl)
  ·exact c hm
section
variable {s : PStyle} {bs : List PBundle} {ws : List PWorker}
theorem scan_ops {e : Int} (h : opsE s = e) (h0 : e ≠ 0) : scanE s bs ws = e := by rw [scanE, if_pos (by rw [h]; exact h0), h]
theorem scan_long (h : opsE s = 0) (h1 : 60 < bs.length) : scanE s bs ws = 5 := by rw [scanE, if_neg (by simp [h]), if_pos h1]
theorem scan_bundle (h : opsE s = 0) (h1 : ¬ 60 < bs.length) {i : Nat} (hi : i < bs.length) (hz : ∀ j, j < i → bundleE bs j = 0) {e : Int} (he : bundleE bs i = e) (h0 : e ≠ 0) : scanE s bs ws = e := by
 have hf := firstR_at hi hz (by rw [he]; exact h0)
 rw [scanE, if_neg (by simp [h]), if_neg h1, if_pos (by rw [hf, he]; exact h0), hf, he]
theorem scan_workers (h : opsE s = 0) (h1 : ¬ 60 < bs.length) (hz : ∀ j, j < bs.length → bundleE bs j = 0) : scanE s bs ws = workersE ws := by
 rw [scanE, if_neg (by simp [h]), if_neg h1, if_neg (by rw [firstR_none hz]; simp)]
end
end
section
open Go.RowKit
def boolC (n : Nat) (xs : List Int) : Array Value := ((List.range n).map fun i : Nat => Value.bool (decide ((i : Int) ∈ xs))).toArray
section
variable {n k : Nat} {xs : List Int}
theorem boolC_size : (boolC n xs).size = n := by simp [boolC]
theorem boolC_at (h : k < n) : (boolC n xs)[k]? = some (.bool (decide ((k : Int) ∈ xs))) := by
 unfold boolC
 rw [List.getElem?_toArray, List.getElem?_map, List.getElem?_range h]
 rfl
theorem boolC_add : (boolC n xs).setIfInBounds k (.bool true) = boolC n (xs ++ [(k : Int)]) := by
 refine Array.ext (by simp [boolC_size]) fun i h1 h2 => ?_
 rw [boolC_size] at h2
 refine Option.some.inj ?_
 rw [← Array.getElem?_eq_getElem, ← Array.getElem?_eq_getElem, Array.getElem?_setIfInBounds]
 by_cases e : k = i
 ·subst e
  rw [if_pos rfl, if_pos (by rw [boolC_size]; exact h2), boolC_at h2]
  simp
 ·rw [if_neg e, boolC_at h2, boolC_at h2]
  have : ¬ (i : Int) = (k : Int) := by omega
  simp [this]
theorem boolC_nil : boolC n [] = Array.replicate n (.bool false) := by
 refine Array.ext (by simp [boolC_size]) fun i h1 h2 => ?_
 rw [boolC_size] at h1
 refine Option.some.inj ?_
 rw [← Array.getElem?_eq_getElem, boolC_at h1]
 simp
end
end
section
open Go.RowKit
def recC (paid : List PScan) (t : Int) : Array Value := (((List.range 16).map fun op : Nat => Value.bool (doneB paid t (op : Int))) ++ [Value.int .i64 (lastP paid t)]).toArray
theorem recC_size (paid : List PScan) (t : Int) : (recC paid t).size = 17 := by simp [recC]
theorem recC_op {paid : List PScan} {t : Int} {k : Nat} (h : k < 16) : (recC paid t)[k]? = some (.bool (doneB paid t (k : Int))) := by
 unfold recC
 rw [List.getElem?_toArray, List.getElem?_append_left (by simpa using h), List.getElem?_map, List.getElem?_range h]
 rfl
theorem recC_last {paid : List PScan} {t : Int} : (recC paid t)[16]? = some (.int .i64 (lastP paid t)) := by
 unfold recC
 rw [List.getElem?_toArray, List.getElem?_append_right (by simp)]
 simp
theorem done_snoc (paid : List PScan) (x : PScan) (t op : Int) : doneB (paid ++ [x]) t op = (doneB paid t op || (decide (x.ticket = t) && decide (x.op = op))) := by
 unfold doneB
 rw [List.any_append]
 simp
theorem recC_pay {paid : List PScan} {x : PScan} {k : Nat} (hk : x.op = (k : Int)) : ((recC paid x.ticket).setIfInBounds k (.bool true)).setIfInBounds 16 (.int .i64 x.at_) = recC (paid ++ [x]) x.ticket := by
 refine Array.ext (by simp [recC_size]) fun i h1 h2 => ?_
 rw [recC_size] at h2
 refine Option.some.inj ?_
 rw [← Array.getElem?_eq_getElem, ← Array.getElem?_eq_getElem, Array.getElem?_setIfInBounds, Array.getElem?_setIfInBounds]
 by_cases e1 : 16 = i
 ·subst e1
  rw [if_pos rfl, if_pos (by simp [recC_size]), recC_last, last_snoc, if_pos rfl]
 ·rw [if_neg e1]
  have hi : i < 16 := by omega
  by_cases e2 : k = i
  ·subst e2
   rw [if_pos rfl, if_pos (by rw [recC_size]; omega), recC_op hi, done_snoc, hk]
   simp
  ·rw [if_neg e2, recC_op hi, recC_op hi, done_snoc, hk]
   have : ¬ (k : Int) = (i : Int) := by omega
   simp [this]
theorem recC_other {paid : List PScan} {x : PScan} {t : Int} (h : x.ticket ≠ t) : recC (paid ++ [x]) t = recC paid t := by
 unfold recC
 rw [last_snoc, if_neg h]
 congr 2
 refine List.map_congr_left fun op _ => ?_
 rw [done_snoc]
 simp [h]
structure JudM (T : TypeId) (B : Nat) (w : World) (b0 : Nat) (β : Int → Nat) (ts : List Int) (paid : List PScan) : Prop where
 map : ∃ m, MapM (Value.int .i64) w b0 m ∧ ∀ t, mget m t = if t ∈ ts then some (.pointer (some ⟨β t, 0, none⟩)) else none
 rec_ : ∀ t ∈ ts, Blk w (β t) T (recC paid t)
 off : ∀ t ∈ ts, β t ≠ b0
 inj : ∀ t ∈ ts, ∀ u ∈ ts, β t = β u → t = u
 lo : ∀ t ∈ ts, B ≤ β t
 lo0 : B ≤ b0
section
variable {T : TypeId} {B b0 : Nat} {w w' : World} {β : Int → Nat} {ts : List Int} {paid : List PScan}
theorem JudM.below (h : JudM T B w b0 β ts paid) (hb : Below w.heap.size w w') : JudM T B w' b0 β ts paid := by
 obtain ⟨m, hm, hg⟩ := h.map
 exact ⟨⟨m, hm.below hb, hg⟩, fun t ht => (h.rec_ t ht).below hb, h.off, h.inj, h.lo, h.lo0⟩
theorem JudM.lt0 (h : JudM T B w b0 β ts paid) : b0 < w.heap.size := by
 obtain ⟨m, hm, hg⟩ := h.map
 exact hm.lt
theorem JudM.more {g : Nat} {t : Int} {m' : List (Int × Value)} (h : JudM T B w b0 β ts []) (ht : t ∉ ts) (hg : Blk w g T (recC [] t)) (h0 : g ≠ b0) (h1 : ∀ u ∈ ts, β u ≠ g) (hl : B ≤ g)
  (hm' : MapM (Value.int .i64) w' b0 m') (hget : ∀ k, mget m' k = if t = k then some (.pointer (some ⟨g, 0, none⟩)) else if k ∈ ts then some (.pointer (some ⟨β k, 0, none⟩)) else none) (hgr : w.grownBy w' (some b0)) :
  JudM T B w' b0 (fun k => if k = t then g else β k) (ts ++ [t]) [] := by
 have hβ : ∀ u ∈ ts, (if u = t then g else β u) = β u := fun u hu => if_neg (fun e => ht (by rw [← e]; exact hu))
 have gr : ∀ {q : Nat} {cs : Array Value}, Blk w q T cs → q ≠ b0 → Blk w' q T cs := fun hq hne => (hgr.block _ hq.lt (fun e => hne (Option.some.inj e))).trans hq
 refine ⟨⟨m', hm', fun k => ?_⟩, fun u hu => ?_, fun u hu => ?_, fun u hu v hv e => ?_, fun u hu => ?_, h.lo0⟩
 ·rw [hget k]
  by_cases e : t = k
  ·subst e; simp
  ·have e' : ¬ k = t := fun q => e q.symm
   simp [e, e']
 ·rcases List.mem_append.1 hu with hu1 | hu1
  ·simp only [hβ u hu1]
   exact gr (h.rec_ u hu1) (h.off u hu1)
  ·obtain rfl : u = t := by simpa using hu1
   simpa using gr hg h0
 ·rcases List.mem_append.1 hu with hu1 | hu1
  ·simp only [hβ u hu1]
   exact h.off u hu1
  ·obtain rfl : u = t := by simpa using hu1
   simpa using h0
 ·rcases List.mem_append.1 hu with hu1 | hu1
  ·rcases List.mem_append.1 hv with hv1 | hv1
   ·simp only [hβ u hu1, hβ v hv1] at e
    exact h.inj u hu1 v hv1 e
   ·obtain rfl : v = t := by simpa using hv1
    simp only [hβ u hu1, if_true] at e
    exact absurd e (h1 u hu1)
  ·obtain rfl : u = t := by simpa using hu1
   rcases List.mem_append.1 hv with hv1 | hv1
   ·simp only [hβ v hv1, if_true] at e
    exact absurd e.symm (h1 v hv1)
   ·exact (by simpa using hv1 : v = u).symm
 ·rcases List.mem_append.1 hu with hu1 | hu1
  ·simp only [hβ u hu1]
   exact h.lo u hu1
  ·obtain rfl : u = t := by simpa using hu1
   simpa using hl
theorem JudM.pay {x : PScan} {k : Nat} (h : JudM T B w b0 β ts paid) (ht : x.ticket ∈ ts) (hk : x.op = (k : Int)) :
  JudM T B ((w.setCell ⟨β x.ticket, k, none⟩ (.bool true)).setCell ⟨β x.ticket, 16, none⟩ (.int .i64 x.at_)) b0 β ts (paid ++ [x]) := by
 obtain ⟨m, hm, hg⟩ := h.map
 have hset : ∀ (i : Nat), i ≠ β x.ticket → ((w.setCell ⟨β x.ticket, k, none⟩ (.bool true)).setCell ⟨β x.ticket, 16, none⟩ (.int .i64 x.at_)).heap[i]? = w.heap[i]? := fun i hi =>
  (Below.heap_setCell _ ⟨β x.ticket, 16, none⟩ _ i hi).trans (Below.heap_setCell _ ⟨β x.ticket, k, none⟩ _ i hi)
 have hsz : ((w.setCell ⟨β x.ticket, k, none⟩ (.bool true)).setCell ⟨β x.ticket, 16, none⟩ (.int .i64 x.at_)).heap.size = w.heap.size := by simp
 refine ⟨⟨m, ?_, hg⟩, fun t hu => ?_, h.off, h.inj, h.lo, h.lo0⟩
 ·obtain ⟨es, clock, hb, h2⟩ := hm
  exact ⟨es, clock, (hset b0 (fun e => h.off _ ht e.symm)).trans hb, h2⟩
 ·by_cases e : t = x.ticket
  ·subst e
   rw [← recC_pay hk]
   exact ((h.rec_ _ ht).set_ k _).set_ 16 _
  ·rw [recC_other (fun q => e q.symm)]
   exact (hset _ (fun q => e (h.inj t hu _ ht q))).trans (h.rec_ t hu)
end
section
variable {s : PStyle} {bs : List PBundle} {ws : List PWorker} {paid : List PScan} {x : PScan}
def knownB (s : PStyle) (bs : List PBundle) (ws : List PWorker) (x : PScan) : Prop :=
 x.ticket ∈ bs.map (·.ticket) ∧ 0 ≤ x.op ∧ x.op < (s.ops.length : Int) ∧ 0 ≤ x.worker ∧ x.worker < (ws.length : Int) ∧ 0 ≤ x.at_ ∧ x.at_ ≤ 1073741824
theorem any_ticket {t : Int} : (bs.any fun b => decide (b.ticket = t)) = true ↔ t ∈ bs.map (·.ticket) := by
 rw [List.any_eq_true]
 simp
theorem out_unknown (h : ¬ knownB s bs ws x) : outcomeP s bs ws paid x = 3 := by
 rw [outcomeP, if_pos]
 by_cases h1 : (bs.any fun b => decide (b.ticket = x.ticket)) = true
 ·right
  have h2 := any_ticket.1 h1
  unfold knownB at h
  by_cases a1 : x.op < 0
  ·exact .inl a1
  ·by_cases a2 : (s.ops.length : Int) ≤ x.op
   ·exact .inr (.inl a2)
   ·by_cases a3 : x.worker < 0
    ·exact .inr (.inr (.inl a3))
    ·by_cases a4 : (ws.length : Int) ≤ x.worker
     ·exact .inr (.inr (.inr (.inl a4)))
     ·by_cases a5 : x.at_ < 0
      ·exact .inr (.inr (.inr (.inr (.inl a5))))
      ·by_cases a6 : 1073741824 < x.at_
       ·exact .inr (.inr (.inr (.inr (.inr a6))))
       ·exact absurd ⟨h2, by omega, by omega, by omega, by omega, by omega, by omega⟩ h
 ·left
  simpa using h1
theorem out_known (h : knownB s bs ws x) {o : POp} {y : PWorker} (ho : s.ops[x.op.toNat]? = some o) (hy : ws[x.worker.toNat]? = some y) :
  outcomeP s bs ws paid x = if canB y o.machine = false then 4 else if doneB paid x.ticket x.op = true then 2 else if (o.after.all fun a => doneB paid x.ticket a) = false then 5 else if x.at_ < lastP paid x.ticket then 6 else 1 := by
 obtain ⟨h1, h2, h3, h4, h5, h6, h7⟩ := h
 have h1' := any_ticket.2 h1
 rw [outcomeP, if_neg (by rw [h1']; simp; omega), ho, hy]
theorem after_no {o : POp} {j : Nat} {a : Int} (h : o.after[j]? = some a) (hd : doneB paid x.ticket a = false) : (o.after.all fun a => doneB paid x.ticket a) = false := by
 rw [List.all_eq_false]
 exact ⟨a, List.mem_of_getElem? h, by simp [hd]⟩
theorem after_yes {o : POp} (h : ∀ (j : Nat) (a : Int), o.after[j]? = some a → doneB paid x.ticket a = true) : (o.after.all fun a => doneB paid x.ticket a) = true := by
 rw [List.all_eq_true]
 intro a ha
 obtain ⟨j, hj⟩ := List.getElem?_of_mem ha
 exact h j a hj
end
end
end Go.Proofs.YtiibocdmlfedkaaGreatDoor
