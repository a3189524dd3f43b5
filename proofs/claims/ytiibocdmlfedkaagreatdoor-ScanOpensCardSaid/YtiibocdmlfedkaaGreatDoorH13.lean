/- Parts of the proof. -/
import Derived.Test.YtiibocdmlfedkaaGreatDoorH09
import Derived.Test.YtiibocdmlfedkaaGreatDoorH12
namespace Go.Proofs.YtiibocdmlfedkaaGreatDoor
section
open Go.RowKit
theorem firstE_zero : ∀ {es : List Int}, firstE es = 0 → ∀ e ∈ es, e = 0
 | [], _, e, h => by cases h
 | x :: es, h, e, he => by
  rw [firstE] at h
  split at h
  ·rename_i h1
   exact absurd h h1
  ·rename_i h1
   rcases List.mem_cons.1 he with rfl | he
   ·simpa using h1
   ·exact firstE_zero h e he
section
variable {s : PStyle} {bs : List PBundle} {ws : List PWorker}
theorem scan_zero (h : scanE s bs ws = 0) : opsE s = 0 ∧ bs.length ≤ 60 ∧ (∀ j, j < bs.length → bundleE bs j = 0) ∧ workersE ws = 0 := by
 unfold scanE at h
 split at h
 ·rename_i a
  exact absurd h a
 ·rename_i a
  split at h
  ·cases h
  ·rename_i b
   split at h
   ·rename_i c
    exact absurd h c
   ·rename_i c
    refine ⟨by simpa using a, by omega, fun j hj => ?_, h⟩
    exact firstE_zero (by simpa using c) _ (List.mem_map.2 ⟨j, List.mem_range.2 hj, rfl⟩)
theorem ticket_new (h : scanE s bs ws = 0) {i : Nat} {b : PBundle} (hb : bs[i]? = some b) : b.ticket ∉ (bs.take i).map (·.ticket) := by
 have h1 := (scan_zero h).2.2.1 i (List.getElem?_eq_some_iff.1 hb).1
 intro hm
 rw [bundleE, hb] at h1
 simp only at h1
 split at h1
 ·cases h1
 ·simp at h1
theorem ops_idx (h : scanE s bs ws = 0) : s.ops.length ≤ 16 ∧ ∀ y ∈ s.ops, ∀ z ∈ y.after, 0 ≤ z ∧ z < (s.ops.length : Int) := by
 obtain ⟨h1, h2, _⟩ := list_zero (ops_zero (scan_zero h).1).2
 refine ⟨h1, fun y hy z hz => ?_⟩
 obtain ⟨j, hj⟩ := List.getElem?_of_mem hy
 obtain ⟨_, h3, _⟩ := op_zero hj (h2 j (List.getElem?_eq_some_iff.1 hj).1)
 obtain ⟨i, hi⟩ := List.getElem?_of_mem hz
 exact idx_at h3 hi
theorem take_tickets {i : Nat} {b : PBundle} (hb : bs[i]? = some b) : (bs.take (i + 1)).map (·.ticket) = (bs.take i).map (·.ticket) ++ [b.ticket] := by
 rw [List.take_add_one, hb]
 simp
theorem judge_snoc {xs : List PScan} {i : Nat} {x : PScan} (h : xs[i]? = some x) : judgeP s bs ws (xs.take (i + 1)) = judgeP s bs ws (xs.take i) ++ [outcomeP s bs ws (paidP s bs ws (xs.take i)) x] := by
 unfold judgeP paidP
 rw [List.take_add_one, h, Option.toList_some, judge_append]
 rfl
theorem paid_snoc {xs : List PScan} {i : Nat} {x : PScan} (h : xs[i]? = some x) : paidP s bs ws (xs.take (i + 1)) = if outcomeP s bs ws (paidP s bs ws (xs.take i)) x = 1 then paidP s bs ws (xs.take i) ++ [x] else paidP s bs ws (xs.take i) := by
 unfold paidP
 rw [List.take_add_one, h, Option.toList_some, run_append]
 rfl
theorem judgeP_len (xs : List PScan) : (judgeP s bs ws xs).length = xs.length := judge_len [] xs
theorem judge_at {xs : List PScan} {i : Nat} {x : PScan} (h : xs[i]? = some x) : (judgeP s bs ws xs)[i]? = some (outcomeP s bs ws (paidP s bs ws (xs.take i)) x) := by
 have hi := (List.getElem?_eq_some_iff.1 h).1
 have h1 := judge_snoc (s := s) (bs := bs) (ws := ws) h
 have hl : (judgeP s bs ws (xs.take i)).length = i := by rw [judgeP_len, List.length_take]; omega
 rw [judge_take] at h1
 have h2 := congrArg (fun l : List Int => l[i]?) h1
 rw [List.getElem?_take, if_pos (Nat.lt_succ_self i), List.getElem?_append_right (by omega), hl, Nat.sub_self] at h2
 exact h2
def judgeErr (s : PStyle) (bs : List PBundle) (ws : List PWorker) (n : Nat) : Int := if scanE s bs ws ≠ 0 then scanE s bs ws else if 300 < n then 5 else 0
theorem jerr_bad {n : Nat} (h : scanE s bs ws ≠ 0 ∨ 300 < n) : judgeErr s bs ws n ≠ 0 ∧ judgeErr s bs ws n = if scanE s bs ws ≠ 0 then scanE s bs ws else 5 := by
 unfold judgeErr
 by_cases h0 : scanE s bs ws = 0
 ·have h1 := h.resolve_left (fun q => q h0)
  simp [h0, h1]
 ·simp [h0]
theorem jerr_ok {n : Nat} (h : scanE s bs ws = 0) (h1 : ¬ 300 < n) : judgeErr s bs ws n = 0 := by
 unfold judgeErr
 simp [h, h1]
theorem jerr_zero {n : Nat} (h : judgeErr s bs ws n = 0) : scanE s bs ws = 0 ∧ n ≤ 300 := by
 by_cases h0 : scanE s bs ws = 0
 ·refine ⟨h0, ?_⟩
  by_cases h1 : 300 < n
  ·exact absurd h (jerr_bad (.inr h1)).1
  ·omega
 ·exact absurd h (jerr_bad (.inl h0)).1
end
def outC (n : Nat) (os : List Int) : Array Value := (ints os ++ List.replicate (n - os.length) (Value.int .i64 0)).toArray
section
variable {n : Nat} {os : List Int}
theorem outC_nil : outC n [] = Array.replicate n (Value.int .i64 0) := by
 refine Array.toList_inj.1 ?_
 simp [outC, ints]
theorem outC_set {k : Nat} (hk : os.length = k) (h : k < n) (e : Int) : (outC n os).setIfInBounds k (.int .i64 e) = outC n (os ++ [e]) := by
 subst hk
 refine Array.toList_inj.1 ?_
 obtain ⟨m, hm⟩ : ∃ m, n - os.length = m + 1 := ⟨n - os.length - 1, by omega⟩
 have h2 : n - (os.length + 1) = m := by omega
 simp [outC, ints, hm, h2, List.replicate_succ]
theorem outC_get {k : Nat} {e : Int} (h : os[k]? = some e) : (outC n os)[k]? = some (.int .i64 e) := by
 have hl := (List.getElem?_eq_some_iff.1 h).1
 unfold outC
 rw [List.getElem?_toArray, List.getElem?_append_left (by simpa [ints] using hl)]
 simp [ints, h]
theorem outC_zero {k : Nat} (hk : os.length = k) (h : k < n) : (outC n os)[k]? = some (.int .i64 0) := by
 obtain ⟨m, hm⟩ : ∃ m, n - os.length = m + 1 := ⟨n - os.length - 1, by omega⟩
 unfold outC
 rw [List.getElem?_toArray, List.getElem?_append_right (by simp [ints, hk]), hm]
 simp [ints, hk]
theorem out_reads {w : World} {g : Nat} {t : TypeId} (h : Blk w g t (outC n os)) (hl : os.length = n) : Sl w w.heap.size (some ⟨g, 0, none⟩) n (ints os) := by
 refine ⟨by simp [ints, hl], fun _ => ⟨g, 0, rfl, h.lt, fun j u hu => ?_⟩⟩
 simp only [ints, List.getElem?_map, Option.map_eq_some_iff] at hu
 obtain ⟨e, he, rfl⟩ := hu
 rw [Nat.zero_add]
 exact h.c (outC_get he)
end
theorem JudM.start {T : TypeId} {w : World} {b0 : Nat} {B : Nat} (h : MapM (Value.int .i64) w b0 []) (hB : B ≤ b0) : JudM T B w b0 (fun _ => 0) [] [] :=
 ⟨⟨[], h, fun t => by rw [mget_nil]; simp⟩, (fun t ht => by cases ht), (fun t ht => by cases ht), (fun t ht => by cases ht), (fun t ht => by cases ht), hB⟩
theorem JudM.far {T : TypeId} {B b0 : Nat} {w : World} {β : Int → Nat} {ts : List Int} {paid : List PScan} (h : JudM T B w b0 β ts paid) {p : Addr} (h0 : b0 ≠ p.block) (h1 : ∀ t ∈ ts, β t ≠ p.block) (u : Value) : JudM T B (w.setCell p u) b0 β ts paid := by
 obtain ⟨m, hm, hg⟩ := h.map
 refine ⟨⟨m, ?_, hg⟩, fun t ht => (h.rec_ t ht).far (h1 t ht) u, h.off, h.inj, h.lo, h.lo0⟩
 obtain ⟨es, clock, hb, h2⟩ := hm
 exact ⟨es, clock, (Below.heap_setCell w p u b0 h0).trans hb, h2⟩
theorem JudM.drew {T : TypeId} {B b0 : Nat} {w : World} {β : Int → Nat} {ts : List Int} {paid : List PScan} (h : JudM T B w b0 β ts paid) : JudM T B w.drew b0 β ts paid := ⟨h.map, h.rec_, h.off, h.inj, h.lo, h.lo0⟩
theorem JudM.lookup {T : TypeId} {B b0 : Nat} {w : World} {β : Int → Nat} {ts : List Int} {paid : List PScan} (h : JudM T B w b0 β ts paid) : ∃ m, MapM (Value.int .i64) w b0 m ∧ (∀ t, t ∈ ts → ∀ z, (mget m t).getD z = .pointer (some ⟨β t, 0, none⟩) ∧ (mget m t).isSome = true) ∧ ∀ t, t ∉ ts → ∀ z, (mget m t).getD z = z ∧ (mget m t).isSome = false := by
 obtain ⟨m, hm, hg⟩ := h.map
 refine ⟨m, hm, fun t ht z => ?_, fun t ht z => ?_⟩
 ·rw [hg t, if_pos ht]
  exact ⟨rfl, rfl⟩
 ·rw [hg t, if_neg ht]
  exact ⟨rfl, rfl⟩
end
end Go.Proofs.YtiibocdmlfedkaaGreatDoor
