/- Parts of the proof. -/
import Derived.Test.YtiibocdmlfedkaaGreatDoorH07
import Derived.Test.YtiibocdmlfedkaaGreatDoorH11
namespace Go.Proofs.YtiibocdmlfedkaaGreatDoor
section
open Go.RowKit Go.ChangeMaps
def outerM (β : Nat → Nat) (js : List Nat) : List (Int × Value) := js.map fun j : Nat => (((j : Nat) : Int), Value.map (some (β j)))
section
variable {β : Nat → Nat} {js : List Nat} {j : Nat}
theorem outer_get : ∀ (js : List Nat), mget (outerM β js) ((j : Nat) : Int) = if j ∈ js then some (.map (some (β j))) else none
 | [] => by simp [outerM, mget_nil]
 | i :: js => by
  rw [outerM, List.map_cons, mget_cons, ← outerM, outer_get js]
  by_cases h : i = j
  ·subst h; simp
  ·have h1 : ¬ (i : Int) = (j : Int) := by omega
   have h2 : ¬ j = i := fun e => h e.symm
   simp [h1, h2]
theorem outer_set (h : j ∉ js) : mset (outerM β js) ((j : Nat) : Int) (.map (some (β j))) = outerM β (js ++ [j]) := by
 have hn : mget (outerM β js) ((j : Nat) : Int) = none := by rw [outer_get, if_neg h]
 have hf : mfind (outerM β js) ((j : Nat) : Int) 0 = none := by
  unfold mget at hn
  simpa using hn
 rw [mset_keys_new hf]
 simp [outerM]
theorem outer_del : ∀ (js : List Nat), mdel (outerM β js) ((j : Nat) : Int) = outerM β (js.erase j)
 | [] => by simp [outerM, mdel, mfind]
 | i :: js => by
  rw [outerM, List.map_cons, mdel_cons, ← outerM, outer_del js]
  by_cases h : i = j
  ·subst h; simp
  ·have h1 : ¬ (i : Int) = (j : Int) := by omega
   have h2 : (i == j) = false := by simpa using h
   simp [h1, h2, outerM]
theorem outer_len : (outerM β js).length = js.length := by simp [outerM]
theorem outer_mem {k : Int} {v : Value} (h : (k, v) ∈ outerM β js) : ∃ j, j ∈ js ∧ k = (j : Int) ∧ v = .map (some (β j)) := by
 obtain ⟨j, hj, e⟩ := List.mem_map.1 h
 simp only [Prod.mk.injEq] at e
 exact ⟨j, hj, e.1.symm, e.2.symm⟩
end
structure ArrM (B : Nat) (w : World) (b0 : Nat) (β : Nat → Nat) (js : List Nat) (I : Nat → List (Int × Value)) : Prop where
 outer : MapM (Value.int .i64) w b0 (outerM β js)
 inner : ∀ j ∈ js, MapM (Value.int .i64) w (β j) (I j)
 off : ∀ j ∈ js, β j ≠ b0
 inj : ∀ i ∈ js, ∀ j ∈ js, β i = β j → i = j
 lo : ∀ j ∈ js, B ≤ β j
 lo0 : B ≤ b0
section
variable {B b0 : Nat} {w w' : World} {β : Nat → Nat} {js : List Nat} {I : Nat → List (Int × Value)}
theorem ArrM.below (h : ArrM B w b0 β js I) (hb : Below w.heap.size w w') : ArrM B w' b0 β js I :=
 ⟨h.outer.below hb, fun j hj => (h.inner j hj).below hb, h.off, h.inj, h.lo, h.lo0⟩
theorem ArrM.kept {r : Nat} (h : ArrM B w b0 β js I) (hg : w.grownBy w' (some r)) (h0 : b0 ≠ r) (h1 : ∀ j ∈ js, β j ≠ r) : ArrM B w' b0 β js I :=
 ⟨h.outer.kept hg (fun e => h0 (Option.some.inj e)), fun j hj => (h.inner j hj).kept hg (fun e => h1 j hj (Option.some.inj e)), h.off, h.inj, h.lo, h.lo0⟩
theorem ArrM.more {g j : Nat} (h : ArrM B w b0 β js I) (hj : j ∉ js) (hg : MapM (Value.int .i64) w g []) (h0 : g ≠ b0) (h1 : ∀ i ∈ js, β i ≠ g) (hl : B ≤ g)
  (ho : MapM (Value.int .i64) w' b0 (mset (outerM β js) ((j : Nat) : Int) (.map (some g)))) (hgr : w.grownBy w' (some b0)) :
  ArrM B w' b0 (fun i => if i = j then g else β i) (js ++ [j]) (fun i => if i = j then [] else I i) := by
 have hβ : ∀ i ∈ js, (if i = j then g else β i) = β i := fun i hi => if_neg (fun e => hj (by rw [← e]; exact hi))
 have hI : ∀ i ∈ js, (if i = j then ([] : List (Int × Value)) else I i) = I i := fun i hi => if_neg (fun e => hj (by rw [← e]; exact hi))
 have e1 : outerM (fun i => if i = j then g else β i) js = outerM β js := by
  unfold outerM
  exact List.map_congr_left fun i hi => by simp only [hβ i hi]
 refine ⟨?_, fun i hi => ?_, fun i hi => ?_, fun i hi k hk e => ?_, fun i hi => ?_, h.lo0⟩
 ·rw [← outer_set hj, e1]
  simpa using ho
 ·rcases List.mem_append.1 hi with hi1 | hi1
  ·simp only [hβ i hi1, hI i hi1]
   exact (h.inner i hi1).kept hgr (fun e => h.off i hi1 (Option.some.inj e))
  ·obtain rfl : i = j := by simpa using hi1
   simpa using hg.kept hgr (fun e => h0 (Option.some.inj e))
 ·rcases List.mem_append.1 hi with hi1 | hi1
  ·simp only [hβ i hi1]
   exact h.off i hi1
  ·obtain rfl : i = j := by simpa using hi1
   simpa using h0
 ·rcases List.mem_append.1 hi with hi1 | hi1
  ·rcases List.mem_append.1 hk with hk1 | hk1
   ·simp only [hβ i hi1, hβ k hk1] at e
    exact h.inj i hi1 k hk1 e
   ·obtain rfl : k = j := by simpa using hk1
    simp only [hβ i hi1, if_true] at e
    exact absurd e (h1 i hi1)
  ·obtain rfl : i = j := by simpa using hi1
   rcases List.mem_append.1 hk with hk1 | hk1
   ·simp only [hβ k hk1, if_true] at e
    exact absurd e.symm (h1 k hk1)
   ·exact (by simpa using hk1 : k = i).symm
 ·rcases List.mem_append.1 hi with hi1 | hi1
  ·simp only [hβ i hi1]
   exact h.lo i hi1
  ·obtain rfl : i = j := by simpa using hi1
   simpa using hl
theorem ArrM.put {j : Nat} {mj : List (Int × Value)} (h : ArrM B w b0 β js I) (hj : j ∈ js) (hm : MapM (Value.int .i64) w' (β j) mj) (hgr : w.grownBy w' (some (β j))) :
  ArrM B w' b0 β js (fun i => if i = j then mj else I i) := by
 refine ⟨h.outer.kept hgr (fun e => h.off j hj (Option.some.inj e).symm), fun i hi => ?_, h.off, h.inj, h.lo, h.lo0⟩
 by_cases e : i = j
 ·subst e; simpa using hm
 ·simp only [e, if_false]
  exact (h.inner i hi).kept hgr (fun q => e (h.inj i hi j hj (Option.some.inj q)))
theorem ArrM.del {j : Nat} (h : ArrM B w b0 β js I) (ho : MapM (Value.int .i64) w' b0 (mdel (outerM β js) ((j : Nat) : Int))) (hgr : w.grownBy w' (some b0)) : ArrM B w' b0 β (js.erase j) I := by
 have hs : ∀ i, i ∈ js.erase j → i ∈ js := fun i hi => List.mem_of_mem_erase hi
 rw [outer_del] at ho
 exact ⟨ho, fun i hi => (h.inner i (hs i hi)).kept hgr (fun e => h.off i (hs i hi) (Option.some.inj e)), fun i hi => h.off i (hs i hi), fun i hi k hk => h.inj i (hs i hi) k (hs k hk), fun i hi => h.lo i (hs i hi), h.lo0⟩
theorem below_grown {B : Nat} {w0 : World} {r : Nat} (h : Below B w0 w) (hg : w.grownBy w' (some r)) (hr : B ≤ r) (hB : B ≤ w.heap.size) : Below B w0 w' :=
 ⟨hg.os.trans h.os, hg.tape.trans h.tape, hg.output.trans h.output, Nat.le_trans h.size hg.size, fun i hi => (hg.block i (by omega) (fun e => by injection e with e; omega)).trans (h.block i hi)⟩
end
def waits (l : List POp) (done : List Nat) (j : Nat) (a : Int) : Prop := a ∈ (l.map (·.after)).getD j [] ∧ a.toNat ∉ done
def Says (l : List POp) (done : List Nat) (js : List Nat) (I : Nat → List (Int × Value)) : Prop := ∀ j ∈ js, ∀ a, (mget (I j) a).isSome = true ↔ waits l done j a
def left (n : Nat) (done : List Nat) : List Nat := (List.range n).filter fun j => !done.contains j
theorem mem_left {n j : Nat} {done : List Nat} : j ∈ left n done ↔ j < n ∧ j ∉ done := by simp [left]
theorem left_erase {n i : Nat} {done : List Nat} : (left n done).erase i = left n (done ++ [i]) := by
 have hn : (left n done).Nodup := List.Pairwise.filter _ List.nodup_range
 rw [hn.erase_eq_filter]
 unfold left
 rw [List.filter_filter]
 refine List.filter_congr fun j _ => ?_
 simp only [List.contains_eq_mem, List.mem_append, List.mem_singleton]
 by_cases h1 : j ∈ done <;> by_cases h2 : j = i <;> simp [h1, h2]
theorem mget_nil_len {m : List (Int × Value)} : (∀ a, (mget m a).isSome = true → False) → m.length = 0 := by
 cases m with
 | nil => intro _; rfl
 | cons p m => intro h; exact absurd (by rw [mget_cons, if_pos rfl]; rfl) (h p.1)
theorem ready_len {l : List POp} {done js : List Nat} {I : Nat → List (Int × Value)} {i : Nat} (hs : Says l done js I) (hi : i ∈ js) (hd : i ∉ done) : readyB l done i = decide ((I i).length = 0) := by
 rw [Bool.eq_iff_iff, decide_eq_true_iff]
 unfold readyB
 rw [Bool.and_eq_true, List.all_eq_true]
 constructor
 ·rintro ⟨_, h⟩
  refine mget_nil_len fun a ha => ?_
  obtain ⟨h1, h2⟩ := (hs i hi a).1 ha
  exact h2 (by simpa using h a h1)
 ·intro h
  have h0 : I i = [] := List.eq_nil_of_length_eq_zero h
  refine ⟨by simpa using hd, fun a ha => ?_⟩
  by_cases hc : a.toNat ∈ done
  ·simpa using hc
  ·have := (hs i hi a).2 ⟨ha, hc⟩
   rw [h0] at this
   cases this
theorem ready_done {l : List POp} {done : List Nat} {i : Nat} (h : i ∈ done) : readyB l done i = false := by simp [readyB, h]
theorem next_some {l : List POp} {done : List Nat} {i : Nat} (hi : i < l.length) (hr : readyB l done i = true) (hlt : ∀ j, j < i → readyB l done j = false) : nextP l done = some i := by
 unfold nextP
 rw [List.find?_eq_some_iff_append]
 refine ⟨hr, List.range i, (List.range (l.length - (i + 1))).map (· + (i + 1)), ?_, fun j hj => by simp [hlt j (List.mem_range.1 hj)]⟩
 refine List.ext_getElem? fun k => ?_
 rw [List.getElem?_append]
 by_cases h1 : k < i
 ·simp [h1, Nat.lt_trans h1 hi]
 ·simp only [List.length_range, h1, if_false]
  by_cases h2 : k = i
  ·subst h2; simp [hi]
  ·obtain ⟨d, rfl⟩ : ∃ d, k = i + 1 + d := ⟨k - (i + 1), by omega⟩
   rw [show i + 1 + d - i = d + 1 by omega, List.getElem?_cons_succ, List.getElem?_map]
   by_cases h3 : i + 1 + d < l.length
   ·rw [List.getElem?_range h3, List.getElem?_range (by omega)]
    simp; omega
   ·rw [List.getElem?_eq_none (by simpa using h3), List.getElem?_eq_none (by simp; omega)]
    rfl
theorem next_none {l : List POp} {done : List Nat} (h : ∀ j, j < l.length → readyB l done j = false) : nextP l done = none := by
 unfold nextP
 rw [List.find?_eq_none]
 intro j hj
 simp [h j (List.mem_range.1 hj)]
theorem order_step {l : List POp} {done : List Nat} {i f : Nat} (h : nextP l done = some i) : orderF l (f + 1) done = orderF l f (done ++ [i]) := by rw [orderF, h]
theorem order_stop {l : List POp} {done : List Nat} (h : nextP l done = none) : ∀ f, orderF l f done = done
 | 0 => rfl
 | f + 1 => by rw [orderF, h]
theorem Says.step {l : List POp} {done js js' : List Nat} {I I' : Nat → List (Int × Value)} {i : Nat} (hs : Says l done js I) (hsub : ∀ j ∈ js', j ∈ js) (hn : ∀ j ∈ js', ∀ a, mget (I' j) a = if (i : Int) = a then none else mget (I j) a) (h0 : ∀ j ∈ js, ∀ a, waits l done j a → 0 ≤ a) : Says l (done ++ [i]) js' I' := by
 intro j hj a
 rw [hn j hj a]
 constructor
 ·intro h
  split at h
  ·cases h
  ·rename_i hne
   have hw := (hs j (hsub j hj) a).1 h
   have := h0 j (hsub j hj) a hw
   refine ⟨hw.1, ?_⟩
   rw [List.mem_append]
   rintro (h | h)
   ·exact hw.2 h
   ·simp only [List.mem_singleton] at h
    exact hne (by omega)
 ·rintro ⟨h1, h2⟩
  rw [List.mem_append] at h2
  rw [if_neg, (hs j (hsub j hj) a).2 ⟨h1, fun h => h2 (.inl h)⟩]
  rintro rfl
  exact h2 (.inr (by simp))
end
end Go.Proofs.YtiibocdmlfedkaaGreatDoor
