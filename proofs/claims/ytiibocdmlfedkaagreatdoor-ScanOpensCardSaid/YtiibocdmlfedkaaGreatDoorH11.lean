/- Parts of the proof. -/
import Derived.Maps.OwnSet
import Derived.Test.YtiibocdmlfedkaaGreatDoorH10
namespace Go.Proofs.YtiibocdmlfedkaaGreatDoor
section
open Go.RowKit Go.ChangeMaps
section
variable {κ : Type}
def IterM (mk : κ → Value) (w : World) (r b : Nat) (m : List (κ × Value)) (done : List κ) : Prop :=
 r ≠ b ∧ ∃ es clock since seen last, w.heap[r]? = some (.mapIter (some b) since seen last) ∧ w.heap[b]? = some (.map es clock) ∧ es.toList.map (fun e => (e.key, e.val)) = m.map (fun p => (mk p.1, p.2)) ∧ (∀ e ∈ es.toList, e.born < clock) ∧ (es.toList.map (·.born)).Nodup ∧ (m.map (·.1)).Nodup ∧
  (∀ e ∈ es.toList, e.born < since) ∧ since ≤ last ∧ since ≤ clock ∧ ∀ e ∈ es.toList, (seen.contains e.born = true ↔ ∃ k ∈ done, e.key = mk k)
variable {mk : κ → Value} {P : Program} {K : TypeId} {w w' : World} {r b : Nat} {m : List (κ × Value)} {done : List κ}
theorem IterM.map (h : IterM mk w r b m done) : MapM mk w b m := by
 obtain ⟨_, es, clock, since, seen, last, _, hb, h1, h2, h3, h4, _⟩ := h
 exact ⟨es, clock, hb, h1, h2, h3, h4⟩
theorem IterM.kept {q : Option Nat} (h : IterM mk w r b m done) (hg : w.grownBy w' q) (h1 : some r ≠ q) (h2 : some b ≠ q) : IterM mk w' r b m done := by
 obtain ⟨hne, es, clock, since, seen, last, hr, hb, h3⟩ := h
 exact ⟨hne, es, clock, since, seen, last, (hg.block r (Array.getElem?_eq_some_iff.1 hr).1 h1).trans hr, (hg.block b (Array.getElem?_eq_some_iff.1 hb).1 h2).trans hb, h3⟩
theorem MapM.range (h : MapM mk w b m) {T E : TypeId} (ht : P.underlying T = some (.map K E)) : ∃ w', (Instr.range T (.map (some b))).run P w = .ok (.pointer (some ⟨w.heap.size, 0, none⟩)) w' ∧ IterM mk w' w.heap.size b m [] ∧ Below w.heap.size w w' ∧ w'.heap.size = w.heap.size + 1 := by
 have hlt := h.lt
 obtain ⟨es, clock, hb, h1, h2, h3, h4⟩ := h
 have hun : (underlying T).run P w = .ok (.map K E) w := by simp [underlying, ht]
 refine ⟨w.alloc (.mapIter (some b) clock #[] clock), ?_, ⟨by omega, es, clock, clock, #[], clock, heap_alloc_new w _, ?_, h1, h2, h3, h4, h2, Nat.le_refl _, Nat.le_refl _, fun e _ => by simp⟩, (Below.refl _ _).alloc (Nat.le_refl _) _, by simp⟩
 ·unfold Instr.range
  simp [Sem.run_bind, hun, Result.andThen_ok, getObj, Sem.run, hb, newObj]
 ·exact (Below.heap_alloc w _ b hlt).trans hb
theorem pair_mem {es : List MapEntry} {e : MapEntry} (h : es.map (fun e => (e.key, e.val)) = m.map (fun p => (mk p.1, p.2))) (he : e ∈ es) : ∃ k v, (k, v) ∈ m ∧ e.key = mk k ∧ e.val = v := by
 have : (e.key, e.val) ∈ m.map (fun p => (mk p.1, p.2)) := by rw [← h]; exact List.mem_map_of_mem he
 obtain ⟨p, hp, e2⟩ := List.mem_map.1 this
 simp only [Prod.mk.injEq] at e2
 exact ⟨p.1, p.2, hp, e2.1.symm, e2.2.symm⟩
theorem key_uniq {es : List MapEntry} (hinj : ∀ a b, mk a = mk b → a = b) (h : es.map (fun e => (e.key, e.val)) = m.map (fun p => (mk p.1, p.2))) (hn : (m.map (·.1)).Nodup) {e e' : MapEntry} (he : e ∈ es) (he' : e' ∈ es) (hk : e.key = e'.key) : e = e' := by
 have hk2 : es.map (·.key) = (m.map (·.1)).map mk := by
  have := congrArg (List.map Prod.fst) h
  simpa [Function.comp_def] using this
 have hnd : (es.map (·.key)).Nodup := by
  rw [hk2, List.nodup_iff_pairwise_ne, List.pairwise_map]
  exact (List.nodup_iff_pairwise_ne.1 hn).imp fun hne e => hne (hinj _ _ e)
 obtain ⟨i, hi, rfl⟩ := List.getElem_of_mem he
 obtain ⟨j, hj, rfl⟩ := List.getElem_of_mem he'
 have hp := List.pairwise_iff_getElem.1 (List.nodup_iff_pairwise_ne.1 hnd)
 rcases Nat.lt_trichotomy i j with h1 | h1 | h1
 ·have := hp i j (by simpa using hi) (by simpa using hj) h1
  simp only [List.getElem_map] at this
  exact absurd hk this
 ·subst h1; rfl
 ·have := hp j i (by simpa using hj) (by simpa using hi) h1
  simp only [List.getElem_map] at this
  exact absurd hk.symm this
theorem IterM.next (h : IterM mk w r b m done) (hinj : ∀ a b, mk a = mk b → a = b) (ty : TypeId) :
  ((∀ p ∈ m, p.1 ∈ done) ∧ (Instr.next (.pointer (some ⟨r, 0, none⟩)) false ty).run P w = .ok (.tuple #[.bool false]) w) ∨
  ∃ k v w', (k, v) ∈ m ∧ k ∉ done ∧ (Instr.next (.pointer (some ⟨r, 0, none⟩)) false ty).run P w = .ok (.tuple #[.bool true, mk k, v]) w' ∧ IterM mk w' r b m (k :: done) ∧ w.grownBy w' (some r) ∧ w'.heap.size = w.heap.size ∧ (Instr.entry (.pointer (some ⟨r, 0, none⟩))).run P w' = .ok (.tuple #[mk k, v]) w' := by
 obtain ⟨hne, es, clock, since, seen, last, hr, hb, h1, h2, h3, h4, h5, h6, h7, h8⟩ := h
 have hrl := (Array.getElem?_eq_some_iff.1 hr).1
 rcases run_next_at (P := P) w ty r b since last seen es clock hr hb h5 h6 with ⟨h0, hrun⟩ | ⟨e, he, w1, hw1, hrun⟩
 ·left
  refine ⟨fun p hp => ?_, hrun⟩
  have hm : (mk p.1, p.2) ∈ es.toList.map (fun e => (e.key, e.val)) := by rw [h1]; exact List.mem_map_of_mem hp
  obtain ⟨e, he, e2⟩ := List.mem_map.1 hm
  simp only [Prod.mk.injEq] at e2
  have hs : seen.contains e.born = true := by
   cases hc : seen.contains e.born
   ·have : e ∈ (leftOf es seen).toList := by
     unfold leftOf
     simp only [Array.toList_filter, List.mem_filter]
     exact ⟨he, by rw [hc]; rfl⟩
    rw [Array.eq_empty_of_size_eq_zero h0] at this
    simp at this
   ·rfl
  obtain ⟨k, hk, ek⟩ := (h8 e he).1 hs
  rw [e2.1] at ek
  rw [hinj _ _ ek]
  exact hk
 ·right
  have he2 : e ∈ es.toList ∧ seen.contains e.born = false := by
   unfold leftOf at he
   simp only [Array.toList_filter, List.mem_filter] at he
   exact ⟨he.1, by simpa using he.2⟩
  obtain ⟨k, v, hkm, ek, ev⟩ := pair_mem h1 he2.1
  rw [ek, ev] at hrun
  have hw1h : w1.heap = w.heap := by rcases hw1 with rfl | rfl <;> rfl
  have hsize : (setBlock w1 r (.mapIter (some b) since (seen.push e.born) clock)).heap.size = w.heap.size := by simp [setBlock, hw1h]
  have hrw : (setBlock w1 r (.mapIter (some b) since (seen.push e.born) clock)).heap[r]? = some (.mapIter (some b) since (seen.push e.born) clock) := by simp [setBlock, hw1h, hrl]
  have hbw : (setBlock w1 r (.mapIter (some b) since (seen.push e.born) clock)).heap[b]? = some (.map es clock) := by
   unfold setBlock
   simp only [hw1h]
   rw [Array.getElem?_setIfInBounds_ne hne]
   exact hb
  refine ⟨k, v, _, hkm, fun hk => ?_, hrun, ⟨hne, es, clock, since, seen.push e.born, clock, hrw, hbw, h1, h2, h3, h4, h5, h7, h7, fun e' he' => ?_⟩, ?_, hsize, ?_⟩
  ·have := (h8 e he2.1).2 ⟨k, hk, ek⟩
   rw [he2.2] at this
   cases this
  ·rw [Array.contains_push, Bool.or_eq_true, h8 e' he', beq_iff_eq]
   constructor
   ·rintro (⟨k', hk', ek'⟩ | hbb)
    ·exact ⟨k', List.mem_cons_of_mem _ hk', ek'⟩
    ·have : e' = e := by
      obtain ⟨i, hi, rfl⟩ := List.getElem_of_mem he'
      obtain ⟨j, hj, rfl⟩ := List.getElem_of_mem he2.1
      have hp := List.pairwise_iff_getElem.1 (List.nodup_iff_pairwise_ne.1 h3)
      rcases Nat.lt_trichotomy i j with q | q | q
      ·have := hp i j (by simpa using hi) (by simpa using hj) q
       simp only [List.getElem_map] at this
       exact absurd hbb this
      ·subst q; rfl
      ·have := hp j i (by simpa using hj) (by simpa using hi) q
       simp only [List.getElem_map] at this
       exact absurd hbb.symm this
     exact ⟨k, by simp, by rw [this]; exact ek⟩
   ·rintro ⟨k', hk', ek'⟩
    rcases List.mem_cons.1 hk' with rfl | hk'
    ·right
     have : e' = e := key_uniq hinj h1 h4 he' he2.1 (by rw [ek', ek])
     rw [this]
    ·left
     exact ⟨k', hk', ek'⟩
  ·refine ⟨?_, ?_, ?_, by omega, fun i hi hir => ?_⟩
   ·rcases hw1 with rfl | rfl <;> rfl
   ·rcases hw1 with rfl | rfl <;> rfl
   ·rcases hw1 with rfl | rfl <;> rfl
   ·unfold setBlock
    simp only [hw1h]
    rw [Array.getElem?_setIfInBounds_ne (fun q => hir (by rw [q]))]
  ·have := run_entry_at (P := P) _ r b since seen es clock e hrw hbw he2.1 h3
   rw [ek, ev] at this
   exact this
end
section
variable {κ : Type} [DecidableEq κ] {mk : κ → Value} {P : Program} {K : TypeId} {w : World} {b : Nat} {m : List (κ × Value)} {ops : Array Oper} {rest : List Oper} {o : Oper} {a : Act} {Q : Exit → Act → World → Prop}
theorem wpl_update (hg : o.guard = none) (mo x v : Operand) (T : TypeId) (hop : o.op = Op.mapUpdate T mo x v) {E : TypeId} (hK : KeyM P K mk) (ht : P.underlying T = some (.map K E)) (hm : a.eval mo = .map (some b)) (h : MapM mk w b m) (k : κ) (hx : a.eval x = mk k) (val : Value) (hv : a.eval v = val)
  (hN : ∀ w', MapM mk w' b (mset m k val) → w.grownBy w' (some b) → wpList P ops Q rest (a.put o.dst undef) w') : wpList P ops Q (o :: rest) a w := by
 refine wpList_plain hg fun K' hK' => ?_
 obtain ⟨w', hrun, r1, r2⟩ := h.update hK ht k val
 unfold Oper.wp
 simp [execOp, hop, hm, hx, hv, hrun, Result.andThen]
 exact hK' _ _ (hN w' r1 r2)
theorem wpl_delete (hg : o.guard = none) (mo x : Operand) (T : TypeId) (hop : o.op = Op.call { callee := Callee.builtin Builtin.delete, args := #[mo, x], argTypes := #[T, K] }) {E : TypeId} (hK : KeyM P K mk) (ht : P.underlying T = some (.map K E)) (hm : a.eval mo = .map (some b)) (h : MapM mk w b m) (k : κ) (hx : a.eval x = mk k)
  (hN : ∀ w', MapM mk w' b (mdel m k) → w.grownBy w' (some b) → wpList P ops Q rest (a.put o.dst (.tuple #[])) w') : wpList P ops Q (o :: rest) a w := by
 refine wpList_plain hg fun K' hK' => ?_
 obtain ⟨w', hrun, r1, r2⟩ := h.delete hK ht k o.type
 unfold Oper.wp
 simp [execOp, hop, resolve, invoke, builtin, hm, hx, hrun, Result.andThen]
 exact hK' _ _ (hN w' r1 r2)
theorem wpl_len {κ : Type} {mk : κ → Value} {m : List (κ × Value)} (hg : o.guard = none) (mo : Operand) (T : TypeId) (hop : o.op = Op.call { callee := Callee.builtin Builtin.len, args := #[mo], argTypes := #[T] }) {E : TypeId} (ht : P.underlying T = some (.map K E)) (hm : a.eval mo = .map (some b)) (h : MapM mk w b m)
  (hN : wpList P ops Q rest (a.put o.dst (.int .i64 (m.length : Int))) w) : wpList P ops Q (o :: rest) a w := by
 refine wpList_plain hg fun K' hK' => ?_
 unfold Oper.wp
 simp [execOp, hop, resolve, invoke, builtin, hm, h.len ht o.type, Result.andThen]
 exact hK' _ _ hN
theorem wpl_lookup (hg : o.guard = none) (mo x : Operand) (T : TypeId) (ok : Bool) (hop : o.op = Op.lookup T mo x ok) {E : TypeId} (hK : KeyM P K mk) (ht : P.underlying T = some (.map K E)) {z : Value} (hz : (zeroValue E).run P w = .ok z w) (hm : a.eval mo = .map (some b)) (h : MapM mk w b m) (k : κ) (hx : a.eval x = mk k)
  (hN : wpList P ops Q rest (a.put o.dst (if ok = true then .tuple #[(mget m k).getD z, .bool (mget m k).isSome] else (mget m k).getD z)) w) : wpList P ops Q (o :: rest) a w := by
 refine wpList_plain hg fun K' hK' => ?_
 unfold Oper.wp
 simp only [execOp, hop, hm, hx, Sem.run_bind, h.lookup hK ht hz k ok, Result.andThen]
 exact hK' _ _ hN
theorem wpl_range {κ : Type} {mk : κ → Value} {m : List (κ × Value)} (hg : o.guard = none) (mo : Operand) (T : TypeId) (hop : o.op = Op.range T mo) {E : TypeId} (ht : P.underlying T = some (.map K E)) (hm : a.eval mo = .map (some b)) (h : MapM mk w b m)
  (hN : ∀ w', IterM mk w' w.heap.size b m [] → Below w.heap.size w w' → w'.heap.size = w.heap.size + 1 → wpList P ops Q rest (a.put o.dst (.pointer (some ⟨w.heap.size, 0, none⟩))) w') : wpList P ops Q (o :: rest) a w := by
 refine wpList_plain hg fun K' hK' => ?_
 obtain ⟨w', hrun, r1, r2, r3⟩ := h.range ht
 unfold Oper.wp
 simp [execOp, hop, hm, hrun, Result.andThen]
 exact hK' _ _ (hN w' r1 r2 r3)
theorem wpl_next {κ : Type} {mk : κ → Value} {m : List (κ × Value)} {r : Nat} {done : List κ} (hg : o.guard = none) (it : Operand) (hop : o.op = Op.next it false) (hinj : ∀ a b, mk a = mk b → a = b) (hit : a.eval it = .pointer (some ⟨r, 0, none⟩)) (h : IterM mk w r b m done)
  (hD : (∀ p ∈ m, p.1 ∈ done) → wpList P ops Q rest (a.put o.dst (.tuple #[.bool false])) w)
  (hN : ∀ k v w', (k, v) ∈ m → k ∉ done → IterM mk w' r b m (k :: done) → w.grownBy w' (some r) → w'.heap.size = w.heap.size → (Instr.entry (.pointer (some ⟨r, 0, none⟩))).run P w' = .ok (.tuple #[mk k, v]) w' → wpList P ops Q rest (a.put o.dst (.tuple #[.bool true, mk k, v])) w') : wpList P ops Q (o :: rest) a w := by
 refine wpList_plain hg fun K' hK' => ?_
 unfold Oper.wp
 rcases h.next (P := P) hinj o.type with ⟨h0, hrun⟩ | ⟨k, v, w', h1, h2, hrun, h3, h4, h5, h6⟩
 ·simp [execOp, hop, hit, hrun, Result.andThen]
  exact hK' _ _ (hD h0)
 ·simp [execOp, hop, hit, hrun, Result.andThen]
  exact hK' _ _ (hN k v w' h1 h2 h3 h4 h5 h6)
end
end
section
section
variable {κ : Type} [DecidableEq κ] {m : List (κ × Value)} {k k' : κ} {v : Value}
theorem mfind_shift : ∀ (m : List (κ × Value)) (k : κ) (i : Nat), mfind m k (i + 1) = (mfind m k i).map fun p => (p.1 + 1, p.2)
 | [], _, _ => rfl
 | p :: m, k, i => by
  rw [mfind, mfind]
  split
  ·rfl
  ·exact mfind_shift m k (i + 1)
theorem mget_nil : mget ([] : List (κ × Value)) k = none := rfl
theorem mget_cons (p : κ × Value) (m : List (κ × Value)) (k : κ) : mget (p :: m) k = if p.1 = k then some p.2 else mget m k := by
 unfold mget
 rw [mfind]
 split
 ·rfl
 ·rw [Nat.zero_add, mfind_shift]
  cases mfind m k 0 <;> rfl
theorem mset_nil : mset [] k v = [(k, v)] := rfl
theorem mset_cons (p : κ × Value) (m : List (κ × Value)) (k : κ) (v : Value) : mset (p :: m) k v = if p.1 = k then (p.1, v) :: m else p :: mset m k v := by
 unfold mset
 rw [mfind]
 by_cases hp : p.1 = k
 ·simp [hp]
 ·rw [if_neg hp, if_neg hp, Nat.zero_add, mfind_shift]
  cases h : mfind m k 0 with
  | none => simp
  | some q => obtain ⟨i, u⟩ := q; simp
theorem mdel_cons (p : κ × Value) (m : List (κ × Value)) (k : κ) : mdel (p :: m) k = if p.1 = k then m else p :: mdel m k := by
 unfold mdel
 rw [mfind]
 by_cases hp : p.1 = k
 ·simp [hp]
 ·rw [if_neg hp, if_neg hp, Nat.zero_add, mfind_shift]
  cases h : mfind m k 0 with
  | none => simp
  | some q => obtain ⟨i, u⟩ := q; simp
theorem mget_mset : ∀ (m : List (κ × Value)), mget (mset m k v) k' = if k = k' then some v else mget m k'
 | [] => by
  rw [mset_nil, mget_cons]
 | p :: m => by
  rw [mset_cons, mget_cons]
  by_cases h : p.1 = k
  ·rw [if_pos h, mget_cons]
   by_cases h2 : k = k'
   ·rw [if_pos h2, if_pos (by rw [h]; exact h2)]
   ·rw [if_neg h2, if_neg (by rw [h]; exact h2), if_neg (by rw [h]; exact h2)]
  ·rw [if_neg h, mget_cons, mget_mset m]
   by_cases h2 : p.1 = k'
   ·rw [if_pos h2, if_pos h2, if_neg (fun e => h (by rw [h2, e]))]
   ·rw [if_neg h2, if_neg h2]
theorem mget_none : mget m k = none ↔ ∀ p ∈ m, p.1 ≠ k := by
 induction m with
 | nil => simp [mget_nil]
 | cons p m ih =>
  rw [mget_cons]
  by_cases h : p.1 = k
  ·simp [h]
  ·simp [h, ih]
theorem mget_mdel : ∀ (m : List (κ × Value)), (m.map (·.1)).Nodup → mget (mdel m k) k' = if k = k' then none else mget m k'
 | [], _ => by simp [mdel, mfind, mget_nil]
 | p :: m, hn => by
  rw [List.map_cons, List.nodup_cons] at hn
  rw [mdel_cons, mget_cons]
  by_cases h : p.1 = k
  ·rw [if_pos h]
   by_cases h2 : k = k'
   ·rw [if_pos h2, mget_none]
    intro q hq e
    exact hn.1 (by rw [h, h2, ← e]; exact List.mem_map_of_mem hq)
   ·rw [if_neg h2, if_neg (by rw [h]; exact h2)]
  ·rw [if_neg h, mget_cons, mget_mdel m hn.2]
   by_cases h2 : p.1 = k'
   ·rw [if_pos h2, if_pos h2, if_neg (fun e => h (by rw [h2, e]))]
   ·rw [if_neg h2, if_neg h2]
end
end
section
open Go.RowKit
section
variable {κ : Type} [DecidableEq κ] {mk : κ → Value} {w w' : World} {b : Nat} {xs : List κ} {k : κ}
def SetOf (m : List (κ × Value)) (xs : List κ) : Prop := ∀ k, mget m k = if k ∈ xs then some (.bool true) else none
def SetM (mk : κ → Value) (w : World) (b : Nat) (xs : List κ) : Prop := ∃ m, MapM mk w b m ∧ SetOf m xs
theorem setOf_nil : SetOf ([] : List (κ × Value)) [] := fun k => by rw [mget_nil]; simp
theorem SetOf.get {m : List (κ × Value)} (h : SetOf m xs) (k : κ) : (mget m k).getD (.bool false) = .bool (decide (k ∈ xs)) := by
 rw [h k]
 by_cases hm : k ∈ xs <;> simp [hm]
theorem SetOf.get_yes {m : List (κ × Value)} (h : SetOf m xs) (hk : k ∈ xs) : (mget m k).getD (.bool false) = .bool true := by rw [h k, if_pos hk]; rfl
theorem SetOf.get_no {m : List (κ × Value)} (h : SetOf m xs) (hk : k ∉ xs) : (mget m k).getD (.bool false) = .bool false := by rw [h k, if_neg hk]; rfl
theorem SetOf.add {m : List (κ × Value)} (h : SetOf m xs) (k : κ) : SetOf (mset m k (.bool true)) (xs ++ [k]) := fun k' => by
 rw [mget_mset, h k']
 by_cases e : k = k'
 ·subst e; simp
 ·have e' : ¬ k' = k := fun q => e q.symm
  simp [e, e']
theorem SetM.made (mk : κ → Value) (w : World) : SetM mk (w.alloc (.map #[] 0)) w.heap.size [] := ⟨[], MapM.made mk w, setOf_nil⟩
theorem SetM.below (h : SetM mk w b xs) (hb : Below w.heap.size w w') : SetM mk w' b xs := by
 obtain ⟨m, h1, h2⟩ := h
 exact ⟨m, h1.below hb, h2⟩
theorem SetM.lt (h : SetM mk w b xs) : b < w.heap.size := by
 obtain ⟨m, h1, h2⟩ := h
 exact h1.lt
theorem SetM.kept {r : Option Nat} (h : SetM mk w b xs) (hg : w.grownBy w' r) (hne : some b ≠ r) : SetM mk w' b xs := by
 obtain ⟨m, h1, h2⟩ := h
 exact ⟨m, h1.kept hg hne, h2⟩
end
end
end Go.Proofs.YtiibocdmlfedkaaGreatDoor
