/- Parts of the proof. -/
import Derived.Maps.Own
import Derived.Maps.RangeRun
import Derived.Test.YtiibocdmlfedkaaGreatDoorH02
namespace Go.Proofs.YtiibocdmlfedkaaGreatDoor
section
open Go.RowKit Go.ChangeMaps
section
variable {κ : Type}
def MapM (mk : κ → Value) (w : World) (b : Nat) (m : List (κ × Value)) : Prop :=
 ∃ es clock, w.heap[b]? = some (.map es clock) ∧ es.toList.map (fun e => (e.key, e.val)) = m.map (fun p => (mk p.1, p.2)) ∧ (∀ e ∈ es.toList, e.born < clock) ∧ (es.toList.map (·.born)).Nodup ∧ (m.map (·.1)).Nodup
variable {mk : κ → Value} {P : Program} {K : TypeId} {w w' : World} {b : Nat} {m : List (κ × Value)}
theorem MapM.lt (h : MapM mk w b m) : b < w.heap.size := by
 obtain ⟨es, clock, hb, _⟩ := h
 exact (Array.getElem?_eq_some_iff.1 hb).1
theorem MapM.made (mk : κ → Value) (w : World) : MapM mk (w.alloc (.map #[] 0)) w.heap.size [] := ⟨#[], 0, heap_alloc_new w _, rfl, by simp, by simp, by simp⟩
theorem MapM.kept {r : Option Nat} (h : MapM mk w b m) (hg : w.grownBy w' r) (hne : some b ≠ r) : MapM mk w' b m := by
 have hlt := h.lt
 obtain ⟨es, clock, hb, h2⟩ := h
 exact ⟨es, clock, (hg.block b hlt hne).trans hb, h2⟩
theorem MapM.below (h : MapM mk w b m) (hb : Below w.heap.size w w') : MapM mk w' b m := by
 have hlt := h.lt
 obtain ⟨es, clock, hc, h2⟩ := h
 exact ⟨es, clock, (hb.block b hlt).trans hc, h2⟩
theorem MapM.len (h : MapM mk w b m) {T E : TypeId} (ht : P.underlying T = some (.map K E)) (ty : TypeId) : (Builtin.len_ #[T] ty #[.map (some b)]).run P w = .ok (.int .i64 (m.length : Int)) w := by
 obtain ⟨es, clock, hb, hes, _⟩ := h
 have hlen : es.toList.length = m.length := by have := congrArg List.length hes; simpa using this
 have hun : ∀ t d, P.underlying t = some d → (underlying t).run P w = .ok d w := fun t d h => by simp [underlying, h]
 have hsz : es.size = m.length := by rw [← hlen]; simp
 unfold Builtin.len_
 simp [Sem.run_bind, hun _ _ ht, Result.andThen_ok, getObj, Sem.run, hb, hsz, goInt]
end
section
variable {κ : Type} [DecidableEq κ]
def mfind : List (κ × Value) → κ → Nat → Option (Nat × Value)
 | [], _, _ => none
 | p :: m, k, i => if p.1 = k then some (i, p.2) else mfind m k (i + 1)
def mget (m : List (κ × Value)) (k : κ) : Option Value := (mfind m k 0).map (·.2)
def mset (m : List (κ × Value)) (k : κ) (v : Value) : List (κ × Value) := match mfind m k 0 with | some (i, _) => m.modify i (fun p => (p.1, v)) | none => m ++ [(k, v)]
def mdel (m : List (κ × Value)) (k : κ) : List (κ × Value) := match mfind m k 0 with | some (i, _) => m.eraseIdx i | none => m
structure KeyM (P : Program) (K : TypeId) (mk : κ → Value) : Prop where
 same : ∃ kd, P.underlying K = some kd ∧ ∀ a b, Instr.sameNow kd (mk a) (mk b) = some (decide (b = a))
 check : ∀ (e : Bool) (a : κ) (w : World), (Instr.checkKey e 10000 K (mk a)).run P w = .ok () w
 bits : ∀ a, Instr.sameBits 10000 (mk a) (mk a) = true
variable {mk : κ → Value} {P : Program} {K : TypeId} {w w' : World} {b : Nat} {m : List (κ × Value)}
theorem find_now {kd : TypeDesc} (hs : ∀ a b, Instr.sameNow kd (mk a) (mk b) = some (decide (b = a))) (k : κ) : ∀ {es : List MapEntry} {m : List (κ × Value)} (i : Nat), es.map (fun e => (e.key, e.val)) = m.map (fun p => (mk p.1, p.2)) → Instr.findNow kd (mk k) es i = some (mfind m k i)
 | [], [], i, _ => rfl
 | [], _ :: _, i, h => by simp at h
 | _ :: _, [], i, h => by simp at h
 | e :: es, p :: m, i, h => by
  simp only [List.map_cons, List.cons.injEq, Prod.mk.injEq] at h
  obtain ⟨⟨h1, h2⟩, h3⟩ := h
  rw [Instr.findNow, h1, hs, mfind]
  by_cases hk : p.1 = k
  ·rw [decide_eq_true hk, if_pos hk, h2]
  ·rw [decide_eq_false hk, if_neg hk]
   exact find_now hs k (i + 1) h3
theorem mfind_lt : ∀ {m : List (κ × Value)} {k : κ} {i j : Nat} {v : Value}, mfind m k i = some (j, v) → i ≤ j ∧ j < i + m.length ∧ m[j - i]? = some (k, v)
 | [], _, _, _, _, h => by cases h
 | p :: m, k, i, j, v, h => by
  rw [mfind] at h
  split at h
  ·rename_i hk
   simp only [Option.some.injEq, Prod.mk.injEq] at h
   obtain ⟨rfl, rfl⟩ := h
   refine ⟨Nat.le_refl _, by simp, ?_⟩
   rw [Nat.sub_self, ← hk]
   rfl
  ·obtain ⟨h1, h2, h3⟩ := mfind_lt h
   refine ⟨by omega, by simp; omega, ?_⟩
   rw [show j - i = (j - (i + 1)) + 1 by omega]
   simpa using h3
theorem mfind_none : ∀ {m : List (κ × Value)} {k : κ} {i : Nat}, mfind m k i = none → ∀ p ∈ m, p.1 ≠ k
 | [], _, _, _, p, hp => by cases hp
 | q :: m, k, i, h, p, hp => by
  rw [mfind] at h
  split at h
  ·cases h
  ·rename_i hk
   rcases List.mem_cons.1 hp with rfl | hp
   ·exact hk
   ·exact mfind_none h p hp
theorem MapM.lookup (h : MapM mk w b m) (hK : KeyM P K mk) {T E : TypeId} (ht : P.underlying T = some (.map K E)) {z : Value} (hz : (zeroValue E).run P w = .ok z w) (k : κ) (ok : Bool) :
  (Instr.lookup T (.map (some b)) (mk k) ok).run P w = .ok (if ok = true then .tuple #[(mget m k).getD z, .bool (mget m k).isSome] else (mget m k).getD z) w := by
 obtain ⟨es, clock, hb, hes, _⟩ := h
 obtain ⟨kd, hkd, hs⟩ := hK.same
 have hf := find_now hs k 0 hes
 have hun : ∀ t d, P.underlying t = some d → (underlying t).run P w = .ok d w := fun t d h => by simp [underlying, h]
 unfold Instr.lookup Instr.findKey
 simp only [Sem.run_bind, hun _ _ ht, Result.andThen_ok, getObj, Sem.run, hb, hK.check, hun _ _ hkd, hf, Sem.run_pure, Array.isEmpty]
 cases hm : mfind m k 0 with
 | none => simp [mget, hm, hz, Result.andThen_ok]
 | some p => obtain ⟨i, v⟩ := p; simp [mget, hm]
theorem grown_block (w : World) (b : Nat) (o : Obj) : w.grownBy (setBlock w b o) (some b) :=
 ⟨rfl, rfl, rfl, by simp [setBlock], fun k hk hne => by
  unfold setBlock
  simp only
  rw [Array.getElem?_setIfInBounds_ne (fun e => hne (by rw [e]))]⟩
theorem run_set {es : Array MapEntry} {clock : Nat} (hb : w.heap[b]? = some (.map es clock)) (o' : Obj) : (setObj b o').run P w = .ok () (setBlock w b o') := by
 simp [setObj, Sem.run, hb, setBlock]
theorem mset_keys_new {k : κ} {v : Value} (h : mfind m k 0 = none) : mset m k v = m ++ [(k, v)] := by rw [mset, h]
theorem MapM.update (h : MapM mk w b m) (hK : KeyM P K mk) {T E : TypeId} (ht : P.underlying T = some (.map K E)) (k : κ) (v : Value) :
  ∃ w', (Instr.mapUpdate T (.map (some b)) (mk k) v).run P w = .ok () w' ∧ MapM mk w' b (mset m k v) ∧ w.grownBy w' (some b) := by
 have hlt := h.lt
 obtain ⟨es, clock, hb, hes, hborn, hnd, hkd2⟩ := h
 obtain ⟨kd, hkd, hs⟩ := hK.same
 have hf := find_now hs k 0 hes
 have hun : ∀ t d, P.underlying t = some d → (underlying t).run P w = .ok d w := fun t d h => by simp [underlying, h]
 have hnew : ∀ o, (setBlock w b o).heap[b]? = some o := fun o => by unfold setBlock; simp [hlt]
 have hlen : es.toList.length = m.length := by have := congrArg List.length hes; simpa using this
 cases hm : mfind m k 0 with
 | none =>
  refine ⟨setBlock w b (.map (es.push { key := mk k, val := v, born := clock }) (clock + 1)), ?_, ⟨_, _, hnew _, ?_, ?_, ?_, ?_⟩, grown_block _ _ _⟩
  ·unfold Instr.mapUpdate Instr.findKey
   simp only [Sem.run_bind, hun _ _ ht, Result.andThen_ok, getObj, Sem.run, hb, hK.check, hun _ _ hkd, hf, hm, run_set hb, Sem.run_pure]
  ·rw [mset_keys_new hm]
   simp [hes]
  ·intro e he
   simp only [Array.toList_push, List.mem_append, List.mem_singleton] at he
   rcases he with he | rfl
   ·have := hborn e he
    omega
   ·simp
  ·simp only [Array.toList_push, List.map_append, List.map_cons, List.map_nil]
   rw [List.nodup_append]
   refine ⟨hnd, by simp, fun x hx y hy => ?_⟩
   simp only [List.mem_singleton] at hy
   subst hy
   obtain ⟨e, he, rfl⟩ := List.mem_map.1 hx
   have := hborn e he
   omega
  ·rw [mset_keys_new hm, List.map_append, List.nodup_append]
   refine ⟨hkd2, by simp, fun x hx y hy => ?_⟩
   simp only [List.map_cons, List.map_nil, List.mem_singleton] at hy
   subst hy
   obtain ⟨p, hp, rfl⟩ := List.mem_map.1 hx
   exact mfind_none hm p hp
 | some p =>
  obtain ⟨i, v0⟩ := p
  obtain ⟨_, hi, hp⟩ := mfind_lt hm
  rw [Nat.sub_zero] at hp
  have hi' : i < es.toList.length := by omega
  have hkey : es.toList[i].key = mk k := by
   have := congrArg (fun l => l[i]?) hes
   simp only [List.getElem?_map, hp, List.getElem?_eq_getElem hi', Option.map_some, Option.some.injEq, Prod.mk.injEq] at this
   exact this.1
  have hgk : ((es[i]?).map (·.key)).getD (mk k) = mk k := by
   rw [← Array.getElem?_toList, List.getElem?_eq_getElem hi', Option.map_some, Option.getD_some]
   exact hkey
  have hstay : (Instr.keyThatStays (mk k) (mk k)).run P w = .ok (mk k) w := by
   unfold Instr.keyThatStays
   rw [if_pos (hK.bits k)]
   rfl
  refine ⟨setBlock w b (.map (es.modify i fun e => { e with key := mk k, val := v }) clock), ?_, ⟨_, _, hnew _, ?_, ?_, ?_, ?_⟩, grown_block _ _ _⟩
  ·unfold Instr.mapUpdate Instr.findKey
   simp only [Sem.run_bind, hun _ _ ht, Result.andThen_ok, getObj, Sem.run, hb, hK.check, hun _ _ hkd, hf, hm, hgk, hstay, run_set hb, Sem.run_pure]
  ·rw [mset, hm]
   simp only [Array.toList_modify]
   refine List.ext_getElem? fun j => ?_
   have hj := congrArg (fun l => l[j]?) hes
   simp only [List.getElem?_map] at hj
   simp only [List.getElem?_map, List.getElem?_modify]
   by_cases e : i = j
   ·subst e
    simp [hp, List.getElem?_eq_getElem hi']
   ·cases h1 : es.toList[j]? <;> cases h2 : m[j]? <;> simp [h1, h2, e] at hj ⊢ <;> exact hj
  ·intro e he
   simp only [Array.toList_modify] at he
   obtain ⟨j, hj⟩ := List.getElem?_of_mem he
   rw [List.getElem?_modify] at hj
   simp only [Option.map_eq_map, Option.map_eq_some_iff] at hj
   obtain ⟨e0, h0, rfl⟩ := hj
   have := hborn e0 (List.mem_of_getElem? h0)
   split <;> exact this
  ·have : (es.modify i fun e => { e with key := mk k, val := v }).toList.map (·.born) = es.toList.map (·.born) := by
    simp only [Array.toList_modify]
    refine List.ext_getElem? fun j => ?_
    simp only [List.getElem?_map, List.getElem?_modify]
    cases es.toList[j]? with
    | none => simp
    | some e => by_cases hh : i = j <;> simp [hh]
   rw [this]
   exact hnd
  ·rw [mset, hm]
   have : (m.modify i fun p => (p.1, v)).map (·.1) = m.map (·.1) := by
    refine List.ext_getElem? fun j => ?_
    simp only [List.getElem?_map, List.getElem?_modify]
    cases m[j]? with
    | none => simp
    | some e => by_cases hh : i = j <;> simp [hh]
   simp only [this]
   exact hkd2
theorem MapM.delete (h : MapM mk w b m) (hK : KeyM P K mk) {T E : TypeId} (ht : P.underlying T = some (.map K E)) (k : κ) (ty : TypeId) :
  ∃ w', (Builtin.delete_ #[T, K] ty #[.map (some b), mk k]).run P w = .ok (.tuple #[]) w' ∧ MapM mk w' b (mdel m k) ∧ w.grownBy w' (some b) := by
 have hlt := h.lt
 obtain ⟨es, clock, hb, hes, hborn, hnd, hkd2⟩ := h
 obtain ⟨kd, hkd, hs⟩ := hK.same
 have hf := find_now hs k 0 hes
 have hun : ∀ t d, P.underlying t = some d → (underlying t).run P w = .ok d w := fun t d h => by simp [underlying, h]
 have hnew : ∀ o, (setBlock w b o).heap[b]? = some o := fun o => by unfold setBlock; simp [hlt]
 cases hm : mfind m k 0 with
 | none =>
  refine ⟨setBlock w b (.map es clock), ?_, ⟨es, clock, hnew _, ?_, hborn, hnd, ?_⟩, grown_block _ _ _⟩
  ·unfold Builtin.delete_ Instr.findKey
   simp [Sem.run_bind, hun _ _ ht, Result.andThen_ok, getObj, Sem.run, hb, hK.check, hun _ _ hkd, hf, hm, run_set hb]
  ·rw [mdel, hm]; exact hes
  ·rw [mdel, hm]; exact hkd2
 | some p =>
  obtain ⟨i, v0⟩ := p
  obtain ⟨_, hi, hp⟩ := mfind_lt hm
  have hlen : es.toList.length = m.length := by have := congrArg List.length hes; simpa using this
  have hti : (es.eraseIdxIfInBounds i).toList = es.toList.eraseIdx i := by
   rw [Array.eraseIdxIfInBounds, dif_pos (by simpa using (by omega : i < es.toList.length))]
   simp
  refine ⟨setBlock w b (.map (es.eraseIdxIfInBounds i) clock), ?_, ⟨_, _, hnew _, ?_, ?_, ?_, ?_⟩, grown_block _ _ _⟩
  ·unfold Builtin.delete_ Instr.findKey
   simp [Sem.run_bind, hun _ _ ht, Result.andThen_ok, getObj, Sem.run, hb, hK.check, hun _ _ hkd, hf, hm, run_set hb]
  ·rw [mdel, hm, hti, map_eraseIdx, hes, map_eraseIdx]
  ·intro e he
   rw [hti] at he
   exact hborn e (List.mem_of_mem_eraseIdx he)
  ·rw [hti, map_eraseIdx]
   exact hnd.sublist (List.eraseIdx_sublist _ _)
  ·rw [mdel, hm]
   simp only [map_eraseIdx]
   exact hkd2.sublist (List.eraseIdx_sublist _ _)
end
theorem check_int {P : Program} {K : TypeId} (h : P.underlying K = some (.int .i64)) (e : Bool) (n : Nat) (a : Int) (w : World) : (Instr.checkKey e (n + 1) K (.int .i64 a)).run P w = .ok () w := by
 rw [Instr.checkKey]
 simp [Sem.run_bind, underlying, h, Result.andThen_ok]
theorem check_str {P : Program} {K : TypeId} (h : P.underlying K = some .string) (e : Bool) (n : Nat) (a : ByteArray) (w : World) : (Instr.checkKey e (n + 1) K (.string a)).run P w = .ok () w := by
 rw [Instr.checkKey]
 simp [Sem.run_bind, underlying, h, Result.andThen_ok]
theorem bits_int (n : Nat) (a : Int) : Instr.sameBits n (.int .i64 a) (.int .i64 a) = true := by
 unfold Instr.sameBits
 simp
theorem bits_str (n : Nat) (a : ByteArray) : Instr.sameBits n (.string a) (.string a) = true := by
 unfold Instr.sameBits
 exact (MapKept.bytes_beq a a).2 rfl
theorem key_int {P : Program} {K : TypeId} (h : P.underlying K = some (.int .i64)) : KeyM P K (Value.int .i64) :=
 ⟨⟨_, h, fun a b => by simp [Instr.sameNow, eq_comm, Bool.beq_eq_decide_eq]⟩, fun e a w => check_int h e 9999 a w, bits_int 10000⟩
theorem ba_beq (a b : ByteArray) : (a == b) = decide (b = a) := by
 rw [Bool.eq_iff_iff, MapKept.bytes_beq, decide_eq_true_iff]
 exact eq_comm
theorem key_str {P : Program} {K : TypeId} (h : P.underlying K = some .string) : KeyM P K Value.string :=
 ⟨⟨_, h, fun a b => by simp [Instr.sameNow, ba_beq]⟩, fun e a w => check_str h e 9999 a w, bits_str 10000⟩
end
end Go.Proofs.YtiibocdmlfedkaaGreatDoor
