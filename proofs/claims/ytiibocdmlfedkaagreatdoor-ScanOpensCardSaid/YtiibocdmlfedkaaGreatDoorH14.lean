/- Parts of the proof. -/
import Derived.RegionTactic
import Derived.Test.YtiibocdmlfedkaaGreatDoorH02
namespace Go.Proofs.YtiibocdmlfedkaaGreatDoor
section
open Go.RowKit
section
variable {P : Program} {ops : Array Oper} {Q : Exit → Act → World → Prop} {md : Region.Mode}
theorem count_set {l : List Bool} {i : Nat} (h : l[i]? = some false) : (l.set i true).countP (fun b => !b) + 1 = l.countP (fun b => !b) := by
 induction l generalizing i with
 | nil => simp at h
 | cons b l ih =>
  cases i with
  | zero =>
   obtain rfl : b = false := by simpa using h
   simp
  | succ i =>
   have := ih (i := i) (by simpa using h)
   simp only [List.set_cons_succ, List.countP_cons]
   omega
theorem wpAny_inv (I : Array Bool → Act → World → Prop)
  (hstep : ∀ (listed : Array Bool) (a : Act) (w : World) (i : Nat), I listed a w → i ∈ Region.ready md ops listed → wpOp P ops Q i (fun a' w' => I (listed.setIfInBounds i true) a' w') a w)
  (hend : ∀ (listed : Array Bool) (a : Act) (w : World), I listed a w → Region.ready md ops listed = [] → Q .normal a w) :
  ∀ (fuel : Nat) (listed : Array Bool) (a : Act) (w : World), I listed a w → listed.toList.countP (fun b => !b) ≤ fuel → wpAny P md ops Q fuel listed a w
 | 0, listed, a, w, h, hc => by
  have hr : Region.ready md ops listed = [] := by
   rw [List.eq_nil_iff_forall_not_mem]
   intro j hj
   have h1 := (mem_ready.1 hj).1
   have hc0 : listed.toList.countP (fun b => !b) = 0 := by omega
   rw [List.countP_eq_zero] at hc0
   rcases Nat.lt_or_ge j listed.size with hlt | hge
   ·rw [Array.getD_eq_getD_getElem?, Array.getElem?_eq_getElem hlt] at h1
    have := hc0 listed[j] (by simp)
    simp at h1
    simp [h1] at this
   ·rw [Array.getD_eq_getD_getElem?, Array.getElem?_eq_none hge] at h1
    cases h1
  exact ⟨hr, hend _ _ _ h hr⟩
 | fuel + 1, listed, a, w, h, hc => by
  refine ⟨hend _ _ _ h, fun i hi => wpOp_mono (fun a' w' h' => wpAny_inv I hstep hend fuel _ a' w' h' ?_) (hstep _ _ _ _ h hi)⟩
  have h1 := (mem_ready.1 hi).1
  rcases Nat.lt_or_ge i listed.size with hlt | hge
  ·rw [Array.getD_eq_getD_getElem?, Array.getElem?_eq_getElem hlt] at h1
   have h2 : listed.toList[i]? = some false := by
    rw [Array.getElem?_toList, Array.getElem?_eq_getElem hlt]
    simpa using h1
   have := count_set h2
   rw [Array.toList_setIfInBounds]
   omega
  ·rw [Array.getD_eq_getD_getElem?, Array.getElem?_eq_none hge] at h1
   cases h1
theorem wanted_free {o : Oper} {y : Nat → Option Bool} (h : o.guard = none) : Region.wanted o y = true := by simp [Region.wanted, h]
theorem region_inv (I : Array Bool → Act → World → Prop) {id : Nat} {a : Act} {w : World} (hm : P.follows .mixedOrders = true) (h0 : I (Array.replicate ops.size false) a w.drew)
  (hstep : ∀ (listed : Array Bool) (a : Act) (w : World) (i : Nat) (o : Oper), I listed a w → listed.getD i true = false → ops[i]? = some o → (∀ e ∈ o.after, Region.binds .any e = true → listed.getD e.on false = true) →
   ∀ K : Act → World → Prop, (∀ a' w', I (listed.setIfInBounds i true) a' w' → K a' w') → if Region.wanted o (yielded ops a.tmps) = true then Oper.wp P o a w K Q else K (a.put o.dst undef) w)
  (hend : ∀ (listed : Array Bool) (a : Act) (w : World), I listed a w → (∀ i o, ops[i]? = some o → (∀ e ∈ o.after, Region.binds .any e = true → listed.getD e.on false = true) → listed.getD i true = true) → Q .normal a w) :
  (Code.region id ops true).wp P Q a w := by
 refine wp_region_any hm (wpAny_inv I (fun listed a w i hI hi => ?_) (fun listed a w hI hr => hend _ _ _ hI fun i o ho hd => ?_) _ _ _ _ h0 ?_)
 ·obtain ⟨h1, o, ho, h2⟩ := mem_ready.1 hi
  exact wpOp_step ho (hstep listed a w i o hI h1 ho h2)
 ·cases hb : listed.getD i true
  ·have : i ∈ Region.ready .any ops listed := mem_ready.2 ⟨hb, o, ho, hd⟩
   rw [hr] at this
   cases this
  ·rfl
 ·rw [Array.toList_replicate]
  exact Nat.le_trans List.countP_le_length (by simp)
end
end
end Go.Proofs.YtiibocdmlfedkaaGreatDoor
