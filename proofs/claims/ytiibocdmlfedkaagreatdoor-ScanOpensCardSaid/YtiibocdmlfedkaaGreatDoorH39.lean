/- Parts of the proof. -/
import Derived.Maps.RangeWalk
import Derived.Test.YtiibocdmlfedkaaGreatDoorH30
import Derived.Test.YtiibocdmlfedkaaGreatDoorH37
import Derived.Test.YtiibocdmlfedkaaGreatDoorH38
namespace Go.Proofs.YtiibocdmlfedkaaGreatDoor
section
open Go.RowKit Go.ChangeMaps
open Go.Lib hiding intOf
def RetArr (l : List POp) (w : World) (e : Ending) (w' : World) : Prop := Below w.heap.size w w' ∧
 (((orderP l).length < l.length ∧ e = .returned (.tuple #[.slice none 0 0, .bool false])) ∨
  (¬ (orderP l).length < l.length ∧ ∃ A c, e = .returned (.tuple #[.slice A l.length c, .bool true]) ∧ w'.ownsRow w.heap.size 3 1 (.slice A l.length c) l.length (ints ((orderP l).map fun i : Nat => (i : Int)))))
theorem zero_map (w : World) : (zeroValue 179).run Tryz.prog w = .ok (.map none) w := by kernel_rfl
theorem outer_yes {β : Nat → Nat} {js : List Nat} {j : Nat} (h : j ∈ js) {z : Value} : (mget (outerM β js) ((j : Nat) : Int)).getD z = .map (some (β j)) := by rw [outer_get, if_pos h]; rfl
theorem outer_no {β : Nat → Nat} {js : List Nat} {j : Nat} (h : j ∉ js) {z : Value} : (mget (outerM β js) ((j : Nat) : Int)).getD z = z := by rw [outer_get, if_neg h]; rfl
theorem outer_is {β : Nat → Nat} {js : List Nat} {j : Nat} : (mget (outerM β js) ((j : Nat) : Int)).isSome = decide (j ∈ js) := by
 rw [outer_get]
 by_cases h : j ∈ js <;> simp [h]
theorem blk_kept {w w' : World} {g r : Nat} {t : TypeId} {cs : Array Value} (h : Blk w g t cs) (hg : w.grownBy w' (some r)) (hne : g ≠ r) : Blk w' g t cs := (hg.block g h.lt (fun e => hne (Option.some.inj e))).trans h
theorem own_off {w w' : World} {base size n r : Nat} {e : TypeId} {v : Value} {xs : List Value} (h : w.ownsRow base e size v n xs) (hg : w.grownBy w' (some r)) (hr : r < base ∨ w.heap.size ≤ r) : w'.ownsRow base e size v n xs := by
 refine h.kept hg ?_
 cases hv : v.ownBlock with
 | none => exact .inl rfl
 | some g =>
  right
  intro q
  have := h.lt g hv
  have := Option.some.inj q
  omega
theorem own_weak {w : World} {base base' size n : Nat} {e : TypeId} {v : Value} {xs : List Value} (h : w.ownsRow base e size v n xs) (hle : base' ≤ base) : w.ownsRow base' e size v n xs := by
 refine ⟨h.1, ?_⟩
 rcases h.2 with hn | ⟨g, cap, cur, e1, hb, rest⟩
 ·exact .inl hn
 ·exact .inr ⟨g, cap, cur, e1, Nat.le_trans hle hb, rest⟩
def lenV : Value → Nat
 | .slice _ m _ => m
 | _ => 0
def todo (js : List Nat) (done : List Int) : Nat := (js.filter fun j : Nat => !done.contains (j : Int)).length
theorem filter_less {α : Type} {p q : α → Bool} (hpq : ∀ x, q x = true → p x = true) {x : α} (hp : p x = true) (hq : q x = false) : ∀ {l : List α}, x ∈ l → (l.filter q).length < (l.filter p).length
 | [], h => by cases h
 | y :: l, h => by
  have hle : (l.filter q).length ≤ (l.filter p).length := by
   rw [← List.countP_eq_length_filter, ← List.countP_eq_length_filter]
   exact List.countP_mono_left fun x _ => hpq x
  rcases List.mem_cons.1 h with rfl | h
  ·rw [List.filter_cons_of_neg (by simp [hq]), List.filter_cons_of_pos hp, List.length_cons]
   omega
  ·have ih := filter_less hpq hp hq h
   by_cases hy : q y = true
   ·rw [List.filter_cons_of_pos hy, List.filter_cons_of_pos (hpq y hy), List.length_cons, List.length_cons]
    omega
   ·rw [List.filter_cons_of_neg hy]
    by_cases hy2 : p y = true
    ·rw [List.filter_cons_of_pos hy2, List.length_cons]
     omega
    ·rw [List.filter_cons_of_neg hy2]
     exact ih
theorem todo_less {js : List Nat} {done : List Int} {j : Nat} (hj : j ∈ js) (hd : (j : Int) ∉ done) : todo js ((j : Int) :: done) < todo js done := by
 refine filter_less (x := j) (fun y hy => ?_) ?_ ?_ hj
 ·simp only [List.contains_cons, Bool.not_or, Bool.and_eq_true] at hy
  exact hy.2
 ·simpa using hd
 ·simp
theorem ArrM.kept_o {B b0 : Nat} {w w' : World} {β : Nat → Nat} {js : List Nat} {I : Nat → List (Int × Value)} {q : Option Nat} (h : ArrM B w b0 β js I) (hg : w.grownBy w' q) (hq : ∀ r, q = some r → b0 ≠ r ∧ ∀ j ∈ js, β j ≠ r) : ArrM B w' b0 β js I :=
 ⟨h.outer.kept hg (fun e => (hq _ e.symm).1 rfl), fun j hj => (h.inner j hj).kept hg (fun e => (hq _ e.symm).2 j hj rfl), h.off, h.inj, h.lo, h.lo0⟩
theorem Says.more {l : List POp} {k : Nat} {I : Nat → List (Int × Value)} {x : POp} (hs : Says l [] (List.range k) I) (hx : l[k]? = some x) (hk : SetOf (I k) x.after) : Says l [] (List.range (k + 1)) I := by
 intro j hj a
 by_cases e : j = k
 ·subst e
  rw [hk a]
  have : (l.map (·.after)).getD j [] = x.after := by
   rw [List.getD_eq_getElem?_getD, List.getElem?_map, hx]
   rfl
  unfold waits
  rw [this]
  by_cases h : a ∈ x.after <;> simp [h]
 ·refine hs j (List.mem_range.2 ?_) a
  have := List.mem_range.1 hj
  omega
theorem Says.same {l : List POp} {d js : List Nat} {I I' : Nat → List (Int × Value)} (hs : Says l d js I) (h : ∀ j ∈ js, I' j = I j) : Says l d js I' := fun j hj a => by
 rw [h j hj]
 exact hs j hj a
set_option maxRecDepth 100000 in
set_option maxHeartbeats 12800000 in
theorem arrange_any (L : Option Addr) (n c : Nat) (l : List POp) (w : World) (hl : Recs 5 opG w L n l) (hn : n ≤ 16) (hs : ∀ o ∈ l, OpS o) (hx : ∀ o ∈ l, ∀ a ∈ o.after, 0 ≤ a ∧ a < (n : Int)) :
  Calls Tryz.prog 79 #[.slice L n c] w (RetArr l w) := by
 have HLL := Lib.hid hl.len
 have HA := Lib.hid hl
 have HX := Lib.hid hx
 have HS := Lib.hid hs
 have hmm := @run_makeMap Tryz.prog
 have uO := Tryz.underlying178
 have uI := Tryz.underlying179
 clear hl hx hs
 go_enter Tryz.func79, Tryz.ntmps79
 go_wp2
 go_loopw [5, 6, 8, 18, 29] (fun _ _ _ i _ wr => ∃ (k : Nat) (β : Nat → Nat) (I : Nat → List (Int × Value)), k ≤ n ∧ i = .int .i64 (k : Int) ∧ Hid (ArrM w.heap.size wr w.heap.size β (List.range k) I) ∧ Hid (Says l [] (List.range k) I) ∧ Hid (Below w.heap.size w wr)) (fun _ _ _ i _ _ => n - (intOf i).toNat)
 case atStart => exact ⟨0, fun _ => 0, fun _ => [], Nat.zero_le _, rfl, ⟨MapM.made _ _, (fun j hj => by simp at hj), (fun j hj => by simp at hj), (fun j hj => by simp at hj), (fun j hj => by simp at hj), Nat.le_refl _⟩, (fun j hj => by simp at hj), (Below.refl _ _).alloc (Nat.le_refl _) _⟩
 case round =>
  obtain ⟨k, β, I, hk, rfl, HM, HSY, HB⟩ := hrel
  by_cases hlt : k < n
  ·obtain ⟨b, off, x, B, an, ac, C, un, uc, rfl, hbw, hx, c0, c1, c2, c3, c4, s1, s2, s3, s4⟩ := op_at HA.out hlt
   replace c0 := (HB.out.cell (p := ⟨b, off + k * 5, none⟩) hbw).trans c0
   replace c1 := (HB.out.cell (p := ⟨b, off + k * 5 + 1, none⟩) hbw).trans c1
   replace c2 := (HB.out.cell (p := ⟨b, off + k * 5 + 2, none⟩) hbw).trans c2
   replace c3 := (HB.out.cell (p := ⟨b, off + k * 5 + 3, none⟩) hbw).trans c3
   replace c4 := (HB.out.cell (p := ⟨b, off + k * 5 + 4, none⟩) hbw).trans c4
   have HXX := Lib.hid hx
   have HS1 := Lib.hid s1
   have HAL := Lib.hid s1.ilen
   have ha1 : an ≤ 1000 := by rw [← s1.ilen]; exact (HS.out x (List.mem_of_getElem? hx)).aft
   have HB1 : Hid (Below wr.heap.size wr (wr.alloc (.cells #[.string x.name, .int .i64 x.machine, .int .i64 x.minutes, .slice B an ac, .slice C un uc] 70))) := (Below.refl _ _).alloc (Nat.le_refl _) _
   have HB2 : Hid (Below wr.heap.size wr ((wr.alloc (.cells #[.string x.name, .int .i64 x.machine, .int .i64 x.minutes, .slice B an ac, .slice C un uc] 70)).alloc (.map #[] 0))) := HB1.out.alloc (by exact HB1.out.size) _
   have HY := Lib.hid ((Blk.new wr 70 #[.string x.name, .int .i64 x.machine, .int .i64 x.minutes, .slice B an ac, .slice C un uc]).alloc (.map #[] 0))
   have HM2 := Lib.hid (HM.out.below HB2.out)
   have HGM := Lib.hid (MapM.made (Value.int .i64) (wr.alloc (.cells #[.string x.name, .int .i64 x.machine, .int .i64 x.minutes, .slice B an ac, .slice C un uc] 70)))
   have hw0 := HB.out.size
   have hw1 : w.heap.size < wr.heap.size := HM.out.outer.lt
   have i1 : (0 : Int) ≤ (k : Int) := by omega
   have i2 : (k : Int) < (n : Int) := by omega
   clear hx s1 s3
   go_wp2_with (at_mapUpdate; refine wpl_update (by rfl) _ _ _ _ (by rfl) (key_int Tryz.underlying3) uO (by rfl) HM2.out.outer (k : Int) (by rfl) (.map (some (wr.heap.size + 1))) (by rfl) ?_; intro w5 hm1 hg1; obtain ⟨x0, x1, x2, x3, x4⟩ := five_box (blk_kept HY.out hg1 (Nat.ne_of_gt hw1)))
   have hj0 : k ∉ List.range k := fun h => Nat.lt_irrefl _ (List.mem_range.1 h)
   have hsz : (wr.alloc (.cells #[.string x.name, .int .i64 x.machine, .int .i64 x.minutes, .slice B an ac, .slice C un uc] 70)).heap.size = wr.heap.size + 1 := by simp
   rw [hsz] at HGM
   have HM3 := Lib.hid (HM2.out.more hj0 HGM.out (by omega) (fun i hi => by have := (HM.out.inner i hi).lt; omega) (by omega) hm1 hg1)
   have HB5 : Hid (Below w.heap.size w w5) := below_grown (HB.out.trans (HB2.out.mono HB.out.size)) hg1 (Nat.le_refl _) (by simp; omega)
   have HB6 : Hid (Below wr.heap.size wr w5 ∨ True) := .inr trivial
   have HY5 := Lib.hid (blk_kept HY.out hg1 (Nat.ne_of_gt hw1))
   rw [← List.range_succ] at HM3
   have HSY3 : Hid (Says l [] (List.range k) (fun i => if i = k then [] else I i)) := HSY.out.same fun j hj => if_neg (fun e => Nat.lt_irrefl k (by have := List.mem_range.1 hj; omega))
   have HI3 : Hid (SetOf ((fun i => if i = k then [] else I i) k) (x.after.take 0)) := by
    simp only [if_true, List.take_zero]
    exact setOf_nil
   generalize (fun i => if i = k then wr.heap.size + 1 else β i) = γ at HM3
   have HW5 : Hid (wr.heap.size ≠ w.heap.size ∧ wr.heap.size < wr.heap.size + 1) := ⟨Nat.ne_of_gt hw1, Nat.lt_succ_self _⟩
   clear hsz hm1 hg1 HGM HM2 HB6 c0 c1 c2 c3 c4
   go_loopw [8, 29] (fun _ i v => ∃ (q : Nat) (J : Nat → List (Int × Value)), q ≤ an ∧ i = .int .i64 (q : Int) ∧ Hid (ArrM w.heap.size v w.heap.size γ (List.range (k + 1)) J) ∧ Hid (Says l [] (List.range k) J) ∧ Hid (SetOf (J k) (x.after.take q)) ∧ Hid (Below w.heap.size w v)) (fun _ i _ => an - (intOf i).toNat)
   case atStart => exact ⟨0, _, Nat.zero_le _, rfl, HM3, HSY3, HI3, HB5⟩
   case round =>
    obtain ⟨q, J, hq, rfl, HMq, HSq, HIq, HBq⟩ := hrel
    have hkk : k ∈ List.range (k + 1) := by simp
    by_cases hqt : q < an
    ·obtain ⟨b2, off2, a, rfl, hbw2, ha, d0⟩ := (HS1.out.on HBq.out).int_ hqt
     have HAA := Lib.hid ha
     have HD : Hid ((mget (outerM γ (List.range (k + 1))) (k : Int)).getD (.map none) = .map (some (γ k))) := outer_yes hkk
     have HIN := Lib.hid (HMq.out.inner k hkk)
     have i3 : (0 : Int) ≤ (q : Int) := by omega
     have i4 : (q : Int) < (an : Int) := by omega
     have hlo := HMq.out.lo k hkk
     have hvs := HBq.out.size
     clear ha hkk
     go_wp2_with (first
      | (at_lookup; refine wpl_lookup (by rfl) _ _ _ _ (by rfl) (key_int Tryz.underlying3) uO (zero_map _) (by rfl) HMq.out.outer (k : Int) (by rfl) ?_; simp only [HD.out])
      | (at_mapUpdate; refine wpl_update (by rfl) _ _ _ _ (by rfl) (key_int Tryz.underlying3) uI (by rfl) HIN.out a (by rfl) (.bool true) (by rfl) ?_; intro w6 hm2 hg2))
     go_roundw
     case rel =>
      refine ⟨q + 1, _, by omega, by go_num, HMq.out.put (by simp) hm2 hg2, HSq.out.same fun j hj => if_neg (fun e => Nat.lt_irrefl k (by have := List.mem_range.1 hj; omega)), ?_, below_grown HBq.out hg2 hlo hvs⟩
      simp only [if_true]
      have := HIq.out.add a
      rw [List.take_add_one, HAA.out]
      exact this
     case measure => simp [intOf]; omega
    ·obtain rfl : an = q := by omega
     go_wp2
     go_roundw
     case rel =>
      refine ⟨k + 1, γ, J, by omega, by go_num, HMq, HSq.out.more HXX.out ?_, HBq⟩
      have := HIq.out
      rwa [← HAL.out, List.take_length] at this
     case measure => simp [intOf]; omega
  ·obtain rfl : n = k := by omega
   clear hlt hk
   obtain ⟨B0, hB0⟩ : ∃ B0, wr.heap.size = B0 := ⟨_, rfl⟩
   have HLT : Hid (∀ j, j < n → β j < B0) := fun j hj => by rw [← hB0]; exact (HM.out.inner j (List.mem_range.2 hj)).lt
   have HL0 := Lib.hid HM.out.outer.lt
   have HS0 := Lib.hid HB.out.size
   have e0 : List.range n = left n [] := by
    unfold left
    exact (List.filter_eq_self.2 fun j _ => by simp).symm
   rw [e0] at HM HSY
   have hww : w.heap.size < B0 := by rw [← hB0]; exact HL0.out
   have HBASE : Hid (w.heap.size ≤ B0) := Nat.le_of_lt hww
   have HBS := Lib.hid (Nat.le_of_eq hB0.symm)
   clear hB0
   go_wp2
   go_loopw [9, 10, 11, 12, 14] (fun v _ _ _ _ w2 => ∃ (d : List Nat) (J : Nat → List (Int × Value)), Hid (w2.ownsRow B0 3 1 v d.length (ints (d.map fun i : Nat => (i : Int)))) ∧ Hid (ArrM w.heap.size w2 w.heap.size β (left n d) J) ∧ Hid (Says l d (left n d) J) ∧ Hid (orderF l (n - d.length) d = orderP l) ∧ Hid ((left n d).length + d.length = n) ∧ Hid (Below w.heap.size w w2) ∧ Hid (B0 ≤ w2.heap.size)) (fun v _ _ _ _ _ => n - lenV v)
   case atStart => exact ⟨[], I, World.ownsRow_nil _ _ _ _, HM, HSY, by rw [Hid, orderP, HLL.out]; rfl, by rw [Hid, ← e0]; simp, HB, HBS⟩
   case round =>
    obtain ⟨d, J, HO, HMd, HSd, HOr, HN, HBd, HSZ⟩ := hrel
    obtain ⟨A1, c1, rfl⟩ := own_form HO.out
    obtain ⟨N, hN⟩ : ∃ N, (left n d).length = N := ⟨_, rfl⟩
    have HLen := Lib.hid hN
    have hdn : N + d.length = n := by rw [← hN]; exact HN.out
    clear hN
    by_cases hN0 : N = 0
    ·subst hN0
     have HE : Hid (orderP l = d) := by
      rw [Hid, ← HOr.out, show n - d.length = 0 by omega]
      rfl
     have HE2 : Hid (d.length = l.length) := by rw [Hid, HLL.out]; omega
     clear hdn
     go_wp2_with (at_len; refine wpl_len (by rfl) _ _ (by rfl) uO (by rfl) HMd.out.outer ?_; simp only [outer_len, HLen.out])
     refine bodyPost_ret (results_tmp2 rfl _ _ _) rfl ?_
     refine ⟨HBd.out, .inr ⟨by rw [HE.out, HE2.out]; exact Nat.lt_irrefl _, A1, c1, by rw [← HE2.out]; rfl, ?_⟩⟩
     rw [HE.out, ← HE2.out]
     exact own_weak HO.out HBASE.out
    ·have hN1 : 0 < N := by omega
     have hdl : d.length < n := by omega
     go_wp2_with (at_len; refine wpl_len (by rfl) _ _ (by rfl) uO (by rfl) HMd.out.outer ?_; simp only [outer_len, HLen.out])
     go_loop [10, 11, 12] (fun i _ _ => ∃ k : Nat, k ≤ n ∧ i = .int .i64 (k : Int) ∧ Hid (∀ j, j < k → readyB l d j = false)) (fun i _ _ => n - (intOf i).toNat)
     case atStart => exact ⟨0, Nat.zero_le _, rfl, fun j hj => by omega⟩
     case round =>
      obtain ⟨k, hk, rfl, hno⟩ := hrel
      by_cases hlt : k < n
      ·by_cases hin : k ∈ left n d
       ·have HD1 : Hid ((mget (outerM β (left n d)) (k : Int)).getD (.map none) = .map (some (β k))) := outer_yes hin
        have HD2 : Hid ((mget (outerM β (left n d)) (k : Int)).isSome = true) := by rw [Hid, outer_is, decide_eq_true hin]
        have HIN := Lib.hid (HMd.out.inner k hin)
        have HRD : Hid (readyB l d k = decide ((J k).length = 0)) := ready_len HSd.out hin (mem_left.1 hin).2
        have HKI := Lib.hid hin
        obtain ⟨M, hM⟩ : ∃ M, (J k).length = M := ⟨_, rfl⟩
        have HMM := Lib.hid hM
        have hlen := HIN.out.len uI 3
        rw [hM] at hlen
        clear hM hin
        by_cases hM0 : M = 0
        ·subst hM0
         have HR : Hid (readyB l d k = true) := by rw [Hid, HRD.out, HMM.out]; rfl
         have HNX : Hid (nextP l d = some k) := next_some (by rw [HLL.out]; exact hlt) HR.out hno.out
         have hkn : ((k : Int) == (n : Int)) = false := by simp; omega
         go_wp2_with (first
          | (at_lookup; refine wpl_lookup (by rfl) _ _ _ _ (by rfl) (key_int Tryz.underlying3) uO (zero_map _) (by rfl) HMd.out.outer (k : Int) (by rfl) ?_; simp only [HD1.out, HD2.out])
          | (at_delete; refine wpl_delete (by rfl) _ _ _ (by rfl) (key_int Tryz.underlying3) uO (by rfl) HMd.out.outer (k : Int) (by rfl) ?_; intro w3 hm3 hg3; have HM3 := Lib.hid (HMd.out.del hm3 hg3); have HG3 := Lib.hid hg3; clear hm3 hg3)
          | (at_range; refine wpl_range (by rfl) _ _ (by rfl) uO (by rfl) HM3.out.outer ?_; intro w4 hit hb4 hs4; go_frame))
         obtain ⟨js, hjs⟩ : ∃ js, (left n d).erase k = js := ⟨_, rfl⟩
         rw [hjs] at HM3 hit
         have HJS := Lib.hid hjs
         have hb03 : B0 ≤ w3.heap.size := Nat.le_trans HSZ.out HG3.out.size
         have HJB : Hid (∀ j ∈ js, β j < B0) := fun j hj => HLT.out j (mem_left.1 (List.mem_of_mem_erase (by rw [HJS.out]; exact hj))).1
         have HB3 : Hid (Below w.heap.size w w3) := below_grown HBd.out HG3.out (Nat.le_refl _) HBd.out.size
         have HB4 : Hid (Below w.heap.size w w4) := HB3.out.trans (hb4.mono HB3.out.size)
         have HM4 := Lib.hid (HM3.out.below hb4)
         have HO4 := Lib.hid (own_below (own_off HO.out HG3.out (.inl hww)) hb4)
         have HIT := Lib.hid hit
         have HOB : Hid ((Value.slice A1 d.length c1).ownBlock = none ∨ (Value.slice A1 d.length c1).ownBlock ≠ some w3.heap.size) := .inr fun e => by
          have h1 := (HO.out.lt _ e).2
          have h2 := HG3.out.size
          omega
         have HR4 : Hid (w3.heap.size < w4.heap.size) := by rw [Hid, hs4]; exact Nat.lt_succ_self _
         clear hit hb4 hs4 hjs hlen
         go_loopg [14] (todo js []) (fun g _ w5 => ∃ (done : List Int) (J2 : Nat → List (Int × Value)), Hid (g = todo js done) ∧ Hid (IterM (Value.int .i64) w5 w3.heap.size w.heap.size (outerM β js) done) ∧ Hid (ArrM w.heap.size w5 w.heap.size β js J2) ∧ Hid (∀ j ∈ js, ∀ a, mget (J2 j) a = if ((j : Nat) : Int) ∈ done ∧ (k : Int) = a then none else mget (J j) a) ∧ Hid (w5.ownsRow B0 3 1 (.slice A1 d.length c1) d.length (ints (d.map fun i : Nat => (i : Int)))) ∧ Hid (Below w.heap.size w w5) ∧ Hid (w3.heap.size < w5.heap.size))
         case atStart => exact ⟨[], J, rfl, HIT, HM4, (fun j hj a => by simp), HO4, HB4, HR4⟩
         case round =>
          obtain ⟨done, J2, HGK, HIT2, HM5, HJ5, HO5, HB5, HR5⟩ := hrel
          by_cases hfin : ∀ p ∈ outerM β js, p.1 ∈ done
          ·have HFIN := Lib.hid hfin
           clear hfin
           have HBX : Hid (Below wr.heap.size wr (wr.alloc (.cells #[.int .i64 (k : Int)] 3))) := (Below.refl _ _).alloc (Nat.le_refl _) _
           have b3' : d.length + 1 ≤ maxLen := by unfold maxLen; omega
           have b4' : (d.length + 1) * 8 ≤ 140737488355328 := by omega
           have HBZ : Hid (B0 ≤ (wr.alloc (.cells #[.int .i64 (k : Int)] 3)).heap.size) := Nat.le_trans (by have := HR5.out; omega) HBX.out.size
           have HO6 := Lib.hid (own_below HO5.out HBX.out)
           go_wp2_with (first
            | (at_next; refine wpl_next (by rfl) _ (by rfl) (fun _ _ e => by injection e) (by rfl) HIT2.out ?_ (fun k v w' h1 h2 _ _ _ _ => absurd (HFIN.out _ h1) h2); intro hfin2; clear hfin2)
            | (at_builtin; refine wpl_own (P := Tryz.prog) (by rfl) _ _ 23 (by rfl) B0 3 (.int .i64 0) 1 8 Tryz.underlying23 int_info rfl (by decide) (.slice A1 d.length c1) d.length (ints (d.map fun i : Nat => (i : Int))) (by rfl) HO6.out ⟨wr.heap.size, 0, none⟩ 1 1 [.int .i64 (k : Int)] (by rfl) (by rfl) (new_int wr (k : Int)) (int_one (k : Int)) b3' b4' HBZ.out ?_; intro v7 w7 ho7 hg7 hn7; obtain ⟨A7, c7, rfl⟩ := own_form ho7))
           go_roundw
           case rel =>
            have hlen7 : (d ++ [k]).length = d.length + 1 := by simp
            have hjl : js = left n (d ++ [k]) := by rw [← HJS.out]; exact left_erase
            have hjn : js.length + 1 = (left n d).length := by
             rw [← HJS.out, List.length_erase_of_mem HKI.out, HLen.out]
             omega
            refine ⟨d ++ [k], J2, ?_, ?_, ?_, ?_, ?_, ?_, ?_⟩
            ·rw [hlen7, show ints ((d ++ [k]).map fun i : Nat => (i : Int)) = ints (d.map fun i : Nat => (i : Int)) ++ [.int .i64 (k : Int)] by simp [ints]]
             exact ho7
            ·rw [← hjl]
             refine (HM5.out.below HBX.out).kept_o hg7 fun r hr => ?_
             have h1 := (HO5.out.lt r hr).1
             exact ⟨by omega, fun i hi => by have := HJB.out i hi; omega⟩
            ·rw [← hjl]
             refine HSd.out.step (fun i hi => List.mem_of_mem_erase (by rw [HJS.out]; exact hi)) (fun i hi a => ?_) (fun i hi a ha => ?_)
             ·rw [HJ5.out i hi a]
              have h1 : ((i : Nat) : Int) ∈ done := HFIN.out _ (List.mem_map.2 ⟨i, hi, rfl⟩)
              by_cases q : (k : Int) = a <;> simp [q, h1]
             ·have h1 := ha.1
              have hil : i < l.length := by rw [HLL.out]; exact (mem_left.1 hi).1
              rw [List.getD_eq_getElem?_getD, List.getElem?_map, List.getElem?_eq_getElem hil] at h1
              exact (HX.out _ (List.getElem_mem hil) a h1).1
            ·rw [Hid, hlen7, ← order_step HNX.out, show n - (d.length + 1) + 1 = n - d.length by omega]
             exact HOr.out
            ·rw [Hid, hlen7, ← hjl]
             have := HN.out
             omega
            ·exact below_own (HB5.out.trans (HBX.out.mono HB5.out.size)) hg7 (Nat.le_trans HB5.out.size HBX.out.size) (fun g e => Nat.le_trans HBASE.out (HO5.out.lt g e).1)
            ·exact Nat.le_trans HBZ.out hg7.size
           case measure => simp [lenV]; omega
          ·have HNF := Lib.hid hfin
           clear hfin
           go_wp2_with (first
            | (at_next; refine wpl_next (by rfl) _ (by rfl) (fun _ _ e => by injection e) (by rfl) HIT2.out (fun h => absurd h HNF.out) ?_; intro key v w6 hmem hnd hit6 hg6 hs6 hen; obtain ⟨j, hj, rfl, rfl⟩ := outer_mem hmem; have HJJ := Lib.hid (And.intro hj hnd); have HIT6 := Lib.hid hit6; have HM6 := Lib.hid (HM5.out.kept hg6 (by omega) (fun i hi => by have := HJB.out i hi; omega)); have HIN6 := Lib.hid (HM6.out.inner j hj); have HG6 := Lib.hid (And.intro hg6 hs6); clear hmem hnd hit6 hg6 hs6 hj)
            | (at_delete; refine wpl_delete (by rfl) _ _ _ (by rfl) (key_int Tryz.underlying3) uI (by rfl) HIN6.out (k : Int) (by rfl) ?_; intro w7 hm7 hg7; go_frame))
           go_roundg (todo js ((j : Int) :: done))
           case measure => rw [HGK.out]; exact todo_less HJJ.out.1 HJJ.out.2
           case rel =>
            have hjb := HJB.out j HJJ.out.1
            refine ⟨(j : Int) :: done, _, rfl, HIT6.out.kept hg7 (fun e => by injection e with e; omega) (fun e => HM6.out.off j HJJ.out.1 (by injection e with e; exact e.symm)), HM6.out.put HJJ.out.1 hm7 hg7, ?_, own_off (HO5.out.kept HG6.out.1 HOB.out) hg7 (.inl hjb), below_grown (below_grown HB5.out HG6.out.1 (by omega) HB5.out.size) hg7 (HM6.out.lo j HJJ.out.1) ?_, ?_⟩
            ·intro i hi a
             obtain ⟨_, _, _, _, _, _, hnd⟩ := HIN6.out
             by_cases e : i = j
             ·subst e
              simp only [if_true]
              rw [mget_mdel _ hnd, HJ5.out i hi a]
              by_cases q : (k : Int) = a <;> simp [q]
             ·simp only [e, if_false]
              rw [HJ5.out i hi a]
              have e' : ¬ (i : Int) = (j : Int) := by omega
              simp [e']
            ·have h1 := HG6.out.1.size
             have h2 := HB5.out.size
             omega
            ·have h1 := HG6.out.1.size
             have h2 := hg7.size
             have h3 := HR5.out
             exact Nat.lt_of_lt_of_le h3 (Nat.le_trans h1 h2)
        ·have hM1 : ((M : Int) == 0) = false := by simp; omega
         have HR : Hid (readyB l d k = false) := by rw [Hid, HRD.out, HMM.out]; exact decide_eq_false hM0
         go_wp2_with (at_lookup; refine wpl_lookup (by rfl) _ _ _ _ (by rfl) (key_int Tryz.underlying3) uO (zero_map _) (by rfl) HMd.out.outer (k : Int) (by rfl) ?_; simp only [HD1.out, HD2.out])
         go_round
         case rel =>
          refine ⟨k + 1, by omega, by go_num, fun j hj => ?_⟩
          by_cases e : j = k
          ·rw [e]; exact HR.out
          ·exact hno.out j (by omega)
         case measure => simp [intOf]; omega
       ·have HD1 : Hid ((mget (outerM β (left n d)) (k : Int)).getD (.map none) = .map none) := outer_no hin
        have HD2 : Hid ((mget (outerM β (left n d)) (k : Int)).isSome = false) := by rw [Hid, outer_is, decide_eq_false hin]
        have HR : Hid (readyB l d k = false) := ready_done (by
         by_cases h : k ∈ d
         ·exact h
         ·exact absurd (mem_left.2 ⟨hlt, h⟩) hin)
        clear hin
        go_wp2_with (at_lookup; refine wpl_lookup (by rfl) _ _ _ _ (by rfl) (key_int Tryz.underlying3) uO (zero_map _) (by rfl) HMd.out.outer (k : Int) (by rfl) ?_; simp only [HD1.out, HD2.out])
        go_round
        case rel =>
         refine ⟨k + 1, by omega, by go_num, fun j hj => ?_⟩
         by_cases e : j = k
         ·rw [e]; exact HR.out
         ·exact hno.out j (by omega)
        case measure => simp [intOf]; omega
      ·obtain rfl : n = k := by omega
       have hNX : nextP l d = none := next_none fun j hj => hno.out j (by rw [← HLL.out]; exact hj)
       have HE : Hid ((orderP l).length < l.length) := by rw [Hid, ← HOr.out, order_stop hNX, HLL.out]; exact hdl
       clear hno
       go_wp2_with fail
       refine bodyPost_ret (results_tmp2 rfl _ _ _) rfl ?_
       exact ⟨HBd.out, .inl ⟨HE.out, rfl⟩⟩
end
section
open Go.RowKit
open Go.Lib hiding intOf
def RetLst (l : List POp) (u : Option Nat) (w : World) (e : Ending) (w' : World) : Prop := Below w.heap.size w w' ∧
 ((listE l u ≠ 0 ∧ e = .returned (.tuple #[.slice none 0 0, .int .i64 (listE l u)])) ∨
  (listE l u = 0 ∧ ∃ A c, e = .returned (.tuple #[.slice A l.length c, .int .i64 0]) ∧ w'.ownsRow w.heap.size 3 1 (.slice A l.length c) l.length (ints ((orderP l).map fun i : Nat => (i : Int)))))
set_option maxRecDepth 100000 in
set_option maxHeartbeats 6400000 in
theorem checkList_any (L : Option Addr) (n c : Nat) (l : List POp) (u : Option Nat) (z : Int) (w : World) (hl : Recs 5 opG w L n l) (hs : ∀ o ∈ l, OpS o)
  (hone : n ≤ 1000 → ∀ (i : Nat) (W : World), i < n → Recs 5 opG W L n l → Calls Tryz.prog 78 #[.slice L n c, .int .i64 (i : Int), .int .i64 z] W fun e w' => e = .returned (.int .i64 (opE l u i)) ∧ Below W.heap.size W w') :
  Calls Tryz.prog 53 #[.slice L n c, .int .i64 z] w (RetLst l u w) := by
 have HLL := Lib.hid hl.len
 have HA := Lib.hid hl
 have HS := Lib.hid hs
 have HON := Lib.hid hone
 clear hl hs hone
 by_cases h16 : 16 < n
 ·have HE : Hid (listE l u = 5) := list_long (by rw [HLL.out]; exact h16)
  go_enter Tryz.func53, Tryz.ntmps53
  go_wp2
  refine bodyPost_ret (results_tmp2 rfl _ _ _) rfl ?_
  exact ⟨Below.refl _ _, .inl ⟨by rw [HE.out]; decide, by rw [HE.out]; rfl⟩⟩
 ·have HN16 : Hid (¬ 16 < l.length) := by rw [Hid, HLL.out]; exact h16
  go_enter Tryz.func53, Tryz.ntmps53
  go_wp2
  go_loopw [6, 7, 15] (fun _ _ i wr => ∃ k : Nat, k ≤ n ∧ i = .int .i64 (k : Int) ∧ Hid (∀ j, j < k → opE l u j = 0) ∧ Hid (Below w.heap.size w wr)) (fun _ _ i _ => n - (intOf i).toNat)
  case atStart => exact ⟨0, Nat.zero_le _, rfl, (fun j hj => by omega), Below.refl _ _⟩
  case round =>
   obtain ⟨k, hk, rfl, hz, HB⟩ := hrel
   by_cases hlt : k < n
   ·obtain ⟨q, hq⟩ : ∃ q, opE l u k = q := ⟨_, rfl⟩
    have HQ := Lib.hid hq
    have HC := HON.out (by omega) k wr hlt (HA.out.on op_mono HB.out)
    rw [hq] at HC
    have HC := Lib.hid HC
    clear hq
    by_cases h0 : q = 0
    ·subst h0
     have HZ : Hid (∀ j, j < k + 1 → opE l u j = 0) := fun j hj => by
      by_cases e : j = k
      ·rw [e]; exact HQ.out
      ·exact hz.out j (by omega)
     go_wp2_with (go_at_call 78; refine HC.out.mono ?_; rintro e w2 ⟨rfl, hb2⟩; have HB2 := Lib.hid (HB.out.trans (hb2.mono HB.out.size)); clear hb2)
     go_roundw
     case rel => exact ⟨k + 1, by omega, by go_num, HZ, HB2⟩
     case measure => simp [intOf]; omega
    ·have h0' : (q != 0) = true := by simpa using h0
     have HE : Hid (listE l u = q) := list_at HN16.out (by rw [HLL.out]; exact hlt) hz.out HQ.out h0
     have HQ0 := Lib.hid h0
     clear h0
     go_wp2_with (go_at_call 78; refine HC.out.mono ?_; rintro e w2 ⟨rfl, hb2⟩; have HB2 := Lib.hid (HB.out.trans (hb2.mono HB.out.size)); clear hb2)
     refine bodyPost_ret (results_tmp2 rfl _ _ _) rfl ?_
     exact ⟨HB2.out, .inl ⟨by rw [HE.out]; exact HQ0.out, by rw [HE.out]; rfl⟩⟩
   ·obtain rfl : n = k := by omega
    have HZ : Hid (∀ j, j < l.length → opE l u j = 0) := fun j hj => hz.out j (by rw [← HLL.out]; exact hj)
    have HAR := Lib.hid (arrange_any L n c l wr (HA.out.on op_mono HB.out) (by omega) HS.out (fun o ho a ha => by
     obtain ⟨i, hi⟩ := List.getElem?_of_mem ho
     obtain ⟨j, hj⟩ := List.getElem?_of_mem ha
     have h1 := (op_zero hi (HZ.out i (List.getElem?_eq_some_iff.1 hi).1)).2.1
     have h2 := idx_at h1 hj
     rw [HLL.out] at h2
     exact h2))
    clear hz
    by_cases hcy : (orderP l).length < l.length
    ·have HE : Hid (listE l u = 9) := list_cycle HN16.out HZ.out hcy
     have HCY := Lib.hid hcy
     clear hcy
     go_wp2_with (go_at_call 79; refine HAR.out.mono ?_; rintro e w2 ⟨hb2, ⟨_, rfl⟩ | ⟨h7, _⟩⟩; (have HB2 := Lib.hid (HB.out.trans (hb2.mono HB.out.size))); clear hb2; rotate_left; exact absurd HCY.out h7)
     refine bodyPost_ret (results_tmp2 rfl _ _ _) rfl ?_
     exact ⟨HB2.out, .inl ⟨by rw [HE.out]; decide, by rw [HE.out]; rfl⟩⟩
    ·have HE : Hid (listE l u = 0) := list_ok HN16.out HZ.out hcy
     have HCY := Lib.hid hcy
     clear hcy
     go_wp2_with (go_at_call 79; refine HAR.out.mono ?_; rintro e w2 ⟨hb2, hor⟩; obtain ⟨A7, c7, rfl, ho7⟩ := hor.resolve_left (fun h => HCY.out h.1) |>.2; have HB2 := Lib.hid (HB.out.trans (hb2.mono HB.out.size)); have HO7 := Lib.hid ho7; clear hb2 ho7 hor)
     refine bodyPost_ret (results_tmp2 rfl _ _ _) rfl ?_
     exact ⟨HB2.out, .inr ⟨HE.out, A7, c7, rfl, own_weak HO7.out HB.out.size⟩⟩
theorem checkList_some (L : Option Addr) (n c m : Nat) (l : List POp) (w : World) (hl : Recs 5 opG w L n l) (hc : n ≤ c) (hs : ∀ o ∈ l, OpS o) :
  Calls Tryz.prog 53 #[.slice L n c, .int .i64 (m : Int)] w (RetLst l (some m) w) :=
 checkList_any L n c l (some m) (m : Int) w hl hs fun hn i W hi hr => checkOne_some L n c i m l W hr hc hn hi hs
end
end Go.Proofs.YtiibocdmlfedkaaGreatDoor
