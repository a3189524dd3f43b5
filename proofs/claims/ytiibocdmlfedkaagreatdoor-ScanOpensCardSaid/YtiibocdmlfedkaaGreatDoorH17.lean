/- Parts of the proof. -/
import Derived.Deep.CutBlock
import Derived.Deep.DeepCutAuto
import Derived.Deep.DeepFit
import Derived.Deep.LoopGhost
import Derived.Deep.RegionHeld3
import Derived.Deep.RegionWith
import Derived.Laws.StructEq
import Derived.Test.YtiibocdmlfedkaaGreatDoorH16
namespace Go.Proofs.YtiibocdmlfedkaaGreatDoor
section
open Go.RowKit
def Fresh (B : Nat) (A : Option Addr) : Prop := ∀ a, A = some a → B ≤ a.block
theorem norm_nat (A : Option Addr) (n c v : Nat) (w : World) (h : NatA w A n c v) (hn : n ≤ 1000000) : Calls Tryz.prog 220 #[.slice A n c] w (RetNF v w) := by
 obtain ⟨l, h1, h2, rfl, h4⟩ := h
 exact norm_any A n c l w h1 h2 h4 hn
def RetZ (i : Int) (w : World) (e : Ending) (w' : World) : Prop :=
 ∃ A n c, e = .returned (.agg #[.bool (ineg i), .slice A n c]) ∧ Sl w' w'.heap.size A n (u32s (limbs i.natAbs)) ∧ n ≤ c ∧ Below w.heap.size w w'
theorem bcell {W w1 : World} (hb : Below W.heap.size W w1) : (∀ b o, b < W.heap.size → w1.cell? ⟨b, o, none⟩ = W.cell? ⟨b, o, none⟩) ∧ (∀ b o, b < W.heap.size → w1.frozen? ⟨b, o, none⟩ = W.frozen? ⟨b, o, none⟩) :=
 ⟨fun b o h => hb.cell (p := ⟨b, o, none⟩) h, fun b o h => hb.frozen (p := ⟨b, o, none⟩) h⟩
theorem Sl.setFar {w : World} {B n : Nat} {A : Option Addr} {xs : List Value} (h : Sl w B A n xs) {p : Addr} (hp : ∀ a, A = some a → a.block ≠ p.block) (u : Value) : Sl (w.setCell p u) B A n xs :=
 ⟨h.1, fun hn => by
  obtain ⟨b, off, e, hb, hc⟩ := h.2 hn
  refine ⟨b, off, e, hb, fun j x hx => ?_⟩
  exact (World.cell?_setCell_other w p ⟨b, off + j, none⟩ u (fun e2 => hp _ e (by rw [e2]))).trans (hc j x hx)⟩
theorem Sl.set_ {w : World} {n : Nat} {A : Option Addr} {xs : List Value} (h : Sl w w.heap.size A n xs) {p : Addr} (hp : Fresh (p.block + 1) A) (u : Value) : Sl (w.setCell p u) (w.setCell p u).heap.size A n xs := by
 rw [World.size_setCell]
 exact h.setFar (fun a e => by have := hp a e; omega) u
theorem fresh_some {B g o : Nat} (h : B ≤ g) : Fresh B (some ⟨g, o, none⟩) := fun a e => by
 injection e with e
 subst e
 exact h
set_option maxRecDepth 100000 in
set_option maxHeartbeats 1600000 in
theorem signed_any (neg : Bool) (A : Option Addr) (n c m : Nat) (w : World) (ha : NatA w A n c m) (hn : n ≤ 1000000) :
  Calls Tryz.prog 202 #[.bool neg, .slice A n c] w (RetZ (sgn neg m) w) := by
 have HA := Lib.hid ha; clear ha
 cases neg
 ·go_enter Tryz.func202, Tryz.ntmps202
  go_wp2_with (go_at_call 220; refine (norm_nat A n c m _ (HA.out.on ((Below.refl _ _).alloc (Nat.le_refl _) _)) hn).mono ?_; rintro e w1 ⟨g, k, rfl, hg, hs, hb⟩; obtain ⟨hcl, hfr⟩ := bcell hb)
  refine bodyPost_ret (v := .agg #[.bool false, .slice (some ⟨g, 0, none⟩) k k]) (by simp [results, Tryz.results202, go_sem, hcl]) rfl ?_
  have hg2 : w.heap.size + 1 ≤ g := by simpa using hg
  exact ⟨some ⟨g, 0, none⟩, k, k, by rw [ineg_sgn]; rfl, by rw [sgn_abs]; exact (hs.set_ (p := ⟨w.heap.size, 0, none⟩) (fresh_some hg2) _).set_ (p := ⟨w.heap.size, 1, none⟩) (fresh_some hg2) _, Nat.le_refl _, ((((Below.refl _ _).alloc (Nat.le_refl _) _).trans (hb.mono (by simp))).setCell (Nat.le_refl _) _).setCell (Nat.le_refl _) _⟩
 ·go_enter Tryz.func202, Tryz.ntmps202
  go_wp2_with (go_at_call 220; refine (norm_nat A n c m _ (HA.out.on ((Below.refl _ _).alloc (Nat.le_refl _) _)) hn).mono ?_; rintro e w1 ⟨g, k, rfl, hg, hs, hb⟩; obtain ⟨hcl, hfr⟩ := bcell hb)
  refine bodyPost_ret (v := .agg #[.bool (decide (0 < k)), .slice (some ⟨g, 0, none⟩) k k]) (by simp [results, Tryz.results202, go_sem, hcl]) rfl ?_
  have hg2 : w.heap.size + 1 ≤ g := by simpa using hg
  have hk : decide (0 < k) = decide (0 < m) := by
   have h1 : k = nl m := hs.ulen.symm
   have h2 := eq_zero_of_nl (v := m)
   by_cases h0 : m = 0
   ·subst h0
    rw [nl_zero] at h1
    subst h1
    rfl
   ·have := nl_pos h0
    rw [decide_eq_decide]
    omega
  exact ⟨some ⟨g, 0, none⟩, k, k, by rw [ineg_sgn, Bool.true_and, hk], by rw [sgn_abs]; exact (hs.set_ (p := ⟨w.heap.size, 0, none⟩) (fresh_some hg2) _).set_ (p := ⟨w.heap.size, 1, none⟩) (fresh_some hg2) _, Nat.le_refl _, ((((Below.refl _ _).alloc (Nat.le_refl _) _).trans (hb.mono (by simp))).setCell (Nat.le_refl _) _).setCell (Nat.le_refl _) _⟩
def NoU (w : World) (r : Nat) : Prop := ∀ (o : Nat) (x : Int), w.cell? ⟨r, o, none⟩ ≠ some (.int .u32 x)
theorem NoU.new (w : World) (cs : Array Value) (t : TypeId) (h : ∀ v ∈ cs.toList, ∀ x, v ≠ .int .u32 x) : NoU (w.alloc (.cells cs t)) w.heap.size := by
 intro o x e
 rw [World.cell?_alloc_new] at e
 have hm : Value.int .u32 x ∈ cs := Array.mem_of_getElem? e
 exact h _ (by simpa using hm) x rfl
theorem NoU.below {w w' : World} {r : Nat} (h : NoU w r) (hb : Below w.heap.size w w') (hr : r < w.heap.size) : NoU w' r := fun o x e => h o x (by rw [← hb.cell (p := ⟨r, o, none⟩) hr]; exact e)
theorem NoU.alloc {w : World} {r : Nat} (h : NoU w r) (hr : r < w.heap.size) (o : Obj) : NoU (w.alloc o) r := h.below ((Below.refl _ _).alloc (Nat.le_refl _) _) hr
theorem NoU.set {w : World} {r : Nat} (h : NoU w r) (p : Addr) {u : Value} (hu : ∀ x, u ≠ .int .u32 x) : NoU (w.setCell p u) r := by
 intro o x e
 by_cases hp : p = ⟨r, o, none⟩
 ·subst hp
  simp only [World.setCell, World.cell?, Array.getElem?_modify, if_true] at e
  cases hh : w.heap[r]? with
  | none => simp [hh] at e
  | some ob =>
   cases ob with
   | cells c t f =>
    simp only [hh, Option.map_some, Option.isSome_none, Bool.false_eq_true, if_false] at e
    rw [Array.getElem?_setIfInBounds] at e
    simp only [if_true] at e
    split at e
    ·exact hu x (Option.some.inj e)
    ·cases e
   | _ => simp [hh] at e
 ·rw [World.cell?_setCell_other _ _ _ _ hp] at e
  exact h o x e
theorem Sl.no {w : World} {n r : Nat} {A : Option Addr} {l : List Nat} (h : Sl w w.heap.size A n (u32s l)) (hr : NoU w r) (k : Nat) (u : Value) : Sl (w.setCell ⟨r, k, none⟩ u) (w.setCell ⟨r, k, none⟩ u).heap.size A n (u32s l) := by
 rw [World.size_setCell]
 refine ⟨h.1, fun hn => ?_⟩
 obtain ⟨b, off, e, hb, hc⟩ := h.2 hn
 refine ⟨b, off, e, hb, fun j x hx => ?_⟩
 have h1 := hc j x hx
 simp only [u32s, List.getElem?_map, Option.map_eq_some_iff] at hx
 obtain ⟨y, _, rfl⟩ := hx
 by_cases hp : (⟨r, k, none⟩ : Addr) = ⟨b, off + j, none⟩
 ·exfalso
  injection hp with e1 e2
  subst e1
  exact hr _ _ h1
 ·rw [World.cell?_setCell_other _ _ _ _ hp]
  exact h1
theorem int_end {i : Int} {w W w1 : World} {r n c : Nat} {A : Option Addr} (hs : Sl w1 w1.heap.size A n (u32s (limbs i.natAbs))) (hc : n ≤ c) (hN : NoU w1 r) (hB : Below w.heap.size w W) (hb : Below W.heap.size W w1) (hr : w.heap.size ≤ r := by simp) :
  RetZ i w (.returned (.agg #[.bool (ineg i), .slice A n c])) ((w1.setCell ⟨r, 0, none⟩ (.bool (ineg i))).setCell ⟨r, 1, none⟩ (.slice A n c)) := by
 refine ⟨A, n, c, rfl, (hs.no hN 0 _).no (hN.set _ (by simp)) 1 _, hc, ?_⟩
 exact ((hB.trans (hb.mono hB.size)).setCell (p := ⟨r, 0, none⟩) hr _).setCell (p := ⟨r, 1, none⟩) hr _
set_option maxRecDepth 100000 in
set_option maxHeartbeats 1600000 in
theorem inorm_any (neg : Bool) (A : Option Addr) (n c m : Nat) (w : World) (ha : NatA w A n c m) (hn : n ≤ 1000000) :
  Calls Tryz.prog 200 #[.agg #[.bool neg, .slice A n c]] w (RetZ (sgn neg m) w) := by
 have HA := Lib.hid ha; clear ha
 go_enter Tryz.func200, Tryz.ntmps200
 go_wp2_with fail
 have hB : Below w.heap.size w ((w.alloc (.cells #[.bool neg, .slice A n c] 123)).alloc (.cells #[.bool false, .slice none 0 0] 123)) := ((Below.refl _ _).alloc (Nat.le_refl _) _).alloc (by simp) _
 have hN := NoU.new (w.alloc (.cells #[.bool neg, .slice A n c] 123)) #[.bool false, .slice none 0 0] 123 (by simp)
 refine (signed_any neg A n c m _ (HA.out.on hB) hn).mono ?_
 rintro e w1 ⟨A1, n1, c1, rfl, hs, hc1, hb⟩
 have HE := Lib.hid (int_end hs hc1 (hN.below hb (by simp)) hB hb)
 obtain ⟨hcl, hfr⟩ := bcell hb
 clear hs hN hB
 go_wp2_with fail
 refine bodyPost_ret (v := .agg #[.bool (ineg (sgn neg m)), .slice A1 n1 c1]) (by simp [results, Tryz.results200, go_sem, hcl]) rfl ?_
 simpa using HE.out
end
section
open Go.RowKit
def box2 (w : World) (p q r : Array Value) : World := ((w.alloc (.cells p 123)).alloc (.cells q 123)).alloc (.cells r 123)
theorem box2_below (w : World) (p q r : Array Value) : Below w.heap.size w (box2 w p q r) := (((Below.refl _ _).alloc (Nat.le_refl _) _).alloc (by simp) _).alloc (by simp; omega) _
theorem box2_no (w : World) (p q : Array Value) : NoU (box2 w p q #[.bool false, .slice none 0 0]) (w.heap.size + 1 + 1) := by
 have h := NoU.new ((w.alloc (.cells p 123)).alloc (.cells q 123)) #[.bool false, .slice none 0 0] 123 (by simp)
 simpa [box2] using h
theorem sgn_mul' (m n : Bool) (a b : Nat) : sgn (!m == n) (a * b) = sgn m a * sgn n b := by rw [← sgn_mul]; cases m <;> cases n <;> rfl
set_option maxRecDepth 100000 in
set_option maxHeartbeats 3200000 in
theorem imul_any (neg : Bool) (A : Option Addr) (n c x : Nat) (neg2 : Bool) (B : Option Addr) (m d y : Nat) (w : World) (ha : NatA w A n c x) (hb : NatA w B m d y) (hn : n ≤ 400000) (hm : m ≤ 400000) :
  Calls Tryz.prog 174 #[.agg #[.bool neg, .slice A n c], .agg #[.bool neg2, .slice B m d]] w (RetZ (sgn neg x * sgn neg2 y) w) := by
 have hxy : nl (x * y) ≤ 800000 := by
  have h1 := nl_mul x y
  have h2 := ha.trimmed.1
  have h3 := hb.trimmed.1
  omega
 have HA := Lib.hid (And.intro ha hb); clear ha hb
 go_enter Tryz.func174, Tryz.ntmps174
 go_wp2_with fail
 have hB := box2_below w #[.bool neg, .slice A n c] #[.bool neg2, .slice B m d] #[.bool false, .slice none 0 0]
 have hl0 : w.heap.size < w.heap.size + 1 + 1 + 1 := by omega
 have hl1 : w.heap.size < w.heap.size + 1 + 1 := by omega
 have hq0 : ¬ w.heap.size + 1 + 1 = w.heap.size := by omega
 have hq1 : ¬ w.heap.size = w.heap.size + 1 + 1 := by omega
 go_region_held3 (fun w' => w'.cell? ⟨w.heap.size, 0, none⟩ = some (.bool neg) ∧ w'.cell? ⟨w.heap.size, 1, none⟩ = some (.slice A n c) ∧ w'.cell? ⟨w.heap.size + 1, 0, none⟩ = some (.bool neg2) ∧ w'.cell? ⟨w.heap.size + 1, 1, none⟩ = some (.slice B m d))
  (go_keep)
  (first
  | (go_at_call 196; go_must ((refine (mul_any A B n m c d x y _ (by exact HA.out.1.on hB.drew) (by exact HA.out.2.on hB.drew) (by omega) (by omega)).mono ?_); rintro e w1 ⟨A1, n1, c1, rfl, h1, hc1, hb1⟩; obtain ⟨hcl, hfr⟩ := bcell hb1; have hz1 : w.heap.size + 1 + 1 < w1.heap.size := (by have := hb1.size; simp at this; omega); have hz2 : w.heap.size + 1 < w1.heap.size := (by omega); have hz3 : w.heap.size < w1.heap.size := (by omega)))
  | (go_at_call 202; go_must ((refine (signed_any _ A1 n1 c1 (x * y) _ (by exact .of_limbs h1 hc1) (by rw [← h1.ulen]; exact Nat.le_trans hxy (by omega))).mono ?_); rintro e w2 ⟨A2, n2, c2, rfl, h2, hc2, hb2⟩; obtain ⟨hcl2, hfr2⟩ := bcell hb2)))
 have k0 : w2.cell? ⟨w.heap.size + 1 + 1, 0, none⟩ = some (.bool false) := by rw [hcl2 _ _ hz1, hcl _ _ (by simp)]; simp [go_sem]
 have k1 : w2.cell? ⟨w.heap.size + 1 + 1, 1, none⟩ = some (.slice none 0 0) := by rw [hcl2 _ _ hz1, hcl _ _ (by simp)]; simp [go_sem]
 have hN2 : NoU w2 (w.heap.size + 1 + 1) := by
  have h3 : NoU w1 (w.heap.size + 1 + 1) := NoU.below (w := box2 w #[.bool neg, .slice A n c] #[.bool neg2, .slice B m d] #[.bool false, .slice none 0 0]) (box2_no w _ _) ⟨hb1.os, hb1.tape, hb1.output, hb1.size, hb1.block⟩ (by simp [box2])
  exact h3.below hb2 hz1
 have HE := Lib.hid (int_end (i := sgn neg x * sgn neg2 y) (by rw [← sgn_mul']; exact h2) hc2 hN2 (w := w) (hB.trans (Below.mono ⟨hb1.os, hb1.tape, hb1.output, hb1.size, hb1.block⟩ hB.size)) hb2 (by omega))
 clear hN2 hcl hcl2 hfr2 hfr
 go_wp2_with fail
 refine bodyPost_ret (v := .agg #[.bool (ineg (sgn neg x * sgn neg2 y)), .slice A2 n2 c2]) (by simp [results, Tryz.results174, go_sem, k0, k1, sgn_mul']) rfl ?_
 rw [sgn_mul']
 exact HE.out
end
section
open Go.RowKit
def RetC (v : Int) (w : World) (e : Ending) (w' : World) : Prop := e = .returned (.int .i64 v) ∧ Below w.heap.size w w'
theorem ineg_true {i : Int} (h : ineg i = true) : i < 0 := by simpa [ineg] using h
theorem ineg_false {i : Int} (h : ineg i = false) : 0 ≤ i := by
 have : ¬ i < 0 := by simpa [ineg] using h
 omega
theorem cmpI_ff {i j : Int} (hi : 0 ≤ i) (hj : 0 ≤ j) : cmpI i j = cmpN i.natAbs j.natAbs := by
 unfold cmpI cmpN
 repeat' split
 all_goals omega
theorem cmpI_tt {i j : Int} (hi : i < 0) (hj : j < 0) : cmpI i j = cmpN j.natAbs i.natAbs := by
 unfold cmpI cmpN
 repeat' split
 all_goals omega
theorem cmpI_lt {i j : Int} (h : i < j) : cmpI i j = -1 := by rw [cmpI, if_pos h]
theorem cmpI_gt {i j : Int} (h : j < i) : cmpI i j = 1 := by rw [cmpI, if_neg (by omega), if_pos h]
def cmpCut (i j : Int) (w : World) (wx : World) : Prop :=
 ∃ (A : Option Addr) (n c : Nat) (B : Option Addr) (m d : Nat), wx.cell? ⟨w.heap.size, 0, none⟩ = some (.bool (ineg i)) ∧ wx.cell? ⟨w.heap.size, 1, none⟩ = some (.slice A n c) ∧ wx.cell? ⟨w.heap.size + 1, 0, none⟩ = some (.bool (ineg j)) ∧ wx.cell? ⟨w.heap.size + 1, 1, none⟩ = some (.slice B m d) ∧
  Sl wx wx.heap.size A n (u32s (limbs i.natAbs)) ∧ n ≤ c ∧ Sl wx wx.heap.size B m (u32s (limbs j.natAbs)) ∧ m ≤ d ∧ Below w.heap.size w wx
theorem cmp_end {i j : Int} {w w2 : World} {A B : Option Addr} {n c m d : Nat} {u0 u1 u2 u3 : Value} (h1 : Sl w2 w2.heap.size A n (u32s (limbs i.natAbs))) (h2 : Sl w2 w2.heap.size B m (u32s (limbs j.natAbs))) (hc : n ≤ c) (hd : m ≤ d) (hN0 : NoU w2 w.heap.size) (hN1 : NoU w2 (w.heap.size + 1)) (hb : Below w.heap.size w w2)
  (k0 : w2.cell? ⟨w.heap.size, 0, none⟩ = some u0) (k1 : w2.cell? ⟨w.heap.size, 1, none⟩ = some u1) (k2 : w2.cell? ⟨w.heap.size + 1, 0, none⟩ = some u2) (k3 : w2.cell? ⟨w.heap.size + 1, 1, none⟩ = some u3) :
  cmpCut i j w ((((w2.setCell ⟨w.heap.size, 0, none⟩ (.bool (ineg i))).setCell ⟨w.heap.size, 1, none⟩ (.slice A n c)).setCell ⟨w.heap.size + 1, 0, none⟩ (.bool (ineg j))).setCell ⟨w.heap.size + 1, 1, none⟩ (.slice B m d)) := by
 refine ⟨A, n, c, B, m, d, by simp [go_sem, k0], by simp [go_sem, k1], by simp [go_sem, k2], by simp [go_sem, k3], ?_, hc, ?_, hd, ?_⟩
 ·exact (((h1.no hN0 0 _).no (hN0.set _ (by simp)) 1 _).no ((hN1.set _ (by simp)).set _ (by simp)) 0 _).no (((hN1.set _ (by simp)).set _ (by simp)).set _ (by simp)) 1 _
 ·exact (((h2.no hN0 0 _).no (hN0.set _ (by simp)) 1 _).no ((hN1.set _ (by simp)).set _ (by simp)) 0 _).no (((hN1.set _ (by simp)).set _ (by simp)).set _ (by simp)) 1 _
 ·exact (((hb.setCell (p := ⟨w.heap.size, 0, none⟩) (Nat.le_refl _) _).setCell (p := ⟨w.heap.size, 1, none⟩) (Nat.le_refl _) _).setCell (p := ⟨w.heap.size + 1, 0, none⟩) (Nat.le_succ _) _).setCell (p := ⟨w.heap.size + 1, 1, none⟩) (Nat.le_succ _) _
set_option maxRecDepth 100000 in
set_option maxHeartbeats 3200000 in
theorem icmp_any (neg : Bool) (A : Option Addr) (n c x : Nat) (neg2 : Bool) (B : Option Addr) (m d y : Nat) (w : World) (ha : NatA w A n c x) (hb : NatA w B m d y) (hn : n ≤ 1000000) (hm : m ≤ 1000000) :
  Calls Tryz.prog 173 #[.agg #[.bool neg, .slice A n c], .agg #[.bool neg2, .slice B m d]] w (RetC (cmpI (sgn neg x) (sgn neg2 y)) w) := by
 have t1 := ha.trimmed.1
 have t2 := hb.trimmed.1
 have HA := Lib.hid (And.intro ha hb); clear ha hb
 have hB : Below w.heap.size w ((w.alloc (.cells #[.bool neg, .slice A n c] 123)).alloc (.cells #[.bool neg2, .slice B m d] 123)) := ((Below.refl _ _).alloc (Nat.le_refl _) _).alloc (by simp) _
 have hl1 : w.heap.size < w.heap.size + 1 + 1 := by omega
 have hq0 : ¬ w.heap.size + 1 = w.heap.size := by omega
 go_enter Tryz.func173, Tryz.ntmps173
 go_upto_region 1 with fail
 go_cut [4] (fun s4 wx => s4 = .int .i64 0 ∧ cmpCut (sgn neg x) (sgn neg2 y) w wx)
 case first =>
  go_region_with (first
   | (go_at_call_of 200 (Value.agg #[.bool neg, .slice A n c]); go_must ((refine (inorm_any neg A n c x _ (by exact HA.out.1.on hB.drew) hn).mono ?_); rintro e w1 ⟨A1, n1, c1, rfl, h1, hc1, hb1⟩; obtain ⟨hcl, hfr⟩ := bcell hb1; have hz1 : w.heap.size + 1 < w1.heap.size := (by have := hb1.size; simp at this; omega); have hz2 : w.heap.size < w1.heap.size := (by omega)))
   | (go_at_call 200; go_must ((refine (inorm_any neg2 B m d y _ (by exact (HA.out.2.on hB.drew).on hb1) hm).mono ?_); rintro e w2 ⟨A2, n2, c2, rfl, h2, hc2, hb2⟩; obtain ⟨hcl2, hfr2⟩ := bcell hb2)))
  all_goals
   have k00 : w2.cell? ⟨w.heap.size, 0, none⟩ = some (.bool neg) := by rw [hcl2 _ _ hz2, hcl _ _ (by simp; omega)]; simp [go_sem]
   have k01 : w2.cell? ⟨w.heap.size, 1, none⟩ = some (.slice A n c) := by rw [hcl2 _ _ hz2, hcl _ _ (by simp; omega)]; simp [go_sem]
   have k10 : w2.cell? ⟨w.heap.size + 1, 0, none⟩ = some (.bool neg2) := by rw [hcl2 _ _ hz1, hcl _ _ (by simp)]; simp [go_sem]
   have k11 : w2.cell? ⟨w.heap.size + 1, 1, none⟩ = some (.slice B m d) := by rw [hcl2 _ _ hz1, hcl _ _ (by simp)]; simp [go_sem]
   have hb1' : Below w.heap.size w w1 := hB.trans (Below.mono ⟨hb1.os, hb1.tape, hb1.output, hb1.size, hb1.block⟩ hB.size)
   have hN0 : NoU w2 w.heap.size := NoU.below (w := w1) (NoU.below (w := (w.alloc (.cells #[.bool neg, .slice A n c] 123)).alloc (.cells #[.bool neg2, .slice B m d] 123)) ((NoU.new w _ _ (by simp)).alloc (by simp) _) ⟨hb1.os, hb1.tape, hb1.output, hb1.size, hb1.block⟩ (by simp; omega)) hb2 hz2
   have hN1 : NoU w2 (w.heap.size + 1) := NoU.below (w := w1) (NoU.below (w := (w.alloc (.cells #[.bool neg, .slice A n c] 123)).alloc (.cells #[.bool neg2, .slice B m d] 123)) (by simpa using NoU.new (w.alloc (.cells #[.bool neg, .slice A n c] 123)) #[.bool neg2, .slice B m d] 123 (by simp)) ⟨hb1.os, hb1.tape, hb1.output, hb1.size, hb1.block⟩ (by simp)) hb2 hz1
   have HE := Lib.hid (cmp_end (h1.on hb2) h2 hc1 hc2 hN0 hN1 (hb1'.trans (hb2.mono hb1'.size)) k00 k01 k10 k11)
   clear hN0 hN1 hb1'
   go_wp2_with fail
   go_meet
   exact ⟨rfl, HE.out⟩
 case rest =>
  obtain ⟨rfl, A1, n1, c1, B1, m1, d1, k0, k1, k2, k3, hs1, hc1, hs2, hd1, hbel⟩ := hcut
  have l1 : n1 ≤ 1000000 := by
   have h := hs1.ulen
   rw [sgn_abs] at h
   have : n1 = nl x := h.symm
   omega
  have l2 : m1 ≤ 1000000 := by
   have h := hs2.ulen
   rw [sgn_abs] at h
   have : m1 = nl y := h.symm
   omega
  have HS := Lib.hid (And.intro hs1 hs2)
  clear hs1 hs2 hB
  generalize hi : sgn neg x = i at *
  generalize hj : sgn neg2 y = j at *
  clear hi hj
  cases hp : ineg i <;> cases hq : ineg j
  ·have HE := Lib.hid (cmpI_ff (ineg_false hp) (ineg_false hq))
   rw [hp] at k0
   rw [hq] at k2
   clear hp hq
   go_wp2_with (go_at_call 169; go_must ((refine (cmp_any A1 B1 n1 m1 c1 d1 _ _ _ (.of_limbs HS.out.1 hc1) (.of_limbs HS.out.2 hd1) l1 l2).mono ?_); rintro e w' ⟨rfl, nq, rfl⟩))
   go_ret
   exact ⟨by rw [HE.out]; rfl, below_drewN hbel nq⟩
  ·have HE := Lib.hid (cmpI_gt (i := i) (j := j) (by have := ineg_false hp; have := ineg_true hq; omega))
   rw [hp] at k0
   rw [hq] at k2
   clear hp hq
   go_wp2_with fail
   go_ret
   exact ⟨by rw [HE.out]; rfl, hbel⟩
  ·have HE := Lib.hid (cmpI_lt (i := i) (j := j) (by have := ineg_true hp; have := ineg_false hq; omega))
   rw [hp] at k0
   rw [hq] at k2
   clear hp hq
   go_wp2_with fail
   go_ret
   exact ⟨by rw [HE.out]; rfl, hbel⟩
  ·have HE := Lib.hid (cmpI_tt (ineg_true hp) (ineg_true hq))
   rw [hp] at k0
   rw [hq] at k2
   clear hp hq
   go_wp2_with (go_at_call 169; go_must ((refine (cmp_any B1 A1 m1 n1 d1 c1 _ _ _ (.of_limbs HS.out.2 hd1) (.of_limbs HS.out.1 hc1) l2 l1).mono ?_); rintro e w' ⟨rfl, nq, rfl⟩))
   go_ret
   exact ⟨by rw [HE.out]; rfl, below_drewN hbel nq⟩
end
section
open Go.RowKit
def RetQ (q : Rat) (w : World) (e : Ending) (w' : World) : Prop :=
 ∃ A n c B m d, e = .returned (.agg #[.bool (ineg q.num), .slice A n c, .slice B m d]) ∧ Sl w' w'.heap.size A n (u32s (limbs q.num.natAbs)) ∧ n ≤ c ∧ Sl w' w'.heap.size B m (u32s (limbs q.den)) ∧ m ≤ d ∧ Below w.heap.size w w'
def RetV (q : Rat) (k : Nat) (w : World) (e : Ending) (w' : World) : Prop :=
 ∃ neg A n c B m d x y, e = .returned (.agg #[.bool neg, .slice A n c, .slice B m d]) ∧ NatA w' A n c x ∧ NatA w' B m d y ∧ y ≠ 0 ∧ rv (sgn neg x) y = q ∧ n ≤ k ∧ m ≤ k ∧ Below w.heap.size w w'
theorem NoU.blk {w : World} {g : Nat} {t : TypeId} {cs : Array Value} (h : Blk w g t cs) (hc : ∀ v ∈ cs.toList, ∀ x, v ≠ .int .u32 x) : NoU w g := by
 intro o x e
 rw [h.cell] at e
 have hm : Value.int .u32 x ∈ cs := Array.mem_of_getElem? e
 exact hc _ (by simpa using hm) x rfl
theorem Sl.no3 {w : World} {n r : Nat} {A : Option Addr} {l : List Nat} (h : Sl w w.heap.size A n (u32s l)) (hr : NoU w r) {u0 u1 : Value} (u2 : Value) (h0 : ∀ x, u0 ≠ .int .u32 x := by simp) (h1 : ∀ x, u1 ≠ .int .u32 x := by simp) :
  Sl (((w.setCell ⟨r, 0, none⟩ u0).setCell ⟨r, 1, none⟩ u1).setCell ⟨r, 2, none⟩ u2) (((w.setCell ⟨r, 0, none⟩ u0).setCell ⟨r, 1, none⟩ u1).setCell ⟨r, 2, none⟩ u2).heap.size A n (u32s l) :=
 ((h.no hr 0 _).no (hr.set _ h0) 1 _).no ((hr.set _ h0).set _ h1) 2 _
theorem NatA.no3 {w : World} {n c v r : Nat} {A : Option Addr} (h : NatA w A n c v) (hr : NoU w r) {u0 u1 : Value} (u2 : Value) (h0 : ∀ x, u0 ≠ .int .u32 x := by simp) (h1 : ∀ x, u1 ≠ .int .u32 x := by simp) :
  NatA (((w.setCell ⟨r, 0, none⟩ u0).setCell ⟨r, 1, none⟩ u1).setCell ⟨r, 2, none⟩ u2) A n c v := by
 obtain ⟨l, g1, g2, g3, g4⟩ := h
 exact ⟨l, g1.no3 hr u2 h0 h1, g2, g3, g4⟩
theorem below3 {B : Nat} {a w : World} (h : Below B a w) {r : Nat} (hr : B ≤ r) (u0 u1 u2 : Value) : Below B a (((w.setCell ⟨r, 0, none⟩ u0).setCell ⟨r, 1, none⟩ u1).setCell ⟨r, 2, none⟩ u2) :=
 ((h.setCell (p := ⟨r, 0, none⟩) hr _).setCell (p := ⟨r, 1, none⟩) hr _).setCell (p := ⟨r, 2, none⟩) hr _
theorem zero_any (A : Option Addr) (n c x : Nat) (w : World) (ha : NatA w A n c x) (hn : n ≤ 1000000) :
  Calls Tryz.prog 201 #[.slice A n c] w fun e w' => e = .returned (.bool (decide (x = 0))) ∧ ∃ k, w' = w.drewN k := by
 have hc : (cmpN x 0 == 0) = decide (x = 0) := by
  by_cases h : x = 0
  ·subst h; rfl
  ·rw [cmpN_gt (by omega)]
   simp [h]
 have HC := Lib.hid hc; clear hc
 go_enter Tryz.func201, Tryz.ntmps201
 go_wp2_with (go_at_call 169; refine (cmp_any A none n 0 c 0 x 0 _ ha (NatA.nil w none 0) hn (by omega)).mono ?_; rintro e w' ⟨rfl, nq, rfl⟩; rw [show cmpN x 0 = cmpN x 0 from rfl])
 go_ret
 exact ⟨by rw [← HC.out]; rfl, nq, rfl⟩
set_option maxRecDepth 100000 in
theorem positive_any (A : Option Addr) (n c : Nat) (w : World) :
  Calls Tryz.prog 175 #[.slice A n c] w fun e w' => e = .returned (.agg #[.bool false, .slice A n c]) ∧ Below w.heap.size w w' := by
 go_enter Tryz.func175, Tryz.ntmps175
 go_wp2
 refine bodyPost_ret (v := .agg #[.bool false, .slice A n c]) (by simp [results, Tryz.results175, go_sem]) rfl ⟨rfl, ?_⟩
 exact (Below.refl _ _).alloc (Nat.le_refl _) _
set_option maxRecDepth 100000 in
set_option maxHeartbeats 1600000 in
theorem value_any (neg : Bool) (A : Option Addr) (n c x : Nat) (B : Option Addr) (m d y : Nat) (w : World) (ha : NatA w A n c x) (hb : NatA w B m d y) (k : Nat) (hn : n ≤ k) (hm : m ≤ k) (hk : 1 ≤ k) (hk2 : k ≤ 1000000) :
  Calls Tryz.prog 172 #[.agg #[.bool neg, .slice A n c, .slice B m d]] w (RetV (rv (sgn neg x) y) k w) := by
 have HA := Lib.hid (And.intro ha hb); clear ha hb
 have hB : Below w.heap.size w ((w.alloc (.cells #[.bool neg, .slice A n c, .slice B m d] 125)).alloc (.cells #[.bool false, .slice none 0 0, .slice none 0 0] 125)) := ((Below.refl _ _).alloc (Nat.le_refl _) _).alloc (by simp) _
 by_cases h0 : y = 0
 ·have hd : decide (y = 0) = true := by simpa using h0
  go_enter Tryz.func172, Tryz.ntmps172
  go_wp2_with (first
   | (go_at_call 201; go_must ((refine (zero_any B m d y _ (HA.out.2.on hB) (by omega)).mono ?_); rintro e w' ⟨rfl, nq, rfl⟩; rw [hd]))
   | (go_at_call 170; go_must ((refine (of_any 1 _ (by omega)).mono ?_); rintro e w1 ⟨A1, n1, c1, rfl, h1, hc1, hb1⟩; obtain ⟨hcl, hfr⟩ := bcell hb1)))
  refine bodyPost_ret (v := .agg #[.bool false, .slice none 0 0, .slice A1 n1 c1]) (by simp [results, Tryz.results172, go_sem, hcl]) rfl ?_
  have hN : NoU w1 (w.heap.size + 1) := by
   have h := NoU.new (w.alloc (.cells #[.bool neg, .slice A n c, .slice B m d] 125)) #[.bool false, .slice none 0 0, .slice none 0 0] 125 (by simp)
   have h2 := (show NoU _ _ from h).below (w' := w1) ⟨hb1.os, hb1.tape, hb1.output, hb1.size, hb1.block⟩ (by simp)
   simpa using h2
  have hb1' : Below w.heap.size w w1 := hB.trans (Below.mono ⟨hb1.os, hb1.tape, hb1.output, hb1.size, hb1.block⟩ hB.size)
  have hn1 : n1 ≤ 1 := by rw [← h1.ulen]; exact nl_small (by unfold bs; omega)
  refine ⟨false, none, 0, 0, A1, n1, c1, 0, 1, rfl, NatA.nil _ _ _, (NatA.of_limbs h1 hc1).no3 hN _, by omega, ?_, by omega, by omega, below3 hb1' (by omega) _ _ _⟩
  rw [h0, rv_zero]
  exact Rat.zero_mkRat 1
 ·have hd : decide (y = 0) = false := by simpa using h0
  go_enter Tryz.func172, Tryz.ntmps172
  go_wp2_with (go_at_call 201; go_must ((refine (zero_any B m d y _ (HA.out.2.on hB) (by omega)).mono ?_); rintro e w' ⟨rfl, nq, rfl⟩; rw [hd]))
  refine bodyPost_ret (v := .agg #[.bool neg, .slice A n c, .slice B m d]) (by simp [results, Tryz.results172, go_sem]) rfl ?_
  have hB' := below3 (below_drewN hB nq) (r := w.heap.size + 1) (by omega) (.bool neg) (.slice A n c) (.slice B m d)
  exact ⟨neg, A, n, c, B, m, d, x, y, rfl, HA.out.1.on hB', HA.out.2.on hB', h0, rfl, hn, hm, hB'⟩
theorem ineg_div (neg : Bool) (x g : Nat) : ineg (sgn (ineg (sgn neg x)) (x / g)) = ineg (sgn neg (x / g)) := by
 rw [ineg_sgn, ineg_sgn, ineg_sgn]
 cases neg
 ·rfl
 ·by_cases h : 0 < x / g
  ·have : 0 < x := by
    rcases Nat.eq_zero_or_pos x with h0 | h0
    ·rw [h0, Nat.zero_div] at h
     omega
    ·exact h0
   simp [h, this]
  ·simp [h]
theorem nl_div (a b : Nat) : nl (a / b) ≤ nl a := nl_mono (Nat.div_le_self a b)
end
section
open Go.RowKit
def RatA (w : World) (v : Value) (k : Nat) (q : Rat) : Prop :=
 ∃ neg A n c B m d x y, v = .agg #[.bool neg, .slice A n c, .slice B m d] ∧ NatA w A n c x ∧ NatA w B m d y ∧ n ≤ k ∧ m ≤ k ∧ rv (sgn neg x) y = q
theorem RatA.on {w w' : World} {v : Value} {k : Nat} {q : Rat} (h : RatA w v k q) (hb : Below w.heap.size w w') : RatA w' v k q := by
 obtain ⟨neg, A, n, c, B, m, d, x, y, h1, h2, h3, h4⟩ := h
 exact ⟨neg, A, n, c, B, m, d, x, y, h1, h2.on hb, h3.on hb, h4⟩
def qk (q : Rat) (k : Nat) : Prop := nl q.num.natAbs ≤ k ∧ nl q.den ≤ k
theorem qk_rv {i : Int} {d k : Nat} (h1 : nl i.natAbs ≤ k) (h2 : nl d ≤ k) (hk : 1 ≤ k) : qk (rv i d) k := by
 by_cases hd : d = 0
 ·subst hd
  rw [rv_zero]
  refine ⟨?_, ?_⟩
  ·show nl 0 ≤ k
   rw [nl_zero]
   omega
  ·exact Nat.le_trans (nl_small (v := 1) (by unfold bs; omega)) hk
 ·obtain ⟨e1, e2⟩ := rv_num (i := i) hd
  rw [qk, e1, e2]
  exact ⟨Nat.le_trans (nl_div _ _) h1, Nat.le_trans (nl_div _ _) h2⟩
theorem qk.mono {q : Rat} {j k : Nat} (h : qk q j) (hk : j ≤ k) : qk q k := ⟨Nat.le_trans h.1 hk, Nat.le_trans h.2 hk⟩
theorem RatA.qk {w : World} {v : Value} {k : Nat} {q : Rat} (h : RatA w v k q) (hk : 1 ≤ k) : qk q k := by
 obtain ⟨neg, A, n, c, B, m, d, x, y, _, h2, h3, h4, h5, rfl⟩ := h
 exact qk_rv (by rw [sgn_abs]; exact Nat.le_trans h2.trimmed.1 h4) (Nat.le_trans h3.trimmed.1 h5) hk
theorem nl_abs_mul (a b : Int) {j k : Nat} (h1 : nl a.natAbs ≤ j) (h2 : nl b.natAbs ≤ k) : nl (a * b).natAbs ≤ j + k := by
 rw [Int.natAbs_mul]
 have := nl_mul a.natAbs b.natAbs
 omega
theorem RatA.of {w : World} {q : Rat} {k : Nat} {A : Option Addr} {n c : Nat} {B : Option Addr} {m d : Nat} (h1 : Sl w w.heap.size A n (u32s (limbs q.num.natAbs))) (h2 : n ≤ c) (h3 : Sl w w.heap.size B m (u32s (limbs q.den))) (h4 : m ≤ d) (hk : Go.Proofs.YtiibocdmlfedkaaGreatDoor.qk q k) :
  RatA w (.agg #[.bool (ineg q.num), .slice A n c, .slice B m d]) k q := by
 refine ⟨_, A, n, c, B, m, d, _, _, rfl, .of_limbs h1 h2, .of_limbs h3 h4, ?_, ?_, by rw [sgn_self]; exact rv_self q⟩
 ·rw [← h1.ulen]; exact hk.1
 ·rw [← h3.ulen]; exact hk.2
theorem rat_end {q : Rat} {w w4 : World} {r n c m d : Nat} {A B : Option Addr} {t : TypeId} {cs : Array Value} (h1 : Sl w4 w4.heap.size A n (u32s (limbs q.num.natAbs))) (hc : n ≤ c) (h2 : Sl w4 w4.heap.size B m (u32s (limbs q.den))) (hd : m ≤ d) (hY : Blk w4 r t cs) (hcs : ∀ v ∈ cs.toList, ∀ x, v ≠ .int .u32 x) (hb : Below w.heap.size w w4) (hr : w.heap.size ≤ r) :
  RetQ q w (.returned (.agg #[.bool (ineg q.num), .slice A n c, .slice B m d])) (((w4.setCell ⟨r, 0, none⟩ (.bool (ineg q.num))).setCell ⟨r, 1, none⟩ (.slice A n c)).setCell ⟨r, 2, none⟩ (.slice B m d)) :=
 ⟨A, n, c, B, m, d, rfl, h1.no3 (NoU.blk hY hcs) _, hc, h2.no3 (NoU.blk hY hcs) _, hd, below3 hb hr _ _ _⟩
end
section
open Go.RowKit
def val2 (t : Bool) (p q : Rat) (j k : Nat) (w wx : World) : Prop :=
 ∃ neg1 A1 n1 c1 B1 m1 d1 x1 y1 neg2 A2 n2 c2 B2 m2 d2 x2 y2, Blk wx w.heap.size 125 #[.bool neg1, .slice A1 n1 c1, .slice B1 m1 d1] ∧ Blk wx (w.heap.size + 1) 125 #[.bool neg2, .slice A2 n2 c2, .slice B2 m2 d2] ∧ (t = true → Blk wx (w.heap.size + 1 + 1) 125 #[.bool false, .slice none 0 0, .slice none 0 0]) ∧
  NatA wx A1 n1 c1 x1 ∧ NatA wx B1 m1 d1 y1 ∧ y1 ≠ 0 ∧ rv (sgn neg1 x1) y1 = p ∧ n1 ≤ j ∧ m1 ≤ j ∧ NatA wx A2 n2 c2 x2 ∧ NatA wx B2 m2 d2 y2 ∧ y2 ≠ 0 ∧ rv (sgn neg2 x2) y2 = q ∧ n2 ≤ k ∧ m2 ≤ k ∧ Below w.heap.size w wx
theorem NoU.set3 {w : World} {r : Nat} (h : NoU w r) (g : Nat) {u0 u1 u2 : Value} (h0 : ∀ x, u0 ≠ .int .u32 x) (h1 : ∀ x, u1 ≠ .int .u32 x) (h2 : ∀ x, u2 ≠ .int .u32 x) : NoU (((w.setCell ⟨g, 0, none⟩ u0).setCell ⟨g, 1, none⟩ u1).setCell ⟨g, 2, none⟩ u2) r := ((h.set _ h0).set _ h1).set _ h2
theorem Blk.far3 {w : World} {g r : Nat} {t : TypeId} {cs : Array Value} (h : Blk w g t cs) (hr : g ≠ r) (u0 u1 u2 : Value) : Blk (((w.setCell ⟨r, 0, none⟩ u0).setCell ⟨r, 1, none⟩ u1).setCell ⟨r, 2, none⟩ u2) g t cs :=
 ((h.far (p := ⟨r, 0, none⟩) hr _).far (p := ⟨r, 1, none⟩) hr _).far (p := ⟨r, 2, none⟩) hr _
theorem Blk.put3 {w : World} {g : Nat} {t : TypeId} {e0 e1 e2 : Value} (h : Blk w g t #[e0, e1, e2]) (u0 u1 u2 : Value) : Blk (((w.setCell ⟨g, 0, none⟩ u0).setCell ⟨g, 1, none⟩ u1).setCell ⟨g, 2, none⟩ u2) g t #[u0, u1, u2] :=
 ((h.set_ 0 u0).set_ 1 u1).set_ 2 u2
theorem val2_end {t : Bool} {p q : Rat} {j k : Nat} {w w2 : World} {neg1 neg2 : Bool} {A1 B1 A2 B2 : Option Addr} {n1 c1 m1 d1 x1 y1 n2 c2 m2 d2 x2 y2 : Nat} {e0 e1 e2 f0 f1 f2 : Value}
  (a1 : NatA w2 A1 n1 c1 x1) (a2 : NatA w2 B1 m1 d1 y1) (a3 : y1 ≠ 0) (a4 : rv (sgn neg1 x1) y1 = p) (a5 : n1 ≤ j) (a6 : m1 ≤ j) (b1 : NatA w2 A2 n2 c2 x2) (b2 : NatA w2 B2 m2 d2 y2) (b3 : y2 ≠ 0) (b4 : rv (sgn neg2 x2) y2 = q) (b5 : n2 ≤ k) (b6 : m2 ≤ k)
  (hX : Blk w2 w.heap.size 125 #[e0, e1, e2]) (hY : Blk w2 (w.heap.size + 1) 125 #[f0, f1, f2]) (hZ : t = true → Blk w2 (w.heap.size + 1 + 1) 125 #[.bool false, .slice none 0 0, .slice none 0 0]) (hb : Below w.heap.size w w2)
  (hNX : NoU w2 w.heap.size) (hNY : NoU w2 (w.heap.size + 1)) :
  val2 t p q j k w ((((((w2.setCell ⟨w.heap.size, 0, none⟩ (.bool neg1)).setCell ⟨w.heap.size, 1, none⟩ (.slice A1 n1 c1)).setCell ⟨w.heap.size, 2, none⟩ (.slice B1 m1 d1)).setCell ⟨w.heap.size + 1, 0, none⟩ (.bool neg2)).setCell ⟨w.heap.size + 1, 1, none⟩ (.slice A2 n2 c2)).setCell ⟨w.heap.size + 1, 2, none⟩ (.slice B2 m2 d2)) := by
 have hNY' := hNY.set3 w.heap.size (u0 := .bool neg1) (u1 := .slice A1 n1 c1) (u2 := .slice B1 m1 d1) (by simp) (by simp) (by simp)
 refine ⟨neg1, A1, n1, c1, B1, m1, d1, x1, y1, neg2, A2, n2, c2, B2, m2, d2, x2, y2, (hX.put3 _ _ _).far3 (by omega) _ _ _, (hY.far3 (by omega) _ _ _).put3 _ _ _, fun h => ((hZ h).far3 (by omega) _ _ _).far3 (by omega) _ _ _, ?_⟩
 exact ⟨(a1.no3 hNX _).no3 hNY' _, (a2.no3 hNX _).no3 hNY' _, a3, a4, a5, a6, (b1.no3 hNX _).no3 hNY' _, (b2.no3 hNX _).no3 hNY' _, b3, b4, b5, b6, below3 (below3 hb (Nat.le_refl _) _ _ _) (by omega) _ _ _⟩
end
section
open Go.RowKit
theorem six {w : World} {g h : Nat} {t s : TypeId} {a b c d e f : Value} (hX : Blk w g t #[a, b, c]) (hY : Blk w h s #[d, e, f]) : w.cell? ⟨g, 0, none⟩ = some a ∧ w.cell? ⟨g, 1, none⟩ = some b ∧ w.cell? ⟨g, 2, none⟩ = some c ∧ w.cell? ⟨h, 0, none⟩ = some d ∧ w.cell? ⟨h, 1, none⟩ = some e ∧ w.cell? ⟨h, 2, none⟩ = some f :=
 ⟨hX.c rfl, hX.c rfl, hX.c rfl, hY.c rfl, hY.c rfl, hY.c rfl⟩
theorem cmpI_zero {i j : Int} : cmpI i j = 0 ↔ i = j := by
 unfold cmpI
 split
 ·exact ⟨fun h => absurd h (by decide), fun h => by omega⟩
 ·split
  ·exact ⟨fun h => absurd h (by decide), fun h => by omega⟩
  ·exact ⟨fun _ => by omega, fun _ => rfl⟩
def RetCz (p q : Rat) (w : World) (e : Ending) (w' : World) : Prop := ∃ c : Int, e = .returned (.int .i64 c) ∧ (c = 0 ↔ p = q) ∧ Below w.heap.size w w'
set_option maxRecDepth 100000 in
set_option maxHeartbeats 6400000 in
theorem rcmp_any (v u : Value) (j k : Nat) (p q : Rat) (w : World) (ha : RatA w v j p) (hb : RatA w u k q) (hj : 1 ≤ j) (hk : 1 ≤ k) (hj2 : j ≤ 100000) (hk2 : k ≤ 100000) :
  Calls Tryz.prog 143 #[v, u] w (RetCz p q w) := by
 obtain ⟨neg, A, n, c, B, m, d, x, y, rfl, h1, h2, h3, h4, h5⟩ := ha
 obtain ⟨neg2, A2, n2, c2, B2, m2, d2, x2, y2, rfl, g1, g2, g3, g4, g5⟩ := hb
 have HV := fun W (hB : Below w.heap.size w W) => value_any neg A n c x B m d y W (h1.on hB) (h2.on hB) j h3 h4 hj (by omega)
 rw [h5] at HV
 have HU := fun W (hB : Below w.heap.size w W) => value_any neg2 A2 n2 c2 x2 B2 m2 d2 y2 W (g1.on hB) (g2.on hB) k g3 g4 hk (by omega)
 rw [g5] at HU
 have HV := Lib.hid HV
 have HU := Lib.hid HU
 have hB : Below w.heap.size w ((w.alloc (.cells #[.bool neg, .slice A n c, .slice B m d] 125)).alloc (.cells #[.bool neg2, .slice A2 n2 c2, .slice B2 m2 d2] 125)) := ((Below.refl _ _).alloc (Nat.le_refl _) _).alloc (by simp) _
 have X0 : Blk ((w.alloc (.cells #[.bool neg, .slice A n c, .slice B m d] 125)).alloc (.cells #[.bool neg2, .slice A2 n2 c2, .slice B2 m2 d2] 125)) w.heap.size 125 #[.bool neg, .slice A n c, .slice B m d] := ((Blk.new w _ _).alloc _)
 have Y0 : Blk ((w.alloc (.cells #[.bool neg, .slice A n c, .slice B m d] 125)).alloc (.cells #[.bool neg2, .slice A2 n2 c2, .slice B2 m2 d2] 125)) (w.heap.size + 1) 125 #[.bool neg2, .slice A2 n2 c2, .slice B2 m2 d2] := Blk.new' (w.alloc (.cells #[.bool neg, .slice A n c, .slice B m d] 125)) 125 #[.bool neg2, .slice A2 n2 c2, .slice B2 m2 d2] (by simp)
 have HX := Lib.hid X0
 have HY := Lib.hid Y0
 clear h1 h2 h3 h4 h5 g1 g2 g3 g4 g5 X0 Y0
 have hl1 : w.heap.size < w.heap.size + 1 + 1 := by omega
 have hq0 : ¬ w.heap.size + 1 = w.heap.size := by omega
 go_enter Tryz.func143, Tryz.ntmps143
 go_upto_region 1 with fail
 go_cut [4] (fun s4 wx => s4 = .int .i64 0 ∧ val2 false p q j k w wx)
 case first =>
  go_region_with (first
   | (go_at_call_of 172 (Value.agg #[.bool neg, .slice A n c, .slice B m d]); go_must ((refine (HV.out _ (by exact hB.drew)).mono ?_); rintro e w1 ⟨ng, C, cn, cc, E, en, ec, xx, yy, rfl, a1, a2, a3, a4, a5, a6, hb1⟩; obtain ⟨hcl, hfr⟩ := bcell hb1; have hz1 : w.heap.size + 1 < w1.heap.size := (by have := hb1.size; simp at this; omega); have hz2 : w.heap.size < w1.heap.size := (by omega); have hz3 : w.heap.size + 1 < w1.heap.size := (by omega)))
   | (go_at_call 172; go_must ((refine (HU.out _ (by exact hB.drew.trans (hb1.mono hB.drew.size))).mono ?_); rintro e w2 ⟨ng2, C2, cn2, cc2, E2, en2, ec2, xx2, yy2, rfl, b1, b2, b3, b4, b5, b6, hb2⟩; obtain ⟨hcl2, hfr2⟩ := bcell hb2)))
  all_goals
   have X2 := (HX.out.below (w' := w1) ⟨hb1.os, hb1.tape, hb1.output, hb1.size, hb1.block⟩).below hb2
   have Y2 := (HY.out.below (w' := w1) ⟨hb1.os, hb1.tape, hb1.output, hb1.size, hb1.block⟩).below hb2
   have hb1' : Below w.heap.size w w1 := hB.trans (Below.mono ⟨hb1.os, hb1.tape, hb1.output, hb1.size, hb1.block⟩ hB.size)
   have HE := Lib.hid (val2_end (t := false) (w := w) (a1.on hb2) (a2.on hb2) a3 a4 a5 a6 b1 b2 b3 b4 b5 b6 X2 Y2 (by intro h; cases h) (hb1'.trans (hb2.mono hb1'.size)) (NoU.blk X2 (by simp)) (NoU.blk Y2 (by simp)))
   clear X2 Y2 a1 a2 b1 b2 hb1'
   go_wp2_with fail
   go_meet
   exact ⟨rfl, HE.out⟩
 case rest =>
  clear HX HY HV HU hB
  obtain ⟨rfl, neg1, A1, n1, c1, B1, m1, d1, x1, y1, neg3, A3, n3, c3, B3, m3, d3, x3, y3, hX, hY, hZ, a1, a2, a3, a4, a5, a6, b1, b2, b3, b4, b5, b6, hbel⟩ := hcut
  have HX := Lib.hid hX
  have HY := Lib.hid hY
  have HN := Lib.hid (And.intro a1 (And.intro a2 (And.intro b1 b2)))
  have hs := six hX hY
  have l1 : nl (sgn neg1 x1 * sgn false y3).natAbs ≤ 1000000 := by
   refine Nat.le_trans (nl_abs_mul _ _ (j := j) (k := k) ?_ ?_) (by omega)
   ·rw [sgn_abs]; exact Nat.le_trans a1.trimmed.1 a5
   ·rw [sgn_abs]; exact Nat.le_trans b2.trimmed.1 b6
  have l2 : nl (sgn neg3 x3 * sgn false y1).natAbs ≤ 1000000 := by
   refine Nat.le_trans (nl_abs_mul _ _ (j := k) (k := j) ?_ ?_) (by omega)
   ·rw [sgn_abs]; exact Nat.le_trans b1.trimmed.1 b5
   ·rw [sgn_abs]; exact Nat.le_trans a2.trimmed.1 a6
  have HE : Hid (cmpI (sgn neg1 x1 * sgn false y3) (sgn neg3 x3 * sgn false y1) = 0 ↔ p = q) := by
   rw [Hid, cmpI_zero, ← a4, ← b4, rv_eq a3 b3]
   rfl
  clear hX hY hZ a1 a2 b1 b2
  obtain ⟨s0, s1, s2, s3, s4, s5⟩ := hs
  go_wp2_with fail
  go_region_held3 (fun w' => w'.cell? ⟨w.heap.size, 0, none⟩ = some (.bool neg1) ∧ w'.cell? ⟨w.heap.size, 1, none⟩ = some (.slice A1 n1 c1) ∧ w'.cell? ⟨w.heap.size, 2, none⟩ = some (.slice B1 m1 d1) ∧ w'.cell? ⟨w.heap.size + 1, 0, none⟩ = some (.bool neg3) ∧ w'.cell? ⟨w.heap.size + 1, 1, none⟩ = some (.slice A3 n3 c3) ∧ w'.cell? ⟨w.heap.size + 1, 2, none⟩ = some (.slice B3 m3 d3))
   (go_keep)
   (first
   | (go_at_call_of 175 (Value.slice B3 m3 d3); go_must ((refine (positive_any B3 m3 d3 _).mono ?_); rintro e w2 ⟨rfl, hb2⟩; have HBw2 := Lib.hid (show Below wc.heap.size wc w2 from ⟨hb2.os, hb2.tape, hb2.output, hb2.size, hb2.block⟩); have hsw2 := six (HX.out.below HBw2.out) (HY.out.below HBw2.out); clear hb2))
   | (go_at_call_of 174 (Value.agg #[.bool neg1, .slice A1 n1 c1]); go_must ((refine (imul_any neg1 A1 n1 c1 x1 false B3 m3 d3 y3 _ (by exact HN.out.1.on HBw2.out) (by exact HN.out.2.2.2.on HBw2.out) (by omega) (by omega)).mono ?_); rintro e w3 ⟨C3, k3, e3, rfl, r3, hc3, hb3⟩; have HBw3 := Lib.hid (show Below wc.heap.size wc w3 from HBw2.out.trans ((hb3 : Below w2.heap.size w2 w3).mono HBw2.out.size)); have hsw3 := six (HX.out.below HBw3.out) (HY.out.below HBw3.out); have HM := Lib.hid r3; clear r3; clear hb3))
   | (go_at_call_of 175 (Value.slice B1 m1 d1); go_must ((refine (positive_any B1 m1 d1 _).mono ?_); rintro e w4 ⟨rfl, hb4⟩; have HBw4 := Lib.hid (show Below wc.heap.size wc w4 from HBw3.out.trans ((hb4 : Below w3.heap.size w3 w4).mono HBw3.out.size)); have hsw4 := six (HX.out.below HBw4.out) (HY.out.below HBw4.out); have HM4 := Lib.hid (HM.out.on hb4); clear hb4))
   | (go_at_call_of 174 (Value.agg #[.bool neg3, .slice A3 n3 c3]); go_must ((refine (imul_any neg3 A3 n3 c3 x3 false B1 m1 d1 y1 _ (by exact HN.out.2.2.1.on HBw4.out) (by exact HN.out.2.1.on HBw4.out) (by omega) (by omega)).mono ?_); rintro e w5 ⟨C5, k5, e5, rfl, r5, hc5, hb5⟩; have HBw5 := Lib.hid (show Below wc.heap.size wc w5 from HBw4.out.trans ((hb5 : Below w4.heap.size w4 w5).mono HBw4.out.size)); have hsw5 := six (HX.out.below HBw5.out) (HY.out.below HBw5.out); have HM5 := Lib.hid (HM4.out.on hb5); have HQ5 := Lib.hid r5; clear r5; clear hb5))
   | (go_at_call 173; go_must ((refine (icmp_any _ C3 k3 e3 (sgn neg1 x1 * sgn false y3).natAbs _ C5 k5 e5 (sgn neg3 x3 * sgn false y1).natAbs _ (by exact .of_limbs HM5.out hc3) (by exact .of_limbs HQ5.out hc5) (by rw [← HM5.out.ulen]; exact l1) (by rw [← HQ5.out.ulen]; exact l2)).mono ?_); rintro e w6 ⟨rfl, hb6⟩; have HBw6 := Lib.hid (show Below wc.heap.size wc w6 from HBw5.out.trans ((hb6 : Below w5.heap.size w5 w6).mono HBw5.out.size)); have hsw6 := six (HX.out.below HBw6.out) (HY.out.below HBw6.out); rw [sgn_self, sgn_self]; clear hb6)))
  go_wp2_with fail
  go_ret
  exact ⟨_, rfl, HE.out, hbel.trans (HBw6.out.mono hbel.size)⟩
end
end Go.Proofs.YtiibocdmlfedkaaGreatDoor
