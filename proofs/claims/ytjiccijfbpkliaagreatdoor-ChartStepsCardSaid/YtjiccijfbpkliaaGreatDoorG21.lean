/-
  Several texts in one: garmentref02.make1, Norm, Neg, Mul, Add return integers in normal form. Conditions: slices of at most 400,000 limbs. (Printed by gen_ref2.py out of the walks of package integer.) garmentref01.Value, Parse. Conditions: none but that a string's length is an int. garmentref02.Of, Text, Parse. Conditions: Of from -1000 to 1000; Text at most 100,000 limbs. (Printed by gen_rj2.py.) garmentref03.reduce, Whole, Zero, Of (at 0 and 1), Norm. Conditions: numbers of at most 100,000 limbs.
-/
import Derived.Test.YtjiccijfbpkliaaGreatDoorG19

/- garmentref02.make1, Norm, Neg, Mul, Add return integers in normal form. Conditions: slices of at most 400,000 limbs. (Printed by gen_ref2.py out of the walks of package integer.) -/
namespace Go.Proofs.YtjiccijfbpkliaaGreatDoor
open Go.RowKit

theorem RetF.n {v : Nat} {w w' : World} {e : Ending} (h : RetF v w e w') : RetN v w e w' := by
  obtain ⟨A, n, c, h1, h2, h3, _, h5⟩ := h
  exact ⟨A, n, c, h1, h2, h3, h5⟩
theorem rn_mul (A B : Option Addr) (n m c d x y : Nat) (w : World) (ha : NatA w A n c x) (hb : NatA w B m d y) (hn : n ≤ 1000000) (hm : m ≤ 1000000) : Calls Tryz.prog 117 #[.slice A n c, .slice B m d] w (RetN (x * y) w) :=
  (rf_mul A B n m c d x y w ha hb hn hm).mono fun _ _ h => h.n
theorem rn_add (A B : Option Addr) (n m c d x y : Nat) (w : World) (ha : NatA w A n c x) (hb : NatA w B m d y) (hn : n ≤ 1000000) (hm : m ≤ 1000000) : Calls Tryz.prog 149 #[.slice A n c, .slice B m d] w (RetN (x + y) w) :=
  (rf_add A B n m c d x y w ha hb hn hm).mono fun _ _ h => h.n
theorem rn_sub_yes (A B : Option Addr) (n m c d x y : Nat) (w : World) (ha : NatA w A n c x) (hb : NatA w B m d y) (hn : n ≤ 1000000) (hm : m ≤ 1000000) (hle : y ≤ x) : Calls Tryz.prog 150 #[.slice A n c, .slice B m d] w (RetNT (x - y) w) :=
  (rf_sub_yes A B n m c d x y w ha hb hn hm hle).mono fun _ _ ⟨A, n, c, h1, h2, h3, _, h5⟩ => ⟨A, n, c, h1, h2, h3, h5⟩
theorem rn_sub_no (A B : Option Addr) (n m c d x y : Nat) (w : World) (ha : NatA w A n c x) (hb : NatA w B m d y) (hn : n ≤ 1000000) (hm : m ≤ 1000000) (hlt : x < y) : Calls Tryz.prog 150 #[.slice A n c, .slice B m d] w fun e w' => e = .returned (.tuple #[.slice none 0 0, .bool false]) ∧ ∃ k, w' = w.drewN k :=
  (rf_sub_no A B n m c d x y w ha hb hn hm hlt).mono fun _ _ ⟨h1, h2⟩ => ⟨h1, 0, h2.symm⟩

set_option maxRecDepth 100000 in
set_option maxHeartbeats 1600000 in
theorem jmake_any (neg : Bool) (A : Option Addr) (n c m : Nat) (w : World) (ha : NatA w A n c m) (hn : n ≤ 1000000) :
    Calls Tryz.prog 148 #[.bool neg, .slice A n c] w (RetZ (sgn neg m) w) := by
  have HA := Lib.hid ha; clear ha
  cases neg
  · go_enter Tryz.func148, Tryz.ntmps148
    go_wp2_with (go_at_call 77; refine (rf_norm A n c m _ (HA.out.on ((Below.refl _ _).alloc (Nat.le_refl _) _)) (by omega)).mono ?_; rintro e w1 ⟨A1, k, k2, rfl, hs, hk2, hg, hb⟩; obtain ⟨hcl, hfr⟩ := bcell hb)
    refine bodyPost_ret (v := .agg #[.bool false, .slice A1 k k2]) (by simp [results, Tryz.results148, go_sem, hcl]) rfl ?_
    have hg2 : Fresh (w.heap.size + 1) A1 := fun a e => by have := hg a e; simpa using this
    exact ⟨A1, k, k2, by rw [ineg_sgn]; rfl, by rw [sgn_abs]; exact (hs.set_ (p := ⟨w.heap.size, 0, none⟩) hg2 _).set_ (p := ⟨w.heap.size, 1, none⟩) hg2 _, hk2, ((((Below.refl _ _).alloc (Nat.le_refl _) _).trans (hb.mono (by simp))).setCell (Nat.le_refl _) _).setCell (Nat.le_refl _) _⟩
  · go_enter Tryz.func148, Tryz.ntmps148
    go_wp2_with (go_at_call 77; refine (rf_norm A n c m _ (HA.out.on ((Below.refl _ _).alloc (Nat.le_refl _) _)) (by omega)).mono ?_; rintro e w1 ⟨A1, k, k2, rfl, hs, hk2, hg, hb⟩; obtain ⟨hcl, hfr⟩ := bcell hb)
    refine bodyPost_ret (v := .agg #[.bool (decide (0 < k)), .slice A1 k k2]) (by simp [results, Tryz.results148, go_sem, hcl]) rfl ?_
    have hg2 : Fresh (w.heap.size + 1) A1 := fun a e => by have := hg a e; simpa using this
    have hk : decide (0 < k) = decide (0 < m) := by
      have h1 : k = nl m := hs.ulen.symm
      by_cases h0 : m = 0
      · subst h0
        rw [nl_zero] at h1
        subst h1
        rfl
      · have := nl_pos h0
        rw [decide_eq_decide]
        omega
    exact ⟨A1, k, k2, by rw [ineg_sgn, Bool.true_and, hk], by rw [sgn_abs]; exact (hs.set_ (p := ⟨w.heap.size, 0, none⟩) hg2 _).set_ (p := ⟨w.heap.size, 1, none⟩) hg2 _, hk2, ((((Below.refl _ _).alloc (Nat.le_refl _) _).trans (hb.mono (by simp))).setCell (Nat.le_refl _) _).setCell (Nat.le_refl _) _⟩

set_option maxRecDepth 100000 in
set_option maxHeartbeats 1600000 in
theorem jnorm_any (neg : Bool) (A : Option Addr) (n c m : Nat) (w : World) (ha : NatA w A n c m) (hn : n ≤ 1000000) :
    Calls Tryz.prog 128 #[.agg #[.bool neg, .slice A n c]] w (RetZ (sgn neg m) w) := by
  have HA := Lib.hid ha; clear ha
  go_enter Tryz.func128, Tryz.ntmps128
  go_wp2_with fail
  have hB : Below w.heap.size w ((w.alloc (.cells #[.bool neg, .slice A n c] 34)).alloc (.cells #[.bool false, .slice none 0 0] 34)) := ((Below.refl _ _).alloc (Nat.le_refl _) _).alloc (by simp) _
  have hN := NoU.new (w.alloc (.cells #[.bool neg, .slice A n c] 34)) #[.bool false, .slice none 0 0] 34 (by simp)
  refine (jmake_any neg A n c m _ (HA.out.on hB) hn).mono ?_
  rintro e w1 ⟨A1, n1, c1, rfl, hs, hc1, hb⟩
  have HE := Lib.hid (int_end hs hc1 (hN.below hb (by simp)) hB hb)
  obtain ⟨hcl, hfr⟩ := bcell hb
  clear hs hN hB
  go_wp2_with fail
  refine bodyPost_ret (v := .agg #[.bool (ineg (sgn neg m)), .slice A1 n1 c1]) (by simp [results, Tryz.results128, go_sem, hcl]) rfl ?_
  simpa using HE.out
set_option maxRecDepth 100000 in
set_option maxHeartbeats 1600000 in
theorem jneg_any (neg : Bool) (A : Option Addr) (n c m : Nat) (w : World) (ha : NatA w A n c m) (hn : n ≤ 1000000) :
    Calls Tryz.prog 151 #[.agg #[.bool neg, .slice A n c]] w (RetZ (sgn (!neg) m) w) := by
  have HA := Lib.hid ha; clear ha
  go_enter Tryz.func151, Tryz.ntmps151
  go_wp2_with fail
  have hB : Below w.heap.size w ((w.alloc (.cells #[.bool neg, .slice A n c] 34)).alloc (.cells #[.bool false, .slice none 0 0] 34)) := ((Below.refl _ _).alloc (Nat.le_refl _) _).alloc (by simp) _
  have hN := NoU.new (w.alloc (.cells #[.bool neg, .slice A n c] 34)) #[.bool false, .slice none 0 0] 34 (by simp)
  refine (jmake_any (!neg) A n c m _ (HA.out.on hB) hn).mono ?_
  rintro e w1 ⟨A1, n1, c1, rfl, hs, hc1, hb⟩
  have HE := Lib.hid (int_end hs hc1 (hN.below hb (by simp)) hB hb)
  obtain ⟨hcl, hfr⟩ := bcell hb
  clear hs hN hB
  go_wp2_with fail
  refine bodyPost_ret (v := .agg #[.bool (ineg (sgn (!neg) m)), .slice A1 n1 c1]) (by simp [results, Tryz.results151, go_sem, hcl]) rfl ?_
  simpa using HE.out
set_option maxRecDepth 100000 in
set_option maxHeartbeats 3200000 in
theorem jmul_any (neg : Bool) (A : Option Addr) (n c x : Nat) (neg2 : Bool) (B : Option Addr) (m d y : Nat) (w : World) (ha : NatA w A n c x) (hb : NatA w B m d y) (hn : n ≤ 400000) (hm : m ≤ 400000) :
    Calls Tryz.prog 116 #[.agg #[.bool neg, .slice A n c], .agg #[.bool neg2, .slice B m d]] w (RetZ (sgn neg x * sgn neg2 y) w) := by
  have hxy : nl (x * y) ≤ 800000 := by
    have h1 := nl_mul x y
    have h2 := ha.trimmed.1
    have h3 := hb.trimmed.1
    omega
  have HA := Lib.hid (And.intro ha hb); clear ha hb
  go_enter Tryz.func116, Tryz.ntmps116
  go_wp2_with fail
  have hB := box2_below w #[.bool neg, .slice A n c] #[.bool neg2, .slice B m d] #[.bool false, .slice none 0 0]
  have hl0 : w.heap.size < w.heap.size + 1 + 1 + 1 := by omega
  have hl1 : w.heap.size < w.heap.size + 1 + 1 := by omega
  have hq0 : ¬ w.heap.size + 1 + 1 = w.heap.size := by omega
  have hq1 : ¬ w.heap.size = w.heap.size + 1 + 1 := by omega
  go_region_held3 (fun w' => w'.cell? ⟨w.heap.size, 0, none⟩ = some (.bool neg) ∧ w'.cell? ⟨w.heap.size, 1, none⟩ = some (.slice A n c) ∧ w'.cell? ⟨w.heap.size + 1, 0, none⟩ = some (.bool neg2) ∧ w'.cell? ⟨w.heap.size + 1, 1, none⟩ = some (.slice B m d))
    (go_keep)
    (first
    | (go_at_call 117; go_must ((refine (rn_mul A B n m c d x y _ (by exact HA.out.1.on hB.drew) (by exact HA.out.2.on hB.drew) (by omega) (by omega)).mono ?_); rintro e w1 ⟨A1, n1, c1, rfl, h1, hc1, hb1⟩; obtain ⟨hcl, hfr⟩ := bcell hb1; have hz1 : w.heap.size + 1 + 1 < w1.heap.size := (by have := hb1.size; simp at this; omega); have hz2 : w.heap.size + 1 < w1.heap.size := (by omega); have hz3 : w.heap.size < w1.heap.size := (by omega)))
    | (go_at_call 148; go_must ((refine (jmake_any _ A1 n1 c1 (x * y) _ (by exact .of_limbs h1 hc1) (by rw [← h1.ulen]; exact Nat.le_trans hxy (by omega))).mono ?_); rintro e w2 ⟨A2, n2, c2, rfl, h2, hc2, hb2⟩; obtain ⟨hcl2, hfr2⟩ := bcell hb2)))
  have k0 : w2.cell? ⟨w.heap.size + 1 + 1, 0, none⟩ = some (.bool false) := by rw [hcl2 _ _ hz1, hcl _ _ (by simp)]; simp [go_sem]
  have k1 : w2.cell? ⟨w.heap.size + 1 + 1, 1, none⟩ = some (.slice none 0 0) := by rw [hcl2 _ _ hz1, hcl _ _ (by simp)]; simp [go_sem]
  have hN2 : NoU w2 (w.heap.size + 1 + 1) := by
    have h3 : NoU w1 (w.heap.size + 1 + 1) := NoU.below (w := box2 w #[.bool neg, .slice A n c] #[.bool neg2, .slice B m d] #[.bool false, .slice none 0 0]) (box2_no w _ _) ⟨hb1.os, hb1.tape, hb1.output, hb1.size, hb1.block⟩ (by simp [box2])
    exact h3.below hb2 hz1
  have HE := Lib.hid (int_end (i := sgn neg x * sgn neg2 y) (by rw [← sgn_mul']; exact h2) hc2 hN2 (w := w) (hB.trans (Below.mono ⟨hb1.os, hb1.tape, hb1.output, hb1.size, hb1.block⟩ hB.size)) hb2 (by omega))
  clear hN2 hcl hcl2 hfr2 hfr
  go_wp2_with fail
  refine bodyPost_ret (v := .agg #[.bool (ineg (sgn neg x * sgn neg2 y)), .slice A2 n2 c2]) (by simp [results, Tryz.results116, go_sem, k0, k1, sgn_mul']) rfl ?_
  rw [sgn_mul']
  exact HE.out
set_option maxRecDepth 100000 in
set_option maxHeartbeats 3200000 in
theorem jadd_same (neg : Bool) (A : Option Addr) (n c x : Nat) (B : Option Addr) (m d y : Nat) (w : World) (ha : NatA w A n c x) (hb : NatA w B m d y) (hn : n ≤ 400000) (hm : m ≤ 400000) :
    Calls Tryz.prog 115 #[.agg #[.bool neg, .slice A n c], .agg #[.bool neg, .slice B m d]] w (RetZ (sgn neg (x + y)) w) := by
  have hxy : nl (x + y) ≤ 800000 := by
    have h1 := nl_add x y
    have h2 := ha.trimmed.1
    have h3 := hb.trimmed.1
    omega
  have HA := Lib.hid (And.intro ha hb); clear ha hb
  go_enter Tryz.func115, Tryz.ntmps115
  go_wp2_with fail
  have hB := box2_below w #[.bool neg, .slice A n c] #[.bool neg, .slice B m d] #[.bool false, .slice none 0 0]
  have hl0 : w.heap.size < w.heap.size + 1 + 1 + 1 := by omega
  have hl1 : w.heap.size < w.heap.size + 1 + 1 := by omega
  have hq0 : ¬ w.heap.size + 1 + 1 = w.heap.size := by omega
  have hq1 : ¬ w.heap.size = w.heap.size + 1 + 1 := by omega
  go_region_held3 (fun w' => w'.cell? ⟨w.heap.size, 0, none⟩ = some (.bool neg) ∧ w'.cell? ⟨w.heap.size, 1, none⟩ = some (.slice A n c) ∧ w'.cell? ⟨w.heap.size + 1, 0, none⟩ = some (.bool neg) ∧ w'.cell? ⟨w.heap.size + 1, 1, none⟩ = some (.slice B m d))
    (go_keep)
    (first
    | (go_at_call 149; go_must ((refine (rn_add A B n m c d x y _ (by exact HA.out.1.on hB.drew) (by exact HA.out.2.on hB.drew) (by omega) (by omega)).mono ?_); rintro e w1 ⟨A1, n1, c1, rfl, h1, hc1, hb1⟩; obtain ⟨hcl, hfr⟩ := bcell hb1; have hz1 : w.heap.size + 1 + 1 < w1.heap.size := (by have := hb1.size; simp at this; omega); have hz2 : w.heap.size + 1 < w1.heap.size := (by omega); have hz3 : w.heap.size < w1.heap.size := (by omega)))
    | (go_at_call 148; go_must ((refine (jmake_any _ A1 n1 c1 (x + y) _ (by exact .of_limbs h1 hc1) (by rw [← h1.ulen]; exact Nat.le_trans hxy (by omega))).mono ?_); rintro e w2 ⟨A2, n2, c2, rfl, h2, hc2, hb2⟩; obtain ⟨hcl2, hfr2⟩ := bcell hb2)))
  have k0 : w2.cell? ⟨w.heap.size + 1 + 1, 0, none⟩ = some (.bool false) := by rw [hcl2 _ _ hz1, hcl _ _ (by simp)]; simp [go_sem]
  have k1 : w2.cell? ⟨w.heap.size + 1 + 1, 1, none⟩ = some (.slice none 0 0) := by rw [hcl2 _ _ hz1, hcl _ _ (by simp)]; simp [go_sem]
  have hN2 : NoU w2 (w.heap.size + 1 + 1) := by
    have h3 : NoU w1 (w.heap.size + 1 + 1) := NoU.below (w := box2 w #[.bool neg, .slice A n c] #[.bool neg, .slice B m d] #[.bool false, .slice none 0 0]) (box2_no w _ _) ⟨hb1.os, hb1.tape, hb1.output, hb1.size, hb1.block⟩ (by simp [box2])
    exact h3.below hb2 hz1
  have HE := Lib.hid (int_end (i := sgn neg (x + y)) h2 hc2 hN2 (w := w) (hB.trans (Below.mono ⟨hb1.os, hb1.tape, hb1.output, hb1.size, hb1.block⟩ hB.size)) hb2 (by omega))
  clear hN2 hcl hcl2 hfr2 hfr
  go_wp2_with fail
  refine bodyPost_ret (v := .agg #[.bool (ineg (sgn neg (x + y))), .slice A2 n2 c2]) (by simp [results, Tryz.results115, go_sem, k0, k1]) rfl ?_
  exact HE.out
set_option maxRecDepth 100000 in
set_option maxHeartbeats 3200000 in
theorem jadd_ge (neg : Bool) (A : Option Addr) (n c x : Nat) (neg2 : Bool) (B : Option Addr) (m d y : Nat) (w : World) (ha : NatA w A n c x) (hb : NatA w B m d y) (hn : n ≤ 400000) (hm : m ≤ 400000) (hne : neg ≠ neg2) (hle : y ≤ x) :
    Calls Tryz.prog 115 #[.agg #[.bool neg, .slice A n c], .agg #[.bool neg2, .slice B m d]] w (RetZ (sgn neg (x - y)) w) := by
  have hxy : nl (x - y) ≤ 400000 := by
    have h1 := nl_mono (Nat.sub_le x y)
    have h2 := ha.trimmed.1
    omega
  have HA := Lib.hid (And.intro ha hb); clear ha hb
  have hB := box2_below w #[.bool neg, .slice A n c] #[.bool neg2, .slice B m d] #[.bool false, .slice none 0 0]
  have hl0 : w.heap.size < w.heap.size + 1 + 1 + 1 := by omega
  have hl1 : w.heap.size < w.heap.size + 1 + 1 := by omega
  have heq : (neg == neg2) = false := by simpa using hne
  clear hne
  go_enter Tryz.func115, Tryz.ntmps115
  go_wp2_with (first
    | (go_at_call 150; go_must ((refine (rn_sub_yes A B n m c d x y _ (by exact HA.out.1.on hB) (by exact HA.out.2.on hB) (by omega) (by omega) hle).mono ?_); rintro e w1 ⟨A1, n1, c1, rfl, h1, hc1, hb1⟩; obtain ⟨hcl, hfr⟩ := bcell hb1; have hz1 : w.heap.size + 1 + 1 < w1.heap.size := (by have := hb1.size; simp at this; omega)))
    | (go_at_call 148; go_must ((refine (jmake_any _ A1 n1 c1 (x - y) _ (by exact .of_limbs h1 hc1) (by rw [← h1.ulen]; exact Nat.le_trans hxy (by omega))).mono ?_); rintro e w2 ⟨A2, n2, c2, rfl, h2, hc2, hb2⟩; obtain ⟨hcl2, hfr2⟩ := bcell hb2)))
  have k0 : w2.cell? ⟨w.heap.size + 1 + 1, 0, none⟩ = some (.bool false) := by rw [hcl2 _ _ hz1, hcl _ _ (by simp)]; simp [go_sem]
  have k1 : w2.cell? ⟨w.heap.size + 1 + 1, 1, none⟩ = some (.slice none 0 0) := by rw [hcl2 _ _ hz1, hcl _ _ (by simp)]; simp [go_sem]
  have hN2 : NoU w2 (w.heap.size + 1 + 1) := by
    have h3 : NoU w1 (w.heap.size + 1 + 1) := NoU.below (w := box2 w #[.bool neg, .slice A n c] #[.bool neg2, .slice B m d] #[.bool false, .slice none 0 0]) (box2_no w _ _) ⟨hb1.os, hb1.tape, hb1.output, hb1.size, hb1.block⟩ (by simp [box2])
    exact h3.below hb2 hz1
  refine bodyPost_ret (v := .agg #[.bool (ineg (sgn neg (x - y))), .slice A2 n2 c2]) (by simp [results, Tryz.results115, go_sem, k0, k1]) rfl ?_
  exact int_end (i := sgn neg (x - y)) h2 hc2 hN2 (w := w) (hB.trans (Below.mono ⟨hb1.os, hb1.tape, hb1.output, hb1.size, hb1.block⟩ hB.size)) hb2 (by omega)

set_option maxRecDepth 100000 in
set_option maxHeartbeats 3200000 in
theorem jadd_lt (neg : Bool) (A : Option Addr) (n c x : Nat) (neg2 : Bool) (B : Option Addr) (m d y : Nat) (w : World) (ha : NatA w A n c x) (hb : NatA w B m d y) (hn : n ≤ 400000) (hm : m ≤ 400000) (hne : neg ≠ neg2) (hlt : x < y) :
    Calls Tryz.prog 115 #[.agg #[.bool neg, .slice A n c], .agg #[.bool neg2, .slice B m d]] w (RetZ (sgn neg2 (y - x)) w) := by
  have hxy : nl (y - x) ≤ 400000 := by
    have h1 := nl_mono (Nat.sub_le y x)
    have h2 := hb.trimmed.1
    omega
  have HA := Lib.hid (And.intro ha hb); clear ha hb
  have hB := box2_below w #[.bool neg, .slice A n c] #[.bool neg2, .slice B m d] #[.bool false, .slice none 0 0]
  have hl0 : w.heap.size < w.heap.size + 1 + 1 + 1 := by omega
  have hl1 : w.heap.size < w.heap.size + 1 + 1 := by omega
  have heq : (neg == neg2) = false := by simpa using hne
  clear hne
  go_enter Tryz.func115, Tryz.ntmps115
  go_wp2_with fail
  refine (rn_sub_no A B n m c d x y _ (by exact HA.out.1.on hB) (by exact HA.out.2.on hB) (by omega) (by omega) hlt).mono ?_
  rintro e w' ⟨rfl, nq, rfl⟩
  go_wp2_with fail
  refine (rn_sub_yes B A m n d c y x _ (by exact HA.out.2.on (below_drewN hB nq)) (by exact HA.out.1.on (below_drewN hB nq)) (by omega) (by omega) (by omega)).mono ?_
  rintro e w1 ⟨A1, n1, c1, rfl, h1, hc1, hb1⟩
  obtain ⟨hcl, hfr⟩ := bcell hb1
  have hz1 : w.heap.size + 1 + 1 < w1.heap.size := by have := hb1.size; simp at this; omega
  go_wp2_with (go_at_call 148; go_must ((refine (jmake_any _ A1 n1 c1 (y - x) _ (by exact .of_limbs h1 hc1) (by rw [← h1.ulen]; exact Nat.le_trans hxy (by omega))).mono ?_); rintro e w2 ⟨A2, n2, c2, rfl, h2, hc2, hb2⟩; obtain ⟨hcl2, hfr2⟩ := bcell hb2))
  have k0 : w2.cell? ⟨w.heap.size + 1 + 1, 0, none⟩ = some (.bool false) := by rw [hcl2 _ _ hz1, hcl _ _ (by simp)]; simp [go_sem]
  have k1 : w2.cell? ⟨w.heap.size + 1 + 1, 1, none⟩ = some (.slice none 0 0) := by rw [hcl2 _ _ hz1, hcl _ _ (by simp)]; simp [go_sem]
  have hN2 : NoU w2 (w.heap.size + 1 + 1) := by
    have h3 : NoU w1 (w.heap.size + 1 + 1) := NoU.below (w := box2 w #[.bool neg, .slice A n c] #[.bool neg2, .slice B m d] #[.bool false, .slice none 0 0]) (box2_no w _ _) ⟨hb1.os, hb1.tape, hb1.output, hb1.size, hb1.block⟩ (by simp [box2])
    exact h3.below hb2 hz1
  refine bodyPost_ret (v := .agg #[.bool (ineg (sgn neg2 (y - x))), .slice A2 n2 c2]) (by simp [results, Tryz.results115, go_sem, k0, k1]) rfl ?_
  exact int_end (i := sgn neg2 (y - x)) h2 hc2 hN2 (w := w) (hB.trans (Below.mono ⟨hb1.os, hb1.tape, hb1.output, hb1.size, hb1.block⟩ hB.size)) hb2 (by omega)

theorem jadd_any (neg : Bool) (A : Option Addr) (n c x : Nat) (neg2 : Bool) (B : Option Addr) (m d y : Nat) (w : World) (ha : NatA w A n c x) (hb : NatA w B m d y) (hn : n ≤ 400000) (hm : m ≤ 400000) :
    Calls Tryz.prog 115 #[.agg #[.bool neg, .slice A n c], .agg #[.bool neg2, .slice B m d]] w (RetZ (sgn neg x + sgn neg2 y) w) := by
  by_cases h : neg = neg2
  · subst h
    rw [← sgn_add_same]
    exact jadd_same neg A n c x B m d y w ha hb hn hm
  · by_cases hle : y ≤ x
    · rw [← sgn_add_ge h hle]
      exact jadd_ge neg A n c x neg2 B m d y w ha hb hn hm h hle
    · rw [← sgn_add_lt h (by omega)]
      exact jadd_lt neg A n c x neg2 B m d y w ha hb hn hm h (by omega)
end Go.Proofs.YtjiccijfbpkliaaGreatDoor

/- garmentref01.Value, Parse. Conditions: none but that a string's length is an int. -/
namespace Go.Proofs.YtjiccijfbpkliaaGreatDoor
open Go.RowKit
open Go.Lib hiding intOf

/-- What Value's loop keeps. -/
def rvRel (s : ByteArray) (w : World) (s3 s4 : Value) (wr : World) : Prop :=
  ∃ (k : Nat) (A : Option Addr) (n c : Nat), k ≤ s.size ∧ s4 = .int .i64 (k : Int) ∧ s3 = .slice A n c ∧ Sl wr wr.heap.size A n (u32s (limbs (valD (s.data.toList.take k)))) ∧ n ≤ c ∧ n ≤ k ∧ Below w.heap.size w wr
set_option maxRecDepth 100000 in
set_option maxHeartbeats 3200000 in
theorem rf_value (s : ByteArray) (w : World) (hs : s.size ≤ 200) (hall : s.data.toList.all isDig = true) :
    Calls Tryz.prog 167 #[.string s] w (RetN (valD s.data.toList) w) := by
  have HALL := Lib.hid hall
  have HL : Hid (s.size = s.data.toList.length) := rfl
  clear hall
  go_enter Tryz.func167, Tryz.ntmps167
  go_wp2
  go_loopw [3, 4] (fun s3 s4 wr => rvRel s w s3 s4 wr) (fun _ i _ => s.size - (intOf i).toNat)
  case atStart => exact ⟨0, none, 0, 0, Nat.zero_le _, rfl, rfl, by rw [show valD (s.data.toList.take 0) = 0 from rfl, limbs_zero]; exact Sl.none_, Nat.le_refl _, Nat.le_refl _, Below.refl _ _⟩
  case round =>
    obtain ⟨k, A, n, c, hk, rfl, rfl, hA, hc, hnk, hbel⟩ := hrel
    by_cases hlt : k < s.size
    · obtain ⟨x, hx⟩ : ∃ x, s[k] = x := ⟨_, rfl⟩
      have hxk := at_data s k hlt
      rw [hx] at hxk
      have hdx : isDig x = true := List.all_eq_true.1 HALL.out x (List.mem_of_getElem? hxk)
      obtain ⟨lo, hi⟩ := isDig_true.1 hdx
      have HV := Lib.hid (valD_succ hxk)
      have hall1 : (s.data.toList.take (k + 1)).all isDig = true := by
        rw [List.all_eq_true]
        intro b hb
        exact List.all_eq_true.1 HALL.out b (List.mem_of_mem_take hb)
      have HD := Lib.hid hall1
      obtain ⟨dg, hdg⟩ : ∃ dg, x.toNat - 48 = dg := ⟨_, rfl⟩
      have hs1 : (x.toNat : Int) - 48 = (dg : Int) := by omega
      have hdb : dg < 10 := by omega
      have hs2 : IntKind.u8.wrap (dg : Int) = (dg : Int) := by rw [IntKind.wrap_u8']; omega
      have hs3 : IntKind.u64.wrap (dg : Int) = (dg : Int) := by rw [IntKind.wrap_u64]; omega
      generalize hv : valD (s.data.toList.take k) = v at *
      have hn2 : nl (v * 10) ≤ 1000 := by
        have h1 := nl_mul v 10
        have h2 := nl_small (v := 10) (by unfold bs; omega)
        have h3 : n = nl v := hA.ulen.symm
        omega
      have hn3 : nl dg ≤ 1 := nl_small (by unfold bs; omega)
      have hn10 : nl 10 ≤ 1 := nl_small (by unfold bs; omega)
      rw [hdg] at HV
      have HS := Lib.hid hA
      have HT0 := Lib.hid (fun W => rf_of 10 W (by omega))
      have tok1 : True := trivial
      clear hxk hdx hA hdg hv hall1
      go_wp2_with fail
      go_region_with (first
        | (go_at_call_of 85 (Value.int IntKind.u64 10); (refine (HT0.out _).mono ?_); rintro e w1 ⟨T, tn, tc, rfl, hT, htc, hb1⟩; have HB1 := Lib.hid (show Below wr.heap.size wr w1 from ⟨hb1.os, hb1.tape, hb1.output, hb1.size, hb1.block⟩); have lt : tn ≤ 1 := (by rw [← hT.ulen]; exact hn10); have HT := Lib.hid (And.intro hT (HS.out.on HB1.out)); clear hb1 hT HT0)
        | (go_at_call 117; go_must ((refine (rn_mul A T n tn c tc v 10 _ (by exact .of_limbs HT.out.2 hc) (by exact .of_limbs HT.out.1 htc) (by omega) (by omega)).mono ?_); rintro e w2 ⟨A2, n2, c2, rfl, h2, hc2, hb2⟩; have HB2 := Lib.hid (show Below w1.heap.size w1 w2 from ⟨hb2.os, hb2.tape, hb2.output, hb2.size, hb2.block⟩); have l2 : n2 ≤ 1000 := (by rw [← h2.ulen]; exact hn2); have HM := Lib.hid h2; clear hb2 h2))
        | (go_at_call 85; go_must ((refine (rf_of dg _ (by omega)).mono ?_); rintro e w3 ⟨A3, n3, c3, rfl, h3, hc3, hb3⟩; have HB3 := Lib.hid hb3; have l3 : n3 ≤ 1000 := (by rw [← h3.ulen]; exact Nat.le_trans hn3 (by omega)); have HO := Lib.hid (And.intro h3 (HM.out.on hb3)); clear hb3 h3))
        | (go_at_call 149; go_must ((refine (rn_add A2 A3 n2 n3 c2 c3 (v * 10) dg _ (by exact .of_limbs HO.out.2 hc2) (by exact .of_limbs HO.out.1 hc3) (by omega) (by omega)).mono ?_); rintro e w4 ⟨A4, n4, c4, rfl, h4, hc4, hb4⟩; have HF := Lib.hid (And.intro h4 hb4); clear hb4 h4)))
      all_goals
        go_wp2_with fail
        go_roundw
        case rel =>
          have hlen : n4 ≤ k + 1 := by
            have h1 := HF.out.1.ulen
            have h2 := nl_ten HD.out (by rw [← HL.out]; omega)
            rw [HV.out] at h2
            have : n4 = nl (v * 10 + dg) := h1.symm
            omega
          have hB : Below wr.heap.size wr w4 := ((HB1.out.trans (HB2.out.mono HB1.out.size)).trans (HB3.out.mono (Nat.le_trans HB1.out.size HB2.out.size))).trans (HF.out.2.mono (Nat.le_trans (Nat.le_trans HB1.out.size HB2.out.size) HB3.out.size))
          exact ⟨k + 1, A4, n4, c4, by omega, by go_num, rfl, by rw [HV.out]; exact HF.out.1, hc4, hlen, hbel.trans (hB.mono hbel.size)⟩
        case measure => simp [intOf]; omega
    · obtain rfl : k = s.size := by omega
      have ht : s.data.toList.take s.size = s.data.toList := List.take_of_length_le (by rw [← HL.out]; omega)
      rw [ht] at hA
      have HA := Lib.hid hA
      clear hA ht
      go_wp2
      go_ret
      exact ⟨_, _, _, rfl, HA.out, hc, hbel⟩

theorem rf_parse (s : ByteArray) (w : World) (hs : s.size ≤ 9223372036854775807) :
    Calls Tryz.prog 138 #[.string s] w (RetNE (natV s.data.toList) (natE s.data.toList) w) := by
  have HL : Hid (s.size = s.data.toList.length) := rfl
  by_cases hlong : 200 < s.size
  · have HE := Lib.hid (natE_long (l := s.data.toList) hlong)
    go_enter Tryz.func138, Tryz.ntmps138
    go_wp2
    go_ret2
    exact RetNE.bad HE.out (by omega) (Below.refl _ _)
  · have H := rf_digits s w hs
    cases hd : digOk s.data.toList
    · have HE := Lib.hid (natE_no (l := s.data.toList) hlong hd)
      rw [hd] at H
      have H := Lib.hid H
      clear hd
      go_enter Tryz.func138, Tryz.ntmps138
      go_wp2_with (go_at_call 166; go_must ((refine H.out.mono ?_); rintro e w' ⟨rfl, rfl⟩))
      go_ret2
      exact RetNE.bad HE.out (by omega) (Below.refl _ _)
    · have HE := Lib.hid (natE_ok (l := s.data.toList) hlong hd)
      rw [hd] at H
      have H := Lib.hid H
      have HV := Lib.hid (rf_value s w (by omega) (digOk_iff.1 hd).2.2)
      clear hd
      go_enter Tryz.func138, Tryz.ntmps138
      go_wp2_with (first
        | (go_at_call 166; go_must ((refine H.out.mono ?_); rintro e w' ⟨rfl, rfl⟩))
        | (go_at_call 167; go_must ((refine HV.out.mono ?_); rintro e w1 ⟨A1, n1, c1, rfl, h1, hc1, hb1⟩)))
      go_ret2
      rw [natV, if_pos HE.out, HE.out]
      exact ⟨_, _, _, rfl, h1, hc1, hb1⟩
end Go.Proofs.YtjiccijfbpkliaaGreatDoor

/- garmentref02.Of, Text, Parse. Conditions: Of from -1000 to 1000; Text at most 100,000 limbs. (Printed by gen_rj2.py.) -/
namespace Go.Proofs.YtjiccijfbpkliaaGreatDoor
open Go.RowKit
open Go.Lib hiding intOf

set_option maxRecDepth 100000 in
theorem jof_pos (n : Nat) (w : World) (hn : n ≤ 1000) : Calls Tryz.prog 84 #[.int .i64 (n : Int)] w (RetZ (n : Int) w) := by
  have hB : Below w.heap.size w (w.alloc (.cells #[.bool false, .slice none 0 0] 34)) := (Below.refl _ _).alloc (Nat.le_refl _) _
  have hN0 := NoU.new w #[.bool false, .slice none 0 0] 34 (by simp)
  have hwn : IntKind.u64.wrap (n : Int) = (n : Int) := by rw [IntKind.wrap_u64]; omega
  go_enter Tryz.func84, Tryz.ntmps84
  go_wp2_with (go_at_call 85; go_must ((refine (rf_of n _ (by omega)).mono ?_); rintro e w1 ⟨A1, n1, c1, rfl, h1, hc1, hb1⟩; obtain ⟨hcl, hfr⟩ := bcell hb1))
  refine bodyPost_ret (v := .agg #[.bool false, .slice A1 n1 c1]) (by simp [results, Tryz.results84, go_sem, hcl]) rfl ?_
  have h := int_end (i := (n : Int)) (by simpa using h1) hc1 (hN0.below hb1 (by simp)) hB hb1
  have e : ineg (n : Int) = false := by simp [ineg]
  rw [e] at h
  simpa using h
set_option maxRecDepth 100000 in
theorem jof_neg (n : Nat) (w : World) (hn : n ≤ 1000) : Calls Tryz.prog 84 #[.int .i64 (-((n : Int) + 1))] w (RetZ (-((n : Int) + 1)) w) := by
  have hB : Below w.heap.size w (w.alloc (.cells #[.bool false, .slice none 0 0] 34)) := (Below.refl _ _).alloc (Nat.le_refl _) _
  have hN0 := NoU.new w #[.bool false, .slice none 0 0] 34 (by simp)
  generalize hz : -((n : Int) + 1) = z at *
  have hz0 : z < 0 := by omega
  have hz1 : -(z + 1) = (n : Int) := by omega
  have hlo : -1001 ≤ z := by omega
  have HZ := Lib.hid hz
  clear hz
  have hwn : IntKind.u64.wrap (n : Int) = (n : Int) := by rw [IntKind.wrap_u64]; omega
  have hwn2 : IntKind.u64.wrap ((n : Int) + 1) = ((n + 1 : Nat) : Int) := by rw [IntKind.wrap_u64]; omega
  go_enter Tryz.func84, Tryz.ntmps84
  go_wp2_with (go_at_call 85; go_must ((refine (rf_of (n + 1) _ (by omega)).mono ?_); rintro e w1 ⟨A1, n1, c1, rfl, h1, hc1, hb1⟩; obtain ⟨hcl, hfr⟩ := bcell hb1))
  refine bodyPost_ret (v := .agg #[.bool true, .slice A1 n1 c1]) (by simp [results, Tryz.results84, go_sem, hcl]) rfl ?_
  have hab : z.natAbs = n + 1 := by have := HZ.out; omega
  have h := int_end (i := z) (by rw [hab]; exact h1) hc1 (hN0.below hb1 (by simp)) hB hb1
  have e : ineg z = true := by simpa [ineg] using hz0
  rw [e] at h
  simpa using h

set_option maxRecDepth 100000 in
set_option maxHeartbeats 3200000 in
theorem jtext_any (neg : Bool) (A : Option Addr) (n c x : Nat) (w : World) (ha : NatA w A n c x) (hn : n ≤ 100000) :
    Calls Tryz.prog 96 #[.agg #[.bool neg, .slice A n c]] w (RetT (itoa (sgn neg x)) w) := by
  have t1 := ha.trimmed.1
  have HA := Lib.hid ha; clear ha
  have hB : Below w.heap.size w (w.alloc (.cells #[.bool neg, .slice A n c] 34)) := (Below.refl _ _).alloc (Nat.le_refl _) _
  go_enter Tryz.func96, Tryz.ntmps96
  go_wp2_with fail
  refine (jnorm_any neg A n c x _ (HA.out.on hB) (by omega)).mono ?_
  rintro e w1 ⟨A1, n1, c1, rfl, h1, hc1, hb1⟩
  have hn1 : n1 = nl x := by have := h1.ulen; rw [sgn_abs] at this; exact this.symm
  have hB1 : Below w.heap.size w (w1.alloc (.cells #[.bool (ineg (sgn neg x)), .slice A1 n1 c1] 34)) := (hB.trans (hb1.mono hB.size)).alloc (hB.trans (hb1.mono hB.size)).size _
  have HX : Calls Tryz.prog 97 #[.slice A1 n1 c1] (w1.alloc (.cells #[.bool (ineg (sgn neg x)), .slice A1 n1 c1] 34)) (fun e w' => e = .returned (.string ⟨(decDigits x).toArray⟩) ∧ Below (w1.alloc (.cells #[.bool (ineg (sgn neg x)), .slice A1 n1 c1] 34)).heap.size (w1.alloc (.cells #[.bool (ineg (sgn neg x)), .slice A1 n1 c1] 34)) w') := rf_text A1 n1 c1 x (w1.alloc (.cells #[.bool (ineg (sgn neg x)), .slice A1 n1 c1] 34)) (.of_limbs (by rw [sgn_abs] at h1; exact h1.on ((Below.refl _ _).alloc (Nat.le_refl _) _)) hc1) (by omega)
  generalize hi : sgn neg x = i at *
  have hix : i.natAbs = x := by rw [← hi, sgn_abs]
  obtain ⟨D, hD⟩ : ∃ D : ByteArray, (⟨(decDigits x).toArray⟩ : ByteArray) = D := ⟨_, rfl⟩
  have hDs : D.size ≤ 100000000 := by
    rw [← hD, dec_size]
    have := nDigits_nl x
    omega
  obtain ⟨p, hp, hpd⟩ := minus_add D hDs
  rw [hD] at HX
  have HX := Lib.hid HX
  have HF := Lib.hid (And.intro hix (And.intro hD (And.intro hpd hB1)))
  clear h1 hn1 hi hix hD hpd hB1 hb1
  cases hs : ineg i
  · have HE := Lib.hid (itoa_pos' hs)
    rw [hs] at HX HF
    clear hs
    go_wp2_with (go_at_call 97; go_must ((refine HX.out.mono ?_); rintro e w2 ⟨rfl, hb2⟩))
    go_ret
    rw [HE.out, HF.out.1, RetT, HF.out.2.1]
    exact ⟨rfl, HF.out.2.2.2.trans (hb2.mono HF.out.2.2.2.size)⟩
  · have HE := Lib.hid (itoa_neg' hs)
    rw [hs] at HX HF
    clear hs
    go_wp2_with (go_at_call 97; go_must ((refine HX.out.mono ?_); rintro e w2 ⟨rfl, hb2⟩))
    go_ret
    refine ⟨?_, HF.out.2.2.2.trans (hb2.mono HF.out.2.2.2.size)⟩
    rw [HE.out, HF.out.1]
    have : p = ⟨(45 :: decDigits x).toArray⟩ := eq_of_data (by rw [HF.out.2.2.1, ← HF.out.2.1])
    rw [← this]
    rfl

theorem pre_of {l : List UInt8} {b : UInt8} (h : l[0]? = some b) : hasPrefix l [45] = (b == 45) := by
  cases l with
  | nil => simp at h
  | cons a l =>
    obtain rfl : a = b := by simpa using h
    simp [hasPrefix, List.isPrefixOf, BEq.comm]
theorem trim_yes {l : List UInt8} (h : hasPrefix l [45] = true) : trimPrefix l [45] = l.drop 1 := by rw [trimPrefix, if_pos h]; rfl
theorem trim_no {l : List UInt8} (h : hasPrefix l [45] = false) : trimPrefix l [45] = l := by rw [trimPrefix, if_neg (by simp [h])]
set_option maxRecDepth 100000 in
set_option maxHeartbeats 3200000 in
theorem jparse_any (s : ByteArray) (w : World) (hs : s.size ≤ 9223372036854775807) :
    Calls Tryz.prog 137 #[.string s] w (RetZE (intV s.data.toList) (intE s.data.toList) w) := by
  by_cases hemp : s.size = 0
  · obtain ⟨d1, d2⟩ := empty_of s hemp
    have hnil : s.data.toList = [] := List.eq_nil_of_length_eq_zero (by rw [← size_eq]; exact hemp)
    have hng : hasPrefix s.data.toList [45] = false := by rw [hnil]; rfl
    obtain ⟨t, ht⟩ : ∃ t, s = t := ⟨_, rfl⟩
    have htd : t.data.toList = trimPrefix s.data.toList [45] := by rw [trim_no hng, ht]
    have hts : t.size ≤ 9223372036854775807 := by rw [← ht]; exact hs
    have h00 : natE (trimPrefix s.data.toList [45]) ≠ 0 := by rw [trim_no hng, hnil]; decide
    subst ht
    have HP := fun W => rf_parse s W hts
    rw [htd] at HP
    obtain ⟨E, hE⟩ : ∃ E, natE (trimPrefix s.data.toList [45]) = E := ⟨_, rfl⟩
    obtain ⟨v, hv⟩ : ∃ v, natV (trimPrefix s.data.toList [45]) = v := ⟨_, rfl⟩
    simp only [hE, hv] at HP
    have HP := Lib.hid HP
    have HV := Lib.hid (And.intro hng (And.intro hE hv))
    have hB : Below w.heap.size w (w.alloc (.cells #[.bool false, .slice none 0 0] 34)) := (Below.refl _ _).alloc (Nat.le_refl _) _
    clear htd hng hE hv
    have h0 : E ≠ 0 := by have h := HV.out.2.1; rw [h] at h00; exact h00
    clear h00 hnil hemp
    have HE : Hid (intE s.data.toList = E) := by rw [Hid, intE, HV.out.2.1, if_pos h0]
    have h0' : (E != 0) = true := by simpa using h0
    go_enter Tryz.func137, Tryz.ntmps137
    go_wp2_with (go_at_call 138; go_must ((refine (HP.out _).mono ?_); rintro e w1 ⟨A1, n1, c1, rfl, h1, hc1, hb1⟩; obtain ⟨hcl, hfr⟩ := bcell hb1; have hz1 : w.heap.size < w1.heap.size := (by have := hb1.size; simp at this; omega)))
    refine bodyPost_ret (v := .tuple #[.agg #[.bool false, .slice none 0 0], .int .i64 E]) (by simp [results, Tryz.results137, go_sem, hcl]) rfl ?_
    exact RetZE.bad HE.out h0 (((hB.trans (hb1.mono hB.size)).setCell (p := ⟨w.heap.size, 0, none⟩) (Nat.le_refl _) _).setCell (p := ⟨w.heap.size, 1, none⟩) (Nat.le_refl _) _)
  · have hpos : 0 < s.size := by omega
    obtain ⟨d1, d2⟩ := full_of s hpos
    obtain ⟨b, hb⟩ : ∃ b, s[0] = b := ⟨_, rfl⟩
    have hb0 := at_data s 0 hpos
    rw [hb] at hb0
    have hpre := pre_of hb0
    by_cases h45 : b = 45
    · subst h45
      have hng : hasPrefix s.data.toList [45] = true := by rw [hpre]; rfl
      obtain ⟨t, ht⟩ : ∃ t, s.extract 1 s.size = t := ⟨_, rfl⟩
      have htd : t.data.toList = trimPrefix s.data.toList [45] := by rw [trim_yes hng, ← ht, extract_to_end]
      have hts : t.size ≤ 9223372036854775807 := by
        rw [size_eq, htd]
        have h1 := trim_len s.data.toList [45]
        have h2 := size_eq s
        omega
      have hs1 : 1 ≤ s.size := by omega
      have HP := fun W => rf_parse t W hts
      rw [htd] at HP
      obtain ⟨E, hE⟩ : ∃ E, natE (trimPrefix s.data.toList [45]) = E := ⟨_, rfl⟩
      obtain ⟨v, hv⟩ : ∃ v, natV (trimPrefix s.data.toList [45]) = v := ⟨_, rfl⟩
      simp only [hE, hv] at HP
      have HP := Lib.hid HP
      have HV := Lib.hid (And.intro hng (And.intro hE hv))
      have hB : Below w.heap.size w (w.alloc (.cells #[.bool false, .slice none 0 0] 34)) := (Below.refl _ _).alloc (Nat.le_refl _) _
      clear htd hng hE hv
      clear hb0 hpre hemp
      by_cases h0 : E = 0
      · have hvb : v < 10 ^ 200 := by
          have h1 : natE (trimPrefix s.data.toList [45]) = 0 := by rw [HV.out.2.1]; exact h0
          rw [← HV.out.2.2, natV, if_pos h1]
          have hl := (natE_zero h1).1
          exact Nat.lt_of_lt_of_le (valD_lt _ (digOk_iff.1 (natE_zero h1).2).2.2) (Nat.pow_le_pow_right (by omega) hl)
        have hnv : nl v ≤ 200 := nl_le (Nat.lt_of_lt_of_le hvb (Nat.pow_le_pow_left (by unfold bs; omega) _))
        clear hvb
        have hvv : Hid (valD (trimPrefix s.data.toList [45]) = v) := by
          have h1 : natE (trimPrefix s.data.toList [45]) = 0 := by rw [HV.out.2.1]; exact h0
          rw [Hid, ← HV.out.2.2, natV, if_pos h1]
        by_cases hv0 : v = 0
        · have HE : Hid (intE s.data.toList = 2) := by rw [Hid, intE, HV.out.1, HV.out.2.1, hvv.out, if_neg (by simpa using h0), if_pos ⟨rfl, hv0⟩]
          subst hv0
          subst h0
          go_enter Tryz.func137, Tryz.ntmps137
          go_wp2_with (first | (go_at_call 138; go_must ((refine (HP.out _).mono ?_); rintro e w1 ⟨A1, n1, c1, rfl, h1, hc1, hb1⟩; obtain ⟨hcl, hfr⟩ := bcell hb1; have hz1 : w.heap.size < w1.heap.size := (by have := hb1.size; simp at this; omega))) | (go_at_call 77; go_must ((refine (rf_norm A1 n1 c1 0 _ (.of_limbs h1 hc1) (by rw [← h1.ulen]; exact Nat.le_trans hnv (by omega))).mono ?_); rintro e w3 ⟨A3, n3, c3, rfl, h3, hc3, _, hb3⟩; have hn3 : n3 = 0 := (by rw [← h3.ulen]; exact nl_zero); subst hn3; obtain ⟨hcl3, hfr3⟩ := bcell hb3)))
          refine bodyPost_ret (v := .tuple #[.agg #[.bool false, .slice none 0 0], .int .i64 2]) (by simp [results, Tryz.results137, go_sem, hcl, hcl3, hz1]) rfl ?_
          exact RetZE.bad HE.out (by omega) (((((hB.trans (hb1.mono hB.size)).trans (hb3.mono (hB.trans (hb1.mono hB.size)).size))).setCell (p := ⟨w.heap.size, 0, none⟩) (Nat.le_refl _) _).setCell (p := ⟨w.heap.size, 1, none⟩) (Nat.le_refl _) _)
        · have HE : Hid (intE s.data.toList = 0) := by rw [Hid, intE, HV.out.1, HV.out.2.1, hvv.out, if_neg (by simpa using h0), if_neg (by rintro ⟨_, e⟩; exact hv0 e)]
          subst h0
          go_enter Tryz.func137, Tryz.ntmps137
          go_wp2_with (first | (go_at_call 138; go_must ((refine (HP.out _).mono ?_); rintro e w1 ⟨A1, n1, c1, rfl, h1, hc1, hb1⟩; obtain ⟨hcl, hfr⟩ := bcell hb1; have hz1 : w.heap.size < w1.heap.size := (by have := hb1.size; simp at this; omega))) | (go_at_call 77; go_must ((refine (rf_norm A1 n1 c1 v _ (.of_limbs h1 hc1) (by rw [← h1.ulen]; exact Nat.le_trans hnv (by omega))).mono ?_); rintro e w3 ⟨A3, n3, c3, rfl, h3, hc3, _, hb3⟩; have hp3 : 0 < n3 := (by rw [← h3.ulen]; exact nl_pos hv0); obtain ⟨hcl3, hfr3⟩ := bcell hb3; have hz3 : w.heap.size < w3.heap.size := (by have := hb3.size; omega); have H1' := Lib.hid (h1.on hb3))) | (go_at_call 148; go_must ((refine (jmake_any _ A1 n1 c1 v _ (.of_limbs H1'.out hc1) (by rw [← h1.ulen]; exact Nat.le_trans hnv (by omega))).mono ?_); rintro e w2 ⟨A2, n2, c2, rfl, h2, hc2, hb2⟩; obtain ⟨hcl2, hfr2⟩ := bcell hb2)))
          have k0 : w2.cell? ⟨w.heap.size, 0, none⟩ = some (.bool false) := by rw [hcl2 _ _ hz3, hcl3 _ _ hz1, hcl _ _ (by simp)]; simp [go_sem]
          have k1 : w2.cell? ⟨w.heap.size, 1, none⟩ = some (.slice none 0 0) := by rw [hcl2 _ _ hz3, hcl3 _ _ hz1, hcl _ _ (by simp)]; simp [go_sem]
          have hN := (((NoU.new w #[.bool false, .slice none 0 0] 34 (by simp)).below hb1 (by simp)).below hb3 hz1).below hb2 hz3
          refine bodyPost_ret (v := .tuple #[.agg #[.bool (ineg (sgn true v)), .slice A2 n2 c2], .int .i64 0]) (by simp [results, Tryz.results137, go_sem, k0, k1]) rfl ?_
          obtain ⟨A4, n4, c4, he, hs4, hc4, hb4⟩ := int_end h2 hc2 hN (w := w) ((hB.trans (hb1.mono hB.size)).trans (hb3.mono (hB.trans (hb1.mono hB.size)).size)) hb2 (Nat.le_refl _)
          injection he with he
          injection he with he
          simp only [Array.mk.injEq, List.cons.injEq, Value.slice.injEq, and_true, true_and] at he
          obtain ⟨rfl, rfl, rfl⟩ := he
          rw [intV, if_pos HE.out, HE.out, HV.out.1, hvv.out]
          exact ⟨_, _, _, rfl, hs4, hc4, hb4⟩
      · have HE : Hid (intE s.data.toList = E) := by rw [Hid, intE, HV.out.2.1, if_pos h0]
        have h0' : (E != 0) = true := by simpa using h0
        go_enter Tryz.func137, Tryz.ntmps137
        go_wp2_with (go_at_call 138; go_must ((refine (HP.out _).mono ?_); rintro e w1 ⟨A1, n1, c1, rfl, h1, hc1, hb1⟩; obtain ⟨hcl, hfr⟩ := bcell hb1; have hz1 : w.heap.size < w1.heap.size := (by have := hb1.size; simp at this; omega)))
        refine bodyPost_ret (v := .tuple #[.agg #[.bool false, .slice none 0 0], .int .i64 E]) (by simp [results, Tryz.results137, go_sem, hcl]) rfl ?_
        exact RetZE.bad HE.out h0 (((hB.trans (hb1.mono hB.size)).setCell (p := ⟨w.heap.size, 0, none⟩) (Nat.le_refl _) _).setCell (p := ⟨w.heap.size, 1, none⟩) (Nat.le_refl _) _)
    · have hng : hasPrefix s.data.toList [45] = false := by rw [hpre]; simpa using h45
      have hbe : ((b.toNat : Int) == 45) = false := by
        simp only [beq_eq_false_iff_ne, ne_eq]
        intro e
        apply h45
        apply UInt8.toNat_inj.1
        have : b.toNat = 45 := by omega
        rw [this]; rfl
      obtain ⟨t, ht⟩ : ∃ t, s = t := ⟨_, rfl⟩
      have htd : t.data.toList = trimPrefix s.data.toList [45] := by rw [trim_no hng, ht]
      have hts : t.size ≤ 9223372036854775807 := by rw [← ht]; exact hs
      subst ht
      have HP := fun W => rf_parse s W hts
      rw [htd] at HP
      obtain ⟨E, hE⟩ : ∃ E, natE (trimPrefix s.data.toList [45]) = E := ⟨_, rfl⟩
      obtain ⟨v, hv⟩ : ∃ v, natV (trimPrefix s.data.toList [45]) = v := ⟨_, rfl⟩
      simp only [hE, hv] at HP
      have HP := Lib.hid HP
      have HV := Lib.hid (And.intro hng (And.intro hE hv))
      have hB : Below w.heap.size w (w.alloc (.cells #[.bool false, .slice none 0 0] 34)) := (Below.refl _ _).alloc (Nat.le_refl _) _
      clear htd hng hE hv
      clear hb0 hpre hemp h45
      by_cases h0 : E = 0
      · have hvb : v < 10 ^ 200 := by
          have h1 : natE (trimPrefix s.data.toList [45]) = 0 := by rw [HV.out.2.1]; exact h0
          rw [← HV.out.2.2, natV, if_pos h1]
          have hl := (natE_zero h1).1
          exact Nat.lt_of_lt_of_le (valD_lt _ (digOk_iff.1 (natE_zero h1).2).2.2) (Nat.pow_le_pow_right (by omega) hl)
        have hnv : nl v ≤ 200 := nl_le (Nat.lt_of_lt_of_le hvb (Nat.pow_le_pow_left (by unfold bs; omega) _))
        clear hvb
        have hvv : Hid (valD (trimPrefix s.data.toList [45]) = v) := by
          have h1 : natE (trimPrefix s.data.toList [45]) = 0 := by rw [HV.out.2.1]; exact h0
          rw [Hid, ← HV.out.2.2, natV, if_pos h1]
        have HE : Hid (intE s.data.toList = 0) := by rw [Hid, intE, HV.out.1, HV.out.2.1, hvv.out, if_neg (by simpa using h0), if_neg (by simp)]
        subst h0
        go_enter Tryz.func137, Tryz.ntmps137
        go_wp2_with (first | (go_at_call 138; go_must ((refine (HP.out _).mono ?_); rintro e w1 ⟨A1, n1, c1, rfl, h1, hc1, hb1⟩; obtain ⟨hcl, hfr⟩ := bcell hb1; have hz1 : w.heap.size < w1.heap.size := (by have := hb1.size; simp at this; omega))) | (go_at_call 148; go_must ((refine (jmake_any _ A1 n1 c1 v _ (.of_limbs h1 hc1) (by rw [← h1.ulen]; exact Nat.le_trans hnv (by omega))).mono ?_); rintro e w2 ⟨A2, n2, c2, rfl, h2, hc2, hb2⟩; obtain ⟨hcl2, hfr2⟩ := bcell hb2)))
        have k0 : w2.cell? ⟨w.heap.size, 0, none⟩ = some (.bool false) := by rw [hcl2 _ _ hz1, hcl _ _ (by simp)]; simp [go_sem]
        have k1 : w2.cell? ⟨w.heap.size, 1, none⟩ = some (.slice none 0 0) := by rw [hcl2 _ _ hz1, hcl _ _ (by simp)]; simp [go_sem]
        have hN := ((NoU.new w #[.bool false, .slice none 0 0] 34 (by simp)).below hb1 (by simp)).below hb2 hz1
        refine bodyPost_ret (v := .tuple #[.agg #[.bool (ineg (sgn false v)), .slice A2 n2 c2], .int .i64 0]) (by simp [results, Tryz.results137, go_sem, k0, k1]) rfl ?_
        obtain ⟨A4, n4, c4, he, hs4, hc4, hb4⟩ := int_end h2 hc2 hN (w := w) (hB.trans (hb1.mono hB.size)) hb2 (Nat.le_refl _)
        injection he with he
        injection he with he
        simp only [Array.mk.injEq, List.cons.injEq, Value.slice.injEq, and_true, true_and] at he
        obtain ⟨rfl, rfl, rfl⟩ := he
        rw [intV, if_pos HE.out, HE.out, HV.out.1, hvv.out]
        exact ⟨_, _, _, rfl, hs4, hc4, hb4⟩
      · have HE : Hid (intE s.data.toList = E) := by rw [Hid, intE, HV.out.2.1, if_pos h0]
        have h0' : (E != 0) = true := by simpa using h0
        go_enter Tryz.func137, Tryz.ntmps137
        go_wp2_with (go_at_call 138; go_must ((refine (HP.out _).mono ?_); rintro e w1 ⟨A1, n1, c1, rfl, h1, hc1, hb1⟩; obtain ⟨hcl, hfr⟩ := bcell hb1; have hz1 : w.heap.size < w1.heap.size := (by have := hb1.size; simp at this; omega)))
        refine bodyPost_ret (v := .tuple #[.agg #[.bool false, .slice none 0 0], .int .i64 E]) (by simp [results, Tryz.results137, go_sem, hcl]) rfl ?_
        exact RetZE.bad HE.out h0 (((hB.trans (hb1.mono hB.size)).setCell (p := ⟨w.heap.size, 0, none⟩) (Nat.le_refl _) _).setCell (p := ⟨w.heap.size, 1, none⟩) (Nat.le_refl _) _)
end Go.Proofs.YtjiccijfbpkliaaGreatDoor

/- garmentref03.reduce, Whole, Zero, Of (at 0 and 1), Norm. Conditions: numbers of at most 100,000 limbs. -/
namespace Go.Proofs.YtjiccijfbpkliaaGreatDoor
open Go.RowKit

set_option maxRecDepth 100000 in
set_option maxHeartbeats 1600000 in
theorem kreduce_any (neg : Bool) (A : Option Addr) (n c x : Nat) (B : Option Addr) (m d y : Nat) (w : World) (ha : NatA w A n c x) (hb : NatA w B m d y) (hn : n ≤ 100000) (hm : m ≤ 100000) (hy : y ≠ 0) :
    Calls Tryz.prog 109 #[.bool neg, .slice A n c, .slice B m d] w (RetQ (rv (sgn neg x) y) w) := by
  have t1 := ha.trimmed.1
  have t2 := hb.trimmed.1
  have HA := Lib.hid (And.intro ha hb); clear ha hb
  have hB : Below w.heap.size w (w.alloc (.cells #[.bool false, .slice none 0 0, .slice none 0 0] 36)) := (Below.refl _ _).alloc (Nat.le_refl _) _
  have hg0 : x.gcd y ≠ 0 := by have := gcd_pos' (a := x) hy; omega
  have hgy : nl (x.gcd y) ≤ 100000 := by
    have := nl_mono (Nat.gcd_le_right x (by omega : 0 < y))
    omega
  obtain ⟨r1, r2⟩ := rv_num (i := sgn neg x) (d := y) hy
  have r3 := rv_neg (i := sgn neg x) (d := y) hy
  rw [sgn_abs] at r1 r2 r3
  rw [ineg_div] at r3
  generalize hq : rv (sgn neg x) y = q at *
  have HQ := Lib.hid (And.intro r1 (And.intro r2 r3))
  clear r1 r2 r3 hq
  have Y0 : Blk (w.alloc (.cells #[.bool false, .slice none 0 0, .slice none 0 0] 36)) w.heap.size 36 #[.bool false, .slice none 0 0, .slice none 0 0] := Blk.new' _ _ _ rfl
  go_enter Tryz.func109, Tryz.ntmps109
  go_wp2_with fail
  refine (rf_gcd A B n m c d x y _ (HA.out.1.on hB) (HA.out.2.on hB) hn hm).mono ?_
  rintro e w1 ⟨G, gn, gc, rfl, hG, hgc, hb1⟩
  have B1 := hB.trans (hb1.mono hB.size)
  have Y1 := Y0.below hb1
  have hgn : gn ≤ 100000 := by rw [← hG.ulen]; exact hgy
  clear Y0 hb1 hB
  go_wp2_with fail
  refine (rf_divmod A G n gn c gc x (x.gcd y) _ (HA.out.1.on B1) (.of_limbs hG hgc) hn hgn hg0).mono ?_
  rintro e w2 ⟨A2, n2, c2, R2, rn2, rc2, rfl, h2, hc2, _, _, hb2⟩
  have hG2 := hG.on hb2
  have B2 := B1.trans (hb2.mono B1.size)
  have Y2 := Y1.below hb2
  clear hG B1 Y1 hb2
  go_wp2_with fail
  refine (rf_divmod B G m gn d gc y (x.gcd y) _ (HA.out.2.on B2) (.of_limbs hG2 hgc) hm hgn hg0).mono ?_
  rintro e w3 ⟨A3, n3, c3, R3, rn3, rc3, rfl, h3, hc3, _, _, hb3⟩
  have h2' := h2.on hb3
  have B3 := B2.trans (hb3.mono B2.size)
  have Y3 := Y2.below hb3
  have hn2 : n2 ≤ 1000000 := by
    have h := h2.ulen
    have h' : n2 = nl (x / x.gcd y) := h.symm
    have := nl_div x (x.gcd y)
    omega
  clear h2 hG2 B2 Y2 hb3
  go_wp2_with fail
  refine (jnorm_any neg A2 n2 c2 (x / x.gcd y) _ (.of_limbs h2' hc2) hn2).mono ?_
  rintro e w4 ⟨A4, n4, c4, rfl, h4, hc4, hb4⟩
  have h3' := h3.on hb4
  have B4 := B3.trans (hb4.mono B3.size)
  have Y4 := Y3.below hb4
  have f0 := Y4.c (i := 0) rfl
  have f1 := Y4.c (i := 1) rfl
  have f2 := Y4.c (i := 2) rfl
  have g0 := Y4.frozen 0
  have g1 := Y4.frozen 1
  have g2 := Y4.frozen 2
  clear h3 h2' B3 Y3 hb4
  have HF : Hid (RetQ q w (.returned (.agg #[.bool (ineg (sgn neg (x / x.gcd y))), .slice A4 n4 c4, .slice A3 n3 c3])) (((w4.setCell ⟨w.heap.size, 0, none⟩ (.bool (ineg (sgn neg (x / x.gcd y))))).setCell ⟨w.heap.size, 1, none⟩ (.slice A4 n4 c4)).setCell ⟨w.heap.size, 2, none⟩ (.slice A3 n3 c3))) := by
    have hN := NoU.blk Y4 (by simp)
    rw [sgn_abs] at h4
    exact ⟨A4, n4, c4, A3, n3, c3, by rw [HQ.out.2.2], by rw [HQ.out.1]; exact h4.no3 hN _, hc4, by rw [HQ.out.2.1]; exact h3'.no3 hN _, hc3, below3 B4 (by omega) _ _ _⟩
  clear h4 h3' B4 Y4
  go_wp2_with fail
  refine bodyPost_ret (v := .agg #[.bool (ineg (sgn neg (x / x.gcd y))), .slice A4 n4 c4, .slice A3 n3 c3]) (by simp [results, Tryz.results109, go_sem, f0, f1, f2]) rfl ?_
  exact HF.out

/-- A whole number as a ratio. -/
def wholeQ (i : Int) : Rat := rv i 1
theorem whole_num (i : Int) : (wholeQ i).num = i ∧ (wholeQ i).den = 1 := rv_one i
set_option maxRecDepth 100000 in
set_option maxHeartbeats 1600000 in
theorem kwhole_of (i : Int) (w : World) (H : ∀ W, Calls Tryz.prog 84 #[.int .i64 i] W (RetZ i W)) :
    Calls Tryz.prog 44 #[.int .i64 i] w (RetQ (wholeQ i) w) := by
  have H := Lib.hid H
  have hB : Below w.heap.size w (w.alloc (.cells #[.bool false, .slice none 0 0, .slice none 0 0] 36)) := (Below.refl _ _).alloc (Nat.le_refl _) _
  have Y0 : Blk (w.alloc (.cells #[.bool false, .slice none 0 0, .slice none 0 0] 36)) w.heap.size 36 #[.bool false, .slice none 0 0, .slice none 0 0] := Blk.new' _ _ _ rfl
  go_enter Tryz.func44, Tryz.ntmps44
  go_wp2_with fail
  refine (H.out _).mono ?_
  rintro e w1 ⟨A1, n1, c1, rfl, h1, hc1, hb1⟩
  have Y1 := Y0.below hb1
  have B1 := hB.trans (hb1.mono hB.size)
  clear Y0 hb1 hB
  go_wp2_with fail
  refine (rf_of 1 _ (by omega)).mono ?_
  rintro e w2 ⟨A2, n2, c2, rfl, h2, hc2, hb2⟩
  have Y2 := Y1.below hb2
  have B2 := B1.trans (hb2.mono B1.size)
  have h1' := h1.on hb2
  have f0 := Y2.c (i := 0) rfl
  have f1 := Y2.c (i := 1) rfl
  have f2 := Y2.c (i := 2) rfl
  have g0 := Y2.frozen 0
  have g1 := Y2.frozen 1
  have g2 := Y2.frozen 2
  have e1 := (whole_num i).1
  have e2 := (whole_num i).2
  have HF := rat_end (q := wholeQ i) (w := w) (by rw [e1]; exact h1') hc1 (by rw [e2]; exact h2) hc2 Y2 (by simp) B2 (Nat.le_refl _)
  rw [e1] at HF
  have HF := Lib.hid HF
  clear h1 h2 h1' Y1 Y2 B1 B2 hb2 e1 e2
  go_wp2_with fail
  refine bodyPost_ret (v := .agg #[.bool (ineg i), .slice A1 n1 c1, .slice A2 n2 c2]) (by simp [results, Tryz.results44, go_sem, f0, f1, f2]) rfl ?_
  exact HF.out
theorem kwhole_nat (n : Nat) (w : World) (hn : n ≤ 1000) : Calls Tryz.prog 44 #[.int .i64 (n : Int)] w (RetQ (wholeQ n) w) := kwhole_of _ w fun W => jof_pos n W hn
theorem kwhole_neg (n : Nat) (w : World) (hn : n ≤ 1000) : Calls Tryz.prog 44 #[.int .i64 (-((n : Int) + 1))] w (RetQ (wholeQ (-((n : Int) + 1))) w) := kwhole_of _ w fun W => jof_neg n W hn

/-- A ratio is 0. -/
theorem rv_is_zero (neg : Bool) (x y : Nat) : (rv (sgn neg x) y = 0) ↔ (x = 0 ∨ y = 0) := by
  by_cases hy : y = 0
  · subst hy; simp [rv_zero]
  · rw [rv_eq_zero hy]
    constructor
    · intro h
      left
      have := congrArg Int.natAbs h
      rwa [sgn_abs] at this
    · rintro (h | h)
      · subst h; cases neg <;> rfl
      · exact absurd h hy
set_option maxRecDepth 100000 in
set_option maxHeartbeats 1600000 in
theorem kzero_any (v : Value) (k : Nat) (q : Rat) (w : World) (ha : RatA w v k q) (hk2 : k ≤ 100000) :
    Calls Tryz.prog 36 #[v] w fun e w' => e = .returned (.bool (decide (q = 0))) ∧ Below w.heap.size w w' := by
  obtain ⟨neg, A, n, c, B, m, d, x, y, rfl, h1, h2, h3, h4, h5⟩ := ha
  have HA := Lib.hid (And.intro h1 h2)
  have hz := rv_is_zero neg x y
  rw [h5] at hz
  have HZ := Lib.hid hz
  have hB : Below w.heap.size w (w.alloc (.cells #[.bool neg, .slice A n c, .slice B m d] 36)) := (Below.refl _ _).alloc (Nat.le_refl _) _
  have X0 := Blk.new w 36 #[.bool neg, .slice A n c, .slice B m d]
  clear h1 h2 hz h5
  by_cases hx : x = 0
  · have HD : Hid (decide (q = 0) = true) := by rw [Hid, decide_eq_true_iff, HZ.out]; exact .inl hx
    go_enter Tryz.func36, Tryz.ntmps36
    go_wp2_with fail
    refine (rf_norm A n c x _ (HA.out.1.on hB) (by omega)).mono ?_
    rintro e w1 ⟨A1, n1, c1, rfl, hs1, hc1, _, hb1⟩
    obtain rfl : n1 = 0 := by rw [← hs1.ulen, hx, limbs_zero]; rfl
    clear hs1
    go_wp2_with fail
    go_ret
    exact ⟨by rw [HD.out]; rfl, hB.trans (hb1.mono hB.size)⟩
  · have hxp := nl_pos hx
    go_enter Tryz.func36, Tryz.ntmps36
    go_wp2_with fail
    refine (rf_norm A n c x _ (HA.out.1.on hB) (by omega)).mono ?_
    rintro e w1 ⟨A1, n1, c1, rfl, hs1, hc1, _, hb1⟩
    have hn1 : n1 = nl x := hs1.ulen.symm
    have hp1 : ((n1 : Int) == 0) = false := by simp; omega
    have X1 := X0.below hb1
    have f2 := X1.c (i := 2) rfl
    have B1 := hB.trans (hb1.mono hB.size)
    clear hs1 X0 X1 hn1
    by_cases hy : y = 0
    · have HD : Hid (decide (q = 0) = true) := by rw [Hid, decide_eq_true_iff, HZ.out]; exact .inr hy
      go_wp2_with fail
      refine (rf_norm B m d y _ (HA.out.2.on B1) (by omega)).mono ?_
      rintro e w2 ⟨A2, n2, c2, rfl, hs2, hc2, _, hb2⟩
      obtain rfl : n2 = 0 := by rw [← hs2.ulen, hy, limbs_zero]; rfl
      clear hs2
      go_wp2_with fail
      go_ret
      exact ⟨by rw [HD.out]; rfl, B1.trans (hb2.mono B1.size)⟩
    · have HD : Hid (decide (q = 0) = false) := by
        rw [Hid, decide_eq_false_iff_not, HZ.out]
        rintro (h | h)
        · exact hx h
        · exact hy h
      have hyp := nl_pos hy
      go_wp2_with fail
      refine (rf_norm B m d y _ (HA.out.2.on B1) (by omega)).mono ?_
      rintro e w2 ⟨A2, n2, c2, rfl, hs2, hc2, _, hb2⟩
      have hn2 : n2 = nl y := hs2.ulen.symm
      have hp2 : ((n2 : Int) == 0) = false := by simp; omega
      clear hs2 hn2
      go_wp2_with fail
      go_ret
      exact ⟨by rw [HD.out]; rfl, B1.trans (hb2.mono B1.size)⟩

set_option maxRecDepth 100000 in
set_option maxHeartbeats 1600000 in
theorem knorm_any (v : Value) (k : Nat) (q : Rat) (w : World) (ha : RatA w v k q) (hk2 : k ≤ 100000) :
    Calls Tryz.prog 74 #[v] w (RetQ q w) := by
  have hz := fun W (hB : Below w.heap.size w W) => kzero_any v k q W (ha.on hB) hk2
  obtain ⟨neg, A, n, c, B, m, d, x, y, rfl, h1, h2, h3, h4, h5⟩ := ha
  have HA := Lib.hid (And.intro h1 h2)
  have hB : Below w.heap.size w ((w.alloc (.cells #[.bool neg, .slice A n c, .slice B m d] 36)).alloc (.cells #[.bool false, .slice none 0 0, .slice none 0 0] 36)) := ((Below.refl _ _).alloc (Nat.le_refl _) _).alloc (by simp) _
  have X0 : Blk ((w.alloc (.cells #[.bool neg, .slice A n c, .slice B m d] 36)).alloc (.cells #[.bool false, .slice none 0 0, .slice none 0 0] 36)) w.heap.size 36 #[.bool neg, .slice A n c, .slice B m d] := (Blk.new w _ _).alloc _
  have Y0 : Blk ((w.alloc (.cells #[.bool neg, .slice A n c, .slice B m d] 36)).alloc (.cells #[.bool false, .slice none 0 0, .slice none 0 0] 36)) (w.heap.size + 1) 36 #[.bool false, .slice none 0 0, .slice none 0 0] := Blk.new' _ _ _ (by simp)
  have HQ := Lib.hid h5
  clear h1 h2 h5
  by_cases hq : q = 0
  · have hd : decide (q = 0) = true := by simpa using hq
    simp only [hd] at hz
    have HZ := Lib.hid hz
    clear hz hd
    go_enter Tryz.func74, Tryz.ntmps74
    go_wp2_with fail
    refine (HZ.out _ hB).mono ?_
    rintro e w1 ⟨rfl, hb1⟩
    have Y1 := Y0.below hb1
    have B1 := hB.trans (hb1.mono hB.size)
    clear X0 Y0 hb1 hB
    go_wp2_with fail
    refine (kwhole_nat 0 _ (by omega)).mono ?_
    rintro e w2 ⟨A2, n2, c2, B2, m2, d2, rfl, r1, r2, r3, r4, hb2⟩
    have e0 : wholeQ ((0 : Nat) : Int) = q := by rw [hq]; rfl
    rw [e0] at r1 r3 ⊢
    have Y2 := Y1.below hb2
    have HF := Lib.hid (rat_end r1 r2 r3 r4 Y2 (by simp) (B1.trans (hb2.mono B1.size)) (by omega))
    have k0 := Y2.c (i := 0) rfl
    have k1 := Y2.c (i := 1) rfl
    have k2 := Y2.c (i := 2) rfl
    have y0 := Y2.frozen 0
    have y1 := Y2.frozen 1
    have y2 := Y2.frozen 2
    clear r1 r3 Y1 Y2 B1 hb2 hq e0
    go_wp2_with fail
    refine bodyPost_ret (v := .agg #[.bool (ineg q.num), .slice A2 n2 c2, .slice B2 m2 d2]) (by simp [results, Tryz.results74, go_sem, k0, k1, k2]) rfl ?_
    exact HF.out
  · have hd : decide (q = 0) = false := by simpa using hq
    simp only [hd] at hz
    have HZ := Lib.hid hz
    have hy : y ≠ 0 := by
      intro e
      apply hq
      rw [← HQ.out]
      exact (rv_is_zero neg x y).2 (.inr e)
    clear hz hd
    go_enter Tryz.func74, Tryz.ntmps74
    go_wp2_with fail
    refine (HZ.out _ hB).mono ?_
    rintro e w1 ⟨rfl, hb1⟩
    have X1 := X0.below hb1
    have Y1 := Y0.below hb1
    have B1 := hB.trans (hb1.mono hB.size)
    have f0 := X1.c (i := 0) rfl
    have f1 := X1.c (i := 1) rfl
    have f2 := X1.c (i := 2) rfl
    have HR := kreduce_any neg A n c x B m d y w1 (HA.out.1.on B1) (HA.out.2.on B1) (by omega) (by omega) hy
    rw [HQ.out] at HR
    have HR := Lib.hid HR
    clear X0 Y0 hb1 hB hq X1
    go_wp2_with fail
    refine HR.out.mono ?_
    rintro e w2 ⟨A2, n2, c2, B2, m2, d2, rfl, r1, r2, r3, r4, hb2⟩
    have Y2 := Y1.below hb2
    have HF := Lib.hid (rat_end r1 r2 r3 r4 Y2 (by simp) (B1.trans (hb2.mono B1.size)) (by omega))
    have k0 := Y2.c (i := 0) rfl
    have k1 := Y2.c (i := 1) rfl
    have k2 := Y2.c (i := 2) rfl
    have y0 := Y2.frozen 0
    have y1 := Y2.frozen 1
    have y2 := Y2.frozen 2
    clear r1 r3 Y1 Y2 B1 hb2
    go_wp2_with fail
    refine bodyPost_ret (v := .agg #[.bool (ineg q.num), .slice A2 n2 c2, .slice B2 m2 d2]) (by simp [results, Tryz.results74, go_sem, k0, k1, k2]) rfl ?_
    exact HF.out
end Go.Proofs.YtjiccijfbpkliaaGreatDoor
