/- Parts of the proof. -/
import Derived.Deep.DrawnRows
import Derived.Test.YtiibocdmlfedkaaGreatDoorH52
namespace Go.Proofs.YtiibocdmlfedkaaGreatDoor
section
open Go.RowKit
attribute [local go_sem ↓] Go.wp_at_zero Go.wp_at_succ
def RetQw (q : Rat) (w W : World) (e : Ending) (w' : World) : Prop :=
 ∃ A n c B m d, e = .returned (.agg #[.bool (ineg q.num), .slice A n c, .slice B m d]) ∧ Sl w' w'.heap.size A n (u32s (limbs q.num.natAbs)) ∧ n ≤ c ∧ Sl w' w'.heap.size B m (u32s (limbs q.den)) ∧ m ≤ d ∧ Below W.heap.size W w' ∧ Below w.heap.size w w'
theorem Blk.put3z {w : World} {g : Nat} {t : TypeId} {u0 u1 u2 : Value} (h : Blk w g t #[.bool false, .slice none 0 0, .slice none 0 0]) : Blk (((w.setCell ⟨g, 0, none⟩ u0).setCell ⟨g, 1, none⟩ u1).setCell ⟨g, 2, none⟩ u2) g t #[u0, u1, u2] := h.put3 u0 u1 u2
theorem Blk.put2z {w : World} {g : Nat} {t : TypeId} {u0 u1 : Value} (h : Blk w g t #[.bool false, .slice none 0 0]) : Blk ((w.setCell ⟨g, 0, none⟩ u0).setCell ⟨g, 1, none⟩ u1) g t #[u0, u1] := (h.set_ 0 u0).set_ 1 u1
theorem Sl.st2 {W : World} {A : Option Addr} {n r : Nat} {l : List Nat} {b : Bool} {B : Option Addr} {n1 c1 : Nat} (h : Sl W W.heap.size A n (u32s l)) (hb : Blk W r 123 #[.bool false, .slice none 0 0]) :
  Sl ((W.setCell ⟨r, 0, none⟩ (.bool b)).setCell ⟨r, 1, none⟩ (.slice B n1 c1)) ((W.setCell ⟨r, 0, none⟩ (.bool b)).setCell ⟨r, 1, none⟩ (.slice B n1 c1)).heap.size A n (u32s l) := by
 have hN := NoU.blk hb (by simp)
 exact (h.no hN 0 _).no (hN.set _ (by simp)) 1 _
theorem Sl.st3 {W : World} {A : Option Addr} {n r : Nat} {l : List Nat} {b : Bool} {B C : Option Addr} {n1 c1 n2 c2 : Nat} (h : Sl W W.heap.size A n (u32s l)) (hb : Blk W r 125 #[.bool false, .slice none 0 0, .slice none 0 0]) :
  Sl (((W.setCell ⟨r, 0, none⟩ (.bool b)).setCell ⟨r, 1, none⟩ (.slice B n1 c1)).setCell ⟨r, 2, none⟩ (.slice C n2 c2)) (((W.setCell ⟨r, 0, none⟩ (.bool b)).setCell ⟨r, 1, none⟩ (.slice B n1 c1)).setCell ⟨r, 2, none⟩ (.slice C n2 c2)).heap.size A n (u32s l) := h.no3 (NoU.blk hb (by simp)) _
def nrm2 (t : Bool) (p q : Rat) (w : World) (s5 s6 : Value) (wx : World) : Prop :=
 ∃ g h A1 n1 c1 B1 m1 d1 A2 n2 c2 B2 m2 d2, s5 = .pointer (some ⟨g, 0, none⟩) ∧ s6 = .pointer (some ⟨h, 0, none⟩) ∧ Blk wx g 125 #[.bool (ineg p.num), .slice A1 n1 c1, .slice B1 m1 d1] ∧ Blk wx h 125 #[.bool (ineg q.num), .slice A2 n2 c2, .slice B2 m2 d2] ∧
  Sl wx wx.heap.size A1 n1 (u32s (limbs p.num.natAbs)) ∧ n1 ≤ c1 ∧ Sl wx wx.heap.size B1 m1 (u32s (limbs p.den)) ∧ m1 ≤ d1 ∧ Sl wx wx.heap.size A2 n2 (u32s (limbs q.num.natAbs)) ∧ n2 ≤ c2 ∧ Sl wx wx.heap.size B2 m2 (u32s (limbs q.den)) ∧ m2 ≤ d2 ∧
  (t = true → Blk wx (w.heap.size + 1 + 1) 125 #[.bool false, .slice none 0 0, .slice none 0 0] ∧ w.heap.size + 1 + 1 < g ∧ w.heap.size + 1 + 1 < h) ∧ Below w.heap.size w wx
theorem nrm2_end {t : Bool} {p q : Rat} {w X wx : World} {g h : Nat} {A1 B1 A2 B2 : Option Addr} {n1 c1 m1 d1 n2 c2 m2 d2 : Nat} (hB : Below w.heap.size w X) (hZ : t = true → Blk X (w.heap.size + 1 + 1) 125 #[.bool false, .slice none 0 0, .slice none 0 0]) (hK : Below X.heap.size X wx)
  (b1 : Blk wx g 125 #[.bool (ineg p.num), .slice A1 n1 c1, .slice B1 m1 d1]) (b2 : Blk wx h 125 #[.bool (ineg q.num), .slice A2 n2 c2, .slice B2 m2 d2])
  (s1 : Sl wx wx.heap.size A1 n1 (u32s (limbs p.num.natAbs))) (e1 : n1 ≤ c1) (s2 : Sl wx wx.heap.size B1 m1 (u32s (limbs p.den))) (e2 : m1 ≤ d1) (s3 : Sl wx wx.heap.size A2 n2 (u32s (limbs q.num.natAbs))) (e3 : n2 ≤ c2) (s4 : Sl wx wx.heap.size B2 m2 (u32s (limbs q.den))) (e4 : m2 ≤ d2)
  (hlt : t = true → w.heap.size + 1 + 1 < g ∧ w.heap.size + 1 + 1 < h) : nrm2 t p q w (.pointer (some ⟨g, 0, none⟩)) (.pointer (some ⟨h, 0, none⟩)) wx :=
 ⟨g, h, A1, n1, c1, B1, m1, d1, A2, n2, c2, B2, m2, d2, rfl, rfl, b1, b2, s1, e1, s2, e2, s3, e3, s4, e4, fun ht => ⟨(hZ ht).below hK, hlt ht⟩, hB.trans (hK.mono hB.size)⟩
def RetZw (i : Int) (X W : World) (e : Ending) (w' : World) : Prop :=
 ∃ A n c, e = .returned (.agg #[.bool (ineg i), .slice A n c]) ∧ Sl w' w'.heap.size A n (u32s (limbs i.natAbs)) ∧ n ≤ c ∧ Below W.heap.size W w' ∧ Below X.heap.size X w'
theorem RetZ.w {i : Int} {X W w' : World} {e : Ending} (h : RetZ i W e w') (hB : Below X.heap.size X W) : RetZw i X W e w' := by
 obtain ⟨A, n, c, h1, h2, h3, h4⟩ := h
 exact ⟨A, n, c, h1, h2, h3, h4, hB.trans (h4.mono hB.size)⟩
theorem jmul_p (i : Int) (y : Nat) (A : Option Addr) (n c : Nat) (B : Option Addr) (m d : Nat) (X : World) (h1 : Sl X X.heap.size A n (u32s (limbs i.natAbs))) (h2 : n ≤ c) (h3 : Sl X X.heap.size B m (u32s (limbs y))) (h4 : m ≤ d) (hn : n ≤ 400000) (hm : m ≤ 400000) (W : World) (hB : Below X.heap.size X W) :
  Calls Tryz.prog 227 #[.agg #[.bool (ineg i), .slice A n c], .agg #[.bool false, .slice B m d]] W (RetZw (i * (y : Int)) X W) := by
 have h := jmul_any (ineg i) A n c i.natAbs false B m d y W (.of_limbs (h1.on hB) h2) (.of_limbs (h3.on hB) h4) hn hm
 rw [sgn_self, sgn_false] at h
 exact h.mono fun _ _ h => h.w hB
theorem six_keepR {X W : World} {g h : Nat} {t s : TypeId} {a b c d e f : Value} (hX : Blk X g t #[a, b, c]) (hY : Blk X h s #[d, e, f]) (hb : Below X.heap.size X W) : W.cell? ⟨g, 0, none⟩ = some a ∧ W.cell? ⟨g, 1, none⟩ = some b ∧ W.cell? ⟨g, 2, none⟩ = some c ∧ W.cell? ⟨h, 0, none⟩ = some d ∧ W.cell? ⟨h, 1, none⟩ = some e ∧ W.cell? ⟨h, 2, none⟩ = some f :=
 six (hX.below hb) (hY.below hb)
end
section
open Go.RowKit
attribute [local go_sem ↓] Go.wp_at_zero Go.wp_at_succ
theorem Blk.far2 {w : World} {g r : Nat} {t : TypeId} {cs : Array Value} (h : Blk w g t cs) (hr : g ≠ r) (u0 u1 : Value) : Blk ((w.setCell ⟨r, 0, none⟩ u0).setCell ⟨r, 1, none⟩ u1) g t cs :=
 (h.far (p := ⟨r, 0, none⟩) hr _).far (p := ⟨r, 1, none⟩) hr _
theorem four {w : World} {g h : Nat} {t s : TypeId} {a b c d : Value} (hX : Blk w g t #[a, b]) (hY : Blk w h s #[c, d]) : w.cell? ⟨g, 0, none⟩ = some a ∧ w.cell? ⟨g, 1, none⟩ = some b ∧ w.cell? ⟨h, 0, none⟩ = some c ∧ w.cell? ⟨h, 1, none⟩ = some d :=
 ⟨hX.c rfl, hX.c rfl, hY.c rfl, hY.c rfl⟩
theorem four_keep {X W : World} {g h : Nat} {t s : TypeId} {a b c d : Value} (hX : Blk X g t #[a, b]) (hY : Blk X h s #[c, d]) (hb : Below X.heap.size X W) : W.cell? ⟨g, 0, none⟩ = some a ∧ W.cell? ⟨g, 1, none⟩ = some b ∧ W.cell? ⟨h, 0, none⟩ = some c ∧ W.cell? ⟨h, 1, none⟩ = some d :=
 four (hX.below hb) (hY.below hb)
def nrmI2 (i j : Int) (w : World) (s5 s6 : Value) (wx : World) : Prop :=
 ∃ g h A1 n1 c1 A2 n2 c2, s5 = .pointer (some ⟨g, 0, none⟩) ∧ s6 = .pointer (some ⟨h, 0, none⟩) ∧ Blk wx g 123 #[.bool (ineg i), .slice A1 n1 c1] ∧ Blk wx h 123 #[.bool (ineg j), .slice A2 n2 c2] ∧
  Sl wx wx.heap.size A1 n1 (u32s (limbs i.natAbs)) ∧ n1 ≤ c1 ∧ Sl wx wx.heap.size A2 n2 (u32s (limbs j.natAbs)) ∧ n2 ≤ c2 ∧ Below w.heap.size w wx
theorem nrmI2_end {i j : Int} {w X wx : World} {g h : Nat} {A1 A2 : Option Addr} {n1 c1 n2 c2 : Nat} (hB : Below w.heap.size w X) (hK : Below X.heap.size X wx)
  (b1 : Blk wx g 123 #[.bool (ineg i), .slice A1 n1 c1]) (b2 : Blk wx h 123 #[.bool (ineg j), .slice A2 n2 c2])
  (s1 : Sl wx wx.heap.size A1 n1 (u32s (limbs i.natAbs))) (e1 : n1 ≤ c1) (s3 : Sl wx wx.heap.size A2 n2 (u32s (limbs j.natAbs))) (e3 : n2 ≤ c2) : nrmI2 i j w (.pointer (some ⟨g, 0, none⟩)) (.pointer (some ⟨h, 0, none⟩)) wx :=
 ⟨g, h, A1, n1, c1, A2, n2, c2, rfl, rfl, b1, b2, s1, e1, s3, e3, hB.trans (hK.mono hB.size)⟩
set_option maxRecDepth 100000 in
set_option maxHeartbeats 6400000 in
theorem jcmp_any (neg : Bool) (A : Option Addr) (n c x : Nat) (neg2 : Bool) (B : Option Addr) (m d y : Nat) (w : World) (ha : NatA w A n c x) (hb : NatA w B m d y) (hn : n ≤ 1000000) (hm : m ≤ 1000000) :
  Calls Tryz.prog 226 #[.agg #[.bool neg, .slice A n c], .agg #[.bool neg2, .slice B m d]] w (RetC (cmpI (sgn neg x) (sgn neg2 y)) w) := by
 have t1 := ha.trimmed.1
 have t2 := hb.trimmed.1
 have hv : ∀ X, Below w.heap.size w X → ∀ W, Below X.heap.size X W → Calls Tryz.prog 246 #[.agg #[.bool neg, .slice A n c]] W (RetZw (sgn neg x) X W) := fun X hX W hB => (jnorm_any neg A n c x W ((ha.on hX).on hB) hn).mono fun _ _ h => h.w hB
 have hu : ∀ X, Below w.heap.size w X → ∀ W, Below X.heap.size X W → Calls Tryz.prog 246 #[.agg #[.bool neg2, .slice B m d]] W (RetZw (sgn neg2 y) X W) := fun X hX W hB => (jnorm_any neg2 B m d y W ((hb.on hX).on hB) hm).mono fun _ _ h => h.w hB
 have a1 : nl (sgn neg x).natAbs ≤ n := by rw [sgn_abs]; exact t1
 have a2 : nl (sgn neg2 y).natAbs ≤ m := by rw [sgn_abs]; exact t2
 generalize sgn neg x = i at *
 generalize sgn neg2 y = j at *
 have hB : Below w.heap.size w ((w.alloc (.cells #[.bool neg, .slice A n c] 123)).alloc (.cells #[.bool neg2, .slice B m d] 123)) := ((Below.refl _ _).alloc (Nat.le_refl _) _).alloc (by simp) _
 have HV := Lib.hid (hv _ hB)
 have HU := Lib.hid (hu _ hB)
 have HB := Lib.hid hB
 have X0 : Blk ((w.alloc (.cells #[.bool neg, .slice A n c] 123)).alloc (.cells #[.bool neg2, .slice B m d] 123)) w.heap.size 123 #[.bool neg, .slice A n c] := (Blk.new w _ _).alloc _
 have Y0 : Blk ((w.alloc (.cells #[.bool neg, .slice A n c] 123)).alloc (.cells #[.bool neg2, .slice B m d] 123)) (w.heap.size + 1) 123 #[.bool neg2, .slice B m d] := Blk.new' (w.alloc (.cells #[.bool neg, .slice A n c] 123)) 123 #[.bool neg2, .slice B m d] (by simp)
 have HX := Lib.hid X0
 have HY := Lib.hid Y0
 clear ha hb hv hu hB X0 Y0 t1 t2
 go_enter Tryz.func226, Tryz.ntmps226
 go_upto_region 1 with fail
 go_cut [5, 6] (fun s5 s6 wx => nrmI2 i j w s5 s6 wx)
 case first =>
  go_region_held3 (fun w' => w'.cell? ⟨w.heap.size, 0, none⟩ = some (.bool neg) ∧ w'.cell? ⟨w.heap.size, 1, none⟩ = some (.slice A n c) ∧ w'.cell? ⟨w.heap.size + 1, 0, none⟩ = some (.bool neg2) ∧ w'.cell? ⟨w.heap.size + 1, 1, none⟩ = some (.slice B m d))
   ((refine four_keep HX.out HY.out ?_; repeat (first | (with_reducible exact Below.refl _ _) | (with_reducible exact hw2) | (with_reducible exact hw1) | (with_reducible refine Below.drew ?_) | (with_reducible refine Below.alo ?_ _) | (with_reducible refine Below.sto ?_ ?_ _) | omega | (simp <;> omega))))
   (first
   | (go_at_call_of 246 (Value.agg #[.bool neg, .slice A n c]); go_must ((refine (HV.out _ (by repeat (first | (with_reducible exact Below.refl _ _) | (with_reducible refine Below.drew ?_) | (with_reducible refine Below.alo ?_ _)))).mono ?_); rintro e w1 ⟨A3, n3, c3, rfl, r1, r2, hb1, hw1⟩; have hz1 := hb1.size; (try simp at hz1); have hz0 : w.heap.size + 1 + 1 ≤ w1.heap.size := (by omega); (try (have hza : w.heap.size + 1 + 1 < w1.heap.size := by omega)); (try (have hzb : w.heap.size + 1 + 1 + 1 < w1.heap.size := by omega)); (try (have hzg : w.heap.size + 1 + 1 < w1.heap.size + 1 := by omega)); (try (have hzh : w.heap.size + 1 + 1 < w1.heap.size + 1 + 1 := by omega)); (try (have hzi : w.heap.size + 1 + 1 + 1 < w1.heap.size + 1 := by omega)); obtain ⟨hcl, hfr⟩ := bcell hb1; have HR1 := Lib.hid r1; clear r1))
   | (go_at_call 246; go_must ((refine (HU.out _ (by repeat (first | (with_reducible exact hw1) | (with_reducible refine Below.drew ?_) | (with_reducible refine Below.alo ?_ _)))).mono ?_); rintro e w2 ⟨A4, n4, c4, rfl, r5, r6, hb2, hw2⟩; have hz2 := hb2.size; (try simp at hz2); have hz3 : w.heap.size + 1 + 1 ≤ w2.heap.size := (by omega); (try (have hzc : w1.heap.size < w2.heap.size := by omega)); (try (have hzd : w1.heap.size + 1 < w2.heap.size := by omega)); (try (have hze : w.heap.size + 1 + 1 < w2.heap.size := by omega)); (try (have hzf : w.heap.size + 1 + 1 + 1 < w2.heap.size := by omega)); obtain ⟨hcl2, hfr2⟩ := bcell hb2; have HR2 := Lib.hid r5; clear r5)))
  all_goals
   go_wp2_with fail
   go_meet
   go_light
   refine nrmI2_end (A1 := A3) (A2 := A4) HB.out ?_ ?_ ?_ ?_ r2 ?_ r6
   ·(repeat (first | (with_reducible exact hw2) | (with_reducible refine Below.alo ?_ _) | (with_reducible refine Below.sto ?_ ?_ _) | omega | (simp <;> omega)))
   ·(repeat (first | (focus ((with_reducible refine Blk.new' _ _ _ ?_); (simp; done))) | (with_reducible refine Blk.put2z ?_) | (with_reducible refine Blk.alloc ?_ _) | (with_reducible refine Blk.far2 ?_ ?_ _ _) | (with_reducible refine Blk.below ?_ hb2) | (with_reducible refine Blk.below ?_ hb1) | (with_reducible refine Blk.drew ?_) | omega | (simp <;> omega)))
   ·(repeat (first | (focus ((with_reducible refine Blk.new' _ _ _ ?_); (simp; done))) | (with_reducible refine Blk.put2z ?_) | (with_reducible refine Blk.alloc ?_ _) | (with_reducible refine Blk.far2 ?_ ?_ _ _) | (with_reducible refine Blk.below ?_ hb2) | (with_reducible refine Blk.below ?_ hb1) | (with_reducible refine Blk.drew ?_) | omega | (simp <;> omega)))
   ·(repeat (first | (with_reducible exact HR1.out) | (with_reducible refine Sl.alo ?_ _) | (with_reducible refine Sl.st2 ?_ ?_) | (with_reducible refine Sl.on ?_ hb2) | (focus ((with_reducible refine Blk.new' _ _ _ ?_); (simp; done))) | (with_reducible refine Blk.alloc ?_ _) | (with_reducible refine Blk.far2 ?_ ?_ _ _) | (with_reducible refine Blk.below ?_ hb2) | (with_reducible refine Blk.below ?_ hb1) | (with_reducible refine Sl.drew ?_) | (with_reducible refine Blk.drew ?_) | omega | (simp <;> omega)))
   ·(repeat (first | (with_reducible exact HR2.out) | (with_reducible refine Sl.alo ?_ _) | (with_reducible refine Sl.st2 ?_ ?_) | (with_reducible refine Sl.on ?_ hb2) | (focus ((with_reducible refine Blk.new' _ _ _ ?_); (simp; done))) | (with_reducible refine Blk.alloc ?_ _) | (with_reducible refine Blk.far2 ?_ ?_ _ _) | (with_reducible refine Blk.below ?_ hb2) | (with_reducible refine Blk.below ?_ hb1) | (with_reducible refine Sl.drew ?_) | (with_reducible refine Blk.drew ?_) | omega | (simp <;> omega)))
 case rest =>
  clear HX HY HV HU HB
  obtain ⟨g, h, A1, n1, c1, A2, n2, c2, rfl, rfl, hX, hY, s1, e1, s2, e2, hbel⟩ := hcut
  have l1 : n1 ≤ 1000000 := by rw [← s1.ulen]; exact Nat.le_trans a1 hn
  have l2 : n2 ≤ 1000000 := by rw [← s2.ulen]; exact Nat.le_trans a2 hm
  obtain ⟨i0, i1, i2, i3⟩ := four hX hY
  have HS := Lib.hid (And.intro s1 s2)
  clear hX hY s1 s2 a1 a2
  cases hi : ineg i <;> cases hj : ineg j
  ·have HE := Lib.hid (cmpI_ff (ineg_false hi) (ineg_false hj))
   rw [hi] at i0
   rw [hj] at i2
   clear hi hj
   go_wp2_with (go_at_call 247; go_must ((refine (rf_cmp A1 A2 n1 n2 c1 c2 i.natAbs j.natAbs _ (.of_limbs HS.out.1 e1) (.of_limbs HS.out.2 e2) (by omega) (by omega)).mono ?_); rintro e w' ⟨rfl, rfl⟩))
   go_ret
   exact ⟨by rw [HE.out]; rfl, hbel⟩
  ·have HE := Lib.hid (cmpI_gt (i := i) (j := j) (by have := ineg_false hi; have := ineg_true hj; omega))
   rw [hi] at i0
   rw [hj] at i2
   clear hi hj
   go_wp2_with fail
   go_ret
   exact ⟨by rw [HE.out]; rfl, hbel⟩
  ·have HE := Lib.hid (cmpI_lt (i := i) (j := j) (by have := ineg_true hi; have := ineg_false hj; omega))
   rw [hi] at i0
   rw [hj] at i2
   clear hi hj
   go_wp2_with fail
   go_ret
   exact ⟨by rw [HE.out]; rfl, hbel⟩
  ·have HE := Lib.hid (cmpI_tt (ineg_true hi) (ineg_true hj))
   rw [hi] at i0
   rw [hj] at i2
   clear hi hj
   go_wp2_with (go_at_call 247; go_must ((refine (rf_cmp A2 A1 n2 n1 c2 c1 j.natAbs i.natAbs _ (.of_limbs HS.out.2 e2) (.of_limbs HS.out.1 e1) (by omega) (by omega)).mono ?_); rintro e w' ⟨rfl, rfl⟩))
   go_ret
   exact ⟨by rw [HE.out]; rfl, hbel⟩
set_option maxRecDepth 100000 in
set_option maxHeartbeats 6400000 in
theorem kcmp_any (v u : Value) (j k : Nat) (p q : Rat) (w : World) (ha : RatA w v j p) (hb : RatA w u k q) (hj : 1 ≤ j) (hk : 1 ≤ k) (hj2 : j ≤ 40000) (hk2 : k ≤ 40000) :
  Calls Tryz.prog 207 #[v, u] w (RetCz p q w) := by
 have hv : ∀ X, Below w.heap.size w X → ∀ W, Below X.heap.size X W → Calls Tryz.prog 225 #[v] W (RetQw p X W) := fun X hX W hB => (knorm_any v j p W ((ha.on hX).on hB) (by omega)).mono fun _ _ ⟨A, n, c, B, m, d, h1, h2, h3, h4, h5, h6⟩ => ⟨A, n, c, B, m, d, h1, h2, h3, h4, h5, h6, hB.trans (h6.mono hB.size)⟩
 have hu : ∀ X, Below w.heap.size w X → ∀ W, Below X.heap.size X W → Calls Tryz.prog 225 #[u] W (RetQw q X W) := fun X hX W hB => (knorm_any u k q W ((hb.on hX).on hB) (by omega)).mono fun _ _ ⟨A, n, c, B, m, d, h1, h2, h3, h4, h5, h6⟩ => ⟨A, n, c, B, m, d, h1, h2, h3, h4, h5, h6, hB.trans (h6.mono hB.size)⟩
 obtain ⟨qp1, qp2⟩ := ha.qk hj
 obtain ⟨qq1, qq2⟩ := hb.qk hk
 obtain ⟨neg, A, n, c, B, m, d, x, y, rfl, h1, h2, h3, h4, h5⟩ := ha
 obtain ⟨neg2, A2, n2, c2, B2, m2, d2, x2, y2, rfl, g1, g2, g3, g4, g5⟩ := hb
 have hB : Below w.heap.size w ((w.alloc (.cells #[.bool neg, .slice A n c, .slice B m d] 125)).alloc (.cells #[.bool neg2, .slice A2 n2 c2, .slice B2 m2 d2] 125)) := ((Below.refl _ _).alloc (Nat.le_refl _) _).alloc (by simp) _
 have HV := Lib.hid (hv _ hB)
 have HU := Lib.hid (hu _ hB)
 have HB := Lib.hid hB
 have X0 : Blk ((w.alloc (.cells #[.bool neg, .slice A n c, .slice B m d] 125)).alloc (.cells #[.bool neg2, .slice A2 n2 c2, .slice B2 m2 d2] 125)) w.heap.size 125 #[.bool neg, .slice A n c, .slice B m d] := (Blk.new w _ _).alloc _
 have Y0 : Blk ((w.alloc (.cells #[.bool neg, .slice A n c, .slice B m d] 125)).alloc (.cells #[.bool neg2, .slice A2 n2 c2, .slice B2 m2 d2] 125)) (w.heap.size + 1) 125 #[.bool neg2, .slice A2 n2 c2, .slice B2 m2 d2] := Blk.new' (w.alloc (.cells #[.bool neg, .slice A n c, .slice B m d] 125)) 125 #[.bool neg2, .slice A2 n2 c2, .slice B2 m2 d2] (by simp)
 have HX := Lib.hid X0
 have HY := Lib.hid Y0
 clear h1 h2 h3 h4 h5 g1 g2 g3 g4 g5 hv hu hB X0 Y0
 go_enter Tryz.func207, Tryz.ntmps207
 go_upto_region 1 with fail
 go_cut [5, 6] (fun s5 s6 wx => nrm2 false p q w s5 s6 wx)
 case first =>
  go_region_held3 (fun w' => w'.cell? ⟨w.heap.size, 0, none⟩ = some (.bool neg) ∧ w'.cell? ⟨w.heap.size, 1, none⟩ = some (.slice A n c) ∧ w'.cell? ⟨w.heap.size, 2, none⟩ = some (.slice B m d) ∧ w'.cell? ⟨w.heap.size + 1, 0, none⟩ = some (.bool neg2) ∧ w'.cell? ⟨w.heap.size + 1, 1, none⟩ = some (.slice A2 n2 c2) ∧ w'.cell? ⟨w.heap.size + 1, 2, none⟩ = some (.slice B2 m2 d2))
   ((refine six_keepR HX.out HY.out ?_; repeat (first | (with_reducible exact Below.refl _ _) | (with_reducible exact hw2) | (with_reducible exact hw1) | (with_reducible refine Below.drew ?_) | (with_reducible refine Below.alo ?_ _) | (with_reducible refine Below.sto ?_ ?_ _) | omega | (simp <;> omega))))
   (first
   | (go_at_call_of 225 (Value.agg #[.bool neg, .slice A n c, .slice B m d]); go_must ((refine (HV.out _ (by repeat (first | (with_reducible exact Below.refl _ _) | (with_reducible refine Below.drew ?_) | (with_reducible refine Below.alo ?_ _)))).mono ?_); rintro e w1 ⟨A3, n3, c3, B3, m3, d3, rfl, r1, r2, r3, r4, hb1, hw1⟩; have hz1 := hb1.size; (try simp at hz1); have hz0 : w.heap.size + 1 + 1 ≤ w1.heap.size := (by omega); (try (have hza : w.heap.size + 1 + 1 < w1.heap.size := by omega)); (try (have hzb : w.heap.size + 1 + 1 + 1 < w1.heap.size := by omega)); (try (have hzg : w.heap.size + 1 + 1 < w1.heap.size + 1 := by omega)); (try (have hzh : w.heap.size + 1 + 1 < w1.heap.size + 1 + 1 := by omega)); (try (have hzi : w.heap.size + 1 + 1 + 1 < w1.heap.size + 1 := by omega)); obtain ⟨hcl, hfr⟩ := bcell hb1; have HR1 := Lib.hid (And.intro r1 r3); clear r1 r3))
   | (go_at_call 225; go_must ((refine (HU.out _ (by repeat (first | (with_reducible exact hw1) | (with_reducible refine Below.drew ?_) | (with_reducible refine Below.alo ?_ _)))).mono ?_); rintro e w2 ⟨A4, n4, c4, B4, m4, d4, rfl, r5, r6, r7, r8, hb2, hw2⟩; have hz2 := hb2.size; (try simp at hz2); have hz3 : w.heap.size + 1 + 1 ≤ w2.heap.size := (by omega); (try (have hzc : w1.heap.size < w2.heap.size := by omega)); (try (have hzd : w1.heap.size + 1 < w2.heap.size := by omega)); (try (have hze : w.heap.size + 1 + 1 < w2.heap.size := by omega)); (try (have hzf : w.heap.size + 1 + 1 + 1 < w2.heap.size := by omega)); obtain ⟨hcl2, hfr2⟩ := bcell hb2; have HR2 := Lib.hid (And.intro r5 r7); clear r5 r7)))
  all_goals
   go_wp2_with fail
   go_meet
   go_light
   refine nrm2_end (t := false) (A1 := A3) (B1 := B3) (A2 := A4) (B2 := B4) HB.out (fun h => by cases h) ?_ ?_ ?_ ?_ r2 ?_ r4 ?_ r6 ?_ r8 (fun h => by cases h)
   ·(repeat (first | (with_reducible exact hw2) | (with_reducible refine Below.alo ?_ _) | (with_reducible refine Below.sto ?_ ?_ _) | omega | (simp <;> omega)))
   ·(repeat (first | (focus ((with_reducible refine Blk.new' _ _ _ ?_); (simp; done))) | (with_reducible refine Blk.put3z ?_) | (with_reducible refine Blk.alloc ?_ _) | (with_reducible refine Blk.far3 ?_ ?_ _ _ _) | (with_reducible refine Blk.below ?_ hb2) | (with_reducible refine Blk.below ?_ hb1) | (with_reducible refine Blk.drew ?_) | omega | (simp <;> omega)))
   ·(repeat (first | (focus ((with_reducible refine Blk.new' _ _ _ ?_); (simp; done))) | (with_reducible refine Blk.put3z ?_) | (with_reducible refine Blk.alloc ?_ _) | (with_reducible refine Blk.far3 ?_ ?_ _ _ _) | (with_reducible refine Blk.below ?_ hb2) | (with_reducible refine Blk.below ?_ hb1) | (with_reducible refine Blk.drew ?_) | omega | (simp <;> omega)))
   ·(repeat (first | (with_reducible exact HR1.out.1) | (with_reducible refine Sl.alo ?_ _) | (with_reducible refine Sl.st3 ?_ ?_) | (with_reducible refine Sl.on ?_ hb2) | (focus ((with_reducible refine Blk.new' _ _ _ ?_); (simp; done))) | (with_reducible refine Blk.alloc ?_ _) | (with_reducible refine Blk.far3 ?_ ?_ _ _ _) | (with_reducible refine Blk.below ?_ hb2) | (with_reducible refine Blk.below ?_ hb1) | (with_reducible refine Sl.drew ?_) | (with_reducible refine Blk.drew ?_) | omega | (simp <;> omega)))
   ·(repeat (first | (with_reducible exact HR1.out.2) | (with_reducible refine Sl.alo ?_ _) | (with_reducible refine Sl.st3 ?_ ?_) | (with_reducible refine Sl.on ?_ hb2) | (focus ((with_reducible refine Blk.new' _ _ _ ?_); (simp; done))) | (with_reducible refine Blk.alloc ?_ _) | (with_reducible refine Blk.far3 ?_ ?_ _ _ _) | (with_reducible refine Blk.below ?_ hb2) | (with_reducible refine Blk.below ?_ hb1) | (with_reducible refine Sl.drew ?_) | (with_reducible refine Blk.drew ?_) | omega | (simp <;> omega)))
   ·(repeat (first | (with_reducible exact HR2.out.1) | (with_reducible refine Sl.alo ?_ _) | (with_reducible refine Sl.st3 ?_ ?_) | (with_reducible refine Sl.on ?_ hb2) | (focus ((with_reducible refine Blk.new' _ _ _ ?_); (simp; done))) | (with_reducible refine Blk.alloc ?_ _) | (with_reducible refine Blk.far3 ?_ ?_ _ _ _) | (with_reducible refine Blk.below ?_ hb2) | (with_reducible refine Blk.below ?_ hb1) | (with_reducible refine Sl.drew ?_) | (with_reducible refine Blk.drew ?_) | omega | (simp <;> omega)))
   ·(repeat (first | (with_reducible exact HR2.out.2) | (with_reducible refine Sl.alo ?_ _) | (with_reducible refine Sl.st3 ?_ ?_) | (with_reducible refine Sl.on ?_ hb2) | (focus ((with_reducible refine Blk.new' _ _ _ ?_); (simp; done))) | (with_reducible refine Blk.alloc ?_ _) | (with_reducible refine Blk.far3 ?_ ?_ _ _ _) | (with_reducible refine Blk.below ?_ hb2) | (with_reducible refine Blk.below ?_ hb1) | (with_reducible refine Sl.drew ?_) | (with_reducible refine Blk.drew ?_) | omega | (simp <;> omega)))
 case rest =>
  clear HX HY HV HU HB
  obtain ⟨g, h, A1, n1, c1, B1, m1, d1, A3, n3, c3, B3, m3, d3, rfl, rfl, hX, hY, s1, e1, s2, e2, s3, e3, s4, e4, _, hbel⟩ := hcut
  have HX := Lib.hid hX
  have HY := Lib.hid hY
  have l1 : n1 ≤ j := by rw [← s1.ulen]; exact qp1
  have l2 : m1 ≤ j := by rw [← s2.ulen]; exact qp2
  have l3 : n3 ≤ k := by rw [← s3.ulen]; exact qq1
  have l4 : m3 ≤ k := by rw [← s4.ulen]; exact qq2
  obtain ⟨i0, i1, i2, i3, i4, i5⟩ := six hX hY
  have hgw := hX.lt
  have hhw := hY.lt
  have HM1 := Lib.hid (jmul_p p.num q.den A1 n1 c1 B3 m3 d3 wc s1 e1 s4 e4 (by omega) (by omega))
  have HM2 := Lib.hid (jmul_p q.num p.den A3 n3 c3 B1 m1 d1 wc s3 e3 s2 e2 (by omega) (by omega))
  have b1 : nl (p.num * (q.den : Int)).natAbs ≤ j + k := nl_abs_mul _ _ qp1 (by simpa using qq2)
  have b2 : nl (q.num * (p.den : Int)).natAbs ≤ j + k := by rw [Nat.add_comm]; exact nl_abs_mul _ _ qq1 (by simpa using qp2)
  have HE : Hid (cmpI (p.num * (q.den : Int)) (q.num * (p.den : Int)) = 0 ↔ p = q) := by
   rw [Hid, cmpI_zero]
   conv => rhs; rw [← rv_self p, ← rv_self q]
   rw [rv_eq p.den_nz q.den_nz]
  generalize p.num * (q.den : Int) = I at *
  generalize q.num * (p.den : Int) = J at *
  clear hX hY s1 s2 s3 s4
  go_wp2_with fail
  go_region_held3 (fun w' => w'.cell? ⟨g, 0, none⟩ = some (.bool (ineg p.num)) ∧ w'.cell? ⟨g, 1, none⟩ = some (.slice A1 n1 c1) ∧ w'.cell? ⟨g, 2, none⟩ = some (.slice B1 m1 d1) ∧ w'.cell? ⟨h, 0, none⟩ = some (.bool (ineg q.num)) ∧ w'.cell? ⟨h, 1, none⟩ = some (.slice A3 n3 c3) ∧ w'.cell? ⟨h, 2, none⟩ = some (.slice B3 m3 d3))
   ((refine six_keepR HX.out HY.out ?_; repeat (first | (with_reducible exact Below.refl _ _) | (with_reducible exact hw3) | (with_reducible exact hw2) | (with_reducible exact hw1) | (with_reducible refine Below.drew ?_))))
   (first
   | (go_at_call_of 227 (Value.agg #[.bool (ineg p.num), .slice A1 n1 c1]); go_must ((refine (HM1.out _ (by repeat (first | (with_reducible exact Below.refl _ _) | (with_reducible refine Below.drew ?_)))).mono ?_); rintro e w1 ⟨A5, n5, c5, rfl, r1, r2, hb1, hw1⟩; have HS1 := Lib.hid r1; have lr1 : n5 ≤ j + k := (by rw [← r1.ulen]; exact b1); clear r1))
   | (go_at_call_of 227 (Value.agg #[.bool (ineg q.num), .slice A3 n3 c3]); go_must ((refine (HM2.out _ (by repeat (first | (with_reducible exact hw1) | (with_reducible refine Below.drew ?_)))).mono ?_); rintro e w2 ⟨A6, n6, c6, rfl, r3, r4, hb2, hw2⟩; have HS2 := Lib.hid (And.intro (HS1.out.on (show Below w1.heap.size w1 w2 from ⟨hb2.os, hb2.tape, hb2.output, hb2.size, hb2.block⟩)) r3); have lr2 : n6 ≤ j + k := (by rw [← r3.ulen]; exact b2); clear r3))
   | (go_at_call 226; go_must ((refine (jcmp_any (ineg I) A5 n5 c5 I.natAbs (ineg J) A6 n6 c6 J.natAbs _ (by exact .of_limbs HS2.out.1 r2) (by exact .of_limbs HS2.out.2 r4) (by omega) (by omega)).mono ?_); rintro e w3 ⟨rfl, hb3⟩; rw [sgn_self, sgn_self]; have hw3 : Below wc.heap.size wc w3 := hw2.trans (Below.mono (show Below w2.heap.size w2 w3 from ⟨hb3.os, hb3.tape, hb3.output, hb3.size, hb3.block⟩) hw2.size))))
  go_wp2_with fail
  go_ret
  exact ⟨_, rfl, HE.out, hbel.trans (hw3.mono hbel.size)⟩
end
section
open Go.RowKit
open Go.Lib hiding intOf
theorem rdigit_any (b : UInt8) (w : World) : Calls Tryz.prog 121 #[.int .u8 (b.toNat : Int)] w fun e w' => e = .returned (.bool (isDig b)) ∧ w = w' := by
 cases hd : isDig b
 ·rcases isDig_false.1 hd with h | h
  ·have d1 : decide ((48 : Int) ≤ (b.toNat : Int)) = false := by simp; omega
   clear hd
   go_enter Tryz.func121, Tryz.ntmps121
   go_wp2
   go_ret
   exact ⟨rfl, rfl⟩
  ·have d1 : decide ((48 : Int) ≤ (b.toNat : Int)) = true := by simp; omega
   have d2 : decide ((b.toNat : Int) ≤ 57) = false := by simp; omega
   clear hd
   go_enter Tryz.func121, Tryz.ntmps121
   go_wp2
   go_ret
   exact ⟨rfl, rfl⟩
 ·obtain ⟨h1, h2⟩ := isDig_true.1 hd
  have d1 : decide ((48 : Int) ≤ (b.toNat : Int)) = true := by simp; omega
  have d2 : decide ((b.toNat : Int) ≤ 57) = true := by simp; omega
  clear hd
  go_enter Tryz.func121, Tryz.ntmps121
  go_wp2
  go_ret
  exact ⟨rfl, rfl⟩
set_option maxRecDepth 100000 in
set_option maxHeartbeats 3200000 in
theorem rname_any (s : ByteArray) (w : World) (hs : s.size ≤ 9223372036854775807) :
  Calls Tryz.prog 87 #[.string s] w fun e w' => e = .returned (.bool (nameOk s.data.toList)) ∧ w = w' := by
 have HL := Lib.hid (size_eq s)
 by_cases h1 : s.size = 0
 ·have HE : Hid (nameOk s.data.toList = false) := by
   cases h : nameOk s.data.toList
   ·rfl
   ·have := (nameOk_iff.1 h).1
    rw [← HL.out] at this
    omega
  obtain ⟨e1, e2⟩ := empty_of s h1
  clear h1
  go_enter Tryz.func87, Tryz.ntmps87
  go_wp2
  go_ret
  exact ⟨by rw [HE.out]; rfl, rfl⟩
 have hpos : 0 < s.size := by omega
 obtain ⟨e1, e2⟩ := full_of s hpos
 by_cases h2 : 24 < s.size
 ·have HE : Hid (nameOk s.data.toList = false) := by
   cases h : nameOk s.data.toList
   ·rfl
   ·have := (nameOk_iff.1 h).2.1
    rw [← HL.out] at this
    omega
  have h2' : decide ((24 : Int) < (s.size : Int)) = true := by simp; omega
  go_enter Tryz.func87, Tryz.ntmps87
  go_wp2
  go_ret
  exact ⟨by rw [HE.out]; rfl, rfl⟩
 have h2' : decide ((24 : Int) < (s.size : Int)) = false := by simp; omega
 by_cases h3 : s.data.toList = [109, 105, 110]
 ·have HE : Hid (nameOk s.data.toList = false) := by rw [Hid, h3]; decide
  have h3' : (s.toList == [109, 105, 110]) = true := by rw [toList_data, h3]; rfl
  clear h3
  go_enter Tryz.func87, Tryz.ntmps87
  go_wp2
  go_ret
  exact ⟨by rw [HE.out]; rfl, rfl⟩
 have h3' := ne_min h3
 by_cases h4 : s.data.toList = [109, 97, 120]
 ·have HE : Hid (nameOk s.data.toList = false) := by rw [Hid, h4]; decide
  have h4' : (s.toList == [109, 97, 120]) = true := by rw [toList_data, h4]; rfl
  clear h4 h3
  go_enter Tryz.func87, Tryz.ntmps87
  go_wp2
  go_ret
  exact ⟨by rw [HE.out]; rfl, rfl⟩
 have h4' := ne_max h4
 obtain ⟨b0, hb0⟩ : ∃ b, s[0] = b := ⟨_, rfl⟩
 have hat := at_data s 0 hpos
 rw [hb0] at hat
 have HB0 := Lib.hid hat
 have HN34 := Lib.hid (And.intro h3 h4)
 clear hat h3 h4
 by_cases hlo : 97 ≤ b0.toNat ∧ b0.toNat ≤ 122
 ·have d1 : decide ((b0.toNat : Int) < 97) = false := by simp; omega
  have d2 : decide ((122 : Int) < (b0.toNat : Int)) = false := by simp; omega
  have HLO := Lib.hid hlo
  clear hlo
  go_enter Tryz.func87, Tryz.ntmps87
  go_wp2
  clear h3' h4' d1 d2 h2' e1 e2
  go_loop [3] (fun i => ∃ k : Nat, k ≤ s.size ∧ i = .int .i64 (k : Int) ∧ Hid (nameUp s.data.toList k)) (fun i => s.size - (intOf i).toNat)
  case atStart => exact ⟨0, Nat.zero_le _, rfl, fun j b hj => by omega⟩
  case round =>
   obtain ⟨k, hk, rfl, hup⟩ := hrel
   by_cases hlt : k < s.size
   ·obtain ⟨b, hb⟩ : ∃ b, s[k] = b := ⟨_, rfl⟩
    have hbk := at_data s k hlt
    rw [hb] at hbk
    have HB' := Lib.hid hbk
    have hbz : k = 0 → b = b0 := fun e => by
     subst e
     have h := HB0.out
     rw [hbk] at h
     exact Option.some.inj h
    clear hbk
    cases hdg : isDig b
    ·have hdn := isDig_false.1 hdg
     by_cases hu : b = 95
     ·have HN : Hid (nameB (decide (k = 0)) b = true) := by
       have hk0 : ¬ k = 0 := fun e => by have h1 := hbz e; have h := HLO.out; rw [← h1, hu] at h; exact absurd h.1 (by decide)
       simp [Hid, nameB, hk0, hu]
      have u1 : ((b.toNat : Int) != 95) = false := by rw [hu]; rfl
      clear hbz hdn hu
      go_wp2_with (go_at_call 121; go_must ((refine (rdigit_any _ _).mono ?_); rintro e w' ⟨rfl, rfl⟩; rw [hdg]))
      go_round
      case rel => exact ⟨k + 1, by omega, by go_num, nameUp_succ hup.out HB'.out HN.out⟩
      case measure => simp [intOf]; omega
     ·have u1 : ((b.toNat : Int) != 95) = true := by
       rw [bne_iff_ne]
       intro e
       exact hu (UInt8.toNat_inj.1 (by show b.toNat = 95; omega))
      by_cases hl : 97 ≤ b.toNat ∧ b.toNat ≤ 122
      ·have HN : Hid (nameB (decide (k = 0)) b = true) := by simp [Hid, nameB, isLow, hl]
       have q1 : decide ((b.toNat : Int) < 97) = false := by simp; omega
       have q2 : decide ((122 : Int) < (b.toNat : Int)) = false := by simp; omega
       clear hbz hdn hl hu
       go_wp2_with (go_at_call 121; go_must ((refine (rdigit_any _ _).mono ?_); rintro e w' ⟨rfl, rfl⟩; rw [hdg]))
       go_round
       case rel => exact ⟨k + 1, by omega, by go_num, nameUp_succ hup.out HB'.out HN.out⟩
       case measure => simp [intOf]; omega
      ·have hnl : isLow b = false := by
        cases h : isLow b
        ·rfl
        ·exact absurd (by simpa [isLow] using h) hl
       have HN : Hid (nameOk s.data.toList = false) := nameOk_no HB'.out (by simp [nameB, hnl, hdg, hu])
       have hc : decide ((b.toNat : Int) < 97) = true ∨ (decide ((b.toNat : Int) < 97) = false ∧ decide ((122 : Int) < (b.toNat : Int)) = true) := by
        by_cases h : 97 ≤ b.toNat
        ·exact .inr ⟨by simp; omega, by simp; omega⟩
        ·exact .inl (by simp; omega)
       clear hbz hdn hl hu hnl
       rcases hc with q1 | ⟨q1, q2⟩
       all_goals
        go_wp2_with (go_at_call 121; go_must ((refine (rdigit_any _ _).mono ?_); rintro e w' ⟨rfl, rfl⟩; rw [hdg]))
        go_ret
        exact ⟨by rw [HN.out]; rfl, rfl⟩
    ·have HN : Hid (nameB (decide (k = 0)) b = true) := by
      have hk0 : ¬ k = 0 := fun e => by have h1 := hbz e; have h := HLO.out; rw [← h1] at h; have := isDig_true.1 hdg; omega
      simp [Hid, nameB, hk0, hdg]
     clear hbz
     go_wp2_with (go_at_call 121; go_must ((refine (rdigit_any _ _).mono ?_); rintro e w' ⟨rfl, rfl⟩; rw [hdg]))
     go_round
     case rel => exact ⟨k + 1, by omega, by go_num, nameUp_succ hup.out HB'.out HN.out⟩
     case measure => simp [intOf]; omega
   ·obtain rfl : k = s.size := by omega
    have HE : Hid (nameOk s.data.toList = true) := by
     refine nameOk_iff.2 ⟨by rw [← HL.out]; omega, by rw [← HL.out]; omega, HN34.out.1, HN34.out.2, ?_⟩
     rw [← HL.out]
     exact hup.out
    go_wp2
    go_ret
    exact ⟨by rw [HE.out]; rfl, rfl⟩
 ·have hnl : isLow b0 = false := by
   cases h : isLow b0
   ·rfl
   ·exact absurd (by simpa [isLow] using h) hlo
  have HN : Hid (nameOk s.data.toList = false) := nameOk_no HB0.out (by simp [nameB, hnl])
  have hc : decide ((b0.toNat : Int) < 97) = true ∨ (decide ((b0.toNat : Int) < 97) = false ∧ decide ((122 : Int) < (b0.toNat : Int)) = true) := by
   by_cases h : 97 ≤ b0.toNat
   ·exact .inr ⟨by simp; omega, by simp; omega⟩
   ·exact .inl (by simp; omega)
  clear hlo hnl
  rcases hc with q1 | ⟨q1, q2⟩
  all_goals
   go_enter Tryz.func87, Tryz.ntmps87
   go_wp2
   go_ret
   exact ⟨by rw [HN.out]; rfl, rfl⟩
end
section
open Go.RowKit
open Go.Lib hiding intOf
def RetQb (q : Rat) (w : World) (e : Ending) (w' : World) : Prop :=
 ∃ A n c B m d, e = .returned (.tuple #[.agg #[.bool (ineg q.num), .slice A n c, .slice B m d], .bool true]) ∧ Sl w' w'.heap.size A n (u32s (limbs q.num.natAbs)) ∧ n ≤ c ∧ Sl w' w'.heap.size B m (u32s (limbs q.den)) ∧ m ≤ d ∧ Below w.heap.size w w'
theorem RetQb.of {q : Rat} {w w' : World} {v : Value} (h : RetQ q w (.returned v) w') : RetQb q w (.returned (.tuple #[v, .bool true])) w' := by
 obtain ⟨A, n, c, B, m, d, he, h2, h3, h4, h5, h6⟩ := h
 injection he with he
 subst he
 exact ⟨A, n, c, B, m, d, rfl, h2, h3, h4, h5, h6⟩
def RetI0 (x : Nat) (w : World) (e : Ending) (w' : World) : Prop :=
 ∃ A n c, e = .returned (.agg #[.bool false, .slice A n c]) ∧ Sl w' w'.heap.size A n (u32s (limbs x)) ∧ n ≤ c ∧ Below w.heap.size w w'
theorem of_zero (W : World) : Calls Tryz.prog 250 #[.int .i64 0] W (RetI0 0 W) := (jof_pos 0 W (by omega)).mono fun _ _ ⟨A, n, c, h1, h2, h3, h4⟩ => ⟨A, n, c, h1, h2, h3, h4⟩
theorem of_one (W : World) : Calls Tryz.prog 250 #[.int .i64 1] W (RetI0 1 W) := (jof_pos 1 W (by omega)).mono fun _ _ ⟨A, n, c, h1, h2, h3, h4⟩ => ⟨A, n, c, h1, h2, h3, h4⟩
set_option maxRecDepth 100000 in
set_option maxHeartbeats 3200000 in
theorem kof_zero (w : World) : Calls Tryz.prog 228 #[.int .i64 0, .int .i64 1] w (RetQb 0 w) := by
 have hB : Below w.heap.size w (w.alloc (.cells #[.bool false, .slice none 0 0, .slice none 0 0] 125)) := (Below.refl _ _).alloc (Nat.le_refl _) _
 have Y0 : Blk (w.alloc (.cells #[.bool false, .slice none 0 0, .slice none 0 0] 125)) w.heap.size 125 #[.bool false, .slice none 0 0, .slice none 0 0] := Blk.new' _ _ _ rfl
 go_enter Tryz.func228, Tryz.ntmps228
 go_wp2_with fail
 refine (of_zero _).mono ?_
 rintro e w1 ⟨A1, n1, c1, rfl, h1, hc1, hb1⟩
 have Y1 := Y0.below hb1
 have B1 := hB.trans (hb1.mono hB.size)
 have hsz1 : w.heap.size < w1.heap.size := Y1.lt
 clear Y0 hB hb1
 go_wp2_with fail
 refine (of_one _).mono ?_
 rintro e w2 ⟨A2, n2, c2, rfl, h2, hc2, hb2⟩
 have Y2 := Y1.below hb2
 have B2 := B1.trans (hb2.mono B1.size)
 have h1' := h1.on hb2
 have hsz2 : w.heap.size < w2.heap.size := Y2.lt
 have HW := Lib.hid (Below.alo (Below.alo B2 (.cells #[.bool false, .slice A1 n1 c1] 123)) (.cells #[.bool false, .slice A2 n2 c2] 123))
 have HY := Lib.hid ((Y2.alloc (.cells #[.bool false, .slice A1 n1 c1] 123)).alloc (.cells #[.bool false, .slice A2 n2 c2] 123))
 have HS := Lib.hid (And.intro ((h1'.alo (.cells #[.bool false, .slice A1 n1 c1] 123)).alo (.cells #[.bool false, .slice A2 n2 c2] 123)) ((h2.alo (.cells #[.bool false, .slice A1 n1 c1] 123)).alo (.cells #[.bool false, .slice A2 n2 c2] 123)))
 have l1 : n1 ≤ 100000 := by rw [← h1.ulen]; exact Nat.le_trans (nl_small (by unfold bs; decide)) (by omega)
 have l2 : n2 ≤ 100000 := by rw [← h2.ulen]; exact Nat.le_trans (nl_small (by unfold bs; decide)) (by omega)
 have HR := kreduce_any false A1 n1 c1 0 A2 n2 c2 1 _ (.of_limbs HS.out.1 hc1) (.of_limbs HS.out.2 hc2) l1 l2 (by omega)
 rw [show rv (sgn false 0) 1 = 0 from rfl] at HR
 have HR := Lib.hid HR
 clear Y1 Y2 B1 B2 h1 h1' h2 hb2
 go_wp2_with fail
 go_fit HR.out
 rintro e w3 ⟨A3, n3, c3, B3, m3, d3, rfl, r1, r2, r3, r4, hb3⟩
 have Y3 := HY.out.below hb3
 have HF := Lib.hid (rat_end r1 r2 r3 r4 Y3 (by simp) (HW.out.trans (hb3.mono HW.out.size)) (Nat.le_refl _))
 have k0 := Y3.c (i := 0) rfl
 have k1 := Y3.c (i := 1) rfl
 have k2 := Y3.c (i := 2) rfl
 have y0 := Y3.frozen 0
 have y1 := Y3.frozen 1
 have y2 := Y3.frozen 2
 clear r1 r3 Y3 hb3
 go_wp2_with fail
 refine bodyPost_ret (v := .tuple #[.agg #[.bool (ineg (0 : Rat).num), .slice A3 n3 c3, .slice B3 m3 d3], .bool true]) (by simp [results, Tryz.results228, go_sem, k0, k1, k2]) rfl ?_
 exact RetQb.of HF.out
theorem RetQ.alo {q : Rat} {w W : World} {v : Value} (h : RetQ q w (.returned v) W) (o : Obj) : RetQ q w (.returned v) (W.alloc o) := by
 obtain ⟨A, n, c, B, m, d, h1, h2, h3, h4, h5, h6⟩ := h
 exact ⟨A, n, c, B, m, d, h1, h2.alo o, h3, h4.alo o, h5, Below.alo h6 o⟩
set_option maxRecDepth 100000 in
set_option maxHeartbeats 1600000 in
theorem gwhole_zero (w : World) : Calls Tryz.prog 208 #[.int .i64 0] w (RetQ 0 w) := by
 have hB : Below w.heap.size w (w.alloc (.cells #[.bool false, .slice none 0 0, .slice none 0 0] 125)) := (Below.refl _ _).alloc (Nat.le_refl _) _
 have Y0 : Blk (w.alloc (.cells #[.bool false, .slice none 0 0, .slice none 0 0] 125)) w.heap.size 125 #[.bool false, .slice none 0 0, .slice none 0 0] := Blk.new' _ _ _ rfl
 go_enter Tryz.func208, Tryz.ntmps208
 go_wp2_with fail
 refine (kof_zero _).mono ?_
 rintro e w1 ⟨A1, n1, c1, B1, m1, d1, rfl, r1, r2, r3, r4, hb1⟩
 have B1' := hB.trans (hb1.mono hB.size)
 have hsz1 : w.heap.size < w1.heap.size := (Y0.below hb1).lt
 have HF := Lib.hid ((rat_end r1 r2 r3 r4 (Y0.below hb1) (by simp) B1' (Nat.le_refl _)).alo (.cells #[.bool (ineg (0 : Rat).num), .slice A1 n1 c1, .slice B1 m1 d1] 125))
 have k0 := (Y0.below hb1).c (i := 0) rfl
 have k1 := (Y0.below hb1).c (i := 1) rfl
 have k2 := (Y0.below hb1).c (i := 2) rfl
 have y0 := (Y0.below hb1).frozen 0
 have y1 := (Y0.below hb1).frozen 1
 have y2 := (Y0.below hb1).frozen 2
 have hne : ¬ w.heap.size = w1.heap.size := by omega
 have hne2 : ¬ w1.heap.size = w.heap.size := by omega
 clear Y0 hB hb1 r1 r3 B1'
 go_wp2_with fail
 refine bodyPost_ret (v := .agg #[.bool (ineg (0 : Rat).num), .slice A1 n1 c1, .slice B1 m1 d1]) (by simp [results, Tryz.results208, go_sem, k0, k1, k2, hsz1]) rfl ?_
 exact HF.out
def gnode (s : ByteArray) : Value := .agg #[.int .i64 2, .bool false, .slice none 0 0, .slice none 0 0, .string s, .slice none 0 0]
set_option maxRecDepth 100000 in
set_option maxHeartbeats 3200000 in
theorem gright_name (s : ByteArray) (w : World) (hs : s.size ≤ 9223372036854775807) :
  Calls Tryz.prog 183 #[gnode s] w fun e w' => e = .returned (.bool (nameOk s.data.toList)) ∧ Below w.heap.size w w' := by
 unfold gnode
 have HN := fun W => rname_any s W hs
 have hB := nodeB w s
 have X0 : Blk (nodeW w s) w.heap.size 128 #[.int .i64 2, .bool false, .slice none 0 0, .slice none 0 0, .string s, .slice none 0 0] := Blk.new w _ _
 have HX := Lib.hid X0
 have HB := Lib.hid hB
 obtain ⟨nk, hnk⟩ : ∃ nk, nameOk s.data.toList = nk := ⟨_, rfl⟩
 simp only [hnk] at HN ⊢
 have HN := Lib.hid HN
 have hlt : w.heap.size < w.heap.size + 1 := by omega
 clear hnk X0 hB
 go_enter Tryz.func183, Tryz.ntmps183
 go_upto_region 1 with fail
 go_cut [3] (fun s3 wx => s3 = .bool true ∧ Below (nodeW w s).heap.size (nodeW w s) wx)
 case first =>
  go_region_held3 (fun w' => w'.cell? ⟨w.heap.size, 1, none⟩ = some (.bool false) ∧ w'.cell? ⟨w.heap.size, 2, none⟩ = some (.slice none 0 0) ∧ w'.cell? ⟨w.heap.size, 3, none⟩ = some (.slice none 0 0))
   (go_keep)
   (first
   | (go_at_call 208; go_must ((refine (gwhole_zero _).mono ?_); rintro e w2 ⟨A2, n2, c2, B2, m2, d2, rfl, r1, r2, r3, r4, hb2⟩; have HB2 := Lib.hid (show Below (nodeW w s).heap.size (nodeW w s) w2 from ⟨hb2.os, hb2.tape, hb2.output, hb2.size, hb2.block⟩); have X2 := HX.out.below HB2.out; have t1 := X2.c (i := 1) rfl; have t2 := X2.c (i := 2) rfl; have t3 := X2.c (i := 3) rfl; have HR := Lib.hid (RatA.of r1 r2 r3 r4 (k := 1) ⟨by rw [show (0 : Rat).num.natAbs = 0 from rfl, nl_zero]; omega, nl_small (by unfold bs; show 1 < _; omega)⟩); clear hb2 X2 r1 r3))
   | (go_at_call 207; go_must ((refine (kcmp_any _ _ 1 1 0 0 w2 (RatA.zero _) HR.out (by omega) (by omega) (by omega) (by omega)).mono ?_); rintro e w3 ⟨cv, rfl, hcv, hb3⟩; obtain rfl : cv = 0 := hcv.2 rfl; have HB3 := Lib.hid (HB2.out.trans (hb3.mono HB2.out.size)); have X3 := HX.out.below HB3.out; have u1 := X3.c (i := 1) rfl; have u2 := X3.c (i := 2) rfl; have u3 := X3.c (i := 3) rfl; clear hb3 X3)))
  all_goals
   go_wp2_with fail
   go_meet
   exact ⟨rfl, HB3.out⟩
 case rest =>
  obtain ⟨rfl, hbx⟩ := hcut
  have X2 := HX.out.below hbx
  have t0 := X2.c (i := 0) rfl
  have t4 := X2.c (i := 4) rfl
  have t5 := X2.c (i := 5) rfl
  have HBX := Lib.hid (HB.out.trans (hbx.mono HB.out.size))
  clear X2 hbx
  cases nk
  all_goals
   go_wp2_with (go_at_call 87; go_must ((refine (HN.out _).mono ?_); rintro e w' ⟨rfl, rfl⟩))
   go_ret
   exact ⟨rfl, HBX.out⟩
end
section
open Go.RowKit
open Go.Lib hiding intOf
set_option maxRecDepth 100000 in
set_option maxHeartbeats 1600000 in
theorem gcheck_name (s : ByteArray) (w : World) (hs : s.size ≤ 9223372036854775807) :
  Calls Tryz.prog 149 #[gnode s, .int .i64 1] w fun e w' => e = .returned (.int .i64 (if nameOk s.data.toList = true then 0 else 1)) ∧ Below w.heap.size w w' := by
 have HN := fun W => gright_name s W hs
 unfold gnode at HN ⊢
 have HB := Lib.hid (nodeB w s)
 have X0 : Blk (nodeW w s) w.heap.size 128 #[.int .i64 2, .bool false, .slice none 0 0, .slice none 0 0, .string s, .slice none 0 0] := Blk.new w _ _
 have HX := Lib.hid X0
 clear X0
 cases hn : nameOk s.data.toList
 ·simp only [hn] at HN
  have HN := Lib.hid HN
  clear hn
  go_enter Tryz.func149, Tryz.ntmps149
  go_wp2_with (go_at_call 183; go_must ((refine (HN.out _).mono ?_); rintro e w' ⟨rfl, hb⟩))
  go_ret
  exact ⟨rfl, HB.out.trans (hb.mono HB.out.size)⟩
 ·simp only [hn] at HN
  have HN := Lib.hid HN
  clear hn
  go_enter Tryz.func149, Tryz.ntmps149
  go_wp2_with (go_at_call 183; go_must ((refine (HN.out _).mono ?_); rintro e w' ⟨rfl, hb⟩; have X1 := (HX.out.below hb).c (i := 5) rfl))
  go_loop [5] (fun i => i = .int .i64 0) (fun _ => 0)
  case atStart => exact rfl
  case round =>
   subst hrel
   go_wp2
   go_ret
   exact ⟨rfl, HB.out.trans (hb.mono HB.out.size)⟩
theorem gCheck_name (s : ByteArray) (w : World) (hs : s.size ≤ 9223372036854775807) :
  Calls Tryz.prog 122 #[gnode s] w fun e w' => e = .returned (.int .i64 (if nameOk s.data.toList = true then 0 else 1)) ∧ Below w.heap.size w w' := by
 have HN := fun W => gcheck_name s W hs
 have HB := Lib.hid (nodeB w s)
 unfold gnode at HN ⊢
 generalize (if nameOk s.data.toList = true then (0 : Int) else 1) = z at HN ⊢
 have HN := Lib.hid HN
 go_enter Tryz.func122, Tryz.ntmps122
 go_wp2_with (go_at_call 149; go_must ((refine (HN.out _).mono ?_); rintro e w' ⟨rfl, hb⟩))
 go_ret
 exact ⟨rfl, HB.out.trans (hb.mono HB.out.size)⟩
set_option maxRecDepth 100000 in
set_option maxHeartbeats 1600000 in
theorem hsize_any (s : ByteArray) (w : World) (hs : s.size ≤ 9223372036854775807) :
  Calls Tryz.prog 116 #[.string s] w fun e w' => e = .returned (.bool (sizeOk s.data.toList)) ∧ w = w' := by
 have hl : s.data.toList.length = s.size := rfl
 have HL := Lib.hid hl
 clear hl
 by_cases h1 : s.size = 0
 ·have HE : Hid (sizeOk s.data.toList = false) := by
   cases hq : sizeOk s.data.toList
   ·rfl
   ·have := (sizeOk_iff.1 hq).1; rw [HL.out] at this; omega
  obtain ⟨e1, e2⟩ := empty_of s h1
  clear h1
  go_enter Tryz.func116, Tryz.ntmps116
  go_wp2
  go_ret
  exact ⟨by rw [HE.out]; rfl, rfl⟩
 have hpos : 0 < s.size := by omega
 obtain ⟨e1, e2⟩ := full_of s hpos
 by_cases h2 : 8 < s.size
 ·have HE : Hid (sizeOk s.data.toList = false) := by
   cases hq : sizeOk s.data.toList
   ·rfl
   ·have := (sizeOk_iff.1 hq).2.1; rw [HL.out] at this; omega
  have h2' : decide ((8 : Int) < (s.size : Int)) = true := by simp; omega
  go_enter Tryz.func116, Tryz.ntmps116
  go_wp2
  go_ret
  exact ⟨by rw [HE.out]; rfl, rfl⟩
 have h2' : decide ((8 : Int) < (s.size : Int)) = false := by simp; omega
 go_enter Tryz.func116, Tryz.ntmps116
 go_wp2
 clear h2' e1 e2
 go_loop [3] (fun i => ∃ k : Nat, k ≤ s.size ∧ i = .int .i64 k ∧ Hid ((s.data.toList.take k).all isCapDig = true)) (fun i => s.size - (intOf i).toNat)
 case atStart => exact ⟨0, Nat.zero_le _, rfl, by rw [Hid]; simp⟩
 case round =>
  obtain ⟨k, hk, rfl, hall⟩ := hrel
  by_cases hlt : k < s.size
  ·obtain ⟨b, hb⟩ : ∃ b, s[k] = b := ⟨_, rfl⟩
   have hat := at_data s k hlt
   rw [hb] at hat
   have HB := Lib.hid hat
   clear hat
   cases hd : isCapDig b
   ·have HE := Lib.hid (sizeOk_no HB.out hd)
    rcases capdig_false hd with h | ⟨h, h'⟩ | h
    ·have q65 : decide ((65 : Int) ≤ (b.toNat : Int)) = false := by simp; omega
     have q90 : decide ((b.toNat : Int) ≤ 90) = true := by simp; omega
     have q48 : decide ((48 : Int) ≤ (b.toNat : Int)) = false := by simp; omega
     have q57 : decide ((b.toNat : Int) ≤ 57) = true := by simp; omega
     clear hd
     go_wp2
     go_ret
     exact ⟨by rw [HE.out]; rfl, rfl⟩
    ·have q65 : decide ((65 : Int) ≤ (b.toNat : Int)) = false := by simp; omega
     have q90 : decide ((b.toNat : Int) ≤ 90) = true := by simp; omega
     have q48 : decide ((48 : Int) ≤ (b.toNat : Int)) = true := by simp; omega
     have q57 : decide ((b.toNat : Int) ≤ 57) = false := by simp; omega
     clear hd
     go_wp2
     go_ret
     exact ⟨by rw [HE.out]; rfl, rfl⟩
    ·have q65 : decide ((65 : Int) ≤ (b.toNat : Int)) = true := by simp; omega
     have q90 : decide ((b.toNat : Int) ≤ 90) = false := by simp; omega
     have q48 : decide ((48 : Int) ≤ (b.toNat : Int)) = true := by simp; omega
     have q57 : decide ((b.toNat : Int) ≤ 57) = false := by simp; omega
     clear hd
     go_wp2
     go_ret
     exact ⟨by rw [HE.out]; rfl, rfl⟩
   ·have HE := Lib.hid (all_take_succ hall.out HB.out hd)
    rcases capdig_true hd with ⟨h1, h2⟩ | ⟨h1, h2⟩
    ·have q65 : decide ((65 : Int) ≤ (b.toNat : Int)) = true := by simp; omega
     have q90 : decide ((b.toNat : Int) ≤ 90) = true := by simp; omega
     have q48 : decide ((48 : Int) ≤ (b.toNat : Int)) = true := by simp; omega
     have q57 : decide ((b.toNat : Int) ≤ 57) = false := by simp; omega
     clear hd
     go_wp2
     go_round
     case rel => exact ⟨k + 1, by omega, by go_num, HE⟩
     case measure => simp [intOf]; omega
    ·have q65 : decide ((65 : Int) ≤ (b.toNat : Int)) = false := by simp; omega
     have q90 : decide ((b.toNat : Int) ≤ 90) = true := by simp; omega
     have q48 : decide ((48 : Int) ≤ (b.toNat : Int)) = true := by simp; omega
     have q57 : decide ((b.toNat : Int) ≤ 57) = true := by simp; omega
     clear hd
     go_wp2
     go_round
     case rel => exact ⟨k + 1, by omega, by go_num, HE⟩
     case measure => simp [intOf]; omega
  ·obtain rfl : k = s.size := by omega
   have ha := hall.out
   rw [show s.data.toList.take s.size = s.data.toList from List.take_of_length_le (Nat.le_refl _)] at ha
   have HE : Hid (sizeOk s.data.toList = true) := sizeOk_iff.2 ⟨by rw [HL.out]; omega, by rw [HL.out]; omega, ha⟩
   clear ha hall
   go_wp2
   go_ret
   exact ⟨by rw [HE.out]; rfl, rfl⟩
end
end Go.Proofs.YtiibocdmlfedkaaGreatDoor
