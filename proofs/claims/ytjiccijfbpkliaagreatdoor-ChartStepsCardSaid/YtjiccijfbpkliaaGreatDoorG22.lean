/-
  Several texts in one: garmentref03: two ratios are brought to normal form in boxes of their own. Conditions: numbers of at most 100,000 limbs. garmentref02.Cmp compares integers, garmentref03.Cmp compares ratios. Conditions: numbers of at most 40,000 limbs. (Printed by gen_rq3.py.) garmentref03.limbs, SameInt, Same (at equal numbers), Light, Neg, Sub. Conditions: numbers of at most 40,000 limbs. garmentref03.Sub, Text. Conditions: numbers of at most 40,000 limbs. (Printed by gen_rq5.py.)
-/
import Derived.Deep.DrawnRows
import Derived.Deep.Light
import Derived.Deep.RegionHeld3
import Derived.Test.YtjiccijfbpkliaaGreatDoorG02
import Derived.Test.YtjiccijfbpkliaaGreatDoorG19
import Derived.Test.YtjiccijfbpkliaaGreatDoorG21

/- garmentref03: two ratios are brought to normal form in boxes of their own. Conditions: numbers of at most 100,000 limbs. -/
namespace Go.Proofs.YtjiccijfbpkliaaGreatDoor
open Go.RowKit
attribute [local go_sem ↓] Go.wp_at_zero Go.wp_at_succ

/-- A ratio in normal form comes back; nothing of w has changed. -/
def RetQw (q : Rat) (w W : World) (e : Ending) (w' : World) : Prop :=
  ∃ A n c B m d, e = .returned (.agg #[.bool (ineg q.num), .slice A n c, .slice B m d]) ∧ Sl w' w'.heap.size A n (u32s (limbs q.num.natAbs)) ∧ n ≤ c ∧ Sl w' w'.heap.size B m (u32s (limbs q.den)) ∧ m ≤ d ∧ Below W.heap.size W w' ∧ Below w.heap.size w w'
theorem Blk.put3z {w : World} {g : Nat} {t : TypeId} {u0 u1 u2 : Value} (h : Blk w g t #[.bool false, .slice none 0 0, .slice none 0 0]) : Blk (((w.setCell ⟨g, 0, none⟩ u0).setCell ⟨g, 1, none⟩ u1).setCell ⟨g, 2, none⟩ u2) g t #[u0, u1, u2] := h.put3 u0 u1 u2
theorem Blk.put2z {w : World} {g : Nat} {t : TypeId} {u0 u1 : Value} (h : Blk w g t #[.bool false, .slice none 0 0]) : Blk ((w.setCell ⟨g, 0, none⟩ u0).setCell ⟨g, 1, none⟩ u1) g t #[u0, u1] := (h.set_ 0 u0).set_ 1 u1
theorem Sl.st2 {W : World} {A : Option Addr} {n r : Nat} {l : List Nat} {b : Bool} {B : Option Addr} {n1 c1 : Nat} (h : Sl W W.heap.size A n (u32s l)) (hb : Blk W r 34 #[.bool false, .slice none 0 0]) :
    Sl ((W.setCell ⟨r, 0, none⟩ (.bool b)).setCell ⟨r, 1, none⟩ (.slice B n1 c1)) ((W.setCell ⟨r, 0, none⟩ (.bool b)).setCell ⟨r, 1, none⟩ (.slice B n1 c1)).heap.size A n (u32s l) := by
  have hN := NoU.blk hb (by simp)
  exact (h.no hN 0 _).no (hN.set _ (by simp)) 1 _
theorem Sl.st3 {W : World} {A : Option Addr} {n r : Nat} {l : List Nat} {b : Bool} {B C : Option Addr} {n1 c1 n2 c2 : Nat} (h : Sl W W.heap.size A n (u32s l)) (hb : Blk W r 36 #[.bool false, .slice none 0 0, .slice none 0 0]) :
    Sl (((W.setCell ⟨r, 0, none⟩ (.bool b)).setCell ⟨r, 1, none⟩ (.slice B n1 c1)).setCell ⟨r, 2, none⟩ (.slice C n2 c2)) (((W.setCell ⟨r, 0, none⟩ (.bool b)).setCell ⟨r, 1, none⟩ (.slice B n1 c1)).setCell ⟨r, 2, none⟩ (.slice C n2 c2)).heap.size A n (u32s l) := h.no3 (NoU.blk hb (by simp)) _
/-- Two ratios stand in normal form in boxes of their own; a result's box is as it was. -/
def nrm2 (t : Bool) (p q : Rat) (w : World) (s5 s6 : Value) (wx : World) : Prop :=
  ∃ g h A1 n1 c1 B1 m1 d1 A2 n2 c2 B2 m2 d2, s5 = .pointer (some ⟨g, 0, none⟩) ∧ s6 = .pointer (some ⟨h, 0, none⟩) ∧ Blk wx g 36 #[.bool (ineg p.num), .slice A1 n1 c1, .slice B1 m1 d1] ∧ Blk wx h 36 #[.bool (ineg q.num), .slice A2 n2 c2, .slice B2 m2 d2] ∧
    Sl wx wx.heap.size A1 n1 (u32s (limbs p.num.natAbs)) ∧ n1 ≤ c1 ∧ Sl wx wx.heap.size B1 m1 (u32s (limbs p.den)) ∧ m1 ≤ d1 ∧ Sl wx wx.heap.size A2 n2 (u32s (limbs q.num.natAbs)) ∧ n2 ≤ c2 ∧ Sl wx wx.heap.size B2 m2 (u32s (limbs q.den)) ∧ m2 ≤ d2 ∧
    (t = true → Blk wx (w.heap.size + 1 + 1) 36 #[.bool false, .slice none 0 0, .slice none 0 0] ∧ w.heap.size + 1 + 1 < g ∧ w.heap.size + 1 + 1 < h) ∧ Below w.heap.size w wx
theorem nrm2_end {t : Bool} {p q : Rat} {w X wx : World} {g h : Nat} {A1 B1 A2 B2 : Option Addr} {n1 c1 m1 d1 n2 c2 m2 d2 : Nat} (hB : Below w.heap.size w X) (hZ : t = true → Blk X (w.heap.size + 1 + 1) 36 #[.bool false, .slice none 0 0, .slice none 0 0]) (hK : Below X.heap.size X wx)
    (b1 : Blk wx g 36 #[.bool (ineg p.num), .slice A1 n1 c1, .slice B1 m1 d1]) (b2 : Blk wx h 36 #[.bool (ineg q.num), .slice A2 n2 c2, .slice B2 m2 d2])
    (s1 : Sl wx wx.heap.size A1 n1 (u32s (limbs p.num.natAbs))) (e1 : n1 ≤ c1) (s2 : Sl wx wx.heap.size B1 m1 (u32s (limbs p.den))) (e2 : m1 ≤ d1) (s3 : Sl wx wx.heap.size A2 n2 (u32s (limbs q.num.natAbs))) (e3 : n2 ≤ c2) (s4 : Sl wx wx.heap.size B2 m2 (u32s (limbs q.den))) (e4 : m2 ≤ d2)
    (hlt : t = true → w.heap.size + 1 + 1 < g ∧ w.heap.size + 1 + 1 < h) : nrm2 t p q w (.pointer (some ⟨g, 0, none⟩)) (.pointer (some ⟨h, 0, none⟩)) wx :=
  ⟨g, h, A1, n1, c1, B1, m1, d1, A2, n2, c2, B2, m2, d2, rfl, rfl, b1, b2, s1, e1, s2, e2, s3, e3, s4, e4, fun ht => ⟨(hZ ht).below hK, hlt ht⟩, hB.trans (hK.mono hB.size)⟩
/-- An integer in normal form comes back; nothing of X has changed. -/
def RetZw (i : Int) (X W : World) (e : Ending) (w' : World) : Prop :=
  ∃ A n c, e = .returned (.agg #[.bool (ineg i), .slice A n c]) ∧ Sl w' w'.heap.size A n (u32s (limbs i.natAbs)) ∧ n ≤ c ∧ Below W.heap.size W w' ∧ Below X.heap.size X w'
theorem RetZ.w {i : Int} {X W w' : World} {e : Ending} (h : RetZ i W e w') (hB : Below X.heap.size X W) : RetZw i X W e w' := by
  obtain ⟨A, n, c, h1, h2, h3, h4⟩ := h
  exact ⟨A, n, c, h1, h2, h3, h4, hB.trans (h4.mono hB.size)⟩
theorem jmul_p (i : Int) (y : Nat) (A : Option Addr) (n c : Nat) (B : Option Addr) (m d : Nat) (X : World) (h1 : Sl X X.heap.size A n (u32s (limbs i.natAbs))) (h2 : n ≤ c) (h3 : Sl X X.heap.size B m (u32s (limbs y))) (h4 : m ≤ d) (hn : n ≤ 400000) (hm : m ≤ 400000) (W : World) (hB : Below X.heap.size X W) :
    Calls Tryz.prog 116 #[.agg #[.bool (ineg i), .slice A n c], .agg #[.bool false, .slice B m d]] W (RetZw (i * (y : Int)) X W) := by
  have h := jmul_any (ineg i) A n c i.natAbs false B m d y W (.of_limbs (h1.on hB) h2) (.of_limbs (h3.on hB) h4) hn hm
  rw [sgn_self, sgn_false] at h
  exact h.mono fun _ _ h => h.w hB
theorem jadd_w (i j : Int) (A : Option Addr) (n c : Nat) (B : Option Addr) (m d : Nat) (X W : World) (h1 : Sl W W.heap.size A n (u32s (limbs i.natAbs))) (h2 : n ≤ c) (h3 : Sl W W.heap.size B m (u32s (limbs j.natAbs))) (h4 : m ≤ d) (hn : n ≤ 400000) (hm : m ≤ 400000) (hB : Below X.heap.size X W) :
    Calls Tryz.prog 115 #[.agg #[.bool (ineg i), .slice A n c], .agg #[.bool (ineg j), .slice B m d]] W (RetZw (i + j) X W) := by
  have h := jadd_any (ineg i) A n c i.natAbs (ineg j) B m d j.natAbs W (.of_limbs h1 h2) (.of_limbs h3 h4) hn hm
  rw [sgn_self, sgn_self] at h
  exact h.mono fun _ _ h => h.w hB
theorem six_keep {X W : World} {g h : Nat} {t s : TypeId} {a b c d e f : Value} (hX : Blk X g t #[a, b, c]) (hY : Blk X h s #[d, e, f]) (hb : Below X.heap.size X W) : W.cell? ⟨g, 0, none⟩ = some a ∧ W.cell? ⟨g, 1, none⟩ = some b ∧ W.cell? ⟨g, 2, none⟩ = some c ∧ W.cell? ⟨h, 0, none⟩ = some d ∧ W.cell? ⟨h, 1, none⟩ = some e ∧ W.cell? ⟨h, 2, none⟩ = some f :=
  six (hX.below hb) (hY.below hb)
set_option maxRecDepth 100000 in
set_option maxHeartbeats 6400000 in
theorem kadd_any (v u : Value) (j k : Nat) (p q : Rat) (w : World) (ha : RatA w v j p) (hb : RatA w u k q) (hj : 1 ≤ j) (hk : 1 ≤ k) (hj2 : j ≤ 40000) (hk2 : k ≤ 40000) :
    Calls Tryz.prog 86 #[v, u] w (RetQ (p + q) w) := by
  have hv : ∀ X, Below w.heap.size w X → ∀ W, Below X.heap.size X W → Calls Tryz.prog 74 #[v] W (RetQw p X W) := fun X hX W hB => (knorm_any v j p W ((ha.on hX).on hB) (by omega)).mono fun _ _ ⟨A, n, c, B, m, d, h1, h2, h3, h4, h5, h6⟩ => ⟨A, n, c, B, m, d, h1, h2, h3, h4, h5, h6, hB.trans (h6.mono hB.size)⟩
  have hu : ∀ X, Below w.heap.size w X → ∀ W, Below X.heap.size X W → Calls Tryz.prog 74 #[u] W (RetQw q X W) := fun X hX W hB => (knorm_any u k q W ((hb.on hX).on hB) (by omega)).mono fun _ _ ⟨A, n, c, B, m, d, h1, h2, h3, h4, h5, h6⟩ => ⟨A, n, c, B, m, d, h1, h2, h3, h4, h5, h6, hB.trans (h6.mono hB.size)⟩
  obtain ⟨qp1, qp2⟩ := ha.qk hj
  obtain ⟨qq1, qq2⟩ := hb.qk hk
  obtain ⟨neg, A, n, c, B, m, d, x, y, rfl, h1, h2, h3, h4, h5⟩ := ha
  obtain ⟨neg2, A2, n2, c2, B2, m2, d2, x2, y2, rfl, g1, g2, g3, g4, g5⟩ := hb
  have hB : Below w.heap.size w (((w.alloc (.cells #[.bool neg, .slice A n c, .slice B m d] 36)).alloc (.cells #[.bool neg2, .slice A2 n2 c2, .slice B2 m2 d2] 36)).alloc (.cells #[.bool false, .slice none 0 0, .slice none 0 0] 36)) := (((Below.refl _ _).alloc (Nat.le_refl _) _).alloc (by simp) _).alloc (by simp; omega) _
  have HV := Lib.hid (hv _ hB)
  have HU := Lib.hid (hu _ hB)
  have HB := Lib.hid hB
  have X0 : Blk (((w.alloc (.cells #[.bool neg, .slice A n c, .slice B m d] 36)).alloc (.cells #[.bool neg2, .slice A2 n2 c2, .slice B2 m2 d2] 36)).alloc (.cells #[.bool false, .slice none 0 0, .slice none 0 0] 36)) w.heap.size 36 #[.bool neg, .slice A n c, .slice B m d] := ((Blk.new w _ _).alloc _).alloc _
  have Y0 : Blk (((w.alloc (.cells #[.bool neg, .slice A n c, .slice B m d] 36)).alloc (.cells #[.bool neg2, .slice A2 n2 c2, .slice B2 m2 d2] 36)).alloc (.cells #[.bool false, .slice none 0 0, .slice none 0 0] 36)) (w.heap.size + 1) 36 #[.bool neg2, .slice A2 n2 c2, .slice B2 m2 d2] := (Blk.new' (w.alloc (.cells #[.bool neg, .slice A n c, .slice B m d] 36)) 36 #[.bool neg2, .slice A2 n2 c2, .slice B2 m2 d2] (by simp)).alloc _
  have Z0 : Blk (((w.alloc (.cells #[.bool neg, .slice A n c, .slice B m d] 36)).alloc (.cells #[.bool neg2, .slice A2 n2 c2, .slice B2 m2 d2] 36)).alloc (.cells #[.bool false, .slice none 0 0, .slice none 0 0] 36)) (w.heap.size + 1 + 1) 36 #[.bool false, .slice none 0 0, .slice none 0 0] := Blk.new' _ _ _ (by simp)
  have HX := Lib.hid X0
  have HY := Lib.hid Y0
  have HZ := Lib.hid Z0
  clear h1 h2 h3 h4 h5 g1 g2 g3 g4 g5 hv hu hB X0 Y0 Z0
  go_enter Tryz.func86, Tryz.ntmps86
  go_upto_region 1 with fail
  go_cut [5, 6] (fun s5 s6 wx => nrm2 true p q w s5 s6 wx)
  case first =>
    go_region_held3 (fun w' => w'.cell? ⟨w.heap.size, 0, none⟩ = some (.bool neg) ∧ w'.cell? ⟨w.heap.size, 1, none⟩ = some (.slice A n c) ∧ w'.cell? ⟨w.heap.size, 2, none⟩ = some (.slice B m d) ∧ w'.cell? ⟨w.heap.size + 1, 0, none⟩ = some (.bool neg2) ∧ w'.cell? ⟨w.heap.size + 1, 1, none⟩ = some (.slice A2 n2 c2) ∧ w'.cell? ⟨w.heap.size + 1, 2, none⟩ = some (.slice B2 m2 d2))
      ((refine six_keep HX.out HY.out ?_; repeat (first | (with_reducible exact Below.refl _ _) | (with_reducible exact hw2) | (with_reducible exact hw1) | (with_reducible refine Below.drew ?_) | (with_reducible refine Below.alo ?_ _) | (with_reducible refine Below.sto ?_ ?_ _) | omega | (simp <;> omega))))
      (first
      | (go_at_call_of 74 (Value.agg #[.bool neg, .slice A n c, .slice B m d]); go_must ((refine (HV.out _ (by repeat (first | (with_reducible exact Below.refl _ _) | (with_reducible refine Below.drew ?_) | (with_reducible refine Below.alo ?_ _)))).mono ?_); rintro e w1 ⟨A3, n3, c3, B3, m3, d3, rfl, r1, r2, r3, r4, hb1, hw1⟩; have hz1 := hb1.size; (try simp at hz1); have hz0 : w.heap.size + 1 + 1 + 1 ≤ w1.heap.size := (by omega); (try (have hza : w.heap.size + 1 + 1 + 1 < w1.heap.size := by omega)); (try (have hzb : w.heap.size + 1 + 1 + 1 + 1 < w1.heap.size := by omega)); (try (have hzg : w.heap.size + 1 + 1 + 1 < w1.heap.size + 1 := by omega)); (try (have hzh : w.heap.size + 1 + 1 + 1 < w1.heap.size + 1 + 1 := by omega)); (try (have hzi : w.heap.size + 1 + 1 + 1 + 1 < w1.heap.size + 1 := by omega)); obtain ⟨hcl, hfr⟩ := bcell hb1; have HR1 := Lib.hid (And.intro r1 r3); clear r1 r3))
      | (go_at_call 74; go_must ((refine (HU.out _ (by repeat (first | (with_reducible exact hw1) | (with_reducible refine Below.drew ?_) | (with_reducible refine Below.alo ?_ _)))).mono ?_); rintro e w2 ⟨A4, n4, c4, B4, m4, d4, rfl, r5, r6, r7, r8, hb2, hw2⟩; have hz2 := hb2.size; (try simp at hz2); have hz3 : w.heap.size + 1 + 1 + 1 ≤ w2.heap.size := (by omega); (try (have hzc : w1.heap.size < w2.heap.size := by omega)); (try (have hzd : w1.heap.size + 1 < w2.heap.size := by omega)); (try (have hze : w.heap.size + 1 + 1 + 1 < w2.heap.size := by omega)); (try (have hzf : w.heap.size + 1 + 1 + 1 + 1 < w2.heap.size := by omega)); obtain ⟨hcl2, hfr2⟩ := bcell hb2; have HR2 := Lib.hid (And.intro r5 r7); clear r5 r7)))
    all_goals
      go_wp2_with fail
      go_meet
      go_light
      refine nrm2_end (t := true) (A1 := A3) (B1 := B3) (A2 := A4) (B2 := B4) HB.out (fun _ => HZ.out) ?_ ?_ ?_ ?_ r2 ?_ r4 ?_ r6 ?_ r8 (fun _ => ?_)
      · (repeat (first | (with_reducible exact hw2) | (with_reducible refine Below.alo ?_ _) | (with_reducible refine Below.sto ?_ ?_ _) | omega | (simp <;> omega)))
      · (repeat (first | (focus ((with_reducible refine Blk.new' _ _ _ ?_); (simp; done))) | (with_reducible refine Blk.put3z ?_) | (with_reducible refine Blk.alloc ?_ _) | (with_reducible refine Blk.far3 ?_ ?_ _ _ _) | (with_reducible refine Blk.below ?_ hb2) | (with_reducible refine Blk.below ?_ hb1) | (with_reducible refine Blk.drew ?_) | omega | (simp <;> omega)))
      · (repeat (first | (focus ((with_reducible refine Blk.new' _ _ _ ?_); (simp; done))) | (with_reducible refine Blk.put3z ?_) | (with_reducible refine Blk.alloc ?_ _) | (with_reducible refine Blk.far3 ?_ ?_ _ _ _) | (with_reducible refine Blk.below ?_ hb2) | (with_reducible refine Blk.below ?_ hb1) | (with_reducible refine Blk.drew ?_) | omega | (simp <;> omega)))
      · (repeat (first | (with_reducible exact HR1.out.1) | (with_reducible refine Sl.alo ?_ _) | (with_reducible refine Sl.st3 ?_ ?_) | (with_reducible refine Sl.on ?_ hb2) | (focus ((with_reducible refine Blk.new' _ _ _ ?_); (simp; done))) | (with_reducible refine Blk.alloc ?_ _) | (with_reducible refine Blk.far3 ?_ ?_ _ _ _) | (with_reducible refine Blk.below ?_ hb2) | (with_reducible refine Blk.below ?_ hb1) | (with_reducible refine Sl.drew ?_) | (with_reducible refine Blk.drew ?_) | omega | (simp <;> omega)))
      · (repeat (first | (with_reducible exact HR1.out.2) | (with_reducible refine Sl.alo ?_ _) | (with_reducible refine Sl.st3 ?_ ?_) | (with_reducible refine Sl.on ?_ hb2) | (focus ((with_reducible refine Blk.new' _ _ _ ?_); (simp; done))) | (with_reducible refine Blk.alloc ?_ _) | (with_reducible refine Blk.far3 ?_ ?_ _ _ _) | (with_reducible refine Blk.below ?_ hb2) | (with_reducible refine Blk.below ?_ hb1) | (with_reducible refine Sl.drew ?_) | (with_reducible refine Blk.drew ?_) | omega | (simp <;> omega)))
      · (repeat (first | (with_reducible exact HR2.out.1) | (with_reducible refine Sl.alo ?_ _) | (with_reducible refine Sl.st3 ?_ ?_) | (with_reducible refine Sl.on ?_ hb2) | (focus ((with_reducible refine Blk.new' _ _ _ ?_); (simp; done))) | (with_reducible refine Blk.alloc ?_ _) | (with_reducible refine Blk.far3 ?_ ?_ _ _ _) | (with_reducible refine Blk.below ?_ hb2) | (with_reducible refine Blk.below ?_ hb1) | (with_reducible refine Sl.drew ?_) | (with_reducible refine Blk.drew ?_) | omega | (simp <;> omega)))
      · (repeat (first | (with_reducible exact HR2.out.2) | (with_reducible refine Sl.alo ?_ _) | (with_reducible refine Sl.st3 ?_ ?_) | (with_reducible refine Sl.on ?_ hb2) | (focus ((with_reducible refine Blk.new' _ _ _ ?_); (simp; done))) | (with_reducible refine Blk.alloc ?_ _) | (with_reducible refine Blk.far3 ?_ ?_ _ _ _) | (with_reducible refine Blk.below ?_ hb2) | (with_reducible refine Blk.below ?_ hb1) | (with_reducible refine Sl.drew ?_) | (with_reducible refine Blk.drew ?_) | omega | (simp <;> omega)))
      · omega
  case rest =>
    clear HX HY HZ HV HU HB
    obtain ⟨g, h, A1, n1, c1, B1, m1, d1, A3, n3, c3, B3, m3, d3, rfl, rfl, hX, hY, s1, e1, s2, e2, s3, e3, s4, e4, hZ, hbel⟩ := hcut
    obtain ⟨hZ, hgl, hhl⟩ := hZ rfl
    have HX := Lib.hid hX
    have HY := Lib.hid hY
    have HZ := Lib.hid hZ
    have HS := Lib.hid (And.intro s1 (And.intro s2 (And.intro s3 s4)))
    have l1 : n1 ≤ j := by rw [← s1.ulen]; exact qp1
    have l2 : m1 ≤ j := by rw [← s2.ulen]; exact qp2
    have l3 : n3 ≤ k := by rw [← s3.ulen]; exact qq1
    have l4 : m3 ≤ k := by rw [← s4.ulen]; exact qq2
    obtain ⟨i0, i1, i2, i3, i4, i5⟩ := six hX hY
    have hgw := hX.lt
    have hhw := hY.lt
    have hM1 := jmul_p p.num q.den A1 n1 c1 B3 m3 d3 wc s1 e1 s4 e4 (by omega) (by omega)
    have hM2 := jmul_p q.num p.den A3 n3 c3 B1 m1 d1 wc s3 e3 s2 e2 (by omega) (by omega)
    have HM1 := Lib.hid hM1
    have HM2 := Lib.hid hM2
    have b1 : nl (p.num * (q.den : Int)).natAbs ≤ j + k := nl_abs_mul _ _ qp1 (by simpa using qq2)
    have b2 : nl (q.num * (p.den : Int)).natAbs ≤ j + k := by rw [Nat.add_comm]; exact nl_abs_mul _ _ qq1 (by simpa using qp2)
    have b3 : nl (p.num * (q.den : Int) + q.num * (p.den : Int)).natAbs ≤ j + k + 1 := nl_abs_add _ _ b1 b2
    have b4 : nl (p.den * q.den) ≤ j + k := Nat.le_trans (nl_mul _ _) (by omega)
    have hsum : rv (p.num * (q.den : Int) + q.num * (p.den : Int)) (p.den * q.den) = p + q := by rw [← rv_add _ _ p.den_nz q.den_nz, rv_self, rv_self]
    have hne : p.den * q.den ≠ 0 := Nat.mul_ne_zero p.den_nz q.den_nz
    generalize hI : p.num * (q.den : Int) = I at *
    generalize hJ : q.num * (p.den : Int) = J at *
    have HSUM := Lib.hid (And.intro hsum hne)
    clear hX hY hZ s1 s2 s3 s4 hM1 hM2 hI hJ hsum hne
    go_wp2_with fail
    go_cut [7] (fun s7 wx => ∃ (g7 : Nat) (C : Option Addr) (cn cc : Nat), s7 = .pointer (some ⟨g7, 0, none⟩) ∧ Blk wx g7 34 #[.bool (ineg (I + J)), .slice C cn cc] ∧ Sl wx wx.heap.size C cn (u32s (limbs (I + J).natAbs)) ∧ cn ≤ cc ∧ Below wc.heap.size wc wx)
    case first =>
      go_region_held3 (fun w' => w'.cell? ⟨g, 0, none⟩ = some (.bool (ineg p.num)) ∧ w'.cell? ⟨g, 1, none⟩ = some (.slice A1 n1 c1) ∧ w'.cell? ⟨g, 2, none⟩ = some (.slice B1 m1 d1) ∧ w'.cell? ⟨h, 0, none⟩ = some (.bool (ineg q.num)) ∧ w'.cell? ⟨h, 1, none⟩ = some (.slice A3 n3 c3) ∧ w'.cell? ⟨h, 2, none⟩ = some (.slice B3 m3 d3))
        ((refine six_keep HX.out HY.out ?_; repeat (first | (with_reducible exact Below.refl _ _) | (with_reducible exact hw3) | (with_reducible exact hw2) | (with_reducible exact hw1) | (with_reducible refine Below.drew ?_) | (with_reducible refine Below.alo ?_ _) | (with_reducible refine Below.sto ?_ ?_ _) | omega | (simp <;> omega))))
        (first
        | (go_at_call_of 116 (Value.agg #[.bool (ineg p.num), .slice A1 n1 c1]); go_must ((refine (HM1.out _ (by repeat (first | (with_reducible exact Below.refl _ _) | (with_reducible exact hw2) | (with_reducible exact hw1) | (with_reducible refine Below.drew ?_) | (with_reducible refine Below.alo ?_ _)))).mono ?_); rintro e w1 ⟨A5, n5, c5, rfl, r1, r2, hb1, hw1⟩; have hz1 := hb1.size; (try simp at hz1); (try (have hzz : wc.heap.size < w1.heap.size := by omega)); obtain ⟨hcl, hfr⟩ := bcell hb1; have HS1 := Lib.hid r1; have lr1 : n5 ≤ j + k := (by rw [← r1.ulen]; exact b1); clear r1))
        | (go_at_call_of 116 (Value.agg #[.bool (ineg q.num), .slice A3 n3 c3]); go_must ((refine (HM2.out _ (by repeat (first | (with_reducible exact Below.refl _ _) | (with_reducible exact hw2) | (with_reducible exact hw1) | (with_reducible refine Below.drew ?_) | (with_reducible refine Below.alo ?_ _)))).mono ?_); rintro e w2 ⟨A6, n6, c6, rfl, r3, r4, hb2, hw2⟩; have hz2 := hb2.size; (try simp at hz2); (try (have hza : wc.heap.size < w2.heap.size := by omega)); (try (have hzy : w1.heap.size < w2.heap.size := by omega)); obtain ⟨hcl2, hfr2⟩ := bcell hb2; have HS2 := Lib.hid r3; have lr2 : n6 ≤ j + k := (by rw [← r3.ulen]; exact b2); clear r3))
        | (go_at_call 115; go_must ((refine (jadd_w I J A5 n5 c5 A6 n6 c6 wc _ (by repeat (first | (with_reducible exact HS1.out) | (with_reducible refine Sl.alo ?_ _) | (with_reducible refine Sl.on ?_ hb2) | (with_reducible refine Sl.drew ?_))) r2 (by repeat (first | (with_reducible exact HS2.out) | (with_reducible refine Sl.alo ?_ _) | (with_reducible refine Sl.on ?_ hb2) | (with_reducible refine Sl.drew ?_))) r4 (by omega) (by omega) (by repeat (first | (with_reducible exact Below.refl _ _) | (with_reducible exact hw2) | (with_reducible exact hw1) | (with_reducible refine Below.drew ?_) | (with_reducible refine Below.alo ?_ _)))).mono ?_); rintro e w3 ⟨A7, n7, c7, rfl, r5, r6, hb3, hw3⟩; have hz3 := hb3.size; (try simp at hz3); (try (have hzb : wc.heap.size < w3.heap.size := by omega)); obtain ⟨hcl3, hfr3⟩ := bcell hb3; have HS3 := Lib.hid r5; clear r5)))
      all_goals
        go_wp2_with fail
        go_meet
        go_light
        refine ⟨_, A7, n7, c7, rfl, ?_, ?_, r6, ?_⟩
        · (repeat (first | (focus ((with_reducible refine Blk.new' _ _ _ ?_); (simp; done))) | (with_reducible refine Blk.put2z ?_) | (with_reducible refine Blk.alloc ?_ _) | (with_reducible refine Blk.below ?_ hb3) | (with_reducible refine Blk.below ?_ hb2) | (with_reducible refine Blk.below ?_ hb1) | (with_reducible refine Blk.drew ?_)))
        · (repeat (first | (with_reducible exact HS3.out) | (with_reducible refine Sl.alo ?_ _) | (with_reducible refine Sl.st2 ?_ ?_) | (focus ((with_reducible refine Blk.new' _ _ _ ?_); (simp; done))) | (with_reducible refine Blk.alloc ?_ _) | (with_reducible refine Blk.below ?_ hb3) | (with_reducible refine Blk.below ?_ hb2) | (with_reducible refine Blk.below ?_ hb1) | (with_reducible refine Blk.drew ?_)))
        · (repeat (first | (with_reducible exact hw3) | (with_reducible refine Below.alo ?_ _) | (with_reducible refine Below.sto ?_ ?_ _) | omega | (simp <;> omega)))
    case rest =>
      obtain ⟨g7, C, cn, cc, rfl, hG, hC, hcc, hbel2⟩ := hcut
      clear HM1 HM2
      have HC := Lib.hid hC
      have lc : cn ≤ j + k + 1 := by rw [← hC.ulen]; exact b3
      have HX2 := Lib.hid (HX.out.below hbel2)
      have HY2 := Lib.hid (HY.out.below hbel2)
      have HG2 := Lib.hid hG
      have HS2 := Lib.hid (And.intro (HS.out.2.1.on hbel2) (HS.out.2.2.2.on hbel2))
      obtain ⟨i0', i1', i2', i3', i4', i5'⟩ := six HX2.out HY2.out
      have q0 := hG.c (i := 0) rfl
      have q1 := hG.c (i := 1) rfl
      have hgw2 := HX2.out.lt
      have hhw2 := HY2.out.lt
      have h7w2 := hG.lt
      have HB2 := Lib.hid (hbel.trans (hbel2.mono hbel.size))
      have HZ2 := Lib.hid (HZ.out.below hbel2)
      clear hG hC hbel2 i0 i1 i2 i3 i4 i5
      obtain ⟨wd, rfl⟩ : ∃ wd : World, wd = wc := ⟨_, rfl⟩
      have hgr : ¬ w.heap.size + 1 + 1 = g := by omega
      have hhr : ¬ w.heap.size + 1 + 1 = h := by omega
      have h7r : ¬ w.heap.size + 1 + 1 = g7 := by
        exact HZ2.out.ne_ HG2.out (by decide)
      have HR := fun W D dn dc (hW : Below wd.heap.size wd W) (h2 : Sl W W.heap.size D dn (u32s (limbs (p.den * q.den)))) (h3 : dn ≤ dc) (h4 : dn ≤ 100000) => kreduce_any (ineg (I + J)) C cn cc (I + J).natAbs D dn dc (p.den * q.den) W (.of_limbs (HC.out.on hW) hcc) (.of_limbs h2 h3) (by omega) h4 HSUM.out.2
      rw [sgn_self, HSUM.out.1] at HR
      have HR := Lib.hid HR
      go_wp2_with fail
      go_region_held3 (fun w' => w'.cell? ⟨g7, 0, none⟩ = some (.bool (ineg (I + J))) ∧ w'.cell? ⟨g7, 1, none⟩ = some (.slice C cn cc) ∧ w'.cell? ⟨g, 2, none⟩ = some (.slice B1 m1 d1) ∧ w'.cell? ⟨h, 2, none⟩ = some (.slice B3 m3 d3))
        (go_keep)
        (first
        | (go_at_call 117; go_must ((refine (rn_mul B1 B3 m1 m3 d1 d3 p.den q.den _ (by exact .of_limbs HS2.out.1 e2) (by exact .of_limbs HS2.out.2 e4) (by omega) (by omega)).mono ?_); rintro e w5 ⟨A8, n8, c8, rfl, r1, r2, hb5⟩; have HB5 := Lib.hid (show Below wd.heap.size wd w5 from ⟨hb5.os, hb5.tape, hb5.output, hb5.size, hb5.block⟩); have HD := Lib.hid r1; have ld : n8 ≤ 100000 := (by rw [← r1.ulen]; exact Nat.le_trans b4 (by omega)); have t0 := (HG2.out.below HB5.out).c (i := 0) rfl; have t1 := (HG2.out.below HB5.out).c (i := 1) rfl; have t2 := (HX2.out.below HB5.out).c (i := 2) rfl; have t3 := (HY2.out.below HB5.out).c (i := 2) rfl; clear hb5 r1))
        | (go_at_call 109; go_must ((refine (HR.out _ A8 n8 c8 HB5.out HD.out r2 ld).mono ?_); rintro e w6 ⟨A9, n9, c9, B9, m9, d9, rfl, r5, r6, r7, r8, hb6⟩; have HB6 := Lib.hid (HB5.out.trans (hb6.mono HB5.out.size)); have Z6 := HZ2.out.below HB6.out; have HF := Lib.hid (rat_end r5 r6 r7 r8 Z6 (by simp) (HB2.out.trans (HB6.out.mono HB2.out.size)) (by omega)); have u0 := (HG2.out.below HB6.out).c (i := 0) rfl; have u1 := (HG2.out.below HB6.out).c (i := 1) rfl; have u2 := (HX2.out.below HB6.out).c (i := 2) rfl; have u3 := (HY2.out.below HB6.out).c (i := 2) rfl; have k0 := Z6.c (i := 0) rfl; have k1 := Z6.c (i := 1) rfl; have k2 := Z6.c (i := 2) rfl; have y0 := Z6.frozen 0; have y1 := Z6.frozen 1; have y2 := Z6.frozen 2; clear r5 r7 Z6 hb6)))
      go_wp2_with fail
      refine bodyPost_ret (v := .agg #[.bool (ineg (p + q).num), .slice A9 n9 c9, .slice B9 m9 d9]) (by simp [results, Tryz.results86, go_sem, k0, k1, k2]) rfl ?_
      exact HF.out
end Go.Proofs.YtjiccijfbpkliaaGreatDoor

/- garmentref02.Cmp compares integers, garmentref03.Cmp compares ratios. Conditions: numbers of at most 40,000 limbs. (Printed by gen_rq3.py.) -/
namespace Go.Proofs.YtjiccijfbpkliaaGreatDoor
open Go.RowKit
attribute [local go_sem ↓] Go.wp_at_zero Go.wp_at_succ

theorem Blk.far2 {w : World} {g r : Nat} {t : TypeId} {cs : Array Value} (h : Blk w g t cs) (hr : g ≠ r) (u0 u1 : Value) : Blk ((w.setCell ⟨r, 0, none⟩ u0).setCell ⟨r, 1, none⟩ u1) g t cs :=
  (h.far (p := ⟨r, 0, none⟩) hr _).far (p := ⟨r, 1, none⟩) hr _
theorem four {w : World} {g h : Nat} {t s : TypeId} {a b c d : Value} (hX : Blk w g t #[a, b]) (hY : Blk w h s #[c, d]) : w.cell? ⟨g, 0, none⟩ = some a ∧ w.cell? ⟨g, 1, none⟩ = some b ∧ w.cell? ⟨h, 0, none⟩ = some c ∧ w.cell? ⟨h, 1, none⟩ = some d :=
  ⟨hX.c rfl, hX.c rfl, hY.c rfl, hY.c rfl⟩
theorem four_keep {X W : World} {g h : Nat} {t s : TypeId} {a b c d : Value} (hX : Blk X g t #[a, b]) (hY : Blk X h s #[c, d]) (hb : Below X.heap.size X W) : W.cell? ⟨g, 0, none⟩ = some a ∧ W.cell? ⟨g, 1, none⟩ = some b ∧ W.cell? ⟨h, 0, none⟩ = some c ∧ W.cell? ⟨h, 1, none⟩ = some d :=
  four (hX.below hb) (hY.below hb)
/-- Two integers stand in normal form in boxes of their own. -/
def nrmI2 (i j : Int) (w : World) (s5 s6 : Value) (wx : World) : Prop :=
  ∃ g h A1 n1 c1 A2 n2 c2, s5 = .pointer (some ⟨g, 0, none⟩) ∧ s6 = .pointer (some ⟨h, 0, none⟩) ∧ Blk wx g 34 #[.bool (ineg i), .slice A1 n1 c1] ∧ Blk wx h 34 #[.bool (ineg j), .slice A2 n2 c2] ∧
    Sl wx wx.heap.size A1 n1 (u32s (limbs i.natAbs)) ∧ n1 ≤ c1 ∧ Sl wx wx.heap.size A2 n2 (u32s (limbs j.natAbs)) ∧ n2 ≤ c2 ∧ Below w.heap.size w wx
theorem nrmI2_end {i j : Int} {w X wx : World} {g h : Nat} {A1 A2 : Option Addr} {n1 c1 n2 c2 : Nat} (hB : Below w.heap.size w X) (hK : Below X.heap.size X wx)
    (b1 : Blk wx g 34 #[.bool (ineg i), .slice A1 n1 c1]) (b2 : Blk wx h 34 #[.bool (ineg j), .slice A2 n2 c2])
    (s1 : Sl wx wx.heap.size A1 n1 (u32s (limbs i.natAbs))) (e1 : n1 ≤ c1) (s3 : Sl wx wx.heap.size A2 n2 (u32s (limbs j.natAbs))) (e3 : n2 ≤ c2) : nrmI2 i j w (.pointer (some ⟨g, 0, none⟩)) (.pointer (some ⟨h, 0, none⟩)) wx :=
  ⟨g, h, A1, n1, c1, A2, n2, c2, rfl, rfl, b1, b2, s1, e1, s3, e3, hB.trans (hK.mono hB.size)⟩

set_option maxRecDepth 100000 in
set_option maxHeartbeats 6400000 in
theorem jcmp_any (neg : Bool) (A : Option Addr) (n c x : Nat) (neg2 : Bool) (B : Option Addr) (m d y : Nat) (w : World) (ha : NatA w A n c x) (hb : NatA w B m d y) (hn : n ≤ 1000000) (hm : m ≤ 1000000) :
    Calls Tryz.prog 200 #[.agg #[.bool neg, .slice A n c], .agg #[.bool neg2, .slice B m d]] w (RetC (cmpI (sgn neg x) (sgn neg2 y)) w) := by
  have t1 := ha.trimmed.1
  have t2 := hb.trimmed.1
  have hv : ∀ X, Below w.heap.size w X → ∀ W, Below X.heap.size X W → Calls Tryz.prog 128 #[.agg #[.bool neg, .slice A n c]] W (RetZw (sgn neg x) X W) := fun X hX W hB => (jnorm_any neg A n c x W ((ha.on hX).on hB) hn).mono fun _ _ h => h.w hB
  have hu : ∀ X, Below w.heap.size w X → ∀ W, Below X.heap.size X W → Calls Tryz.prog 128 #[.agg #[.bool neg2, .slice B m d]] W (RetZw (sgn neg2 y) X W) := fun X hX W hB => (jnorm_any neg2 B m d y W ((hb.on hX).on hB) hm).mono fun _ _ h => h.w hB
  have a1 : nl (sgn neg x).natAbs ≤ n := by rw [sgn_abs]; exact t1
  have a2 : nl (sgn neg2 y).natAbs ≤ m := by rw [sgn_abs]; exact t2
  generalize sgn neg x = i at *
  generalize sgn neg2 y = j at *
  have hB : Below w.heap.size w ((w.alloc (.cells #[.bool neg, .slice A n c] 34)).alloc (.cells #[.bool neg2, .slice B m d] 34)) := ((Below.refl _ _).alloc (Nat.le_refl _) _).alloc (by simp) _
  have HV := Lib.hid (hv _ hB)
  have HU := Lib.hid (hu _ hB)
  have HB := Lib.hid hB
  have X0 : Blk ((w.alloc (.cells #[.bool neg, .slice A n c] 34)).alloc (.cells #[.bool neg2, .slice B m d] 34)) w.heap.size 34 #[.bool neg, .slice A n c] := (Blk.new w _ _).alloc _
  have Y0 : Blk ((w.alloc (.cells #[.bool neg, .slice A n c] 34)).alloc (.cells #[.bool neg2, .slice B m d] 34)) (w.heap.size + 1) 34 #[.bool neg2, .slice B m d] := Blk.new' (w.alloc (.cells #[.bool neg, .slice A n c] 34)) 34 #[.bool neg2, .slice B m d] (by simp)
  have HX := Lib.hid X0
  have HY := Lib.hid Y0
  clear ha hb hv hu hB X0 Y0 t1 t2
  go_enter Tryz.func200, Tryz.ntmps200
  go_upto_region 1 with fail
  go_cut [5, 6] (fun s5 s6 wx => nrmI2 i j w s5 s6 wx)
  case first =>
    go_region_held3 (fun w' => w'.cell? ⟨w.heap.size, 0, none⟩ = some (.bool neg) ∧ w'.cell? ⟨w.heap.size, 1, none⟩ = some (.slice A n c) ∧ w'.cell? ⟨w.heap.size + 1, 0, none⟩ = some (.bool neg2) ∧ w'.cell? ⟨w.heap.size + 1, 1, none⟩ = some (.slice B m d))
      ((refine four_keep HX.out HY.out ?_; repeat (first | (with_reducible exact Below.refl _ _) | (with_reducible exact hw2) | (with_reducible exact hw1) | (with_reducible refine Below.drew ?_) | (with_reducible refine Below.alo ?_ _) | (with_reducible refine Below.sto ?_ ?_ _) | omega | (simp <;> omega))))
      (first
      | (go_at_call_of 128 (Value.agg #[.bool neg, .slice A n c]); go_must ((refine (HV.out _ (by repeat (first | (with_reducible exact Below.refl _ _) | (with_reducible refine Below.drew ?_) | (with_reducible refine Below.alo ?_ _)))).mono ?_); rintro e w1 ⟨A3, n3, c3, rfl, r1, r2, hb1, hw1⟩; have hz1 := hb1.size; (try simp at hz1); have hz0 : w.heap.size + 1 + 1 ≤ w1.heap.size := (by omega); (try (have hza : w.heap.size + 1 + 1 < w1.heap.size := by omega)); (try (have hzb : w.heap.size + 1 + 1 + 1 < w1.heap.size := by omega)); (try (have hzg : w.heap.size + 1 + 1 < w1.heap.size + 1 := by omega)); (try (have hzh : w.heap.size + 1 + 1 < w1.heap.size + 1 + 1 := by omega)); (try (have hzi : w.heap.size + 1 + 1 + 1 < w1.heap.size + 1 := by omega)); obtain ⟨hcl, hfr⟩ := bcell hb1; have HR1 := Lib.hid r1; clear r1))
      | (go_at_call 128; go_must ((refine (HU.out _ (by repeat (first | (with_reducible exact hw1) | (with_reducible refine Below.drew ?_) | (with_reducible refine Below.alo ?_ _)))).mono ?_); rintro e w2 ⟨A4, n4, c4, rfl, r5, r6, hb2, hw2⟩; have hz2 := hb2.size; (try simp at hz2); have hz3 : w.heap.size + 1 + 1 ≤ w2.heap.size := (by omega); (try (have hzc : w1.heap.size < w2.heap.size := by omega)); (try (have hzd : w1.heap.size + 1 < w2.heap.size := by omega)); (try (have hze : w.heap.size + 1 + 1 < w2.heap.size := by omega)); (try (have hzf : w.heap.size + 1 + 1 + 1 < w2.heap.size := by omega)); obtain ⟨hcl2, hfr2⟩ := bcell hb2; have HR2 := Lib.hid r5; clear r5)))
    all_goals
      go_wp2_with fail
      go_meet
      go_light
      refine nrmI2_end (A1 := A3) (A2 := A4) HB.out ?_ ?_ ?_ ?_ r2 ?_ r6
      · (repeat (first | (with_reducible exact hw2) | (with_reducible refine Below.alo ?_ _) | (with_reducible refine Below.sto ?_ ?_ _) | omega | (simp <;> omega)))
      · (repeat (first | (focus ((with_reducible refine Blk.new' _ _ _ ?_); (simp; done))) | (with_reducible refine Blk.put2z ?_) | (with_reducible refine Blk.alloc ?_ _) | (with_reducible refine Blk.far2 ?_ ?_ _ _) | (with_reducible refine Blk.below ?_ hb2) | (with_reducible refine Blk.below ?_ hb1) | (with_reducible refine Blk.drew ?_) | omega | (simp <;> omega)))
      · (repeat (first | (focus ((with_reducible refine Blk.new' _ _ _ ?_); (simp; done))) | (with_reducible refine Blk.put2z ?_) | (with_reducible refine Blk.alloc ?_ _) | (with_reducible refine Blk.far2 ?_ ?_ _ _) | (with_reducible refine Blk.below ?_ hb2) | (with_reducible refine Blk.below ?_ hb1) | (with_reducible refine Blk.drew ?_) | omega | (simp <;> omega)))
      · (repeat (first | (with_reducible exact HR1.out) | (with_reducible refine Sl.alo ?_ _) | (with_reducible refine Sl.st2 ?_ ?_) | (with_reducible refine Sl.on ?_ hb2) | (focus ((with_reducible refine Blk.new' _ _ _ ?_); (simp; done))) | (with_reducible refine Blk.alloc ?_ _) | (with_reducible refine Blk.far2 ?_ ?_ _ _) | (with_reducible refine Blk.below ?_ hb2) | (with_reducible refine Blk.below ?_ hb1) | (with_reducible refine Sl.drew ?_) | (with_reducible refine Blk.drew ?_) | omega | (simp <;> omega)))
      · (repeat (first | (with_reducible exact HR2.out) | (with_reducible refine Sl.alo ?_ _) | (with_reducible refine Sl.st2 ?_ ?_) | (with_reducible refine Sl.on ?_ hb2) | (focus ((with_reducible refine Blk.new' _ _ _ ?_); (simp; done))) | (with_reducible refine Blk.alloc ?_ _) | (with_reducible refine Blk.far2 ?_ ?_ _ _) | (with_reducible refine Blk.below ?_ hb2) | (with_reducible refine Blk.below ?_ hb1) | (with_reducible refine Sl.drew ?_) | (with_reducible refine Blk.drew ?_) | omega | (simp <;> omega)))
  case rest =>
    clear HX HY HV HU HB
    obtain ⟨g, h, A1, n1, c1, A2, n2, c2, rfl, rfl, hX, hY, s1, e1, s2, e2, hbel⟩ := hcut
    have l1 : n1 ≤ 1000000 := by rw [← s1.ulen]; exact Nat.le_trans a1 hn
    have l2 : n2 ≤ 1000000 := by rw [← s2.ulen]; exact Nat.le_trans a2 hm
    obtain ⟨i0, i1, i2, i3⟩ := four hX hY
    have HS := Lib.hid (And.intro s1 s2)
    clear hX hY s1 s2 a1 a2
    cases hi : ineg i <;> cases hj : ineg j
    · have HE := Lib.hid (cmpI_ff (ineg_false hi) (ineg_false hj))
      rw [hi] at i0
      rw [hj] at i2
      clear hi hj
      go_wp2_with (go_at_call 95; go_must ((refine (rf_cmp A1 A2 n1 n2 c1 c2 i.natAbs j.natAbs _ (.of_limbs HS.out.1 e1) (.of_limbs HS.out.2 e2) (by omega) (by omega)).mono ?_); rintro e w' ⟨rfl, rfl⟩))
      go_ret
      exact ⟨by rw [HE.out]; rfl, hbel⟩
    · have HE := Lib.hid (cmpI_gt (i := i) (j := j) (by have := ineg_false hi; have := ineg_true hj; omega))
      rw [hi] at i0
      rw [hj] at i2
      clear hi hj
      go_wp2_with fail
      go_ret
      exact ⟨by rw [HE.out]; rfl, hbel⟩
    · have HE := Lib.hid (cmpI_lt (i := i) (j := j) (by have := ineg_true hi; have := ineg_false hj; omega))
      rw [hi] at i0
      rw [hj] at i2
      clear hi hj
      go_wp2_with fail
      go_ret
      exact ⟨by rw [HE.out]; rfl, hbel⟩
    · have HE := Lib.hid (cmpI_tt (ineg_true hi) (ineg_true hj))
      rw [hi] at i0
      rw [hj] at i2
      clear hi hj
      go_wp2_with (go_at_call 95; go_must ((refine (rf_cmp A2 A1 n2 n1 c2 c1 j.natAbs i.natAbs _ (.of_limbs HS.out.2 e2) (.of_limbs HS.out.1 e1) (by omega) (by omega)).mono ?_); rintro e w' ⟨rfl, rfl⟩))
      go_ret
      exact ⟨by rw [HE.out]; rfl, hbel⟩

set_option maxRecDepth 100000 in
set_option maxHeartbeats 6400000 in
theorem kcmp_any (v u : Value) (j k : Nat) (p q : Rat) (w : World) (ha : RatA w v j p) (hb : RatA w u k q) (hj : 1 ≤ j) (hk : 1 ≤ k) (hj2 : j ≤ 40000) (hk2 : k ≤ 40000) :
    Calls Tryz.prog 190 #[v, u] w (RetCz p q w) := by
  have hv : ∀ X, Below w.heap.size w X → ∀ W, Below X.heap.size X W → Calls Tryz.prog 74 #[v] W (RetQw p X W) := fun X hX W hB => (knorm_any v j p W ((ha.on hX).on hB) (by omega)).mono fun _ _ ⟨A, n, c, B, m, d, h1, h2, h3, h4, h5, h6⟩ => ⟨A, n, c, B, m, d, h1, h2, h3, h4, h5, h6, hB.trans (h6.mono hB.size)⟩
  have hu : ∀ X, Below w.heap.size w X → ∀ W, Below X.heap.size X W → Calls Tryz.prog 74 #[u] W (RetQw q X W) := fun X hX W hB => (knorm_any u k q W ((hb.on hX).on hB) (by omega)).mono fun _ _ ⟨A, n, c, B, m, d, h1, h2, h3, h4, h5, h6⟩ => ⟨A, n, c, B, m, d, h1, h2, h3, h4, h5, h6, hB.trans (h6.mono hB.size)⟩
  obtain ⟨qp1, qp2⟩ := ha.qk hj
  obtain ⟨qq1, qq2⟩ := hb.qk hk
  obtain ⟨neg, A, n, c, B, m, d, x, y, rfl, h1, h2, h3, h4, h5⟩ := ha
  obtain ⟨neg2, A2, n2, c2, B2, m2, d2, x2, y2, rfl, g1, g2, g3, g4, g5⟩ := hb
  have hB : Below w.heap.size w ((w.alloc (.cells #[.bool neg, .slice A n c, .slice B m d] 36)).alloc (.cells #[.bool neg2, .slice A2 n2 c2, .slice B2 m2 d2] 36)) := ((Below.refl _ _).alloc (Nat.le_refl _) _).alloc (by simp) _
  have HV := Lib.hid (hv _ hB)
  have HU := Lib.hid (hu _ hB)
  have HB := Lib.hid hB
  have X0 : Blk ((w.alloc (.cells #[.bool neg, .slice A n c, .slice B m d] 36)).alloc (.cells #[.bool neg2, .slice A2 n2 c2, .slice B2 m2 d2] 36)) w.heap.size 36 #[.bool neg, .slice A n c, .slice B m d] := (Blk.new w _ _).alloc _
  have Y0 : Blk ((w.alloc (.cells #[.bool neg, .slice A n c, .slice B m d] 36)).alloc (.cells #[.bool neg2, .slice A2 n2 c2, .slice B2 m2 d2] 36)) (w.heap.size + 1) 36 #[.bool neg2, .slice A2 n2 c2, .slice B2 m2 d2] := Blk.new' (w.alloc (.cells #[.bool neg, .slice A n c, .slice B m d] 36)) 36 #[.bool neg2, .slice A2 n2 c2, .slice B2 m2 d2] (by simp)
  have HX := Lib.hid X0
  have HY := Lib.hid Y0
  clear h1 h2 h3 h4 h5 g1 g2 g3 g4 g5 hv hu hB X0 Y0
  go_enter Tryz.func190, Tryz.ntmps190
  go_upto_region 1 with fail
  go_cut [5, 6] (fun s5 s6 wx => nrm2 false p q w s5 s6 wx)
  case first =>
    go_region_held3 (fun w' => w'.cell? ⟨w.heap.size, 0, none⟩ = some (.bool neg) ∧ w'.cell? ⟨w.heap.size, 1, none⟩ = some (.slice A n c) ∧ w'.cell? ⟨w.heap.size, 2, none⟩ = some (.slice B m d) ∧ w'.cell? ⟨w.heap.size + 1, 0, none⟩ = some (.bool neg2) ∧ w'.cell? ⟨w.heap.size + 1, 1, none⟩ = some (.slice A2 n2 c2) ∧ w'.cell? ⟨w.heap.size + 1, 2, none⟩ = some (.slice B2 m2 d2))
      ((refine six_keep HX.out HY.out ?_; repeat (first | (with_reducible exact Below.refl _ _) | (with_reducible exact hw2) | (with_reducible exact hw1) | (with_reducible refine Below.drew ?_) | (with_reducible refine Below.alo ?_ _) | (with_reducible refine Below.sto ?_ ?_ _) | omega | (simp <;> omega))))
      (first
      | (go_at_call_of 74 (Value.agg #[.bool neg, .slice A n c, .slice B m d]); go_must ((refine (HV.out _ (by repeat (first | (with_reducible exact Below.refl _ _) | (with_reducible refine Below.drew ?_) | (with_reducible refine Below.alo ?_ _)))).mono ?_); rintro e w1 ⟨A3, n3, c3, B3, m3, d3, rfl, r1, r2, r3, r4, hb1, hw1⟩; have hz1 := hb1.size; (try simp at hz1); have hz0 : w.heap.size + 1 + 1 ≤ w1.heap.size := (by omega); (try (have hza : w.heap.size + 1 + 1 < w1.heap.size := by omega)); (try (have hzb : w.heap.size + 1 + 1 + 1 < w1.heap.size := by omega)); (try (have hzg : w.heap.size + 1 + 1 < w1.heap.size + 1 := by omega)); (try (have hzh : w.heap.size + 1 + 1 < w1.heap.size + 1 + 1 := by omega)); (try (have hzi : w.heap.size + 1 + 1 + 1 < w1.heap.size + 1 := by omega)); obtain ⟨hcl, hfr⟩ := bcell hb1; have HR1 := Lib.hid (And.intro r1 r3); clear r1 r3))
      | (go_at_call 74; go_must ((refine (HU.out _ (by repeat (first | (with_reducible exact hw1) | (with_reducible refine Below.drew ?_) | (with_reducible refine Below.alo ?_ _)))).mono ?_); rintro e w2 ⟨A4, n4, c4, B4, m4, d4, rfl, r5, r6, r7, r8, hb2, hw2⟩; have hz2 := hb2.size; (try simp at hz2); have hz3 : w.heap.size + 1 + 1 ≤ w2.heap.size := (by omega); (try (have hzc : w1.heap.size < w2.heap.size := by omega)); (try (have hzd : w1.heap.size + 1 < w2.heap.size := by omega)); (try (have hze : w.heap.size + 1 + 1 < w2.heap.size := by omega)); (try (have hzf : w.heap.size + 1 + 1 + 1 < w2.heap.size := by omega)); obtain ⟨hcl2, hfr2⟩ := bcell hb2; have HR2 := Lib.hid (And.intro r5 r7); clear r5 r7)))
    all_goals
      go_wp2_with fail
      go_meet
      go_light
      refine nrm2_end (t := false) (A1 := A3) (B1 := B3) (A2 := A4) (B2 := B4) HB.out (fun h => by cases h) ?_ ?_ ?_ ?_ r2 ?_ r4 ?_ r6 ?_ r8 (fun h => by cases h)
      · (repeat (first | (with_reducible exact hw2) | (with_reducible refine Below.alo ?_ _) | (with_reducible refine Below.sto ?_ ?_ _) | omega | (simp <;> omega)))
      · (repeat (first | (focus ((with_reducible refine Blk.new' _ _ _ ?_); (simp; done))) | (with_reducible refine Blk.put3z ?_) | (with_reducible refine Blk.alloc ?_ _) | (with_reducible refine Blk.far3 ?_ ?_ _ _ _) | (with_reducible refine Blk.below ?_ hb2) | (with_reducible refine Blk.below ?_ hb1) | (with_reducible refine Blk.drew ?_) | omega | (simp <;> omega)))
      · (repeat (first | (focus ((with_reducible refine Blk.new' _ _ _ ?_); (simp; done))) | (with_reducible refine Blk.put3z ?_) | (with_reducible refine Blk.alloc ?_ _) | (with_reducible refine Blk.far3 ?_ ?_ _ _ _) | (with_reducible refine Blk.below ?_ hb2) | (with_reducible refine Blk.below ?_ hb1) | (with_reducible refine Blk.drew ?_) | omega | (simp <;> omega)))
      · (repeat (first | (with_reducible exact HR1.out.1) | (with_reducible refine Sl.alo ?_ _) | (with_reducible refine Sl.st3 ?_ ?_) | (with_reducible refine Sl.on ?_ hb2) | (focus ((with_reducible refine Blk.new' _ _ _ ?_); (simp; done))) | (with_reducible refine Blk.alloc ?_ _) | (with_reducible refine Blk.far3 ?_ ?_ _ _ _) | (with_reducible refine Blk.below ?_ hb2) | (with_reducible refine Blk.below ?_ hb1) | (with_reducible refine Sl.drew ?_) | (with_reducible refine Blk.drew ?_) | omega | (simp <;> omega)))
      · (repeat (first | (with_reducible exact HR1.out.2) | (with_reducible refine Sl.alo ?_ _) | (with_reducible refine Sl.st3 ?_ ?_) | (with_reducible refine Sl.on ?_ hb2) | (focus ((with_reducible refine Blk.new' _ _ _ ?_); (simp; done))) | (with_reducible refine Blk.alloc ?_ _) | (with_reducible refine Blk.far3 ?_ ?_ _ _ _) | (with_reducible refine Blk.below ?_ hb2) | (with_reducible refine Blk.below ?_ hb1) | (with_reducible refine Sl.drew ?_) | (with_reducible refine Blk.drew ?_) | omega | (simp <;> omega)))
      · (repeat (first | (with_reducible exact HR2.out.1) | (with_reducible refine Sl.alo ?_ _) | (with_reducible refine Sl.st3 ?_ ?_) | (with_reducible refine Sl.on ?_ hb2) | (focus ((with_reducible refine Blk.new' _ _ _ ?_); (simp; done))) | (with_reducible refine Blk.alloc ?_ _) | (with_reducible refine Blk.far3 ?_ ?_ _ _ _) | (with_reducible refine Blk.below ?_ hb2) | (with_reducible refine Blk.below ?_ hb1) | (with_reducible refine Sl.drew ?_) | (with_reducible refine Blk.drew ?_) | omega | (simp <;> omega)))
      · (repeat (first | (with_reducible exact HR2.out.2) | (with_reducible refine Sl.alo ?_ _) | (with_reducible refine Sl.st3 ?_ ?_) | (with_reducible refine Sl.on ?_ hb2) | (focus ((with_reducible refine Blk.new' _ _ _ ?_); (simp; done))) | (with_reducible refine Blk.alloc ?_ _) | (with_reducible refine Blk.far3 ?_ ?_ _ _ _) | (with_reducible refine Blk.below ?_ hb2) | (with_reducible refine Blk.below ?_ hb1) | (with_reducible refine Sl.drew ?_) | (with_reducible refine Blk.drew ?_) | omega | (simp <;> omega)))
  case rest =>
    clear HX HY HV HU HB
    obtain ⟨g, h, A1, n1, c1, B1, m1, d1, A3, n3, c3, B3, m3, d3, rfl, rfl, hX, hY, s1, e1, s2, e2, s3, e3, s4, e4, _, hbel⟩ := hcut
    have HX := Lib.hid hX
    have HY := Lib.hid hY
    have l1 : n1 ≤ j := by rw [← s1.ulen]; exact qp1
    have l2 : m1 ≤ j := by rw [← s2.ulen]; exact qp2
    have l3 : n3 ≤ k := by rw [← s3.ulen]; exact qq1
    have l4 : m3 ≤ k := by rw [← s4.ulen]; exact qq2
    obtain ⟨i0, i1, i2, i3, i4, i5⟩ := six hX hY
    have hgw := hX.lt
    have hhw := hY.lt
    have HM1 := Lib.hid (jmul_p p.num q.den A1 n1 c1 B3 m3 d3 wc s1 e1 s4 e4 (by omega) (by omega))
    have HM2 := Lib.hid (jmul_p q.num p.den A3 n3 c3 B1 m1 d1 wc s3 e3 s2 e2 (by omega) (by omega))
    have b1 : nl (p.num * (q.den : Int)).natAbs ≤ j + k := nl_abs_mul _ _ qp1 (by simpa using qq2)
    have b2 : nl (q.num * (p.den : Int)).natAbs ≤ j + k := by rw [Nat.add_comm]; exact nl_abs_mul _ _ qq1 (by simpa using qp2)
    have HE : Hid (cmpI (p.num * (q.den : Int)) (q.num * (p.den : Int)) = 0 ↔ p = q) := by
      rw [Hid, cmpI_zero]
      conv => rhs; rw [← rv_self p, ← rv_self q]
      rw [rv_eq p.den_nz q.den_nz]
    generalize p.num * (q.den : Int) = I at *
    generalize q.num * (p.den : Int) = J at *
    clear hX hY s1 s2 s3 s4
    go_wp2_with fail
    go_region_held3 (fun w' => w'.cell? ⟨g, 0, none⟩ = some (.bool (ineg p.num)) ∧ w'.cell? ⟨g, 1, none⟩ = some (.slice A1 n1 c1) ∧ w'.cell? ⟨g, 2, none⟩ = some (.slice B1 m1 d1) ∧ w'.cell? ⟨h, 0, none⟩ = some (.bool (ineg q.num)) ∧ w'.cell? ⟨h, 1, none⟩ = some (.slice A3 n3 c3) ∧ w'.cell? ⟨h, 2, none⟩ = some (.slice B3 m3 d3))
      ((refine six_keep HX.out HY.out ?_; repeat (first | (with_reducible exact Below.refl _ _) | (with_reducible exact hw3) | (with_reducible exact hw2) | (with_reducible exact hw1) | (with_reducible refine Below.drew ?_))))
      (first
      | (go_at_call_of 116 (Value.agg #[.bool (ineg p.num), .slice A1 n1 c1]); go_must ((refine (HM1.out _ (by repeat (first | (with_reducible exact Below.refl _ _) | (with_reducible refine Below.drew ?_)))).mono ?_); rintro e w1 ⟨A5, n5, c5, rfl, r1, r2, hb1, hw1⟩; have HS1 := Lib.hid r1; have lr1 : n5 ≤ j + k := (by rw [← r1.ulen]; exact b1); clear r1))
      | (go_at_call_of 116 (Value.agg #[.bool (ineg q.num), .slice A3 n3 c3]); go_must ((refine (HM2.out _ (by repeat (first | (with_reducible exact hw1) | (with_reducible refine Below.drew ?_)))).mono ?_); rintro e w2 ⟨A6, n6, c6, rfl, r3, r4, hb2, hw2⟩; have HS2 := Lib.hid (And.intro (HS1.out.on (show Below w1.heap.size w1 w2 from ⟨hb2.os, hb2.tape, hb2.output, hb2.size, hb2.block⟩)) r3); have lr2 : n6 ≤ j + k := (by rw [← r3.ulen]; exact b2); clear r3))
      | (go_at_call 200; go_must ((refine (jcmp_any (ineg I) A5 n5 c5 I.natAbs (ineg J) A6 n6 c6 J.natAbs _ (by exact .of_limbs HS2.out.1 r2) (by exact .of_limbs HS2.out.2 r4) (by omega) (by omega)).mono ?_); rintro e w3 ⟨rfl, hb3⟩; rw [sgn_self, sgn_self]; have hw3 : Below wc.heap.size wc w3 := hw2.trans (Below.mono (show Below w2.heap.size w2 w3 from ⟨hb3.os, hb3.tape, hb3.output, hb3.size, hb3.block⟩) hw2.size))))
    go_wp2_with fail
    go_ret
    exact ⟨_, rfl, HE.out, hbel.trans (hw3.mono hbel.size)⟩
end Go.Proofs.YtjiccijfbpkliaaGreatDoor

/- garmentref03.limbs, SameInt, Same (at equal numbers), Light, Neg, Sub. Conditions: numbers of at most 40,000 limbs. -/
namespace Go.Proofs.YtjiccijfbpkliaaGreatDoor
open Go.RowKit

set_option maxHeartbeats 800000 in
theorem limbs_true (A B : Option Addr) (n c d : Nat) (l : List Nat) (w : World) (ha : Sl w w.heap.size A n (u32s l)) (hb : Sl w w.heap.size B n (u32s l)) (hn : n ≤ 1000000) :
    Calls Tryz.prog 50 #[.slice A n c, .slice B n d] w fun e w' => e = .returned (.bool true) ∧ ∃ k, w' = w.drewN k := by
  go_enter Tryz.func50, Tryz.ntmps50
  go_wp2
  go_loopw [5] (fun i wr => ∃ k q : Nat, k ≤ n ∧ i = .int .i64 (k : Int) ∧ wr = w.drewN q) (fun i _ => n - (intOf i).toNat)
  case atStart => exact ⟨0, 0, Nat.zero_le _, rfl, rfl⟩
  case round =>
    obtain ⟨k, q, hk, rfl, rfl⟩ := hrel
    by_cases hlt : k < n
    · obtain ⟨b, off, x, rfl, hbw, hx, hcx⟩ := ha.limb_ hlt
      obtain ⟨b', off', y, rfl, hbw', hy, hcy⟩ := hb.limb_ hlt
      obtain rfl : x = y := by rw [hx] at hy; exact Option.some.inj hy
      have i1 : (0 : Int) ≤ (k : Int) := by omega
      have i2 : (k : Int) < (n : Int) := by omega
      have hne : ((x : Int) != (x : Int)) = false := by simp
      clear hx hy ha hb
      go_wp2_with fail
      go_quiet (fail)
      go_wp2_with fail
      go_roundw
      case rel => exact ⟨k + 1, _, by omega, by go_num, rfl⟩
      case measure => simp [intOf]; omega
    · clear ha hb
      go_wp2_with fail
      go_ret
      exact ⟨rfl, q, rfl⟩

/-- A ratio as it lies: its sign and its limbs. -/
def LiesA (w : World) (v : Value) (b : Bool) (l1 l2 : List Nat) : Prop :=
  ∃ A n c B m d, v = .agg #[.bool b, .slice A n c, .slice B m d] ∧ Sl w w.heap.size A n (u32s l1) ∧ Sl w w.heap.size B m (u32s l2) ∧ n ≤ 100000 ∧ m ≤ 100000
theorem LiesA.on {w w' : World} {v : Value} {b : Bool} {l1 l2 : List Nat} (h : LiesA w v b l1 l2) (hb : Below w.heap.size w w') : LiesA w' v b l1 l2 := by
  obtain ⟨A, n, c, B, m, d, h1, h2, h3, h4⟩ := h
  exact ⟨A, n, c, B, m, d, h1, h2.on hb, h3.on hb, h4⟩
set_option maxRecDepth 100000 in
set_option maxHeartbeats 800000 in
theorem sameint_true (b : Bool) (A B : Option Addr) (n c d : Nat) (l : List Nat) (w : World) (ha : Sl w w.heap.size A n (u32s l)) (hb : Sl w w.heap.size B n (u32s l)) (hn : n ≤ 1000000) :
    Calls Tryz.prog 49 #[.agg #[.bool b, .slice A n c], .agg #[.bool b, .slice B n d]] w fun e w' => e = .returned (.bool true) ∧ Below w.heap.size w w' := by
  have hB : Below w.heap.size w ((w.alloc (.cells #[.bool b, .slice A n c] 34)).alloc (.cells #[.bool b, .slice B n d] 34)) := ((Below.refl _ _).alloc (Nat.le_refl _) _).alloc (by simp) _
  have H := Lib.hid (limbs_true A B n c d l _ (ha.on hB) (hb.on hB) hn)
  have HB := Lib.hid hB
  have hbb : (b == b) = true := by simp
  clear ha hb hB
  go_enter Tryz.func49, Tryz.ntmps49
  go_wp2_with (go_at_call 50; go_must ((refine H.out.mono ?_); rintro e w' ⟨rfl, q, rfl⟩))
  go_ret
  exact ⟨rfl, below_drewN HB.out q⟩
set_option maxRecDepth 100000 in
set_option maxHeartbeats 800000 in
theorem same_true (v u : Value) (b : Bool) (l1 l2 : List Nat) (w : World) (ha : LiesA w v b l1 l2) (hb : LiesA w u b l1 l2) :
    Calls Tryz.prog 21 #[v, u] w fun e w' => e = .returned (.bool true) ∧ Below w.heap.size w w' := by
  obtain ⟨A, n, c, B, m, d, rfl, h1, h2, h3, h4⟩ := ha
  obtain ⟨A2, n2, c2, B2, m2, d2, rfl, g1, g2, g3, g4⟩ := hb
  obtain rfl : n = n2 := by rw [← h1.ulen, ← g1.ulen]
  obtain rfl : m = m2 := by rw [← h2.ulen, ← g2.ulen]
  have hB : Below w.heap.size w ((w.alloc (.cells #[.bool b, .slice A n c, .slice B m d] 36)).alloc (.cells #[.bool b, .slice A2 n c2, .slice B2 m d2] 36)) := ((Below.refl _ _).alloc (Nat.le_refl _) _).alloc (by simp) _
  have X0 : Blk ((w.alloc (.cells #[.bool b, .slice A n c, .slice B m d] 36)).alloc (.cells #[.bool b, .slice A2 n c2, .slice B2 m d2] 36)) w.heap.size 36 #[.bool b, .slice A n c, .slice B m d] := (Blk.new w _ _).alloc _
  have Y0 : Blk ((w.alloc (.cells #[.bool b, .slice A n c, .slice B m d] 36)).alloc (.cells #[.bool b, .slice A2 n c2, .slice B2 m d2] 36)) (w.heap.size + 1) 36 #[.bool b, .slice A2 n c2, .slice B2 m d2] := Blk.new' _ _ _ (by simp)
  have H := Lib.hid (sameint_true b A A2 n c c2 l1 _ (h1.on hB) (g1.on hB) (by omega))
  have HS := Lib.hid (And.intro h2 g2)
  have HB := Lib.hid hB
  clear h1 h2 g1 g2 hB
  go_enter Tryz.func21, Tryz.ntmps21
  go_wp2_with fail
  refine H.out.mono ?_
  rintro e w1 ⟨rfl, hb1⟩
  have X1 := X0.below hb1
  have Y1 := Y0.below hb1
  have f2 := X1.c (i := 2) rfl
  have k2 := Y1.c (i := 2) rfl
  have B1 := HB.out.trans (hb1.mono HB.out.size)
  have H2 := Lib.hid (limbs_true B B2 m d d2 l2 w1 (HS.out.1.on B1) (HS.out.2.on B1) (by omega))
  have HB1 := Lib.hid B1
  clear X0 Y0 X1 Y1 hb1 B1
  go_wp2_with (go_at_call 50; go_must ((refine H2.out.mono ?_); rintro e w' ⟨rfl, q, rfl⟩))
  go_ret
  exact ⟨rfl, below_drewN HB1.out q⟩
/-- Ratios in normal form of one value lie alike. -/
theorem LiesA.of {w : World} {q : Rat} {k : Nat} {A : Option Addr} {n c : Nat} {B : Option Addr} {m d : Nat} (h1 : Sl w w.heap.size A n (u32s (limbs q.num.natAbs))) (h3 : Sl w w.heap.size B m (u32s (limbs q.den))) (hk : qk q k) (hk2 : k ≤ 100000) : LiesA w (.agg #[.bool (ineg q.num), .slice A n c, .slice B m d]) (ineg q.num) (limbs q.num.natAbs) (limbs q.den) :=
  ⟨A, n, c, B, m, d, rfl, h1, h3, by rw [← h1.ulen]; exact Nat.le_trans hk.1 hk2, by rw [← h3.ulen]; exact Nat.le_trans hk.2 hk2⟩
theorem LiesA.zero (w : World) : LiesA w (.agg #[.bool false, .slice none 0 0, .slice none 0 0]) false [] [] := ⟨none, 0, 0, none, 0, 0, rfl, Sl.none_, Sl.none_, by omega, by omega⟩

/-- Light says whether a ratio's numbers are short. -/
theorem rlight_any (v : Value) (k j : Nat) (q : Rat) (w : World) (ha : RatA w v k q) :
    Calls Tryz.prog 30 #[v, .int .i64 (j : Int)] w fun e w' => ∃ b, e = .returned (.bool b) ∧ (b = true → RatA w v j q) ∧ Below w.heap.size w w' := by
  obtain ⟨neg, A, n, c, B, m, d, x, y, rfl, h1, h2, h3, h4, h5⟩ := ha
  have HR : Hid (n ≤ j → m ≤ j → RatA w (.agg #[.bool neg, .slice A n c, .slice B m d]) j q) := fun e1 e2 => ⟨neg, A, n, c, B, m, d, x, y, rfl, h1, h2, e1, e2, h5⟩
  have HB : Hid (Below w.heap.size w (w.alloc (.cells #[.bool neg, .slice A n c, .slice B m d] 36))) := (Below.refl _ _).alloc (Nat.le_refl _) _
  clear h1 h2 h5
  by_cases e1 : n ≤ j
  · by_cases e2 : m ≤ j
    · go_enter Tryz.func30, Tryz.ntmps30
      go_wp2
      go_ret
      exact ⟨true, rfl, fun _ => HR.out e1 e2, HB.out⟩
    · go_enter Tryz.func30, Tryz.ntmps30
      go_wp2
      go_ret
      exact ⟨false, rfl, (fun h => by cases h), HB.out⟩
  · go_enter Tryz.func30, Tryz.ntmps30
    go_wp2
    go_ret
    exact ⟨false, rfl, (fun h => by cases h), HB.out⟩

set_option maxRecDepth 100000 in
set_option maxHeartbeats 3200000 in
theorem kneg_any (v : Value) (k : Nat) (q : Rat) (w : World) (ha : RatA w v k q) (hk : 1 ≤ k) (hk2 : k ≤ 100000) :
    Calls Tryz.prog 118 #[v] w (RetQ (-q) w) := by
  have hq := ha.qk hk
  have hN := fun W (hB : Below w.heap.size w W) => knorm_any v k q W (ha.on hB) hk2
  obtain ⟨neg, A, n, c, B, m, d, x, y, rfl, h1, h2, h3, h4, h5⟩ := ha
  have HN := Lib.hid hN
  have hB : Below w.heap.size w ((w.alloc (.cells #[.bool neg, .slice A n c, .slice B m d] 36)).alloc (.cells #[.bool false, .slice none 0 0, .slice none 0 0] 36)) := ((Below.refl _ _).alloc (Nat.le_refl _) _).alloc (by simp) _
  have Y0 : Blk ((w.alloc (.cells #[.bool neg, .slice A n c, .slice B m d] 36)).alloc (.cells #[.bool false, .slice none 0 0, .slice none 0 0] 36)) (w.heap.size + 1) 36 #[.bool false, .slice none 0 0, .slice none 0 0] := Blk.new' _ _ _ (by simp)
  clear h1 h2 h3 h4 h5 hN
  go_enter Tryz.func118, Tryz.ntmps118
  go_wp2_with fail
  refine (HN.out _ hB).mono ?_
  rintro e w1 ⟨A1, n1, c1, B1, m1, d1, rfl, r1, r2, r3, r4, hb1⟩
  have B1' := hB.trans (hb1.mono hB.size)
  have Y1 := Y0.below hb1
  have l1 : n1 ≤ 1000000 := by rw [← r1.ulen]; exact Nat.le_trans hq.1 (by omega)
  have HX := Lib.hid (Blk.new w1 36 #[.bool (ineg q.num), .slice A1 n1 c1, .slice B1 m1 d1])
  have HY := Lib.hid (Y1.alloc (.cells #[.bool (ineg q.num), .slice A1 n1 c1, .slice B1 m1 d1] 36))
  have HS := Lib.hid (And.intro (r1.alo (.cells #[.bool (ineg q.num), .slice A1 n1 c1, .slice B1 m1 d1] 36)) (r3.alo (.cells #[.bool (ineg q.num), .slice A1 n1 c1, .slice B1 m1 d1] 36)))
  have HB := Lib.hid (Below.alo B1' (.cells #[.bool (ineg q.num), .slice A1 n1 c1, .slice B1 m1 d1] 36))
  have hsz : w.heap.size + 1 + 1 ≤ w1.heap.size := by have := hb1.size; simp at this; omega
  clear Y0 Y1 hb1 hB r1 r3 B1'
  go_wp2_with fail
  have hlt : w.heap.size + 1 < w1.heap.size := by omega
  have hne1 : ¬ w.heap.size + 1 = w1.heap.size := by omega
  have hne2 : ¬ w1.heap.size = w.heap.size + 1 := by omega
  have HG := fun W (hW : Below (w1.alloc (.cells #[.bool (ineg q.num), .slice A1 n1 c1, .slice B1 m1 d1] 36)).heap.size (w1.alloc (.cells #[.bool (ineg q.num), .slice A1 n1 c1, .slice B1 m1 d1] 36)) W) => jneg_any (ineg q.num) A1 n1 c1 q.num.natAbs W (.of_limbs (HS.out.1.on hW) r2) l1
  rw [sgn_not, sgn_self] at HG
  have HG := Lib.hid HG
  go_region_held3 (fun w' => w'.cell? ⟨w1.heap.size, 0, none⟩ = some (.bool (ineg q.num)) ∧ w'.cell? ⟨w1.heap.size, 1, none⟩ = some (.slice A1 n1 c1) ∧ w'.cell? ⟨w1.heap.size, 2, none⟩ = some (.slice B1 m1 d1))
    (go_keep)
    ((go_at_call 151; go_must ((refine (HG.out _ (by repeat (first | (with_reducible exact Below.refl _ _) | (with_reducible refine Below.drew ?_)))).mono ?_); rintro e w2 ⟨A2, n2, c2, rfl, r5, r6, hb2⟩; have HB2 := Lib.hid (show Below (w1.alloc (.cells #[.bool (ineg q.num), .slice A1 n1 c1, .slice B1 m1 d1] 36)).heap.size (w1.alloc (.cells #[.bool (ineg q.num), .slice A1 n1 c1, .slice B1 m1 d1] 36)) w2 from ⟨hb2.os, hb2.tape, hb2.output, hb2.size, hb2.block⟩); have Y2 := HY.out.below HB2.out; have X2 := HX.out.below HB2.out; have HF := Lib.hid (rat_end (q := -q) (by rw [Rat.neg_num]; exact r5) r6 (by rw [Rat.neg_den]; exact HS.out.2.on HB2.out) r4 Y2 (by simp) (HB.out.trans (HB2.out.mono HB.out.size)) (by omega)); have t0 := X2.c (i := 0) rfl; have t1 := X2.c (i := 1) rfl; have t2 := X2.c (i := 2) rfl; have k0 := Y2.c (i := 0) rfl; have k1 := Y2.c (i := 1) rfl; have k2 := Y2.c (i := 2) rfl; have y0 := Y2.frozen 0; have y1 := Y2.frozen 1; have y2 := Y2.frozen 2; clear hb2 r5 X2 Y2)))
  go_wp2_with fail
  refine bodyPost_ret (v := .agg #[.bool (ineg (-q).num), .slice A2 n2 c2, .slice B1 m1 d1]) (by rw [Rat.neg_num]; simp [results, Tryz.results118, go_sem, k0, k1, k2]) rfl ?_
  have hf := HF.out
  rw [Rat.neg_num] at hf ⊢
  exact hf
end Go.Proofs.YtjiccijfbpkliaaGreatDoor

/- garmentref03.Sub, Text. Conditions: numbers of at most 40,000 limbs. (Printed by gen_rq5.py.) -/
namespace Go.Proofs.YtjiccijfbpkliaaGreatDoor
open Go.RowKit
open Go.Lib hiding intOf

set_option maxRecDepth 100000 in
set_option maxHeartbeats 3200000 in
theorem ksub_any (v u : Value) (j k : Nat) (p q : Rat) (w : World) (ha : RatA w v j p) (hb : RatA w u k q) (hj : 1 ≤ j) (hk : 1 ≤ k) (hj2 : j ≤ 40000) (hk2 : k ≤ 40000) :
    Calls Tryz.prog 88 #[v, u] w (RetQ (p - q) w) := by
  have HA := Lib.hid (And.intro ha hb)
  have hqk := qk_neg (hb.qk hk)
  obtain ⟨neg, A, n, c, B, m, d, x, y, rfl, -⟩ := ha
  obtain ⟨neg2, A2, n2, c2, B2, m2, d2, x2, y2, rfl, -⟩ := hb
  have hB : Below w.heap.size w (((w.alloc (.cells #[.bool neg, .slice A n c, .slice B m d] 36)).alloc (.cells #[.bool neg2, .slice A2 n2 c2, .slice B2 m2 d2] 36)).alloc (.cells #[.bool false, .slice none 0 0, .slice none 0 0] 36)) := (((Below.refl _ _).alloc (Nat.le_refl _) _).alloc (by simp) _).alloc (by simp; omega) _
  have X0 : Blk (((w.alloc (.cells #[.bool neg, .slice A n c, .slice B m d] 36)).alloc (.cells #[.bool neg2, .slice A2 n2 c2, .slice B2 m2 d2] 36)).alloc (.cells #[.bool false, .slice none 0 0, .slice none 0 0] 36)) w.heap.size 36 #[.bool neg, .slice A n c, .slice B m d] := ((Blk.new w _ _).alloc _).alloc _
  have Y0 : Blk (((w.alloc (.cells #[.bool neg, .slice A n c, .slice B m d] 36)).alloc (.cells #[.bool neg2, .slice A2 n2 c2, .slice B2 m2 d2] 36)).alloc (.cells #[.bool false, .slice none 0 0, .slice none 0 0] 36)) (w.heap.size + 1) 36 #[.bool neg2, .slice A2 n2 c2, .slice B2 m2 d2] := (Blk.new' (w.alloc (.cells #[.bool neg, .slice A n c, .slice B m d] 36)) 36 #[.bool neg2, .slice A2 n2 c2, .slice B2 m2 d2] (by simp)).alloc _
  have R0 : Blk (((w.alloc (.cells #[.bool neg, .slice A n c, .slice B m d] 36)).alloc (.cells #[.bool neg2, .slice A2 n2 c2, .slice B2 m2 d2] 36)).alloc (.cells #[.bool false, .slice none 0 0, .slice none 0 0] 36)) (w.heap.size + 1 + 1) 36 #[.bool false, .slice none 0 0, .slice none 0 0] := Blk.new' ((w.alloc (.cells #[.bool neg, .slice A n c, .slice B m d] 36)).alloc (.cells #[.bool neg2, .slice A2 n2 c2, .slice B2 m2 d2] 36)) 36 #[.bool false, .slice none 0 0, .slice none 0 0] (by simp)
  have HX := Lib.hid X0
  have HY := Lib.hid Y0
  have HZ := Lib.hid R0
  have HB := Lib.hid hB
  clear X0 Y0 R0 hB
  have ne0 : ¬ w.heap.size + 1 + 1 = w.heap.size := by omega
  have ne1 : ¬ w.heap.size = w.heap.size + 1 + 1 := by omega
  have ne2 : ¬ w.heap.size + 1 + 1 = w.heap.size + 1 := by omega
  have ne3 : ¬ w.heap.size + 1 = w.heap.size + 1 + 1 := by omega
  obtain ⟨s0, s1, s2, s3, s4, s5⟩ := six HX.out HY.out
  go_enter Tryz.func88, Tryz.ntmps88
  go_upto_region 1 with fail
  go_region_held3 (fun w' => w'.cell? ⟨w.heap.size, 0, none⟩ = some (.bool neg) ∧ w'.cell? ⟨w.heap.size, 1, none⟩ = some (.slice A n c) ∧ w'.cell? ⟨w.heap.size, 2, none⟩ = some (.slice B m d) ∧ w'.cell? ⟨w.heap.size + 1, 0, none⟩ = some (.bool neg2) ∧ w'.cell? ⟨w.heap.size + 1, 1, none⟩ = some (.slice A2 n2 c2) ∧ w'.cell? ⟨w.heap.size + 1, 2, none⟩ = some (.slice B2 m2 d2))
    (go_keep)
    (first
    | (go_at_call 118; go_must ((refine (kneg_any _ k q _ (by exact HA.out.2.on HB.out.drew) hk (by omega)).mono ?_); rintro e w3 ⟨A3, n3, c3, B3, m3, d3, rfl, r1, r2, r3, r4, hb3⟩; have HB3 := Lib.hid (HB.out.trans (Below.mono (w' := w3) ⟨hb3.os, hb3.tape, hb3.output, hb3.size, hb3.block⟩ HB.out.size)); have HX3 := Lib.hid (HX.out.below (w' := w3) ⟨hb3.os, hb3.tape, hb3.output, hb3.size, hb3.block⟩); have HY3 := Lib.hid (HY.out.below (w' := w3) ⟨hb3.os, hb3.tape, hb3.output, hb3.size, hb3.block⟩); have HZ3 := Lib.hid (HZ.out.below (w' := w3) ⟨hb3.os, hb3.tape, hb3.output, hb3.size, hb3.block⟩); have hs3 := six HX3.out HY3.out; have HR3 := Lib.hid (RatA.of r1 r2 r3 r4 hqk); clear r1 r3 hb3))
    | (go_at_call 86; go_must ((refine (kadd_any _ _ j k p (-q) _ (HA.out.1.on HB3.out) HR3.out hj hk hj2 hk2).mono ?_); rintro e w4 ⟨A4, n4, c4, B4, m4, d4, rfl, r5, r6, r7, r8, hb4⟩; have X4 := HX3.out.below hb4; have Y4 := HY3.out.below hb4; have Z4 := HZ3.out.below hb4; have HF := Lib.hid (rat_end r5 r6 r7 r8 Z4 (by simp) (HB3.out.trans (hb4.mono HB3.out.size)) (by omega)); have hs4 := six X4 Y4; have k0 := Z4.c (i := 0) rfl; have k1 := Z4.c (i := 1) rfl; have k2 := Z4.c (i := 2) rfl; have y0 := Z4.frozen 0; have y1 := Z4.frozen 1; have y2 := Z4.frozen 2; clear r5 r7 X4 Y4 Z4 hb4)))
  go_wp2_with fail
  rw [Rat.sub_eq_add_neg]
  refine bodyPost_ret (v := .agg #[.bool (ineg (p + -q).num), .slice A4 n4 c4, .slice B4 m4 d4]) (by simp [results, Tryz.results88, go_sem, k0, k1, k2]) rfl ?_
  exact HF.out

set_option maxRecDepth 100000 in
set_option maxHeartbeats 3200000 in
theorem ktext_any (v : Value) (k : Nat) (q : Rat) (w : World) (ha : RatA w v k q) (hk : 1 ≤ k) (hk2 : k ≤ 40000) :
    Calls Tryz.prog 58 #[v] w (RetT (ratText q) w) := by
  have hqk := ha.qk hk
  have hN0 := fun W (hB : Below w.heap.size w W) => knorm_any v k q W (ha.on hB) (by omega)
  obtain ⟨neg, A, n, c, B, m, d, x, y, rfl, _, _, _, _, _⟩ := ha
  have HN0 := Lib.hid hN0
  have hB : Below w.heap.size w (w.alloc (.cells #[.bool neg, .slice A n c, .slice B m d] 36)) := (Below.refl _ _).alloc (Nat.le_refl _) _
  clear hN0
  go_enter Tryz.func58, Tryz.ntmps58
  go_wp2_with fail
  refine (HN0.out _ hB).mono ?_
  rintro e w1 ⟨A1, n1, c1, B1, m1, d1, rfl, r1, r2, r3, r4, hb1⟩
  have B1' := hB.trans (hb1.mono hB.size)
  have HP := Lib.hid (Blk.new w1 36 #[.bool (ineg q.num), .slice A1 n1 c1, .slice B1 m1 d1])
  have HS := Lib.hid (And.intro (r1.alo (.cells #[.bool (ineg q.num), .slice A1 n1 c1, .slice B1 m1 d1] 36)) (r3.alo (.cells #[.bool (ineg q.num), .slice A1 n1 c1, .slice B1 m1 d1] 36)))
  have HB := Lib.hid (Below.alo B1' (.cells #[.bool (ineg q.num), .slice A1 n1 c1, .slice B1 m1 d1] 36))
  have ln : n1 ≤ 40000 := by rw [← r1.ulen]; exact Nat.le_trans hqk.1 hk2
  have lm : m1 ≤ 40000 := by rw [← r3.ulen]; exact Nat.le_trans hqk.2 hk2
  clear hb1 hB r1 r3 B1'
  go_upto_region 2 with fail
  go_cut [10] (fun s10 wx => s10 = .bool (decide (q.den = 1)) ∧ Below (w1.alloc (.cells #[.bool (ineg q.num), .slice A1 n1 c1, .slice B1 m1 d1] 36)).heap.size (w1.alloc (.cells #[.bool (ineg q.num), .slice A1 n1 c1, .slice B1 m1 d1] 36)) wx)
  case first =>
    have v2 := HP.out.c (i := 2) rfl
    have HC := Lib.hid (cmp_one (d := q.den))
    have hlt : w1.heap.size < w1.heap.size + 1 := by omega
    go_region_held3 (fun w' => w'.cell? ⟨w1.heap.size, 2, none⟩ = some (.slice B1 m1 d1))
      (go_keep)
      (first
      | (go_at_call 85; go_must ((refine (rf_of 1 _ (by omega)).mono ?_); rintro e w2 ⟨O, on, oc, rfl, o1, o2, hb2⟩; have HB2 := Lib.hid (show Below (w1.alloc (.cells #[.bool (ineg q.num), .slice A1 n1 c1, .slice B1 m1 d1] 36)).heap.size (w1.alloc (.cells #[.bool (ineg q.num), .slice A1 n1 c1, .slice B1 m1 d1] 36)) w2 from ⟨hb2.os, hb2.tape, hb2.output, hb2.size, hb2.block⟩); have P2 := HP.out.below HB2.out; have t2 := P2.c (i := 2) rfl; have HO := Lib.hid o1; have lo : on ≤ 1 := (by rw [← o1.ulen]; exact nl_small (by unfold bs; omega)); clear hb2 o1 P2))
      | (go_at_call 95; go_must ((refine (rf_cmp B1 O m1 on d1 oc q.den 1 _ (by exact .of_limbs (HS.out.2.on HB2.out) r4) (by exact .of_limbs HO.out o2) (by omega) (by omega)).mono ?_); rintro e w3 ⟨rfl, rfl⟩)))
    all_goals
      go_wp2_with fail
      go_meet
      exact ⟨by rw [HC.out], HB2.out⟩
  case rest =>
    obtain ⟨rfl, hbx⟩ := hcut
    have hX := HP.out.below hbx
    have g0 := hX.c (i := 0) rfl
    have g1 := hX.c (i := 1) rfl
    have g2 := hX.c (i := 2) rfl
    have hbel := HB.out.trans (hbx.mono HB.out.size)
    have hS1 := HS.out.1.on hbx
    have hS2 := HS.out.2.on hbx
    have HT := Lib.hid (jtext_any (ineg q.num) A1 n1 c1 q.num.natAbs wc (.of_limbs hS1 r2) (by omega))
    have HX := Lib.hid hX
    have HS2 := Lib.hid (And.intro hS1 hS2)
    clear hX hS1 hS2 HP HS HB hbx
    by_cases h1 : q.den = 1
    · have hd : decide (q.den = 1) = true := by simpa using h1
      have HE : Hid (ratText q = itoa q.num) := by rw [Hid, ratText, if_pos h1]
      rw [hd]
      clear hd h1
      go_wp2_with (go_at_call 96; go_must ((refine HT.out.mono ?_); rintro e w2 ⟨rfl, hb2⟩; rw [sgn_self]))
      go_ret
      exact ⟨by rw [HE.out]; rfl, hbel.trans (hb2.mono hbel.size)⟩
    · have hd : decide (q.den = 1) = false := by simpa using h1
      have HE : Hid (ratText q = itoa q.num ++ ([47] ++ decDigits q.den)) := by rw [Hid, ratText, if_neg h1]
      obtain ⟨I, D, y', p, hI, hD, ha1, ha2, hp⟩ := slash_add q.num q.den (Nat.le_trans hqk.1 (by omega)) (Nat.le_trans hqk.2 (by omega))
      have HI := Lib.hid (And.intro hI (And.intro hD hp))
      rw [hd]
      clear hd h1 hI hD hp
      obtain ⟨wo, rfl⟩ : ∃ wo : World, wo = wc := ⟨_, rfl⟩
      go_wp2_with fail
      go_region_held3 (fun w' => w'.cell? ⟨w1.heap.size, 0, none⟩ = some (.bool (ineg q.num)) ∧ w'.cell? ⟨w1.heap.size, 1, none⟩ = some (.slice A1 n1 c1) ∧ w'.cell? ⟨w1.heap.size, 2, none⟩ = some (.slice B1 m1 d1))
        (go_keep)
        (first
        | (go_at_call 96; go_must ((refine (jtext_any (ineg q.num) A1 n1 c1 q.num.natAbs _ (by exact .of_limbs HS2.out.1 r2) (by omega)).mono ?_); rintro e w2 ⟨rfl, hb2⟩; rw [sgn_self, HI.out.1]; have HB2 := Lib.hid (show Below wo.heap.size wo w2 from ⟨hb2.os, hb2.tape, hb2.output, hb2.size, hb2.block⟩); have X2 := HX.out.below HB2.out; have t0 := X2.c (i := 0) rfl; have t1 := X2.c (i := 1) rfl; have t2 := X2.c (i := 2) rfl; clear hb2 X2))
        | (go_at_call 97; go_must ((refine (rf_text B1 m1 d1 q.den _ (by exact .of_limbs (HS2.out.2.on HB2.out) r4) (by omega)).mono ?_); rintro e w3 ⟨rfl, hb3⟩; rw [HI.out.2.1]; have HB3 := Lib.hid (HB2.out.trans (hb3.mono HB2.out.size)); have X3 := HX.out.below HB3.out; have u0 := X3.c (i := 0) rfl; have u1 := X3.c (i := 1) rfl; have u2 := X3.c (i := 2) rfl; clear hb3 X3)))
      go_wp2_with fail
      go_ret
      exact ⟨by rw [HE.out, ← HI.out.2.2]; rfl, hbel.trans (HB3.out.mono hbel.size)⟩
end Go.Proofs.YtjiccijfbpkliaaGreatDoor
