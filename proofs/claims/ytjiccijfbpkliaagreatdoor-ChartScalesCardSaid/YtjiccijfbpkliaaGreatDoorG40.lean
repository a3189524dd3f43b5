/-
  Several texts in one: ratio.Mul returns the product in normal form. Conditions: numbers of at most 100,000 limbs.
-/
import Derived.Deep.RegionHeld3
import Derived.Test.YtjiccijfbpkliaaGreatDoorG19

/- ratio.Mul returns the product in normal form. Conditions: numbers of at most 100,000 limbs. -/
namespace Go.Proofs.YtjiccijfbpkliaaGreatDoor
open Go.RowKit

set_option maxRecDepth 100000 in
set_option maxHeartbeats 6400000 in
theorem rmul_any (v u : Value) (j k : Nat) (p q : Rat) (w : World) (ha : RatA w v j p) (hb : RatA w u k q) (hj : 1 ≤ j) (hk : 1 ≤ k) (hj2 : j ≤ 100000) (hk2 : k ≤ 100000) :
    Calls Tryz.prog 31 #[v, u] w (RetQ (p * q) w) := by
  obtain ⟨neg, A, n, c, B, m, d, x, y, rfl, h1, h2, h3, h4, h5⟩ := ha
  obtain ⟨neg2, A2, n2, c2, B2, m2, d2, x2, y2, rfl, g1, g2, g3, g4, g5⟩ := hb
  have HV := fun W (hB : Below w.heap.size w W) => value_any neg A n c x B m d y W (h1.on hB) (h2.on hB) j h3 h4 hj (by omega)
  rw [h5] at HV
  have HU := fun W (hB : Below w.heap.size w W) => value_any neg2 A2 n2 c2 x2 B2 m2 d2 y2 W (g1.on hB) (g2.on hB) k g3 g4 hk (by omega)
  rw [g5] at HU
  have HV := Lib.hid HV
  have HU := Lib.hid HU
  have hB : Below w.heap.size w (((w.alloc (.cells #[.bool neg, .slice A n c, .slice B m d] 36)).alloc (.cells #[.bool neg2, .slice A2 n2 c2, .slice B2 m2 d2] 36)).alloc (.cells #[.bool false, .slice none 0 0, .slice none 0 0] 36)) := (((Below.refl _ _).alloc (Nat.le_refl _) _).alloc (by simp) _).alloc (by simp; omega) _
  have X0 : Blk (((w.alloc (.cells #[.bool neg, .slice A n c, .slice B m d] 36)).alloc (.cells #[.bool neg2, .slice A2 n2 c2, .slice B2 m2 d2] 36)).alloc (.cells #[.bool false, .slice none 0 0, .slice none 0 0] 36)) w.heap.size 36 #[.bool neg, .slice A n c, .slice B m d] := ((Blk.new w _ _).alloc _).alloc _
  have Y0 : Blk (((w.alloc (.cells #[.bool neg, .slice A n c, .slice B m d] 36)).alloc (.cells #[.bool neg2, .slice A2 n2 c2, .slice B2 m2 d2] 36)).alloc (.cells #[.bool false, .slice none 0 0, .slice none 0 0] 36)) (w.heap.size + 1) 36 #[.bool neg2, .slice A2 n2 c2, .slice B2 m2 d2] := (Blk.new' (w.alloc (.cells #[.bool neg, .slice A n c, .slice B m d] 36)) 36 #[.bool neg2, .slice A2 n2 c2, .slice B2 m2 d2] (by simp)).alloc _
  have R0 : Blk (((w.alloc (.cells #[.bool neg, .slice A n c, .slice B m d] 36)).alloc (.cells #[.bool neg2, .slice A2 n2 c2, .slice B2 m2 d2] 36)).alloc (.cells #[.bool false, .slice none 0 0, .slice none 0 0] 36)) (w.heap.size + 1 + 1) 36 #[.bool false, .slice none 0 0, .slice none 0 0] := Blk.new' ((w.alloc (.cells #[.bool neg, .slice A n c, .slice B m d] 36)).alloc (.cells #[.bool neg2, .slice A2 n2 c2, .slice B2 m2 d2] 36)) 36 #[.bool false, .slice none 0 0, .slice none 0 0] (by simp)
  have HX := Lib.hid X0
  have HY := Lib.hid Y0
  have HZ := Lib.hid R0
  clear h1 h2 h3 h4 h5 g1 g2 g3 g4 g5 X0 Y0 R0
  have hl1 : w.heap.size < w.heap.size + 1 + 1 := by omega
  have hl2 : w.heap.size < w.heap.size + 1 + 1 + 1 := by omega
  have hq0 : ¬ w.heap.size + 1 = w.heap.size := by omega
  go_enter Tryz.func31, Tryz.ntmps31
  go_upto_region 1 with fail
  go_cut [4] (fun s4 wx => s4 = .pointer (some ⟨w.heap.size + 1 + 1, 0, none⟩) ∧ val2 true p q j k w wx)
  case first =>
    go_region_with (first
      | (go_at_call_of 68 (Value.agg #[.bool neg, .slice A n c, .slice B m d]); go_must ((refine (HV.out _ (by exact hB.drew)).mono ?_); rintro e w1 ⟨ng, C, cn, cc, E, en, ec, xx, yy, rfl, a1, a2, a3, a4, a5, a6, hb1⟩; obtain ⟨hcl, hfr⟩ := bcell hb1; have hz1 : w.heap.size + 1 + 1 < w1.heap.size := (by have := hb1.size; simp at this; omega); have hz2 : w.heap.size < w1.heap.size := (by omega); have hz3 : w.heap.size + 1 < w1.heap.size := (by omega)))
      | (go_at_call 68; go_must ((refine (HU.out _ (by exact hB.drew.trans (hb1.mono hB.drew.size))).mono ?_); rintro e w2 ⟨ng2, C2, cn2, cc2, E2, en2, ec2, xx2, yy2, rfl, b1, b2, b3, b4, b5, b6, hb2⟩; obtain ⟨hcl2, hfr2⟩ := bcell hb2)))
    all_goals
      have X2 := (HX.out.below (w' := w1) ⟨hb1.os, hb1.tape, hb1.output, hb1.size, hb1.block⟩).below hb2
      have Y2 := (HY.out.below (w' := w1) ⟨hb1.os, hb1.tape, hb1.output, hb1.size, hb1.block⟩).below hb2
      have R2 := (HZ.out.below (w' := w1) ⟨hb1.os, hb1.tape, hb1.output, hb1.size, hb1.block⟩).below hb2
      have hb1' : Below w.heap.size w w1 := hB.trans (Below.mono ⟨hb1.os, hb1.tape, hb1.output, hb1.size, hb1.block⟩ hB.size)
      have HE := Lib.hid (val2_end (t := true) (w := w) (a1.on hb2) (a2.on hb2) a3 a4 a5 a6 b1 b2 b3 b4 b5 b6 X2 Y2 (by intro _; exact R2) (hb1'.trans (hb2.mono hb1'.size)) (NoU.blk X2 (by simp)) (NoU.blk Y2 (by simp)))
      clear X2 Y2 R2 a1 a2 b1 b2 hb1'
      go_wp2_with fail
      go_meet
      exact ⟨rfl, HE.out⟩
  case rest =>
    clear HX HY HZ HV HU hB
    obtain ⟨rfl, neg1, A1, n1, c1, B1, m1, d1, x1, y1, neg3, A3, n3, c3, B3, m3, d3, x3, y3, hX, hY, hZ, a1, a2, a3, a4, a5, a6, b1, b2, b3, b4, b5, b6, hbel⟩ := hcut
    have HX := Lib.hid hX
    have HY := Lib.hid hY
    have HZ := Lib.hid (hZ rfl)
    have HN := Lib.hid (And.intro a1 (And.intro a2 (And.intro b1 b2)))
    have hs := six hX hY
    have hne : y1 * y3 ≠ 0 := Nat.mul_ne_zero a3 b3
    have ld : nl (y1 * y3) ≤ 1000000 := by
      have h1 := nl_mul y1 y3
      have h2 := a2.trimmed.1
      have h3 := b2.trimmed.1
      omega
    have l1 : nl (sgn neg1 x1 * sgn neg3 x3).natAbs ≤ 1000000 := by
      refine Nat.le_trans (nl_abs_mul _ _ (j := j) (k := k) ?_ ?_) (by omega)
      · rw [sgn_abs]; exact Nat.le_trans a1.trimmed.1 a5
      · rw [sgn_abs]; exact Nat.le_trans b1.trimmed.1 b5
    have HR := fun W C cn cc D dn dc (h : Sl W W.heap.size C cn (u32s (limbs (sgn neg1 x1 * sgn neg3 x3).natAbs))) (hc : cn ≤ cc) (hcn : cn ≤ 1000000) (g : Sl W W.heap.size D dn (u32s (limbs (y1 * y3)))) (hd : dn ≤ dc) (hdn : dn ≤ 1000000) => reduce_any (ineg (sgn neg1 x1 * sgn neg3 x3)) C cn cc (sgn neg1 x1 * sgn neg3 x3).natAbs D dn dc (y1 * y3) W (.of_limbs h hc) (.of_limbs g hd) hcn hdn hne
    rw [sgn_self, ← rv_mul, a4, b4] at HR
    have HR := Lib.hid HR
    clear hX hY hZ a1 a2 b1 b2
    obtain ⟨s0, s1, s2, s3, s4, s5⟩ := hs
    go_wp2_with fail
    have ne0 : ¬ w.heap.size + 1 + 1 = w.heap.size := by omega
    have ne1 : ¬ w.heap.size = w.heap.size + 1 + 1 := by omega
    have ne2 : ¬ w.heap.size + 1 + 1 = w.heap.size + 1 := by omega
    have ne3 : ¬ w.heap.size + 1 = w.heap.size + 1 + 1 := by omega
    go_region_held3 (fun w' => w'.cell? ⟨w.heap.size, 0, none⟩ = some (.bool neg1) ∧ w'.cell? ⟨w.heap.size, 1, none⟩ = some (.slice A1 n1 c1) ∧ w'.cell? ⟨w.heap.size, 2, none⟩ = some (.slice B1 m1 d1) ∧ w'.cell? ⟨w.heap.size + 1, 0, none⟩ = some (.bool neg3) ∧ w'.cell? ⟨w.heap.size + 1, 1, none⟩ = some (.slice A3 n3 c3) ∧ w'.cell? ⟨w.heap.size + 1, 2, none⟩ = some (.slice B3 m3 d3))
      (go_keep)
      (first
      | (go_at_call 70; go_must ((refine (imul_any neg1 A1 n1 c1 x1 neg3 A3 n3 c3 x3 _ (by exact HN.out.1) (by exact HN.out.2.2.1) (by omega) (by omega)).mono ?_); rintro e w3 ⟨C3, k3, e3, rfl, r3, hc3, hb3⟩; have HBw3 := Lib.hid (show Below wc.heap.size wc w3 from ⟨hb3.os, hb3.tape, hb3.output, hb3.size, hb3.block⟩); have hsw3 := six (HX.out.below HBw3.out) (HY.out.below HBw3.out); have lk3 : k3 ≤ 1000000 := (by rw [← r3.ulen]; exact l1); have HM := Lib.hid r3; clear r3; clear hb3))
      | (go_at_call 71; go_must ((refine (mul_any B1 B3 m1 m3 d1 d3 y1 y3 _ (by exact HN.out.2.1.on HBw3.out) (by exact HN.out.2.2.2.on HBw3.out) (by omega) (by omega)).mono ?_); rintro e w4 ⟨C4, k4, e4, rfl, r4, hc4, hb4⟩; have HBw4 := Lib.hid (show Below wc.heap.size wc w4 from HBw3.out.trans ((hb4 : Below w3.heap.size w3 w4).mono HBw3.out.size)); have hsw4 := six (HX.out.below HBw4.out) (HY.out.below HBw4.out); have lk4 : k4 ≤ 1000000 := (by rw [← r4.ulen]; exact ld); have HM4 := Lib.hid (HM.out.on hb4); have HD4 := Lib.hid r4; clear r4; clear hb4))
      | (go_at_call 69; go_must ((refine (HR.out _ C3 k3 e3 C4 k4 e4 HM4.out hc3 lk3 HD4.out hc4 lk4).mono ?_); rintro e w5 ⟨Cf, nf, cf, Ef, mf, df, rfl, rf1, rf2, rf3, rf4, hb5⟩; have HBw5 := Lib.hid (show Below wc.heap.size wc w5 from HBw4.out.trans ((hb5 : Below w4.heap.size w4 w5).mono HBw4.out.size)); have hsw5 := six (HX.out.below HBw5.out) (HY.out.below HBw5.out); have Zf := HZ.out.below HBw5.out; have HF := Lib.hid (rat_end rf1 rf2 rf3 rf4 Zf (by simp) (hbel.trans (HBw5.out.mono hbel.size)) (by omega)); have k0 := Zf.c (i := 0) rfl; have k1 := Zf.c (i := 1) rfl; have k2 := Zf.c (i := 2) rfl; have y0' := Zf.frozen 0; have y1' := Zf.frozen 1; have y2' := Zf.frozen 2; clear rf1 rf3 Zf; clear hb5)))
    go_wp2_with fail
    refine bodyPost_ret (v := .agg #[.bool (ineg (p * q).num), .slice Cf nf cf, .slice Ef mf df]) (by simp [results, Tryz.results31, go_sem, k0, k1, k2]) rfl ?_
    exact HF.out
end Go.Proofs.YtjiccijfbpkliaaGreatDoor
