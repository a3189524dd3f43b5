/- Parts of the proof. -/
import Derived.Test.YtiibocdmlfedkaaGreatDoorH43
import Derived.Test.YtiibocdmlfedkaaGreatDoorH51
namespace Go.Proofs.YtiibocdmlfedkaaGreatDoor
section
open Go.RowKit
open Go.Lib hiding intOf
theorem shl_word (u s : Nat) (hu : u < 4294967296) (hs : s ≤ 31) : IntKind.u64.wrap ((u : Int) * 2 ^ s) = ((u * 2 ^ s : Nat) : Int) ∧ u * 2 ^ s < 9223372036854775808 := by
 have h1 : 2 ^ s ≤ 2 ^ 31 := Nat.pow_le_pow_right (by omega) hs
 have h2 : u * 2 ^ s ≤ 4294967295 * 2 ^ 31 := Nat.mul_le_mul (by omega) h1
 have h3 : ((u : Int) * 2 ^ s) = ((u * 2 ^ s : Nat) : Int) := by rw [Int.natCast_mul, Int.natCast_pow]; rfl
 rw [h3, IntKind.wrap_u64]
 generalize u * 2 ^ s = t at *
 omega
theorem gcd_step (X Y : Nat) : Y.gcd (X % Y) = X.gcd Y := by rw [Nat.gcd_comm X Y, Nat.gcd_rec Y X, Nat.gcd_comm]
def RetDM (q r : Nat) (w : World) (e : Ending) (w' : World) : Prop :=
 ∃ A n c B m d, e = .returned (.tuple #[.slice A n c, .slice B m d, .bool true]) ∧ Sl w' w'.heap.size A n (u32s (limbs q)) ∧ n ≤ c ∧ Sl w' w'.heap.size B m (u32s (limbs r)) ∧ m ≤ d ∧ Below w.heap.size w w'
theorem make_succ (n : Nat) (hn : n ≤ 1000000) (W : World) : (Instr.makeSlice 121 (.int .i64 ((n : Int) + 1)) (.int .i64 ((n : Int) + 1))).run Tryz.prog W = .ok (.slice (some ⟨W.heap.size, 0, none⟩) (n + 1) (n + 1)) (W.alloc (.cells (madeCells #[Value.int .u32 0] (n + 1)) 190)) := by
 have h := make_full (n + 1) (by omega) W
 rw [Int.natCast_add] at h
 exact h
end
section
open Go.RowKit
set_option maxRecDepth 100000 in
set_option maxHeartbeats 1600000 in
theorem rcross_any (a b c : Pt) (w : World) (ha : inG a) (hb : inG b) (hc : inG c) :
  Calls Tryz.prog 241 #[.agg #[.int .i64 a.1, .int .i64 a.2], .agg #[.int .i64 b.1, .int .i64 b.2], .agg #[.int .i64 c.1, .int .i64 c.2]] w fun e w' => e = .returned (.int .i64 (crossP a b c)) ∧ Below w.heap.size w w' := by
 have HB := Lib.hid (box3 w a b c)
 have hx := cross_in ha hb hc
 have HE : Hid (crossP a b c = (b.1 - a.1) * (c.2 - a.2) - (b.2 - a.2) * (c.1 - a.1)) := rfl
 obtain ⟨a1, a2⟩ := a
 obtain ⟨b1, b2⟩ := b
 obtain ⟨c1, c2⟩ := c
 obtain ⟨q1, q2, q3, q4⟩ := ha
 obtain ⟨q5, q6, q7, q8⟩ := hb
 obtain ⟨q9, q10, q11, q12⟩ := hc
 obtain ⟨⟨x1, x2⟩, x3, x4⟩ := hx
 simp only at *
 go_enter Tryz.func241, Tryz.ntmps241
 go_wp2
 go_ret
 exact ⟨by rw [HE.out]; rfl, HB.out⟩
set_option maxRecDepth 100000 in
set_option maxHeartbeats 3200000 in
theorem rbet_any (a b p : Pt) (w : World) (ha : inG a) (hb : inG b) (hc : inG p) :
  Calls Tryz.prog 222 #[.agg #[.int .i64 a.1, .int .i64 a.2], .agg #[.int .i64 b.1, .int .i64 b.2], .agg #[.int .i64 p.1, .int .i64 p.2]] w fun e w' => e = .returned (.bool (onP a b p)) ∧ Below w.heap.size w w' := by
 have HB := Lib.hid (box3 w a b p)
 have HC := Lib.hid (fun W => rcross_any a b p W ha hb hc)
 clear ha hb hc
 obtain ⟨x, hx⟩ : ∃ x, crossP a b p = x := ⟨_, rfl⟩
 simp only [hx] at HC
 have HX := Lib.hid hx
 have HD : Hid (onP a b p = (decide (x = 0) && (decide (min a.1 b.1 ≤ p.1) && (decide (p.1 ≤ max a.1 b.1) && (decide (min a.2 b.2 ≤ p.2) && decide (p.2 ≤ max a.2 b.2)))))) := by rw [Hid, onP, hx]
 clear hx
 by_cases h0 : x = 0
 ·subst h0
  by_cases h1 : min a.1 b.1 ≤ p.1
  ·skip
   by_cases h2 : p.1 ≤ max a.1 b.1
   ·skip
    by_cases h3 : min a.2 b.2 ≤ p.2
    ·skip
     have HF : Hid (onP a b p = decide (p.2 ≤ max a.2 b.2)) := by rw [Hid, HD.out, decide_eq_true h1, decide_eq_true h2, decide_eq_true h3]; rfl
     go_enter Tryz.func222, Tryz.ntmps222
     go_wp2_with (go_at_call 241; refine (HC.out _).mono ?_; rintro e w' ⟨rfl, hb'⟩; obtain ⟨hcl, hfr⟩ := bcell hb'; have HB' := Lib.hid hb'; clear hb')
     go_ret
     exact ⟨by rw [HF.out]; rfl, HB.out.trans (HB'.out.mono HB.out.size)⟩
    ·have HF : Hid (onP a b p = false) := by rw [Hid, HD.out, decide_eq_true h1, decide_eq_true h2, decide_eq_false h3]; rfl
     go_enter Tryz.func222, Tryz.ntmps222
     go_wp2_with (go_at_call 241; refine (HC.out _).mono ?_; rintro e w' ⟨rfl, hb'⟩; obtain ⟨hcl, hfr⟩ := bcell hb'; have HB' := Lib.hid hb'; clear hb')
     go_ret
     exact ⟨by rw [HF.out]; rfl, HB.out.trans (HB'.out.mono HB.out.size)⟩
   ·have HF : Hid (onP a b p = false) := by rw [Hid, HD.out, decide_eq_true h1, decide_eq_false h2]; rfl
    go_enter Tryz.func222, Tryz.ntmps222
    go_wp2_with (go_at_call 241; refine (HC.out _).mono ?_; rintro e w' ⟨rfl, hb'⟩; obtain ⟨hcl, hfr⟩ := bcell hb'; have HB' := Lib.hid hb'; clear hb')
    go_ret
    exact ⟨by rw [HF.out]; rfl, HB.out.trans (HB'.out.mono HB.out.size)⟩
  ·have HF : Hid (onP a b p = false) := by rw [Hid, HD.out, decide_eq_false h1]; rfl
   go_enter Tryz.func222, Tryz.ntmps222
   go_wp2_with (go_at_call 241; refine (HC.out _).mono ?_; rintro e w' ⟨rfl, hb'⟩; obtain ⟨hcl, hfr⟩ := bcell hb'; have HB' := Lib.hid hb'; clear hb')
   go_ret
   exact ⟨by rw [HF.out]; rfl, HB.out.trans (HB'.out.mono HB.out.size)⟩
 ·have HF : Hid (onP a b p = false) := by rw [Hid, HD.out, decide_eq_false h0]; rfl
  have h0' : (x == 0) = false := by simpa using h0
  clear h0
  go_enter Tryz.func222, Tryz.ntmps222
  go_wp2_with (go_at_call 241; refine (HC.out _).mono ?_; rintro e w' ⟨rfl, hb'⟩; obtain ⟨hcl, hfr⟩ := bcell hb'; have HB' := Lib.hid hb'; clear hb')
  go_ret
  exact ⟨by rw [HF.out]; rfl, HB.out.trans (HB'.out.mono HB.out.size)⟩
theorem step_skip {c : Bool} {X Y : Prop} (h : c = false) (hk : Y) : if c = true then X else Y := by
 rw [h]
 exact hk
set_option maxRecDepth 100000 in
theorem rsign_any (x : Int) (w : World) : Calls Tryz.prog 242 #[.int .i64 x] w fun e w' => e = .returned (.int .i64 (cmp0 x)) ∧ w = w' := by
 rcases Int.lt_trichotomy x 0 with h | h | h
 ·have h1 : ¬ (0 : Int) < x := by omega
  have HE : Hid (cmp0 x = -1) := by unfold cmp0; rw [Hid, if_pos h]
  go_enter Tryz.func242, Tryz.ntmps242
  go_wp2
  go_ret
  exact ⟨by rw [HE.out]; rfl, rfl⟩
 ·subst h
  go_enter Tryz.func242, Tryz.ntmps242
  go_wp2
  go_ret
  exact ⟨rfl, rfl⟩
 ·have h1 : ¬ x < 0 := by omega
  have HE : Hid (cmp0 x = 1) := by unfold cmp0; rw [Hid, if_neg h1, if_pos h]
  go_enter Tryz.func242, Tryz.ntmps242
  go_wp2
  go_ret
  exact ⟨by rw [HE.out]; rfl, rfl⟩
structure MeI (w : World) (a b c d : Pt) (x1 x2 u1 u2 : Int) (listed : Array Bool) (f : Act) (w' : World) (b0 b1 b2 b3 b4 b5 b6 b7 b8 b9 b10 b11 b12 b13 b14 b15 b16 b17 b18 b19 b20 b21 b22 b23 b24 b25 b26 : Bool) (t31 t32 t33 t34 t35 t36 t37 t38 t39 t40 t41 t42 t43 t44 t45 t46 t47 t48 t49 t50 t51 t52 t53 t54 t55 t56 t8 : Value) : Prop where
 li : listed = #[b0, b1, b2, b3, b4, b5, b6, b7, b8, b9, b10, b11, b12, b13, b14, b15, b16, b17, b18, b19, b20, b21, b22, b23, b24, b25, b26]
 ac : f = ⟨#[.agg #[.int .i64 a.1, .int .i64 a.2], .agg #[.int .i64 b.1, .int .i64 b.2], .agg #[.int .i64 c.1, .int .i64 c.2], .agg #[.int .i64 d.1, .int .i64 d.2], .pointer (some ⟨w.heap.size, 0, none⟩), .pointer (some ⟨w.heap.size + 1, 0, none⟩), .pointer (some ⟨w.heap.size + 1 + 1, 0, none⟩), .pointer (some ⟨w.heap.size + 1 + 1 + 1, 0, none⟩), t8, .agg #[.int .i64 a.1, .int .i64 a.2], .agg #[.int .i64 b.1, .int .i64 b.2], .agg #[.int .i64 c.1, .int .i64 c.2], .bool false, .bool false, .agg #[.int .i64 a.1, .int .i64 a.2], .agg #[.int .i64 b.1, .int .i64 b.2], .agg #[.int .i64 d.1, .int .i64 d.2], .bool false, .bool false, .bool false, .agg #[.int .i64 c.1, .int .i64 c.2], .agg #[.int .i64 d.1, .int .i64 d.2], .agg #[.int .i64 a.1, .int .i64 a.2], .bool false, .bool false, .bool false, .agg #[.int .i64 c.1, .int .i64 c.2], .agg #[.int .i64 d.1, .int .i64 d.2], .agg #[.int .i64 b.1, .int .i64 b.2], .bool false, .bool false, t31, t32, t33, t34, t35, t36, t37, t38, t39, t40, t41, t42, t43, t44, t45, t46, t47, t48, t49, t50, t51, t52, t53, t54, t55, t56], []⟩
 lo : Below ((((w.alloc (.cells #[.int .i64 a.1, .int .i64 a.2] 74)).alloc (.cells #[.int .i64 b.1, .int .i64 b.2] 74)).alloc (.cells #[.int .i64 c.1, .int .i64 c.2] 74)).alloc (.cells #[.int .i64 d.1, .int .i64 d.2] 74)).heap.size ((((w.alloc (.cells #[.int .i64 a.1, .int .i64 a.2] 74)).alloc (.cells #[.int .i64 b.1, .int .i64 b.2] 74)).alloc (.cells #[.int .i64 c.1, .int .i64 c.2] 74)).alloc (.cells #[.int .i64 d.1, .int .i64 d.2] 74)) w'
 f0 : b0 = true → t31 = .agg #[.int .i64 a.1, .int .i64 a.2]
 f1 : b1 = true → t32 = .agg #[.int .i64 b.1, .int .i64 b.2]
 f2 : b2 = true → t33 = .agg #[.int .i64 c.1, .int .i64 c.2]
 f3 : b3 = true → t34 = .int .i64 x1
 f4 : b4 = true → t35 = .int .i64 u1
 f5 : b5 = true → t36 = .agg #[.int .i64 a.1, .int .i64 a.2]
 f6 : b6 = true → t37 = .agg #[.int .i64 b.1, .int .i64 b.2]
 f7 : b7 = true → t38 = .agg #[.int .i64 d.1, .int .i64 d.2]
 f8 : b8 = true → t39 = .int .i64 x2
 f9 : b9 = true → t40 = .int .i64 u2
 f10 : b10 = true → t41 = .int .i64 (u1 * u2)
 f11 : b11 = true → t42 = .bool false
 f12 : b12 = true → t43 = .bool false
 f13 : b13 = true → t44 = undef
 f14 : b14 = true → t45 = undef
 f15 : b15 = true → t46 = undef
 f16 : b16 = true → t47 = undef
 f17 : b17 = true → t48 = undef
 f18 : b18 = true → t49 = undef
 f19 : b19 = true → t50 = undef
 f20 : b20 = true → t51 = undef
 f21 : b21 = true → t52 = undef
 f22 : b22 = true → t53 = undef
 f23 : b23 = true → t54 = undef
 f24 : b24 = true → t55 = undef
 f25 : b25 = true → t56 = .bool false
 f26 : t8 = .bool false
set_option maxRecDepth 100000 in
set_option maxHeartbeats 12800000 in
theorem rmeet_any (a b c d : Pt) (w : World) (ha : inG a) (hb : inG b) (hc : inG c) (hd : inG d) :
  Calls Tryz.prog 223 #[.agg #[.int .i64 a.1, .int .i64 a.2], .agg #[.int .i64 b.1, .int .i64 b.2], .agg #[.int .i64 c.1, .int .i64 c.2], .agg #[.int .i64 d.1, .int .i64 d.2]] w fun e w' => e = .returned (.bool (meetP a b c d)) ∧ Below w.heap.size w w' := by
 have HB := Lib.hid (box4 w a b c d)
 have H1 := fun W => rbet_any a b c W ha hb hc
 have H2 := fun W => rbet_any a b d W ha hb hd
 have H3 := fun W => rbet_any c d a W hc hd ha
 have H4 := fun W => rbet_any c d b W hc hd hb
 have HX := And.intro (fun W => rcross_any a b c W ha hb hc) (And.intro (fun W => rcross_any a b d W ha hb hd) (And.intro (fun W => rcross_any c d a W hc hd ha) (fun W => rcross_any c d b W hc hd hb)))
 have HPA : partedP a b c d = decide (cmp0 (crossP a b c) * cmp0 (crossP a b d) < 0) ∧ partedP c d a b = decide (cmp0 (crossP c d a) * cmp0 (crossP c d b) < 0) := ⟨rfl, rfl⟩
 have HE : Hid (meetP a b c d = (onP a b c || (onP a b d || (onP c d a || (onP c d b || (partedP a b c d && partedP c d a b)))))) := rfl
 generalize onP a b c = m1 at *
 generalize onP a b d = m2 at *
 generalize onP c d a = m3 at *
 generalize onP c d b = m4 at *
 have hu := Lib.hid (Below.refl ((((w.alloc (.cells #[.int .i64 a.1, .int .i64 a.2] 74)).alloc (.cells #[.int .i64 b.1, .int .i64 b.2] 74)).alloc (.cells #[.int .i64 c.1, .int .i64 c.2] 74)).alloc (.cells #[.int .i64 d.1, .int .i64 d.2] 74)).heap.size ((((w.alloc (.cells #[.int .i64 a.1, .int .i64 a.2] 74)).alloc (.cells #[.int .i64 b.1, .int .i64 b.2] 74)).alloc (.cells #[.int .i64 c.1, .int .i64 c.2] 74)).alloc (.cells #[.int .i64 d.1, .int .i64 d.2] 74)))
 clear ha hb hc hd
 cases m1
 ·cases m2
  ·cases m3
   ·cases m4
    ·skip
     have H1 := Lib.hid H1
     have H2 := Lib.hid H2
     have H3 := Lib.hid H3
     have H4 := Lib.hid H4
     have HX := Lib.hid HX
     go_enter Tryz.func223, Tryz.ntmps223
     go_wp2_with (go_at_call 222; (first | (with_reducible refine (H1.out _).mono ?_) | (with_reducible refine (H2.out _).mono ?_) | (with_reducible refine (H3.out _).mono ?_) | (with_reducible refine (H4.out _).mono ?_)); rintro e w1 ⟨rfl, hv⟩; replace hu := Lib.hid (below_then hu.out hv); clear hv; obtain ⟨⟨p0, p1⟩, ⟨p2, p3⟩, ⟨p4, p5⟩, p6, p7⟩ := box_keep4 hu.out)
     clear H1 H2 H3 H4 p0 p1 p2 p3 p4 p5 p6 p7
     obtain ⟨x1, hx1⟩ : ∃ x, crossP a b c = x := ⟨_, rfl⟩
     obtain ⟨x2, hx2⟩ : ∃ x, crossP a b d = x := ⟨_, rfl⟩
     obtain ⟨x3, hx3⟩ : ∃ x, crossP c d a = x := ⟨_, rfl⟩
     obtain ⟨x4, hx4⟩ : ∃ x, crossP c d b = x := ⟨_, rfl⟩
     rw [hx1, hx2, hx3, hx4] at HX HPA
     have m12 := cmp0_mul x1 x2
     have m34 := cmp0_mul x3 x4
     have HS : Hid ((∀ W, Calls Tryz.prog 242 #[.int .i64 x1] W fun e w' => e = .returned (.int .i64 (cmp0 x1)) ∧ W = w') ∧ (∀ W, Calls Tryz.prog 242 #[.int .i64 x2] W fun e w' => e = .returned (.int .i64 (cmp0 x2)) ∧ W = w') ∧ (∀ W, Calls Tryz.prog 242 #[.int .i64 x3] W fun e w' => e = .returned (.int .i64 (cmp0 x3)) ∧ W = w') ∧ ∀ W, Calls Tryz.prog 242 #[.int .i64 x4] W fun e w' => e = .returned (.int .i64 (cmp0 x4)) ∧ W = w') := ⟨fun W => rsign_any x1 W, fun W => rsign_any x2 W, fun W => rsign_any x3 W, fun W => rsign_any x4 W⟩
     obtain ⟨u1, hu1⟩ : ∃ u, cmp0 x1 = u := ⟨_, rfl⟩
     obtain ⟨u2, hu2⟩ : ∃ u, cmp0 x2 = u := ⟨_, rfl⟩
     obtain ⟨u3, hu3⟩ : ∃ u, cmp0 x3 = u := ⟨_, rfl⟩
     obtain ⟨u4, hu4⟩ : ∃ u, cmp0 x4 = u := ⟨_, rfl⟩
     rw [hu1, hu2, hu3, hu4] at HS HPA
     rw [hu1, hu2] at m12
     rw [hu3, hu4] at m34
     have HPQ := Lib.hid HPA
     clear hx1 hx2 hx3 hx4 hu1 hu2 hu3 hu4 HPA
     obtain ⟨q, hq0⟩ : ∃ q, decide (u1 * u2 < 0) = q := ⟨_, rfl⟩
     have HQ0 := Lib.hid hq0
     have hq := hu.out
     obtain ⟨⟨p0, p1⟩, ⟨p2, p3⟩, ⟨p4, p5⟩, p6, p7⟩ := box_keep4 hq
     cases q
     ·go_cut [8] (fun v8 wc => v8 = .bool false ∧ Below ((((w.alloc (.cells #[.int .i64 a.1, .int .i64 a.2] 74)).alloc (.cells #[.int .i64 b.1, .int .i64 b.2] 74)).alloc (.cells #[.int .i64 c.1, .int .i64 c.2] 74)).alloc (.cells #[.int .i64 d.1, .int .i64 d.2] 74)).heap.size ((((w.alloc (.cells #[.int .i64 a.1, .int .i64 a.2] 74)).alloc (.cells #[.int .i64 b.1, .int .i64 b.2] 74)).alloc (.cells #[.int .i64 c.1, .int .i64 c.2] 74)).alloc (.cells #[.int .i64 d.1, .int .i64 d.2] 74)) wc)
      case first =>
       refine region_inv (I := fun li f w' => ∃ b0 b1 b2 b3 b4 b5 b6 b7 b8 b9 b10 b11 b12 b13 b14 b15 b16 b17 b18 b19 b20 b21 b22 b23 b24 b25 b26 t31 t32 t33 t34 t35 t36 t37 t38 t39 t40 t41 t42 t43 t44 t45 t46 t47 t48 t49 t50 t51 t52 t53 t54 t55 t56 t8, MeI w a b c d x1 x2 u1 u2 li f w' b0 b1 b2 b3 b4 b5 b6 b7 b8 b9 b10 b11 b12 b13 b14 b15 b16 b17 b18 b19 b20 b21 b22 b23 b24 b25 b26 t31 t32 t33 t34 t35 t36 t37 t38 t39 t40 t41 t42 t43 t44 t45 t46 t47 t48 t49 t50 t51 t52 t53 t54 t55 t56 t8) (by kernel_rfl) ?_ ?_ ?_
       ·exact ⟨false, false, false, false, false, false, false, false, false, false, false, false, false, false, false, false, false, false, false, false, false, false, false, false, false, false, false, undef, undef, undef, undef, undef, undef, undef, undef, undef, undef, undef, undef, undef, undef, undef, undef, undef, undef, undef, undef, undef, undef, undef, undef, undef, undef, _, rfl, rfl, hu.out.drew, (fun e => by cases e), (fun e => by cases e), (fun e => by cases e), (fun e => by cases e), (fun e => by cases e), (fun e => by cases e), (fun e => by cases e), (fun e => by cases e), (fun e => by cases e), (fun e => by cases e), (fun e => by cases e), (fun e => by cases e), (fun e => by cases e), (fun e => by cases e), (fun e => by cases e), (fun e => by cases e), (fun e => by cases e), (fun e => by cases e), (fun e => by cases e), (fun e => by cases e), (fun e => by cases e), (fun e => by cases e), (fun e => by cases e), (fun e => by cases e), (fun e => by cases e), (fun e => by cases e), rfl⟩
       ·rintro listed f w' i o ⟨b0, b1, b2, b3, b4, b5, b6, b7, b8, b9, b10, b11, b12, b13, b14, b15, b16, b17, b18, b19, b20, b21, b22, b23, b24, b25, b26, t31, t32, t33, t34, t35, t36, t37, t38, t39, t40, t41, t42, t43, t44, t45, t46, t47, t48, t49, t50, t51, t52, t53, t54, t55, t56, t8, X⟩ hi1 ho hd K hK
        obtain ⟨rfl, rfl, hlo, f0, f1, f2, f3, f4, f5, f6, f7, f8, f9, f10, f11, f12, f13, f14, f15, f16, f17, f18, f19, f20, f21, f22, f23, f24, f25, rfl⟩ := X
        have hlt : i < 27 := (Array.getElem?_eq_some_iff.1 ho).1
        match i, hlt with
        | 0, _ =>
         simp only [List.getElem?_toArray, List.getElem?_cons_zero, Option.some.injEq] at ho
         subst ho
         rw [if_pos (wanted_free rfl)]
         obtain ⟨⟨p0, p1⟩, ⟨p2, p3⟩, ⟨p4, p5⟩, p6, p7⟩ := box_keep4 hlo
         go_simp
         exact hK _ _ ⟨true, b1, b2, b3, b4, b5, b6, b7, b8, b9, b10, b11, b12, b13, b14, b15, b16, b17, b18, b19, b20, b21, b22, b23, b24, b25, b26, _, _, _, _, _, _, _, _, _, _, _, _, _, _, _, _, _, _, _, _, _, _, _, _, _, _, _, ⟨rfl, rfl, hlo, (fun _ => rfl), f1, f2, f3, f4, f5, f6, f7, f8, f9, f10, f11, f12, f13, f14, f15, f16, f17, f18, f19, f20, f21, f22, f23, f24, f25, rfl⟩⟩
        | 1, _ =>
         simp only [List.getElem?_toArray, List.getElem?_cons_zero, List.getElem?_cons_succ, Option.some.injEq] at ho
         subst ho
         rw [if_pos (wanted_free rfl)]
         obtain ⟨⟨p0, p1⟩, ⟨p2, p3⟩, ⟨p4, p5⟩, p6, p7⟩ := box_keep4 hlo
         go_simp
         exact hK _ _ ⟨b0, true, b2, b3, b4, b5, b6, b7, b8, b9, b10, b11, b12, b13, b14, b15, b16, b17, b18, b19, b20, b21, b22, b23, b24, b25, b26, _, _, _, _, _, _, _, _, _, _, _, _, _, _, _, _, _, _, _, _, _, _, _, _, _, _, _, ⟨rfl, rfl, hlo, f0, (fun _ => rfl), f2, f3, f4, f5, f6, f7, f8, f9, f10, f11, f12, f13, f14, f15, f16, f17, f18, f19, f20, f21, f22, f23, f24, f25, rfl⟩⟩
        | 2, _ =>
         simp only [List.getElem?_toArray, List.getElem?_cons_zero, List.getElem?_cons_succ, Option.some.injEq] at ho
         subst ho
         rw [if_pos (wanted_free rfl)]
         obtain ⟨⟨p0, p1⟩, ⟨p2, p3⟩, ⟨p4, p5⟩, p6, p7⟩ := box_keep4 hlo
         go_simp
         exact hK _ _ ⟨b0, b1, true, b3, b4, b5, b6, b7, b8, b9, b10, b11, b12, b13, b14, b15, b16, b17, b18, b19, b20, b21, b22, b23, b24, b25, b26, _, _, _, _, _, _, _, _, _, _, _, _, _, _, _, _, _, _, _, _, _, _, _, _, _, _, _, ⟨rfl, rfl, hlo, f0, f1, (fun _ => rfl), f3, f4, f5, f6, f7, f8, f9, f10, f11, f12, f13, f14, f15, f16, f17, f18, f19, f20, f21, f22, f23, f24, f25, rfl⟩⟩
        | 3, _ =>
         simp only [List.getElem?_toArray, List.getElem?_cons_zero, List.getElem?_cons_succ, Option.some.injEq] at ho
         subst ho
         rw [if_pos (wanted_free rfl)]
         have e0 := f0 (hd ⟨0, .data⟩ (by simp) rfl)
         have e1 := f1 (hd ⟨1, .data⟩ (by simp) rfl)
         have e2 := f2 (hd ⟨2, .data⟩ (by simp) rfl)
         subst e0 e1 e2
         go_simp
         refine (HX.out.1 w').mono ?_
         rintro e w2 ⟨rfl, hb⟩
         exact hK _ _ ⟨b0, b1, b2, true, b4, b5, b6, b7, b8, b9, b10, b11, b12, b13, b14, b15, b16, b17, b18, b19, b20, b21, b22, b23, b24, b25, b26, _, _, _, _, _, _, _, _, _, _, _, _, _, _, _, _, _, _, _, _, _, _, _, _, _, _, _, ⟨rfl, rfl, (hlo.trans (hb.mono hlo.size)), f0, f1, f2, (fun _ => rfl), f4, f5, f6, f7, f8, f9, f10, f11, f12, f13, f14, f15, f16, f17, f18, f19, f20, f21, f22, f23, f24, f25, rfl⟩⟩
        | 4, _ =>
         simp only [List.getElem?_toArray, List.getElem?_cons_zero, List.getElem?_cons_succ, Option.some.injEq] at ho
         subst ho
         rw [if_pos (wanted_free rfl)]
         have e3 := f3 (hd ⟨3, .data⟩ (by simp) rfl)
         subst e3
         go_simp
         refine (HS.out.1 w').mono ?_
         rintro e w2 ⟨rfl, rfl⟩
         exact hK _ _ ⟨b0, b1, b2, b3, true, b5, b6, b7, b8, b9, b10, b11, b12, b13, b14, b15, b16, b17, b18, b19, b20, b21, b22, b23, b24, b25, b26, _, _, _, _, _, _, _, _, _, _, _, _, _, _, _, _, _, _, _, _, _, _, _, _, _, _, _, ⟨rfl, rfl, hlo, f0, f1, f2, f3, (fun _ => rfl), f5, f6, f7, f8, f9, f10, f11, f12, f13, f14, f15, f16, f17, f18, f19, f20, f21, f22, f23, f24, f25, rfl⟩⟩
        | 5, _ =>
         simp only [List.getElem?_toArray, List.getElem?_cons_zero, List.getElem?_cons_succ, Option.some.injEq] at ho
         subst ho
         rw [if_pos (wanted_free rfl)]
         obtain ⟨⟨p0, p1⟩, ⟨p2, p3⟩, ⟨p4, p5⟩, p6, p7⟩ := box_keep4 hlo
         go_simp
         exact hK _ _ ⟨b0, b1, b2, b3, b4, true, b6, b7, b8, b9, b10, b11, b12, b13, b14, b15, b16, b17, b18, b19, b20, b21, b22, b23, b24, b25, b26, _, _, _, _, _, _, _, _, _, _, _, _, _, _, _, _, _, _, _, _, _, _, _, _, _, _, _, ⟨rfl, rfl, hlo, f0, f1, f2, f3, f4, (fun _ => rfl), f6, f7, f8, f9, f10, f11, f12, f13, f14, f15, f16, f17, f18, f19, f20, f21, f22, f23, f24, f25, rfl⟩⟩
        | 6, _ =>
         simp only [List.getElem?_toArray, List.getElem?_cons_zero, List.getElem?_cons_succ, Option.some.injEq] at ho
         subst ho
         rw [if_pos (wanted_free rfl)]
         obtain ⟨⟨p0, p1⟩, ⟨p2, p3⟩, ⟨p4, p5⟩, p6, p7⟩ := box_keep4 hlo
         go_simp
         exact hK _ _ ⟨b0, b1, b2, b3, b4, b5, true, b7, b8, b9, b10, b11, b12, b13, b14, b15, b16, b17, b18, b19, b20, b21, b22, b23, b24, b25, b26, _, _, _, _, _, _, _, _, _, _, _, _, _, _, _, _, _, _, _, _, _, _, _, _, _, _, _, ⟨rfl, rfl, hlo, f0, f1, f2, f3, f4, f5, (fun _ => rfl), f7, f8, f9, f10, f11, f12, f13, f14, f15, f16, f17, f18, f19, f20, f21, f22, f23, f24, f25, rfl⟩⟩
        | 7, _ =>
         simp only [List.getElem?_toArray, List.getElem?_cons_zero, List.getElem?_cons_succ, Option.some.injEq] at ho
         subst ho
         rw [if_pos (wanted_free rfl)]
         obtain ⟨⟨p0, p1⟩, ⟨p2, p3⟩, ⟨p4, p5⟩, p6, p7⟩ := box_keep4 hlo
         go_simp
         exact hK _ _ ⟨b0, b1, b2, b3, b4, b5, b6, true, b8, b9, b10, b11, b12, b13, b14, b15, b16, b17, b18, b19, b20, b21, b22, b23, b24, b25, b26, _, _, _, _, _, _, _, _, _, _, _, _, _, _, _, _, _, _, _, _, _, _, _, _, _, _, _, ⟨rfl, rfl, hlo, f0, f1, f2, f3, f4, f5, f6, (fun _ => rfl), f8, f9, f10, f11, f12, f13, f14, f15, f16, f17, f18, f19, f20, f21, f22, f23, f24, f25, rfl⟩⟩
        | 8, _ =>
         simp only [List.getElem?_toArray, List.getElem?_cons_zero, List.getElem?_cons_succ, Option.some.injEq] at ho
         subst ho
         rw [if_pos (wanted_free rfl)]
         have e5 := f5 (hd ⟨5, .data⟩ (by simp) rfl)
         have e6 := f6 (hd ⟨6, .data⟩ (by simp) rfl)
         have e7 := f7 (hd ⟨7, .data⟩ (by simp) rfl)
         subst e5 e6 e7
         go_simp
         refine (HX.out.2.1 w').mono ?_
         rintro e w2 ⟨rfl, hb⟩
         exact hK _ _ ⟨b0, b1, b2, b3, b4, b5, b6, b7, true, b9, b10, b11, b12, b13, b14, b15, b16, b17, b18, b19, b20, b21, b22, b23, b24, b25, b26, _, _, _, _, _, _, _, _, _, _, _, _, _, _, _, _, _, _, _, _, _, _, _, _, _, _, _, ⟨rfl, rfl, (hlo.trans (hb.mono hlo.size)), f0, f1, f2, f3, f4, f5, f6, f7, (fun _ => rfl), f9, f10, f11, f12, f13, f14, f15, f16, f17, f18, f19, f20, f21, f22, f23, f24, f25, rfl⟩⟩
        | 9, _ =>
         simp only [List.getElem?_toArray, List.getElem?_cons_zero, List.getElem?_cons_succ, Option.some.injEq] at ho
         subst ho
         rw [if_pos (wanted_free rfl)]
         have e8 := f8 (hd ⟨8, .data⟩ (by simp) rfl)
         subst e8
         go_simp
         refine (HS.out.2.1 w').mono ?_
         rintro e w2 ⟨rfl, rfl⟩
         exact hK _ _ ⟨b0, b1, b2, b3, b4, b5, b6, b7, b8, true, b10, b11, b12, b13, b14, b15, b16, b17, b18, b19, b20, b21, b22, b23, b24, b25, b26, _, _, _, _, _, _, _, _, _, _, _, _, _, _, _, _, _, _, _, _, _, _, _, _, _, _, _, ⟨rfl, rfl, hlo, f0, f1, f2, f3, f4, f5, f6, f7, f8, (fun _ => rfl), f10, f11, f12, f13, f14, f15, f16, f17, f18, f19, f20, f21, f22, f23, f24, f25, rfl⟩⟩
        | 10, _ =>
         simp only [List.getElem?_toArray, List.getElem?_cons_zero, List.getElem?_cons_succ, Option.some.injEq] at ho
         subst ho
         rw [if_pos (wanted_free rfl)]
         have e4 := f4 (hd ⟨4, .data⟩ (by simp) rfl)
         have e9 := f9 (hd ⟨9, .data⟩ (by simp) rfl)
         subst e4 e9
         go_simp
         exact hK _ _ ⟨b0, b1, b2, b3, b4, b5, b6, b7, b8, b9, true, b11, b12, b13, b14, b15, b16, b17, b18, b19, b20, b21, b22, b23, b24, b25, b26, _, _, _, _, _, _, _, _, _, _, _, _, _, _, _, _, _, _, _, _, _, _, _, _, _, _, _, ⟨rfl, rfl, hlo, f0, f1, f2, f3, f4, f5, f6, f7, f8, f9, (fun _ => rfl), f11, f12, f13, f14, f15, f16, f17, f18, f19, f20, f21, f22, f23, f24, f25, rfl⟩⟩
        | 11, _ =>
         simp only [List.getElem?_toArray, List.getElem?_cons_zero, List.getElem?_cons_succ, Option.some.injEq] at ho
         subst ho
         rw [if_pos (wanted_free rfl)]
         have e10 := f10 (hd ⟨10, .data⟩ (by simp) rfl)
         subst e10
         go_simp
         exact hK _ _ ⟨b0, b1, b2, b3, b4, b5, b6, b7, b8, b9, b10, true, b12, b13, b14, b15, b16, b17, b18, b19, b20, b21, b22, b23, b24, b25, b26, _, _, _, _, _, _, _, _, _, _, _, _, _, _, _, _, _, _, _, _, _, _, _, _, _, _, _, ⟨rfl, rfl, hlo, f0, f1, f2, f3, f4, f5, f6, f7, f8, f9, f10, (fun _ => rfl), f12, f13, f14, f15, f16, f17, f18, f19, f20, f21, f22, f23, f24, f25, rfl⟩⟩
        | 12, _ =>
         simp only [List.getElem?_toArray, List.getElem?_cons_zero, List.getElem?_cons_succ, Option.some.injEq] at ho
         subst ho
         rw [if_pos (wanted_free rfl)]
         have e11 := f11 (hd ⟨11, .data⟩ (by simp) rfl)
         subst e11
         go_simp
         exact hK _ _ ⟨b0, b1, b2, b3, b4, b5, b6, b7, b8, b9, b10, b11, true, b13, b14, b15, b16, b17, b18, b19, b20, b21, b22, b23, b24, b25, b26, _, _, _, _, _, _, _, _, _, _, _, _, _, _, _, _, _, _, _, _, _, _, _, _, _, _, _, ⟨rfl, rfl, hlo, f0, f1, f2, f3, f4, f5, f6, f7, f8, f9, f10, f11, (fun _ => rfl), f13, f14, f15, f16, f17, f18, f19, f20, f21, f22, f23, f24, f25, rfl⟩⟩
        | 13, _ =>
         simp only [List.getElem?_toArray, List.getElem?_cons_zero, List.getElem?_cons_succ, Option.some.injEq] at ho
         subst ho
         have e12 := f12 (hd ⟨12, .guard⟩ (by simp) rfl)
         subst e12
         refine step_skip (show Region.wanted _ _ = false from rfl) ?_
         exact hK _ _ ⟨b0, b1, b2, b3, b4, b5, b6, b7, b8, b9, b10, b11, b12, true, b14, b15, b16, b17, b18, b19, b20, b21, b22, b23, b24, b25, b26, _, _, _, _, _, _, _, _, _, _, _, _, _, _, _, _, _, _, _, _, _, _, _, _, _, _, _, ⟨rfl, rfl, hlo, f0, f1, f2, f3, f4, f5, f6, f7, f8, f9, f10, f11, f12, (fun _ => rfl), f14, f15, f16, f17, f18, f19, f20, f21, f22, f23, f24, f25, rfl⟩⟩
        | 14, _ =>
         simp only [List.getElem?_toArray, List.getElem?_cons_zero, List.getElem?_cons_succ, Option.some.injEq] at ho
         subst ho
         have e12 := f12 (hd ⟨12, .guard⟩ (by simp) rfl)
         subst e12
         refine step_skip (show Region.wanted _ _ = false from rfl) ?_
         exact hK _ _ ⟨b0, b1, b2, b3, b4, b5, b6, b7, b8, b9, b10, b11, b12, b13, true, b15, b16, b17, b18, b19, b20, b21, b22, b23, b24, b25, b26, _, _, _, _, _, _, _, _, _, _, _, _, _, _, _, _, _, _, _, _, _, _, _, _, _, _, _, ⟨rfl, rfl, hlo, f0, f1, f2, f3, f4, f5, f6, f7, f8, f9, f10, f11, f12, f13, (fun _ => rfl), f15, f16, f17, f18, f19, f20, f21, f22, f23, f24, f25, rfl⟩⟩
        | 15, _ =>
         simp only [List.getElem?_toArray, List.getElem?_cons_zero, List.getElem?_cons_succ, Option.some.injEq] at ho
         subst ho
         have e12 := f12 (hd ⟨12, .guard⟩ (by simp) rfl)
         subst e12
         refine step_skip (show Region.wanted _ _ = false from rfl) ?_
         exact hK _ _ ⟨b0, b1, b2, b3, b4, b5, b6, b7, b8, b9, b10, b11, b12, b13, b14, true, b16, b17, b18, b19, b20, b21, b22, b23, b24, b25, b26, _, _, _, _, _, _, _, _, _, _, _, _, _, _, _, _, _, _, _, _, _, _, _, _, _, _, _, ⟨rfl, rfl, hlo, f0, f1, f2, f3, f4, f5, f6, f7, f8, f9, f10, f11, f12, f13, f14, (fun _ => rfl), f16, f17, f18, f19, f20, f21, f22, f23, f24, f25, rfl⟩⟩
        | 16, _ =>
         simp only [List.getElem?_toArray, List.getElem?_cons_zero, List.getElem?_cons_succ, Option.some.injEq] at ho
         subst ho
         have e12 := f12 (hd ⟨12, .guard⟩ (by simp) rfl)
         subst e12
         refine step_skip (show Region.wanted _ _ = false from rfl) ?_
         exact hK _ _ ⟨b0, b1, b2, b3, b4, b5, b6, b7, b8, b9, b10, b11, b12, b13, b14, b15, true, b17, b18, b19, b20, b21, b22, b23, b24, b25, b26, _, _, _, _, _, _, _, _, _, _, _, _, _, _, _, _, _, _, _, _, _, _, _, _, _, _, _, ⟨rfl, rfl, hlo, f0, f1, f2, f3, f4, f5, f6, f7, f8, f9, f10, f11, f12, f13, f14, f15, (fun _ => rfl), f17, f18, f19, f20, f21, f22, f23, f24, f25, rfl⟩⟩
        | 17, _ =>
         simp only [List.getElem?_toArray, List.getElem?_cons_zero, List.getElem?_cons_succ, Option.some.injEq] at ho
         subst ho
         have e12 := f12 (hd ⟨12, .guard⟩ (by simp) rfl)
         subst e12
         refine step_skip (show Region.wanted _ _ = false from rfl) ?_
         exact hK _ _ ⟨b0, b1, b2, b3, b4, b5, b6, b7, b8, b9, b10, b11, b12, b13, b14, b15, b16, true, b18, b19, b20, b21, b22, b23, b24, b25, b26, _, _, _, _, _, _, _, _, _, _, _, _, _, _, _, _, _, _, _, _, _, _, _, _, _, _, _, ⟨rfl, rfl, hlo, f0, f1, f2, f3, f4, f5, f6, f7, f8, f9, f10, f11, f12, f13, f14, f15, f16, (fun _ => rfl), f18, f19, f20, f21, f22, f23, f24, f25, rfl⟩⟩
        | 18, _ =>
         simp only [List.getElem?_toArray, List.getElem?_cons_zero, List.getElem?_cons_succ, Option.some.injEq] at ho
         subst ho
         have e12 := f12 (hd ⟨12, .guard⟩ (by simp) rfl)
         subst e12
         refine step_skip (show Region.wanted _ _ = false from rfl) ?_
         exact hK _ _ ⟨b0, b1, b2, b3, b4, b5, b6, b7, b8, b9, b10, b11, b12, b13, b14, b15, b16, b17, true, b19, b20, b21, b22, b23, b24, b25, b26, _, _, _, _, _, _, _, _, _, _, _, _, _, _, _, _, _, _, _, _, _, _, _, _, _, _, _, ⟨rfl, rfl, hlo, f0, f1, f2, f3, f4, f5, f6, f7, f8, f9, f10, f11, f12, f13, f14, f15, f16, f17, (fun _ => rfl), f19, f20, f21, f22, f23, f24, f25, rfl⟩⟩
        | 19, _ =>
         simp only [List.getElem?_toArray, List.getElem?_cons_zero, List.getElem?_cons_succ, Option.some.injEq] at ho
         subst ho
         have e12 := f12 (hd ⟨12, .guard⟩ (by simp) rfl)
         subst e12
         refine step_skip (show Region.wanted _ _ = false from rfl) ?_
         exact hK _ _ ⟨b0, b1, b2, b3, b4, b5, b6, b7, b8, b9, b10, b11, b12, b13, b14, b15, b16, b17, b18, true, b20, b21, b22, b23, b24, b25, b26, _, _, _, _, _, _, _, _, _, _, _, _, _, _, _, _, _, _, _, _, _, _, _, _, _, _, _, ⟨rfl, rfl, hlo, f0, f1, f2, f3, f4, f5, f6, f7, f8, f9, f10, f11, f12, f13, f14, f15, f16, f17, f18, (fun _ => rfl), f20, f21, f22, f23, f24, f25, rfl⟩⟩
        | 20, _ =>
         simp only [List.getElem?_toArray, List.getElem?_cons_zero, List.getElem?_cons_succ, Option.some.injEq] at ho
         subst ho
         have e12 := f12 (hd ⟨12, .guard⟩ (by simp) rfl)
         subst e12
         refine step_skip (show Region.wanted _ _ = false from rfl) ?_
         exact hK _ _ ⟨b0, b1, b2, b3, b4, b5, b6, b7, b8, b9, b10, b11, b12, b13, b14, b15, b16, b17, b18, b19, true, b21, b22, b23, b24, b25, b26, _, _, _, _, _, _, _, _, _, _, _, _, _, _, _, _, _, _, _, _, _, _, _, _, _, _, _, ⟨rfl, rfl, hlo, f0, f1, f2, f3, f4, f5, f6, f7, f8, f9, f10, f11, f12, f13, f14, f15, f16, f17, f18, f19, (fun _ => rfl), f21, f22, f23, f24, f25, rfl⟩⟩
        | 21, _ =>
         simp only [List.getElem?_toArray, List.getElem?_cons_zero, List.getElem?_cons_succ, Option.some.injEq] at ho
         subst ho
         have e12 := f12 (hd ⟨12, .guard⟩ (by simp) rfl)
         subst e12
         refine step_skip (show Region.wanted _ _ = false from rfl) ?_
         exact hK _ _ ⟨b0, b1, b2, b3, b4, b5, b6, b7, b8, b9, b10, b11, b12, b13, b14, b15, b16, b17, b18, b19, b20, true, b22, b23, b24, b25, b26, _, _, _, _, _, _, _, _, _, _, _, _, _, _, _, _, _, _, _, _, _, _, _, _, _, _, _, ⟨rfl, rfl, hlo, f0, f1, f2, f3, f4, f5, f6, f7, f8, f9, f10, f11, f12, f13, f14, f15, f16, f17, f18, f19, f20, (fun _ => rfl), f22, f23, f24, f25, rfl⟩⟩
        | 22, _ =>
         simp only [List.getElem?_toArray, List.getElem?_cons_zero, List.getElem?_cons_succ, Option.some.injEq] at ho
         subst ho
         have e12 := f12 (hd ⟨12, .guard⟩ (by simp) rfl)
         subst e12
         refine step_skip (show Region.wanted _ _ = false from rfl) ?_
         exact hK _ _ ⟨b0, b1, b2, b3, b4, b5, b6, b7, b8, b9, b10, b11, b12, b13, b14, b15, b16, b17, b18, b19, b20, b21, true, b23, b24, b25, b26, _, _, _, _, _, _, _, _, _, _, _, _, _, _, _, _, _, _, _, _, _, _, _, _, _, _, _, ⟨rfl, rfl, hlo, f0, f1, f2, f3, f4, f5, f6, f7, f8, f9, f10, f11, f12, f13, f14, f15, f16, f17, f18, f19, f20, f21, (fun _ => rfl), f23, f24, f25, rfl⟩⟩
        | 23, _ =>
         simp only [List.getElem?_toArray, List.getElem?_cons_zero, List.getElem?_cons_succ, Option.some.injEq] at ho
         subst ho
         have e12 := f12 (hd ⟨12, .guard⟩ (by simp) rfl)
         subst e12
         refine step_skip (show Region.wanted _ _ = false from rfl) ?_
         exact hK _ _ ⟨b0, b1, b2, b3, b4, b5, b6, b7, b8, b9, b10, b11, b12, b13, b14, b15, b16, b17, b18, b19, b20, b21, b22, true, b24, b25, b26, _, _, _, _, _, _, _, _, _, _, _, _, _, _, _, _, _, _, _, _, _, _, _, _, _, _, _, ⟨rfl, rfl, hlo, f0, f1, f2, f3, f4, f5, f6, f7, f8, f9, f10, f11, f12, f13, f14, f15, f16, f17, f18, f19, f20, f21, f22, (fun _ => rfl), f24, f25, rfl⟩⟩
        | 24, _ =>
         simp only [List.getElem?_toArray, List.getElem?_cons_zero, List.getElem?_cons_succ, Option.some.injEq] at ho
         subst ho
         have e12 := f12 (hd ⟨12, .guard⟩ (by simp) rfl)
         subst e12
         refine step_skip (show Region.wanted _ _ = false from rfl) ?_
         exact hK _ _ ⟨b0, b1, b2, b3, b4, b5, b6, b7, b8, b9, b10, b11, b12, b13, b14, b15, b16, b17, b18, b19, b20, b21, b22, b23, true, b25, b26, _, _, _, _, _, _, _, _, _, _, _, _, _, _, _, _, _, _, _, _, _, _, _, _, _, _, _, ⟨rfl, rfl, hlo, f0, f1, f2, f3, f4, f5, f6, f7, f8, f9, f10, f11, f12, f13, f14, f15, f16, f17, f18, f19, f20, f21, f22, f23, (fun _ => rfl), f25, rfl⟩⟩
        | 25, _ =>
         simp only [List.getElem?_toArray, List.getElem?_cons_zero, List.getElem?_cons_succ, Option.some.injEq] at ho
         subst ho
         rw [if_pos (wanted_free rfl)]
         have e12 := f12 (hd ⟨12, .data⟩ (by simp) rfl)
         have e24 := f24 (hd ⟨24, .data⟩ (by simp) rfl)
         subst e12 e24
         go_simp
         exact hK _ _ ⟨b0, b1, b2, b3, b4, b5, b6, b7, b8, b9, b10, b11, b12, b13, b14, b15, b16, b17, b18, b19, b20, b21, b22, b23, b24, true, b26, _, _, _, _, _, _, _, _, _, _, _, _, _, _, _, _, _, _, _, _, _, _, _, _, _, _, _, ⟨rfl, rfl, hlo, f0, f1, f2, f3, f4, f5, f6, f7, f8, f9, f10, f11, f12, f13, f14, f15, f16, f17, f18, f19, f20, f21, f22, f23, f24, (fun _ => rfl), rfl⟩⟩
        | 26, _ =>
         simp only [List.getElem?_toArray, List.getElem?_cons_zero, List.getElem?_cons_succ, Option.some.injEq] at ho
         subst ho
         rw [if_pos (wanted_free rfl)]
         have e25 := f25 (hd ⟨25, .data⟩ (by simp) rfl)
         subst e25
         go_simp
         exact hK _ _ ⟨b0, b1, b2, b3, b4, b5, b6, b7, b8, b9, b10, b11, b12, b13, b14, b15, b16, b17, b18, b19, b20, b21, b22, b23, b24, b25, true, _, _, _, _, _, _, _, _, _, _, _, _, _, _, _, _, _, _, _, _, _, _, _, _, _, _, _, ⟨rfl, rfl, hlo, f0, f1, f2, f3, f4, f5, f6, f7, f8, f9, f10, f11, f12, f13, f14, f15, f16, f17, f18, f19, f20, f21, f22, f23, f24, f25, rfl⟩⟩
       ·rintro listed f w' ⟨b0, b1, b2, b3, b4, b5, b6, b7, b8, b9, b10, b11, b12, b13, b14, b15, b16, b17, b18, b19, b20, b21, b22, b23, b24, b25, b26, t31, t32, t33, t34, t35, t36, t37, t38, t39, t40, t41, t42, t43, t44, t45, t46, t47, t48, t49, t50, t51, t52, t53, t54, t55, t56, t8, X⟩ hall
        obtain ⟨rfl, rfl, hlo, f0, f1, f2, f3, f4, f5, f6, f7, f8, f9, f10, f11, f12, f13, f14, f15, f16, f17, f18, f19, f20, f21, f22, f23, f24, f25, rfl⟩ := X
        go_wp2_with fail
        go_meet
        case rel => exact ⟨rfl, hlo⟩
      case rest =>
       obtain ⟨rfl, hbc⟩ := hcut
       go_wp2_with fail
       go_ret
       exact ⟨by rw [HE.out, HPQ.out.1, HQ0.out]; rfl, HB.out.trans (hbc.mono HB.out.size)⟩
     ·go_region_held3 (fun w' => (w'.cell? ⟨w.heap.size, 0, none⟩ = some (.int .i64 a.1) ∧ w'.cell? ⟨w.heap.size, 1, none⟩ = some (.int .i64 a.2)) ∧ (w'.cell? ⟨w.heap.size + 1, 0, none⟩ = some (.int .i64 b.1) ∧ w'.cell? ⟨w.heap.size + 1, 1, none⟩ = some (.int .i64 b.2)) ∧ (w'.cell? ⟨w.heap.size + 1 + 1, 0, none⟩ = some (.int .i64 c.1) ∧ w'.cell? ⟨w.heap.size + 1 + 1, 1, none⟩ = some (.int .i64 c.2)) ∧ (w'.cell? ⟨w.heap.size + 1 + 1 + 1, 0, none⟩ = some (.int .i64 d.1) ∧ w'.cell? ⟨w.heap.size + 1 + 1 + 1, 1, none⟩ = some (.int .i64 d.2)))
       ((refine box_keep4 ?_; repeat (first | exact Below.refl _ _ | exact hq | refine Below.drew ?_)))
       (first
       | (go_at_call 241; go_must ((first | (with_reducible refine (HX.out.1 _).mono ?_) | (with_reducible refine (HX.out.2.1 _).mono ?_) | (with_reducible refine (HX.out.2.2.1 _).mono ?_) | (with_reducible refine (HX.out.2.2.2 _).mono ?_)); rintro e w1 ⟨rfl, hv⟩; replace hq := below_then hq hv; clear hv))
       | (go_at_call 242; go_must ((first | (with_reducible refine (HS.out.1 _).mono ?_) | (with_reducible refine (HS.out.2.1 _).mono ?_) | (with_reducible refine (HS.out.2.2.1 _).mono ?_) | (with_reducible refine (HS.out.2.2.2 _).mono ?_)); rintro e w1 ⟨rfl, rfl⟩)))
      all_goals
       go_wp2_with fail
       go_ret
       exact ⟨by rw [HE.out, HPQ.out.1, HPQ.out.2, HQ0.out]; rfl, HB.out.trans (hq.mono HB.out.size)⟩
    ·skip
     have H1 := Lib.hid H1
     have H2 := Lib.hid H2
     have H3 := Lib.hid H3
     have H4 := Lib.hid H4
     have HX := Lib.hid HX
     go_enter Tryz.func223, Tryz.ntmps223
     go_wp2_with (go_at_call 222; (first | (with_reducible refine (H1.out _).mono ?_) | (with_reducible refine (H2.out _).mono ?_) | (with_reducible refine (H3.out _).mono ?_) | (with_reducible refine (H4.out _).mono ?_)); rintro e w1 ⟨rfl, hv⟩; replace hu := Lib.hid (below_then hu.out hv); clear hv; obtain ⟨⟨p0, p1⟩, ⟨p2, p3⟩, ⟨p4, p5⟩, p6, p7⟩ := box_keep4 hu.out)
     go_ret
     exact ⟨by rw [HE.out]; rfl, HB.out.trans (hu.out.mono HB.out.size)⟩
   ·skip
    have H1 := Lib.hid H1
    have H2 := Lib.hid H2
    have H3 := Lib.hid H3
    have H4 := Lib.hid H4
    have HX := Lib.hid HX
    go_enter Tryz.func223, Tryz.ntmps223
    go_wp2_with (go_at_call 222; (first | (with_reducible refine (H1.out _).mono ?_) | (with_reducible refine (H2.out _).mono ?_) | (with_reducible refine (H3.out _).mono ?_) | (with_reducible refine (H4.out _).mono ?_)); rintro e w1 ⟨rfl, hv⟩; replace hu := Lib.hid (below_then hu.out hv); clear hv; obtain ⟨⟨p0, p1⟩, ⟨p2, p3⟩, ⟨p4, p5⟩, p6, p7⟩ := box_keep4 hu.out)
    go_ret
    exact ⟨by rw [HE.out]; rfl, HB.out.trans (hu.out.mono HB.out.size)⟩
  ·skip
   have H1 := Lib.hid H1
   have H2 := Lib.hid H2
   have H3 := Lib.hid H3
   have H4 := Lib.hid H4
   have HX := Lib.hid HX
   go_enter Tryz.func223, Tryz.ntmps223
   go_wp2_with (go_at_call 222; (first | (with_reducible refine (H1.out _).mono ?_) | (with_reducible refine (H2.out _).mono ?_) | (with_reducible refine (H3.out _).mono ?_) | (with_reducible refine (H4.out _).mono ?_)); rintro e w1 ⟨rfl, hv⟩; replace hu := Lib.hid (below_then hu.out hv); clear hv; obtain ⟨⟨p0, p1⟩, ⟨p2, p3⟩, ⟨p4, p5⟩, p6, p7⟩ := box_keep4 hu.out)
   go_ret
   exact ⟨by rw [HE.out]; rfl, HB.out.trans (hu.out.mono HB.out.size)⟩
 ·skip
  have H1 := Lib.hid H1
  have H2 := Lib.hid H2
  have H3 := Lib.hid H3
  have H4 := Lib.hid H4
  have HX := Lib.hid HX
  go_enter Tryz.func223, Tryz.ntmps223
  go_wp2_with (go_at_call 222; (first | (with_reducible refine (H1.out _).mono ?_) | (with_reducible refine (H2.out _).mono ?_) | (with_reducible refine (H3.out _).mono ?_) | (with_reducible refine (H4.out _).mono ?_)); rintro e w1 ⟨rfl, hv⟩; replace hu := Lib.hid (below_then hu.out hv); clear hv; obtain ⟨⟨p0, p1⟩, ⟨p2, p3⟩, ⟨p4, p5⟩, p6, p7⟩ := box_keep4 hu.out)
  go_ret
  exact ⟨by rw [HE.out]; rfl, HB.out.trans (hu.out.mono HB.out.size)⟩
end
section
open Go.RowKit
theorem app_u32 {w : World} {ops : Array Oper} {rest : List Oper} {o : Oper} {a : Act} {Q : Exit → Act → World → Prop} (hgd : o.guard = none) (s x : Operand)
  (ho : o.op = Op.call { callee := Callee.builtin Builtin.append, args := #[s, x], argTypes := #[121, 121] })
  (base k : Nat) (l : List Nat) (v : Value) (hs : a.eval s = v) (hown : w.ownsRow base 190 1 v k (u32s l))
  (ad : Addr) (hx : a.eval x = .slice (some ad) 1 1) (u : Int) (hc : w.cell? ad = some (.int .u32 u)) (t : Nat) (hu : u = (t : Int)) (hk : k ≤ 10000000) (hbase : base ≤ w.heap.size)
  (h : ∀ g cap w', w'.ownsRow base 190 1 (.slice (some ⟨g, 0, none⟩) (k + 1) cap) (k + 1) (u32s (l ++ [t])) → w.grownBy w' v.ownBlock → wpList Tryz.prog ops Q rest (a.put o.dst (.slice (some ⟨g, 0, none⟩) (k + 1) cap)) w') :
  wpList Tryz.prog ops Q (o :: rest) a w := by
 subst hu
 obtain ⟨i0, hi, hz0, hz1, hz2⟩ := info_parts u32_info
 refine wpList_append_lies _ hgd s x _ ho base 190 i0 _ 1 4 Tryz.underlying121 hi hz0 hz1 hz2 rfl (by omega) v k (u32s l) hs hown ad 1 1 [.int .u32 (t : Int)] hx rfl ?_ ?_ (by omega) (by unfold maxLen; omega) (by omega) hbase w.heap.size rfl ?_
 ·intro j u hu
  cases j with
  | zero =>
   obtain rfl : Value.int .u32 (t : Int) = u := by simpa using hu
   have e : ad.add 0 = ad := by simp [Addr.add]
   rw [e]
   exact hc
  | succ j => simp at hu
 ·intro u hu
  obtain rfl : u = .int .u32 (t : Int) := by simpa using hu
  rfl
 ·intro g cap w' h1 h2 _ _
  refine h g cap w' ?_ h2
  rw [u32s_snoc]
  exact h1
theorem app_below {B : Nat} {w wr w1 : World} {v : Value} {k : Nat} {xs : List Value} {T : Obj} (hbel : Below B w wr) (hB : B ≤ wr.heap.size) (hown : wr.ownsRow B 190 1 v k xs) (hg : (wr.alloc T).grownBy w1 v.ownBlock) : Below B w w1 :=
 (hbel.alloc hB _).grown hg (Nat.le_trans hB (by simp)) (fun _ e => own_ge hown e)
theorem limb_any (A : Option Addr) (n c k : Nat) (l : List Nat) (w : World) {B : Nat} (ha : Sl w B A n (u32s l)) (ho : okL l) :
  Calls Tryz.prog 256 #[.slice A n c, .int .i64 (k : Int)] w fun e w' => e = .returned (.int .u64 ((l.getD k 0 : Nat) : Int)) ∧ w = w' := by
 by_cases hk : k < n
 ·obtain ⟨b, off, x, rfl, hb, hx, hc⟩ := ha.limb_ hk
  have HX := Lib.hid (getD_some hx)
  have hxb := okL_at ho hx
  rw [bs_eq] at hxb
  clear ha hx ho
  have hd : ¬ (n ≤ k) := by omega
  go_enter Tryz.func256, Tryz.ntmps256
  go_wp2
  go_ret
  exact ⟨by rw [HX.out]; rfl, rfl⟩
 ·have HX := Lib.hid (getD_over (l := l) (k := k) (by rw [ha.ulen]; omega))
  clear ha
  have hd : n ≤ k := by omega
  go_enter Tryz.func256, Tryz.ntmps256
  go_wp2
  go_ret
  exact ⟨by rw [HX.out]; rfl, rfl⟩
theorem run_app_empty (W : World) (ty : TypeId) (A : Option Addr) (c : Nat) : (Builtin.append_ #[121, 121] ty #[.slice none 0 0, .slice A 0 c]).run Tryz.prog W = .ok (.slice none 0 0) W := by
 obtain ⟨i0, hi, hz0, hz1, hz2⟩ := info_parts u32_info
 cases A with
 | none => simp [Builtin.append_, run_underlying (P := Tryz.prog) Tryz.underlying121, sizeOf, typeInfo, hi, Builtin.lenOf, Builtin.firstCells]
 | some ad =>
  have hl := run_loadCells_list (P := Tryz.prog) W ad [] (by simp)
  simp only [List.length_nil] at hl
  simp [Builtin.append_, run_underlying (P := Tryz.prog) Tryz.underlying121, sizeOf, typeInfo, hi, Builtin.lenOf, Builtin.firstCells, hl]
theorem app_empty {w : World} {ops : Array Oper} {rest : List Oper} {o : Oper} {a : Act} {Q : Exit → Act → World → Prop} (hgd : o.guard = none) (s x : Operand)
  (ho : o.op = Op.call { callee := Callee.builtin Builtin.append, args := #[s, x], argTypes := #[121, 121] }) (hs : a.eval s = .slice none 0 0) (A : Option Addr) (c : Nat) (hx : a.eval x = .slice A 0 c)
  (h : wpList Tryz.prog ops Q rest (a.put o.dst (.slice none 0 0)) w) : wpList Tryz.prog ops Q (o :: rest) a w := by
 refine wpList_plain hgd fun K hK => ?_
 have hrun := run_app_empty w o.type A c
 unfold Oper.wp
 simp [execOp, ho, resolve, invoke, builtin, hs, hx, hrun, Result.andThen]
 exact hK _ _ h
theorem app_all {w : World} {ops : Array Oper} {rest : List Oper} {o : Oper} {a : Act} {Q : Exit → Act → World → Prop} (hgd : o.guard = none) (s x : Operand)
  (ho : o.op = Op.call { callee := Callee.builtin Builtin.append, args := #[s, x], argTypes := #[121, 121] }) (hs : a.eval s = .slice none 0 0) (A : Option Addr) (k c : Nat) (hx : a.eval x = .slice A k c)
  (l : List Nat) (hsl : Sl w w.heap.size A k (u32s l)) (hk : k ≤ 10000000)
  (h : ∀ A' c' w', Sl w' w'.heap.size A' k (u32s l) → k ≤ c' → Fresh w.heap.size A' → Below w.heap.size w w' → wpList Tryz.prog ops Q rest (a.put o.dst (.slice A' k c')) w') : wpList Tryz.prog ops Q (o :: rest) a w := by
 rcases Nat.eq_zero_or_pos k with h0 | h0
 ·subst h0
  have hl : l = [] := List.eq_nil_of_length_eq_zero hsl.ulen
  subst hl
  exact app_empty hgd s x ho hs A c hx (h none 0 w Sl.none_ (Nat.le_refl _) (fun a e => by cases e) (Below.refl _ _))
 ·obtain ⟨i0, hi, hz0, hz1, hz2⟩ := info_parts u32_info
  obtain ⟨b, off, rfl, hb, hc⟩ := hsl.2 h0
  refine wpList_append_lies _ hgd s x _ ho w.heap.size 190 i0 _ 1 4 Tryz.underlying121 hi hz0 hz1 hz2 rfl (by omega) _ 0 [] hs ⟨rfl, .inl ⟨rfl, rfl⟩⟩ ⟨b, off, none⟩ k c (u32s l) hx (by rw [hsl.1]; omega) ?_ (u32s_one l) h0 (by unfold maxLen; omega) (by omega) (Nat.le_refl _) w.heap.size rfl ?_
  ·intro j u hu
   rw [Go.WideShapes.add_plain]
   exact hc j u hu
  ·intro g cap w' h1 h2 _ _
   rw [Nat.zero_add] at h1 ⊢
   rw [List.nil_append] at h1
   have hg : w.heap.size ≤ g := own_ge h1 (k := g) rfl
   refine h _ cap w' (Sl.of_own h1) ?_ (fun a e => by obtain rfl := Option.some.inj e; exact hg) ((Below.refl _ _).grown h2 (Nat.le_refl _) (fun _ e => by cases e))
   rcases h1.2 with ⟨hv, _⟩ | ⟨g', cap', cur, hv, _, _, hnc, _⟩
   ·cases hv
   ·injection hv with _ _ h3
    omega
def RetF (v : Nat) (w : World) (e : Ending) (w' : World) : Prop :=
 ∃ A n c, e = .returned (.slice A n c) ∧ Sl w' w'.heap.size A n (u32s (limbs v)) ∧ n ≤ c ∧ Fresh w.heap.size A ∧ Below w.heap.size w w'
theorem Fresh.mono {B B' : Nat} {A : Option Addr} (h : Fresh B A) (hB : B' ≤ B) : Fresh B' A := fun a e => Nat.le_trans hB (h a e)
set_option maxRecDepth 100000 in
set_option maxHeartbeats 800000 in
theorem rf_norm (A : Option Addr) (n c v : Nat) (w : World) (ha : NatA w A n c v) (hn : n ≤ 4000000) :
  Calls Tryz.prog 252 #[.slice A n c] w (RetF v w) := by
 obtain ⟨l, ha, ho, rfl, hcap⟩ := ha
 have HX := Lib.hid ha.ulen
 have HT := Lib.hid (ha.trimmed ho)
 have HO := Lib.hid ho; clear ho
 go_enter Tryz.func252, Tryz.ntmps252
 go_wp2
 go_loop [3] (fun i => ∃ k : Nat, k ≤ n ∧ i = .int .i64 k ∧ Hid (∀ j x, k ≤ j → l[j]? = some x → x = 0)) (fun i => (intOf i).toNat)
 case atStart => exact ⟨n, Nat.le_refl _, rfl, fun j x hj hx => by have := (List.getElem?_eq_some_iff.1 hx).1; rw [HX.out] at this; omega⟩
 case round =>
  obtain ⟨k, hk, rfl, hz⟩ := hrel
  by_cases hk0 : k = 0
  ·subst hk0
   have HE := limbs_trim HO.out (Nat.zero_le _) hz.out (.inl rfl)
   have HN : Hid ((limbs (val l)).length = 0) := by rw [Hid, HE]; simp
   clear ha HE
   go_wp2_with (at_builtin; refine app_all rfl (.tmp 19) (.tmp 22) rfl rfl A 0 c rfl (limbs (val l)) (by rw [← HN.out]; exact HT.out.2) (by omega) ?_; intro A' c' w1 hs1 hc1 hf1 hb1)
   go_ret
   exact ⟨_, _, _, rfl, hs1, hc1, hf1, hb1⟩
  ·obtain ⟨m, rfl⟩ : ∃ m, k = m + 1 := ⟨k - 1, by omega⟩
   obtain ⟨b, off, x, rfl, hbl, hx, hcx⟩ := ha.limb_ (k := m) (by omega)
   have HA := Lib.hid hx; clear hx ha
   by_cases hx0 : x = 0
   ·subst hx0
    have HZ : Hid (∀ j x, m ≤ j → l[j]? = some x → x = 0) := fun j x hj hx => by
     by_cases hjm : j = m
     ·subst hjm
      rw [HA.out] at hx
      exact (Option.some.inj hx).symm
     ·exact hz.out j x (by omega) hx
    go_wp2
    go_round
    case rel => exact ⟨m, by omega, by go_num, HZ⟩
    case measure => simp [intOf]
   ·have hx1 : ((x : Int) == 0) = false := by simp; omega
    have HE := limbs_trim HO.out (by rw [HX.out]; omega) hz.out (.inr ⟨x, HA.out, hx0⟩)
    have HN : Hid ((limbs (val l)).length = m + 1) := by rw [Hid, HE, List.length_take, HX.out]; omega
    clear hx0 HE
    go_wp2_with (at_builtin; refine app_all rfl (.tmp 19) (.tmp 22) rfl rfl _ (m + 1) c rfl (limbs (val l)) (by rw [← HN.out]; exact HT.out.2) (by omega) ?_; intro A' c' w1 hs1 hc1 hf1 hb1)
    go_ret
    exact ⟨_, _, _, rfl, hs1, hc1, hf1, hb1⟩
def ofRel (n : Nat) (w : World) (v0 v3 : Value) (wr : World) : Prop :=
 ∃ (x k : Nat) (l : List Nat), v0 = .int .u64 (x : Int) ∧ x ≤ n ∧ k ≤ 1000 ∧ wr.ownsRow w.heap.size 190 1 v3 k (u32s l) ∧ Hid (limbs n = l ++ limbs x ∧ l.length + (limbs x).length ≤ 1000) ∧ Below w.heap.size w wr
set_option maxRecDepth 100000 in
set_option maxHeartbeats 800000 in
theorem rf_of (n : Nat) (w : World) (hn : n < 18446744073709551616) :
  Calls Tryz.prog 253 #[.int .u64 (n : Int)] w (RetN n w) := by
 go_enter Tryz.func253, Tryz.ntmps253
 go_wp2
 go_loopw [0, 3] (fun v0 v3 wr => ofRel n w v0 v3 wr) (fun v0 _ _ => (intOf v0).toNat)
 case atStart => exact ⟨n, 0, [], rfl, Nat.le_refl _, by omega, ⟨rfl, .inl ⟨rfl, rfl⟩⟩, ⟨rfl, by have := nl_le (v := n) (k := 2) (by simp only [bs]; omega); unfold nl at this; simp; omega⟩, Below.refl _ _⟩
 case round =>
  obtain ⟨x, k, l, rfl, hx, hk, hown, hl, hbel⟩ := hrel
  have hN := hbel.size
  by_cases h0 : x = 0
  ·subst h0
   have HR := Lib.hid hown
   have he := hl.out.1
   rw [limbs_zero, List.append_nil] at he
   obtain ⟨A', c', rfl⟩ := own_form hown
   have hcap : k ≤ c' := by
    rcases hown.2 with ⟨hv, rfl⟩ | ⟨g', cap', cur, hv, _, _, hnc, _⟩
    ·omega
    ·injection hv with _ _ h3
     omega
   clear hown
   go_wp2
   go_ret
   exact ⟨_, _, _, rfl, by rw [he]; exact Sl.of_own HR.out, hcap, hbel⟩
  ·have hp : 0 < x := by omega
   have HL : Hid (limbs n = (l ++ [x % 4294967296]) ++ limbs (x / 4294967296) ∧ (l ++ [x % 4294967296]).length + (limbs (x / 4294967296)).length ≤ 1000) := by
    have h := hl.out
    rw [limbs_pos h0] at h
    refine ⟨by rw [h.1, List.append_assoc]; rfl, ?_⟩
    have := h.2
    rw [List.length_cons] at this
    rw [List.length_append, List.length_singleton]
    show _ + (limbs (x / bs)).length ≤ _
    omega
   have hk1 : k + 1 ≤ 1000 := by
    have h1 := HL.out.2
    have h2 : l.length = k := by have := hown.1; rw [u32s_len] at this; omega
    rw [List.length_append, List.length_singleton] at h1
    omega
   clear h0
   go_wp2_with (at_builtin; refine app_u32 rfl (.tmp 6) (.tmp 10) rfl w.heap.size k l _ rfl (hown.alloc _) ⟨wr.heap.size, 0, none⟩ rfl _ (cell_one _ _ _) (x % 4294967296) (by omega) (by omega) (by simp; omega) ?_; intro g cap w1 hown1 hgr1)
   go_roundw
   case rel => exact ⟨x / 4294967296, k + 1, l ++ [x % 4294967296], by go_num, by omega, hk1, hown1, HL.out, app_below hbel hN hown hgr1⟩
   case measure => simp [intOf]; omega
end
section
open Go.RowKit
theorem cmp_of_lt {a b : List Nat} {i : Nat} (ha : okL a) (h : eqFrom a b (i + 1)) (hlt : a.getD i 0 < b.getD i 0) : cmpN (val a) (val b) = -1 := cmpN_lt (eqFrom_lt ha h hlt)
theorem cmp_of_gt {a b : List Nat} {i : Nat} (hb : okL b) (h : eqFrom a b (i + 1)) (hlt : b.getD i 0 < a.getD i 0) : cmpN (val a) (val b) = 1 := cmpN_gt (eqFrom_lt hb (eqFrom_symm h) hlt)
set_option maxRecDepth 100000 in
set_option maxHeartbeats 800000 in
theorem rf_cmp (A B : Option Addr) (n m c d x y : Nat) (w : World) (ha : NatA w A n c x) (hb : NatA w B m d y) (hn : n ≤ 4000000) (hm : m ≤ 4000000) :
  Calls Tryz.prog 247 #[.slice A n c, .slice B m d] w fun e w' => e = .returned (.int .i64 (cmpN x y)) ∧ w = w' := by
 obtain ⟨l, ha, ho, rfl, _⟩ := ha
 obtain ⟨l2, hb, ho2, rfl, _⟩ := hb
 have HL := Lib.hid (fun k => limb_any A n c k l w ha ho)
 have HL2 := Lib.hid (fun k => limb_any B m d k l2 w hb ho2)
 have HT : Hid (eqFrom l l2 (max n m)) := eqFrom_top (by rw [ha.ulen]; omega) (by rw [hb.ulen]; omega)
 have HO := Lib.hid (And.intro ho ho2)
 clear ha hb ho ho2
 go_enter Tryz.func247, Tryz.ntmps247
 go_wp2
 all_goals
  go_loop [5] (fun i => ∃ j : Nat, j ≤ max n m ∧ i = .int .i64 ((j : Int) - 1) ∧ Hid (eqFrom l l2 j)) (fun i => (intOf i + 1).toNat)
  case atStart => exact ⟨max n m, Nat.le_refl _, congrArg (Value.int .i64) (by omega), HT⟩
  case round =>
   obtain ⟨j, hj, rfl, hq⟩ := hrel
   by_cases h0 : j = 0
   ·subst h0
    have HE := Lib.hid (cmpN_eq (eqFrom_zero hq.out))
    go_wp2
    go_ret
    exact ⟨by rw [HE.out]; rfl, rfl⟩
   ·obtain ⟨i, rfl⟩ : ∃ i, j = i + 1 := ⟨j - 1, by omega⟩
    have h1 := HL.out i
    have h2 := HL2.out i
    obtain ⟨X, hX⟩ : ∃ X, l.getD i 0 = X := ⟨_, rfl⟩
    obtain ⟨Y, hY⟩ : ∃ Y, l2.getD i 0 = Y := ⟨_, rfl⟩
    rw [hX] at h1
    rw [hY] at h2
    have H1 := Lib.hid h1
    have H2 := Lib.hid h2
    have HXY := Lib.hid (And.intro hX hY)
    clear h1 h2 hX hY h0
    rcases Nat.lt_trichotomy X Y with hlt | heq | hgt
    ·have HE := Lib.hid (cmp_of_lt HO.out.1 hq.out (by rw [HXY.out.1, HXY.out.2]; exact hlt))
     go_wp2_with (first
      | (go_at_call_of 256 (Value.slice A n c); go_must ((refine H1.out.mono ?_); rintro e w' ⟨rfl, rfl⟩))
      | (go_at_call_of 256 (Value.slice B m d); go_must ((refine H2.out.mono ?_); rintro e w' ⟨rfl, rfl⟩)))
     go_ret
     exact ⟨by rw [HE.out]; rfl, rfl⟩
    ·subst heq
     have HE : Hid (eqFrom l l2 i) := eqFrom_step hq.out (by rw [HXY.out.1, HXY.out.2])
     go_wp2_with (first
      | (go_at_call_of 256 (Value.slice A n c); go_must ((refine H1.out.mono ?_); rintro e w' ⟨rfl, rfl⟩))
      | (go_at_call_of 256 (Value.slice B m d); go_must ((refine H2.out.mono ?_); rintro e w' ⟨rfl, rfl⟩)))
     go_round
     case rel => exact ⟨i, by omega, rfl, HE⟩
     case measure => simp [intOf]
    ·have HE := Lib.hid (cmp_of_gt HO.out.2 hq.out (by rw [HXY.out.1, HXY.out.2]; exact hgt))
     have hge : ¬ X < Y := by omega
     go_wp2_with (first
      | (go_at_call_of 256 (Value.slice A n c); go_must ((refine H1.out.mono ?_); rintro e w' ⟨rfl, rfl⟩))
      | (go_at_call_of 256 (Value.slice B m d); go_must ((refine H2.out.mono ?_); rintro e w' ⟨rfl, rfl⟩)))
     go_ret
     exact ⟨by rw [HE.out]; rfl, rfl⟩
theorem own_cap {w : World} {base : Nat} {e : TypeId} {A : Option Addr} {k c : Nat} {xs : List Value} (h : w.ownsRow base e 1 (.slice A k c) k xs) : k ≤ c := by
 rcases h.2 with ⟨hv, rfl⟩ | ⟨g', cap', cur, hv, _, _, hnc, _⟩
 ·omega
 ·injection hv with _ _ h3
  omega
theorem NatA.mk {w : World} {A : Option Addr} {n c v : Nat} {l : List Nat} (h : Sl w w.heap.size A n (u32s l)) (ho : okL l) (hv : val l = v) (hc : n ≤ c) : NatA w A n c v := ⟨l, h, ho, hv, hc⟩
def RetFT (v : Nat) (w : World) (e : Ending) (w' : World) : Prop :=
 ∃ A n c, e = .returned (.tuple #[.slice A n c, .bool true]) ∧ Sl w' w'.heap.size A n (u32s (limbs v)) ∧ n ≤ c ∧ Fresh w.heap.size A ∧ Below w.heap.size w w'
def rsRel (N : Nat) (X Y : List Nat) (w : World) (v cr i : Value) (wr : World) : Prop :=
 ∃ (k cy : Nat) (o : List Nat), k ≤ N ∧ cy ≤ 1 ∧ i = .int .i64 (k : Int) ∧ cr = .int .u64 (cy : Int) ∧ wr.ownsRow w.heap.size 190 1 v k (u32s o) ∧ Hid (subInv X Y o k cy) ∧ Below w.heap.size w wr
theorem rs_word (u v cy : Nat) (hu : u < 4294967296) (hv : v < 4294967296) (hcy : cy ≤ 1) :
  ∃ t d c' : Nat, (t : Int) = 4294967296 + (u : Int) - (v : Int) - (cy : Int) ∧ t < 8589934592 ∧ t % 4294967296 = d ∧ (1 : Int) - (t : Int) / 4294967296 = (c' : Int) ∧ d < 4294967296 ∧ c' ≤ 1 ∧ d + v + cy = u + 4294967296 * c' := by
 refine ⟨4294967296 + u - v - cy, (4294967296 + u - v - cy) % 4294967296, 1 - (4294967296 + u - v - cy) / 4294967296, by omega, by omega, rfl, by omega, by omega, by omega, by omega⟩
set_option maxRecDepth 100000 in
set_option maxHeartbeats 800000 in
theorem rf_sub_no (A B : Option Addr) (n m c d x y : Nat) (w : World) (ha : NatA w A n c x) (hb : NatA w B m d y) (hn : n ≤ 1000000) (hm : m ≤ 1000000) (hlt : x < y) :
  Calls Tryz.prog 259 #[.slice A n c, .slice B m d] w fun e w' => e = .returned (.tuple #[.slice none 0 0, .bool false]) ∧ w = w' := by
 have h := rf_cmp A B n m c d x y w ha hb (by omega) (by omega)
 rw [cmpN_lt hlt] at h
 have H := Lib.hid h
 clear h ha hb
 go_enter Tryz.func259, Tryz.ntmps259
 go_wp2_with (go_at_call 247; go_must ((refine H.out.mono ?_); rintro e w' ⟨rfl, rfl⟩))
 go_ret2
 exact ⟨rfl, rfl⟩
set_option maxRecDepth 100000 in
set_option maxHeartbeats 800000 in
theorem rf_sub_yes (A B : Option Addr) (n m c d x y : Nat) (w : World) (ha : NatA w A n c x) (hb : NatA w B m d y) (hn : n ≤ 1000000) (hm : m ≤ 1000000) (hle : y ≤ x) :
  Calls Tryz.prog 259 #[.slice A n c, .slice B m d] w (RetFT (x - y) w) := by
 have h := rf_cmp A B n m c d x y w ha hb (by omega) (by omega)
 have hge : 0 ≤ cmpN x y := by
  unfold cmpN
  rw [if_neg (by omega)]
  split <;> omega
 generalize cmpN x y = z at h hge
 have H := Lib.hid h
 obtain ⟨l, ha, ho, rfl, _⟩ := ha
 obtain ⟨l2, hb, ho2, rfl, _⟩ := hb
 have HA := Lib.hid (And.intro ha hb)
 have HO := Lib.hid (And.intro ho ho2)
 obtain ⟨N, HN⟩ : ∃ N, Hid (N = max n m) := ⟨_, rfl⟩
 have HM : Hid (l.length ≤ N ∧ l2.length ≤ N) := ⟨by rw [ha.ulen, HN.out]; omega, by rw [hb.ulen, HN.out]; omega⟩
 have hNb : N ≤ 1000000 := by rw [HN.out]; omega
 clear ha hb ho ho2 h
 rcases Nat.lt_or_ge n m with hnm | hnm
 all_goals
  go_enter Tryz.func259, Tryz.ntmps259
  go_wp2_with (go_at_call 247; go_must ((refine H.out.mono ?_); rintro e w' ⟨rfl, rfl⟩))
  clear H
  go_loopw [6, 7, 8] (fun v cr i wr => rsRel N l l2 w v cr i wr) (fun _ _ i _ => N - (intOf i).toNat)
  case atStart => exact ⟨0, 0, [], Nat.zero_le _, by omega, rfl, rfl, ⟨rfl, .inl ⟨rfl, rfl⟩⟩, subInv_zero _ _, Below.refl _ _⟩
  case round =>
   obtain ⟨k, cy, o, hk, hcy, rfl, rfl, hown, hinv, hbel⟩ := hrel
   have hN := hbel.size
   by_cases hlk : k < N
   ·have h1 := limb_any A n c k l wr (HA.out.1.below hbel) HO.out.1
    have h2 := limb_any B m d k l2 wr (HA.out.2.below hbel) HO.out.2
    have b1 := getD_lt HO.out.1 k
    have b2 := getD_lt HO.out.2 k
    rw [bs_eq] at b1 b2
    obtain ⟨X, hX⟩ : ∃ X, l.getD k 0 = X := ⟨_, rfl⟩
    obtain ⟨Y, hY⟩ : ∃ Y, l2.getD k 0 = Y := ⟨_, rfl⟩
    rw [hX] at h1 b1
    rw [hY] at h2 b2
    have H1 := Lib.hid h1
    have H2 := Lib.hid h2
    obtain ⟨t, e, c', ht, ht2, he, hc', he2, hc2, heq⟩ := rs_word X Y cy b1 b2 hcy
    have HE := Lib.hid (subInv_succ (d := e) (c' := c') hinv.out he2 hc2 (by rw [hX, hY]; exact heq))
    have HQ := Lib.hid (And.intro ht (And.intro he hc'))
    clear h1 h2 hX hY ht he hc' heq
    first | (have hkx : k < m := by have := HN.out; omega) | (have hkx : k < n := by have := HN.out; omega)
    go_wp2_with (first
     | (go_at_call_of 256 (Value.slice A n c); go_must ((refine H1.out.mono ?_); rintro e w' ⟨rfl, rfl⟩))
     | (go_at_call_of 256 (Value.slice B m d); go_must ((refine H2.out.mono ?_); rintro e w' ⟨rfl, rfl⟩))
     | (at_builtin; go_must ((refine app_u32 rfl (.tmp 33) (.tmp 37) rfl w.heap.size k o _ rfl (hown.alloc _) ⟨wr.heap.size, 0, none⟩ rfl _ (cell_one _ _ _) e (by have := HQ.out; omega) (by omega) (by simp; omega) ?_); intro g cap w1 hown1 hgr1)))
    go_roundw
    case rel => exact ⟨k + 1, c', o ++ [e], by omega, hc2, by go_num, congrArg (Value.int .u64) (by have := HQ.out; omega), hown1, HE.out, app_below hbel hN hown hgr1⟩
    case measure => simp [intOf]; omega
   ·obtain rfl : k = N := by omega
    have hv := subInv_end hinv.out HM.out.1 HM.out.2 hle
    obtain ⟨A', c', rfl⟩ := own_form hown
    have hcap := own_cap hown
    have HR := Lib.hid (NatA.mk (Sl.of_own hown) hinv.out.2.1 hv hcap)
    clear hown hv hinv hcap
    have hkx : ¬ k < n := by have := HN.out; omega
    have hky : ¬ k < m := by have := HN.out; omega
    go_wp2_with (go_at_call 252; go_must ((refine (rf_norm _ _ _ _ _ HR.out (by omega)).mono ?_); rintro e w1 ⟨A1, n1, c1, rfl, hs1, hc1, hf1, hb1⟩))
    go_ret2
    exact ⟨_, _, _, rfl, hs1, hc1, hf1.mono hN, hbel.trans (hb1.mono hN)⟩
def rhRel (N : Nat) (X : List Nat) (w : World) (v i : Value) (wr : World) : Prop :=
 ∃ (k : Nat) (o : List Nat), k ≤ N ∧ i = .int .i64 (k : Int) ∧ wr.ownsRow w.heap.size 190 1 v k (u32s o) ∧ Hid (hfInv X o k) ∧ Below w.heap.size w wr
set_option maxRecDepth 100000 in
set_option maxHeartbeats 800000 in
theorem rf_half (A : Option Addr) (n c x : Nat) (w : World) (ha : NatA w A n c x) (hn : n ≤ 1000000) :
  Calls Tryz.prog 260 #[.slice A n c] w (RetF (x / 2) w) := by
 obtain ⟨l, ha, ho, rfl, _⟩ := ha
 have HA := Lib.hid ha
 have HO := Lib.hid ho
 have HM := Lib.hid ha.ulen
 clear ha ho
 go_enter Tryz.func260, Tryz.ntmps260
 go_wp2
 go_loopw [3, 4] (fun v i wr => rhRel n l w v i wr) (fun _ i _ => n - (intOf i).toNat)
 case atStart => exact ⟨0, [], Nat.zero_le _, rfl, ⟨rfl, .inl ⟨rfl, rfl⟩⟩, hfInv_zero _, Below.refl _ _⟩
 case round =>
  obtain ⟨k, o, hk, rfl, hown, hinv, hbel⟩ := hrel
  have hN := hbel.size
  by_cases hlk : k < n
  ·have h1 := limb_any A n c k l wr (HA.out.below hbel) HO.out
   have h2 := limb_any A n c (k + 1) l wr (HA.out.below hbel) HO.out
   have b1 := getD_lt HO.out k
   have b2 := getD_lt HO.out (k + 1)
   rw [bs_eq] at b1 b2
   obtain ⟨X, hX⟩ : ∃ X, l.getD k 0 = X := ⟨_, rfl⟩
   obtain ⟨Y, hY⟩ : ∃ Y, l.getD (k + 1) 0 = Y := ⟨_, rfl⟩
   rw [hX] at h1 b1
   rw [hY] at h2 b2
   have H1 := Lib.hid h1
   have H2 := Lib.hid h2
   have HE := Lib.hid (hfInv_succ (t := X / 2 + Y % 2 * 2147483648) HO.out hinv.out (by rw [hX, hY]))
   clear h1 h2 hX hY
   go_wp2_with (first
    | (go_at_call 256; (refine H1.out.mono ?_); rintro e w' ⟨rfl, rfl⟩; clear H1)
    | (go_at_call 256; go_must ((refine H2.out.mono ?_); rintro e w' ⟨rfl, rfl⟩))
    | (at_builtin; go_must ((refine app_u32 rfl (.tmp 11) (.tmp 24) rfl w.heap.size k o _ rfl (hown.alloc _) ⟨wr.heap.size, 0, none⟩ rfl _ (cell_one _ _ _) (X / 2 + Y % 2 * 2147483648) (by omega) (by omega) (by simp; omega) ?_); intro g cap w1 hown1 hgr1)))
   go_roundw
   case rel => exact ⟨k + 1, o ++ [X / 2 + Y % 2 * 2147483648], by omega, by go_num, hown1, HE.out, app_below hbel hN hown hgr1⟩
   case measure => simp [intOf]; omega
  ·obtain rfl : k = n := by omega
   have hv := hinv.out
   rw [← HM.out] at hv
   obtain ⟨ho, hv⟩ := hfInv_end hv
   obtain ⟨A', c', rfl⟩ := own_form hown
   have hcap := own_cap hown
   have HR := Lib.hid (NatA.mk (Sl.of_own hown) ho hv hcap)
   clear hown hv hinv hcap ho
   go_wp2_with (go_at_call 252; go_must ((refine (rf_norm _ _ _ _ _ HR.out (by omega)).mono ?_); rintro e w1 ⟨A1, n1, c1, rfl, hs1, hc1, hf1, hb1⟩))
   go_ret
   exact ⟨_, _, _, rfl, hs1, hc1, hf1.mono hN, hbel.trans (hb1.mono hN)⟩
end
section
open Go.RowKit
set_option maxRecDepth 100000 in
set_option maxHeartbeats 800000 in
theorem rf_bits (A : Option Addr) (n c x : Nat) (w : World) (ha : NatA w A n c x) (hn : n ≤ 1000000) :
  Calls Tryz.prog 257 #[.slice A n c] w fun e w' => e = .returned (.int .i64 (bl x : Int)) ∧ Below w.heap.size w w' := by
 have t1 := ha.trimmed.1
 have HA := Lib.hid (rf_norm A n c x w ha (by omega))
 clear ha
 by_cases h0 : x = 0
 ·subst h0
  go_enter Tryz.func257, Tryz.ntmps257
  go_wp2_with fail
  refine HA.out.mono ?_
  rintro e w1 ⟨A1, n1, c1, rfl, hs1, hc1, _, hb1⟩
  obtain rfl : n1 = 0 := by rw [← hs1.ulen, limbs_zero]; rfl
  clear hs1
  go_wp2
  go_ret
  exact ⟨rfl, hb1⟩
 ·have hp := nl_pos h0
  obtain ⟨k, hk⟩ : ∃ k, nl x = k + 1 := ⟨nl x - 1, by omega⟩
  have HK := Lib.hid hk
  have hk2 : k < 1000000 := by omega
  clear hp hk t1
  go_enter Tryz.func257, Tryz.ntmps257
  go_wp2_with fail
  refine HA.out.mono ?_
  rintro e w1 ⟨A1, n1, c1, rfl, hs1, hc1, _, hb1⟩
  obtain rfl : n1 = k + 1 := by rw [← hs1.ulen]; exact HK.out
  obtain ⟨b, off, z, rfl, hbw, hz, hcz⟩ := hs1.limb_ (k := k) (by omega)
  have hz0 : z ≠ 0 := by
   intro e
   subst e
   have := tight_limbs x
   rw [tight, List.getLast?_eq_getElem?] at this
   apply this
   rw [show (limbs x).length = k + 1 from HK.out]
   exact hz
  have hzb := okL_at (okL_limbs x) hz
  rw [bs_eq] at hzb
  have HB : Hid (bl x = 32 * k + bl z) := by
   have := bl_top (okL_limbs x) HK.out hz hz0
   rwa [val_limbs] at this
  have hbz := bl_small (x := z) (by rw [bs_eq]; exact hzb)
  clear hs1 hz hz0 h0
  go_wp2
  go_loop [4, 5] (fun s t => ∃ i j : Nat, s = .int .i64 (i : Int) ∧ t = .int .u32 (j : Int) ∧ j < 4294967296 ∧ i ≤ 100000000 ∧ Hid (i + bl j = 32 * k + bl z ∧ 32 * k ≤ i)) (fun _ t => (intOf t).toNat)
  case atStart => exact ⟨32 * k, z, by go_num, rfl, hzb, by omega, rfl, Nat.le_refl _⟩
  case round =>
   obtain ⟨i, j, rfl, rfl, hj, hi, hinv⟩ := hrel
   by_cases hj0 : j = 0
   ·subst hj0
    have HE : Hid (bl x = i) := by have := hinv.out.1; rw [bl_zero] at this; have := HB.out; show bl x = i; omega
    go_wp2
    go_ret
    exact ⟨by rw [HE.out]; rfl, hb1⟩
   ·have hp : 0 < j := by omega
    have HE : Hid (i + 1 + bl (j / 2) = 32 * k + bl z ∧ 32 * k ≤ i + 1) := ⟨by have := bl_half hj0; have := hinv.out.1; omega, by have := hinv.out.2; omega⟩
    have hi1 : i + 1 ≤ 100000000 := by have := HE.out.1; omega
    clear hj0
    go_wp2
    go_round
    case rel => exact ⟨i + 1, j / 2, by go_num, by go_num, by omega, hi1, HE⟩
    case measure => simp [intOf]; omega
theorem row_made (w : World) (m : Nat) (hm : m ≤ 1000000) : (w.alloc (.cells (madeCells #[Value.int .u32 0] m) 190)).ownsRow w.heap.size 190 1 (.slice (some ⟨w.heap.size, 0, none⟩) m m) m (u32s (List.replicate m 0)) := by
 refine ⟨by simp [u32s_len], .inr ⟨w.heap.size, m, madeCells #[Value.int .u32 0] m, rfl, Nat.le_refl _, heap_alloc_new w _, Nat.le_refl _, by unfold maxLen; omega, by simp [size_madeCells], ?_⟩⟩
 rw [Nat.mul_one, toList_madeCells_one, List.take_of_length_le (by simp)]
 simp [u32s]
def shRel (N mm s : Nat) (X : List Nat) (w : World) (v cr i : Value) (wr : World) : Prop :=
 ∃ (k cy : Nat) (o : List Nat), k ≤ N + 1 ∧ cy < 2147483648 ∧ i = .int .i64 (k : Int) ∧ cr = .int .u64 (cy : Int) ∧ wr.ownsRow w.heap.size 190 1 v (mm + k) (u32s o) ∧ Hid ((k ≤ N → shInv X o mm s k cy) ∧ (N < k → okL o ∧ val o = val X * 2 ^ (32 * mm + s))) ∧ Below w.heap.size w wr
set_option maxRecDepth 100000 in
set_option maxHeartbeats 800000 in
theorem rf_shift (A : Option Addr) (n c x sh : Nat) (w : World) (ha : NatA w A n c x) (hn : n ≤ 1000000) (hsh : sh ≤ 10000000) :
  Calls Tryz.prog 258 #[.slice A n c, .int .i64 (sh : Int)] w (RetF (x * 2 ^ sh) w) := by
 obtain ⟨l, ha, ho, rfl, _⟩ := ha
 have HA := Lib.hid ha
 have HO := Lib.hid ho
 have HM := Lib.hid ha.ulen
 obtain ⟨mm, hmm⟩ : ∃ mm, sh / 32 = mm := ⟨_, rfl⟩
 obtain ⟨s, hs⟩ : ∃ s, sh % 32 = s := ⟨_, rfl⟩
 have hs31 : s ≤ 31 := by omega
 have hmb : mm ≤ 1000000 := by omega
 have HS : Hid (32 * mm + s = sh) := by rw [Hid]; omega
 have hd : ((sh : Int)) / 32 = (mm : Int) := by omega
 have hr : ((sh : Int)) % 32 = (s : Int) := by omega
 have hmk := make_full mm (by omega)
 clear ha ho hmm hs
 go_enter Tryz.func258, Tryz.ntmps258
 go_wp2
 clear hmk hd
 go_loopw [5, 6, 7] (fun v cr i wr => shRel n mm s l w v cr i wr) (fun _ _ i _ => n + 1 - (intOf i).toNat)
 case atStart => exact ⟨0, 0, List.replicate mm 0, Nat.zero_le _, by omega, rfl, rfl, row_made w mm (by omega), ⟨fun _ => shInv_zero _ _ _, fun h => absurd h (by omega)⟩, (Below.refl _ _).alloc (Nat.le_refl _) _⟩
 case round =>
  obtain ⟨k, cy, o, hk, hcy, rfl, rfl, hown, hinv, hbel⟩ := hrel
  have hN := hbel.size
  by_cases hlk : k ≤ n
  ·have h1 := limb_any A n c k l wr (HA.out.below hbel) HO.out
   have b1 := getD_lt HO.out k
   rw [bs_eq] at b1
   have hin := hinv.out.1 hlk
   have hlast : ¬ k + 1 ≤ n → k = l.length := fun h => by rw [HM.out]; omega
   obtain ⟨X, hX⟩ : ∃ X, l.getD k 0 = X := ⟨_, rfl⟩
   rw [hX] at h1 b1
   have H1 := Lib.hid h1
   obtain ⟨e1, e2⟩ := shl_word X s b1 hs31
   have HE := Lib.hid (shInv_succ (t := X * 2 ^ s + cy) HO.out hin (by rw [hX]))
   have HF : Hid (¬ k + 1 ≤ n → okL (o ++ [(X * 2 ^ s + cy) % 4294967296]) ∧ val (o ++ [(X * 2 ^ s + cy) % 4294967296]) = val l * 2 ^ (32 * mm + s)) := fun h => by
    have e := hlast h
    subst e
    have hX0 : X = 0 := by rw [← hX]; exact getD_over (Nat.le_refl _)
    rw [hX0, Nat.zero_mul, Nat.zero_add]
    exact shInv_end hs31 hin cy rfl
   have hcn := HE.out.2.2.1
   have hc2 : 2 ^ s ≤ 2147483648 := by have h := Nat.pow_le_pow_right (n := 2) (by omega) hs31; simpa using h
   rw [bs_eq] at hcn
   generalize X * 2 ^ s = p at *
   have hcn' : (p + cy) / 4294967296 < 2147483648 := by omega
   clear h1 hX hlast hin hcn hc2
   go_wp2_with (first
    | (go_at_call 256; go_must ((refine H1.out.mono ?_); rintro e w' ⟨rfl, rfl⟩))
    | (at_builtin; go_must ((refine app_u32 rfl (.tmp 27) (.tmp 31) rfl w.heap.size (mm + k) o _ rfl (hown.alloc _) ⟨wr.heap.size, 0, none⟩ rfl _ (cell_one _ _ _) ((p + cy) % 4294967296) (by omega) (by omega) (by simp; omega) ?_); intro g cap w1 hown1 hgr1)))
   go_roundw
   case rel => exact ⟨k + 1, (p + cy) / 4294967296, o ++ [(p + cy) % 4294967296], by omega, hcn', by go_num, congrArg (Value.int .u64) (by omega), hown1, ⟨fun _ => HE.out, fun h => HF.out (by omega)⟩, app_below hbel hN hown hgr1⟩
   case measure => simp [intOf]; omega
  ·obtain ⟨ho, hv⟩ := hinv.out.2 (by omega)
   rw [HS.out] at hv
   obtain ⟨A', c', rfl⟩ := own_form hown
   have hcap := own_cap hown
   have HR := Lib.hid (NatA.mk (Sl.of_own hown) ho hv hcap)
   clear hown hv hinv hcap ho
   go_wp2_with (go_at_call 252; go_must ((refine (rf_norm _ _ _ _ _ HR.out (by omega)).mono ?_); rintro e w1 ⟨A1, n1, c1, rfl, hs1, hc1, hf1, hb1⟩))
   go_ret
   exact ⟨_, _, _, rfl, hs1, hc1, hf1.mono hN, hbel.trans (hb1.mono hN)⟩
end
section
open Go.RowKit
theorem bits_len {A : Option Addr} {w : World} {n c x : Nat} (h : NatA w A n c x) : bl x ≤ 32 * n := by
 obtain ⟨l, h1, h2, rfl, _⟩ := h
 have h3 := val_lt h2
 rw [h1.ulen, bs_pow] at h3
 rcases Nat.eq_zero_or_pos (val l) with h0 | h0
 ·rw [h0, bl_zero]; omega
 ·have h4 := bl_ge (v := val l) (by omega)
  have : bl (val l) - 1 < 32 * n := (Nat.pow_lt_pow_iff_right (a := 2) (by omega)).1 (by omega)
  omega
def bdRel (g mm x y : Nat) (w : World) (s7 s10 s11 : Value) (wr : World) : Prop :=
 ∃ (j R P : Nat) (Q : List Nat) (A : Option Addr) (n c : Nat) (B : Option Addr) (m d : Nat), s11 = .int .i64 ((j : Int) - 1) ∧ s7 = .slice A n c ∧ s10 = .slice B m d ∧ Sl wr wr.heap.size A n (u32s (limbs R)) ∧ n ≤ c ∧ n ≤ 100000 ∧ Sl wr wr.heap.size B m (u32s (limbs P)) ∧ m ≤ d ∧ m ≤ 1000000 ∧
  RowU wr g Q ∧ Hid (Q.length = mm + 1 ∧ bdInv x y Q R j ∧ (1 ≤ j → P = y * 2 ^ (j - 1)) ∧ (0 < n → ∀ a, A = some a → a.block ≠ g) ∧ (∀ a, B = some a → a.block ≠ g)) ∧ j ≤ 32 * mm + 32 ∧ Below w.heap.size w wr
def rgRel (x y : Nat) (w : World) (Y : Nat) (s0 s1 : Value) (wr : World) : Prop :=
 ∃ (A : Option Addr) (n c X : Nat) (B : Option Addr) (m d : Nat), s0 = .slice A n c ∧ s1 = .slice B m d ∧ Sl wr wr.heap.size A n (u32s (limbs X)) ∧ n ≤ c ∧ Sl wr wr.heap.size B m (u32s (limbs Y)) ∧ m ≤ d ∧ Hid (X.gcd Y = x.gcd y) ∧ n ≤ 100000 ∧ m ≤ 100000 ∧ Below w.heap.size w wr
theorem rf_dm_lt (A B : Option Addr) (n m c d x y : Nat) (w : World) (ha : NatA w A n c x) (hb : NatA w B m d y) (hn : n ≤ 100000) (hm : m ≤ 100000) (hlt : bl x < bl y) :
  Calls Tryz.prog 255 #[.slice A n c, .slice B m d] w (RetDM (x / y) (x % y) w) := by
 have hxy : x < y := by
  rcases Nat.lt_or_ge x y with h | h
  ·exact h
  ·have := bl_mono h; omega
 have hy0 : bl y ≠ 0 := by omega
 have l1 := bits_len ha
 have l2 := bits_len hb
 rw [Nat.div_eq_of_lt hxy, Nat.mod_eq_of_lt hxy]
 have HA := Lib.hid (And.intro ha hb)
 have hyb : ((bl y : Int) == 0) = false := by simpa using hy0
 generalize hbx : bl x = bx at *
 generalize hby : bl y = by_ at *
 have HB := Lib.hid (And.intro hbx hby)
 clear ha hb hbx hby
 go_enter Tryz.func255, Tryz.ntmps255
 go_wp2_with fail
 refine (rf_bits B m d y _ HA.out.2 (by omega)).mono ?_
 rintro e w1 ⟨rfl, hb1⟩
 rw [HB.out.2]
 go_wp2_with fail
 refine (rf_norm A n c x _ (HA.out.1.on hb1) (by omega)).mono ?_
 rintro e w2 ⟨A2, n2, c2, rfl, hs2, hc2, _, hb2⟩
 have hn2 : n2 ≤ 100000 := by
  have h1 := (HA.out.1).trimmed.1
  have h2 := hs2.ulen
  have : n2 = nl x := h2.symm
  omega
 have HS2 := Lib.hid hs2
 clear hs2
 have HB2 := Lib.hid (hb1.trans (hb2.mono hb1.size))
 clear hb1 hb2
 go_wp2_with fail
 refine (rf_bits A2 n2 c2 x _ (.of_limbs HS2.out hc2) (by omega)).mono ?_
 rintro e w3 ⟨rfl, hb3⟩
 rw [HB.out.1]
 go_wp2_with fail
 refine (rf_bits B m d y _ (HA.out.2.on (HB2.out.trans (hb3.mono HB2.out.size))) (by omega)).mono ?_
 rintro e w4 ⟨rfl, hb4⟩
 rw [HB.out.2]
 have HF := Lib.hid (And.intro ((HS2.out.on hb3).on hb4) ((HB2.out.trans (hb3.mono HB2.out.size)).trans (hb4.mono (Nat.le_trans HB2.out.size hb3.size))))
 clear hb3 hb4
 go_wp2
 go_ret3
 exact ⟨none, 0, 0, A2, n2, c2, rfl, by rw [limbs_zero]; exact Sl.none_, Nat.le_refl _, HF.out.1, hc2, HF.out.2⟩
set_option maxRecDepth 100000 in
set_option maxHeartbeats 1600000 in
theorem rf_dm_ge (A B : Option Addr) (n m c d x y : Nat) (w : World) (ha : NatA w A n c x) (hb : NatA w B m d y) (hn : n ≤ 100000) (hm : m ≤ 100000) (hy : y ≠ 0) (k : Nat) (hk : bl x = k + bl y) :
  Calls Tryz.prog 255 #[.slice A n c, .slice B m d] w (RetDM (x / y) (x % y) w) := by
 have hy0 : bl y ≠ 0 := by have := bl_pos hy; omega
 have l1 := bits_len ha
 have l2 := bits_len hb
 have HA := Lib.hid (And.intro ha hb)
 have hyb : ((bl y : Int) == 0) = false := by simpa using hy0
 have HI := Lib.hid (fun mm => bdInv_start (m := mm) hy hk)
 generalize hbx : bl x = bx at *
 generalize hby : bl y = by_ at *
 have HB := Lib.hid (And.intro hbx hby)
 obtain rfl := hk
 have hkb : k ≤ 10000000 := by omega
 obtain ⟨mm, hmm⟩ : ∃ mm, k / 32 = mm := ⟨_, rfl⟩
 have hmb : mm ≤ 1000000 := by omega
 have hk32 : k < 32 * mm + 32 := by omega
 have hd : (k : Int) / 32 = (mm : Int) := by omega
 have hmk := make_succ mm (by omega)
 clear ha hb hbx hby hmm
 go_enter Tryz.func255, Tryz.ntmps255
 go_wp2_with fail
 refine (rf_bits B m d y _ HA.out.2 (by omega)).mono ?_
 rintro e w1 ⟨rfl, hb1⟩
 rw [HB.out.2]
 go_wp2_with fail
 refine (rf_norm A n c x _ (HA.out.1.on hb1) (by omega)).mono ?_
 rintro e w2 ⟨A2, n2, c2, rfl, hs2, hc2, _, hb2⟩
 have hn2 : n2 ≤ 100000 := by
  have h1 := (HA.out.1).trimmed.1
  have h2 := hs2.ulen
  have : n2 = nl x := h2.symm
  omega
 have HS2 := Lib.hid hs2
 clear hs2
 have HB2 := Lib.hid (hb1.trans (hb2.mono hb1.size))
 clear hb1 hb2
 go_wp2_with fail
 refine (rf_bits A2 n2 c2 x _ (.of_limbs HS2.out hc2) (by omega)).mono ?_
 rintro e w3 ⟨rfl, hb3⟩
 rw [HB.out.1]
 go_wp2_with fail
 refine (rf_bits B m d y _ (HA.out.2.on (HB2.out.trans (hb3.mono HB2.out.size))) (by omega)).mono ?_
 rintro e w4 ⟨rfl, hb4⟩
 rw [HB.out.2]
 have HF := Lib.hid (And.intro ((HS2.out.on hb3).on hb4) ((HB2.out.trans (hb3.mono HB2.out.size)).trans (hb4.mono (Nat.le_trans HB2.out.size hb3.size))))
 clear hb3 hb4
 go_wp2_with fail
 have hBW := HF.out.2.alloc HF.out.2.size (.cells (madeCells #[Value.int .u32 0] (mm + 1)) 190)
 refine (rf_shift B m d y k _ (HA.out.2.on hBW) (by omega) hkb).mono ?_
 rintro e w5 ⟨B5, n5, c5, rfl, hs5, hc5, hf5, hb5⟩
 have hn5 : n5 ≤ 100000 := by
  have h1 := hs5.ulen
  have h2 : nl (y * 2 ^ k) ≤ n := nl_le (by
   rw [bs_pow]
   have h3 := bl_lt y
   rw [HB.out.2] at h3
   have h4 : y * 2 ^ k < 2 ^ by_ * 2 ^ k := Nat.mul_lt_mul_of_pos_right h3 (Nat.pow_pos (by omega))
   rw [← Nat.pow_add] at h4
   exact Nat.lt_of_lt_of_le h4 (Nat.pow_le_pow_right (by omega) (by omega)))
  have h5 : n5 = nl (y * 2 ^ k) := h1.symm
  omega
 have HR : Hid (RowU w5 w4.heap.size (List.replicate (mm + 1) 0)) := (RowU.made w4 (mm + 1)).below hb5 (by simp)
 have HG : Hid (Sl w5 w5.heap.size A2 n2 (u32s (limbs x)) ∧ Below w.heap.size w w5 ∧ Sl w5 w5.heap.size B5 n5 (u32s (limbs (y * 2 ^ k)))) := ⟨(HF.out.1.on ((Below.refl _ _).alloc (Nat.le_refl _) _)).on hb5, hBW.trans (hb5.mono hBW.size), hs5⟩
 have hgw : w.heap.size ≤ w4.heap.size := HF.out.2.size
 have HNE : Hid ((0 < n2 → ∀ a, A2 = some a → a.block ≠ w4.heap.size) ∧ ∀ a, B5 = some a → a.block ≠ w4.heap.size) := ⟨fun hn a e => by
  obtain ⟨b, off, e2, hb, _⟩ := HF.out.1.2 hn
  rw [e2] at e
  obtain rfl := Option.some.inj e
  show b ≠ _
  omega, fun a e => by have := hf5 a e; simp at this; omega⟩
 clear hs5 hb5 hBW hmk hd
 go_wp2_with fail
 go_loopw [7, 10, 11] (fun s7 s10 s11 wr => bdRel w4.heap.size mm x y w s7 s10 s11 wr) (fun _ _ s11 _ => (intOf s11 + 1).toNat)
 case atStart => exact ⟨k + 1, x, y * 2 ^ k, List.replicate (mm + 1) 0, A2, n2, c2, B5, n5, c5, congrArg (Value.int .i64) (by omega), rfl, rfl, HG.out.1, hc2, hn2, HG.out.2.2, hc5, by omega, HR.out, ⟨by simp, HI.out (mm + 1), fun _ => rfl, HNE.out.1, HNE.out.2⟩, by omega, HG.out.2.1⟩
 case round =>
  clear HF HS2 HB2 HR HG HNE
  obtain ⟨j, R, Pv, Q, A1, n1, c1, B1, m1, d1, rfl, rfl, rfl, hR, hnc, hn1, hP, hmd, hm1, hrow, hinv, hj, hbel⟩ := hrel
  have hN := hbel.size
  obtain ⟨hQl, hbd, hPv, hnA, hnB⟩ := hinv.out
  clear hinv
  by_cases h0 : j = 0
  ·subst h0
   obtain ⟨e1, e2, e3⟩ := bdInv_end hbd
   have HN := Lib.hid (NatA.mk (c := mm + 1) (hrow.sl hQl) e1 e2 (Nat.le_refl _))
   rw [e3] at hR
   have HR := Lib.hid hR
   clear hR hP hrow hbd hPv e1 e2 e3 hQl hnA hnB
   go_wp2_with (go_at_call 252; go_must ((refine (rf_norm _ _ _ _ _ HN.out (by omega)).mono ?_); rintro e w6 ⟨A6, n6, c6, rfl, hs6, hc6, _, hb6⟩))
   go_ret3
   exact ⟨_, _, _, _, _, _, rfl, hs6, hc6, HR.out.on hb6, hnc, hbel.trans (hb6.mono hN)⟩
  ·obtain ⟨i, rfl⟩ : ∃ i, j = i + 1 := ⟨j - 1, by omega⟩
   obtain rfl : Pv = y * 2 ^ i := hPv (by omega)
   clear hPv h0
   have HH := Lib.hid (half_shift y)
   rcases Nat.lt_or_ge R (y * 2 ^ i) with hlt | hge
   ·have HB3 := Lib.hid (bdInv_no hbd hlt)
    have HS := Lib.hid (rf_sub_no A1 B1 n1 m1 c1 d1 R (y * 2 ^ i) wr (.of_limbs hR hnc) (.of_limbs hP hmd) (by omega) hm1 hlt)
    have HX := Lib.hid (rf_half B1 m1 d1 (y * 2 ^ i) wr (.of_limbs hP hmd) hm1)
    have hnl : m1 = nl (y * 2 ^ i) := hP.ulen.symm
    have HR := Lib.hid (And.intro hR (And.intro hrow (And.intro hQl (And.intro hnl hnA))))
    clear hR hP hrow hbd hQl hlt hnl hnA hnB
    go_wp2_with (first
     | (go_at_call 259; go_must ((refine HS.out.mono ?_); rintro e w' ⟨rfl, rfl⟩))
     | (go_at_call 260; go_must ((refine HX.out.mono ?_); rintro e w6 ⟨A6, n6, c6, rfl, hs6, hc6, hf6, hb6⟩)))
    go_roundw
    case rel =>
     refine ⟨i, R, y * 2 ^ i / 2, Q, A1, n1, c1, A6, n6, c6, rfl, rfl, rfl, HR.out.1.on hb6, hnc, hn1, hs6, hc6, ?_, HR.out.2.1.below hb6 HR.out.2.1.lt, ⟨HR.out.2.2.1, HB3.out, fun h => ?_, HR.out.2.2.2.2, fun a e => by have := hf6 a e; have := HR.out.2.1.lt; omega⟩, by omega, hbel.trans (hb6.mono hN)⟩
     ·have := nl_mono (Nat.div_le_self (y * 2 ^ i) 2)
      have h1 := hs6.ulen
      have h2 : n6 = nl (y * 2 ^ i / 2) := h1.symm
      have := HR.out.2.2.2.1
      omega
     ·obtain ⟨i', rfl⟩ : ∃ i', i = i' + 1 := ⟨i - 1, by omega⟩
      exact HH.out i'
    case measure => simp [intOf]
   ·obtain ⟨a, ha⟩ : ∃ a, i / 32 = a := ⟨_, rfl⟩
    obtain ⟨b, hb⟩ : ∃ b, i % 32 = b := ⟨_, rfl⟩
    have hb31 : b ≤ 31 := by omega
    have haQ : a < Q.length := by rw [hQl]; omega
    obtain ⟨z, hz⟩ : ∃ z, Q[a]? = some z := ⟨_, List.getElem?_eq_getElem haQ⟩
    have HRn : Hid (nl R ≤ 100000) := by have h1 := hR.ulen; have h2 : n1 = nl R := h1.symm; show nl R ≤ _; omega
    have HB3 := bdInv_yes hbd hge (x := z) (by rw [ha]; exact hz)
    have hroom := bit_room hbd.1 hbd.2.1 (x := z) (by rw [ha]; exact hz)
    rw [ha, hb] at HB3
    rw [hb, bs_eq] at hroom
    have HB3 := Lib.hid HB3
    have HS := Lib.hid (rf_sub_yes A1 B1 n1 m1 c1 d1 R (y * 2 ^ i) wr (.of_limbs hR hnc) (.of_limbs hP hmd) (by omega) hm1 hge)
    have hnl : m1 = nl (y * 2 ^ i) := hP.ulen.symm
    have HR := Lib.hid (And.intro hP (And.intro hrow (And.intro hQl (And.intro hnl (And.intro hnB hz)))))
    have hd1 : (i : Int) / 32 = (a : Int) := by omega
    have hr1 : (i : Int) % 32 = (b : Int) := by omega
    have ham : a < mm + 1 := by omega
    have hp1 : IntKind.u32.wrap (2 ^ b) = ((2 ^ b : Nat) : Int) := by
     have : ((2 : Int) ^ b) = ((2 ^ b : Nat) : Int) := by rw [Int.natCast_pow]; rfl
     rw [this, IntKind.wrap_u32]
     generalize 2 ^ b = q at *
     omega
    generalize 2 ^ b = pw at *
    clear hR hP hbd hQl hge hnl ha hb
    clear hnA hnB hrow hz
    go_wp2_with fail
    refine HS.out.mono ?_
    rintro e w6 ⟨A6, n6, c6, rfl, hs6, hc6, hf6, hb6⟩
    have hrow6 := HR.out.2.1.below hb6 HR.out.2.1.lt
    have hcz := hrow6.cell HR.out.2.2.2.2.2
    have hfz := hrow6.frozen a
    have hg6 : w4.heap.size < wr.heap.size := HR.out.2.1.lt
    have HW : Hid (Sl (w6.setCell ⟨w4.heap.size, a, none⟩ (.int .u32 ((z + pw : Nat) : Int))) (w6.setCell ⟨w4.heap.size, a, none⟩ (.int .u32 ((z + pw : Nat) : Int))).heap.size B1 m1 (u32s (limbs (y * 2 ^ i))) ∧ Sl (w6.setCell ⟨w4.heap.size, a, none⟩ (.int .u32 ((z + pw : Nat) : Int))) (w6.setCell ⟨w4.heap.size, a, none⟩ (.int .u32 ((z + pw : Nat) : Int))).heap.size A6 n6 (u32s (limbs (R - y * 2 ^ i))) ∧ RowU (w6.setCell ⟨w4.heap.size, a, none⟩ (.int .u32 ((z + pw : Nat) : Int))) w4.heap.size (Q.set a (z + pw)) ∧ Below w.heap.size w (w6.setCell ⟨w4.heap.size, a, none⟩ (.int .u32 ((z + pw : Nat) : Int)))) := by
     refine ⟨?_, ?_, hrow6.set (by rw [HR.out.2.2.1]; exact ham) _, (hbel.trans (hb6.mono hN)).setCell (p := ⟨w4.heap.size, a, none⟩) hgw _⟩
     ·rw [World.size_setCell]
      exact (HR.out.1.on hb6).setFar HR.out.2.2.2.2.1 _
     ·rw [World.size_setCell]
      exact hs6.setFar (fun ad e => by have := hf6 ad e; show ad.block ≠ w4.heap.size; omega) _
    have hn6 : n6 ≤ 100000 := by
     have h1 := hs6.ulen
     have h2 : n6 = nl (R - y * 2 ^ i) := h1.symm
     have h3 := nl_mono (Nat.sub_le R (y * 2 ^ i))
     have h4 := HRn.out
     omega
    have hfr6 : Hid (∀ ad, A6 = some ad → ad.block ≠ w4.heap.size) := fun ad e => by have := hf6 ad e; omega
    clear hs6 hrow6 hb6 hf6
    go_wp2_with fail
    rw [show ((z : Int) + (pw : Int)) = ((z + pw : Nat) : Int) from by omega]
    refine (rf_half B1 m1 d1 (y * 2 ^ i) _ (.of_limbs HW.out.1 hmd) hm1).mono ?_
    rintro e w7 ⟨A7, n7, c7, rfl, hs7, hc7, hf7, hb7⟩
    have HZ := Lib.hid (And.intro (HW.out.2.1.on hb7) (And.intro (HW.out.2.2.1.below hb7 HW.out.2.2.1.lt) (HW.out.2.2.2.trans (hb7.mono HW.out.2.2.2.size))))
    have hf7' : Hid (∀ ad, A7 = some ad → ad.block ≠ w4.heap.size) := fun ad e => by have := hf7 ad e; have := HW.out.2.2.1.lt; omega
    clear hb7 hf7 HW
    go_wp2_with fail
    go_roundw
    case rel =>
     refine ⟨i, R - y * 2 ^ i, y * 2 ^ i / 2, Q.set a (z + pw), A6, n6, c6, A7, n7, c7, rfl, rfl, rfl, HZ.out.1, hc6, hn6, hs7, hc7, ?_, HZ.out.2.1, ⟨by rw [List.length_set]; exact HR.out.2.2.1, HB3.out, fun h => ?_, fun _ => hfr6.out, hf7'.out⟩, by omega, HZ.out.2.2⟩
     ·have := nl_mono (Nat.div_le_self (y * 2 ^ i) 2)
      have h1 := hs7.ulen
      have h2 : n7 = nl (y * 2 ^ i / 2) := h1.symm
      have := HR.out.2.2.2.1
      omega
     ·obtain ⟨i', rfl⟩ : ∃ i', i = i' + 1 := ⟨i - 1, by omega⟩
      exact HH.out i'
    case measure => simp [intOf]
theorem rf_divmod (A B : Option Addr) (n m c d x y : Nat) (w : World) (ha : NatA w A n c x) (hb : NatA w B m d y) (hn : n ≤ 100000) (hm : m ≤ 100000) (hy : y ≠ 0) :
  Calls Tryz.prog 255 #[.slice A n c, .slice B m d] w (RetDM (x / y) (x % y) w) := by
 rcases Nat.lt_or_ge (bl x) (bl y) with h | h
 ·exact rf_dm_lt A B n m c d x y w ha hb hn hm h
 ·exact rf_dm_ge A B n m c d x y w ha hb hn hm hy (bl x - bl y) (by omega)
set_option maxRecDepth 100000 in
set_option maxHeartbeats 1600000 in
theorem rf_gcd (A B : Option Addr) (n m c d x y : Nat) (w : World) (ha : NatA w A n c x) (hb : NatA w B m d y) (hn : n ≤ 100000) (hm : m ≤ 100000) :
  Calls Tryz.prog 254 #[.slice A n c, .slice B m d] w (RetN (x.gcd y) w) := by
 have t1 := ha.trimmed.1
 have s1 := hb.trimmed.1
 go_enter Tryz.func254, Tryz.ntmps254
 go_wp2_with fail
 refine (rf_norm A n c x w ha (by omega)).mono ?_
 rintro e w1 ⟨A1, n1, c1, rfl, hs1, hc1, _, hb1⟩
 have hb' := hb.on hb1
 clear ha hb
 go_wp2_with fail
 refine (rf_norm B m d y w1 hb' (by omega)).mono ?_
 rintro e w2 ⟨A2, n2, c2, rfl, hs2, hc2, _, hb2⟩
 have HS := Lib.hid (And.intro (hs1.on hb2) (And.intro hs2 (hb1.trans (hb2.mono hb1.size))))
 have e1 : n1 ≤ 100000 := by have := hs1.ulen; have : n1 = nl x := this.symm; omega
 have e2 : n2 ≤ 100000 := by have := hs2.ulen; have : n2 = nl y := this.symm; omega
 clear hs1 hs2 hb1 hb2 hb'
 go_wp2_with fail
 go_loopg [5, 6] y (fun Y s0 s1 wr => rgRel x y w Y s0 s1 wr)
 case atStart => exact ⟨_, _, _, x, _, _, _, rfl, rfl, HS.out.1, hc1, HS.out.2.1, hc2, rfl, e1, e2, HS.out.2.2⟩
 case round =>
  clear HS
  obtain ⟨A1, k1, c1, X, B1, k2, d1, rfl, rfl, hA, hc1, hB, hd1, hgcd, l1, l2, hbel⟩ := hrel
  have hk2 : k2 = nl gk := hB.ulen.symm
  by_cases h0 : gk = 0
  ·subst h0
   rw [nl_zero] at hk2
   subst hk2
   have HR := Lib.hid hA
   clear hA hB
   go_wp2_with fail
   go_ret
   have hg := hgcd.out
   rw [Nat.gcd_zero_right] at hg
   rw [← hg]
   exact ⟨_, _, _, rfl, HR.out, hc1, hbel⟩
  ·have hp := nl_pos h0
   have hk0 : 0 < k2 := by omega
   have HC := Lib.hid (rf_divmod A1 B1 k1 k2 c1 d1 X gk wr (.of_limbs hA hc1) (.of_limbs hB hd1) l1 l2 h0)
   have HB := Lib.hid (And.intro hB hk2)
   clear hA hB hk2 hp
   go_wp2_with (go_at_call 255; refine HC.out.mono ?_; rintro e w3 ⟨A3, n3, c3, B3, m3, d3, rfl, hq, hqc, hr, hrc, hb3⟩)
   go_roundg (X % gk)
   case measure => exact Nat.mod_lt _ (by omega)
   case rel =>
    have hm3 : m3 = nl (X % gk) := hr.ulen.symm
    have := nl_mono (Nat.le_of_lt (Nat.mod_lt X (by omega : 0 < gk)))
    have := HB.out.2
    exact ⟨_, _, _, gk, _, _, _, rfl, rfl, HB.out.1.on hb3, hd1, hr, hrc, (gcd_step X gk).trans hgcd.out, l2, by omega, hbel.trans (hb3.mono hbel.size)⟩
end
section
open Go.RowKit
set_option maxRecDepth 100000 in
set_option maxHeartbeats 1600000 in
theorem rf_mul (A B : Option Addr) (n m c d x y : Nat) (w : World) (ha : NatA w A n c x) (hb : NatA w B m d y) (hn : n ≤ 1000000) (hm : m ≤ 1000000) :
  Calls Tryz.prog 249 #[.slice A n c, .slice B m d] w (RetF (x * y) w) := by
 obtain ⟨l, ha, ho, rfl, _⟩ := ha
 obtain ⟨l2, hb, ho2, rfl, _⟩ := hb
 obtain rfl := ha.ulen
 obtain rfl := hb.ulen
 have HA := Lib.hid (And.intro ha hb)
 have HO := Lib.hid (And.intro ho ho2)
 have hmk := make_sum l.length l2.length (by omega) (by omega)
 clear ha hb ho ho2
 go_enter Tryz.func249, Tryz.ntmps249
 go_wp2
 clear hmk
 go_loopw [6] (fun i wr => mulRel l.length l l2 w i wr) (fun i _ => l.length - (intOf i).toNat)
 case atStart => exact ⟨0, _, Nat.zero_le _, rfl, RowU.made w (l.length + l2.length), mulInv_zero l l2, (Below.refl _ _).alloc (Nat.le_refl _) _⟩
 case round =>
  obtain ⟨i, L, hi, rfl, hrow, hinv, hbel⟩ := hrel
  by_cases hli : i < l.length
  ·have HI := Lib.hid (mulIn_zero HO.out.1 HO.out.2 hinv.out hi)
   have b1 := getD_lt HO.out.1 i
   rw [bs_eq] at b1
   obtain ⟨X, hX⟩ : ∃ X, l.getD i 0 = X := ⟨_, rfl⟩
   rw [hX] at b1
   have HX := Lib.hid hX
   obtain ⟨wo, rfl⟩ : ∃ wo : World, wo = wr := ⟨_, rfl⟩
   have HW := Lib.hid (And.intro hrow hbel)
   clear hrow hbel hX
   go_wp2
   go_loopw [7, 8] (fun cr j wr => mulRel2 i l2.length l l2 w cr j wr) (fun _ j _ => l2.length - (intOf j).toNat)
   case atStart => exact ⟨0, 0, L, Nat.zero_le _, by omega, rfl, rfl, HW.out.1, HI, HW.out.2⟩
   case round =>
    clear HW
    obtain ⟨k, cy, R, hk, hcy, rfl, rfl, hrow, hin, hbel⟩ := hrel
    have hRl : R.length = l.length + l2.length := hin.out.1
    by_cases hlk : k < l2.length
    ·have h1 := limb_any A l.length c i l wr (HA.out.1.below hbel) HO.out.1
     have h2 := limb_any B l2.length d k l2 wr (HA.out.2.below hbel) HO.out.2
     have h3 := limb_any (some ⟨w.heap.size, 0, none⟩) (l.length + l2.length) (l.length + l2.length) (i + k) R wr (hrow.sl hRl) hin.out.2.1
     have b2 := getD_lt HO.out.2 k
     rw [bs_eq] at b2
     obtain ⟨Y, hY⟩ : ∃ Y, l2.getD k 0 = Y := ⟨_, rfl⟩
     obtain ⟨z, hz⟩ : ∃ z, R[i + k]? = some z := ⟨_, List.getElem?_eq_getElem (by omega)⟩
     have hzb := okL_at hin.out.2.1 hz
     rw [bs_eq] at hzb
     rw [getD_some hz] at h3
     rw [HX.out] at h1
     rw [hY] at h2 b2
     have hcz := hrow.cell hz
     have hfz := hrow.frozen (i + k)
     obtain ⟨p, hp1, hp2, hp3⟩ := mul_word b1 b2
     have H1 := Lib.hid h1
     have H2 := Lib.hid h2
     have H3 := Lib.hid h3
     have HP := Lib.hid (And.intro hz (And.intro hY hp1))
     have HR := Lib.hid hrow
     clear hrow hz hRl hp1 hY h1 h2 h3
     go_wp2_with (first
      | (go_at_call_of 256 (Value.slice A l.length c); go_must ((refine H1.out.mono ?_); rintro e w' ⟨rfl, rfl⟩))
      | (go_at_call_of 256 (Value.slice B l2.length d); go_must ((refine H2.out.mono ?_); rintro e w' ⟨rfl, rfl⟩))
      | (go_at_call 256; go_must ((refine H3.out.mono ?_); rintro e w' ⟨rfl, rfl⟩)))
     go_roundw
     case rel => exact mulRel2_next (p := p) HO.out.1 HO.out.2 rfl hlk HR.out hin.out hbel HP.out.1 (by rw [HX.out, HP.out.2.1]; exact HP.out.2.2) (by omega)
     case measure => simp [intOf]; omega
    ·obtain rfl : k = l2.length := by omega
     obtain ⟨z, hz⟩ : ∃ z, R[i + l2.length]? = some z := ⟨_, List.getElem?_eq_getElem (by omega)⟩
     have hcz := hrow.cell hz
     have hfz := hrow.frozen (i + l2.length)
     have HN : Hid (mulInv l l2 (R.set (i + l2.length) cy) (i + 1)) := mulIn_end hin.out hli
     have HR := Lib.hid (hrow.set (i := i + l2.length) (by omega) cy)
     clear hrow hz hRl
     go_wp2
     go_roundw
     case rel => exact ⟨i + 1, _, by omega, by go_num, HR.out, HN, hbel.setCell (p := ⟨w.heap.size, i + l2.length, none⟩) (Nat.le_refl _) _⟩
     case measure => simp [intOf]; omega
  ·obtain rfl : i = l.length := by omega
   obtain ⟨ho, hv⟩ := mulInv_end hinv.out
   have HR := Lib.hid (NatA.mk (c := l.length + l2.length) (hrow.sl hinv.out.1) ho hv (Nat.le_refl _))
   have hN := hbel.size
   clear hrow hv ho hinv
   go_wp2_with (go_at_call 252; go_must ((refine (rf_norm _ _ _ _ _ HR.out (by omega)).mono ?_); rintro e w1 ⟨A1, n1, c1, rfl, hs1, hc1, hf1, hb1⟩))
   go_ret
   exact ⟨_, _, _, rfl, hs1, hc1, hf1.mono hN, hbel.trans (hb1.mono hN)⟩
end
section
open Go.RowKit
theorem RetF.n {v : Nat} {w w' : World} {e : Ending} (h : RetF v w e w') : RetN v w e w' := by
 obtain ⟨A, n, c, h1, h2, h3, _, h5⟩ := h
 exact ⟨A, n, c, h1, h2, h3, h5⟩
theorem rn_mul (A B : Option Addr) (n m c d x y : Nat) (w : World) (ha : NatA w A n c x) (hb : NatA w B m d y) (hn : n ≤ 1000000) (hm : m ≤ 1000000) : Calls Tryz.prog 249 #[.slice A n c, .slice B m d] w (RetN (x * y) w) :=
 (rf_mul A B n m c d x y w ha hb hn hm).mono fun _ _ h => h.n
set_option maxRecDepth 100000 in
set_option maxHeartbeats 1600000 in
theorem jmake_any (neg : Bool) (A : Option Addr) (n c m : Nat) (w : World) (ha : NatA w A n c m) (hn : n ≤ 1000000) :
  Calls Tryz.prog 248 #[.bool neg, .slice A n c] w (RetZ (sgn neg m) w) := by
 have HA := Lib.hid ha; clear ha
 cases neg
 ·go_enter Tryz.func248, Tryz.ntmps248
  go_wp2_with (go_at_call 252; refine (rf_norm A n c m _ (HA.out.on ((Below.refl _ _).alloc (Nat.le_refl _) _)) (by omega)).mono ?_; rintro e w1 ⟨A1, k, k2, rfl, hs, hk2, hg, hb⟩; obtain ⟨hcl, hfr⟩ := bcell hb)
  refine bodyPost_ret (v := .agg #[.bool false, .slice A1 k k2]) (by simp [results, Tryz.results248, go_sem, hcl]) rfl ?_
  have hg2 : Fresh (w.heap.size + 1) A1 := fun a e => by have := hg a e; simpa using this
  exact ⟨A1, k, k2, by rw [ineg_sgn]; rfl, by rw [sgn_abs]; exact (hs.set_ (p := ⟨w.heap.size, 0, none⟩) hg2 _).set_ (p := ⟨w.heap.size, 1, none⟩) hg2 _, hk2, ((((Below.refl _ _).alloc (Nat.le_refl _) _).trans (hb.mono (by simp))).setCell (Nat.le_refl _) _).setCell (Nat.le_refl _) _⟩
 ·go_enter Tryz.func248, Tryz.ntmps248
  go_wp2_with (go_at_call 252; refine (rf_norm A n c m _ (HA.out.on ((Below.refl _ _).alloc (Nat.le_refl _) _)) (by omega)).mono ?_; rintro e w1 ⟨A1, k, k2, rfl, hs, hk2, hg, hb⟩; obtain ⟨hcl, hfr⟩ := bcell hb)
  refine bodyPost_ret (v := .agg #[.bool (decide (0 < k)), .slice A1 k k2]) (by simp [results, Tryz.results248, go_sem, hcl]) rfl ?_
  have hg2 : Fresh (w.heap.size + 1) A1 := fun a e => by have := hg a e; simpa using this
  have hk : decide (0 < k) = decide (0 < m) := by
   have h1 : k = nl m := hs.ulen.symm
   by_cases h0 : m = 0
   ·subst h0
    rw [nl_zero] at h1
    subst h1
    rfl
   ·have := nl_pos h0
    rw [decide_eq_decide]
    omega
  exact ⟨A1, k, k2, by rw [ineg_sgn, Bool.true_and, hk], by rw [sgn_abs]; exact (hs.set_ (p := ⟨w.heap.size, 0, none⟩) hg2 _).set_ (p := ⟨w.heap.size, 1, none⟩) hg2 _, hk2, ((((Below.refl _ _).alloc (Nat.le_refl _) _).trans (hb.mono (by simp))).setCell (Nat.le_refl _) _).setCell (Nat.le_refl _) _⟩
set_option maxRecDepth 100000 in
set_option maxHeartbeats 1600000 in
theorem jnorm_any (neg : Bool) (A : Option Addr) (n c m : Nat) (w : World) (ha : NatA w A n c m) (hn : n ≤ 1000000) :
  Calls Tryz.prog 246 #[.agg #[.bool neg, .slice A n c]] w (RetZ (sgn neg m) w) := by
 have HA := Lib.hid ha; clear ha
 go_enter Tryz.func246, Tryz.ntmps246
 go_wp2_with fail
 have hB : Below w.heap.size w ((w.alloc (.cells #[.bool neg, .slice A n c] 123)).alloc (.cells #[.bool false, .slice none 0 0] 123)) := ((Below.refl _ _).alloc (Nat.le_refl _) _).alloc (by simp) _
 have hN := NoU.new (w.alloc (.cells #[.bool neg, .slice A n c] 123)) #[.bool false, .slice none 0 0] 123 (by simp)
 refine (jmake_any neg A n c m _ (HA.out.on hB) hn).mono ?_
 rintro e w1 ⟨A1, n1, c1, rfl, hs, hc1, hb⟩
 have HE := Lib.hid (int_end hs hc1 (hN.below hb (by simp)) hB hb)
 obtain ⟨hcl, hfr⟩ := bcell hb
 clear hs hN hB
 go_wp2_with fail
 refine bodyPost_ret (v := .agg #[.bool (ineg (sgn neg m)), .slice A1 n1 c1]) (by simp [results, Tryz.results246, go_sem, hcl]) rfl ?_
 simpa using HE.out
set_option maxRecDepth 100000 in
set_option maxHeartbeats 3200000 in
theorem jmul_any (neg : Bool) (A : Option Addr) (n c x : Nat) (neg2 : Bool) (B : Option Addr) (m d y : Nat) (w : World) (ha : NatA w A n c x) (hb : NatA w B m d y) (hn : n ≤ 400000) (hm : m ≤ 400000) :
  Calls Tryz.prog 227 #[.agg #[.bool neg, .slice A n c], .agg #[.bool neg2, .slice B m d]] w (RetZ (sgn neg x * sgn neg2 y) w) := by
 have hxy : nl (x * y) ≤ 800000 := by
  have h1 := nl_mul x y
  have h2 := ha.trimmed.1
  have h3 := hb.trimmed.1
  omega
 have HA := Lib.hid (And.intro ha hb); clear ha hb
 go_enter Tryz.func227, Tryz.ntmps227
 go_wp2_with fail
 have hB := box2_below w #[.bool neg, .slice A n c] #[.bool neg2, .slice B m d] #[.bool false, .slice none 0 0]
 have hl0 : w.heap.size < w.heap.size + 1 + 1 + 1 := by omega
 have hl1 : w.heap.size < w.heap.size + 1 + 1 := by omega
 have hq0 : ¬ w.heap.size + 1 + 1 = w.heap.size := by omega
 have hq1 : ¬ w.heap.size = w.heap.size + 1 + 1 := by omega
 go_region_held3 (fun w' => w'.cell? ⟨w.heap.size, 0, none⟩ = some (.bool neg) ∧ w'.cell? ⟨w.heap.size, 1, none⟩ = some (.slice A n c) ∧ w'.cell? ⟨w.heap.size + 1, 0, none⟩ = some (.bool neg2) ∧ w'.cell? ⟨w.heap.size + 1, 1, none⟩ = some (.slice B m d))
  (go_keep)
  (first
  | (go_at_call 249; go_must ((refine (rn_mul A B n m c d x y _ (by exact HA.out.1.on hB.drew) (by exact HA.out.2.on hB.drew) (by omega) (by omega)).mono ?_); rintro e w1 ⟨A1, n1, c1, rfl, h1, hc1, hb1⟩; obtain ⟨hcl, hfr⟩ := bcell hb1; have hz1 : w.heap.size + 1 + 1 < w1.heap.size := (by have := hb1.size; simp at this; omega); have hz2 : w.heap.size + 1 < w1.heap.size := (by omega); have hz3 : w.heap.size < w1.heap.size := (by omega)))
  | (go_at_call 248; go_must ((refine (jmake_any _ A1 n1 c1 (x * y) _ (by exact .of_limbs h1 hc1) (by rw [← h1.ulen]; exact Nat.le_trans hxy (by omega))).mono ?_); rintro e w2 ⟨A2, n2, c2, rfl, h2, hc2, hb2⟩; obtain ⟨hcl2, hfr2⟩ := bcell hb2)))
 have k0 : w2.cell? ⟨w.heap.size + 1 + 1, 0, none⟩ = some (.bool false) := by rw [hcl2 _ _ hz1, hcl _ _ (by simp)]; simp [go_sem]
 have k1 : w2.cell? ⟨w.heap.size + 1 + 1, 1, none⟩ = some (.slice none 0 0) := by rw [hcl2 _ _ hz1, hcl _ _ (by simp)]; simp [go_sem]
 have hN2 : NoU w2 (w.heap.size + 1 + 1) := by
  have h3 : NoU w1 (w.heap.size + 1 + 1) := NoU.below (w := box2 w #[.bool neg, .slice A n c] #[.bool neg2, .slice B m d] #[.bool false, .slice none 0 0]) (box2_no w _ _) ⟨hb1.os, hb1.tape, hb1.output, hb1.size, hb1.block⟩ (by simp [box2])
  exact h3.below hb2 hz1
 have HE := Lib.hid (int_end (i := sgn neg x * sgn neg2 y) (by rw [← sgn_mul']; exact h2) hc2 hN2 (w := w) (hB.trans (Below.mono ⟨hb1.os, hb1.tape, hb1.output, hb1.size, hb1.block⟩ hB.size)) hb2 (by omega))
 clear hN2 hcl hcl2 hfr2 hfr
 go_wp2_with fail
 refine bodyPost_ret (v := .agg #[.bool (ineg (sgn neg x * sgn neg2 y)), .slice A2 n2 c2]) (by simp [results, Tryz.results227, go_sem, k0, k1, sgn_mul']) rfl ?_
 rw [sgn_mul']
 exact HE.out
end
section
open Go.RowKit
open Go.Lib hiding intOf
set_option maxRecDepth 100000 in
theorem jof_pos (n : Nat) (w : World) (hn : n ≤ 1000) : Calls Tryz.prog 250 #[.int .i64 (n : Int)] w (RetZ (n : Int) w) := by
 have hB : Below w.heap.size w (w.alloc (.cells #[.bool false, .slice none 0 0] 123)) := (Below.refl _ _).alloc (Nat.le_refl _) _
 have hN0 := NoU.new w #[.bool false, .slice none 0 0] 123 (by simp)
 have hwn : IntKind.u64.wrap (n : Int) = (n : Int) := by rw [IntKind.wrap_u64]; omega
 go_enter Tryz.func250, Tryz.ntmps250
 go_wp2_with (go_at_call 253; go_must ((refine (rf_of n _ (by omega)).mono ?_); rintro e w1 ⟨A1, n1, c1, rfl, h1, hc1, hb1⟩; obtain ⟨hcl, hfr⟩ := bcell hb1))
 refine bodyPost_ret (v := .agg #[.bool false, .slice A1 n1 c1]) (by simp [results, Tryz.results250, go_sem, hcl]) rfl ?_
 have h := int_end (i := (n : Int)) (by simpa using h1) hc1 (hN0.below hb1 (by simp)) hB hb1
 have e : ineg (n : Int) = false := by simp [ineg]
 rw [e] at h
 simpa using h
end
section
open Go.RowKit
set_option maxRecDepth 100000 in
set_option maxHeartbeats 1600000 in
theorem kreduce_any (neg : Bool) (A : Option Addr) (n c x : Nat) (B : Option Addr) (m d y : Nat) (w : World) (ha : NatA w A n c x) (hb : NatA w B m d y) (hn : n ≤ 100000) (hm : m ≤ 100000) (hy : y ≠ 0) :
  Calls Tryz.prog 245 #[.bool neg, .slice A n c, .slice B m d] w (RetQ (rv (sgn neg x) y) w) := by
 have t1 := ha.trimmed.1
 have t2 := hb.trimmed.1
 have HA := Lib.hid (And.intro ha hb); clear ha hb
 have hB : Below w.heap.size w (w.alloc (.cells #[.bool false, .slice none 0 0, .slice none 0 0] 125)) := (Below.refl _ _).alloc (Nat.le_refl _) _
 have hg0 : x.gcd y ≠ 0 := by have := gcd_pos' (a := x) hy; omega
 have hgy : nl (x.gcd y) ≤ 100000 := by
  have := nl_mono (Nat.gcd_le_right x (by omega : 0 < y))
  omega
 obtain ⟨r1, r2⟩ := rv_num (i := sgn neg x) (d := y) hy
 have r3 := rv_neg (i := sgn neg x) (d := y) hy
 rw [sgn_abs] at r1 r2 r3
 rw [ineg_div] at r3
 generalize hq : rv (sgn neg x) y = q at *
 have HQ := Lib.hid (And.intro r1 (And.intro r2 r3))
 clear r1 r2 r3 hq
 have Y0 : Blk (w.alloc (.cells #[.bool false, .slice none 0 0, .slice none 0 0] 125)) w.heap.size 125 #[.bool false, .slice none 0 0, .slice none 0 0] := Blk.new' _ _ _ rfl
 go_enter Tryz.func245, Tryz.ntmps245
 go_wp2_with fail
 refine (rf_gcd A B n m c d x y _ (HA.out.1.on hB) (HA.out.2.on hB) hn hm).mono ?_
 rintro e w1 ⟨G, gn, gc, rfl, hG, hgc, hb1⟩
 have B1 := hB.trans (hb1.mono hB.size)
 have Y1 := Y0.below hb1
 have hgn : gn ≤ 100000 := by rw [← hG.ulen]; exact hgy
 clear Y0 hb1 hB
 go_wp2_with fail
 refine (rf_divmod A G n gn c gc x (x.gcd y) _ (HA.out.1.on B1) (.of_limbs hG hgc) hn hgn hg0).mono ?_
 rintro e w2 ⟨A2, n2, c2, R2, rn2, rc2, rfl, h2, hc2, _, _, hb2⟩
 have hG2 := hG.on hb2
 have B2 := B1.trans (hb2.mono B1.size)
 have Y2 := Y1.below hb2
 clear hG B1 Y1 hb2
 go_wp2_with fail
 refine (rf_divmod B G m gn d gc y (x.gcd y) _ (HA.out.2.on B2) (.of_limbs hG2 hgc) hm hgn hg0).mono ?_
 rintro e w3 ⟨A3, n3, c3, R3, rn3, rc3, rfl, h3, hc3, _, _, hb3⟩
 have h2' := h2.on hb3
 have B3 := B2.trans (hb3.mono B2.size)
 have Y3 := Y2.below hb3
 have hn2 : n2 ≤ 1000000 := by
  have h := h2.ulen
  have h' : n2 = nl (x / x.gcd y) := h.symm
  have := nl_div x (x.gcd y)
  omega
 clear h2 hG2 B2 Y2 hb3
 go_wp2_with fail
 refine (jnorm_any neg A2 n2 c2 (x / x.gcd y) _ (.of_limbs h2' hc2) hn2).mono ?_
 rintro e w4 ⟨A4, n4, c4, rfl, h4, hc4, hb4⟩
 have h3' := h3.on hb4
 have B4 := B3.trans (hb4.mono B3.size)
 have Y4 := Y3.below hb4
 have f0 := Y4.c (i := 0) rfl
 have f1 := Y4.c (i := 1) rfl
 have f2 := Y4.c (i := 2) rfl
 have g0 := Y4.frozen 0
 have g1 := Y4.frozen 1
 have g2 := Y4.frozen 2
 clear h3 h2' B3 Y3 hb4
 have HF : Hid (RetQ q w (.returned (.agg #[.bool (ineg (sgn neg (x / x.gcd y))), .slice A4 n4 c4, .slice A3 n3 c3])) (((w4.setCell ⟨w.heap.size, 0, none⟩ (.bool (ineg (sgn neg (x / x.gcd y))))).setCell ⟨w.heap.size, 1, none⟩ (.slice A4 n4 c4)).setCell ⟨w.heap.size, 2, none⟩ (.slice A3 n3 c3))) := by
  have hN := NoU.blk Y4 (by simp)
  rw [sgn_abs] at h4
  exact ⟨A4, n4, c4, A3, n3, c3, by rw [HQ.out.2.2], by rw [HQ.out.1]; exact h4.no3 hN _, hc4, by rw [HQ.out.2.1]; exact h3'.no3 hN _, hc3, below3 B4 (by omega) _ _ _⟩
 clear h4 h3' B4 Y4
 go_wp2_with fail
 refine bodyPost_ret (v := .agg #[.bool (ineg (sgn neg (x / x.gcd y))), .slice A4 n4 c4, .slice A3 n3 c3]) (by simp [results, Tryz.results245, go_sem, f0, f1, f2]) rfl ?_
 exact HF.out
def wholeQ (i : Int) : Rat := rv i 1
theorem whole_num (i : Int) : (wholeQ i).num = i ∧ (wholeQ i).den = 1 := rv_one i
set_option maxRecDepth 100000 in
set_option maxHeartbeats 1600000 in
theorem kwhole_of (i : Int) (w : World) (H : ∀ W, Calls Tryz.prog 250 #[.int .i64 i] W (RetZ i W)) :
  Calls Tryz.prog 244 #[.int .i64 i] w (RetQ (wholeQ i) w) := by
 have H := Lib.hid H
 have hB : Below w.heap.size w (w.alloc (.cells #[.bool false, .slice none 0 0, .slice none 0 0] 125)) := (Below.refl _ _).alloc (Nat.le_refl _) _
 have Y0 : Blk (w.alloc (.cells #[.bool false, .slice none 0 0, .slice none 0 0] 125)) w.heap.size 125 #[.bool false, .slice none 0 0, .slice none 0 0] := Blk.new' _ _ _ rfl
 go_enter Tryz.func244, Tryz.ntmps244
 go_wp2_with fail
 refine (H.out _).mono ?_
 rintro e w1 ⟨A1, n1, c1, rfl, h1, hc1, hb1⟩
 have Y1 := Y0.below hb1
 have B1 := hB.trans (hb1.mono hB.size)
 clear Y0 hb1 hB
 go_wp2_with fail
 refine (rf_of 1 _ (by omega)).mono ?_
 rintro e w2 ⟨A2, n2, c2, rfl, h2, hc2, hb2⟩
 have Y2 := Y1.below hb2
 have B2 := B1.trans (hb2.mono B1.size)
 have h1' := h1.on hb2
 have f0 := Y2.c (i := 0) rfl
 have f1 := Y2.c (i := 1) rfl
 have f2 := Y2.c (i := 2) rfl
 have g0 := Y2.frozen 0
 have g1 := Y2.frozen 1
 have g2 := Y2.frozen 2
 have e1 := (whole_num i).1
 have e2 := (whole_num i).2
 have HF := rat_end (q := wholeQ i) (w := w) (by rw [e1]; exact h1') hc1 (by rw [e2]; exact h2) hc2 Y2 (by simp) B2 (Nat.le_refl _)
 rw [e1] at HF
 have HF := Lib.hid HF
 clear h1 h2 h1' Y1 Y2 B1 B2 hb2 e1 e2
 go_wp2_with fail
 refine bodyPost_ret (v := .agg #[.bool (ineg i), .slice A1 n1 c1, .slice A2 n2 c2]) (by simp [results, Tryz.results244, go_sem, f0, f1, f2]) rfl ?_
 exact HF.out
theorem kwhole_nat (n : Nat) (w : World) (hn : n ≤ 1000) : Calls Tryz.prog 244 #[.int .i64 (n : Int)] w (RetQ (wholeQ n) w) := kwhole_of _ w fun W => jof_pos n W hn
theorem rv_is_zero (neg : Bool) (x y : Nat) : (rv (sgn neg x) y = 0) ↔ (x = 0 ∨ y = 0) := by
 by_cases hy : y = 0
 ·subst hy; simp [rv_zero]
 ·rw [rv_eq_zero hy]
  constructor
  ·intro h
   left
   have := congrArg Int.natAbs h
   rwa [sgn_abs] at this
  ·rintro (h | h)
   ·subst h; cases neg <;> rfl
   ·exact absurd h hy
set_option maxRecDepth 100000 in
set_option maxHeartbeats 1600000 in
theorem kzero_any (v : Value) (k : Nat) (q : Rat) (w : World) (ha : RatA w v k q) (hk2 : k ≤ 100000) :
  Calls Tryz.prog 243 #[v] w fun e w' => e = .returned (.bool (decide (q = 0))) ∧ Below w.heap.size w w' := by
 obtain ⟨neg, A, n, c, B, m, d, x, y, rfl, h1, h2, h3, h4, h5⟩ := ha
 have HA := Lib.hid (And.intro h1 h2)
 have hz := rv_is_zero neg x y
 rw [h5] at hz
 have HZ := Lib.hid hz
 have hB : Below w.heap.size w (w.alloc (.cells #[.bool neg, .slice A n c, .slice B m d] 125)) := (Below.refl _ _).alloc (Nat.le_refl _) _
 have X0 := Blk.new w 125 #[.bool neg, .slice A n c, .slice B m d]
 clear h1 h2 hz h5
 by_cases hx : x = 0
 ·have HD : Hid (decide (q = 0) = true) := by rw [Hid, decide_eq_true_iff, HZ.out]; exact .inl hx
  go_enter Tryz.func243, Tryz.ntmps243
  go_wp2_with fail
  refine (rf_norm A n c x _ (HA.out.1.on hB) (by omega)).mono ?_
  rintro e w1 ⟨A1, n1, c1, rfl, hs1, hc1, _, hb1⟩
  obtain rfl : n1 = 0 := by rw [← hs1.ulen, hx, limbs_zero]; rfl
  clear hs1
  go_wp2_with fail
  go_ret
  exact ⟨by rw [HD.out]; rfl, hB.trans (hb1.mono hB.size)⟩
 ·have hxp := nl_pos hx
  go_enter Tryz.func243, Tryz.ntmps243
  go_wp2_with fail
  refine (rf_norm A n c x _ (HA.out.1.on hB) (by omega)).mono ?_
  rintro e w1 ⟨A1, n1, c1, rfl, hs1, hc1, _, hb1⟩
  have hn1 : n1 = nl x := hs1.ulen.symm
  have hp1 : ((n1 : Int) == 0) = false := by simp; omega
  have X1 := X0.below hb1
  have f2 := X1.c (i := 2) rfl
  have B1 := hB.trans (hb1.mono hB.size)
  clear hs1 X0 X1 hn1
  by_cases hy : y = 0
  ·have HD : Hid (decide (q = 0) = true) := by rw [Hid, decide_eq_true_iff, HZ.out]; exact .inr hy
   go_wp2_with fail
   refine (rf_norm B m d y _ (HA.out.2.on B1) (by omega)).mono ?_
   rintro e w2 ⟨A2, n2, c2, rfl, hs2, hc2, _, hb2⟩
   obtain rfl : n2 = 0 := by rw [← hs2.ulen, hy, limbs_zero]; rfl
   clear hs2
   go_wp2_with fail
   go_ret
   exact ⟨by rw [HD.out]; rfl, B1.trans (hb2.mono B1.size)⟩
  ·have HD : Hid (decide (q = 0) = false) := by
    rw [Hid, decide_eq_false_iff_not, HZ.out]
    rintro (h | h)
    ·exact hx h
    ·exact hy h
   have hyp := nl_pos hy
   go_wp2_with fail
   refine (rf_norm B m d y _ (HA.out.2.on B1) (by omega)).mono ?_
   rintro e w2 ⟨A2, n2, c2, rfl, hs2, hc2, _, hb2⟩
   have hn2 : n2 = nl y := hs2.ulen.symm
   have hp2 : ((n2 : Int) == 0) = false := by simp; omega
   clear hs2 hn2
   go_wp2_with fail
   go_ret
   exact ⟨by rw [HD.out]; rfl, B1.trans (hb2.mono B1.size)⟩
set_option maxRecDepth 100000 in
set_option maxHeartbeats 1600000 in
theorem knorm_any (v : Value) (k : Nat) (q : Rat) (w : World) (ha : RatA w v k q) (hk2 : k ≤ 100000) :
  Calls Tryz.prog 225 #[v] w (RetQ q w) := by
 have hz := fun W (hB : Below w.heap.size w W) => kzero_any v k q W (ha.on hB) hk2
 obtain ⟨neg, A, n, c, B, m, d, x, y, rfl, h1, h2, h3, h4, h5⟩ := ha
 have HA := Lib.hid (And.intro h1 h2)
 have hB : Below w.heap.size w ((w.alloc (.cells #[.bool neg, .slice A n c, .slice B m d] 125)).alloc (.cells #[.bool false, .slice none 0 0, .slice none 0 0] 125)) := ((Below.refl _ _).alloc (Nat.le_refl _) _).alloc (by simp) _
 have X0 : Blk ((w.alloc (.cells #[.bool neg, .slice A n c, .slice B m d] 125)).alloc (.cells #[.bool false, .slice none 0 0, .slice none 0 0] 125)) w.heap.size 125 #[.bool neg, .slice A n c, .slice B m d] := (Blk.new w _ _).alloc _
 have Y0 : Blk ((w.alloc (.cells #[.bool neg, .slice A n c, .slice B m d] 125)).alloc (.cells #[.bool false, .slice none 0 0, .slice none 0 0] 125)) (w.heap.size + 1) 125 #[.bool false, .slice none 0 0, .slice none 0 0] := Blk.new' _ _ _ (by simp)
 have HQ := Lib.hid h5
 clear h1 h2 h5
 by_cases hq : q = 0
 ·have hd : decide (q = 0) = true := by simpa using hq
  simp only [hd] at hz
  have HZ := Lib.hid hz
  clear hz hd
  go_enter Tryz.func225, Tryz.ntmps225
  go_wp2_with fail
  refine (HZ.out _ hB).mono ?_
  rintro e w1 ⟨rfl, hb1⟩
  have Y1 := Y0.below hb1
  have B1 := hB.trans (hb1.mono hB.size)
  clear X0 Y0 hb1 hB
  go_wp2_with fail
  refine (kwhole_nat 0 _ (by omega)).mono ?_
  rintro e w2 ⟨A2, n2, c2, B2, m2, d2, rfl, r1, r2, r3, r4, hb2⟩
  have e0 : wholeQ ((0 : Nat) : Int) = q := by rw [hq]; rfl
  rw [e0] at r1 r3 ⊢
  have Y2 := Y1.below hb2
  have HF := Lib.hid (rat_end r1 r2 r3 r4 Y2 (by simp) (B1.trans (hb2.mono B1.size)) (by omega))
  have k0 := Y2.c (i := 0) rfl
  have k1 := Y2.c (i := 1) rfl
  have k2 := Y2.c (i := 2) rfl
  have y0 := Y2.frozen 0
  have y1 := Y2.frozen 1
  have y2 := Y2.frozen 2
  clear r1 r3 Y1 Y2 B1 hb2 hq e0
  go_wp2_with fail
  refine bodyPost_ret (v := .agg #[.bool (ineg q.num), .slice A2 n2 c2, .slice B2 m2 d2]) (by simp [results, Tryz.results225, go_sem, k0, k1, k2]) rfl ?_
  exact HF.out
 ·have hd : decide (q = 0) = false := by simpa using hq
  simp only [hd] at hz
  have HZ := Lib.hid hz
  have hy : y ≠ 0 := by
   intro e
   apply hq
   rw [← HQ.out]
   exact (rv_is_zero neg x y).2 (.inr e)
  clear hz hd
  go_enter Tryz.func225, Tryz.ntmps225
  go_wp2_with fail
  refine (HZ.out _ hB).mono ?_
  rintro e w1 ⟨rfl, hb1⟩
  have X1 := X0.below hb1
  have Y1 := Y0.below hb1
  have B1 := hB.trans (hb1.mono hB.size)
  have f0 := X1.c (i := 0) rfl
  have f1 := X1.c (i := 1) rfl
  have f2 := X1.c (i := 2) rfl
  have HR := kreduce_any neg A n c x B m d y w1 (HA.out.1.on B1) (HA.out.2.on B1) (by omega) (by omega) hy
  rw [HQ.out] at HR
  have HR := Lib.hid HR
  clear X0 Y0 hb1 hB hq X1
  go_wp2_with fail
  refine HR.out.mono ?_
  rintro e w2 ⟨A2, n2, c2, B2, m2, d2, rfl, r1, r2, r3, r4, hb2⟩
  have Y2 := Y1.below hb2
  have HF := Lib.hid (rat_end r1 r2 r3 r4 Y2 (by simp) (B1.trans (hb2.mono B1.size)) (by omega))
  have k0 := Y2.c (i := 0) rfl
  have k1 := Y2.c (i := 1) rfl
  have k2 := Y2.c (i := 2) rfl
  have y0 := Y2.frozen 0
  have y1 := Y2.frozen 1
  have y2 := Y2.frozen 2
  clear r1 r3 Y1 Y2 B1 hb2
  go_wp2_with fail
  refine bodyPost_ret (v := .agg #[.bool (ineg q.num), .slice A2 n2 c2, .slice B2 m2 d2]) (by simp [results, Tryz.results225, go_sem, k0, k1, k2]) rfl ?_
  exact HF.out
end
section
open Go.RowKit
theorem Below.sto {X W : World} (h : Below X.heap.size X W) {g i : Nat} (hg : X.heap.size ≤ g) (u : Value) : Below X.heap.size X (W.setCell ⟨g, i, none⟩ u) := h.setCell (p := ⟨g, i, none⟩) hg u
theorem Sl.alo {W : World} {A : Option Addr} {n : Nat} {xs : List Value} (h : Sl W W.heap.size A n xs) (o : Obj) : Sl (W.alloc o) (W.alloc o).heap.size A n xs := h.on ((Below.refl _ _).alloc (Nat.le_refl _) _)
end
end Go.Proofs.YtiibocdmlfedkaaGreatDoor
