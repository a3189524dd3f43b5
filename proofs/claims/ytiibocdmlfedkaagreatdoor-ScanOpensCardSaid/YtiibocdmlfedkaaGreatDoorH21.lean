/- Parts of the proof. -/
import Derived.Test.YtiibocdmlfedkaaGreatDoorH04
import Derived.Test.YtiibocdmlfedkaaGreatDoorH19
namespace Go.Proofs.YtiibocdmlfedkaaGreatDoor
section
open Go.RowKit
theorem box3 (w : World) (a b c : Pt) : Below w.heap.size w (((w.alloc (.cells #[.int .i64 a.1, .int .i64 a.2] 74)).alloc (.cells #[.int .i64 b.1, .int .i64 b.2] 74)).alloc (.cells #[.int .i64 c.1, .int .i64 c.2] 74)) :=
 (((Below.refl _ _).alloc (Nat.le_refl _) _).alloc (by simp) _).alloc (by simp; omega) _
theorem box4 (w : World) (a b c d : Pt) : Below w.heap.size w ((((w.alloc (.cells #[.int .i64 a.1, .int .i64 a.2] 74)).alloc (.cells #[.int .i64 b.1, .int .i64 b.2] 74)).alloc (.cells #[.int .i64 c.1, .int .i64 c.2] 74)).alloc (.cells #[.int .i64 d.1, .int .i64 d.2] 74)) :=
 (box3 w a b c).trans ((Below.refl _ _).alloc (by simp; omega) _)
set_option maxRecDepth 100000 in
set_option maxHeartbeats 1600000 in
theorem cross_any (a b c : Pt) (w : World) (ha : inG a) (hb : inG b) (hc : inG c) :
  Calls Tryz.prog 232 #[.agg #[.int .i64 a.1, .int .i64 a.2], .agg #[.int .i64 b.1, .int .i64 b.2], .agg #[.int .i64 c.1, .int .i64 c.2]] w fun e w' => e = .returned (.int .i64 (crossP a b c)) ∧ Below w.heap.size w w' := by
 have HB := Lib.hid (box3 w a b c)
 have hx := cross_in ha hb hc
 have HE : Hid (crossP a b c = (b.1 - a.1) * (c.2 - a.2) - (b.2 - a.2) * (c.1 - a.1)) := rfl
 obtain ⟨a1, a2⟩ := a
 obtain ⟨b1, b2⟩ := b
 obtain ⟨c1, c2⟩ := c
 obtain ⟨q1, q2, q3, q4⟩ := ha
 obtain ⟨q5, q6, q7, q8⟩ := hb
 obtain ⟨q9, q10, q11, q12⟩ := hc
 obtain ⟨⟨x1, x2⟩, x3, x4⟩ := hx
 simp only at *
 go_enter Tryz.func232, Tryz.ntmps232
 go_wp2
 go_ret
 exact ⟨by rw [HE.out]; rfl, HB.out⟩
set_option maxRecDepth 100000 in
set_option maxHeartbeats 3200000 in
theorem pon_any (a b p : Pt) (w : World) (ha : inG a) (hb : inG b) (hc : inG p) :
  Calls Tryz.prog 233 #[.agg #[.int .i64 a.1, .int .i64 a.2], .agg #[.int .i64 b.1, .int .i64 b.2], .agg #[.int .i64 p.1, .int .i64 p.2]] w fun e w' => e = .returned (.bool (onP a b p)) ∧ Below w.heap.size w w' := by
 have HB := Lib.hid (box3 w a b p)
 have HC := Lib.hid (fun W => cross_any a b p W ha hb hc)
 clear ha hb hc
 obtain ⟨x, hx⟩ : ∃ x, crossP a b p = x := ⟨_, rfl⟩
 simp only [hx] at HC
 have HX := Lib.hid hx
 have HD : Hid (onP a b p = (decide (x = 0) && (decide (min a.1 b.1 ≤ p.1) && (decide (p.1 ≤ max a.1 b.1) && (decide (min a.2 b.2 ≤ p.2) && decide (p.2 ≤ max a.2 b.2)))))) := by rw [Hid, onP, hx]
 clear hx
 by_cases h0 : x = 0
 ·subst h0
  by_cases h1 : min a.1 b.1 ≤ p.1
  ·skip
   by_cases h2 : p.1 ≤ max a.1 b.1
   ·skip
    by_cases h3 : min a.2 b.2 ≤ p.2
    ·skip
     have HF : Hid (onP a b p = decide (p.2 ≤ max a.2 b.2)) := by rw [Hid, HD.out, decide_eq_true h1, decide_eq_true h2, decide_eq_true h3]; rfl
     go_enter Tryz.func233, Tryz.ntmps233
     go_wp2_with (go_at_call 232; refine (HC.out _).mono ?_; rintro e w' ⟨rfl, hb'⟩; obtain ⟨hcl, hfr⟩ := bcell hb'; have HB' := Lib.hid hb'; clear hb')
     go_ret
     exact ⟨by rw [HF.out]; rfl, HB.out.trans (HB'.out.mono HB.out.size)⟩
    ·have HF : Hid (onP a b p = false) := by rw [Hid, HD.out, decide_eq_true h1, decide_eq_true h2, decide_eq_false h3]; rfl
     go_enter Tryz.func233, Tryz.ntmps233
     go_wp2_with (go_at_call 232; refine (HC.out _).mono ?_; rintro e w' ⟨rfl, hb'⟩; obtain ⟨hcl, hfr⟩ := bcell hb'; have HB' := Lib.hid hb'; clear hb')
     go_ret
     exact ⟨by rw [HF.out]; rfl, HB.out.trans (HB'.out.mono HB.out.size)⟩
   ·have HF : Hid (onP a b p = false) := by rw [Hid, HD.out, decide_eq_true h1, decide_eq_false h2]; rfl
    go_enter Tryz.func233, Tryz.ntmps233
    go_wp2_with (go_at_call 232; refine (HC.out _).mono ?_; rintro e w' ⟨rfl, hb'⟩; obtain ⟨hcl, hfr⟩ := bcell hb'; have HB' := Lib.hid hb'; clear hb')
    go_ret
    exact ⟨by rw [HF.out]; rfl, HB.out.trans (HB'.out.mono HB.out.size)⟩
  ·have HF : Hid (onP a b p = false) := by rw [Hid, HD.out, decide_eq_false h1]; rfl
   go_enter Tryz.func233, Tryz.ntmps233
   go_wp2_with (go_at_call 232; refine (HC.out _).mono ?_; rintro e w' ⟨rfl, hb'⟩; obtain ⟨hcl, hfr⟩ := bcell hb'; have HB' := Lib.hid hb'; clear hb')
   go_ret
   exact ⟨by rw [HF.out]; rfl, HB.out.trans (HB'.out.mono HB.out.size)⟩
 ·have HF : Hid (onP a b p = false) := by rw [Hid, HD.out, decide_eq_false h0]; rfl
  have h0' : (x == 0) = false := by simpa using h0
  clear h0
  go_enter Tryz.func233, Tryz.ntmps233
  go_wp2_with (go_at_call 232; refine (HC.out _).mono ?_; rintro e w' ⟨rfl, hb'⟩; obtain ⟨hcl, hfr⟩ := bcell hb'; have HB' := Lib.hid hb'; clear hb')
  go_ret
  exact ⟨by rw [HF.out]; rfl, HB.out.trans (HB'.out.mono HB.out.size)⟩
theorem box_keep4 {w w' : World} {a b c d : Pt} (h : Below ((((w.alloc (.cells #[.int .i64 a.1, .int .i64 a.2] 74)).alloc (.cells #[.int .i64 b.1, .int .i64 b.2] 74)).alloc (.cells #[.int .i64 c.1, .int .i64 c.2] 74)).alloc (.cells #[.int .i64 d.1, .int .i64 d.2] 74)).heap.size ((((w.alloc (.cells #[.int .i64 a.1, .int .i64 a.2] 74)).alloc (.cells #[.int .i64 b.1, .int .i64 b.2] 74)).alloc (.cells #[.int .i64 c.1, .int .i64 c.2] 74)).alloc (.cells #[.int .i64 d.1, .int .i64 d.2] 74)) w') :
  (w'.cell? ⟨w.heap.size, 0, none⟩ = some (.int .i64 a.1) ∧ w'.cell? ⟨w.heap.size, 1, none⟩ = some (.int .i64 a.2)) ∧ (w'.cell? ⟨w.heap.size + 1, 0, none⟩ = some (.int .i64 b.1) ∧ w'.cell? ⟨w.heap.size + 1, 1, none⟩ = some (.int .i64 b.2)) ∧ (w'.cell? ⟨w.heap.size + 1 + 1, 0, none⟩ = some (.int .i64 c.1) ∧ w'.cell? ⟨w.heap.size + 1 + 1, 1, none⟩ = some (.int .i64 c.2)) ∧ (w'.cell? ⟨w.heap.size + 1 + 1 + 1, 0, none⟩ = some (.int .i64 d.1) ∧ w'.cell? ⟨w.heap.size + 1 + 1 + 1, 1, none⟩ = some (.int .i64 d.2)) := by
 have X1 := ((((Blk.new w 74 #[.int .i64 a.1, .int .i64 a.2]).alloc (.cells #[.int .i64 b.1, .int .i64 b.2] 74)).alloc (.cells #[.int .i64 c.1, .int .i64 c.2] 74)).alloc (.cells #[.int .i64 d.1, .int .i64 d.2] 74)).below h
 have X2 := (((Blk.new' (w.alloc (.cells #[.int .i64 a.1, .int .i64 a.2] 74)) 74 #[.int .i64 b.1, .int .i64 b.2] (g := w.heap.size + 1) (by simp)).alloc (.cells #[.int .i64 c.1, .int .i64 c.2] 74)).alloc (.cells #[.int .i64 d.1, .int .i64 d.2] 74)).below h
 have X3 := ((Blk.new' ((w.alloc (.cells #[.int .i64 a.1, .int .i64 a.2] 74)).alloc (.cells #[.int .i64 b.1, .int .i64 b.2] 74)) 74 #[.int .i64 c.1, .int .i64 c.2] (g := w.heap.size + 1 + 1) (by simp)).alloc (.cells #[.int .i64 d.1, .int .i64 d.2] 74)).below h
 have X4 := (Blk.new' (((w.alloc (.cells #[.int .i64 a.1, .int .i64 a.2] 74)).alloc (.cells #[.int .i64 b.1, .int .i64 b.2] 74)).alloc (.cells #[.int .i64 c.1, .int .i64 c.2] 74)) 74 #[.int .i64 d.1, .int .i64 d.2] (g := w.heap.size + 1 + 1 + 1) (by simp)).below h
 exact ⟨⟨X1.c rfl, X1.c rfl⟩, ⟨X2.c rfl, X2.c rfl⟩, ⟨X3.c rfl, X3.c rfl⟩, X4.c rfl, X4.c rfl⟩
theorem cmp0_in (x : Int) : -1 ≤ cmp0 x ∧ cmp0 x ≤ 1 := by
 unfold cmp0
 split
 ·omega
 ·split <;> omega
theorem cmp0_mul (x y : Int) : IntKind.i64.wrap (cmp0 x * cmp0 y) = cmp0 x * cmp0 y := by
 have h := mul_in (a := 1) (b := 1) (x := cmp0 x) (y := cmp0 y) (cmp0_in x) (cmp0_in y)
 exact IntWalk.i64_in _ (by omega)
set_option maxRecDepth 100000 in
set_option maxHeartbeats 3200000 in
theorem parted_any (a b c d : Pt) (w : World) (ha : inG a) (hb : inG b) (hc : inG c) (hd : inG d) :
  Calls Tryz.prog 234 #[.agg #[.int .i64 a.1, .int .i64 a.2], .agg #[.int .i64 b.1, .int .i64 b.2], .agg #[.int .i64 c.1, .int .i64 c.2], .agg #[.int .i64 d.1, .int .i64 d.2]] w fun e w' => e = .returned (.bool (partedP a b c d)) ∧ Below w.heap.size w w' := by
 have HB := Lib.hid (box4 w a b c d)
 have HK := fun w' => Lib.hid (@box_keep4 w w' a b c d)
 have HC := Lib.hid (fun W => cross_any a b c W ha hb hc)
 have HD := Lib.hid (fun W => cross_any a b d W ha hb hd)
 have HP : Hid (partedP a b c d = decide (cmp0 (crossP a b c) * cmp0 (crossP a b d) < 0)) := rfl
 have hm := cmp0_mul (crossP a b c) (crossP a b d)
 generalize crossP a b c = x at *
 generalize crossP a b d = y at *
 have HX : Hid (∀ W, Calls Tryz.prog 198 #[.int .i64 x, .int .i64 0] W fun e w' => e = .returned (.int .i64 (cmp0 x)) ∧ W = w') := fun W => (Tryz.cmp_Compare_int x 0 W).mono fun _ _ h => ⟨h.1, h.2.symm⟩
 have HY : Hid (∀ W, Calls Tryz.prog 198 #[.int .i64 y, .int .i64 0] W fun e w' => e = .returned (.int .i64 (cmp0 y)) ∧ W = w') := fun W => (Tryz.cmp_Compare_int y 0 W).mono fun _ _ h => ⟨h.1, h.2.symm⟩
 generalize cmp0 x = u at *
 generalize cmp0 y = v at *
 clear ha hb hc hd
 go_enter Tryz.func234, Tryz.ntmps234
 go_wp2_with fail
 have hu := Below.refl ((((w.alloc (.cells #[.int .i64 a.1, .int .i64 a.2] 74)).alloc (.cells #[.int .i64 b.1, .int .i64 b.2] 74)).alloc (.cells #[.int .i64 c.1, .int .i64 c.2] 74)).alloc (.cells #[.int .i64 d.1, .int .i64 d.2] 74)).heap.size ((((w.alloc (.cells #[.int .i64 a.1, .int .i64 a.2] 74)).alloc (.cells #[.int .i64 b.1, .int .i64 b.2] 74)).alloc (.cells #[.int .i64 c.1, .int .i64 c.2] 74)).alloc (.cells #[.int .i64 d.1, .int .i64 d.2] 74))
 go_region_held3 (fun w' => (w'.cell? ⟨w.heap.size, 0, none⟩ = some (.int .i64 a.1) ∧ w'.cell? ⟨w.heap.size, 1, none⟩ = some (.int .i64 a.2)) ∧ (w'.cell? ⟨w.heap.size + 1, 0, none⟩ = some (.int .i64 b.1) ∧ w'.cell? ⟨w.heap.size + 1, 1, none⟩ = some (.int .i64 b.2)) ∧ (w'.cell? ⟨w.heap.size + 1 + 1, 0, none⟩ = some (.int .i64 c.1) ∧ w'.cell? ⟨w.heap.size + 1 + 1, 1, none⟩ = some (.int .i64 c.2)) ∧ (w'.cell? ⟨w.heap.size + 1 + 1 + 1, 0, none⟩ = some (.int .i64 d.1) ∧ w'.cell? ⟨w.heap.size + 1 + 1 + 1, 1, none⟩ = some (.int .i64 d.2)))
  ((refine box_keep4 ?_; repeat (first | (with_reducible exact Below.refl _ _) | (with_reducible exact hu) | (with_reducible refine Below.drew ?_))))
  (first
   | (go_at_call 232; go_must ((first | (with_reducible refine (HC.out _).mono ?_) | (with_reducible refine (HD.out _).mono ?_)); rintro e w1 ⟨rfl, hv⟩; replace hu := below_then hu hv; clear hv))
   | (go_at_call 198; go_must ((first | (with_reducible refine (HX.out _).mono ?_) | (with_reducible refine (HY.out _).mono ?_)); rintro e w1 ⟨rfl, rfl⟩)))
 all_goals
  go_wp2_with fail
  go_ret
  exact ⟨by rw [HP.out]; rfl, HB.out.trans (hu.mono HB.out.size)⟩
end
section
open Go.RowKit
theorem fold_in {a b c : Pt} (ha : inG a) (hb : inG b) (hc : inG c) : (-4398046511104 ≤ (a.1 - b.1) * (c.1 - b.1) ∧ (a.1 - b.1) * (c.1 - b.1) ≤ 4398046511104) ∧ (-4398046511104 ≤ (a.2 - b.2) * (c.2 - b.2) ∧ (a.2 - b.2) * (c.2 - b.2) ≤ 4398046511104) := by
 obtain ⟨a1, a2, a3, a4⟩ := ha
 obtain ⟨b1, b2, b3, b4⟩ := hb
 obtain ⟨c1, c2, c3, c4⟩ := hc
 exact ⟨mul_in (a := 2097152) (b := 2097152) ⟨by omega, by omega⟩ ⟨by omega, by omega⟩, mul_in (a := 2097152) (b := 2097152) ⟨by omega, by omega⟩ ⟨by omega, by omega⟩⟩
set_option maxRecDepth 100000 in
set_option maxHeartbeats 6400000 in
theorem meet_any (a b c d : Pt) (w : World) (ha : inG a) (hb : inG b) (hc : inG c) (hd : inG d) :
  Calls Tryz.prog 213 #[.agg #[.int .i64 a.1, .int .i64 a.2], .agg #[.int .i64 b.1, .int .i64 b.2], .agg #[.int .i64 c.1, .int .i64 c.2], .agg #[.int .i64 d.1, .int .i64 d.2]] w fun e w' => e = .returned (.bool (meetP a b c d)) ∧ Below w.heap.size w w' := by
 have HB := Lib.hid (box4 w a b c d)
 have H1 := fun W => pon_any a b c W ha hb hc
 have H2 := fun W => pon_any a b d W ha hb hd
 have H3 := fun W => pon_any c d a W hc hd ha
 have H4 := fun W => pon_any c d b W hc hd hb
 have H5 := fun W => parted_any a b c d W ha hb hc hd
 have H6 := fun W => parted_any c d a b W hc hd ha hb
 have HE : Hid (meetP a b c d = (onP a b c || (onP a b d || (onP c d a || (onP c d b || (partedP a b c d && partedP c d a b)))))) := rfl
 generalize onP a b c = m1 at *
 generalize onP a b d = m2 at *
 generalize onP c d a = m3 at *
 generalize onP c d b = m4 at *
 generalize partedP a b c d = m5 at *
 generalize partedP c d a b = m6 at *
 have hu := Lib.hid (Below.refl ((((w.alloc (.cells #[.int .i64 a.1, .int .i64 a.2] 74)).alloc (.cells #[.int .i64 b.1, .int .i64 b.2] 74)).alloc (.cells #[.int .i64 c.1, .int .i64 c.2] 74)).alloc (.cells #[.int .i64 d.1, .int .i64 d.2] 74)).heap.size ((((w.alloc (.cells #[.int .i64 a.1, .int .i64 a.2] 74)).alloc (.cells #[.int .i64 b.1, .int .i64 b.2] 74)).alloc (.cells #[.int .i64 c.1, .int .i64 c.2] 74)).alloc (.cells #[.int .i64 d.1, .int .i64 d.2] 74)))
 clear ha hb hc hd
 cases m1
 ·skip
  cases m2
  ·skip
   cases m3
   ·skip
    cases m4
    ·skip
     cases m5
     ·skip
      have H1 := Lib.hid H1
      have H2 := Lib.hid H2
      have H3 := Lib.hid H3
      have H4 := Lib.hid H4
      have H5 := Lib.hid H5
      have H6 := Lib.hid H6
      go_enter Tryz.func213, Tryz.ntmps213
      go_wp2_with (first
       | (go_at_call 233; (first | (with_reducible refine (H1.out _).mono ?_) | (with_reducible refine (H2.out _).mono ?_) | (with_reducible refine (H3.out _).mono ?_) | (with_reducible refine (H4.out _).mono ?_)); rintro e w1 ⟨rfl, hv⟩; replace hu := Lib.hid (below_then hu.out hv); clear hv; obtain ⟨⟨p0, p1⟩, ⟨p2, p3⟩, ⟨p4, p5⟩, p6, p7⟩ := box_keep4 hu.out)
       | (go_at_call 234; (first | (with_reducible refine (H5.out _).mono ?_) | (with_reducible refine (H6.out _).mono ?_)); rintro e w1 ⟨rfl, hv⟩; replace hu := Lib.hid (below_then hu.out hv); clear hv; obtain ⟨⟨p0, p1⟩, ⟨p2, p3⟩, ⟨p4, p5⟩, p6, p7⟩ := box_keep4 hu.out))
      go_ret
      exact ⟨by rw [HE.out]; rfl, HB.out.trans (hu.out.mono HB.out.size)⟩
     ·skip
      have H1 := Lib.hid H1
      have H2 := Lib.hid H2
      have H3 := Lib.hid H3
      have H4 := Lib.hid H4
      have H5 := Lib.hid H5
      have H6 := Lib.hid H6
      go_enter Tryz.func213, Tryz.ntmps213
      go_wp2_with (first
       | (go_at_call 233; (first | (with_reducible refine (H1.out _).mono ?_) | (with_reducible refine (H2.out _).mono ?_) | (with_reducible refine (H3.out _).mono ?_) | (with_reducible refine (H4.out _).mono ?_)); rintro e w1 ⟨rfl, hv⟩; replace hu := Lib.hid (below_then hu.out hv); clear hv; obtain ⟨⟨p0, p1⟩, ⟨p2, p3⟩, ⟨p4, p5⟩, p6, p7⟩ := box_keep4 hu.out)
       | (go_at_call 234; (first | (with_reducible refine (H5.out _).mono ?_) | (with_reducible refine (H6.out _).mono ?_)); rintro e w1 ⟨rfl, hv⟩; replace hu := Lib.hid (below_then hu.out hv); clear hv; obtain ⟨⟨p0, p1⟩, ⟨p2, p3⟩, ⟨p4, p5⟩, p6, p7⟩ := box_keep4 hu.out))
      go_ret
      exact ⟨by rw [HE.out]; rfl, HB.out.trans (hu.out.mono HB.out.size)⟩
    ·skip
     have H1 := Lib.hid H1
     have H2 := Lib.hid H2
     have H3 := Lib.hid H3
     have H4 := Lib.hid H4
     have H5 := Lib.hid H5
     have H6 := Lib.hid H6
     go_enter Tryz.func213, Tryz.ntmps213
     go_wp2_with (first
      | (go_at_call 233; (first | (with_reducible refine (H1.out _).mono ?_) | (with_reducible refine (H2.out _).mono ?_) | (with_reducible refine (H3.out _).mono ?_) | (with_reducible refine (H4.out _).mono ?_)); rintro e w1 ⟨rfl, hv⟩; replace hu := Lib.hid (below_then hu.out hv); clear hv; obtain ⟨⟨p0, p1⟩, ⟨p2, p3⟩, ⟨p4, p5⟩, p6, p7⟩ := box_keep4 hu.out)
      | (go_at_call 234; (first | (with_reducible refine (H5.out _).mono ?_) | (with_reducible refine (H6.out _).mono ?_)); rintro e w1 ⟨rfl, hv⟩; replace hu := Lib.hid (below_then hu.out hv); clear hv; obtain ⟨⟨p0, p1⟩, ⟨p2, p3⟩, ⟨p4, p5⟩, p6, p7⟩ := box_keep4 hu.out))
     go_ret
     exact ⟨by rw [HE.out]; rfl, HB.out.trans (hu.out.mono HB.out.size)⟩
   ·skip
    have H1 := Lib.hid H1
    have H2 := Lib.hid H2
    have H3 := Lib.hid H3
    have H4 := Lib.hid H4
    have H5 := Lib.hid H5
    have H6 := Lib.hid H6
    go_enter Tryz.func213, Tryz.ntmps213
    go_wp2_with (first
     | (go_at_call 233; (first | (with_reducible refine (H1.out _).mono ?_) | (with_reducible refine (H2.out _).mono ?_) | (with_reducible refine (H3.out _).mono ?_) | (with_reducible refine (H4.out _).mono ?_)); rintro e w1 ⟨rfl, hv⟩; replace hu := Lib.hid (below_then hu.out hv); clear hv; obtain ⟨⟨p0, p1⟩, ⟨p2, p3⟩, ⟨p4, p5⟩, p6, p7⟩ := box_keep4 hu.out)
     | (go_at_call 234; (first | (with_reducible refine (H5.out _).mono ?_) | (with_reducible refine (H6.out _).mono ?_)); rintro e w1 ⟨rfl, hv⟩; replace hu := Lib.hid (below_then hu.out hv); clear hv; obtain ⟨⟨p0, p1⟩, ⟨p2, p3⟩, ⟨p4, p5⟩, p6, p7⟩ := box_keep4 hu.out))
    go_ret
    exact ⟨by rw [HE.out]; rfl, HB.out.trans (hu.out.mono HB.out.size)⟩
  ·skip
   have H1 := Lib.hid H1
   have H2 := Lib.hid H2
   have H3 := Lib.hid H3
   have H4 := Lib.hid H4
   have H5 := Lib.hid H5
   have H6 := Lib.hid H6
   go_enter Tryz.func213, Tryz.ntmps213
   go_wp2_with (first
    | (go_at_call 233; (first | (with_reducible refine (H1.out _).mono ?_) | (with_reducible refine (H2.out _).mono ?_) | (with_reducible refine (H3.out _).mono ?_) | (with_reducible refine (H4.out _).mono ?_)); rintro e w1 ⟨rfl, hv⟩; replace hu := Lib.hid (below_then hu.out hv); clear hv; obtain ⟨⟨p0, p1⟩, ⟨p2, p3⟩, ⟨p4, p5⟩, p6, p7⟩ := box_keep4 hu.out)
    | (go_at_call 234; (first | (with_reducible refine (H5.out _).mono ?_) | (with_reducible refine (H6.out _).mono ?_)); rintro e w1 ⟨rfl, hv⟩; replace hu := Lib.hid (below_then hu.out hv); clear hv; obtain ⟨⟨p0, p1⟩, ⟨p2, p3⟩, ⟨p4, p5⟩, p6, p7⟩ := box_keep4 hu.out))
   go_ret
   exact ⟨by rw [HE.out]; rfl, HB.out.trans (hu.out.mono HB.out.size)⟩
 ·skip
  have H1 := Lib.hid H1
  have H2 := Lib.hid H2
  have H3 := Lib.hid H3
  have H4 := Lib.hid H4
  have H5 := Lib.hid H5
  have H6 := Lib.hid H6
  go_enter Tryz.func213, Tryz.ntmps213
  go_wp2_with (first
   | (go_at_call 233; (first | (with_reducible refine (H1.out _).mono ?_) | (with_reducible refine (H2.out _).mono ?_) | (with_reducible refine (H3.out _).mono ?_) | (with_reducible refine (H4.out _).mono ?_)); rintro e w1 ⟨rfl, hv⟩; replace hu := Lib.hid (below_then hu.out hv); clear hv; obtain ⟨⟨p0, p1⟩, ⟨p2, p3⟩, ⟨p4, p5⟩, p6, p7⟩ := box_keep4 hu.out)
   | (go_at_call 234; (first | (with_reducible refine (H5.out _).mono ?_) | (with_reducible refine (H6.out _).mono ?_)); rintro e w1 ⟨rfl, hv⟩; replace hu := Lib.hid (below_then hu.out hv); clear hv; obtain ⟨⟨p0, p1⟩, ⟨p2, p3⟩, ⟨p4, p5⟩, p6, p7⟩ := box_keep4 hu.out))
  go_ret
  exact ⟨by rw [HE.out]; rfl, HB.out.trans (hu.out.mono HB.out.size)⟩
set_option maxRecDepth 100000 in
set_option maxHeartbeats 3200000 in
theorem folded_any (a b c : Pt) (w : World) (ha : inG a) (hb : inG b) (hc : inG c) :
  Calls Tryz.prog 212 #[.agg #[.int .i64 a.1, .int .i64 a.2], .agg #[.int .i64 b.1, .int .i64 b.2], .agg #[.int .i64 c.1, .int .i64 c.2]] w fun e w' => e = .returned (.bool (foldedP a b c)) ∧ Below w.heap.size w w' := by
 have HB := Lib.hid (box3 w a b c)
 have HC := Lib.hid (fun W => cross_any a b c W ha hb hc)
 obtain ⟨x, hx⟩ : ∃ x, crossP a b c = x := ⟨_, rfl⟩
 simp only [hx] at HC
 have HD : Hid (foldedP a b c = (decide (x = 0) && decide (0 < (a.1 - b.1) * (c.1 - b.1) + (a.2 - b.2) * (c.2 - b.2)))) := by rw [Hid, foldedP, hx]
 have hp := fold_in ha hb hc
 clear hx
 obtain ⟨a1, a2⟩ := a
 obtain ⟨b1, b2⟩ := b
 obtain ⟨c1, c2⟩ := c
 obtain ⟨q1, q2, q3, q4⟩ := ha
 obtain ⟨q5, q6, q7, q8⟩ := hb
 obtain ⟨q9, q10, q11, q12⟩ := hc
 obtain ⟨⟨x1, x2⟩, x3, x4⟩ := hp
 simp only at *
 by_cases h0 : x = 0
 ·subst h0
  go_enter Tryz.func212, Tryz.ntmps212
  go_wp2_with (go_at_call 232; refine (HC.out _).mono ?_; rintro e w' ⟨rfl, hb'⟩; obtain ⟨hcl, hfr⟩ := bcell hb'; have HB' := Lib.hid hb'; clear hb')
  go_ret
  exact ⟨by rw [HD.out]; rfl, HB.out.trans (HB'.out.mono HB.out.size)⟩
 ·have HF : Hid (foldedP (a1, a2) (b1, b2) (c1, c2) = false) := by rw [Hid, HD.out, decide_eq_false h0]; rfl
  have h0' : (x == 0) = false := by simpa using h0
  clear h0
  go_enter Tryz.func212, Tryz.ntmps212
  go_wp2_with (go_at_call 232; refine (HC.out _).mono ?_; rintro e w' ⟨rfl, hb'⟩; obtain ⟨hcl, hfr⟩ := bcell hb'; have HB' := Lib.hid hb'; clear hb')
  go_ret
  exact ⟨by rw [HF.out]; rfl, HB.out.trans (HB'.out.mono HB.out.size)⟩
end
end Go.Proofs.YtiibocdmlfedkaaGreatDoor
