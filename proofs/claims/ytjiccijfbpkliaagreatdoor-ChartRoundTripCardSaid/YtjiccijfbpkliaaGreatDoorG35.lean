/-
  Several texts in one: garmentref18.SameTexts and sameSteps at equal lists. garmentref18.Same at equal charts in normal form.
-/
import Derived.Test.YtjiccijfbpkliaaGreatDoorG26
import Derived.Test.YtjiccijfbpkliaaGreatDoorG29

/- garmentref18.SameTexts and sameSteps at equal lists. -/
namespace Go.Proofs.YtjiccijfbpkliaaGreatDoor
open Go.RowKit
open Go.Lib hiding intOf

set_option maxRecDepth 100000 in
set_option maxHeartbeats 3200000 in
theorem samet_true (A : Option Addr) (n c : Nat) (B : Option Addr) (d : Nat) (zs : List ByteArray) (w : World) (ha : Sl w w.heap.size A n (strs zs)) (hb : Sl w w.heap.size B n (strs zs)) (hn : n ≤ 1000000) :
    Calls Tryz.prog 66 #[.slice A n c, .slice B n d] w fun e w' => e = .returned (.bool true) ∧ Below w.heap.size w w' := by
  have HA := Lib.hid (And.intro ha hb)
  clear ha hb
  go_enter Tryz.func66, Tryz.ntmps66
  go_wp2_with fail
  go_loopw [5] (fun i wr => ∃ k q : Nat, k ≤ n ∧ i = .int .i64 (k : Int) ∧ wr = w.drewN q) (fun i _ => n - (intOf i).toNat)
  case atStart => exact ⟨0, 0, Nat.zero_le _, rfl, rfl⟩
  case round =>
    obtain ⟨k, q, hk, rfl, rfl⟩ := hrel
    by_cases hlt : k < n
    · obtain ⟨b, off, x, rfl, hbw, hx, hxc⟩ := HA.out.1.str_ hlt
      obtain ⟨b2, off2, x2, rfl, hbw2, hx2, hxc2⟩ := HA.out.2.str_ hlt
      rw [hx] at hx2
      obtain rfl := Option.some.inj hx2
      have i1 : (0 : Int) ≤ (k : Int) := by omega
      have i2 : (k : Int) < (n : Int) := by omega
      have hq : (x.toList == x.toList) = true := by simp
      clear hx hx2
      go_wp2_with fail
      go_quiet (fail)
      go_wp2_with fail
      go_roundw
      case rel => exact ⟨k + 1, _, by omega, by go_num, rfl⟩
      case measure => simp [intOf]; omega
    · obtain rfl : k = n := by omega
      go_wp2_with fail
      go_ret
      exact ⟨rfl, below_of_drewN _ _ _⟩

set_option maxRecDepth 100000 in
set_option maxHeartbeats 3200000 in
theorem samest_true (A : Option Addr) (n c : Nat) (B : Option Addr) (d : Nat) (qs : List Rat) (w : World) (ha : RatsN w A n qs) (hb : RatsN w B n qs) (hq : ∀ q ∈ qs, qk q 100000) (hn : n ≤ 1000000) :
    Calls Tryz.prog 67 #[.slice A n c, .slice B n d] w fun e w' => e = .returned (.bool true) ∧ Below w.heap.size w w' := by
  have HA := Lib.hid (And.intro ha hb)
  have HQ := Lib.hid hq
  clear ha hb hq
  go_enter Tryz.func67, Tryz.ntmps67
  go_wp2_with fail
  go_loopw [5] (fun i wr => ∃ k : Nat, k ≤ n ∧ i = .int .i64 (k : Int) ∧ Below w.heap.size w wr) (fun i _ => n - (intOf i).toNat)
  case atStart => exact ⟨0, Nat.zero_le _, rfl, Below.refl _ _⟩
  case round =>
    obtain ⟨k, hk, rfl, hbel⟩ := hrel
    by_cases hlt : k < n
    · obtain ⟨b, off, t, rfl, hbw, hm, f1, f2, f3, hok⟩ := (HA.out.1.on hbel).at_ hlt
      obtain ⟨b2, off2, t2, rfl, hbw2, hm2, g1, g2, g3, hok2⟩ := (HA.out.2.on hbel).at_ hlt
      rw [hm] at hm2
      have hm2 := Option.some.inj hm2
      have hqk := HQ.out _ (List.mem_of_getElem? hm)
      obtain ⟨q, A1, n1, c1, B1, m1, d1⟩ := t
      obtain ⟨q2, A2, n2, c2, B2, m2, d2⟩ := t2
      simp only at hm2
      subst hm2
      have HS := Lib.hid (fun W (hW : Below wr.heap.size wr W) => same_true _ _ _ _ _ W ((LiesA.of (c := c1) (d := d1) hok.1 hok.2.2.1 hqk (Nat.le_refl _)).on hW) ((LiesA.of (c := c2) (d := d2) hok2.1 hok2.2.2.1 hqk (Nat.le_refl _)).on hW))
      have HB := Lib.hid hbel
      have i1 : (0 : Int) ≤ (k : Int) := by omega
      have i2 : (k : Int) < (n : Int) := by omega
      simp only at f1 f2 f3 g1 g2 g3
      clear hm hok hok2 hqk hbel
      go_wp2_with fail
      go_region_held3 (fun w' => w'.cell? ⟨b, off + k * 3, none⟩ = some (.bool (ineg q.num)) ∧ w'.cell? ⟨b, off + k * 3 + 1, none⟩ = some (.slice A1 n1 c1) ∧ w'.cell? ⟨b, off + k * 3 + 2, none⟩ = some (.slice B1 m1 d1) ∧ w'.cell? ⟨b2, off2 + k * 3, none⟩ = some (.bool (ineg q.num)) ∧ w'.cell? ⟨b2, off2 + k * 3 + 1, none⟩ = some (.slice A2 n2 c2) ∧ w'.cell? ⟨b2, off2 + k * 3 + 2, none⟩ = some (.slice B2 m2 d2))
        (go_keep)
        (first
         | (go_at_call 21; go_must ((go_fit (HS.out _ (Below.refl _ _).drew)); rintro e w4 ⟨rfl, hb4⟩; have HB4 := Lib.hid (show Below wr.heap.size wr w4 from ⟨hb4.os, hb4.tape, hb4.output, hb4.size, hb4.block⟩); obtain ⟨hcl, hfr⟩ := bcell HB4.out; clear hb4)))
      go_wp2_with fail
      go_roundw
      case rel => exact ⟨k + 1, by omega, by go_num, HB.out.trans (HB4.out.mono HB.out.size)⟩
      case measure => simp [intOf]; omega
    · obtain rfl : k = n := by omega
      have HB := Lib.hid hbel
      clear hbel
      go_wp2_with fail
      go_ret
      exact ⟨rfl, HB.out⟩
end Go.Proofs.YtjiccijfbpkliaaGreatDoor

/- garmentref18.Same at equal charts in normal form. -/
namespace Go.Proofs.YtjiccijfbpkliaaGreatDoor
open Go.RowKit
open Go.Lib hiding intOf
attribute [local go_sem ↓] Go.wp_at_zero Go.wp_at_succ

set_option maxRecDepth 100000 in
set_option maxHeartbeats 6400000 in
theorem samec_true (S : Option Addr) (n c : Nat) (R : Option Addr) (m d : Nat) (S2 : Option Addr) (c2 : Nat) (R2 : Option Addr) (d2 : Nat) (ch : PChart) (w : World) (a1 : Sl w w.heap.size S n (strs ch.sizes)) (a2 : RowsN w R m ch.rows) (b1 : Sl w w.heap.size S2 n (strs ch.sizes)) (b2 : RowsN w R2 m ch.rows)
    (hq : ∀ r ∈ ch.rows, qk r.base 100000 ∧ ∀ q ∈ r.steps, qk q 100000) (hn : n ≤ 1000000) (hm : m ≤ 1000000) (hst : ∀ r ∈ ch.rows, r.steps.length ≤ 1000000) :
    Calls Tryz.prog 29 #[.agg #[.slice S n c, .int .i64 ch.base, .slice R m d], .agg #[.slice S2 n c2, .int .i64 ch.base, .slice R2 m d2]] w fun e w' => e = .returned (.bool true) ∧ Below w.heap.size w w' := by
  have hB : Below w.heap.size w ((w.alloc (.cells #[.slice S n c, .int .i64 ch.base, .slice R m d] 25)).alloc (.cells #[.slice S2 n c2, .int .i64 ch.base, .slice R2 m d2] 25)) := Below.alo (Below.alo (Below.refl _ _) _) _
  have X0 := (Blk.new w 25 #[.slice S n c, .int .i64 ch.base, .slice R m d]).alloc (.cells #[.slice S2 n c2, .int .i64 ch.base, .slice R2 m d2] 25)
  have Y0 : Blk ((w.alloc (.cells #[.slice S n c, .int .i64 ch.base, .slice R m d] 25)).alloc (.cells #[.slice S2 n c2, .int .i64 ch.base, .slice R2 m d2] 25)) (w.heap.size + 1) 25 #[.slice S2 n c2, .int .i64 ch.base, .slice R2 m d2] := Blk.new' _ _ _ (by simp)
  have HX := Lib.hid X0
  have HY := Lib.hid Y0
  have HA := Lib.hid (And.intro (a2.on hB) (b2.on hB))
  have HSt := Lib.hid (samet_true S n c S2 c2 ch.sizes _ (a1.on hB) (b1.on hB) hn)
  have HQ := Lib.hid (And.intro hq hst)
  have HB := Lib.hid hB
  clear X0 Y0 a1 a2 b1 b2 hq hst hB
  go_enter Tryz.func29, Tryz.ntmps29
  go_wp2_with fail
  go_fit HSt.out
  rintro e w1 ⟨rfl, hb1⟩
  have HX1 := Lib.hid (HX.out.below hb1)
  have HY1 := Lib.hid (HY.out.below hb1)
  have HA1 := Lib.hid (And.intro (HA.out.1.on hb1) (HA.out.2.on hb1))
  have HB1 := Lib.hid (HB.out.trans (hb1.mono HB.out.size))
  clear hb1 HX HY HA HSt HB
  go_wp2_with fail
  go_loopw [5] (fun i wr => ∃ k : Nat, k ≤ m ∧ i = .int .i64 (k : Int) ∧ Below w1.heap.size w1 wr) (fun i _ => m - (intOf i).toNat)
  case atStart => exact ⟨0, Nat.zero_le _, rfl, Below.refl _ _⟩
  case round =>
    obtain ⟨k, hk, rfl, hbel⟩ := hrel
    have X2 := HX1.out.below hbel
    have Y2 := HY1.out.below hbel
    obtain ⟨x0, x1, x2⟩ := three X2
    obtain ⟨y0, y1, y2⟩ := three Y2
    by_cases hlt : k < m
    · obtain ⟨b, off, t, rfl, hbw, hr, f0, f1, f2, f3, f4, hok⟩ := (HA1.out.1.on hbel).at_ hlt
      obtain ⟨b2, off2, t2, rfl, hbw2, hr2, g0, g1, g2, g3, g4, hok2⟩ := (HA1.out.2.on hbel).at_ hlt
      obtain ⟨r, ⟨q, Ax, nx, cx, Bx, mx, dx⟩, Tx, tn, tcx⟩ := t
      obtain ⟨r2, ⟨q2, Ay, ny, cy, By, my, dy⟩, Ty, tn2, tcy⟩ := t2
      simp only at hr hr2 f0 f1 f2 f3 f4 g0 g1 g2 g3 g4
      rw [hr] at hr2
      obtain rfl : r = r2 := Option.some.inj hr2
      obtain ⟨e1, o1, p1, l1⟩ := hok
      obtain ⟨e2, o2, p2, l2⟩ := hok2
      simp only at e1 o1 p1 l1 e2 o2 p2 l2
      subst e1
      subst e2
      obtain rfl : tn = tn2 := p1.len.symm.trans p2.len
      have hmem := List.mem_of_getElem? hr
      have hqk := HQ.out.1 _ hmem
      have hsl := HQ.out.2 _ hmem
      rw [p1.len] at hsl
      have HO := Lib.hid (And.intro (And.intro o1 o2) (And.intro p1 p2))
      have HQK := Lib.hid hqk
      have HBE := Lib.hid hbel
      have i1 : (0 : Int) ≤ (k : Int) := by omega
      have i2 : (k : Int) < (m : Int) := by omega
      have hxl := X2.lt
      have hyl := Y2.lt
      clear hr hr2 hmem hqk o1 o2 p1 p2 l1 l2 hbel X2 Y2
      obtain ⟨wo, rfl⟩ : ∃ wo : World, wo = wr := ⟨_, rfl⟩
      go_upto_region 6 with fail
      go_cut [6, 7] (fun s6 s7 wx => ∃ g h, s6 = .pointer (some ⟨g, 0, none⟩) ∧ s7 = .pointer (some ⟨h, 0, none⟩) ∧ Blk wx g 57 #[.string r.name, .bool (ineg r.base.num), .slice Ax nx cx, .slice Bx mx dx, .slice Tx tn tcx] ∧ Blk wx h 57 #[.string r.name, .bool (ineg r.base.num), .slice Ay ny cy, .slice By my dy, .slice Ty tn tcy] ∧ Below wo.heap.size wo wx)
      case first =>
        go_region_held3 (fun w' => w'.cell? ⟨w.heap.size, 2, none⟩ = some (.slice (some ⟨b, off, none⟩) m d) ∧ w'.cell? ⟨w.heap.size + 1, 2, none⟩ = some (.slice (some ⟨b2, off2, none⟩) m d2) ∧ w'.cell? ⟨b, off + k * 5, none⟩ = some (.string r.name) ∧ w'.cell? ⟨b, off + k * 5 + 1, none⟩ = some (.bool (ineg r.base.num)) ∧ w'.cell? ⟨b, off + k * 5 + 2, none⟩ = some (.slice Ax nx cx) ∧ w'.cell? ⟨b, off + k * 5 + 3, none⟩ = some (.slice Bx mx dx) ∧ w'.cell? ⟨b, off + k * 5 + 4, none⟩ = some (.slice Tx tn tcx) ∧ w'.cell? ⟨b2, off2 + k * 5, none⟩ = some (.string r.name) ∧ w'.cell? ⟨b2, off2 + k * 5 + 1, none⟩ = some (.bool (ineg r.base.num)) ∧ w'.cell? ⟨b2, off2 + k * 5 + 2, none⟩ = some (.slice Ay ny cy) ∧ w'.cell? ⟨b2, off2 + k * 5 + 3, none⟩ = some (.slice By my dy) ∧ w'.cell? ⟨b2, off2 + k * 5 + 4, none⟩ = some (.slice Ty tn tcy))
          (go_keep)
          (fail)
        all_goals
          go_wp2_with fail
          go_meet
          go_light
        · exact ⟨_, _, rfl, rfl, (Blk.new wo _ _).alloc _, Blk.new' _ _ _ (by simp), (Below.alo (Below.alo (Below.refl _ _) _) _).drew⟩
        · exact ⟨_, _, rfl, rfl, Blk.new' _ _ _ (by simp), (Blk.new wo _ _).alloc _, (Below.alo (Below.alo (Below.refl _ _) _) _).drew⟩
      case rest =>
        obtain ⟨g, h, rfl, rfl, hg, hh, hbx⟩ := hcut
        clear f0 f1 f2 f3 f4 g0 g1 g2 g3 g4 x0 x1 x2 y0 y1 y2
        have u0 := hg.c (i := 0) rfl
        have u1 := hg.c (i := 1) rfl
        have u2 := hg.c (i := 2) rfl
        have u3 := hg.c (i := 3) rfl
        have v0 := hh.c (i := 0) rfl
        have v1 := hh.c (i := 1) rfl
        have v2 := hh.c (i := 2) rfl
        have v3 := hh.c (i := 3) rfl
        have HSa := Lib.hid (same_true _ _ _ _ _ _ (LiesA.of (c := cx) (d := dx) (HO.out.1.1.on hbx).1 (HO.out.1.1.on hbx).2.2.1 HQK.out.1 (Nat.le_refl _)) (LiesA.of (c := cy) (d := dy) (HO.out.1.2.on hbx).1 (HO.out.1.2.on hbx).2.2.1 HQK.out.1 (Nat.le_refl _)))
        have HGH := Lib.hid (And.intro hg hh)
        have HBX := Lib.hid hbx
        have hnn : (r.name.toList == r.name.toList) = true := by simp
        clear hg hh hbx
        go_wp2_with fail
        go_fit HSa.out
        rintro e w4 ⟨rfl, hb4⟩
        have s4 := (HGH.out.1.below hb4).c (i := 4) rfl
        have s5 := (HGH.out.2.below hb4).c (i := 4) rfl
        have hbb := HBX.out.trans (hb4.mono HBX.out.size)
        have HSs := Lib.hid (samest_true Tx tn tcx Ty tcy r.steps w4 (HO.out.2.1.on hbb) (HO.out.2.2.on hbb) HQK.out.2 hsl)
        have HB4 := Lib.hid hbb
        clear hb4 hbb
        go_wp2_with fail
        go_fit HSs.out
        rintro e w5 ⟨rfl, hb5⟩
        have HB5 := Lib.hid (HB4.out.trans (hb5.mono HB4.out.size))
        clear hb5
        go_wp2_with fail
        go_roundw
        case rel => exact ⟨k + 1, by omega, by go_num, HBE.out.trans (HB5.out.mono HBE.out.size)⟩
        case measure => simp [intOf]; omega
    · obtain rfl : k = m := by omega
      have HB := Lib.hid (HB1.out.trans (hbel.mono HB1.out.size))
      clear hbel X2 Y2
      go_wp2_with fail
      go_ret
      exact ⟨rfl, HB.out⟩
end Go.Proofs.YtjiccijfbpkliaaGreatDoor
