/- Parts of the proof. -/
import Derived.Test.YtiibocdmlfedkaaGreatDoorH19
import Derived.Test.YtiibocdmlfedkaaGreatDoorH34
namespace Go.Proofs.YtiibocdmlfedkaaGreatDoor
section
open Go.RowKit
open Go.Lib hiding intOf
theorem five_box {w : World} {g : Nat} {t : TypeId} {a0 a1 a2 a3 a4 : Value} (h : Blk w g t #[a0, a1, a2, a3, a4]) : w.cell? ⟨g, 0, none⟩ = some a0 ∧ w.cell? ⟨g, 1, none⟩ = some a1 ∧ w.cell? ⟨g, 2, none⟩ = some a2 ∧ w.cell? ⟨g, 3, none⟩ = some a3 ∧ w.cell? ⟨g, 4, none⟩ = some a4 :=
 ⟨h.c rfl, h.c rfl, h.c rfl, h.c rfl, h.c rfl⟩
theorem op_same {w : World} {A : Option Addr} {n b off : Nat} {l : List POp} (h : Recs 5 opG w A n l) (e : A = some ⟨b, off, none⟩) {j : Nat} (hj : j < n) : ∃ x B m d C k q, l[j]? = some x ∧ w.cell? ⟨b, off + j * 5, none⟩ = some (.string x.name) ∧ w.cell? ⟨b, off + j * 5 + 1, none⟩ = some (.int .i64 x.machine) ∧ w.cell? ⟨b, off + j * 5 + 2, none⟩ = some (.int .i64 x.minutes) ∧ w.cell? ⟨b, off + j * 5 + 3, none⟩ = some (.slice B m d) ∧ w.cell? ⟨b, off + j * 5 + 4, none⟩ = some (.slice C k q) ∧
  Sl w w.heap.size B m (ints x.after) ∧ m ≤ d ∧ Sl w w.heap.size C k (ints x.uses) ∧ k ≤ q := by
 obtain ⟨b', off', x, B, m, d, C, k, q, e', _, h1, h2, h3, h4, h5, h6, h7⟩ := op_at h hj
 rw [e] at e'
 injection e' with e'
 injection e' with e1 e2
 subst e1
 subst e2
 exact ⟨x, B, m, d, C, k, q, h1, h2, h3, h4, h5, h6, h7⟩
set_option maxRecDepth 100000 in
set_option maxHeartbeats 12800000 in
theorem checkOne_some (L : Option Addr) (n c i m : Nat) (l : List POp) (w : World) (hl : Recs 5 opG w L n l) (hc : n ≤ c) (hn : n ≤ 1000) (hi : i < n) (hs : ∀ o ∈ l, OpS o) :
  Calls Tryz.prog 78 #[.slice L n c, .int .i64 (i : Int), .int .i64 (m : Int)] w fun e w' => e = .returned (.int .i64 (opE l (some m) i)) ∧ Below w.heap.size w w' := by
 have HLL := Lib.hid hl.len
 have HA := Lib.hid hl
 obtain ⟨b, off, x, B, an, ac, C, un, uc, rfl, hbw, hx, c0, c1, c2, c3, c4, s1, s2, s3, s4⟩ := op_at hl hi
 have HX := Lib.hid hx
 have hos := hs x (List.mem_of_getElem? hx)
 have hbox : Below w.heap.size w (w.alloc (.cells #[.string x.name, .int .i64 x.machine, .int .i64 x.minutes, .slice B an ac, .slice C un uc] 70)) := (Below.refl _ _).alloc (Nat.le_refl _) _
 have HBX := Lib.hid hbox
 have HY := Lib.hid (Blk.new w 70 #[.string x.name, .int .i64 x.machine, .int .i64 x.minutes, .slice B an ac, .slice C un uc])
 have ha1 : an ≤ 1000 := by rw [← s1.ilen]; exact hos.aft
 have ha2 : un ≤ 1000 := by rw [← s3.ilen]; exact hos.us
 have HN := fun W => oname_any x.name W (by have := hos.nm; omega)
 have HI1 := Lib.hid (fun W (hb : Below w.heap.size w W) => areIdx_any B an ac n x.after W (s1.on hb) (by omega))
 have HR1 := Lib.hid (fun W (hb : Below w.heap.size w W) => repeats_any B an ac x.after W (s1.on hb) (by omega))
 have HI2 := Lib.hid (fun W (hb : Below w.heap.size w W) => areIdx_any C un uc m x.uses W (s3.on hb) (by omega))
 have HR2 := Lib.hid (fun W (hb : Below w.heap.size w W) => repeats_any C un uc x.uses W (s3.on hb) (by omega))
 have i4 : (0 : Int) ≤ (m : Int) := by omega
 have i1 : (0 : Int) ≤ (i : Int) := by omega
 have i2 : (i : Int) < (n : Int) := by omega
 have i3 : (i : Int) ≤ (c : Int) := by omega
 clear hl hs hx hos s1 s2 s3 s4 hbox
 cases hnm : nameOk x.name.data.toList
 ·have HE : Hid (opE l (some m) i = 1) := op_name HX.out hnm
  simp only [hnm] at HN
  have HN := Lib.hid HN
  clear hnm
  go_enter Tryz.func78, Tryz.ntmps78
  go_wp2_with (go_at_call 112; refine (HN.out _).mono ?_; rintro e w1 ⟨rfl, rfl⟩)
  go_ret
  exact ⟨by rw [HE.out]; rfl, HBX.out⟩
 have HNM := Lib.hid hnm
 simp only [hnm] at HN
 have HN := Lib.hid HN
 clear hnm
 go_enter Tryz.func78, Tryz.ntmps78
 go_wp2_with (go_at_call 112; refine (HN.out _).mono ?_; rintro e w1 ⟨rfl, rfl⟩)
 clear c0 c1 c2 c3 c4
 go_loopw [9, 22] (fun _ s wr => ∃ k : Nat, k ≤ i ∧ s = .int .i64 (k : Int) ∧ Hid (∀ (j : Nat) (y : POp), j < k → l[j]? = some y → y.name ≠ x.name) ∧ Below (w.alloc (.cells #[.string x.name, .int .i64 x.machine, .int .i64 x.minutes, .slice B an ac, .slice C un uc] 70)).heap.size (w.alloc (.cells #[.string x.name, .int .i64 x.machine, .int .i64 x.minutes, .slice B an ac, .slice C un uc] 70)) wr) (fun _ s _ => i - (intOf s).toNat)
 case atStart => exact ⟨0, Nat.zero_le _, rfl, (fun j y hj => by omega), Below.refl _ _⟩
 case round =>
  obtain ⟨k, hk, rfl, hne, hbel⟩ := hrel
  have HB := Lib.hid (HBX.out.trans (hbel.mono HBX.out.size))
  have HBL := Lib.hid hbel
  have HY1 := Lib.hid (HY.out.below hbel)
  have hxl := HY1.out.lt
  obtain ⟨x0, x1, x2, x3, x4⟩ := five_box HY1.out
  by_cases hlt : k < i
  ·obtain ⟨y, B2, m2, d2, C2, k2, q2, hy, d0, d1, d2', d3, d4, r1, r2, r3, r4⟩ := op_same (HA.out.on op_mono HB.out) rfl (j := k) (by omega)
   have HYY := Lib.hid hy
   have HBB : Hid (Below wr.heap.size wr (wr.alloc (.cells #[.string y.name, .int .i64 y.machine, .int .i64 y.minutes, .slice B2 m2 d2, .slice C2 k2 q2] 70))) := (Below.refl _ _).alloc (Nat.le_refl _) _
   have j1 : (0 : Int) ≤ (k : Int) := by omega
   have j2 : (k : Int) < (i : Int) := by omega
   clear hy r1 r2 r3 r4 hbel
   by_cases hq : y.name = x.name
   ·have HE : Hid (opE l (some m) i = 7) := op_twice HX.out HNM.out (hasName_yes (f := fun q : POp => q.name) (x := x) hlt HYY.out hq)
    have hq' : (y.name.toList == x.name.toList) = true := by rw [hq]; simp
    clear hq
    go_wp2_with fail
    go_ret
    exact ⟨by rw [HE.out]; rfl, HB.out.trans (HBB.out.mono HB.out.size)⟩
   ·have HE : Hid (∀ (j : Nat) (y : POp), j < k + 1 → l[j]? = some y → y.name ≠ x.name) := fun j y' hj hy' => by
     by_cases ej : j = k
     ·subst ej
      rw [HYY.out] at hy'
      rw [← Option.some.inj hy']
      exact hq
     ·exact hne.out j y' (by omega) hy'
    have hq' := toList_ne hq
    clear hq
    go_wp2_with fail
    go_roundw
    case rel => exact ⟨k + 1, by omega, by go_num, HE, HBL.out.trans (HBB.out.mono HBL.out.size)⟩
    case measure => simp [intOf]; omega
  ·obtain rfl : k = i := by omega
   have HH : Hid (hasName x.name ((l.take k).map (·.name)) = false) := hasName_no (f := fun q : POp => q.name) hne.out
   clear hne hbel hlt
   obtain ⟨mc, hmc⟩ : ∃ z, x.machine = z := ⟨_, rfl⟩
   obtain ⟨mt, hmt⟩ : ∃ z, x.minutes = z := ⟨_, rfl⟩
   have HMM := Lib.hid (And.intro hmc hmt)
   rw [hmc] at x1
   rw [hmt] at x2
   clear hmc hmt
   by_cases hr : mc < 0 ∨ 8 ≤ mc ∨ mt < 1 ∨ 10000 < mt
   ·have HE : Hid (opE l (some m) k = 3) := op_range HX.out HNM.out HH.out (by rw [HMM.out.1, HMM.out.2]; exact hr)
    by_cases g1 : mc < 0
    ·clear hr
     go_wp2_with fail
     go_ret
     exact ⟨by rw [HE.out]; rfl, HB.out⟩
    by_cases g2 : 8 ≤ mc
    ·clear hr
     go_wp2_with fail
     go_ret
     exact ⟨by rw [HE.out]; rfl, HB.out⟩
    by_cases g3 : mt < 1
    ·clear hr
     go_wp2_with fail
     go_ret
     exact ⟨by rw [HE.out]; rfl, HB.out⟩
    have g4 : 10000 < mt := by omega
    clear hr
    go_wp2_with fail
    go_ret
    exact ⟨by rw [HE.out]; rfl, HB.out⟩
   have HRG : Hid (¬ (x.machine < 0 ∨ 8 ≤ x.machine ∨ x.minutes < 1 ∨ 10000 < x.minutes)) := by rw [HMM.out.1, HMM.out.2]; exact hr
   have g1 : ¬ mc < 0 := fun h => hr (.inl h)
   have g2 : ¬ 8 ≤ mc := fun h => hr (.inr (.inl h))
   have g3 : ¬ mt < 1 := fun h => hr (.inr (.inr (.inl h)))
   have g4 : ¬ 10000 < mt := fun h => hr (.inr (.inr (.inr h)))
   clear hr
   obtain ⟨t1, ht1⟩ : ∃ t, idxB n x.after = t := ⟨_, rfl⟩
   rw [ht1] at HI1
   rw [← HLL.out] at ht1
   have HT1 := Lib.hid ht1
   obtain ⟨t2, ht2⟩ : ∃ t, twiceB x.after = t := ⟨_, rfl⟩
   rw [ht2] at HR1
   have HT2 := Lib.hid ht2
   clear ht1 ht2
   have hq := Lib.hid (Below.refl wr.heap.size wr)
   cases t1
   ·have HE : Hid (opE l (some m) k = 3) := op_index HX.out HNM.out HH.out HRG.out (.inl HT1.out)
    go_wp2_with (first | (go_at_call 113; (first | (with_reducible refine (HI1.out _ (HB.out.trans (hq.out.mono HB.out.size))).mono ?_) | (with_reducible refine (HI2.out _ (HB.out.trans (hq.out.mono HB.out.size))).mono ?_)); rintro e w2 ⟨rfl, rfl⟩) | (go_at_call 114; (first | (with_reducible refine (HR1.out _ (HB.out.trans (hq.out.mono HB.out.size))).mono ?_) | (with_reducible refine (HR2.out _ (HB.out.trans (hq.out.mono HB.out.size))).mono ?_)); rintro e w2 ⟨rfl, hv⟩; replace hq := Lib.hid (below_then hq.out hv); obtain ⟨x0, x1, x2, x3, x4⟩ := five_box (HY1.out.below hq.out); clear hv))
    go_ret
    exact ⟨by rw [HE.out]; rfl, HB.out.trans (hq.out.mono HB.out.size)⟩
   obtain ⟨t3, ht3⟩ : ∃ t, idxB m x.uses = t := ⟨_, rfl⟩
   rw [ht3] at HI2
   have HT3 : Hid (usesIn (some m) x.uses = t3) := ht3
   obtain ⟨t4, ht4⟩ : ∃ t, twiceB x.uses = t := ⟨_, rfl⟩
   rw [ht4] at HR2
   have HT4 : Hid (usesTwice (some m) x.uses = t4) := ht4
   clear ht3 ht4
   cases t3
   ·have HE : Hid (opE l (some m) k = 3) := op_index HX.out HNM.out HH.out HRG.out (.inr HT3.out)
    go_wp2_with (first | (go_at_call 113; (first | (with_reducible refine (HI1.out _ (HB.out.trans (hq.out.mono HB.out.size))).mono ?_) | (with_reducible refine (HI2.out _ (HB.out.trans (hq.out.mono HB.out.size))).mono ?_)); rintro e w2 ⟨rfl, rfl⟩) | (go_at_call 114; (first | (with_reducible refine (HR1.out _ (HB.out.trans (hq.out.mono HB.out.size))).mono ?_) | (with_reducible refine (HR2.out _ (HB.out.trans (hq.out.mono HB.out.size))).mono ?_)); rintro e w2 ⟨rfl, hv⟩; replace hq := Lib.hid (below_then hq.out hv); obtain ⟨x0, x1, x2, x3, x4⟩ := five_box (HY1.out.below hq.out); clear hv))
    go_ret
    exact ⟨by rw [HE.out]; rfl, HB.out.trans (hq.out.mono HB.out.size)⟩
   cases t2
   ·cases t4
    ·have HE : Hid (opE l (some m) k = 0) := op_ok HX.out HNM.out HH.out HRG.out HT1.out HT3.out HT2.out HT4.out
     go_wp2_with (first | (go_at_call 113; (first | (with_reducible refine (HI1.out _ (HB.out.trans (hq.out.mono HB.out.size))).mono ?_) | (with_reducible refine (HI2.out _ (HB.out.trans (hq.out.mono HB.out.size))).mono ?_)); rintro e w2 ⟨rfl, rfl⟩) | (go_at_call 114; (first | (with_reducible refine (HR1.out _ (HB.out.trans (hq.out.mono HB.out.size))).mono ?_) | (with_reducible refine (HR2.out _ (HB.out.trans (hq.out.mono HB.out.size))).mono ?_)); rintro e w2 ⟨rfl, hv⟩; replace hq := Lib.hid (below_then hq.out hv); obtain ⟨x0, x1, x2, x3, x4⟩ := five_box (HY1.out.below hq.out); clear hv))
     go_ret
     exact ⟨by rw [HE.out]; rfl, HB.out.trans (hq.out.mono HB.out.size)⟩
    ·have HE : Hid (opE l (some m) k = 7) := op_again HX.out HNM.out HH.out HRG.out HT1.out HT3.out (.inr HT4.out)
     go_wp2_with (first | (go_at_call 113; (first | (with_reducible refine (HI1.out _ (HB.out.trans (hq.out.mono HB.out.size))).mono ?_) | (with_reducible refine (HI2.out _ (HB.out.trans (hq.out.mono HB.out.size))).mono ?_)); rintro e w2 ⟨rfl, rfl⟩) | (go_at_call 114; (first | (with_reducible refine (HR1.out _ (HB.out.trans (hq.out.mono HB.out.size))).mono ?_) | (with_reducible refine (HR2.out _ (HB.out.trans (hq.out.mono HB.out.size))).mono ?_)); rintro e w2 ⟨rfl, hv⟩; replace hq := Lib.hid (below_then hq.out hv); obtain ⟨x0, x1, x2, x3, x4⟩ := five_box (HY1.out.below hq.out); clear hv))
     go_ret
     exact ⟨by rw [HE.out]; rfl, HB.out.trans (hq.out.mono HB.out.size)⟩
   ·have HE : Hid (opE l (some m) k = 7) := op_again HX.out HNM.out HH.out HRG.out HT1.out HT3.out (.inl HT2.out)
    go_wp2_with (first | (go_at_call 113; (first | (with_reducible refine (HI1.out _ (HB.out.trans (hq.out.mono HB.out.size))).mono ?_) | (with_reducible refine (HI2.out _ (HB.out.trans (hq.out.mono HB.out.size))).mono ?_)); rintro e w2 ⟨rfl, rfl⟩) | (go_at_call 114; (first | (with_reducible refine (HR1.out _ (HB.out.trans (hq.out.mono HB.out.size))).mono ?_) | (with_reducible refine (HR2.out _ (HB.out.trans (hq.out.mono HB.out.size))).mono ?_)); rintro e w2 ⟨rfl, hv⟩; replace hq := Lib.hid (below_then hq.out hv); obtain ⟨x0, x1, x2, x3, x4⟩ := five_box (HY1.out.below hq.out); clear hv))
    go_ret
    exact ⟨by rw [HE.out]; rfl, HB.out.trans (hq.out.mono HB.out.size)⟩
end
end Go.Proofs.YtiibocdmlfedkaaGreatDoor
