/- Parts of the proof. -/
import Derived.Test.YtiibocdmlfedkaaGreatDoorH04
import Derived.Test.YtiibocdmlfedkaaGreatDoorH08
import Derived.Test.YtiibocdmlfedkaaGreatDoorH19
namespace Go.Proofs.YtiibocdmlfedkaaGreatDoor
section
open Go.RowKit
open Go.Lib hiding intOf
set_option maxRecDepth 100000 in
set_option maxHeartbeats 1600000 in
theorem root_any (n : Nat) (w : World) (hn : n ≤ 8800000000000000000) : Calls Tryz.prog 214 #[.int .i64 (n : Int)] w fun e w' => e = .returned (.int .i64 (rootP n : Int)) ∧ w = w' := by
 by_cases h2 : n < 2
 ·have HE : Hid (rootP n = n) := by rw [Hid, rootP, if_pos h2]
  go_enter Tryz.func214, Tryz.ntmps214
  go_wp2
  go_ret
  exact ⟨by rw [HE.out]; rfl, rfl⟩
 ·have hl : ∀ W, Calls Tryz.prog 235 #[.int .u64 (n : Int)] W fun e w' => e = .returned (.int .i64 (bitsN n : Int)) ∧ W = w' := fun W => by
   have := Tryz.bits_Len (n : Int) W (by omega) (by omega)
   rw [Int.toNat_natCast, bitsN_len (by omega)] at this
   exact this.mono fun _ _ h => ⟨h.1, h.2.symm⟩
  have h1 := bitsN_pos (n := n) (by omega)
  have h3 := bitsN_le 63 n (by omega)
  have HE : Hid (rootP n = rootI n (2 ^ ((bitsN n + 1) / 2))) := by rw [Hid, rootP, if_neg h2]
  have h4 := root_first n (by omega)
  generalize bitsN n = b at *
  obtain ⟨r, hr⟩ : ∃ r, (b + 1) / 2 = r := ⟨_, rfl⟩
  have hr' : ((b : Int) + 1) / 2 = (r : Int) := by omega
  rw [hr] at HE h4
  have hx1 : 1 ≤ 2 ^ r := Nat.one_le_two_pow
  have hx2 : 2 ^ r ≤ 4294967296 := Nat.le_trans (Nat.pow_le_pow_right (by omega) h4) (by decide)
  have hsh : IntKind.i64.wrap ((2 : Int) ^ r) = ((2 ^ r : Nat) : Int) := by
   rw [show ((2 : Int) ^ r) = ((2 ^ r : Nat) : Int) by simp]
   exact IntWalk.i64_in _ (by omega)
  have hmin : min r 64 = r := by omega
  have HL := Lib.hid hl
  clear hl hr
  go_enter Tryz.func214, Tryz.ntmps214
  go_wp2_with (go_at_call 235; refine (HL.out _).mono ?_; rintro e w' ⟨rfl, rfl⟩)
  clear hr' hsh hmin
  have HS : Hid (Value.int .i64 ((2 : Int) ^ r) = .int .i64 ((2 ^ r : Nat) : Int)) := by rw [Hid]; simp
  go_loop [3] (fun t => ∃ x : Nat, 1 ≤ x ∧ x ≤ 4294967296 ∧ t = .int .i64 (x : Int) ∧ Hid (rootI n x = rootP n)) (fun t => (intOf t).toNat)
  case atStart => exact ⟨2 ^ r, hx1, hx2, HS.out, HE.out.symm⟩
  case round =>
   obtain ⟨x, g1, g2, rfl, hroot⟩ := hrel
   clear hx1 hx2 h1 h3 h4
   have hd : n / x ≤ n := Nat.div_le_self _ _
   have hp := newton_pos (n := n) (x := x) (by omega) g1
   have hc : (n : Int) / (x : Int) = ((n / x : Nat) : Int) := rfl
   have HI : Hid (∀ y, y = (x + n / x) / 2 → (y < x → rootI n y = rootP n) ∧ (¬ y < x → x = rootP n)) := fun y hy => by
    subst hy
    exact ⟨fun h => by rw [← rootI_step h]; exact hroot.out, fun h => by rw [← hroot.out, rootI_end h]⟩
   generalize n / x = q at *
   by_cases hlt : (x + q) / 2 < x
   ·have HJ := Lib.hid ((HI.out _ rfl).1 hlt)
    have hlt' : ¬ ((x : Int)) ≤ ((x : Int) + (q : Int)) / 2 := by omega
    go_wp2
    go_round
    case rel => exact ⟨(x + q) / 2, by omega, by omega, by go_num, HJ⟩
    case measure => simp [intOf]; omega
   ·have HJ := Lib.hid ((HI.out _ rfl).2 hlt)
    have hlt' : ((x : Int)) ≤ ((x : Int) + (q : Int)) / 2 := by omega
    go_wp2
    go_ret
    exact ⟨by rw [← HJ.out]; rfl, rfl⟩
set_option maxRecDepth 100000 in
set_option maxHeartbeats 1600000 in
theorem segment_any (p q : Pt) (w : World) (hp : inG p) (hq : inG q) :
  Calls Tryz.prog 191 #[.agg #[.int .i64 p.1, .int .i64 p.2], .agg #[.int .i64 q.1, .int .i64 q.2]] w fun e w' => e = .returned (.int .i64 (segP p q : Int)) ∧ Below w.heap.size w w' := by
 have HB : Hid (Below w.heap.size w ((w.alloc (.cells #[.int .i64 p.1, .int .i64 p.2] 74)).alloc (.cells #[.int .i64 q.1, .int .i64 q.2] 74))) := ((Below.refl _ _).alloc (Nat.le_refl _) _).alloc (by simp) _
 obtain ⟨s1, s2, s3, s4⟩ := seg_in hp hq
 have HR : Hid (∀ W, Calls Tryz.prog 214 #[.int .i64 (1000000 * ((q.1 - p.1) * (q.1 - p.1) + (q.2 - p.2) * (q.2 - p.2)))] W fun e w' => e = .returned (.int .i64 (segP p q : Int)) ∧ W = w') := fun W => by
  have := root_any (1000000 * ((q.1 - p.1) * (q.1 - p.1) + (q.2 - p.2) * (q.2 - p.2))).toNat W (by omega)
  rw [Int.toNat_of_nonneg (by omega)] at this
  exact this
 generalize segP p q = z at *
 obtain ⟨p1, p2⟩ := p
 obtain ⟨q1, q2⟩ := q
 obtain ⟨x1, x2, x3, x4⟩ := hp
 obtain ⟨x5, x6, x7, x8⟩ := hq
 simp only at *
 have e1 : IntKind.i64.wrap (q1 - p1) = q1 - p1 := IntWalk.i64_in _ (by omega)
 have e2 : IntKind.i64.wrap (q2 - p2) = q2 - p2 := IntWalk.i64_in _ (by omega)
 go_enter Tryz.func191, Tryz.ntmps191
 go_wp2_with fail
 go_quiet (fail)
 clear e1 e2
 go_wp2_with (go_at_call 214; refine (HR.out _).mono ?_; rintro e w' ⟨rfl, rfl⟩)
 go_ret
 exact ⟨rfl, below_drewN HB.out _⟩
end
section
open Go.RowKit
open Go.Lib hiding intOf
set_option maxRecDepth 100000 in
set_option maxHeartbeats 3200000 in
theorem pl_check (A : Option Addr) (n c : Nat) (l : List Pt) (w : World) (ha : Recs 2 spotG w A n l) (hn : n ≤ 1000000) :
  Calls Tryz.prog 160 #[.slice A n c] w fun e w' => e = .returned (.int .i64 (polylineE l)) ∧ Below w.heap.size w w' := by
 have HA := Lib.hid ha
 have HL := Lib.hid ha.len
 have HF := Lib.hid (containsF_any 188 outB pl_pred A n c l w ha hn)
 clear ha
 by_cases h40 : 40 < n
 ·have HE : Hid (polylineE l = 5) := poly_long (by rw [HL.out]; exact h40)
  go_enter Tryz.func160, Tryz.ntmps160
  go_wp2
  go_ret
  exact ⟨by rw [HE.out]; rfl, Below.refl _ _⟩
 ·by_cases h2 : n < 2
  ·have HE : Hid (polylineE l = 11) := poly_short (by rw [HL.out]; exact h40) (by rw [HL.out]; exact h2)
   go_enter Tryz.func160, Tryz.ntmps160
   go_wp2
   go_ret
   exact ⟨by rw [HE.out]; rfl, Below.refl _ _⟩
  ·have HP := Lib.hid (And.intro (show ¬ 40 < l.length by rw [HL.out]; exact h40) (show ¬ l.length < 2 by rw [HL.out]; exact h2))
   cases ho : l.any outB
   ·rw [ho] at HF
    have HO := Lib.hid ho
    clear ho
    go_enter Tryz.func160, Tryz.ntmps160
    go_wp2_with (go_at_call 187; refine HF.out.mono ?_; rintro e w1 ⟨rfl, hb1⟩; have HB1 := Lib.hid hb1; clear hb1)
    go_loopw [15] (fun i wr => ∃ k : Nat, k ≤ n - 1 ∧ i = .int .i64 (k : Int) ∧ Hid (∀ j, j < k → l[j]? ≠ l[j + 1]?) ∧ Below w.heap.size w wr) (fun i _ => n - (intOf i).toNat)
    case atStart => exact ⟨0, Nat.zero_le _, rfl, (fun j hj => by omega), HB1.out⟩
    case round =>
     obtain ⟨k, hk, rfl, hall, hbel⟩ := hrel
     by_cases hlt : k < n - 1
     ·obtain ⟨b, off, p, rfl, hbw, hp, c0, c1⟩ := spot_at (HA.out.on spot_mono hbel) (j := k) (by omega)
      obtain ⟨b2, off2, q, heq, _, hq, c2, c3⟩ := spot_at (HA.out.on spot_mono hbel) (j := k + 1) (by omega)
      injection heq with heq
      injection heq with e1 e2
      subst e1
      subst e2
      have HPQ := Lib.hid (And.intro hp hq)
      have HB := Lib.hid hbel
      have i1 : (0 : Int) ≤ (k : Int) := by omega
      have i2 : (k : Int) < (n : Int) := by omega
      have i3 : (k : Int) < (n : Int) - 1 := by omega
      have i4 : IntKind.i64.wrap ((k : Int) + 1) = (k : Int) + 1 := IntWalk.i64_in _ (by omega)
      have i5 : (0 : Int) ≤ (k : Int) + 1 := by omega
      have i6 : ((k : Int) + 1) < (n : Int) := by omega
      have i7 : ((k : Int) + 1).toNat = k + 1 := by omega
      have hqe := fun W => eqIn_spot p q W
      clear hp hq hbel
      by_cases e : p = q
      ·have HE : Hid (polylineE l = 11) := poly_same HP.out.1 HP.out.2 HO.out (i := k) (by rw [HL.out]; omega) (by rw [HPQ.out.1, HPQ.out.2, e])
       simp only [decide_eq_true e] at hqe
       clear e
       go_wp2_with fail
       go_quiet (fail)
       clear i4 i7 hqe
       go_wp2_with fail
       go_ret
       exact ⟨by rw [HE.out]; rfl, below_drewN HB.out _⟩
      ·have HE : Hid (∀ j, j < k + 1 → l[j]? ≠ l[j + 1]?) := fun j hj => by
        by_cases ej : j = k
        ·subst ej
         rw [HPQ.out.1, HPQ.out.2]
         exact fun h => e (Option.some.inj h)
        ·exact hall.out j (by omega)
       simp only [decide_eq_false e] at hqe
       clear e
       go_wp2_with fail
       go_quiet (fail)
       clear i4 i7 hqe
       go_wp2_with fail
       go_roundw
       case rel => exact ⟨k + 1, by omega, by go_num, HE, below_drewN HB.out _⟩
       case measure => simp [intOf]; omega
     ·have HE : Hid (polylineE l = 0) := poly_ok HP.out.1 HP.out.2 HO.out fun i hi => hall.out i (by rw [HL.out] at hi; omega)
      have HB := Lib.hid hbel
      have i3 : ¬ (k : Int) < (n : Int) - 1 := by omega
      clear hbel hall
      go_wp2_with fail
      go_ret
      exact ⟨by rw [HE.out]; rfl, HB.out⟩
   ·rw [ho] at HF
    have HE : Hid (polylineE l = 3) := poly_out HP.out.1 HP.out.2 ho
    clear ho
    go_enter Tryz.func160, Tryz.ntmps160
    go_wp2_with (go_at_call 187; refine HF.out.mono ?_; rintro e w1 ⟨rfl, hb1⟩; have HB1 := Lib.hid hb1; clear hb1)
    go_ret
    exact ⟨by rw [HE.out]; rfl, HB1.out⟩
end
section
open Go.RowKit
open Go.Lib hiding intOf
def RetLen (l : List Pt) (w : World) (e : Ending) (w' : World) : Prop := e = .returned (.tuple #[.int .i64 (if polylineE l = 0 then (lengthP l : Int) else 0), .int .i64 (polylineE l)]) ∧ Below w.heap.size w w'
theorem two_keep {w w' : World} {g o1 o2 : Nat} {a0 a1 b0 b1 : Value} (hg : g < w.heap.size) (c0 : w.cell? ⟨g, o1, none⟩ = some a0) (c1 : w.cell? ⟨g, o1 + 1, none⟩ = some a1) (c2 : w.cell? ⟨g, o2, none⟩ = some b0) (c3 : w.cell? ⟨g, o2 + 1, none⟩ = some b1) (hb : Below w.heap.size w w') :
  w'.cell? ⟨g, o1, none⟩ = some a0 ∧ w'.cell? ⟨g, o1 + 1, none⟩ = some a1 ∧ w'.cell? ⟨g, o2, none⟩ = some b0 ∧ w'.cell? ⟨g, o2 + 1, none⟩ = some b1 :=
 ⟨(hb.cell (p := ⟨g, o1, none⟩) hg).trans c0, (hb.cell (p := ⟨g, o1 + 1, none⟩) hg).trans c1, (hb.cell (p := ⟨g, o2, none⟩) hg).trans c2, (hb.cell (p := ⟨g, o2 + 1, none⟩) hg).trans c3⟩
set_option maxRecDepth 100000 in
set_option maxHeartbeats 3200000 in
theorem length_any (A : Option Addr) (n c : Nat) (l : List Pt) (w : World) (ha : Recs 2 spotG w A n l) (hn : n ≤ 1000000) :
  Calls Tryz.prog 164 #[.slice A n c] w (RetLen l w) := by
 have HA := Lib.hid ha
 have HL := Lib.hid ha.len
 have HF := Lib.hid (pl_check A n c l w ha hn)
 clear ha
 obtain ⟨E, hE⟩ : ∃ E, polylineE l = E := ⟨_, rfl⟩
 rw [hE] at HF
 have HE := Lib.hid hE
 clear hE
 by_cases h0 : E = 0
 ·subst h0
  obtain ⟨k1, k2, k3, _⟩ := poly_zero HE.out
  have HG := Lib.hid k3
  have k4 : n ≤ 40 := by rw [← HL.out]; exact k1
  have k5 : 2 ≤ n := by rw [← HL.out]; exact k2
  clear k1 k2 k3
  go_enter Tryz.func164, Tryz.ntmps164
  go_wp2_with (go_at_call 160; refine HF.out.mono ?_; rintro e w1 ⟨rfl, hb1⟩; have HB1 := Lib.hid hb1; clear hb1)
  go_loopw [5, 15] (fun t i wr => ∃ k : Nat, k ≤ n - 1 ∧ t = .int .i64 (lenTo l k : Int) ∧ i = .int .i64 (k : Int) ∧ Below w.heap.size w wr) (fun _ i _ => n - (intOf i).toNat)
  case atStart => exact ⟨0, Nat.zero_le _, rfl, rfl, HB1.out⟩
  case round =>
   obtain ⟨k, hk, rfl, rfl, hbel⟩ := hrel
   by_cases hlt : k < n - 1
   ·obtain ⟨b, off, p, rfl, hbw, hp, c0, c1⟩ := spot_at (HA.out.on spot_mono hbel) (j := k) (by omega)
    obtain ⟨b2, off2, q, heq, _, hq, c2, c3⟩ := spot_at (HA.out.on spot_mono hbel) (j := k + 1) (by omega)
    injection heq with heq
    injection heq with e1 e2
    subst e1
    subst e2
    have HK := fun w' => Lib.hid (two_keep (w' := w') hbw c0 c1 c2 c3)
    have gp := HG.out p (List.mem_of_getElem? hp)
    have gq := HG.out q (List.mem_of_getElem? hq)
    have HS := Lib.hid (fun W => segment_any p q W gp gq)
    have hsle := segP_le gp gq
    have hlle := lenTo_le HG.out k (by rw [HL.out]; omega)
    have HT : Hid (lenTo l (k + 1) = lenTo l k + segP p q) := by rw [Hid, lenTo, lenAt_of hp hq]
    have HB := Lib.hid hbel
    have i1 : (0 : Int) ≤ (k : Int) := by omega
    have i2 : (k : Int) < (n : Int) := by omega
    have i3 : (k : Int) < (n : Int) - 1 := by omega
    have i4 : IntKind.i64.wrap ((k : Int) + 1) = (k : Int) + 1 := IntWalk.i64_in _ (by omega)
    have i5 : (0 : Int) ≤ (k : Int) + 1 := by omega
    have i6 : ((k : Int) + 1) < (n : Int) := by omega
    have i7 : ((k : Int) + 1).toNat = k + 1 := by omega
    generalize segP p q = z at *
    generalize lenTo l k = x at *
    have i8 : IntKind.i64.wrap ((x : Int) + (z : Int)) = (x : Int) + (z : Int) := IntWalk.i64_in _ (by omega)
    have hu := Below.refl wr.heap.size wr
    clear hp hq hbel gp gq
    go_wp2_with fail
    go_region_held3 (fun w' => w'.cell? ⟨b, off + k * 2, none⟩ = some (.int .i64 p.1) ∧ w'.cell? ⟨b, off + k * 2 + 1, none⟩ = some (.int .i64 p.2) ∧ w'.cell? ⟨b, off + (k + 1) * 2, none⟩ = some (.int .i64 q.1) ∧ w'.cell? ⟨b, off + (k + 1) * 2 + 1, none⟩ = some (.int .i64 q.2))
     ((refine (HK _).out ?_; repeat (first | (with_reducible exact Below.refl _ _) | (with_reducible exact hu) | (with_reducible refine Below.drew ?_))))
     ((go_at_call 191; go_must ((with_reducible refine (HS.out _).mono ?_); rintro e w1 ⟨rfl, hv⟩; replace hu := below_then hu hv; clear hv)))
    clear i4 i7 i8
    go_wp2_with fail
    go_roundw
    case rel => exact ⟨k + 1, by omega, by rw [HT.out]; rfl, by go_num, HB.out.trans (hu.mono HB.out.size)⟩
    case measure => simp [intOf]; omega
   ·obtain rfl : k = n - 1 := by omega
    have HT : Hid (lengthP l = lenTo l (n - 1)) := by rw [Hid, lengthP, HL.out]
    have HB := Lib.hid hbel
    have i3 : ¬ (((n - 1 : Nat) : Int)) < (n : Int) - 1 := by omega
    clear hbel
    go_wp2_with fail
    go_ret2
    refine ⟨?_, HB.out⟩
    rw [HE.out, if_pos rfl, HT.out]
    rfl
 ·have h0' : (E != 0) = true := by simpa using h0
  have HN := Lib.hid h0
  clear h0
  go_enter Tryz.func164, Tryz.ntmps164
  go_wp2_with (go_at_call 160; refine HF.out.mono ?_; rintro e w1 ⟨rfl, hb1⟩; have HB1 := Lib.hid hb1; clear hb1)
  go_ret2
  refine ⟨?_, HB1.out⟩
  rw [HE.out, if_neg HN.out]
  rfl
def RetIdx2 (x : Pt) (ps : List Pt) (w : World) (e : Ending) (w' : World) : Prop := ∃ z : Int, e = .returned (.int .i64 z) ∧ decide (0 ≤ z) = decide (x ∈ ps) ∧ Below w.heap.size w w'
set_option maxRecDepth 100000 in
set_option maxHeartbeats 3200000 in
theorem index_spot (A : Option Addr) (n c : Nat) (ps : List Pt) (x : Pt) (w : World) (ha : Recs 2 spotG w A n ps) (hn : n ≤ 1000000) :
  Calls Tryz.prog 231 #[.slice A n c, .agg #[.int .i64 x.1, .int .i64 x.2]] w (RetIdx2 x ps w) := by
 have HA := Lib.hid ha
 have HL := Lib.hid ha.len
 have HB0 := Lib.hid (box_spot x w)
 have HX := Lib.hid (Blk.new w 74 #[.int .i64 x.1, .int .i64 x.2])
 clear ha
 go_enter Tryz.func231, Tryz.ntmps231
 go_wp2
 go_loopw [8] (fun i wr => ∃ k : Nat, k ≤ n ∧ i = .int .i64 (k : Int) ∧ Hid (∀ (j : Nat) (p : Pt), j < k → ps[j]? = some p → x ≠ p) ∧ Below (w.alloc (.cells #[.int .i64 x.1, .int .i64 x.2] 74)).heap.size (w.alloc (.cells #[.int .i64 x.1, .int .i64 x.2] 74)) wr) (fun i _ => n - (intOf i).toNat)
 case atStart => exact ⟨0, Nat.zero_le _, rfl, (fun j p h => by omega), Below.refl _ _⟩
 case round =>
  obtain ⟨k, hk, rfl, hall, hbel⟩ := hrel
  have HB := Lib.hid (HB0.out.trans (hbel.mono HB0.out.size))
  have HBL := Lib.hid hbel
  by_cases hlt : k < n
  ·obtain ⟨b, off, p, rfl, hbw, hpp, c0, c1⟩ := spot_at (HA.out.on spot_mono HB.out) hlt
   have HPP := Lib.hid hpp
   have x0 := (HX.out.below hbel).c (i := 0) rfl
   have x1 := (HX.out.below hbel).c (i := 1) rfl
   have i1 : (0 : Int) ≤ (k : Int) := by omega
   have i2 : (k : Int) < (n : Int) := by omega
   have hqe := fun W => eqIn_spot x p W
   clear hpp hbel
   by_cases e : x = p
   ·have HE : Hid (decide (x ∈ ps) = true) := decide_eq_true (by rw [e]; exact List.mem_of_getElem? HPP.out)
    simp only [decide_eq_true e] at hqe
    clear e
    go_wp2_with fail
    go_quiet (fail)
    clear hqe
    go_wp2_with fail
    go_ret
    exact ⟨k, rfl, by rw [HE.out]; simp, below_drewN HB.out _⟩
   ·have HE : Hid (∀ (j : Nat) (p : Pt), j < k + 1 → ps[j]? = some p → x ≠ p) := fun j p' hj hp' => by
     by_cases ej : j = k
     ·subst ej
      rw [HPP.out] at hp'
      rw [← Option.some.inj hp']
      exact e
     ·exact hall.out j p' (by omega) hp'
    simp only [decide_eq_false e] at hqe
    clear e
    go_wp2_with fail
    go_quiet (fail)
    clear hqe
    go_wp2_with fail
    go_roundw
    case rel => exact ⟨k + 1, by omega, by go_num, HE, below_drewN HBL.out _⟩
    case measure => simp [intOf]; omega
  ·obtain rfl : n = k := by omega
   have HE : Hid (decide (x ∈ ps) = false) := decide_eq_false fun hm => by
    obtain ⟨j, hj⟩ := List.getElem?_of_mem hm
    exact hall.out j x (by have := (List.getElem?_eq_some_iff.1 hj).1; rw [HL.out] at this; exact this) hj rfl
   clear hall hbel
   go_wp2_with fail
   go_ret
   exact ⟨-1, rfl, by rw [HE.out]; rfl, HB.out⟩
theorem contains_spot (A : Option Addr) (n c : Nat) (ps : List Pt) (x : Pt) (w : World) (ha : Recs 2 spotG w A n ps) (hn : n ≤ 1000000) :
  Calls Tryz.prog 211 #[.slice A n c, .agg #[.int .i64 x.1, .int .i64 x.2]] w fun e w' => e = .returned (.bool (decide (x ∈ ps))) ∧ Below w.heap.size w w' := by
 have HB0 := Lib.hid (box_spot x w)
 have H1 := Lib.hid (index_spot A n c ps x _ (ha.on spot_mono HB0.out) hn)
 clear ha
 go_enter Tryz.func211, Tryz.ntmps211
 go_wp2_with (go_at_call 231; refine H1.out.mono ?_; rintro e w' ⟨z, rfl, hz, hb⟩; have HZ := Lib.hid hz; have HB := Lib.hid hb; clear hz hb)
 go_ret
 exact ⟨by rw [← HZ.out]; rfl, HB0.out.trans (HB.out.mono HB0.out.size)⟩
end
section
open Go.RowKit
open Go.Lib hiding intOf
def RetQR (w : World) (e : Ending) (w' : World) : Prop := ∃ q r : Int, e = .returned (.tuple #[.int .u64 q, .int .u64 r]) ∧ 0 ≤ q ∧ 0 ≤ r ∧ ∃ k, w' = w.drewN k
theorem bitsN_lo : ∀ (n : Nat), 1 ≤ n → 2 ^ (bitsN n - 1) ≤ n ∧ n < 2 ^ bitsN n
  | 0, h => by omega
  | n + 1, _ => by
    rw [bitsN, Nat.add_sub_cancel]
    by_cases h0 : n = 0
    · subst h0
      rw [show (0 + 1) / 2 = 0 from rfl, bitsN]
      decide
    · obtain ⟨h1, h2⟩ := bitsN_lo ((n + 1) / 2) (by omega)
      have hp := bitsN_pos (n := (n + 1) / 2) (by omega)
      obtain ⟨m, hm⟩ : ∃ m, bitsN ((n + 1) / 2) = m + 1 := ⟨bitsN ((n + 1) / 2) - 1, by omega⟩
      rw [hm] at h1 h2 ⊢
      rw [Nat.add_sub_cancel] at h1
      simp only [Nat.pow_succ] at h2 ⊢
      generalize 2 ^ m = z at *
      omega
decreasing_by omega
theorem norm_div {y : Nat} (h1 : 1 ≤ y) (h2 : y < 18446744073709551616) : 9223372036854775808 ≤ y * 2 ^ (64 - bitsN y) ∧ y * 2 ^ (64 - bitsN y) < 18446744073709551616 := by
  obtain ⟨a, b⟩ := bitsN_lo y h1
  have hb := bitsN_le 64 y h2
  have hp := bitsN_pos h1
  have e1 : (2 : Nat) ^ (bitsN y - 1) * 2 ^ (64 - bitsN y) = 2 ^ 63 := by rw [← Nat.pow_add]; congr 1; omega
  have e2 : (2 : Nat) ^ bitsN y * 2 ^ (64 - bitsN y) = 2 ^ 64 := by rw [← Nat.pow_add]; congr 1; omega
  have p : 0 < (2 : Nat) ^ (64 - bitsN y) := Nat.pow_pos (by omega)
  constructor
  · have := Nat.mul_le_mul_right (2 ^ (64 - bitsN y)) a
    rw [e1] at this
    exact this
  · have := Nat.mul_lt_mul_of_pos_right b p
    rw [e2] at this
    exact this
theorem wrap_in (x : Int) : 0 ≤ IntKind.u64.wrap x ∧ IntKind.u64.wrap x < 18446744073709551616 := by
  rw [IntKind.wrap_u64]
  omega
set_option maxRecDepth 100000 in
set_option maxHeartbeats 6400000 in
theorem div64_any (hi lo y : Nat) (w : World) (h1 : hi < y) (h2 : y < 18446744073709551616) (hl : lo < 18446744073709551616) :
    Calls Tryz.prog 193 #[.int .u64 (hi : Int), .int .u64 (lo : Int), .int .u64 (y : Int)] w (RetQR w) := by
  by_cases h0 : hi = 0
  · subst h0
    have y0 : ¬ (y : Int) = 0 := by omega
    have y0' : ¬ y = 0 := by omega
    have q0 : (0 : Int) ≤ (lo : Int) / (y : Int) := Int.ediv_nonneg (by omega) (by omega)
    have q1 : (0 : Int) ≤ (lo : Int) % (y : Int) := Int.emod_nonneg _ y0
    have q2 : IntKind.u64.wrap ((lo : Int).tdiv (y : Int)) = ((lo / y : Nat) : Int) := by
      have hle : lo / y ≤ lo := Nat.div_le_self _ _
      rw [show ((lo : Int).tdiv (y : Int)) = ((lo / y : Nat) : Int) from rfl, IntKind.wrap_u64]
      omega
    have q3 : ((lo : Int).tmod (y : Int)) = ((lo % y : Nat) : Int) := rfl
    go_enter Tryz.func193, Tryz.ntmps193
    go_wp2_with fail
    go_quiet (fail)
    go_wp2_with fail
    go_ret2
    exact ⟨_, _, rfl, (wrap_in _).1, q1, _, rfl⟩
  · have hb1 := bitsN_pos (n := y) (by omega)
    have hb2 := bitsN_le 64 y h2
    obtain ⟨n1, n2⟩ := norm_div (y := y) (by omega) h2
    have hz : ∀ W, Calls Tryz.prog 215 #[.int .u64 (y : Int)] W fun e w' => e = .returned (.int .i64 ((64 - bitsN y : Nat) : Int)) ∧ W = w' := fun W => by
      have := Tryz.bits_LeadingZeros64 (y : Int) W (by omega) (by omega)
      rw [Int.toNat_natCast, bitsN_len h2, show ((64 : Int) - (bitsN y : Int)) = ((64 - bitsN y : Nat) : Int) by omega] at this
      exact this.mono fun _ _ h => ⟨h.1, h.2.symm⟩
    obtain ⟨s, hs⟩ : ∃ s, 64 - bitsN y = s := ⟨_, rfl⟩
    rw [hs] at n1 n2 hz
    have hs1 : s ≤ 63 := by omega
    have HZ := Lib.hid hz
    clear hz hs hb1 hb2
    obtain ⟨Y, hY⟩ : ∃ Y, y * 2 ^ s = Y := ⟨_, rfl⟩
    have hm : min s 64 = s := by omega
    have hw : IntKind.u64.wrap ((y : Int) * 2 ^ s) = (Y : Int) := by
      rw [show ((y : Int) * 2 ^ s) = ((y * 2 ^ s : Nat) : Int) by simp, hY, IntKind.wrap_u64]
      rw [hY] at n2
      omega
    rw [hY] at n1 n2
    clear hY
    have hy1 : (Y : Int) / 4294967296 = ((Y / 4294967296 : Nat) : Int) := rfl
    have d1 : Y / 4294967296 < 4294967296 := by omega
    have d2 : 1 ≤ Y / 4294967296 := by omega
    generalize Y / 4294967296 = v at *
    have e1 : ¬ (y : Int) ≤ (hi : Int) := by omega
    have e2 : ((hi : Int) == 0) = false := by simpa using h0
    have e3 : ((y : Int) == 0) = false := by simp; omega
    go_enter Tryz.func193, Tryz.ntmps193
    go_wp2_with (go_at_call 215; refine (HZ.out _).mono ?_; rintro e w' ⟨rfl, rfl⟩)
    clear e1 e2 e3 hw hy1 hm
    go_loop [15, 16] (fun a b => ∃ q r : Int, a = .int .u64 q ∧ b = .int .u64 r ∧ 0 ≤ q ∧ 0 ≤ r ∧ r < 18446744073709551616) (fun _ b => if intOf b < 4294967296 then (4294967296 - intOf b).toNat else 8589934592)
    case atStart => exact ⟨_, _, rfl, rfl, by first | exact (wrap_in _).1 | skip, (wrap_in _).1, (wrap_in _).2⟩
    case round =>
      obtain ⟨q, r, rfl, rfl, g0, g1, g2⟩ := hrel
      obtain ⟨r2, hr2⟩ : ∃ r2, IntKind.u64.wrap (r + (v : Int)) = r2 := ⟨_, rfl⟩
      have w1 : 0 ≤ r2 ∧ r2 < 18446744073709551616 := by rw [← hr2]; exact wrap_in _
      obtain ⟨w1, w2⟩ := w1
      have HM : Hid (r2 < 4294967296 → (if r2 < 4294967296 then (4294967296 - r2).toNat else 8589934592) < (if r < 4294967296 then (4294967296 - r).toNat else 8589934592)) := by
        rw [IntKind.wrap_u64] at hr2
        intro h
        rw [if_pos h]
        split <;> omega
      by_cases hb : 4294967296 ≤ r2
      · go_wp2_with fail
        all_goals first
          | (go_round
             case rel => exact ⟨_, _, rfl, rfl, (wrap_in _).1, w1, w2⟩
             case measure => simp only [intOf]; exact HM.out (by omega))
          | (clear HM
             go_loop [16, 18] (fun b a => ∃ q r : Int, a = .int .u64 q ∧ b = .int .u64 r ∧ 0 ≤ q ∧ 0 ≤ r ∧ r < 18446744073709551616) (fun b _ => if intOf b < 4294967296 then (4294967296 - intOf b).toNat else 8589934592)
             case atStart => exact ⟨_, _, rfl, rfl, (wrap_in _).1, (wrap_in _).1, (wrap_in _).2⟩
             case round =>
               clear hr2
               obtain ⟨q', r', rfl, rfl, g0', g1', g2'⟩ := hrel
               obtain ⟨r3, hr3⟩ : ∃ r3, IntKind.u64.wrap (r' + (v : Int)) = r3 := ⟨_, rfl⟩
               have w3 : 0 ≤ r3 ∧ r3 < 18446744073709551616 := by rw [← hr3]; exact wrap_in _
               obtain ⟨w3, w4⟩ := w3
               have HM2 : Hid (r3 < 4294967296 → (if r3 < 4294967296 then (4294967296 - r3).toNat else 8589934592) < (if r' < 4294967296 then (4294967296 - r').toNat else 8589934592)) := by
                 rw [IntKind.wrap_u64] at hr3
                 intro h
                 rw [if_pos h]
                 split <;> omega
               by_cases hb2 : 4294967296 ≤ r3
               · go_wp2_with fail
                 all_goals first
                   | (go_round
                      case rel => exact ⟨_, _, rfl, rfl, (wrap_in _).1, w3, w4⟩
                      case measure => simp only [intOf]; exact HM2.out (by omega))
                   | (go_ret2
                      exact ⟨_, _, rfl, (by first | exact (wrap_in _).1 | omega), Int.ediv_nonneg (wrap_in _).1 (Int.le_of_lt (Int.pow_pos (by decide))), 0, rfl⟩)
               · go_wp2_with fail
                 all_goals first
                   | (go_round
                      case rel => exact ⟨_, _, rfl, rfl, (wrap_in _).1, w3, w4⟩
                      case measure => simp only [intOf]; exact HM2.out (by omega))
                   | (go_ret2
                      exact ⟨_, _, rfl, (by first | exact (wrap_in _).1 | omega), Int.ediv_nonneg (wrap_in _).1 (Int.le_of_lt (Int.pow_pos (by decide))), 0, rfl⟩))
      · go_wp2_with fail
        all_goals first
          | (go_round
             case rel => exact ⟨_, _, rfl, rfl, (wrap_in _).1, w1, w2⟩
             case measure => simp only [intOf]; exact HM.out (by omega))
          | (clear HM
             go_loop [16, 18] (fun b a => ∃ q r : Int, a = .int .u64 q ∧ b = .int .u64 r ∧ 0 ≤ q ∧ 0 ≤ r ∧ r < 18446744073709551616) (fun b _ => if intOf b < 4294967296 then (4294967296 - intOf b).toNat else 8589934592)
             case atStart => exact ⟨_, _, rfl, rfl, (wrap_in _).1, (wrap_in _).1, (wrap_in _).2⟩
             case round =>
               clear hr2
               obtain ⟨q', r', rfl, rfl, g0', g1', g2'⟩ := hrel
               obtain ⟨r3, hr3⟩ : ∃ r3, IntKind.u64.wrap (r' + (v : Int)) = r3 := ⟨_, rfl⟩
               have w3 : 0 ≤ r3 ∧ r3 < 18446744073709551616 := by rw [← hr3]; exact wrap_in _
               obtain ⟨w3, w4⟩ := w3
               have HM2 : Hid (r3 < 4294967296 → (if r3 < 4294967296 then (4294967296 - r3).toNat else 8589934592) < (if r' < 4294967296 then (4294967296 - r').toNat else 8589934592)) := by
                 rw [IntKind.wrap_u64] at hr3
                 intro h
                 rw [if_pos h]
                 split <;> omega
               by_cases hb2 : 4294967296 ≤ r3
               · go_wp2_with fail
                 all_goals first
                   | (go_round
                      case rel => exact ⟨_, _, rfl, rfl, (wrap_in _).1, w3, w4⟩
                      case measure => simp only [intOf]; exact HM2.out (by omega))
                   | (go_ret2
                      exact ⟨_, _, rfl, (by first | exact (wrap_in _).1 | omega), Int.ediv_nonneg (wrap_in _).1 (Int.le_of_lt (Int.pow_pos (by decide))), 0, rfl⟩)
               · go_wp2_with fail
                 all_goals first
                   | (go_round
                      case rel => exact ⟨_, _, rfl, rfl, (wrap_in _).1, w3, w4⟩
                      case measure => simp only [intOf]; exact HM2.out (by omega))
                   | (go_ret2
                      exact ⟨_, _, rfl, (by first | exact (wrap_in _).1 | omega), Int.ediv_nonneg (wrap_in _).1 (Int.le_of_lt (Int.pow_pos (by decide))), 0, rfl⟩))
end
section
open Go.RowKit
open Go.Lib hiding intOf
def badP (n : Nat) (a : Int) : Prop := n < 1 ∨ 1099511627776 < n ∨ a < 0 ∨ (n : Int) < a
def RetPar (n : Nat) (a : Int) (w : World) (e : Ending) (w' : World) : Prop := ∃ z k : Int, e = .returned (.tuple #[.int .i64 z, .int .i64 k]) ∧ (badP n a → k = 3) ∧ (¬ badP n a → k = 0) ∧ Below w.heap.size w w'
set_option maxRecDepth 100000 in
set_option maxHeartbeats 3200000 in
theorem partner_any (n : Nat) (a : Int) (w : World) (hn : n < 2199023255552) :
  Calls Tryz.prog 165 #[.int .i64 (n : Int), .int .i64 (n : Int), .bool false, .int .i64 a] w (RetPar n a w) := by
 by_cases h1 : n < 1
 ·have HB : Hid (badP n a) := .inl h1
  go_enter Tryz.func165, Tryz.ntmps165
  go_wp2
  go_ret2
  exact ⟨0, 3, rfl, fun _ => rfl, fun h => absurd HB.out h, Below.refl _ _⟩
 by_cases h2 : 1099511627776 < n
 ·have HB : Hid (badP n a) := .inr (.inl h2)
  go_enter Tryz.func165, Tryz.ntmps165
  go_wp2
  go_ret2
  exact ⟨0, 3, rfl, fun _ => rfl, fun h => absurd HB.out h, Below.refl _ _⟩
 by_cases h3 : a < 0
 ·have HB : Hid (badP n a) := .inr (.inr (.inl h3))
  go_enter Tryz.func165, Tryz.ntmps165
  go_wp2
  go_ret2
  exact ⟨0, 3, rfl, fun _ => rfl, fun h => absurd HB.out h, Below.refl _ _⟩
 by_cases h4 : (n : Int) < a
 ·have HB : Hid (badP n a) := .inr (.inr (.inr h4))
  go_enter Tryz.func165, Tryz.ntmps165
  go_wp2
  go_ret2
  exact ⟨0, 3, rfl, fun _ => rfl, fun h => absurd HB.out h, Below.refl _ _⟩
 have HB : Hid (¬ badP n a) := fun h => by
  rcases h with h | h | h | h
  ·exact h1 h
  ·exact h2 h
  ·exact h3 h
  ·exact h4 h
 obtain ⟨m, rfl⟩ : ∃ m : Nat, a = (m : Int) := ⟨a.toNat, by omega⟩
 have hle : m ≤ n := by omega
 have hhi : m * n / 18446744073709551616 < n := by
  refine Nat.div_lt_of_lt_mul ?_
  refine Nat.lt_of_le_of_lt (Nat.mul_le_mul_right n hle) ?_
  exact Nat.mul_lt_mul_of_pos_right (by omega) (by omega)
 have hlo : m * n % 18446744073709551616 < 18446744073709551616 := Nat.mod_lt _ (by omega)
 have HM := Lib.hid (fun W => Tryz.bits_Mul64 m n (by omega) (by omega) W)
 generalize m * n / 18446744073709551616 = hi at *
 generalize m * n % 18446744073709551616 = lo at *
 have HD := Lib.hid (fun W => div64_any hi lo n W hhi (by omega) hlo)
 go_enter Tryz.func165, Tryz.ntmps165
 go_wp2_with (first
  | (go_at_call 192; refine (HM.out _).mono ?_; rintro e w1 ⟨rfl, rfl⟩)
  | (go_at_call 193; refine (HD.out _).mono ?_; rintro e w2 ⟨q, r, rfl, hq, hr, kk, rfl⟩))
 all_goals
  go_ret2
  exact ⟨_, 0, rfl, fun h => absurd h HB.out, fun _ => rfl, below_of_drewN _ _ _⟩
end
end Go.Proofs.YtiibocdmlfedkaaGreatDoor
