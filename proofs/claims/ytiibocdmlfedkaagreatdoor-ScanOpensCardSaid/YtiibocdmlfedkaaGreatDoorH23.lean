/- Parts of the proof. -/
import Derived.Test.YtiibocdmlfedkaaGreatDoorH20
import Derived.Test.YtiibocdmlfedkaaGreatDoorH21
namespace Go.Proofs.YtiibocdmlfedkaaGreatDoor
section
open Go.RowKit
open Go.Lib hiding intOf
theorem spot_in {w : World} {A : Option Addr} {n : Nat} {ps : List Pt} (h : Recs 2 spotG w A n ps) {b off : Nat} (e : A = some ⟨b, off, none⟩) {j : Nat} (hj : j < n) : w.cell? ⟨b, off + j * 2, none⟩ = some (.int .i64 (vtx ps j).1) ∧ w.cell? ⟨b, off + j * 2 + 1, none⟩ = some (.int .i64 (vtx ps j).2) := by
 obtain ⟨b', off', p, e', _, hp, c0, c1⟩ := spot_at h hj
 rw [e] at e'
 injection e' with e'
 injection e' with e1 e2
 subst e1
 subst e2
 have hl := h.len
 have : vtx ps j = p := vtx_at (by rw [hl, Nat.mod_eq_of_lt hj]; exact hp)
 rw [this]
 exact ⟨c0, c1⟩
theorem vtx_mod (ps : List Pt) (j : Nat) : vtx ps (j % ps.length) = vtx ps j := by unfold vtx; rw [Nat.mod_mod]
theorem vtx_grid {ps : List Pt} (h : ∀ p ∈ ps, inG p) (h0 : 0 < ps.length) (j : Nat) : inG (vtx ps j) := by
 have hlt : j % ps.length < ps.length := Nat.mod_lt _ h0
 refine h _ ?_
 rw [← vtx_mod]
 exact List.mem_of_getElem? (vtx_lt hlt)
theorem cell_keep {w w' : World} {g o1 : Nat} {a0 a1 : Value} (hg : g < w.heap.size) (c0 : w.cell? ⟨g, o1, none⟩ = some a0) (c1 : w.cell? ⟨g, o1 + 1, none⟩ = some a1) (hb : Below w.heap.size w w') : w'.cell? ⟨g, o1, none⟩ = some a0 ∧ w'.cell? ⟨g, o1 + 1, none⟩ = some a1 :=
 ⟨(hb.cell (p := ⟨g, o1, none⟩) hg).trans c0, (hb.cell (p := ⟨g, o1 + 1, none⟩) hg).trans c1⟩
theorem box_keep {w w' : World} {g : Nat} {a : Pt} (h : Blk w g 74 #[.int .i64 a.1, .int .i64 a.2]) (hb : Below w.heap.size w w') : w'.cell? ⟨g, 0, none⟩ = some (.int .i64 a.1) ∧ w'.cell? ⟨g, 1, none⟩ = some (.int .i64 a.2) :=
 ⟨(h.below hb).c rfl, (h.below hb).c rfl⟩
theorem six_keep {w w' : World} {g1 g2 g o : Nat} {a b p : Pt} (h1 : Blk w g1 74 #[.int .i64 a.1, .int .i64 a.2]) (h2 : Blk w g2 74 #[.int .i64 b.1, .int .i64 b.2]) (hg : g < w.heap.size) (c : w.cell? ⟨g, o, none⟩ = some (.int .i64 p.1) ∧ w.cell? ⟨g, o + 1, none⟩ = some (.int .i64 p.2)) (hb : Below w.heap.size w w') :
  (w'.cell? ⟨g1, 0, none⟩ = some (.int .i64 a.1) ∧ w'.cell? ⟨g1, 1, none⟩ = some (.int .i64 a.2)) ∧ (w'.cell? ⟨g2, 0, none⟩ = some (.int .i64 b.1) ∧ w'.cell? ⟨g2, 1, none⟩ = some (.int .i64 b.2)) ∧ w'.cell? ⟨g, o, none⟩ = some (.int .i64 p.1) ∧ w'.cell? ⟨g, o + 1, none⟩ = some (.int .i64 p.2) :=
 ⟨box_keep h1 hb, box_keep h2 hb, cell_keep hg c.1 c.2 hb⟩
theorem eight_keep {w w' : World} {g1 g2 g o o2 : Nat} {a b p q : Pt} (h1 : Blk w g1 74 #[.int .i64 a.1, .int .i64 a.2]) (h2 : Blk w g2 74 #[.int .i64 b.1, .int .i64 b.2]) (hg : g < w.heap.size) (c : w.cell? ⟨g, o, none⟩ = some (.int .i64 p.1) ∧ w.cell? ⟨g, o + 1, none⟩ = some (.int .i64 p.2)) (d : w.cell? ⟨g, o2, none⟩ = some (.int .i64 q.1) ∧ w.cell? ⟨g, o2 + 1, none⟩ = some (.int .i64 q.2)) (hb : Below w.heap.size w w') :
  (w'.cell? ⟨g1, 0, none⟩ = some (.int .i64 a.1) ∧ w'.cell? ⟨g1, 1, none⟩ = some (.int .i64 a.2)) ∧ (w'.cell? ⟨g2, 0, none⟩ = some (.int .i64 b.1) ∧ w'.cell? ⟨g2, 1, none⟩ = some (.int .i64 b.2)) ∧ (w'.cell? ⟨g, o, none⟩ = some (.int .i64 p.1) ∧ w'.cell? ⟨g, o + 1, none⟩ = some (.int .i64 p.2)) ∧ w'.cell? ⟨g, o2, none⟩ = some (.int .i64 q.1) ∧ w'.cell? ⟨g, o2 + 1, none⟩ = some (.int .i64 q.2) :=
 ⟨box_keep h1 hb, box_keep h2 hb, cell_keep hg c.1 c.2 hb, cell_keep hg d.1 d.2 hb⟩
theorem on_grid {ps : List Pt} {n : Nat} (hl : ps.length = n) (j : Nat) : vtx ps (j % n) = vtx ps j := by rw [← hl]; exact vtx_mod ps j
theorem row_done {n k j : Nat} (h : (j + 1) % n = k) (hj : j < n) (hk : k + 2 ≤ j) : j + 1 = n := by
 by_cases e : j + 1 = n
 ·exact e
 ·rw [Nat.mod_eq_of_lt (by omega)] at h
  omega
set_option maxRecDepth 100000 in
set_option maxHeartbeats 6400000 in
theorem simple_any (A : Option Addr) (n c : Nat) (ps : List Pt) (w : World) (ha : Recs 2 spotG w A n ps) (hc : n ≤ c) (hn : n ≤ 1000000) (hg : ∀ p ∈ ps, inG p) :
  Calls Tryz.prog 190 #[.slice A n c] w fun e w' => e = .returned (.bool (simpleP ps)) ∧ Below w.heap.size w w' := by
 have HA := Lib.hid ha
 have HL := Lib.hid ha.len
 have HG := Lib.hid hg
 clear ha hg
 go_enter Tryz.func190, Tryz.ntmps190
 go_wp2
 go_loopw [4, 5, 14] (fun s4 s5 i wr => ∃ k : Nat, k ≤ n ∧ i = .int .i64 (k : Int) ∧ Hid (∀ (i : Nat) (a : Pt), i < k → ps[i]? = some a → a ∉ ps.take i) ∧ Below w.heap.size w wr) (fun _ _ i _ => n - (intOf i).toNat)
 case atStart => exact ⟨0, Nat.zero_le _, rfl, (fun j p h => by omega), Below.refl _ _⟩
 case round =>
  obtain ⟨k, hk, rfl, hall, hbel⟩ := hrel
  by_cases hlt : k < n
  ·have hsp := HA.out.on spot_mono hbel
   obtain ⟨b, off, p, rfl, hbw, hp, c0, c1⟩ := spot_at hsp hlt
   have HP := Lib.hid hp
   have HB := Lib.hid hbel
   have hal := box_spot p wr
   have HAL := Lib.hid hal
   have HC := Lib.hid (fun W (hb : Below (wr.alloc (.cells #[.int .i64 p.1, .int .i64 p.2] 74)).heap.size (wr.alloc (.cells #[.int .i64 p.1, .int .i64 p.2] 74)) W) => contains_spot (some ⟨b, off, none⟩) k c (ps.take k) p W (((hsp.take (i := k) (by omega)).on spot_mono hal).on spot_mono hb) (by omega))
   have i1 : (0 : Int) ≤ (k : Int) := by omega
   have i2 : (k : Int) < (n : Int) := by omega
   have i3 : (k : Int) ≤ (c : Int) := by omega
   have HX := Lib.hid (Blk.new wr 74 #[.int .i64 p.1, .int .i64 p.2])
   have hu := Below.refl (wr.alloc (.cells #[.int .i64 p.1, .int .i64 p.2] 74)).heap.size (wr.alloc (.cells #[.int .i64 p.1, .int .i64 p.2] 74))
   clear hp hbel hsp hal
   by_cases hm : p ∈ ps.take k
   ·have HE : Hid (simpleP ps = false) := simple_twice HP.out hm
    simp only [decide_eq_true hm] at HC
    clear hm
    go_wp2_with fail
    go_region_held3 (fun w' => w'.cell? ⟨wr.heap.size, 0, none⟩ = some (.int .i64 p.1) ∧ w'.cell? ⟨wr.heap.size, 1, none⟩ = some (.int .i64 p.2))
     ((refine box_keep HX.out ?_; repeat (first | (with_reducible exact Below.refl _ _) | (with_reducible exact hu) | (with_reducible refine Below.drew ?_))))
     ((go_at_call 211; go_must ((refine (HC.out _ (by repeat (first | (with_reducible exact Below.refl _ _) | (with_reducible refine Below.drew ?_)))).mono ?_); rintro e w1 ⟨rfl, hv⟩; replace hu := below_then hu hv; clear hv)))
    go_wp2_with fail
    go_ret
    exact ⟨by rw [HE.out]; rfl, HB.out.trans ((HAL.out.trans (hu.mono HAL.out.size)).mono HB.out.size)⟩
   ·have HE : Hid (∀ (i : Nat) (a : Pt), i < k + 1 → ps[i]? = some a → a ∉ ps.take i) := fun j p' hj hp' => by
     by_cases e : j = k
     ·subst e
      rw [HP.out] at hp'
      rw [← Option.some.inj hp']
      exact hm
     ·exact hall.out j p' (by omega) hp'
    simp only [decide_eq_false hm] at HC
    clear hm
    go_wp2_with fail
    go_region_held3 (fun w' => w'.cell? ⟨wr.heap.size, 0, none⟩ = some (.int .i64 p.1) ∧ w'.cell? ⟨wr.heap.size, 1, none⟩ = some (.int .i64 p.2))
     ((refine box_keep HX.out ?_; repeat (first | (with_reducible exact Below.refl _ _) | (with_reducible exact hu) | (with_reducible refine Below.drew ?_))))
     ((go_at_call 211; go_must ((refine (HC.out _ (by repeat (first | (with_reducible exact Below.refl _ _) | (with_reducible refine Below.drew ?_)))).mono ?_); rintro e w1 ⟨rfl, hv⟩; replace hu := below_then hu hv; clear hv)))
    go_wp2_with fail
    go_roundw
    case rel => exact ⟨k + 1, by omega, by go_num, HE, HB.out.trans ((HAL.out.trans (hu.mono HAL.out.size)).mono HB.out.size)⟩
    case measure => simp [intOf]; omega
  ·obtain rfl : n = k := by omega
   have H1 : Hid (∀ (i : Nat) (a : Pt), ps[i]? = some a → a ∉ ps.take i) := fun i a h => hall.out i a (by have := (List.getElem?_eq_some_iff.1 h).1; rw [HL.out] at this; exact this) h
   have HB := Lib.hid hbel
   obtain ⟨wo, rfl⟩ : ∃ wo : World, wo = wr := ⟨_, rfl⟩
   clear hall hbel hk
   go_wp2_with fail
   go_loopw [27] (fun i wr => ∃ k : Nat, k ≤ n ∧ i = .int .i64 (k : Int) ∧ Hid (∀ i, i < k → foldedP (vtx ps i) (vtx ps (i + 1)) (vtx ps (i + 2)) = false) ∧ Hid (∀ i j, i < k → j < n → i + 2 ≤ j → (j + 1) % n ≠ i → meetP (vtx ps i) (vtx ps (i + 1)) (vtx ps j) (vtx ps (j + 1)) = false) ∧ Below wo.heap.size wo wr) (fun i _ => n - (intOf i).toNat)
   case atStart => exact ⟨0, Nat.zero_le _, rfl, (fun i h => by omega), (fun i j h => by omega), Below.refl _ _⟩
   case round =>
    obtain ⟨k, hk, rfl, hF, hM, hbel⟩ := hrel
    have HB := Lib.hid (HB.out.trans (hbel.mono HB.out.size))
    have HBO := Lib.hid hbel
    by_cases hlt : k < n
    ·have hsp := HA.out.on spot_mono HB.out
     obtain ⟨b, off, p0, rfl, hbw, z0, z1, z2⟩ := spot_at hsp hlt
     clear z0 z1 z2
     have q0 := spot_in hsp rfl hlt
     obtain ⟨m1, hm1⟩ : ∃ m, (k + 1) % n = m := ⟨_, rfl⟩
     obtain ⟨m2, hm2⟩ : ∃ m, (k + 2) % n = m := ⟨_, rfl⟩
     have l1 : m1 < n := by rw [← hm1]; exact Nat.mod_lt _ (by omega)
     have l2 : m2 < n := by rw [← hm2]; exact Nat.mod_lt _ (by omega)
     have q1 := spot_in hsp rfl l1
     have q2 := spot_in hsp rfl l2
     have e1 : vtx ps m1 = vtx ps (k + 1) := by rw [← hm1]; exact on_grid HL.out _
     have e2 : vtx ps m2 = vtx ps (k + 2) := by rw [← hm2]; exact on_grid HL.out _
     rw [e1] at q1
     rw [e2] at q2
     have ga := vtx_grid HG.out (by rw [HL.out]; omega) k
     have gb := vtx_grid HG.out (by rw [HL.out]; omega) (k + 1)
     have gc := vtx_grid HG.out (by rw [HL.out]; omega) (k + 2)
     obtain ⟨pa, hpa⟩ : ∃ p, vtx ps k = p := ⟨_, rfl⟩
     obtain ⟨pb, hpb⟩ : ∃ p, vtx ps (k + 1) = p := ⟨_, rfl⟩
     obtain ⟨pc, hpc⟩ : ∃ p, vtx ps (k + 2) = p := ⟨_, rfl⟩
     rw [hpa] at q0 ga
     rw [hpb] at q1 gb
     rw [hpc] at q2 gc
     have HV := Lib.hid (And.intro hpa (And.intro hpb hpc))
     have HFO := Lib.hid (fun W => folded_any pa pb pc W ga gb gc)
     have HGA := Lib.hid (And.intro ga gb)
     have HSP := Lib.hid hsp
     obtain ⟨q0a, q0b⟩ := q0
     obtain ⟨q1a, q1b⟩ := q1
     have hal : Below wr.heap.size wr ((wr.alloc (.cells #[.int .i64 pa.1, .int .i64 pa.2] 74)).alloc (.cells #[.int .i64 pb.1, .int .i64 pb.2] 74)) := ((Below.refl _ _).alloc (Nat.le_refl _) _).alloc (by simp) _
     have HAL := Lib.hid hal
     have HX1 := Lib.hid ((Blk.new wr 74 #[.int .i64 pa.1, .int .i64 pa.2]).alloc (.cells #[.int .i64 pb.1, .int .i64 pb.2] 74))
     have HX2 := Lib.hid (Blk.new' (wr.alloc (.cells #[.int .i64 pa.1, .int .i64 pa.2] 74)) 74 #[.int .i64 pb.1, .int .i64 pb.2] (g := wr.heap.size + 1) (by simp))
     have HK := fun w' => Lib.hid (six_keep (w' := w') HX1.out HX2.out (Nat.lt_of_lt_of_le hbw hal.size) (cell_keep hbw q2.1 q2.2 hal))
     have hbw2 := Lib.hid hbw
     have i1 : (0 : Int) ≤ (k : Int) := by omega
     have i2 : (k : Int) < (n : Int) := by omega
     have i3 : ((k : Int) + 1) % (n : Int) = (m1 : Int) := by rw [← hm1, Int.natCast_emod]; rfl
     have i4 : (m1 : Int) < (n : Int) := by omega
     have i5 : (m2 : Int) < (n : Int) := by omega
     have i6 : IntKind.i64.wrap ((k : Int) + 2) = (k : Int) + 2 := IntWalk.i64_in _ (by omega)
     have i7 : ((k : Int) + 2).tmod (n : Int) = (m2 : Int) := by rw [← hm2]; rfl
     have i8 : ¬ n = 0 := by omega
     have i9 : ¬ (n : Int) = 0 := by omega
     have i10 : ((n : Int) == 0) = false := by simpa using i8
     have hu := Below.refl ((wr.alloc (.cells #[.int .i64 pa.1, .int .i64 pa.2] 74)).alloc (.cells #[.int .i64 pb.1, .int .i64 pb.2] 74)).heap.size ((wr.alloc (.cells #[.int .i64 pa.1, .int .i64 pa.2] 74)).alloc (.cells #[.int .i64 pb.1, .int .i64 pb.2] 74))
     clear hm1 hm2 e1 e2 hpa hpb hpc ga gb gc q2 hal hsp hbel
     obtain ⟨fo, hfo⟩ : ∃ f, foldedP pa pb pc = f := ⟨_, rfl⟩
     rw [hfo] at HFO
     have HFO2 := Lib.hid hfo
     clear hfo
     cases fo
     ·go_wp2_with fail
      go_region_held3 (fun w' => (w'.cell? ⟨wr.heap.size, 0, none⟩ = some (.int .i64 pa.1) ∧ w'.cell? ⟨wr.heap.size, 1, none⟩ = some (.int .i64 pa.2)) ∧ (w'.cell? ⟨wr.heap.size + 1, 0, none⟩ = some (.int .i64 pb.1) ∧ w'.cell? ⟨wr.heap.size + 1, 1, none⟩ = some (.int .i64 pb.2)) ∧ w'.cell? ⟨b, off + m2 * 2, none⟩ = some (.int .i64 pc.1) ∧ w'.cell? ⟨b, off + m2 * 2 + 1, none⟩ = some (.int .i64 pc.2))
       ((refine (HK _).out ?_; repeat (first | (with_reducible exact Below.refl _ _) | (with_reducible exact hu) | (with_reducible refine Below.drew ?_))))
       ((go_at_call 212; go_must ((with_reducible refine (HFO.out _).mono ?_); rintro e w1 ⟨rfl, hv⟩; replace hu := below_then hu hv; clear hv)))
      have HU := Lib.hid hu
      have HF2 : Hid (∀ i, i < k + 1 → foldedP (vtx ps i) (vtx ps (i + 1)) (vtx ps (i + 2)) = false) := fun i hi => by
       by_cases e : i = k
       ·subst e
        rw [HV.out.1, HV.out.2.1, HV.out.2.2]
        exact HFO2.out
       ·exact hF.out i (by omega)
      clear i3 i4 i5 i6 i7 hu HFO q0a q0b q1a q1b HK l1 l2
      go_wp2_with fail
      obtain ⟨wm, rfl⟩ : ∃ wm : World, wm = wr := ⟨_, rfl⟩
      go_loopw [9] (fun i wr => ∃ j : Nat, k + 2 ≤ j ∧ j ≤ n + 1 ∧ i = .int .i64 (j : Int) ∧ Hid (∀ i, k + 2 ≤ i → i < j → i < n → (i + 1) % n ≠ k → meetP pa pb (vtx ps i) (vtx ps (i + 1)) = false) ∧ Below ((wm.alloc (.cells #[.int .i64 pa.1, .int .i64 pa.2] 74)).alloc (.cells #[.int .i64 pb.1, .int .i64 pb.2] 74)).heap.size ((wm.alloc (.cells #[.int .i64 pa.1, .int .i64 pa.2] 74)).alloc (.cells #[.int .i64 pb.1, .int .i64 pb.2] 74)) wr) (fun i _ => n + 2 - (intOf i).toNat)
      case atStart => exact ⟨k + 2, by omega, by omega, by go_num, (fun i h h2 => by omega), HU.out⟩
      case round =>
       obtain ⟨j, hj1, hj2, rfl, hI, hbel⟩ := hrel
       obtain ⟨m, hm⟩ : ∃ m, (j + 1) % n = m := ⟨_, rfl⟩
       have lm : m < n := by rw [← hm]; exact Nat.mod_lt _ (by omega)
       have HBI := Lib.hid hbel
       have j1 : ((j : Int) + 1) % (n : Int) = (m : Int) := by rw [← hm, Int.natCast_emod]; rfl
       have hdone : ∀ (hx : ∀ i, k + 2 ≤ i → i < n → (i + 1) % n ≠ k → i < j), Hid (∀ i j, i < k + 1 → j < n → i + 2 ≤ j → (j + 1) % n ≠ i → meetP (vtx ps i) (vtx ps (i + 1)) (vtx ps j) (vtx ps (j + 1)) = false) := fun hx i j' hi hj' h2 h3 => by
        by_cases e : i = k
        ·subst e
         rw [HV.out.1, HV.out.2.1]
         exact hI.out j' h2 (hx j' h2 hj' h3) hj' h3
        ·exact hM.out i j' (by omega) hj' h2 h3
       by_cases hlt2 : j < n
       ·by_cases hmk : m = k
        ·have HD := hdone (fun i h1 h2 h3 => by
          have := row_done (hm.trans hmk) hlt2 (by omega)
          by_cases e : i = j
          ·subst e
           exact absurd (hm.trans hmk) h3
          ·omega)
         have j2 : ((m : Int) != (k : Int)) = false := by simp; omega
         have j3 : (j : Int) < (n : Int) := by omega
         clear hm hmk hdone hI hbel
         go_wp2_with fail
         go_roundw
         case rel => exact ⟨k + 1, by omega, by go_num, HF2, HD, HBO.out.trans ((HAL.out.trans (HBI.out.mono HAL.out.size)).mono HBO.out.size)⟩
         case measure => simp [intOf]; omega
        ·have hspi := (HSP.out.on spot_mono HAL.out).on spot_mono HBI.out
         have q0 := spot_in hspi rfl hlt2
         have q1 := spot_in hspi rfl lm
         have e1 : vtx ps m = vtx ps (j + 1) := by rw [← hm]; exact on_grid HL.out _
         rw [e1] at q1
         have ga := vtx_grid HG.out (by rw [HL.out]; omega) j
         have gb := vtx_grid HG.out (by rw [HL.out]; omega) (j + 1)
         obtain ⟨px, hpx⟩ : ∃ p, vtx ps j = p := ⟨_, rfl⟩
         obtain ⟨py, hpy⟩ : ∃ p, vtx ps (j + 1) = p := ⟨_, rfl⟩
         rw [hpx] at q0 ga
         rw [hpy] at q1 gb
         have HVI := Lib.hid (And.intro hpx hpy)
         have HMI := Lib.hid (fun W => meet_any pa pb px py W HGA.out.1 HGA.out.2 ga gb)
         have HMK := Lib.hid (show (j + 1) % n ≠ k by rw [hm]; exact hmk)
         have HK := fun w' => Lib.hid (eight_keep (w' := w') (HX1.out.below HBI.out) (HX2.out.below HBI.out) (Nat.lt_of_lt_of_le hbw2.out (Nat.le_trans HAL.out.size HBI.out.size)) q0 q1)
         have j2 : ((m : Int) != (k : Int)) = true := by simp; omega
         have j3 : (j : Int) < (n : Int) := by omega
         have j4 : (0 : Int) ≤ (j : Int) := by omega
         have j5 : (m : Int) < (n : Int) := by omega
         have j6 : IntKind.i64.wrap ((j : Int) + 1) = (j : Int) + 1 := IntWalk.i64_in _ (by omega)
         have j7 : ((j : Int) + 1).tmod (n : Int) = (m : Int) := by rw [← hm]; rfl
         have hu := Below.refl wr.heap.size wr
         clear hm hmk hdone hbel hspi e1 hpx hpy ga gb q0 q1 lm
         obtain ⟨mo, hmo⟩ : ∃ f, meetP pa pb px py = f := ⟨_, rfl⟩
         rw [hmo] at HMI
         have HMO := Lib.hid hmo
         clear hmo
         cases mo
         ·have HIN : Hid (∀ i, k + 2 ≤ i → i < j + 1 → i < n → (i + 1) % n ≠ k → meetP pa pb (vtx ps i) (vtx ps (i + 1)) = false) := fun i h1 h2 h3 h4 => by
           by_cases e : i = j
           ·subst e
            rw [HVI.out.1, HVI.out.2]
            exact HMO.out
           ·exact hI.out i h1 (by omega) h3 h4
          go_wp2_with fail
          go_region_held3 (fun w' => (w'.cell? ⟨wm.heap.size, 0, none⟩ = some (.int .i64 pa.1) ∧ w'.cell? ⟨wm.heap.size, 1, none⟩ = some (.int .i64 pa.2)) ∧ (w'.cell? ⟨wm.heap.size + 1, 0, none⟩ = some (.int .i64 pb.1) ∧ w'.cell? ⟨wm.heap.size + 1, 1, none⟩ = some (.int .i64 pb.2)) ∧ (w'.cell? ⟨b, off + j * 2, none⟩ = some (.int .i64 px.1) ∧ w'.cell? ⟨b, off + j * 2 + 1, none⟩ = some (.int .i64 px.2)) ∧ w'.cell? ⟨b, off + m * 2, none⟩ = some (.int .i64 py.1) ∧ w'.cell? ⟨b, off + m * 2 + 1, none⟩ = some (.int .i64 py.2))
           ((refine (HK _).out ?_; repeat (first | (with_reducible exact Below.refl _ _) | (with_reducible exact hu) | (with_reducible refine Below.drew ?_))))
           ((go_at_call 213; go_must ((with_reducible refine (HMI.out _).mono ?_); rintro e w1 ⟨rfl, hv⟩; replace hu := below_then hu hv; clear hv)))
          clear j6 j7
          go_wp2_with fail
          go_roundw
          case rel => exact ⟨j + 1, by omega, by omega, by go_num, HIN, HBI.out.trans (hu.mono HBI.out.size)⟩
          case measure => simp [intOf]; omega
         ·have HE : Hid (simpleP ps = false) := simple_meet (i := k) (k := j) (by rw [HL.out]; exact hlt) (by rw [HL.out]; exact hlt2) hj1 (by rw [HL.out]; exact HMK.out) (by rw [HV.out.1, HV.out.2.1, HVI.out.1, HVI.out.2]; exact HMO.out)
          go_wp2_with fail
          go_region_held3 (fun w' => (w'.cell? ⟨wm.heap.size, 0, none⟩ = some (.int .i64 pa.1) ∧ w'.cell? ⟨wm.heap.size, 1, none⟩ = some (.int .i64 pa.2)) ∧ (w'.cell? ⟨wm.heap.size + 1, 0, none⟩ = some (.int .i64 pb.1) ∧ w'.cell? ⟨wm.heap.size + 1, 1, none⟩ = some (.int .i64 pb.2)) ∧ (w'.cell? ⟨b, off + j * 2, none⟩ = some (.int .i64 px.1) ∧ w'.cell? ⟨b, off + j * 2 + 1, none⟩ = some (.int .i64 px.2)) ∧ w'.cell? ⟨b, off + m * 2, none⟩ = some (.int .i64 py.1) ∧ w'.cell? ⟨b, off + m * 2 + 1, none⟩ = some (.int .i64 py.2))
           ((refine (HK _).out ?_; repeat (first | (with_reducible exact Below.refl _ _) | (with_reducible exact hu) | (with_reducible refine Below.drew ?_))))
           ((go_at_call 213; go_must ((with_reducible refine (HMI.out _).mono ?_); rintro e w1 ⟨rfl, hv⟩; replace hu := below_then hu hv; clear hv)))
          clear j6 j7
          go_wp2_with fail
          go_ret
          exact ⟨by rw [HE.out]; rfl, HB.out.trans ((HAL.out.trans ((HBI.out.trans (hu.mono HBI.out.size)).mono HAL.out.size)).mono HB.out.size)⟩
       ·have HD := hdone (fun i h1 h2 h3 => by omega)
        have j3 : ¬ (j : Int) < (n : Int) := by omega
        clear hm hdone hI hbel
        go_wp2_with fail
        go_roundw
        case rel => exact ⟨k + 1, by omega, by go_num, HF2, HD, HBO.out.trans ((HAL.out.trans (HBI.out.mono HAL.out.size)).mono HBO.out.size)⟩
        case measure => simp [intOf]; omega
     ·have HE : Hid (simpleP ps = false) := simple_fold (i := k) (by rw [HL.out]; exact hlt) (by rw [HV.out.1, HV.out.2.1, HV.out.2.2]; exact HFO2.out)
      go_wp2_with fail
      go_region_held3 (fun w' => (w'.cell? ⟨wr.heap.size, 0, none⟩ = some (.int .i64 pa.1) ∧ w'.cell? ⟨wr.heap.size, 1, none⟩ = some (.int .i64 pa.2)) ∧ (w'.cell? ⟨wr.heap.size + 1, 0, none⟩ = some (.int .i64 pb.1) ∧ w'.cell? ⟨wr.heap.size + 1, 1, none⟩ = some (.int .i64 pb.2)) ∧ w'.cell? ⟨b, off + m2 * 2, none⟩ = some (.int .i64 pc.1) ∧ w'.cell? ⟨b, off + m2 * 2 + 1, none⟩ = some (.int .i64 pc.2))
       ((refine (HK _).out ?_; repeat (first | (with_reducible exact Below.refl _ _) | (with_reducible exact hu) | (with_reducible refine Below.drew ?_))))
       ((go_at_call 212; go_must ((with_reducible refine (HFO.out _).mono ?_); rintro e w1 ⟨rfl, hv⟩; replace hu := below_then hu hv; clear hv)))
      go_wp2_with fail
      go_ret
      exact ⟨by rw [HE.out]; rfl, HB.out.trans ((HAL.out.trans (hu.mono HAL.out.size)).mono HB.out.size)⟩
    ·obtain rfl : n = k := by omega
     have HE : Hid (simpleP ps = true) := simple_yes H1.out (fun i hi => hF.out i (by rw [HL.out] at hi; exact hi)) (fun i j hi hj h2 h3 => hM.out i j (by rw [HL.out] at hi; exact hi) (by rw [HL.out] at hj; exact hj) h2 (by rw [HL.out] at h3; exact h3))
     clear hF hM hbel
     go_wp2_with fail
     go_ret
     exact ⟨by rw [HE.out]; rfl, HB.out⟩
set_option maxRecDepth 100000 in
set_option maxHeartbeats 1600000 in
theorem pg_check (A : Option Addr) (n c : Nat) (ps : List Pt) (w : World) (ha : Recs 2 spotG w A n ps) (hc : n ≤ c) (hn : n ≤ 1000000) :
  Calls Tryz.prog 161 #[.slice A n c] w fun e w' => e = .returned (.int .i64 (polygonE ps)) ∧ Below w.heap.size w w' := by
 have HA := Lib.hid ha
 have HL := Lib.hid ha.len
 have HF := Lib.hid (containsF_any 189 outB pg_pred A n c ps w ha hn)
 clear ha
 by_cases h40 : 40 < n
 ·have HE : Hid (polygonE ps = 5) := gon_long (by rw [HL.out]; exact h40)
  go_enter Tryz.func161, Tryz.ntmps161
  go_wp2
  go_ret
  exact ⟨by rw [HE.out]; rfl, Below.refl _ _⟩
 ·by_cases h2 : n < 3
  ·have HE : Hid (polygonE ps = 11) := gon_few (by rw [HL.out]; exact h40) (by rw [HL.out]; exact h2)
   go_enter Tryz.func161, Tryz.ntmps161
   go_wp2
   go_ret
   exact ⟨by rw [HE.out]; rfl, Below.refl _ _⟩
  ·have HP := Lib.hid (And.intro (show ¬ 40 < ps.length by rw [HL.out]; exact h40) (show ¬ ps.length < 3 by rw [HL.out]; exact h2))
   cases ho : ps.any outB
   ·rw [ho] at HF
    have hg : ∀ p ∈ ps, inG p := fun p hp => by
     rw [← inG_iff]
     obtain ⟨j, hj⟩ := List.getElem?_of_mem hp
     exact out_first.1 ho j p hj
    have HS := Lib.hid (fun W (hb : Below w.heap.size w W) => simple_any A n c ps W (HA.out.on spot_mono hb) hc hn hg)
    have HO := Lib.hid ho
    clear ho hg
    cases hs : simpleP ps
    ·have HE : Hid (polygonE ps = 11) := gon_cross HP.out.1 HP.out.2 HO.out hs
     simp only [hs] at HS
     clear hs
     go_enter Tryz.func161, Tryz.ntmps161
     go_wp2_with (first
      | (go_at_call 187; refine HF.out.mono ?_; rintro e w1 ⟨rfl, hb1⟩; have HB1 := Lib.hid hb1; clear hb1)
      | (go_at_call 190; refine (HS.out _ HB1.out).mono ?_; rintro e w2 ⟨rfl, hb2⟩; have HB2 := Lib.hid (below_then HB1.out hb2); clear hb2))
     go_ret
     exact ⟨by rw [HE.out]; rfl, HB2.out⟩
    ·have HE : Hid (polygonE ps = 0) := gon_ok HP.out.1 HP.out.2 HO.out hs
     simp only [hs] at HS
     clear hs
     go_enter Tryz.func161, Tryz.ntmps161
     go_wp2_with (first
      | (go_at_call 187; refine HF.out.mono ?_; rintro e w1 ⟨rfl, hb1⟩; have HB1 := Lib.hid hb1; clear hb1)
      | (go_at_call 190; refine (HS.out _ HB1.out).mono ?_; rintro e w2 ⟨rfl, hb2⟩; have HB2 := Lib.hid (below_then HB1.out hb2); clear hb2))
     go_ret
     exact ⟨by rw [HE.out]; rfl, HB2.out⟩
   ·rw [ho] at HF
    have HE : Hid (polygonE ps = 3) := gon_out HP.out.1 HP.out.2 ho
    clear ho
    go_enter Tryz.func161, Tryz.ntmps161
    go_wp2_with (go_at_call 187; refine HF.out.mono ?_; rintro e w1 ⟨rfl, hb1⟩; have HB1 := Lib.hid hb1; clear hb1)
    go_ret
    exact ⟨by rw [HE.out]; rfl, HB1.out⟩
end
end Go.Proofs.YtiibocdmlfedkaaGreatDoor
