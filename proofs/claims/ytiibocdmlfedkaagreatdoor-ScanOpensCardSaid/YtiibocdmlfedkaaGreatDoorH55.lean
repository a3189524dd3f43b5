/- Parts of the proof. -/
import Derived.Test.YtiibocdmlfedkaaGreatDoorH52
import Derived.Test.YtiibocdmlfedkaaGreatDoorH54
namespace Go.Proofs.YtiibocdmlfedkaaGreatDoor
section
open Go.RowKit
open Go.Lib hiding intOf
set_option maxRecDepth 100000 in
set_option maxHeartbeats 12800000 in
theorem rsimple_any (A : Option Addr) (n c : Nat) (ps : List Pt) (w : World) (ha : Recs 2 spotG w A n ps) (h3 : 3 ≤ n) (hn : n ≤ 1000) (hg : ∀ p ∈ ps, inG p) :
  Calls Tryz.prog 205 #[.slice A n c] w fun e w' => e = .returned (.bool (simpleP ps)) ∧ Below w.heap.size w w' := by
 have HA := Lib.hid ha
 have HL := Lib.hid ha.len
 have HG := Lib.hid hg
 have H3 : Hid (3 ≤ ps.length) := by rw [Hid, HL.out]; exact h3
 clear ha hg
 go_enter Tryz.func205, Tryz.ntmps205
 go_wp2
 go_loopw [4, 5, 6, 7, 8] (fun i _ _ _ _ wr => ∃ k : Nat, k ≤ n ∧ i = .int .i64 (k : Int) ∧ Hid (∀ i, i < k → vtx ps i ≠ vtx ps (i + 1) ∧ onP (vtx ps i) (vtx ps (i + 1)) (vtx ps (i + 2)) = false ∧ onP (vtx ps (i + 1)) (vtx ps (i + 2)) (vtx ps i) = false) ∧ Hid (∀ i j, i < k → j < n → i + 2 ≤ j → (j + 1) % n ≠ i → meetP (vtx ps i) (vtx ps (i + 1)) (vtx ps j) (vtx ps (j + 1)) = false) ∧ Hid (Below w.heap.size w wr)) (fun i _ _ _ _ _ => n - (intOf i).toNat)
 case atStart => exact ⟨0, Nat.zero_le _, rfl, (fun i h => by omega), (fun i j h => by omega), Below.refl _ _⟩
 case round =>
  obtain ⟨k, hk, rfl, hF, hM, HB⟩ := hrel
  obtain ⟨wm, rfl⟩ : ∃ v, v = wr := ⟨_, rfl⟩
  by_cases hlt : k < n
  ·have hsp := HA.out.on spot_mono HB.out
   obtain ⟨b, off, p0, rfl, hbw, z0, z1, z2⟩ := spot_at hsp hlt
   clear z0 z1 z2
   have q0 := spot_in hsp rfl hlt
   obtain ⟨m1, hm1⟩ : ∃ m, (k + 1) % n = m := ⟨_, rfl⟩
   obtain ⟨m2, hm2⟩ : ∃ m, (k + 2) % n = m := ⟨_, rfl⟩
   have l1 : m1 < n := by rw [← hm1]; exact Nat.mod_lt _ (by omega)
   have l2 : m2 < n := by rw [← hm2]; exact Nat.mod_lt _ (by omega)
   have q1 := spot_in hsp rfl l1
   have e1 : vtx ps m1 = vtx ps (k + 1) := by rw [← hm1]; exact on_grid HL.out _
   have e2 : vtx ps m2 = vtx ps (k + 2) := by rw [← hm2]; exact on_grid HL.out _
   have HQ2 : Hid (∀ W, Below wm.heap.size wm W → W.cell? ⟨b, off + m2 * 2, none⟩ = some (.int .i64 (vtx ps (k + 2)).1) ∧ W.cell? ⟨b, off + m2 * 2 + 1, none⟩ = some (.int .i64 (vtx ps (k + 2)).2)) := fun W hb => by
    have := spot_in (hsp.on spot_mono hb) rfl l2
    rwa [e2] at this
   rw [e1] at q1
   have ga := vtx_grid HG.out (by rw [HL.out]; omega) k
   have gb := vtx_grid HG.out (by rw [HL.out]; omega) (k + 1)
   have gc := vtx_grid HG.out (by rw [HL.out]; omega) (k + 2)
   obtain ⟨pa, hpa⟩ : ∃ p, vtx ps k = p := ⟨_, rfl⟩
   obtain ⟨pb, hpb⟩ : ∃ p, vtx ps (k + 1) = p := ⟨_, rfl⟩
   obtain ⟨pc, hpc⟩ : ∃ p, vtx ps (k + 2) = p := ⟨_, rfl⟩
   rw [hpa] at q0 ga
   rw [hpb] at q1 gb
   rw [hpc] at HQ2 gc
   have HV := Lib.hid (And.intro hpa (And.intro hpb hpc))
   have HSP := Lib.hid hsp
   have HGR := Lib.hid (And.intro ga (And.intro gb gc))
   obtain ⟨q0a, q0b⟩ := q0
   obtain ⟨q1a, q1b⟩ := q1
   have i1 : (0 : Int) ≤ (k : Int) := by omega
   have i2 : (k : Int) < (n : Int) := by omega
   have i3 : ((k : Int) + 1).tmod (n : Int) = (m1 : Int) := by rw [← hm1]; rfl
   have i4 : (m1 : Int) < (n : Int) := by omega
   have i5 : (m2 : Int) < (n : Int) := by omega
   have i6 : IntKind.i64.wrap ((k : Int) + 2) = (k : Int) + 2 := IntWalk.i64_in _ (by omega)
   have i7 : ((k : Int) + 2).tmod (n : Int) = (m2 : Int) := by rw [← hm2]; rfl
   have i8 : ¬ n = 0 := by omega
   have i9 : ¬ (n : Int) = 0 := by omega
   have i10 : ((n : Int) == 0) = false := by simpa using i8
   have i11 : IntKind.i64.wrap ((k : Int) + 1) = (k : Int) + 1 := IntWalk.i64_in _ (by omega)
   clear hm1 hm2 e1 e2 hpa hpb hpc ga gb gc hsp
   go_wp2_with fail
   go_cut [5, 6] (fun v5 v6 wc => ∃ g h, v5 = .pointer (some ⟨g, 0, none⟩) ∧ v6 = .pointer (some ⟨h, 0, none⟩) ∧ Blk wc g 74 #[.int .i64 pa.1, .int .i64 pa.2] ∧ Blk wc h 74 #[.int .i64 pb.1, .int .i64 pb.2] ∧ Below wm.heap.size wm wc)
   case first =>
    go_region
    all_goals
     go_wp2_with fail
     go_meet
     refine ⟨_, _, rfl, rfl, Blk.below ?_ (Below.refl _ _).drew, Blk.below ?_ (Below.refl _ _).drew, Below.drew (((Below.refl _ _).alloc (Nat.le_refl _) _).alloc (by simp) _)⟩
     all_goals
      first
      | exact (Blk.new _ _ _).alloc _
      | exact Blk.new' _ _ _ (by simp)
   case rest =>
    obtain ⟨g, h, rfl, rfl, hg5, hg6, hbc⟩ := hcut
    obtain ⟨wn, rfl⟩ : ∃ v, v = wc := ⟨_, rfl⟩
    obtain ⟨q2a, q2b⟩ := HQ2.out wn hbc
    obtain ⟨W, hW⟩ : ∃ W, W = wn.alloc (.cells #[.int .i64 pc.1, .int .i64 pc.2] 74) := ⟨_, rfl⟩
    have hbw1 : Below wn.heap.size wn W := by rw [hW]; exact (Below.refl _ _).alloc (Nat.le_refl _) _
    have HBX := Lib.hid (hbc.trans (hbw1.mono hbc.size))
    have HBW := Lib.hid (HB.out.trans (HBX.out.mono HB.out.size))
    have HG5 := Lib.hid (hg5.below hbw1)
    have HG6 := Lib.hid (hg6.below hbw1)
    have HG7 : Hid (Blk W wn.heap.size 74 #[.int .i64 pc.1, .int .i64 pc.2]) := by rw [hW]; exact Blk.new _ _ _
    have HC := Lib.hid (fun U (hb : Below W.heap.size W U) => And.intro ((HG5.out.below hb).c (i := 0) rfl) (And.intro ((HG5.out.below hb).c (i := 1) rfl) (And.intro ((HG6.out.below hb).c (i := 0) rfl) (And.intro ((HG6.out.below hb).c (i := 1) rfl) (And.intro ((HG7.out.below hb).c (i := 0) rfl) ((HG7.out.below hb).c (i := 1) rfl))))))
    have hu := Lib.hid (Below.refl W.heap.size W)
    obtain ⟨p0, p1, p2, p3, p4, p5⟩ := HC.out _ hu.out
    have HO1 := fun U => rbet_any pa pb pc U HGR.out.1 HGR.out.2.1 HGR.out.2.2
    have HO2 := fun U => rbet_any pb pc pa U HGR.out.2.1 HGR.out.2.2 HGR.out.1
    have hqe := fun U => eqIn_spot pa pb U
    obtain ⟨o1, ho1⟩ : ∃ o, onP pa pb pc = o := ⟨_, rfl⟩
    obtain ⟨o2, ho2⟩ : ∃ o, onP pb pc pa = o := ⟨_, rfl⟩
    simp only [ho1] at HO1
    simp only [ho2] at HO2
    have HO1 := Lib.hid HO1
    have HO2 := Lib.hid HO2
    have HOO := Lib.hid (And.intro ho1 ho2)
    clear hbc hbw1 hg5 hg6 ho1 ho2 q0a q0b q1a q1b
    subst hW
    by_cases e : pa = pb
    ·have HE : Hid (simpleP ps = false) := ref_same (i := k) (by rw [HL.out]; exact hlt) H3.out (by rw [HV.out.1, HV.out.2.1]; exact e)
     simp only [decide_eq_true e] at hqe
     clear e
     go_wp2_with (go_at_call 222; (first | (with_reducible refine (HO1.out _).mono ?_) | (with_reducible refine (HO2.out _).mono ?_)); rintro e w1 ⟨rfl, hv⟩; replace hu := Lib.hid (below_then hu.out hv); clear hv; obtain ⟨p0, p1, p2, p3, p4, p5⟩ := HC.out _ hu.out)
     go_ret
     exact ⟨by rw [HE.out]; rfl, HBW.out.trans (hu.out.mono HBW.out.size)⟩
    have HNE := Lib.hid e
    simp only [decide_eq_false e] at hqe
    clear e
    cases o1
    ·cases o2
     ·go_wp2_with fail
      go_wp2_with (go_at_call 222; (first | (with_reducible refine (HO1.out _).mono ?_) | (with_reducible refine (HO2.out _).mono ?_)); rintro e w1 ⟨rfl, hv⟩; replace hu := Lib.hid (below_then hu.out hv); clear hv; obtain ⟨p0, p1, p2, p3, p4, p5⟩ := HC.out _ hu.out)
      have HU := Lib.hid hu.out
      have HF2 : Hid (∀ i, i < k + 1 → vtx ps i ≠ vtx ps (i + 1) ∧ onP (vtx ps i) (vtx ps (i + 1)) (vtx ps (i + 2)) = false ∧ onP (vtx ps (i + 1)) (vtx ps (i + 2)) (vtx ps i) = false) := fun i hi => by
       by_cases e : i = k
       ·subst e
        rw [HV.out.1, HV.out.2.1, HV.out.2.2]
        exact ⟨HNE.out, HOO.out.1, HOO.out.2⟩
       ·exact hF.out i (by omega)
      have hbel0 := hu.out
      have HSPW := Lib.hid ((HSP.out.on spot_mono HBX.out))
      clear q2a q2b i3 i4 i5 i7 p0 p1 p2 p3 p4 p5 HO1 HO2 hqe hu hF HC HQ2 HOO HNE i11
      go_wp2_with fail
      go_loopw [8] (fun i wr => ∃ j : Nat, k + 2 ≤ j ∧ j ≤ n + 1 ∧ i = .int .i64 (j : Int) ∧ Hid (∀ i, k + 2 ≤ i → i < j → i < n → (i + 1) % n ≠ k → meetP pa pb (vtx ps i) (vtx ps (i + 1)) = false) ∧ Hid (Below (wn.alloc (.cells #[.int .i64 pc.1, .int .i64 pc.2] 74)).heap.size (wn.alloc (.cells #[.int .i64 pc.1, .int .i64 pc.2] 74)) wr)) (fun i _ => n + 1 - (intOf i).toNat)
      case atStart => exact ⟨k + 2, by omega, by omega, by go_num, (fun i h h2 => by omega), hbel0⟩
      case round =>
       obtain ⟨j, hj1, hj2, rfl, hI, HBI⟩ := hrel
       obtain ⟨wz, rfl⟩ : ∃ v, v = wr := ⟨_, rfl⟩
       obtain ⟨m, hm⟩ : ∃ m, (j + 1) % n = m := ⟨_, rfl⟩
       have lm : m < n := by rw [← hm]; exact Nat.mod_lt _ (by omega)
       have hdone : ∀ (hx : ∀ i, k + 2 ≤ i → i < n → (i + 1) % n ≠ k → i < j), Hid (∀ i j, i < k + 1 → j < n → i + 2 ≤ j → (j + 1) % n ≠ i → meetP (vtx ps i) (vtx ps (i + 1)) (vtx ps j) (vtx ps (j + 1)) = false) := fun hx i j' hi hj' h2 h3 => by
        by_cases e : i = k
        ·subst e
         rw [HV.out.1, HV.out.2.1]
         exact hI.out j' h2 (hx j' h2 hj' h3) hj' h3
        ·exact hM.out i j' (by omega) hj' h2 h3
       by_cases hlt2 : j < n
       ·have j3 : (j : Int) < (n : Int) := by omega
        have j4 : (0 : Int) ≤ (j : Int) := by omega
        have j6 : IntKind.i64.wrap ((j : Int) + 1) = (j : Int) + 1 := IntWalk.i64_in _ (by omega)
        have j7 : ((j : Int) + 1).tmod (n : Int) = (m : Int) := by rw [← hm]; rfl
        by_cases hmk : m = k
        ·have HIN : Hid (∀ i, k + 2 ≤ i → i < j + 1 → i < n → (i + 1) % n ≠ k → meetP pa pb (vtx ps i) (vtx ps (i + 1)) = false) := fun i h1 h2 h3 h4 => by
          by_cases e : i = j
          ·subst e
           exact absurd (hm.trans hmk) h4
          ·exact hI.out i h1 (by omega) h3 h4
         have j2 : ((m : Int) != (k : Int)) = false := by simp; omega
         clear hm hdone hmk
         go_wp2_with fail
         go_region
         go_wp2_with fail
         go_roundw
         case rel => exact ⟨j + 1, by omega, by omega, by go_num, HIN, by repeat (first | exact HBI.out | refine Below.drew ?_)⟩
         case measure => simp [intOf]; omega
        ·have hspi := HSPW.out.on spot_mono HBI.out
         have q0 := spot_in hspi rfl hlt2
         have q1 := spot_in hspi rfl lm
         have e1 : vtx ps m = vtx ps (j + 1) := by rw [← hm]; exact on_grid HL.out _
         rw [e1] at q1
         have ga := vtx_grid HG.out (by rw [HL.out]; omega) j
         have gb := vtx_grid HG.out (by rw [HL.out]; omega) (j + 1)
         obtain ⟨px, hpx⟩ : ∃ p, vtx ps j = p := ⟨_, rfl⟩
         obtain ⟨py, hpy⟩ : ∃ p, vtx ps (j + 1) = p := ⟨_, rfl⟩
         rw [hpx] at q0 ga
         rw [hpy] at q1 gb
         have HVI := Lib.hid (And.intro hpx hpy)
         have HMI := Lib.hid (fun W => rmeet_any pa pb px py W HGR.out.1 HGR.out.2.1 ga gb)
         have HMK := Lib.hid (show (j + 1) % n ≠ k by rw [hm]; exact hmk)
         have HK := fun w' => Lib.hid (eight_keep (w' := w') (HG5.out.below HBI.out) (HG6.out.below HBI.out) (Nat.lt_of_lt_of_le hbw (Nat.le_trans HBX.out.size HBI.out.size)) q0 q1)
         have j2 : ((m : Int) != (k : Int)) = true := by simp; omega
         have j5 : (m : Int) < (n : Int) := by omega
         have j8 : decide ((m : Int) = (k : Int)) = false := decide_eq_false (by omega)
         have hq := Below.refl wz.heap.size wz
         obtain ⟨mo, hmo⟩ : ∃ f, meetP pa pb px py = f := ⟨_, rfl⟩
         rw [hmo] at HMI
         have HMO := Lib.hid hmo
         clear hm hmk hdone hspi e1 hpx hpy ga gb q0 q1 lm hmo
         have k8 := (HK wz).out hq
         cases mo
         ·have HIN : Hid (∀ i, k + 2 ≤ i → i < j + 1 → i < n → (i + 1) % n ≠ k → meetP pa pb (vtx ps i) (vtx ps (i + 1)) = false) := fun i h1 h2 h3 h4 => by
           by_cases e : i = j
           ·subst e
            rw [HVI.out.1, HVI.out.2]
            exact HMO.out
           ·exact hI.out i h1 (by omega) h3 h4
          go_wp2_with fail
          go_region_held3 (fun w' => (w'.cell? ⟨g, 0, none⟩ = some (.int .i64 pa.1) ∧ w'.cell? ⟨g, 1, none⟩ = some (.int .i64 pa.2)) ∧ (w'.cell? ⟨h, 0, none⟩ = some (.int .i64 pb.1) ∧ w'.cell? ⟨h, 1, none⟩ = some (.int .i64 pb.2)) ∧ (w'.cell? ⟨b, off + j * 2, none⟩ = some (.int .i64 px.1) ∧ w'.cell? ⟨b, off + j * 2 + 1, none⟩ = some (.int .i64 px.2)) ∧ (w'.cell? ⟨b, off + m * 2, none⟩ = some (.int .i64 py.1) ∧ w'.cell? ⟨b, off + m * 2 + 1, none⟩ = some (.int .i64 py.2)))
           ((refine (HK _).out ?_; repeat (first | (with_reducible exact Below.refl _ _) | (with_reducible exact hq) | (with_reducible refine Below.drew ?_))))
           ((go_at_call 223; go_must ((with_reducible refine (HMI.out _).mono ?_); rintro e w1 ⟨rfl, hv⟩; replace hq := below_then hq hv; clear hv)))
          have HBJ := Lib.hid (HBI.out.trans (hq.mono HBI.out.size))
          clear j6 j7 hq
          go_wp2_with fail
          go_roundw
          case rel => exact ⟨j + 1, by omega, by omega, by go_num, HIN, HBJ⟩
          case measure => simp [intOf]; omega
         ·have HE : Hid (simpleP ps = false) := simple_meet (i := k) (k := j) (by rw [HL.out]; exact hlt) (by rw [HL.out]; exact hlt2) hj1 (by rw [HL.out]; exact HMK.out) (by rw [HV.out.1, HV.out.2.1, HVI.out.1, HVI.out.2]; exact HMO.out)
          go_wp2_with fail
          go_region_held3 (fun w' => (w'.cell? ⟨g, 0, none⟩ = some (.int .i64 pa.1) ∧ w'.cell? ⟨g, 1, none⟩ = some (.int .i64 pa.2)) ∧ (w'.cell? ⟨h, 0, none⟩ = some (.int .i64 pb.1) ∧ w'.cell? ⟨h, 1, none⟩ = some (.int .i64 pb.2)) ∧ (w'.cell? ⟨b, off + j * 2, none⟩ = some (.int .i64 px.1) ∧ w'.cell? ⟨b, off + j * 2 + 1, none⟩ = some (.int .i64 px.2)) ∧ (w'.cell? ⟨b, off + m * 2, none⟩ = some (.int .i64 py.1) ∧ w'.cell? ⟨b, off + m * 2 + 1, none⟩ = some (.int .i64 py.2)))
           ((refine (HK _).out ?_; repeat (first | (with_reducible exact Below.refl _ _) | (with_reducible exact hq) | (with_reducible refine Below.drew ?_))))
           ((go_at_call 223; go_must ((with_reducible refine (HMI.out _).mono ?_); rintro e w1 ⟨rfl, hv⟩; replace hq := below_then hq hv; clear hv)))
          have HBJ := Lib.hid (HBI.out.trans (hq.mono HBI.out.size))
          clear j6 j7 hq
          go_wp2_with fail
          go_ret
          exact ⟨by rw [HE.out]; rfl, HBW.out.trans (HBJ.out.mono HBW.out.size)⟩
       ·have HD := hdone (fun i h1 h2 h3 => by omega)
        clear hdone hm
        go_wp2_with fail
        go_roundw
        case rel => exact ⟨k + 1, by omega, by go_num, HF2, HD, HBW.out.trans (HBI.out.mono HBW.out.size)⟩
        case measure => simp [intOf]; omega
     ·have HE : Hid (simpleP ps = false) := ref_forth (i := k) (by rw [HL.out]; exact hlt) H3.out (by rw [HV.out.1, HV.out.2.1, HV.out.2.2]; exact HOO.out.2)
      go_wp2_with (go_at_call 222; (first | (with_reducible refine (HO1.out _).mono ?_) | (with_reducible refine (HO2.out _).mono ?_)); rintro e w1 ⟨rfl, hv⟩; replace hu := Lib.hid (below_then hu.out hv); clear hv; obtain ⟨p0, p1, p2, p3, p4, p5⟩ := HC.out _ hu.out)
      go_ret
      exact ⟨by rw [HE.out]; rfl, HBW.out.trans (hu.out.mono HBW.out.size)⟩
    ·have HE : Hid (simpleP ps = false) := ref_back (i := k) (by rw [HL.out]; exact hlt) H3.out (by rw [HV.out.1, HV.out.2.1, HV.out.2.2]; exact HOO.out.1)
     go_wp2_with (go_at_call 222; (first | (with_reducible refine (HO1.out _).mono ?_) | (with_reducible refine (HO2.out _).mono ?_)); rintro e w1 ⟨rfl, hv⟩; replace hu := Lib.hid (below_then hu.out hv); clear hv; obtain ⟨p0, p1, p2, p3, p4, p5⟩ := HC.out _ hu.out)
     go_ret
     exact ⟨by rw [HE.out]; rfl, HBW.out.trans (hu.out.mono HBW.out.size)⟩
  ·obtain rfl : n = k := by omega
   have HE : Hid (simpleP ps = true) := ref_yes (fun i hi => hF.out i (by rw [HL.out] at hi; exact hi)) (fun i j hi hj h1 h2 => hM.out i j (by rw [HL.out] at hi; exact hi) (by rw [HL.out] at hj; exact hj) h1 (by rw [HL.out] at h2; exact h2))
   go_wp2_with fail
   go_ret
   exact ⟨by rw [HE.out]; rfl, HB.out⟩
end
section
open Go.RowKit
open Go.Lib hiding intOf
theorem rfar1_any (x : Int) (w : World) : Calls Tryz.prog 221 #[.int .i64 x] w fun e w' => e = .returned (.bool (decide (1048576 < x) || decide (x < -1048576))) ∧ w = w' := by
 by_cases h : 1048576 < x
 ·have HE : Hid ((decide (1048576 < x) || decide (x < -1048576)) = true) := by rw [Hid, decide_eq_true h]; rfl
  go_enter Tryz.func221, Tryz.ntmps221
  go_wp2
  go_ret
  exact ⟨by rw [HE.out]; rfl, rfl⟩
 ·have HE : Hid ((decide (1048576 < x) || decide (x < -1048576)) = decide (x < -1048576)) := by rw [Hid, decide_eq_false h]; rfl
  go_enter Tryz.func221, Tryz.ntmps221
  go_wp2
  go_ret
  exact ⟨by rw [HE.out]; rfl, rfl⟩
theorem outB_far (p : Pt) : outB p = ((decide (1048576 < p.1) || decide (p.1 < -1048576)) || (decide (1048576 < p.2) || decide (p.2 < -1048576))) := by
 rw [Bool.eq_iff_iff]
 simp [outB]
 omega
set_option maxRecDepth 100000 in
set_option maxHeartbeats 3200000 in
theorem rFar_any (A : Option Addr) (n c : Nat) (l : List Pt) (w : World) (ha : Recs 2 spotG w A n l) (hn : n ≤ 1000000) :
  Calls Tryz.prog 203 #[.slice A n c] w fun e w' => e = .returned (.bool (l.any outB)) ∧ w = w' := by
 have HA := Lib.hid ha
 have HL := Lib.hid ha.len
 clear ha
 go_enter Tryz.func203, Tryz.ntmps203
 go_wp2
 go_loop [3] (fun i => ∃ k : Nat, k ≤ n ∧ i = .int .i64 (k : Int) ∧ Hid (∀ (j : Nat) (p : Pt), j < k → l[j]? = some p → outB p = false)) (fun i => n - (intOf i).toNat)
 case atStart => exact ⟨0, Nat.zero_le _, rfl, fun j p h => by omega⟩
 case round =>
  obtain ⟨k, hk, rfl, hall⟩ := hrel
  by_cases hlt : k < n
  ·obtain ⟨b, off, p, rfl, hbw, hp, c0, c1⟩ := spot_at HA.out hlt
   have HP := Lib.hid hp
   have HO := Lib.hid (outB_far p)
   have H1 := Lib.hid (fun W => rfar1_any p.1 W)
   have H2 := Lib.hid (fun W => rfar1_any p.2 W)
   obtain ⟨b1, hb1⟩ : ∃ b, (decide (1048576 < p.1) || decide (p.1 < -1048576)) = b := ⟨_, rfl⟩
   obtain ⟨b2, hb2⟩ : ∃ b, (decide (1048576 < p.2) || decide (p.2 < -1048576)) = b := ⟨_, rfl⟩
   rw [hb1, hb2] at HO
   rw [hb1] at H1
   rw [hb2] at H2
   have i1 : (0 : Int) ≤ (k : Int) := by omega
   have i2 : (k : Int) < (n : Int) := by omega
   clear hp hb1 hb2
   cases b1
   ·cases b2
    ·have HZ : Hid (∀ (j : Nat) (p : Pt), j < k + 1 → l[j]? = some p → outB p = false) := fun j p' hj hp' => by
      by_cases e : j = k
      ·subst e
       rw [HP.out] at hp'
       rw [← Option.some.inj hp', HO.out]
       rfl
      ·exact hall.out j p' (by omega) hp'
     go_wp2_with (go_at_call 221; (first | (with_reducible refine (H1.out _).mono ?_) | (with_reducible refine (H2.out _).mono ?_)); rintro e w1 ⟨rfl, rfl⟩)
     go_round
     case rel => exact ⟨k + 1, by omega, by go_num, HZ⟩
     case measure => simp [intOf]; omega
    ·have HE : Hid (l.any outB = true) := out_at HP.out (by rw [HO.out]; rfl)
     go_wp2_with (go_at_call 221; (first | (with_reducible refine (H1.out _).mono ?_) | (with_reducible refine (H2.out _).mono ?_)); rintro e w1 ⟨rfl, rfl⟩)
     go_ret
     exact ⟨by rw [HE.out]; rfl, rfl⟩
   ·have HE : Hid (l.any outB = true) := out_at HP.out (by rw [HO.out]; rfl)
    go_wp2_with (go_at_call 221; (first | (with_reducible refine (H1.out _).mono ?_) | (with_reducible refine (H2.out _).mono ?_)); rintro e w1 ⟨rfl, rfl⟩)
    go_ret
    exact ⟨by rw [HE.out]; rfl, rfl⟩
  ·have HE : Hid (l.any outB = false) := out_first.2 fun j p hp => hall.out j p (by have := (List.getElem?_eq_some_iff.1 hp).1; rw [HL.out] at this; omega) hp
   go_wp2
   go_ret
   exact ⟨by rw [HE.out]; rfl, rfl⟩
set_option maxRecDepth 100000 in
set_option maxHeartbeats 3200000 in
theorem rpl_check (A : Option Addr) (n c : Nat) (l : List Pt) (w : World) (ha : Recs 2 spotG w A n l) (hn : n ≤ 1000000) :
  Calls Tryz.prog 177 #[.slice A n c] w fun e w' => e = .returned (.int .i64 (polylineE l)) ∧ Below w.heap.size w w' := by
 have HA := Lib.hid ha
 have HL := Lib.hid ha.len
 have HF := Lib.hid (rFar_any A n c l w ha hn)
 clear ha
 by_cases h40 : 40 < n
 ·have HE : Hid (polylineE l = 5) := poly_long (by rw [HL.out]; exact h40)
  go_enter Tryz.func177, Tryz.ntmps177
  go_wp2
  go_ret
  exact ⟨by rw [HE.out]; rfl, Below.refl _ _⟩
 ·by_cases h2 : n < 2
  ·have HE : Hid (polylineE l = 11) := poly_short (by rw [HL.out]; exact h40) (by rw [HL.out]; exact h2)
   go_enter Tryz.func177, Tryz.ntmps177
   go_wp2
   go_ret
   exact ⟨by rw [HE.out]; rfl, Below.refl _ _⟩
  ·have HP := Lib.hid (And.intro (show ¬ 40 < l.length by rw [HL.out]; exact h40) (show ¬ l.length < 2 by rw [HL.out]; exact h2))
   cases ho : l.any outB
   ·rw [ho] at HF
    have HO := Lib.hid ho
    clear ho
    go_enter Tryz.func177, Tryz.ntmps177
    go_wp2_with (go_at_call 203; refine HF.out.mono ?_; rintro e w1 ⟨rfl, rfl⟩)
    go_loopw [3] (fun i wr => ∃ k : Nat, k ≤ n - 1 ∧ i = .int .i64 ((k : Int) + 1) ∧ Hid (∀ j, j < k → l[j]? ≠ l[j + 1]?) ∧ Below w.heap.size w wr) (fun i _ => n - (intOf i).toNat)
    case atStart => exact ⟨0, Nat.zero_le _, rfl, (fun j hj => by omega), Below.refl _ _⟩
    case round =>
     obtain ⟨k, hk, rfl, hall, hbel⟩ := hrel
     by_cases hlt : k < n - 1
     ·obtain ⟨b, off, p, rfl, hbw, hp, c0, c1⟩ := spot_at (HA.out.on spot_mono hbel) (j := k) (by omega)
      obtain ⟨b2, off2, q, heq, _, hq, c2, c3⟩ := spot_at (HA.out.on spot_mono hbel) (j := k + 1) (by omega)
      injection heq with heq
      injection heq with e1 e2
      subst e1
      subst e2
      have HPQ := Lib.hid (And.intro hp hq)
      have HB := Lib.hid hbel
      have i1 : (0 : Int) ≤ (k : Int) := by omega
      have i2 : (k : Int) < (n : Int) := by omega
      have i3 : (k : Int) + 1 < (n : Int) := by omega
      have i4 : IntKind.i64.wrap ((k : Int) + 1 - 1) = (k : Int) := by rw [Int.add_sub_cancel]; exact IntWalk.i64_in _ (by omega)
      have i5 : (0 : Int) ≤ (k : Int) + 1 := by omega
      have i7 : ((k : Int) + 1).toNat = k + 1 := by omega
      have hqe := fun W => eqIn_spot q p W
      clear hp hq hbel
      by_cases e : q = p
      ·have HE : Hid (polylineE l = 11) := poly_same HP.out.1 HP.out.2 HO.out (i := k) (by rw [HL.out]; omega) (by rw [HPQ.out.1, HPQ.out.2, e])
       simp only [decide_eq_true e] at hqe
       clear e
       go_wp2_with fail
       go_quiet (fail)
       clear i4 i7 hqe
       go_wp2_with fail
       go_ret
       exact ⟨by rw [HE.out]; rfl, below_drewN HB.out _⟩
      ·have HE : Hid (∀ j, j < k + 1 → l[j]? ≠ l[j + 1]?) := fun j hj => by
        by_cases ej : j = k
        ·subst ej
         rw [HPQ.out.1, HPQ.out.2]
         exact fun h => e (Option.some.inj h).symm
        ·exact hall.out j (by omega)
       simp only [decide_eq_false e] at hqe
       clear e
       go_wp2_with fail
       go_quiet (fail)
       clear i4 i7 hqe
       go_wp2_with fail
       go_roundw
       case rel => exact ⟨k + 1, by omega, by go_num, HE, below_drewN HB.out _⟩
       case measure => simp [intOf]; omega
     ·have HE : Hid (polylineE l = 0) := poly_ok HP.out.1 HP.out.2 HO.out fun i hi => hall.out i (by rw [HL.out] at hi; omega)
      have HB := Lib.hid hbel
      have i3 : ¬ (k : Int) + 1 < (n : Int) := by omega
      clear hbel hall
      go_wp2_with fail
      go_ret
      exact ⟨by rw [HE.out]; rfl, HB.out⟩
   ·rw [ho] at HF
    have HE : Hid (polylineE l = 3) := poly_out HP.out.1 HP.out.2 ho
    clear ho
    go_enter Tryz.func177, Tryz.ntmps177
    go_wp2_with (go_at_call 203; refine HF.out.mono ?_; rintro e w1 ⟨rfl, rfl⟩)
    go_ret
    exact ⟨by rw [HE.out]; rfl, Below.refl _ _⟩
set_option maxRecDepth 100000 in
set_option maxHeartbeats 1600000 in
theorem rroot_any (n : Nat) (w : World) (hn : n ≤ 8800000000000000000) : Calls Tryz.prog 224 #[.int .i64 (n : Int)] w fun e w' => e = .returned (.int .i64 (rootP n : Int)) ∧ w = w' := by
 have H0 : Hid (0 * 0 ≤ n ∧ n < (0 + 2 ^ 32) * (0 + 2 ^ 32)) := ⟨by omega, by omega⟩
 go_enter Tryz.func224, Tryz.ntmps224
 go_wp2
 go_loop [3, 4, 5] (fun t i _ => ∃ x j : Nat, j ≤ 32 ∧ t = .int .i64 (x : Int) ∧ i = .int .i64 ((j : Int) - 1) ∧ Hid (x + 2 ^ j ≤ 4294967296) ∧ Hid (x * x ≤ n ∧ n < (x + 2 ^ j) * (x + 2 ^ j))) (fun _ i _ => (intOf i + 1).toNat)
 case atStart => exact ⟨0, 32, by omega, rfl, rfl, by rw [Hid]; decide, H0⟩
 case round =>
  obtain ⟨x, j, hj, rfl, rfl, hx, hr⟩ := hrel
  cases j with
  | zero =>
   have HE : Hid (rootP n = x) := rootP_of hr.out.1 (by have := hr.out.2; simpa using this)
   go_wp2
   go_ret
   exact ⟨by rw [HE.out]; rfl, rfl⟩
  | succ j =>
   have hp2 : 2 ^ (j + 1) = 2 ^ j + 2 ^ j := by rw [Nat.pow_succ]; omega
   have hx' := hx.out
   have hr' := hr.out
   rw [hp2] at hx' hr'
   clear hx hr
   have hcast : (2 : Int) ^ j = ((2 ^ j : Nat) : Int) := by simp
   have hpos : 1 ≤ 2 ^ j := Nat.one_le_two_pow
   obtain ⟨p, hp⟩ : ∃ p, 2 ^ j = p := ⟨_, rfl⟩
   rw [hp] at hcast hpos hx' hr'
   have HP := Lib.hid hp
   have j1 : ((j + 1 : Nat) : Int) - 1 = (j : Int) := by omega
   have hsh : IntKind.i64.wrap ((2 : Int) ^ j) = (p : Int) := by rw [hcast]; exact IntWalk.i64_in _ (by omega)
   have hmin : min j 64 = j := by omega
   have hsq : (x + p) * (x + p) ≤ 4294967295 * 4294967295 := Nat.mul_self_le_mul_self (by omega)
   have hc : ((x : Int) + (p : Int)) * ((x : Int) + (p : Int)) = (((x + p) * (x + p) : Nat) : Int) := by simp
   have HQ := Lib.hid hr'
   have HX := Lib.hid hx'
   have hb1 : x + p ≤ 4294967295 := by omega
   obtain ⟨q, hq⟩ : ∃ q, (x + p) * (x + p) = q := ⟨_, rfl⟩
   rw [hq] at hc hsq
   have HS := Lib.hid hq
   have hm : IntKind.u64.wrap (((x : Int) + (p : Int)) * ((x : Int) + (p : Int))) = (q : Int) := by rw [hc]; simp only [IntKind.wrap_u64]; omega
   clear hp hp2 hq hr' hx' hcast hc
   rw [j1]
   by_cases hle : q ≤ n
   ·have HJ : Hid (x + p + 2 ^ j ≤ 4294967296) := by rw [Hid, HP.out]; have := HX.out; omega
    have HR : Hid ((x + p) * (x + p) ≤ n ∧ n < (x + p + 2 ^ j) * (x + p + 2 ^ j)) := by
     rw [Hid, HP.out, HS.out]
     refine ⟨hle, ?_⟩
     have := HQ.out.2
     rwa [← Nat.add_assoc] at this
    go_wp2
    go_round
    case rel => exact ⟨x + p, j, by omega, by go_num, by go_num, HJ, HR⟩
    case measure => simp [intOf]
   ·have HJ : Hid (x + 2 ^ j ≤ 4294967296) := by rw [Hid, HP.out]; have := HX.out; omega
    have HR : Hid (x * x ≤ n ∧ n < (x + 2 ^ j) * (x + 2 ^ j)) := by
     rw [Hid, HP.out, HS.out]
     exact ⟨HQ.out.1, by omega⟩
    go_wp2
    go_round
    case rel => exact ⟨x, j, by omega, rfl, by go_num, HJ, HR⟩
    case measure => simp [intOf]
set_option maxRecDepth 100000 in
set_option maxHeartbeats 1600000 in
theorem rsegment_any (p q : Pt) (w : World) (hp : inG p) (hq : inG q) :
  Calls Tryz.prog 206 #[.agg #[.int .i64 p.1, .int .i64 p.2], .agg #[.int .i64 q.1, .int .i64 q.2]] w fun e w' => e = .returned (.int .i64 (segP p q : Int)) ∧ Below w.heap.size w w' := by
 have HB : Hid (Below w.heap.size w ((w.alloc (.cells #[.int .i64 p.1, .int .i64 p.2] 74)).alloc (.cells #[.int .i64 q.1, .int .i64 q.2] 74))) := ((Below.refl _ _).alloc (Nat.le_refl _) _).alloc (by simp) _
 obtain ⟨s1, s2, s3, s4⟩ := seg_in hp hq
 have HR : Hid (∀ W, Calls Tryz.prog 224 #[.int .i64 (1000000 * ((q.1 - p.1) * (q.1 - p.1) + (q.2 - p.2) * (q.2 - p.2)))] W fun e w' => e = .returned (.int .i64 (segP p q : Int)) ∧ W = w') := fun W => by
  have := rroot_any (1000000 * ((q.1 - p.1) * (q.1 - p.1) + (q.2 - p.2) * (q.2 - p.2))).toNat W (by omega)
  rw [Int.toNat_of_nonneg (by omega)] at this
  exact this
 generalize segP p q = z at *
 obtain ⟨p1, p2⟩ := p
 obtain ⟨q1, q2⟩ := q
 obtain ⟨x1, x2, x3, x4⟩ := hp
 obtain ⟨x5, x6, x7, x8⟩ := hq
 simp only at *
 have e1 : IntKind.i64.wrap (q1 - p1) = q1 - p1 := IntWalk.i64_in _ (by omega)
 have e2 : IntKind.i64.wrap (q2 - p2) = q2 - p2 := IntWalk.i64_in _ (by omega)
 go_enter Tryz.func206, Tryz.ntmps206
 go_wp2_with fail
 go_quiet (fail)
 clear e1 e2
 go_wp2_with (go_at_call 224; refine (HR.out _).mono ?_; rintro e w' ⟨rfl, rfl⟩)
 go_ret
 exact ⟨rfl, below_drewN HB.out _⟩
set_option maxRecDepth 100000 in
set_option maxHeartbeats 3200000 in
theorem rtotal_any (A : Option Addr) (n c : Nat) (l : List Pt) (w : World) (ha : Recs 2 spotG w A n l) (hn : n ≤ 40) (h2 : 2 ≤ n) (hg : ∀ p ∈ l, inG p) :
  Calls Tryz.prog 181 #[.slice A n c] w fun e w' => e = .returned (.int .i64 (lengthP l : Int)) ∧ Below w.heap.size w w' := by
 have HA := Lib.hid ha
 have HL := Lib.hid ha.len
 have HG := Lib.hid hg
 clear ha hg
 go_enter Tryz.func181, Tryz.ntmps181
 go_wp2
 go_loopw [3, 4] (fun t i wr => ∃ k : Nat, k ≤ n - 1 ∧ t = .int .i64 (lenTo l k : Int) ∧ i = .int .i64 ((k : Int) + 1) ∧ Below w.heap.size w wr) (fun _ i _ => n - (intOf i).toNat)
 case atStart => exact ⟨0, Nat.zero_le _, rfl, rfl, Below.refl _ _⟩
 case round =>
  obtain ⟨k, hk, rfl, rfl, hbel⟩ := hrel
  by_cases hlt : k < n - 1
  ·obtain ⟨b, off, p, rfl, hbw, hp, c0, c1⟩ := spot_at (HA.out.on spot_mono hbel) (j := k) (by omega)
   obtain ⟨b2, off2, q, heq, _, hq, c2, c3⟩ := spot_at (HA.out.on spot_mono hbel) (j := k + 1) (by omega)
   injection heq with heq
   injection heq with e1 e2
   subst e1
   subst e2
   have HK := fun w' => Lib.hid (two_keep (w' := w') hbw c0 c1 c2 c3)
   have gp := HG.out p (List.mem_of_getElem? hp)
   have gq := HG.out q (List.mem_of_getElem? hq)
   have HS := Lib.hid (fun W => rsegment_any p q W gp gq)
   have hsle := segP_le gp gq
   have hlle := lenTo_le HG.out k (by rw [HL.out]; omega)
   have HT : Hid (lenTo l (k + 1) = lenTo l k + segP p q) := by rw [Hid, lenTo, lenAt_of hp hq]
   have HB := Lib.hid hbel
   have i1 : (0 : Int) ≤ (k : Int) := by omega
   have i2 : (k : Int) < (n : Int) := by omega
   have i3 : (k : Int) + 1 < (n : Int) := by omega
   have i4 : IntKind.i64.wrap ((k : Int) + 1 - 1) = (k : Int) := by rw [Int.add_sub_cancel]; exact IntWalk.i64_in _ (by omega)
   have i5 : (0 : Int) ≤ (k : Int) + 1 := by omega
   have i6 : IntKind.i64.wrap (k : Int) = (k : Int) := IntWalk.i64_in _ (by omega)
   have i7 : ((k : Int) + 1).toNat = k + 1 := by omega
   generalize segP p q = z at *
   generalize lenTo l k = x at *
   have i8 : IntKind.i64.wrap ((x : Int) + (z : Int)) = (x : Int) + (z : Int) := IntWalk.i64_in _ (by omega)
   have hu := Below.refl wr.heap.size wr
   clear hp hq hbel gp gq
   go_wp2_with fail
   go_region_held3 (fun w' => w'.cell? ⟨b, off + k * 2, none⟩ = some (.int .i64 p.1) ∧ w'.cell? ⟨b, off + k * 2 + 1, none⟩ = some (.int .i64 p.2) ∧ w'.cell? ⟨b, off + (k + 1) * 2, none⟩ = some (.int .i64 q.1) ∧ w'.cell? ⟨b, off + (k + 1) * 2 + 1, none⟩ = some (.int .i64 q.2))
    ((refine (HK _).out ?_; repeat (first | (with_reducible exact Below.refl _ _) | (with_reducible exact hu) | (with_reducible refine Below.drew ?_))))
    ((go_at_call 206; go_must ((with_reducible refine (HS.out _).mono ?_); rintro e w1 ⟨rfl, hv⟩; replace hu := below_then hu hv; clear hv)))
   clear i4 i6 i7 i8
   go_wp2_with fail
   go_roundw
   case rel => exact ⟨k + 1, by omega, by rw [HT.out]; rfl, by go_num, HB.out.trans (hu.mono HB.out.size)⟩
   case measure => simp [intOf]; omega
  ·obtain rfl : k = n - 1 := by omega
   have HT : Hid (lengthP l = lenTo l (n - 1)) := by rw [Hid, lengthP, HL.out]
   have HB := Lib.hid hbel
   have i3 : ¬ (((n - 1 : Nat) : Int)) + 1 < (n : Int) := by omega
   clear hbel
   go_wp2_with fail
   go_ret
   exact ⟨by rw [HT.out]; rfl, HB.out⟩
set_option maxRecDepth 100000 in
set_option maxHeartbeats 3200000 in
theorem rlength_any (A : Option Addr) (n c : Nat) (l : List Pt) (w : World) (ha : Recs 2 spotG w A n l) (hn : n ≤ 1000000) :
  Calls Tryz.prog 147 #[.slice A n c] w (RetLen l w) := by
 have HA := Lib.hid ha
 have HL := Lib.hid ha.len
 have HF := Lib.hid (rpl_check A n c l w ha hn)
 clear ha
 obtain ⟨E, hE⟩ : ∃ E, polylineE l = E := ⟨_, rfl⟩
 rw [hE] at HF
 have HE := Lib.hid hE
 clear hE
 by_cases h0 : E = 0
 ·subst h0
  obtain ⟨k1, k2, k3, _⟩ := poly_zero HE.out
  have HT := Lib.hid (fun W (hb : Below w.heap.size w W) => rtotal_any A n c l W (HA.out.on spot_mono hb) (by rw [← HL.out]; exact k1) (by rw [← HL.out]; exact k2) k3)
  clear k1 k2 k3
  go_enter Tryz.func147, Tryz.ntmps147
  go_wp2_with fail
  refine HF.out.mono ?_
  rintro e w1 ⟨rfl, hb1⟩
  have HB1 := Lib.hid hb1
  clear hb1
  go_wp2_with fail
  refine (HT.out _ HB1.out).mono ?_
  rintro e w2 ⟨rfl, hb2⟩
  have HB2 := Lib.hid (HB1.out.trans (hb2.mono HB1.out.size))
  clear hb2
  go_wp2_with fail
  go_ret2
  refine ⟨?_, HB2.out⟩
  rw [HE.out, if_pos rfl]
  rfl
 ·have h0' : (E != 0) = true := by simpa using h0
  have HN := Lib.hid h0
  clear h0
  go_enter Tryz.func147, Tryz.ntmps147
  go_wp2_with (go_at_call 177; refine HF.out.mono ?_; rintro e w1 ⟨rfl, hb1⟩; have HB1 := Lib.hid hb1; clear hb1)
  go_ret2
  refine ⟨?_, HB1.out⟩
  rw [HE.out, if_neg HN.out]
  rfl
end
section
open Go.RowKit
open Go.Lib hiding intOf
theorem rwin_any (n b : Int) (w : World) (h0 : 0 ≤ b) (hb : b ≤ 1000000) :
  Calls Tryz.prog 144 #[.int .i64 n, .int .i64 b] w fun e w' => e = .returned (.bool (decide (-b ≤ n) && decide (n ≤ b))) ∧ w = w' := by
 by_cases h1 : -b ≤ n
 ·have HE : Hid ((decide (-b ≤ n) && decide (n ≤ b)) = decide (n ≤ b)) := by rw [Hid, decide_eq_true h1]; rfl
  go_enter Tryz.func144, Tryz.ntmps144
  go_wp2
  go_ret
  exact ⟨by rw [HE.out]; rfl, rfl⟩
 ·have HE : Hid ((decide (-b ≤ n) && decide (n ≤ b)) = false) := by rw [Hid, decide_eq_false h1]; rfl
  go_enter Tryz.func144, Tryz.ntmps144
  go_wp2
  go_ret
  exact ⟨by rw [HE.out]; rfl, rfl⟩
theorem rround_zero (b : Nat) (w : World) (h0 : 1 ≤ b) (hb : b ≤ 1000000) :
  Calls Tryz.prog 180 #[.int .i64 0, .int .i64 (b : Int)] w fun e w' => e = .returned (.int .i64 0) ∧ w = w' := by
 have hz : (b : Int) / (2 * (b : Int)) = 0 := Int.ediv_eq_zero_of_lt (by omega) (by omega)
 go_enter Tryz.func180, Tryz.ntmps180
 go_wp2
 go_ret
 exact ⟨rfl, rfl⟩
def RetGe (nm : ByteArray) (l : List Pt) (n : Nat) (w : World) (e : Ending) (w' : World) : Prop := ∃ g d, e = .returned (.agg #[.string nm, .slice (some ⟨g, 0, none⟩) n d]) ∧ w.heap.size ≤ g ∧ Recs 2 spotG w' (some ⟨g, 0, none⟩) n l ∧ n ≤ d ∧ Below w.heap.size w w'
theorem own_sto {w : World} {base size n : Nat} {e : TypeId} {v : Value} {xs : List Value} (h : w.ownsRow base e size v n xs) {p : Addr} (hp : p.block < base) (u : Value) : (w.setCell p u).ownsRow base e size v n xs :=
 h.kept (row := some p.block) ⟨rfl, rfl, rfl, by simp, fun k hk hne => Below.heap_setCell w p u k (fun e => hne (by rw [e]))⟩ (by
  cases hv : v.ownBlock with
  | none => exact .inl rfl
  | some g =>
   refine .inr fun e => ?_
   injection e with e
   have := (h.lt g hv).1
   omega)
theorem recs_sto {w : World} {g n : Nat} {l : List Pt} (h : Recs 2 spotG w (some ⟨g, 0, none⟩) n l) {p : Addr} (hp : p.block ≠ g) (u : Value) : Recs 2 spotG (w.setCell p u) (some ⟨g, 0, none⟩) n l :=
 Stays.recs (r := some p.block) spot_any h (fun b o e e2 => by injection e with e; injection e with e1 e3; injection e2 with e2; exact hp (e2.trans e1.symm)) _ ⟨rfl, rfl, rfl, by simp, fun k hk hne => Below.heap_setCell w p u k (fun e => hne (by rw [e]))⟩
structure GdW (w : World) (nm : ByteArray) (A : Option Addr) (n c : Nat) (v : Value) (wr : World) : Prop where
 x : Blk wr w.heap.size 76 #[.string nm, .slice A n c]
 a : Blk wr (w.heap.size + 1) 74 #[.int .i64 0, .int .i64 0]
 b : Blk wr (w.heap.size + 1 + 1) 74 #[.int .i64 0, .int .i64 0]
 r : Blk wr (w.heap.size + 1 + 1 + 1) 76 #[.string ByteArray.empty, .slice none 0 0]
 o : Blk wr (w.heap.size + 1 + 1 + 1 + 1) 76 #[.string nm, v]
theorem GdW.below {w : World} {nm : ByteArray} {A : Option Addr} {n c : Nat} {v : Value} {wr wr' : World} (h : GdW w nm A n c v wr) (hb : Below wr.heap.size wr wr') : GdW w nm A n c v wr' :=
 ⟨h.x.below hb, h.a.below hb, h.b.below hb, h.r.below hb, h.o.below hb⟩
theorem GdW.grown {w : World} {nm : ByteArray} {A : Option Addr} {n c : Nat} {v : Value} {wr wr' : World} {r : Option Nat} (h : GdW w nm A n c v wr) (hg : wr.grownBy wr' r) (hr : ∀ g, r = some g → w.heap.size + 5 ≤ g) : GdW w nm A n c v wr' :=
 ⟨h.x.grown hg (fun e => by have := hr _ e.symm; omega), h.a.grown hg (fun e => by have := hr _ e.symm; omega), h.b.grown hg (fun e => by have := hr _ e.symm; omega), h.r.grown hg (fun e => by have := hr _ e.symm; omega), h.o.grown hg (fun e => by have := hr _ e.symm; omega)⟩
theorem GdW.put {w : World} {nm : ByteArray} {A : Option Addr} {n c : Nat} {v : Value} {wr : World} (h : GdW w nm A n c v wr) (u : Value) : GdW w nm A n c u (wr.setCell ⟨w.heap.size + 1 + 1 + 1 + 1, 1, none⟩ u) :=
 ⟨h.x.far (by show _ ≠ w.heap.size + 1 + 1 + 1 + 1; omega) _, h.a.far (by show _ ≠ w.heap.size + 1 + 1 + 1 + 1; omega) _, h.b.far (by show _ ≠ w.heap.size + 1 + 1 + 1 + 1; omega) _, h.r.far (by show _ ≠ w.heap.size + 1 + 1 + 1 + 1; omega) _, h.o.set_ 1 u⟩
theorem spC_one (p : Pt) : ∀ u ∈ spC p, u.oneCell' = true := fun u hu => by
 simp only [spC, List.mem_cons, List.not_mem_nil, or_false] at hu
 rcases hu with rfl | rfl <;> rfl
theorem four_cells {w : World} {g g' : Nat} {t t' : TypeId} {a0 a1 b0 b1 : Value} (h : Blk w g t #[a0, a1]) (h' : Blk w g' t' #[b0, b1]) : w.cell? ⟨g, 0, none⟩ = some a0 ∧ w.cell? ⟨g, 1, none⟩ = some a1 ∧ w.cell? ⟨g', 0, none⟩ = some b0 ∧ w.cell? ⟨g', 1, none⟩ = some b1 := ⟨h.c rfl, h.c rfl, h'.c rfl, h'.c rfl⟩
theorem Blk.put2s {w : World} {g : Nat} {t : TypeId} {u0 u1 : Value} (h : Blk w g t #[.int .i64 0, .int .i64 0]) : Blk ((w.setCell ⟨g, 0, none⟩ u0).setCell ⟨g, 1, none⟩ u1) g t #[u0, u1] := (h.set_ 0 u0).set_ 1 u1
theorem Blk.put2e {w : World} {g : Nat} {t : TypeId} {u0 u1 : Value} (h : Blk w g t #[.string ByteArray.empty, .slice none 0 0]) : Blk ((w.setCell ⟨g, 0, none⟩ u0).setCell ⟨g, 1, none⟩ u1) g t #[u0, u1] := (h.set_ 0 u0).set_ 1 u1
theorem own_recs_at {w : World} {base n : Nat} {v : Value} {l : List Pt} (h : w.ownsRow base 74 2 v n (l.flatMap spC)) (hl : l.length = n) (h0 : 0 < n) : ∃ g d, v = .slice (some ⟨g, 0, none⟩) n d ∧ base ≤ g ∧ Recs 2 spotG w (some ⟨g, 0, none⟩) n l ∧ n ≤ d := by
 obtain ⟨B, d, e, hr, hd⟩ := own_recs (G := spotG) (g := fun p => p) spC_len h hl (fun t _ => rfl)
 rw [List.map_id'] at hr
 rcases h.2 with ⟨_, rfl⟩ | ⟨g, cap, cur, e2, hg, _⟩
 ·omega
 ·rw [e] at e2
  injection e2 with e2 e3 e4
  rw [e2] at e hr
  exact ⟨g, d, e, hg, hr, hd⟩
structure GrP (w : World) (nm : ByteArray) (A : Option Addr) (n c k : Nat) (L : List Value) (v u : Value) (w' : World) : Prop where
 gd : GdW w nm A n c v w'
 ow : w'.ownsRow (w.heap.size + 5) 74 2 u (k + 1) L
 be : Below w.heap.size w w'
structure GrI (w : World) (nm : ByteArray) (A : Option Addr) (n c k g : Nat) (bb off : Nat) (p : Pt) (A1 : Option Addr) (C1 : Nat) (L : List Value) (wc : World) (listed : Array Bool) (f : Act) (w' : World) (b0 b1 b2 b3 b4 b5 b6 b7 b8 b9 b10 b11 b12 b13 b14 b15 b16 b17 b18 b19 b20 b21 b22 b23 b24 : Bool) (z18 z19 z20 z21 z22 z23 z24 z25 z26 z27 z28 z29 z30 z31 z32 z33 z34 z35 z36 z37 z38 z39 z40 z41 z42 z43 z44 z45 z46 z47 z48 z49 t50 t51 t52 t53 t54 t55 t56 t57 t58 t59 t60 t61 t62 t63 t64 t65 t66 t67 t68 t69 t70 t71 t72 t73 : Value) : Prop where
 li : listed = #[b0, b1, b2, b3, b4, b5, b6, b7, b8, b9, b10, b11, b12, b13, b14, b15, b16, b17, b18, b19, b20, b21, b22, b23, b24]
 ac : f = ⟨#[.agg #[.string nm, .slice A n c], .agg #[.int .i64 0, .int .i64 0], .agg #[.int .i64 0, .int .i64 0], .pointer (some ⟨w.heap.size, 0, none⟩), .pointer (some ⟨w.heap.size + 1, 0, none⟩), .pointer (some ⟨w.heap.size + 1 + 1, 0, none⟩), .pointer (some ⟨w.heap.size + 1 + 1 + 1, 0, none⟩), .pointer (some ⟨w.heap.size + 1 + 1 + 1 + 1, 0, none⟩), .int .i64 ((n : Int) - 1), .int .i64 (k : Int), .pointer (some ⟨g, 0, none⟩), .pointer (some ⟨w.heap.size, 0, none⟩), .string nm, .agg #[.string nm, .slice none 0 0], .pointer (some ⟨w.heap.size, 1, none⟩), .slice A n c, .int .i64 (n : Int), .int .i64 ((n : Int) - 1), z18, z19, z20, z21, z22, z23, z24, z25, z26, z27, z28, z29, z30, z31, z32, z33, z34, z35, z36, z37, z38, z39, z40, z41, z42, z43, z44, z45, z46, z47, z48, z49, t50, t51, t52, t53, t54, t55, t56, t57, t58, t59, t60, t61, t62, t63, t64, t65, t66, t67, t68, t69, t70, t71, t72, t73, undef], []⟩
 rx : Blk w' w.heap.size 76 #[.string nm, .slice A n c]
 rg : Blk w' g 74 #[.int .i64 0, .int .i64 0]
 rb : Below w.heap.size w w'
 ro : b24 = false → w'.cell? ⟨w.heap.size + 1 + 1 + 1 + 1, 1, none⟩ = some (.slice A1 k C1) ∧ w'.frozen? ⟨w.heap.size + 1 + 1 + 1 + 1, 1, none⟩ = false
 c22 : b22 = true → b21 = true
 c24 : b24 = true → b1 = true ∧ b22 = true
 w1 : b22 = false → Below wc.heap.size wc w'
 w2 : b21 = true → b22 = false → ∃ gB, t71 = .slice (some ⟨gB, 0, none⟩) 1 1 ∧ Blk w' gB 74 #[.int .i64 p.1, .int .i64 p.2]
 w3 : b22 = true → b24 = false → ∃ A5 c5, t72 = .slice A5 (k + 1) c5 ∧ GrP w nm A n c k L (.slice A1 k C1) (.slice A5 (k + 1) c5) w'
 w4 : b24 = true → ∃ v, GrP w nm A n c k L v v w'
 f0 : b0 = true → t50 = .pointer (some ⟨w.heap.size + 1 + 1 + 1 + 1, 1, none⟩)
 f1 : b1 = true → t51 = .slice A1 k C1
 f2 : b2 = true → t52 = .pointer (some ⟨w.heap.size, 1, none⟩)
 f3 : b3 = true → t53 = .slice A n c
 f4 : b4 = true → t54 = .int .i64 (k : Int)
 f5 : b5 = true → t55 = .pointer (some ⟨bb, off + k * 2, none⟩)
 f6 : b6 = true → t56 = .pointer (some ⟨bb, off + k * 2, none⟩)
 f7 : b7 = true → t57 = .int .i64 p.1
 f8 : b8 = true → t58 = .pointer (some ⟨g, 0, none⟩)
 f9 : b9 = true → t59 = .int .i64 0
 f10 : b10 = true → t60 = .int .i64 p.1
 f11 : b11 = true → t61 = .pointer (some ⟨w.heap.size, 1, none⟩)
 f12 : b12 = true → t62 = .slice A n c
 f13 : b13 = true → t63 = .int .i64 (k : Int)
 f14 : b14 = true → t64 = .pointer (some ⟨bb, off + k * 2, none⟩)
 f15 : b15 = true → t65 = .pointer (some ⟨bb, off + k * 2 + 1, none⟩)
 f16 : b16 = true → t66 = .int .i64 p.2
 f17 : b17 = true → t67 = .pointer (some ⟨g, 1, none⟩)
 f18 : b18 = true → t68 = .int .i64 0
 f19 : b19 = true → t69 = .int .i64 p.2
 f20 : b20 = true → t70 = .agg #[.int .i64 p.1, .int .i64 p.2]
 f23 : b23 = true → t73 = .pointer (some ⟨w.heap.size + 1 + 1 + 1 + 1, 1, none⟩)
theorem done_step {listed : Array Bool} {o : Oper} (h : o.after.toList.all (fun e => listed.getD e.on false) = true) : ∀ e ∈ o.after, Region.binds .any e = true → listed.getD e.on false = true := fun e he _ => List.all_eq_true.1 h e (Array.mem_toList_iff.2 he)
set_option maxRecDepth 100000 in
set_option maxHeartbeats 12800000 in
theorem rgr_zero (nm : ByteArray) (A : Option Addr) (n c : Nat) (l : List Pt) (w : World) (ha : Recs 2 spotG w A n l) (h2 : 2 ≤ n) (hn : n ≤ 1000) (hg : ∀ p ∈ l, inG p) :
  Calls Tryz.prog 146 #[.agg #[.string nm, .slice A n c], .agg #[.int .i64 0, .int .i64 0], .agg #[.int .i64 0, .int .i64 0]] w (RetGe nm l n w) := by
 have HA := Lib.hid ha
 have HL := Lib.hid ha.len
 have HG := Lib.hid hg
 have HZ := fun W => rround_zero (n - 1) W (by omega) (by omega)
 rw [show ((n - 1 : Nat) : Int) = (n : Int) - 1 by omega] at HZ
 have HZ := Lib.hid HZ
 clear ha hg
 go_enter Tryz.func146, Tryz.ntmps146
 go_wp2_with fail
 go_loopw [9, 10] (fun i _ wr => ∃ (k : Nat) (v : Value), k ≤ n ∧ i = .int .i64 (k : Int) ∧ Hid (GdW w nm A n c v wr) ∧ Hid (wr.ownsRow (w.heap.size + 5) 74 2 v k ((l.take k).flatMap spC)) ∧ Hid (Below w.heap.size w wr)) (fun i _ _ => n - (intOf i).toNat)
 case atStart =>
  refine ⟨0, .slice none 0 0, Nat.zero_le _, rfl, Lib.hid ⟨?_, ?_, ?_, ?_, ?_⟩, World.ownsRow_nil _ _ _ _, ?_⟩
  ·repeat (first | (focus ((with_reducible refine Blk.new' _ _ _ ?_); (simp; done))) | (with_reducible refine Blk.alloc ?_ _) | (focus ((with_reducible refine Blk.far ?_ ?_ _) <;> (try (simp; done)))))
  ·repeat (first | (focus ((with_reducible refine Blk.new' _ _ _ ?_); (simp; done))) | (with_reducible refine Blk.alloc ?_ _) | (refine Blk.far ?_ (by simp) _))
  ·repeat (first | (focus ((with_reducible refine Blk.new' _ _ _ ?_); (simp; done))) | (with_reducible refine Blk.alloc ?_ _) | (refine Blk.far ?_ (by simp) _))
  ·repeat (first | (focus ((refine Blk.new' _ _ _ ?_); (simp; done))) | (with_reducible refine Blk.alloc ?_ _) | (refine Blk.far ?_ (by simp) _))
  ·repeat (first | (focus ((with_reducible refine Blk.new' _ _ _ ?_); (simp; done))) | (with_reducible refine Blk.put2e ?_) | (with_reducible refine Blk.alloc ?_ _))
  ·repeat (first | (with_reducible exact Below.refl _ _) | (refine Below.setCell ?_ (by simp; omega) _) | (refine Below.alloc ?_ (by simp <;> omega) _))
 case round =>
  obtain ⟨k, v, hk, rfl, HGW, HO, HB⟩ := hrel
  by_cases hlt : k < n
  ·obtain ⟨b, off, p, rfl, hbw, hp, c0, c1⟩ := spot_at HA.out hlt
   have HP := Lib.hid hp
   obtain ⟨q1, q2, q3, q4⟩ := HG.out p (List.mem_of_getElem? hp)
   have HC0 := Lib.hid (And.intro hbw (And.intro c0 c1))
   replace c0 := (HB.out.cell (p := ⟨b, off + k * 2, none⟩) hbw).trans c0
   replace c1 := (HB.out.cell (p := ⟨b, off + k * 2 + 1, none⟩) hbw).trans c1
   have HC := Lib.hid (And.intro (Nat.lt_of_lt_of_le hbw HB.out.size) (And.intro c0 c1))
   obtain ⟨wz, rfl⟩ : ∃ v, v = wr := ⟨_, rfl⟩
   obtain ⟨y0, y1, y2, y3⟩ := four_cells HGW.out.a HGW.out.b
   have HSZ := Lib.hid (HGW.out.o.lt)
   have i1 : (0 : Int) ≤ (k : Int) := by omega
   have i2 : (k : Int) ≤ (n : Int) - 1 := by omega
   have i3 : IntKind.i64.wrap ((n : Int) - 1 - (k : Int)) = (n : Int) - 1 - (k : Int) := IntWalk.i64_in _ (by omega)
   have i6 : IntKind.i64.wrap 0 = 0 := rfl
   have hsz := HSZ.out
   clear hp c0 c1
   go_wp2_with fail
   go_cut [10] (fun v10 wc => ∃ g, v10 = .pointer (some ⟨g, 0, none⟩) ∧ wz.heap.size ≤ g ∧ Blk wc g 74 #[.int .i64 0, .int .i64 0] ∧ Below wz.heap.size wz wc)
   case first =>
    go_region_held3 (fun w' => w'.cell? ⟨w.heap.size + 1, 0, none⟩ = some (.int .i64 0) ∧ w'.cell? ⟨w.heap.size + 1, 1, none⟩ = some (.int .i64 0) ∧ w'.cell? ⟨w.heap.size + 1 + 1, 0, none⟩ = some (.int .i64 0) ∧ w'.cell? ⟨w.heap.size + 1 + 1, 1, none⟩ = some (.int .i64 0))
     ((refine four_cells (t := 74) (t' := 74) ?_ ?_ <;> (repeat (first | (with_reducible exact HGW.out.a) | (with_reducible exact HGW.out.b) | (with_reducible refine Blk.drew ?_) | (with_reducible refine Blk.alloc ?_ _) | (refine Blk.far ?_ (by simp; omega) _)))))
     ((go_at_call 180; go_must ((with_reducible refine (HZ.out _).mono ?_); rintro e w1 ⟨rfl, rfl⟩)))
    all_goals
     go_wp2_with fail
     go_meet
     refine ⟨_, rfl, Nat.le_refl _, ?_, ?_⟩
     ·repeat (first | (focus ((with_reducible refine Blk.new' _ _ _ ?_); (simp; done))) | (with_reducible refine Blk.put2s ?_) | (with_reducible refine Blk.alloc ?_ _) | (with_reducible refine Blk.drew ?_))
     ·repeat (first | (with_reducible exact Below.refl _ _) | (with_reducible refine Below.drew ?_) | (refine Below.setCell ?_ (by simp) _) | (refine Below.alloc ?_ (by simp) _))
   case rest =>
    obtain ⟨g, rfl, hge, hgd, hbc⟩ := hcut
    obtain ⟨A1, C1, hv1⟩ := own_form HO.out
    subst hv1
    have HBC := Lib.hid hbc
    have HGC := Lib.hid (HGW.out.below hbc)
    have HOC := Lib.hid (own_below HO.out hbc)
    have HGD := Lib.hid hgd
    have HBV := Lib.hid (HB.out.trans (hbc.mono HB.out.size))
    have hsc := HBV.out.size
    have hol := HGC.out.o.lt
    obtain ⟨hbl, c0, c1⟩ := HC.out
    replace c0 := (hbc.cell (p := ⟨b, off + k * 2, none⟩) hbl).trans c0
    replace c1 := (hbc.cell (p := ⟨b, off + k * 2 + 1, none⟩) hbl).trans c1
    have hbl2 := Nat.lt_of_lt_of_le hbl hbc.size
    have x0 := HGC.out.x.c (i := 0) rfl
    have x1 := HGC.out.x.c (i := 1) rfl
    have o1 := HGC.out.o.c (i := 1) rfl
    have d0 := hgd.c (i := 0) rfl
    have d1 := hgd.c (i := 1) rfl
    have hgl := hgd.lt
    have i4 : IntKind.i64.wrap p.1 = p.1 := IntWalk.i64_in _ (by omega)
    have i5 : IntKind.i64.wrap p.2 = p.2 := IntWalk.i64_in _ (by omega)
    have i7 : (k : Int) < (n : Int) := by omega
    have HKN : Hid (k + 1 ≤ maxLen ∧ (k + 1) * 16 ≤ 140737488355328) := by
     rw [Hid]
     unfold maxLen
     omega
    have HTS : Hid ((l.take k).flatMap spC ++ [.int .i64 p.1, .int .i64 p.2] = (l.take (k + 1)).flatMap spC) := by
     rw [Hid, List.take_add_one, HP.out, List.flatMap_append]
     rfl
    have HGO : Hid (some g ≠ (Value.slice A1 k C1).ownBlock) := fun e => by have := (HO.out.lt g e.symm).2; omega
    have HGN : Hid (g ≠ w.heap.size + 1 + 1 + 1 + 1) := by rw [Hid]; have := HSZ.out; omega
    clear y0 y1 y2 y3 i3 i6 hsz hgd hbc hge c0 c1 x0 x1 o1 d0 d1 hbl hbl2 hgl hol hsc
    go_wp2_with fail
    refine region_inv (I := fun li f w' => ∃ b0 b1 b2 b3 b4 b5 b6 b7 b8 b9 b10 b11 b12 b13 b14 b15 b16 b17 b18 b19 b20 b21 b22 b23 b24 z18 z19 z20 z21 z22 z23 z24 z25 z26 z27 z28 z29 z30 z31 z32 z33 z34 z35 z36 z37 z38 z39 z40 z41 z42 z43 z44 z45 z46 z47 z48 z49 t50 t51 t52 t53 t54 t55 t56 t57 t58 t59 t60 t61 t62 t63 t64 t65 t66 t67 t68 t69 t70 t71 t72 t73, GrI w nm (some ⟨b, off, none⟩) n c k g b off p A1 C1 ((l.take (k + 1)).flatMap spC) wc li f w' b0 b1 b2 b3 b4 b5 b6 b7 b8 b9 b10 b11 b12 b13 b14 b15 b16 b17 b18 b19 b20 b21 b22 b23 b24 z18 z19 z20 z21 z22 z23 z24 z25 z26 z27 z28 z29 z30 z31 z32 z33 z34 z35 z36 z37 z38 z39 z40 z41 z42 z43 z44 z45 z46 z47 z48 z49 t50 t51 t52 t53 t54 t55 t56 t57 t58 t59 t60 t61 t62 t63 t64 t65 t66 t67 t68 t69 t70 t71 t72 t73) (by kernel_rfl) ?_ ?_ ?_
    ·exact ⟨false, false, false, false, false, false, false, false, false, false, false, false, false, false, false, false, false, false, false, false, false, false, false, false, false, _, _, _, _, _, _, _, _, _, _, _, _, _, _, _, _, _, _, _, _, _, _, _, _, _, _, _, _, _, _, _, _, _, _, _, _, _, _, _, _, _, _, _, _, _, _, _, _, _, _, _, _, _, _, _, _, rfl, rfl, HGC.out.x.drew, HGD.out.drew, HBV.out.drew, (fun _ => ⟨HGC.out.o.drew.c (i := 1) rfl, HGC.out.o.drew.frozen 1⟩), (fun e => by cases e), (fun e => by cases e), (fun _ => (Below.refl _ _).drew), (fun e => by cases e), (fun e => by cases e), (fun e => by cases e), (fun e => by cases e), (fun e => by cases e), (fun e => by cases e), (fun e => by cases e), (fun e => by cases e), (fun e => by cases e), (fun e => by cases e), (fun e => by cases e), (fun e => by cases e), (fun e => by cases e), (fun e => by cases e), (fun e => by cases e), (fun e => by cases e), (fun e => by cases e), (fun e => by cases e), (fun e => by cases e), (fun e => by cases e), (fun e => by cases e), (fun e => by cases e), (fun e => by cases e), (fun e => by cases e), (fun e => by cases e)⟩
    ·rintro listed f w' i o ⟨b0, b1, b2, b3, b4, b5, b6, b7, b8, b9, b10, b11, b12, b13, b14, b15, b16, b17, b18, b19, b20, b21, b22, b23, b24, z18, z19, z20, z21, z22, z23, z24, z25, z26, z27, z28, z29, z30, z31, z32, z33, z34, z35, z36, z37, z38, z39, z40, z41, z42, z43, z44, z45, z46, z47, z48, z49, t50, t51, t52, t53, t54, t55, t56, t57, t58, t59, t60, t61, t62, t63, t64, t65, t66, t67, t68, t69, t70, t71, t72, t73, X⟩ hi1 ho hd K hK
     obtain ⟨rfl, rfl, rx, rg, rb, ro, c22, c24, w1, w2, w3, w4, f0, f1, f2, f3, f4, f5, f6, f7, f8, f9, f10, f11, f12, f13, f14, f15, f16, f17, f18, f19, f20, f23⟩ := X
     have hlt : i < 25 := (Array.getElem?_eq_some_iff.1 ho).1
     match i, hlt with
     | 0, _ =>
      simp only [List.getElem?_toArray, List.getElem?_cons_zero, Option.some.injEq] at ho
      subst ho
      rw [if_pos (wanted_free rfl)]
      go_simp
      exact hK _ _ ⟨true, b1, b2, b3, b4, b5, b6, b7, b8, b9, b10, b11, b12, b13, b14, b15, b16, b17, b18, b19, b20, b21, b22, b23, b24, _, _, _, _, _, _, _, _, _, _, _, _, _, _, _, _, _, _, _, _, _, _, _, _, _, _, _, _, _, _, _, _, _, _, _, _, _, _, _, _, _, _, _, _, _, _, _, _, _, _, _, _, _, _, _, _, ⟨rfl, rfl, rx, rg, rb, ro, c22, c24, w1, w2, w3, w4, (fun _ => rfl), f1, f2, f3, f4, f5, f6, f7, f8, f9, f10, f11, f12, f13, f14, f15, f16, f17, f18, f19, f20, f23⟩⟩
     | 1, _ =>
      simp only [List.getElem?_toArray, List.getElem?_cons_zero, List.getElem?_cons_succ, Option.some.injEq] at ho
      subst ho
      have e0 := f0 (hd ⟨0, .data⟩ (by simp) rfl)
      rw [if_pos (wanted_free rfl)]
      subst e0
      obtain rfl : b1 = false := hi1
      obtain rfl : b24 = false := by cases b24 with | false => rfl | true => exact absurd (c24 rfl).1 (by decide)
      obtain ⟨o1, o2⟩ := ro rfl
      go_simp
      exact hK _ _ ⟨b0, true, b2, b3, b4, b5, b6, b7, b8, b9, b10, b11, b12, b13, b14, b15, b16, b17, b18, b19, b20, b21, b22, b23, false, _, _, _, _, _, _, _, _, _, _, _, _, _, _, _, _, _, _, _, _, _, _, _, _, _, _, _, _, _, _, _, _, _, _, _, _, _, _, _, _, _, _, _, _, _, _, _, _, _, _, _, _, _, _, _, _, ⟨rfl, rfl, rx, rg, rb, ro, c22, (fun e => by cases e), w1, w2, w3, w4, (fun _ => rfl), (fun _ => rfl), f2, f3, f4, f5, f6, f7, f8, f9, f10, f11, f12, f13, f14, f15, f16, f17, f18, f19, f20, f23⟩⟩
     | 2, _ =>
      simp only [List.getElem?_toArray, List.getElem?_cons_zero, List.getElem?_cons_succ, Option.some.injEq] at ho
      subst ho
      rw [if_pos (wanted_free rfl)]
      go_simp
      exact hK _ _ ⟨b0, b1, true, b3, b4, b5, b6, b7, b8, b9, b10, b11, b12, b13, b14, b15, b16, b17, b18, b19, b20, b21, b22, b23, b24, _, _, _, _, _, _, _, _, _, _, _, _, _, _, _, _, _, _, _, _, _, _, _, _, _, _, _, _, _, _, _, _, _, _, _, _, _, _, _, _, _, _, _, _, _, _, _, _, _, _, _, _, _, _, _, _, ⟨rfl, rfl, rx, rg, rb, ro, c22, c24, w1, w2, w3, w4, f0, f1, (fun _ => rfl), f3, f4, f5, f6, f7, f8, f9, f10, f11, f12, f13, f14, f15, f16, f17, f18, f19, f20, f23⟩⟩
     | 3, _ =>
      simp only [List.getElem?_toArray, List.getElem?_cons_zero, List.getElem?_cons_succ, Option.some.injEq] at ho
      subst ho
      have e2 := f2 (hd ⟨2, .data⟩ (by simp) rfl)
      rw [if_pos (wanted_free rfl)]
      subst e2
      have x1 := rx.c (i := 1) rfl
      go_simp
      exact hK _ _ ⟨b0, b1, b2, true, b4, b5, b6, b7, b8, b9, b10, b11, b12, b13, b14, b15, b16, b17, b18, b19, b20, b21, b22, b23, b24, _, _, _, _, _, _, _, _, _, _, _, _, _, _, _, _, _, _, _, _, _, _, _, _, _, _, _, _, _, _, _, _, _, _, _, _, _, _, _, _, _, _, _, _, _, _, _, _, _, _, _, _, _, _, _, _, ⟨rfl, rfl, rx, rg, rb, ro, c22, c24, w1, w2, w3, w4, f0, f1, (fun _ => rfl), (fun _ => rfl), f4, f5, f6, f7, f8, f9, f10, f11, f12, f13, f14, f15, f16, f17, f18, f19, f20, f23⟩⟩
     | 4, _ =>
      simp only [List.getElem?_toArray, List.getElem?_cons_zero, List.getElem?_cons_succ, Option.some.injEq] at ho
      subst ho
      rw [if_pos (wanted_free rfl)]
      go_simp
      exact hK _ _ ⟨b0, b1, b2, b3, true, b5, b6, b7, b8, b9, b10, b11, b12, b13, b14, b15, b16, b17, b18, b19, b20, b21, b22, b23, b24, _, _, _, _, _, _, _, _, _, _, _, _, _, _, _, _, _, _, _, _, _, _, _, _, _, _, _, _, _, _, _, _, _, _, _, _, _, _, _, _, _, _, _, _, _, _, _, _, _, _, _, _, _, _, _, _, ⟨rfl, rfl, rx, rg, rb, ro, c22, c24, w1, w2, w3, w4, f0, f1, f2, f3, (fun _ => rfl), f5, f6, f7, f8, f9, f10, f11, f12, f13, f14, f15, f16, f17, f18, f19, f20, f23⟩⟩
     | 5, _ =>
      simp only [List.getElem?_toArray, List.getElem?_cons_zero, List.getElem?_cons_succ, Option.some.injEq] at ho
      subst ho
      have e3 := f3 (hd ⟨3, .data⟩ (by simp) rfl)
      have e4 := f4 (hd ⟨4, .data⟩ (by simp) rfl)
      rw [if_pos (wanted_free rfl)]
      subst e3 e4
      go_simp
      exact hK _ _ ⟨b0, b1, b2, b3, b4, true, b6, b7, b8, b9, b10, b11, b12, b13, b14, b15, b16, b17, b18, b19, b20, b21, b22, b23, b24, _, _, _, _, _, _, _, _, _, _, _, _, _, _, _, _, _, _, _, _, _, _, _, _, _, _, _, _, _, _, _, _, _, _, _, _, _, _, _, _, _, _, _, _, _, _, _, _, _, _, _, _, _, _, _, _, ⟨rfl, rfl, rx, rg, rb, ro, c22, c24, w1, w2, w3, w4, f0, f1, f2, (fun _ => rfl), (fun _ => rfl), (fun _ => rfl), f6, f7, f8, f9, f10, f11, f12, f13, f14, f15, f16, f17, f18, f19, f20, f23⟩⟩
     | 6, _ =>
      simp only [List.getElem?_toArray, List.getElem?_cons_zero, List.getElem?_cons_succ, Option.some.injEq] at ho
      subst ho
      have e5 := f5 (hd ⟨5, .data⟩ (by simp) rfl)
      rw [if_pos (wanted_free rfl)]
      subst e5
      go_simp
      exact hK _ _ ⟨b0, b1, b2, b3, b4, b5, true, b7, b8, b9, b10, b11, b12, b13, b14, b15, b16, b17, b18, b19, b20, b21, b22, b23, b24, _, _, _, _, _, _, _, _, _, _, _, _, _, _, _, _, _, _, _, _, _, _, _, _, _, _, _, _, _, _, _, _, _, _, _, _, _, _, _, _, _, _, _, _, _, _, _, _, _, _, _, _, _, _, _, _, ⟨rfl, rfl, rx, rg, rb, ro, c22, c24, w1, w2, w3, w4, f0, f1, f2, f3, f4, (fun _ => rfl), (fun _ => rfl), f7, f8, f9, f10, f11, f12, f13, f14, f15, f16, f17, f18, f19, f20, f23⟩⟩
     | 7, _ =>
      simp only [List.getElem?_toArray, List.getElem?_cons_zero, List.getElem?_cons_succ, Option.some.injEq] at ho
      subst ho
      have e6 := f6 (hd ⟨6, .data⟩ (by simp) rfl)
      rw [if_pos (wanted_free rfl)]
      subst e6
      have y0 := (rb.cell (p := ⟨b, off + k * 2, none⟩) HC0.out.1).trans HC0.out.2.1
      go_simp
      exact hK _ _ ⟨b0, b1, b2, b3, b4, b5, b6, true, b8, b9, b10, b11, b12, b13, b14, b15, b16, b17, b18, b19, b20, b21, b22, b23, b24, _, _, _, _, _, _, _, _, _, _, _, _, _, _, _, _, _, _, _, _, _, _, _, _, _, _, _, _, _, _, _, _, _, _, _, _, _, _, _, _, _, _, _, _, _, _, _, _, _, _, _, _, _, _, _, _, ⟨rfl, rfl, rx, rg, rb, ro, c22, c24, w1, w2, w3, w4, f0, f1, f2, f3, f4, f5, (fun _ => rfl), (fun _ => rfl), f8, f9, f10, f11, f12, f13, f14, f15, f16, f17, f18, f19, f20, f23⟩⟩
     | 8, _ =>
      simp only [List.getElem?_toArray, List.getElem?_cons_zero, List.getElem?_cons_succ, Option.some.injEq] at ho
      subst ho
      rw [if_pos (wanted_free rfl)]
      go_simp
      exact hK _ _ ⟨b0, b1, b2, b3, b4, b5, b6, b7, true, b9, b10, b11, b12, b13, b14, b15, b16, b17, b18, b19, b20, b21, b22, b23, b24, _, _, _, _, _, _, _, _, _, _, _, _, _, _, _, _, _, _, _, _, _, _, _, _, _, _, _, _, _, _, _, _, _, _, _, _, _, _, _, _, _, _, _, _, _, _, _, _, _, _, _, _, _, _, _, _, ⟨rfl, rfl, rx, rg, rb, ro, c22, c24, w1, w2, w3, w4, f0, f1, f2, f3, f4, f5, f6, f7, (fun _ => rfl), f9, f10, f11, f12, f13, f14, f15, f16, f17, f18, f19, f20, f23⟩⟩
     | 9, _ =>
      simp only [List.getElem?_toArray, List.getElem?_cons_zero, List.getElem?_cons_succ, Option.some.injEq] at ho
      subst ho
      have e8 := f8 (hd ⟨8, .data⟩ (by simp) rfl)
      rw [if_pos (wanted_free rfl)]
      subst e8
      have d0 := rg.c (i := 0) rfl
      go_simp
      exact hK _ _ ⟨b0, b1, b2, b3, b4, b5, b6, b7, b8, true, b10, b11, b12, b13, b14, b15, b16, b17, b18, b19, b20, b21, b22, b23, b24, _, _, _, _, _, _, _, _, _, _, _, _, _, _, _, _, _, _, _, _, _, _, _, _, _, _, _, _, _, _, _, _, _, _, _, _, _, _, _, _, _, _, _, _, _, _, _, _, _, _, _, _, _, _, _, _, ⟨rfl, rfl, rx, rg, rb, ro, c22, c24, w1, w2, w3, w4, f0, f1, f2, f3, f4, f5, f6, f7, (fun _ => rfl), (fun _ => rfl), f10, f11, f12, f13, f14, f15, f16, f17, f18, f19, f20, f23⟩⟩
     | 10, _ =>
      simp only [List.getElem?_toArray, List.getElem?_cons_zero, List.getElem?_cons_succ, Option.some.injEq] at ho
      subst ho
      have e7 := f7 (hd ⟨7, .data⟩ (by simp) rfl)
      have e9 := f9 (hd ⟨9, .data⟩ (by simp) rfl)
      rw [if_pos (wanted_free rfl)]
      subst e7 e9
      go_simp
      exact hK _ _ ⟨b0, b1, b2, b3, b4, b5, b6, b7, b8, b9, true, b11, b12, b13, b14, b15, b16, b17, b18, b19, b20, b21, b22, b23, b24, _, _, _, _, _, _, _, _, _, _, _, _, _, _, _, _, _, _, _, _, _, _, _, _, _, _, _, _, _, _, _, _, _, _, _, _, _, _, _, _, _, _, _, _, _, _, _, _, _, _, _, _, _, _, _, _, ⟨rfl, rfl, rx, rg, rb, ro, c22, c24, w1, w2, w3, w4, f0, f1, f2, f3, f4, f5, f6, (fun _ => rfl), f8, (fun _ => rfl), (fun _ => rfl), f11, f12, f13, f14, f15, f16, f17, f18, f19, f20, f23⟩⟩
     | 11, _ =>
      simp only [List.getElem?_toArray, List.getElem?_cons_zero, List.getElem?_cons_succ, Option.some.injEq] at ho
      subst ho
      rw [if_pos (wanted_free rfl)]
      go_simp
      exact hK _ _ ⟨b0, b1, b2, b3, b4, b5, b6, b7, b8, b9, b10, true, b12, b13, b14, b15, b16, b17, b18, b19, b20, b21, b22, b23, b24, _, _, _, _, _, _, _, _, _, _, _, _, _, _, _, _, _, _, _, _, _, _, _, _, _, _, _, _, _, _, _, _, _, _, _, _, _, _, _, _, _, _, _, _, _, _, _, _, _, _, _, _, _, _, _, _, ⟨rfl, rfl, rx, rg, rb, ro, c22, c24, w1, w2, w3, w4, f0, f1, f2, f3, f4, f5, f6, f7, f8, f9, f10, (fun _ => rfl), f12, f13, f14, f15, f16, f17, f18, f19, f20, f23⟩⟩
     | 12, _ =>
      simp only [List.getElem?_toArray, List.getElem?_cons_zero, List.getElem?_cons_succ, Option.some.injEq] at ho
      subst ho
      have e11 := f11 (hd ⟨11, .data⟩ (by simp) rfl)
      rw [if_pos (wanted_free rfl)]
      subst e11
      have x1 := rx.c (i := 1) rfl
      go_simp
      exact hK _ _ ⟨b0, b1, b2, b3, b4, b5, b6, b7, b8, b9, b10, b11, true, b13, b14, b15, b16, b17, b18, b19, b20, b21, b22, b23, b24, _, _, _, _, _, _, _, _, _, _, _, _, _, _, _, _, _, _, _, _, _, _, _, _, _, _, _, _, _, _, _, _, _, _, _, _, _, _, _, _, _, _, _, _, _, _, _, _, _, _, _, _, _, _, _, _, ⟨rfl, rfl, rx, rg, rb, ro, c22, c24, w1, w2, w3, w4, f0, f1, f2, f3, f4, f5, f6, f7, f8, f9, f10, (fun _ => rfl), (fun _ => rfl), f13, f14, f15, f16, f17, f18, f19, f20, f23⟩⟩
     | 13, _ =>
      simp only [List.getElem?_toArray, List.getElem?_cons_zero, List.getElem?_cons_succ, Option.some.injEq] at ho
      subst ho
      rw [if_pos (wanted_free rfl)]
      go_simp
      exact hK _ _ ⟨b0, b1, b2, b3, b4, b5, b6, b7, b8, b9, b10, b11, b12, true, b14, b15, b16, b17, b18, b19, b20, b21, b22, b23, b24, _, _, _, _, _, _, _, _, _, _, _, _, _, _, _, _, _, _, _, _, _, _, _, _, _, _, _, _, _, _, _, _, _, _, _, _, _, _, _, _, _, _, _, _, _, _, _, _, _, _, _, _, _, _, _, _, ⟨rfl, rfl, rx, rg, rb, ro, c22, c24, w1, w2, w3, w4, f0, f1, f2, f3, f4, f5, f6, f7, f8, f9, f10, f11, f12, (fun _ => rfl), f14, f15, f16, f17, f18, f19, f20, f23⟩⟩
     | 14, _ =>
      simp only [List.getElem?_toArray, List.getElem?_cons_zero, List.getElem?_cons_succ, Option.some.injEq] at ho
      subst ho
      have e12 := f12 (hd ⟨12, .data⟩ (by simp) rfl)
      have e13 := f13 (hd ⟨13, .data⟩ (by simp) rfl)
      rw [if_pos (wanted_free rfl)]
      subst e12 e13
      go_simp
      exact hK _ _ ⟨b0, b1, b2, b3, b4, b5, b6, b7, b8, b9, b10, b11, b12, b13, true, b15, b16, b17, b18, b19, b20, b21, b22, b23, b24, _, _, _, _, _, _, _, _, _, _, _, _, _, _, _, _, _, _, _, _, _, _, _, _, _, _, _, _, _, _, _, _, _, _, _, _, _, _, _, _, _, _, _, _, _, _, _, _, _, _, _, _, _, _, _, _, ⟨rfl, rfl, rx, rg, rb, ro, c22, c24, w1, w2, w3, w4, f0, f1, f2, f3, f4, f5, f6, f7, f8, f9, f10, f11, (fun _ => rfl), (fun _ => rfl), (fun _ => rfl), f15, f16, f17, f18, f19, f20, f23⟩⟩
     | 15, _ =>
      simp only [List.getElem?_toArray, List.getElem?_cons_zero, List.getElem?_cons_succ, Option.some.injEq] at ho
      subst ho
      have e14 := f14 (hd ⟨14, .data⟩ (by simp) rfl)
      rw [if_pos (wanted_free rfl)]
      subst e14
      go_simp
      exact hK _ _ ⟨b0, b1, b2, b3, b4, b5, b6, b7, b8, b9, b10, b11, b12, b13, b14, true, b16, b17, b18, b19, b20, b21, b22, b23, b24, _, _, _, _, _, _, _, _, _, _, _, _, _, _, _, _, _, _, _, _, _, _, _, _, _, _, _, _, _, _, _, _, _, _, _, _, _, _, _, _, _, _, _, _, _, _, _, _, _, _, _, _, _, _, _, _, ⟨rfl, rfl, rx, rg, rb, ro, c22, c24, w1, w2, w3, w4, f0, f1, f2, f3, f4, f5, f6, f7, f8, f9, f10, f11, f12, f13, (fun _ => rfl), (fun _ => rfl), f16, f17, f18, f19, f20, f23⟩⟩
     | 16, _ =>
      simp only [List.getElem?_toArray, List.getElem?_cons_zero, List.getElem?_cons_succ, Option.some.injEq] at ho
      subst ho
      have e15 := f15 (hd ⟨15, .data⟩ (by simp) rfl)
      rw [if_pos (wanted_free rfl)]
      subst e15
      have y1 := (rb.cell (p := ⟨b, off + k * 2 + 1, none⟩) HC0.out.1).trans HC0.out.2.2
      go_simp
      exact hK _ _ ⟨b0, b1, b2, b3, b4, b5, b6, b7, b8, b9, b10, b11, b12, b13, b14, b15, true, b17, b18, b19, b20, b21, b22, b23, b24, _, _, _, _, _, _, _, _, _, _, _, _, _, _, _, _, _, _, _, _, _, _, _, _, _, _, _, _, _, _, _, _, _, _, _, _, _, _, _, _, _, _, _, _, _, _, _, _, _, _, _, _, _, _, _, _, ⟨rfl, rfl, rx, rg, rb, ro, c22, c24, w1, w2, w3, w4, f0, f1, f2, f3, f4, f5, f6, f7, f8, f9, f10, f11, f12, f13, f14, (fun _ => rfl), (fun _ => rfl), f17, f18, f19, f20, f23⟩⟩
     | 17, _ =>
      simp only [List.getElem?_toArray, List.getElem?_cons_zero, List.getElem?_cons_succ, Option.some.injEq] at ho
      subst ho
      rw [if_pos (wanted_free rfl)]
      go_simp
      exact hK _ _ ⟨b0, b1, b2, b3, b4, b5, b6, b7, b8, b9, b10, b11, b12, b13, b14, b15, b16, true, b18, b19, b20, b21, b22, b23, b24, _, _, _, _, _, _, _, _, _, _, _, _, _, _, _, _, _, _, _, _, _, _, _, _, _, _, _, _, _, _, _, _, _, _, _, _, _, _, _, _, _, _, _, _, _, _, _, _, _, _, _, _, _, _, _, _, ⟨rfl, rfl, rx, rg, rb, ro, c22, c24, w1, w2, w3, w4, f0, f1, f2, f3, f4, f5, f6, f7, f8, f9, f10, f11, f12, f13, f14, f15, f16, (fun _ => rfl), f18, f19, f20, f23⟩⟩
     | 18, _ =>
      simp only [List.getElem?_toArray, List.getElem?_cons_zero, List.getElem?_cons_succ, Option.some.injEq] at ho
      subst ho
      have e17 := f17 (hd ⟨17, .data⟩ (by simp) rfl)
      rw [if_pos (wanted_free rfl)]
      subst e17
      have d1 := rg.c (i := 1) rfl
      go_simp
      exact hK _ _ ⟨b0, b1, b2, b3, b4, b5, b6, b7, b8, b9, b10, b11, b12, b13, b14, b15, b16, b17, true, b19, b20, b21, b22, b23, b24, _, _, _, _, _, _, _, _, _, _, _, _, _, _, _, _, _, _, _, _, _, _, _, _, _, _, _, _, _, _, _, _, _, _, _, _, _, _, _, _, _, _, _, _, _, _, _, _, _, _, _, _, _, _, _, _, ⟨rfl, rfl, rx, rg, rb, ro, c22, c24, w1, w2, w3, w4, f0, f1, f2, f3, f4, f5, f6, f7, f8, f9, f10, f11, f12, f13, f14, f15, f16, (fun _ => rfl), (fun _ => rfl), f19, f20, f23⟩⟩
     | 19, _ =>
      simp only [List.getElem?_toArray, List.getElem?_cons_zero, List.getElem?_cons_succ, Option.some.injEq] at ho
      subst ho
      have e16 := f16 (hd ⟨16, .data⟩ (by simp) rfl)
      have e18 := f18 (hd ⟨18, .data⟩ (by simp) rfl)
      rw [if_pos (wanted_free rfl)]
      subst e16 e18
      go_simp
      exact hK _ _ ⟨b0, b1, b2, b3, b4, b5, b6, b7, b8, b9, b10, b11, b12, b13, b14, b15, b16, b17, b18, true, b20, b21, b22, b23, b24, _, _, _, _, _, _, _, _, _, _, _, _, _, _, _, _, _, _, _, _, _, _, _, _, _, _, _, _, _, _, _, _, _, _, _, _, _, _, _, _, _, _, _, _, _, _, _, _, _, _, _, _, _, _, _, _, ⟨rfl, rfl, rx, rg, rb, ro, c22, c24, w1, w2, w3, w4, f0, f1, f2, f3, f4, f5, f6, f7, f8, f9, f10, f11, f12, f13, f14, f15, (fun _ => rfl), f17, (fun _ => rfl), (fun _ => rfl), f20, f23⟩⟩
     | 20, _ =>
      simp only [List.getElem?_toArray, List.getElem?_cons_zero, List.getElem?_cons_succ, Option.some.injEq] at ho
      subst ho
      have e10 := f10 (hd ⟨10, .data⟩ (by simp) rfl)
      have e19 := f19 (hd ⟨19, .data⟩ (by simp) rfl)
      rw [if_pos (wanted_free rfl)]
      subst e10 e19
      go_simp
      exact hK _ _ ⟨b0, b1, b2, b3, b4, b5, b6, b7, b8, b9, b10, b11, b12, b13, b14, b15, b16, b17, b18, b19, true, b21, b22, b23, b24, _, _, _, _, _, _, _, _, _, _, _, _, _, _, _, _, _, _, _, _, _, _, _, _, _, _, _, _, _, _, _, _, _, _, _, _, _, _, _, _, _, _, _, _, _, _, _, _, _, _, _, _, _, _, _, _, ⟨rfl, rfl, rx, rg, rb, ro, c22, c24, w1, w2, w3, w4, f0, f1, f2, f3, f4, f5, f6, f7, f8, f9, (fun _ => rfl), f11, f12, f13, f14, f15, f16, f17, f18, (fun _ => rfl), (fun _ => rfl), f23⟩⟩
     | 21, _ =>
      simp only [List.getElem?_toArray, List.getElem?_cons_zero, List.getElem?_cons_succ, Option.some.injEq] at ho
      subst ho
      have e20 := f20 (hd ⟨20, .data⟩ (by simp) rfl)
      rw [if_pos (wanted_free rfl)]
      subst e20
      go_simp
      obtain rfl : b21 = false := hi1
      obtain rfl : b22 = false := by cases b22 with | false => rfl | true => exact absurd (c22 rfl) (by decide)
      exact hK _ _ ⟨b0, b1, b2, b3, b4, b5, b6, b7, b8, b9, b10, b11, b12, b13, b14, b15, b16, b17, b18, b19, b20, true, false, b23, b24, _, _, _, _, _, _, _, _, _, _, _, _, _, _, _, _, _, _, _, _, _, _, _, _, _, _, _, _, _, _, _, _, _, _, _, _, _, _, _, _, _, _, _, _, _, _, _, _, _, _, _, _, _, _, _, _, ⟨rfl, rfl, (rx.alloc _), (rg.alloc _), (rb.alloc rb.size _), (fun e => ⟨by rw [← (ro e).1]; exact ((Below.refl w'.heap.size w').alloc (Nat.le_refl _) _).cell (p := ⟨w.heap.size + 1 + 1 + 1 + 1, 1, none⟩) (Nat.lt_of_lt_of_le HGC.out.o.lt (w1 rfl).size), by rw [← (ro e).2]; exact ((Below.refl w'.heap.size w').alloc (Nat.le_refl _) _).frozen (p := ⟨w.heap.size + 1 + 1 + 1 + 1, 1, none⟩) (Nat.lt_of_lt_of_le HGC.out.o.lt (w1 rfl).size)⟩), (fun e => by cases e), c24, (fun _ => (w1 rfl).alloc (w1 rfl).size _), (fun _ _ => ⟨_, rfl, Blk.new _ _ _⟩), (fun e => by cases e), (fun e => by cases (c24 e).2), f0, f1, f2, f3, f4, f5, f6, f7, f8, f9, f10, f11, f12, f13, f14, f15, f16, f17, f18, f19, (fun _ => rfl), f23⟩⟩
     | 22, _ =>
      simp only [List.getElem?_toArray, List.getElem?_cons_zero, List.getElem?_cons_succ, Option.some.injEq] at ho
      subst ho
      have e1 := f1 (hd ⟨1, .data⟩ (by simp) rfl)
      obtain rfl : b22 = false := hi1
      obtain rfl : b21 = true := hd ⟨21, .data⟩ (by simp) rfl
      obtain rfl : b24 = false := by cases b24 with | false => rfl | true => exact absurd (c24 rfl).2 (by decide)
      have hbW := w1 rfl
      obtain ⟨gB, hgB, hBk⟩ := w2 rfl rfl
      subst hgB e1
      refine step_own (P := Tryz.prog) (by rfl) _ _ 65 (by rfl) (w.heap.size + 5) 74 (.agg #[.int .i64 0, .int .i64 0]) 2 16 Tryz.underlying65 spot_info rfl (by decide) (.slice A1 k C1) k ((l.take k).flatMap spC) (by rfl) (own_below HOC.out hbW) ⟨gB, 0, none⟩ 1 1 [.int .i64 p.1, .int .i64 p.2] (by rfl) (by rfl) (fun j u hu => by rw [Go.WideShapes.add_plain]; exact hBk.c (by simpa using hu)) (spC_one p) HKN.out.1 HKN.out.2 (by have := rx.lt; have := hbW.size; have := HGC.out.o.lt; omega) ?_
      intro v5 w5 ho5 hg5 hn5
      obtain ⟨A5, c5, hv5⟩ := own_form ho5
      subst hv5
      have X5 := GdW.grown (HGC.out.below hbW) hg5 (fun g e => (HOC.out.lt g e).1)
      have hbe := below_own rb hg5 rb.size (fun g e => by have := (HOC.out.lt g e).1; omega)
      have hg6 := rg.grown hg5 HGO.out
      rw [HTS.out] at ho5
      exact hK _ _ ⟨b0, b1, b2, b3, b4, b5, b6, b7, b8, b9, b10, b11, b12, b13, b14, b15, b16, b17, b18, b19, b20, true, true, b23, false, _, _, _, _, _, _, _, _, _, _, _, _, _, _, _, _, _, _, _, _, _, _, _, _, _, _, _, _, _, _, _, _, _, _, _, _, _, _, _, _, _, _, _, _, _, _, _, _, _, _, _, _, _, _, _, _, ⟨rfl, rfl, X5.x, hg6, hbe, (fun _ => ⟨X5.o.c (i := 1) rfl, X5.o.frozen 1⟩), (fun _ => rfl), (fun e => by cases e), (fun e => by cases e), (fun _ e => by cases e), (fun _ _ => ⟨A5, c5, rfl, X5, ho5, hbe⟩), (fun e => by cases e), f0, (fun _ => rfl), f2, f3, f4, f5, f6, f7, f8, f9, f10, f11, f12, f13, f14, f15, f16, f17, f18, f19, f20, f23⟩⟩
     | 23, _ =>
      simp only [List.getElem?_toArray, List.getElem?_cons_zero, List.getElem?_cons_succ, Option.some.injEq] at ho
      subst ho
      rw [if_pos (wanted_free rfl)]
      go_simp
      exact hK _ _ ⟨b0, b1, b2, b3, b4, b5, b6, b7, b8, b9, b10, b11, b12, b13, b14, b15, b16, b17, b18, b19, b20, b21, b22, true, b24, _, _, _, _, _, _, _, _, _, _, _, _, _, _, _, _, _, _, _, _, _, _, _, _, _, _, _, _, _, _, _, _, _, _, _, _, _, _, _, _, _, _, _, _, _, _, _, _, _, _, _, _, _, _, _, _, ⟨rfl, rfl, rx, rg, rb, ro, c22, c24, w1, w2, w3, w4, f0, f1, f2, f3, f4, f5, f6, f7, f8, f9, f10, f11, f12, f13, f14, f15, f16, f17, f18, f19, f20, (fun _ => rfl)⟩⟩
     | 24, _ =>
      simp only [List.getElem?_toArray, List.getElem?_cons_zero, List.getElem?_cons_succ, Option.some.injEq] at ho
      subst ho
      have e23 := f23 (hd ⟨23, .data⟩ (by simp) rfl)
      rw [if_pos (wanted_free rfl)]
      obtain rfl : b24 = false := hi1
      obtain rfl : b22 = true := hd ⟨22, .data⟩ (by simp) rfl
      obtain rfl : b1 = true := hd ⟨1, .phase⟩ (by simp) rfl
      obtain ⟨A5, c5, h72, hP⟩ := w3 rfl rfl
      subst h72 e23
      obtain ⟨o1, o2⟩ := ro rfl
      go_simp
      exact hK _ _ ⟨b0, true, b2, b3, b4, b5, b6, b7, b8, b9, b10, b11, b12, b13, b14, b15, b16, b17, b18, b19, b20, b21, true, b23, true, _, _, _, _, _, _, _, _, _, _, _, _, _, _, _, _, _, _, _, _, _, _, _, _, _, _, _, _, _, _, _, _, _, _, _, _, _, _, _, _, _, _, _, _, _, _, _, _, _, _, _, _, _, _, _, _, ⟨rfl, rfl, (hP.gd.put _).x, (rg.far (by show g ≠ w.heap.size + 1 + 1 + 1 + 1; exact HGN.out) _), (rb.setCell (p := ⟨w.heap.size + 1 + 1 + 1 + 1, 1, none⟩) (by show w.heap.size ≤ w.heap.size + 1 + 1 + 1 + 1; omega) _), (fun e => by cases e), c22, (fun _ => ⟨rfl, rfl⟩), (fun e => by cases e), (fun _ e => by cases e), (fun _ e => by cases e), (fun _ => ⟨_, hP.gd.put _, own_sto hP.ow (by show w.heap.size + 1 + 1 + 1 + 1 < _; omega) _, hP.be.setCell (p := ⟨w.heap.size + 1 + 1 + 1 + 1, 1, none⟩) (by show w.heap.size ≤ w.heap.size + 1 + 1 + 1 + 1; omega) _⟩), f0, (fun _ => rfl), f2, f3, f4, f5, f6, f7, f8, f9, f10, f11, f12, f13, f14, f15, f16, f17, f18, f19, f20, (fun _ => rfl)⟩⟩
    ·rintro listed f w' ⟨b0, b1, b2, b3, b4, b5, b6, b7, b8, b9, b10, b11, b12, b13, b14, b15, b16, b17, b18, b19, b20, b21, b22, b23, b24, z18, z19, z20, z21, z22, z23, z24, z25, z26, z27, z28, z29, z30, z31, z32, z33, z34, z35, z36, z37, z38, z39, z40, z41, z42, z43, z44, z45, z46, z47, z48, z49, t50, t51, t52, t53, t54, t55, t56, t57, t58, t59, t60, t61, t62, t63, t64, t65, t66, t67, t68, t69, t70, t71, t72, t73, X⟩ hall
     obtain ⟨rfl, rfl, rx, rg, rb, ro, c22, c24, w1, w2, w3, w4, f0, f1, f2, f3, f4, f5, f6, f7, f8, f9, f10, f11, f12, f13, f14, f15, f16, f17, f18, f19, f20, f23⟩ := X
     obtain rfl : b0 = true := hall 0 _ rfl (done_step rfl)
     obtain rfl : b1 = true := hall 1 _ rfl (done_step rfl)
     obtain rfl : b2 = true := hall 2 _ rfl (done_step rfl)
     obtain rfl : b3 = true := hall 3 _ rfl (done_step rfl)
     obtain rfl : b4 = true := hall 4 _ rfl (done_step rfl)
     obtain rfl : b5 = true := hall 5 _ rfl (done_step rfl)
     obtain rfl : b6 = true := hall 6 _ rfl (done_step rfl)
     obtain rfl : b7 = true := hall 7 _ rfl (done_step rfl)
     obtain rfl : b8 = true := hall 8 _ rfl (done_step rfl)
     obtain rfl : b9 = true := hall 9 _ rfl (done_step rfl)
     obtain rfl : b10 = true := hall 10 _ rfl (done_step rfl)
     obtain rfl : b11 = true := hall 11 _ rfl (done_step rfl)
     obtain rfl : b12 = true := hall 12 _ rfl (done_step rfl)
     obtain rfl : b13 = true := hall 13 _ rfl (done_step rfl)
     obtain rfl : b14 = true := hall 14 _ rfl (done_step rfl)
     obtain rfl : b15 = true := hall 15 _ rfl (done_step rfl)
     obtain rfl : b16 = true := hall 16 _ rfl (done_step rfl)
     obtain rfl : b17 = true := hall 17 _ rfl (done_step rfl)
     obtain rfl : b18 = true := hall 18 _ rfl (done_step rfl)
     obtain rfl : b19 = true := hall 19 _ rfl (done_step rfl)
     obtain rfl : b20 = true := hall 20 _ rfl (done_step rfl)
     obtain rfl : b21 = true := hall 21 _ rfl (done_step rfl)
     obtain rfl : b22 = true := hall 22 _ rfl (done_step rfl)
     obtain rfl : b23 = true := hall 23 _ rfl (done_step rfl)
     obtain rfl : b24 = true := hall 24 _ rfl (done_step rfl)
     have HW4 := Lib.hid (w4 rfl)
     clear ro c22 c24 w1 w2 w3 w4 rx rg rb f0 f1 f2 f3 f4 f5 f6 f7 f8 f9 f10 f11 f12 f13 f14 f15 f16 f17 f18 f19 f20 f23
     go_wp2_with fail
     go_roundw
     case rel =>
      obtain ⟨v5, hP⟩ := HW4.out
      exact ⟨k + 1, v5, by omega, by go_num, hP.gd, hP.ow, hP.be⟩
     case measure => simp [intOf]; omega
  ·obtain rfl : k = n := by omega
   have hall : l.take k = l := List.take_of_length_le (by rw [HL.out]; exact Nat.le_refl _)
   rw [hall] at HO
   obtain ⟨g, d, rfl, hge, hr, hd⟩ := own_recs_at HO.out HL.out (by omega)
   have HR := Lib.hid (And.intro hge (And.intro hr hd))
   have o0 := HGW.out.o.c (i := 0) rfl
   have o1 := HGW.out.o.c (i := 1) rfl
   have r0 := HGW.out.r.c (i := 0) rfl
   have r1 := HGW.out.r.c (i := 1) rfl
   have z0 := HGW.out.r.frozen 0
   have z1 := HGW.out.r.frozen 1
   have hsz := HGW.out.o.lt
   have i2 : ¬ (k : Int) ≤ (k : Int) - 1 := by omega
   clear hge hr hd hall
   go_wp2_with fail
   refine bodyPost_ret (v := .agg #[.string nm, .slice (some ⟨g, 0, none⟩) k d]) (by simp [results, Tryz.results146, go_sem, r0, r1]) rfl ?_
   have hne : w.heap.size + 1 + 1 + 1 ≠ g := by have := HR.out.1; omega
   exact ⟨g, d, rfl, by have := HR.out.1; omega, recs_sto (recs_sto HR.out.2.1 hne _) hne _, HR.out.2.2, (HB.out.setCell (p := ⟨w.heap.size + 1 + 1 + 1, 0, none⟩) (by show w.heap.size ≤ w.heap.size + 1 + 1 + 1; omega) _).setCell (p := ⟨w.heap.size + 1 + 1 + 1, 1, none⟩) (by show w.heap.size ≤ w.heap.size + 1 + 1 + 1; omega) _⟩
end
end Go.Proofs.YtiibocdmlfedkaaGreatDoor
