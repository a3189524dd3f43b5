/-
  Several texts in one: The law ScanOpen returns true. Conditions: Std; the floor and the scans lie in memory.
-/
import Derived.Test.YtgldhjmedidmoaaGreatDoorG50
import Derived.Test.YtgldhjmedidmoaaGreatDoorG51

/- The law ScanOpen returns true. Conditions: Std; the floor and the scans lie in memory. -/
namespace Go.Proofs.YtgldhjmedidmoaaGreatDoor
open Go.RowKit
open Go.Lib hiding intOf

/-! ### plain: the open operations below a number -/
def openN (l : List PScan) (t : Int) (k : Nat) : List Int := ((List.range k).map fun i : Nat => (i : Int)).filter fun op => !doneB l t op
theorem openN_succ (l : List PScan) (t : Int) (k : Nat) : openN l t (k + 1) = openN l t k ++ if doneB l t (k : Int) = true then [] else [(k : Int)] := by
  unfold openN
  rw [List.range_succ, List.map_append, List.filter_append]
  congr 1
  cases h : doneB l t (k : Int) <;> simp [h]
theorem openN_more (l : List PScan) (t : Int) (k : Nat) : ∀ d : Nat, ∃ R, openN l t (k + d) = openN l t k ++ R ∧ ∀ z ∈ R, (k : Int) ≤ z
  | 0 => ⟨[], by simp, fun z hz => by cases hz⟩
  | d + 1 => by
    obtain ⟨R, h1, h2⟩ := openN_more l t k d
    refine ⟨R ++ if doneB l t ((k + d : Nat) : Int) = true then [] else [((k + d : Nat) : Int)], by rw [← Nat.add_assoc, openN_succ, h1, List.append_assoc], fun z hz => ?_⟩
    rcases List.mem_append.1 hz with hz | hz
    · exact h2 z hz
    · split at hz
      · cases hz
      · obtain rfl : z = ((k + d : Nat) : Int) := by simpa using hz
        omega
theorem openN_len {l : List PScan} {t : Int} {k o : Nat} (h : k ≤ o) : (openN l t k).length ≤ (openN l t o).length := by
  obtain ⟨R, h1, _⟩ := openN_more l t k (o - k)
  rw [show k + (o - k) = o by omega] at h1
  rw [h1, List.length_append]
  omega
theorem openN_hit {l : List PScan} {t : Int} {k o : Nat} (h : k < o) (h0 : doneB l t (k : Int) = false) : (openN l t o)[(openN l t k).length]? = some (k : Int) := by
  obtain ⟨R, h1, _⟩ := openN_more l t (k + 1) (o - (k + 1))
  rw [show k + 1 + (o - (k + 1)) = o by omega, openN_succ, if_neg (by simp [h0])] at h1
  rw [h1, List.append_assoc, List.getElem?_append_right (Nat.le_refl _), Nat.sub_self]
  rfl
theorem openN_miss {l : List PScan} {t z : Int} {k o : Nat} (h : k < o) (h0 : doneB l t (k : Int) = true) (hz : (openN l t o)[(openN l t k).length]? = some z) : z ≠ (k : Int) := by
  obtain ⟨R, h1, h2⟩ := openN_more l t (k + 1) (o - (k + 1))
  rw [show k + 1 + (o - (k + 1)) = o by omega, openN_succ, if_pos h0, List.append_nil] at h1
  rw [h1, List.getElem?_append_right (Nat.le_refl _), Nat.sub_self] at hz
  have := h2 z (List.mem_of_getElem? hz)
  omega
theorem cnt_snoc {α : Type} {l : List α} {f : α → Bool} {j : Nat} {x : α} (hx : l[j]? = some x) : ((l.take (j + 1)).filter f).length = ((l.take j).filter f).length + if f x = true then 1 else 0 := by
  rw [List.take_add_one, hx, List.filter_append, List.length_append]
  congr 1
  cases h : f x <;> simp [h]
set_option maxRecDepth 100000 in
set_option maxHeartbeats 12800000 in
theorem scanOpen_walk (F : FH) (s : PStyle) (bs : List PBundle) (ws : List PWorker) (X : Option Addr) (n xc : Nat) (xs : List PScan) (w : World) (hw : Std w) (h : FloorA w s bs ws F) (hx : Recs 4 scanG w X n xs) (_hc : n ≤ xc) :
    Calls Tryz.prog 12 #[.agg #[.string s.name, .slice F.Z F.z F.zc, .slice F.M F.m F.mc, .slice F.P F.p F.pc, .slice F.U F.u F.uc, .slice F.E F.e F.ec, .slice F.O F.o F.oc, .slice F.L F.n F.c, .slice F.V F.k F.kc], .slice X n xc] w (RetLaw w) := by
  have HB : Hid (Below w.heap.size w (w.alloc (.cells #[.string s.name, .slice F.Z F.z F.zc, .slice F.M F.m F.mc, .slice F.P F.p F.pc, .slice F.U F.u F.uc, .slice F.E F.e F.ec, .slice F.O F.o F.oc, .slice F.L F.n F.c, .slice F.V F.k F.kc] 33))) := (Below.refl _ _).alloc (Nat.le_refl _) _
  have HX := Lib.hid (Blk.new w 33 #[.string s.name, .slice F.Z F.z F.zc, .slice F.M F.m F.mc, .slice F.P F.p F.pc, .slice F.U F.u F.uc, .slice F.E F.e F.ec, .slice F.O F.o F.oc, .slice F.L F.n F.c, .slice F.V F.k F.kc])
  have hF := few_any F s bs ws X n xc _ (h.on HB.out)
  have HA := Lib.hid h
  have HXS := Lib.hid hx
  have HW := Lib.hid hw
  have HFB := fun hf : fewB s bs ws n = true => few_all hf
  obtain ⟨R, hR⟩ : ∃ R, fewB s bs ws n = R := ⟨_, rfl⟩
  rw [hR] at hF HFB
  have HF := Lib.hid hF
  clear h hx hw hF hR
  cases R
  · clear HFB
    go_enter Tryz.func12, Tryz.ntmps12
    go_wp2_with fail
    refine HF.out.mono ?_
    rintro e1 w1 ⟨rfl, hb1⟩
    have HB1 := Lib.hid (HB.out.trans (hb1.mono HB.out.size))
    have HE := Lib.hid (example_any w1 (HW.out.below HB1.out))
    clear hb1
    go_wp2_with fail
    refine HE.out.mono ?_
    rintro e2 w2 ⟨rfl, hb2⟩
    have HB2 := Lib.hid (HB1.out.trans (hb2.mono HB1.out.size))
    clear hb2
    go_wp2_with fail
    go_ret
    exact ⟨rfl, HB2.out⟩
  · obtain ⟨f1, f2, f3, f4, f5⟩ := HFB rfl
    have HFS : Hid (FloorS s ws) := ⟨f1, f4⟩
    clear HFB f1 f2 f3 f4
    go_enter Tryz.func12, Tryz.ntmps12
    go_wp2_with fail
    refine HF.out.mono ?_
    rintro e1 w1 ⟨rfl, hb1⟩
    have HB1 := Lib.hid (HB.out.trans (hb1.mono HB.out.size))
    have HX1 := Lib.hid (HX.out.below hb1)
    have HP := Lib.hid (fpaid_any F s bs ws X n xc xs w1 (HA.out.on HB1.out) HFS.out (HXS.out.on scan_mono HB1.out))
    obtain ⟨x0, x1, x2, x3, x4, x5, x6, x7, x8⟩ := nine_box HX1.out
    clear hb1
    go_wp2_with fail
    refine HP.out.mono ?_
    rintro e2 w2 ⟨hb2, ⟨hne, rfl⟩ | ⟨hz0, A, c, rfl, hrec, hcap⟩⟩
    · have HB2 := Lib.hid (HB1.out.trans (hb2.mono HB1.out.size))
      have HE := Lib.hid (example_any w2 (HW.out.below HB2.out))
      obtain ⟨J, hJ⟩ : ∃ J, judgeErr s bs ws xs.length = J := ⟨_, rfl⟩
      rw [hJ] at hne ⊢
      have hne' : (J != 0) = true := by simpa using hne
      clear hb2 hne hJ
      go_wp2_with fail
      refine HE.out.mono ?_
      rintro e3 w3 ⟨rfl, hb3⟩
      have HB3 := Lib.hid (HB2.out.trans (hb3.mono HB2.out.size))
      clear hb3
      go_wp2_with fail
      go_ret
      exact ⟨rfl, HB3.out⟩
    · have HB2 := Lib.hid (HB1.out.trans (hb2.mono HB1.out.size))
      have HX2 := Lib.hid (HX1.out.below hb2)
      have HZ := Lib.hid hz0
      have n300 : n ≤ 300 := by rw [← HXS.out.len]; exact (jerr_zero hz0).2
      have fn60 : F.n ≤ 60 := by rw [← HA.out.bun.len]; exact (scan_zero (jerr_zero hz0).1).2.1
      have fo16 : F.o ≤ 16 := by rw [← HA.out.st.ops.len]; exact (ops_idx (jerr_zero hz0).1).1
      have HFO := Lib.hid HA.out.st.ops.len
      obtain ⟨ps, hps⟩ : ∃ l, paidP s bs ws xs = l := ⟨_, rfl⟩
      have HGD : Hid (GoodL s bs ws ps) := by rw [Hid, ← hps]; exact paid_good xs
      have hple : ps.length ≤ n := by rw [← hps, ← HXS.out.len]; exact paid_len _ _ _ _
      rw [hps] at hrec hcap ⊢
      obtain ⟨m, hm⟩ : ∃ m, ps.length = m := ⟨_, rfl⟩
      rw [hm] at hrec hcap hple ⊢
      have m300 : m ≤ 300 := by omega
      have HPS := Lib.hid hps
      have HRE := Lib.hid hrec
      obtain ⟨fn, hfn⟩ : ∃ k, F.n = k := ⟨_, rfl⟩
      obtain ⟨L, hL⟩ : ∃ k, F.L = k := ⟨_, rfl⟩
      have HBU := Lib.hid HA.out.bun
      have HC2 : Hid (∀ W, Below w2.heap.size w2 W → W.cell? ⟨w.heap.size, 6, none⟩ = some (.slice F.O F.o F.oc) ∧ W.cell? ⟨w.heap.size, 7, none⟩ = some (.slice L fn F.c)) := fun W hb => by
        obtain ⟨_, _, _, _, _, _, z6, z7, _⟩ := nine_box (HX2.out.below hb)
        rw [hfn, hL] at z7
        exact ⟨z6, z7⟩
      rw [hfn] at fn60
      rw [hfn, hL] at HBU
      obtain ⟨x6, x7⟩ := HC2.out w2 (Below.refl _ _)
      have HOP := Lib.hid (fun (t : Int) W (hb : Below w2.heap.size w2 W) => fopen_any F s bs ws X n xc xs t W (HA.out.on (HB2.out.trans (hb.mono HB2.out.size))) HFS.out (HXS.out.on scan_mono (HB2.out.trans (hb.mono HB2.out.size))))
      have HX9 := Lib.hid (fun W (hb : Below w2.heap.size w2 W) => nine_box (HX2.out.below hb))
      clear hb2 hz0 hrec hps hm hfn hL n300 hple
      clear x0 x1 x2 x3 x4 x5 x8
      go_wp2_with fail
      go_loopw [8, 9, 10, 11, 12, 13, 15, 33, 51, 56] (fun _ _ _ _ _ _ _ i _ _ wr => ∃ k : Nat, k ≤ fn ∧ i = .int .i64 (k : Int) ∧ Hid (Below w2.heap.size w2 wr)) (fun _ _ _ _ _ _ _ i _ _ _ => fn - (intOf i).toNat)
      case atStart => exact ⟨0, Nat.zero_le _, rfl, Below.refl _ _⟩
      case round =>
        obtain ⟨k, hk, rfl, HBL⟩ := hrel
        have HBV := Lib.hid (HB2.out.trans (HBL.out.mono HB2.out.size))
        obtain ⟨x0, x1, x2, x3, x4, x5, x6, x7, x8⟩ := HX9.out wr HBL.out
        by_cases hlt : k < fn
        · obtain ⟨b, off, x, rfl, hbw, hx, c0, c1, c2, c3, c4, c5, _, _⟩ := bundle_at (HBU.out.on bundle_mono HBV.out) hlt
          have HTM : Hid (x.ticket ∈ bs.map (·.ticket)) := List.mem_map.2 ⟨x, List.mem_of_getElem? hx, rfl⟩
          obtain ⟨t, ht⟩ : ∃ t, x.ticket = t := ⟨_, rfl⟩
          rw [ht] at c0 HTM
          have HBA : Hid (Below wr.heap.size wr (wr.alloc (.cells #[.int .i64 t, .int .i64 x.garment, .int .i64 x.size, .int .i64 x.lot, .int .i64 x.from_, .int .i64 x.to_] 67))) := (Below.refl _ _).alloc (Nat.le_refl _) _
          have HY := Lib.hid (Blk.new wr 67 #[.int .i64 t, .int .i64 x.garment, .int .i64 x.size, .int .i64 x.lot, .int .i64 x.from_, .int .i64 x.to_])
          have HO := Lib.hid (HOP.out t _ (HBL.out.trans (HBA.out.mono HBL.out.size)))
          obtain ⟨y0, y1, y2, y3, y4, y5, y6, y7, y8⟩ := HX9.out _ (HBL.out.trans (HBA.out.mono HBL.out.size))
          have i1 : (0 : Int) ≤ (k : Int) := by omega
          have i2 : (k : Int) < (fn : Int) := by omega
          clear hx ht
          go_wp2_with fail
          refine HO.out.mono ?_
          intro e3 w3 hret3
          obtain ⟨A2, c2, rfl, hsl, hb3⟩ := hret3.ok (oerr_ok HZ.out HTM.out)
          have HB3 := Lib.hid (HBA.out.trans (hb3.mono HBA.out.size))
          have HBL3 := Lib.hid (HBL.out.trans (HB3.out.mono HBL.out.size))
          have HY3 := Lib.hid (HY.out.below hb3)
          have hol : openP s bs ws xs t = openN ps t F.o := by rw [← HPS.out, ← HFO.out]; rfl
          rw [hol] at hsl ⊢
          obtain ⟨lo, hlo⟩ : ∃ k, (openN ps t F.o).length = k := ⟨_, rfl⟩
          rw [hlo] at hsl ⊢
          have HSL := Lib.hid hsl
          have HLO := Lib.hid hlo
          obtain ⟨x0, x1, x2, x3, x4, x5, x6, x7, x8⟩ := HX9.out w3 HBL3.out
          have lo16 : lo ≤ 16 := by
            have := List.length_filter_le (fun op => !doneB ps t op) ((List.range F.o).map fun i : Nat => (i : Int))
            rw [← hlo]
            simp only [List.length_map, List.length_range] at this
            exact Nat.le_trans this fo16
          clear hb3 hsl hol hlo hret3
          go_wp2_with fail
          go_loopw [11, 12, 13, 15, 51, 56] (fun a _ _ _ i _ wq => ∃ j : Nat, j ≤ F.o ∧ i = .int .i64 (j : Int) ∧ a = .int .i64 ((openN ps t j).length : Int) ∧ Hid (Below w3.heap.size w3 wq)) (fun _ _ _ _ i _ _ => F.o - (intOf i).toNat)
          case atStart => exact ⟨0, Nat.zero_le _, rfl, rfl, Below.refl _ _⟩
          case round =>
            obtain ⟨j, hj, rfl, rfl, HBQ⟩ := hrel
            obtain ⟨wq, rfl⟩ : ∃ v, v = wr := ⟨_, rfl⟩
            have HBQ2 := Lib.hid (HBL3.out.trans (HBQ.out.mono HBL3.out.size))
            have HYQ := Lib.hid (HY3.out.below HBQ.out)
            obtain ⟨q, hq⟩ : ∃ k, (openN ps t j).length = k := ⟨_, rfl⟩
            rw [hq]
            have hqlo : q ≤ lo := by rw [← hq, ← HLO.out]; exact openN_len hj
            have HQ := Lib.hid hq
            clear hq
            by_cases hlt2 : j < F.o
            · have j1 : (j : Int) < (F.o : Int) := by omega
              go_wp2_with fail
              go_loopw [13, 15, 56] (fun v _ i wz => ∃ p : Nat, p ≤ m ∧ i = .int .i64 (p : Int) ∧ v = .int .i64 (((ps.take p).filter (isTO t j)).length : Int) ∧ Hid (Below wq.heap.size wq wz)) (fun _ _ i _ => m - (intOf i).toNat)
              case atStart => exact ⟨0, Nat.zero_le _, rfl, rfl, Below.refl _ _⟩
              case round =>
                obtain ⟨p, hp, rfl, rfl, HBZ⟩ := hrel
                obtain ⟨wz, rfl⟩ : ∃ v, v = wr := ⟨_, rfl⟩
                have HBZ2 := Lib.hid (HBQ2.out.trans (HBZ.out.mono HBQ2.out.size))
                have HBZ3 := Lib.hid (HBQ.out.trans (HBZ.out.mono HBQ.out.size))
                have HYZ := Lib.hid (HYQ.out.below HBZ.out)
                obtain ⟨cn, hcn⟩ : ∃ k, ((ps.take p).filter (isTO t j)).length = k := ⟨_, rfl⟩
                rw [hcn]
                have hcp : cn ≤ p := by rw [← hcn]; exact Nat.le_trans (List.length_filter_le _ _) (by rw [List.length_take]; omega)
                have HCN := Lib.hid hcn
                clear hcn
                by_cases hlt3 : p < m
                · obtain ⟨b2, off2, y, rfl, hbw2, hy, d0, d1, d2, d3⟩ := scan_at (HRE.out.on scan_mono HBZ2.out) hlt3
                  have hcs := cnt_snoc (f := isTO t j) hy
                  rw [HCN.out] at hcs
                  have HTO : Hid (isTO t j y = (decide (y.ticket = t) && decide (y.op = (j : Int)))) := rfl
                  obtain ⟨yt, hyt⟩ : ∃ v, y.ticket = v := ⟨_, rfl⟩
                  obtain ⟨yo, hyo⟩ : ∃ v, y.op = v := ⟨_, rfl⟩
                  rw [hyt, hyo] at HTO
                  rw [hyt] at d0
                  rw [hyo] at d1
                  have HCS := Lib.hid hcs
                  have HBA3 : Hid (Below wz.heap.size wz (wz.alloc (.cells #[.int .i64 yt, .int .i64 yo, .int .i64 y.worker, .int .i64 y.at_] 53))) := (Below.refl _ _).alloc (Nat.le_refl _) _
                  have u0 := (HYZ.out.below HBA3.out).c (i := 0) rfl
                  have i3 : (0 : Int) ≤ (p : Int) := by omega
                  have i4 : (p : Int) < (m : Int) := by omega
                  clear hy hyt hyo hcs
                  by_cases e1 : yt = t
                  · by_cases e2 : yo = (j : Int)
                    · have HN1 : Hid (((ps.take (p + 1)).filter (isTO t j)).length = cn + 1) := by rw [Hid, HCS.out, HTO.out, decide_eq_true e1, decide_eq_true e2]; rfl
                      clear HTO HCS
                      subst e1
                      subst e2
                      go_wp2_with fail
                      go_roundw
                      case rel => exact ⟨p + 1, by omega, by go_num, by rw [HN1.out]; go_num, HBZ.out.trans (HBA3.out.mono HBZ.out.size)⟩
                      case measure => simp [intOf]; omega
                    · have HN1 : Hid (((ps.take (p + 1)).filter (isTO t j)).length = cn) := by rw [Hid, HCS.out, HTO.out, decide_eq_false e2, Bool.and_false]; rfl
                      clear HTO HCS
                      subst e1
                      go_wp2_with fail
                      go_roundw
                      case rel => exact ⟨p + 1, by omega, by go_num, by rw [HN1.out], HBZ.out.trans (HBA3.out.mono HBZ.out.size)⟩
                      case measure => simp [intOf]; omega
                  · have HN1 : Hid (((ps.take (p + 1)).filter (isTO t j)).length = cn) := by rw [Hid, HCS.out, HTO.out, decide_eq_false e1, Bool.false_and]; rfl
                    clear HTO HCS
                    go_wp2_with fail
                    go_roundw
                    case rel => exact ⟨p + 1, by omega, by go_num, by rw [HN1.out], HBZ.out.trans (HBA3.out.mono HBZ.out.size)⟩
                    case measure => simp [intOf]; omega
                · obtain rfl : m = p := by omega
                  have HCM : Hid (cn = if doneB ps t j = true then 1 else 0) := by rw [Hid, ← HCN.out, List.take_of_length_le (by rw [HRE.out.len]; exact Nat.le_refl _), count_one t j HGD.out]
                  have j0 : (0 : Int) ≤ (q : Int) := by omega
                  by_cases hd : doneB ps t (j : Int) = true
                  · obtain rfl : cn = 1 := by have := HCM.out; rwa [if_pos hd] at this
                    have HS : Hid ((openN ps t (j + 1)).length = q) := by rw [Hid, openN_succ, if_pos hd, List.append_nil, HQ.out]
                    have HD := Lib.hid hd
                    clear hd HCM
                    by_cases hql : q < lo
                    · obtain ⟨b3, off3, z, rfl, hbw3, hz, d0⟩ := (HSL.out.on HBZ3.out).int_ hql
                      have hzj : z ≠ (j : Int) := openN_miss hlt2 HD.out (by rw [HQ.out]; exact hz)
                      have j2 : (q : Int) < (lo : Int) := by omega
                      clear hz
                      go_wp2_with fail
                      go_roundw
                      case rel => exact ⟨j + 1, by omega, by go_num, by rw [HS.out], HBZ3.out⟩
                      case measure => simp [intOf]; omega
                    · have j2 : ¬ (q : Int) < (lo : Int) := by omega
                      go_wp2_with fail
                      go_roundw
                      case rel => exact ⟨j + 1, by omega, by go_num, by rw [HS.out], HBZ3.out⟩
                      case measure => simp [intOf]; omega
                  · have hd' : doneB ps t (j : Int) = false := by simpa using hd
                    obtain rfl : cn = 0 := by have := HCM.out; rwa [if_neg hd] at this
                    have HS : Hid ((openN ps t (j + 1)).length = q + 1) := by rw [Hid, openN_succ, if_neg hd, List.length_append, HQ.out]; rfl
                    have hh := openN_hit hlt2 hd'
                    rw [HQ.out] at hh
                    have hql : q < lo := by rw [← HLO.out]; exact (List.getElem?_eq_some_iff.1 hh).1
                    obtain ⟨b3, off3, z, rfl, hbw3, hz, d0⟩ := (HSL.out.on HBZ3.out).int_ hql
                    obtain rfl : (j : Int) = z := Option.some.inj (hh.symm.trans hz)
                    have j2 : (q : Int) < (lo : Int) := by omega
                    clear hz hh hd hd' HCM
                    go_wp2_with fail
                    go_roundw
                    case rel => exact ⟨j + 1, by omega, by go_num, by rw [HS.out]; go_num, HBZ3.out⟩
                    case measure => simp [intOf]; omega
            · obtain rfl : j = F.o := by omega
              obtain rfl : q = lo := by rw [← HQ.out, HLO.out]
              go_wp2_with fail
              go_roundw
              case rel => exact ⟨k + 1, by omega, by go_num, HBQ2.out⟩
              case measure => simp [intOf]; omega
        · obtain rfl : fn = k := by omega
          have HE := Lib.hid (example_any wr (HW.out.below HBV.out))
          go_wp2_with fail
          refine HE.out.mono ?_
          rintro e4 w4 ⟨rfl, hb4⟩
          have HB4 := Lib.hid (HBV.out.trans (hb4.mono HBV.out.size))
          clear hb4
          go_wp2_with fail
          go_ret
          exact ⟨rfl, HB4.out⟩
end Go.Proofs.YtgldhjmedidmoaaGreatDoor
