/-
  Several texts in one: wage.Pays returns the wages, or the error. Conditions: what the variables hold (StdT); a style and workers as they lie; at most 1000 workers.
-/
import Derived.Deep.CutBlock
import Derived.Test.YthomflbjijjhaaaGreatDoorG48
import Derived.Test.YthomflbjijjhaaaGreatDoorG50

/- wage.Pays returns the wages, or the error. Conditions: what the variables hold (StdT); a style and workers as they lie; at most 1000 workers. -/
namespace Go.Proofs.YthomflbjijjhaaaGreatDoor
open Go.RowKit
open Go.Lib hiding intOf

/-- Wages or an error come back. -/
def RetPy (s : PStyle) (bs : List PBundle) (ws : List PWorker) (xs : List PScan) (t : PTariff) (w : World) (e : Ending) (w' : World) : Prop := Below w.heap.size w w' ∧
  ((paysE s bs ws t xs.length ≠ 0 ∧ e = .returned (.tuple #[.slice none 0 0, .int .i64 (paysE s bs ws t xs.length)])) ∨
   (paysE s bs ws t xs.length = 0 ∧ ∃ A c, e = .returned (.tuple #[.slice A (paysP s bs ws t xs).length c, .int .i64 0]) ∧ Recs 3 payG w' A (paysP s bs ws t xs).length (paysP s bs ws t xs) ∧ (paysP s bs ws t xs).length ≤ c))
theorem payE_bad {s : PStyle} {bs : List PBundle} {ws : List PWorker} {t : PTariff} {n : Nat} (h : tariffE t ≠ 0) : paysE s bs ws t n = tariffE t := by unfold paysE; rw [if_pos h]
theorem payE_judge {s : PStyle} {bs : List PBundle} {ws : List PWorker} {t : PTariff} {n : Nat} (h : tariffE t = 0) : paysE s bs ws t n = judgeErr s bs ws n := by unfold paysE; rw [if_neg (by simpa using h)]
set_option maxRecDepth 100000 in
set_option maxHeartbeats 12800000 in
theorem Pays_any (F : FH) (s : PStyle) (bs : List PBundle) (ws : List PWorker) (X : Option Addr) (xc : Nat) (xs : List PScan) (t : PTariff) (w : World) (h : FloorA w s bs ws F) (hs : FloorS s ws) (hx : Recs 4 scanG w X xs.length xs) (hw : StdT w) (hk : F.k ≤ 1000) :
    Calls Tryz.prog 5 #[.agg #[.string s.name, .slice F.Z F.z F.zc, .slice F.M F.m F.mc, .slice F.P F.p F.pc, .slice F.U F.u F.uc, .slice F.E F.e F.ec, .slice F.O F.o F.oc], .slice F.L F.n F.c, .slice F.V F.k F.kc, .slice X xs.length xc, .agg #[.int .i64 t.rate, .int .i64 t.least]] w (RetPy s bs ws xs t w) := by
  have HBX : Hid (Below w.heap.size w ((w.alloc (.cells #[.string s.name, .slice F.Z F.z F.zc, .slice F.M F.m F.mc, .slice F.P F.p F.pc, .slice F.U F.u F.uc, .slice F.E F.e F.ec, .slice F.O F.o F.oc] 29)).alloc (.cells #[.int .i64 t.rate, .int .i64 t.least] 36))) := ((Below.refl _ _).alloc (Nat.le_refl _) _).alloc (by simp) _
  have HX0 : Hid (Blk ((w.alloc (.cells #[.string s.name, .slice F.Z F.z F.zc, .slice F.M F.m F.mc, .slice F.P F.p F.pc, .slice F.U F.u F.uc, .slice F.E F.e F.ec, .slice F.O F.o F.oc] 29)).alloc (.cells #[.int .i64 t.rate, .int .i64 t.least] 36)) w.heap.size 29 #[.string s.name, .slice F.Z F.z F.zc, .slice F.M F.m F.mc, .slice F.P F.p F.pc, .slice F.U F.u F.uc, .slice F.E F.e F.ec, .slice F.O F.o F.oc]) := (Blk.new w _ _).alloc _
  have HT0 : Hid (Blk ((w.alloc (.cells #[.string s.name, .slice F.Z F.z F.zc, .slice F.M F.m F.mc, .slice F.P F.p F.pc, .slice F.U F.u F.uc, .slice F.E F.e F.ec, .slice F.O F.o F.oc] 29)).alloc (.cells #[.int .i64 t.rate, .int .i64 t.least] 36)) (w.heap.size + 1) 36 #[.int .i64 t.rate, .int .i64 t.least]) := Blk.new' _ _ _ (by simp)
  have HC := Lib.hid (wcheck_any t _ (hw.below HBX.out))
  have HF := Lib.hid h
  have HSS := Lib.hid hs
  have HXS := Lib.hid hx
  have HW := Lib.hid hw
  obtain ⟨n, hn⟩ : ∃ n, xs.length = n := ⟨_, rfl⟩
  have HN := Lib.hid hn
  unfold RetPy
  rw [hn] at HXS ⊢
  obtain ⟨E, hE⟩ : ∃ E, tariffE t = E := ⟨_, rfl⟩
  rw [hE] at HC
  have HE := Lib.hid hE
  have HKL := Lib.hid h.wor.len
  obtain ⟨k, hkk⟩ : ∃ k, F.k = k := ⟨_, rfl⟩
  rw [hkk] at HKL hk ⊢
  have HKK := Lib.hid hkk
  have HFL := Lib.hid h.bun.len
  have HBU := Lib.hid h.bun
  obtain ⟨fn, hfn⟩ : ∃ fn, F.n = fn := ⟨_, rfl⟩
  rw [hfn] at HFL HBU ⊢
  have HFN := Lib.hid hfn
  clear h hs hx hw hn hE hkk hfn
  go_enter Tryz.func5, Tryz.ntmps5
  go_wp2_with fail
  refine HC.out.mono ?_
  rintro e1 w1 ⟨rfl, hb1⟩
  have HB1 := Lib.hid (HBX.out.trans (hb1.mono HBX.out.size))
  have HX1 := Lib.hid (HX0.out.below hb1)
  have HT1 := Lib.hid (HT0.out.below hb1)
  clear hb1
  by_cases hE0 : E = 0
  · subst hE0
    have HJ := Judge_any F s bs ws X xc xs w1 (HF.out.on HB1.out) HSS.out (by rw [HN.out]; exact HXS.out.on scan_mono HB1.out)
    unfold RetJu at HJ
    rw [HN.out, HKK.out, HFN.out] at HJ
    have HPE : Hid (paysE s bs ws t n = judgeErr s bs ws n) := payE_judge HE.out
    obtain ⟨R, hR⟩ : ∃ R, judgeErr s bs ws n = R := ⟨_, rfl⟩
    rw [hR] at HJ HPE
    have HR := Lib.hid hR
    have HJ := Lib.hid HJ
    have y0 := HX1.out.c (i := 0) rfl
    have y1 := HX1.out.c (i := 1) rfl
    have y2 := HX1.out.c (i := 2) rfl
    have y3 := HX1.out.c (i := 3) rfl
    have y4 := HX1.out.c (i := 4) rfl
    have y5 := HX1.out.c (i := 5) rfl
    have y6 := HX1.out.c (i := 6) rfl
    clear hR
    go_wp2_with fail
    refine HJ.out.mono ?_
    rintro e2 w2 ⟨hb2, ⟨hne, rfl⟩ | ⟨hz, g, rfl, hsl⟩⟩
    · have HB2 := Lib.hid (HB1.out.trans (hb2.mono HB1.out.size))
      have hne' : (R != 0) = true := by simpa using hne
      have HNE := Lib.hid hne
      clear hb2 hne
      go_wp2_with fail
      refine bodyPost_ret (results_tmp2 rfl _ _ _) rfl ?_
      exact ⟨HB2.out, .inl ⟨by rw [HPE.out]; exact HNE.out, by rw [HPE.out]; rfl⟩⟩
    · subst hz
      have HB2 := Lib.hid (HB1.out.trans (hb2.mono HB1.out.size))
      have HSL := Lib.hid hsl
      have HX2 := Lib.hid (HX1.out.below hb2)
      have HT2 := Lib.hid (HT1.out.below hb2)
      obtain ⟨z1, z2⟩ := jerr_zero HR.out
      have HZ1 := Lib.hid z1
      have hmm := @run_makeMap Tryz.prog
      have uM := Tryz.underlying58
      have HM0 : Hid (MapM (Value.int .i64) (w2.alloc (.map #[] 0)) w2.heap.size []) := MapM.made _ _
      have HB0 : Hid (Below w2.heap.size w2 (w2.alloc (.map #[] 0))) := (Below.refl _ _).alloc (Nat.le_refl _) _
      have n60 : fn ≤ 60 := by rw [← HFL.out]; exact (scan_zero z1).2.1
      clear hb2 hsl z1 y0 y1 y2 y3 y4 y5 y6
      go_wp2_with fail
      go_loopw [17, 46] (fun _ i wr => ∃ (q : Nat) (m : List (Int × Value)), q ≤ fn ∧ i = .int .i64 (q : Int) ∧ Hid (MapM (Value.int .i64) wr w2.heap.size m) ∧ Hid (∀ t, mget m t = (countF (bs.take q) t).map (Value.int .i64)) ∧ Hid (Below w2.heap.size w2 wr)) (fun _ i _ => fn - (intOf i).toNat)
      case atStart => exact ⟨0, [], Nat.zero_le _, rfl, HM0, fun t => by rw [mget_nil]; rfl, HB0⟩
      case round =>
        obtain ⟨q, m, hq, rfl, HM, HG, HB⟩ := hrel
        by_cases hlt : q < fn
        · have HBV := Lib.hid (HB2.out.trans (HB.out.mono HB2.out.size))
          obtain ⟨b, off, x, hA, hbw, hx, c0, c1, c2, c3, c4, c5, _, _⟩ := bundle_at HBU.out hlt
          replace c0 := (HBV.out.cell (p := ⟨b, off + q * 6, none⟩) hbw).trans c0
          replace c1 := (HBV.out.cell (p := ⟨b, off + q * 6 + 1, none⟩) hbw).trans c1
          replace c2 := (HBV.out.cell (p := ⟨b, off + q * 6 + 2, none⟩) hbw).trans c2
          replace c3 := (HBV.out.cell (p := ⟨b, off + q * 6 + 3, none⟩) hbw).trans c3
          replace c4 := (HBV.out.cell (p := ⟨b, off + q * 6 + 4, none⟩) hbw).trans c4
          replace c5 := (HBV.out.cell (p := ⟨b, off + q * 6 + 5, none⟩) hbw).trans c5
          obtain ⟨d0, d1⟩ := bundle_count HZ1.out (List.mem_of_getElem? hx)
          have HCN : Hid (∀ u, countF (bs.take (q + 1)) u = if x.ticket = u then some (x.to_ - x.from_) else countF (bs.take q) u) := fun u => by
            rw [List.take_add_one, hx]
            exact count_snoc _ _ _
          obtain ⟨d, hd⟩ : ∃ d, x.to_ - x.from_ = d := ⟨_, rfl⟩
          rw [hd] at d0 d1 HCN
          have i1 : (0 : Int) ≤ (q : Int) := by omega
          have i2 : (q : Int) < (fn : Int) := by omega
          have HBA : Hid (Below wr.heap.size wr (wr.alloc (.cells #[.int .i64 x.ticket, .int .i64 x.garment, .int .i64 x.size, .int .i64 x.lot, .int .i64 x.from_, .int .i64 x.to_] 60))) := (Below.refl _ _).alloc (Nat.le_refl _) _
          have HMM := Lib.hid (HM.out.below HBA.out)
          have HBS := Lib.hid HB.out.size
          rw [hA]
          clear hx hA
          go_wp2_with (at_mapUpdate; refine wpl_update (by rfl) _ _ _ _ (by rfl) (key_int Tryz.underlying3) uM (by rfl) HMM.out x.ticket (by rfl) (.int .i64 d) (by rfl) ?_; intro w5 hm1 hg1; go_frame)
          go_roundw
          case rel =>
            refine ⟨q + 1, _, by omega, by go_num, hm1, fun u => ?_, below_grown (HB.out.trans (HBA.out.mono HB.out.size)) hg1 (Nat.le_refl _) (Nat.le_trans HBS.out HBA.out.size)⟩
            rw [mget_mset, HCN.out u, HG.out u]
            by_cases e : x.ticket = u
            · rw [if_pos e, if_pos e]
              rfl
            · rw [if_neg e, if_neg e]
          case measure => simp [intOf]; omega
        · obtain rfl : fn = q := by omega
          have HG2 : Hid (∀ u, mget m u = (countF bs u).map (Value.int .i64)) := by
            have := HG.out
            rwa [← HFL.out, List.take_length] at this
          obtain ⟨W3, rfl⟩ : ∃ v, v = wr := ⟨_, rfl⟩
          have HB3 := Lib.hid (HB2.out.trans (HB.out.mono HB2.out.size))
          have HX3 := Lib.hid (HX2.out.below HB.out)
          have HT3 := Lib.hid (HT2.out.below HB.out)
          have HS3 := Lib.hid (HSL.out.on HB.out)
          have hmk := fun W => run_make_row' (P := Tryz.prog) 61 66 (.slice none 0 0) 24 Tryz.underlying61 monies_info rfl .i64 .i64 k (by omega) (by omega) W
          have HA0 := AmM.start W3 66 67 k
          have HBA : Hid (Below W3.heap.size W3 (W3.alloc (.cells (madeCells #[.slice none 0 0] k) 66))) := (Below.refl _ _).alloc (Nat.le_refl _) _
          rw [← made_monies, ← mon_nil s bs t k] at HA0
          have HA0 := Lib.hid HA0
          clear HG HX1 HX2 HT1 HT2 HSL
          go_wp2_with fail
          go_loopw [10, 11, 19, 20, 21, 22, 64] (fun _ _ _ _ _ _ i wr => ∃ (q : Nat) (vs : List Value), q ≤ n ∧ i = .int .i64 (q : Int) ∧ Hid (AmM 66 67 wr W3.heap.size vs (monP s bs t k (paidP s bs ws (xs.take q)))) ∧ Hid (Below W3.heap.size W3 wr)) (fun _ _ _ _ _ _ i _ => n - (intOf i).toNat)
          case atStart => exact ⟨0, _, Nat.zero_le _, rfl, HA0, HBA⟩
          case round =>
            obtain ⟨q, vs, hq, rfl, HA, HB4⟩ := hrel
            by_cases hlt2 : q < n
            · have i1 : (0 : Int) ≤ (q : Int) := by omega
              have i2 : (q : Int) < (n : Int) := by omega
              have HBV := Lib.hid (HB3.out.trans (HB4.out.mono HB3.out.size))
              obtain ⟨b, off, x, rfl, hbw, hx, c0, c1, c2, c3⟩ := scan_at HXS.out hlt2
              go_upto_block 3 with fail
              go_cut [19, 20, 21, 22] from 65 to 105 (fun _ _ _ _ wx => ∃ vs', Hid (AmM 66 67 wx W3.heap.size vs' (monP s bs t k (paidP s bs ws (xs.take (q + 1))))) ∧ Hid (Below W3.heap.size W3 wx))
              case first =>
                replace c0 := (HBV.out.cell (p := ⟨b, off + q * 4, none⟩) hbw).trans c0
                replace c1 := (HBV.out.cell (p := ⟨b, off + q * 4 + 1, none⟩) hbw).trans c1
                replace c2 := (HBV.out.cell (p := ⟨b, off + q * 4 + 2, none⟩) hbw).trans c2
                replace c3 := (HBV.out.cell (p := ⟨b, off + q * 4 + 3, none⟩) hbw).trans c3
                have hja := judge_at (s := s) (bs := bs) (ws := ws) hx
                have hps := paid_snoc (s := s) (bs := bs) (ws := ws) hx
                obtain ⟨ps, hpp⟩ : ∃ l, paidP s bs ws (xs.take q) = l := ⟨_, rfl⟩
                rw [hpp] at hja hps HA
                obtain ⟨b2, off2, Q, hA2, hbw2, hQ, d0⟩ := (HS3.out.on HB4.out).int_ hlt2
                injection hA2 with hA2
                injection hA2 with e1 e2
                subst e1
                subst e2
                rw [hja] at hQ
                have hQ := Option.some.inj hQ
                rw [hQ] at hps
                rw [Nat.zero_add] at d0
                have i1 : (0 : Int) ≤ (q : Int) := by omega
                have i2 : (q : Int) < (n : Int) := by omega
                have HBA : Hid (Below wr.heap.size wr (wr.alloc (.cells #[.int .i64 x.ticket, .int .i64 x.op, .int .i64 x.worker, .int .i64 x.at_] 49))) := (Below.refl _ _).alloc (Nat.le_refl _) _
                have HQ := Lib.hid hQ
                have HY := Lib.hid (Blk.new wr 49 #[.int .i64 x.ticket, .int .i64 x.op, .int .i64 x.worker, .int .i64 x.at_])
                by_cases hq1 : Q = 1
                · subst hq1
                  rw [if_pos rfl] at hps
                  have HPS := Lib.hid hps
                  obtain ⟨oo, cnt, hoo, o1, o2, o3, o4, hmn, m1, m2, hcn, n1, n2⟩ := paid_in HZ1.out HQ.out
                  obtain ⟨kk, hkk⟩ : ∃ kk : Nat, x.op = (kk : Int) := ⟨x.op.toNat, by omega⟩
                  obtain ⟨wk, hwk⟩ : ∃ wk : Nat, x.worker = (wk : Int) := ⟨x.worker.toNat, by omega⟩
                  have HWO := Lib.hid (And.intro hmn hcn)
                  have hwkk : wk < k := by have := HKL.out; omega
                  have hol := HF.out.st.ops.len
                  have hok : kk < F.o := by omega
                  obtain ⟨b3, off3, oo', B3, m3, d3, C3, l3, e3, hO, hb3, hoo', _, _, p2, _, _, _, _, _, _⟩ := op_at HF.out.st.ops hok
                  rw [hkk, Int.toNat_natCast] at hoo
                  obtain rfl : oo' = oo := Option.some.inj (hoo'.symm.trans hoo)
                  obtain ⟨mn, hmnl⟩ : ∃ mn, oo'.minutes = mn := ⟨_, rfl⟩
                  rw [hmnl] at m1 m2 p2 hmn HWO
                  have hworth : worthP s bs t x = amountP t mn cnt := by
                    unfold worthP
                    rw [HWO.out.1, HWO.out.2]
                    rfl
                  obtain ⟨V, hV⟩ : ∃ V, amountP t mn cnt = V := ⟨_, rfl⟩
                  rw [hV] at hworth
                  have HWV := Lib.hid hworth
                  have hma := mon_at (s := s) (bs := bs) (t := t) ps hwkk
                  obtain ⟨l, hl⟩ : ∃ l, monies s bs t ps wk = l := ⟨_, rfl⟩
                  have hll : l.length ≤ 1000 := by
                    have h1 := monies_len (s := s) (bs := bs) (ws := ws) t (xs.take q) wk
                    rw [hpp, hl, List.length_take] at h1
                    omega
                  rw [hl] at hma
                  have HML := Lib.hid hl
                  have HMA := Lib.hid hma
                  have HWK := Lib.hid hwk
                  have HMS := Lib.hid (mon_snoc (s := s) (bs := bs) (t := t) (k := k) (paid := ps) hwk)
                  rw [hl, HWV.out] at HMS
                  have hlk := (HG2.out x.ticket)
                  rw [hcn, Option.map_some] at hlk
                  have HLK := Lib.hid hlk
                  obtain ⟨W0, hW0⟩ : ∃ v, v = wr.alloc (.cells #[.int .i64 x.ticket, .int .i64 x.op, .int .i64 x.worker, .int .i64 x.at_] 49) := ⟨_, rfl⟩
                  rw [← hW0] at HBA HY
                  have HA0 := Lib.hid (HA.out.below HBA.out)
                  have HBW := Lib.hid (HBV.out.trans (HBA.out.mono HBV.out.size))
                  have HB30 := Lib.hid (HB4.out.trans (HBA.out.mono HB4.out.size))
                  have HX4 := Lib.hid ((HX3.out.below HB4.out).below HBA.out)
                  have HT4 := Lib.hid ((HT3.out.below HB4.out).below HBA.out)
                  have HM4 := Lib.hid ((HM.out.below HB4.out).below HBA.out)
                  have hp2 := (HBW.out.cell (p := ⟨b3, off3 + kk * 5 + 2, none⟩) hb3).trans p2
                  have hb3w : b3 < W0.heap.size := Nat.lt_of_lt_of_le hb3 HBW.out.size
                  rw [hO] at HX4
                  clear hO
                  rw [hkk, hwk] at HY
                  have HY := HY
                  have uI := Tryz.underlying3
                  have HK : Hid (∀ W, Below W0.heap.size W0 W → (W.cell? ⟨w.heap.size, 6, none⟩ = some (.slice (some ⟨b3, off3, none⟩) F.o F.oc) ∧ W.cell? ⟨w.heap.size + 1, 0, none⟩ = some (.int .i64 t.rate) ∧ W.cell? ⟨w.heap.size + 1, 1, none⟩ = some (.int .i64 t.least) ∧ W.cell? ⟨wr.heap.size, 0, none⟩ = some (.int .i64 x.ticket) ∧ W.cell? ⟨wr.heap.size, 1, none⟩ = some (.int .i64 (kk : Int)) ∧ W.cell? ⟨b3, off3 + kk * 5 + 2, none⟩ = some (.int .i64 mn) ∧ (Instr.lookup 58 (.map (some w2.heap.size)) (.int .i64 x.ticket) false).run Tryz.prog W = .ok (.int .i64 cnt) W)) := fun W hb => by
                    refine ⟨(HX4.out.below hb).c rfl, (HT4.out.below hb).c rfl, (HT4.out.below hb).c rfl, (HY.out.below hb).c rfl, (HY.out.below hb).c rfl, (hb.cell (p := ⟨b3, off3 + kk * 5 + 2, none⟩) hb3w).trans hp2, ?_⟩
                    have h1 := (HM4.out.below hb).lookup (P := Tryz.prog) (key_int uI) uM (zero_int' W) x.ticket false
                    rw [HLK.out] at h1
                    exact h1
                  have HAM := Lib.hid (fun W (hb : Below W0.heap.size W0 W) => amount_any t mn cnt W ((HW.out.below HBW.out).below hb) HE.out (by omega) m2 n1 n2)
                  rw [hV] at HAM
                  rw [hkk, hwk] at hW0
                  have j1 : (0 : Int) ≤ (kk : Int) := by omega
                  have j2 : (kk : Int) < (F.o : Int) := by omega
                  rw [hkk] at c1
                  rw [hwk] at c2
                  clear hx hja hps hQ hpp hoo hoo' hmnl hmn hcn hworth hV hma hl hlk o1 o2 o3 o4 m1 m2 n1 n2 p2 hol
                  go_wp2_with fail
                  rw [← hW0]
                  clear hW0 c0 c1 c2 c3 d0
                  have hq := Below.refl W0.heap.size W0
                  obtain ⟨f0, f1, f2, f3, f4, f5, f6⟩ := HK.out W0 hq
                  go_region_held3 (fun w' => w'.cell? ⟨w.heap.size, 6, none⟩ = some (.slice (some ⟨b3, off3, none⟩) F.o F.oc) ∧ w'.cell? ⟨w.heap.size + 1, 0, none⟩ = some (.int .i64 t.rate) ∧ w'.cell? ⟨w.heap.size + 1, 1, none⟩ = some (.int .i64 t.least) ∧ w'.cell? ⟨wr.heap.size, 0, none⟩ = some (.int .i64 x.ticket) ∧ w'.cell? ⟨wr.heap.size, 1, none⟩ = some (.int .i64 (kk : Int)) ∧ w'.cell? ⟨b3, off3 + kk * 5 + 2, none⟩ = some (.int .i64 mn) ∧ (Instr.lookup 58 (.map (some w2.heap.size)) (.int .i64 x.ticket) false).run Tryz.prog w' = .ok (.int .i64 cnt) w')
                    ((refine (HK.out _ ?_); repeat (first | (with_reducible exact Below.refl _ _) | (with_reducible exact hq) | (with_reducible refine Below.drew ?_))))
                    ((go_at_call 12; go_must ((refine (HAM.out _ (by repeat (first | (with_reducible exact Below.refl _ _) | (with_reducible exact hq) | (with_reducible refine Below.drew ?_)))).mono ?_); rintro e u1 ⟨rfl, hv⟩; replace hq := below_then hq hv; clear hv)))
                  have HA5 := Lib.hid (HA0.out.below hq)
                  have HY5 := HY.out.below hq
                  have HB5 := Lib.hid (HB30.out.trans (hq.mono HB30.out.size))
                  obtain ⟨v, hv, hvc, hvo⟩ := HA5.out.at_ HMA.out
                  obtain ⟨A9, C9, rfl⟩ := own_form hvo
                  have z2 := HY5.c (i := 2) rfl
                  have hl1 := HY5.lt
                  have HYN := Lib.hid (own_diff hvo HY5 (by decide))
                  have HY5' := Lib.hid HY5
                  have hl2 := HA5.out.lt
                  have HOV := Lib.hid hvo
                  have HVV := Lib.hid hv
                  have HLL := Lib.hid hll
                  have j3 : (0 : Int) ≤ (wk : Int) := by omega
                  have j4 : (wk : Int) < (k : Int) := by omega
                  clear hv hvo HY5 hq f0 f1 f2 f3 f4 f5 f6 hll hp2 hb3w HK HAM HX4 HT4 HM4 hwkk hok
                  go_wp2_with fail
                  go_region_law (first
                    | ((refine step_money (by rfl) _ _ (by rfl) (W3.heap.size + 1) l.length (.slice A9 l.length C9) l (by rfl) (own_below HOV.out (by repeat (first | (with_reducible exact Below.refl _ _) | (with_reducible refine Below.drew ?_) | (with_reducible refine Below.alo ?_ _)))) u1.heap.size (by rfl) V (by exact Blk.new' _ _ _ rfl) (by have := HLL.out; omega) (by first | (simp; omega) | omega) ?_); go_must (intro v7 w7 ho7 hg7 hn7; obtain ⟨A7, c7, hv7⟩ := own_form ho7; subst hv7; have X7 := HA5.out.kept_blk hg7 (by repeat (first | (with_reducible exact Below.refl _ _) | (with_reducible refine Below.drew ?_) | (with_reducible refine Below.alo ?_ _))) (own_ne HOV.out (Nat.lt_succ_self _)); have X8 := blk_grew2 HY5'.out hg7 (by repeat (first | (with_reducible exact Below.refl _ _) | (with_reducible refine Below.drew ?_) | (with_reducible refine Below.alo ?_ _))) HYN.out; have z8 := X8.c (i := 2) rfl; clear X8; have z7 := X7.c (i := wk) (v := .slice A9 l.length C9) (by rw [List.getElem?_toArray]; exact HVV.out); have zz7 := X7.frozen wk; clear X7)))
                  all_goals
                    go_wp2_with fail
                    go_meet
                    have hA7 := HA5.out.step hg7 (by repeat (first | (with_reducible exact Below.refl _ _) | (with_reducible refine Below.drew ?_) | (with_reducible refine Below.alo ?_ _))) HMA.out HVV.out ho7 hn7
                    have hB7 := below_step HB5.out HB5.out.size hg7 (by repeat (first | (with_reducible exact Below.refl _ _) | (with_reducible refine Below.drew ?_) | (with_reducible refine Below.alo ?_ _))) (fun g e => Nat.le_of_succ_le (HOV.out.lt g e).1)
                    rw [← HMS.out, ← HPS.out] at hA7
                    exact ⟨_, hA7, hB7.setCell (p := ⟨W3.heap.size, wk, none⟩) (Nat.le_refl _) _⟩
                · have hq1' : (Q != 1) = true := by simpa using hq1
                  rw [if_neg hq1] at hps
                  have HPS := Lib.hid hps
                  clear hx hja hps hQ hpp hq1
                  go_wp2_with fail
                  go_meet
                  refine ⟨vs, ?_, HB4.out.trans (HBA.out.mono HB4.out.size)⟩
                  rw [HPS.out]
                  exact HA.out.below HBA.out
              case rest =>
                obtain ⟨vs', HA7, HB7⟩ := hcut
                go_wp2_with fail
                go_roundw
                case rel => exact ⟨q + 1, vs', by omega, by go_num, HA7, HB7⟩
                case measure => simp [intOf]; omega
            · obtain rfl : n = q := by omega
              have hall : xs.take n = xs := by rw [← HN.out, List.take_length]
              rw [hall] at HA
              obtain ⟨W4, rfl⟩ : ∃ v, v = wr := ⟨_, rfl⟩
              have HBV := Lib.hid (HB3.out.trans (HB4.out.mono HB3.out.size))
              have HT4 := Lib.hid (HT3.out.below HB4.out)
              clear hall
              go_wp2_with fail
              go_loopw [23, 24, 25, 26, 108] (fun v _ _ _ i wr => ∃ q : Nat, q ≤ k ∧ i = .int .i64 (q : Int) ∧ Hid (wr.ownsRow W4.heap.size 52 3 v (paysT s bs ws t xs q).length ((paysT s bs ws t xs q).flatMap payC)) ∧ Hid (Below W4.heap.size W4 wr)) (fun _ _ _ _ i _ => k - (intOf i).toNat)
              case atStart => exact ⟨0, Nat.zero_le _, rfl, World.ownsRow_nil _ _ _ _, Below.refl _ _⟩
              case round =>
                obtain ⟨q, hq, rfl, HO, HB⟩ := hrel
                obtain ⟨ps, hps⟩ : ∃ l, paysT s bs ws t xs q = l := ⟨_, rfl⟩
                rw [hps] at HO
                obtain ⟨A1, C1, rfl⟩ := own_form HO.out
                by_cases hlt3 : q < k
                · have hma := mon_at (s := s) (bs := bs) (t := t) (paidP s bs ws xs) hlt3
                  have hmb := monies_bounds HE.out HZ1.out xs q
                  have hml := monies_len (s := s) (bs := bs) (ws := ws) t xs q
                  rw [HN.out] at hml
                  obtain ⟨l, hl⟩ : ∃ l, monies s bs t (paidP s bs ws xs) q = l := ⟨_, rfl⟩
                  rw [hl] at hma hmb hml
                  obtain ⟨v, hv, hvc, hvo⟩ := (HA.out.below HB.out).at_ hma
                  obtain ⟨A9, C9, rfl⟩ := own_form hvo
                  have i1 : (0 : Int) ≤ (q : Int) := by omega
                  have i2 : (q : Int) < (k : Int) := by omega
                  by_cases hl0 : l = []
                  · subst hl0
                    have HPT : Hid (paysT s bs ws t xs (q + 1) = ps) := by rw [Hid, payT_none hl, hps]
                    rw [List.length_nil] at hvc
                    clear hma hmb hml hl hv hvo hps
                    go_wp2_with fail
                    go_roundw
                    case rel => exact ⟨q + 1, by omega, by go_num, by rw [HPT.out]; exact HO, HB⟩
                    case measure => simp [intOf]; omega
                  · have HPT := payT_one hl hl0
                    rw [hps] at HPT
                    have hpl : ps.length ≤ q := by rw [← hps]; exact payT_len q
                    have hln : ¬ (l.length : Int) = 0 := by
                      intro e
                      exact hl0 (List.eq_nil_of_length_eq_zero (by omega))
                    have hln' : ¬ l.length = 0 := by omega
                    have HTO := total_any A9 l.length C9 l wr (Sl.of_own hvo) (by omega) hmb
                    obtain ⟨u0, _, u2, u3⟩ := tariff_ok HE.out
                    have s0 : 0 ≤ sumP l := sum_nn (fun z hz => (hmb z hz).1)
                    have s1 : sumP l ≤ 4000001 * (300 : Nat) := Int.le_trans (sum_le 4000001 (l := l) (fun z hz => (hmb z hz).2)) (by omega)
                    obtain ⟨S, hS⟩ : ∃ S, sumP l = S := ⟨_, rfl⟩
                    rw [hS] at HTO HPT s0 s1
                    obtain ⟨D, hD⟩ : ∃ D, t.least - S = D := ⟨_, rfl⟩
                    rw [hD] at HPT
                    have d0 : -1200000300 ≤ D := by omega
                    have d1 : D ≤ 1073741824 := by omega
                    obtain ⟨M, hM⟩ : ∃ M, max D 0 = M := ⟨_, rfl⟩
                    rw [hM] at HPT
                    have HPT := Lib.hid HPT
                    have HTO := Lib.hid HTO
                    have t1 := (HT4.out.below HB.out).c (i := 1) rfl
                    obtain ⟨L, hL⟩ : ∃ L, t.least = L := ⟨_, rfl⟩
                    rw [hL] at t1 hD
                    have b3' : ps.length + 1 ≤ maxLen := by unfold maxLen; omega
                    have b4' : (ps.length + 1) * 24 ≤ 140737488355328 := by omega
                    have HBA : Hid (Below wr.heap.size wr (wr.alloc (.cells #[.int .i64 (q : Int), .int .i64 S, .int .i64 M] 52))) := (Below.refl _ _).alloc (Nat.le_refl _) _
                    have HO2 := Lib.hid (own_below HO.out HBA.out)
                    have HBW := Lib.hid (HB.out.trans (HBA.out.mono HB.out.size))
                    have HNP := Lib.hid (new_pay wr ⟨(q : Int), S, M⟩ 52)
                    clear hma hmb hml hl hv hvo hps hl0 hS s0 s1 u0 u2 u3 hL hpl
                    go_wp2_with fail
                    refine HTO.out.mono ?_
                    rintro e5 w5 ⟨rfl, rfl⟩
                    go_wp2_with (at_builtin; refine wpl_own (P := Tryz.prog) (by rfl) _ _ 39 (by rfl) W4.heap.size 52 (.agg #[.int .i64 0, .int .i64 0, .int .i64 0]) 3 24 Tryz.underlying39 pay_info rfl (by decide) (.slice A1 ps.length C1) ps.length (ps.flatMap payC) (by rfl) HO2.out ⟨w5.heap.size, 0, none⟩ 1 1 (payC ⟨(q : Int), S, M⟩) (by rfl) (by rfl) HNP.out (payC_one _) b3' b4' HBW.out.size ?_; intro v7 w7 ho7 hg7 hn7; obtain ⟨A7, c7, rfl⟩ := own_form ho7)
                    go_roundw
                    case rel =>
                      refine ⟨q + 1, by omega, by go_num, ?_, below_own HBW.out hg7 HBW.out.size (fun g e => (HO2.out.lt g e).1)⟩
                      rw [HPT.out, List.length_append, List.flatMap_append]
                      refine Lib.hid ?_
                      simpa using ho7
                    case measure => simp [intOf]; omega
                · obtain rfl : k = q := by omega
                  have HPP : Hid (paysP s bs ws t xs = ps) := by rw [Hid, ← hps, ← HKL.out]; rfl
                  have HRR := Lib.hid (own_pays HO.out rfl)
                  have HBB := Lib.hid (HBV.out.trans (HB.out.mono HBV.out.size))
                  clear hps
                  go_wp2_with fail
                  refine bodyPost_ret (results_tmp2 rfl _ _ _) rfl ?_
                  rw [HPP.out]
                  exact ⟨HBB.out, .inr ⟨HPE.out, A1, C1, rfl, HRR.out.1, HRR.out.2⟩⟩
  · have hne' : (E != 0) = true := by simpa using hE0
    have HNE := Lib.hid hE0
    have HPE : Hid (paysE s bs ws t n = E) := by rw [Hid, payE_bad (by rw [HE.out]; exact HNE.out)]; exact HE.out
    clear hE0
    go_wp2_with fail
    refine bodyPost_ret (results_tmp2 rfl _ _ _) rfl ?_
    exact ⟨HB1.out, .inl ⟨by rw [HPE.out]; exact HNE.out, by rw [HPE.out]; rfl⟩⟩
end Go.Proofs.YthomflbjijjhaaaGreatDoor
