/-
  Several texts in one: garmentref18.Norm returns a chart with its numbers in normal form. Conditions: at most 100,000 rows and steps, numbers of at most 100,000 limbs. The law ChartRoundTrip returns true. Conditions: Std; the chart's data lie in memory.
-/
import Derived.Deep.RegionLaw
import Derived.Test.YtjiccijfbpkliaaGreatDoorG20
import Derived.Test.YtjiccijfbpkliaaGreatDoorG21
import Derived.Test.YtjiccijfbpkliaaGreatDoorG33
import Derived.Test.YtjiccijfbpkliaaGreatDoorG37
import Derived.Test.YtjiccijfbpkliaaGreatDoorG38

/- garmentref18.Norm returns a chart with its numbers in normal form. Conditions: at most 100,000 rows and steps, numbers of at most 100,000 limbs. -/
namespace Go.Proofs.YtjiccijfbpkliaaGreatDoor
open Go.RowKit
open Go.Lib hiding intOf
attribute [local go_sem ↓] Go.wp_at_zero Go.wp_at_succ

/-- A chart in normal form comes back. -/
def RetNo (S : Option Addr) (n c : Nat) (bs : Int) (rs : List PRow) (w : World) (e : Ending) (w' : World) : Prop :=
  ∃ R d, e = .returned (.agg #[.slice S n c, .int .i64 bs, .slice R rs.length d]) ∧ RowsN w' R rs.length rs ∧ rs.length ≤ d ∧ Below w.heap.size w w'

set_option maxRecDepth 100000 in
set_option maxHeartbeats 6400000 in
theorem hnorm_any (S : Option Addr) (n c : Nat) (R : Option Addr) (m d k : Nat) (ch : PChart) (w : World) (h : RowsA w R m k ch.rows) (hk2 : k ≤ 100000) (hm : m ≤ 100000) (hst : ∀ r ∈ ch.rows, r.steps.length ≤ 100000) :
    Calls Tryz.prog 33 #[.agg #[.slice S n c, .int .i64 ch.base, .slice R m d]] w (RetNo S n c ch.base ch.rows w) := by
  have hB : Below w.heap.size w (((w.alloc (.cells #[.slice S n c, .int .i64 ch.base, .slice R m d] 25)).alloc (.cells #[.slice none 0 0, .int .i64 0, .slice none 0 0] 25)).alloc (.cells #[.slice S n c, .int .i64 ch.base, .slice none 0 0] 25)) := Below.alo (Below.alo (Below.alo (Below.refl _ _) _) _) _
  have HX : Hid (Blk (((w.alloc (.cells #[.slice S n c, .int .i64 ch.base, .slice R m d] 25)).alloc (.cells #[.slice none 0 0, .int .i64 0, .slice none 0 0] 25)).alloc (.cells #[.slice S n c, .int .i64 ch.base, .slice none 0 0] 25)) w.heap.size 25 #[.slice S n c, .int .i64 ch.base, .slice R m d]) := ((Blk.new w _ _).alloc _).alloc _
  have HY : Hid (Blk (((w.alloc (.cells #[.slice S n c, .int .i64 ch.base, .slice R m d] 25)).alloc (.cells #[.slice none 0 0, .int .i64 0, .slice none 0 0] 25)).alloc (.cells #[.slice S n c, .int .i64 ch.base, .slice none 0 0] 25)) (w.heap.size + 1) 25 #[.slice none 0 0, .int .i64 0, .slice none 0 0]) := Blk.alloc (Blk.new' (w.alloc (.cells #[.slice S n c, .int .i64 ch.base, .slice R m d] 25)) 25 #[.slice none 0 0, .int .i64 0, .slice none 0 0] (by simp)) _
  have HZ : Hid (Blk (((w.alloc (.cells #[.slice S n c, .int .i64 ch.base, .slice R m d] 25)).alloc (.cells #[.slice none 0 0, .int .i64 0, .slice none 0 0] 25)).alloc (.cells #[.slice S n c, .int .i64 ch.base, .slice none 0 0] 25)) (w.heap.size + 2) 25 #[.slice S n c, .int .i64 ch.base, .slice none 0 0]) := Blk.new' _ _ _ (by simp)
  have HA := Lib.hid h
  have HB := Lib.hid hB
  have HST := Lib.hid hst
  have hrl := h.len
  have HRL := Lib.hid hrl
  clear hB h hst hrl
  go_enter Tryz.func33, Tryz.ntmps33
  go_wp2_with fail
  go_loopw [4] (fun s4 wr => ∃ j : Nat, j ≤ m ∧ s4 = .int .i64 (j : Int) ∧ bxRel S n c ch.base (ch.rows.take j) (w.heap.size + 3) (w.heap.size + 2) wr ∧ Blk wr w.heap.size 25 #[.slice S n c, .int .i64 ch.base, .slice R m d] ∧ Blk wr (w.heap.size + 1) 25 #[.slice none 0 0, .int .i64 0, .slice none 0 0] ∧ Below w.heap.size w wr) (fun s4 _ => m - (intOf s4).toNat)
  case atStart => exact ⟨0, Nat.zero_le _, rfl, ⟨_, HZ.out, rowsRel.nil _ _, by simp, by omega⟩, HX.out, HY.out, HB.out⟩
  case round =>
    obtain ⟨j, hj, rfl, hbx, hX, hY, hbel⟩ := hrel
    clear HX HY HZ HB
    by_cases hlt : j < m
    · obtain ⟨b, off, r, neg, C, cm, cc, D, dl, dd, T, sn, sc, rfl, hbw, hr, f0, f1, f2, f3, f4, hqa, hsa, hsc⟩ := (HA.out.on hbel).at_ hlt
      have hsn : sn ≤ 100000 := by rw [← hsa.len]; exact HST.out _ (List.mem_of_getElem? hr)
      have HNo := fun W (hW : Below wr.heap.size wr W) => (knorm_any (.agg #[.bool neg, .slice C cm cc, .slice D dl dd]) k r.base W (hqa.on hW) hk2).mono fun e w' hh => (show RetQw r.base wr W e w' from by
        obtain ⟨A, n, c, B, m, d, h1, h2, h3, h4, h5, h6⟩ := hh
        exact ⟨A, n, c, B, m, d, h1, h2, h3, h4, h5, h6, hW.trans (h6.mono hW.size)⟩)
      have HNo := Lib.hid HNo
      have x2 := hX.c (i := 2) rfl
      have hxl := hX.lt
      have HK5 : Hid (w.heap.size < wr.heap.size ∧ b < wr.heap.size ∧ wr.cell? ⟨w.heap.size, 2, none⟩ = some (.slice (some ⟨b, off, none⟩) m d) ∧ wr.cell? ⟨b, off + j * 5, none⟩ = some (.string r.name) ∧ wr.cell? ⟨b, off + j * 5 + 1, none⟩ = some (.bool neg) ∧ wr.cell? ⟨b, off + j * 5 + 2, none⟩ = some (.slice C cm cc) ∧ wr.cell? ⟨b, off + j * 5 + 3, none⟩ = some (.slice D dl dd)) := ⟨hxl, hbw, x2, f0, f1, f2, f3⟩
      have HR := Lib.hid hr
      have HSA := Lib.hid hsa
      have HF4 := Lib.hid f4
      obtain ⟨v6, hbk, ⟨hs, r1, r2, r3⟩, hbase, hcb⟩ := hbx
      have hK : hs.length = j := by
        have := congrArg List.length r1
        simp only [List.length_map, List.length_take, HRL.out] at this
        omega
      have HKK := Lib.hid hK
      rw [hK] at r2
      obtain ⟨A6, c6, hv6⟩ := own_form r2.1
      subst hv6
      have HRW := Lib.hid (And.intro r1 (And.intro r2 r3))
      have HBK6 := Lib.hid hbk
      have HX := Lib.hid hX
      have HY := Lib.hid hY
      have HBE := Lib.hid hbel
      have i1 : (0 : Int) ≤ (j : Int) := by omega
      have i2 : (j : Int) < (m : Int) := by omega
      have HN6 : Hid (∀ g, g < w.heap.size + 3 → some g ≠ (Value.slice A6 j c6).ownBlock) := fun g hg => own_ne r2.1 hg
      clear hqa hsa hr hbk hX hY hbel hK r1 r2 r3
      obtain ⟨wo, rfl⟩ : ∃ wo : World, wo = wr := ⟨_, rfl⟩
      go_upto_region 5 with fail
      go_cut [5] (fun s5 wx => ∃ (rb : Nat) (x : QH), s5 = .pointer (some ⟨rb, 0, none⟩) ∧ x.q = r.base ∧ rowRel r.name x True [] wo.heap.size rb wx ∧ Below wo.heap.size wo wx ∧ wo.heap.size ≤ rb)
      case first =>
        go_region_held3 (fun w' => w'.cell? ⟨w.heap.size, 2, none⟩ = some (.slice (some ⟨b, off, none⟩) m d) ∧ w'.cell? ⟨b, off + j * 5, none⟩ = some (.string r.name) ∧ w'.cell? ⟨b, off + j * 5 + 1, none⟩ = some (.bool neg) ∧ w'.cell? ⟨b, off + j * 5 + 2, none⟩ = some (.slice C cm cc) ∧ w'.cell? ⟨b, off + j * 5 + 3, none⟩ = some (.slice D dl dd))
          ((refine keep5 HK5.out ?_; repeat (first | (with_reducible exact Below.refl _ _) | (with_reducible exact hw1) | (with_reducible refine Below.drew ?_) | (with_reducible refine Below.alo ?_ _) | (with_reducible refine Below.sto ?_ ?_ _) | omega | (simp <;> omega))))
          (first
          | (go_at_call 74; go_must ((refine (HNo.out _ (by repeat (first | (with_reducible exact Below.refl _ _) | (with_reducible refine Below.drew ?_) | (with_reducible refine Below.alo ?_ _)))).mono ?_); rintro e w1 ⟨A3, n3, c3, B3, m3, d3, rfl, r1, r2, r3, r4, hb1, hw1⟩; have hz1 := hw1.size; have hzd : w1.heap.size < w1.heap.size + 1 := (by omega); (try (have hza : wo.heap.size < w1.heap.size := by (have := hb1.size; simp at this; omega))); obtain ⟨hcl, hfr⟩ := bcell hb1; have HR1 := Lib.hid (And.intro r1 r3); clear r1 r3)))
        all_goals
          go_wp2_with fail
          go_meet
          go_light
        all_goals
          refine ⟨_, ⟨r.base, A3, n3, c3, B3, m3, d3⟩, rfl, rfl, row_begin ?_ ?_ r2 ?_ r4, ?_, ?_⟩
          · (repeat (first | (focus ((with_reducible refine Blk.new' _ _ _ ?_); (simp; done))) | (with_reducible exact Blk.new _ _ _) | (with_reducible refine Blk.put5z ?_) | (with_reducible refine Blk.alloc ?_ _) | (with_reducible refine Blk.far5 ?_ ?_ _ _ _ _ _) | (with_reducible refine Blk.below ?_ hb1) | (with_reducible refine Blk.drew ?_) | omega | (simp <;> omega)))
          · (repeat (first | (with_reducible exact HR1.out.1) | (with_reducible refine Sl.alo ?_ _) | (with_reducible refine Sl.st5 ?_ ?_) | (focus ((with_reducible refine Blk.new' _ _ _ ?_); (simp; done))) | (with_reducible refine Blk.alloc ?_ _) | (with_reducible refine Blk.below ?_ hb1) | (with_reducible refine Sl.drew ?_) | (with_reducible refine Blk.drew ?_) | omega | (simp <;> omega)))
          · (repeat (first | (with_reducible exact HR1.out.2) | (with_reducible refine Sl.alo ?_ _) | (with_reducible refine Sl.st5 ?_ ?_) | (focus ((with_reducible refine Blk.new' _ _ _ ?_); (simp; done))) | (with_reducible refine Blk.alloc ?_ _) | (with_reducible refine Blk.below ?_ hb1) | (with_reducible refine Sl.drew ?_) | (with_reducible refine Blk.drew ?_) | omega | (simp <;> omega)))
          · (repeat (first | (with_reducible exact hw1) | (with_reducible refine Below.drew ?_) | (with_reducible refine Below.alo ?_ _) | (with_reducible refine Below.sto ?_ ?_ _) | omega | (simp <;> omega)))
          · (first | omega | (simp <;> omega))
      case rest =>
        obtain ⟨rb, x, rfl, hxq, hrow, hbx, hrb⟩ := hcut
        clear f0 f1 f2 f3 f4 HNo HK5
        have HROW := Lib.hid hrow
        have HXQ := Lib.hid hxq
        have HBW := Lib.hid hbx
        clear hrow hxq hbx
        go_wp2_with fail
        go_loopw [6] (fun s6 wr => ∃ i : Nat, i ≤ sn ∧ s6 = .int .i64 (i : Int) ∧ rowRel r.name x True (r.steps.take i) wo.heap.size rb wr ∧ Below wo.heap.size wo wr) (fun s6 _ => sn - (intOf s6).toNat)
        case atStart => exact ⟨0, Nat.zero_le _, rfl, HROW.out, HBW.out⟩
        case round =>
          obtain ⟨i, hi, rfl, hrow, hbi⟩ := hrel
          clear HROW HBW
          have x2 := (HX.out.below hbi).c (i := 2) rfl
          have f4 := (hbi.cell (p := ⟨b, off + j * 5 + 4, none⟩) hbw).trans HF4.out
          by_cases hlt1 : i < sn
          · obtain ⟨b2, off2, q, ng, E, em, ec, F, fl, fd, rfl, hb2w, hq, z0, z1, z2, hqa⟩ := HSA.out.at_ hlt1
            have z0 := (hbi.cell (p := ⟨b2, off2 + i * 3, none⟩) hb2w).trans z0
            have z1 := (hbi.cell (p := ⟨b2, off2 + i * 3 + 1, none⟩) hb2w).trans z1
            have z2 := (hbi.cell (p := ⟨b2, off2 + i * 3 + 2, none⟩) hb2w).trans z2
            have HN2 := Lib.hid (fun W (hW : Below wo.heap.size wo W) => knorm_any (.agg #[.bool ng, .slice E em ec, .slice F fl fd]) k q W (hqa.on hW) hk2)
            obtain ⟨v, hblk, hxo, ⟨ts, t1, t2, t3⟩, hv⟩ := hrow
            have hts : ts.length = i := by
              have := congrArg List.length t1
              simp only [List.length_map, List.length_take, HSA.out.len] at this
              omega
            rw [hts] at t2
            obtain ⟨A', c', rfl⟩ := own_form t2.1
            have HTS := Lib.hid hts
            have g4 := hblk.c (i := 4) rfl
            have y4 := hblk.frozen 4
            have hrl := hblk.lt
            have HBK := Lib.hid hblk
            have HXO := Lib.hid hxo
            have HT := Lib.hid (And.intro t1 (And.intro t2 t3))
            have HQ := Lib.hid (take_snoc hq)
            have HBI := Lib.hid hbi
            have hwz := hbi.size
            have j1 : (0 : Int) ≤ (i : Int) := by omega
            have j2 : (i : Int) < (sn : Int) := by omega
            clear hblk hxo t1 t2 t3 hts hqa hq hbi hv
            go_wp2_with fail
            go_region_law (first
              | (go_simp; go_at_call 74; go_must ((go_fit (HN2.out _ (by repeat (first | (with_reducible exact HBI.out) | (with_reducible refine Below.drew ?_))))); rintro e w4 ⟨A4, n4, c4, B4, m4, d4, rfl, r5, r6, r7, r8, hb4⟩; have HB4 := Lib.hid (show Below wr.heap.size wr w4 from ⟨hb4.os, hb4.tape, hb4.output, hb4.size, hb4.block⟩); have HY4 : Hid (QH.Ok ⟨q, A4, n4, c4, B4, m4, d4⟩ w4) := ⟨r5, r6, r7, r8⟩; have hw4 := HBI.out.trans (HB4.out.mono HBI.out.size); have G4 := HBK.out.below HB4.out; have k4 := G4.c (i := 4) rfl; have hrl4 := G4.lt; have hz4 := HB4.out.size; clear hb4 r5 r7 G4; (try dsimp only)))
              | ((refine step_ratio (by rfl) _ _ (by rfl) wo.heap.size i _ _ (by rfl) (HT.out.2.1.below (by exact Below.alo HB4.out _)) w4.heap.size (by rfl) ⟨q, A4, n4, c4, B4, m4, d4⟩ (by exact Blk.new _ _ _) (by omega) (by first | (simp; omega) | (simp at hz4 hwz ⊢; omega)) ?_); go_must (intro v5 w5 ho5 hg5 hn5; obtain ⟨A5, c5, hv5⟩ := own_form ho5.1; subst hv5; have hBA := Below.alo HB4.out (.cells #[.bool (ineg q.num), .slice A4 n4 c4, .slice B4 m4 d4] 36); have X5 := (HBK.out.below hBA).grown hg5 (fun e => own_far (HT.out.2.1.below hBA).1 (HBK.out.below hBA) (by decide) e.symm); clear hBA; have t4 := X5.c (i := 4) rfl; have zz4 := X5.frozen 4; clear X5)))
            all_goals
              go_wp2_with fail
              go_roundw
              case rel =>
                have hBA := Below.alo HB4.out (.cells #[.bool (ineg q.num), .slice A4 n4 c4, .slice B4 m4 d4] 36)
                have hstep := rowRel.step_ (HBK.out.below hBA) (fun p => (HXO.out p).on hBA) ⟨q, A4, n4, c4, B4, m4, d4⟩ (HY4.out.on ((Below.refl _ _).alloc (Nat.le_refl _) _)) HT.out.1 (by rw [HTS.out]; exact HT.out.2.1.below hBA) (fun t ht => (HT.out.2.2 t ht).below hBA) (by rw [HTS.out]; exact ho5) hg5 hn5
                refine ⟨i + 1, by omega, by go_num, ?_, ?_⟩
                · rw [HQ.out] at hstep
                  exact hstep
                · exact ((HBI.out.trans (hBA.mono HBI.out.size)).grown hg5 (by simp; omega) fun g e => (HT.out.2.1.below hBA).1.lt _ e |>.1).setCell (p := ⟨rb, 4, none⟩) hrb _
              case measure => simp [intOf]; omega
          · obtain rfl : i = sn := by omega
            have hall : r.steps.take i = r.steps := List.take_of_length_le (by rw [HSA.out.len]; omega)
            rw [hall] at hrow
            obtain ⟨A5, c5, hblk, hxo, hra, hcc, hfr⟩ := hrow.done
            have hln := HSA.out.len
            rw [hln] at hblk hra hcc
            have HHO : Hid (RH.Ok ⟨r, x, A5, i, c5⟩ wr) := ⟨HXQ.out, hxo, hra, hcc⟩
            have HNE : Hid (0 < i → ∀ g o, A5 = some ⟨g, o, none⟩ → (Value.slice A6 j c6).ownBlock ≠ some g) := fun _ g o e e2 => by
              have h1 := hfr g o e
              have h2 := (HRW.out.2.1.1.lt g e2).2
              omega
            have HB6 := Lib.hid (Below.alo hbi (.cells #[.string r.name, .bool (ineg x.q.num), .slice x.A x.n x.c, .slice x.B x.m x.d, .slice A5 i c5] 57))
            have g0 := hblk.c (i := 0) rfl
            have g1 := hblk.c (i := 1) rfl
            have g2 := hblk.c (i := 2) rfl
            have g3 := hblk.c (i := 3) rfl
            have g4 := hblk.c (i := 4) rfl
            have k2 := (HBK6.out.below hbi).c (i := 2) rfl
            have hkl := (HBK6.out.below hbi).lt
            have HTK := Lib.hid (take_snoc HR.out)
            clear hrow hblk hxo hra hcc hfr hall hbi
            go_wp2_with (at_builtin; go_must ((refine append_row rfl (.tmp 60) (.tmp 62) rfl (w.heap.size + 3) j _ _ rfl (HRW.out.2.1.below HB6.out) wr.heap.size rfl ⟨r, x, A5, i, c5⟩ (by exact Blk.new' _ _ _ (by simp)) (by omega) (by have := HB6.out.size; omega) ?_); intro v5 w7 ho5 hg5 hn5; obtain ⟨A7, c7, hv5⟩ := own_form ho5.1; subst hv5; have X7 := (HBK6.out.below HB6.out).grown hg5 (HN6.out _ (by omega)); have t2 := X7.c (i := 2) rfl; have zz2 := X7.frozen 2; clear X7))
            go_roundw
            case rel =>
              have hm := bxRel.more (base := w.heap.size + 3) (cb := w.heap.size + 2) ⟨r, x, A5, i, c5⟩ (HBK6.out.below HB6.out) (Nat.le_trans hbase HB6.out.size) hcb HRW.out.1 (by rw [HKK.out]; exact HRW.out.2.1.below HB6.out) (fun t ht => ⟨(HRW.out.2.2 t ht).1.on HB6.out, (HRW.out.2.2 t ht).2⟩) (HHO.out.on ((Below.refl _ _).alloc (Nat.le_refl _) _)) HNE.out (by rw [HKK.out]; exact ho5) hg5 hn5
              rw [HTK.out] at hm
              refine ⟨j + 1, by omega, by go_num, hm, ?_, ?_, ?_⟩
              · exact ((HX.out.below HB6.out).grown hg5 (HN6.out _ (by omega))).far (p := ⟨w.heap.size + 2, 2, none⟩) (by simp) _
              · exact ((HY.out.below HB6.out).grown hg5 (HN6.out _ (by omega))).far (p := ⟨w.heap.size + 2, 2, none⟩) (by simp) _
              · exact ((HBE.out.trans (HB6.out.mono HBE.out.size)).grown hg5 (Nat.le_trans HBE.out.size HB6.out.size) fun g e => by have := ((HRW.out.2.1.below HB6.out).1.lt _ e).1; omega).setCell (p := ⟨w.heap.size + 2, 2, none⟩) (by simp) _
            case measure => simp [intOf]; omega
    · obtain rfl : j = m := by omega
      rw [List.take_of_length_le (by rw [HRL.out]; omega)] at hbx
      obtain ⟨R2, d2, hblk, hrn, hd2⟩ := hbx.done
      have HRN := Lib.hid (And.intro hrn hd2)
      have HY := Lib.hid hY
      have HBE := Lib.hid hbel
      have x2 := hX.c (i := 2) rfl
      have g0 := hblk.c (i := 0) rfl
      have g1 := hblk.c (i := 1) rfl
      have g2 := hblk.c (i := 2) rfl
      have f0 := hY.c (i := 0) rfl
      have f1 := hY.c (i := 1) rfl
      have f2 := hY.c (i := 2) rfl
      have z0 := hY.frozen 0
      have z1 := hY.frozen 1
      have z2 := hY.frozen 2
      clear hbx hblk hrn hd2 hX hY hbel
      go_wp2_with fail
      refine bodyPost_ret (v := .agg #[.slice S n c, .int .i64 ch.base, .slice R2 ch.rows.length d2]) (by simp [results, Tryz.results33, go_sem, f0, f1, f2]) rfl ?_
      refine ⟨R2, d2, rfl, ?_, HRN.out.2, below3 HBE.out (by omega) _ _ _⟩
      exact HRN.out.1.gro (grown_set (grown_set (grown_set (grown_refl _ _) 0 _) 1 _) 2 _) HY.out (by simp) (by simp) (by simp)
end Go.Proofs.YtjiccijfbpkliaaGreatDoor

/- The law ChartRoundTrip returns true. Conditions: Std; the chart's data lie in memory. -/
namespace Go.Proofs.YtjiccijfbpkliaaGreatDoor
open Go.RowKit
open Go.Lib hiding intOf

theorem rows_err (n : Nat) : ∀ (f : Nat) (rs : List PRow) (l : List UInt8) (E : Int), rowsF f n rs l = .error E → E ≠ 0
  | 0, rs, l, E, h => by cases h
  | f + 1, rs, l, E, h => by
    rw [rowsF] at h
    split at h
    · cases h
    · split at h
      · injection h with h
        omega
      · split at h
        · rename_i h0
          injection h with h
          rw [← h]
          exact h0
        · exact rows_err n f _ _ E h
theorem parse_err {l : List UInt8} {E : Int} (h : parseR l = .error E) : E ≠ 0 := by
  unfold parseR at h
  split at h
  · injection h with h
    omega
  · split at h
    · injection h with h
      omega
    · split at h
      · rename_i h0
        injection h with h
        rw [← h]
        exact h0
      · split at h
        · rename_i h0
          injection h with h
          subst h
          exact rows_err _ _ _ _ _ h0
        · split at h
          · rename_i h0
            injection h with h
            rw [← h]
            exact h0
          · cases h
theorem short_12 {q : Rat} (h : qk q 12) : short200 q := by
  have h1 := nDigits_nl q.num.natAbs
  have h2 := nDigits_nl q.den
  exact ⟨by have := h.1; omega, by have := h.2; omega⟩
/-- What is read prints as it stood. -/
theorem read_print {s : ByteArray} {ch : PChart} (h : parseR s.data.toList = .ok ch) : bytes (printT ch) = s ∧ printE ch = 0 := by
  obtain ⟨h1, h2, h3⟩ := print_parse h
  obtain ⟨e1, e2⟩ := prE_ok h1 (by rw [h2]; omega)
  exact ⟨by rw [e2, h2, bytes_of], e1⟩
theorem parsed_chk {l : List UInt8} {w : World} {S R : Option Addr} {n c m d : Nat} {ch : PChart} (h : parseR l = .ok ch) (h1 : Sl w w.heap.size S n (strs ch.sizes)) (h2 : n ≤ c) (h3 : RowsN w R m ch.rows) (h4 : m ≤ d) (hr : ∀ r ∈ ch.rows, rowFit r) : ChkA w S n c R m d 200 ch := by
  obtain ⟨hc, _⟩ := print_parse h
  obtain ⟨l1, l2, l3, _⟩ := chk_zero hc
  refine read_chk h1 h2 h3 h4 (by rw [← h1.slen]; omega) (by rw [← h3.len]; omega) (fun s hs => ?_) hr
  obtain ⟨i, hi⟩ := List.getElem?_of_mem hs
  have := (sizeOk_iff.1 ((right_iff.1 l3).2.1 i s hi)).2.1
  have e : s.data.toList.length = s.size := rfl
  omega

theorem six_hold {w w' : World} {g g' : Nat} {t t' : TypeId} {a0 a1 a2 b0 b1 b2 : Value} (h : Blk w g t #[a0, a1, a2] ∧ Blk w g' t' #[b0, b1, b2]) (hb : Below w.heap.size w w') : w'.cell? ⟨g, 0, none⟩ = some a0 ∧ w'.cell? ⟨g, 1, none⟩ = some a1 ∧ w'.cell? ⟨g, 2, none⟩ = some a2 ∧ w'.cell? ⟨g', 0, none⟩ = some b0 ∧ w'.cell? ⟨g', 1, none⟩ = some b1 ∧ w'.cell? ⟨g', 2, none⟩ = some b2 :=
  ⟨(h.1.below hb).c rfl, (h.1.below hb).c rfl, (h.1.below hb).c rfl, (h.2.below hb).c rfl, (h.2.below hb).c rfl, (h.2.below hb).c rfl⟩
theorem samec_true' {S S2 R R2 : Option Addr} {n m c d c2 d2 : Nat} {ch : PChart} {w : World} (hl : ch.rows.length = m) (a1 : Sl w w.heap.size S n (strs ch.sizes)) (a2 : RowsN w R m ch.rows) (b1 : Sl w w.heap.size S2 n (strs ch.sizes)) (b2 : RowsN w R2 m ch.rows)
    (hq : ∀ r ∈ ch.rows, qk r.base 100000 ∧ ∀ q ∈ r.steps, qk q 100000) (hn : n ≤ 1000000) (hm : m ≤ 1000000) (hst : ∀ r ∈ ch.rows, r.steps.length ≤ 1000000) :
    Calls Tryz.prog 29 #[.agg #[.slice S n c, .int .i64 ch.base, .slice R m d], .agg #[.slice S2 n c2, .int .i64 ch.base, .slice R2 ch.rows.length d2]] w fun e w' => e = .returned (.bool true) ∧ Below w.heap.size w w' := by
  rw [hl]
  exact samec_true S n c R m d S2 c2 R2 d2 ch w a1 a2 b1 b2 hq hn hm hst

set_option maxRecDepth 100000 in
set_option maxHeartbeats 6400000 in
theorem chartRoundTrip_walk (S : Option Addr) (n c : Nat) (R : Option Addr) (m d k : Nat) (ch : PChart) (s : ByteArray) (w : World) (hw : Std w) (h : LgtA w S n c R m d k ch) :
    Calls Tryz.prog 10 #[.agg #[.slice S n c, .int .i64 ch.base, .slice R m d], .string s] w (RetLaw w) := by
  have hB : Below w.heap.size w (w.alloc (.cells #[.slice S n c, .int .i64 ch.base, .slice R m d] 25)) := Below.alo (Below.refl _ _) _
  have HX := Lib.hid (Blk.new w 25 #[.slice S n c, .int .i64 ch.base, .slice R m d])
  have HL := Lib.hid (light_any S n c R m d k 12 ch _ (h.on hB) (by omega) (by omega))
  have HB := Lib.hid hB
  have HW := Lib.hid hw
  clear hB h hw
  go_enter Tryz.func10, Tryz.ntmps10
  go_wp2_with fail
  go_fit HL.out
  rintro e w1 ⟨bb, rfl, hA, hiff, hb1⟩
  clear hiff
  have HB1 := Lib.hid (HB.out.trans (hb1.mono HB.out.size))
  have HE := Lib.hid (example_any _ (HW.out.below HB1.out))
  cases bb
  · clear hA hb1
    go_wp2_with fail
    go_fit HE.out
    rintro e w2 ⟨rfl, hb2⟩
    go_wp2_with fail
    go_ret
    exact ⟨rfl, HB1.out.trans (hb2.mono HB1.out.size)⟩
  by_cases hx : 2000 < s.size
  · have hx2 : (2000 : Int) < (s.size : Int) := by omega
    clear hA hb1
    go_wp2_with fail
    go_fit HE.out
    rintro e w2 ⟨rfl, hb2⟩
    go_wp2_with fail
    go_ret
    exact ⟨rfl, HB1.out.trans (hb2.mono HB1.out.size)⟩
  have hx2 : ¬ (2000 : Int) < (s.size : Int) := by omega
  have hs : s.size ≤ 2000 := by omega
  obtain ⟨hA0, hst14, _, _, hn14, hm34⟩ := hA rfl
  have hqs := hA0.lies.2.qks hA0.one
  have hA1 := hA0.on hb1
  have HA1 := Lib.hid hA1
  have X1 := HX.out.below hb1
  have HX1 := Lib.hid X1
  obtain ⟨x0, x1, x2⟩ := three X1
  have HQS := Lib.hid hqs
  have HS14 := Lib.hid hst14
  have HPr := Print_any S n c R m d 12 ch _ (HW.out.below HB1.out) hA1
  unfold RetPr at HPr
  by_cases hE : printE ch = 0
  · have hck : chkP ch = 0 := by
      rcases Classical.em (chkP ch = 0) with e | e
      · exact e
      · rw [printE, if_pos e] at hE
        exact absurd hE e
    have hl : ¬ 20000 < (printL ch).length := by
      intro e
      rw [(prE_long hck e).1] at hE
      omega
    have hpt : printT ch = printL ch := (prE_ok hck hl).2
    have HPP := Lib.hid (parse_print hck (by omega) (fun r hr => ⟨short_12 (hqs r hr).1, fun q hq => short_12 ((hqs r hr).2 q hq)⟩))
    rw [hE, hpt] at HPr
    obtain ⟨T, hT⟩ : ∃ T, bytes (printL ch) = T := ⟨_, rfl⟩
    rw [hT] at HPr
    have HPr := Lib.hid HPr
    have hTd : T.data.toList = printL ch := by rw [← hT, bytes_data]
    have hTs : T.size ≤ 20000 := by
      have e : T.data.toList.length = T.size := rfl
      rw [hTd] at e
      omega
    have HTD := Lib.hid hTd
    have HCK := Lib.hid hck
    clear hA hb1 X1 hA1 hA0 hst14 hqs hE hl hpt hck hT hTd HX HE
    go_wp2_with fail
    go_fit HPr.out
    rintro e w2 ⟨rfl, hb2⟩
    have HB2 := Lib.hid (HB1.out.trans (hb2.mono HB1.out.size))
    have HX2 := Lib.hid (HX1.out.below hb2)
    have HA2 := Lib.hid (HA1.out.on hb2)
    have HPa := Lib.hid (Parse_any T _ (HW.out.below HB2.out) (by omega))
    clear hb2 x0 x1 x2 HX1 HA1 HPr
    go_wp2_with fail
    go_fit HPa.out
    rintro e w3 hret
    obtain ⟨S3, n3, c3, R3, m3, d3, rfl, s3, e3, r3, k3, f3, hb3⟩ := hret.1 ch (by rw [HTD.out]; exact HPP.out)
    obtain rfl : n = n3 := HA2.out.slen.symm.trans s3.slen
    obtain rfl : m = m3 := HA2.out.rlen.symm.trans r3.len
    have hal := (Below.refl w3.heap.size w3).alloc (Nat.le_refl _) (.cells #[.slice S3 n c3, .int .i64 ch.base, .slice R3 m d3] 25)
    have hbb := hb3.trans (hal.mono hb3.size)
    have HB3 := Lib.hid (HB2.out.trans (hbb.mono HB2.out.size))
    have HX3 := Lib.hid (HX2.out.below hbb)
    have HA3 := Lib.hid (HA2.out.on hbb)
    have HY3 := Lib.hid (Blk.new w3 25 #[.slice S3 n c3, .int .i64 ch.base, .slice R3 m d3])
    have HD3 := Lib.hid (And.intro (s3.on hal) (r3.on hal))
    have HRL := Lib.hid HA2.out.rlen
    have HKK := Lib.hid (And.intro HY3.out HX3.out)
    have HNo := Lib.hid (fun W (hb : Below (w3.alloc (.cells #[.slice S3 n c3, .int .i64 ch.base, .slice R3 m d3] 25)).heap.size (w3.alloc (.cells #[.slice S3 n c3, .int .i64 ch.base, .slice R3 m d3] 25)) W) => hnorm_any S n c R m d 12 ch W (HA3.out.lies.2.on hb) (by omega) (by omega) (fun r hr => by obtain ⟨i, hi⟩ := List.getElem?_of_mem hr; have := HS14.out i r hi; omega))
    clear hret s3 r3 hb3 hal hbb HX2 HA2 HPa HTD HPP f3
    go_wp2_with fail
    go_region_held3 (fun w' => w'.cell? ⟨w3.heap.size, 0, none⟩ = some (.slice S3 n c3) ∧ w'.cell? ⟨w3.heap.size, 1, none⟩ = some (.int .i64 ch.base) ∧ w'.cell? ⟨w3.heap.size, 2, none⟩ = some (.slice R3 m d3) ∧ w'.cell? ⟨w.heap.size, 0, none⟩ = some (.slice S n c) ∧ w'.cell? ⟨w.heap.size, 1, none⟩ = some (.int .i64 ch.base) ∧ w'.cell? ⟨w.heap.size, 2, none⟩ = some (.slice R m d))
      ((refine six_hold HKK.out ?_; repeat (first | (with_reducible exact Below.refl _ _) | (with_reducible exact hu2) | (with_reducible exact hu1) | (with_reducible refine Below.drew ?_))))
      (first
       | (go_at_call 33; go_must ((refine (HNo.out _ (by repeat (first | (with_reducible exact Below.refl _ _) | (with_reducible refine Below.drew ?_)))).mono ?_); rintro e u1 ⟨R4, d4, rfl, r4, k4, hv⟩; have hu1 : Below (w3.alloc (.cells #[.slice S3 n c3, .int .i64 ch.base, .slice R3 m d3] 25)).heap.size (w3.alloc (.cells #[.slice S3 n c3, .int .i64 ch.base, .slice R3 m d3] 25)) u1 := ⟨hv.os, hv.tape, hv.output, hv.size, hv.block⟩; have HR4 : Hid (RowsN u1 R4 m ch.rows) := (by rw [HRL.out] at r4; exact r4); clear r4 hv))
       | (go_at_call 29; go_must ((refine (samec_true' HRL.out (HD3.out.1.on hu1) (HD3.out.2.on hu1) (HA3.out.lies.1.on hu1) HR4.out (fun r hr => ⟨(HQS.out r hr).1.mono (by omega), fun q hq => ((HQS.out r hr).2 q hq).mono (by omega)⟩) (by omega) (by omega) (fun r hr => by obtain ⟨i, hi⟩ := List.getElem?_of_mem hr; have := HS14.out i r hi; omega)).mono ?_); rintro e u2 ⟨rfl, hv⟩; have hu2 := hu1.trans (hv.mono hu1.size); clear hv)))
    have HBW := Lib.hid (HB3.out.trans (hu2.mono HB3.out.size))
    clear HX3 HA3 HY3 HD3 HKK HNo hu1 hu2 HR4

    have HP := Lib.hid (Parse_any s _ (HW.out.below HBW.out) (by omega))
    go_wp2_with fail
    go_fit HP.out
    rintro e w7 hret
    cases hp : parseR s.data.toList with
    | ok c2 =>
      obtain ⟨S2, n2, d2, R2, m2, e2, rfl, s1, s2, r1, r2, f1, hb⟩ := hret.1 _ hp
      have HPT := Lib.hid (read_print hp)
      have hchk := parsed_chk hp s1 s2 r1 r2 f1
      have hal := (Below.refl w7.heap.size w7).alloc (Nat.le_refl _) (.cells #[.slice S2 n2 d2, .int .i64 c2.base, .slice R2 m2 e2] 25)
      have hbb := hb.trans (hal.mono hb.size)
      have HB7 := Lib.hid (HBW.out.trans (hbb.mono HBW.out.size))
      have Y7 := Blk.new w7 25 #[.slice S2 n2 d2, .int .i64 c2.base, .slice R2 m2 e2]
      have HPr := Print_any S2 n2 d2 R2 m2 e2 200 c2 _ (HW.out.below HB7.out) (hchk.on hal)
      unfold RetPr at HPr
      rw [HPT.out.1, HPT.out.2] at HPr
      have HPr := Lib.hid HPr
      obtain ⟨y0, y1, y2⟩ := three Y7
      clear hret hp s1 s2 r1 r2 f1 hb hchk hal hbb Y7 HP
      go_wp2_with fail
      go_fit HPr.out
      rintro e w8 ⟨rfl, hb8⟩
      have HB8 := Lib.hid (HB7.out.trans (hb8.mono HB7.out.size))
      have HE := Lib.hid (example_any _ (HW.out.below HB8.out))
      have hss : (s.toList == s.toList) = true := by simp
      clear hb8
      go_wp2_with fail
      go_fit HE.out
      rintro e w9 ⟨rfl, hb9⟩
      go_wp2_with fail
      go_ret
      exact ⟨rfl, HB8.out.trans (hb9.mono HB8.out.size)⟩
    | error E2 =>
      obtain ⟨rfl, hb⟩ := hret.2 _ hp
      have hE2 := parse_err hp
      have hE3 : (E2 == 0) = false := by simpa using hE2
      have hal := (Below.refl w7.heap.size w7).alloc (Nat.le_refl _) (.cells #[.slice none 0 0, .int .i64 0, .slice none 0 0] 25)
      have HB7 := Lib.hid (HBW.out.trans ((hb.trans (hal.mono hb.size)).mono HBW.out.size))
      have HE := Lib.hid (example_any _ (HW.out.below HB7.out))
      clear hret hp hb hal HP
      go_wp2_with fail
      go_fit HE.out
      rintro e w9 ⟨rfl, hb9⟩
      go_wp2_with fail
      go_ret
      exact ⟨rfl, HB7.out.trans (hb9.mono HB7.out.size)⟩
  · have hE1 : (printE ch == 0) = false := by simpa using hE
    generalize bytes (printT ch) = T at HPr
    generalize printE ch = E at *
    have HPr := Lib.hid HPr
    clear hA hb1 X1 hA1 hA0 hst14 hqs HX HE HQS HS14
    go_wp2_with fail
    go_fit HPr.out
    rintro e w2 ⟨rfl, hb2⟩
    have HBW := Lib.hid (HB1.out.trans (hb2.mono HB1.out.size))
    clear hb2 x0 x1 x2 HX1 HA1 HPr
    have HP := Lib.hid (Parse_any s _ (HW.out.below HBW.out) (by omega))
    go_wp2_with fail
    go_fit HP.out
    rintro e w7 hret
    cases hp : parseR s.data.toList with
    | ok c2 =>
      obtain ⟨S2, n2, d2, R2, m2, e2, rfl, s1, s2, r1, r2, f1, hb⟩ := hret.1 _ hp
      have HPT := Lib.hid (read_print hp)
      have hchk := parsed_chk hp s1 s2 r1 r2 f1
      have hal := (Below.refl w7.heap.size w7).alloc (Nat.le_refl _) (.cells #[.slice S2 n2 d2, .int .i64 c2.base, .slice R2 m2 e2] 25)
      have hbb := hb.trans (hal.mono hb.size)
      have HB7 := Lib.hid (HBW.out.trans (hbb.mono HBW.out.size))
      have Y7 := Blk.new w7 25 #[.slice S2 n2 d2, .int .i64 c2.base, .slice R2 m2 e2]
      have HPr := Print_any S2 n2 d2 R2 m2 e2 200 c2 _ (HW.out.below HB7.out) (hchk.on hal)
      unfold RetPr at HPr
      rw [HPT.out.1, HPT.out.2] at HPr
      have HPr := Lib.hid HPr
      obtain ⟨y0, y1, y2⟩ := three Y7
      clear hret hp s1 s2 r1 r2 f1 hb hchk hal hbb Y7 HP
      go_wp2_with fail
      go_fit HPr.out
      rintro e w8 ⟨rfl, hb8⟩
      have HB8 := Lib.hid (HB7.out.trans (hb8.mono HB7.out.size))
      have HE := Lib.hid (example_any _ (HW.out.below HB8.out))
      have hss : (s.toList == s.toList) = true := by simp
      clear hb8
      go_wp2_with fail
      go_fit HE.out
      rintro e w9 ⟨rfl, hb9⟩
      go_wp2_with fail
      go_ret
      exact ⟨rfl, HB8.out.trans (hb9.mono HB8.out.size)⟩
    | error E2 =>
      obtain ⟨rfl, hb⟩ := hret.2 _ hp
      have hE2 := parse_err hp
      have hE3 : (E2 == 0) = false := by simpa using hE2
      have hal := (Below.refl w7.heap.size w7).alloc (Nat.le_refl _) (.cells #[.slice none 0 0, .int .i64 0, .slice none 0 0] 25)
      have HB7 := Lib.hid (HBW.out.trans ((hb.trans (hal.mono hb.size)).mono HBW.out.size))
      have HE := Lib.hid (example_any _ (HW.out.below HB7.out))
      clear hret hp hb hal HP
      go_wp2_with fail
      go_fit HE.out
      rintro e w9 ⟨rfl, hb9⟩
      go_wp2_with fail
      go_ret
      exact ⟨rfl, HB7.out.trans (hb9.mono HB7.out.size)⟩
end Go.Proofs.YtjiccijfbpkliaaGreatDoor
