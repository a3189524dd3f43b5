/-
  Several texts in one: garmentref18.Print returns the text of a chart, or the error. Conditions: as Check's; numbers of at most 40,000 limbs. The laws ChartPrints, ChartValues and ChartChanges return true. Conditions: Std; the chart's data lie in memory. garmentref18.Column. Conditions: as chart.Column. Printed by gen_col3.py. The laws ChartValues and ChartChanges return true. Conditions: Std; the chart's data lie in memory. The law ChartValues returns true. Conditions: Std; the chart's data lie in memory.
-/
import Derived.Test.YtjiccijfbpkliaaGreatDoorG22
import Derived.Test.YtjiccijfbpkliaaGreatDoorG26
import Derived.Test.YtjiccijfbpkliaaGreatDoorG29
import Derived.Test.YtjiccijfbpkliaaGreatDoorG32

/- garmentref18.Print returns the text of a chart, or the error. Conditions: as Check's; numbers of at most 40,000 limbs. -/
namespace Go.Proofs.YtjiccijfbpkliaaGreatDoor
open Go.RowKit
open Go.Lib hiding intOf

/-- What the reference has of the first line behind i sizes. -/
def hAt (ch : PChart) (i : Nat) : List UInt8 := [115, 105, 122, 101, 115] ++ tailW ((ch.sizes.take i).map (·.data.toList))
theorem h_zero (ch : PChart) : hAt ch 0 = [115, 105, 122, 101, 115] := by simp [hAt, tailW]
theorem h_succ {ch : PChart} {i : Nat} {x : ByteArray} (h : ch.sizes[i]? = some x) : hAt ch (i + 1) = hAt ch i ++ ([32] ++ x.data.toList) := by
  unfold hAt
  rw [List.take_add_one, h]
  simp [tailW]
theorem h_all {ch : PChart} {x : ByteArray} (hx : ch.sizes[ch.base.toNat]? = some x) : headText ch = hAt ch ch.sizes.length ++ [32, 98, 97, 115, 101, 32] ++ x.data.toList ++ [10] := by
  have hgx : ch.sizes.getD ch.base.toNat ByteArray.empty = x := by rw [List.getD_eq_getElem?_getD, hx]; rfl
  unfold headText hAt
  rw [hgx, List.take_of_length_le (Nat.le_refl _)]
  simp [tailW]
theorem h_len (ch : PChart) (i : Nat) : (hAt ch i).length ≤ (headText ch).length := by
  unfold hAt headText
  have e : ∀ us : List (List UInt8), tailW (ch.sizes.map (·.data.toList) ++ us) = tailW ((ch.sizes.take i).map (·.data.toList)) ++ (tailW ((ch.sizes.drop i).map (·.data.toList)) ++ tailW us) := fun us => by
    have e0 : ch.sizes.map (·.data.toList) = (ch.sizes.take i).map (·.data.toList) ++ (ch.sizes.drop i).map (·.data.toList) := by rw [← List.map_append, List.take_append_drop]
    unfold tailW
    rw [e0]
    simp only [List.flatMap_append, List.append_assoc]
  rw [e]
  simp only [List.length_append]
  omega

set_option maxRecDepth 100000 in
set_option maxHeartbeats 6400000 in
theorem hPrint_any (S : Option Addr) (n c : Nat) (R : Option Addr) (m d k : Nat) (ch : PChart) (w : World) (h : ChkA w S n c R m d k ch) (hk4 : k ≤ 40000) :
    Calls Tryz.prog 26 #[.agg #[.slice S n c, .int .i64 ch.base, .slice R m d]] w (RetPr ch w) := by
  have hsl := h.slen
  have hrl := h.rlen
  have hB : Below w.heap.size w (w.alloc (.cells #[.slice S n c, .int .i64 ch.base, .slice R m d] 25)) := (Below.refl _ _).alloc (Nat.le_refl _) _
  have X0 := Blk.new w 25 #[.slice S n c, .int .i64 ch.base, .slice R m d]
  have HA := Lib.hid h
  have HC := fun W (hb : Below w.heap.size w W) => hcheck_any S n c R m d k ch W (h.on hb)
  obtain ⟨E, hE⟩ : ∃ E, chkP ch = E := ⟨_, rfl⟩
  simp only [hE] at HC
  have HC := Lib.hid HC
  have HE := Lib.hid hE
  have HL := Lib.hid (And.intro hsl hrl)
  have n1 := h.len
  have m1 := h.lenr
  have k1 := h.one
  have k2 := h.small
  clear h hsl hrl hE
  go_enter Tryz.func26, Tryz.ntmps26
  go_wp2_with fail
  refine (HC.out _ hB).mono ?_
  rintro e w1 ⟨rfl, hb1⟩
  have X1 := X0.below hb1
  have B1 := hB.trans (hb1.mono hB.size)
  obtain ⟨x0, x1, x2⟩ := three X1
  clear X0 hB hb1
  by_cases hE0 : E = 0
  · subst hE0
    have hck := chk_zero HE.out
    have hqs := HA.out.lies.2.qks HA.out.one
    obtain ⟨room, room2⟩ := print_room HE.out hqs k2
    obtain ⟨bs, hbs⟩ : ∃ bs : Nat, ch.base = (bs : Int) := ⟨ch.base.toNat, by omega⟩
    have hbn : bs < n := by have := hck.2.2.2.2.2.2; rw [HL.out.1] at this; omega
    have S1 := HA.out.lies.1.on B1
    obtain ⟨sb, so, x, hS, hsb, hx, hxc⟩ := S1.str_ hbn
    subst hS
    have hhead := h_all (ch := ch) (x := x) (by rw [hbs, Int.toNat_natCast]; exact hx)
    rw [HL.out.1] at hhead
    have HHE := Lib.hid hhead
    have HCK := Lib.hid hck
    have HR := Lib.hid (And.intro room room2)
    rw [hbs] at x1
    have HX1 := Lib.hid X1
    have HB1 := Lib.hid B1
    have HBS := Lib.hid hbs
    have HS1 := Lib.hid S1
    clear hck hqs room room2 X1 B1 S1 hbs hx hhead
    go_wp2_with fail
    go_loopw [5, 6] (fun s5 s6 wr => ∃ (i : Nat) (sv : ByteArray), i ≤ n ∧ s5 = .string sv ∧ s6 = .int .i64 (i : Int) ∧ Hid (sv.data.toList = hAt ch i) ∧ wr = w1) (fun _ s6 _ => n - (intOf s6).toNat)
    case atStart => exact ⟨0, _, Nat.zero_le _, rfl, rfl, by rw [Hid, h_zero], rfl⟩
    case round =>
      obtain ⟨i, sv, hi, rfl, rfl, hsv, rfl⟩ := hrel
      have hsvl : sv.size ≤ 1000 := by
        have h1 := h_len ch i
        have h2 := HR.out.2
        rw [← hsv.out] at h1
        exact Nat.le_trans h1 h2
      by_cases hlt : i < n
      · obtain ⟨sb', so', y, hS', _, hy, hyc⟩ := HS1.out.str_ hlt
        injection hS' with hS'
        injection hS' with e1 e2
        subst e1
        subst e2
        have hl1 := h_len ch (i + 1)
        have hr2 := HR.out.2
        rw [h_succ hy, ← hsv.out] at hl1
        simp only [List.length_append, List.length_singleton] at hl1
        have e1 : sv.size = sv.data.toList.length := rfl
        have e2 : y.size = y.data.toList.length := rfl
        have s32 : (⟨#[32]⟩ : ByteArray).size = 1 := rfl
        obtain ⟨p1, a1, d1, z1⟩ := add2 sv ⟨#[32]⟩ (by omega)
        obtain ⟨p2, a2, d2, z2⟩ := add2 p1 y (by omega)
        have HP2 : Hid (p2.data.toList = hAt ch (i + 1)) := by
          rw [Hid, d2, d1, h_succ hy, hsv.out]
          simp
        have i1 : (0 : Int) ≤ (i : Int) := by omega
        have i2 : (i : Int) < (n : Int) := by omega
        clear d1 d2 z1 z2 hy hl1
        go_wp2_with fail
        go_roundw
        case rel => exact ⟨i + 1, p2, by omega, rfl, by go_num, HP2, by first | rfl | trivial⟩
        case measure => simp [intOf]; omega
      · obtain rfl : i = n := by omega
        have hr2 := HR.out.2
        have hll := congrArg List.length HHE.out
        rw [← hsv.out] at hll
        simp only [List.length_append, List.length_cons, List.length_nil] at hll
        have e1 : sv.size = sv.data.toList.length := rfl
        have e2 : x.size = x.data.toList.length := rfl
        have s6 : (⟨#[32, 98, 97, 115, 101, 32]⟩ : ByteArray).size = 6 := rfl
        have s1 : (⟨#[10]⟩ : ByteArray).size = 1 := rfl
        obtain ⟨p1, a1, d1, z1⟩ := add2 sv ⟨#[32, 98, 97, 115, 101, 32]⟩ (by omega)
        obtain ⟨p2, a2, d2, z2⟩ := add2 p1 x (by omega)
        obtain ⟨p3, a3, d3, z3⟩ := add2 p2 ⟨#[10]⟩ (by omega)
        have HP3 : Hid (p3.data.toList = outAt ch 0) := by
          rw [Hid, d3, d2, d1, out_zero, HHE.out, hsv.out]
        have i1 : (0 : Int) ≤ (bs : Int) := by omega
        have i2 : (bs : Int) < (i : Int) := by omega
        clear d1 d2 d3 z1 z2 z3 hll hsv
        obtain ⟨wo, rfl⟩ : ∃ wo : World, wo = wr := ⟨_, rfl⟩
        go_wp2_with fail
        clear a1 a2 a3
        go_loopw [5, 7] (fun s5 s7 wr2 => ∃ (j : Nat) (sv : ByteArray), j ≤ m ∧ s5 = .string sv ∧ s7 = .int .i64 (j : Int) ∧ Hid (sv.data.toList = outAt ch j) ∧ Below wo.heap.size wo wr2) (fun _ s7 _ => m - (intOf s7).toNat)
        case atStart => exact ⟨0, _, Nat.zero_le _, rfl, rfl, HP3, Below.refl _ _⟩
        case round =>
          obtain ⟨j, sv, hj, rfl, rfl, hsv, hbel⟩ := hrel
          have X2 := HX1.out.below hbel
          obtain ⟨x0, x1, x2⟩ := three X2
          have hroom := HR.out.1
          by_cases hlt : j < m
          · have B3 := HB1.out.trans (hbel.mono HB1.out.size)
            obtain ⟨b, off, r, neg, C, cm, cc, D, dl, dd, T, sn, sc, rfl, hbw, hr, g0, g1, g2, g3, g4, hra, hst, hsc⟩ := HA.out.lies.2.at_ hlt
            have g0 := (B3.cell (p := ⟨b, off + j * 5, none⟩) hbw).trans g0
            have g1 := (B3.cell (p := ⟨b, off + j * 5 + 1, none⟩) hbw).trans g1
            have g2 := (B3.cell (p := ⟨b, off + j * 5 + 2, none⟩) hbw).trans g2
            have g3 := (B3.cell (p := ⟨b, off + j * 5 + 3, none⟩) hbw).trans g3
            have g4 := (B3.cell (p := ⟨b, off + j * 5 + 4, none⟩) hbw).trans g4
            have hra := hra.on B3
            have hrn : r.steps.length = i := by rw [row_len HCK.out.2.2.1 hr]; exact HL.out.1
            have hsn : sn = i := by rw [← hst.len]; exact hrn
            subst hsn
            obtain ⟨Tx, hTx⟩ : ∃ Tx, bytes (ratText r.base) = Tx := ⟨_, rfl⟩
            have hlen0 := in_out_len hr 0
            have hnm : r.name.size = r.name.data.toList.length := rfl
            have hsvs : sv.size = sv.data.toList.length := rfl
            have hTs : Tx.size = (ratText r.base).length := by rw [← hTx]; rfl
            have hl0 : (sv.data.toList ++ (r.name.data.toList ++ 32 :: ratText r.base)).length ≤ 1000000000 := by rw [← in_zero, hsv.out]; omega
            simp only [List.length_append, List.length_cons] at hl0
            have s32 : (⟨#[32]⟩ : ByteArray).size = 1 := rfl
            obtain ⟨p0, a0, d0, z0⟩ := add2 sv r.name (by omega)
            obtain ⟨p1, a1, d1, z1⟩ := add2 p0 ⟨#[32]⟩ (by omega)
            obtain ⟨p2, a2, d2, z2⟩ := add2 p1 Tx (by omega)
            have HP2 : Hid (p2.data.toList = outAt ch j ++ inAt r 0) := by
              rw [Hid, d2, d1, d0, hsv.out, ← hTx, bytes_data, in_zero]
              simp
            have hWb := (Below.refl wr.heap.size wr).alloc (Nat.le_refl _) (.cells #[.string r.name, .bool neg, .slice C cm cc, .slice D dl dd, .slice T sn sc] 57)
            have HWB := Lib.hid hWb
            have HTX := fun W (hb : Below wr.heap.size wr W) => ktext_any (.agg #[.bool neg, .slice C cm cc, .slice D dl dd]) k r.base W (hra.on hb) k1 hk4
            unfold RetT at HTX
            have e0 : (⟨(ratText r.base).toArray⟩ : ByteArray) = Tx := hTx
            rw [e0] at HTX
            have HTX := Lib.hid HTX
            have HX3 := Lib.hid (X2.below hWb)
            have Y3 := Blk.new wr 57 #[.string r.name, .bool neg, .slice C cm cc, .slice D dl dd, .slice T sn sc]
            have HY3 := Lib.hid Y3
            have HBEL := Lib.hid hbel
            have HRR := Lib.hid hr
            have HST := Lib.hid hst
            have hxl := X2.lt
            have i3 : (0 : Int) ≤ (j : Int) := by omega
            have i4 : (j : Int) < (m : Int) := by omega
            clear hr hst hra hbel hWb Y3 B3 hl0 hlen0 hTx e0 d0 d1 d2 z0 z1 z2 hTs hnm X2
            go_wp2_with fail
            go_region_held3 (fun w' => w'.cell? ⟨wr.heap.size, 0, none⟩ = some (.string r.name) ∧ w'.cell? ⟨wr.heap.size, 1, none⟩ = some (.bool neg) ∧ w'.cell? ⟨wr.heap.size, 2, none⟩ = some (.slice C cm cc) ∧ w'.cell? ⟨wr.heap.size, 3, none⟩ = some (.slice D dl dd) ∧ w'.cell? ⟨wr.heap.size, 4, none⟩ = some (.slice T sn sc))
              (go_keep)
              (first
               | (go_at_call 58; go_must ((go_fit (HTX.out _ HWB.out.drew)); rintro e w4 ⟨rfl, hb4⟩; have HB4 := Lib.hid (show Below (wr.alloc (.cells #[.string r.name, .bool neg, .slice C cm cc, .slice D dl dd, .slice T sn sc] 57)).heap.size (wr.alloc (.cells #[.string r.name, .bool neg, .slice C cm cc, .slice D dl dd, .slice T sn sc] 57)) w4 from ⟨hb4.os, hb4.tape, hb4.output, hb4.size, hb4.block⟩); obtain ⟨hcl, hfr⟩ := bcell HB4.out; clear hb4)))
            have HX4 := Lib.hid (HX3.out.below HB4.out)
            have HY4 := Lib.hid (HY3.out.below HB4.out)
            have HBW4 := Lib.hid (HBEL.out.trans ((HWB.out.trans (HB4.out.mono (by simp))).mono HBEL.out.size))
            have hsn1 : 1 ≤ sn := by omega
            obtain ⟨bt, ot, _, _, _, _, _, _, _, _, hT, _⟩ := HST.out.at_ (j := 0) hsn1
            subst hT
            obtain ⟨wp, rfl⟩ : ∃ wp : World, wp = wr := ⟨_, rfl⟩
            clear hcl hfr HX3 HY3 HWB HB4 HTX a0 a1 a2 x0 x1 x2
            go_wp2_with fail
            go_loopw [5, 9] (fun s5 s9 wr2 => ∃ (t : Nat) (sv : ByteArray), 1 ≤ t ∧ t ≤ sn ∧ s5 = .string sv ∧ s9 = .int .i64 (t : Int) ∧ Hid (sv.data.toList = outAt ch j ++ inAt r (t - 1)) ∧ Below w4.heap.size w4 wr2) (fun _ s9 _ => sn - (intOf s9).toNat)
            case atStart => exact ⟨1, p2, Nat.le_refl _, hsn1, rfl, rfl, HP2, Below.refl _ _⟩
            case round =>
              obtain ⟨t, sv, ht1, htn, rfl, rfl, hsv, hbl⟩ := hrel
              have yy4 := (HY4.out.below hbl).c (i := 4) rfl
              have hsvs : sv.size = sv.data.toList.length := rfl
              by_cases hltt : t < sn
              · have B6 := HB1.out.trans ((HBW4.out.trans (hbl.mono HBW4.out.size)).mono HB1.out.size)
                obtain ⟨bq, oq, q, neg2, E1, en, ec, F1, fn, fc, hT2, hbq, hq, g0, g1, g2, hqa⟩ := (HST.out.on B6).at_ (j := t) hltt
                injection hT2 with hT2
                injection hT2 with hT3 hT4
                subst hT3
                subst hT4
                have hq2 : (r.steps.drop 1)[t - 1]? = some q := by rw [List.getElem?_drop, show 1 + (t - 1) = t by omega]; exact hq
                have hin := in_succ hq2
                rw [show t - 1 + 1 = t by omega] at hin
                obtain ⟨Tx, hTx⟩ : ∃ Tx, bytes (ratText q) = Tx := ⟨_, rfl⟩
                have hlen0 := in_out_len HRR.out t
                rw [hin, ← List.append_assoc, ← hsv.out] at hlen0
                simp only [List.length_append, List.length_cons] at hlen0
                have hTs : Tx.size = (ratText q).length := by rw [← hTx]; rfl
                have s32 : (⟨#[32]⟩ : ByteArray).size = 1 := rfl
                obtain ⟨p1, a1, d1, z1⟩ := add2 sv ⟨#[32]⟩ (by omega)
                obtain ⟨p2, a2, d2, z2⟩ := add2 p1 Tx (by omega)
                have HP1 : Hid (p2.data.toList = outAt ch j ++ inAt r (t + 1 - 1)) := by
                  rw [Hid, d2, d1, ← hTx, bytes_data, Nat.add_sub_cancel, hin, hsv.out]
                  simp
                have HTX := ktext_any (.agg #[.bool neg2, .slice E1 en ec, .slice F1 fn fc]) k q _ hqa k1 hk4
                unfold RetT at HTX
                have e0 : (⟨(ratText q).toArray⟩ : ByteArray) = Tx := hTx
                rw [e0] at HTX
                have HTX := Lib.hid HTX
                have HBL := Lib.hid hbl
                have i5 : (0 : Int) ≤ (t : Int) := by omega
                have i6 : (t : Int) < (sn : Int) := by omega
                clear hq hq2 hqa hbl B6 hlen0 hTx e0 d1 d2 z1 z2 hTs hin
                go_wp2_with fail
                go_fit HTX.out
                rintro e w7 ⟨rfl, hb7⟩
                go_wp2_with fail
                go_roundw
                case rel => exact ⟨t + 1, p2, by omega, by omega, rfl, by go_num, HP1, HBL.out.trans (hb7.mono HBL.out.size)⟩
                case measure => simp [intOf]; omega
              · obtain rfl : t = sn := by omega
                have hfin : outAt ch (j + 1) = (outAt ch j ++ inAt r (t - 1)) ++ [10] := by rw [out_succ HRR.out, hrn, List.append_assoc]
                have hlen := out_len ch (j + 1)
                rw [hfin, ← hsv.out] at hlen
                simp only [List.length_append, List.length_singleton] at hlen
                have s10 : (⟨#[10]⟩ : ByteArray).size = 1 := rfl
                obtain ⟨p1, a1, d1, z1⟩ := add2 sv ⟨#[10]⟩ (by omega)
                have HP1 : Hid (p1.data.toList = outAt ch (j + 1)) := by
                  rw [Hid, d1, hfin, hsv.out]
                have HBL := Lib.hid (HBW4.out.trans (hbl.mono HBW4.out.size))
                clear hbl hfin hlen d1 z1
                go_wp2_with fail
                go_roundw
                case rel => exact ⟨j + 1, p1, by omega, rfl, by go_num, HP1, HBL.out⟩
                case measure => simp [intOf]; omega
          · obtain rfl : j = m := by omega
            have hbl : outAt ch j = printL ch := by rw [← HL.out.2]; exact out_all ch
            have hsv2 := hsv.out
            rw [hbl] at hsv2
            have HSV := Lib.hid hsv2
            have hN : (printL ch).length = sv.size := by rw [← hsv2]; rfl
            have HN := Lib.hid hN
            have HBL := Lib.hid (HB1.out.trans (hbel.mono HB1.out.size))
            clear hbl hsv2 hN hbel X2 hroom
            by_cases hlong : 20000 < sv.size
            · obtain ⟨p1, p2⟩ := prE_long HE.out (by rw [HN.out]; exact hlong)
              have HV := Lib.hid (And.intro p1 p2)
              have hl2 : (20000 : Int) < (sv.size : Int) := by omega
              clear p1 p2
              go_wp2_with fail
              refine bodyPost_ret (v := .tuple #[.string ⟨#[]⟩, .int .i64 5]) (by simp [results, Tryz.results26, go_sem]) rfl ?_
              exact ⟨by rw [HV.out.1, HV.out.2]; rfl, HBL.out⟩
            · obtain ⟨p1, p2⟩ := prE_ok HE.out (by rw [HN.out]; exact hlong)
              have HV := Lib.hid (And.intro p1 p2)
              have hl2 : ¬ (20000 : Int) < (sv.size : Int) := by omega
              clear p1 p2
              go_wp2_with fail
              refine bodyPost_ret (v := .tuple #[.string sv, .int .i64 0]) (by simp [results, Tryz.results26, go_sem]) rfl ?_
              exact ⟨by rw [HV.out.1, HV.out.2, ← HSV.out, bytes_of], HBL.out⟩
  · have hE1 : (E != 0) = true := by simpa using hE0
    obtain ⟨p1, p2⟩ := prE_bad (ch := ch) (by rw [HE.out]; exact hE0)
    have HV := Lib.hid (And.intro (p1.trans HE.out) p2)
    have HB1 := Lib.hid B1
    clear X1 B1 p1 p2
    go_wp2_with fail
    refine bodyPost_ret (v := .tuple #[.string ⟨#[]⟩, .int .i64 E]) (by simp [results, Tryz.results26, go_sem]) rfl ?_
    exact ⟨by rw [HV.out.1, HV.out.2]; rfl, HB1.out⟩
end Go.Proofs.YtjiccijfbpkliaaGreatDoor

/- The laws ChartPrints, ChartValues and ChartChanges return true. Conditions: Std; the chart's data lie in memory. -/
namespace Go.Proofs.YtjiccijfbpkliaaGreatDoor
open Go.RowKit
open Go.Lib hiding intOf

set_option maxRecDepth 100000 in
set_option maxHeartbeats 6400000 in
theorem chartPrints_walk (S : Option Addr) (n c : Nat) (R : Option Addr) (m d k : Nat) (ch : PChart) (w : World) (hw : Std w) (h : LgtA w S n c R m d k ch) :
    Calls Tryz.prog 6 #[.agg #[.slice S n c, .int .i64 ch.base, .slice R m d]] w (RetLaw w) := by
  have hB : Below w.heap.size w (w.alloc (.cells #[.slice S n c, .int .i64 ch.base, .slice R m d] 25)) := (Below.refl _ _).alloc (Nat.le_refl _) _
  have HX := Lib.hid (Blk.new w 25 #[.slice S n c, .int .i64 ch.base, .slice R m d])
  have HL := Lib.hid (light_any S n c R m d k 12 ch _ (h.on hB) (by omega) (by omega))
  have HB := Lib.hid hB
  have HW := Lib.hid hw
  clear hB h hw
  go_enter Tryz.func6, Tryz.ntmps6
  go_wp2_with fail
  go_fit HL.out
  rintro e w1 ⟨bb, rfl, hA, hiff, hb1⟩
  clear hiff
  have HB1 := Lib.hid (HB.out.trans (hb1.mono HB.out.size))
  cases bb
  · have HE := Lib.hid (example_any _ (HW.out.below HB1.out))
    clear hA hb1
    go_wp2_with fail
    go_fit HE.out
    rintro e w2 ⟨rfl, hb2⟩
    go_wp2_with fail
    go_ret
    exact ⟨rfl, HB1.out.trans (hb2.mono HB1.out.size)⟩
  · have hA1 := (hA rfl).1.on hb1
    have HA1 := Lib.hid hA1
    have X1 := HX.out.below hb1
    have HX1 := Lib.hid X1
    obtain ⟨x0, x1, x2⟩ := three X1
    have HPr := Print_any S n c R m d 12 ch _ (HW.out.below HB1.out) hA1
    have HPh := fun W (hb : Below w1.heap.size w1 W) => hPrint_any S n c R m d 12 ch W (hA1.on hb) (by omega)
    unfold RetPr at HPr HPh
    generalize bytes (printT ch) = T at *
    generalize printE ch = E at *
    have HPr := Lib.hid HPr
    have HPh := Lib.hid HPh
    clear hA hb1 X1 hA1
    go_wp2_with fail
    go_fit HPr.out
    rintro e w2 ⟨rfl, hb2⟩
    have X2 := HX1.out.below hb2
    have HB2 := Lib.hid (HB1.out.trans (hb2.mono HB1.out.size))
    have HQ := Lib.hid (HPh.out _ hb2)
    obtain ⟨x0, x1, x2⟩ := three X2
    clear X2 hb2 HPr HPh
    go_wp2_with fail
    go_fit HQ.out
    rintro e w3 ⟨rfl, hb3⟩
    have HB3 := Lib.hid (HB2.out.trans (hb3.mono HB2.out.size))
    have HE := Lib.hid (example_any _ (HW.out.below HB3.out))
    have ht : (T.toList == T.toList) = true := by simp
    have hee : (E == E) = true := by simp
    clear hb3
    go_wp2_with fail
    go_fit HE.out
    rintro e w4 ⟨rfl, hb4⟩
    go_wp2_with fail
    go_ret
    exact ⟨rfl, HB3.out.trans (hb4.mono HB3.out.size)⟩

/-- A result in normal form or none, whatever the error. -/
theorem RetQE.lies {err : Int} {q : Rat} {w w' : World} {e : Ending} {k : Nat} (h : RetQE err q w e w') (hk : err = 0 → qk q k) (hk2 : k ≤ 100000) :
    ∃ b A n c B m d l1 l2, e = .returned (.tuple #[.agg #[.bool b, .slice A n c, .slice B m d], .int .i64 err]) ∧ LiesA w' (.agg #[.bool b, .slice A n c, .slice B m d]) b l1 l2 ∧ (b = (if err = 0 then ineg q.num else false) ∧ l1 = (if err = 0 then limbs q.num.natAbs else []) ∧ l2 = (if err = 0 then limbs q.den else [])) ∧ Below w.heap.size w w' := by
  by_cases h0 : err = 0
  · obtain ⟨A, n, c, B, m, d, rfl, h1, _, h3, _, hb⟩ := h.1 h0
    subst h0
    exact ⟨_, A, n, c, B, m, d, _, _, rfl, LiesA.of h1 h3 (hk rfl) hk2, ⟨by simp, by simp, by simp⟩, hb⟩
  · obtain ⟨rfl, hb⟩ := h.2 h0
    exact ⟨false, none, 0, 0, none, 0, 0, [], [], rfl, LiesA.zero _, ⟨by simp [h0], by simp [h0], by simp [h0]⟩, hb⟩
end Go.Proofs.YtjiccijfbpkliaaGreatDoor

/- garmentref18.Column. Conditions: as chart.Column. Printed by gen_col3.py. -/
namespace Go.Proofs.YtjiccijfbpkliaaGreatDoor
open Go.RowKit
open Go.Lib hiding intOf

set_option maxRecDepth 100000 in
set_option maxHeartbeats 6400000 in
theorem hColumn_any (S : Option Addr) (n c : Nat) (R : Option Addr) (m d k : Nat) (ch : PChart) (size : Int) (w : World) (h : ChkA w S n c R m d k ch) (hk2 : k ≤ 100) :
    Calls Tryz.prog 20 #[.agg #[.slice S n c, .int .i64 ch.base, .slice R m d], .int .i64 size] w (RetCol ch size w) := by
  have hsl := h.slen
  have hrl := h.rlen
  have hB : Below w.heap.size w (w.alloc (.cells #[.slice S n c, .int .i64 ch.base, .slice R m d] 25)) := (Below.refl _ _).alloc (Nat.le_refl _) _
  have X0 := Blk.new w 25 #[.slice S n c, .int .i64 ch.base, .slice R m d]
  have HA := Lib.hid h
  have HC := fun W (hb : Below w.heap.size w W) => hcheck_any S n c R m d k ch W (h.on hb)
  obtain ⟨E, hE⟩ : ∃ E, chkP ch = E := ⟨_, rfl⟩
  simp only [hE] at HC
  have HC := Lib.hid HC
  have HE := Lib.hid hE
  have HL := Lib.hid (And.intro hsl hrl)
  have n1 := h.len
  have m1 := h.lenr
  clear h hsl hrl hE
  go_enter Tryz.func20, Tryz.ntmps20
  go_wp2_with fail
  refine (HC.out _ hB).mono ?_
  rintro e w1 ⟨rfl, hb1⟩
  have X1 := X0.below hb1
  have B1 := hB.trans (hb1.mono hB.size)
  obtain ⟨x0, x1, x2⟩ := three X1
  clear X0 hB hb1
  by_cases hE0 : E = 0
  · subst hE0
    have hck := chk_zero HE.out
    have HCK := Lib.hid hck
    have HI := hidx_any S n c ch.base R m d size w1
    rw [← idx_iff HL.out.1] at HI
    clear hck
    cases hq : isIdx ch size
    · have HV : Hid (colErr ch size = 3) := by rw [Hid, colErr, HE.out, if_neg (by simp), if_pos hq]
      rw [hq] at HI
      have HI := Lib.hid HI
      have HB1 := Lib.hid B1
      clear hq X1 B1
      go_wp2_with fail
      refine HI.out.mono ?_
      rintro e w2 ⟨rfl, hb2⟩
      go_wp2_with fail
      refine bodyPost_ret (v := .tuple #[.slice none 0 0, .int .i64 3]) (by simp [results, Tryz.results20, go_sem]) rfl ?_
      refine ⟨none, 0, 0, by rw [HV.out], Nat.le_refl _, ?_, HB1.out.trans (hb2.mono HB1.out.size)⟩
      rw [HV.out, if_neg (by omega)]
      exact MeasA.nil _ _
    · have hqi := isIdx_iff.1 hq
      obtain ⟨sz, rfl⟩ : ∃ sz : Nat, size = (sz : Int) := ⟨size.toNat, by omega⟩
      have HV : Hid (colErr ch (sz : Int) = 0) := by rw [Hid, colErr, HE.out, if_neg (by simp), if_neg (by rw [hq]; simp)]
      rw [hq] at HI
      have HI := Lib.hid HI
      have HX1 := Lib.hid X1
      have HB1 := Lib.hid B1
      have HQI := Lib.hid hqi
      clear hq X1 B1 hqi
      go_wp2_with fail
      refine HI.out.mono ?_
      rintro e w2 ⟨rfl, hb2⟩
      have X2 := HX1.out.below hb2
      have HB2 := Lib.hid (HB1.out.trans (hb2.mono HB1.out.size))
      have HX2 := Lib.hid X2
      obtain ⟨x0, x1, x2⟩ := three X2
      clear hb2 HX1 HB1 X2
      go_wp2_with fail
      go_loopw [7, 8] (fun s7 s22 wr => ∃ j : Nat, j ≤ m ∧ s22 = .int .i64 (j : Int) ∧ colRel ch (sz : Int) 62 w2 j s7 wr ∧ Below w2.heap.size w2 wr) (fun _ s22 _ => m - (intOf s22).toNat)
      case atStart => exact ⟨0, Nat.zero_le _, rfl, colRel.start _ _ _ _ _, Below.refl _ _⟩
      case round =>
        obtain ⟨j, hj, rfl, hcol, hbel⟩ := hrel
        by_cases hlt : j < m
        · have B3 := HB2.out.trans (hbel.mono HB2.out.size)
          obtain ⟨b, off, r, neg, C, cm, cc, D, dl, dd, T, sn, sc, rfl, hr, g0, g1, g2, g3, g4, hra, hbw⟩ := (HA.out.lies.2.on B3).row hlt
          have hrn : r.steps.length = n := by rw [row_len HCK.out.2.2.1 hr]; exact HL.out.1
          have hb0 := HCK.out.2.2.2.2.2.1
          have hb1 := HCK.out.2.2.2.2.2.2
          rw [HL.out.1] at hb1
          have hn12 := HCK.out.1
          rw [HL.out.1] at hn12
          have hqi2 := HQI.out.2
          rw [HL.out.1] at hqi2
          have HVA := fun W (hb : Below wr.heap.size wr W) => hvalue_any S n c (some ⟨b, off, none⟩) m d ch.base.toNat (.agg #[.string r.name, .bool neg, .slice C cm cc, .slice D dl dd, .slice T sn sc]) k r sz W (hra.on hb) HA.out.one hk2 (by omega) (by omega) (by omega)
          rw [Int.toNat_of_nonneg hb0] at HVA
          generalize hqq : r.base + chg r.steps ch.base.toNat sz = q at HVA
          have HQ0 := Lib.hid hqq
          have HVA := Lib.hid HVA
          have hBa := Below.refl wr.heap.size wr
          have X3 := HX2.out.below hbel
          obtain ⟨x0, x1, x2⟩ := three (HX2.out.below hbel)
          have hxl := (HX2.out.below hbel).lt
          have hxl2 : b ≠ wr.heap.size := by omega
          have HN1 : Hid (some w.heap.size ≠ u7.ownBlock) := fun e => by
            obtain ⟨ts, t1, t2, t3, t4⟩ := hcol
            have := (t3.1.lt _ e.symm).1
            have := HX2.out.lt
            omega
          have hbb : b < w.heap.size := by
            obtain ⟨b', off', e', hlt', _⟩ := HA.out.lies.2.2 (by omega)
            injection e' with e'
            injection e' with e' _
            omega
          have HN2 : Hid (some b ≠ u7.ownBlock) := fun e => by
            obtain ⟨ts, t1, t2, t3, t4⟩ := hcol
            have := (t3.1.lt _ e.symm).1
            have := HX2.out.lt
            omega
          have hw2 : w2.heap.size ≤ wr.heap.size := hbel.size
          obtain ⟨ts, t1, t2, t3, t4⟩ := hcol.below hBa
          have HT := Lib.hid (And.intro t1 (And.intro t2 (And.intro t3 t4)))
          have HBA := Lib.hid hBa
          have HX3 := Lib.hid X3
          have HBL := Lib.hid (hbel.trans (hBa.mono hbel.size))
          have HR := Lib.hid hr
          have i1 : (0 : Int) ≤ (j : Int) := by omega
          have i2 : (j : Int) < (m : Int) := by omega
          clear hqq hr hra B3 X3 hrn hbel hcol t1 t2 t3 t4 hBa
          go_wp2_with fail
          go_region_held3 (fun w' => w'.cell? ⟨w.heap.size, 0, none⟩ = some (.slice S n c) ∧ w'.cell? ⟨w.heap.size, 1, none⟩ = some (.int .i64 ch.base) ∧ w'.cell? ⟨w.heap.size, 2, none⟩ = some (.slice (some ⟨b, off, none⟩) m d) ∧ w'.cell? ⟨b, off + j * 5, none⟩ = some (.string r.name) ∧ w'.cell? ⟨b, off + j * 5 + 1, none⟩ = some (.bool neg) ∧ w'.cell? ⟨b, off + j * 5 + 2, none⟩ = some (.slice C cm cc) ∧ w'.cell? ⟨b, off + j * 5 + 3, none⟩ = some (.slice D dl dd) ∧ w'.cell? ⟨b, off + j * 5 + 4, none⟩ = some (.slice T sn sc))
            (go_keep)
            (first
             | (go_at_call 48; go_must ((go_fit (HVA.out _ HBA.out.drew)); rintro e w4 ⟨A4, n4, c4, B4, m4, d4, rfl, r5, r6, r7, r8, hb4⟩; have HB4 := Lib.hid (HBA.out.drew.trans (hb4.mono HBA.out.size)); have HR4 := Lib.hid (And.intro r5 r7); have hb40 := Lib.hid (show Below wr.heap.size wr w4 from ⟨hb4.os, hb4.tape, hb4.output, hb4.size, hb4.block⟩); obtain ⟨hcl, hfr⟩ := bcell hb40.out; have z0 := (hb40.out.cell (p := ⟨b, off + j * 5, none⟩) hbw).trans g0; have z1 := (hb40.out.cell (p := ⟨b, off + j * 5 + 1, none⟩) hbw).trans g1; have z2 := (hb40.out.cell (p := ⟨b, off + j * 5 + 2, none⟩) hbw).trans g2; have z3 := (hb40.out.cell (p := ⟨b, off + j * 5 + 3, none⟩) hbw).trans g3; have z4 := (hb40.out.cell (p := ⟨b, off + j * 5 + 4, none⟩) hbw).trans g4; clear r5 r7 hb4))
             | ((refine step_meas (by rfl) _ _ (by rfl) w2.heap.size j _ _ (by rfl) (HT.out.2.2.1.below (by exact Below.alo hb40.out _)) w4.heap.size (by rfl) r.name ⟨q, A4, n4, c4, B4, m4, d4⟩ (by exact Blk.new _ _ _) (by omega) (by simp; have := hb40.out.size; omega) ?_); intro v5 w5 ho5 hg5 hn5; have X5 := ((HX3.out.below hb40.out).alloc _).grown hg5 HN1.out; obtain ⟨p0, p1, p2⟩ := three X5; have y0 := hg5.cell (((Below.alo hb40.out _).cell (p := ⟨b, off + j * 5, none⟩) hbw).trans g0) HN2.out; have y1 := hg5.cell (((Below.alo hb40.out _).cell (p := ⟨b, off + j * 5 + 1, none⟩) hbw).trans g1) HN2.out; have y2 := hg5.cell (((Below.alo hb40.out _).cell (p := ⟨b, off + j * 5 + 2, none⟩) hbw).trans g2) HN2.out; have y3 := hg5.cell (((Below.alo hb40.out _).cell (p := ⟨b, off + j * 5 + 3, none⟩) hbw).trans g3) HN2.out; have y4 := hg5.cell (((Below.alo hb40.out _).cell (p := ⟨b, off + j * 5 + 4, none⟩) hbw).trans g4) HN2.out; clear X5))
          go_wp2_with fail
          go_roundw
          case rel =>
            refine ⟨j + 1, by omega, by go_num, colRel.more HR.out ⟨q, A4, n4, c4, B4, m4, d4⟩ (by rw [Int.toNat_natCast]; exact HQ0.out.symm) HT.out.1 HT.out.2.1 (HT.out.2.2.1.below (Below.alo hb40.out _)) (fun p hp => (HT.out.2.2.2 p hp).below (Below.alo hb40.out _)) ⟨HR4.out.1.alo _, r6, HR4.out.2.alo _, r8⟩ ho5 hg5 hn5, ?_⟩
            refine (Below.alo (HBL.out.trans (hb40.out.mono HBL.out.size)) _).grown hg5 (by have := hb40.out.size; simp; omega) fun g e => (HT.out.2.2.1.1.lt _ e).1
          case measure => simp [intOf]; omega
        · obtain rfl : j = m := by omega
          obtain ⟨x0, x1, x2⟩ := three (HX2.out.below hbel)
          obtain ⟨A, cc, rfl, hcc, hme⟩ := hcol.done HL.out.2
          have HM := Lib.hid hme
          have HB := Lib.hid (HB2.out.trans (hbel.mono HB2.out.size))
          clear hcol hme hbel
          go_wp2_with fail
          refine bodyPost_ret (v := .tuple #[.slice A j cc, .int .i64 0]) (by simp [results, Tryz.results20, go_sem]) rfl ?_
          refine ⟨A, j, cc, by rw [HV.out], hcc, ?_, HB.out⟩
          rw [HV.out, if_pos rfl]
          exact HM.out
  · have hE1 : (E != 0) = true := by simpa using hE0
    have HV : Hid (colErr ch size = E) := by rw [Hid, colErr, HE.out, if_pos hE0]
    have HB1 := Lib.hid B1
    clear X1 B1
    go_wp2_with fail
    refine bodyPost_ret (v := .tuple #[.slice none 0 0, .int .i64 E]) (by simp [results, Tryz.results20, go_sem]) rfl ?_
    refine ⟨none, 0, 0, by rw [HV.out], Nat.le_refl _, ?_, HB1.out⟩
    rw [HV.out, if_neg hE0]
    exact MeasA.nil _ _
end Go.Proofs.YtjiccijfbpkliaaGreatDoor

/- The laws ChartValues and ChartChanges return true. Conditions: Std; the chart's data lie in memory. -/
namespace Go.Proofs.YtjiccijfbpkliaaGreatDoor
open Go.RowKit
open Go.Lib hiding intOf

section
variable {ch : PChart} {k : Nat}
theorem chg_small {s : List Rat} (hk : 1 ≤ k) (hk2 : k ≤ 20) (h : ∀ q ∈ s, qk q k) {a b : Nat} (ha : a ≤ 12) (hb : b ≤ 12) : qk (chg s a b) 1000 := by
  refine (qk_chg hk (fun j q hq => h q (List.mem_of_getElem? hq)) a b).mono ?_
  have h1 : (k + 1) * (b + 1) ≤ 21 * 13 := Nat.mul_le_mul (by omega) (by omega)
  have h2 : (k + 1) * (a + 1) ≤ 21 * 13 := Nat.mul_le_mul (by omega) (by omega)
  omega
theorem val_small {r : PRow} (hk : 1 ≤ k) (hk2 : k ≤ 20) (hb : qk r.base k) (h : ∀ q ∈ r.steps, qk q k) {i : Nat} (h1 : ch.base.toNat ≤ 12) (h2 : i ≤ 12) : qk (valueP ch r i) 2000 := by
  unfold valueP
  exact (qk_add hb (chg_small hk hk2 h h1 h2)).mono (by omega)
theorem val_qk (hk : 1 ≤ k) (hk2 : k ≤ 20) (hq : ∀ r ∈ ch.rows, qk r.base k ∧ ∀ q ∈ r.steps, qk q k) {i z : Int} (h : valErr ch i z = 0) : qk (valOf ch i z) 2000 := by
  unfold valErr at h
  split at h
  · exact absurd h (by assumption)
  · rename_i hc
    have hc : chkP ch = 0 := by simpa using hc
    split at h
    · cases h
    · rename_i hi
      have hi := isIdx_iff.1 (by simpa using hi : isIdx ch i = true)
      obtain ⟨h1, _, _, _, _, b0, b1⟩ := chk_zero hc
      unfold valOf
      cases hr : ch.rows[z.toNat]? with
      | none => exact qk_zero.mono (by omega)
      | some r =>
        have hm := List.mem_of_getElem? hr
        exact val_small hk hk2 (hq r hm).1 (hq r hm).2 (by omega) (by omega)
theorem chg_qk (hk : 1 ≤ k) (hk2 : k ≤ 20) (hq : ∀ r ∈ ch.rows, qk r.base k ∧ ∀ q ∈ r.steps, qk q k) {a b z : Int} (h : chgErr ch a b z = 0) : qk (chgOf ch a b z) 2000 := by
  unfold chgErr at h
  split at h
  · exact absurd h (by assumption)
  · rename_i hc
    have hc : chkP ch = 0 := by simpa using hc
    split at h
    · cases h
    · rename_i hi
      have ha := isIdx_iff.1 (by cases e : isIdx ch a; exact absurd (.inl e) hi; rfl : isIdx ch a = true)
      have hb := isIdx_iff.1 (by cases e : isIdx ch b; exact absurd (.inr e) hi; rfl : isIdx ch b = true)
      obtain ⟨h1, _⟩ := chk_zero hc
      unfold chgOf
      cases hr : ch.rows[z.toNat]? with
      | none => exact qk_zero.mono (by omega)
      | some r => exact (chg_small hk hk2 (hq r (List.mem_of_getElem? hr)).2 (by omega) (by omega)).mono (by omega)
theorem col_qk (hk : 1 ≤ k) (hk2 : k ≤ 20) (hq : ∀ r ∈ ch.rows, qk r.base k ∧ ∀ q ∈ r.steps, qk q k) {i : Int} (h : colErr ch i = 0) : ∀ p ∈ colOf ch i, qk p.2 2000 := by
  unfold colErr at h
  split at h
  · exact absurd h (by assumption)
  · rename_i hc
    have hc : chkP ch = 0 := by simpa using hc
    split at h
    · cases h
    · rename_i hi
      have hi := isIdx_iff.1 (by simpa using hi : isIdx ch i = true)
      obtain ⟨h1, _, _, _, _, b0, b1⟩ := chk_zero hc
      intro p hp
      unfold colOf at hp
      obtain ⟨r, hr, rfl⟩ := List.mem_map.1 hp
      exact val_small hk hk2 (hq r hr).1 (hq r hr).2 (by omega) (by omega)
end
/-- Two results for the same number and error are the same. -/
theorem same_two {err : Int} {q : Rat} {w : World} {b : Bool} {A : Option Addr} {n c : Nat} {B : Option Addr} {m d : Nat} {l1 l2 : List Nat} {b' : Bool} {A' : Option Addr} {n' c' : Nat} {B' : Option Addr} {m' d' : Nat} {l1' l2' : List Nat}
    (h1 : LiesA w (.agg #[.bool b, .slice A n c, .slice B m d]) b l1 l2) (e1 : b = (if err = 0 then ineg q.num else false) ∧ l1 = (if err = 0 then limbs q.num.natAbs else []) ∧ l2 = (if err = 0 then limbs q.den else []))
    (h2 : LiesA w (.agg #[.bool b', .slice A' n' c', .slice B' m' d']) b' l1' l2') (e2 : b' = (if err = 0 then ineg q.num else false) ∧ l1' = (if err = 0 then limbs q.num.natAbs else []) ∧ l2' = (if err = 0 then limbs q.den else [])) :
    Calls Tryz.prog 21 #[.agg #[.bool b, .slice A n c, .slice B m d], .agg #[.bool b', .slice A' n' c', .slice B' m' d']] w fun e w' => e = .returned (.bool true) ∧ Below w.heap.size w w' := by
  obtain ⟨a1, a2, a3⟩ := e1
  obtain ⟨c1, c2, c3⟩ := e2
  rw [← c1] at a1
  rw [← c2] at a2
  rw [← c3] at a3
  subst a1
  subst a2
  subst a3
  exact same_true _ _ _ _ _ w h1 h2
theorem LiesA.flat {w : World} {b : Bool} {A : Option Addr} {n c : Nat} {B : Option Addr} {m d : Nat} {l1 l2 : List Nat} {w' : World} (h : LiesA w (.agg #[.bool b, .slice A n c, .slice B m d]) b l1 l2) (hb : Below w.heap.size w w') : LiesA w' (.agg #[.bool b, .slice A n c, .slice B m d]) b l1 l2 := h.on hb

set_option maxRecDepth 100000 in
set_option maxHeartbeats 6400000 in
theorem chartChanges_walk (S : Option Addr) (n c : Nat) (R : Option Addr) (m d k : Nat) (ch : PChart) (fr to_ : Int) (x : ByteArray) (w : World) (hw : Std w) (h : LgtA w S n c R m d k ch) :
    Calls Tryz.prog 5 #[.agg #[.slice S n c, .int .i64 ch.base, .slice R m d], .agg #[.int .i64 fr, .int .i64 to_], .string x] w (RetLaw w) := by
  have hB : Below w.heap.size w ((w.alloc (.cells #[.slice S n c, .int .i64 ch.base, .slice R m d] 25)).alloc (.cells #[.int .i64 fr, .int .i64 to_] 46)) := Below.alo (Below.alo (Below.refl _ _) _) _
  have HX := Lib.hid ((Blk.new w 25 #[.slice S n c, .int .i64 ch.base, .slice R m d]).alloc (.cells #[.int .i64 fr, .int .i64 to_] 46))
  have HY : Hid (Blk ((w.alloc (.cells #[.slice S n c, .int .i64 ch.base, .slice R m d] 25)).alloc (.cells #[.int .i64 fr, .int .i64 to_] 46)) (w.heap.size + 1) 46 #[.int .i64 fr, .int .i64 to_]) := Blk.new' _ _ _ (by simp)
  have HL := Lib.hid (light_any S n c R m d k 4 ch _ (h.on hB) (by omega) (by omega))
  have HB := Lib.hid hB
  have HW := Lib.hid hw
  clear hB h hw
  go_enter Tryz.func5, Tryz.ntmps5
  go_wp2_with fail
  go_fit HL.out
  rintro e w1 ⟨bb, rfl, hA, hiff, hb1⟩
  clear hiff
  have HB1 := Lib.hid (HB.out.trans (hb1.mono HB.out.size))
  have HE := Lib.hid (example_any _ (HW.out.below HB1.out))
  cases bb
  · clear hA hb1
    go_wp2_with fail
    go_fit HE.out
    rintro e w2 ⟨rfl, hb2⟩
    go_wp2_with fail
    go_ret
    exact ⟨rfl, HB1.out.trans (hb2.mono HB1.out.size)⟩
  by_cases hx : 100 < x.size
  · have hx2 : (100 : Int) < (x.size : Int) := by omega
    clear hA hb1
    go_wp2_with fail
    go_fit HE.out
    rintro e w2 ⟨rfl, hb2⟩
    go_wp2_with fail
    go_ret
    exact ⟨rfl, HB1.out.trans (hb2.mono HB1.out.size)⟩
  have hx2 : ¬ (100 : Int) < (x.size : Int) := by omega
  have hA0 := (hA rfl).1
  have hqs := hA0.lies.2.qks hA0.one
  have HA1 := Lib.hid (hA0.on hb1)
  have X1 := HX.out.below hb1
  have Y1 := HY.out.below hb1
  have HX1 := Lib.hid X1
  have HY1 := Lib.hid Y1
  obtain ⟨x0, x1, x2⟩ := three X1
  have y0 := Y1.c (i := 0) rfl
  have y1 := Y1.c (i := 1) rfl
  obtain ⟨z, hz⟩ := Found.ex ch.rows x
  have HQK := Lib.hid (fun h => chg_qk (k := 4) (by omega) (by omega) hqs (a := fr) (b := to_) (z := z) h)
  have HV1 := Lib.hid (Change_any S n c R m d 4 ch fr to_ x w1 HA1.out (by omega))
  have HV2 := Lib.hid (fun W (hb : Below w1.heap.size w1 W) => hChange_any S n c R m d 4 ch fr to_ x W (HA1.out.on hb) (by omega))
  have HZ := Lib.hid hz
  clear hA hA0 hqs hb1 X1 Y1 hz HE HX HY
  go_wp2_with fail
  go_fit HV1.out
  rintro e w2 ⟨z1, hz1, hr1⟩
  obtain rfl : z1 = z := hz1.uniq HZ.out
  obtain ⟨b2, A2, n2, c2, B2, m2, d2, l1, l2, rfl, hl2, he2, hb2⟩ := hr1.lies HQK.out (by omega)
  have hal := (Below.refl w2.heap.size w2).alloc (Nat.le_refl _) (.cells #[.bool b2, .slice A2 n2 c2, .slice B2 m2 d2] 36)
  have hbb := hb2.trans (hal.mono hb2.size)
  have HB2 := Lib.hid (HB1.out.trans (hbb.mono HB1.out.size))
  have HB12 := Lib.hid hbb
  have X2 := HX1.out.below hbb
  have Y2 := HY1.out.below hbb
  have HZ2 := Lib.hid (Blk.new w2 36 #[.bool b2, .slice A2 n2 c2, .slice B2 m2 d2])
  have HL2 := Lib.hid (And.intro (hl2.on hal) he2)
  have HV3 := Lib.hid (HV2.out _ hbb)
  obtain ⟨x0, x1, x2⟩ := three X2
  have y0 := Y2.c (i := 0) rfl
  have y1 := Y2.c (i := 1) rfl
  clear hz1 hr1 hl2 he2 hb2 hal hbb X2 Y2 HV1 HV2 HX1 HY1
  go_wp2_with fail
  go_fit HV3.out
  rintro e w3 ⟨z3, hz3, hr3⟩
  obtain rfl : z3 = z1 := hz3.uniq HZ.out
  obtain ⟨b3, A3, n3, c3, B3, m3, d3, l3, l4, rfl, hl3, he3, hb3⟩ := hr3.lies HQK.out (by omega)
  have hal := (Below.refl w3.heap.size w3).alloc (Nat.le_refl _) (.cells #[.bool b3, .slice A3 n3 c3, .slice B3 m3 d3] 36)
  have hbb := hb3.trans (hal.mono hb3.size)
  have HB3 := Lib.hid (HB2.out.trans (hbb.mono HB2.out.size))
  have Z3 := HZ2.out.below hbb
  have V3 := Blk.new w3 36 #[.bool b3, .slice A3 n3 c3, .slice B3 m3 d3]
  have HSa := Lib.hid (same_two (HL2.out.1.on hbb) HL2.out.2 (hl3.on hal) he3)
  obtain ⟨v0, v1, v2⟩ := three Z3
  obtain ⟨t0, t1, t2⟩ := three V3
  generalize chgErr ch fr to_ z3 = E at *
  have hee : (E == E) = true := by simp
  clear hz3 hr3 hl3 he3 hb3 hal hbb Z3 V3 HV3 HL2 HZ2 HQK x0 x1 x2 y0 y1
  go_wp2_with fail
  go_fit HSa.out
  rintro e w4 ⟨rfl, hb4⟩
  have HB4 := Lib.hid (HB3.out.trans (hb4.mono HB3.out.size))
  have HE := Lib.hid (example_any _ (HW.out.below HB4.out))
  clear hb4
  go_wp2_with fail
  go_fit HE.out
  rintro e w5 ⟨rfl, hb5⟩
  go_wp2_with fail
  go_ret
  exact ⟨rfl, HB4.out.trans (hb5.mono HB4.out.size)⟩
end Go.Proofs.YtjiccijfbpkliaaGreatDoor

/- The law ChartValues returns true. Conditions: Std; the chart's data lie in memory. -/
namespace Go.Proofs.YtjiccijfbpkliaaGreatDoor
open Go.RowKit
open Go.Lib hiding intOf

set_option maxRecDepth 100000 in
set_option maxHeartbeats 6400000 in
theorem chartValues_walk (S : Option Addr) (n c : Nat) (R : Option Addr) (m d k : Nat) (ch : PChart) (sz : Int) (x : ByteArray) (w : World) (hw : Std w) (h : LgtA w S n c R m d k ch) :
    Calls Tryz.prog 4 #[.agg #[.slice S n c, .int .i64 ch.base, .slice R m d], .int .i64 sz, .string x] w (RetLaw w) := by
  have hB : Below w.heap.size w (w.alloc (.cells #[.slice S n c, .int .i64 ch.base, .slice R m d] 25)) := Below.alo (Below.refl _ _) _
  have HX := Lib.hid (Blk.new w 25 #[.slice S n c, .int .i64 ch.base, .slice R m d])
  have HL := Lib.hid (light_any S n c R m d k 4 ch _ (h.on hB) (by omega) (by omega))
  have HB := Lib.hid hB
  have HW := Lib.hid hw
  clear hB h hw
  go_enter Tryz.func4, Tryz.ntmps4
  go_wp2_with fail
  go_fit HL.out
  rintro e w1 ⟨bb, rfl, hA, hiff, hb1⟩
  clear hiff
  have HB1 := Lib.hid (HB.out.trans (hb1.mono HB.out.size))
  have HE := Lib.hid (example_any _ (HW.out.below HB1.out))
  cases bb
  · clear hA hb1
    go_wp2_with fail
    go_fit HE.out
    rintro e w2 ⟨rfl, hb2⟩
    go_wp2_with fail
    go_ret
    exact ⟨rfl, HB1.out.trans (hb2.mono HB1.out.size)⟩
  by_cases hx : 100 < x.size
  · have hx2 : (100 : Int) < (x.size : Int) := by omega
    clear hA hb1
    go_wp2_with fail
    go_fit HE.out
    rintro e w2 ⟨rfl, hb2⟩
    go_wp2_with fail
    go_ret
    exact ⟨rfl, HB1.out.trans (hb2.mono HB1.out.size)⟩
  have hx2 : ¬ (100 : Int) < (x.size : Int) := by omega
  have hA0 := (hA rfl).1
  have hqs := hA0.lies.2.qks hA0.one
  have HA1 := Lib.hid (hA0.on hb1)
  have X1 := HX.out.below hb1
  have HX1 := Lib.hid X1
  obtain ⟨x0, x1, x2⟩ := three X1
  obtain ⟨z, hz⟩ := Found.ex ch.rows x
  have HQK := Lib.hid (fun h => val_qk (k := 4) (by omega) (by omega) hqs (i := sz) (z := z) h)
  have HCQ := Lib.hid (fun h => col_qk (k := 4) (by omega) (by omega) hqs (i := sz) h)
  have HV1 := Lib.hid (Value_any S n c R m d 4 ch sz x w1 HA1.out (by omega))
  have HV2 := Lib.hid (fun W (hb : Below w1.heap.size w1 W) => hValue_any S n c R m d 4 ch sz x W (HA1.out.on hb) (by omega))
  have HZ := Lib.hid hz
  have HRL : Hid (ch.rows.length ≤ 100000) := by rw [Hid, hA0.rlen]; exact hA0.lenr
  clear hA hA0 hqs hb1 X1 hz HE HX
  go_wp2_with fail
  go_fit HV1.out
  rintro e w2 ⟨z1, hz1, hr1⟩
  obtain rfl : z1 = z := hz1.uniq HZ.out
  obtain ⟨b2, A2, n2, c2, B2, m2, d2, l1, l2, rfl, hl2, he2, hb2⟩ := hr1.lies HQK.out (by omega)
  have hal := (Below.refl w2.heap.size w2).alloc (Nat.le_refl _) (.cells #[.bool b2, .slice A2 n2 c2, .slice B2 m2 d2] 36)
  have hbb := hb2.trans (hal.mono hb2.size)
  have HB2 := Lib.hid (HB1.out.trans (hbb.mono HB1.out.size))
  have HB12 := Lib.hid hbb
  have X2 := HX1.out.below hbb
  have HZ2 := Lib.hid (Blk.new w2 36 #[.bool b2, .slice A2 n2 c2, .slice B2 m2 d2])
  have HL2 := Lib.hid (And.intro (hl2.on hal) he2)
  have HV3 := Lib.hid (HV2.out _ hbb)
  have HX2 := Lib.hid X2
  have HA2 := Lib.hid (HA1.out.on hbb)
  obtain ⟨x0, x1, x2⟩ := three X2
  clear hz1 hr1 hl2 he2 hb2 hal hbb X2 HV1 HV2 HX1 HA1
  go_wp2_with fail
  go_fit HV3.out
  rintro e w3 ⟨z3, hz3, hr3⟩
  obtain rfl : z3 = z1 := hz3.uniq HZ.out
  obtain ⟨b3, A3, n3, c3, B3, m3, d3, l3, l4, rfl, hl3, he3, hb3⟩ := hr3.lies HQK.out (by omega)
  have hal := (Below.refl w3.heap.size w3).alloc (Nat.le_refl _) (.cells #[.bool b3, .slice A3 n3 c3, .slice B3 m3 d3] 36)
  have hbb := hb3.trans (hal.mono hb3.size)
  have HB3 := Lib.hid (HB2.out.trans (hbb.mono HB2.out.size))
  have X3 := HX2.out.below hbb
  have HX3 := Lib.hid X3
  have HA3 := Lib.hid (HA2.out.on hbb)
  have HZ3 := Lib.hid (HZ2.out.below hbb)
  have HT3 := Lib.hid (Blk.new w3 36 #[.bool b3, .slice A3 n3 c3, .slice B3 m3 d3])
  have HL3 := Lib.hid (And.intro (HL2.out.1.on hbb) HL2.out.2)
  have HM3 := Lib.hid (And.intro (hl3.on hal) he3)
  obtain ⟨x0, x1, x2⟩ := three X3
  have HC1 := Column_any S n c R m d 4 ch sz _ HA3.out (by omega)
  have HC2 := Lib.hid (fun W hb => hColumn_any S n c R m d 4 ch sz W (HA3.out.on hb) (by omega))
  unfold RetCol at HC1
  have HC1 := Lib.hid HC1
  clear hz3 hr3 hl3 he3 hb3 hal hbb X3 HV3 HL2 HZ2 HQK HX2 HA2
  go_wp2_with fail
  go_fit HC1.out
  rintro e w4 ⟨A4, n4, c4, rfl, l4', hm4, hb4⟩
  have HB4 := Lib.hid (HB3.out.trans (hb4.mono HB3.out.size))
  have X4 := HX3.out.below hb4
  have HZ4 := Lib.hid (HZ3.out.below hb4)
  have HT4 := Lib.hid (HT3.out.below hb4)
  have HL4 := Lib.hid (And.intro (HL3.out.1.on hb4) HL3.out.2)
  have HM4 := Lib.hid (And.intro (HM3.out.1.on hb4) HM3.out.2)
  have HME4 := Lib.hid hm4
  obtain ⟨x0, x1, x2⟩ := three X4
  have HC3 := HC2.out _ hb4
  unfold RetCol at HC3
  have HC3 := Lib.hid HC3
  clear hb4 X4 hm4 HC1 HC2 HX3 HA3 HZ3 HT3 HL3 HM3
  go_wp2_with fail
  go_fit HC3.out
  rintro e w5 ⟨A5, n5, c5, rfl, l5', hm5, hb5⟩
  have HB5 := Lib.hid (HB4.out.trans (hb5.mono HB4.out.size))
  have HSa := Lib.hid (same_two (HL4.out.1.on hb5) HL4.out.2 (HM4.out.1.on hb5) HM4.out.2)
  have HME := Lib.hid (And.intro (HME4.out.on hb5) hm5)
  obtain rfl : n4 = n5 := HME4.out.len.symm.trans hm5.len
  have HCQ2 : Hid (∀ (j : Nat) (p : ByteArray × Rat), (if colErr ch sz = 0 then colOf ch sz else [])[j]? = some p → qk p.2 100000) := by
    intro j p hp
    by_cases h0 : colErr ch sz = 0
    · rw [if_pos h0] at hp
      exact (HCQ.out h0 p (List.mem_of_getElem? hp)).mono (by omega)
    · rw [if_neg h0] at hp
      simp at hp
  have hn4 : n4 ≤ 1000000 := by
    rw [← hm5.len]
    by_cases h0 : colErr ch sz = 0
    · rw [if_pos h0, colOf, List.length_map]
      have := HRL.out
      omega
    · rw [if_neg h0]
      simp
  obtain ⟨v0, v1, v2⟩ := three (HZ4.out.below hb5)
  obtain ⟨t0, t1, t2⟩ := three (HT4.out.below hb5)
  generalize (if colErr ch sz = 0 then colOf ch sz else []) = ms at *
  generalize valErr ch sz z3 = E at *
  generalize colErr ch sz = F at *
  have hee : (E == E) = true := by simp
  have hff : (F == F) = true := by simp
  clear hm5 hb5 HZ4 HT4 HL4 HM4 HME4 HC3 HCQ x0 x1 x2
  go_wp2_with fail
  go_fit HSa.out
  rintro e w6 ⟨rfl, hb6⟩
  have HB6 := Lib.hid (HB5.out.trans (hb6.mono HB5.out.size))
  have HSm := Lib.hid (samem_true A4 n4 c4 A5 c5 ms w6 (HME.out.1.on hb6) (HME.out.2.on hb6) HCQ2.out hn4)
  clear hb6
  go_wp2_with fail
  go_fit HSm.out
  rintro e w7 ⟨rfl, hb7⟩
  have HB7 := Lib.hid (HB6.out.trans (hb7.mono HB6.out.size))
  have HE := Lib.hid (example_any _ (HW.out.below HB7.out))
  clear hb7
  go_wp2_with fail
  go_fit HE.out
  rintro e w8 ⟨rfl, hb8⟩
  go_wp2_with fail
  go_ret
  exact ⟨rfl, HB7.out.trans (hb8.mono HB7.out.size)⟩
end Go.Proofs.YtjiccijfbpkliaaGreatDoor
