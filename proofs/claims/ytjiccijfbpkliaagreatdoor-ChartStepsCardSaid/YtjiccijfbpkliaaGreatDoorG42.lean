/-
  Several texts in one: The law ChartSteps returns true. Conditions: Std; the chart's data lie in memory.
-/
import Derived.Test.YtjiccijfbpkliaaGreatDoorG38

/- The law ChartSteps returns true. Conditions: Std; the chart's data lie in memory. -/
namespace Go.Proofs.YtjiccijfbpkliaaGreatDoor
open Go.RowKit
open Go.Lib hiding intOf
attribute [local go_sem ↓] Go.wp_at_zero Go.wp_at_succ

theorem keep13 {w w' : World} {b g h x o : Nat} {v0 v1 v2 v3 v4 v5 v6 v7 v8 v9 va vb : Value} (H : b < w.heap.size ∧ g < w.heap.size ∧ h < w.heap.size ∧ x < w.heap.size ∧ w.cell? ⟨b, o, none⟩ = some v0 ∧ w.cell? ⟨b, o + 1, none⟩ = some v1 ∧ w.cell? ⟨b, o + 2, none⟩ = some v2 ∧ w.cell? ⟨b, o + 3, none⟩ = some v3 ∧ w.cell? ⟨g, 0, none⟩ = some v4 ∧ w.cell? ⟨g, 1, none⟩ = some v5 ∧ w.cell? ⟨g, 2, none⟩ = some v6 ∧ w.cell? ⟨g, 3, none⟩ = some v7 ∧ w.cell? ⟨h, 0, none⟩ = some v8 ∧ w.cell? ⟨h, 1, none⟩ = some v9 ∧ w.cell? ⟨h, 2, none⟩ = some va ∧ w.cell? ⟨x, 1, none⟩ = some vb) (hb : Below w.heap.size w w') :
    w'.cell? ⟨b, o, none⟩ = some v0 ∧ w'.cell? ⟨b, o + 1, none⟩ = some v1 ∧ w'.cell? ⟨b, o + 2, none⟩ = some v2 ∧ w'.cell? ⟨b, o + 3, none⟩ = some v3 ∧ w'.cell? ⟨g, 0, none⟩ = some v4 ∧ w'.cell? ⟨g, 1, none⟩ = some v5 ∧ w'.cell? ⟨g, 2, none⟩ = some v6 ∧ w'.cell? ⟨g, 3, none⟩ = some v7 ∧ w'.cell? ⟨h, 0, none⟩ = some v8 ∧ w'.cell? ⟨h, 1, none⟩ = some v9 ∧ w'.cell? ⟨h, 2, none⟩ = some va ∧ w'.cell? ⟨x, 1, none⟩ = some vb := by
  obtain ⟨l0, l1, l2, l3, h0, h1, h2, h3, h4, h5, h6, h7, h8, h9, ha, hc⟩ := H
  exact ⟨(hb.cell (p := ⟨b, o, none⟩) l0).trans h0, (hb.cell (p := ⟨b, o + 1, none⟩) l0).trans h1, (hb.cell (p := ⟨b, o + 2, none⟩) l0).trans h2, (hb.cell (p := ⟨b, o + 3, none⟩) l0).trans h3, (hb.cell (p := ⟨g, 0, none⟩) l1).trans h4, (hb.cell (p := ⟨g, 1, none⟩) l1).trans h5, (hb.cell (p := ⟨g, 2, none⟩) l1).trans h6, (hb.cell (p := ⟨g, 3, none⟩) l1).trans h7, (hb.cell (p := ⟨h, 0, none⟩) l2).trans h8, (hb.cell (p := ⟨h, 1, none⟩) l2).trans h9, (hb.cell (p := ⟨h, 2, none⟩) l2).trans ha, (hb.cell (p := ⟨x, 1, none⟩) l3).trans hc⟩
theorem keep17 {w w' : World} {b g h x o : Nat} {v0 v1 v2 v3 v4 v5 v6 v7 v8 v9 : Value} (H : g < w.heap.size ∧ h < w.heap.size ∧ x < w.heap.size ∧ b < w.heap.size ∧ w.cell? ⟨g, 0, none⟩ = some v0 ∧ w.cell? ⟨g, 1, none⟩ = some v1 ∧ w.cell? ⟨g, 2, none⟩ = some v2 ∧ w.cell? ⟨h, 0, none⟩ = some v3 ∧ w.cell? ⟨h, 1, none⟩ = some v4 ∧ w.cell? ⟨h, 2, none⟩ = some v5 ∧ w.cell? ⟨x, 4, none⟩ = some v6 ∧ w.cell? ⟨b, o, none⟩ = some v7 ∧ w.cell? ⟨b, o + 1, none⟩ = some v8 ∧ w.cell? ⟨b, o + 2, none⟩ = some v9) (hb : Below w.heap.size w w') :
    w'.cell? ⟨g, 0, none⟩ = some v0 ∧ w'.cell? ⟨g, 1, none⟩ = some v1 ∧ w'.cell? ⟨g, 2, none⟩ = some v2 ∧ w'.cell? ⟨h, 0, none⟩ = some v3 ∧ w'.cell? ⟨h, 1, none⟩ = some v4 ∧ w'.cell? ⟨h, 2, none⟩ = some v5 ∧ w'.cell? ⟨x, 4, none⟩ = some v6 ∧ w'.cell? ⟨b, o, none⟩ = some v7 ∧ w'.cell? ⟨b, o + 1, none⟩ = some v8 ∧ w'.cell? ⟨b, o + 2, none⟩ = some v9 := by
  obtain ⟨l0, l1, l2, l3, h0, h1, h2, h3, h4, h5, h6, h7, h8, h9⟩ := H
  exact ⟨(hb.cell (p := ⟨g, 0, none⟩) l0).trans h0, (hb.cell (p := ⟨g, 1, none⟩) l0).trans h1, (hb.cell (p := ⟨g, 2, none⟩) l0).trans h2, (hb.cell (p := ⟨h, 0, none⟩) l1).trans h3, (hb.cell (p := ⟨h, 1, none⟩) l1).trans h4, (hb.cell (p := ⟨h, 2, none⟩) l1).trans h5, (hb.cell (p := ⟨x, 4, none⟩) l2).trans h6, (hb.cell (p := ⟨b, o, none⟩) l3).trans h7, (hb.cell (p := ⟨b, o + 1, none⟩) l3).trans h8, (hb.cell (p := ⟨b, o + 2, none⟩) l3).trans h9⟩

set_option maxRecDepth 100000 in
set_option maxHeartbeats 40000000 in
theorem chartSteps_walk (S : Option Addr) (n c : Nat) (R : Option Addr) (m d k : Nat) (ch : PChart) (w : World) (hw : Std w) (h : LgtA w S n c R m d k ch) :
    Calls Tryz.prog 12 #[.agg #[.slice S n c, .int .i64 ch.base, .slice R m d]] w (RetLaw w) := by
  have hB : Below w.heap.size w (w.alloc (.cells #[.slice S n c, .int .i64 ch.base, .slice R m d] 25)) := Below.alo (Below.refl _ _) _
  have HX := Lib.hid (Blk.new w 25 #[.slice S n c, .int .i64 ch.base, .slice R m d])
  have HL := Lib.hid (light_any S n c R m d k 4 ch _ (h.on hB) (by omega) (by omega))
  have HB := Lib.hid hB
  have HW := Lib.hid hw
  clear hB h hw
  go_enter Tryz.func12, Tryz.ntmps12
  go_wp2_with fail
  go_fit HL.out
  rintro e w1 ⟨bb, rfl, hA, hiff, hb1⟩
  clear hiff
  have HB1 := Lib.hid (HB.out.trans (hb1.mono HB.out.size))
  cases bb
  · have HE := Lib.hid (example_any _ (HW.out.below HB1.out))
    clear hA hb1
    go_wp2_with fail
    go_fit HE.out
    rintro e w2 ⟨rfl, hb2⟩
    go_wp2_with fail
    go_ret
    exact ⟨rfl, HB1.out.trans (hb2.mono HB1.out.size)⟩
  have hA0 := (hA rfl).1
  have hqs := hA0.lies.2.qks hA0.one
  have HA1 := Lib.hid (hA0.on hb1)
  have X1 := HX.out.below hb1
  have HX1 := Lib.hid X1
  obtain ⟨x0, x1, x2⟩ := three X1
  have HQS := Lib.hid hqs
  have HSL := Lib.hid hA0.slen
  obtain ⟨E, hE⟩ : ∃ E, chkP ch = E := ⟨_, rfl⟩
  have HCk := hcheck_any S n c R m d 4 ch w1 HA1.out
  rw [hE] at HCk
  have HCk := Lib.hid HCk
  have HEE := Lib.hid hE
  clear hA hA0 hqs hb1 X1 HX hE
  go_wp2_with fail
  go_fit HCk.out
  rintro e w2 ⟨rfl, hb2⟩
  have HB2 := Lib.hid (HB1.out.trans (hb2.mono HB1.out.size))
  have X2 := HX1.out.below hb2
  have HX2 := Lib.hid X2
  have HA2 := Lib.hid (HA1.out.on hb2)
  obtain ⟨x0, x1, x2⟩ := three X2
  clear hb2 X2 HX1 HA1 HCk
  by_cases hE0 : E ≠ 0
  · have hE1 : (E != 0) = true := by simpa using hE0
    have HE := Lib.hid (example_any _ (HW.out.below HB2.out))
    go_wp2_with fail
    go_fit HE.out
    rintro e w3 ⟨rfl, hb3⟩
    go_wp2_with fail
    go_ret
    exact ⟨rfl, HB2.out.trans (hb3.mono HB2.out.size)⟩
  have hE0 : E = 0 := by omega
  subst hE0
  have m1 := HA2.out.lenr
  have n1 := HA2.out.len
  go_wp2_with fail
  go_loopw [24] (fun s wr => ∃ i : Nat, i ≤ n ∧ s = .int .i64 (i : Int) ∧ Below w2.heap.size w2 wr) (fun s _ => n - (intOf s).toNat)
  case atStart => exact ⟨0, Nat.zero_le _, rfl, Below.refl _ _⟩
  case round =>
    obtain ⟨i, hi, rfl, hbel⟩ := hrel
    clear x0 x1 x2
    obtain ⟨wo, rfl⟩ : ∃ wo : World, wo = wr := ⟨_, rfl⟩
    by_cases hlt : i < n
    · have HI : Hid (isIdx ch (i : Int) = true) := isIdx_of HSL.out (by omega) (by omega)
      obtain ⟨ms, hms⟩ : ∃ ms, colOf ch (i : Int) = ms := ⟨_, rfl⟩
      have HMS := Lib.hid hms
      have HC := Lib.hid (column_ok (i : Int) (HA2.out.on hbel) (by omega) HEE.out HI.out hms)
      obtain ⟨x0, x1, x2⟩ := three (HX2.out.below hbel)
      have HBE := Lib.hid hbel
      clear hms hbel
      go_wp2_with fail
      go_fit HC.out
      rintro e w3 ⟨A3, c3, rfl, hc3, hme, hb3⟩
      have HL3 := Lib.hid (HBE.out.trans (hb3.mono HBE.out.size))
      have HME := Lib.hid hme
      obtain ⟨x0, x1, x2⟩ := three (HX2.out.below HL3.out)
      clear hme hb3 HC
      go_wp2_with fail
      go_loopw [46] (fun s wr => ∃ j : Nat, j ≤ m ∧ s = .int .i64 (j : Int) ∧ Below w3.heap.size w3 wr) (fun s _ => m - (intOf s).toNat)
      case atStart => exact ⟨0, Nat.zero_le _, rfl, Below.refl _ _⟩
      case round =>
        obtain ⟨j, hj, rfl, hbl⟩ := hrel
        clear x0 x1 x2
        have HLr := Lib.hid (HL3.out.trans (hbl.mono HL3.out.size))
        by_cases hlt1 : j < m
        · obtain ⟨b, off, r, neg, C, cm, cc, D, dl, dd, T, sn, sc, rfl, hbw, hr, f0, f1, f2, f3, f4, hba, hsa, hsc⟩ := (HA2.out.lies.2.on HLr.out).at_ hlt1
          have hsn : sn = n := by
            rw [← hsa.len, row_len (chk_zero HEE.out).2.2.1 hr]
            exact HSL.out
          have HSN := Lib.hid hsn
          clear hsn
          obtain ⟨qv, hqv⟩ : ∃ q, valueP ch r (i : Int).toNat = q := ⟨_, rfl⟩
          have hcol := col_at (ch := ch) (i := (i : Int)) hr
          rw [HMS.out, hqv] at hcol
          have HCOL := Lib.hid hcol
          have HK : Hid (qk qv 2000) := by
            rw [Hid, ← hqv]
            exact row_val (by omega) (by omega) HQS.out HEE.out hr HI.out
          have HR := Lib.hid hr
          have HQV := Lib.hid hqv
          have HBA := Lib.hid (And.intro hba hsa)
          have hal := (Below.refl wr.heap.size wr).alloc (Nat.le_refl _) (.cells #[.string r.name, .bool neg, .slice C cm cc, .slice D dl dd, .slice T sn sc] 57)
          have HLa := Lib.hid (HLr.out.trans (hal.mono HLr.out.size))
          have HMa := Lib.hid (hbl.trans (hal.mono hbl.size))
          have HRa := Lib.hid hal
          have HZ := Lib.hid (Blk.new wr 57 #[.string r.name, .bool neg, .slice C cm cc, .slice D dl dd, .slice T sn sc])
          have HV := Lib.hid (value_ok (i : Int) (HA2.out.on HLa.out) (by omega) HEE.out HR.out HI.out HQV.out)
          obtain ⟨x0, x1, x2⟩ := three (HX2.out.below HLr.out)
          have hxl := (HX2.out.below HLr.out).lt
          have i1 : (0 : Int) ≤ (j : Int) := by omega
          have i2 : (j : Int) < (m : Int) := by omega
          clear hr hqv hba hsa hcol hal hbl
          go_wp2_with fail
          go_fit HV.out
          rintro e w5 ⟨A5, n5, c5, B5, m5, d5, rfl, hok, hb⟩
          have hal := (Below.refl w5.heap.size w5).alloc (Nat.le_refl _) (.cells #[.bool (ineg qv.num), .slice A5 n5 c5, .slice B5 m5 d5] 36)
          have hbb := hb.trans (hal.mono hb.size)
          have HL5 := Lib.hid (HLa.out.trans (hbb.mono HLa.out.size))
          have HM5 := Lib.hid (HMa.out.trans (hbb.mono HMa.out.size))
          have HR5 := Lib.hid (HRa.out.trans (hbb.mono HRa.out.size))
          have HV5 := Lib.hid (Blk.new w5 36 #[.bool (ineg qv.num), .slice A5 n5 c5, .slice B5 m5 d5])
          have HO5 := Lib.hid (hok.on hal)
          have HZ5 := Lib.hid (HZ.out.below hbb)
          obtain ⟨b3, off3, nm3, ⟨q3, A4, n4, c4, B4, m4, d4⟩, rfl, hb3w, hm3, g0, g1, g2, g3, hok3⟩ := (HME.out.on HM5.out).at_ hlt1
          rw [HCOL.out] at hm3
          have hm3 := Option.some.inj hm3
          simp only [Prod.mk.injEq] at hm3
          obtain ⟨rfl, rfl⟩ := hm3
          have HO3 := Lib.hid hok3
          have HBA5 := Lib.hid (And.intro (HBA.out.1.on HR5.out) (HBA.out.2.on HR5.out))
          have z0 := HZ5.out.c (i := 0) rfl
          have z1 := HZ5.out.c (i := 1) rfl
          have z2 := HZ5.out.c (i := 2) rfl
          have z3 := HZ5.out.c (i := 3) rfl
          have v0 := HV5.out.c (i := 0) rfl
          have v1 := HV5.out.c (i := 1) rfl
          have v2 := HV5.out.c (i := 2) rfl
          have x1 := (HX2.out.below HL5.out).c (i := 1) rfl
          have HKS := Lib.hid (And.intro hb3w (And.intro HZ5.out.lt (And.intro HV5.out.lt (And.intro (HX2.out.below HL5.out).lt (And.intro g0 (And.intro g1 (And.intro g2 (And.intro g3 (And.intro z0 (And.intro z1 (And.intro z2 (And.intro z3 (And.intro v0 (And.intro v1 (And.intro v2 x1)))))))))))))))
          have hnn : (r.name.toList == r.name.toList) = true := by simp
          have HVB : Hid ((i : Int) = ch.base → qv = r.base) := fun e => by
            rw [← HQV.out, e, val_base]
          clear hok hb hal hbb hok3 HZ HV x0 x2 f0 f1 f2 f3 f4
          go_upto_region 13 with fail
          go_cut [93] (fun s93 wx => s93 = .bool false ∧ Below (w5.alloc (.cells #[.bool (ineg qv.num), .slice A5 n5 c5, .slice B5 m5 d5] 36)).heap.size (w5.alloc (.cells #[.bool (ineg qv.num), .slice A5 n5 c5, .slice B5 m5 d5] 36)) wx)
          case first =>
            by_cases hbase : (i : Int) = ch.base
            · have hd : ((i : Int) == ch.base) = true := by simpa using hbase
              have hd2 : decide ((i : Int) = ch.base) = true := by simpa using hbase
              have HF1 := Lib.hid (Nat.le_refl 0)
              have HVB2 := Lib.hid (HVB.out hbase)
              clear hbase
              go_region_held3 (fun w' => w'.cell? ⟨b3, off3 + j * 4, none⟩ = some (.string r.name) ∧ w'.cell? ⟨b3, off3 + j * 4 + 1, none⟩ = some (.bool (ineg qv.num)) ∧ w'.cell? ⟨b3, off3 + j * 4 + 2, none⟩ = some (.slice A4 n4 c4) ∧ w'.cell? ⟨b3, off3 + j * 4 + 3, none⟩ = some (.slice B4 m4 d4) ∧ w'.cell? ⟨wr.heap.size, 0, none⟩ = some (.string r.name) ∧ w'.cell? ⟨wr.heap.size, 1, none⟩ = some (.bool neg) ∧ w'.cell? ⟨wr.heap.size, 2, none⟩ = some (.slice C cm cc) ∧ w'.cell? ⟨wr.heap.size, 3, none⟩ = some (.slice D dl dd) ∧ w'.cell? ⟨w5.heap.size, 0, none⟩ = some (.bool (ineg qv.num)) ∧ w'.cell? ⟨w5.heap.size, 1, none⟩ = some (.slice A5 n5 c5) ∧ w'.cell? ⟨w5.heap.size, 2, none⟩ = some (.slice B5 m5 d5) ∧ w'.cell? ⟨w.heap.size, 1, none⟩ = some (.int .i64 ch.base))
                ((refine keep13 HKS.out ?_; (repeat (first | (with_reducible exact Below.refl _ _) | (with_reducible exact hu3) | (with_reducible exact hu2) | (with_reducible exact hu1) | (with_reducible refine Below.drew ?_)))))
                (first | (go_at_call 32; go_must (first | ((have hfresh := HF1); (go_fit (cmp_eq ((HO3.out.toA HK.out).on (by repeat (first | (with_reducible exact Below.refl _ _) | (with_reducible refine Below.drew ?_)))) ((HO5.out.toA HK.out).on (by repeat (first | (with_reducible exact Below.refl _ _) | (with_reducible refine Below.drew ?_)))) rfl (by omega) (by omega) (by omega) (by omega))); rintro e u1 ⟨rfl, hv⟩; have hu1 : Below (w5.alloc (.cells #[.bool (ineg qv.num), .slice A5 n5 c5, .slice B5 m5 d5] 36)).heap.size (w5.alloc (.cells #[.bool (ineg qv.num), .slice A5 n5 c5, .slice B5 m5 d5] 36)) u1 := ⟨hv.os, hv.tape, hv.output, hv.size, hv.block⟩; clear hv; clear HF1) | ((go_fit (cmp_eq ((HO5.out.toA HK.out).on hu1) (HBA5.out.1.on hu1) HVB2.out (by omega) (by omega) (by omega) (by omega))); rintro e u2 ⟨rfl, hv⟩; have hu2 := hu1.trans (hv.mono hu1.size); clear hv))))
              all_goals
                go_wp2_with fail
                go_meet
                go_light
                exact ⟨rfl, hu2⟩
            · have hd : ((i : Int) == ch.base) = false := by simpa using hbase
              have hd2 : decide ((i : Int) = ch.base) = false := by simpa using hbase
              clear hbase
              first | (go_region_with (go_at_call 32; go_must ((go_fit (cmp_eq ((HO3.out.toA HK.out).on (by repeat (first | (with_reducible exact Below.refl _ _) | (with_reducible refine Below.drew ?_)))) ((HO5.out.toA HK.out).on (by repeat (first | (with_reducible exact Below.refl _ _) | (with_reducible refine Below.drew ?_)))) rfl (by omega) (by omega) (by omega) (by omega))); rintro e u1 ⟨rfl, hv⟩; have hu1 : Below (w5.alloc (.cells #[.bool (ineg qv.num), .slice A5 n5 c5, .slice B5 m5 d5] 36)).heap.size (w5.alloc (.cells #[.bool (ineg qv.num), .slice A5 n5 c5, .slice B5 m5 d5] 36)) u1 := ⟨hv.os, hv.tape, hv.output, hv.size, hv.block⟩; have x1 := (HX2.out.below (HL5.out.trans (hu1.mono HL5.out.size))).c (i := 1) rfl; clear hv))) | fail
              all_goals
                go_wp2_with fail
                go_meet
                go_light
                exact ⟨rfl, hu1⟩
          case rest =>
            obtain ⟨rfl, hbx⟩ := hcut
            clear g0 g1 g2 g3 z0 z1 z2 z3 v0 v1 v2 x1 hnn HKS
            by_cases hi0 : i = 0
            · subst hi0
              have HLx := Lib.hid (HM5.out.trans (hbx.mono HM5.out.size))
              clear hbx
              go_wp2_with fail
              go_roundw
              case rel => exact ⟨j + 1, by omega, by go_num, HLx.out⟩
              case measure => simp [intOf]; omega
            · obtain ⟨i', hi'⟩ : ∃ i', i = i' + 1 := ⟨i - 1, by omega⟩
              have HI' := Lib.hid hi'
              have hi1 : ¬ (i : Int) = 0 := by omega
              have hi3 : (1 : Int) ≤ (i : Int) := by omega
              have hi2 : (i : Int) - 1 = (i' : Int) := by omega
              have hil : i' < n := by omega
              clear hi'
              have HI1 : Hid (isIdx ch (i' : Int) = true) := isIdx_of HSL.out (by omega) (by omega)
              obtain ⟨qu, hqu⟩ : ∃ q, valueP ch r (i' : Int).toNat = q := ⟨_, rfl⟩
              have HKU : Hid (qk qu 2000) := by
                rw [Hid, ← hqu]
                exact row_val (by omega) (by omega) HQS.out HEE.out HR.out HI1.out
              have HQU := Lib.hid hqu
              obtain ⟨b2, off2, q2, ng, Ez, em, ec, Fz, fl, fd, hTT, hb2w, hq2, y0, y1, y2, hqa⟩ := (HBA5.out.2.on hbx).at_ (j := i) (by rw [HSN.out]; exact hlt)
              subst hTT
              have HD : Hid (qv - qu = q2) := by
                have h1 := val_step (ch := ch) (r := r) i'
                rw [← hqu, ← HQV.out, Int.toNat_natCast, Int.toNat_natCast, HI'.out, h1, List.getD_eq_getElem?_getD, ← HI'.out, hq2]
                rfl
              have HQA := Lib.hid hqa
              have HLx := Lib.hid (HL5.out.trans (hbx.mono HL5.out.size))
              have HMx := Lib.hid (HM5.out.trans (hbx.mono HM5.out.size))
              have HZx := Lib.hid (HZ5.out.below hbx)
              have HVx := Lib.hid (HV5.out.below hbx)
              have HOx := Lib.hid (HO5.out.on hbx)
              have HYx := Lib.hid (And.intro hb2w (And.intro y0 (And.intro y1 y2)))
              have HU := Lib.hid (value_ok (i' : Int) (HA2.out.on HLx.out) (by omega) HEE.out HR.out HI1.out HQU.out)
              obtain ⟨x0, x1, x2⟩ := three (HX2.out.below HLx.out)
              have z0 := HZx.out.c (i := 0) rfl
              clear hqu hqa hq2 hbx y0 y1 y2 HZ5 HV5 HO5 HBA5
              go_wp2_with fail
              go_fit HU.out
              rintro e w7 ⟨A7, n7, c7, B7, m7, d7, rfl, hok, hb⟩
              have hal := (Below.refl w7.heap.size w7).alloc (Nat.le_refl _) (.cells #[.bool (ineg qu.num), .slice A7 n7 c7, .slice B7 m7 d7] 36)
              have hbb := hb.trans (hal.mono hb.size)
              have HM7 := Lib.hid (HMx.out.trans (hbb.mono HMx.out.size))
              have HU7 := Lib.hid (Blk.new w7 36 #[.bool (ineg qu.num), .slice A7 n7 c7, .slice B7 m7 d7])
              have HOU := Lib.hid (hok.on hal)
              have HZ7 := HZx.out.below hbb
              have HV7 := HVx.out.below hbb
              have HO7 := Lib.hid (HOx.out.on hbb)
              have HQ7 := Lib.hid (HQA.out.on hbb)
              have v0 := HV7.c (i := 0) rfl
              have v1 := HV7.c (i := 1) rfl
              have v2 := HV7.c (i := 2) rfl
              have t0 := HU7.out.c (i := 0) rfl
              have t1 := HU7.out.c (i := 1) rfl
              have t2 := HU7.out.c (i := 2) rfl
              have z4 := HZ7.c (i := 4) rfl
              have y0 := (hbb.cell (p := ⟨b2, off2 + i * 3, none⟩) HYx.out.1).trans HYx.out.2.1
              have y1 := (hbb.cell (p := ⟨b2, off2 + i * 3 + 1, none⟩) HYx.out.1).trans HYx.out.2.2.1
              have y2 := (hbb.cell (p := ⟨b2, off2 + i * 3 + 2, none⟩) HYx.out.1).trans HYx.out.2.2.2
              have HKS := Lib.hid (And.intro HV7.lt (And.intro HU7.out.lt (And.intro HZ7.lt (And.intro (Nat.lt_of_lt_of_le HYx.out.1 hbb.size) (And.intro v0 (And.intro v1 (And.intro v2 (And.intro t0 (And.intro t1 (And.intro t2 (And.intro z4 (And.intro y0 (And.intro y1 y2)))))))))))))
              have j1 : (0 : Int) ≤ (i : Int) := by omega
              have j2 : (i : Int) < (sn : Int) := by rw [HSN.out]; omega
              clear hok hb hal hbb HZ7 HV7 x0 x1 x2 z0
              go_wp2_with fail
              go_region_held3 (fun w' => w'.cell? ⟨w5.heap.size, 0, none⟩ = some (.bool (ineg qv.num)) ∧ w'.cell? ⟨w5.heap.size, 1, none⟩ = some (.slice A5 n5 c5) ∧ w'.cell? ⟨w5.heap.size, 2, none⟩ = some (.slice B5 m5 d5) ∧ w'.cell? ⟨w7.heap.size, 0, none⟩ = some (.bool (ineg qu.num)) ∧ w'.cell? ⟨w7.heap.size, 1, none⟩ = some (.slice A7 n7 c7) ∧ w'.cell? ⟨w7.heap.size, 2, none⟩ = some (.slice B7 m7 d7) ∧ w'.cell? ⟨wr.heap.size, 4, none⟩ = some (.slice (some ⟨b2, off2, none⟩) sn sc) ∧ w'.cell? ⟨b2, off2 + i * 3, none⟩ = some (.bool ng) ∧ w'.cell? ⟨b2, off2 + i * 3 + 1, none⟩ = some (.slice Ez em ec) ∧ w'.cell? ⟨b2, off2 + i * 3 + 2, none⟩ = some (.slice Fz fl fd))
                ((refine keep17 HKS.out ?_; (repeat (first | (with_reducible exact Below.refl _ _) | (with_reducible exact hu3) | (with_reducible exact hu2) | (with_reducible exact hu1) | (with_reducible refine Below.drew ?_)))))
                (first
                 | (go_at_call 34; go_must ((go_fit (rsub_any _ _ 2000 2000 qv qu _ ((HO7.out.toA HK.out).on (by repeat (first | (with_reducible exact Below.refl _ _) | (with_reducible refine Below.drew ?_)))) ((HOU.out.toA HKU.out).on (by repeat (first | (with_reducible exact Below.refl _ _) | (with_reducible refine Below.drew ?_)))) (by omega) (by omega) (by omega) (by omega))); rintro e u1 ⟨A8, n8, c8, B8, m8, d8, rfl, r1, r2, r3, r4, hv⟩; have hu1 : Below (w7.alloc (.cells #[.bool (ineg qu.num), .slice A7 n7 c7, .slice B7 m7 d7] 36)).heap.size (w7.alloc (.cells #[.bool (ineg qu.num), .slice A7 n7 c7, .slice B7 m7 d7] 36)) u1 := ⟨hv.os, hv.tape, hv.output, hv.size, hv.block⟩; have HS1 := Lib.hid (RatA.of r1 r2 r3 r4 (qk_sub HK.out HKU.out)); clear r1 r3 hv))
                 | (go_at_call 32; go_must ((go_fit (cmp_eq HS1.out (HQ7.out.on hu1) HD.out (by omega) (by omega) (by omega) (by omega))); rintro e u2 ⟨rfl, hv⟩; have hu2 := hu1.trans (hv.mono hu1.size); clear hv)))
              go_wp2_with fail
              go_roundw
              case rel => exact ⟨j + 1, by omega, by go_num, HM7.out.trans (hu2.mono HM7.out.size)⟩
              case measure => simp [intOf]; omega
        · obtain rfl : j = m := by omega
          clear hbl
          go_wp2_with fail
          go_roundw
          case rel => exact ⟨i + 1, by omega, by go_num, HLr.out⟩
          case measure => simp [intOf]; omega
    · obtain rfl : i = n := by omega
      have HBF := Lib.hid (HB2.out.trans (hbel.mono HB2.out.size))
      have HE := Lib.hid (example_any _ (HW.out.below HBF.out))
      clear hbel
      go_wp2_with fail
      go_fit HE.out
      rintro e w3 ⟨rfl, hb3⟩
      go_wp2_with fail
      go_ret
      exact ⟨rfl, HBF.out.trans (hb3.mono HBF.out.size)⟩
end Go.Proofs.YtjiccijfbpkliaaGreatDoor
