/-
  Several texts in one: The law ChartScales returns true. Conditions: Std; the chart's and the factor's data lie in memory.
-/
import Derived.Deep.RegionLaw
import Derived.Test.YtjiccijfbpkliaaGreatDoorG38
import Derived.Test.YtjiccijfbpkliaaGreatDoorG40

/- The law ChartScales returns true. Conditions: Std; the chart's and the factor's data lie in memory. -/
namespace Go.Proofs.YtjiccijfbpkliaaGreatDoor
open Go.RowKit
open Go.Lib hiding intOf
attribute [local go_sem ↓] Go.wp_at_zero Go.wp_at_succ

theorem keep7 {w w' : World} {g y : Nat} {v0 v1 v2 v3 v4 u0 u1 u2 : Value} {t t' : TypeId} (h : Blk w g t #[v0, v1, v2, v3, v4] ∧ Blk w y t' #[u0, u1, u2]) (hb : Below w.heap.size w w') :
    w'.cell? ⟨g, 0, none⟩ = some v0 ∧ w'.cell? ⟨g, 1, none⟩ = some v1 ∧ w'.cell? ⟨g, 2, none⟩ = some v2 ∧ w'.cell? ⟨g, 3, none⟩ = some v3 ∧ w'.cell? ⟨y, 0, none⟩ = some u0 ∧ w'.cell? ⟨y, 1, none⟩ = some u1 ∧ w'.cell? ⟨y, 2, none⟩ = some u2 :=
  ⟨(h.1.below hb).c rfl, (h.1.below hb).c rfl, (h.1.below hb).c rfl, (h.1.below hb).c rfl, (h.2.below hb).c rfl, (h.2.below hb).c rfl, (h.2.below hb).c rfl⟩
theorem keep9 {w w' : World} {b b' o o' y : Nat} {v1 v2 v3 x1 x2 x3 u0 u1 u2 : Value} {t : TypeId} (h : b < w.heap.size ∧ b' < w.heap.size ∧ w.cell? ⟨b, o + 1, none⟩ = some v1 ∧ w.cell? ⟨b, o + 2, none⟩ = some v2 ∧ w.cell? ⟨b, o + 3, none⟩ = some v3 ∧ w.cell? ⟨b', o' + 1, none⟩ = some x1 ∧ w.cell? ⟨b', o' + 2, none⟩ = some x2 ∧ w.cell? ⟨b', o' + 3, none⟩ = some x3 ∧ Blk w y t #[u0, u1, u2]) (hb : Below w.heap.size w w') :
    w'.cell? ⟨b, o + 1, none⟩ = some v1 ∧ w'.cell? ⟨b, o + 2, none⟩ = some v2 ∧ w'.cell? ⟨b, o + 3, none⟩ = some v3 ∧ w'.cell? ⟨b', o' + 1, none⟩ = some x1 ∧ w'.cell? ⟨b', o' + 2, none⟩ = some x2 ∧ w'.cell? ⟨b', o' + 3, none⟩ = some x3 ∧ w'.cell? ⟨y, 0, none⟩ = some u0 ∧ w'.cell? ⟨y, 1, none⟩ = some u1 ∧ w'.cell? ⟨y, 2, none⟩ = some u2 := by
  obtain ⟨l0, l1, h1, h2, h3, h4, h5, h6, h7⟩ := h
  exact ⟨(hb.cell (p := ⟨b, o + 1, none⟩) l0).trans h1, (hb.cell (p := ⟨b, o + 2, none⟩) l0).trans h2, (hb.cell (p := ⟨b, o + 3, none⟩) l0).trans h3, (hb.cell (p := ⟨b', o' + 1, none⟩) l1).trans h4, (hb.cell (p := ⟨b', o' + 2, none⟩) l1).trans h5, (hb.cell (p := ⟨b', o' + 3, none⟩) l1).trans h6, (h7.below hb).c rfl, (h7.below hb).c rfl, (h7.below hb).c rfl⟩
theorem scale_fit {ch : PChart} {q : Rat} {j k : Nat} (h : ∀ r ∈ ch.rows, qk r.base j ∧ ∀ p ∈ r.steps, qk p j) (hq : qk q k) : ∀ r ∈ (scaleP q ch).rows, qk r.base (j + k) ∧ ∀ p ∈ r.steps, qk p (j + k) := by
  intro r hr
  obtain ⟨r0, h0, rfl⟩ := List.mem_map.1 hr
  refine ⟨qk_mul (h r0 h0).1 hq, fun p hp => ?_⟩
  obtain ⟨p0, h1, rfl⟩ := List.mem_map.1 hp
  exact qk_mul ((h r0 h0).2 p0 h1) hq
theorem scale_snoc {ch : PChart} {q : Rat} {j : Nat} {r : PRow} (h : ch.rows[j]? = some r) : (ch.rows.take j).map (scaleRow q) ++ [scaleRow q r] = (ch.rows.take (j + 1)).map (scaleRow q) := by
  rw [List.take_add_one, h]
  simp

set_option maxRecDepth 100000 in
set_option maxHeartbeats 6400000 in
theorem chartScales_walk (S : Option Addr) (n c : Nat) (R : Option Addr) (m d k : Nat) (ch : PChart) (v : Value) (q : Rat) (w : World) (hw : Std w) (h : LgtA w S n c R m d k ch) {kk : Nat} (hv : RatA w v kk q) :
    Calls Tryz.prog 9 #[.agg #[.slice S n c, .int .i64 ch.base, .slice R m d], v] w (RetLaw w) := by
  have HV0 := Lib.hid hv
  obtain ⟨kn, KA, ka, kc, KB, kb, kd, kx, ky, rfl, -⟩ := hv
  have hB : Below w.heap.size w ((w.alloc (.cells #[.slice S n c, .int .i64 ch.base, .slice R m d] 25)).alloc (.cells #[.bool kn, .slice KA ka kc, .slice KB kb kd] 36)) := Below.alo (Below.alo (Below.refl _ _) _) _
  have HX := Lib.hid ((Blk.new w 25 #[.slice S n c, .int .i64 ch.base, .slice R m d]).alloc (.cells #[.bool kn, .slice KA ka kc, .slice KB kb kd] 36))
  have HY : Hid (Blk ((w.alloc (.cells #[.slice S n c, .int .i64 ch.base, .slice R m d] 25)).alloc (.cells #[.bool kn, .slice KA ka kc, .slice KB kb kd] 36)) (w.heap.size + 1) 36 #[.bool kn, .slice KA ka kc, .slice KB kb kd]) := Blk.new' _ _ _ (by simp)
  have HL := Lib.hid (light_any S n c R m d k 3 ch _ (h.on hB) (by omega) (by omega))
  have HB := Lib.hid hB
  have HW := Lib.hid hw
  clear hB h hw
  go_enter Tryz.func9, Tryz.ntmps9
  go_wp2_with fail
  go_fit HL.out
  rintro e w1 ⟨bb, rfl, hA, hiff, hb1⟩
  clear hiff
  have HB1 := Lib.hid (HB.out.trans (hb1.mono HB.out.size))
  cases bb
  · have HE := Lib.hid (example_any _ (HW.out.below HB1.out))
    clear hA hb1
    go_wp2_with fail
    go_fit HE.out
    rintro e w2 ⟨rfl, hb2⟩
    go_wp2_with fail
    go_ret
    exact ⟨rfl, HB1.out.trans (hb2.mono HB1.out.size)⟩
  have hA0 := (hA rfl).1
  have hqs := hA0.lies.2.qks hA0.one
  have HA1 := Lib.hid (hA0.on hb1)
  have HX1 := Lib.hid (HX.out.below hb1)
  have Y1 := HY.out.below hb1
  have HY1 := Lib.hid Y1
  obtain ⟨y0, y1, y2⟩ := three Y1
  have HQS := Lib.hid hqs
  have HSL := Lib.hid hA0.slen
  have HRL := Lib.hid hA0.rlen
  have HN := Lib.hid (hA rfl).2
  have HLk := Lib.hid (rlight_any _ kk 2 q w1 (HV0.out.on HB1.out))
  clear hA hA0 hqs hb1 Y1 HX HY
  go_wp2_with fail
  go_fit HLk.out
  rintro e w2 ⟨bb, rfl, hv, hb2⟩
  have HB2 := Lib.hid (HB1.out.trans (hb2.mono HB1.out.size))
  cases bb
  · have HE := Lib.hid (example_any _ (HW.out.below HB2.out))
    clear hv hb2
    go_wp2_with fail
    go_fit HE.out
    rintro e w3 ⟨rfl, hb3⟩
    go_wp2_with fail
    go_ret
    exact ⟨rfl, HB2.out.trans (hb3.mono HB2.out.size)⟩
  have HV2 := Lib.hid ((hv rfl).on hb2)
  have X2 := HX1.out.below hb2
  have HX2 := Lib.hid X2
  have HY2 := Lib.hid (HY1.out.below hb2)
  have HA2 := Lib.hid (HA1.out.on hb2)
  obtain ⟨x0, x1, x2⟩ := three X2
  obtain ⟨E, hE⟩ : ∃ E, chkP ch = E := ⟨_, rfl⟩
  have HCk := hcheck_any S n c R m d 3 ch w2 HA2.out
  rw [hE] at HCk
  have HCk := Lib.hid HCk
  have HEE := Lib.hid hE
  clear hv hb2 X2 HX1 HY1 HA1 HLk hE y0 y1 y2
  go_wp2_with fail
  go_fit HCk.out
  rintro e w3 ⟨rfl, hb3⟩
  have HB3 := Lib.hid (HB2.out.trans (hb3.mono HB2.out.size))
  have X3 := HX2.out.below hb3
  have HX3 := Lib.hid X3
  have HY3 := Lib.hid (HY2.out.below hb3)
  have HA3 := Lib.hid (HA2.out.on hb3)
  have HV3 := Lib.hid (HV2.out.on hb3)
  have HKQ := Lib.hid (HV3.out.qk (by omega))
  obtain ⟨x0, x1, x2⟩ := three X3
  clear hb3 X3 HX2 HY2 HA2 HV2 HCk
  by_cases hE0 : E ≠ 0
  · have hE1 : (E != 0) = true := by simpa using hE0
    have HE := Lib.hid (example_any _ (HW.out.below HB3.out))
    go_wp2_with fail
    go_fit HE.out
    rintro e w4 ⟨rfl, hb4⟩
    go_wp2_with fail
    go_ret
    exact ⟨rfl, HB3.out.trans (hb4.mono HB3.out.size)⟩
  have hE0 : E = 0 := by omega
  subst hE0
  have hal := (Below.refl w3.heap.size w3).alloc (Nat.le_refl _) (.cells #[.slice S n c, .int .i64 ch.base, .slice none 0 0] 25)
  have HAL := Lib.hid hal
  have HD := Lib.hid (Blk.new w3 25 #[.slice S n c, .int .i64 ch.base, .slice none 0 0])
  obtain ⟨xx0, xx1, xx2⟩ := three (HX3.out.below hal)
  have hxl := HX3.out.lt
  have m1 := HA3.out.lenr
  have n1 := HA3.out.len
  clear hal
  go_wp2_with fail
  go_loopw [39] (fun s wr => ∃ j : Nat, j ≤ m ∧ s = .int .i64 (j : Int) ∧ bxRel S n c ch.base ((ch.rows.take j).map (scaleRow q)) (w3.heap.size + 1) w3.heap.size wr ∧ Below w3.heap.size w3 wr) (fun s _ => m - (intOf s).toNat)
  case atStart => exact ⟨0, Nat.zero_le _, rfl, ⟨_, HD.out, rowsRel.nil _ _, by simp, by omega⟩, HAL.out⟩
  case round =>
    obtain ⟨j, hj, rfl, hbx, hbel⟩ := hrel
    clear x0 x1 x2 xx0 xx1 xx2 HD HAL hxl
    by_cases hlt : j < m
    · obtain ⟨wo, rfl⟩ : ∃ wo : World, wo = wr := ⟨_, rfl⟩
      obtain ⟨b, off, r, neg, C, cm, cc, D, dl, dd, T, sn, sc, rfl, hbw, hr, f0, f1, f2, f3, f4, hba, hsa, hsc⟩ := (HA3.out.lies.2.on hbel).at_ hlt
      have hsn : sn ≤ 14 := by rw [← hsa.len]; exact HN.out.1 j r hr
      have hal := (Below.refl wo.heap.size wo).alloc (Nat.le_refl _) (.cells #[.string r.name, .bool neg, .slice C cm cc, .slice D dl dd, .slice T sn sc] 57)
      have HLa := Lib.hid (hbel.trans (hal.mono hbel.size))
      have HAL := Lib.hid hal
      obtain ⟨p, hp⟩ : ∃ p, r.base * q = p := ⟨_, rfl⟩
      have HNo := fun W (hW : Below (wo.alloc (.cells #[.string r.name, .bool neg, .slice C cm cc, .slice D dl dd, .slice T sn sc] 57)).heap.size (wo.alloc (.cells #[.string r.name, .bool neg, .slice C cm cc, .slice D dl dd, .slice T sn sc] 57)) W) => (rmul_any (.agg #[.bool neg, .slice C cm cc, .slice D dl dd]) (.agg #[.bool kn, .slice KA ka kc, .slice KB kb kd]) 3 2 r.base q W ((hba.on hal).on hW) ((HV3.out.on HLa.out).on hW) (by omega) (by omega) (by omega) (by omega)).mono fun e w' hh => (show RetQw p (wo.alloc (.cells #[.string r.name, .bool neg, .slice C cm cc, .slice D dl dd, .slice T sn sc] 57)) W e w' from by
        rw [hp] at hh
        obtain ⟨A, n, c, B, m, d, h1, h2, h3, h4, h5, h6⟩ := hh
        exact ⟨A, n, c, B, m, d, h1, h2, h3, h4, h5, h6, hW.trans (h6.mono hW.size)⟩)
      have HNo := Lib.hid HNo
      have HP := Lib.hid hp
      have HZ := Lib.hid (Blk.new wo 57 #[.string r.name, .bool neg, .slice C cm cc, .slice D dl dd, .slice T sn sc])
      have HK7 := Lib.hid (And.intro HZ.out (HY3.out.below HLa.out))
      have HR := Lib.hid hr
      have HSA := Lib.hid (hsa.on hal)
      obtain ⟨v6, hbk, ⟨hs, r1, r2, r3⟩, hbase, hcb⟩ := hbx
      have hK : hs.length = j := by
        have := congrArg List.length r1
        simp only [List.length_map, List.length_take, HRL.out] at this
        omega
      have HKK := Lib.hid hK
      rw [hK] at r2
      obtain ⟨A6, c6, hv6⟩ := own_form r2.1
      subst hv6
      have HN6 : Hid (∀ g, g < w3.heap.size + 1 → some g ≠ (Value.slice A6 j c6).ownBlock) := fun g hg => own_ne r2.1 hg
      have HRW := Lib.hid (And.intro r1 (And.intro r2 r3))
      have HBK6 := Lib.hid hbk
      have HBE := Lib.hid hbel
      have hws := hbel.size
      have i1 : (0 : Int) ≤ (j : Int) := by omega
      have i2 : (j : Int) < (m : Int) := by omega
      clear hba hsa hr hbk hbel hK r1 r2 r3 hp hal
      go_upto_region 7 with fail
      go_cut [8] (fun s8 wx => ∃ (rb : Nat) (x : QH), s8 = .pointer (some ⟨rb, 0, none⟩) ∧ x.q = p ∧ rowRel r.name x True [] (wo.alloc (.cells #[.string r.name, .bool neg, .slice C cm cc, .slice D dl dd, .slice T sn sc] 57)).heap.size rb wx ∧ Below (wo.alloc (.cells #[.string r.name, .bool neg, .slice C cm cc, .slice D dl dd, .slice T sn sc] 57)).heap.size (wo.alloc (.cells #[.string r.name, .bool neg, .slice C cm cc, .slice D dl dd, .slice T sn sc] 57)) wx ∧ (wo.alloc (.cells #[.string r.name, .bool neg, .slice C cm cc, .slice D dl dd, .slice T sn sc] 57)).heap.size ≤ rb)
      case first =>
        go_region_held3 (fun w' => w'.cell? ⟨wo.heap.size, 0, none⟩ = some (.string r.name) ∧ w'.cell? ⟨wo.heap.size, 1, none⟩ = some (.bool neg) ∧ w'.cell? ⟨wo.heap.size, 2, none⟩ = some (.slice C cm cc) ∧ w'.cell? ⟨wo.heap.size, 3, none⟩ = some (.slice D dl dd) ∧ w'.cell? ⟨w.heap.size + 1, 0, none⟩ = some (.bool kn) ∧ w'.cell? ⟨w.heap.size + 1, 1, none⟩ = some (.slice KA ka kc) ∧ w'.cell? ⟨w.heap.size + 1, 2, none⟩ = some (.slice KB kb kd))
          ((refine keep7 HK7.out ?_; repeat (first | (with_reducible exact Below.refl _ _) | (with_reducible exact hw1) | (with_reducible refine Below.drew ?_) | (with_reducible refine Below.alo ?_ _) | (with_reducible refine Below.sto ?_ ?_ _) | omega | (simp <;> omega))))
          (first
          | (go_at_call 31; go_must ((go_fit (HNo.out _ (by repeat (first | (with_reducible exact Below.refl _ _) | (with_reducible refine Below.drew ?_) | (with_reducible refine Below.alo ?_ _))))); rintro e w1 ⟨A3, n3, c3, B3, m3, d3, rfl, r1, r2, r3, r4, hb1, hw1⟩; have hz1 := hw1.size; have hzd : w1.heap.size < w1.heap.size + 1 := (by omega); (try simp at hz1); (try (have hza : wo.heap.size + 1 < w1.heap.size := by (have := hb1.size; simp at this; omega))); (try (have hzc : ¬ w1.heap.size = wo.heap.size + 1 := by (have := hb1.size; simp at this; omega))); obtain ⟨hcl, hfr⟩ := bcell hb1; have HR1 := Lib.hid (And.intro r1 r3); clear r1 r3)))
        all_goals
          go_wp2_with fail
          go_meet
          go_light
        all_goals
          refine ⟨_, ⟨p, A3, n3, c3, B3, m3, d3⟩, rfl, rfl, row_begin ?_ ?_ r2 ?_ r4, ?_, ?_⟩
          · (repeat (first | (focus ((with_reducible refine Blk.new' _ _ _ ?_); (simp; done))) | (with_reducible exact Blk.new _ _ _) | (with_reducible refine Blk.put5z ?_) | (with_reducible refine Blk.alloc ?_ _) | (with_reducible refine Blk.far5 ?_ ?_ _ _ _ _ _) | (with_reducible refine Blk.below ?_ hb1) | (with_reducible refine Blk.drew ?_) | omega | (simp <;> omega)))
          · (repeat (first | (with_reducible exact HR1.out.1) | (with_reducible refine Sl.alo ?_ _) | (with_reducible refine Sl.st5 ?_ ?_) | (focus ((with_reducible refine Blk.new' _ _ _ ?_); (simp; done))) | (with_reducible refine Blk.alloc ?_ _) | (with_reducible refine Blk.below ?_ hb1) | (with_reducible refine Sl.drew ?_) | (with_reducible refine Blk.drew ?_) | omega | (simp <;> omega)))
          · (repeat (first | (with_reducible exact HR1.out.2) | (with_reducible refine Sl.alo ?_ _) | (with_reducible refine Sl.st5 ?_ ?_) | (focus ((with_reducible refine Blk.new' _ _ _ ?_); (simp; done))) | (with_reducible refine Blk.alloc ?_ _) | (with_reducible refine Blk.below ?_ hb1) | (with_reducible refine Sl.drew ?_) | (with_reducible refine Blk.drew ?_) | omega | (simp <;> omega)))
          · (repeat (first | (with_reducible exact hw1) | (with_reducible refine Below.drew ?_) | (with_reducible refine Below.alo ?_ _) | (with_reducible refine Below.sto ?_ ?_ _) | omega | (simp <;> omega)))
          · (first | omega | (simp <;> omega))
      case rest =>
        obtain ⟨rb, x, rfl, hxq, hrow, hbx, hrb⟩ := hcut
        clear f0 f1 f2 f3 f4 HNo HK7
        have HROW := Lib.hid hrow
        have HXQ := Lib.hid hxq
        have HBW := Lib.hid hbx
        have z4 := (HZ.out.below hbx).c (i := 4) rfl
        have hzl := (HZ.out.below hbx).lt
        clear hrow hxq hbx
        go_wp2_with fail
        go_loopw [53] (fun s wr => ∃ i : Nat, i ≤ sn ∧ s = .int .i64 (i : Int) ∧ rowRel r.name x True ((r.steps.map (· * q)).take i) (wo.alloc (.cells #[.string r.name, .bool neg, .slice C cm cc, .slice D dl dd, .slice T sn sc] 57)).heap.size rb wr ∧ Below (wo.alloc (.cells #[.string r.name, .bool neg, .slice C cm cc, .slice D dl dd, .slice T sn sc] 57)).heap.size (wo.alloc (.cells #[.string r.name, .bool neg, .slice C cm cc, .slice D dl dd, .slice T sn sc] 57)) wr) (fun s _ => sn - (intOf s).toNat)
        case atStart => exact ⟨0, Nat.zero_le _, rfl, HROW.out, HBW.out⟩
        case round =>
          obtain ⟨i, hi, rfl, hrow, hbi⟩ := hrel
          clear HROW HBW z4 hzl
          by_cases hlt1 : i < sn
          · obtain ⟨b2, off2, q2, ng, Ez, em, ec, Fz, fl, fd, rfl, hb2w, hq, z0, z1, z2, hqa⟩ := (HSA.out.on hbi).at_ hlt1
            have hal := (Below.refl wr.heap.size wr).alloc (Nat.le_refl _) (.cells #[.bool ng, .slice Ez em ec, .slice Fz fl fd] 36)
            have HBI := Lib.hid (hbi.trans (hal.mono hbi.size))
            have hLL := HLa.out.trans (HBI.out.mono HLa.out.size)
            obtain ⟨p2, hp2⟩ : ∃ p, q2 * q = p := ⟨_, rfl⟩
            have HM2 := fun W (hW : Below (wr.alloc (.cells #[.bool ng, .slice Ez em ec, .slice Fz fl fd] 36)).heap.size (wr.alloc (.cells #[.bool ng, .slice Ez em ec, .slice Fz fl fd] 36)) W) => rmul_any (.agg #[.bool ng, .slice Ez em ec, .slice Fz fl fd]) (.agg #[.bool kn, .slice KA ka kc, .slice KB kb kd]) 3 2 q2 q W ((hqa.on hal).on hW) ((HV3.out.on hLL).on hW) (by omega) (by omega) (by omega) (by omega)
            rw [hp2] at HM2
            have HM2 := Lib.hid HM2
            obtain ⟨v, hblk, hxo, ⟨ts, t1, t2, t3⟩, hv⟩ := hrow.below hal
            have hts : ts.length = i := by
              have := congrArg List.length t1
              simp only [List.length_map, List.length_take, HSA.out.len] at this
              omega
            rw [hts] at t2
            obtain ⟨A', c', rfl⟩ := own_form t2.1
            have HTS := Lib.hid hts
            have g4 := hblk.c (i := 4) rfl
            have y4 := hblk.frozen 4
            have hrl := hblk.lt
            have hrl2 : rb < wr.heap.size := by obtain ⟨v', hb', _⟩ := hrow; exact hb'.lt
            have HBK := Lib.hid hblk
            have HXO := Lib.hid hxo
            have HT := Lib.hid (And.intro t1 (And.intro t2 t3))
            have hqm : (r.steps.map (· * q))[i]? = some p2 := by
              rw [List.getElem?_map, hq, ← hp2]
              rfl
            have HQ := Lib.hid (take_snoc hqm)
            obtain ⟨y0, y1, y2⟩ := three (HY3.out.below hLL)
            have hyl := (HY3.out.below hLL).lt
            have hyl2 : w.heap.size + 1 < wr.heap.size := Nat.lt_of_lt_of_le HY3.out.lt (Nat.le_trans hws (by have := hbi.size; simp at this; omega))
            have hwz := HBI.out.size
            have j1 : (0 : Int) ≤ (i : Int) := by omega
            have j2 : (i : Int) < (sn : Int) := by omega
            clear hblk hxo t1 t2 t3 hts hqa hq hbi hv hp2 hqm hrow hLL hal
            go_wp2_with fail
            go_region_law (first
              | (go_simp; go_at_call 31; go_must ((go_fit (HM2.out _ (by repeat (first | (with_reducible exact Below.refl _ _) | (with_reducible refine Below.drew ?_))))); rintro e w4 ⟨A4, n4, c4, B4, m4, d4, rfl, r5, r6, r7, r8, hb4⟩; have HB4 := Lib.hid (show Below (wr.alloc (.cells #[.bool ng, .slice Ez em ec, .slice Fz fl fd] 36)).heap.size (wr.alloc (.cells #[.bool ng, .slice Ez em ec, .slice Fz fl fd] 36)) w4 from ⟨hb4.os, hb4.tape, hb4.output, hb4.size, hb4.block⟩); have HY4 : Hid (QH.Ok ⟨p2, A4, n4, c4, B4, m4, d4⟩ w4) := ⟨r5, r6, r7, r8⟩; have G4 := HBK.out.below HB4.out; have k4 := G4.c (i := 4) rfl; have hrl4 := G4.lt; have hz4 := HB4.out.size; clear hb4 r5 r7 G4; (try dsimp only)))
              | ((refine step_ratio (by rfl) _ _ (by rfl) _ i _ _ (by rfl) (HT.out.2.1.below (by exact Below.alo HB4.out _)) w4.heap.size (by rfl) ⟨p2, A4, n4, c4, B4, m4, d4⟩ (by exact Blk.new _ _ _) (by omega) (by have h1 := HB4.out.size; have h2 := hwz; simp at h1 h2 ⊢; omega) ?_); go_must (intro v5 w5 ho5 hg5 hn5; obtain ⟨A5, c5, hv5⟩ := own_form ho5.1; subst hv5; have hBA := Below.alo HB4.out (.cells #[.bool (ineg p2.num), .slice A4 n4 c4, .slice B4 m4 d4] 36); have X5 := (HBK.out.below hBA).grown hg5 (fun e => own_far (HT.out.2.1.below hBA).1 (HBK.out.below hBA) (by decide) e.symm); clear hBA; have t4 := X5.c (i := 4) rfl; have zz4 := X5.frozen 4; clear X5)))
            all_goals
              go_wp2_with fail
              go_roundw
              case rel =>
                have hBA := Below.alo HB4.out (.cells #[.bool (ineg p2.num), .slice A4 n4 c4, .slice B4 m4 d4] 36)
                have hstep := rowRel.step_ (HBK.out.below hBA) (fun p => (HXO.out p).on hBA) ⟨p2, A4, n4, c4, B4, m4, d4⟩ (HY4.out.on ((Below.refl _ _).alloc (Nat.le_refl _) _)) HT.out.1 (by rw [HTS.out]; exact HT.out.2.1.below hBA) (fun t ht => (HT.out.2.2 t ht).below hBA) (by rw [HTS.out]; exact ho5) hg5 hn5
                refine ⟨i + 1, by omega, by go_num, ?_, ?_⟩
                · rw [HQ.out] at hstep
                  exact hstep
                · exact ((HBI.out.trans (hBA.mono HBI.out.size)).grown hg5 (Nat.le_trans HBI.out.size hBA.size) fun g e => (HT.out.2.1.below hBA).1.lt _ e |>.1).setCell (p := ⟨rb, 4, none⟩) hrb _
              case measure => simp [intOf]; omega
          · obtain rfl : i = sn := by omega
            have hall : (r.steps.map (· * q)).take i = (scaleRow q r).steps := List.take_of_length_le (by rw [List.length_map, HSA.out.len]; omega)
            rw [hall] at hrow
            obtain ⟨A5, c5, hblk, hxo, hra, hcc, hfr⟩ := hrow.done
            have hln : (scaleRow q r).steps.length = i := by rw [scaleRow, List.length_map]; exact HSA.out.len
            rw [hln] at hblk hra hcc
            have HHO : Hid (RH.Ok ⟨scaleRow q r, x, A5, i, c5⟩ wr) := ⟨HXQ.out.trans HP.out.symm, hxo, hra, hcc⟩
            have HNE : Hid (0 < i → ∀ g o, A5 = some ⟨g, o, none⟩ → (Value.slice A6 j c6).ownBlock ≠ some g) := fun _ g o e e2 => by
              have h1 := hfr g o e
              have h2 := (HRW.out.2.1.1.lt g e2).2
              simp at h1
              omega
            have hbi2 := HAL.out.trans (hbi.mono HAL.out.size)
            have HB6 := Lib.hid (Below.alo hbi2 (.cells #[.string r.name, .bool (ineg x.q.num), .slice x.A x.n x.c, .slice x.B x.m x.d, .slice A5 i c5] 57))
            have g0 := hblk.c (i := 0) rfl
            have g1 := hblk.c (i := 1) rfl
            have g2 := hblk.c (i := 2) rfl
            have g3 := hblk.c (i := 3) rfl
            have g4 := hblk.c (i := 4) rfl
            have k2 := (HBK6.out.below hbi2).c (i := 2) rfl
            have hkl := (HBK6.out.below hbi2).lt
            have HTK := Lib.hid (scale_snoc (q := q) HR.out)
            clear hrow hblk hxo hra hcc hfr hall hbi hbi2 hln
            go_wp2_with (at_builtin; go_must ((refine append_row rfl (.tmp 67) (.tmp 69) rfl (w3.heap.size + 1) j _ _ rfl (HRW.out.2.1.below HB6.out) wr.heap.size rfl ⟨scaleRow q r, x, A5, i, c5⟩ (by exact Blk.new' _ _ _ (by simp)) (by omega) (by have := HB6.out.size; omega) ?_); intro v5 w7 ho5 hg5 hn5; obtain ⟨A7, c7, hv5⟩ := own_form ho5.1; subst hv5; have X7 := (HBK6.out.below HB6.out).grown hg5 (HN6.out _ (by omega)); have t2 := X7.c (i := 2) rfl; have zz2 := X7.frozen 2; clear X7))
            go_roundw
            case rel =>
              have hm := bxRel.more (base := w3.heap.size + 1) (cb := w3.heap.size) ⟨scaleRow q r, x, A5, i, c5⟩ (HBK6.out.below HB6.out) (Nat.le_trans hbase HB6.out.size) hcb HRW.out.1 (by rw [HKK.out]; exact HRW.out.2.1.below HB6.out) (fun t ht => ⟨(HRW.out.2.2 t ht).1.on HB6.out, (HRW.out.2.2 t ht).2⟩) (HHO.out.on ((Below.refl _ _).alloc (Nat.le_refl _) _)) HNE.out (by rw [HKK.out]; exact ho5) hg5 hn5
              rw [HTK.out] at hm
              refine ⟨j + 1, by omega, by go_num, hm, ?_⟩
              exact ((HBE.out.trans (HB6.out.mono HBE.out.size)).grown hg5 (Nat.le_trans HBE.out.size HB6.out.size) fun g e => by have := ((HRW.out.2.1.below HB6.out).1.lt _ e).1; omega).setCell (p := ⟨w3.heap.size, 2, none⟩) (by simp) _
            case measure => simp [intOf]; omega
    · obtain rfl : j = m := by omega
      obtain ⟨w4, rfl⟩ : ∃ w4 : World, w4 = wr := ⟨_, rfl⟩
      have hall : (ch.rows.take j).map (scaleRow q) = (scaleP q ch).rows := by rw [List.take_of_length_le (by rw [HRL.out]; omega)]; rfl
      rw [hall] at hbx
      obtain ⟨R2, d2, hblk, hrn, hd2⟩ := hbx.done
      have hlen : (scaleP q ch).rows.length = j := by rw [scaleP, List.length_map]; exact HRL.out
      rw [hlen] at hblk hrn hd2
      have HDA : Hid (ChkA w4 S n c R2 j d2 5 (scaleP q ch)) := ⟨⟨HA3.out.lies.1.on hbel, hrn.toA (scale_fit (j := 3) (k := 2) HQS.out HKQ.out)⟩, HA3.out.cap, hd2, HA3.out.len, HA3.out.lenr, by omega, by omega, HA3.out.sz, fun i r hi => by
        simp only [scaleP, List.getElem?_map, Option.map_eq_some_iff] at hi
        obtain ⟨r0, h0, rfl⟩ := hi
        exact HA3.out.nm i r0 h0⟩
      have HCD := Lib.hid (scale_chk q HEE.out)
      have HD4 := Lib.hid hblk
      have HB4 := Lib.hid (HB3.out.trans (hbel.mono HB3.out.size))
      have HL4 := Lib.hid hbel
      obtain ⟨x0, x1, x2⟩ := three (HX3.out.below hbel)
      clear hbx hblk hrn hd2 hall hlen hbel
      go_wp2_with fail
      go_loopw [76] (fun s wr => ∃ i : Nat, i ≤ n ∧ s = .int .i64 (i : Int) ∧ Below w4.heap.size w4 wr) (fun s _ => n - (intOf s).toNat)
      case atStart => exact ⟨0, Nat.zero_le _, rfl, Below.refl _ _⟩
      case round =>
        obtain ⟨i, hi, rfl, hbel⟩ := hrel
        clear x0 x1 x2
        obtain ⟨wo, rfl⟩ : ∃ wo : World, wo = wr := ⟨_, rfl⟩
        have HLo := Lib.hid (HL4.out.trans (hbel.mono HL4.out.size))
        by_cases hlt : i < n
        · have HI : Hid (isIdx ch (i : Int) = true) := isIdx_of HSL.out (by omega) (by omega)
          obtain ⟨ms, hms⟩ : ∃ ms, colOf ch (i : Int) = ms := ⟨_, rfl⟩
          have HMS := Lib.hid hms
          have HC := Lib.hid (column_ok (i : Int) (HA3.out.on HLo.out) (by omega) HEE.out HI.out hms)
          obtain ⟨x0, x1, x2⟩ := three (HX3.out.below HLo.out)
          have HBE := Lib.hid hbel
          clear hms hbel
          go_wp2_with fail
          go_fit HC.out
          rintro e w5 ⟨A5, c5, rfl, hc5, hme5, hb5⟩
          have HM5 := Lib.hid (HBE.out.trans (hb5.mono HBE.out.size))
          have HME5 := Lib.hid hme5
          have HC2 := Lib.hid (column_ok (i : Int) (HDA.out.on HM5.out) (by omega) HCD.out HI.out rfl)
          obtain ⟨x0, x1, x2⟩ := three (HD4.out.below HM5.out)
          clear hb5 hme5 HC
          go_wp2_with fail
          go_fit HC2.out
          rintro e w6 ⟨A6, c6, rfl, hc6, hme6, hb6⟩
          have HM6 := Lib.hid (HM5.out.trans (hb6.mono HM5.out.size))
          have HME6 := Lib.hid hme6
          have HME5 := Lib.hid (HME5.out.on hb6)
          clear hb6 hme6 HC2 x0 x1 x2
          go_wp2_with fail
          go_loopw [106] (fun s wr => ∃ t : Nat, t ≤ j ∧ s = .int .i64 (t : Int) ∧ Below w6.heap.size w6 wr) (fun s _ => j - (intOf s).toNat)
          case atStart => exact ⟨0, Nat.zero_le _, rfl, Below.refl _ _⟩
          case round =>
            obtain ⟨t, ht, rfl, hbl⟩ := hrel
            by_cases hlt1 : t < j
            · obtain ⟨r, hr⟩ : ∃ r, ch.rows[t]? = some r := ⟨_, List.getElem?_eq_getElem (by rw [HRL.out]; exact hlt1)⟩
              obtain ⟨qv, hqv⟩ : ∃ q, valueP ch r (i : Int).toNat = q := ⟨_, rfl⟩
              have hcol := col_at (ch := ch) (i := (i : Int)) hr
              have hcol2 : (colOf (scaleP q ch) (i : Int))[t]? = some (r.name, qv * q) := by rw [scale_col, List.getElem?_map, hcol, hqv]; rfl
              rw [HMS.out, hqv] at hcol
              have HK : Hid (qk qv 2000) := by
                rw [Hid, ← hqv]
                exact row_val (by omega) (by omega) HQS.out HEE.out hr HI.out
              obtain ⟨b5, off5, nm5, ⟨q5, A7, n7, c7, B7, m7, d7⟩, rfl, hb5w, hm5, g0, g1, g2, g3, hok5⟩ := (HME5.out.on hbl).at_ hlt1
              obtain ⟨b6, off6, nm6, ⟨q6, A8, n8, c8, B8, m8, d8⟩, rfl, hb6w, hm6, e0, e1, e2, e3, hok6⟩ := (HME6.out.on hbl).at_ hlt1
              rw [hcol] at hm5
              rw [hcol2] at hm6
              have hm5 := Option.some.inj hm5
              have hm6 := Option.some.inj hm6
              simp only [Prod.mk.injEq] at hm5 hm6
              obtain ⟨rfl, rfl⟩ := hm5
              obtain ⟨-, hq6⟩ := hm6
              have HQ6 := Lib.hid hq6.symm
              have HO := Lib.hid (And.intro hok5 hok6)
              have hLL := HLo.out
              have HLb := Lib.hid (HL4.out.trans ((HM6.out.trans (hbl.mono HM6.out.size)).mono HL4.out.size))
              have HYb := Lib.hid (HY3.out.below HLb.out)
              have HVb := Lib.hid (HV3.out.on HLb.out)
              have HKS := Lib.hid (And.intro hb6w (And.intro hb5w (And.intro e1 (And.intro e2 (And.intro e3 (And.intro g1 (And.intro g2 (And.intro g3 HYb.out))))))))
              obtain ⟨y0, y1, y2⟩ := three HYb.out
              have HBL := Lib.hid hbl
              have HK6 : Hid (qk q6 2002) := by rw [Hid, HQ6.out]; exact qk_mul HK.out HKQ.out
              have i1 : (0 : Int) ≤ (t : Int) := by omega
              have i2 : (t : Int) < (j : Int) := by omega
              clear hr hqv hcol hcol2 hok5 hok6 hq6 hbl hLL g0 e0
              go_wp2_with fail
              go_region_held3 (fun w' => w'.cell? ⟨b6, off6 + t * 4 + 1, none⟩ = some (.bool (ineg q6.num)) ∧ w'.cell? ⟨b6, off6 + t * 4 + 2, none⟩ = some (.slice A8 n8 c8) ∧ w'.cell? ⟨b6, off6 + t * 4 + 3, none⟩ = some (.slice B8 m8 d8) ∧ w'.cell? ⟨b5, off5 + t * 4 + 1, none⟩ = some (.bool (ineg qv.num)) ∧ w'.cell? ⟨b5, off5 + t * 4 + 2, none⟩ = some (.slice A7 n7 c7) ∧ w'.cell? ⟨b5, off5 + t * 4 + 3, none⟩ = some (.slice B7 m7 d7) ∧ w'.cell? ⟨w.heap.size + 1, 0, none⟩ = some (.bool kn) ∧ w'.cell? ⟨w.heap.size + 1, 1, none⟩ = some (.slice KA ka kc) ∧ w'.cell? ⟨w.heap.size + 1, 2, none⟩ = some (.slice KB kb kd))
                ((refine keep9 HKS.out ?_; repeat (first | (with_reducible exact Below.refl _ _) | (with_reducible exact hu2) | (with_reducible exact hu1) | (with_reducible refine Below.drew ?_))))
                (first
                 | (go_at_call 31; go_must ((go_fit (rmul_any _ _ 2000 2 qv q _ ((HO.out.1.toA HK.out).on (by repeat (first | (with_reducible exact Below.refl _ _) | (with_reducible refine Below.drew ?_)))) (HVb.out.on (by repeat (first | (with_reducible exact Below.refl _ _) | (with_reducible refine Below.drew ?_)))) (by omega) (by omega) (by omega) (by omega))); rintro e u1 ⟨A9, n9, c9, B9, m9, d9, rfl, r1, r2, r3, r4, hv⟩; have hu1 : Below wr.heap.size wr u1 := ⟨hv.os, hv.tape, hv.output, hv.size, hv.block⟩; have HS1 := Lib.hid (RatA.of r1 r2 r3 r4 (qk_mul HK.out HKQ.out)); clear r1 r3 hv))
                 | (go_at_call 32; go_must ((go_fit (cmp_eq ((HO.out.2.toA HK6.out).on hu1) HS1.out HQ6.out (by omega) (by omega) (by omega) (by omega))); rintro e u2 ⟨rfl, hv⟩; have hu2 := hu1.trans (hv.mono hu1.size); clear hv)))
              go_wp2_with fail
              go_roundw
              case rel => exact ⟨t + 1, by omega, by go_num, HBL.out.trans (hu2.mono HBL.out.size)⟩
              case measure => simp [intOf]; omega
            · obtain rfl : t = j := by omega
              have HLb := Lib.hid (HM6.out.trans (hbl.mono HM6.out.size))
              clear hbl
              go_wp2_with fail
              go_roundw
              case rel => exact ⟨i + 1, by omega, by go_num, HLb.out⟩
              case measure => simp [intOf]; omega
        · obtain rfl : i = n := by omega
          have HBF := Lib.hid (HB4.out.trans (hbel.mono HB4.out.size))
          have HE := Lib.hid (example_any _ (HW.out.below HBF.out))
          clear hbel
          go_wp2_with fail
          go_fit HE.out
          rintro e w5 ⟨rfl, hb5⟩
          go_wp2_with fail
          go_ret
          exact ⟨rfl, HBF.out.trans (hb5.mono HBF.out.size)⟩
end Go.Proofs.YtjiccijfbpkliaaGreatDoor
