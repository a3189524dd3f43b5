/-
  Several texts in one: garmenttop.records is true. Conditions: what the variables hold (StdT).
-/
import Derived.Test.YthomflbjijjhaaaGreatDoorG31
import Derived.Test.YthomflbjijjhaaaGreatDoorG41
import Derived.Test.YthomflbjijjhaaaGreatDoorG50
import Derived.Test.YthomflbjijjhaaaGreatDoorG51

/- garmenttop.records is true. Conditions: what the variables hold (StdT). -/
namespace Go.Proofs.YthomflbjijjhaaaGreatDoor
open Go.RowKit
open Go.Lib hiding intOf

theorem read_size {y : ByteArray} {xs : List PScan} (hy : y.data.toList = jour xs) (h : ∀ x ∈ xs, scanIn x) (hn : xs.length ≤ 30) : y.size ≤ 3180 ∧ readJ y.size 0 y.data.toList = xs.map textS := by
  have h1 : y.size = (jour xs).length := by rw [← hy, Array.length_toList]; rfl
  refine ⟨by rw [h1]; exact jour_len h hn, ?_⟩
  rw [hy]
  exact jour_read h (by omega)
theorem pay_lit {w : World} {g : Nat} {z k m : Int} (h : Blk w g 52 #[.int .i64 z, .int .i64 k, .int .i64 m]) : Recs 3 payG w (some ⟨g, 0, none⟩) 1 [⟨z, k, m⟩] := by
  refine Recs.lit h rfl fun j x hx => ?_
  match j, hx with
  | 0, hx =>
    obtain rfl := Option.some.inj hx
    refine ⟨_, rfl, fun i u hu => ?_⟩
    match i, hu with
    | 0, hu => exact hu
    | 1, hu => exact hu
    | 2, hu => exact hu
    | i + 3, hu => simp [payC] at hu
  | j + 1, hx => simp at hx
set_option maxRecDepth 100000 in
set_option maxHeartbeats 12800000 in
theorem records_any (w : World) (hw : StdT w) :
    Calls Tryz.prog 4 #[] w fun e w' => e = .returned (.bool true) ∧ Below w.heap.size w w' := by
  have HW := Lib.hid hw
  clear hw
  go_enter Tryz.func4, Tryz.ntmps4
  go_wp2_with fail
  refine (two_any w).mono ?_
  rintro e1 w1 ⟨F, X, rfl, hF, hx, hk, hb⟩
  have HB1 := Lib.hid hb
  have HF := Lib.hid hF
  have HX := Lib.hid hx
  have HK := Lib.hid hk
  obtain ⟨nm, hnm⟩ : ∃ nm, twStyle.name = nm := ⟨_, rfl⟩
  rw [hnm]
  have HNM := Lib.hid hnm
  have HBX : Hid (Below w1.heap.size w1 ((w1.alloc (.cells #[.string nm, .slice F.Z F.z F.zc, .slice F.M F.m F.mc, .slice F.P F.p F.pc, .slice F.U F.u F.uc, .slice F.E F.e F.ec, .slice F.O F.o F.oc, .slice F.L F.n F.c, .slice F.V F.k F.kc, .slice X 3 3] 34)).alloc (.cells #[.int .i64 250, .int .i64 0] 36))) := ((Below.refl _ _).alloc (Nat.le_refl _) _).alloc (by simp) _
  have HC0 : Hid (Blk ((w1.alloc (.cells #[.string nm, .slice F.Z F.z F.zc, .slice F.M F.m F.mc, .slice F.P F.p F.pc, .slice F.U F.u F.uc, .slice F.E F.e F.ec, .slice F.O F.o F.oc, .slice F.L F.n F.c, .slice F.V F.k F.kc, .slice X 3 3] 34)).alloc (.cells #[.int .i64 250, .int .i64 0] 36)) w1.heap.size 34 #[.string nm, .slice F.Z F.z F.zc, .slice F.M F.m F.mc, .slice F.P F.p F.pc, .slice F.U F.u F.uc, .slice F.E F.e F.ec, .slice F.O F.o F.oc, .slice F.L F.n F.c, .slice F.V F.k F.kc, .slice X 3 3]) := (Blk.new w1 _ _).alloc _
  have HT0 : Hid (Blk ((w1.alloc (.cells #[.string nm, .slice F.Z F.z F.zc, .slice F.M F.m F.mc, .slice F.P F.p F.pc, .slice F.U F.u F.uc, .slice F.E F.e F.ec, .slice F.O F.o F.oc, .slice F.L F.n F.c, .slice F.V F.k F.kc, .slice X 3 3] 34)).alloc (.cells #[.int .i64 250, .int .i64 0] 36)) (w1.heap.size + 1) 36 #[.int .i64 250, .int .i64 0]) := Blk.new' _ _ _ (by simp)
  have HB0 := Lib.hid (HB1.out.trans (HBX.out.mono HB1.out.size))
  have HWR := Lib.hid (written_any X 3 3 twScans _ (HW.out.below HB0.out) (HX.out.on scan_mono HBX.out) (by decide) tw_in)
  clear hb hF hx hk hnm
  go_wp2_with fail
  refine HWR.out.mono ?_
  rintro e2 w2 ⟨y, hy, rfl, hb2⟩
  obtain ⟨hys, hyr⟩ := read_size hy tw_in (by decide)
  have HB2 := Lib.hid (HB0.out.trans (hb2.mono HB0.out.size))
  have HR2 := read_any' y twScans w2 (HW.out.below HB2.out) (by omega) tw_in (by decide) hyr
  have HC2 := Lib.hid (HC0.out.below hb2)
  have HT2 := Lib.hid (HT0.out.below hb2)
  have HL2 := Lib.hid (HBX.out.trans (hb2.mono HBX.out.size))
  have HR2 := Lib.hid HR2
  clear hy hys hyr hb2
  go_wp2_with fail
  refine HR2.out.mono ?_
  rintro e3 w3 ⟨A3, c3, rfl, hr3, _, hb3⟩
  have HB3 := Lib.hid (HB2.out.trans (hb3.mono HB2.out.size))
  have HL3 := Lib.hid (HL2.out.trans (hb3.mono HL2.out.size))
  have HC3 := HC2.out.below hb3
  have HT3 := HT2.out.below hb3
  have HPY := Pays_any F twStyle twBundles twWorkers A3 c3 twScans twTariff w3 (HF.out.on HL3.out) ⟨tw_small, tw_workers⟩ hr3 (HW.out.below HB3.out) HK.out
  unfold RetPy at HPY
  rw [show twScans.length = 3 from rfl, tw_err, tw_pays, HNM.out, show twTariff.rate = 250 from rfl, show twTariff.least = 0 from rfl] at HPY
  rw [show twScans.length = 3 from rfl]
  have HPY := Lib.hid HPY
  have k0 := HC3.c (i := 0) rfl
  have k1 := HC3.c (i := 1) rfl
  have k2 := HC3.c (i := 2) rfl
  have k3 := HC3.c (i := 3) rfl
  have k4 := HC3.c (i := 4) rfl
  have k5 := HC3.c (i := 5) rfl
  have k6 := HC3.c (i := 6) rfl
  have k7 := HC3.c (i := 7) rfl
  have k8 := HC3.c (i := 8) rfl
  have t0 := HT3.c (i := 0) rfl
  have t1 := HT3.c (i := 1) rfl
  clear hr3 hb3 HC3 HT3
  go_wp2_with fail
  refine HPY.out.mono ?_
  rintro e4 w4 ⟨hb4, ⟨hne, _⟩ | ⟨_, A4, c4, rfl, hr4, _⟩⟩
  · exact absurd rfl hne
  have HB4 := Lib.hid (HB3.out.trans (hb4.mono HB3.out.size))
  have HA4 := Lib.hid ((Below.refl w4.heap.size w4).alloc (Nat.le_refl _) (.cells #[.int .i64 0, .int .i64 50, .int .i64 0] 52))
  have HSM := Lib.hid (samePays_true [⟨0, 50, 0⟩] A4 1 c4 (some ⟨w4.heap.size, 0, none⟩) 1 (w4.alloc (.cells #[.int .i64 0, .int .i64 50, .int .i64 0] 52)) (hr4.on pay_mono HA4.out) (pay_lit (Blk.new _ _ _)) (by decide))
  rw [show ([⟨0, 50, 0⟩] : List PPay).length = 1 from rfl]
  clear hb4 hr4 k0 k1 k2 k3 k4 k5 k6 k7 k8 t0 t1
  go_wp2_with (go_at_call 8; refine HSM.out.mono ?_; rintro e5 w5 ⟨rfl, hb5⟩)
  go_ret
  exact ⟨rfl, (HB4.out.trans (HA4.out.mono HB4.out.size)).trans (hb5.mono (by have := HB4.out.size; have := HA4.out.size; omega))⟩
end Go.Proofs.YthomflbjijjhaaaGreatDoor
