/-
  Several texts in one: The law ScanTexts returns true. Conditions: Std; the scan's numbers are of 64 bits.
-/
import Derived.Test.YtgldhjmedidmoaaGreatDoorG41
import Derived.Test.YtgldhjmedidmoaaGreatDoorG45

/- The law ScanTexts returns true. Conditions: Std; the scan's numbers are of 64 bits. -/
namespace Go.Proofs.YtgldhjmedidmoaaGreatDoor
open Go.RowKit
open Go.Lib hiding intOf

/-- True comes back. -/
def RetLaw (w : World) (e : Ending) (w' : World) : Prop := e = .returned (.bool true) ∧ Below w.heap.size w w'
set_option maxRecDepth 100000 in
set_option maxHeartbeats 12800000 in
theorem scanTexts_walk (x : PScan) (w : World) (hw : Std w) (hx : scanIn x) :
    Calls Tryz.prog 7 #[.agg #[.int .i64 x.ticket, .int .i64 x.op, .int .i64 x.worker, .int .i64 x.at_]] w (RetLaw w) := by
  have HB0 : Hid (Below w.heap.size w (w.alloc (.cells #[.int .i64 x.ticket, .int .i64 x.op, .int .i64 x.worker, .int .i64 x.at_] 53))) := (Below.refl _ _).alloc (Nat.le_refl _) _
  have HX := Lib.hid (Blk.new w 53 #[.int .i64 x.ticket, .int .i64 x.op, .int .i64 x.worker, .int .i64 x.at_])
  have HTX := scanText_any x _ (hw.below HB0.out) hx
  have HPA := fun W (hb : Std W) => scanParse_any (bytes (textS x)) W hb (by have := text_few hx; exact Nat.le_trans this (by omega))
  simp only [bytes_data, parse_text hx, parV] at HPA
  have HRT := fun W (hb : Std W) => refText_any x W hb hx
  obtain ⟨T, hT⟩ : ∃ T, bytes (textS x) = T := ⟨_, rfl⟩
  simp only [hT] at HTX HPA HRT
  have HTX := Lib.hid HTX
  have HPA := Lib.hid HPA
  have HRT := Lib.hid HRT
  have HW := Lib.hid hw
  obtain ⟨a, ha⟩ : ∃ a, x.ticket = a := ⟨_, rfl⟩
  obtain ⟨b, hb⟩ : ∃ b, x.op = b := ⟨_, rfl⟩
  obtain ⟨c, hc⟩ : ∃ c, x.worker = c := ⟨_, rfl⟩
  obtain ⟨d, hd⟩ : ∃ d, x.at_ = d := ⟨_, rfl⟩
  rw [ha, hb, hc, hd] at HB0 HX HTX ⊢
  simp only [ha, hb, hc, hd] at HPA HRT
  clear hw hx hT ha hb hc hd
  go_enter Tryz.func7, Tryz.ntmps7
  go_wp2_with fail
  refine HTX.out.mono ?_
  rintro e1 w1 ⟨rfl, hb1⟩
  have HB1 := Lib.hid (HB0.out.trans (hb1.mono HB0.out.size))
  have HX1 := Lib.hid (HX.out.below hb1)
  have HP1 := Lib.hid (HPA.out w1 (HW.out.below HB1.out))
  clear hb1
  go_wp2_with fail
  refine HP1.out.mono ?_
  rintro e2 w2 ⟨rfl, hb2⟩
  have hal := Below.alo hb2 (.cells #[.int .i64 a, .int .i64 b, .int .i64 c, .int .i64 d] 53)
  have HB2 := Lib.hid (HB1.out.trans (hal.mono HB1.out.size))
  have HX2 := Lib.hid (HX1.out.below hal)
  have HY2 := Lib.hid (Blk.new w2 53 #[.int .i64 a, .int .i64 b, .int .i64 c, .int .i64 d])
  have HR2 := Lib.hid (HRT.out _ (HW.out.below HB2.out))
  obtain ⟨x0, x1, x2, x3⟩ := four_box HX2.out
  clear hb2 hal
  go_wp2_with fail
  refine HR2.out.mono ?_
  rintro e3 w3 ⟨rfl, hb3⟩
  have HB3 := Lib.hid (HB2.out.trans (hb3.mono HB2.out.size))
  have HE3 := Lib.hid (example_any w3 (HW.out.below HB3.out))
  clear x0 x1 x2 x3
  obtain ⟨x0, x1, x2, x3⟩ := four_box (HX2.out.below hb3)
  obtain ⟨y0, y1, y2, y3⟩ := four_box (HY2.out.below hb3)
  clear hb3
  go_wp2_with fail
  refine HE3.out.mono ?_
  rintro e4 w4 ⟨rfl, hb4⟩
  have HB4 := Lib.hid (HB3.out.trans (hb4.mono HB3.out.size))
  clear hb4
  go_wp2_with fail
  go_ret
  exact ⟨rfl, HB4.out⟩
end Go.Proofs.YtgldhjmedidmoaaGreatDoor
