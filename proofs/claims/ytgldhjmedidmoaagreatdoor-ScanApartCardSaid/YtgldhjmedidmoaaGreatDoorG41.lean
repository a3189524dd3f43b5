/-
  Several texts in one: garmentref56.Text returns the text of a scan. Conditions: Std; the scan's numbers are of 64 bits.
-/
import Derived.Laws.Concat
import Derived.Test.YtgldhjmedidmoaaGreatDoorG25

/- garmentref56.Text returns the text of a scan. Conditions: Std; the scan's numbers are of 64 bits. -/
namespace Go.Proofs.YtgldhjmedidmoaaGreatDoor
open Go.RowKit
open Go.Lib hiding intOf

theorem add2 (x y : ByteArray) (h : x.size + y.size ≤ 1000000) : ∃ z : ByteArray, (∀ W, (Op.stringOp .add x y).run Tryz.prog W = .ok (.string z) W) ∧ z.data.toList = x.data.toList ++ y.data.toList ∧ z.size = x.size + y.size := by
  refine ⟨x ++ y, fun W => run_string_add_sum W _ _ (by omega), ?_, ?_⟩
  · rw [ByteArray.data_append, Array.toList_append]
  · rw [ByteArray.size_append]
set_option maxRecDepth 100000 in
set_option maxHeartbeats 12800000 in
theorem refText_any (x : PScan) (w : World) (hw : Std w) (hx : scanIn x) :
    Calls Tryz.prog 29 #[.agg #[.int .i64 x.ticket, .int .i64 x.op, .int .i64 x.worker, .int .i64 x.at_]] w fun e w' => e = .returned (.string (bytes (textS x))) ∧ Below w.heap.size w w' := by
  obtain ⟨h1, h2, h3, h4⟩ := hx
  have l1 := itoa_few _ h1
  have l2 := itoa_few _ h2
  have l3 := itoa_few _ h3
  have l4 := itoa_few _ h4
  have HB0 : Hid (Below w.heap.size w (w.alloc (.cells #[.int .i64 x.ticket, .int .i64 x.op, .int .i64 x.worker, .int .i64 x.at_] 53))) := (Below.refl _ _).alloc (Nat.le_refl _) _
  have HX := Lib.hid (Blk.new w 53 #[.int .i64 x.ticket, .int .i64 x.op, .int .i64 x.worker, .int .i64 x.at_])
  obtain ⟨W0, hW⟩ : ∃ W0, W0 = w.alloc (.cells #[.int .i64 x.ticket, .int .i64 x.op, .int .i64 x.worker, .int .i64 x.at_] 53) := ⟨_, rfl⟩
  rw [← hW] at HB0 HX
  have HI := fun z (hz : inI64 z = true) W (hb : Below W0.heap.size W0 W) => itoa_any z W ((hw.below HB0.out).below hb) hz
  have HI1 := HI _ h1
  have HI2 := HI _ h2
  have HI3 := HI _ h3
  have HI4 := HI _ h4
  obtain ⟨T1, e1⟩ : ∃ T, bytes (itoa x.ticket) = T := ⟨_, rfl⟩
  obtain ⟨T2, e2⟩ : ∃ T, bytes (itoa x.op) = T := ⟨_, rfl⟩
  obtain ⟨T3, e3⟩ : ∃ T, bytes (itoa x.worker) = T := ⟨_, rfl⟩
  obtain ⟨T4, e4⟩ : ∃ T, bytes (itoa x.at_) = T := ⟨_, rfl⟩
  simp only [e1] at HI1
  simp only [e2] at HI2
  simp only [e3] at HI3
  simp only [e4] at HI4
  have HI1 := Lib.hid HI1
  have HI2 := Lib.hid HI2
  have HI3 := Lib.hid HI3
  have HI4 := Lib.hid HI4
  have d1 : T1.data.toList = itoa x.ticket := by rw [← e1, bytes_data]
  have d2 : T2.data.toList = itoa x.op := by rw [← e2, bytes_data]
  have d3 : T3.data.toList = itoa x.worker := by rw [← e3, bytes_data]
  have d4 : T4.data.toList = itoa x.at_ := by rw [← e4, bytes_data]
  have s1 : T1.size ≤ 20 := by rw [← e1]; exact l1
  have s2 : T2.size ≤ 20 := by rw [← e2]; exact l2
  have s3 : T3.size ≤ 20 := by rw [← e3]; exact l3
  have s4 : T4.size ≤ 20 := by rw [← e4]; exact l4
  have z1 : (⟨#[115, 99, 97, 110, 32]⟩ : ByteArray).size = 5 := rfl
  have z2 : (⟨#[32]⟩ : ByteArray).size = 1 := rfl
  obtain ⟨y1, r1, g1, k1⟩ := add2 ⟨#[115, 99, 97, 110, 32]⟩ T1 (by omega)
  obtain ⟨y2, r2, g2, k2⟩ := add2 y1 ⟨#[32]⟩ (by omega)
  obtain ⟨y3, r3, g3, k3⟩ := add2 y2 T2 (by omega)
  obtain ⟨y4, r4, g4, k4⟩ := add2 y3 ⟨#[32]⟩ (by omega)
  obtain ⟨y5, r5, g5, k5⟩ := add2 y4 T3 (by omega)
  obtain ⟨y6, r6, g6, k6⟩ := add2 y5 ⟨#[32]⟩ (by omega)
  obtain ⟨y7, r7, g7, k7⟩ := add2 y6 T4 (by omega)
  have HY : Hid (bytes (textS x) = y7) := by
    rw [Hid, ← bytes_of y7, g7, g6, g5, g4, g3, g2, g1, d1, d2, d3, d4]
    congr 1
    unfold textS wordS
    simp
  have HK := fun W => Lib.hid (fun (hb : Below W0.heap.size W0 W) => four_box (HX.out.below hb))
  clear HI h1 h2 h3 h4 hw e1 e2 e3 e4 d1 d2 d3 d4 g1 g2 g3 g4 g5 g6 g7 k1 k2 k3 k4 k5 k6 k7 s1 s2 s3 s4 z1 z2 l1 l2 l3 l4
  obtain ⟨a, ha⟩ : ∃ a, x.ticket = a := ⟨_, rfl⟩
  obtain ⟨b, hb⟩ : ∃ b, x.op = b := ⟨_, rfl⟩
  obtain ⟨c, hc⟩ : ∃ c, x.worker = c := ⟨_, rfl⟩
  obtain ⟨d, hd⟩ : ∃ d, x.at_ = d := ⟨_, rfl⟩
  rw [HY.out]
  rw [ha, hb, hc, hd] at hW
  rw [ha] at HI1
  rw [hb] at HI2
  rw [hc] at HI3
  rw [hd] at HI4
  simp only [ha, hb, hc, hd] at HK
  rw [ha, hb, hc, hd]
  clear ha hb hc hd HX HY
  go_enter Tryz.func29, Tryz.ntmps29
  go_wp2_with fail
  rw [← hW]
  clear hW
  have hq := Below.refl W0.heap.size W0
  obtain ⟨x0, x1, x2, x3⟩ := (HK W0).out hq
  go_region_held3 (fun w' => w'.cell? ⟨w.heap.size, 0, none⟩ = some (.int .i64 a) ∧ w'.cell? ⟨w.heap.size, 1, none⟩ = some (.int .i64 b) ∧ w'.cell? ⟨w.heap.size, 2, none⟩ = some (.int .i64 c) ∧ w'.cell? ⟨w.heap.size, 3, none⟩ = some (.int .i64 d))
    ((refine (HK _).out ?_; repeat (first | (with_reducible exact Below.refl _ _) | (with_reducible exact hq) | (with_reducible refine Below.drew ?_) | (with_reducible refine Below.alo ?_ _))))
    ((go_at_call 53; go_must ((first
        | (with_reducible refine (HI1.out _ (by repeat (first | (with_reducible exact Below.refl _ _) | (with_reducible exact hq) | (with_reducible refine Below.drew ?_)))).mono ?_)
        | (with_reducible refine (HI2.out _ (by repeat (first | (with_reducible exact Below.refl _ _) | (with_reducible exact hq) | (with_reducible refine Below.drew ?_)))).mono ?_)
        | (with_reducible refine (HI3.out _ (by repeat (first | (with_reducible exact Below.refl _ _) | (with_reducible exact hq) | (with_reducible refine Below.drew ?_)))).mono ?_)
        | (with_reducible refine (HI4.out _ (by repeat (first | (with_reducible exact Below.refl _ _) | (with_reducible exact hq) | (with_reducible refine Below.drew ?_)))).mono ?_)); rintro e u1 ⟨rfl, hv⟩; replace hq := below_then hq hv; clear hv)))
  go_wp2_with fail
  go_ret
  exact ⟨rfl, HB0.out.trans (hq.mono HB0.out.size)⟩
end Go.Proofs.YtgldhjmedidmoaaGreatDoor
