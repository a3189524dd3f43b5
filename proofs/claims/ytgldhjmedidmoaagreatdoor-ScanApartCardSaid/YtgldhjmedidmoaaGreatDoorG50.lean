/-
  Several texts in one: The law ScanFirst returns true. Conditions: Std; the floor and the scans lie in memory.
-/
import Derived.Test.YtgldhjmedidmoaaGreatDoorG46
import Derived.Test.YtgldhjmedidmoaaGreatDoorG49

/- The law ScanFirst returns true. Conditions: Std; the floor and the scans lie in memory. -/
namespace Go.Proofs.YtgldhjmedidmoaaGreatDoor
open Go.RowKit
open Go.Lib hiding intOf

theorem Sl.take_ {w : World} {B n k : Nat} {A : Option Addr} {xs : List Value} (h : Sl w B A n xs) (hk : k ≤ n) : Sl w B A k (xs.take k) := by
  refine ⟨by rw [List.length_take, h.len]; omega, fun h0 => ?_⟩
  obtain ⟨b, off, e, hb, hc⟩ := h.2 (by omega)
  refine ⟨b, off, e, hb, fun j u hu => hc j u ?_⟩
  rw [List.getElem?_take] at hu
  split at hu
  · exact hu
  · cases hu
theorem ints_take (xs : List Int) (k : Nat) : ints (xs.take k) = (ints xs).take k := by
  unfold ints
  rw [List.map_take]
/-- Judge where it goes on. -/
theorem judge_ok (F : FH) (s : PStyle) (bs : List PBundle) (ws : List PWorker) (X : Option Addr) (n xc : Nat) (xs : List PScan) (w : World) (h : FloorA w s bs ws F) (hs : FloorS s ws) (hx : Recs 4 scanG w X n xs) (h0 : judgeErr s bs ws xs.length = 0) :
    Calls Tryz.prog 18 #[.agg #[.string s.name, .slice F.Z F.z F.zc, .slice F.M F.m F.mc, .slice F.P F.p F.pc, .slice F.U F.u F.uc, .slice F.E F.e F.ec, .slice F.O F.o F.oc, .slice F.L F.n F.c, .slice F.V F.k F.kc], .slice X n xc] w fun e w' => ∃ g, e = .returned (.tuple #[.slice (some ⟨g, 0, none⟩) n n, .int .i64 0]) ∧ Sl w' w'.heap.size (some ⟨g, 0, none⟩) n (ints (judgeP s bs ws xs)) ∧ Below w.heap.size w w' := by
  refine (fjudge_any F s bs ws X n xc xs w h hs hx).mono fun e w' hret => ?_
  have := hret.ok h0
  rw [hx.len] at this
  exact this
set_option maxRecDepth 100000 in
set_option maxHeartbeats 12800000 in
theorem scanFirst_walk (F : FH) (s : PStyle) (bs : List PBundle) (ws : List PWorker) (X : Option Addr) (n xc : Nat) (xs : List PScan) (z : Nat) (w : World) (hw : Std w) (h : FloorA w s bs ws F) (hx : Recs 4 scanG w X n xs) (hc : n ≤ xc) (hz : z ≤ 255) :
    Calls Tryz.prog 9 #[.agg #[.string s.name, .slice F.Z F.z F.zc, .slice F.M F.m F.mc, .slice F.P F.p F.pc, .slice F.U F.u F.uc, .slice F.E F.e F.ec, .slice F.O F.o F.oc, .slice F.L F.n F.c, .slice F.V F.k F.kc], .slice X n xc, .int .u8 (z : Int)] w (RetLaw w) := by
  have HB : Hid (Below w.heap.size w (w.alloc (.cells #[.string s.name, .slice F.Z F.z F.zc, .slice F.M F.m F.mc, .slice F.P F.p F.pc, .slice F.U F.u F.uc, .slice F.E F.e F.ec, .slice F.O F.o F.oc, .slice F.L F.n F.c, .slice F.V F.k F.kc] 33))) := (Below.refl _ _).alloc (Nat.le_refl _) _
  have HX := Lib.hid (Blk.new w 33 #[.string s.name, .slice F.Z F.z F.zc, .slice F.M F.m F.mc, .slice F.P F.p F.pc, .slice F.U F.u F.uc, .slice F.E F.e F.ec, .slice F.O F.o F.oc, .slice F.L F.n F.c, .slice F.V F.k F.kc])
  have hF := few_any F s bs ws X n xc _ (h.on HB.out)
  have HA := Lib.hid h
  have HXS := Lib.hid hx
  have HW := Lib.hid hw
  have HFB := fun hf : fewB s bs ws n = true => few_all hf
  obtain ⟨R, hR⟩ : ∃ R, fewB s bs ws n = R := ⟨_, rfl⟩
  rw [hR] at hF HFB
  have HF := Lib.hid hF
  clear h hx hw hF hR
  cases R
  · clear HFB
    go_enter Tryz.func9, Tryz.ntmps9
    go_wp2_with fail
    refine HF.out.mono ?_
    rintro e1 w1 ⟨rfl, hb1⟩
    have HB1 := Lib.hid (HB.out.trans (hb1.mono HB.out.size))
    have HE := Lib.hid (example_any w1 (HW.out.below HB1.out))
    clear hb1
    go_wp2_with fail
    refine HE.out.mono ?_
    rintro e2 w2 ⟨rfl, hb2⟩
    have HB2 := Lib.hid (HB1.out.trans (hb2.mono HB1.out.size))
    clear hb2
    go_wp2_with fail
    go_ret
    exact ⟨rfl, HB2.out⟩
  · obtain ⟨f1, f2, f3, f4, f5⟩ := HFB rfl
    have HFS : Hid (FloorS s ws) := ⟨f1, f4⟩
    clear HFB f1 f2 f3 f4
    go_enter Tryz.func9, Tryz.ntmps9
    go_wp2_with fail
    refine HF.out.mono ?_
    rintro e1 w1 ⟨rfl, hb1⟩
    have HB1 := Lib.hid (HB.out.trans (hb1.mono HB.out.size))
    have HX1 := Lib.hid (HX.out.below hb1)
    have HJ := Lib.hid (fjudge_any F s bs ws X n xc xs w1 (HA.out.on HB1.out) HFS.out (HXS.out.on scan_mono HB1.out))
    obtain ⟨x0, x1, x2, x3, x4, x5, x6, x7, x8⟩ := nine_box HX1.out
    clear hb1
    go_wp2_with fail
    refine HJ.out.mono ?_
    rintro e2 w2 ⟨hb2, ⟨hne, rfl⟩ | ⟨hz0, g, rfl, hsl⟩⟩
    · have HB2 := Lib.hid (HB1.out.trans (hb2.mono HB1.out.size))
      have HE := Lib.hid (example_any w2 (HW.out.below HB2.out))
      obtain ⟨J, hJ⟩ : ∃ J, judgeErr s bs ws xs.length = J := ⟨_, rfl⟩
      rw [hJ] at hne ⊢
      have hne' : (J != 0) = true := by simpa using hne
      clear hb2 hne hJ
      go_wp2_with fail
      refine HE.out.mono ?_
      rintro e3 w3 ⟨rfl, hb3⟩
      have HB3 := Lib.hid (HB2.out.trans (hb3.mono HB2.out.size))
      clear hb3
      go_wp2_with fail
      go_ret
      exact ⟨rfl, HB3.out⟩
    · have hln := HXS.out.len
      obtain ⟨z1, z2⟩ := jerr_zero hz0
      have HB2 := Lib.hid (HB1.out.trans (hb2.mono HB1.out.size))
      have HX2 := Lib.hid (HX1.out.below hb2)
      rw [hln] at hsl z2
      obtain ⟨k, hk⟩ : ∃ k, min z n = k := ⟨_, rfl⟩
      have hkz : min (z : Int) (n : Int) = (k : Int) := by omega
      have hkn : k ≤ n := by omega
      have hlk : (xs.take k).length = k := by rw [List.length_take, hln]; omega
      have HJ2 := Lib.hid (fun W (hb : Below w2.heap.size w2 W) => judge_ok F s bs ws X k xc (xs.take k) W (HA.out.on (HB2.out.trans (hb.mono HB2.out.size))) HFS.out ((HXS.out.on scan_mono (HB2.out.trans (hb.mono HB2.out.size))).take hkn) (jerr_ok z1 (by rw [hlk]; omega)))
      have HTK : Hid (judgeP s bs ws (xs.take k) = (judgeP s bs ws xs).take k) := judge_take xs k
      have HSL := Lib.hid hsl
      have HLN := Lib.hid hln
      have i1 : (k : Int) ≤ (xc : Int) := by omega
      have i2 : (0 : Int) ≤ (k : Int) := by omega
      clear hb2 hz0 z1 hk hsl hlk
      rw [hln]
      clear x0 x1 x2 x3 x4 x5 x6 x7 x8 hln
      go_wp2_with fail
      have hq := Below.refl w2.heap.size w2
      have HK := fun W => Lib.hid (fun (hb : Below w2.heap.size w2 W) => nine_box (HX2.out.below hb))
      obtain ⟨x0, x1, x2, x3, x4, x5, x6, x7, x8⟩ := (HK w2).out hq
      go_region_held3 (fun w' => w'.cell? ⟨w.heap.size, 0, none⟩ = some (.string s.name) ∧ w'.cell? ⟨w.heap.size, 1, none⟩ = some (.slice F.Z F.z F.zc) ∧ w'.cell? ⟨w.heap.size, 2, none⟩ = some (.slice F.M F.m F.mc) ∧ w'.cell? ⟨w.heap.size, 3, none⟩ = some (.slice F.P F.p F.pc) ∧ w'.cell? ⟨w.heap.size, 4, none⟩ = some (.slice F.U F.u F.uc) ∧ w'.cell? ⟨w.heap.size, 5, none⟩ = some (.slice F.E F.e F.ec) ∧ w'.cell? ⟨w.heap.size, 6, none⟩ = some (.slice F.O F.o F.oc) ∧ w'.cell? ⟨w.heap.size, 7, none⟩ = some (.slice F.L F.n F.c) ∧ w'.cell? ⟨w.heap.size, 8, none⟩ = some (.slice F.V F.k F.kc))
        ((refine (HK _).out ?_; repeat (first | (with_reducible exact Below.refl _ _) | (with_reducible exact hq) | (with_reducible refine Below.drew ?_) | (with_reducible refine Below.alo ?_ _))))
        ((go_at_call 18; go_must ((refine (HJ2.out _ (by repeat (first | (with_reducible exact Below.refl _ _) | (with_reducible refine Below.drew ?_)))).mono ?_); rintro e u1 ⟨g2, rfl, hs2, hv⟩; have HS2 := Lib.hid hs2; replace hq := below_then hq hv; clear hv hs2)))
      have HB3 := Lib.hid (HB2.out.trans (hq.mono HB2.out.size))
      have HSA := Lib.hid ((HSL.out.on hq).take_ hkn)
      rw [← ints_take, ← HTK.out] at HSA
      have HSI := Lib.hid (sameInts_true (judgeP s bs ws (xs.take k)) (some ⟨g2, 0, none⟩) k k (some ⟨g, 0, none⟩) n u1 HS2.out HSA.out (by omega))
      clear x0 x1 x2 x3 x4 x5 x6 x7 x8 hq HJ2 hkz
      go_wp2_with fail
      refine HSI.out.mono ?_
      rintro e4 w4 ⟨rfl, hb4⟩
      have HB4 := Lib.hid (HB3.out.trans (hb4.mono HB3.out.size))
      have HE := Lib.hid (example_any w4 (HW.out.below HB4.out))
      clear hb4
      go_wp2_with fail
      refine HE.out.mono ?_
      rintro e5 w5 ⟨rfl, hb5⟩
      have HB5 := Lib.hid (HB4.out.trans (hb5.mono HB4.out.size))
      clear hb5
      go_wp2_with fail
      go_ret
      exact ⟨rfl, HB5.out⟩
end Go.Proofs.YtgldhjmedidmoaaGreatDoor
