/-
  Several texts in one: garmentref25.Light, (Floor).few: short floors. Conditions: none.
-/
import Derived.Test.YtgldhjmedidmoaaGreatDoorG45
import Derived.Test.YtgldhjmedidmoaaGreatDoorG48

/- garmentref25.Light, (Floor).few: short floors. Conditions: none. -/
namespace Go.Proofs.YtgldhjmedidmoaaGreatDoor
open Go.RowKit
open Go.Lib hiding intOf

theorem lightB_eq {s : PStyle} {k z m u e o p : Nat} (h0 : s.name.size = k) (h1 : s.sizes.length = z) (h2 : s.multiples.length = m) (h3 : s.uses.length = u) (h4 : s.seams.length = e) (h5 : s.ops.length = o) (h6 : s.pieces.length = p) :
    lightB s = (decide (k ≤ 100) && (decide (z ≤ 30) && (decide (m ≤ 30) && (decide (u ≤ 30) && (decide (e ≤ 30) && (decide (o ≤ 30) && (decide (p ≤ 14) &&
    (s.sizes.all (fun z : ByteArray => decide (z.size ≤ 100)) && s.pieces.all fun p => decide (p.name.size ≤ 100) && pieceL p)))))))) := by
  unfold lightB
  rw [h0, h1, h2, h3, h4, h5, h6]
set_option maxRecDepth 100000 in
set_option maxHeartbeats 12800000 in
theorem styleLight_any (s : PStyle) (Z : Option Addr) (z zc : Nat) (M : Option Addr) (m mc : Nat) (P : Option Addr) (p pc : Nat) (U : Option Addr) (u uc : Nat) (E : Option Addr) (e ec : Nat) (O : Option Addr) (o oc : Nat) (w : World) (h : StyleA w s Z z zc M m mc P p pc U u uc E e ec O o oc) :
    Calls Tryz.prog 33 #[.agg #[.string s.name, .slice Z z zc, .slice M m mc, .slice P p pc, .slice U u uc, .slice E e ec, .slice O o oc]] w fun e w' => e = .returned (.bool (lightB s)) ∧ Below w.heap.size w w' := by
  have HB : Hid (Below w.heap.size w (w.alloc (.cells #[.string s.name, .slice Z z zc, .slice M m mc, .slice P p pc, .slice U u uc, .slice E e ec, .slice O o oc] 29))) := (Below.refl _ _).alloc (Nat.le_refl _) _
  have HX := Lib.hid (Blk.new w 29 #[.string s.name, .slice Z z zc, .slice M m mc, .slice P p pc, .slice U u uc, .slice E e ec, .slice O o oc])
  obtain ⟨k0, hk0⟩ : ∃ k, s.name.size = k := ⟨_, rfl⟩
  have HQ := Lib.hid (lightB_eq hk0 h.sizes.slen h.mults.ilen h.uses.len h.seams.len h.ops.len h.pieces.len)
  have HSZ := Lib.hid h.sizes
  have HPC := Lib.hid h.pieces
  have HLN := Lib.hid (And.intro h.sizes.slen h.pieces.len)
  obtain ⟨R, hR⟩ : ∃ R, lightB s = R := ⟨_, rfl⟩
  rw [hR] at HQ ⊢
  clear h hR
  by_cases a0 : 100 < k0
  · have HE : Hid (R = false) := by rw [Hid, HQ.out]; simp only [decide_eq_false (p := k0 ≤ 100) (by omega), Bool.false_and]
    go_enter Tryz.func33, Tryz.ntmps33
    go_wp2
    go_ret
    exact ⟨by rw [HE.out]; rfl, HB.out⟩
  by_cases az : 30 < z
  · have HE : Hid (R = false) := by rw [Hid, HQ.out]; simp only [decide_eq_false (p := z ≤ 30) (by omega), Bool.false_and, Bool.and_false]
    go_enter Tryz.func33, Tryz.ntmps33
    go_wp2
    go_ret
    exact ⟨by rw [HE.out]; rfl, HB.out⟩
  by_cases am : 30 < m
  · have HE : Hid (R = false) := by rw [Hid, HQ.out]; simp only [decide_eq_false (p := m ≤ 30) (by omega), Bool.false_and, Bool.and_false]
    go_enter Tryz.func33, Tryz.ntmps33
    go_wp2
    go_ret
    exact ⟨by rw [HE.out]; rfl, HB.out⟩
  by_cases au : 30 < u
  · have HE : Hid (R = false) := by rw [Hid, HQ.out]; simp only [decide_eq_false (p := u ≤ 30) (by omega), Bool.false_and, Bool.and_false]
    go_enter Tryz.func33, Tryz.ntmps33
    go_wp2
    go_ret
    exact ⟨by rw [HE.out]; rfl, HB.out⟩
  by_cases ae : 30 < e
  · have HE : Hid (R = false) := by rw [Hid, HQ.out]; simp only [decide_eq_false (p := e ≤ 30) (by omega), Bool.false_and, Bool.and_false]
    go_enter Tryz.func33, Tryz.ntmps33
    go_wp2
    go_ret
    exact ⟨by rw [HE.out]; rfl, HB.out⟩
  by_cases ao : 30 < o
  · have HE : Hid (R = false) := by rw [Hid, HQ.out]; simp only [decide_eq_false (p := o ≤ 30) (by omega), Bool.false_and, Bool.and_false]
    go_enter Tryz.func33, Tryz.ntmps33
    go_wp2
    go_ret
    exact ⟨by rw [HE.out]; rfl, HB.out⟩
  by_cases ap : 14 < p
  · have HE : Hid (R = false) := by rw [Hid, HQ.out]; simp only [decide_eq_false (p := p ≤ 14) (by omega), Bool.false_and, Bool.and_false]
    go_enter Tryz.func33, Tryz.ntmps33
    go_wp2
    go_ret
    exact ⟨by rw [HE.out]; rfl, HB.out⟩
  have HQ2 : Hid (R = (s.sizes.all (fun z : ByteArray => decide (z.size ≤ 100)) && s.pieces.all fun p => decide (p.name.size ≤ 100) && pieceL p)) := by
    rw [Hid, HQ.out, decide_eq_true (by omega), decide_eq_true (by omega), decide_eq_true (by omega), decide_eq_true (by omega), decide_eq_true (by omega), decide_eq_true (by omega), decide_eq_true (by omega)]
    rfl
  clear HQ
  go_enter Tryz.func33, Tryz.ntmps33
  go_wp2
  go_loop [3] (fun i => ∃ k : Nat, k ≤ z ∧ i = .int .i64 (k : Int) ∧ Hid (∀ (j : Nat) (x : ByteArray), j < k → s.sizes[j]? = some x → decide (x.size ≤ 100) = true)) (fun i => z - (intOf i).toNat)
  case atStart => exact ⟨0, Nat.zero_le _, rfl, fun j x hj => by omega⟩
  case round =>
    obtain ⟨k, hk, rfl, hall⟩ := hrel
    by_cases hlt : k < z
    · obtain ⟨b, off, x, rfl, hbw, hx, c0⟩ := HSZ.out.str_ hlt
      replace c0 := (HB.out.cell (p := ⟨b, off + k, none⟩) hbw).trans c0
      have HXX := Lib.hid hx
      obtain ⟨q, hq⟩ : ∃ m, x.size = m := ⟨_, rfl⟩
      have HM := Lib.hid hq
      have i1 : (0 : Int) ≤ (k : Int) := by omega
      have i2 : (k : Int) < (z : Int) := by omega
      clear hx
      by_cases e1 : 100 < q
      · have HE : Hid (R = false) := by
          rw [Hid, HQ2.out, all_no HXX.out (by rw [HM.out, decide_eq_false (by omega)]), Bool.false_and]
        go_wp2_with fail
        go_ret
        exact ⟨by rw [HE.out]; rfl, HB.out⟩
      have HE : Hid (∀ (j : Nat) (x : ByteArray), j < k + 1 → s.sizes[j]? = some x → decide (x.size ≤ 100) = true) := fun j y hj hy => by
        by_cases e : j = k
        · subst e
          rw [HXX.out] at hy
          rw [← Option.some.inj hy, HM.out, decide_eq_true (by omega)]
        · exact hall.out j y (by omega) hy
      go_wp2_with fail
      go_round
      case rel => exact ⟨k + 1, by omega, by go_num, HE⟩
      case measure => simp [intOf]; omega
    · obtain rfl : z = k := by omega
      have HQ3 : Hid (R = s.pieces.all fun p => decide (p.name.size ≤ 100) && pieceL p) := by
        rw [Hid, HQ2.out, all_yes (f := fun z : ByteArray => decide (z.size ≤ 100)) (fun j x hx => hall.out j x (by rw [← HLN.out.1]; exact (List.getElem?_eq_some_iff.1 hx).1) hx), Bool.true_and]
      clear hall hk hlt HQ2
      go_wp2_with fail
      go_loopw [4] (fun i wr => ∃ k : Nat, k ≤ p ∧ i = .int .i64 (k : Int) ∧ Hid (∀ (j : Nat) (x : PPiece), j < k → s.pieces[j]? = some x → (decide (x.name.size ≤ 100) && pieceL x) = true) ∧ Hid (Below (w.alloc (.cells #[.string s.name, .slice Z z zc, .slice M m mc, .slice P p pc, .slice U u uc, .slice E e ec, .slice O o oc] 29)).heap.size (w.alloc (.cells #[.string s.name, .slice Z z zc, .slice M m mc, .slice P p pc, .slice U u uc, .slice E e ec, .slice O o oc] 29)) wr)) (fun i _ => p - (intOf i).toNat)
      case atStart => exact ⟨0, Nat.zero_le _, rfl, (fun j x hj => by omega), Below.refl _ _⟩
      case round =>
        obtain ⟨k, hk, rfl, hall, HBL⟩ := hrel
        have HBV := Lib.hid (HB.out.trans (HBL.out.mono HB.out.size))
        obtain ⟨x0, x1, x2, x3, x4, x5, x6⟩ := seven (HX.out.below HBL.out)
        by_cases hlt : k < p
        · obtain ⟨b, off, x, E', en, ec', N, nn, nc, C, cn, cc, D, dn, dc, rfl, hbw, hx, c0, c1, c2, c3, c4, c5, c6, r1, r2, r3, r4, r5, r6, r7, r8⟩ := piece_cells (HPC.out.on piece_mono HBV.out) hlt
          have HXX := Lib.hid hx
          have HLT := pieceLight_any x E' en ec' N nn nc C cn cc D dn dc wr r1 r3.len r5.len r7.ilen
          obtain ⟨V, hV⟩ : ∃ V, pieceL x = V := ⟨_, rfl⟩
          rw [hV] at HLT
          have HV := Lib.hid hV
          have HLT := Lib.hid HLT
          obtain ⟨q, hq⟩ : ∃ m, x.name.size = m := ⟨_, rfl⟩
          have HM := Lib.hid hq
          have i1 : (0 : Int) ≤ (k : Int) := by omega
          have i2 : (k : Int) < (p : Int) := by omega
          clear hx r1 r3 r5 r7 hV
          by_cases e1 : 100 < q
          · have HE : Hid (R = false) := by
              rw [Hid, HQ3.out, all_no HXX.out (by rw [HM.out, decide_eq_false (by omega)]; rfl)]
            go_wp2_with fail
            go_ret
            exact ⟨by rw [HE.out]; rfl, HBV.out⟩
          cases V
          · have HE : Hid (R = false) := by
              rw [Hid, HQ3.out, all_no HXX.out (by rw [HV.out, Bool.and_false])]
            go_wp2_with fail
            refine HLT.out.mono ?_
            rintro e2 w2 ⟨rfl, hb2⟩
            have HB2 := Lib.hid (HBV.out.trans (hb2.mono HBV.out.size))
            clear hb2
            go_wp2_with fail
            go_ret
            exact ⟨by rw [HE.out]; rfl, HB2.out⟩
          · have HE : Hid (∀ (j : Nat) (x : PPiece), j < k + 1 → s.pieces[j]? = some x → (decide (x.name.size ≤ 100) && pieceL x) = true) := fun j y hj hy => by
              by_cases e : j = k
              · subst e
                rw [HXX.out] at hy
                rw [← Option.some.inj hy, HM.out, HV.out, decide_eq_true (by omega)]
                rfl
              · exact hall.out j y (by omega) hy
            go_wp2_with fail
            refine HLT.out.mono ?_
            rintro e2 w2 ⟨rfl, hb2⟩
            have HB2 := Lib.hid (HBL.out.trans (hb2.mono HBL.out.size))
            clear hb2
            go_wp2_with fail
            go_roundw
            case rel => exact ⟨k + 1, by omega, by go_num, HE, HB2⟩
            case measure => simp [intOf]; omega
        · obtain rfl : p = k := by omega
          have HE : Hid (R = true) := by
            rw [Hid, HQ3.out]
            exact all_yes fun j x hx => hall.out j x (by rw [← HLN.out.2]; exact (List.getElem?_eq_some_iff.1 hx).1) hx
          go_wp2_with fail
          go_ret
          exact ⟨by rw [HE.out]; rfl, HBV.out⟩
set_option maxRecDepth 100000 in
set_option maxHeartbeats 12800000 in
theorem few_any (F : FH) (s : PStyle) (bs : List PBundle) (ws : List PWorker) (X : Option Addr) (n xc : Nat) (w : World) (h : FloorA w s bs ws F) :
    Calls Tryz.prog 14 #[.agg #[.string s.name, .slice F.Z F.z F.zc, .slice F.M F.m F.mc, .slice F.P F.p F.pc, .slice F.U F.u F.uc, .slice F.E F.e F.ec, .slice F.O F.o F.oc, .slice F.L F.n F.c, .slice F.V F.k F.kc], .slice X n xc] w fun e w' => e = .returned (.bool (fewB s bs ws n)) ∧ Below w.heap.size w w' := by
  have HB : Hid (Below w.heap.size w (w.alloc (.cells #[.string s.name, .slice F.Z F.z F.zc, .slice F.M F.m F.mc, .slice F.P F.p F.pc, .slice F.U F.u F.uc, .slice F.E F.e F.ec, .slice F.O F.o F.oc, .slice F.L F.n F.c, .slice F.V F.k F.kc] 33))) := (Below.refl _ _).alloc (Nat.le_refl _) _
  have HX := Lib.hid (Blk.new w 33 #[.string s.name, .slice F.Z F.z F.zc, .slice F.M F.m F.mc, .slice F.P F.p F.pc, .slice F.U F.u F.uc, .slice F.E F.e F.ec, .slice F.O F.o F.oc, .slice F.L F.n F.c, .slice F.V F.k F.kc])
  have h1 := h.on HB.out
  have HL := styleLight_any s F.Z F.z F.zc F.M F.m F.mc F.P F.p F.pc F.U F.u F.uc F.E F.e F.ec F.O F.o F.oc _ h1.st
  have HA := Lib.hid h1
  have HQ : Hid (fewB s bs ws n = (lightB s && (fewO s.ops && (decide (F.n ≤ 70) && (fewW ws && decide (n ≤ 310)))))) := by
    unfold fewB
    rw [Hid, h.bun.len]
  obtain ⟨R, hR⟩ : ∃ R, fewB s bs ws n = R := ⟨_, rfl⟩
  obtain ⟨b1, e1⟩ : ∃ b, lightB s = b := ⟨_, rfl⟩
  obtain ⟨b2, e2⟩ : ∃ b, fewO s.ops = b := ⟨_, rfl⟩
  obtain ⟨b3, e3⟩ : ∃ b, fewW ws = b := ⟨_, rfl⟩
  rw [hR, e1, e2, e3] at HQ
  rw [e1] at HL
  rw [hR]
  have HO := Lib.hid (fun W (hr : Recs 5 opG W F.O F.o s.ops) => fewO_any F.O F.o F.oc s.ops W hr)
  have HW := Lib.hid (fun W (hr : Recs 2 workerG W F.V F.k ws) => fewW_any F.V F.k F.kc ws W hr)
  rw [e2] at HO
  rw [e3] at HW
  have HL := Lib.hid HL
  clear h h1 e1 e2 e3 hR
  cases b1
  · have HE : Hid (R = false) := HQ.out
    go_enter Tryz.func14, Tryz.ntmps14
    go_wp2_with fail
    refine HL.out.mono ?_
    rintro e w1 ⟨rfl, hb⟩
    have HB1 := Lib.hid (HB.out.trans (hb.mono HB.out.size))
    clear hb
    go_wp2_with fail
    go_ret
    exact ⟨by rw [HE.out]; rfl, HB1.out⟩
  cases b2
  · have HE : Hid (R = false) := HQ.out
    go_enter Tryz.func14, Tryz.ntmps14
    go_wp2_with fail
    refine HL.out.mono ?_
    rintro e w1 ⟨rfl, hb⟩
    have HB1 := Lib.hid (HB.out.trans (hb.mono HB.out.size))
    have HO1 := Lib.hid (HO.out w1 (HA.out.on hb).st.ops)
    obtain ⟨x0, x1, x2, x3, x4, x5, x6, x7, x8⟩ := nine_box (HX.out.below hb)
    clear hb
    go_wp2_with fail
    refine HO1.out.mono ?_
    rintro e w2 ⟨rfl, rfl⟩
    go_wp2_with fail
    go_ret
    exact ⟨by rw [HE.out]; rfl, HB1.out⟩
  by_cases a3 : F.n ≤ 70
  · cases b3
    · have HE : Hid (R = false) := by rw [Hid, HQ.out]; simp
      go_enter Tryz.func14, Tryz.ntmps14
      go_wp2_with fail
      refine HL.out.mono ?_
      rintro e w1 ⟨rfl, hb⟩
      have HB1 := Lib.hid (HB.out.trans (hb.mono HB.out.size))
      have HO1 := Lib.hid (HO.out w1 (HA.out.on hb).st.ops)
      have HW1 := Lib.hid (HW.out w1 (HA.out.on hb).wor)
      obtain ⟨x0, x1, x2, x3, x4, x5, x6, x7, x8⟩ := nine_box (HX.out.below hb)
      clear hb
      go_wp2_with (first | (go_at_call 34; refine HO1.out.mono ?_; rintro e w2 ⟨rfl, rfl⟩) | (go_at_call 35; refine HW1.out.mono ?_; rintro e w3 ⟨rfl, rfl⟩))
      go_ret
      exact ⟨by rw [HE.out]; rfl, HB1.out⟩
    · have HE : Hid (R = decide (n ≤ 310)) := by rw [Hid, HQ.out, decide_eq_true a3]; rfl
      go_enter Tryz.func14, Tryz.ntmps14
      go_wp2_with fail
      refine HL.out.mono ?_
      rintro e w1 ⟨rfl, hb⟩
      have HB1 := Lib.hid (HB.out.trans (hb.mono HB.out.size))
      have HO1 := Lib.hid (HO.out w1 (HA.out.on hb).st.ops)
      have HW1 := Lib.hid (HW.out w1 (HA.out.on hb).wor)
      obtain ⟨x0, x1, x2, x3, x4, x5, x6, x7, x8⟩ := nine_box (HX.out.below hb)
      clear hb
      go_wp2_with (first | (go_at_call 34; refine HO1.out.mono ?_; rintro e w2 ⟨rfl, rfl⟩) | (go_at_call 35; refine HW1.out.mono ?_; rintro e w3 ⟨rfl, rfl⟩))
      go_ret
      refine ⟨?_, HB1.out⟩
      rw [HE.out]
      by_cases a5 : n ≤ 310
      · simp [a5]; omega
      · simp [a5]; omega
  · have HE : Hid (R = false) := by rw [Hid, HQ.out, decide_eq_false a3]; rfl
    go_enter Tryz.func14, Tryz.ntmps14
    go_wp2_with fail
    refine HL.out.mono ?_
    rintro e w1 ⟨rfl, hb⟩
    have HB1 := Lib.hid (HB.out.trans (hb.mono HB.out.size))
    have HO1 := Lib.hid (HO.out w1 (HA.out.on hb).st.ops)
    obtain ⟨x0, x1, x2, x3, x4, x5, x6, x7, x8⟩ := nine_box (HX.out.below hb)
    clear hb
    go_wp2_with (go_at_call 34; refine HO1.out.mono ?_; rintro e w2 ⟨rfl, rfl⟩)
    go_ret
    exact ⟨by rw [HE.out]; rfl, HB1.out⟩
end Go.Proofs.YtgldhjmedidmoaaGreatDoor
