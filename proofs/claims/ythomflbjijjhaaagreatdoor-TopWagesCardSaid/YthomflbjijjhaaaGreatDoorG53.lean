/-
  Several texts in one: The walk of TopWages: it returns true for every case, tariff and number, and leaves what there was. Conditions: what the variables hold (StdT); how the case lies.
-/
import Derived.Deep.CutBlock
import Derived.Deep.DeepCutAuto
import Derived.Test.YthomflbjijjhaaaGreatDoorG38
import Derived.Test.YthomflbjijjhaaaGreatDoorG52

/- The walk of TopWages: it returns true for every case, tariff and number, and leaves what there was. Conditions: what the variables hold (StdT); how the case lies. -/
namespace Go.Proofs.YthomflbjijjhaaaGreatDoor
open Go.RowKit
open Go.Lib hiding intOf

theorem scan_neq (y : PScan) (w : World) : (Op.equalIn 10000 49 (.agg #[.int .i64 y.ticket, .int .i64 y.op, .int .i64 y.worker, .int .i64 y.at_]) (.agg #[.int .i64 y.ticket, .int .i64 y.op, .int .i64 y.worker, .int .i64 y.at_])).run Tryz.prog w = (Op.equalIn 10000 49 (.agg #[.int .i64 y.ticket, .int .i64 y.op, .int .i64 y.worker, .int .i64 y.at_]) (.agg #[.int .i64 y.ticket, .int .i64 y.op, .int .i64 y.worker, .int .i64 y.at_])).run Tryz.prog w := rfl
theorem take_at {xs : List PScan} {m i : Nat} {x : PScan} (h : (xs.take m)[i]? = some x) : xs[i]? = some x := by
  rw [List.getElem?_take] at h
  split at h
  · exact h
  · cases h
/-- A wage of the same worker, no smaller. -/
def keptB (pa pb : Int) (q : PPay) : Bool := decide (q.worker = pa) && decide (pb ≤ q.work)
theorem any_take {α : Type} {l : List α} {j : Nat} {q : α} {f : α → Bool} (h : l[j]? = some q) : (l.take (j + 1)).any f = ((l.take j).any f || f q) := by
  rw [List.take_add_one, h, List.any_append]
  simp
set_option maxRecDepth 100000 in
set_option maxHeartbeats 25600000 in
theorem topWages_walk (F : FH) (s : PStyle) (bs : List PBundle) (ws : List PWorker) (X : Option Addr) (n xc : Nat) (xs : List PScan) (t : PTariff) (z : Nat) (W : World) (hw : StdT W) (hl : FloorA W s bs ws F) (hss : FloorS s ws) (hx : Recs 4 scanG W X n xs) (_hc : n ≤ xc) (hi : ∀ x ∈ xs, scanIn x) (hn : F.n ≤ 9223372036854775807) (hk : F.k ≤ 9223372036854775807) (hm : n ≤ 9223372036854775807) (_hr : inI t.rate) (_ht : inI t.least) (hz : z ≤ 65535) :
    Calls Tryz.prog 3 #[.agg #[.string s.name, .slice F.Z F.z F.zc, .slice F.M F.m F.mc, .slice F.P F.p F.pc, .slice F.U F.u F.uc, .slice F.E F.e F.ec, .slice F.O F.o F.oc, .slice F.L F.n F.c, .slice F.V F.k F.kc, .slice X n xc], .agg #[.int .i64 t.rate, .int .i64 t.least], .int .u16 (z : Int)] W fun e W' => e = .returned (.bool true) ∧ Below W.heap.size W W' := by
  have HBX : Hid (Below W.heap.size W ((W.alloc (.cells #[.string s.name, .slice F.Z F.z F.zc, .slice F.M F.m F.mc, .slice F.P F.p F.pc, .slice F.U F.u F.uc, .slice F.E F.e F.ec, .slice F.O F.o F.oc, .slice F.L F.n F.c, .slice F.V F.k F.kc, .slice X n xc] 34)).alloc (.cells #[.int .i64 t.rate, .int .i64 t.least] 36))) := ((Below.refl _ _).alloc (Nat.le_refl _) _).alloc (by simp) _
  have HC0 : Hid (Blk ((W.alloc (.cells #[.string s.name, .slice F.Z F.z F.zc, .slice F.M F.m F.mc, .slice F.P F.p F.pc, .slice F.U F.u F.uc, .slice F.E F.e F.ec, .slice F.O F.o F.oc, .slice F.L F.n F.c, .slice F.V F.k F.kc, .slice X n xc] 34)).alloc (.cells #[.int .i64 t.rate, .int .i64 t.least] 36)) W.heap.size 34 #[.string s.name, .slice F.Z F.z F.zc, .slice F.M F.m F.mc, .slice F.P F.p F.pc, .slice F.U F.u F.uc, .slice F.E F.e F.ec, .slice F.O F.o F.oc, .slice F.L F.n F.c, .slice F.V F.k F.kc, .slice X n xc]) := (Blk.new W _ _).alloc _
  have HT0 : Hid (Blk ((W.alloc (.cells #[.string s.name, .slice F.Z F.z F.zc, .slice F.M F.m F.mc, .slice F.P F.p F.pc, .slice F.U F.u F.uc, .slice F.E F.e F.ec, .slice F.O F.o F.oc, .slice F.L F.n F.c, .slice F.V F.k F.kc, .slice X n xc] 34)).alloc (.cells #[.int .i64 t.rate, .int .i64 t.least] 36)) (W.heap.size + 1) 36 #[.int .i64 t.rate, .int .i64 t.least]) := Blk.new' _ _ _ (by simp)
  have HW := Lib.hid hw
  have HF := Lib.hid hl
  have HSS := Lib.hid hss
  have HXS := Lib.hid hx
  have HIN := Lib.hid hi
  have HN := Lib.hid hx.len
  have HREC := Lib.hid (fun V hv => records_any V hv)
  have so : F.o ≤ 9223372036854775807 := by rw [← hl.st.ops.len]; exact hss.st.ops
  have sp : F.p ≤ 9223372036854775807 := by rw [← hl.st.pieces.len]; exact hss.st.pcs
  have su : F.u ≤ 9223372036854775807 := by rw [← hl.st.uses.len]; exact hss.st.us
  clear hw hl hss hx hi _hr _ht
  by_cases g0 : 30 < n
  · have g0' : (30 : Int) < (n : Int) := by omega
    go_enter Tryz.func3, Tryz.ntmps3
    go_wp2_with fail
    refine (HREC.out _ (HW.out.below HBX.out)).mono ?_
    rintro e1 w1 ⟨rfl, hb⟩
    go_wp2_with fail
    go_ret
    exact ⟨rfl, HBX.out.trans (hb.mono HBX.out.size)⟩
  by_cases g1 : 8 < F.n
  · have g1' : (8 : Int) < (F.n : Int) := by omega
    have g0' : ¬ (30 : Int) < (n : Int) := by omega
    go_enter Tryz.func3, Tryz.ntmps3
    go_wp2_with fail
    refine (HREC.out _ (HW.out.below HBX.out)).mono ?_
    rintro e1 w1 ⟨rfl, hb⟩
    go_wp2_with fail
    go_ret
    exact ⟨rfl, HBX.out.trans (hb.mono HBX.out.size)⟩
  by_cases g2 : 6 < F.k
  · have g2' : (6 : Int) < (F.k : Int) := by omega
    have g0' : ¬ (30 : Int) < (n : Int) := by omega
    have g1' : ¬ (8 : Int) < (F.n : Int) := by omega
    go_enter Tryz.func3, Tryz.ntmps3
    go_wp2_with fail
    refine (HREC.out _ (HW.out.below HBX.out)).mono ?_
    rintro e1 w1 ⟨rfl, hb⟩
    go_wp2_with fail
    go_ret
    exact ⟨rfl, HBX.out.trans (hb.mono HBX.out.size)⟩
  by_cases g3 : 8 < F.o
  · have g3' : (8 : Int) < (F.o : Int) := by omega
    have g0' : ¬ (30 : Int) < (n : Int) := by omega
    have g1' : ¬ (8 : Int) < (F.n : Int) := by omega
    have g2' : ¬ (6 : Int) < (F.k : Int) := by omega
    go_enter Tryz.func3, Tryz.ntmps3
    go_wp2_with fail
    refine (HREC.out _ (HW.out.below HBX.out)).mono ?_
    rintro e1 w1 ⟨rfl, hb⟩
    go_wp2_with fail
    go_ret
    exact ⟨rfl, HBX.out.trans (hb.mono HBX.out.size)⟩
  by_cases g4 : 4 < F.p
  · have g4' : (4 : Int) < (F.p : Int) := by omega
    have g0' : ¬ (30 : Int) < (n : Int) := by omega
    have g1' : ¬ (8 : Int) < (F.n : Int) := by omega
    have g2' : ¬ (6 : Int) < (F.k : Int) := by omega
    have g3' : ¬ (8 : Int) < (F.o : Int) := by omega
    go_enter Tryz.func3, Tryz.ntmps3
    go_wp2_with fail
    refine (HREC.out _ (HW.out.below HBX.out)).mono ?_
    rintro e1 w1 ⟨rfl, hb⟩
    go_wp2_with fail
    go_ret
    exact ⟨rfl, HBX.out.trans (hb.mono HBX.out.size)⟩
  by_cases g5 : 6 < F.u
  · have g5' : (6 : Int) < (F.u : Int) := by omega
    have g0' : ¬ (30 : Int) < (n : Int) := by omega
    have g1' : ¬ (8 : Int) < (F.n : Int) := by omega
    have g2' : ¬ (6 : Int) < (F.k : Int) := by omega
    have g3' : ¬ (8 : Int) < (F.o : Int) := by omega
    have g4' : ¬ (4 : Int) < (F.p : Int) := by omega
    go_enter Tryz.func3, Tryz.ntmps3
    go_wp2_with fail
    refine (HREC.out _ (HW.out.below HBX.out)).mono ?_
    rintro e1 w1 ⟨rfl, hb⟩
    go_wp2_with fail
    go_ret
    exact ⟨rfl, HBX.out.trans (hb.mono HBX.out.size)⟩
  have g0' : ¬ (30 : Int) < (n : Int) := by omega
  have g1' : ¬ (8 : Int) < (F.n : Int) := by omega
  have g2' : ¬ (6 : Int) < (F.k : Int) := by omega
  have g3' : ¬ (8 : Int) < (F.o : Int) := by omega
  have g4' : ¬ (4 : Int) < (F.p : Int) := by omega
  have g5' : ¬ (6 : Int) < (F.u : Int) := by omega
  have HK : Hid (F.k ≤ 1000) := by rw [Hid]; omega
  have HPK : Hid (F.k ≤ 6) := by rw [Hid]; omega
  have HN30 : Hid (xs.length ≤ 30) := by rw [Hid, HN.out]; omega
  have HP0 := Pays_any F s bs ws X xc xs t _ (HF.out.on HBX.out) HSS.out (by rw [HN.out]; exact HXS.out.on scan_mono HBX.out) (HW.out.below HBX.out) HK.out
  unfold RetPy at HP0
  rw [HN.out] at HP0
  obtain ⟨P, hP⟩ : ∃ l, paysP s bs ws t xs = l := ⟨_, rfl⟩
  obtain ⟨E, hE⟩ : ∃ e, paysE s bs ws t n = e := ⟨_, rfl⟩
  rw [hP, hE] at HP0
  have HP := Lib.hid hP
  have HE := Lib.hid hE
  have HP0 := Lib.hid HP0
  clear hP hE g0 g1 g2 g3 g4 g5
  go_enter Tryz.func3, Tryz.ntmps3
  go_wp2_with fail
  refine HP0.out.mono ?_
  rintro e1 w1 ⟨hb1, ⟨hne, rfl⟩ | ⟨hz0, A1, c1, rfl, hr1, _⟩⟩
  · have HB1 := Lib.hid (HBX.out.trans (hb1.mono HBX.out.size))
    have hne' : (E != 0) = true := by simpa using hne
    clear hb1 hne
    go_wp2_with fail
    refine (HREC.out _ (HW.out.below HB1.out)).mono ?_
    rintro e2 w2 ⟨rfl, hb⟩
    go_wp2_with fail
    go_ret
    exact ⟨rfl, HB1.out.trans (hb.mono HB1.out.size)⟩
  subst hz0
  clear HP0
  obtain ⟨hte, hsc, _⟩ := paysE_zero HE.out
  have HTE := Lib.hid hte
  have HSC := Lib.hid hsc
  have HB1 := Lib.hid (HBX.out.trans (hb1.mono HBX.out.size))
  have HC1 := Lib.hid (HC0.out.below hb1)
  have HT1 := Lib.hid (HT0.out.below hb1)
  have HR1 := Lib.hid hr1
  have HPL : Hid (P.length ≤ 6) := by
    have h1 := paysP_len (s := s) (bs := bs) (ws := ws) t xs
    rw [HP.out, HF.out.wor.len] at h1
    rw [Hid]
    omega
  obtain ⟨np, hnp⟩ : ∃ k, P.length = k := ⟨_, rfl⟩
  rw [hnp] at HR1 HPL ⊢
  have HNP := Lib.hid hnp
  clear hb1 hr1 hte hsc hnp
  have HWR := Lib.hid (written_any X n xc xs w1 (HW.out.below HB1.out) (HXS.out.on scan_mono HB1.out) (by have := HN30.out; rw [HN.out] at this; exact this) HIN.out)
  have a9 := HC1.out.c (i := 9) rfl
  go_wp2_with fail
  refine HWR.out.mono ?_
  rintro e2 w2 ⟨y, hy, rfl, hb2⟩
  clear a9 HWR
  have HB2 := Lib.hid (HB1.out.trans (hb2.mono HB1.out.size))
  have HC2 := Lib.hid (HC1.out.below hb2)
  have HT2 := Lib.hid (HT1.out.below hb2)
  have HR2 := Lib.hid (HR1.out.on pay_mono hb2)
  obtain ⟨hys, hyr⟩ := read_size hy HIN.out HN30.out
  have HYS := Lib.hid hys
  have HY := Lib.hid hy
  have HRD := read_any' y xs w2 (HW.out.below HB2.out) (by omega) HIN.out HN30.out hyr
  unfold RetR' at HRD
  rw [HN.out] at HRD
  have HRD := Lib.hid HRD
  clear hy hb2 hyr
  go_wp2_with fail
  refine HRD.out.mono ?_
  rintro e3 w3 ⟨A3, c3, rfl, hr3, _, hb3⟩
  clear HRD
  have HB3 := Lib.hid (HB2.out.trans (hb3.mono HB2.out.size))
  have HC3 := Lib.hid (HC2.out.below hb3)
  have HT3 := Lib.hid (HT2.out.below hb3)
  have HR3 := Lib.hid (HR2.out.on pay_mono hb3)
  have HP3 := Pays_any F s bs ws A3 c3 xs t w3 (HF.out.on HB3.out) HSS.out (by rw [HN.out]; exact hr3) (HW.out.below HB3.out) HK.out
  unfold RetPy at HP3
  rw [HN.out, HE.out, HP.out, HNP.out] at HP3
  have HP3 := Lib.hid HP3
  have a0 := HC3.out.c (i := 0) rfl
  have a1 := HC3.out.c (i := 1) rfl
  have a2 := HC3.out.c (i := 2) rfl
  have a3 := HC3.out.c (i := 3) rfl
  have a4 := HC3.out.c (i := 4) rfl
  have a5 := HC3.out.c (i := 5) rfl
  have a6 := HC3.out.c (i := 6) rfl
  have a7 := HC3.out.c (i := 7) rfl
  have a8 := HC3.out.c (i := 8) rfl
  have a9 := HC3.out.c (i := 9) rfl
  have b0 := HT3.out.c (i := 0) rfl
  have b1 := HT3.out.c (i := 1) rfl
  clear hb3 hr3
  go_wp2_with fail
  refine HP3.out.mono ?_
  rintro e4 w4 ⟨hb4, ⟨hne, _⟩ | ⟨_, A4, c4, rfl, hr4, _⟩⟩
  · exact absurd rfl hne
  clear HP3 a0 a1 a2 a3 a4 a5 a6 a7 a8 a9 b0 b1
  have HB4 := Lib.hid (HB3.out.trans (hb4.mono HB3.out.size))
  have HC4 := Lib.hid (HC3.out.below hb4)
  have HT4 := Lib.hid (HT3.out.below hb4)
  have HR4 := Lib.hid (HR3.out.on pay_mono hb4)
  have HSM := Lib.hid (samePays_true P A4 np c4 A1 c1 w4 hr4 HR4.out (by have := HPL.out; omega))
  have a9 := HC4.out.c (i := 9) rfl
  clear hb4 hr4
  go_upto_region 11 with (go_at_call 8; refine HSM.out.mono ?_; rintro e5 w5 ⟨rfl, hb5⟩)
  clear HSM a9
  have HB5 := Lib.hid (HB4.out.trans (hb5.mono HB4.out.size))
  have HC5 := Lib.hid (HC4.out.below hb5)
  have HT5 := Lib.hid (HT4.out.below hb5)
  have HR5 := Lib.hid (HR4.out.on pay_mono hb5)
  clear hb5
  obtain ⟨L, hL⟩ : ∃ L, y.size = L := ⟨_, rfl⟩
  have hys := HYS.out
  have HYL := Lib.hid hL
  obtain ⟨m, hmm⟩ : ∃ m, z % (L + 1) = m := ⟨_, rfl⟩
  have hm1 : m ≤ L := by rw [← hmm]; have := Nat.mod_lt z (show 0 < L + 1 by omega); omega
  have e1 : ((z : Int)).tmod ((y.size : Int) + 1) = (m : Int) := by rw [hL, ← hmm]; rfl
  have e2 : ¬ ((y.size : Int) + 1) = 0 := by omega
  have e3 : (0 : Int) ≤ (m : Int) := by omega
  have e4 : (m : Int) ≤ (y.size : Int) := by omega
  have hjl : y.data.toList.length = L := by rw [Array.length_toList, ← hL]; rfl
  obtain ⟨k1, hk1, hr1⟩ := jour_cut HIN.out ((y.extract 0 m).size) m
  have hr1' : readJ (y.extract 0 m).size 0 (y.extract 0 m).data.toList = (xs.take k1).map textS := by rw [ext_take, HY.out]; exact hr1
  have hsz : (y.extract 0 m).size ≤ 20000 := by rw [ByteArray.size_extract]; omega
  obtain ⟨ys, hyy⟩ : ∃ ys, xs.take k1 = ys := ⟨_, rfl⟩
  have hyl : ys.length ≤ n := by rw [← hyy, List.length_take, HN.out]; omega
  have HYY := Lib.hid hyy
  have HYA : Hid (∀ (i : Nat) (x : PScan), ys[i]? = some x → xs[i]? = some x) := fun i x h => take_at (by rw [hyy]; exact h)
  have HYI : Hid (∀ x ∈ ys, scanIn x) := fun x h => by
    obtain ⟨i, hi⟩ := List.getElem?_of_mem h
    exact HIN.out x (List.mem_of_getElem? (HYA.out i x hi))
  rw [hyy] at hr1'
  have HRD := read_any' (y.extract 0 m) ys w5 (HW.out.below HB5.out) hsz HYI.out (by have := HN30.out; rw [HN.out] at this; omega) hr1'
  unfold RetR' at HRD
  obtain ⟨ny, hny⟩ : ∃ k, ys.length = k := ⟨_, rfl⟩
  rw [hny] at HRD hyl
  have HNY := Lib.hid hny
  have HRD := Lib.hid HRD
  have HML := Lib.hid hm1
  clear hr1 hr1' hsz hyy hny hk1 hmm hm1 hL
  go_wp2_with fail
  refine HRD.out.mono ?_
  rintro e6 w6 ⟨A6, c6, rfl, hr6, _, hb6⟩
  clear HRD
  have HB6 := Lib.hid (HB5.out.trans (hb6.mono HB5.out.size))
  have HC6 := Lib.hid (HC5.out.below hb6)
  have HT6 := Lib.hid (HT5.out.below hb6)
  have HR6 := Lib.hid (HR5.out.on pay_mono hb6)
  have HQ6 := Lib.hid hr6
  have a9 := HC6.out.c (i := 9) rfl
  have g6 : ¬ (n : Int) < (ny : Int) := by omega
  clear hb6 hr6
  go_wp2_with fail
  go_loopw [18] (fun i wr => ∃ k : Nat, k ≤ ny ∧ i = .int .i64 (k : Int) ∧ Hid (Below w6.heap.size w6 wr)) (fun i _ => ny - (intOf i).toNat)
  case atStart => exact ⟨0, Nat.zero_le _, rfl, Below.refl _ _⟩
  case round =>
    obtain ⟨k, hk, rfl, HBL⟩ := hrel
    by_cases hlt : k < ny
    · obtain ⟨q1, o1, x, rfl, hq1, hx, c10, c11, c12, c13⟩ := scan_at (HQ6.out.on scan_mono HBL.out) hlt
      obtain ⟨q2, o2, x2, rfl, hq2, hx2, c20, c21, c22, c23⟩ := scan_at (HXS.out.on scan_mono (HB6.out.trans (HBL.out.mono HB6.out.size))) (show k < n by omega)
      rw [HYA.out k x hx] at hx2
      obtain rfl := Option.some.inj hx2
      obtain ⟨t0, e0⟩ : ∃ t, x.ticket = t := ⟨_, rfl⟩
      rw [e0] at c10 c20
      obtain ⟨t1, e1⟩ : ∃ t, x.op = t := ⟨_, rfl⟩
      rw [e1] at c11 c21
      obtain ⟨t2, e2⟩ : ∃ t, x.worker = t := ⟨_, rfl⟩
      rw [e2] at c12 c22
      obtain ⟨t3, e3⟩ : ∃ t, x.at_ = t := ⟨_, rfl⟩
      rw [e3] at c13 c23
      have i1 : (0 : Int) ≤ (k : Int) := by omega
      have i2 : (k : Int) < (ny : Int) := by omega
      have i3 : (k : Int) < (n : Int) := by omega
      have a9 := (HC6.out.below HBL.out).c (i := 9) rfl
      clear hx hx2 e0 e1 e2 e3
      go_wp2_with fail
      go_region
      go_wp2_with fail
      go_roundw
      case rel => exact ⟨k + 1, by omega, by go_num, by repeat (first | exact HBL.out | refine Below.drew ?_)⟩
      case measure => simp [intOf]; omega
    · obtain rfl : ny = k := by omega
      obtain ⟨w7, rfl⟩ : ∃ v, v = wr := ⟨_, rfl⟩
      have HB7 := Lib.hid (HB6.out.trans (HBL.out.mono HB6.out.size))
      have HC7 := Lib.hid (HC6.out.below HBL.out)
      have HT7 := Lib.hid (HT6.out.below HBL.out)
      have HR7 := Lib.hid (HR6.out.on pay_mono HBL.out)
      have HQ7 := Lib.hid (HQ6.out.on scan_mono HBL.out)
      clear g6 a9 e1 e2
      have hL3 : L ≤ 3180 := by have := HYL.out; have := HYS.out; omega
      have HN3 : n ≤ 30 := by have := HN30.out; rw [HN.out] at this; exact this
      go_upto_if 171 with fail
      go_cut [19, 20, 21, 22] (fun _ _ _ _ wc => Hid (Below w7.heap.size w7 wc))
      case first =>
        by_cases hlt2 : m < L
        · have f1 : (m : Int) < (y.size : Int) := by have := HYL.out; omega
          obtain ⟨b, hb⟩ : ∃ b, y.data.toList[m]? = some b := ⟨_, List.getElem?_eq_getElem (by rw [hjl]; exact hlt2)⟩
          obtain ⟨c9, WB, hconv, hBy⟩ := by_conv y w7
          have hcell := hBy.cell m b hb
          have hfree := hBy.free m (by have := HYL.out; omega)
          have hxor := xor_byte b
          have hback := by_back (c := c9) hBy hb
          obtain ⟨zs, hzs⟩ : ∃ zs : ByteArray, (⟨(flipJ m y.data.toList).toArray⟩ : ByteArray) = zs := ⟨_, rfl⟩
          have hzd : zs.data.toList = flipJ m (jour xs) := by rw [← hzs, ← HY.out]
          have hzl : zs.size = L := by
            have h1 : zs.size = zs.data.toList.length := by rw [Array.length_toList]; rfl
            rw [h1, hzd, flip_len, ← HY.out]
            exact hjl
          obtain ⟨k2, hk2, hr2⟩ := jour_bad HIN.out zs.size (n := m) (by rw [← HY.out, hjl]; exact hlt2)
          have hr2' : readJ zs.size 0 zs.data.toList = (xs.take k2).map textS := by rw [hzd]; exact hr2
          rw [hzs] at hback
          obtain ⟨v8, hv8⟩ : ∃ v : Int, ((b ^^^ 1).toNat : Int) = v := ⟨_, rfl⟩
          rw [hv8] at hxor hback
          obtain ⟨vs, hvv⟩ : ∃ vs, xs.take k2 = vs := ⟨_, rfl⟩
          have hvl : vs.length < n := by rw [← hvv, List.length_take, HN.out]; have := HN.out; omega
          have HVA : Hid (∀ (i : Nat) (x : PScan), vs[i]? = some x → xs[i]? = some x) := fun i x h => take_at (by rw [hvv]; exact h)
          have HVI : Hid (∀ x ∈ vs, scanIn x) := fun x h => by
            obtain ⟨i, hi⟩ := List.getElem?_of_mem h
            exact HIN.out x (List.mem_of_getElem? (HVA.out i x hi))
          rw [hvv] at hr2'
          have HWC := Lib.hid (hBy.below.setCell (p := ⟨w7.heap.size, m, none⟩) (Nat.le_refl _) (.int .u8 v8))
          have HRD := read_any' zs vs (WB.setCell ⟨w7.heap.size, m, none⟩ (.int .u8 v8)) ((HW.out.below HB7.out).below HWC.out) (by omega) HVI.out (by omega) hr2'
          unfold RetR' at HRD
          obtain ⟨nv, hnv⟩ : ∃ k, vs.length = k := ⟨_, rfl⟩
          rw [hnv] at HRD hvl
          have HRD := Lib.hid HRD
          have f2 : ¬ (n : Int) ≤ (nv : Int) := by omega
          clear hBy hb hzs hzd hzl hr2 hr2' hv8 hvv hnv hk2
          go_wp2_with fail
          refine HRD.out.mono ?_
          rintro e9 w9 ⟨A9, c10, rfl, hr9, _, hb9⟩
          clear HRD hconv hcell hfree hxor hback
          have HL9 := Lib.hid (HWC.out.trans (hb9.mono HWC.out.size))
          have HB9 := Lib.hid (HB7.out.trans (HL9.out.mono HB7.out.size))
          have HC9 := Lib.hid (HC7.out.below HL9.out)
          have HQ9 := Lib.hid hr9
          have a9 := HC9.out.c (i := 9) rfl
          clear hb9 hr9
          go_wp2_with fail
          go_loopw [22] (fun i wr => ∃ k : Nat, k ≤ nv ∧ i = .int .i64 (k : Int) ∧ Hid (Below w9.heap.size w9 wr)) (fun i _ => nv - (intOf i).toNat)
          case atStart => exact ⟨0, Nat.zero_le _, rfl, Below.refl _ _⟩
          case round =>
            obtain ⟨k, hk, rfl, HBL⟩ := hrel
            by_cases hlt : k < nv
            · obtain ⟨q1, o1, x, rfl, hq1, hx, c10, c11, c12, c13⟩ := scan_at (HQ9.out.on scan_mono HBL.out) hlt
              obtain ⟨q2, o2, x2, rfl, hq2, hx2, c20, c21, c22, c23⟩ := scan_at (HXS.out.on scan_mono (HB9.out.trans (HBL.out.mono HB9.out.size))) (show k < n by omega)
              rw [HVA.out k x hx] at hx2
              obtain rfl := Option.some.inj hx2
              obtain ⟨t0, e0⟩ : ∃ t, x.ticket = t := ⟨_, rfl⟩
              rw [e0] at c10 c20
              obtain ⟨t1, e1⟩ : ∃ t, x.op = t := ⟨_, rfl⟩
              rw [e1] at c11 c21
              obtain ⟨t2, e2⟩ : ∃ t, x.worker = t := ⟨_, rfl⟩
              rw [e2] at c12 c22
              obtain ⟨t3, e3⟩ : ∃ t, x.at_ = t := ⟨_, rfl⟩
              rw [e3] at c13 c23
              have i1 : (0 : Int) ≤ (k : Int) := by omega
              have i2 : (k : Int) < (nv : Int) := by omega
              have i3 : (k : Int) < (n : Int) := by omega
              have a9 := (HC9.out.below HBL.out).c (i := 9) rfl
              clear hx hx2 e0 e1 e2 e3
              go_wp2_with fail
              go_region
              go_wp2_with fail
              go_roundw
              case rel => exact ⟨k + 1, by omega, by go_num, by repeat (first | exact HBL.out | refine Below.drew ?_)⟩
              case measure => simp [intOf]; omega
            · obtain rfl : nv = k := by omega
              go_wp2_with fail
              go_meet
              exact HL9.out.trans (HBL.out.mono HL9.out.size)
        · have f1 : ¬ (m : Int) < (y.size : Int) := by have := HYL.out; omega
          go_wp2_with fail
          go_meet
          exact Below.refl _ _
      case rest =>
        obtain ⟨w8, rfl⟩ : ∃ v, v = wc := ⟨_, rfl⟩
        have HB8 := Lib.hid (HB7.out.trans (hcut.out.mono HB7.out.size))
        have HC8 := Lib.hid (HC7.out.below hcut.out)
        have HT8 := Lib.hid (HT7.out.below hcut.out)
        have HR8 := Lib.hid (HR7.out.on pay_mono hcut.out)
        have HQ8 := Lib.hid (HQ7.out.on scan_mono hcut.out)
        have hys := HYY.out
        have HP8 := Pays_any F s bs ws A6 c6 ys t w8 (HF.out.on HB8.out) HSS.out (by rw [HNY.out]; exact HQ8.out) (HW.out.below HB8.out) HK.out
        unfold RetPy at HP8
        rw [HNY.out, paysE_ok HTE.out HSC.out (show ny ≤ 300 by omega)] at HP8
        obtain ⟨P2, hP2⟩ : ∃ l, paysP s bs ws t ys = l := ⟨_, rfl⟩
        rw [hP2] at HP8
        have HKE : Hid (∀ p ∈ P2, ∃ q ∈ P, q.worker = p.worker ∧ p.work ≤ q.work) := fun p hp => by
          rw [← HP.out]
          refine pays_kept HTE.out HSC.out xs k1 ?_
          rw [HYY.out, hP2]
          exact hp
        have HPL2 : Hid (P2.length ≤ 6) := by
          have h1 := paysP_len (s := s) (bs := bs) (ws := ws) t ys
          rw [hP2, HF.out.wor.len] at h1
          rw [Hid]
          have := HPK.out
          omega
        obtain ⟨np2, hnp2⟩ : ∃ k, P2.length = k := ⟨_, rfl⟩
        rw [hnp2] at HP8 HPL2
        have HP8 := Lib.hid HP8
        have a0 := HC8.out.c (i := 0) rfl
        have a1 := HC8.out.c (i := 1) rfl
        have a2 := HC8.out.c (i := 2) rfl
        have a3 := HC8.out.c (i := 3) rfl
        have a4 := HC8.out.c (i := 4) rfl
        have a5 := HC8.out.c (i := 5) rfl
        have a6 := HC8.out.c (i := 6) rfl
        have a7 := HC8.out.c (i := 7) rfl
        have a8 := HC8.out.c (i := 8) rfl
        have a9 := HC8.out.c (i := 9) rfl
        have b0 := HT8.out.c (i := 0) rfl
        have b1 := HT8.out.c (i := 1) rfl
        clear hys hP2 hcut
        go_wp2_with fail
        refine HP8.out.mono ?_
        rintro e9 w9 ⟨hb9, ⟨hne, _⟩ | ⟨_, A9, c9, rfl, hr9, _⟩⟩
        · exact absurd rfl hne
        clear HP8 a0 a1 a2 a3 a4 a5 a6 a7 a8 a9 b0 b1
        have HB9 := Lib.hid (HB8.out.trans (hb9.mono HB8.out.size))
        have HR9 := Lib.hid (HR8.out.on pay_mono hb9)
        have HQ9 := Lib.hid hr9
        have hpl := HPL.out
        have hpl2 := HPL2.out
        clear hb9 hr9
        go_wp2_with fail
        go_loopw [25, 26, 27] (fun i _ _ wr => ∃ k : Nat, k ≤ np2 ∧ i = .int .i64 (k : Int) ∧ Hid (Below w9.heap.size w9 wr)) (fun i _ _ _ => np2 - (intOf i).toNat)
        case atStart => exact ⟨0, Nat.zero_le _, rfl, Below.refl _ _⟩
        case round =>
          obtain ⟨k, hk, rfl, HBL⟩ := hrel
          by_cases hlt : k < np2
          · obtain ⟨w10, rfl⟩ : ∃ v, v = wr := ⟨_, rfl⟩
            obtain ⟨q1, o1, p, rfl, hq1, hp, c10, c11, c12⟩ := pay_at (HQ9.out.on pay_mono HBL.out) hlt
            have HKP := Lib.hid (HKE.out p (List.mem_of_getElem? hp))
            obtain ⟨pa, hpa⟩ : ∃ t, p.worker = t := ⟨_, rfl⟩
            obtain ⟨pb, hpb⟩ : ∃ t, p.work = t := ⟨_, rfl⟩
            rw [hpa] at HKP c10
            rw [hpb] at HKP c11
            have i1 : (0 : Int) ≤ (k : Int) := by omega
            have i2 : (k : Int) < (np2 : Int) := by omega
            clear hp hpa hpb c12
            go_wp2_with fail
            go_loopw [26, 27] (fun b i wr => ∃ j : Nat, j ≤ np ∧ i = .int .i64 (j : Int) ∧ b = .bool ((P.take j).any (keptB pa pb)) ∧ Hid (Below w10.heap.size w10 wr)) (fun _ i _ => np - (intOf i).toNat)
            case atStart => exact ⟨0, Nat.zero_le _, rfl, rfl, Below.refl _ _⟩
            case round =>
              obtain ⟨j, hj, rfl, rfl, HBM⟩ := hrel
              by_cases hlt2 : j < np
              · obtain ⟨q2, o2, q, rfl, hq2, hq, c20, c21, c22⟩ := pay_at (HR9.out.on pay_mono (HBL.out.trans (HBM.out.mono HBL.out.size))) hlt2
                replace c10 := (HBM.out.cell (p := ⟨q1, o1 + k * 3, none⟩) hq1).trans c10
                replace c11 := (HBM.out.cell (p := ⟨q1, o1 + k * 3 + 1, none⟩) hq1).trans c11
                have HAN := any_take (f := keptB pa pb) hq
                unfold keptB at HAN
                obtain ⟨qa, hqa⟩ : ∃ t, q.worker = t := ⟨_, rfl⟩
                obtain ⟨qb, hqb⟩ : ∃ t, q.work = t := ⟨_, rfl⟩
                rw [hqa] at HAN c20
                rw [hqb] at HAN c21
                have j1 : (0 : Int) ≤ (j : Int) := by omega
                have j2 : (j : Int) < (np : Int) := by omega
                obtain ⟨K, hK⟩ : ∃ K, (P.take j).any (keptB pa pb) = K := ⟨_, rfl⟩
                change List.any _ _ = (List.any _ (keptB pa pb) || _) at HAN
                rw [hK] at HAN ⊢
                clear hq hqa hqb c22 hK
                cases K
                · by_cases h1 : qa = pa
                  · by_cases h2 : pb ≤ qb
                    · have HAV : Hid ((P.take (j + 1)).any (keptB pa pb) = true) := by rw [Hid]; exact HAN.trans (by simp [h1, h2])
                      have h1' : (qa == pa) = true := by simpa using h1
                      clear HAN
                      go_wp2_with fail
                      go_quiet (fail)
                      go_wp2_with fail
                      go_roundw
                      case rel => exact ⟨j + 1, by omega, by go_num, by rw [HAV.out], HBM.out.trans (below_of_drewN _ _ _)⟩
                      case measure => simp [intOf]; omega
                    · have HAV : Hid ((P.take (j + 1)).any (keptB pa pb) = false) := by rw [Hid]; exact HAN.trans (by simp [h1, h2])
                      have h1' : (qa == pa) = true := by simpa using h1
                      clear HAN
                      go_wp2_with fail
                      go_quiet (fail)
                      go_wp2_with fail
                      go_roundw
                      case rel => exact ⟨j + 1, by omega, by go_num, by rw [HAV.out]; simp [h2], HBM.out.trans (below_of_drewN _ _ _)⟩
                      case measure => simp [intOf]; omega
                  · have HAV : Hid ((P.take (j + 1)).any (keptB pa pb) = false) := by rw [Hid]; exact HAN.trans (by simp [h1])
                    have h1' : (qa == pa) = false := by simpa using h1
                    clear HAN
                    go_wp2_with fail
                    go_quiet (fail)
                    go_wp2_with fail
                    go_roundw
                    case rel => exact ⟨j + 1, by omega, by go_num, by rw [HAV.out], HBM.out.trans (below_of_drewN _ _ _)⟩
                    case measure => simp [intOf]; omega
                · have HAV : Hid ((P.take (j + 1)).any (keptB pa pb) = true) := by rw [Hid]; exact HAN.trans (by simp)
                  clear HAN
                  go_wp2_with fail
                  go_quiet (fail)
                  go_wp2_with fail
                  go_roundw
                  case rel => exact ⟨j + 1, by omega, by go_num, by rw [HAV.out], HBM.out.trans (below_of_drewN _ _ _)⟩
                  case measure => simp [intOf]; omega
              · obtain rfl : np = j := by omega
                have hall : (P.take np).any (keptB pa pb) = true := by
                  rw [← HNP.out, List.take_length, List.any_eq_true]
                  obtain ⟨q, hq, h1, h2⟩ := HKP.out
                  exact ⟨q, hq, by simp [keptB, h1, h2]⟩
                rw [hall]
                clear hall
                go_wp2_with fail
                go_roundw
                case rel => exact ⟨k + 1, by omega, by go_num, HBL.out.trans (HBM.out.mono HBL.out.size)⟩
                case measure => simp [intOf]; omega
          · obtain rfl : np2 = k := by omega
            have HBZ := Lib.hid (HB9.out.trans (HBL.out.mono HB9.out.size))
            go_wp2_with fail
            refine (HREC.out _ (HW.out.below HBZ.out)).mono ?_
            rintro e10 w10 ⟨rfl, hb⟩
            go_wp2_with fail
            go_ret
            exact ⟨rfl, HBZ.out.trans (hb.mono HBZ.out.size)⟩
end Go.Proofs.YthomflbjijjhaaaGreatDoor
