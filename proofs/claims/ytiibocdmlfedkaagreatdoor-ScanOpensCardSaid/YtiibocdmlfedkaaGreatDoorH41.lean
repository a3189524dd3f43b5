/- Parts of the proof. -/
import Derived.Test.YtiibocdmlfedkaaGreatDoorH13
import Derived.Test.YtiibocdmlfedkaaGreatDoorH28
import Derived.Test.YtiibocdmlfedkaaGreatDoorH35
import Derived.Test.YtiibocdmlfedkaaGreatDoorH40
namespace Go.Proofs.YtiibocdmlfedkaaGreatDoor
section
open Go.RowKit
open Go.Lib hiding intOf
theorem int_info2 : (Tryz.prog.info? 3).map (fun i => (i.zero, i.size, i.bytes)) = some (some (.int .i64 0), 1, 8) := by kernel_rfl
theorem made_int (n : Nat) : madeCells #[Value.int .i64 0] n = outC n [] := by
 rw [outC_nil]
 refine Array.toList_inj.1 ?_
 rw [toList_madeCells_one]
 simp
theorem zero_rec (w : World) : (zeroValue 101).run Tryz.prog w = .ok (.pointer none) w := by kernel_rfl
theorem rec_new (t : Int) : (#[.bool false, .bool false, .bool false, .bool false, .bool false, .bool false, .bool false, .bool false, .bool false, .bool false, .bool false, .bool false, .bool false, .bool false, .bool false, .bool false, .int .i64 0] : Array Value) = recC [] t := by rfl
theorem judge_kn (s : PStyle) (bs : List PBundle) (ws : List PWorker) (paid : List PScan) (x : PScan) (O : Option Addr) (o oc : Nat) (V : Option Addr) (k kc : Nat) (g : Nat) (w : World)
  (ho : Recs 5 opG w O o s.ops) (hos : ∀ y ∈ s.ops, OpS y) (hv : Recs 2 workerG w V k ws) (hvs : ∀ y ∈ ws, WorkerS y) (h0 : scanE s bs ws = 0)
  (hg : Blk w g 105 (recC paid x.ticket)) (hx : x.ticket ∈ bs.map (·.ticket)) :
  Calls Tryz.prog 56 #[.slice O o oc, .slice V k kc, .pointer (some ⟨g, 0, none⟩), .agg #[.int .i64 x.ticket, .int .i64 x.op, .int .i64 x.worker, .int .i64 x.at_]] w fun e w' => e = .returned (.int .i64 (outcomeP s bs ws paid x)) ∧ Below w.heap.size w w' := by
 obtain ⟨i1, i2⟩ := ops_idx h0
 by_cases hk : knownB s bs ws x
 ·exact judge_in s bs ws paid x O o oc V k kc g w ho (by rw [← ho.len]; exact i1) hos hv hvs (fun y hy z hz => by rw [← ho.len]; exact i2 y hy z hz) hg hk
 ·rw [out_unknown hk]
  refine judge_bad O o oc V k kc g x w ?_
  unfold knownB at hk
  rw [ho.len, hv.len] at hk
  by_cases a1 : x.op < 0
  ·exact .inl a1
  ·by_cases a2 : (o : Int) ≤ x.op
   ·exact .inr (.inl a2)
   ·by_cases a3 : x.worker < 0
    ·exact .inr (.inr (.inl a3))
    ·by_cases a4 : (k : Int) ≤ x.worker
     ·exact .inr (.inr (.inr (.inl a4)))
     ·by_cases a5 : x.at_ < 0
      ·exact .inr (.inr (.inr (.inr (.inl a5))))
      ·by_cases a6 : 1073741824 < x.at_
       ·exact .inr (.inr (.inr (.inr (.inr a6))))
       ·exact absurd ⟨hx, by omega, by omega, by omega, by omega, by omega, by omega⟩ hk
def RetJA (s : PStyle) (bs : List PBundle) (ws : List PWorker) (xs : List PScan) (w : World) (e : Ending) (w' : World) : Prop :=
 ∃ (g b0 : Nat) (β : Int → Nat), e = .returned (.tuple #[.slice (some ⟨g, 0, none⟩) xs.length xs.length, .map (some b0), .int .i64 0]) ∧ Sl w' w'.heap.size (some ⟨g, 0, none⟩) xs.length (ints (judgeP s bs ws xs)) ∧ JudM 105 w.heap.size w' b0 β (bs.map (·.ticket)) (paidP s bs ws xs) ∧ Below w.heap.size w w'
set_option maxRecDepth 100000 in
set_option maxHeartbeats 12800000 in
theorem judgeAll_ok (s : PStyle) (Z : Option Addr) (z zc : Nat) (M : Option Addr) (m mc : Nat) (P : Option Addr) (p pc : Nat) (U : Option Addr) (u uc : Nat) (E : Option Addr) (e ec : Nat) (O : Option Addr) (o oc : Nat) (w : World) (h : StyleA w s Z z zc M m mc P p pc U u uc E e ec O o oc) (hs : StyleS s)
  (L : Option Addr) (n c : Nat) (bs : List PBundle) (hb : Recs 6 bundleG w L n bs) (hc : n ≤ c) (V : Option Addr) (k c' : Nat) (ws : List PWorker) (hw : Recs 2 workerG w V k ws) (hc' : k ≤ c') (hws : ∀ x ∈ ws, WorkerS x) (X : Option Addr) (xn xc : Nat) (xs : List PScan) (hx : Recs 4 scanG w X xn xs) (h0 : scanE s bs ws = 0) (h3 : ¬ 300 < xn) :
  Calls Tryz.prog 38 #[.agg #[.string s.name, .slice Z z zc, .slice M m mc, .slice P p pc, .slice U u uc, .slice E e ec, .slice O o oc], .slice L n c, .slice V k c', .slice X xn xc] w (RetJA s bs ws xs w) := by
 have HBX : Hid (Below w.heap.size w (w.alloc (.cells #[.string s.name, .slice Z z zc, .slice M m mc, .slice P p pc, .slice U u uc, .slice E e ec, .slice O o oc] 29))) := (Below.refl _ _).alloc (Nat.le_refl _) _
 have HX0 := Lib.hid (Blk.new w 29 #[.string s.name, .slice Z z zc, .slice M m mc, .slice P p pc, .slice U u uc, .slice E e ec, .slice O o oc])
 have HC := scanCheck_any s Z z zc M m mc P p pc U u uc E e ec O o oc _ (h.on HBX.out) hs L n c bs (hb.on bundle_mono HBX.out) hc V k c' ws (hw.on worker_mono HBX.out) hc' hws
 rw [h0] at HC
 have HC := Lib.hid HC
 have HLB := Lib.hid hb.len
 have HLX := Lib.hid hx.len
 have HA := Lib.hid hb
 have HXS := Lib.hid hx
 have HOO := Lib.hid (And.intro h.ops (And.intro hs.op (And.intro hw hws)))
 have H0 := Lib.hid h0
 have n60 : n ≤ 60 := by rw [← hb.len]; exact (scan_zero h0).2.1
 have hmk := fun W => run_make_row' (P := Tryz.prog) 23 3 (.int .i64 0) 8 Tryz.underlying23 int_info2 rfl .i64 .i64 xn (by omega) (by omega) W
 have hmm := @run_makeMap Tryz.prog
 have uM := Tryz.underlying94
 clear h hs hb hw hws hx h0
 go_enter Tryz.func38, Tryz.ntmps38
 go_wp2_with fail
 refine HC.out.mono ?_
 rintro e1 w1 ⟨rfl, hb1⟩
 have HB1 := Lib.hid (HBX.out.trans (hb1.mono HBX.out.size))
 have HX1 := Lib.hid (HX0.out.below hb1)
 have hw1 := HX1.out.lt
 have HB2 := Lib.hid (HB1.out.alloc HB1.out.size (.map #[] 0))
 have HX2 := Lib.hid (HX1.out.alloc (.map #[] 0))
 have HM0 : Hid (JudM 105 (w.heap.size + 1) (w1.alloc (.map #[] 0)) w1.heap.size (fun _ => 0) ((bs.take 0).map (·.ticket)) []) := JudM.start (MapM.made _ _) hw1
 have HG0 : Hid (w1.heap.size < (w1.alloc (.map #[] 0)).heap.size) := by simp [Hid]
 clear hb1
 go_wp2_with fail
 go_loopw [14, 32] (fun _ i wr => ∃ (q : Nat) (β : Int → Nat), q ≤ n ∧ i = .int .i64 (q : Int) ∧ Hid (JudM 105 (w.heap.size + 1) wr w1.heap.size β ((bs.take q).map (·.ticket)) []) ∧ Hid (Blk wr w.heap.size 29 #[.string s.name, .slice Z z zc, .slice M m mc, .slice P p pc, .slice U u uc, .slice E e ec, .slice O o oc]) ∧ Hid (Below w.heap.size w wr)) (fun _ i _ => n - (intOf i).toNat)
 case atStart => exact ⟨0, _, Nat.zero_le _, rfl, HM0, HX2, HB2⟩
 case round =>
  obtain ⟨q, β, hq, rfl, HJ, HX, HB⟩ := hrel
  by_cases hlt : q < n
  ·obtain ⟨b, off, x, rfl, hbw, hx, c0, c1, c2, c3, c4, c5, _, _⟩ := bundle_at HA.out hlt
   replace c0 := (HB.out.cell (p := ⟨b, off + q * 6, none⟩) hbw).trans c0
   replace c1 := (HB.out.cell (p := ⟨b, off + q * 6 + 1, none⟩) hbw).trans c1
   replace c2 := (HB.out.cell (p := ⟨b, off + q * 6 + 2, none⟩) hbw).trans c2
   replace c3 := (HB.out.cell (p := ⟨b, off + q * 6 + 3, none⟩) hbw).trans c3
   replace c4 := (HB.out.cell (p := ⟨b, off + q * 6 + 4, none⟩) hbw).trans c4
   replace c5 := (HB.out.cell (p := ⟨b, off + q * 6 + 5, none⟩) hbw).trans c5
   have HXX := Lib.hid hx
   have HNEW := Lib.hid (ticket_new H0.out hx)
   obtain ⟨t, ht⟩ : ∃ t, x.ticket = t := ⟨_, rfl⟩
   rw [ht] at c0 HNEW
   have HTT := Lib.hid ht
   have i1 : (0 : Int) ≤ (q : Int) := by omega
   have i2 : (q : Int) < (n : Int) := by omega
   have HBA : Hid (Below wr.heap.size wr ((wr.alloc (.cells #[.int .i64 t, .int .i64 x.garment, .int .i64 x.size, .int .i64 x.lot, .int .i64 x.from_, .int .i64 x.to_] 81)).alloc (.cells #[.bool false, .bool false, .bool false, .bool false, .bool false, .bool false, .bool false, .bool false, .bool false, .bool false, .bool false, .bool false, .bool false, .bool false, .bool false, .bool false, .int .i64 0] 105))) := ((Below.refl _ _).alloc (Nat.le_refl _) _).alloc (by simp) _
   have HJB := Lib.hid (HJ.out.below HBA.out)
   obtain ⟨mm, hm, hget⟩ := HJB.out.map
   have HMM := Lib.hid hm
   have HGET := Lib.hid hget
   have HREC : Hid (Blk ((wr.alloc (.cells #[.int .i64 t, .int .i64 x.garment, .int .i64 x.size, .int .i64 x.lot, .int .i64 x.from_, .int .i64 x.to_] 81)).alloc (.cells #[.bool false, .bool false, .bool false, .bool false, .bool false, .bool false, .bool false, .bool false, .bool false, .bool false, .bool false, .bool false, .bool false, .bool false, .bool false, .bool false, .int .i64 0] 105)) (wr.heap.size + 1) 105 (recC [] t)) := by rw [← rec_new]; exact Blk.new' _ _ _ (by simp)
   clear hx hm hget ht
   go_wp2_with (at_mapUpdate; refine wpl_update (by rfl) _ _ _ _ (by rfl) (key_int Tryz.underlying3) uM (by rfl) HMM.out t (by rfl) (.pointer (some ⟨wr.heap.size + 1, 0, none⟩)) (by rfl) ?_; intro w5 hm1 hg1; go_frame)
   go_roundw
   case rel =>
    have hw0 := HB.out.size
    have hlt0 := HJ.out.lt0
    have HJ5 := JudM.more HJB.out HNEW.out HREC.out (by omega) (fun v hv => by have := (HJ.out.rec_ v hv).lt; omega) (by omega) hm1 (fun r => by rw [mget_mset, HGET.out r]) hg1
    refine ⟨q + 1, _, by omega, by go_num, (by rw [take_tickets HXX.out, HTT.out]; exact HJ5), blk_kept (HX.out.below HBA.out) hg1 (by omega), below_grown (HB.out.trans (HBA.out.mono HB.out.size)) hg1 (by omega) (Nat.le_trans hw0 HBA.out.size)⟩
   case measure => simp [intOf]; omega
  ·obtain rfl : n = q := by omega
   have HJN : Hid (JudM 105 (w.heap.size + 1) wr w1.heap.size β (bs.map (·.ticket)) []) := by
    have := HJ.out
    rwa [← HLB.out, List.take_length] at this
   obtain ⟨W2, rfl⟩ : ∃ v, v = wr := ⟨_, rfl⟩
   have HGS : Hid (∀ t ∈ bs.map (·.ticket), β t < W2.heap.size) := fun t ht => (HJN.out.rec_ t ht).lt
   have HG0' : Hid (w1.heap.size < W2.heap.size ∧ w.heap.size < w1.heap.size) := ⟨HJN.out.lt0, HX1.out.lt⟩
   have HBA : Hid (Below W2.heap.size W2 (W2.alloc (.cells (madeCells #[.int .i64 0] xn) 3))) := (Below.refl _ _).alloc (Nat.le_refl _) _
   have HGB : Hid (Blk (W2.alloc (.cells (madeCells #[.int .i64 0] xn) 3)) W2.heap.size 3 (outC xn (judgeP s bs ws (xs.take 0)))) := by
    rw [made_int, List.take_zero]
    exact Blk.new _ _ _
   have HJ2 := Lib.hid (HJN.out.below HBA.out)
   have HX3 := Lib.hid (HX.out.below HBA.out)
   have HB3 := Lib.hid (HB.out.trans (HBA.out.mono HB.out.size))
   clear HJ HJN HX
   go_wp2_with fail
   go_loopw [16, 17, 18, 47] (fun _ _ _ i v => ∃ r : Nat, r ≤ xn ∧ i = .int .i64 (r : Int) ∧ Hid (JudM 105 (w.heap.size + 1) v w1.heap.size β (bs.map (·.ticket)) (paidP s bs ws (xs.take r))) ∧ Hid (Blk v W2.heap.size 3 (outC xn (judgeP s bs ws (xs.take r)))) ∧ Hid (Blk v w.heap.size 29 #[.string s.name, .slice Z z zc, .slice M m mc, .slice P p pc, .slice U u uc, .slice E e ec, .slice O o oc]) ∧ Hid (Below w.heap.size w v)) (fun _ _ _ i _ => xn - (intOf i).toNat)
   case atStart => exact ⟨0, Nat.zero_le _, rfl, HJ2, HGB, HX3, HB3⟩
   case round =>
    obtain ⟨r, hr, rfl, HJ, HG, HX, HB⟩ := hrel
    by_cases hlt2 : r < xn
    ·obtain ⟨b, off, x, rfl, hbw, hx, c0, c1, c2, c3⟩ := scan_at HXS.out hlt2
     replace c0 := (HB.out.cell (p := ⟨b, off + r * 4, none⟩) hbw).trans c0
     replace c1 := (HB.out.cell (p := ⟨b, off + r * 4 + 1, none⟩) hbw).trans c1
     replace c2 := (HB.out.cell (p := ⟨b, off + r * 4 + 2, none⟩) hbw).trans c2
     replace c3 := (HB.out.cell (p := ⟨b, off + r * 4 + 3, none⟩) hbw).trans c3
     obtain ⟨paid, hpd⟩ : ∃ l, paidP s bs ws (xs.take r) = l := ⟨_, rfl⟩
     obtain ⟨os, hos⟩ : ∃ l, judgeP s bs ws (xs.take r) = l := ⟨_, rfl⟩
     have hol : os.length = r := by rw [← hos, judgeP_len, List.length_take, HLX.out]; omega
     have HOL := Lib.hid hol
     have HJS := judge_snoc (s := s) (bs := bs) (ws := ws) hx
     have HPS := paid_snoc (s := s) (bs := bs) (ws := ws) hx
     rw [hpd, hos] at HJS
     rw [hpd] at HPS HJ
     rw [hos] at HG
     have HJS := Lib.hid HJS
     have HPS := Lib.hid HPS
     have hglt := HG.out.lt
     have hxlt := HX.out.lt
     have HBA : Hid (Below wr.heap.size wr (wr.alloc (.cells #[.int .i64 x.ticket, .int .i64 x.op, .int .i64 x.worker, .int .i64 x.at_] 55))) := (Below.refl _ _).alloc (Nat.le_refl _) _
     have HBW := Lib.hid (HB.out.trans (HBA.out.mono HB.out.size))
     have HY := Lib.hid (Blk.new wr 55 #[.int .i64 x.ticket, .int .i64 x.op, .int .i64 x.worker, .int .i64 x.at_])
     have HJA := Lib.hid (HJ.out.below HBA.out)
     have HGA := Lib.hid (HG.out.below HBA.out)
     have HXA := Lib.hid (HX.out.below HBA.out)
     have x6 := HXA.out.c (i := 6) rfl
     obtain ⟨mm, hm, hyes, hno⟩ := HJA.out.lookup
     have HMM := Lib.hid hm
     have i1 : (0 : Int) ≤ (r : Int) := by omega
     have i2 : (r : Int) < (xn : Int) := by omega
     have HRO := Lib.hid (HOO.out.1.on op_mono HBW.out)
     have HRV := Lib.hid (HOO.out.2.2.1.on worker_mono HBW.out)
     obtain ⟨Q, hQ⟩ : ∃ Q, outcomeP s bs ws paid x = Q := ⟨_, rfl⟩
     by_cases htk : x.ticket ∈ bs.map (·.ticket)
     ·have HD := Lib.hid (hyes x.ticket htk (.pointer none)).1
      have HCJ := judge_kn s bs ws paid x O o oc V k c' (β x.ticket) _ HRO.out HOO.out.2.1 HRV.out HOO.out.2.2.2 H0.out (HJA.out.rec_ _ htk) htk
      rw [hQ] at HCJ
      have HCJ := Lib.hid HCJ
      have HTK := Lib.hid htk
      have HQ := Lib.hid hQ
      clear hx hm hyes hno hQ htk hpd hos hol
      by_cases hq1 : Q = 1
      ·subst hq1
       obtain ⟨_, o1, o2, _⟩ := outcome_one HQ.out
       obtain ⟨kk, hkk⟩ : ∃ kk : Nat, x.op = (kk : Int) := ⟨x.op.toNat, by omega⟩
       have HKK := Lib.hid hkk
       have hk16 : kk < 16 := by have := (ops_idx H0.out).1; omega
       clear o1 o2 hkk
       go_wp2_with (first
        | (at_lookup; refine wpl_lookup (by rfl) _ _ _ _ (by rfl) (key_int Tryz.underlying3) uM (zero_rec _) (by rfl) HMM.out x.ticket (by rfl) ?_; simp only [HD.out])
        | (go_at_call 56; refine HCJ.out.mono ?_; rintro e5 w5 ⟨rfl, hb5⟩; have HB5 := Lib.hid hb5; have hz0 := (HGA.out.below hb5).c (outC_zero HOL.out hlt2); have hzf := (HGA.out.below hb5).frozen r; obtain ⟨y0, y1, y2, y3⟩ := four_box (HY.out.below hb5); clear hb5))
       have hβ := HGS.out x.ticket HTK.out
       obtain ⟨W6, hW6⟩ : ∃ v, v = w5.setCell ⟨W2.heap.size, r, none⟩ (.int .i64 1) := ⟨_, rfl⟩
       have HBN : Hid (W2.heap.size ≠ w.heap.size ∧ W2.heap.size ≠ w1.heap.size ∧ ∀ t ∈ bs.map (·.ticket), W2.heap.size ≠ β t) := ⟨by have := HG0'.out; omega, by have := HG0'.out; omega, fun t ht => by have := HGS.out t ht; omega⟩
       have HY6 : Hid (Blk W6 wr.heap.size 55 #[.int .i64 x.ticket, .int .i64 (kk : Int), .int .i64 x.worker, .int .i64 x.at_]) := by rw [hW6, ← HKK.out]; exact (HY.out.below HB5.out).far (p := ⟨W2.heap.size, r, none⟩) (Nat.ne_of_gt hglt) _
       have HJ6 : Hid (JudM 105 (w.heap.size + 1) W6 w1.heap.size β (bs.map (·.ticket)) paid) := by rw [hW6]; exact (HJA.out.below HB5.out).far (p := ⟨W2.heap.size, r, none⟩) HBN.out.2.1.symm (fun t ht => (HBN.out.2.2 t ht).symm) _
       have HG6 : Hid (Blk W6 W2.heap.size 3 (outC xn (os ++ [1]))) := by rw [hW6, ← outC_set HOL.out hlt2]; exact (HGA.out.below HB5.out).set_ r _
       have HX6 : Hid (Blk W6 w.heap.size 29 #[.string s.name, .slice Z z zc, .slice M m mc, .slice P p pc, .slice U u uc, .slice E e ec, .slice O o oc]) := by rw [hW6]; exact (HXA.out.below HB5.out).far (p := ⟨W2.heap.size, r, none⟩) HBN.out.1.symm _
       have HB6 : Hid (Below w.heap.size w W6) := by rw [hW6]; exact (HBW.out.trans (HB5.out.mono HBW.out.size)).setCell (p := ⟨W2.heap.size, r, none⟩) (by have := HG0'.out; simp; omega) _
       have z1 := HY6.out.c (i := 1) rfl
       have z3 := HY6.out.c (i := 3) rfl
       have zr := (HJ6.out.rec_ _ HTK.out).c (recC_op (paid := paid) (t := x.ticket) hk16)
       have zf := (HJ6.out.rec_ _ HTK.out).frozen kk
       have zr2 := (HJ6.out.rec_ _ HTK.out).c (recC_last (paid := paid) (t := x.ticket))
       have zf2 := (HJ6.out.rec_ _ HTK.out).frozen 16
       have HPY : Hid (paidP s bs ws (xs.take (r + 1)) = paid ++ [x]) := by rw [Hid, HPS.out, HQ.out, if_pos rfl]
       rw [HQ.out] at HJS
       obtain ⟨D, hD⟩ : ∃ D, doneB paid x.ticket (kk : Int) = D := ⟨_, rfl⟩
       rw [hD] at zr
       obtain ⟨LA, hLA⟩ : ∃ D, lastP paid x.ticket = D := ⟨_, rfl⟩
       rw [hLA] at zr2
       have j1 : (0 : Int) ≤ (kk : Int) := by omega
       have j2 : (kk : Int) < 16 := by omega
       clear hD hLA y0 y1 y2 y3 hz0 hzf c0 c1 c2 c3 x6
       rw [← hW6]
       clear hW6
       go_wp2_with fail
       go_region
       go_wp2_with fail
       have HLO : Hid (w.heap.size ≠ β x.ticket ∧ w.heap.size ≤ β x.ticket) := by have := HJ6.out.lo _ HTK.out; exact ⟨by omega, by omega⟩
       have hne2 := HBN.out.2.2 _ HTK.out
       go_roundw
       case rel =>
        refine ⟨r + 1, by omega, by go_num, ?_, ?_, ((HX6.out.far (p := ⟨β x.ticket, kk, none⟩) HLO.out.1 _).far (p := ⟨β x.ticket, 16, none⟩) HLO.out.1 _).drew, Below.drew ?_⟩
        ·rw [HPY.out]
         exact (HJ6.out.pay HTK.out HKK.out).drew
        ·rw [HJS.out]
         exact ((HG6.out.far (p := ⟨β x.ticket, kk, none⟩) hne2 _).far (p := ⟨β x.ticket, 16, none⟩) hne2 _).drew
        ·exact (HB6.out.setCell (p := ⟨β x.ticket, kk, none⟩) HLO.out.2 _).setCell (p := ⟨β x.ticket, 16, none⟩) HLO.out.2 _
       case measure => simp [intOf]; omega
      ·have hq1' : (Q == 1) = false := by simpa using hq1
       have HPN : Hid (paidP s bs ws (xs.take (r + 1)) = paid) := by rw [Hid, HPS.out, HQ.out, if_neg hq1]
       rw [HQ.out] at HJS
       clear hq1
       go_wp2_with (first
        | (at_lookup; refine wpl_lookup (by rfl) _ _ _ _ (by rfl) (key_int Tryz.underlying3) uM (zero_rec _) (by rfl) HMM.out x.ticket (by rfl) ?_; simp only [HD.out])
        | (go_at_call 56; refine HCJ.out.mono ?_; rintro e5 w5 ⟨rfl, hb5⟩; have HB5 := Lib.hid hb5; have hz0 := (HGA.out.below hb5).c (outC_zero HOL.out hlt2); have hzf := (HGA.out.below hb5).frozen r; obtain ⟨y0, y1, y2, y3⟩ := four_box (HY.out.below hb5); clear hb5))
       have HBN : Hid (W2.heap.size ≠ w.heap.size ∧ W2.heap.size ≠ w1.heap.size ∧ ∀ t ∈ bs.map (·.ticket), W2.heap.size ≠ β t) := ⟨by have := HG0'.out; omega, by have := HG0'.out; omega, fun t ht => by have := HGS.out t ht; omega⟩
       go_roundw
       case rel =>
        refine ⟨r + 1, by omega, by go_num, ?_, ?_, (HXA.out.below HB5.out).far HBN.out.1.symm _, ?_⟩
        ·rw [HPN.out]
         exact (HJA.out.below HB5.out).far HBN.out.2.1.symm (fun t ht => (HBN.out.2.2 t ht).symm) _
        ·rw [HJS.out, ← outC_set HOL.out hlt2]
         exact (HGA.out.below HB5.out).set_ r _
        ·exact (HBW.out.trans (HB5.out.mono HBW.out.size)).setCell (p := ⟨W2.heap.size, r, none⟩) (by have := HG0'.out; simp; omega) _
       case measure => simp [intOf]; omega
     ·have HD := Lib.hid (hno x.ticket htk (.pointer none)).1
      have hq3 : Q = 3 := by rw [← hQ]; exact out_unknown (fun q => htk q.1)
      subst hq3
      have HPN : Hid (paidP s bs ws (xs.take (r + 1)) = paid) := by rw [Hid, HPS.out, hQ, if_neg (by decide)]
      have HQ := Lib.hid hQ
      rw [hQ] at HJS
      have HCJ := Lib.hid (fun W => judge_none O o oc V k c' x W)
      clear hx hm hyes hno hQ htk hpd hos hol
      go_wp2_with (first
        | (at_lookup; refine wpl_lookup (by rfl) _ _ _ _ (by rfl) (key_int Tryz.underlying3) uM (zero_rec _) (by rfl) HMM.out x.ticket (by rfl) ?_; simp only [HD.out])
        | (go_at_call 56; refine (HCJ.out _).mono ?_; rintro e5 w5 ⟨rfl, hb5⟩; have HB5 := Lib.hid hb5; have hz0 := (HGA.out.below hb5).c (outC_zero HOL.out hlt2); have hzf := (HGA.out.below hb5).frozen r; clear hb5))
      have HBN : Hid (W2.heap.size ≠ w.heap.size ∧ W2.heap.size ≠ w1.heap.size ∧ ∀ t ∈ bs.map (·.ticket), W2.heap.size ≠ β t) := ⟨by have := HG0'.out; omega, by have := HG0'.out; omega, fun t ht => by have := HGS.out t ht; omega⟩
      go_roundw
      case rel =>
       refine ⟨r + 1, by omega, by go_num, ?_, ?_, (HXA.out.below HB5.out).far HBN.out.1.symm _, ?_⟩
       ·rw [HPN.out]
        exact (HJA.out.below HB5.out).far HBN.out.2.1.symm (fun t ht => (HBN.out.2.2 t ht).symm) _
       ·rw [HJS.out, ← outC_set HOL.out hlt2]
        exact (HGA.out.below HB5.out).set_ r _
       ·exact (HBW.out.trans (HB5.out.mono HBW.out.size)).setCell (p := ⟨W2.heap.size, r, none⟩) (by have := HG0'.out; simp; omega) _
      case measure => simp [intOf]; omega
    ·obtain rfl : xn = r := by omega
     have HE : Hid (xs.take xn = xs) := by rw [← HLX.out, Hid, List.take_length]
     rw [HE.out] at HJ HG
     have HOL : Hid ((judgeP s bs ws xs).length = xn) := by rw [Hid, judgeP_len, HLX.out]
     go_wp2_with fail
     refine bodyPost_ret (results_tmp3 rfl _ _ _) rfl ?_
     refine ⟨W2.heap.size, w1.heap.size, β, by rw [HLX.out]; rfl, ?_, ?_, HB.out⟩
     ·rw [HLX.out]
      exact out_reads HG.out HOL.out
     ·exact ⟨HJ.out.map, HJ.out.rec_, HJ.out.off, HJ.out.inj, fun t ht => Nat.le_of_succ_le (HJ.out.lo t ht), Nat.le_of_succ_le HJ.out.lo0⟩
end
section
open Go.RowKit
open Go.Lib hiding intOf
def RetJu (s : PStyle) (bs : List PBundle) (ws : List PWorker) (xs : List PScan) (w : World) (e : Ending) (w' : World) : Prop := Below w.heap.size w w' ∧
 ((judgeErr s bs ws xs.length ≠ 0 ∧ e = .returned (.tuple #[.slice none 0 0, .int .i64 (judgeErr s bs ws xs.length)])) ∨
  (judgeErr s bs ws xs.length = 0 ∧ ∃ g, e = .returned (.tuple #[.slice (some ⟨g, 0, none⟩) xs.length xs.length, .int .i64 0]) ∧ Sl w' w'.heap.size (some ⟨g, 0, none⟩) xs.length (ints (judgeP s bs ws xs))))
set_option maxRecDepth 100000 in
set_option maxHeartbeats 12800000 in
theorem Judge_any (F : FH) (s : PStyle) (bs : List PBundle) (ws : List PWorker) (X : Option Addr) (xc : Nat) (xs : List PScan) (w : World) (h : FloorA w s bs ws F) (hs : FloorS s ws) (hx : Recs 4 scanG w X xs.length xs) :
  Calls Tryz.prog 22 #[.agg #[.string s.name, .slice F.Z F.z F.zc, .slice F.M F.m F.mc, .slice F.P F.p F.pc, .slice F.U F.u F.uc, .slice F.E F.e F.ec, .slice F.O F.o F.oc], .slice F.L F.n F.c, .slice F.V F.k F.kc, .slice X xs.length xc] w (RetJu s bs ws xs w) := by
 have HBX : Hid (Below w.heap.size w (w.alloc (.cells #[.string s.name, .slice F.Z F.z F.zc, .slice F.M F.m F.mc, .slice F.P F.p F.pc, .slice F.U F.u F.uc, .slice F.E F.e F.ec, .slice F.O F.o F.oc] 29))) := (Below.refl _ _).alloc (Nat.le_refl _) _
 have h1 := h.on HBX.out
 have hx1 := hx.on scan_mono HBX.out
 by_cases hbad : scanE s bs ws ≠ 0 ∨ 300 < xs.length
 ·have HJ := Lib.hid (judgeAll_err s F.Z F.z F.zc F.M F.m F.mc F.P F.p F.pc F.U F.u F.uc F.E F.e F.ec F.O F.o F.oc _ h1.st hs.st F.L F.n F.c bs h1.bun h1.bcap F.V F.k F.kc ws h1.wor h1.wcap hs.wor X xs.length xc hbad)
  have HE := Lib.hid (jerr_bad hbad)
  obtain ⟨R, hR⟩ : ∃ R, (if scanE s bs ws ≠ 0 then scanE s bs ws else 5) = R := ⟨_, rfl⟩
  rw [hR] at HJ HE
  clear h hs hx h1 hx1 hbad hR
  go_enter Tryz.func22, Tryz.ntmps22
  go_wp2_with fail
  refine HJ.out.mono ?_
  rintro e1 w1 ⟨rfl, hb1⟩
  have HB1 := Lib.hid (HBX.out.trans (hb1.mono HBX.out.size))
  clear hb1
  go_wp2_with fail
  refine bodyPost_ret (results_tmp2 rfl _ _ _) rfl ?_
  exact ⟨HB1.out, .inl ⟨HE.out.1, by rw [HE.out.2]; rfl⟩⟩
 ·obtain ⟨b1, b2⟩ : scanE s bs ws = 0 ∧ ¬ 300 < xs.length := by
   rw [not_or] at hbad
   exact ⟨by simpa using hbad.1, hbad.2⟩
  have HJ := Lib.hid (judgeAll_ok s F.Z F.z F.zc F.M F.m F.mc F.P F.p F.pc F.U F.u F.uc F.E F.e F.ec F.O F.o F.oc _ h1.st hs.st F.L F.n F.c bs h1.bun h1.bcap F.V F.k F.kc ws h1.wor h1.wcap hs.wor X xs.length xc xs hx1 b1 b2)
  have HE := Lib.hid (jerr_ok b1 b2)
  clear h hs hx h1 hx1 hbad b1 b2
  go_enter Tryz.func22, Tryz.ntmps22
  go_wp2_with fail
  refine HJ.out.mono ?_
  rintro e1 w1 ⟨g, b0, β, rfl, hsl, _, hb1⟩
  have HB1 := Lib.hid (HBX.out.trans (hb1.mono HBX.out.size))
  have HSL := Lib.hid hsl
  clear hb1 hsl
  go_wp2_with fail
  refine bodyPost_ret (results_tmp2 rfl _ _ _) rfl ?_
  exact ⟨HB1.out, .inr ⟨HE.out, g, rfl, HSL.out⟩⟩
end
section
open Go.RowKit
open Go.Lib hiding intOf
theorem scan_info : (Tryz.prog.info? 55).map (fun i => (i.zero, i.size, i.bytes)) = some (some (.agg #[.int .i64 0, .int .i64 0, .int .i64 0, .int .i64 0]), 4, 32) := by kernel_rfl
def RetPa (s : PStyle) (bs : List PBundle) (ws : List PWorker) (xs : List PScan) (w : World) (e : Ending) (w' : World) : Prop := Below w.heap.size w w' ∧
 ((judgeErr s bs ws xs.length ≠ 0 ∧ e = .returned (.tuple #[.slice none 0 0, .int .i64 (judgeErr s bs ws xs.length)])) ∨
  (judgeErr s bs ws xs.length = 0 ∧ ∃ A c, e = .returned (.tuple #[.slice A (paidP s bs ws xs).length c, .int .i64 0]) ∧ Recs 4 scanG w' A (paidP s bs ws xs).length (paidP s bs ws xs) ∧ (paidP s bs ws xs).length ≤ c))
theorem paid_len (s : PStyle) (bs : List PBundle) (ws : List PWorker) (xs : List PScan) : (paidP s bs ws xs).length ≤ xs.length := by
 have := run_len (s := s) (bs := bs) (ws := ws) [] xs
 simpa [paidP] using this
set_option maxRecDepth 100000 in
set_option maxHeartbeats 12800000 in
theorem Paid_any (F : FH) (s : PStyle) (bs : List PBundle) (ws : List PWorker) (X : Option Addr) (xc : Nat) (xs : List PScan) (w : World) (h : FloorA w s bs ws F) (hs : FloorS s ws) (hx : Recs 4 scanG w X xs.length xs) :
  Calls Tryz.prog 25 #[.agg #[.string s.name, .slice F.Z F.z F.zc, .slice F.M F.m F.mc, .slice F.P F.p F.pc, .slice F.U F.u F.uc, .slice F.E F.e F.ec, .slice F.O F.o F.oc], .slice F.L F.n F.c, .slice F.V F.k F.kc, .slice X xs.length xc] w (RetPa s bs ws xs w) := by
 have HBX : Hid (Below w.heap.size w (w.alloc (.cells #[.string s.name, .slice F.Z F.z F.zc, .slice F.M F.m F.mc, .slice F.P F.p F.pc, .slice F.U F.u F.uc, .slice F.E F.e F.ec, .slice F.O F.o F.oc] 29))) := (Below.refl _ _).alloc (Nat.le_refl _) _
 have HJ := Lib.hid (Judge_any F s bs ws X xc xs _ (h.on HBX.out) hs (hx.on scan_mono HBX.out))
 have HXS := Lib.hid hx
 obtain ⟨n, hn⟩ : ∃ n, xs.length = n := ⟨_, rfl⟩
 have HN := Lib.hid hn
 unfold RetJu at HJ
 unfold RetPa
 rw [hn] at HJ HXS ⊢
 obtain ⟨R, hR⟩ : ∃ R, judgeErr s bs ws n = R := ⟨_, rfl⟩
 rw [hR] at HJ ⊢
 have HR := Lib.hid hR
 clear h hs hx hn hR
 go_enter Tryz.func25, Tryz.ntmps25
 go_wp2_with fail
 refine HJ.out.mono ?_
 rintro e1 w1 ⟨hb1, ⟨hne, rfl⟩ | ⟨hz, g, rfl, hsl⟩⟩
 ·have HB1 := Lib.hid (HBX.out.trans (hb1.mono HBX.out.size))
  have hne' : (R != 0) = true := by simpa using hne
  have HNE := Lib.hid hne
  clear hb1 hne
  go_wp2_with fail
  refine bodyPost_ret (results_tmp2 rfl _ _ _) rfl ?_
  exact ⟨HB1.out, .inl ⟨HNE.out, rfl⟩⟩
 ·subst hz
  have HB1 := Lib.hid (HBX.out.trans (hb1.mono HBX.out.size))
  have HSL := Lib.hid hsl
  obtain ⟨z1, z2⟩ := jerr_zero HR.out
  have HBW := Lib.hid HB1.out.size
  clear hb1 hsl z1
  go_wp2_with fail
  go_loopw [12, 13, 14, 28] (fun v _ _ i wr => ∃ k : Nat, k ≤ n ∧ i = .int .i64 (k : Int) ∧ Hid (wr.ownsRow w1.heap.size 55 4 v (paidP s bs ws (xs.take k)).length ((paidP s bs ws (xs.take k)).flatMap sC)) ∧ Hid (Below w1.heap.size w1 wr)) (fun _ _ _ i _ => n - (intOf i).toNat)
  case atStart => exact ⟨0, Nat.zero_le _, rfl, (by rw [List.take_zero]; exact World.ownsRow_nil _ _ _ _), Below.refl _ _⟩
  case round =>
   obtain ⟨k, hk, rfl, HO, HB⟩ := hrel
   obtain ⟨ps, hps⟩ : ∃ l, paidP s bs ws (xs.take k) = l := ⟨_, rfl⟩
   rw [hps] at HO
   obtain ⟨A1, C1, rfl⟩ := own_form HO.out
   have HPK := Lib.hid hps
   have HBV := Lib.hid (HB1.out.trans (HB.out.mono HB1.out.size))
   by_cases hlt : k < n
   ·obtain ⟨b, off, x, rfl, hbw, hx, c0, c1, c2, c3⟩ := scan_at HXS.out hlt
    replace c0 := (HBV.out.cell (p := ⟨b, off + k * 4, none⟩) hbw).trans c0
    replace c1 := (HBV.out.cell (p := ⟨b, off + k * 4 + 1, none⟩) hbw).trans c1
    replace c2 := (HBV.out.cell (p := ⟨b, off + k * 4 + 2, none⟩) hbw).trans c2
    replace c3 := (HBV.out.cell (p := ⟨b, off + k * 4 + 3, none⟩) hbw).trans c3
    have hja := judge_at (s := s) (bs := bs) (ws := ws) hx
    have HPS := Lib.hid (paid_snoc (s := s) (bs := bs) (ws := ws) hx)
    obtain ⟨b2, off2, Q, hA, hbw2, hQ, d0⟩ := (HSL.out.on HB.out).int_ hlt
    injection hA with hA
    injection hA with e1 e2
    subst e1
    subst e2
    rw [hja] at hQ
    have hQ := Option.some.inj hQ
    rw [hps] at HPS hQ
    have hpl : ps.length ≤ k := by rw [← hps]; exact Nat.le_trans (paid_len _ _ _ _) (by rw [List.length_take]; omega)
    rw [hQ] at HPS
    have HBA : Hid (Below wr.heap.size wr (wr.alloc (.cells #[.int .i64 x.ticket, .int .i64 x.op, .int .i64 x.worker, .int .i64 x.at_] 55))) := (Below.refl _ _).alloc (Nat.le_refl _) _
    have hbl := HB.out.size
    have HY := Lib.hid (Blk.new wr 55 #[.int .i64 x.ticket, .int .i64 x.op, .int .i64 x.worker, .int .i64 x.at_])
    have HGE : Hid (w1.heap.size ≤ wr.heap.size) := hbl
    have i1 : (0 : Int) ≤ (k : Int) := by omega
    have i2 : (k : Int) < (n : Int) := by omega
    rw [Nat.zero_add] at d0
    clear hx hja hps hQ
    by_cases hq1 : Q = 1
    ·subst hq1
     have HBA2 : Hid (Below wr.heap.size wr ((wr.alloc (.cells #[.int .i64 x.ticket, .int .i64 x.op, .int .i64 x.worker, .int .i64 x.at_] 55)).alloc (.cells #[.int .i64 x.ticket, .int .i64 x.op, .int .i64 x.worker, .int .i64 x.at_] 55))) := HBA.out.alloc HBA.out.size _
     have HO2 := Lib.hid (own_below HO.out HBA2.out)
     have HBZ : Hid (w1.heap.size ≤ ((wr.alloc (.cells #[.int .i64 x.ticket, .int .i64 x.op, .int .i64 x.worker, .int .i64 x.at_] 55)).alloc (.cells #[.int .i64 x.ticket, .int .i64 x.op, .int .i64 x.worker, .int .i64 x.at_] 55)).heap.size) := Nat.le_trans hbl HBA2.out.size
     have hns := new_scan (wr.alloc (.cells #[.int .i64 x.ticket, .int .i64 x.op, .int .i64 x.worker, .int .i64 x.at_] 55)) x 55
     rw [show (wr.alloc (.cells #[.int .i64 x.ticket, .int .i64 x.op, .int .i64 x.worker, .int .i64 x.at_] 55)).heap.size = wr.heap.size + 1 by simp] at hns
     have HNS := Lib.hid hns
     clear hns
     have b3' : ps.length + 1 ≤ maxLen := by unfold maxLen; omega
     have b4' : (ps.length + 1) * 32 ≤ 140737488355328 := by omega
     rw [if_pos rfl] at HPS
     go_wp2_with (at_builtin; refine wpl_own (P := Tryz.prog) (by rfl) _ _ 34 (by rfl) w1.heap.size 55 (.agg #[.int .i64 0, .int .i64 0, .int .i64 0, .int .i64 0]) 4 32 Tryz.underlying34 scan_info rfl (by decide) (.slice A1 ps.length C1) ps.length (ps.flatMap sC) (by rfl) HO2.out ⟨wr.heap.size + 1, 0, none⟩ 1 1 (sC x) (by rfl) (by rfl) HNS.out (sC_one x) b3' b4' HBZ.out ?_; intro v7 w7 ho7 hg7 hn7; obtain ⟨A7, c7, rfl⟩ := own_form ho7)
     go_roundw
     case rel =>
      refine ⟨k + 1, by omega, by go_num, ?_, below_own (HB.out.trans (HBA2.out.mono HB.out.size)) hg7 HBZ.out (fun g e => (HO.out.lt g e).1)⟩
      rw [HPS.out, List.length_append, List.flatMap_append]
      refine Lib.hid ?_
      simpa using ho7
     case measure => simp [intOf]; omega
    ·have hq1' : (Q == 1) = false := by simpa using hq1
     rw [if_neg hq1] at HPS
     clear hq1
     go_wp2_with fail
     go_roundw
     case rel =>
      refine ⟨k + 1, by omega, by go_num, ?_, HB.out.trans (HBA.out.mono HB.out.size)⟩
      rw [HPS.out]
      exact own_below HO.out HBA.out
     case measure => simp [intOf]; omega
   ·obtain rfl : n = k := by omega
    have HE : Hid (paidP s bs ws xs = ps) := by rw [Hid, ← HPK.out, ← HN.out, List.take_length]
    obtain ⟨A, c, hA, hr, hc⟩ := own_scans HO.out rfl
    injection hA with hA _ hC
    subst hA
    subst hC
    have HRR := Lib.hid (And.intro hr hc)
    clear hr hc hps
    go_wp2_with fail
    refine bodyPost_ret (results_tmp2 rfl _ _ _) rfl ?_
    rw [HE.out]
    exact ⟨HBV.out, A1, C1, rfl, HRR.out.1, HRR.out.2⟩
end
section
open Go.RowKit
open Go.Lib hiding intOf
def openErr (s : PStyle) (bs : List PBundle) (ws : List PWorker) (n : Nat) (t : Int) : Int := if judgeErr s bs ws n ≠ 0 then judgeErr s bs ws n else if t ∈ bs.map (·.ticket) then 0 else 6
theorem oerr_bad {s : PStyle} {bs : List PBundle} {ws : List PWorker} {n : Nat} {t : Int} (h : judgeErr s bs ws n ≠ 0) : openErr s bs ws n t = judgeErr s bs ws n := by rw [openErr, if_pos h]
theorem oerr_no {s : PStyle} {bs : List PBundle} {ws : List PWorker} {n : Nat} {t : Int} (h : judgeErr s bs ws n = 0) (ht : t ∉ bs.map (·.ticket)) : openErr s bs ws n t = 6 := by rw [openErr, if_neg (by simp [h]), if_neg ht]
theorem oerr_ok {s : PStyle} {bs : List PBundle} {ws : List PWorker} {n : Nat} {t : Int} (h : judgeErr s bs ws n = 0) (ht : t ∈ bs.map (·.ticket)) : openErr s bs ws n t = 0 := by rw [openErr, if_neg (by simp [h]), if_pos ht]
def RetOp (s : PStyle) (bs : List PBundle) (ws : List PWorker) (xs : List PScan) (t : Int) (w : World) (e : Ending) (w' : World) : Prop := Below w.heap.size w w' ∧
 ((openErr s bs ws xs.length t ≠ 0 ∧ e = .returned (.tuple #[.slice none 0 0, .int .i64 (openErr s bs ws xs.length t)])) ∨
  (openErr s bs ws xs.length t = 0 ∧ ∃ A c, e = .returned (.tuple #[.slice A (openP s bs ws xs t).length c, .int .i64 0]) ∧ Sl w' w'.heap.size A (openP s bs ws xs t).length (ints (openP s bs ws xs t))))
set_option maxRecDepth 100000 in
set_option maxHeartbeats 12800000 in
theorem Open_any (F : FH) (s : PStyle) (bs : List PBundle) (ws : List PWorker) (X : Option Addr) (xc : Nat) (xs : List PScan) (t : Int) (w : World) (h : FloorA w s bs ws F) (hs : FloorS s ws) (hx : Recs 4 scanG w X xs.length xs) :
  Calls Tryz.prog 26 #[.agg #[.string s.name, .slice F.Z F.z F.zc, .slice F.M F.m F.mc, .slice F.P F.p F.pc, .slice F.U F.u F.uc, .slice F.E F.e F.ec, .slice F.O F.o F.oc], .slice F.L F.n F.c, .slice F.V F.k F.kc, .slice X xs.length xc, .int .i64 t] w (RetOp s bs ws xs t w) := by
 have HBX : Hid (Below w.heap.size w (w.alloc (.cells #[.string s.name, .slice F.Z F.z F.zc, .slice F.M F.m F.mc, .slice F.P F.p F.pc, .slice F.U F.u F.uc, .slice F.E F.e F.ec, .slice F.O F.o F.oc] 29))) := (Below.refl _ _).alloc (Nat.le_refl _) _
 have HX0 := Lib.hid (Blk.new w 29 #[.string s.name, .slice F.Z F.z F.zc, .slice F.M F.m F.mc, .slice F.P F.p F.pc, .slice F.U F.u F.uc, .slice F.E F.e F.ec, .slice F.O F.o F.oc])
 have h1 := h.on HBX.out
 have hx1 := hx.on scan_mono HBX.out
 by_cases hbad : scanE s bs ws ≠ 0 ∨ 300 < xs.length
 ·have HJ := Lib.hid (judgeAll_err s F.Z F.z F.zc F.M F.m F.mc F.P F.p F.pc F.U F.u F.uc F.E F.e F.ec F.O F.o F.oc _ h1.st hs.st F.L F.n F.c bs h1.bun h1.bcap F.V F.k F.kc ws h1.wor h1.wcap hs.wor X xs.length xc hbad)
  obtain ⟨e1, e2⟩ := jerr_bad hbad
  have HO := oerr_bad (t := t) e1
  rw [HO.trans e2] at HO
  obtain ⟨R, hR⟩ : ∃ R, (if scanE s bs ws ≠ 0 then scanE s bs ws else 5) = R := ⟨_, rfl⟩
  have HE : Hid (openErr s bs ws xs.length t = R ∧ R ≠ 0) := ⟨by rw [oerr_bad e1, e2, hR], by rw [← hR, ← e2]; exact e1⟩
  have hR0 : (R != 0) = true := by simpa using HE.out.2
  rw [hR] at HJ
  clear h hs hx h1 hx1 hbad hR e1 e2 HO
  go_enter Tryz.func26, Tryz.ntmps26
  go_wp2_with fail
  refine HJ.out.mono ?_
  rintro e1 w1 ⟨rfl, hb1⟩
  have HB1 := Lib.hid (HBX.out.trans (hb1.mono HBX.out.size))
  clear hb1
  go_wp2_with fail
  refine bodyPost_ret (results_tmp2 rfl _ _ _) rfl ?_
  exact ⟨HB1.out, .inl ⟨by rw [HE.out.1]; exact HE.out.2, by rw [HE.out.1]; rfl⟩⟩
 ·obtain ⟨b1, b2⟩ : scanE s bs ws = 0 ∧ ¬ 300 < xs.length := by
   rw [not_or] at hbad
   exact ⟨by simpa using hbad.1, hbad.2⟩
  have HJ := Lib.hid (judgeAll_ok s F.Z F.z F.zc F.M F.m F.mc F.P F.p F.pc F.U F.u F.uc F.E F.e F.ec F.O F.o F.oc _ h1.st hs.st F.L F.n F.c bs h1.bun h1.bcap F.V F.k F.kc ws h1.wor h1.wcap hs.wor X xs.length xc xs hx1 b1 b2)
  have HE := Lib.hid (jerr_ok b1 b2)
  have uM := Tryz.underlying94
  have HOL := Lib.hid h.st.ops.len
  have o16 : F.o ≤ 16 := by rw [← h.st.ops.len]; exact (ops_idx b1).1
  clear h hs hx h1 hx1 hbad b1 b2
  go_enter Tryz.func26, Tryz.ntmps26
  go_wp2_with fail
  refine HJ.out.mono ?_
  rintro e1 w1 ⟨g, b0, β, rfl, _, hj, hb1⟩
  have HB1 := Lib.hid (HBX.out.trans (hb1.mono HBX.out.size))
  have HX1 := Lib.hid (HX0.out.below hb1)
  have HJM := Lib.hid hj
  obtain ⟨mm, hm, hyes, hno⟩ := hj.lookup
  have HMM := Lib.hid hm
  obtain ⟨ps, hps⟩ : ∃ l, paidP s bs ws xs = l := ⟨_, rfl⟩
  have HPS := Lib.hid hps
  rw [hps] at HJM
  by_cases ht : t ∈ bs.map (·.ticket)
  ·have HD := Lib.hid (hyes t ht (.pointer none))
   have HOE := Lib.hid (oerr_ok HE.out ht)
   have HT := Lib.hid ht
   have HRC := Lib.hid (HJM.out.rec_ t ht)
   have x6 := HX1.out.c (i := 6) rfl
   have hgr := HRC.out.lt
   have hxl := HX1.out.lt
   clear hb1 hm hyes hno hj hps ht
   go_wp2_with (at_lookup; refine wpl_lookup (by rfl) _ _ _ _ (by rfl) (key_int Tryz.underlying3) uM (zero_rec _) (by rfl) HMM.out t (by rfl) ?_; simp only [HD.out.1, HD.out.2])
   go_loopw [17, 18, 42] (fun v _ i wr => ∃ k : Nat, k ≤ F.o ∧ i = .int .i64 (k : Int) ∧ Hid (wr.ownsRow w1.heap.size 3 1 v (openTo ps t k).length (ints (openTo ps t k))) ∧ Hid (Below w1.heap.size w1 wr)) (fun _ _ i _ => F.o - (intOf i).toNat)
   case atStart => exact ⟨0, Nat.zero_le _, rfl, World.ownsRow_nil _ _ _ _, Below.refl _ _⟩
   case round =>
    obtain ⟨k, hk, rfl, HO, HB⟩ := hrel
    have HBV := Lib.hid (HB1.out.trans (HB.out.mono HB1.out.size))
    obtain ⟨os, hos⟩ : ∃ l, openTo ps t k = l := ⟨_, rfl⟩
    rw [hos] at HO
    obtain ⟨A1, C1, rfl⟩ := own_form HO.out
    have HOK := Lib.hid hos
    have hol : os.length ≤ k := by rw [← hos]; exact openTo_len _ _ _
    have HRV := Lib.hid (HRC.out.below HB.out)
    by_cases hlt : k < F.o
    ·have hk16 : k < 16 := by omega
     have zr := HRV.out.c (recC_op (paid := ps) (t := t) hk16)
     obtain ⟨D, hD⟩ : ∃ D, doneB ps t (k : Int) = D := ⟨_, rfl⟩
     rw [hD] at zr
     have HDD := Lib.hid hD
     have j1 : (0 : Int) ≤ (k : Int) := by omega
     have j2 : (k : Int) < 16 := by omega
     have j3 : (k : Int) < (F.o : Int) := by omega
     have hbl := HB.out.size
     clear hos hD
     cases D
     ·have HBX2 : Hid (Below wr.heap.size wr (wr.alloc (.cells #[.int .i64 (k : Int)] 3))) := (Below.refl _ _).alloc (Nat.le_refl _) _
      have HO2 := Lib.hid (own_below HO.out HBX2.out)
      have HBZ : Hid (w1.heap.size ≤ (wr.alloc (.cells #[.int .i64 (k : Int)] 3)).heap.size) := Nat.le_trans hbl HBX2.out.size
      have b3' : os.length + 1 ≤ maxLen := by unfold maxLen; omega
      have b4' : (os.length + 1) * 8 ≤ 140737488355328 := by omega
      go_wp2_with (at_builtin; refine wpl_own (P := Tryz.prog) (by rfl) _ _ 23 (by rfl) w1.heap.size 3 (.int .i64 0) 1 8 Tryz.underlying23 int_info rfl (by decide) (.slice A1 os.length C1) os.length (ints os) (by rfl) HO2.out ⟨wr.heap.size, 0, none⟩ 1 1 [.int .i64 (k : Int)] (by rfl) (by rfl) (new_int wr (k : Int)) (int_one (k : Int)) b3' b4' HBZ.out ?_; intro v7 w7 ho7 hg7 hn7; obtain ⟨A7, c7, rfl⟩ := own_form ho7)
      go_roundw
      case rel =>
       refine ⟨k + 1, by omega, by go_num, ?_, below_own (HB.out.trans (HBX2.out.mono HB.out.size)) hg7 HBZ.out (fun g e => (HO.out.lt g e).1)⟩
       rw [openTo_no HDD.out, HOK.out, List.length_append]
       refine Lib.hid ?_
       simpa [ints] using ho7
      case measure => simp [intOf]; omega
     ·go_wp2_with fail
      go_roundw
      case rel =>
       refine ⟨k + 1, by omega, by go_num, ?_, HB⟩
       rw [openTo_yes HDD.out, HOK.out]
       exact HO
      case measure => simp [intOf]; omega
    ·obtain rfl : F.o = k := by omega
     have HE : Hid (openP s bs ws xs t = os) := by rw [Hid, ← openTo_all, HOL.out, HPS.out]; exact HOK.out
     have HSL := Lib.hid (Sl.of_own HO.out)
     clear hos
     go_wp2_with fail
     refine bodyPost_ret (results_tmp2 rfl _ _ _) rfl ?_
     unfold RetOp
     rw [HE.out]
     exact ⟨HBV.out, .inr ⟨HOE.out, A1, C1, rfl, HSL.out⟩⟩
  ·have HD := Lib.hid (hno t ht (.pointer none))
   have HOE := Lib.hid (oerr_no HE.out ht)
   clear hb1 hm hyes hno hj hps ht
   go_wp2_with (at_lookup; refine wpl_lookup (by rfl) _ _ _ _ (by rfl) (key_int Tryz.underlying3) uM (zero_rec _) (by rfl) HMM.out t (by rfl) ?_; simp only [HD.out.1, HD.out.2])
   refine bodyPost_ret (results_tmp2 rfl _ _ _) rfl ?_
   exact ⟨HB1.out, .inl ⟨by rw [HOE.out]; decide, by rw [HOE.out]; rfl⟩⟩
end
section
open Go.RowKit
open Go.Lib hiding intOf
set_option maxRecDepth 100000 in
set_option maxHeartbeats 6400000 in
theorem fjudge_any (F : FH) (s : PStyle) (bs : List PBundle) (ws : List PWorker) (X : Option Addr) (n xc : Nat) (xs : List PScan) (w : World) (h : FloorA w s bs ws F) (hs : FloorS s ws) (hx : Recs 4 scanG w X n xs) :
  Calls Tryz.prog 7 #[.agg #[.string s.name, .slice F.Z F.z F.zc, .slice F.M F.m F.mc, .slice F.P F.p F.pc, .slice F.U F.u F.uc, .slice F.E F.e F.ec, .slice F.O F.o F.oc, .slice F.L F.n F.c, .slice F.V F.k F.kc], .slice X n xc] w (RetJu s bs ws xs w) := by
 obtain rfl := hx.len
 have HB : Hid (Below w.heap.size w (w.alloc (.cells #[.string s.name, .slice F.Z F.z F.zc, .slice F.M F.m F.mc, .slice F.P F.p F.pc, .slice F.U F.u F.uc, .slice F.E F.e F.ec, .slice F.O F.o F.oc, .slice F.L F.n F.c, .slice F.V F.k F.kc] 33))) := (Below.refl _ _).alloc (Nat.le_refl _) _
 have HJ := Lib.hid (Judge_any F s bs ws X xc xs _ (h.on HB.out) hs (hx.on scan_mono HB.out))
 clear h hs hx
 go_enter Tryz.func7, Tryz.ntmps7
 go_wp2_with fail
 refine HJ.out.mono ?_
 rintro e1 w1 ⟨hb1, ⟨hne, rfl⟩ | ⟨hz, g, rfl, hsl⟩⟩
 ·have HB1 := Lib.hid (HB.out.trans (hb1.mono HB.out.size))
  have HN := Lib.hid hne
  clear hb1 hne
  go_wp2_with fail
  refine bodyPost_ret (results_tmp2 rfl _ _ _) rfl ?_
  exact ⟨HB1.out, .inl ⟨HN.out, rfl⟩⟩
 ·have HB1 := Lib.hid (HB.out.trans (hb1.mono HB.out.size))
  have HN := Lib.hid (And.intro hz hsl)
  clear hb1 hz hsl
  go_wp2_with fail
  refine bodyPost_ret (results_tmp2 rfl _ _ _) rfl ?_
  exact ⟨HB1.out, .inr ⟨HN.out.1, g, rfl, HN.out.2⟩⟩
set_option maxRecDepth 100000 in
set_option maxHeartbeats 6400000 in
theorem fpaid_any (F : FH) (s : PStyle) (bs : List PBundle) (ws : List PWorker) (X : Option Addr) (n xc : Nat) (xs : List PScan) (w : World) (h : FloorA w s bs ws F) (hs : FloorS s ws) (hx : Recs 4 scanG w X n xs) :
  Calls Tryz.prog 9 #[.agg #[.string s.name, .slice F.Z F.z F.zc, .slice F.M F.m F.mc, .slice F.P F.p F.pc, .slice F.U F.u F.uc, .slice F.E F.e F.ec, .slice F.O F.o F.oc, .slice F.L F.n F.c, .slice F.V F.k F.kc], .slice X n xc] w (RetPa s bs ws xs w) := by
 obtain rfl := hx.len
 have HB : Hid (Below w.heap.size w (w.alloc (.cells #[.string s.name, .slice F.Z F.z F.zc, .slice F.M F.m F.mc, .slice F.P F.p F.pc, .slice F.U F.u F.uc, .slice F.E F.e F.ec, .slice F.O F.o F.oc, .slice F.L F.n F.c, .slice F.V F.k F.kc] 33))) := (Below.refl _ _).alloc (Nat.le_refl _) _
 have HJ := Lib.hid (Paid_any F s bs ws X xc xs _ (h.on HB.out) hs (hx.on scan_mono HB.out))
 clear h hs hx
 go_enter Tryz.func9, Tryz.ntmps9
 go_wp2_with fail
 refine HJ.out.mono ?_
 rintro e1 w1 ⟨hb1, ⟨hne, rfl⟩ | ⟨hz, A, c, rfl, hsl⟩⟩
 ·have HB1 := Lib.hid (HB.out.trans (hb1.mono HB.out.size))
  have HN := Lib.hid hne
  clear hb1 hne
  go_wp2_with fail
  refine bodyPost_ret (results_tmp2 rfl _ _ _) rfl ?_
  exact ⟨HB1.out, .inl ⟨HN.out, rfl⟩⟩
 ·have HB1 := Lib.hid (HB.out.trans (hb1.mono HB.out.size))
  have HN := Lib.hid (And.intro hz hsl)
  clear hb1 hz hsl
  go_wp2_with fail
  refine bodyPost_ret (results_tmp2 rfl _ _ _) rfl ?_
  exact ⟨HB1.out, .inr ⟨HN.out.1, A, c, rfl, HN.out.2⟩⟩
set_option maxRecDepth 100000 in
set_option maxHeartbeats 6400000 in
theorem fopen_any (F : FH) (s : PStyle) (bs : List PBundle) (ws : List PWorker) (X : Option Addr) (n xc : Nat) (xs : List PScan) (t : Int) (w : World) (h : FloorA w s bs ws F) (hs : FloorS s ws) (hx : Recs 4 scanG w X n xs) :
  Calls Tryz.prog 13 #[.agg #[.string s.name, .slice F.Z F.z F.zc, .slice F.M F.m F.mc, .slice F.P F.p F.pc, .slice F.U F.u F.uc, .slice F.E F.e F.ec, .slice F.O F.o F.oc, .slice F.L F.n F.c, .slice F.V F.k F.kc], .slice X n xc, .int .i64 t] w (RetOp s bs ws xs t w) := by
 obtain rfl := hx.len
 have HB : Hid (Below w.heap.size w (w.alloc (.cells #[.string s.name, .slice F.Z F.z F.zc, .slice F.M F.m F.mc, .slice F.P F.p F.pc, .slice F.U F.u F.uc, .slice F.E F.e F.ec, .slice F.O F.o F.oc, .slice F.L F.n F.c, .slice F.V F.k F.kc] 33))) := (Below.refl _ _).alloc (Nat.le_refl _) _
 have HJ := Lib.hid (Open_any F s bs ws X xc xs t _ (h.on HB.out) hs (hx.on scan_mono HB.out))
 clear h hs hx
 go_enter Tryz.func13, Tryz.ntmps13
 go_wp2_with fail
 refine HJ.out.mono ?_
 rintro e1 w1 ⟨hb1, ⟨hne, rfl⟩ | ⟨hz, A, c, rfl, hsl⟩⟩
 ·have HB1 := Lib.hid (HB.out.trans (hb1.mono HB.out.size))
  have HN := Lib.hid hne
  clear hb1 hne
  go_wp2_with fail
  refine bodyPost_ret (results_tmp2 rfl _ _ _) rfl ?_
  exact ⟨HB1.out, .inl ⟨HN.out, rfl⟩⟩
 ·have HB1 := Lib.hid (HB.out.trans (hb1.mono HB.out.size))
  have HN := Lib.hid (And.intro hz hsl)
  clear hb1 hz hsl
  go_wp2_with fail
  refine bodyPost_ret (results_tmp2 rfl _ _ _) rfl ?_
  exact ⟨HB1.out, .inr ⟨HN.out.1, A, c, rfl, HN.out.2⟩⟩
end
end Go.Proofs.YtiibocdmlfedkaaGreatDoor
