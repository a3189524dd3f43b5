/-
  Several texts in one: The law ScanAgain returns true. Conditions: Std; the floor and the scans lie in memory.
-/
import Derived.Test.YtgldhjmedidmoaaGreatDoorG50
import Derived.Test.YtgldhjmedidmoaaGreatDoorG51

/- The law ScanAgain returns true. Conditions: Std; the floor and the scans lie in memory. -/
namespace Go.Proofs.YtgldhjmedidmoaaGreatDoor
open Go.RowKit
open Go.Lib hiding intOf

/-- Nothing is appended to a row of the call's own. -/
theorem step_own_none {P : Program} {w : World} {ops : Array Oper} {o : Oper} {a : Act} {K : Act → World → Prop} {Q : Exit → Act → World → Prop} {E : Prop} (hgd : o.guard = none) (s x : Operand) (t : TypeId)
    (ho : o.op = .call { callee := .builtin .append, args := #[s, x], argTypes := #[t, t] })
    (base : Nat) (e : TypeId) (z : Value) (size bytes : Nat) (ht : P.underlying t = some (.slice e)) (hinfo : (P.info? e).map (fun i => (i.zero, i.size, i.bytes)) = some (some z, size, bytes))
    (v : Value) (n c : Nat) (xs : List Value) (hs : a.eval s = v) (hown : w.ownsRow base e size v n xs) (hx : a.eval x = .slice none 0 c) (h : K (a.put o.dst v) w) :
    if Region.wanted o (yielded ops a.tmps) = true then Oper.wp P o a w K Q else E := by
  have hw : Region.wanted o (yielded ops a.tmps) = true := by simp [Region.wanted, hgd]
  rw [if_pos hw]
  obtain ⟨i0, hi, hz0, hz1, hz2⟩ := info_parts hinfo
  have hr : (Builtin.append_ #[t, t] o.type #[v, .slice none 0 c]).run P w = .ok v w := by
    rcases hown.2 with ⟨rfl, rfl⟩ | ⟨g, cap, cur, rfl, _, _, hnc, _⟩
    · simp [Builtin.append_, run_underlying ht, sizeOf, typeInfo, hi, Builtin.lenOf, Builtin.firstCells]
    · simp [Builtin.append_, run_underlying ht, sizeOf, typeInfo, hi, Builtin.lenOf, Builtin.firstCells, hnc, storeCells]
  unfold Oper.wp execOp
  simp only [ho, resolve, invoke, builtin, Sem.run_bind, Sem.run_pure, Result.andThen_ok, List.map_toArray, List.map_cons, List.map_nil, hs, hx, hr]
  exact h
theorem made_scans (w : World) : (w.alloc (.cells #[] 53)).ownsRow w.heap.size 53 4 (.slice (some ⟨w.heap.size, 0, none⟩) 0 0) 0 [] := World.ownsRow_made w #[] 0 (Nat.le_refl _) (Nat.zero_le _) rfl
theorem below_via (w0 : World) {W u : World} (hv : Below W.heap.size W u) (h : Below w0.heap.size w0 W) : Below w0.heap.size w0 u := h.trans (hv.mono h.size)
/-- Paid where it goes on. -/
theorem paid_ok (F : FH) (s : PStyle) (bs : List PBundle) (ws : List PWorker) (X : Option Addr) (n xc : Nat) (xs : List PScan) (w : World) (h : FloorA w s bs ws F) (hs : FloorS s ws) (hx : Recs 4 scanG w X n xs) (h0 : judgeErr s bs ws n = 0) (ps : List PScan) (hp : paidP s bs ws xs = ps) (m : Nat) (hm : ps.length = m) :
    Calls Tryz.prog 20 #[.agg #[.string s.name, .slice F.Z F.z F.zc, .slice F.M F.m F.mc, .slice F.P F.p F.pc, .slice F.U F.u F.uc, .slice F.E F.e F.ec, .slice F.O F.o F.oc, .slice F.L F.n F.c, .slice F.V F.k F.kc], .slice X n xc] w fun e w' => ∃ A c, e = .returned (.tuple #[.slice A m c, .int .i64 0]) ∧ Recs 4 scanG w' A m ps ∧ Below w.heap.size w w' := by
  refine (fpaid_any F s bs ws X n xc xs w h hs hx).mono fun e w' hret => ?_
  obtain ⟨A, c, he, hr, hc, hb⟩ := hret.ok (by rw [hx.len]; exact h0)
  rw [hp, hm] at he hr
  exact ⟨A, c, he, hr, hb⟩
theorem flat_inv : ∀ (xs : List PScan) (j : Nat) (u : Value), (xs.flatMap sC)[j]? = some u → ∃ i r x, xs[i]? = some x ∧ (sC x)[r]? = some u ∧ j = i * 4 + r
  | [], j, u, h => by simp at h
  | x :: xs, j, u, h => by
    rw [List.flatMap_cons] at h
    by_cases hj : j < 4
    · rw [List.getElem?_append_left (by rw [sC_len]; exact hj)] at h
      exact ⟨0, j, x, rfl, h, by omega⟩
    · rw [List.getElem?_append_right (by rw [sC_len]; omega), sC_len] at h
      obtain ⟨i, r, y, h1, h2, h3⟩ := flat_inv xs (j - 4) u h
      exact ⟨i + 1, r, y, h1, h2, by omega⟩
/-- The cells of a row of scans. -/
theorem scans_cells {w : World} {b off n : Nat} {xs : List PScan} (h : Recs 4 scanG w (some ⟨b, off, none⟩) n xs) : ∀ (j : Nat) (u : Value), (xs.flatMap sC)[j]? = some u → w.cell? ((⟨b, off, none⟩ : Addr).add j) = some u := fun j u hu => by
  obtain ⟨i, r, x, h1, h2, rfl⟩ := flat_inv xs j u hu
  have hn : i < n := by rw [← h.len]; exact (List.getElem?_eq_some_iff.1 h1).1
  obtain ⟨b', off', y, vs, e, _, hy, hg, hv⟩ := h.at_ hn
  injection e with e
  injection e with e1 e2
  subst e1
  subst e2
  obtain rfl : x = y := Option.some.inj (h1.symm.trans hy)
  have hg' : vs = sC x := hg
  subst hg'
  rw [Go.WideShapes.add_plain]
  have := hv r u h2
  rwa [show off + i * 4 + r = off + (i * 4 + r) by omega] at this
theorem scans_one (xs : List PScan) : ∀ u ∈ xs.flatMap sC, u.oneCell' = true := fun u hu => by
  obtain ⟨x, _, hx⟩ := List.mem_flatMap.1 hu
  exact sC_one x u hx
theorem scans_len (xs : List PScan) : (xs.flatMap sC).length = xs.length * 4 := by
  induction xs with
  | nil => rfl
  | cons x xs ih => rw [List.flatMap_cons, List.length_append, ih, sC_len, List.length_cons]; omega
set_option maxRecDepth 100000 in
set_option maxHeartbeats 12800000 in
theorem scanAgain_walk (F : FH) (s : PStyle) (bs : List PBundle) (ws : List PWorker) (X : Option Addr) (n xc : Nat) (xs : List PScan) (w : World) (hw : Std w) (h : FloorA w s bs ws F) (hx : Recs 4 scanG w X n xs) (_hc : n ≤ xc) :
    Calls Tryz.prog 11 #[.agg #[.string s.name, .slice F.Z F.z F.zc, .slice F.M F.m F.mc, .slice F.P F.p F.pc, .slice F.U F.u F.uc, .slice F.E F.e F.ec, .slice F.O F.o F.oc, .slice F.L F.n F.c, .slice F.V F.k F.kc], .slice X n xc] w (RetLaw w) := by
  have HB : Hid (Below w.heap.size w (w.alloc (.cells #[.string s.name, .slice F.Z F.z F.zc, .slice F.M F.m F.mc, .slice F.P F.p F.pc, .slice F.U F.u F.uc, .slice F.E F.e F.ec, .slice F.O F.o F.oc, .slice F.L F.n F.c, .slice F.V F.k F.kc] 33))) := (Below.refl _ _).alloc (Nat.le_refl _) _
  have HX := Lib.hid (Blk.new w 33 #[.string s.name, .slice F.Z F.z F.zc, .slice F.M F.m F.mc, .slice F.P F.p F.pc, .slice F.U F.u F.uc, .slice F.E F.e F.ec, .slice F.O F.o F.oc, .slice F.L F.n F.c, .slice F.V F.k F.kc])
  have hF := few_any F s bs ws X n xc _ (h.on HB.out)
  have HA := Lib.hid h
  have HXS := Lib.hid hx
  have HW := Lib.hid hw
  have HFB := fun hf : fewB s bs ws n = true => few_all hf
  obtain ⟨R, hR⟩ : ∃ R, fewB s bs ws n = R := ⟨_, rfl⟩
  rw [hR] at hF HFB
  have HF := Lib.hid hF
  clear h hx hw hF hR
  cases R
  · clear HFB
    go_enter Tryz.func11, Tryz.ntmps11
    go_wp2_with fail
    refine HF.out.mono ?_
    rintro e1 w1 ⟨rfl, hb1⟩
    have HB1 := Lib.hid (HB.out.trans (hb1.mono HB.out.size))
    have HE := Lib.hid (example_any w1 (HW.out.below HB1.out))
    clear hb1
    go_wp2_with fail
    refine HE.out.mono ?_
    rintro e2 w2 ⟨rfl, hb2⟩
    have HB2 := Lib.hid (HB1.out.trans (hb2.mono HB1.out.size))
    clear hb2
    go_wp2_with fail
    go_ret
    exact ⟨rfl, HB2.out⟩
  · obtain ⟨f1, f2, f3, f4, f5⟩ := HFB rfl
    have HFS : Hid (FloorS s ws) := ⟨f1, f4⟩
    clear HFB f1 f2 f3 f4
    by_cases hn : 150 < n
    · go_enter Tryz.func11, Tryz.ntmps11
      go_wp2_with fail
      refine HF.out.mono ?_
      rintro e1 w1 ⟨rfl, hb1⟩
      have HB1 := Lib.hid (HB.out.trans (hb1.mono HB.out.size))
      have HE := Lib.hid (example_any w1 (HW.out.below HB1.out))
      clear hb1
      go_wp2_with fail
      refine HE.out.mono ?_
      rintro e2 w2 ⟨rfl, hb2⟩
      have HB2 := Lib.hid (HB1.out.trans (hb2.mono HB1.out.size))
      clear hb2
      go_wp2_with fail
      go_ret
      exact ⟨rfl, HB2.out⟩
    go_enter Tryz.func11, Tryz.ntmps11
    go_wp2_with fail
    refine HF.out.mono ?_
    rintro e1 w1 ⟨rfl, hb1⟩
    have HB1 := Lib.hid (HB.out.trans (hb1.mono HB.out.size))
    have HX1 := Lib.hid (HX.out.below hb1)
    have HP := Lib.hid (fpaid_any F s bs ws X n xc xs w1 (HA.out.on HB1.out) HFS.out (HXS.out.on scan_mono HB1.out))
    obtain ⟨x0, x1, x2, x3, x4, x5, x6, x7, x8⟩ := nine_box HX1.out
    clear hb1
    go_wp2_with fail
    refine HP.out.mono ?_
    rintro e2 w2 ⟨hb2, ⟨hne, rfl⟩ | ⟨hz0, A, c, rfl, hrec, hcap⟩⟩
    · have HB2 := Lib.hid (HB1.out.trans (hb2.mono HB1.out.size))
      have HE := Lib.hid (example_any w2 (HW.out.below HB2.out))
      obtain ⟨J, hJ⟩ : ∃ J, judgeErr s bs ws xs.length = J := ⟨_, rfl⟩
      rw [hJ] at hne ⊢
      have hne' : (J != 0) = true := by simpa using hne
      clear hb2 hne hJ
      go_wp2_with fail
      refine HE.out.mono ?_
      rintro e3 w3 ⟨rfl, hb3⟩
      have HB3 := Lib.hid (HB2.out.trans (hb3.mono HB2.out.size))
      clear hb3
      go_wp2_with fail
      go_ret
      exact ⟨rfl, HB3.out⟩
    · have HB2 := Lib.hid (HB1.out.trans (hb2.mono HB1.out.size))
      have HX2 := Lib.hid (HX1.out.below hb2)
      obtain ⟨z1, z2⟩ := jerr_zero hz0
      have HLX : Hid (xs.length = n) := HXS.out.len
      obtain ⟨ps, hps⟩ : ∃ l, paidP s bs ws xs = l := ⟨_, rfl⟩
      have HGD : Hid (GoodL s bs ws ps) := by rw [Hid, ← hps]; exact paid_good xs
      have hple : ps.length ≤ n := by rw [← hps, ← HXS.out.len]; exact paid_len _ _ _ _
      rw [hps] at hrec hcap ⊢
      obtain ⟨m, hm⟩ : ∃ m, ps.length = m := ⟨_, rfl⟩
      rw [hm] at hrec hcap hple ⊢
      have HRE := Lib.hid hrec
      have HM := Lib.hid hm
      have HP2 := Lib.hid (paid_ok F s bs ws A m c ps w2 (HA.out.on HB2.out) HFS.out hrec (jerr_ok z1 (by omega)) ps (paid_again HGD.out) m hm)
      have HP3 := Lib.hid (fun W A6 c6 (hb : Below w2.heap.size w2 W) (hr : Recs 4 scanG W A6 (m + m) (ps ++ ps)) => paid_ok F s bs ws A6 (m + m) c6 (ps ++ ps) W (HA.out.on (HB2.out.trans (hb.mono HB2.out.size))) HFS.out hr (jerr_ok z1 (by omega)) ps (paid_twice HGD.out) m hm)
      obtain ⟨x0, x1, x2, x3, x4, x5, x6, x7, x8⟩ := nine_box HX2.out
      have HX9 := Lib.hid (fun W (hb : Below w2.heap.size w2 W) => nine_box (HX2.out.below hb))
      clear hb2 hz0 z1 z2 hps hm hrec
      go_wp2_with fail
      refine HP2.out.mono ?_
      rintro e3 w3 ⟨A3, c3, rfl, hr3, hb3⟩
      have HB3 := Lib.hid hb3
      have HR3 := Lib.hid hr3
      have HRQ := Lib.hid (HRE.out.on scan_mono hb3)
      clear hb3 hr3 x0 x1 x2 x3 x4 x5 x6 x7 x8
      go_wp2_with fail
      have hq := Below.refl w3.heap.size w3
      have HK := fun W => Lib.hid (fun (hb : Below w3.heap.size w3 W) => HX9.out W (HB3.out.trans (hb.mono HB3.out.size)))
      obtain ⟨x0, x1, x2, x3, x4, x5, x6, x7, x8⟩ := (HK w3).out hq
      rcases A with _ | ad
      · obtain rfl : m = 0 := by
          rcases Nat.eq_zero_or_pos m with h0 | h0
          · exact h0
          · obtain ⟨_, _, e, _⟩ := HRE.out.2 h0
            cases e
        obtain rfl : ps = [] := List.eq_nil_of_length_eq_zero HM.out
        have HP4 : Hid (∀ W A6 c6, Below w2.heap.size w2 W → Recs 4 scanG W A6 0 [] → Calls Tryz.prog 20 #[.agg #[.string s.name, .slice F.Z F.z F.zc, .slice F.M F.m F.mc, .slice F.P F.p F.pc, .slice F.U F.u F.uc, .slice F.E F.e F.ec, .slice F.O F.o F.oc, .slice F.L F.n F.c, .slice F.V F.k F.kc], .slice A6 0 c6] W fun e w' => ∃ A c, e = .returned (.tuple #[.slice A 0 c, .int .i64 0]) ∧ Recs 4 scanG w' A 0 [] ∧ Below W.heap.size W w') := HP3.out
        go_region_held3 (fun w' => w'.cell? ⟨w.heap.size, 0, none⟩ = some (.string s.name) ∧ w'.cell? ⟨w.heap.size, 1, none⟩ = some (.slice F.Z F.z F.zc) ∧ w'.cell? ⟨w.heap.size, 2, none⟩ = some (.slice F.M F.m F.mc) ∧ w'.cell? ⟨w.heap.size, 3, none⟩ = some (.slice F.P F.p F.pc) ∧ w'.cell? ⟨w.heap.size, 4, none⟩ = some (.slice F.U F.u F.uc) ∧ w'.cell? ⟨w.heap.size, 5, none⟩ = some (.slice F.E F.e F.ec) ∧ w'.cell? ⟨w.heap.size, 6, none⟩ = some (.slice F.O F.o F.oc) ∧ w'.cell? ⟨w.heap.size, 7, none⟩ = some (.slice F.L F.n F.c) ∧ w'.cell? ⟨w.heap.size, 8, none⟩ = some (.slice F.V F.k F.kc))
          ((refine (HK _).out ?_; repeat (first | (with_reducible exact Below.refl _ _) | (with_reducible exact hq) | (with_reducible refine Below.drew ?_) | (with_reducible refine Below.alo ?_ _))))
          (first | ((go_at_call 20; go_must ((refine (HP4.out _ _ _ (HB3.out.trans ((show Below w3.heap.size w3 _ by repeat (first | (with_reducible exact Below.refl _ _) | (with_reducible exact hq) | (with_reducible refine Below.drew ?_) | (with_reducible refine Below.alo ?_ _))).mono HB3.out.size)) (Recs.nil _ _ _ _)).mono ?_); rintro e u1 ⟨A8, c8, rfl, hr8, hv⟩; replace hq := below_via w3 hv (by repeat (first | (with_reducible exact Below.refl _ _) | (with_reducible exact hq) | (with_reducible refine Below.drew ?_) | (with_reducible refine Below.alo ?_ _))); have HR8 := Lib.hid hr8; clear hr8 hv))) | (refine step_own_none (by rfl) _ _ 39 (by rfl) w3.heap.size 53 (.agg #[.int .i64 0, .int .i64 0, .int .i64 0, .int .i64 0]) 4 32 Tryz.underlying39 scan_info (.slice (some ⟨w3.heap.size, 0, none⟩) 0 0) 0 c [] (by rfl) (made_scans w3) (by rfl) ?_))
        have HB8 := Lib.hid (HB3.out.trans (hq.mono HB3.out.size))
        have HRA := Lib.hid (HRQ.out.on scan_mono hq)
        have HRB := Lib.hid (HR3.out.on scan_mono hq)
        have HSA := Lib.hid (sameScans_true [] A3 0 c3 none c u1 HRB.out HRA.out (by omega))
        clear x0 x1 x2 x3 x4 x5 x6 x7 x8 hq
        go_wp2_with fail
        refine HSA.out.mono ?_
        rintro e4 w4 ⟨rfl, hb4⟩
        have HB9 := Lib.hid (HB8.out.trans (hb4.mono HB8.out.size))
        have HSB := Lib.hid (sameScans_true [] A8 0 c8 none c w4 (HR8.out.on scan_mono hb4) (HRA.out.on scan_mono hb4) (by omega))
        clear hb4
        go_wp2_with fail
        refine HSB.out.mono ?_
        rintro e5 w5 ⟨rfl, hb5⟩
        have HB10 := Lib.hid (HB9.out.trans (hb5.mono HB9.out.size))
        have HE := Lib.hid (example_any w5 (HW.out.below (HB2.out.trans (HB10.out.mono HB2.out.size))))
        clear hb5
        go_wp2_with fail
        refine HE.out.mono ?_
        rintro e6 w6 ⟨rfl, hb6⟩
        have HB11 := Lib.hid (HB10.out.trans (hb6.mono HB10.out.size))
        clear hb6
        go_wp2_with fail
        go_ret
        exact ⟨rfl, HB2.out.trans (HB11.out.mono HB2.out.size)⟩
      · have HCE : Hid (∀ W, Below w3.heap.size w3 W → ∀ (j : Nat) (u : Value), (ps.flatMap sC)[j]? = some u → W.cell? (ad.add j) = some u) := fun W hb j u hu => by
          have hr := HRQ.out.on scan_mono hb
          obtain ⟨b, off, e, _, _⟩ := hr.2 (by
            rw [← HM.out]
            have : ps ≠ [] := fun e => by rw [e] at hu; simp at hu
            exact List.length_pos_iff.2 this)
          injection e with e
          subst e
          exact scans_cells hr j u hu
        have b1' : 0 + m ≤ maxLen := by unfold maxLen; omega
        have b2' : (0 + m) * 32 ≤ 140737488355328 := by omega
        have b3' : m + m ≤ maxLen := by unfold maxLen; omega
        have b4' : (m + m) * 32 ≤ 140737488355328 := by omega
        have HLN : Hid ((ps.flatMap sC).length = m * 4) := by rw [Hid, scans_len, HM.out]
        go_region_held3 (fun w' => w'.cell? ⟨w.heap.size, 0, none⟩ = some (.string s.name) ∧ w'.cell? ⟨w.heap.size, 1, none⟩ = some (.slice F.Z F.z F.zc) ∧ w'.cell? ⟨w.heap.size, 2, none⟩ = some (.slice F.M F.m F.mc) ∧ w'.cell? ⟨w.heap.size, 3, none⟩ = some (.slice F.P F.p F.pc) ∧ w'.cell? ⟨w.heap.size, 4, none⟩ = some (.slice F.U F.u F.uc) ∧ w'.cell? ⟨w.heap.size, 5, none⟩ = some (.slice F.E F.e F.ec) ∧ w'.cell? ⟨w.heap.size, 6, none⟩ = some (.slice F.O F.o F.oc) ∧ w'.cell? ⟨w.heap.size, 7, none⟩ = some (.slice F.L F.n F.c) ∧ w'.cell? ⟨w.heap.size, 8, none⟩ = some (.slice F.V F.k F.kc))
          ((refine (HK _).out ?_; repeat (first | (with_reducible exact Below.refl _ _) | (with_reducible exact hq) | (with_reducible refine Below.drew ?_) | (with_reducible refine Below.alo ?_ _))))
          (first | ((go_at_call 20; go_must ((refine (HP3.out _ _ _ (HB3.out.trans ((show Below w3.heap.size w3 _ by repeat (first | (with_reducible exact Below.refl _ _) | (with_reducible exact hq) | (with_reducible refine Below.drew ?_) | (with_reducible refine Below.alo ?_ _))).mono HB3.out.size)) (by repeat (first | (with_reducible exact hr6) | (with_reducible refine Recs.on ?_ scan_mono (Below.drew (Below.refl _ _)))))).mono ?_); rintro e u1 ⟨A8, c8, rfl, hr8, hv⟩; replace hq := below_then hq hv; have HR8 := Lib.hid hr8; clear hr8 hv))) | (refine step_own (by rfl) _ _ 39 (by rfl) w3.heap.size 53 (.agg #[.int .i64 0, .int .i64 0, .int .i64 0, .int .i64 0]) 4 32 Tryz.underlying39 scan_info rfl (by decide) v5 m (ps.flatMap sC) (by rfl) (by repeat (first | (with_reducible exact ho5) | (with_reducible refine own_below ?_ (Below.drew (Below.refl _ _))))) ad m c (ps.flatMap sC) (by rfl) HLN.out (HCE.out _ (by repeat (first | (with_reducible exact Below.refl _ _) | (with_reducible exact hq) | (with_reducible refine Below.drew ?_) | (with_reducible refine Below.alo ?_ _)))) (scans_one ps) b3' b4' (by have := hq.size; simpa using this) ?_; intro v6 w6 ho6 hg6 hn6; replace hq : Below w3.heap.size w3 w6 := below_own (by repeat (first | (with_reducible exact Below.refl _ _) | (with_reducible exact hq) | (with_reducible refine Below.drew ?_) | (with_reducible refine Below.alo ?_ _))) hg6 (by have := hq.size; simpa using this) (fun g e => (ho5.lt g e).1); obtain ⟨A6, c6, rfl, hr6, _⟩ := own_scans (xs := ps ++ ps) (by rw [List.flatMap_append]; exact ho6) (by rw [List.length_append, HM.out]); clear ho6 hg6 hn6) | (refine step_own (by rfl) _ _ 39 (by rfl) w3.heap.size 53 (.agg #[.int .i64 0, .int .i64 0, .int .i64 0, .int .i64 0]) 4 32 Tryz.underlying39 scan_info rfl (by decide) (.slice (some ⟨w3.heap.size, 0, none⟩) 0 0) 0 [] (by rfl) (made_scans w3) ad m c (ps.flatMap sC) (by rfl) HLN.out (HCE.out _ (by repeat (first | (with_reducible exact Below.refl _ _) | (with_reducible exact hq) | (with_reducible refine Below.drew ?_) | (with_reducible refine Below.alo ?_ _)))) (scans_one ps) b1' b2' (by simp) ?_; intro v5 w5 ho5 hg5 hn5; replace hq : Below w3.heap.size w3 w5 := below_own (by repeat (first | (with_reducible exact Below.refl _ _) | (with_reducible exact hq) | (with_reducible refine Below.drew ?_) | (with_reducible refine Below.alo ?_ _))) hg5 (by simp) (fun g e => by cases e; exact Nat.le_refl _); rw [Nat.zero_add, List.nil_append] at ho5; clear hg5 hn5))
        have HB8 := Lib.hid (HB3.out.trans (hq.mono HB3.out.size))
        have HRA := Lib.hid (HRQ.out.on scan_mono hq)
        have HRB := Lib.hid (HR3.out.on scan_mono hq)
        have HSA := Lib.hid (sameScans_true ps A3 m c3 (some ad) c u1 HRB.out HRA.out (by omega))
        clear x0 x1 x2 x3 x4 x5 x6 x7 x8 hq
        go_wp2_with fail
        refine HSA.out.mono ?_
        rintro e4 w4 ⟨rfl, hb4⟩
        have HB9 := Lib.hid (HB8.out.trans (hb4.mono HB8.out.size))
        have HSB := Lib.hid (sameScans_true ps A8 m c8 (some ad) c w4 (HR8.out.on scan_mono hb4) (HRA.out.on scan_mono hb4) (by omega))
        clear hb4
        go_wp2_with fail
        refine HSB.out.mono ?_
        rintro e5 w5 ⟨rfl, hb5⟩
        have HB10 := Lib.hid (HB9.out.trans (hb5.mono HB9.out.size))
        have HE := Lib.hid (example_any w5 (HW.out.below (HB2.out.trans (HB10.out.mono HB2.out.size))))
        clear hb5
        go_wp2_with fail
        refine HE.out.mono ?_
        rintro e6 w6 ⟨rfl, hb6⟩
        have HB11 := Lib.hid (HB10.out.trans (hb6.mono HB10.out.size))
        clear hb6
        go_wp2_with fail
        go_ret
        exact ⟨rfl, HB2.out.trans (HB11.out.mono HB2.out.size)⟩
end Go.Proofs.YtgldhjmedidmoaaGreatDoor
