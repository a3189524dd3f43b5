/-
  Several texts in one: The law ScanComplete returns true. Conditions: Std; the floor lies in memory.
-/
import Derived.Test.YtbgkdlfpmbnakaaGreatDoorG40
import Derived.Test.YtbgkdlfpmbnakaaGreatDoorG43
import Derived.Test.YtbgkdlfpmbnakaaGreatDoorG49

/- The law ScanComplete returns true. Conditions: Std; the floor lies in memory. -/
namespace Go.Proofs.YtbgkdlfpmbnakaaGreatDoor
open Go.RowKit
open Go.Lib hiding intOf

theorem op_none {l : List POp} {n i : Nat} (h : opE l (some n) i = 0) : opE l none i = 0 := by
  rw [opE] at h ⊢
  cases hi : l[i]? with
  | none => rfl
  | some o =>
    simp only [hi] at h ⊢
    split at h
    · cases h
    · rename_i a
      rw [if_neg a]
      split at h
      · cases h
      · rename_i b
        rw [if_neg b]
        split at h
        · cases h
        · rename_i c
          rw [if_neg c]
          split at h
          · cases h
          · rename_i d
            rw [if_neg (by rintro (x | x); exact d (.inl x); cases x)]
            split at h
            · cases h
            · rename_i e
              rw [if_neg (by rintro (x | x); exact e (.inl x); cases x)]
theorem list_none {l : List POp} {n : Nat} (h : listE l (some n) = 0) : listE l none = 0 := by
  obtain ⟨h1, h2, h3⟩ := list_zero h
  exact list_ok (by omega) (fun j hj => op_none (h2 j hj)) h3
/-- One of the first k bundles has the ticket. -/
def knT (t : Int) (bs : List PBundle) (k : Nat) : Bool := (bs.take k).any fun b => decide (b.ticket = t)
theorem knT_succ {t : Int} {bs : List PBundle} {k : Nat} {x : PBundle} (h : bs[k]? = some x) : knT t bs (k + 1) = (knT t bs k || decide (x.ticket = t)) := by
  unfold knT
  rw [List.take_add_one, h, List.any_append]
  simp
/-- The first k scans of the order's. -/
def scK (t a : Int) (ord by_ : List Nat) (k : Nat) : List PScan := (List.range k).map fun i => ⟨t, (ord.getD i 0 : Nat), (by_.getD i 0 : Nat), a + i⟩
theorem scK_all (t a : Int) (ord by_ : List Nat) : scK t a ord by_ ord.length = orderScans t a ord by_ := rfl
theorem scK_len (t a : Int) (ord by_ : List Nat) (k : Nat) : (scK t a ord by_ k).length = k := by unfold scK; simp
theorem getD_snoc (l : List Nat) (x i : Nat) (h : i < l.length) : (l ++ [x]).getD i 0 = l.getD i 0 := by
  rw [List.getD_eq_getElem?_getD, List.getD_eq_getElem?_getD, List.getElem?_append_left h]
theorem getD_last (l : List Nat) (x : Nat) : (l ++ [x]).getD l.length 0 = x := by
  rw [List.getD_eq_getElem?_getD, List.getElem?_append_right (Nat.le_refl _), Nat.sub_self]
  rfl
theorem scK_succ {t a : Int} {ord by_ : List Nat} {k p j : Nat} (hb : by_.length = k) (hp : ord.getD k 0 = p) : scK t a ord (by_ ++ [j]) (k + 1) = scK t a ord by_ k ++ [⟨t, (p : Int), (j : Int), a + k⟩] := by
  subst hb
  unfold scK
  rw [List.range_succ, List.map_append]
  congr 1
  · refine List.map_congr_left fun i hi => ?_
    rw [getD_snoc _ _ _ (List.mem_range.1 hi)]
  · simp only [List.map_cons, List.map_nil, hp, getD_last]
/-- The workers so far can do it. -/
def byOk (s : PStyle) (ws : List PWorker) (by_ : List Nat) (k : Nat) : Prop := ∀ j o, j < k → s.ops[(orderP s.ops).getD j 0]? = some o → ∃ w, ws[by_.getD j 0]? = some w ∧ canB w o.machine = true
theorem byOk.snoc {s : PStyle} {ws : List PWorker} {by_ : List Nat} {k p j : Nat} {o : POp} {v : PWorker} (h : byOk s ws by_ k) (hb : by_.length = k) (hp : (orderP s.ops).getD k 0 = p) (ho : s.ops[p]? = some o) (hv : ws[j]? = some v) (hc : canB v o.machine = true) : byOk s ws (by_ ++ [j]) (k + 1) := fun i o' hi ho' => by
  subst hb
  by_cases e : i = by_.length
  · subst e
    rw [hp, ho] at ho'
    obtain rfl := Option.some.inj ho'
    exact ⟨v, by rw [getD_last]; exact hv, hc⟩
  · rw [getD_snoc _ _ _ (by omega)]
    exact h i o' (by omega) ho'
set_option maxRecDepth 100000 in
set_option maxHeartbeats 12800000 in
theorem scanComplete_walk (F : FH) (s : PStyle) (bs : List PBundle) (ws : List PWorker) (t a : Int) (w : World) (hw : Std w) (h : FloorA w s bs ws F) :
    Calls Tryz.prog 8 #[.agg #[.string s.name, .slice F.Z F.z F.zc, .slice F.M F.m F.mc, .slice F.P F.p F.pc, .slice F.U F.u F.uc, .slice F.E F.e F.ec, .slice F.O F.o F.oc, .slice F.L F.n F.c, .slice F.V F.k F.kc], .int .i64 t, .int .i64 a] w (RetLaw w) := by
  have HB : Hid (Below w.heap.size w (w.alloc (.cells #[.string s.name, .slice F.Z F.z F.zc, .slice F.M F.m F.mc, .slice F.P F.p F.pc, .slice F.U F.u F.uc, .slice F.E F.e F.ec, .slice F.O F.o F.oc, .slice F.L F.n F.c, .slice F.V F.k F.kc] 33))) := (Below.refl _ _).alloc (Nat.le_refl _) _
  have HX := Lib.hid (Blk.new w 33 #[.string s.name, .slice F.Z F.z F.zc, .slice F.M F.m F.mc, .slice F.P F.p F.pc, .slice F.U F.u F.uc, .slice F.E F.e F.ec, .slice F.O F.o F.oc, .slice F.L F.n F.c, .slice F.V F.k F.kc])
  have hF := few_any F s bs ws none 0 0 _ (h.on HB.out)
  have HA := Lib.hid h
  have HW := Lib.hid hw
  have HFB := fun hf : fewB s bs ws 0 = true => few_all hf
  obtain ⟨R, hR⟩ : ∃ R, fewB s bs ws 0 = R := ⟨_, rfl⟩
  rw [hR] at hF HFB
  have HF := Lib.hid hF
  clear h hw hF hR
  cases R
  · clear HFB
    go_enter Tryz.func8, Tryz.ntmps8
    go_wp2_with fail
    refine HF.out.mono ?_
    rintro e1 w1 ⟨rfl, hb1⟩
    have HB1 := Lib.hid (HB.out.trans (hb1.mono HB.out.size))
    clear hb1
    have HE := Lib.hid (example_any w1 (HW.out.below HB1.out))
    go_wp2_with fail
    refine HE.out.mono ?_
    rintro ee we ⟨rfl, hbe⟩
    have HBE := Lib.hid (HB1.out.trans (hbe.mono HB1.out.size))
    clear hbe
    go_wp2_with fail
    go_ret
    exact ⟨rfl, HBE.out⟩
  obtain ⟨f1, f2, f3, f4, f5⟩ := HFB rfl
  have HFS : Hid (FloorS s ws) := ⟨f1, f4⟩
  have HFK : Hid (ws.length ≤ 20) := f3
  clear HFB f1 f2 f3 f4 f5
  by_cases ha0 : a < 0
  · go_enter Tryz.func8, Tryz.ntmps8
    go_wp2_with fail
    refine HF.out.mono ?_
    rintro e1 w1 ⟨rfl, hb1⟩
    have HB1 := Lib.hid (HB.out.trans (hb1.mono HB.out.size))
    clear hb1
    have HE := Lib.hid (example_any w1 (HW.out.below HB1.out))
    go_wp2_with fail
    refine HE.out.mono ?_
    rintro ee we ⟨rfl, hbe⟩
    have HBE := Lib.hid (HB1.out.trans (hbe.mono HB1.out.size))
    clear hbe
    go_wp2_with fail
    go_ret
    exact ⟨rfl, HBE.out⟩
  by_cases ha1 : 1073741724 < a
  · go_enter Tryz.func8, Tryz.ntmps8
    go_wp2_with fail
    refine HF.out.mono ?_
    rintro e1 w1 ⟨rfl, hb1⟩
    have HB1 := Lib.hid (HB.out.trans (hb1.mono HB.out.size))
    clear hb1
    have HE := Lib.hid (example_any w1 (HW.out.below HB1.out))
    go_wp2_with fail
    refine HE.out.mono ?_
    rintro ee we ⟨rfl, hbe⟩
    have HBE := Lib.hid (HB1.out.trans (hbe.mono HB1.out.size))
    clear hbe
    go_wp2_with fail
    go_ret
    exact ⟨rfl, HBE.out⟩
  go_enter Tryz.func8, Tryz.ntmps8
  go_wp2_with fail
  refine HF.out.mono ?_
  rintro e1 w1 ⟨rfl, hb1⟩
  have HB1 := Lib.hid (HB.out.trans (hb1.mono HB.out.size))
  have HX1 := Lib.hid (HX.out.below hb1)
  have hA1 := HA.out.on HB1.out
  have hck := scanCheck_any s F.Z F.z F.zc F.M F.m F.mc F.P F.p F.pc F.U F.u F.uc F.E F.e F.ec F.O F.o F.oc w1 hA1.st HFS.out.st F.L F.n F.c bs hA1.bun hA1.bcap F.V F.k F.kc ws hA1.wor hA1.wcap HFS.out.wor
  obtain ⟨E, hE⟩ : ∃ E, scanE s bs ws = E := ⟨_, rfl⟩
  rw [hE] at hck
  have HCK := Lib.hid hck
  obtain ⟨x0, x1, x2, x3, x4, x5, x6, x7, x8⟩ := nine_box HX1.out
  clear hb1 hA1 hck
  go_wp2_with fail
  refine HCK.out.mono ?_
  rintro e2 w2 ⟨rfl, hb2⟩
  have HB2 := Lib.hid (HB1.out.trans (hb2.mono HB1.out.size))
  have HX2 := Lib.hid (HX1.out.below hb2)
  by_cases hE0 : E ≠ 0
  · have hne' : (E != 0) = true := by simpa using hE0
    clear hb2 hE hE0
    have HE := Lib.hid (example_any w2 (HW.out.below HB2.out))
    go_wp2_with fail
    refine HE.out.mono ?_
    rintro ee we ⟨rfl, hbe⟩
    have HBE := Lib.hid (HB2.out.trans (hbe.mono HB2.out.size))
    clear hbe
    go_wp2_with fail
    go_ret
    exact ⟨rfl, HBE.out⟩
  obtain rfl : E = 0 := by simpa using hE0
  clear hE0
  have HZ := Lib.hid hE
  have fn60 : F.n ≤ 60 := by rw [← HA.out.bun.len]; exact (scan_zero hE).2.1
  have fo16 : F.o ≤ 16 := by rw [← HA.out.st.ops.len]; exact (ops_idx hE).1
  have fk12 : F.k ≤ 20 := by rw [← HA.out.wor.len]; exact HFK.out
  have HFO := Lib.hid HA.out.st.ops.len
  have HLE : Hid (listE s.ops none = 0) := list_none (ops_zero (scan_zero hE).1).2
  have HOC : Hid (F.o ≤ F.oc) := HA.out.st.ocap
  obtain ⟨fn, hfn⟩ : ∃ k, F.n = k := ⟨_, rfl⟩
  obtain ⟨L, hL⟩ : ∃ k, F.L = k := ⟨_, rfl⟩
  obtain ⟨O, hO⟩ : ∃ O, F.O = O := ⟨_, rfl⟩
  obtain ⟨V, hV⟩ : ∃ V, F.V = V := ⟨_, rfl⟩
  have HC2 : Hid (∀ W, Below w2.heap.size w2 W → W.cell? ⟨w.heap.size, 6, none⟩ = some (.slice O F.o F.oc) ∧ W.cell? ⟨w.heap.size, 7, none⟩ = some (.slice L fn F.c) ∧ W.cell? ⟨w.heap.size, 8, none⟩ = some (.slice V F.k F.kc)) := fun W hb => by
    obtain ⟨_, _, _, _, _, _, z6, z7, z8⟩ := nine_box (HX2.out.below hb)
    rw [hO] at z6
    rw [hfn, hL] at z7
    rw [hV] at z8
    exact ⟨z6, z7, z8⟩
  have HX9 := Lib.hid (fun W (hb : Below w2.heap.size w2 W) => nine_box (HX2.out.below hb))
  have HOPS : Hid (∀ W, Below w.heap.size w W → Recs 5 opG W O F.o s.ops) := fun W hb => by rw [← hO]; exact HA.out.st.ops.on op_mono hb
  have HWOR : Hid (∀ W, Below w.heap.size w W → Recs 2 workerG W V F.k ws) := fun W hb => by rw [← hV]; exact HA.out.wor.on worker_mono hb
  have HBUN : Hid (∀ W, Below w.heap.size w W → Recs 6 bundleG W L fn bs) := fun W hb => by rw [← hfn, ← hL]; exact HA.out.bun.on bundle_mono hb
  have HBL : Hid (bs.length = fn) := by rw [Hid, ← hfn]; exact HA.out.bun.len
  obtain ⟨x6, x7, x8⟩ := HC2.out w2 (Below.refl _ _)
  rw [hfn] at fn60
  clear hb2 hE hfn hL hO hV
  clear x6 x8
  go_wp2_with fail
  go_loopw [7, 9, 45] (fun kn _ i wr => ∃ k : Nat, k ≤ fn ∧ i = .int .i64 (k : Int) ∧ kn = .bool (knT t bs k) ∧ Hid (Below w2.heap.size w2 wr)) (fun _ _ i _ => fn - (intOf i).toNat)
  case atStart => exact ⟨0, Nat.zero_le _, rfl, rfl, Below.refl _ _⟩
  case round =>
    obtain ⟨k, hk, rfl, rfl, HBK⟩ := hrel
    obtain ⟨wq, rfl⟩ : ∃ v, v = wr := ⟨_, rfl⟩
    have HBV := Lib.hid (HB2.out.trans (HBK.out.mono HB2.out.size))
    obtain ⟨kb, hkb⟩ : ∃ b, knT t bs k = b := ⟨_, rfl⟩
    rw [hkb]
    by_cases hlt : k < fn
    · obtain ⟨b, off, x, rfl, hbw, hx, c0, c1, c2, c3, c4, c5, _, _⟩ := bundle_at (HBUN.out wq HBV.out) hlt
      have hsu := knT_succ (t := t) hx
      rw [hkb] at hsu
      obtain ⟨xt, hxt⟩ : ∃ z, x.ticket = z := ⟨_, rfl⟩
      rw [hxt] at c0 hsu
      have HBA : Hid (Below wq.heap.size wq (wq.alloc (.cells #[.int .i64 xt, .int .i64 x.garment, .int .i64 x.size, .int .i64 x.lot, .int .i64 x.from_, .int .i64 x.to_] 65))) := (Below.refl _ _).alloc (Nat.le_refl _) _
      have HBN := Lib.hid (HBK.out.trans (HBA.out.mono HBK.out.size))
      have i1 : (0 : Int) ≤ (k : Int) := by omega
      have i2 : (k : Int) < (fn : Int) := by omega
      clear hx hxt hkb
      cases kb
      · by_cases e : xt = t
        · subst e
          have HN : Hid (knT xt bs (k + 1) = true) := by rw [Hid, hsu, decide_eq_true rfl]; rfl
          clear hsu
          go_wp2_with fail
          go_roundw
          case rel => exact ⟨k + 1, by omega, by go_num, by rw [HN.out], HBN⟩
          case measure => simp [intOf]; omega
        · have HN : Hid (knT t bs (k + 1) = false) := by rw [Hid, hsu, decide_eq_false e]; rfl
          have e' : (xt == t) = false := by simpa using e
          clear hsu
          go_wp2_with fail
          go_roundw
          case rel => exact ⟨k + 1, by omega, by go_num, by rw [HN.out], HBN⟩
          case measure => simp [intOf]; omega
      · have HN : Hid (knT t bs (k + 1) = true) := by rw [Hid, hsu]; rfl
        clear hsu
        go_wp2_with fail
        go_roundw
        case rel => exact ⟨k + 1, by omega, by go_num, by rw [HN.out], HBN⟩
        case measure => simp [intOf]; omega
    · obtain rfl : fn = k := by omega
      have HKN : Hid (knT t bs fn = kb) := hkb
      obtain ⟨x6, x7, x8⟩ := HC2.out wq HBK.out
      have HOR := Lib.hid (order_any O F.o F.oc s.ops wq (HOPS.out wq HBV.out) HOC.out HFS.out.st.op)
      clear hkb
      go_wp2_with fail
      refine HOR.out.mono ?_
      rintro e3 w3 ⟨hb3, ⟨hne, rfl⟩ | ⟨_, A, c, rfl, hown⟩⟩
      · exact absurd HLE.out hne
      have HB3 := Lib.hid (HBK.out.trans (hb3.mono HBK.out.size))
      have HBV3 := Lib.hid (HB2.out.trans (HB3.out.mono HB2.out.size))
      have HSO : Hid (Sl w3 w3.heap.size A s.ops.length (ints ((orderP s.ops).map fun i : Nat => (i : Int)))) := Sl.of_own hown
      rw [HFO.out] at HSO
      rw [HFO.out]
      have HOL : Hid ((orderP s.ops).length = F.o) := by
        have h1 := order_len s.ops
        have h2 := (list_zero HLE.out).2.2
        rw [Hid, ← HFO.out]
        omega
      clear hb3 hown x6 x7 x8
      cases kb
      · clear HSO
        have HE := Lib.hid (example_any w3 (HW.out.below HBV3.out))
        go_wp2_with fail
        refine HE.out.mono ?_
        rintro ee we ⟨rfl, hbe⟩
        have HBE := Lib.hid (HBV3.out.trans (hbe.mono HBV3.out.size))
        clear hbe
        go_wp2_with fail
        go_ret
        exact ⟨rfl, HBE.out⟩
      · go_wp2_with fail
        go_loopw [12, 13, 14, 15, 77, 95] (fun v _ _ _ i _ wr => ∃ (k : Nat) (by_ : List Nat), k ≤ F.o ∧ i = .int .i64 (k : Int) ∧ Hid (by_.length = k) ∧ Hid (byOk s ws by_ k) ∧ Hid (wr.ownsRow w3.heap.size 53 4 v k ((scK t a (orderP s.ops) by_ k).flatMap sC)) ∧ Hid (Below w3.heap.size w3 wr)) (fun _ _ _ _ i _ _ => F.o - (intOf i).toNat)
        case atStart => exact ⟨0, [], Nat.zero_le _, rfl, rfl, (fun j o hj => by omega), ⟨by simp [scK], .inl ⟨rfl, rfl⟩⟩, Below.refl _ _⟩
        case round =>
          obtain ⟨k, by_, hk, rfl, HBY, HOK, HO, HBL3⟩ := hrel
          obtain ⟨wz, rfl⟩ : ∃ v, v = wr := ⟨_, rfl⟩
          obtain ⟨A1, C1, rfl⟩ := own_form HO.out
          have HBL2 := Lib.hid (HB3.out.trans (HBL3.out.mono HB3.out.size))
          have HBV4 := Lib.hid (HB2.out.trans (HBL2.out.mono HB2.out.size))
          by_cases hlt2 : k < F.o
          · obtain ⟨b, off, z, rfl, hbw, hz, c0⟩ := (HSO.out.on HBL3.out).int_ hlt2
            obtain ⟨p, hp, rfl⟩ : ∃ p : Nat, (orderP s.ops)[k]? = some p ∧ z = (p : Int) := by
              rw [List.getElem?_map, Option.map_eq_some_iff] at hz
              obtain ⟨p, h1, h2⟩ := hz
              exact ⟨p, h1, h2.symm⟩
            have hpl := (order_ord s.ops k p hp).1
            rw [HFO.out] at hpl
            have HPD : Hid ((orderP s.ops).getD k 0 = p) := by rw [Hid, List.getD_eq_getElem?_getD, hp]; rfl
            obtain ⟨o, ho⟩ : ∃ o, s.ops[p]? = some o := ⟨_, List.getElem?_eq_getElem (by rw [HFO.out]; exact hpl)⟩
            have HOO := Lib.hid ho
            obtain ⟨x6, x7, x8⟩ := HC2.out wz HBL2.out
            have i1 : (0 : Int) ≤ (k : Int) := by omega
            have i2 : (k : Int) < (F.o : Int) := by omega
            have i3 : ¬ (p : Int) < 0 := by omega
            have i4 : ¬ (F.o : Int) ≤ (p : Int) := by omega
            have i5 : IntKind.i64.wrap (a + (k : Int)) = a + (k : Int) := IntWalk.i64_in _ (by omega)
            clear hz hp ho x7
            go_wp2_with fail
            clear i3 i4 x6 x8
            go_loopw [12, 15, 95] (fun v' _ i wy => ∃ j : Nat, j ≤ F.k ∧ i = .int .i64 (j : Int) ∧ v' = .slice A1 k C1 ∧ Hid (Below wz.heap.size wz wy)) (fun _ _ i _ => F.k - (intOf i).toNat)
            case atStart => exact ⟨0, Nat.zero_le _, rfl, rfl, Below.refl _ _⟩
            case round =>
              obtain ⟨j, hj, rfl, rfl, HBY5⟩ := hrel
              obtain ⟨wy, rfl⟩ : ∃ v, v = wr := ⟨_, rfl⟩
              have HBL5 := Lib.hid (HBL3.out.trans (HBY5.out.mono HBL3.out.size))
              have HBL6 := Lib.hid (HB3.out.trans (HBL5.out.mono HB3.out.size))
              have HBV5 := Lib.hid (HB2.out.trans (HBL6.out.mono HB2.out.size))
              by_cases hjt : j < F.k
              · obtain ⟨ob, oo, o', B, an, ac, C, un, uc, rfl, hob, hoo, d0, d1, d2, d3, d4, s1, s2, s3, s4⟩ := op_at (HOPS.out wy HBV5.out) (j := p) hpl
                obtain rfl : o = o' := Option.some.inj (HOO.out.symm.trans hoo)
                obtain ⟨wb, wo, v, D, mn, mc, rfl, hwb, hvv, e0, e1, r1, r2⟩ := worker_at (HWOR.out wy HBV5.out) (j := j) hjt
                have hmn : mn ≤ 1000 := by rw [← r1.ilen]; exact (HFS.out.wor v (List.mem_of_getElem? hvv)).mac
                have HVV := Lib.hid hvv
                have HCAN := Lib.hid (fun U (hb : Below wy.heap.size wy U) => can_any v D mn mc o.machine U (r1.on hb) hmn)
                obtain ⟨R, hR⟩ : ∃ R, canB v o.machine = R := ⟨_, rfl⟩
                rw [hR] at HCAN
                have HR := Lib.hid hR
                have HKM := fun U => Lib.hid (fun (hb : Below wy.heap.size wy U) => And.intro (HC2.out U (HBL6.out.trans (hb.mono HBL6.out.size))).1
                  (And.intro (HC2.out U (HBL6.out.trans (hb.mono HBL6.out.size))).2.2 (And.intro ((hb.cell (p := ⟨ob, oo + p * 5 + 1, none⟩) hob).trans d1) (And.intro ((hb.cell (p := ⟨wb, wo + j * 2, none⟩) hwb).trans e0) ((hb.cell (p := ⟨wb, wo + j * 2 + 1, none⟩) hwb).trans e1)))))
                have j1 : (0 : Int) ≤ (p : Int) := by omega
                have j2 : (p : Int) < (F.o : Int) := by omega
                have j3 : (0 : Int) ≤ (j : Int) := by omega
                have j4 : (j : Int) < (F.k : Int) := by omega
                clear hoo hob s1 s2 s3 s4 hwb hvv r1 r2 e0 e1 d0 d1 d2 d3 d4 hR
                go_wp2_with fail
                have hq := Below.refl wy.heap.size wy
                obtain ⟨z0, z1, z2, z3, z4⟩ := (HKM wy).out hq
                go_region_held3 (fun w' => w'.cell? ⟨w.heap.size, 6, none⟩ = some (.slice (some ⟨ob, oo, none⟩) F.o F.oc) ∧ w'.cell? ⟨w.heap.size, 8, none⟩ = some (.slice (some ⟨wb, wo, none⟩) F.k F.kc) ∧ w'.cell? ⟨ob, oo + p * 5 + 1, none⟩ = some (.int .i64 o.machine) ∧ w'.cell? ⟨wb, wo + j * 2, none⟩ = some (.string v.name) ∧ w'.cell? ⟨wb, wo + j * 2 + 1, none⟩ = some (.slice D mn mc))
                  ((refine (HKM _).out ?_; repeat (first | (with_reducible exact Below.refl _ _) | (with_reducible exact hq) | (with_reducible refine Below.drew ?_) | (with_reducible refine Below.alo ?_ _))))
                  ((go_at_call 25; go_must ((refine (HCAN.out _ (by repeat (first | (with_reducible exact Below.refl _ _) | (with_reducible exact hq) | (with_reducible refine Below.drew ?_) | (with_reducible refine Below.alo ?_ _)))).mono ?_); rintro e6 w6 ⟨rfl, hv⟩; replace hq := below_then hq hv; clear hv)))
                have HB6 := Lib.hid (HBY5.out.trans (hq.mono HBY5.out.size))
                have HBL7 := Lib.hid (HBL3.out.trans (HB6.out.mono HBL3.out.size))
                clear z0 z1 z2 z3 z4 hq
                cases R
                · go_wp2_with fail
                  go_roundw
                  case rel => exact ⟨j + 1, by omega, by go_num, rfl, HB6⟩
                  case measure => simp [intOf]; omega
                · have HBA : Hid (Below w6.heap.size w6 (w6.alloc (.cells #[.int .i64 t, .int .i64 (p : Int), .int .i64 (j : Int), .int .i64 (a + (k : Int))] 53))) := (Below.refl _ _).alloc (Nat.le_refl _) _
                  have HBS := Lib.hid (HB6.out.trans (HBA.out.mono HB6.out.size))
                  have HO2 := Lib.hid (own_below HO.out HBS.out)
                  have HBZ : Hid (w3.heap.size ≤ (w6.alloc (.cells #[.int .i64 t, .int .i64 (p : Int), .int .i64 (j : Int), .int .i64 (a + (k : Int))] 53)).heap.size) := Nat.le_trans HBL3.out.size HBS.out.size
                  have HNS := Lib.hid (new_scan w6 ⟨t, (p : Int), (j : Int), a + (k : Int)⟩ 53)
                  have HPS := Lib.hid (scK_succ (t := t) (a := a) (j := j) HBY.out HPD.out)
                  have HOK2 := Lib.hid (HOK.out.snoc HBY.out HPD.out HOO.out HVV.out HR.out)
                  have b3' : k + 1 ≤ maxLen := by unfold maxLen; omega
                  have b4' : (k + 1) * 32 ≤ 140737488355328 := by omega
                  go_wp2_with (at_builtin; refine wpl_own (P := Tryz.prog) (by rfl) _ _ 39 (by rfl) w3.heap.size 53 (.agg #[.int .i64 0, .int .i64 0, .int .i64 0, .int .i64 0]) 4 32 Tryz.underlying39 scan_info rfl (by decide) (.slice A1 k C1) k ((scK t a (orderP s.ops) by_ k).flatMap sC) (by rfl) HO2.out ⟨w6.heap.size, 0, none⟩ 1 1 (sC ⟨t, (p : Int), (j : Int), a + (k : Int)⟩) (by rfl) (by rfl) HNS.out (sC_one _) b3' b4' HBZ.out ?_; intro v7 w7 ho7 hg7 hn7; obtain ⟨A7, c7, rfl⟩ := own_form ho7)
                  go_roundw
                  case rel =>
                    refine ⟨k + 1, by_ ++ [j], by omega, by go_num, by rw [Hid, List.length_append, HBY.out]; rfl, HOK2, ?_, below_own (HBL3.out.trans (HBS.out.mono HBL3.out.size)) hg7 HBZ.out (fun g e => (HO.out.lt g e).1)⟩
                    rw [HPS.out, List.flatMap_append]
                    refine Lib.hid ?_
                    simpa using ho7
                  case measure => simp [intOf]; omega
              · obtain rfl : F.k = j := by omega
                have i6 : ((k : Int) != (k : Int) + 1) = true := by simp; omega
                have i7 : IntKind.i64.wrap ((k : Int) + 1) = (k : Int) + 1 := IntWalk.i64_in _ (by omega)
                have HE := Lib.hid (example_any wy (HW.out.below HBV5.out))
                go_wp2_with fail
                refine HE.out.mono ?_
                rintro ee we ⟨rfl, hbe⟩
                have HBE := Lib.hid (HBV5.out.trans (hbe.mono HBV5.out.size))
                clear hbe
                go_wp2_with fail
                go_ret
                exact ⟨rfl, HBE.out⟩
          · obtain rfl : F.o = k := by omega
            have hkn : (bs.any fun b => decide (b.ticket = t)) = true := by
              have h1 := HKN.out
              unfold knT at h1
              rwa [List.take_of_length_le (by rw [HBL.out]; exact Nat.le_refl _)] at h1
            have hmem : t ∈ bs.map (·.ticket) := by
              rw [List.any_eq_true] at hkn
              obtain ⟨b, hb, he⟩ := hkn
              exact List.mem_map.2 ⟨b, hb, by simpa using he⟩
            have hgd := complete_good (s := s) (bs := bs) (ws := ws) (t := t) (a := a) (ord := orderP s.ops) (by_ := by_) (order_ord s.ops) hkn (by omega) (by rw [HOL.out]; omega) (fun i o hi ho => HOK.out i o (by rw [HOL.out] at hi; exact hi) ho) (fun o ho x hx => ((ops_idx HZ.out).2 o ho x hx).1)
            have hop := complete_open (s := s) (bs := bs) (ws := ws) (order_ord s.ops) (by rw [HOL.out, HFO.out]) hgd
            rw [← scK_all, HOL.out] at hgd hop
            have hxl := scK_len t a (orderP s.ops) by_ F.o
            obtain ⟨xs, hxs⟩ : ∃ xs, scK t a (orderP s.ops) by_ F.o = xs := ⟨_, rfl⟩
            rw [hxs] at hgd hop hxl HO
            obtain ⟨A', c', e', hrec, _⟩ := own_scans HO.out hxl
            injection e' with e1 _ e2
            subst e1
            subst e2
            have HRE := Lib.hid hrec
            have HOP := Lib.hid hop
            have HMT : Hid (openErr s bs ws xs.length t = 0) := oerr_ok (jerr_ok HZ.out (by rw [hxl]; omega)) hmem
            have HPA := Lib.hid (paid_ok F s bs ws A1 F.o C1 xs wz (HA.out.on HBV4.out) HFS.out hrec (jerr_ok HZ.out (by omega)) xs (paid_again hgd) F.o hxl)
            obtain ⟨x0, x1, x2, x3, x4, x5, x6, x7, x8⟩ := HX9.out wz HBL2.out
            clear hgd hop hxl hxs hrec hkn hmem HO HOK HBY HSO
            go_wp2_with fail
            refine HPA.out.mono ?_
            rintro e4 w4 ⟨A4, c4, rfl, hr4, hb4⟩
            have HR4 := Lib.hid hr4
            have HB4 := Lib.hid (HBL2.out.trans (hb4.mono HBL2.out.size))
            have HBV6 := Lib.hid (HB2.out.trans (HB4.out.mono HB2.out.size))
            have HRE4 := Lib.hid (HRE.out.on scan_mono hb4)
            have HOPN := Lib.hid (fopen_any F s bs ws A1 F.o C1 xs t w4 (HA.out.on HBV6.out) HFS.out (HRE.out.on scan_mono hb4))
            clear hr4 hb4 x0 x1 x2 x3 x4 x5 x6 x7 x8
            obtain ⟨x0, x1, x2, x3, x4, x5, x6, x7, x8⟩ := HX9.out w4 HB4.out
            go_wp2_with fail
            refine HOPN.out.mono ?_
            intro e5 w5 hret
            obtain ⟨A5, c5, rfl, hsl, hb5⟩ := hret.ok HMT.out
            rw [HOP.out]
            simp only [List.length_nil]
            have HSS := Lib.hid (sameScans_true xs A4 F.o c4 A1 C1 w5 (HR4.out.on scan_mono hb5) (HRE4.out.on scan_mono hb5) (by omega))
            have HBV7 := Lib.hid (HBV6.out.trans (hb5.mono HBV6.out.size))
            clear hret hsl hb5 x0 x1 x2 x3 x4 x5 x6 x7 x8
            go_wp2_with fail
            refine HSS.out.mono ?_
            rintro e8 w8 ⟨rfl, hb8⟩
            have HBV8 := Lib.hid (HBV7.out.trans (hb8.mono HBV7.out.size))
            clear hb8
            have HE := Lib.hid (example_any w8 (HW.out.below HBV8.out))
            go_wp2_with fail
            refine HE.out.mono ?_
            rintro ee we ⟨rfl, hbe⟩
            have HBE := Lib.hid (HBV8.out.trans (hbe.mono HBV8.out.size))
            clear hbe
            go_wp2_with fail
            go_ret
            exact ⟨rfl, HBE.out⟩
end Go.Proofs.YtbgkdlfpmbnakaaGreatDoor
