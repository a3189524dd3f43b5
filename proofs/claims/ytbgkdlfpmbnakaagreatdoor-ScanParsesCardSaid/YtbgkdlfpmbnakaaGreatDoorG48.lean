/-
  Several texts in one: garmentref56.Parse returns the scan that a text is, or the error. Conditions: Std; a text of at most 1,000,000 bytes. The law ScanParses returns true. Conditions: Std.
-/
import Derived.Test.YtbgkdlfpmbnakaaGreatDoorG43
import Derived.Test.YtbgkdlfpmbnakaaGreatDoorG47

/- garmentref56.Parse returns the scan that a text is, or the error. Conditions: Std; a text of at most 1,000,000 bytes. -/
namespace Go.Proofs.YtbgkdlfpmbnakaaGreatDoor
open Go.RowKit
open Go.Lib hiding intOf

theorem int_info3 : (Tryz.prog.info? 3).map (fun i => (i.zero, i.size, i.bytes)) = some (some (.int .i64 0), 1, 8) := by kernel_rfl
theorem ints_add (ps : List Int) (p : Int) : ints (ps ++ [p]) = ints ps ++ [.int .i64 p] := by simp [ints]
set_option maxRecDepth 100000 in
set_option maxHeartbeats 12800000 in
theorem rParse_any (s : ByteArray) (w : World) (hs : s.size ≤ 1000000) :
    Calls Tryz.prog 22 #[.string s] w fun e w' => e = .returned (parV (parseS s.data.toList)) ∧ Below w.heap.size w w' := by
  obtain ⟨i0, hi, hz0, hz1, hz2⟩ := info_parts int_info3
  obtain ⟨us, hus⟩ : ∃ us, split s.data.toList [32] = us := ⟨_, rfl⟩
  have HB0 : Hid (Below w.heap.size w (w.alloc (.cells #[.int .i64 0, .int .i64 0, .int .i64 0, .int .i64 0] 53))) := (Below.refl _ _).alloc (Nat.le_refl _) _
  have HX := Lib.hid (Blk.new w 53 #[.int .i64 0, .int .i64 0, .int .i64 0, .int .i64 0])
  have hsp := rsplit_any s (w.alloc (.cells #[.int .i64 0, .int .i64 0, .int .i64 0, .int .i64 0] 53)) hs
  have HLE : Hid (∀ u ∈ us, u.length ≤ 1000000) := fun u hu => by
    rw [← hus] at hu
    have h1 := split_sum s u hu
    have h2 : s.data.toList.length = s.size := rfl
    omega
  rw [hus] at hsp
  have HSP := Lib.hid hsp
  have HU := Lib.hid hus
  clear hus hsp
  go_enter Tryz.func22, Tryz.ntmps22
  go_wp2_with fail
  refine HSP.out.mono ?_
  rintro e w1 ⟨A, n, c, rfl, hn, hsl, hb1⟩
  have HB1 := Lib.hid (HB0.out.trans (hb1.mono HB0.out.size))
  have HX1 := Lib.hid (HX.out.below hb1)
  have HSL := Lib.hid hsl
  have f0 := HX1.out.frozen 0
  have f1 := HX1.out.frozen 1
  have f2 := HX1.out.frozen 2
  have f3 := HX1.out.frozen 3
  obtain ⟨x0, x1, x2, x3⟩ := four_box HX1.out
  clear hb1 hsl
  by_cases h5 : n = 5
  · subst h5
    obtain ⟨v, a, b, c4, d4, rfl⟩ : ∃ v a b c d, us = [v, a, b, c, d] := by
      match us, hn with
      | [v, a, b, c, d], _ => exact ⟨v, a, b, c, d, rfl⟩
    have hsz : (strs ([v, a, b, c4, d4].map bytes)).length = 5 := rfl
    obtain ⟨gb, go, y, rfl, hgb, hy, g0⟩ := HSL.out.str_ (k := 0) (by omega)
    obtain rfl : bytes v = y := by simpa using hy
    rw [Nat.add_zero] at g0
    have HCL : Hid (∀ (j : Nat) (x : List UInt8), [v, a, b, c4, d4][j]? = some x → ∀ W, Below w1.heap.size w1 W → W.cell? ⟨gb, go + j, none⟩ = some (.string (bytes x))) := fun j x hj W hb => by
      have hjl := (List.getElem?_eq_some_iff.1 hj).1
      obtain ⟨b', o', y, e, _, hy', hc⟩ := (HSL.out.on hb).str_ (k := j) (by simpa using hjl)
      injection e with e
      injection e with e1 e2
      subst e1
      subst e2
      rw [List.getElem?_map, hj] at hy'
      rw [← Option.some.inj hy'] at hc
      exact hc
    clear hy hgb hsz
    by_cases hv : v = wordS
    · have hv1 : ((bytes v).toList == [115, 99, 97, 110]) = true := by rw [toList_data, bytes_data, hv]; rfl
      have HVW := Lib.hid hv
      obtain ⟨Vb, hVb⟩ : ∃ V, bytes v = V := ⟨_, rfl⟩
      rw [hVb] at hv1 g0
      clear hv hVb
      go_wp2_with fail
      clear hv1 g0
      go_loop [5] (fun i => ∃ k : Nat, k ≤ 4 ∧ i = .int .i64 ((k + 1 : Nat) : Int) ∧ Hid (∀ (j : Nat) (x : List UInt8), j < k → [a, b, c4, d4][j]? = some x → numOk x = true)) (fun i => 5 - (intOf i).toNat)
      case atStart => exact ⟨0, Nat.zero_le _, rfl, fun j x hj => by omega⟩
      case round =>
        obtain ⟨k, hk, rfl, hall⟩ := hrel
        by_cases hlt : k < 4
        · obtain ⟨x, hx⟩ : ∃ x, [a, b, c4, d4][k]? = some x := ⟨_, List.getElem?_eq_getElem (by simpa using hlt)⟩
          have hc := HCL.out (k + 1) x (by simpa using hx) w1 (Below.refl _ _)
          have HXX := Lib.hid hx
          have hxl : (bytes x).size ≤ 1000000 := HLE.out x (List.mem_cons_of_mem _ (List.mem_of_getElem? hx))
          have HN := rform_any (bytes x) w1 hxl
          rw [bytes_data] at HN
          obtain ⟨R, hR⟩ : ∃ R, numOk x = R := ⟨_, rfl⟩
          rw [hR] at HN
          have HN := Lib.hid HN
          have HR := Lib.hid hR
          have i1 : (0 : Int) ≤ ((k + 1 : Nat) : Int) := by omega
          have i2 : ((k + 1 : Nat) : Int) < 5 := by omega
          clear hx hR
          obtain ⟨k1, hk1⟩ : ∃ k1, k + 1 = k1 := ⟨_, rfl⟩
          rw [hk1] at i1 i2 hc ⊢
          cases R
          · have HE : Hid (parV (parseS s.data.toList) = .tuple #[.agg #[.int .i64 0, .int .i64 0, .int .i64 0, .int .i64 0], .int .i64 2]) := by rw [Hid, parse_form HU.out (all_no HXX.out HR.out)]; rfl
            go_wp2_with (go_at_call 45; refine HN.out.mono ?_; rintro e2 w2 ⟨rfl, rfl⟩)
            go_wp2_with fail
            have HP := Lib.hid (put4 HX1.out (.int .i64 0) (.int .i64 0) (.int .i64 0) (.int .i64 0))
            have HBP := Lib.hid (put4_below (g := w.heap.size) HB1.out (Nat.le_refl _) (.int .i64 0) (.int .i64 0) (.int .i64 0) (.int .i64 0))
            clear x0 x1 x2 x3 f0 f1 f2 f3
            obtain ⟨W5, hW5⟩ : ∃ v, v = ((((w2.setCell ⟨w.heap.size, 0, none⟩ (.int .i64 0)).setCell ⟨w.heap.size, 1, none⟩ (.int .i64 0)).setCell ⟨w.heap.size, 2, none⟩ (.int .i64 0)).setCell ⟨w.heap.size, 3, none⟩ (.int .i64 0)) := ⟨_, rfl⟩
            rw [← hW5] at HP HBP ⊢
            clear hW5
            obtain ⟨k0, k1, k2, k3⟩ := four_box HP.out
            refine bodyPost_ret (v := .tuple #[.agg #[.int .i64 0, .int .i64 0, .int .i64 0, .int .i64 0], .int .i64 2]) (by simp [results, Tryz.results22, go_sem, k0, k1, k2, k3]) rfl ?_
            exact ⟨by rw [HE.out], HBP.out⟩
          · have HE : Hid (∀ (j : Nat) (x : List UInt8), j < k + 1 → [a, b, c4, d4][j]? = some x → numOk x = true) := fun j y hj hy => by
              by_cases e : j = k
              · subst e
                rw [HXX.out] at hy
                rw [← Option.some.inj hy]
                exact HR.out
              · exact hall.out j y (by omega) hy
            go_wp2_with (go_at_call 45; refine HN.out.mono ?_; rintro e2 w2 ⟨rfl, rfl⟩)
            go_round
            case rel => exact ⟨k + 1, by omega, by rw [hk1]; go_num, HE⟩
            case measure => simp [intOf]; omega
        · obtain rfl : k = 4 := by omega
          have HNA : Hid ([a, b, c4, d4].all numOk = true) := all_upto fun j x hj hx => hall.out j x (by simpa using hj) hx
          clear hall hk hlt x0 x1 x2 x3 f0 f1 f2 f3
          go_wp2_with fail
          go_loopw [6, 7, 8, 9] (fun v i _ _ wr => ∃ k : Nat, k ≤ 4 ∧ i = .int .i64 ((k + 1 : Nat) : Int) ∧ wr.ownsRow w1.heap.size 3 1 v k (ints (([a, b, c4, d4].map numV).take k)) ∧ Hid (∀ (j : Nat) (x : List UInt8), j < k → [a, b, c4, d4][j]? = some x → inI64 (numV x) = true) ∧ Hid (Below w1.heap.size w1 wr)) (fun _ i _ _ _ => 5 - (intOf i).toNat)
          case atStart => exact ⟨0, Nat.zero_le _, rfl, ⟨by simp [ints], .inl ⟨rfl, rfl⟩⟩, (fun j x hj => by omega), Below.refl _ _⟩
          case round =>
            obtain ⟨k, hk, rfl, hown, hall, HB⟩ := hrel
            have HX2 := Lib.hid (HX1.out.below HB.out)
            have HB2 := Lib.hid (HB1.out.trans (HB.out.mono HB1.out.size))
            by_cases hlt : k < 4
            · obtain ⟨x, hx⟩ : ∃ x, [a, b, c4, d4][k]? = some x := ⟨_, List.getElem?_eq_getElem (by simpa using hlt)⟩
              have hc := HCL.out (k + 1) x (by simpa using hx) wr HB.out
              have HXX := Lib.hid hx
              have hxl : (bytes x).size ≤ 1000000 := HLE.out x (List.mem_cons_of_mem _ (List.mem_of_getElem? hx))
              have HP := rnumber_any (bytes x) wr hxl (by rw [bytes_data]; exact List.all_eq_true.1 HNA.out x (List.mem_of_getElem? hx))
              rw [bytes_data] at HP
              have HTK : Hid (([a, b, c4, d4].map numV).take (k + 1) = ([a, b, c4, d4].map numV).take k ++ [numV x]) := by rw [Hid, List.take_add_one, List.getElem?_map, hx]; rfl
              have i1 : (0 : Int) ≤ ((k + 1 : Nat) : Int) := by omega
              have i2 : ((k + 1 : Nat) : Int) < 5 := by omega
              clear hx
              obtain ⟨k1, hk1⟩ : ∃ k1, k + 1 = k1 := ⟨_, rfl⟩
              rw [hk1] at i1 i2 hc ⊢
              cases hin : inI64 (numV x)
              · rw [numR_no hin] at HP
                have HP := Lib.hid HP
                have HE : Hid (parV (parseS s.data.toList) = .tuple #[.agg #[.int .i64 0, .int .i64 0, .int .i64 0, .int .i64 0], .int .i64 3]) := by rw [Hid, parse_range HU.out HVW.out HNA.out (all_no HXX.out hin)]; rfl
                obtain ⟨x0, x1, x2, x3⟩ := four_box HX2.out
                have f0 := HX2.out.frozen 0
                have f1 := HX2.out.frozen 1
                have f2 := HX2.out.frozen 2
                have f3 := HX2.out.frozen 3
                clear hin hown
                go_wp2_with (go_at_call 46; refine HP.out.mono ?_; rintro e2 w2 ⟨rfl, rfl⟩)
                go_wp2_with fail
                have HP := Lib.hid (put4 HX2.out (.int .i64 0) (.int .i64 0) (.int .i64 0) (.int .i64 0))
                have HBP := Lib.hid (put4_below (g := w.heap.size) HB2.out (Nat.le_refl _) (.int .i64 0) (.int .i64 0) (.int .i64 0) (.int .i64 0))
                clear x0 x1 x2 x3 f0 f1 f2 f3
                obtain ⟨W5, hW5⟩ : ∃ v, v = ((((w2.setCell ⟨w.heap.size, 0, none⟩ (.int .i64 0)).setCell ⟨w.heap.size, 1, none⟩ (.int .i64 0)).setCell ⟨w.heap.size, 2, none⟩ (.int .i64 0)).setCell ⟨w.heap.size, 3, none⟩ (.int .i64 0)) := ⟨_, rfl⟩
                rw [← hW5] at HP HBP ⊢
                clear hW5
                obtain ⟨k0, k1, k2, k3⟩ := four_box HP.out
                refine bodyPost_ret (v := .tuple #[.agg #[.int .i64 0, .int .i64 0, .int .i64 0, .int .i64 0], .int .i64 3]) (by simp [results, Tryz.results22, go_sem, k0, k1, k2, k3]) rfl ?_
                exact ⟨by rw [HE.out], HBP.out⟩
              · rw [numR_yes hin] at HP
                have HP := Lib.hid HP
                have HIN := Lib.hid hin
                have HE : Hid (∀ (j : Nat) (x : List UInt8), j < k + 1 → [a, b, c4, d4][j]? = some x → inI64 (numV x) = true) := fun j y hj hy => by
                  by_cases e : j = k
                  · subst e
                    rw [HXX.out] at hy
                    rw [← Option.some.inj hy]
                    exact HIN.out
                  · exact hall.out j y (by omega) hy
                obtain ⟨z, hz⟩ : ∃ z, numV x = z := ⟨_, rfl⟩
                rw [hz] at HTK HP
                have hN := HB.out.size
                clear hz hin
                go_wp2_with (first
                  | (go_at_call 46; refine HP.out.mono ?_; rintro e2 w2 ⟨rfl, rfl⟩)
                  | (at_builtin; refine wpList_append_lies _ rfl _ _ _ rfl w1.heap.size 3 i0 _ 1 8 Tryz.underlying23 hi hz0 hz1 hz2 rfl (by omega) _ k (ints (([a, b, c4, d4].map numV).take k)) rfl (hown.alloc _) ⟨w2.heap.size, 0, none⟩ 1 1 [.int .i64 z] rfl rfl (World.news_of_block (cs := #[.int .i64 z]) (t := 3) (fr := (0, 0)) (heap_alloc_new w2 _)) (by simp [Value.oneCell']) (by omega) (by unfold maxLen; omega) (by omega) (by simp; omega) (w2.heap.size + 1) (by simp) ?_; intro gg cap w5 hown1 hgrow hat hlt1))
                go_roundw
                case rel => subst hk1; exact ⟨k + 1, by omega, by go_num, by rw [HTK.out, ints_add]; exact hown1, HE, (HB.out.alloc hN _).grown hgrow (by simp; omega) fun q hq => own_ge hown hq⟩
                case measure => simp [intOf]; omega
            · obtain rfl : k = 4 := by omega
              have HRA : Hid (([a, b, c4, d4].all fun u => inI64 (numV u)) = true) := all_upto fun j x hj hx => hall.out j x (by simpa using hj) hx
              have HE : Hid (parV (parseS s.data.toList) = .tuple #[.agg #[.int .i64 (numV a), .int .i64 (numV b), .int .i64 (numV c4), .int .i64 (numV d4)], .int .i64 0]) := by rw [Hid, parse_good HU.out HVW.out HNA.out HRA.out]; rfl
              have hK4 : wr.ownsRow w1.heap.size 3 1 _ 4 (ints [numV a, numV b, numV c4, numV d4]) := hown
              obtain ⟨z0, hz0⟩ : ∃ z, numV a = z := ⟨_, rfl⟩
              obtain ⟨z1, hz1⟩ : ∃ z, numV b = z := ⟨_, rfl⟩
              obtain ⟨z2, hz2⟩ : ∃ z, numV c4 = z := ⟨_, rfl⟩
              obtain ⟨z3, hz3⟩ : ∃ z, numV d4 = z := ⟨_, rfl⟩
              rw [hz0, hz1, hz2, hz3] at HE hK4
              clear hz0 hz1 hz2 hz3 hall hown
              rcases hK4.2 with ⟨_, e⟩ | ⟨g, cap, cur, rfl, _⟩
              · cases e
              have n0 : wr.cell? ⟨g, 0, none⟩ = some (.int .i64 z0) := hK4.cells (g := g) rfl 0 (.int .i64 z0) rfl
              have n1 : wr.cell? ⟨g, 1, none⟩ = some (.int .i64 z1) := hK4.cells (g := g) rfl 1 (.int .i64 z1) rfl
              have n2 : wr.cell? ⟨g, 2, none⟩ = some (.int .i64 z2) := hK4.cells (g := g) rfl 2 (.int .i64 z2) rfl
              have n3 : wr.cell? ⟨g, 3, none⟩ = some (.int .i64 z3) := hK4.cells (g := g) rfl 3 (.int .i64 z3) rfl
              obtain ⟨x0, x1, x2, x3⟩ := four_box HX2.out
              have f0 := HX2.out.frozen 0
              have f1 := HX2.out.frozen 1
              have f2 := HX2.out.frozen 2
              have f3 := HX2.out.frozen 3
              clear hK4
              go_wp2_with fail
              go_region
              go_wp2_with fail
              have HP := Lib.hid (put4 HX2.out (.int .i64 z0) (.int .i64 z1) (.int .i64 z2) (.int .i64 z3))
              have HBP := Lib.hid (put4_below (g := w.heap.size) HB2.out (Nat.le_refl _) (.int .i64 z0) (.int .i64 z1) (.int .i64 z2) (.int .i64 z3))
              clear x0 x1 x2 x3 f0 f1 f2 f3
              obtain ⟨W5, hW5⟩ : ∃ v, v = ((((wr.setCell ⟨w.heap.size, 0, none⟩ (.int .i64 z0)).setCell ⟨w.heap.size, 1, none⟩ (.int .i64 z1)).setCell ⟨w.heap.size, 2, none⟩ (.int .i64 z2)).setCell ⟨w.heap.size, 3, none⟩ (.int .i64 z3)) := ⟨_, rfl⟩
              rw [← hW5] at HP HBP ⊢
              clear hW5
              obtain ⟨k0, k1, k2, k3⟩ := four_box HP.out
              refine bodyPost_ret (v := .tuple #[.agg #[.int .i64 z0, .int .i64 z1, .int .i64 z2, .int .i64 z3], .int .i64 0]) (by simp [results, Tryz.results22, go_sem, k0, k1, k2, k3]) rfl ?_
              exact ⟨by rw [HE.out], Below.drew HBP.out⟩
    · have hv1 : ((bytes v).toList == [115, 99, 97, 110]) = false := by
        rw [toList_data, bytes_data]
        exact (beq_eq_false_iff_ne).2 hv
      have HE : Hid (parV (parseS s.data.toList) = .tuple #[.agg #[.int .i64 0, .int .i64 0, .int .i64 0, .int .i64 0], .int .i64 2]) := by rw [Hid, parse_word HU.out hv]; rfl
      obtain ⟨Vb, hVb⟩ : ∃ V, bytes v = V := ⟨_, rfl⟩
      rw [hVb] at hv1 g0
      clear hv hVb
      go_wp2_with fail
      have HP := Lib.hid (put4 HX1.out (.int .i64 0) (.int .i64 0) (.int .i64 0) (.int .i64 0))
      have HBP := Lib.hid (put4_below (g := w.heap.size) HB1.out (Nat.le_refl _) (.int .i64 0) (.int .i64 0) (.int .i64 0) (.int .i64 0))
      clear x0 x1 x2 x3 f0 f1 f2 f3
      obtain ⟨W5, hW5⟩ : ∃ v, v = ((((w1.setCell ⟨w.heap.size, 0, none⟩ (.int .i64 0)).setCell ⟨w.heap.size, 1, none⟩ (.int .i64 0)).setCell ⟨w.heap.size, 2, none⟩ (.int .i64 0)).setCell ⟨w.heap.size, 3, none⟩ (.int .i64 0)) := ⟨_, rfl⟩
      rw [← hW5] at HP HBP ⊢
      clear hW5
      obtain ⟨k0, k1, k2, k3⟩ := four_box HP.out
      refine bodyPost_ret (v := .tuple #[.agg #[.int .i64 0, .int .i64 0, .int .i64 0, .int .i64 0], .int .i64 2]) (by simp [results, Tryz.results22, go_sem, k0, k1, k2, k3]) rfl ?_
      exact ⟨by rw [HE.out], HBP.out⟩
  · have HE : Hid (parV (parseS s.data.toList) = .tuple #[.agg #[.int .i64 0, .int .i64 0, .int .i64 0, .int .i64 0], .int .i64 2]) := by rw [Hid, parse_short (by rw [HU.out, ← hn]; exact h5)]; rfl
    have h5' : ((n : Int) != 5) = true := by simp; omega
    clear hn h5
    go_wp2_with fail
    have HP := Lib.hid (put4 HX1.out (.int .i64 0) (.int .i64 0) (.int .i64 0) (.int .i64 0))
    have HBP := Lib.hid (put4_below (g := w.heap.size) HB1.out (Nat.le_refl _) (.int .i64 0) (.int .i64 0) (.int .i64 0) (.int .i64 0))
    clear x0 x1 x2 x3 f0 f1 f2 f3
    obtain ⟨W5, hW5⟩ : ∃ v, v = ((((w1.setCell ⟨w.heap.size, 0, none⟩ (.int .i64 0)).setCell ⟨w.heap.size, 1, none⟩ (.int .i64 0)).setCell ⟨w.heap.size, 2, none⟩ (.int .i64 0)).setCell ⟨w.heap.size, 3, none⟩ (.int .i64 0)) := ⟨_, rfl⟩
    rw [← hW5] at HP HBP ⊢
    clear hW5
    obtain ⟨k0, k1, k2, k3⟩ := four_box HP.out
    refine bodyPost_ret (v := .tuple #[.agg #[.int .i64 0, .int .i64 0, .int .i64 0, .int .i64 0], .int .i64 2]) (by simp [results, Tryz.results22, go_sem, k0, k1, k2, k3]) rfl ?_
    exact ⟨by rw [HE.out], HBP.out⟩
end Go.Proofs.YtbgkdlfpmbnakaaGreatDoor

/- The law ScanParses returns true. Conditions: Std. -/
namespace Go.Proofs.YtbgkdlfpmbnakaaGreatDoor
open Go.RowKit
open Go.Lib hiding intOf

theorem parse_err {l : List UInt8} {E : Int} (h : parseS l = .error E) : E = 2 ∨ E = 3 := by
  unfold parseS at h
  split at h
  · split at h
    · injection h with h; exact .inl h.symm
    · split at h
      · injection h with h; exact .inl h.symm
      · split at h
        · injection h with h; exact .inr h.symm
        · cases h
  · injection h with h; exact .inl h.symm
theorem parse_in {l : List UInt8} {x : PScan} (h : parseS l = .ok x) : scanIn x := by
  unfold parseS at h
  split at h
  · split at h
    · cases h
    · split at h
      · cases h
      · split at h
        · cases h
        · rename_i h1 h2 h3
          injection h with h
          subst h
          simp only [List.all_cons, List.all_nil, Bool.and_true] at h3
          simp only [Bool.not_eq_false, Bool.and_eq_true] at h3
          obtain ⟨a1, a2, a3, a4⟩ := h3
          exact ⟨a1, a2, a3, a4⟩
  · cases h
set_option maxRecDepth 100000 in
set_option maxHeartbeats 12800000 in
theorem scanParses_walk (s : ByteArray) (w : World) (hw : Std w) :
    Calls Tryz.prog 6 #[.string s] w (RetLaw w) := by
  have HW := Lib.hid hw
  by_cases hl : 1000 < s.size
  · have HE := Lib.hid (example_any w hw)
    clear hw
    go_enter Tryz.func6, Tryz.ntmps6
    go_wp2_with fail
    refine HE.out.mono ?_
    rintro e2 w2 ⟨rfl, hb2⟩
    have HB2 := Lib.hid hb2
    clear hb2
    go_wp2_with fail
    go_ret
    exact ⟨rfl, HB2.out⟩
  have HPA := fun W (hb : Std W) => scanParse_any s W hb (by omega)
  have HRP := fun W => rParse_any s W (by omega)
  clear hw
  cases hps : parseS s.data.toList with
  | error E =>
    have hEE := parse_err hps
    rw [hps] at HPA HRP
    have HPA : Hid (∀ W, Std W → Calls Tryz.prog 21 #[.string s] W fun e w' => e = .returned (.tuple #[.agg #[.int .i64 0, .int .i64 0, .int .i64 0, .int .i64 0], .int .i64 E]) ∧ Below W.heap.size W w') := HPA
    have HRP : Hid (∀ W, Calls Tryz.prog 22 #[.string s] W fun e w' => e = .returned (.tuple #[.agg #[.int .i64 0, .int .i64 0, .int .i64 0, .int .i64 0], .int .i64 E]) ∧ Below W.heap.size W w') := HRP
    have hne : (E != 0) = true := by rcases hEE with rfl | rfl <;> rfl
    have HP1 := Lib.hid (HPA.out w HW.out)
    clear hps hEE
    go_enter Tryz.func6, Tryz.ntmps6
    go_wp2_with fail
    refine HP1.out.mono ?_
    rintro e1 w1 ⟨rfl, hb1⟩
    have hal := Below.alo hb1 (.cells #[.int .i64 0, .int .i64 0, .int .i64 0, .int .i64 0] 53)
    have HB1 := Lib.hid hal
    have HA1 := Lib.hid (Blk.new w1 53 #[.int .i64 0, .int .i64 0, .int .i64 0, .int .i64 0])
    have HR1 := Lib.hid (HRP.out (w1.alloc (.cells #[.int .i64 0, .int .i64 0, .int .i64 0, .int .i64 0] 53)))
    clear hb1 hal
    go_wp2_with fail
    refine HR1.out.mono ?_
    rintro e2 w2 ⟨rfl, hb2⟩
    have hal := Below.alo hb2 (.cells #[.int .i64 0, .int .i64 0, .int .i64 0, .int .i64 0] 53)
    have HB2 := Lib.hid (HB1.out.trans (hal.mono HB1.out.size))
    have HA2 := Lib.hid (HA1.out.below hal)
    have HY2 := Lib.hid (Blk.new w2 53 #[.int .i64 0, .int .i64 0, .int .i64 0, .int .i64 0])
    obtain ⟨x0, x1, x2, x3⟩ := four_box HA2.out
    obtain ⟨y0, y1, y2, y3⟩ := four_box HY2.out
    have HE := Lib.hid (example_any _ (HW.out.below HB2.out))
    clear hb2 hal
    go_wp2_with fail
    refine HE.out.mono ?_
    rintro e3 w3 ⟨rfl, hb3⟩
    have HB3 := Lib.hid (HB2.out.trans (hb3.mono HB2.out.size))
    clear hb3
    go_wp2_with fail
    go_ret
    exact ⟨rfl, HB3.out⟩
  | ok x =>
    have hin := parse_in hps
    have htx := text_parse hps
    rw [hps] at HPA HRP
    have hbt : bytes (textS x) = s := by rw [htx, bytes_of]
    have HTX := fun W (hb : Std W) => scanText_any x W hb hin
    simp only [hbt] at HTX
    clear hin htx hbt hps
    obtain ⟨x0, x1, x2, x3⟩ := x
    have HTX : Hid (∀ W, Std W → Calls Tryz.prog 23 #[.agg #[.int .i64 x0, .int .i64 x1, .int .i64 x2, .int .i64 x3]] W fun e w' => e = .returned (.string s) ∧ Below W.heap.size W w') := HTX
    have HPA : Hid (∀ W, Std W → Calls Tryz.prog 21 #[.string s] W fun e w' => e = .returned (.tuple #[.agg #[.int .i64 x0, .int .i64 x1, .int .i64 x2, .int .i64 x3], .int .i64 0]) ∧ Below W.heap.size W w') := HPA
    have HRP : Hid (∀ W, Calls Tryz.prog 22 #[.string s] W fun e w' => e = .returned (.tuple #[.agg #[.int .i64 x0, .int .i64 x1, .int .i64 x2, .int .i64 x3], .int .i64 0]) ∧ Below W.heap.size W w') := HRP
    have HP1 := Lib.hid (HPA.out w HW.out)
    go_enter Tryz.func6, Tryz.ntmps6
    go_wp2_with fail
    refine HP1.out.mono ?_
    rintro e1 w1 ⟨rfl, hb1⟩
    have hal := Below.alo hb1 (.cells #[.int .i64 x0, .int .i64 x1, .int .i64 x2, .int .i64 x3] 53)
    have HB1 := Lib.hid hal
    have HA1 := Lib.hid (Blk.new w1 53 #[.int .i64 x0, .int .i64 x1, .int .i64 x2, .int .i64 x3])
    have HR1 := Lib.hid (HRP.out (w1.alloc (.cells #[.int .i64 x0, .int .i64 x1, .int .i64 x2, .int .i64 x3] 53)))
    clear hb1 hal
    go_wp2_with fail
    refine HR1.out.mono ?_
    rintro e2 w2 ⟨rfl, hb2⟩
    have hal := Below.alo hb2 (.cells #[.int .i64 x0, .int .i64 x1, .int .i64 x2, .int .i64 x3] 53)
    have HB2 := Lib.hid (HB1.out.trans (hal.mono HB1.out.size))
    have HA2 := Lib.hid (HA1.out.below hal)
    have HY2 := Lib.hid (Blk.new w2 53 #[.int .i64 x0, .int .i64 x1, .int .i64 x2, .int .i64 x3])
    obtain ⟨a0, a1, a2, a3⟩ := four_box HA2.out
    obtain ⟨y0, y1, y2, y3⟩ := four_box HY2.out
    have HT := Lib.hid (HTX.out _ (HW.out.below HB2.out))
    clear hb2 hal
    go_wp2_with fail
    refine HT.out.mono ?_
    rintro e3 w3 ⟨rfl, hb3⟩
    have HB3 := Lib.hid (HB2.out.trans (hb3.mono HB2.out.size))
    have HE := Lib.hid (example_any w3 (HW.out.below HB3.out))
    clear hb3
    go_wp2_with fail
    refine HE.out.mono ?_
    rintro e4 w4 ⟨rfl, hb4⟩
    have HB4 := Lib.hid (HB3.out.trans (hb4.mono HB3.out.size))
    clear hb4
    go_wp2_with fail
    go_ret
    exact ⟨rfl, HB4.out⟩
end Go.Proofs.YtbgkdlfpmbnakaaGreatDoor
