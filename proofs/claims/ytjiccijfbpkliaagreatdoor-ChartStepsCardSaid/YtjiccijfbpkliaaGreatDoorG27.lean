/-
  Several texts in one: garmentref03.slash and Parse: the ratio that a text denotes, or the error. Conditions: a text of at most 1,000,000 bytes.
-/
import Derived.Test.YtjiccijfbpkliaaGreatDoorG20
import Derived.Test.YtjiccijfbpkliaaGreatDoorG21
import Derived.Test.YtjiccijfbpkliaaGreatDoorG22

/- garmentref03.slash and Parse: the ratio that a text denotes, or the error. Conditions: a text of at most 1,000,000 bytes. -/
namespace Go.Proofs.YtjiccijfbpkliaaGreatDoor
open Go.RowKit
open Go.Lib hiding intOf

theorem cut_at {l : List UInt8} {c : UInt8} {i : Nat} (h : l[i]? = some c) (hn : ∀ j, j < i → l[j]? ≠ some c) : (cut l [c]).1.length = i := by
  have hlt := (List.getElem?_eq_some_iff.1 h).1
  have e : l = l.take i ++ c :: l.drop (i + 1) := by
    obtain ⟨h1, rfl⟩ := List.getElem?_eq_some_iff.1 h
    rw [← List.drop_eq_getElem_cons h1, List.take_append_drop]
  have hm : c ∉ l.take i := fun hm => by
    obtain ⟨j, hj⟩ := List.getElem?_of_mem hm
    rw [List.getElem?_take] at hj
    split at hj
    · exact hn j (by assumption) hj
    · cases hj
  have := cut_word (c := c) (l.drop (i + 1)) (l.take i) hm
  rw [← e] at this
  rw [this, List.length_take]
  omega
theorem cut_over {l : List UInt8} {c : UInt8} (hn : ∀ j, j < l.length → l[j]? ≠ some c) : (cut l [c]).1.length = l.length := by
  have hm : c ∉ l := fun hm => by
    obtain ⟨j, hj⟩ := List.getElem?_of_mem hm
    exact hn j (List.getElem?_eq_some_iff.1 hj).1 hj
  rw [cut_last l hm]
theorem slash_any (s : ByteArray) (w : World) (hs : s.size ≤ 1000000) :
    Calls Tryz.prog 136 #[.string s] w fun e w' => e = .returned (.int .i64 ((cut s.data.toList [47]).1.length : Int)) ∧ w = w' := by
  have hl : s.data.toList.length = s.size := rfl
  have HL := Lib.hid hl
  clear hl
  go_enter Tryz.func136, Tryz.ntmps136
  go_wp2
  go_loop [3] (fun i => ∃ k : Nat, k ≤ s.size ∧ i = .int .i64 (k : Int) ∧ Hid (∀ j, j < k → s.data.toList[j]? ≠ some 47)) (fun i => s.size - (intOf i).toNat)
  case atStart => exact ⟨0, Nat.zero_le _, rfl, fun j h => by omega⟩
  case round =>
    obtain ⟨k, hk, rfl, hn⟩ := hrel
    by_cases hlt : k < s.size
    · have hat := at_data s k hlt
      have HAT := Lib.hid hat
      clear hat
      by_cases hb : s[k]'hlt = 47
      · have HE := Lib.hid (cut_at (by rw [HAT.out, hb]) hn.out)
        go_wp2
        go_ret
        exact ⟨by rw [HE.out]; rfl, rfl⟩
      · have hbn : ¬ (s[k]'hlt).toNat = 47 := fun e => hb (UInt8.toNat_inj.1 (by simpa using e))
        go_wp2
        go_round
        case rel =>
          refine ⟨k + 1, by omega, by go_num, fun j hj => ?_⟩
          by_cases e : j = k
          · subst e
            rw [HAT.out]
            simpa using hb
          · exact hn.out j (by omega)
        case measure => simp [intOf]; omega
    · obtain rfl : k = s.size := by omega
      have HE := Lib.hid (cut_over (l := s.data.toList) (c := 47) (by rw [HL.out]; exact hn.out))
      go_wp2
      go_ret
      exact ⟨by rw [HE.out, HL.out]; rfl, rfl⟩
/-- The parts of a text at its first slash. -/
theorem slash_parts (s : ByteArray) : ∃ (i : Nat) (p d : ByteArray) (f : Bool), (cut s.data.toList [47]).1.length = i ∧ i ≤ s.size ∧ cut s.data.toList [47] = (p.data.toList, d.data.toList, f) ∧ s.extract 0 i = p ∧ (f = true → i < s.size ∧ s.extract (i + 1) s.size = d) ∧ (f = false → i = s.size) := by
  have hl : s.data.toList.length = s.size := rfl
  have ht := cut_true (c := 47) s.data.toList
  have hf := cut_false (c := 47) s.data.toList
  have hle := (cut_len s.data.toList).1
  generalize cut s.data.toList [47] = C at *
  obtain ⟨a, b, f⟩ := C
  simp only at ht hf hle
  refine ⟨a.length, bytes a, bytes b, f, rfl, by rw [← hl]; exact hle, by rw [bytes_data, bytes_data], ?_, fun hff => ?_, fun hff => ?_⟩
  · apply eq_of_data
    rw [bytes_data, extract_data, List.drop_zero, Nat.sub_zero]
    cases f
    · rw [hf rfl, List.take_of_length_le (Nat.le_refl _)]
    · rw [ht rfl, List.take_left]
  · have e := ht hff
    have h2 := congrArg List.length e
    rw [hl] at h2
    simp only [List.length_append, List.length_cons] at h2
    refine ⟨by omega, eq_of_data ?_⟩
    rw [bytes_data, extract_to_end, e, ← List.drop_drop, List.drop_left]
    rfl
  · rw [hf hff]
    exact hl

set_option maxRecDepth 100000 in
set_option maxHeartbeats 3200000 in
theorem kparse_any (s : ByteArray) (w : World) (hs : s.size ≤ 1000000) :
    Calls Tryz.prog 102 #[.string s] w (RetQE (ratE s.data.toList) (ratV s.data.toList) w) := by
  obtain ⟨k, p, d, f, hk, hks, h, hp, hd, hf⟩ := slash_parts s
  have hlen := cut_len s.data.toList
  rw [h] at hlen
  simp only at hlen
  have hps : p.size ≤ 1000000 := by rw [size_eq]; have := size_eq s; omega
  have hds : d.size ≤ 1000000 := by rw [size_eq]; have := size_eq s; omega
  have hB : Below w.heap.size w (w.alloc (.cells #[.bool false, .slice none 0 0, .slice none 0 0] 36)) := (Below.refl _ _).alloc (Nat.le_refl _) _
  have X0 := Blk.new w 36 #[.bool false, .slice none 0 0, .slice none 0 0]
  have HSl := fun W => slash_any s W hs
  simp only [hk] at HSl
  have HSl := Lib.hid HSl
  have HP := fun W => jparse_any p W (by omega)
  have HD := fun W => rf_parse d W (by omega)
  have hiv := intV_nl p.data.toList
  obtain ⟨E, hE⟩ : ∃ E, intE p.data.toList = E := ⟨_, rfl⟩
  obtain ⟨i, hi⟩ : ∃ i, intV p.data.toList = i := ⟨_, rfl⟩
  obtain ⟨F, hF⟩ : ∃ F, natE d.data.toList = F := ⟨_, rfl⟩
  obtain ⟨y, hy⟩ : ∃ y, natV d.data.toList = y := ⟨_, rfl⟩
  simp only [hE, hi] at HP
  simp only [hF, hy] at HD
  rw [hi] at hiv
  have HP := Lib.hid HP
  have HD := Lib.hid HD
  have HR : Hid (ratE s.data.toList = if E ≠ 0 then E else if f = false then 0 else if F ≠ 0 then F else if valD d.data.toList ≤ 1 ∨ i.natAbs.gcd (valD d.data.toList) ≠ 1 then 2 else 0) := by
    rw [Hid, ratE, h]
    simp only [hE, hi, hF]
  have HV : Hid (ratV s.data.toList = rv i (if f = true then valD d.data.toList else 1)) := by
    rw [Hid, ratV, h]
    simp only [hi]
  have HY : Hid (F = 0 → valD d.data.toList = y ∧ nl y ≤ 200) := by
    intro h0
    have h1 : natE d.data.toList = 0 := by rw [hF]; exact h0
    rw [← hy, natV, if_pos h1]
    refine ⟨rfl, nl_le ?_⟩
    obtain ⟨h2, h3⟩ := natE_zero h1
    have h4 := valD_lt _ (digOk_iff.1 h3).2.2
    exact Nat.lt_of_lt_of_le h4 (Nat.le_trans (Nat.pow_le_pow_right (by omega) h2) (Nat.pow_le_pow_left (by unfold bs; omega) _))
  generalize ratE s.data.toList = rE at *
  generalize ratV s.data.toList = rV at *
  have HB := Lib.hid hB
  have HX0 := Lib.hid X0
  have HDF := Lib.hid (And.intro hd hf)
  clear hE hi hF hy h hlen hk hB X0 hd hf
  go_enter Tryz.func102, Tryz.ntmps102
  go_wp2_with fail
  refine (HSl.out _).mono ?_
  rintro e w1 ⟨rfl, rfl⟩
  go_wp2_with fail
  go_fit (HP.out _)
  rintro e w1 ⟨A1, n1, c1, rfl, r1, hc1, hb1⟩
  have hB1 := HB.out.trans (hb1.mono HB.out.size)
  have X1 := HX0.out.below hb1
  have hxl := X1.lt
  have hxn : ¬ w1.heap.size = w.heap.size := by omega
  have X2 := X1.alloc (.cells #[.bool (ineg i), .slice A1 n1 c1] 34)
  have Z2 := Blk.new w1 34 #[.bool (ineg i), .slice A1 n1 c1]
  have hal := (Below.refl w1.heap.size w1).alloc (Nat.le_refl _) (.cells #[.bool (ineg i), .slice A1 n1 c1] 34)
  have HB1 := Lib.hid hB1
  have HB2 := Lib.hid (hB1.trans (hal.mono hB1.size))
  have HS2 := Lib.hid (r1.on hal)
  have HX2 := Lib.hid X2
  have HZ2 := Lib.hid Z2
  have f0 := X1.c (i := 0) rfl
  have f1 := X1.c (i := 1) rfl
  have f2 := X1.c (i := 2) rfl
  have z0 := X1.frozen 0
  have z1 := X1.frozen 1
  have z2 := X1.frozen 2
  clear hb1 hB1 X1 X2 Z2 hal r1
  by_cases hE0 : E = 0
  · subst hE0
    cases f
    · have hks2 := HDF.out.2 rfl
      have HR0 : Hid (rE = 0) := by rw [Hid, HR.out, if_neg (by simp), if_pos rfl]
      obtain ⟨q1, q2⟩ := rv_one i
      have HV0 : Hid (rV = rv i 1) := by rw [Hid, HV.out]; rfl
      have HQ := Lib.hid (And.intro q1 q2)
      have hks3 : ((k : Int) == (s.size : Int)) = true := by rw [beq_iff_eq]; omega
      have g0 := HZ2.out.c (i := 0) rfl
      have g1 := HZ2.out.c (i := 1) rfl
      clear q1 q2
      go_wp2_with fail
      generalize hW2 : w1.alloc (.cells #[.bool (ineg i), .slice A1 n1 c1] 34) = W2 at *
      clear hW2 f0 f1 f2 z0 z1 z2
      go_region_with (go_at_call 85; go_must ((refine (rf_of 1 _ (by omega)).mono ?_); rintro e w3 ⟨O, on, oc, rfl, o1, o2, hb3⟩; have HB3 := Lib.hid (show Below W2.heap.size W2 w3 from ⟨hb3.os, hb3.tape, hb3.output, hb3.size, hb3.block⟩); have X3 := HX2.out.below HB3.out; have Z3 := HZ2.out.below HB3.out; have HO := Lib.hid o1; have f0 := X3.c (i := 0) rfl; have f1 := X3.c (i := 1) rfl; have f2 := X3.c (i := 2) rfl; have z0 := X3.frozen 0; have z1 := X3.frozen 1; have z2 := X3.frozen 2; have t0 := Z3.c (i := 0) rfl; have t1 := Z3.c (i := 1) rfl; clear o1 hb3 X3 Z3))
      all_goals
        go_wp2_with fail
        have HF := Lib.hid (rat_end (q := rv i 1) (w := w) (by rw [HQ.out.1]; exact HS2.out.on HB3.out) hc1 (by rw [HQ.out.2]; exact HO.out) o2 (HX2.out.below HB3.out) (by simp) (HB2.out.trans (HB3.out.mono HB2.out.size)) (Nat.le_refl _))
        refine bodyPost_ret (v := .tuple #[.agg #[.bool (ineg i), .slice A1 n1 c1, .slice O on oc], .int .i64 0]) (by simp [results, Tryz.results102, go_sem, f0, f1, f2]) rfl ?_
        have hF := HF.out
        rw [HQ.out.1] at hF
        rw [HR0.out, HV0.out]
        exact RetQE.good (RetQ0.of hF)
    · obtain ⟨hks2, hex⟩ := HDF.out.1 rfl
      have hks3 : ((k : Int) == (s.size : Int)) = false := by rw [beq_eq_false_iff_ne]; omega
      go_wp2_with fail
      go_fit (HD.out _)
      rintro e w3 ⟨A3, n3, c3, rfl, r3, hc3, hb3⟩
      have X3 := HX2.out.below hb3
      have Z3 := HZ2.out.below hb3
      have HB3 := Lib.hid (HB2.out.trans (hb3.mono HB2.out.size))
      have HS3 := Lib.hid (HS2.out.on hb3)
      have HD3 := Lib.hid r3
      have f0 := X3.c (i := 0) rfl
      have f1 := X3.c (i := 1) rfl
      have f2 := X3.c (i := 2) rfl
      have z0 := X3.frozen 0
      have z1 := X3.frozen 1
      have z2 := X3.frozen 2
      have HX3 := Lib.hid X3
      have HZ3 := Lib.hid Z3
      clear r3 hb3 X3 Z3
      by_cases hF0 : F = 0
      · subst hF0
        obtain ⟨y1, y2⟩ := HY.out rfl
        have HR0 : Hid (rE = if y ≤ 1 ∨ i.natAbs.gcd y ≠ 1 then 2 else 0) := by rw [Hid, HR.out, if_neg (by simp), if_neg (by simp), if_neg (by simp), y1]
        have HV0 : Hid (rV = rv i y) := by rw [Hid, HV.out, ← y1]; simp
        clear y1
        go_wp2_with fail
        refine (rf_of 1 _ (by omega)).mono ?_
        rintro e w4 ⟨O, on, oc, rfl, o1, o2, hb4⟩
        have X4 := HX3.out.below hb4
        have Z4 := HZ3.out.below hb4
        have HB4 := Lib.hid (HB3.out.trans (hb4.mono HB3.out.size))
        have HS4 := Lib.hid (HS3.out.on hb4)
        have HD4 := Lib.hid (HD3.out.on hb4)
        have HO := Lib.hid o1
        have f0 := X4.c (i := 0) rfl
        have f1 := X4.c (i := 1) rfl
        have f2 := X4.c (i := 2) rfl
        have z0 := X4.frozen 0
        have z1 := X4.frozen 1
        have z2 := X4.frozen 2
        have g0 := Z4.c (i := 0) rfl
        have g1 := Z4.c (i := 1) rfl
        have HX4 := Lib.hid X4
        have hon : on ≤ 4000000 := by rw [← o1.ulen]; exact Nat.le_trans (nl_small (by unfold bs; omega)) (by omega)
        have hn3 : n3 ≤ 100000 := by rw [← HD4.out.ulen]; exact Nat.le_trans y2 (by omega)
        have hn1 : n1 ≤ 100000 := by rw [← HS4.out.ulen]; exact Nat.le_trans hiv (by omega)
        have HCm := Lib.hid (rf_cmp A3 O n3 on c3 oc y 1 w4 (.of_limbs HD4.out hc3) (.of_limbs o1 o2) (by omega) hon)
        clear hb4 X4 Z4 o1 HX3 HZ3
        go_wp2_with fail
        refine HCm.out.mono ?_
        rintro e w5 ⟨rfl, rfl⟩
        by_cases hy1 : y ≤ 1
        · have hc : cmpN y 1 ≤ 0 := by
            rcases Nat.lt_or_ge y 1 with h | h
            · rw [cmpN_lt h]; omega
            · rw [cmpN_eq (by omega)]; omega
          have HR1 : Hid (rE = 2) := by rw [Hid, HR0.out, if_pos (.inl hy1)]
          generalize cmpN y 1 = cv at *
          go_wp2_with fail
          refine bodyPost_ret (v := .tuple #[.agg #[.bool false, .slice none 0 0, .slice none 0 0], .int .i64 2]) (by simp [results, Tryz.results102, go_sem, f0, f1, f2]) rfl ?_
          rw [HR1.out]
          exact RetQE.bad (by omega) (below3 HB4.out (Nat.le_refl _) _ _ _)
        · rw [cmpN_gt (by omega : 1 < y)]
          have hg0 : 0 < i.natAbs.gcd y := gcd_pos' (by omega)
          have hgl : nl (i.natAbs.gcd y) ≤ 1000000 := by
            have := nl_mono (Nat.gcd_le_right i.natAbs (by omega : 0 < y))
            omega
          have HGc := Lib.hid (rf_gcd A1 A3 n1 n3 c1 c3 i.natAbs y _ (.of_limbs HS4.out hc1) (.of_limbs HD4.out hc3) hn1 hn3)
          go_wp2_with fail
          refine HGc.out.mono ?_
          rintro e w6 ⟨G, gn, gc, rfl, hG, hgc, hb6⟩
          have X6 := HX4.out.below hb6
          have HB6 := Lib.hid (HB4.out.trans (hb6.mono HB4.out.size))
          have HS6 := Lib.hid (HS4.out.on hb6)
          have HD6 := Lib.hid (HD4.out.on hb6)
          have HX6 := Lib.hid X6
          have f0 := X6.c (i := 0) rfl
          have f1 := X6.c (i := 1) rfl
          have f2 := X6.c (i := 2) rfl
          have z0 := X6.frozen 0
          have z1 := X6.frozen 1
          have z2 := X6.frozen 2
          have g0' := (hb6.cell (p := ⟨w1.heap.size, 0, none⟩) (World.block_lt_of_cell? _ _ g0)).trans g0
          have g1' := (hb6.cell (p := ⟨w1.heap.size, 1, none⟩) (World.block_lt_of_cell? _ _ g1)).trans g1
          have HCm2 := Lib.hid (rf_cmp G O gn on gc oc (i.natAbs.gcd y) 1 w6 (.of_limbs hG hgc) (.of_limbs (HO.out.on hb6) o2) (by rw [← hG.ulen]; exact Nat.le_trans hgl (by omega)) hon)
          clear hb6 X6 hG
          go_wp2_with fail
          refine HCm2.out.mono ?_
          rintro e w7 ⟨rfl, rfl⟩
          by_cases hg1 : i.natAbs.gcd y = 1
          · have HR1 : Hid (rE = 0) := by
              rw [Hid, HR0.out, if_neg]
              rintro (h | h)
              · exact hy1 h
              · exact h hg1
            obtain ⟨q1, q2⟩ := rv_coprime (i := i) (d := y) (by omega) hg1
            have HQ := Lib.hid (And.intro q1 q2)
            rw [cmpN_eq hg1]
            clear q1 q2 hg1
            go_wp2_with fail
            have HF := Lib.hid (rat_end (q := rv i y) (w := w) (by rw [HQ.out.1]; exact HS6.out) hc1 (by rw [HQ.out.2]; exact HD6.out) hc3 HX6.out (by simp) HB6.out (Nat.le_refl _))
            refine bodyPost_ret (v := .tuple #[.agg #[.bool (ineg i), .slice A1 n1 c1, .slice A3 n3 c3], .int .i64 0]) (by simp [results, Tryz.results102, go_sem, f0, f1, f2]) rfl ?_
            have hF := HF.out
            rw [HQ.out.1] at hF
            rw [HR1.out, HV0.out]
            exact RetQE.good (RetQ0.of hF)
          · have HR1 : Hid (rE = 2) := by rw [Hid, HR0.out, if_pos (.inr hg1)]
            rw [cmpN_gt (by omega : 1 < i.natAbs.gcd y)]
            clear hg1
            go_wp2_with fail
            refine bodyPost_ret (v := .tuple #[.agg #[.bool false, .slice none 0 0, .slice none 0 0], .int .i64 2]) (by simp [results, Tryz.results102, go_sem, f0, f1, f2]) rfl ?_
            rw [HR1.out]
            exact RetQE.bad (by omega) (below3 HB6.out (Nat.le_refl _) _ _ _)
      · have HR0 : Hid (rE = F) := by rw [Hid, HR.out, if_neg (by simp), if_neg (by simp), if_pos hF0]
        have hF1 : (F != 0) = true := by simpa using hF0
        go_wp2_with fail
        refine bodyPost_ret (v := .tuple #[.agg #[.bool false, .slice none 0 0, .slice none 0 0], .int .i64 F]) (by simp [results, Tryz.results102, go_sem, f0, f1, f2]) rfl ?_
        rw [HR0.out]
        exact RetQE.bad hF0 (below3 HB3.out (Nat.le_refl _) _ _ _)
  · have HR0 : Hid (rE = E) := by rw [Hid, HR.out, if_pos hE0]
    have hE1 : (E != 0) = true := by simpa using hE0
    go_wp2_with fail
    refine bodyPost_ret (v := .tuple #[.agg #[.bool false, .slice none 0 0, .slice none 0 0], .int .i64 E]) (by simp [results, Tryz.results102, go_sem, f0, f1, f2, hxl]) rfl ?_
    rw [HR0.out]
    exact RetQE.bad hE0 ((below3 HB1.out (Nat.le_refl _) _ _ _).alloc (by simp; exact HB1.out.size) _)
end Go.Proofs.YtjiccijfbpkliaaGreatDoor
