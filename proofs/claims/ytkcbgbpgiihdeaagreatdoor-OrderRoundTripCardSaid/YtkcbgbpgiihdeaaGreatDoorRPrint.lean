/-
  R35.Print returns the text of counts, or the error; R35.Short says whether there are at most 20 strings of at most 100 bytes. Conditions: Std; slices of at most 1,000,000 elements; the sizes' texts of at most 1,000,000 bytes.
-/
import Derived.Test.YtkcbgbpgiihdeaaGreatDoorPrint2
namespace Go.Proofs.YtkcbgbpgiihdeaaGreatDoor
open Go.RowKit
open Go.Lib hiding intOf

theorem idx_lt_iff {zs : List ByteArray} {z : ByteArray} {k : Nat} (hz : zs[k]? = some z) : ((idxOfS zs z < (k : Int)) ∧ z ∈ zs.take k ∧ 0 ≤ idxOfS zs z) ∨ (idxOfS zs z = (k : Int) ∧ z ∉ zs.take k) := by
  by_cases h : z ∈ zs.take k
  · left
    rcases idx_cases zs z with ⟨_, hn⟩ | ⟨i, hi, he, hx, hn⟩
    · exact absurd (List.mem_of_getElem? hz) hn
    · refine ⟨?_, h, by omega⟩
      obtain ⟨j, hj, hje⟩ := List.getElem_of_mem h
      have hjk : j < k := by
        rw [List.length_take] at hj
        omega
      rcases Nat.lt_or_ge i k with hik | hik
      · omega
      · exfalso
        apply hn
        rw [← hje]
        rw [List.getElem_take]
        exact List.mem_take_iff_getElem.2 ⟨j, by rw [List.length_take] at hj; omega, rfl⟩
  · exact .inr ⟨idxOfS_at hz h, h⟩

theorem bump {a j : Nat} (h : a ≤ j * 1000007) : a ≤ (j + 1) * 1000007 := Nat.le_trans h (Nat.mul_le_mul_right _ (Nat.le_succ j))
theorem bump2 {a b j : Nat} (h : b ≤ j * 1000007) (h2 : a ≤ b + 1000007) : a ≤ (j + 1) * 1000007 := by
  rw [Nat.succ_mul]
  exact Nat.le_trans h2 (Nat.add_le_add_right h _)
/-- A text with one item more, as the reference joins it. -/
theorem cat4 (S z : ByteArray) (x : Int) (hS : S.size ≤ 100000000) (hz : z.size ≤ 1000000) (h0 : 0 ≤ x) (h1 : x ≤ 1000) :
    ∃ a b I p : ByteArray, (∀ W, (Op.stringOp .add S z).run Tryz.prog W = .ok (.string a) W) ∧ (∀ W, (Op.stringOp .add a ⟨#[32]⟩).run Tryz.prog W = .ok (.string b) W) ∧ (∀ W, (Op.stringOp .add b I).run Tryz.prog W = .ok (.string p) W) ∧ (⟨(itoa x).toArray⟩ : ByteArray) = I ∧ p.data.toList = S.data.toList ++ itemL z x ∧ p.size ≤ S.size + 1000005 := by
  have hI := itoa_len h0 h1
  have e1 : (S ++ z : ByteArray).size = S.size + z.size := ByteArray.size_append
  have e2 : (S ++ z ++ ⟨#[32]⟩ : ByteArray).size = S.size + z.size + 1 := by rw [ByteArray.size_append, e1]; rfl
  have e3 : (⟨(itoa x).toArray⟩ : ByteArray).size = (itoa x).length := rfl
  refine ⟨S ++ z, S ++ z ++ ⟨#[32]⟩, ⟨(itoa x).toArray⟩, S ++ z ++ ⟨#[32]⟩ ++ ⟨(itoa x).toArray⟩, fun W => run_string_add_sum W _ _ ?_, fun W => run_string_add_sum W _ _ ?_, fun W => run_string_add_sum W _ _ ?_, rfl, ?_, ?_⟩
  · omega
  · rw [e1]
    show _ + 1 ≤ _
    omega
  · rw [e2, e3]
    omega
  · simp [itemL, ByteArray.data_append]
  · rw [ByteArray.size_append, e2, e3]
    omega
theorem cat_sep (S : ByteArray) (hS : S.size ≤ 90000000) : ∃ T : ByteArray, (∀ W, (Op.stringOp .add S ⟨#[44, 32]⟩).run Tryz.prog W = .ok (.string T) W) ∧ T.data.toList = S.data.toList ++ [44, 32] ∧ T.size = S.size + 2 := by
  refine ⟨S ++ ⟨#[44, 32]⟩, fun W => run_string_add_sum W _ _ ?_, ?_, ?_⟩
  · show _ + 2 ≤ _
    omega
  · simp [ByteArray.data_append]
  · rw [ByteArray.size_append]
    rfl

set_option maxRecDepth 100000 in
set_option maxHeartbeats 6400000 in
theorem rprint_any (A B : Option Addr) (n m c d : Nat) (cs : List Int) (zs : List ByteArray) (w : World) (hw : Std w) (ha : Sl w w.heap.size A n (ints cs)) (hb : Sl w w.heap.size B m (strs zs)) (hn : n ≤ 1000000) (hm : m ≤ 1000000) (hz : ∀ z ∈ zs, z.size ≤ 1000000) :
    Calls Tryz.prog 14 #[.slice A n c, .slice B m d] w (RetSE (printS cs zs) (printE cs zs) w) := by
  have HX := Lib.hid ha.ilen
  have HY := Lib.hid hb.slen
  have HZ := Lib.hid hz; clear hz
  have HW := Lib.hid hw; clear hw
  by_cases hnm : n = m
  · subst hnm
    have HLE : Hid (cs.length = zs.length) := HX.out.trans HY.out.symm
    go_enter Tryz.func14, Tryz.ntmps14
    go_wp2
    go_loop [6] (fun i => ∃ k : Nat, k ≤ n ∧ i = .int .i64 k ∧ Hid (sized (zs.take k) = true)) (fun i => n - (intOf i).toNat)
    case atStart => exact ⟨0, Nat.zero_le _, rfl, by simp [Hid, sized]⟩
    case round =>
      obtain ⟨k, hk, rfl, hs⟩ := hrel
      by_cases hlt : k < n
      · obtain ⟨b', off', z, rfl, hb', hz, hcz⟩ := hb.str_ hlt
        have hzs : z.size ≤ 1000000 := HZ.out z (List.mem_of_getElem? hz)
        have HZk := Lib.hid hz; clear hz ha hb
        cases hq : szOk z.data.toList
        · have HE := Lib.hid (printE_size (cs := cs) (sized_not HZk.out hq))
          go_wp2_with (go_at_call 30; refine (rsize_any _ _ hzs).mono ?_; rintro e w' ⟨rfl, rfl⟩; rw [hq])
          go_ret2
          exact ⟨by rw [printS, if_neg (by rw [HE.out]; decide), HE.out]; rfl, Below.refl _ _⟩
        · have HD := Lib.hid (sized_succ hs.out HZk.out hq)
          go_wp2_with (go_at_call 30; refine (rsize_any _ _ hzs).mono ?_; rintro e w' ⟨rfl, rfl⟩; rw [hq])
          go_round
          case rel => exact ⟨k + 1, by omega, by go_num, HD⟩
          case measure => simp [intOf]; omega
      · obtain rfl : k = n := by omega
        have hs' := hs.out
        rw [List.take_of_length_le (by rw [HY.out]; omega)] at hs'
        have HS := Lib.hid hs'
        clear hs'
        by_cases h12 : 12 < k
        · have HE := Lib.hid (printE_long HLE.out HS.out (by rw [HY.out]; exact h12))
          clear ha hb
          go_wp2
          go_ret2
          exact ⟨by rw [printS, if_neg (by rw [HE.out]; decide), HE.out]; rfl, Below.refl _ _⟩
        · have HL : Hid (¬ 12 < zs.length) := by rw [HY.out]; exact h12
          cases hwi : within cs
          · have HE := Lib.hid (printE_range HLE.out HS.out HL.out hwi)
            go_wp2_with (go_at_call 31; refine (within_any _ _ _ cs _ ha hn).mono ?_; rintro e w' ⟨rfl, rfl⟩)
            go_ret2
            exact ⟨by rw [printS, if_neg (by rw [HE.out]; decide), HE.out]; rfl, Below.refl _ _⟩
          · have HWI := Lib.hid hwi
            go_wp2_with (go_at_call 31; refine (within_any _ _ _ cs _ ha hn).mono ?_; rintro e w' ⟨rfl, rfl⟩)
            go_loop [7] (fun i => ∃ q : Nat, q ≤ k ∧ i = .int .i64 q ∧ Hid (∀ p, p < q → okAt zs p = true)) (fun i => k - (intOf i).toNat)
            case atStart => exact ⟨0, Nat.zero_le _, rfl, fun p hp => by omega⟩
            case round =>
              obtain ⟨q, hq, rfl, hok⟩ := hrel
              by_cases hlq : q < k
              · obtain ⟨b', off', z, rfl, _, hz, hcz⟩ := hb.str_ hlq
                have HZk := Lib.hid hz
                rcases idx_lt_iff hz with ⟨h1, h2, h3⟩ | ⟨h1, h2⟩
                · have HE := Lib.hid (printE_dup HLE.out HS.out HL.out HWI.out (noDup_not HZk.out h2))
                  generalize hI : idxOfS zs z = I at *
                  have HI := Lib.hid hI
                  clear h2 hI hz
                  go_wp2_with (go_at_call 26; refine (find_any _ _ _ zs _ _ hb hn).mono ?_; rintro e w' ⟨rfl, rfl⟩; rw [HI.out])
                  go_ret2
                  exact ⟨by rw [printS, if_neg (by rw [HE.out]; decide), HE.out]; rfl, Below.refl _ _⟩
                · have HI := Lib.hid h1
                  have HO : Hid (∀ p, p < q + 1 → okAt zs p = true) := fun p hp => by
                    by_cases hpq : p = q
                    · subst hpq
                      rw [okAt_of HZk.out]
                      cases hc : containsS (zs.take p) z
                      · rfl
                      · exact absurd ((containsS_iff _ _).1 hc) h2
                    · exact hok.out p (by omega)
                  clear h1 h2 hz
                  go_wp2_with (go_at_call 26; refine (find_any _ _ _ zs _ _ hb hn).mono ?_; rintro e w' ⟨rfl, rfl⟩; rw [HI.out])
                  go_round
                  case rel => exact ⟨q + 1, by omega, by go_num, HO⟩
                  case measure => simp [intOf]; omega
              · obtain rfl : q = k := by omega
                have HE := Lib.hid (printE_ok HLE.out HS.out HL.out HWI.out (noDup_all HY.out hok.out))
                go_wp2
                go_loopw [8, 9] (fun v i wr => ∃ (j : Nat) (S : ByteArray), j ≤ q ∧ i = .int .i64 j ∧ v = .string S ∧ S.size ≤ j * 1000007 ∧ Hid (S.data.toList = join (texts (cs.take j) (zs.take j)) [44, 32]) ∧ Below w.heap.size w wr) (fun _ i _ => q - (intOf i).toNat)
                case atStart => exact ⟨0, ⟨#[]⟩, Nat.zero_le _, rfl, rfl, Nat.zero_le _, by simp [Hid, texts, join_nil], Below.refl _ _⟩
                case round =>
                  obtain ⟨j, S, hj, rfl, rfl, hSs, hSd, hbel⟩ := hrel
                  have hN := hbel.size
                  by_cases hlj : j < q
                  · obtain ⟨b, off, x, rfl, hbw, hx, hcx⟩ := (ha.below hbel).int_ hlj
                    obtain ⟨b', off', z, rfl, hbw', hz, hcz⟩ := (hb.below hbel).str_ hlj
                    have hzs : z.size ≤ 1000000 := HZ.out z (List.mem_of_getElem? hz)
                    obtain ⟨x0, x1⟩ := isC_true.1 (within_at HWI.out hx)
                    have HT := Lib.hid (texts_succ hx hz)
                    clear hx hz ha hb
                    have hj1 : j + 1 ≤ q := hlj
                    by_cases hx0 : x = 0
                    · have hxq : (x == 0) = true := by simp [hx0]
                      have HX0 := Lib.hid hx0
                      clear hx0
                      go_wp2
                      go_roundw
                      case rel => exact ⟨j + 1, S, hj1, by go_num, rfl, bump hSs, by rw [HT.out, if_pos HX0.out, List.append_nil]; exact hSd, hbel⟩
                      case measure => simp [intOf]; omega
                    · have hxq : (x == 0) = false := by simp [hx0]
                      have HX0 := Lib.hid hx0
                      clear hx0
                      have hk0 : (0 : Int) ≤ (j : Int) := Int.natCast_nonneg _
                      have hk1 : (j : Int) < (q : Int) := by omega
                      have HSt := Lib.hid (HW.out.below hbel)
                      by_cases hS0 : S.size = 0
                      · obtain ⟨s1, s2⟩ := empty_of S hS0
                        obtain ⟨a1, a2, I, p, hc1, hc2, hc3, hI, hp, hps⟩ := cat4 S z x (by omega) hzs x0 x1
                        have HI := Lib.hid hI
                        have HP : Hid (p.data.toList = join (texts (cs.take (j + 1)) (zs.take (j + 1))) [44, 32]) := by
                          have hT0 : texts (cs.take j) (zs.take j) = [] := by
                            rcases Classical.em (texts (cs.take j) (zs.take j) = []) with h | h
                            · exact h
                            · exfalso
                              apply join_ne (sep := [44, 32]) h (texts_ne _ _)
                              rw [← hSd.out]
                              exact List.eq_nil_of_length_eq_zero (by rw [← size_eq]; exact hS0)
                          rw [HT.out, if_neg HX0.out, hT0, hp, hSd.out, hT0, join_nil]
                          simp [join_one, Hid]
                        clear hI hp hS0
                        have hPs : p.size ≤ (j + 1) * 1000007 := bump2 hSs (by omega)
                        go_wp2
                        go_region_held3 (fun w' => w'.cell? ⟨b', off' + j, none⟩ = some (.string z) ∧ w'.cell? ⟨b, off + j, none⟩ = some (.int .i64 x))
                          (first | go_keep | (go_split_ands; refine ⟨(by rw [hb2.cell (by simp; omega)]; assumption), (by rw [hb2.cell (by simp; omega)]; assumption)⟩))
                          (first
                            | (go_simp; go_at_call 28; refine (itoa_any x x0 x1 _ (by exact HSt.out)).mono ?_; rintro e w2 ⟨rfl, hb2⟩; rw [HI.out]))
                        clear hc1 hc2 hc3
                        have hbel2 : Below w.heap.size w w2 := hbel.drew.trans (hb2.mono (by simpa using hN))
                        clear hb2
                        go_wp2
                        go_roundw
                        case rel => exact ⟨j + 1, p, hj1, by go_num, rfl, hPs, HP, hbel2⟩
                        case measure => simp [intOf]; omega
                      · obtain ⟨s1, s2⟩ := full_of S (by omega)
                        obtain ⟨T, hct, hT, hTs⟩ := cat_sep S (by omega)
                        obtain ⟨a1, a2, I, p, hc1, hc2, hc3, hI, hp, hps⟩ := cat4 T z x (by omega) hzs x0 x1
                        have HI := Lib.hid hI
                        have HP : Hid (p.data.toList = join (texts (cs.take (j + 1)) (zs.take (j + 1))) [44, 32]) := by
                          have hT0 : texts (cs.take j) (zs.take j) ≠ [] := fun h => by
                            have h2 := hSd.out
                            rw [h, join_nil] at h2
                            have h3 := size_eq S
                            rw [h2, List.length_nil] at h3
                            exact hS0 h3
                          rw [HT.out, if_neg HX0.out, join_snoc _ _ _ hT0, hp, hT, hSd.out, List.append_assoc]
                          exact rfl
                        have hPs : p.size ≤ (j + 1) * 1000007 := bump2 hSs (by omega)
                        clear hI hp hT hTs hS0 hps
                        go_wp2
                        go_region_held3 (fun w' => w'.cell? ⟨b', off' + j, none⟩ = some (.string z) ∧ w'.cell? ⟨b, off + j, none⟩ = some (.int .i64 x))
                          (first | go_keep | (go_split_ands; refine ⟨(by rw [hb2.cell (by simp; omega)]; assumption), (by rw [hb2.cell (by simp; omega)]; assumption)⟩))
                          (first
                            | (go_simp; go_at_call 28; refine (itoa_any x x0 x1 _ (by exact HSt.out)).mono ?_; rintro e w2 ⟨rfl, hb2⟩; rw [HI.out]))
                        clear hc1 hc2 hc3 hct
                        have hbel2 : Below w.heap.size w w2 := hbel.drew.trans (hb2.mono (by simpa using hN))
                        clear hb2
                        go_wp2
                        go_roundw
                        case rel => exact ⟨j + 1, p, hj1, by go_num, rfl, hPs, HP, hbel2⟩
                        case measure => simp [intOf]; omega
                  · obtain rfl : j = q := by omega
                    have hSd' := hSd.out
                    rw [List.take_of_length_le (by rw [HX.out]; omega), List.take_of_length_le (by rw [HY.out]; omega)] at hSd'
                    have HSd := Lib.hid hSd'
                    clear hSd' ha hb
                    by_cases hS0 : S.size = 0
                    · obtain ⟨s1, s2⟩ := empty_of S hS0
                      have HF : Hid (printS cs zs = ⟨noneL.toArray⟩) := by
                        have hT0 : texts cs zs = [] := by
                          rcases Classical.em (texts cs zs = []) with h | h
                          · exact h
                          · exfalso
                            apply join_ne (sep := [44, 32]) h (texts_ne _ _)
                            rw [← HSd.out]
                            exact List.eq_nil_of_length_eq_zero (by rw [← size_eq]; exact hS0)
                        rw [printS, if_pos HE.out, printT, if_pos hT0]
                        exact rfl
                      clear hS0
                      go_wp2
                      go_ret2
                      exact ⟨by rw [HF.out, HE.out]; rfl, hbel⟩
                    · obtain ⟨s1, s2⟩ := full_of S (by omega)
                      have HF : Hid (printS cs zs = S) := by
                        have hT0 : texts cs zs ≠ [] := fun h => by
                          have h2 := HSd.out
                          rw [h, join_nil] at h2
                          have h3 := size_eq S
                          rw [h2, List.length_nil] at h3
                          exact hS0 h3
                        rw [printS, if_pos HE.out, printT, if_neg hT0, ← HSd.out]
                        exact mk_data S
                      clear hS0
                      go_wp2
                      go_ret2
                      exact ⟨by rw [HF.out, HE.out]; rfl, hbel⟩
  · have hne : ((n : Int) != (m : Int)) = true := by simp; omega
    have HE := Lib.hid (printE_len (cs := cs) (zs := zs) (by rw [HX.out, HY.out]; exact hnm))
    clear hnm
    go_enter Tryz.func14, Tryz.ntmps14
    go_wp2
    go_ret2
    exact ⟨by rw [printS, if_neg (by rw [HE.out]; decide), HE.out]; rfl, Below.refl _ _⟩
end Go.Proofs.YtkcbgbpgiihdeaaGreatDoor
