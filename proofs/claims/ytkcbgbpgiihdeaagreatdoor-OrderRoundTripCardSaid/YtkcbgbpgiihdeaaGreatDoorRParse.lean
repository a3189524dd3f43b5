/-
  R35.Parse returns the counts that a text describes, or the error. Conditions: Std; a text of at most 1,000,000 bytes; sizes: a slice of at most 1,000,000 strings.
-/
import Derived.Test.YtkcbgbpgiihdeaaGreatDoorItems
namespace Go.Proofs.YtkcbgbpgiihdeaaGreatDoor
open Go.RowKit
open Go.Lib hiding intOf

theorem rowIs_below {w w' : World} {b B : Nat} {t : TypeId} {n : Nat} {f : Nat → Value} (h : w.rowIs b t n f) (hb : Below B w w') (hlt : b < B) : w'.rowIs b t n f := h.of_block (hb.block b hlt)

theorem ritem_yes (s : ByteArray) (w : World) (hs : s.size ≤ 1000000) (h : itemOk s.data.toList = true) :
    Calls Tryz.prog 25 #[.string s] w fun e w' => e = .returned (.tuple #[.string (itemS s.data.toList), .int .i64 (itemN s.data.toList), .bool true]) ∧ ∃ k, w' = w.drewN k :=
  (ritem_any s w hs).mono fun e w' ⟨he, hk⟩ => by
    refine ⟨?_, hk⟩
    rcases he with ⟨_, he⟩ | ⟨he, _⟩
    · exact he
    · rw [h] at he
      cases he
theorem ritem_no (s : ByteArray) (w : World) (hs : s.size ≤ 1000000) (h : itemOk s.data.toList = false) :
    Calls Tryz.prog 25 #[.string s] w fun e w' => (∃ v x, e = .returned (.tuple #[.string v, .int .i64 x, .bool false])) ∧ ∃ k, w' = w.drewN k :=
  (ritem_any s w hs).mono fun e w' ⟨he, hk⟩ => by
    refine ⟨?_, hk⟩
    rcases he with ⟨he, _⟩ | ⟨_, he⟩
    · rw [h] at he
      cases he
    · exact he

set_option maxHeartbeats 1600000 in
theorem rparse_any (s : ByteArray) (A : Option Addr) (n c : Nat) (zs : List ByteArray) (w : World) (hs : s.size ≤ 1000000) (ha : Sl w w.heap.size A n (strs zs)) (hn : n ≤ 1000000) :
    Calls Tryz.prog 11 #[.string s, .slice A n c] w (RetIE (parseL s zs) (parseE s zs) w) := by
  have HZ := Lib.hid ha.slen
  have hmk := fun W => run_make_row' (P := Tryz.prog) 25 3 (.int .i64 0) 8 Tryz.underlying25 int_info rfl .i64 .i64 n (by omega) (by omega) W
  by_cases hlong : 400 < s.size ∨ 12 < n
  · have hE := parse_long (s := s) (sizes := zs) (by rw [HZ.out]; exact hlong)
    rw [hE.1, hE.2]
    clear hE hmk
    by_cases h4 : 400 < s.size
    · go_enter Tryz.func11, Tryz.ntmps11
      go_wp2
      go_ret2
      exact ⟨none, 0, 0, rfl, Sl.none_, Below.refl _ _⟩
    · have h12 : 12 < n := by omega
      go_enter Tryz.func11, Tryz.ntmps11
      go_wp2
      go_ret2
      exact ⟨none, 0, 0, rfl, Sl.none_, Below.refl _ _⟩
  have h4 : ¬ 400 < s.size := by omega
  have h12 : ¬ 12 < n := by omega
  have HLN : Hid (¬ (400 < s.size ∨ 12 < zs.length)) := by rw [HZ.out]; exact hlong
  clear hlong
  by_cases hno : s.data.toList = [110, 111, 110, 101]
  · have hE := parse_none HLN.out hno
    have hq : (s.toList == [110, 111, 110, 101]) = true := by rw [toList_data, hno]; rfl
    rw [hE.1, hE.2, HZ.out]
    clear hE hno
    go_enter Tryz.func11, Tryz.ntmps11
    go_wp2
    go_ret2
    exact ⟨_, _, _, rfl, Sl.of_row ((World.rowIs_made _ _ _ _).congr fun j _ => rowI_zero n j) (by simp), (Below.refl _ _).alloc (Nat.le_refl _) _⟩
  have hq : (s.toList == [110, 111, 110, 101]) = false := by rw [toList_data]; simpa using hno
  have HNO := Lib.hid hno; clear hno
  have d4 : decide ((400 : Int) < (s.size : Int)) = false := by simp; omega
  have d12 : decide ((12 : Int) < (n : Int)) = false := by simp; omega
  go_enter Tryz.func11, Tryz.ntmps11
  go_wp2_with (go_at_call 24; refine (items_any s _ hs).mono ?_; rintro e w1 ⟨A', m, c', rfl, hsl, hfr, hb1⟩)
  have hrow1 : w1.rowIs w.heap.size 3 n (rowI (List.replicate n 0)) := rowIs_below ((World.rowIs_made w _ _ _).congr fun j _ => rowI_zero n j) hb1 (by simp)
  have hbel1 : Below w.heap.size w w1 := ((Below.refl _ _).alloc (Nat.le_refl _) _).trans (hb1.mono (by simp))
  have hfar : Hid (∀ a, A' = some a → a.block ≠ w.heap.size) := fun a e => by
    have h := hfr a e
    rw [World.size_alloc] at h
    omega
  obtain ⟨P, hP⟩ : ∃ P, pieces s = P := ⟨_, rfl⟩
  have hPl : P.length ≤ 401 := by
    rw [← hP, pieces_len]
    have := pieces_count s
    omega
  rw [hP] at hsl
  have HP := Lib.hid hP; clear hP
  have hml := hsl.slen
  have hm4 : m ≤ 401 := by omega
  have HML := Lib.hid hml
  clear hml hPl hb1 hfr hmk hq
  go_wp2
  go_loopw [8, 9] (fun u i wr => ∃ (k : Nat) (cs : List Int) (last : Int), k ≤ m ∧ i = .int .i64 k ∧ u = .int .i64 last ∧ cs.length = n ∧ -1 ≤ last ∧ last < 1000 ∧ Hid (within cs = true) ∧ Hid (run zs P (start zs) = run zs (P.drop k) (cs, last)) ∧ wr.rowIs w.heap.size 3 n (rowI cs) ∧ Sl wr w1.heap.size A' m (strs P) ∧ Below w.heap.size w wr) (fun _ i _ => m - (intOf i).toNat)
  case atStart =>
    refine ⟨0, List.replicate n 0, -1, Nat.zero_le _, rfl, rfl, by simp, by omega, by omega, within_zero n, ?_, hrow1, hsl, hbel1⟩
    show run zs P (start zs) = run zs (P.drop 0) (List.replicate n 0, -1)
    rw [← HZ.out]
    rfl
  case round =>
    clear hrow1 hsl hbel1
    obtain ⟨k, cs, last, hk, rfl, rfl, hcl, hl0, hl1, hwi, hrun, hrow, hrp, hbel⟩ := hrel
    have HCL := Lib.hid hcl; clear hcl
    by_cases hlt : k < m
    · obtain ⟨tb, toff, t, rfl, htb, ht, hct⟩ := hrp.str_ hlt
      have hts : t.size ≤ 1000000 := by
        have h := piece_size (s := s) (k := k) (t := t) (by rw [HP.out]; exact ht)
        omega
      have HT := Lib.hid ht; clear ht
      have HR := Lib.hid hrow
      have HRP := Lib.hid hrp
      cases hok : itemOk t.data.toList
      · clear hrow hrp
        have HE := Lib.hid (parse_err HLN.out HNO.out (by rw [HP.out]; exact run_err hrun.out HT.out (step_syntax hok)))
        have HOK := Lib.hid hok
        clear hok
        go_wp2_with (go_at_call 25; refine (ritem_no t _ hts HOK.out).mono ?_; rintro e w' ⟨⟨v, x, rfl⟩, nq, rfl⟩)
        go_ret2
        rw [HE.out.1, HE.out.2]
        exact ⟨none, 0, 0, rfl, Sl.none_, below_drewN hbel _⟩
      obtain ⟨p, d, hcut, hp, hnum, hS, hN⟩ := item_parts hok
      obtain ⟨hN0, hN1⟩ := num_all hnum
      generalize hx : num d.data.toList = x at *
      have HX := Lib.hid (And.intro hok (And.intro hS (And.intro hN hx)))
      clear hcut hnum hok hS hN hx
      have HSl : Hid (Sl wr w.heap.size A n (strs zs)) := ha.below hbel
      rcases idx_cases zs p with ⟨hi, _⟩ | ⟨i, hil, hi, _, _⟩
      · clear hrow hrp
        have HE := Lib.hid (parse_err HLN.out HNO.out (by rw [HP.out]; exact run_err hrun.out HT.out (step_found HX.out.1 (by rw [HX.out.2.1]; exact hi))))
        have HII := Lib.hid hi
        clear hi
        go_wp2_with (first | (go_at_call 25; refine (ritem_yes t _ hts HX.out.1).mono ?_; rintro e w' ⟨rfl, nq, rfl⟩; rw [HX.out.2.1, HX.out.2.2.1]) | (go_at_call 26; refine (find_any _ _ _ zs _ _ (HSl.out.drewN _) (by omega)).mono ?_; rintro e w' ⟨rfl, rfl⟩; rw [HII.out]))
        go_ret2
        rw [HE.out.1, HE.out.2]
        exact ⟨none, 0, 0, rfl, Sl.none_, below_drewN hbel _⟩
      have hin : i < n := by rw [← HZ.out]; exact hil
      have HII := Lib.hid hi
      clear hi hil
      have hci := hrow.cell hin
      have hfi := hrow.frozen i
      obtain ⟨y, hy⟩ : ∃ y, cs.getD i 0 = y := ⟨_, rfl⟩
      rw [rowI, hy] at hci
      have hyy : 0 ≤ y := by
        rw [← hy]
        by_cases hic : i < cs.length
        · have hg : cs[i]? = some (cs.getD i 0) := by simp [hic]
          exact (isC_true.1 (within_at hwi.out hg)).1
        · simp [List.getElem?_eq_none (by omega : cs.length ≤ i)]
      have HY := Lib.hid hy
      clear hy hrow hrp
      have hin' : (i : Int) < (n : Int) := by omega
      by_cases hr : x = 0 ∨ 1000 < x
      · have HE := Lib.hid (parse_err HLN.out HNO.out (by rw [HP.out]; exact run_err hrun.out HT.out (step_range HX.out.1 (by rw [HX.out.2.1]; exact HII.out) (by rw [HX.out.2.2.1]; exact hr))))
        rcases hr with hr | hr
        · have hr' : x < 1 := by omega
          have HR0 := Lib.hid hr
          clear hr
          go_wp2_with (first | (go_at_call 25; refine (ritem_yes t _ hts HX.out.1).mono ?_; rintro e w' ⟨rfl, nq, rfl⟩; rw [HX.out.2.1, HX.out.2.2.1]) | (go_at_call 26; refine (find_any _ _ _ zs _ _ (HSl.out.drewN _) (by omega)).mono ?_; rintro e w' ⟨rfl, rfl⟩; rw [HII.out]))
          go_ret2
          rw [HE.out.1, HE.out.2]
          exact ⟨none, 0, 0, rfl, Sl.none_, below_drewN hbel _⟩
        · have hr' : ¬ x < 1 := by omega
          go_wp2_with (first | (go_at_call 25; refine (ritem_yes t _ hts HX.out.1).mono ?_; rintro e w' ⟨rfl, nq, rfl⟩; rw [HX.out.2.1, HX.out.2.2.1]) | (go_at_call 26; refine (find_any _ _ _ zs _ _ (HSl.out.drewN _) (by omega)).mono ?_; rintro e w' ⟨rfl, rfl⟩; rw [HII.out]))
          go_ret2
          rw [HE.out.1, HE.out.2]
          exact ⟨none, 0, 0, rfl, Sl.none_, below_drewN hbel _⟩
      have HRn : Hid (¬ (itemN t.data.toList = 0 ∨ 1000 < itemN t.data.toList)) := by rw [HX.out.2.2.1]; exact hr
      have hr0 : ¬ x < 1 := by omega
      have hr1 : ¬ 1000 < x := by omega
      clear hr
      have HXI : Hid (idxOfS zs (itemS t.data.toList) = i) := by rw [HX.out.2.1]; exact HII.out
      by_cases hy0 : y = 0
      · obtain rfl := hy0
        by_cases hla : (i : Int) < last
        · have HE := Lib.hid (parse_err HLN.out HNO.out (by rw [HP.out]; exact run_err hrun.out HT.out (step_order HX.out.1 HXI.out HRn.out HY.out hla)))
          go_wp2_with (first | (go_at_call 25; refine (ritem_yes t _ hts HX.out.1).mono ?_; rintro e w' ⟨rfl, nq, rfl⟩; rw [HX.out.2.1, HX.out.2.2.1]) | (go_at_call 26; refine (find_any _ _ _ zs _ _ (HSl.out.drewN _) (by omega)).mono ?_; rintro e w' ⟨rfl, rfl⟩; rw [HII.out]))
          go_ret2
          rw [HE.out.1, HE.out.2]
          exact ⟨none, 0, 0, rfl, Sl.none_, below_drewN hbel _⟩
        · have HE := Lib.hid (run_on hrun.out HT.out (step_ok HX.out.1 HXI.out HRn.out HY.out hla))
          go_wp2_with (first | (go_at_call 25; refine (ritem_yes t _ hts HX.out.1).mono ?_; rintro e w' ⟨rfl, nq, rfl⟩; rw [HX.out.2.1, HX.out.2.2.1]) | (go_at_call 26; refine (find_any _ _ _ zs _ _ (HSl.out.drewN _) (by omega)).mono ?_; rintro e w' ⟨rfl, rfl⟩; rw [HII.out]))
          go_roundw
          case rel =>
            refine ⟨k + 1, cs.set i x, (i : Int), by omega, by go_num, rfl, by rw [List.length_set]; exact HCL.out, by omega, by omega, within_set hwi.out (by rw [← HX.out.2.2.1]; exact HRn.out) hN0, ?_, ?_, ?_, ?_⟩
            · rw [← HX.out.2.2.1]
              exact HE
            · exact (rowIs_drewN ((HR.out.set i _).congr fun j _ => rowI_set (by rw [HCL.out]; exact hin) x j) nq)
            · exact (HRP.out.setFar (p := ⟨w.heap.size, i, none⟩) hfar.out _).drewN nq
            · exact below_drewN (hbel.setCell (p := ⟨w.heap.size, i, none⟩) (Nat.le_refl _) _) nq
          case measure => simp [intOf]; omega
      · have hy' : 0 < y := by omega
        have HE := Lib.hid (parse_err HLN.out HNO.out (by rw [HP.out]; exact run_err hrun.out HT.out (step_exists HX.out.1 HXI.out HRn.out (by rw [HY.out]; exact hy0))))
        have HY0 := Lib.hid hy0
        clear hy0
        go_wp2_with (first | (go_at_call 25; refine (ritem_yes t _ hts HX.out.1).mono ?_; rintro e w' ⟨rfl, nq, rfl⟩; rw [HX.out.2.1, HX.out.2.2.1]) | (go_at_call 26; refine (find_any _ _ _ zs _ _ (HSl.out.drewN _) (by omega)).mono ?_; rintro e w' ⟨rfl, rfl⟩; rw [HII.out]))
        go_ret2
        rw [HE.out.1, HE.out.2]
        exact ⟨none, 0, 0, rfl, Sl.none_, below_drewN hbel _⟩
    · obtain rfl : k = m := by omega
      have hfin : run zs P (start zs) = .ok (cs, last) := by
        rw [hrun.out, List.drop_of_length_le (by rw [HML.out]; omega)]
        rfl
      have HE := Lib.hid (parse_ok HLN.out HNO.out (by rw [HP.out]; exact hfin))
      have HR := Lib.hid hrow
      clear hfin hrow hrp
      go_wp2
      go_ret2
      rw [HE.out.1, HE.out.2]
      exact ⟨_, _, _, rfl, Sl.of_row HR.out HCL.out, hbel⟩
end Go.Proofs.YtkcbgbpgiihdeaaGreatDoor
