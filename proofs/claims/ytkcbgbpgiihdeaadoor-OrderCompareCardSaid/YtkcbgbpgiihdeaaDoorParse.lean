/-
  order.Parse returns the counts that a text describes, or the error. Conditions: Std; a text of at most 1,000,000 bytes; sizes: a slice of at most 1,000,000 strings.
-/
import Derived.Test.YtkcbgbpgiihdeaaDoorItem
import Derived.Test.YtkcbgbpgiihdeaaDoorParseP
import Derived.WalkSmall
namespace Go.Proofs.YtkcbgbpgiihdeaaDoor
open Go.RowKit
open Go.Lib hiding intOf

theorem idx_any (A : Option Addr) (n c : Nat) (zs : List ByteArray) (x : ByteArray) (w : World) {B : Nat} (h : Sl w B A n (strs zs)) (hn : n ≤ 1000000) :
    Calls Tryd.prog 17 #[.slice A n c, .string x] w fun e w' => e = .returned (.int .i64 (idxOfS zs x)) ∧ w = w' := by
  have hl := h.slen
  by_cases h0 : n = 0
  · subst h0
    obtain rfl : zs = [] := List.eq_nil_of_length_eq_zero hl
    exact (Tryd.slices_Index_string_empty A c x w).mono fun e w' ⟨he, hw⟩ => ⟨he, hw.symm⟩
  · obtain ⟨b, off, rfl, _, hc⟩ := h.2 (by omega)
    refine (Tryd.slices_Index_string b off n c zs x w (by omega) (by omega) ?_).mono fun e w' ⟨he, hw⟩ => ⟨?_, hw.symm⟩
    · intro j hj
      refine hc j _ ?_
      simp [strs, hj]
    · rw [he, List.take_of_length_le (by omega)]

theorem split_any (s : ByteArray) (P : List ByteArray) (w : World) (hP : pieces s = P) (hw : Std w) (hs : s.size ≤ 1000000) :
    Calls Tryd.prog 15 #[.string s, .string ⟨#[44, 32]⟩] w fun e w' => e = .returned (.slice (some ⟨w.heap.size, 0, none⟩) P.length P.length) ∧ w' = w.alloc (.cells (P.map Value.string).toArray 9) := by
  subst hP
  obtain ⟨⟨m, hm⟩, _⟩ := hw
  refine (Tryd.strings_Split s ⟨#[44, 32]⟩ m w (by omega) hm (by decide)).mono fun e w' ⟨he, hn⟩ => ⟨?_, hn⟩
  rw [he, pieces_len]

/-- A row of ints, as a list says. -/
def rowI (cs : List Int) (j : Nat) : Value := .int .i64 (cs.getD j 0)
def rowS (ps : List ByteArray) (j : Nat) : Value := .string (ps.getD j ByteArray.empty)
theorem rowI_set {cs : List Int} {k : Nat} (hk : k < cs.length) (n : Int) (j : Nat) : (if j = k then Value.int .i64 n else rowI cs j) = rowI (cs.set k n) j := by
  unfold rowI
  by_cases e : j = k
  · subst e
    rw [if_pos rfl]
    simp [hk]
  · rw [if_neg e]
    simp [Ne.symm e]
theorem rowI_zero (n j : Nat) : Value.int .i64 0 = rowI (List.replicate n 0) j := by
  unfold rowI
  by_cases h : j < n
  · simp [h]
  · simp [h]
theorem Sl.of_row {w : World} {g n : Nat} {t : TypeId} {S : List Int} (h : w.rowIs g t n (rowI S)) (hn : S.length = n) : Sl w w.heap.size (some ⟨g, 0, none⟩) n (ints S) := by
  refine ⟨by rw [ints_len]; exact hn, fun _ => ⟨g, 0, rfl, h.lt, fun j u hu => ?_⟩⟩
  simp only [ints, List.getElem?_map, Option.map_eq_some_iff] at hu
  obtain ⟨x, hx, rfl⟩ := hu
  have hj : j < n := by rw [← hn]; exact (List.getElem?_eq_some_iff.1 hx).1
  have := h.cell hj
  rw [Nat.zero_add, this]
  simp [rowI, hx]
theorem rowIs_drewN {w : World} {b : Nat} {t : TypeId} {n : Nat} {f : Nat → Value} (h : w.rowIs b t n f) (k : Nat) : (w.drewN k).rowIs b t n f := h
theorem Std.below {w w' : World} (h : Std w) (hb : Below w.heap.size w w') : Std w' := by
  obtain ⟨⟨m, hm⟩, h1, h2, ht⟩ := h
  refine ⟨⟨m, (hb.cell h1).trans hm⟩, Nat.lt_of_lt_of_le h1 hb.size, Nat.lt_of_lt_of_le h2 hb.size, ?_⟩
  exact var?_below hb (by kernel_rfl) h2 ht

theorem strs_snoc (ps : List ByteArray) (p : ByteArray) : strs (ps ++ [p]) = strs ps ++ [.string p] := by simp [strs]

theorem str_info : (Tryd.prog.info? 9).map (fun i => (i.zero, i.size, i.bytes)) = some (some (.string ByteArray.empty), 1, 16) := by kernel_rfl

/-- The address lies from block B on. -/
def Fresh (B : Nat) (A : Option Addr) : Prop := ∀ a, A = some a → B ≤ a.block
/-- A list of strings comes back, in new memory. -/
def RetS (l : List ByteArray) (w : World) (e : Ending) (w' : World) : Prop :=
  ∃ A n c, e = .returned (.slice A n c) ∧ Sl w' w'.heap.size A n (strs l) ∧ Fresh w.heap.size A ∧ Below w.heap.size w w'
theorem Fresh.of_own {w : World} {base size n c : Nat} {e : TypeId} {A : Option Addr} {xs : List Value} (h : w.ownsRow base e size (.slice A n c) n xs) : Fresh base A := by
  intro a ha
  subst ha
  rcases h.2 with ⟨h1, _⟩ | ⟨g, cap, cur, h1, hg, _⟩
  · cases h1
  · injection h1 with h1
    injection h1 with h1
    subst h1
    exact hg
theorem Sl.setFar {w : World} {B n : Nat} {A : Option Addr} {xs : List Value} (h : Sl w B A n xs) {p : Addr} (hp : ∀ a, A = some a → a.block ≠ p.block) (u : Value) : Sl (w.setCell p u) B A n xs :=
  ⟨h.1, fun hn => by
    obtain ⟨b, off, e, hb, hc⟩ := h.2 hn
    refine ⟨b, off, e, hb, fun j x hx => ?_⟩
    exact (World.cell?_setCell_other w p ⟨b, off + j, none⟩ u (fun e2 => hp _ e (by rw [e2]))).trans (hc j x hx)⟩

set_option maxHeartbeats 1600000 in
theorem parse_any (s : ByteArray) (A : Option Addr) (n c : Nat) (zs : List ByteArray) (w : World) (hw : Std w) (hs : s.size ≤ 1000000) (ha : Sl w w.heap.size A n (strs zs)) (hn : n ≤ 1000000) :
    Calls Tryd.prog 11 #[.string s, .slice A n c] w (RetIE (parseL s zs) (parseE s zs) w) := by
  have HZ := Lib.hid ha.slen
  have HW := Lib.hid hw; clear hw
  have hmk := fun W => run_make_row' (P := Tryd.prog) 22 3 (.int .i64 0) 8 Tryd.underlying22 int_info rfl .i64 .i64 n (by omega) (by omega) W
  by_cases hlong : 400 < s.size ∨ 12 < n
  · have hE := parse_long (s := s) (sizes := zs) (by rw [HZ.out]; exact hlong)
    rw [hE.1, hE.2]
    clear hE hmk
    by_cases h4 : 400 < s.size
    · go_enter Tryd.func11, Tryd.ntmps11
      go_wp2
      go_ret2
      exact ⟨none, 0, 0, rfl, Sl.none_, Below.refl _ _⟩
    · have h12 : 12 < n := by omega
      go_enter Tryd.func11, Tryd.ntmps11
      go_wp2
      go_ret2
      exact ⟨none, 0, 0, rfl, Sl.none_, Below.refl _ _⟩
  have h4 : ¬ 400 < s.size := by omega
  have h12 : ¬ 12 < n := by omega
  have HLN : Hid (¬ (400 < s.size ∨ 12 < zs.length)) := by rw [HZ.out]; exact hlong
  clear hlong
  by_cases hno : s.data.toList = [110, 111, 110, 101]
  · have hE := parse_none HLN.out hno
    have hq : (s.toList == [110, 111, 110, 101]) = true := by rw [toList_data, hno]; rfl
    rw [hE.1, hE.2, HZ.out]
    clear hE hno
    go_enter Tryd.func11, Tryd.ntmps11
    go_wp2
    go_ret2
    exact ⟨_, _, _, rfl, Sl.of_row ((World.rowIs_made _ _ _ _).congr fun j _ => rowI_zero n j) (by simp), (Below.refl _ _).alloc (Nat.le_refl _) _⟩
  have hq : (s.toList == [110, 111, 110, 101]) = false := by rw [toList_data]; simpa using hno
  have HNO := Lib.hid hno; clear hno
  obtain ⟨P, hP⟩ : ∃ P, pieces s = P := ⟨_, rfl⟩
  have hPl : P.length ≤ 401 := by
    rw [← hP, pieces_len]
    have := pieces_count s
    omega
  have HP := Lib.hid hP; clear hP
  have d4 : decide ((400 : Int) < (s.size : Int)) = false := by simp; omega
  have d12 : decide ((12 : Int) < (n : Int)) = false := by simp; omega
  go_enter Tryd.func11, Tryd.ntmps11
  go_wp2_with (go_at_call 15; refine (split_any s P _ HP.out (by exact HW.out.below ((Below.refl _ _).alloc (Nat.le_refl _) _)) hs).mono ?_; rintro e w' ⟨rfl, rfl⟩)
  clear hmk hq
  go_loopw [7, 31] (fun u i wr => ∃ (k : Nat) (cs : List Int) (last : Int), k ≤ P.length ∧ i = .int .i64 k ∧ u = .int .i64 last ∧ cs.length = n ∧ -1 ≤ last ∧ last < 1000 ∧ Hid (within cs = true) ∧ Hid (run zs P (start zs) = run zs (P.drop k) (cs, last)) ∧ wr.rowIs w.heap.size 3 n (rowI cs) ∧ wr.rowIs (w.heap.size + 1) 9 P.length (rowS P) ∧ Below w.heap.size w wr) (fun _ i _ => P.length - (intOf i).toNat)
  case atStart =>
    refine ⟨0, List.replicate n 0, -1, Nat.zero_le _, rfl, rfl, by simp, by omega, by omega, within_zero n, ?_, ((World.rowIs_made _ _ _ _).congr fun j _ => rowI_zero n j).alloc _, ?_, ((Below.refl _ _).alloc (Nat.le_refl _) _).alloc (by simp) _⟩
    · show run zs P (start zs) = run zs (P.drop 0) (List.replicate n 0, -1)
      rw [← HZ.out]
      rfl
    · have h := World.rowIs_alloc (w.alloc (.cells (madeCells #[Value.int IntKind.i64 0] n) 3)) (P.map Value.string).toArray 9 (rowS P) (fun j hj => by
        simp at hj
        simp [rowS, hj])
      simpa using h
  case round =>
    obtain ⟨k, cs, last, hk, rfl, rfl, hcl, hl0, hl1, hwi, hrun, hrow, hrp, hbel⟩ := hrel
    have HCL := Lib.hid hcl; clear hcl
    by_cases hlt : k < P.length
    · obtain ⟨t, ht⟩ : ∃ t, P[k]? = some t := ⟨P[k], List.getElem?_eq_getElem hlt⟩
      have hct := hrp.cell hlt
      rw [show rowS P k = .string t by simp [rowS, ht]] at hct
      have hts : t.size ≤ 1000000 := by
        have h := piece_size (s := s) (k := k) (t := t) (by rw [HP.out]; exact ht)
        omega
      have HT := Lib.hid ht; clear ht
      have HS := Lib.hid (HW.out.below hbel)
      have HR := Lib.hid hrow
      have HRP := Lib.hid hrp
      cases hok : itemOk t.data.toList
      · clear hrow hrp
        have HE := Lib.hid (parse_err HLN.out HNO.out (by rw [HP.out]; exact run_err hrun.out HT.out (step_syntax hok)))
        have HOK := Lib.hid hok
        clear hok
        go_wp2_with (go_at_call 16; refine (item_no t _ HS.out hts HOK.out).mono ?_; rintro e w' ⟨rfl, nq, rfl⟩)
        go_ret2
        rw [HE.out.1, HE.out.2]
        exact ⟨none, 0, 0, rfl, Sl.none_, below_drewN hbel _⟩
      obtain ⟨p, d, hcut, hp, hnum, hS, hN⟩ := item_parts hok
      obtain ⟨hN0, hN1⟩ := num_all hnum
      have HI := Lib.hid (And.intro hcut hnum)
      generalize hx : num d.data.toList = x at *
      have HX := Lib.hid (And.intro hok (And.intro hS (And.intro hN hx)))
      clear hcut hnum hok hS hN hx
      have HSl : Hid (Sl wr w.heap.size A n (strs zs)) := ha.below hbel
      rcases idx_cases zs p with ⟨hi, _⟩ | ⟨i, hil, hi, _, _⟩
      · clear hrow hrp
        have HE := Lib.hid (parse_err HLN.out HNO.out (by rw [HP.out]; exact run_err hrun.out HT.out (step_found HX.out.1 (by rw [HX.out.2.1]; exact hi))))
        have HII := Lib.hid hi
        clear hi
        go_wp2_with (first | (go_at_call 16; refine (item_yes t p d _ HS.out hts HI.out.1 hp HI.out.2).mono ?_; rintro e w' ⟨rfl, nq, rfl⟩; rw [HX.out.2.2.2]) | (go_at_call 17; refine (idx_any _ _ _ zs _ _ (HSl.out.drewN _) (by omega)).mono ?_; rintro e w' ⟨rfl, rfl⟩; rw [HII.out]))
        go_ret2
        rw [HE.out.1, HE.out.2]
        exact ⟨none, 0, 0, rfl, Sl.none_, below_drewN hbel _⟩
      have hin : i < n := by rw [← HZ.out]; exact hil
      have HII := Lib.hid hi
      clear hi hil
      have hci := hrow.cell hin
      have hfi := hrow.frozen i
      obtain ⟨y, hy⟩ : ∃ y, cs.getD i 0 = y := ⟨_, rfl⟩
      rw [rowI, hy] at hci
      have HY := Lib.hid hy
      clear hy hrow hrp
      have hin' : (i : Int) < (n : Int) := by omega
      by_cases hr : x = 0 ∨ 1000 < x
      · have HE := Lib.hid (parse_err HLN.out HNO.out (by rw [HP.out]; exact run_err hrun.out HT.out (step_range HX.out.1 (by rw [HX.out.2.1]; exact HII.out) (by rw [HX.out.2.2.1]; exact hr))))
        rcases hr with hr | hr
        · have hr' : (x == 0) = true := by simp [hr]
          have HR0 := Lib.hid hr
          clear hr
          go_wp2_with (first | (go_at_call 16; refine (item_yes t p d _ HS.out hts HI.out.1 hp HI.out.2).mono ?_; rintro e w' ⟨rfl, nq, rfl⟩; rw [HX.out.2.2.2]) | (go_at_call 17; refine (idx_any _ _ _ zs _ _ (HSl.out.drewN _) (by omega)).mono ?_; rintro e w' ⟨rfl, rfl⟩; rw [HII.out]))
          go_ret2
          rw [HE.out.1, HE.out.2]
          exact ⟨none, 0, 0, rfl, Sl.none_, below_drewN hbel _⟩
        · have hr' : (x == 0) = false := by simp; omega
          go_wp2_with (first | (go_at_call 16; refine (item_yes t p d _ HS.out hts HI.out.1 hp HI.out.2).mono ?_; rintro e w' ⟨rfl, nq, rfl⟩; rw [HX.out.2.2.2]) | (go_at_call 17; refine (idx_any _ _ _ zs _ _ (HSl.out.drewN _) (by omega)).mono ?_; rintro e w' ⟨rfl, rfl⟩; rw [HII.out]))
          go_ret2
          rw [HE.out.1, HE.out.2]
          exact ⟨none, 0, 0, rfl, Sl.none_, below_drewN hbel _⟩
      have HRn : Hid (¬ (itemN t.data.toList = 0 ∨ 1000 < itemN t.data.toList)) := by rw [HX.out.2.2.1]; exact hr
      have hr0 : (x == 0) = false := by simp; omega
      have hr1 : ¬ 1000 < x := by omega
      clear hr
      have HXI : Hid (idxOfS zs (itemS t.data.toList) = i) := by rw [HX.out.2.1]; exact HII.out
      by_cases hy0 : y = 0
      · obtain rfl := hy0
        by_cases hla : (i : Int) < last
        · have HE := Lib.hid (parse_err HLN.out HNO.out (by rw [HP.out]; exact run_err hrun.out HT.out (step_order HX.out.1 HXI.out HRn.out HY.out hla)))
          go_wp2_with (first | (go_at_call 16; refine (item_yes t p d _ HS.out hts HI.out.1 hp HI.out.2).mono ?_; rintro e w' ⟨rfl, nq, rfl⟩; rw [HX.out.2.2.2]) | (go_at_call 17; refine (idx_any _ _ _ zs _ _ (HSl.out.drewN _) (by omega)).mono ?_; rintro e w' ⟨rfl, rfl⟩; rw [HII.out]))
          go_ret2
          rw [HE.out.1, HE.out.2]
          exact ⟨none, 0, 0, rfl, Sl.none_, below_drewN hbel _⟩
        · have HE := Lib.hid (run_on hrun.out HT.out (step_ok HX.out.1 HXI.out HRn.out HY.out hla))
          go_wp2_with (first | (go_at_call 16; refine (item_yes t p d _ HS.out hts HI.out.1 hp HI.out.2).mono ?_; rintro e w' ⟨rfl, nq, rfl⟩; rw [HX.out.2.2.2]) | (go_at_call 17; refine (idx_any _ _ _ zs _ _ (HSl.out.drewN _) (by omega)).mono ?_; rintro e w' ⟨rfl, rfl⟩; rw [HII.out]))
          go_roundw
          case rel =>
            refine ⟨k + 1, cs.set i x, (i : Int), by omega, by go_num, rfl, by rw [List.length_set]; exact HCL.out, by omega, by omega, within_set hwi.out (by rw [← HX.out.2.2.1]; exact HRn.out) hN0, ?_, ?_, ?_, ?_⟩
            · rw [← HX.out.2.2.1]
              exact HE
            · exact (rowIs_drewN ((HR.out.set i _).congr fun j _ => rowI_set (by rw [HCL.out]; exact hin) x j) nq)
            · exact rowIs_drewN (HRP.out.setOther (a := ⟨w.heap.size, i, none⟩) (by simp) _) nq
            · exact below_drewN (hbel.setCell (p := ⟨w.heap.size, i, none⟩) (Nat.le_refl _) _) nq
          case measure => simp [intOf]; omega
      · have hy' : (y != 0) = true := by simp [hy0]
        have HE := Lib.hid (parse_err HLN.out HNO.out (by rw [HP.out]; exact run_err hrun.out HT.out (step_exists HX.out.1 HXI.out HRn.out (by rw [HY.out]; exact hy0))))
        have HY0 := Lib.hid hy0
        clear hy0
        go_wp2_with (first | (go_at_call 16; refine (item_yes t p d _ HS.out hts HI.out.1 hp HI.out.2).mono ?_; rintro e w' ⟨rfl, nq, rfl⟩; rw [HX.out.2.2.2]) | (go_at_call 17; refine (idx_any _ _ _ zs _ _ (HSl.out.drewN _) (by omega)).mono ?_; rintro e w' ⟨rfl, rfl⟩; rw [HII.out]))
        go_ret2
        rw [HE.out.1, HE.out.2]
        exact ⟨none, 0, 0, rfl, Sl.none_, below_drewN hbel _⟩
    · obtain rfl : k = P.length := by omega
      have hfin : run zs P (start zs) = .ok (cs, last) := by
        rw [hrun.out, List.drop_length]
        rfl
      have HE := Lib.hid (parse_ok HLN.out HNO.out (by rw [HP.out]; exact hfin))
      have HR := Lib.hid hrow
      clear hfin hrow hrp
      go_wp2
      go_ret2
      rw [HE.out.1, HE.out.2]
      exact ⟨_, _, _, rfl, Sl.of_row HR.out HCL.out, hbel⟩
end Go.Proofs.YtkcbgbpgiihdeaaDoor
