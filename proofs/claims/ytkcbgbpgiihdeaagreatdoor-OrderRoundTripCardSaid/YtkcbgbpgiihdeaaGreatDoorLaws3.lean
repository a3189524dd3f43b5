/-
  The laws OrderRoundTrip and OrderTexts return true. Conditions: Std; the arguments are strings, slices of strings and slices of ints.
-/
import Derived.Test.YtkcbgbpgiihdeaaGreatDoorShort
import Derived.Test.YtkcbgbpgiihdeaaGreatDoorRound2
namespace Go.Proofs.YtkcbgbpgiihdeaaGreatDoor
open Go.RowKit
open Go.Lib hiding intOf

theorem printS_size (cs : List Int) (zs : List ByteArray) (h : printE cs zs = 0) : (printS cs zs).size ≤ 1000000 := by
  have h1 := round_trip h
  by_cases h2 : 400 < (printS cs zs).size ∨ 12 < zs.length
  · rw [(parse_long h2).1] at h1
    cases h1.1
  · omega

set_option maxHeartbeats 1600000 in
theorem orderRoundTrip_walk (A : Option Addr) (n c : Nat) (cs : List Int) (B : Option Addr) (m d : Nat) (zs : List ByteArray) (w : World) (hw : Std w) (ha : Sl w w.heap.size A n (ints cs)) (_hc : n ≤ c) (hn : n ≤ 9223372036854775807) (hb : Sl w w.heap.size B m (strs zs)) (hd : m ≤ d) (hm : m ≤ 9223372036854775807) (hz : ∀ z ∈ zs, z.size ≤ 9223372036854775807) :
    Calls Tryz.prog 6 #[.slice A n c, .slice B m d] w fun e w' => e = .returned (.bool true) ∧ Below w.heap.size w w' := by
  have HW := Lib.hid hw; clear hw
  have HZ := Lib.hid hz; clear hz
  by_cases h20 : 20 < n
  · go_enter Tryz.func6, Tryz.ntmps6
    go_wp2_with (go_at_call 9; refine (example_holds _ HW.out).mono ?_; rintro e w1 ⟨rfl, hb1⟩)
    go_ret
    exact ⟨rfl, hb1⟩
  cases hsh : shortB zs
  · go_enter Tryz.func6, Tryz.ntmps6
    go_wp2_with (first | (go_at_call 8; refine (short_any _ _ _ zs _ hb hm HZ.out).mono ?_; rintro e w1 ⟨rfl, rfl⟩; rw [hsh]) | (go_at_call 9; refine (example_holds _ HW.out).mono ?_; rintro e w1 ⟨rfl, hb1⟩))
    go_ret
    exact ⟨rfl, hb1⟩
  obtain ⟨hzl, hz1⟩ := shortB_true hsh
  have hm20 : m ≤ 20 := by rw [← hb.slen]; exact hzl
  have HZ1 : Hid (∀ z ∈ zs, z.size ≤ 1000000) := fun z hz => by have := hz1 z hz; omega
  clear hzl hz1
  have HP := print_any A B n m c d cs zs w HW.out ha hb (by omega) (by omega) hd HZ1.out
  by_cases hE : printE cs zs = 0
  · obtain ⟨r1, r2⟩ := round_trip hE
    have hsz := printS_size cs zs hE
    have HR := fun W hW hb => parse_any (printS cs zs) B m d zs W hW hsz hb (by omega)
    simp only [r1, r2] at HR
    rw [hE] at HP
    generalize hSS : printS cs zs = S at *
    have HP' := Lib.hid HP
    have HR' := Lib.hid HR
    clear HP HR hE r1 r2 hSS
    go_enter Tryz.func6, Tryz.ntmps6
    go_wp2_with (go_at_call 8; refine (short_any _ _ _ zs _ hb hm HZ.out).mono ?_; rintro e w1 ⟨rfl, rfl⟩; rw [hsh])
    refine HP'.out.mono ?_
    rintro e w1 ⟨rfl, hb1⟩
    go_wp2_with fail
    refine (HR'.out w1 (HW.out.below hb1) (hb.on hb1)).mono ?_
    rintro e w2 ⟨A2, n2, c2, rfl, hs2, hb2⟩
    have hB : Below w.heap.size w w2 := hb1.trans (hb2.mono hb1.size)
    have hn2 : n2 ≤ 1000000 := by rw [← hs2.ilen, ha.ilen]; omega
    have ha2 := ha.on hB
    clear hb1 hb2
    go_wp2_with fail
    have HS := same_b A2 A n2 n c2 c cs cs w2 hs2 ha2 hn2 (by omega)
    rw [decide_eq_true rfl] at HS
    refine HS.mono ?_
    clear HS
    rintro e w3 ⟨rfl, hb3⟩
    have hB3 : Below w.heap.size w w3 := hB.trans (hb3.mono hB.size)
    clear hB hb3 ha2 hs2
    go_wp2_with fail
    refine (example_holds _ (HW.out.below hB3)).mono ?_
    rintro e w4 ⟨rfl, hb4⟩
    go_wp2_with fail
    go_ret
    exact ⟨rfl, hB3.trans (hb4.mono hB3.size)⟩
  · have hE' : (printE cs zs != 0) = true := by simp [hE]
    have hS : printS cs zs = ⟨#[]⟩ := by rw [printS, if_neg hE]
    rw [hS] at HP
    generalize printE cs zs = E at *
    have HP' := Lib.hid HP
    have HE := Lib.hid hE
    clear HP hE hS
    go_enter Tryz.func6, Tryz.ntmps6
    go_wp2_with (go_at_call 8; refine (short_any _ _ _ zs _ hb hm HZ.out).mono ?_; rintro e w1 ⟨rfl, rfl⟩; rw [hsh])
    refine HP'.out.mono ?_
    rintro e w1 ⟨rfl, hb1⟩
    go_wp2_with fail
    refine (example_holds _ (HW.out.below hb1)).mono ?_
    rintro e w4 ⟨rfl, hb4⟩
    go_wp2_with fail
    go_ret
    exact ⟨rfl, hb1.trans (hb4.mono hb1.size)⟩

set_option maxHeartbeats 3200000 in
theorem orderTexts_walk (s : ByteArray) (B : Option Addr) (m d : Nat) (zs : List ByteArray) (w : World) (hw : Std w) (hs : s.size ≤ 9223372036854775807) (hb : Sl w w.heap.size B m (strs zs)) (hd : m ≤ d) (hm : m ≤ 9223372036854775807) (hz : ∀ z ∈ zs, z.size ≤ 9223372036854775807) :
    Calls Tryz.prog 7 #[.string s, .slice B m d] w fun e w' => e = .returned (.bool true) ∧ Below w.heap.size w w' := by
  have HW := Lib.hid hw; clear hw
  have HZ := Lib.hid hz; clear hz
  by_cases h5 : 500 < s.size
  · go_enter Tryz.func7, Tryz.ntmps7
    go_wp2_with (go_at_call 9; refine (example_holds _ HW.out).mono ?_; rintro e w1 ⟨rfl, hb1⟩)
    go_ret
    exact ⟨rfl, hb1⟩
  cases hsh : shortB zs
  · go_enter Tryz.func7, Tryz.ntmps7
    go_wp2_with (first | (go_at_call 8; refine (short_any _ _ _ zs _ hb hm HZ.out).mono ?_; rintro e w1 ⟨rfl, rfl⟩; rw [hsh]) | (go_at_call 9; refine (example_holds _ HW.out).mono ?_; rintro e w1 ⟨rfl, hb1⟩))
    go_ret
    exact ⟨rfl, hb1⟩
  obtain ⟨hzl, hz1⟩ := shortB_true hsh
  have hm20 : m ≤ 20 := by rw [← hb.slen]; exact hzl
  have HZ1 : Hid (∀ z ∈ zs, z.size ≤ 1000000) := fun z hz => by have := hz1 z hz; omega
  clear hzl hz1
  have hmk := fun W => run_make_row' (P := Tryz.prog) 25 3 (.int .i64 0) 8 Tryz.underlying25 int_info rfl .i64 .i64 m (by omega) (by omega) W
  have hrow : Sl (w.alloc (.cells (madeCells #[Value.int .i64 0] m) 3)) (w.heap.size + 1) (some ⟨w.heap.size, 0, none⟩) m (ints (List.replicate m 0)) := by
    have := Sl.of_row (S := List.replicate m 0) ((World.rowIs_made w (.int .i64 0) m 3).congr fun j _ => rowI_zero m j) (by simp)
    simpa using this
  have HM := Lib.hid hb.slen
  have HP := print_any (some ⟨w.heap.size, 0, none⟩) B m m m d (List.replicate m 0) zs _ (HW.out.alloc (.cells (madeCells #[Value.int .i64 0] m) 3)) (by simpa using hrow) (by simpa using (hb.alloc (Nat.le_refl _) _).more (Nat.le_succ _)) (by omega) (by omega) hd HZ1.out
  by_cases hE : printE (List.replicate m 0) zs = 0
  · rw [hE] at HP
    generalize printS (List.replicate m 0) zs = S0 at HP
    have HP' := Lib.hid HP
    have HQ := fun W hW hb => parse_any s B m d zs W hW (by omega) hb (by omega)
    by_cases hE2 : parseE s zs = 0
    · obtain ⟨b1, b2⟩ := parse_back (by rw [HM.out]; exact hE) hE2
      have hLl : (parseL s zs).length ≤ 20 := parseL_len s zs (by rw [HM.out]; exact hm20)
      have HQ2 := fun A n c W hW ha hb hn => print_any A B n m c d (parseL s zs) zs W hW ha hb hn (by omega) hd HZ1.out
      simp only [hE2] at HQ
      simp only [b1, b2] at HQ2
      generalize parseL s zs = L at *
      have HQ' := Lib.hid HQ
      have HQ2' := Lib.hid HQ2
      have hss : (s.toList == s.toList) = true := by simp
      clear HP HQ HQ2 hE hE2 b1 b2
      go_enter Tryz.func7, Tryz.ntmps7
      go_wp2_with (go_at_call 8; refine (short_any _ _ _ zs _ hb hm HZ.out).mono ?_; rintro e w1 ⟨rfl, rfl⟩; rw [hsh])
      refine HP'.out.mono ?_
      rintro e w1 ⟨rfl, hb1⟩
      have hB1 : Below w.heap.size w w1 := ((Below.refl _ _).alloc (Nat.le_refl _) _).trans (hb1.mono (by simp))
      have hb1' := hb.on hB1
      clear hb1 hrow hmk
      go_wp2_with fail
      refine (HQ'.out w1 (HW.out.below hB1) hb1').mono ?_
      rintro e w2 ⟨A2, n2, c2, rfl, hs2, hb2⟩
      have hB2 : Below w.heap.size w w2 := hB1.trans (hb2.mono hB1.size)
      have hb2' := hb1'.on hb2
      have hn2 : n2 ≤ 1000000 := by rw [← hs2.ilen]; omega
      clear hB1 hb1' hb2
      go_wp2_with fail
      refine (HQ2'.out A2 n2 c2 w2 (HW.out.below hB2) hs2 hb2' hn2).mono ?_
      rintro e w3 ⟨rfl, hb3⟩
      have hB3 : Below w.heap.size w w3 := hB2.trans (hb3.mono hB2.size)
      clear hB2 hb2' hb3 hs2
      go_wp2_with fail
      refine (example_holds _ (HW.out.below hB3)).mono ?_
      rintro e w4 ⟨rfl, hb4⟩
      go_wp2_with fail
      go_ret
      exact ⟨rfl, hB3.trans (hb4.mono hB3.size)⟩
    · have hL := parse_fail hE2
      have hE2' : (parseE s zs != 0) = true := by simp [hE2]
      simp only [hL] at HQ
      generalize parseE s zs = E at *
      have HQ' := Lib.hid HQ
      have HE := Lib.hid hE2
      clear HP HQ hE hE2 hL
      go_enter Tryz.func7, Tryz.ntmps7
      go_wp2_with (go_at_call 8; refine (short_any _ _ _ zs _ hb hm HZ.out).mono ?_; rintro e w1 ⟨rfl, rfl⟩; rw [hsh])
      refine HP'.out.mono ?_
      rintro e w1 ⟨rfl, hb1⟩
      have hB1 : Below w.heap.size w w1 := ((Below.refl _ _).alloc (Nat.le_refl _) _).trans (hb1.mono (by simp))
      have hb1' := hb.on hB1
      clear hb1 hrow hmk
      go_wp2_with fail
      refine (HQ'.out w1 (HW.out.below hB1) hb1').mono ?_
      rintro e w2 ⟨A2, n2, c2, rfl, hs2, hb2⟩
      obtain rfl : 0 = n2 := hs2.ilen
      have hB2 : Below w.heap.size w w2 := hB1.trans (hb2.mono hB1.size)
      clear hB1 hb1' hb2 hs2
      go_wp2_with fail
      refine (example_holds _ (HW.out.below hB2)).mono ?_
      rintro e w4 ⟨rfl, hb4⟩
      go_wp2_with fail
      go_ret
      exact ⟨rfl, hB2.trans (hb4.mono hB2.size)⟩
  · have hE' : (printE (List.replicate m 0) zs != 0) = true := by simp [hE]
    generalize printE (List.replicate m 0) zs = E at *
    generalize printS (List.replicate m 0) zs = S0 at *
    have HP' := Lib.hid HP
    have HE := Lib.hid hE
    clear HP hE
    go_enter Tryz.func7, Tryz.ntmps7
    go_wp2_with (go_at_call 8; refine (short_any _ _ _ zs _ hb hm HZ.out).mono ?_; rintro e w1 ⟨rfl, rfl⟩; rw [hsh])
    refine HP'.out.mono ?_
    rintro e w1 ⟨rfl, hb1⟩
    have hB1 : Below w.heap.size w w1 := ((Below.refl _ _).alloc (Nat.le_refl _) _).trans (hb1.mono (by simp))
    clear hb1 hrow hmk
    go_wp2_with fail
    refine (example_holds _ (HW.out.below hB1)).mono ?_
    rintro e w4 ⟨rfl, hb4⟩
    go_wp2_with fail
    go_ret
    exact ⟨rfl, hB1.trans (hb4.mono hB1.size)⟩
end Go.Proofs.YtkcbgbpgiihdeaaGreatDoor
