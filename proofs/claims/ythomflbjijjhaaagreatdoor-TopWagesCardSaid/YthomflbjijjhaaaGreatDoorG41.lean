/-
  Several texts in one: garmenttop.written, read: the journal of scans, and the scans of a journal. Conditions: what the variables hold (StdT); at most 30 scans of numbers that fit.
-/
import Derived.Test.YthomflbjijjhaaaGreatDoorG17
import Derived.Test.YthomflbjijjhaaaGreatDoorG33
import Derived.Test.YthomflbjijjhaaaGreatDoorG40

/- garmenttop.written, read: the journal of scans, and the scans of a journal. Conditions: what the variables hold (StdT); at most 30 scans of numbers that fit. -/
namespace Go.Proofs.YthomflbjijjhaaaGreatDoor
open Go.RowKit
open Go.Lib hiding intOf

theorem scan_info' : (Tryz.prog.info? 49).map (fun i => (i.zero, i.size, i.bytes)) = some (some (.agg #[.int .i64 0, .int .i64 0, .int .i64 0, .int .i64 0]), 4, 32) := by kernel_rfl
/-- The texts of scans, as strings. -/
def texts (xs : List PScan) : List ByteArray := xs.map fun x => bytes (textS x)
theorem texts_lists (xs : List PScan) : lists (texts xs) = xs.map textS := by
  simp [lists, texts, Function.comp_def, bytes_data]
theorem texts_snoc {xs : List PScan} {k : Nat} {x : PScan} (h : xs[k]? = some x) : texts (xs.take (k + 1)) = texts (xs.take k) ++ [bytes (textS x)] := by
  rw [List.take_add_one, h]
  simp [texts]
/-- The journal comes back. -/
def RetW (xs : List PScan) (w : World) (en : Ending) (w' : World) : Prop := ∃ y : ByteArray, y.data.toList = jour xs ∧ en = .returned (.tuple #[.string y, .bool true]) ∧ Below w.heap.size w w'
set_option maxRecDepth 100000 in
set_option maxHeartbeats 6400000 in
theorem written_any (X : Option Addr) (n c : Nat) (xs : List PScan) (w : World) (hw : StdT w) (hx : Recs 4 scanG w X n xs) (hn : n ≤ 30) (hin : ∀ x ∈ xs, scanIn x) :
    Calls Tryz.prog 6 #[.slice X n c] w (RetW xs w) := by
  have HX := Lib.hid hx
  have HXL := Lib.hid hx.len
  have HW := Lib.hid hw
  have HIN := Lib.hid hin
  clear hx hw hin
  go_enter Tryz.func6, Tryz.ntmps6
  go_wp2_with fail
  go_loopw [4, 5] (fun v i wr => ∃ k : Nat, k ≤ n ∧ i = .int .i64 (k : Int) ∧ Hid (wr.ownsRow w.heap.size 9 1 v k (strs (texts (xs.take k)))) ∧ Hid (Below w.heap.size w wr)) (fun _ i _ => n - (intOf i).toNat)
  case atStart => exact ⟨0, Nat.zero_le _, rfl, World.ownsRow_nil _ _ _ _, Below.refl _ _⟩
  case round =>
    obtain ⟨k, hk, rfl, HO, HB⟩ := hrel
    obtain ⟨A1, C1, rfl⟩ := own_form HO.out
    by_cases hlt : k < n
    · obtain ⟨b, off, x, rfl, hbw, hx, c0, c1, c2, c3⟩ := scan_at HX.out hlt
      replace c0 := (HB.out.cell (p := ⟨b, off + k * 4, none⟩) hbw).trans c0
      replace c1 := (HB.out.cell (p := ⟨b, off + k * 4 + 1, none⟩) hbw).trans c1
      replace c2 := (HB.out.cell (p := ⟨b, off + k * 4 + 2, none⟩) hbw).trans c2
      replace c3 := (HB.out.cell (p := ⟨b, off + k * 4 + 3, none⟩) hbw).trans c3
      have HT := Lib.hid (scanText_any x wr (HW.out.below HB.out).st (HIN.out x (List.mem_of_getElem? hx)))
      have HSN := Lib.hid (texts_snoc hx)
      obtain ⟨E, hE⟩ : ∃ E, bytes (textS x) = E := ⟨_, rfl⟩
      rw [hE] at HT HSN
      obtain ⟨zs, hzs⟩ : ∃ zs, texts (xs.take k) = zs := ⟨_, rfl⟩
      rw [hzs] at HSN HO
      have i1 : (0 : Int) ≤ (k : Int) := by omega
      have i2 : (k : Int) < (n : Int) := by omega
      have b3' : k + 1 ≤ maxLen := by unfold maxLen; omega
      have b4' : (k + 1) * 16 ≤ 140737488355328 := by omega
      clear hx hE hzs
      go_wp2_with fail
      refine HT.out.mono ?_
      rintro e w5 ⟨rfl, hb5⟩
      have HB5 := Lib.hid hb5
      have HOA := Lib.hid (own_below HO.out (HB5.out.alloc HB5.out.size (.cells #[.string E] 9)))
      have HBA := Lib.hid ((HB.out.trans (HB5.out.mono HB.out.size)).alloc (Nat.le_trans HB.out.size HB5.out.size) (.cells #[.string E] 9))
      have HNS := Lib.hid (new_str w5 E 9)
      clear hb5
      go_wp2_with (at_builtin; refine wpl_own (P := Tryz.prog) (by rfl) _ _ 22 (by rfl) w.heap.size 9 (.string ⟨#[]⟩) 1 16 Tryz.underlying22 str_info rfl (by decide) (.slice A1 k C1) k (strs zs) (by rfl) HOA.out ⟨w5.heap.size, 0, none⟩ 1 1 [.string E] (by rfl) (by rfl) HNS.out (str_one E) b3' b4' HBA.out.size ?_; intro v7 w7 ho7 hg7 hn7; obtain ⟨A7, c7, rfl⟩ := own_form ho7)
      go_roundw
      case rel =>
        refine ⟨k + 1, by omega, by go_num, ?_, below_own HBA.out hg7 HBA.out.size (fun g e => (HO.out.lt g e).1)⟩
        rw [HSN.out]
        refine Lib.hid ?_
        simpa [strs] using ho7
      case measure => simp [intOf]; omega
    · obtain rfl : n = k := by omega
      have hall : xs.take n = xs := by rw [← HXL.out, List.take_length]
      rw [hall] at HO
      obtain ⟨h1, h2⟩ := own_strs HO.out
      have hin := HIN.out
      have hxl := HXL.out
      have HM := Lib.hid (jmake_any A1 n C1 (texts xs) wr (HW.out.below HB.out) h1 hn (by rw [texts_lists]; exact jour_ok hin) (by rw [texts_lists]; exact Nat.le_trans (jour_len hin (by omega)) (by omega)))
      rw [texts_lists] at HM
      unfold RetText at HM
      clear hall h1 h2 hin hxl
      go_wp2_with fail
      refine HM.out.mono ?_
      rintro e w5 ⟨y, hy, rfl, hb5⟩
      have HY := Lib.hid hy
      have HB5 := Lib.hid (HB.out.trans (hb5.mono HB.out.size))
      clear hy hb5
      go_wp2_with fail
      refine bodyPost_ret (results_tmp2 rfl _ _ _) rfl ?_
      exact ⟨y, HY.out, rfl, HB5.out⟩

/-- Scans come back. -/
def RetR' (ys : List PScan) (w : World) (en : Ending) (w' : World) : Prop := ∃ (A : Option Addr) (c : Nat), en = .returned (.tuple #[.slice A ys.length c, .bool true]) ∧ Recs 4 scanG w' A ys.length ys ∧ ys.length ≤ c ∧ Below w.heap.size w w'
theorem own_scans' {w : World} {base n : Nat} {e : TypeId} {A : Option Addr} {c : Nat} {xs : List PScan} (h : w.ownsRow base e 4 (.slice A n c) n (xs.flatMap sC)) (hl : xs.length = n) : Recs 4 scanG w A n xs ∧ n ≤ c := by
  obtain ⟨A', c', e1, h1, h2⟩ := own_scans h hl
  injection e1 with e1 _ e2
  subst e1
  subst e2
  exact ⟨h1, h2⟩
set_option maxRecDepth 100000 in
set_option maxHeartbeats 6400000 in
theorem read_any' (j : ByteArray) (ys : List PScan) (w : World) (hw : StdT w) (hj : j.size ≤ 20000) (hin : ∀ x ∈ ys, scanIn x) (hn : ys.length ≤ 30) (hr : readJ j.size 0 j.data.toList = ys.map textS) :
    Calls Tryz.prog 7 #[.string j] w (RetR' ys w) := by
  have HJ := Lib.hid (jRead_any j w hw hj)
  rw [hr] at HJ
  have HW := Lib.hid hw
  have HIN := Lib.hid hin
  clear hw hr hj hin
  go_enter Tryz.func7, Tryz.ntmps7
  go_wp2_with fail
  refine HJ.out.mono ?_
  rintro e w1 ⟨A, m, c, es, p, z, rfl, h1, h2, h3, h4⟩
  have HS := Lib.hid h1
  have HB1 := Lib.hid h4
  have hml : m = ys.length := by
    have e1 := congrArg List.length h3
    have e2 := h1.slen
    simp only [lists, List.length_map] at e1
    omega
  have HEL : Hid (∀ (k : Nat) (x : ByteArray) (y : PScan), es[k]? = some x → ys[k]? = some y → x.data.toList = textS y) := fun k x y hx hy => by
    have e1 := congrArg (fun l => l[k]?) h3
    simp only [lists, List.getElem?_map, hx, hy, Option.map_some] at e1
    exact Option.some.inj e1
  have HML := Lib.hid hml
  rw [← hml] at hn
  clear h1 h2 h3 h4 hml
  go_wp2_with fail
  go_loopw [7, 8, 9, 10] (fun v i _ _ wr => ∃ k : Nat, k ≤ m ∧ i = .int .i64 (k : Int) ∧ Hid (wr.ownsRow w1.heap.size 49 4 v k ((ys.take k).flatMap sC)) ∧ Hid (Below w1.heap.size w1 wr)) (fun _ i _ _ _ => m - (intOf i).toNat)
  case atStart => exact ⟨0, Nat.zero_le _, rfl, World.ownsRow_nil _ _ _ _, Below.refl _ _⟩
  case round =>
    obtain ⟨k, hk, rfl, HO, HB⟩ := hrel
    obtain ⟨A1, C1, rfl⟩ := own_form HO.out
    by_cases hlt : k < m
    · obtain ⟨b, off, s, rfl, hbw, hs, c0⟩ := HS.out.str_ hlt
      replace c0 := (HB.out.cell (p := ⟨b, off + k, none⟩) hbw).trans c0
      obtain ⟨y, hy⟩ : ∃ y, ys[k]? = some y := ⟨_, List.getElem?_eq_getElem (by have := HML.out; omega)⟩
      have hsy := HEL.out k s y hs hy
      have hyin := HIN.out y (List.mem_of_getElem? hy)
      have hsz : s.size ≤ 1000000 := by
        have h1 := text_few hyin
        rw [← hsy] at h1
        exact Nat.le_trans h1 (by omega)
      have HP := scanParse_any s wr ((HW.out.below HB1.out).below HB.out).st hsz
      rw [hsy, parse_text hyin] at HP
      unfold parV at HP
      have HP := Lib.hid HP
      have HTK : Hid ((ys.take (k + 1)).flatMap sC = (ys.take k).flatMap sC ++ sC y) := by
        rw [Hid, List.take_add_one, hy, List.flatMap_append]
        simp
      have i1 : (0 : Int) ≤ (k : Int) := by omega
      have i2 : (k : Int) < (m : Int) := by omega
      have b3' : k + 1 ≤ maxLen := by unfold maxLen; omega
      have b4' : (k + 1) * 32 ≤ 140737488355328 := by omega
      clear hs hy hsy hyin hsz
      go_wp2_with fail
      refine HP.out.mono ?_
      rintro e w5 ⟨rfl, hb5⟩
      have HB5 := Lib.hid hb5
      have HY := Lib.hid (Blk.new w5 49 #[.int .i64 y.ticket, .int .i64 y.op, .int .i64 y.worker, .int .i64 y.at_])
      have HBX : Hid (Below wr.heap.size wr ((w5.alloc (.cells #[.int .i64 y.ticket, .int .i64 y.op, .int .i64 y.worker, .int .i64 y.at_] 49)).alloc (.cells #[.int .i64 y.ticket, .int .i64 y.op, .int .i64 y.worker, .int .i64 y.at_] 49))) := (HB5.out.alloc HB5.out.size _).alloc (by have := HB5.out.size; simp; omega) _
      have HOA := Lib.hid (own_below HO.out HBX.out)
      have HBA := Lib.hid (HB.out.trans (HBX.out.mono HB.out.size))
      have hns := new_scan (w5.alloc (.cells #[.int .i64 y.ticket, .int .i64 y.op, .int .i64 y.worker, .int .i64 y.at_] 49)) y 49
      rw [show (w5.alloc (.cells #[.int .i64 y.ticket, .int .i64 y.op, .int .i64 y.worker, .int .i64 y.at_] 49)).heap.size = w5.heap.size + 1 by simp] at hns
      have HNS := Lib.hid hns
      have x0 := HY.out.c (i := 0) rfl
      have x1 := HY.out.c (i := 1) rfl
      have x2 := HY.out.c (i := 2) rfl
      have x3 := HY.out.c (i := 3) rfl
      clear hb5 hns
      go_wp2_with (at_builtin; refine wpl_own (P := Tryz.prog) (by rfl) _ _ 32 (by rfl) w1.heap.size 49 (.agg #[.int .i64 0, .int .i64 0, .int .i64 0, .int .i64 0]) 4 32 Tryz.underlying32 scan_info' rfl (by decide) (.slice A1 k C1) k ((ys.take k).flatMap sC) (by rfl) HOA.out ⟨w5.heap.size + 1, 0, none⟩ 1 1 (sC y) (by rfl) (by rfl) HNS.out (sC_one y) b3' b4' HBA.out.size ?_; intro v7 w7 ho7 hg7 hn7; obtain ⟨A7, c7, rfl⟩ := own_form ho7)
      go_roundw
      case rel =>
        refine ⟨k + 1, by omega, by go_num, ?_, below_own HBA.out hg7 HBA.out.size (fun g e => (HO.out.lt g e).1)⟩
        rw [HTK.out]
        exact ho7
      case measure => simp [intOf]; omega
    · obtain rfl : m = k := by omega
      have hall : ys.take m = ys := by rw [HML.out, List.take_length]
      rw [hall] at HO
      have HR := Lib.hid (own_scans' HO.out HML.out.symm)
      have HBB := Lib.hid (HB1.out.trans (HB.out.mono HB1.out.size))
      clear hall
      go_wp2_with fail
      refine bodyPost_ret (results_tmp2 rfl _ _ _) rfl ?_
      exact ⟨A1, C1, by rw [← HML.out]; rfl, by rw [← HML.out]; exact HR.out.1, by rw [← HML.out]; exact HR.out.2, HBB.out⟩
end Go.Proofs.YthomflbjijjhaaaGreatDoor
