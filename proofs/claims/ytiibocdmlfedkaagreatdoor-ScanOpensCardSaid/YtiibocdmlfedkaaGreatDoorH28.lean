/- Parts of the proof. -/
import Derived.Lib.ItoaMem
import Derived.Test.YtiibocdmlfedkaaGreatDoorH19
import Derived.Test.YtiibocdmlfedkaaGreatDoorH25
import Derived.Test.YtiibocdmlfedkaaGreatDoorH27
namespace Go.Proofs.YtiibocdmlfedkaaGreatDoor
section
open Go.RowKit
open Go.Lib hiding intOf
def bytes (l : List UInt8) : ByteArray := ⟨l.toArray⟩
theorem bytes_data (l : List UInt8) : (bytes l).data.toList = l := by simp [bytes]
theorem bytes_of (s : ByteArray) : bytes s.data.toList = s := by simp [bytes]
theorem inI64_iff {z : Int} : inI64 z = true ↔ -9223372036854775808 ≤ z ∧ z ≤ 9223372036854775807 := by
 unfold inI64
 simp
theorem below_grow {w : World} (k : Nat) (os : Array Obj) : Below w.heap.size w (Sort.grow (w.drewN k) os) := by
 refine ⟨rfl, rfl, rfl, ?_, fun j hj => ?_⟩
 ·show w.heap.size ≤ (w.heap ++ os).size
  simp
 ·show (w.heap ++ os)[j]? = w.heap[j]?
  rw [Array.getElem?_append_left (by omega)]
theorem itoa_any (z : Int) (w : World) (hw : Std w) (hz : inI64 z = true) : Calls Tryz.prog 34 #[.int .i64 z] w fun e w' => e = .returned (.string (bytes (itoa z))) ∧ Below w.heap.size w w' := by
 obtain ⟨h1, h2⟩ := inI64_iff.1 hz
 refine (Tryz.strconv_Itoa z h1 h2 w hw.pow).mono ?_
 rintro e w' ⟨rfl, k, os, rfl⟩
 exact ⟨rfl, below_grow k os⟩
theorem digits_few (n : Nat) (h : n ≤ 9223372036854775808) : (decDigits n).length ≤ 19 := by
 rw [decDigits_length]
 exact nDigits_le (by omega) (by omega)
theorem itoa_few (z : Int) (h : inI64 z = true) : (itoa z).length ≤ 20 := by
 obtain ⟨h1, h2⟩ := inI64_iff.1 h
 unfold itoa
 split
 ·have := digits_few z.natAbs (by omega)
  simp
  omega
 ·have := digits_few z.toNat (by omega)
  omega
theorem join_five (w : World) (g : Nat) (t : TypeId) (a0 a1 a2 a3 a4 : ByteArray) (hg : Blk w g t #[.string a0, .string a1, .string a2, .string a3, .string a4]) (hl : (join [a0.data.toList, a1.data.toList, a2.data.toList, a3.data.toList, a4.data.toList] [32]).length ≤ 1000000) :
  Calls Tryz.prog 35 #[.slice (some ⟨g, 0, none⟩) 5 5, .string ⟨#[32]⟩] w fun e w' => e = .returned (.string (bytes (join [a0.data.toList, a1.data.toList, a2.data.toList, a3.data.toList, a4.data.toList] [32]))) ∧ Below w.heap.size w w' := by
 have hJ := Tryz.strings_Join g 0 5 [a0, a1, a2, a3, a4] ⟨#[32]⟩ w (fun j x hj => by
  rw [Nat.zero_add]
  refine hg.c ?_
  match j, hj with
  | 0, hj => simp at hj; subst hj; rfl
  | 1, hj => simp at hj; subst hj; rfl
  | 2, hj => simp at hj; subst hj; rfl
  | 3, hj => simp at hj; subst hj; rfl
  | 4, hj => simp at hj; subst hj; rfl
  | j + 5, hj => simp at hj) hg.lt (by simp) (by simp) (by
  rw [show (⟨#[32]⟩ : ByteArray).data.toList = [32] from rfl]
  exact Nat.le_trans hl (by omega))
 rw [show (⟨#[32]⟩ : ByteArray).data.toList = [32] from rfl] at hJ
 exact hJ
theorem join_text (x : PScan) : join [wordS, itoa x.ticket, itoa x.op, itoa x.worker, itoa x.at_] [32] = textS x := by
 unfold textS
 rw [join_cons]
 simp [joinTail]
theorem text_few {x : PScan} (h : scanIn x) : (textS x).length ≤ 88 := by
 obtain ⟨h1, h2, h3, h4⟩ := h
 have g1 := itoa_few _ h1
 have g2 := itoa_few _ h2
 have g3 := itoa_few _ h3
 have g4 := itoa_few _ h4
 simp [textS, wordS]
 omega
theorem four_box {w : World} {g : Nat} {t : TypeId} {a0 a1 a2 a3 : Value} (h : Blk w g t #[a0, a1, a2, a3]) : w.cell? ⟨g, 0, none⟩ = some a0 ∧ w.cell? ⟨g, 1, none⟩ = some a1 ∧ w.cell? ⟨g, 2, none⟩ = some a2 ∧ w.cell? ⟨g, 3, none⟩ = some a3 := ⟨h.c rfl, h.c rfl, h.c rfl, h.c rfl⟩
set_option maxRecDepth 100000 in
set_option maxHeartbeats 12800000 in
theorem scanText_any (x : PScan) (w : World) (hw : Std w) (hx : scanIn x) :
  Calls Tryz.prog 20 #[.agg #[.int .i64 x.ticket, .int .i64 x.op, .int .i64 x.worker, .int .i64 x.at_]] w fun e w' => e = .returned (.string (bytes (textS x))) ∧ Below w.heap.size w w' := by
 have HF := Lib.hid (text_few hx)
 have HJT := Lib.hid (join_text x)
 obtain ⟨h1, h2, h3, h4⟩ := hx
 obtain ⟨a, ha⟩ : ∃ a, x.ticket = a := ⟨_, rfl⟩
 obtain ⟨b, hb⟩ : ∃ b, x.op = b := ⟨_, rfl⟩
 obtain ⟨c, hc⟩ : ∃ c, x.worker = c := ⟨_, rfl⟩
 obtain ⟨d, hd⟩ : ∃ d, x.at_ = d := ⟨_, rfl⟩
 rw [ha] at h1
 rw [hb] at h2
 rw [hc] at h3
 rw [hd] at h4
 rw [ha, hb, hc, hd] at HJT ⊢
 clear ha hb hc hd
 have HB0 : Hid (Below w.heap.size w (w.alloc (.cells #[.int .i64 a, .int .i64 b, .int .i64 c, .int .i64 d] 55))) := (Below.refl _ _).alloc (Nat.le_refl _) _
 have HX := Lib.hid (Blk.new w 55 #[.int .i64 a, .int .i64 b, .int .i64 c, .int .i64 d])
 obtain ⟨W0, hW⟩ : ∃ W0, W0 = w.alloc (.cells #[.int .i64 a, .int .i64 b, .int .i64 c, .int .i64 d] 55) := ⟨_, rfl⟩
 rw [← hW] at HB0 HX
 have HI := fun z (hz : inI64 z = true) => Lib.hid (fun W (hb : Below W0.heap.size W0 W) => itoa_any z W ((hw.below HB0.out).below hb) hz)
 have HI1 := HI a h1
 have HI2 := HI b h2
 have HI3 := HI c h3
 have HI4 := HI d h4
 have HK := fun W => Lib.hid (fun (hb : Below W0.heap.size W0 W) => four_box (HX.out.below hb))
 clear HI h1 h2 h3 h4 hw
 go_enter Tryz.func20, Tryz.ntmps20
 go_wp2_with fail
 rw [← hW]
 clear hW
 have hq := Below.refl W0.heap.size W0
 obtain ⟨x0, x1, x2, x3⟩ := (HK W0).out hq
 go_region_held3 (fun w' => w'.cell? ⟨w.heap.size, 0, none⟩ = some (.int .i64 a) ∧ w'.cell? ⟨w.heap.size, 1, none⟩ = some (.int .i64 b) ∧ w'.cell? ⟨w.heap.size, 2, none⟩ = some (.int .i64 c) ∧ w'.cell? ⟨w.heap.size, 3, none⟩ = some (.int .i64 d))
  ((refine (HK _).out ?_; repeat (first | (with_reducible exact Below.refl _ _) | (with_reducible exact hq) | (with_reducible refine Below.drew ?_) | (with_reducible refine Below.alo ?_ _))))
  ((go_at_call 34; go_must ((first
    | (with_reducible refine (HI1.out _ (by repeat (first | (with_reducible exact Below.refl _ _) | (with_reducible exact hq) | (with_reducible refine Below.drew ?_)))).mono ?_)
    | (with_reducible refine (HI2.out _ (by repeat (first | (with_reducible exact Below.refl _ _) | (with_reducible exact hq) | (with_reducible refine Below.drew ?_)))).mono ?_)
    | (with_reducible refine (HI3.out _ (by repeat (first | (with_reducible exact Below.refl _ _) | (with_reducible exact hq) | (with_reducible refine Below.drew ?_)))).mono ?_)
    | (with_reducible refine (HI4.out _ (by repeat (first | (with_reducible exact Below.refl _ _) | (with_reducible exact hq) | (with_reducible refine Below.drew ?_)))).mono ?_)); rintro e u1 ⟨rfl, hv⟩; replace hq := below_then hq hv; clear hv)))
 have HG := Lib.hid (Blk.new u1 9 #[.string ⟨#[115, 99, 97, 110]⟩, .string (bytes (itoa a)), .string (bytes (itoa b)), .string (bytes (itoa c)), .string (bytes (itoa d))])
 have HBU := Lib.hid (HB0.out.trans ((Below.alo hq (.cells #[.string ⟨#[115, 99, 97, 110]⟩, .string (bytes (itoa a)), .string (bytes (itoa b)), .string (bytes (itoa c)), .string (bytes (itoa d))] 9)).mono HB0.out.size))
 have HJ := join_five _ u1.heap.size 9 ⟨#[115, 99, 97, 110]⟩ (bytes (itoa a)) (bytes (itoa b)) (bytes (itoa c)) (bytes (itoa d)) HG.out
 simp only [bytes_data] at HJ
 rw [show join [[115, 99, 97, 110], itoa a, itoa b, itoa c, itoa d] [32] = textS x from HJT.out] at HJ
 have HJ := Lib.hid (HJ (Nat.le_trans HF.out (by omega)))
 clear x0 x1 x2 x3 hq
 go_wp2_with fail
 refine HJ.out.mono ?_
 rintro e w5 ⟨rfl, hb5⟩
 have HB5 := Lib.hid (HBU.out.trans (hb5.mono HBU.out.size))
 clear hb5
 go_wp2_with fail
 go_ret
 exact ⟨rfl, HB5.out⟩
end
section
open Go.RowKit
open Go.Lib hiding intOf
theorem byte_48 {b : UInt8} (h : ((b.toNat : Int) == 48) = true) : b = 48 := by
 have : b.toNat = 48 := by have := beq_iff_eq.1 h; omega
 exact UInt8.toNat_inj.1 this
theorem trim_len (l p : List UInt8) : (trimPrefix l p).length ≤ l.length := by
 unfold trimPrefix
 split
 ·simp
 ·exact Nat.le_refl _
theorem nume {s D : ByteArray} (hD : D.data.toList = trimPrefix s.data.toList [45]) (h : D.size = 0) : numOk s.data.toList = false := by
 unfold numOk
 rw [← hD, digOk_empty (by exact h)]
 rfl
theorem numz {s D : ByteArray} (hD : D.data.toList = trimPrefix s.data.toList [45]) (h : D.data.toList[0]? = some 48) (hs : s.data.toList ≠ [48]) : numOk s.data.toList = false := by
 unfold numOk
 rw [← hD]
 by_cases h1 : 1 < D.data.toList.length
 ·rw [digOk_zero h1 h]
  rfl
 ·have h2 : D.data.toList = [48] := by
   cases hl : D.data.toList with
   | nil => rw [hl] at h; cases h
   | cons b t =>
    rw [hl] at h h1
    obtain rfl : b = 48 := by simpa using h
    cases t with
    | nil => rfl
    | cons c t => simp at h1
  have h3 : hasPrefix s.data.toList [45] = true := by
   cases hp : hasPrefix s.data.toList [45]
   ·rw [trimPrefix, hp] at hD
    exact absurd (hD.symm.trans h2) hs
   ·rfl
  rw [h2, h3]
  rfl
theorem numb {s D : ByteArray} {k : Nat} {x : UInt8} (hD : D.data.toList = trimPrefix s.data.toList [45]) (h : D.data.toList[k]? = some x) (hx : isDig x = false) : numOk s.data.toList = false := by
 unfold numOk
 rw [← hD, digOk_bad h hx]
 rfl
theorem numg {s D : ByteArray} (hD : D.data.toList = trimPrefix s.data.toList [45]) (h0 : 0 < D.size) (h : D.data.toList[0]? ≠ some 48 ∨ s.data.toList = [48]) (ha : D.data.toList.all isDig = true) : numOk s.data.toList = true := by
 rcases h with h | h
 ·have hok : digOk D.data.toList = true := digOk_iff.2 ⟨h0, .inr h, ha⟩
  have hv : 0 < valD D.data.toList := by
   refine Nat.pos_of_ne_zero fun e => ?_
   have hd := dec_valD hok
   rw [e] at hd
   rw [← hd] at h
   exact h (by rw [dec_small (by omega)]; rfl)
  unfold numOk
  rw [← hD, hok]
  simp only [Bool.true_and, Bool.not_eq_true', Bool.and_eq_false_iff, decide_eq_false_iff_not]
  right
  omega
 ·rw [h]
  rfl
set_option maxRecDepth 100000 in
set_option maxHeartbeats 6400000 in
theorem isNumber_any (s : ByteArray) (w : World) (hs : s.size ≤ 9223372036854775806) : Calls Tryz.prog 32 #[.string s] w fun e w' => e = .returned (.bool (numOk s.data.toList)) ∧ w' = w := by
 have HT := Lib.hid (Tryz.strings_TrimPrefix s ⟨#[45]⟩ w)
 rw [show (⟨#[45]⟩ : ByteArray).data.toList = [45] from rfl] at HT
 obtain ⟨D, hD⟩ : ∃ D : ByteArray, (⟨(trimPrefix s.data.toList [45]).toArray⟩ : ByteArray) = D := ⟨_, rfl⟩
 rw [hD] at HT
 have HD : Hid (D.data.toList = trimPrefix s.data.toList [45]) := by rw [Hid, ← hD]
 obtain ⟨R, hR⟩ : ∃ R, numOk s.data.toList = R := ⟨_, rfl⟩
 rw [hR]
 have HR := Lib.hid hR
 clear hD hR
 have HL : Hid (D.size = D.data.toList.length) := rfl
 have hDs : D.size ≤ 9223372036854775806 := by
  have h1 := trim_len s.data.toList [45]
  rw [← HD.out] at h1
  have h2 : s.data.toList.length = s.size := rfl
  have h3 := HL.out
  omega
 by_cases h0 : D.size = 0
 ·have HE : Hid (R = false) := by rw [Hid, ← HR.out]; exact nume HD.out h0
  obtain ⟨d1, d2⟩ := empty_of D h0
  go_enter Tryz.func32, Tryz.ntmps32
  go_wp2_with (go_at_call 45; refine HT.out.mono ?_; rintro e w1 ⟨rfl, rfl⟩)
  go_ret
  exact ⟨by rw [HE.out]; rfl, rfl⟩
 have hpos : 0 < D.size := by omega
 obtain ⟨d1, d2⟩ := full_of D hpos
 obtain ⟨b, hb⟩ : ∃ b, D[0] = b := ⟨_, rfl⟩
 have hb0 := at_data D 0 hpos
 rw [hb] at hb0
 have HB0 := Lib.hid hb0
 clear hb0
 have hcase : (((b.toNat : Int) == 48) = true ∧ (s.toList == [48]) = false) ∨ ((b.toNat : Int) == 48) = false ∨ (((b.toNat : Int) == 48) = true ∧ (s.toList == [48]) = true) := by
  cases ((b.toNat : Int) == 48)
  ·exact .inr (.inl rfl)
  ·cases (s.toList == [48])
   ·exact .inl ⟨rfl, rfl⟩
   ·exact .inr (.inr ⟨rfl, rfl⟩)
 rcases hcase with ⟨z1, z2⟩ | hcase
 ·have HE : Hid (R = false) := by
   rw [Hid, ← HR.out]
   refine numz HD.out (by rw [HB0.out, byte_48 z1]) fun e => ?_
   rw [toList_data, e] at z2
   exact absurd z2 (by decide)
  go_enter Tryz.func32, Tryz.ntmps32
  go_wp2_with (go_at_call 45; refine HT.out.mono ?_; rintro e w1 ⟨rfl, rfl⟩)
  go_ret
  exact ⟨by rw [HE.out]; rfl, rfl⟩
 have HG : Hid (D.data.toList[0]? ≠ some 48 ∨ s.data.toList = [48]) := by
  rcases hcase with z1 | ⟨_, z2⟩
  ·left
   rw [HB0.out]
   rintro e
   obtain rfl : b = 48 := by simpa using e
   exact absurd z1 (by decide)
  ·right
   rw [← toList_data]
   simpa using z2
 have HLOOP : Hid True := trivial
 rcases hcase with z1 | ⟨z1, z2⟩
 all_goals
  go_enter Tryz.func32, Tryz.ntmps32
  go_wp2_with (go_at_call 45; refine HT.out.mono ?_; rintro e w1 ⟨rfl, rfl⟩)
  clear z1 hb
  go_loop [4, 20] (fun _ i => ∃ k : Nat, k ≤ D.size ∧ i = .int .i64 (k : Int) ∧ Hid ((D.data.toList.take k).all isDig = true)) (fun _ i => D.size - (intOf i).toNat)
  case atStart => exact ⟨0, Nat.zero_le _, rfl, by rw [List.take_zero]; rfl⟩
  case round =>
   obtain ⟨k, hk, rfl, hd⟩ := hrel
   by_cases hlt : k < D.size
   ·obtain ⟨x, hx⟩ : ∃ x, D[k] = x := ⟨_, rfl⟩
    have hxk := at_data D k hlt
    rw [hx] at hxk
    cases hdx : isDig x
    ·have HE : Hid (R = false) := by rw [Hid, ← HR.out]; exact numb HD.out hxk hdx
     have hdx' := isDig_false.1 hdx
     clear hxk hdx
     rcases hdx' with h | h
     ·go_wp2
      go_ret
      exact ⟨by rw [HE.out]; rfl, rfl⟩
     ·go_wp2
      go_ret
      exact ⟨by rw [HE.out]; rfl, rfl⟩
    ·obtain ⟨lo, hi⟩ := isDig_true.1 hdx
     have HDS := Lib.hid (digs_succ hd.out hxk hdx)
     have hlo' : ¬ (x.toNat : Int) < 48 := by omega
     have hhi' : ¬ (57 : Int) < (x.toNat : Int) := by omega
     clear hxk hdx
     go_wp2
     go_round
     case rel => exact ⟨k + 1, by omega, by go_num, HDS⟩
     case measure => simp [intOf]; omega
   ·obtain rfl : k = D.size := by omega
    have HE : Hid (R = true) := by
     rw [Hid, ← HR.out]
     refine numg HD.out hpos HG.out ?_
     have := hd.out
     rwa [HL.out, List.take_length] at this
    go_wp2
    go_ret
    exact ⟨by rw [HE.out]; rfl, rfl⟩
end
end Go.Proofs.YtiibocdmlfedkaaGreatDoor
