/- Parts of the proof. -/
import Derived.Lib.AtoiErrMem
import Derived.Lib.SmallJoins
import Derived.Test.YtiibocdmlfedkaaGreatDoorH13
import Derived.Test.YtiibocdmlfedkaaGreatDoorH28
import Derived.Test.YtiibocdmlfedkaaGreatDoorH29
namespace Go.Proofs.YtiibocdmlfedkaaGreatDoor
section
open Go.RowKit
open Go.Lib hiding intOf
theorem words_of (s : ByteArray) : splitB ⟨#[32]⟩ 0 (countB s ⟨#[32]⟩) s = (split s.data.toList [32]).map bytes := by
 have h : (splitB ⟨#[32]⟩ 0 (countB s ⟨#[32]⟩) s).map (·.data.toList) = split s.data.toList [32] := by
  rw [splitB_data]
  rfl
 rw [← h, List.map_map]
 conv => lhs; rw [← List.map_id (splitB ⟨#[32]⟩ 0 (countB s ⟨#[32]⟩) s)]
 exact List.map_congr_left fun x _ => (bytes_of x).symm
theorem splitW (s : ByteArray) (us : List (List UInt8)) (w : World) (hw : Std w) (hs : s.size ≤ 1000000) (h : split s.data.toList [32] = us) :
  Calls Tryz.prog 31 #[.string s, .string ⟨#[32]⟩] w fun e w' => e = .returned (.slice (some ⟨w.heap.size, 0, none⟩) us.length us.length) ∧ Blk w' w.heap.size 9 (us.map fun u => Value.string (bytes u)).toArray ∧ Below w.heap.size w w' := by
 obtain ⟨m, hm⟩ := hw.max
 have hwd := words_of s
 rw [h] at hwd
 have hcl : countB s ⟨#[32]⟩ + 1 = us.length := by
  have := splitB_all ⟨#[32]⟩ (by decide) 0 (countB s ⟨#[32]⟩) s rfl
  rw [hwd, List.length_map] at this
  exact this.symm
 refine (Tryz.strings_Split s ⟨#[32]⟩ m w (by omega) hm (by decide)).mono ?_
 rintro e w' ⟨rfl, rfl⟩
 rw [hwd, hcl]
 refine ⟨rfl, ?_, (Below.refl _ _).alloc (Nat.le_refl _) _⟩
 have := Blk.new w 9 ((us.map bytes).map Value.string).toArray
 rw [List.map_map] at this
 rw [List.map_map]
 exact this
theorem flat_mem (u : List UInt8) : ∀ r : List (List UInt8), u ∈ r → u.length ≤ (r.flatMap fun v => 32 :: v).length
 | [], h => by cases h
 | y :: r, h => by
  rw [List.flatMap_cons, List.length_append, List.length_cons]
  rcases List.mem_cons.1 h with rfl | h2
  ·omega
  ·have := flat_mem u r h2
   omega
theorem split_sum (s : ByteArray) : ∀ u ∈ split s.data.toList [32], u.length ≤ s.data.toList.length := by
 intro u hu
 cases hx : split s.data.toList [32] with
 | nil => exact absurd hx (split_ne_nil 32 _)
 | cons x r =>
  have hc := split_cat hx
  rw [hx] at hu
  rw [hc, List.length_append]
  rcases List.mem_cons.1 hu with rfl | h2
  ·omega
  ·have := flat_mem u r h2
   omega
theorem pint_any (u : List UInt8) (w : World) (hw : Std w) (hu : u.length ≤ 1000000) (hn : numOk u = true) :
  Calls Tryz.prog 33 #[.string (bytes u), .int .i64 10, .int .i64 64] w fun e w' => Below w.heap.size w w' ∧ ((inI64 (numV u) = true ∧ e = .returned (.tuple #[.int .i64 (numV u), .nilIface])) ∨ (inI64 (numV u) = false ∧ ∃ z t p, e = .returned (.tuple #[.int .i64 z, .iface t p]))) := by
 have hp := num_parse hn
 have hsz : (bytes u).size = u.length := rfl
 cases hi : inI64 (numV u)
 ·rw [hi, if_neg (by decide)] at hp
  obtain ⟨t, p, he⟩ := hw.err
  refine (Tryz.strconv_ParseInt_10_at64_range (bytes u) (by omega) (by rw [bytes_data]; exact hp) (.iface t p) w he (.inr ⟨t, p, rfl⟩)).mono ?_
  rintro e w' ⟨N, rfl, _, _, hb⟩
  exact ⟨hb, .inr ⟨rfl, _, _, _, rfl⟩⟩
 ·rw [hi, if_pos rfl] at hp
  refine (Tryz.strconv_ParseInt_10_at64_ok (bytes u) (by omega) (numV u) (by rw [bytes_data]; exact hp) w).mono ?_
  rintro e w' ⟨rfl, rfl | ⟨t, rfl⟩⟩
  ·exact ⟨Below.refl _ _, .inl ⟨rfl, rfl⟩⟩
  ·exact ⟨bytesWorld_below w _ t, .inl ⟨rfl, rfl⟩⟩
def parV : Except Int PScan → Value
 | .ok x => .tuple #[.agg #[.int .i64 x.ticket, .int .i64 x.op, .int .i64 x.worker, .int .i64 x.at_], .int .i64 0]
 | .error E => .tuple #[.agg #[.int .i64 0, .int .i64 0, .int .i64 0, .int .i64 0], .int .i64 E]
theorem parse_short {l : List UInt8} (h : (split l [32]).length ≠ 5) : parseS l = .error 2 := by
 unfold parseS
 split
 ·rename_i hs
  rw [hs] at h
  exact absurd rfl h
 ·rfl
theorem parse_word {l v a b c d : List UInt8} (h : split l [32] = [v, a, b, c, d]) (hv : v ≠ wordS) : parseS l = .error 2 := by
 unfold parseS
 rw [h]
 simp only [if_pos hv]
theorem parse_form {l v a b c d : List UInt8} (h : split l [32] = [v, a, b, c, d]) (hn : [a, b, c, d].all numOk = false) : parseS l = .error 2 := by
 unfold parseS
 rw [h]
 simp only [hn]
 split <;> simp
theorem parse_range {l v a b c d : List UInt8} (h : split l [32] = [v, a, b, c, d]) (hv : v = wordS) (hn : [a, b, c, d].all numOk = true) (hr : ([a, b, c, d].all fun u => inI64 (numV u)) = false) : parseS l = .error 3 := by
 unfold parseS
 rw [h]
 simp only [hn, hr, hv]
 simp
theorem parse_good {l v a b c d : List UInt8} (h : split l [32] = [v, a, b, c, d]) (hv : v = wordS) (hn : [a, b, c, d].all numOk = true) (hr : ([a, b, c, d].all fun u => inI64 (numV u)) = true) : parseS l = .ok ⟨numV a, numV b, numV c, numV d⟩ := by
 unfold parseS
 rw [h]
 simp only [hn, hr, hv]
 simp
theorem all_upto {α : Type} {f : α → Bool} {l : List α} (h : ∀ j x, j < l.length → l[j]? = some x → f x = true) : l.all f = true := all_yes fun j x hx => h j x (List.getElem?_eq_some_iff.1 hx).1 hx
end
section
open Go.RowKit
open Go.Lib hiding intOf
theorem put4 {w : World} {g : Nat} {t : TypeId} {a0 a1 a2 a3 : Value} (h : Blk w g t #[a0, a1, a2, a3]) (b0 b1 b2 b3 : Value) :
  Blk ((((w.setCell ⟨g, 0, none⟩ b0).setCell ⟨g, 1, none⟩ b1).setCell ⟨g, 2, none⟩ b2).setCell ⟨g, 3, none⟩ b3) g t #[b0, b1, b2, b3] := (((h.set_ 0 b0).set_ 1 b1).set_ 2 b2).set_ 3 b3
theorem put4_below {w0 w : World} {B g : Nat} (h : Below B w0 w) (hg : B ≤ g) (b0 b1 b2 b3 : Value) :
  Below B w0 ((((w.setCell ⟨g, 0, none⟩ b0).setCell ⟨g, 1, none⟩ b1).setCell ⟨g, 2, none⟩ b2).setCell ⟨g, 3, none⟩ b3) :=
 (((h.setCell (p := ⟨g, 0, none⟩) hg _).setCell (p := ⟨g, 1, none⟩) hg _).setCell (p := ⟨g, 2, none⟩) hg _).setCell (p := ⟨g, 3, none⟩) hg _
set_option maxRecDepth 100000 in
set_option maxHeartbeats 12800000 in
theorem scanParse_any (s : ByteArray) (w : World) (hw : Std w) (hs : s.size ≤ 1000000) :
  Calls Tryz.prog 19 #[.string s] w fun e w' => e = .returned (parV (parseS s.data.toList)) ∧ Below w.heap.size w w' := by
 obtain ⟨us, hus⟩ : ∃ us, split s.data.toList [32] = us := ⟨_, rfl⟩
 have HB0 : Hid (Below w.heap.size w (w.alloc (.cells #[.int .i64 0, .int .i64 0, .int .i64 0, .int .i64 0] 55))) := (Below.refl _ _).alloc (Nat.le_refl _) _
 have HX := Lib.hid (Blk.new w 55 #[.int .i64 0, .int .i64 0, .int .i64 0, .int .i64 0])
 have HSP := Lib.hid (splitW s us _ (hw.below HB0.out) hs hus)
 have HU := Lib.hid hus
 have HLE : Hid (∀ u ∈ us, u.length ≤ 1000000) := fun u hu => by
  rw [← hus] at hu
  have h1 := split_sum s u hu
  have h2 : s.data.toList.length = s.size := rfl
  omega
 have HW := Lib.hid hw
 clear hw hus
 by_cases h5 : us.length = 5
 ·match us, h5 with
  | [v, a, b, c, d], _ =>
   have hsp : Calls Tryz.prog 31 #[.string s, .string ⟨#[32]⟩] (w.alloc (.cells #[.int .i64 0, .int .i64 0, .int .i64 0, .int .i64 0] 55)) fun e w' => e = .returned (.slice (some ⟨(w.alloc (.cells #[.int .i64 0, .int .i64 0, .int .i64 0, .int .i64 0] 55)).heap.size, 0, none⟩) 5 5) ∧ Blk w' (w.alloc (.cells #[.int .i64 0, .int .i64 0, .int .i64 0, .int .i64 0] 55)).heap.size 9 #[.string (bytes v), .string (bytes a), .string (bytes b), .string (bytes c), .string (bytes d)] ∧ Below (w.alloc (.cells #[.int .i64 0, .int .i64 0, .int .i64 0, .int .i64 0] 55)).heap.size (w.alloc (.cells #[.int .i64 0, .int .i64 0, .int .i64 0, .int .i64 0] 55)) w' := HSP.out
   rw [show (w.alloc (.cells #[.int .i64 0, .int .i64 0, .int .i64 0, .int .i64 0] 55)).heap.size = w.heap.size + 1 by simp] at hsp
   clear HSP
   have HSP := Lib.hid hsp
   clear hsp
   have hsz0 : (w.alloc (.cells #[.int .i64 0, .int .i64 0, .int .i64 0, .int .i64 0] 55)).heap.size = w.heap.size + 1 := by simp
   have HSZ := Lib.hid hsz0
   clear hsz0
   obtain ⟨Vb, hVb⟩ : ∃ V, bytes v = V := ⟨_, rfl⟩
   rw [hVb] at HSP
   have HV : Hid (Vb.data.toList = v) := by rw [← hVb, Hid, bytes_data]
   clear hVb
   by_cases hv : v = wordS
   ·have hv1 : (Vb.toList == [115, 99, 97, 110]) = true := by rw [toList_data, HV.out, hv]; rfl
    have HVW := Lib.hid hv
    clear hv
    go_enter Tryz.func19, Tryz.ntmps19
    go_wp2_with fail
    refine HSP.out.mono ?_
    rintro e w1 ⟨rfl, hb, hb1⟩
    have hb2 : Below (w.alloc (.cells #[.int .i64 0, .int .i64 0, .int .i64 0, .int .i64 0] 55)).heap.size (w.alloc (.cells #[.int .i64 0, .int .i64 0, .int .i64 0, .int .i64 0] 55)) w1 := by rw [HSZ.out]; exact hb1
    have HB1 := Lib.hid (HB0.out.trans (hb2.mono HB0.out.size))
    have HX1 := Lib.hid (HX.out.below hb2)
    obtain ⟨x0, x1, x2, x3⟩ := four_box HX1.out
    have f0 := HX1.out.frozen 0
    have f1 := HX1.out.frozen 1
    have f2 := HX1.out.frozen 2
    have f3 := HX1.out.frozen 3
    have HG := Lib.hid hb
    have hg0 := hb.c (i := 0) rfl
    have HGC : Hid (∀ (j : Nat) (x : List UInt8), [a, b, c, d][j]? = some x → w1.cell? ⟨w.heap.size + 1, 1 + j, none⟩ = some (.string (bytes x))) := by
     intro j x hj
     match j, hj with
     | 0, hj => obtain rfl : a = x := (by simpa using hj); exact hb.c rfl
     | 1, hj => obtain rfl : b = x := (by simpa using hj); exact hb.c rfl
     | 2, hj => obtain rfl : c = x := (by simpa using hj); exact hb.c rfl
     | 3, hj => obtain rfl : d = x := (by simpa using hj); exact hb.c rfl
     | j + 4, hj => simp at hj
    have HLL : Hid (∀ (j : Nat) (x : List UInt8), [a, b, c, d][j]? = some x → x.length ≤ 1000000) := fun j x hj => HLE.out x (List.mem_cons_of_mem _ (List.mem_of_getElem? hj))
    clear hb hb1 hb2
    go_wp2_with fail
    clear hg0 hv1
    go_loop [6, 26] (fun _ i => ∃ k : Nat, k ≤ 4 ∧ i = .int .i64 (k : Int) ∧ Hid (∀ (j : Nat) (x : List UInt8), j < k → [a, b, c, d][j]? = some x → numOk x = true)) (fun _ i => 4 - (intOf i).toNat)
    case atStart => exact ⟨0, Nat.zero_le _, rfl, fun j x hj => by omega⟩
    case round =>
     obtain ⟨k, hk, rfl, hall⟩ := hrel
     by_cases hlt : k < 4
     ·obtain ⟨x, hx⟩ : ∃ x, [a, b, c, d][k]? = some x := ⟨_, List.getElem?_eq_getElem (by simpa using hlt)⟩
      have hc := HGC.out k x hx
      have HXX := Lib.hid hx
      have HN := isNumber_any (bytes x) w1 (by have := HLL.out k x hx; have h2 : (bytes x).size = x.length := rfl; omega)
      rw [bytes_data] at HN
      obtain ⟨R, hR⟩ : ∃ R, numOk x = R := ⟨_, rfl⟩
      rw [hR] at HN
      have HN := Lib.hid HN
      have HR := Lib.hid hR
      have i1 : (0 : Int) ≤ (k : Int) := by omega
      have i2 : (k : Int) < 4 := by omega
      clear hx hR
      cases R
      ·have HE : Hid (parV (parseS s.data.toList) = .tuple #[.agg #[.int .i64 0, .int .i64 0, .int .i64 0, .int .i64 0], .int .i64 2]) := by rw [Hid, parse_form HU.out (all_no HXX.out HR.out)]; rfl
       go_wp2_with (go_at_call 32; refine HN.out.mono ?_; rintro e2 w2 ⟨rfl, rfl⟩)
       go_wp2_with fail
       have HP := Lib.hid (put4 HX1.out (.int .i64 0) (.int .i64 0) (.int .i64 0) (.int .i64 0))
       have HBP := Lib.hid (put4_below (g := w.heap.size) HB1.out (Nat.le_refl _) (.int .i64 0) (.int .i64 0) (.int .i64 0) (.int .i64 0))
       clear x0 x1 x2 x3 f0 f1 f2 f3
       obtain ⟨W5, hW5⟩ : ∃ v, v = (((w2.setCell ⟨w.heap.size, 0, none⟩ (.int .i64 0)).setCell ⟨w.heap.size, 1, none⟩ (.int .i64 0)).setCell ⟨w.heap.size, 2, none⟩ (.int .i64 0)).setCell ⟨w.heap.size, 3, none⟩ (.int .i64 0) := ⟨_, rfl⟩
       rw [← hW5] at HP HBP ⊢
       clear hW5
       obtain ⟨k0, k1, k2, k3⟩ := four_box HP.out
       refine bodyPost_ret (v := .tuple #[.agg #[.int .i64 0, .int .i64 0, .int .i64 0, .int .i64 0], .int .i64 2]) (by simp [results, Tryz.results19, go_sem, k0, k1, k2, k3]) rfl ?_
       exact ⟨by rw [HE.out], HBP.out⟩
      ·have HE : Hid (∀ (j : Nat) (x : List UInt8), j < k + 1 → [a, b, c, d][j]? = some x → numOk x = true) := fun j y hj hy => by
        by_cases e : j = k
        ·subst e
         rw [HXX.out] at hy
         rw [← Option.some.inj hy]
         exact HR.out
        ·exact hall.out j y (by omega) hy
       go_wp2_with (go_at_call 32; refine HN.out.mono ?_; rintro e2 w2 ⟨rfl, rfl⟩)
       go_round
       case rel => exact ⟨k + 1, by omega, by go_num, HE⟩
       case measure => simp [intOf]; omega
     ·obtain rfl : k = 4 := by omega
      have HNA : Hid ([a, b, c, d].all numOk = true) := all_upto fun j x hj hx => hall.out j x (by simpa using hj) hx
      have HN0 : Hid (Blk (w1.alloc (.cells #[.int .i64 0, .int .i64 0, .int .i64 0, .int .i64 0] 84)) w1.heap.size 84 (outC 4 (([a, b, c, d].map numV).take 0))) := Blk.new _ _ _
      have HBN : Hid (Below w1.heap.size w1 (w1.alloc (.cells #[.int .i64 0, .int .i64 0, .int .i64 0, .int .i64 0] 84))) := (Below.refl _ _).alloc (Nat.le_refl _) _
      clear hall hk hlt x0 x1 x2 x3 f0 f1 f2 f3
      go_wp2_with fail
      go_loopw [8, 9, 10, 35] (fun _ _ _ i wr => ∃ k : Nat, k ≤ 4 ∧ i = .int .i64 (k : Int) ∧ Hid (Blk wr w1.heap.size 84 (outC 4 (([a, b, c, d].map numV).take k))) ∧ Hid (∀ (j : Nat) (x : List UInt8), j < k → [a, b, c, d][j]? = some x → inI64 (numV x) = true) ∧ Hid (Below w1.heap.size w1 wr)) (fun _ _ _ i _ => 4 - (intOf i).toNat)
      case atStart => exact ⟨0, Nat.zero_le _, rfl, HN0, (fun j x hj => by omega), HBN⟩
      case round =>
       obtain ⟨k, hk, rfl, HK, hall, HB⟩ := hrel
       have HX2 := Lib.hid (HX1.out.below HB.out)
       have HB2 := Lib.hid (HB1.out.trans (HB.out.mono HB1.out.size))
       by_cases hlt : k < 4
       ·obtain ⟨x, hx⟩ : ∃ x, [a, b, c, d][k]? = some x := ⟨_, List.getElem?_eq_getElem (by simpa using hlt)⟩
        have hc := (HB.out.cell (p := ⟨w.heap.size + 1, 1 + k, none⟩) HG.out.lt).trans (HGC.out k x hx)
        rw [Nat.add_comm 1 k] at hc
        have HXX := Lib.hid hx
        have HP := Lib.hid (pint_any x wr ((HW.out.below HB1.out).below HB.out) (HLL.out k x hx) (List.all_eq_true.1 HNA.out x (List.mem_of_getElem? hx)))
        have hol : (([a, b, c, d].map numV).take k).length = k := by simp; omega
        have HOL := Lib.hid hol
        have HTK : Hid (([a, b, c, d].map numV).take (k + 1) = ([a, b, c, d].map numV).take k ++ [numV x]) := by rw [Hid, List.take_add_one, List.getElem?_map, hx]; rfl
        have i1 : (0 : Int) ≤ (k : Int) := by omega
        have i2 : (k : Int) < 4 := by omega
        have i3 : (k : Int) + 1 < 5 := by omega
        have i4 : (0 : Int) ≤ (k : Int) + 1 := by omega
        have i5 : IntKind.i64.wrap ((k : Int) + 1) = (k : Int) + 1 := IntWalk.i64_in _ (by omega)
        have i6 : ((k : Int) + 1).toNat = k + 1 := by omega
        clear hx hol
        go_wp2_with fail
        refine HP.out.mono ?_
        rintro e5 w5 ⟨hb5, ⟨hin, rfl⟩ | ⟨hout, z5, t5, p5, rfl⟩⟩
        ·have HIN := Lib.hid hin
         have HK5 := Lib.hid (HK.out.below hb5)
         have hz0 := HK5.out.c (outC_zero HOL.out hlt)
         have hzf := HK5.out.frozen k
         have HBV := Lib.hid (HB.out.trans (hb5.mono HB.out.size))
         clear hin hb5 hc
         have HE : Hid (∀ (j : Nat) (x : List UInt8), j < k + 1 → [a, b, c, d][j]? = some x → inI64 (numV x) = true) := fun j y hj hy => by
          by_cases e : j = k
          ·subst e
           rw [HXX.out] at hy
           rw [← Option.some.inj hy]
           exact HIN.out
          ·exact hall.out j y (by omega) hy
         obtain ⟨z, hz⟩ : ∃ z, numV x = z := ⟨_, rfl⟩
         rw [hz] at HTK ⊢
         clear hz
         go_wp2_with fail
         go_roundw
         case rel =>
          refine ⟨k + 1, by omega, by go_num, ?_, HE, HBV.out.setCell (p := ⟨w1.heap.size, k, none⟩) (Nat.le_refl _) _⟩
          rw [HTK.out, ← outC_set HOL.out hlt]
          exact HK5.out.set_ k _
         case measure => simp [intOf]; omega
        ·have HE : Hid (parV (parseS s.data.toList) = .tuple #[.agg #[.int .i64 0, .int .i64 0, .int .i64 0, .int .i64 0], .int .i64 3]) := by rw [Hid, parse_range HU.out HVW.out HNA.out (all_no HXX.out hout)]; rfl
         have HX5 := Lib.hid (HX2.out.below hb5)
         have HB5 := Lib.hid (HB2.out.trans (hb5.mono HB2.out.size))
         obtain ⟨x0, x1, x2, x3⟩ := four_box HX5.out
         have f0 := HX5.out.frozen 0
         have f1 := HX5.out.frozen 1
         have f2 := HX5.out.frozen 2
         have f3 := HX5.out.frozen 3
         clear hout hb5 hc
         go_wp2_with fail
         have HP := Lib.hid (put4 HX5.out (.int .i64 0) (.int .i64 0) (.int .i64 0) (.int .i64 0))
         have HBP := Lib.hid (put4_below (g := w.heap.size) HB5.out (Nat.le_refl _) (.int .i64 0) (.int .i64 0) (.int .i64 0) (.int .i64 0))
         clear x0 x1 x2 x3 f0 f1 f2 f3
         obtain ⟨W5, hW5⟩ : ∃ v, v = (((w5.setCell ⟨w.heap.size, 0, none⟩ (.int .i64 0)).setCell ⟨w.heap.size, 1, none⟩ (.int .i64 0)).setCell ⟨w.heap.size, 2, none⟩ (.int .i64 0)).setCell ⟨w.heap.size, 3, none⟩ (.int .i64 0) := ⟨_, rfl⟩
         rw [← hW5] at HP HBP ⊢
         clear hW5
         obtain ⟨k0, k1, k2, k3⟩ := four_box HP.out
         refine bodyPost_ret (v := .tuple #[.agg #[.int .i64 0, .int .i64 0, .int .i64 0, .int .i64 0], .int .i64 3]) (by simp [results, Tryz.results19, go_sem, k0, k1, k2, k3]) rfl ?_
         exact ⟨by rw [HE.out], HBP.out⟩
       ·obtain rfl : k = 4 := by omega
        have HRA : Hid (([a, b, c, d].all fun u => inI64 (numV u)) = true) := all_upto fun j x hj hx => hall.out j x (by simpa using hj) hx
        have HE : Hid (parV (parseS s.data.toList) = .tuple #[.agg #[.int .i64 (numV a), .int .i64 (numV b), .int .i64 (numV c), .int .i64 (numV d)], .int .i64 0]) := by rw [Hid, parse_good HU.out HVW.out HNA.out HRA.out]; rfl
        have HK4 : Hid (Blk wr w1.heap.size 84 #[.int .i64 (numV a), .int .i64 (numV b), .int .i64 (numV c), .int .i64 (numV d)]) := HK.out
        obtain ⟨z0, hz0⟩ : ∃ z, numV a = z := ⟨_, rfl⟩
        obtain ⟨z1, hz1⟩ : ∃ z, numV b = z := ⟨_, rfl⟩
        obtain ⟨z2, hz2⟩ : ∃ z, numV c = z := ⟨_, rfl⟩
        obtain ⟨z3, hz3⟩ : ∃ z, numV d = z := ⟨_, rfl⟩
        rw [hz0, hz1, hz2, hz3] at HE HK4
        clear hz0 hz1 hz2 hz3 hall
        obtain ⟨n0, n1, n2, n3⟩ := four_box HK4.out
        obtain ⟨x0, x1, x2, x3⟩ := four_box HX2.out
        have f0 := HX2.out.frozen 0
        have f1 := HX2.out.frozen 1
        have f2 := HX2.out.frozen 2
        have f3 := HX2.out.frozen 3
        go_wp2_with fail
        have HP := Lib.hid (put4 HX2.out (.int .i64 z0) (.int .i64 z1) (.int .i64 z2) (.int .i64 z3))
        have HBP := Lib.hid (put4_below (g := w.heap.size) HB2.out (Nat.le_refl _) (.int .i64 z0) (.int .i64 z1) (.int .i64 z2) (.int .i64 z3))
        clear x0 x1 x2 x3 f0 f1 f2 f3
        obtain ⟨W5, hW5⟩ : ∃ v, v = (((wr.setCell ⟨w.heap.size, 0, none⟩ (.int .i64 z0)).setCell ⟨w.heap.size, 1, none⟩ (.int .i64 z1)).setCell ⟨w.heap.size, 2, none⟩ (.int .i64 z2)).setCell ⟨w.heap.size, 3, none⟩ (.int .i64 z3) := ⟨_, rfl⟩
        rw [← hW5] at HP HBP ⊢
        clear hW5
        obtain ⟨k0, k1, k2, k3⟩ := four_box HP.out
        refine bodyPost_ret (v := .tuple #[.agg #[.int .i64 z0, .int .i64 z1, .int .i64 z2, .int .i64 z3], .int .i64 0]) (by simp [results, Tryz.results19, go_sem, k0, k1, k2, k3]) rfl ?_
        exact ⟨by rw [HE.out], HBP.out⟩
   ·have hv1 : (Vb.toList == [115, 99, 97, 110]) = false := by
     rw [toList_data, HV.out]
     exact (beq_eq_false_iff_ne).2 hv
    have HE : Hid (parV (parseS s.data.toList) = .tuple #[.agg #[.int .i64 0, .int .i64 0, .int .i64 0, .int .i64 0], .int .i64 2]) := by rw [Hid, parse_word HU.out hv]; rfl
    clear hv
    go_enter Tryz.func19, Tryz.ntmps19
    go_wp2_with fail
    refine HSP.out.mono ?_
    rintro e w1 ⟨rfl, hb, hb1⟩
    have hb2 : Below (w.alloc (.cells #[.int .i64 0, .int .i64 0, .int .i64 0, .int .i64 0] 55)).heap.size (w.alloc (.cells #[.int .i64 0, .int .i64 0, .int .i64 0, .int .i64 0] 55)) w1 := by rw [HSZ.out]; exact hb1
    have HB1 := Lib.hid (HB0.out.trans (hb2.mono HB0.out.size))
    have HX1 := Lib.hid (HX.out.below hb2)
    obtain ⟨x0, x1, x2, x3⟩ := four_box HX1.out
    have f0 := HX1.out.frozen 0
    have f1 := HX1.out.frozen 1
    have f2 := HX1.out.frozen 2
    have f3 := HX1.out.frozen 3
    have hg0 := hb.c (i := 0) rfl
    clear hb hb1 hb2
    go_wp2_with fail
    have HP := Lib.hid (put4 HX1.out (.int .i64 0) (.int .i64 0) (.int .i64 0) (.int .i64 0))
    have HBP := Lib.hid (put4_below (g := w.heap.size) HB1.out (Nat.le_refl _) (.int .i64 0) (.int .i64 0) (.int .i64 0) (.int .i64 0))
    clear x0 x1 x2 x3 f0 f1 f2 f3
    obtain ⟨W5, hW5⟩ : ∃ v, v = (((w1.setCell ⟨w.heap.size, 0, none⟩ (.int .i64 0)).setCell ⟨w.heap.size, 1, none⟩ (.int .i64 0)).setCell ⟨w.heap.size, 2, none⟩ (.int .i64 0)).setCell ⟨w.heap.size, 3, none⟩ (.int .i64 0) := ⟨_, rfl⟩
    rw [← hW5] at HP HBP ⊢
    clear hW5
    obtain ⟨k0, k1, k2, k3⟩ := four_box HP.out
    refine bodyPost_ret (v := .tuple #[.agg #[.int .i64 0, .int .i64 0, .int .i64 0, .int .i64 0], .int .i64 2]) (by simp [results, Tryz.results19, go_sem, k0, k1, k2, k3]) rfl ?_
    exact ⟨by rw [HE.out], HBP.out⟩
 ·have HE : Hid (parV (parseS s.data.toList) = .tuple #[.agg #[.int .i64 0, .int .i64 0, .int .i64 0, .int .i64 0], .int .i64 2]) := by rw [Hid, parse_short (by rw [HU.out]; exact h5)]; rfl
  obtain ⟨n, hn⟩ : ∃ n, us.length = n := ⟨_, rfl⟩
  rw [hn] at HSP h5
  have h5' : ((n : Int) != 5) = true := by simp; omega
  clear hn
  go_enter Tryz.func19, Tryz.ntmps19
  go_wp2_with fail
  refine HSP.out.mono ?_
  rintro e w1 ⟨rfl, hb, hb1⟩
  have HB1 := Lib.hid (HB0.out.trans (hb1.mono HB0.out.size))
  obtain ⟨x0, x1, x2, x3⟩ := four_box (HX.out.below hb1)
  have HX1 := Lib.hid (HX.out.below hb1)
  have f0 := HX1.out.frozen 0
  have f1 := HX1.out.frozen 1
  have f2 := HX1.out.frozen 2
  have f3 := HX1.out.frozen 3
  clear hb hb1
  go_wp2_with fail
  have HP := Lib.hid (put4 HX1.out (.int .i64 0) (.int .i64 0) (.int .i64 0) (.int .i64 0))
  have HBP := Lib.hid (put4_below (g := w.heap.size) HB1.out (Nat.le_refl _) (.int .i64 0) (.int .i64 0) (.int .i64 0) (.int .i64 0))
  clear x0 x1 x2 x3 f0 f1 f2 f3
  obtain ⟨W5, hW5⟩ : ∃ v, v = (((w1.setCell ⟨w.heap.size, 0, none⟩ (.int .i64 0)).setCell ⟨w.heap.size, 1, none⟩ (.int .i64 0)).setCell ⟨w.heap.size, 2, none⟩ (.int .i64 0)).setCell ⟨w.heap.size, 3, none⟩ (.int .i64 0) := ⟨_, rfl⟩
  rw [← hW5] at HP HBP ⊢
  clear hW5
  obtain ⟨k0, k1, k2, k3⟩ := four_box HP.out
  refine bodyPost_ret (v := .tuple #[.agg #[.int .i64 0, .int .i64 0, .int .i64 0, .int .i64 0], .int .i64 2]) (by simp [results, Tryz.results19, go_sem, k0, k1, k2, k3]) rfl ?_
  exact ⟨by rw [HE.out], HBP.out⟩
end
end Go.Proofs.YtiibocdmlfedkaaGreatDoor
