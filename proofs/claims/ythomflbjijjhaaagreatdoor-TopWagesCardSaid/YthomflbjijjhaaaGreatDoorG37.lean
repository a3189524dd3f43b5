/-
  Several texts in one: strconv.FormatUint at base 16, digest.Hex. Conditions: one cell of math/bits' table as the library lays it.
-/
import Derived.Test.YthomflbjijjhaaaGreatDoorG03
import Derived.Test.YthomflbjijjhaaaGreatDoorG27
import Derived.Test.YthomflbjijjhaaaGreatDoorG29

/- strconv.FormatUint at base 16, digest.Hex. Conditions: one cell of math/bits' table as the library lays it. -/
namespace Go.Proofs.YthomflbjijjhaaaGreatDoor
open Go.RowKit
open Go.Lib hiding intOf

def hexDigs : ByteArray := ⟨#[48, 49, 50, 51, 52, 53, 54, 55, 56, 57, 97, 98, 99, 100, 101, 102, 103, 104, 105, 106, 107, 108, 109, 110, 111, 112, 113, 114, 115, 116, 117, 118, 119, 120, 121, 122]⟩
def byC (c : UInt8) : Value := .int .u8 (c.toNat : Int)
def bufC (i : Nat) (ds : List UInt8) : Array Value := (List.replicate i (Value.int .u8 0) ++ ds.map byC).toArray

/-- The digits of u are still to come, ds are there. -/
structure HxR (R : List UInt8) (f u : Nat) (ds : List UInt8) : Prop where
  f1 : 1 ≤ f
  lt : u < 16 ^ f
  len : f + ds.length = 16
  eq : hexD f u ++ ds = R
theorem hexD_one {f u : Nat} (hf : 1 ≤ f) (hu : u < 16) : hexD f u = [hexC u] := by
  obtain ⟨k, rfl⟩ : ∃ k, f = k + 1 := ⟨f - 1, by omega⟩
  rw [hexD, if_pos hu]
theorem HxR.start {d : Nat} (hd : d < 18446744073709551616) : HxR (hexD 16 d) 16 d [] := ⟨by omega, by simpa using hd, rfl, List.append_nil _⟩
theorem HxR.next {R ds : List UInt8} {f u : Nat} (h : HxR R f u ds) (hu : 16 ≤ u) : HxR R (f - 1) (u / 16) (hexC (u % 16) :: ds) ∧ 2 ≤ f := by
  obtain ⟨h1, h2, h3, h4⟩ := h
  have hf : 2 ≤ f := by
    rcases Nat.lt_or_ge f 2 with q | q
    · obtain rfl : f = 1 := by omega
      simp at h2
      omega
    · exact q
  obtain ⟨k, rfl⟩ : ∃ k, f = k + 2 := ⟨f - 2, by omega⟩
  refine ⟨⟨by omega, ?_, by simp only [List.length_cons]; omega, ?_⟩, hf⟩
  · show u / 16 < 16 ^ (k + 1)
    rw [Nat.div_lt_iff_lt_mul (by omega)]
    rw [Nat.pow_succ] at h2
    exact h2
  · rw [hexD, if_neg (by omega)] at h4
    rw [← h4, List.append_assoc]
    rfl
theorem HxR.last {R ds : List UInt8} {f u : Nat} (h : HxR R f u ds) (hu : u < 16) : hexC u :: ds = R := by
  rw [← h.eq, hexD_one h.f1 hu]
  rfl
theorem buf_new : bufC 65 [] = Tryz.zeroCells198 := by kernel_rfl
theorem buf_set (i : Nat) (ds : List UInt8) (c : UInt8) : (bufC (i + 1) ds).setIfInBounds i (byC c) = bufC i (c :: ds) := by
  refine Array.toList_inj.1 ?_
  simp [bufC, List.replicate_succ', List.append_assoc]
theorem buf_at (i : Nat) (ds : List UInt8) : (bufC (i + 1) ds)[i]? = some (Value.int .u8 0) := by
  simp [bufC, List.replicate_succ', List.append_assoc]
theorem buf_get (k : Nat) (ds : List UInt8) (q : Nat) (h : q < ds.length) : (bufC k ds)[k + q]? = some (Value.int .u8 ((ds[q]).toNat : Int)) := by
  unfold bufC
  rw [List.getElem?_toArray, List.getElem?_append_right (by simp), List.length_replicate, Nat.add_sub_cancel_left, List.getElem?_map, List.getElem?_eq_getElem h]
  rfl
theorem hex_at : ∀ j, j < 16 → hexDigs.data[j]? = some (hexC j) := by decide
theorem hex_get (m : Nat) (h : m < 16) (h2 : m < hexDigs.size) : hexDigs[m] = hexC m := by
  have h3 := hex_at m h
  have h4 : hexDigs.data[m]? = some (hexDigs[m]) := Array.getElem?_eq_getElem h2
  exact Option.some.inj (h4.symm.trans h3)
theorem hex_ix (m : Nat) (h : m < 16) (W : World) : (Instr.index 9 (.string ⟨#[48, 49, 50, 51, 52, 53, 54, 55, 56, 57, 97, 98, 99, 100, 101, 102, 103, 104, 105, 106, 107, 108, 109, 110, 111, 112, 113, 114, 115, 116, 117, 118, 119, 120, 121, 122]⟩) (.int .u64 (m : Int))).run Tryz.prog W = .ok (.int .u8 ((hexC m).toNat : Int)) W := by
  have hu := Tryz.underlying9
  have h2 : m < hexDigs.size := Nat.lt_of_lt_of_le h (by decide)
  have h3 := run_index_string (P := Tryz.prog) W 9 hexDigs .u64 (m : Int) hu
  rw [dif_pos ⟨by omega, by omega⟩] at h3
  refine h3.trans ?_
  have h4 : hexDigs[(m : Int).toNat]'(by rw [Int.toNat_natCast]; exact h2) = hexC m := hex_get m h h2
  rw [h4]
theorem and15 (u : Nat) (h : u < 18446744073709551616) : bits BinOp.and IntKind.u64 (u : Int) 15 = ((u % 16 : Nat) : Int) := by
  have h1 : (BitVec.ofInt 64 15).toNat = 2 ^ 4 - 1 := by decide
  have key : (BitVec.ofInt 64 (u : Int) &&& BitVec.ofInt 64 15).toNat = ((u : Int) % ((2 ^ 64 : Nat) : Int)).toNat % 2 ^ 4 := by
    rw [BitVec.toNat_and, BitVec.toNat_ofInt, h1, Nat.and_two_pow_sub_one_eq_mod]
  show IntKind.u64.wrap ((BitVec.ofInt 64 (u : Int) &&& BitVec.ofInt 64 15).toNat : Nat) = ((u % 16 : Nat) : Int)
  rw [key, IntKind.wrap_u64]
  omega

set_option maxRecDepth 100000 in
theorem tz_any (w : World) (hT : w.cell? ⟨8, 15, none⟩ = some (.int .u8 4)) :
    Calls Tryz.prog 98 #[.int .u64 16] w fun e w' => e = .returned (.int .i64 4) ∧ w' = w := by
  have h64 : ∀ W, W = w → Calls Tryz.prog 116 #[.int .u64 16] W fun e w' => e = .returned (.int .i64 4) ∧ w' = w := by
    rintro W rfl
    have e0 : IntKind.u64.wrap (-16) = 18446744073709551600 := by decide +kernel
    have ha : bits BinOp.and IntKind.u64 16 18446744073709551600 = 16 := by decide +kernel
    have e1 : IntKind.u64.wrap (16 * 285870213051353865) / 288230376151711744 = 15 := by decide +kernel
    have e2 : IntKind.u64.wrap 4573923408821661840 / 288230376151711744 = 15 := by decide +kernel
    go_enter Tryz.func116, Tryz.ntmps116
    go_wp2_with fail
    go_ret
    exact ⟨rfl, rfl⟩
  go_enter Tryz.func98, Tryz.ntmps98
  go_wp2_with fail
  refine (h64 _ rfl).mono ?_
  rintro e w' ⟨rfl, rfl⟩
  go_wp2_with fail
  go_ret
  exact ⟨rfl, rfl⟩
theorem pow2_any (w : World) : Calls Tryz.prog 97 #[.int .i64 16] w fun e w' => e = .returned (.bool true) ∧ w' = w := by
  have ha : bits BinOp.and IntKind.i64 16 15 = 0 := by decide +kernel
  go_enter Tryz.func97, Tryz.ntmps97
  go_wp2_with fail
  go_ret
  exact ⟨rfl, rfl⟩

set_option maxRecDepth 100000 in
set_option maxHeartbeats 1600000 in
theorem formatBits_any (d : Nat) (w : World) (hd : d < 18446744073709551616) (hT : w.cell? ⟨8, 15, none⟩ = some (.int .u8 4)) (hB : 8 < w.heap.size) :
    Calls Tryz.prog 72 #[.slice none 0 0, .int .u64 (d : Int), .int .i64 16, .bool false, .bool false] w fun e w' => e = .returned (.tuple #[.slice none 0 0, .string ⟨(hexD 16 d).toArray⟩]) ∧ Below w.heap.size w w' := by
  have HT : Hid ((w.alloc (.cells Tryz.zeroCells198 198)).cell? ⟨8, 15, none⟩ = some (.int .u8 4)) := (World.cell?_alloc_lt w _ ⟨8, 15, none⟩ hB).trans hT
  have HR := Lib.hid (HxR.start hd)
  have HB : Hid (Blk (w.alloc (.cells Tryz.zeroCells198 198)) w.heap.size 198 (bufC 65 [])) := by rw [← buf_new]; exact Blk.new _ _ _
  have HL : Hid (Below w.heap.size w (w.alloc (.cells Tryz.zeroCells198 198))) := (Below.refl _ _).alloc (Nat.le_refl _) _
  have HD := Lib.hid hd
  obtain ⟨W0, hW⟩ : ∃ W0, W0 = w.alloc (.cells Tryz.zeroCells198 198) := ⟨_, rfl⟩
  rw [← hW] at HT HB HL
  clear hT hd hB
  go_enter Tryz.func72, Tryz.ntmps72
  go_wp2_with fail
  rw [← hW]
  clear hW
  refine (pow2_any _).mono ?_
  rintro e w1 ⟨rfl, rfl⟩
  go_wp2_with fail
  refine (tz_any _ HT.out).mono ?_
  rintro e w1 ⟨rfl, rfl⟩
  go_wp2_with fail
  go_loopw [1, 13] (fun u i wr => ∃ (f n j : Nat) (ds : List UInt8), u = .int .u64 (n : Int) ∧ i = .int .i64 (j : Int) ∧ n < 18446744073709551616 ∧ Hid (j = f + 49) ∧ Hid (HxR (hexD 16 d) f n ds) ∧ Hid (Blk wr w.heap.size 198 (bufC j ds)) ∧ Hid (Below w.heap.size w wr)) (fun u _ _ => (intOf u).toNat)
  case atStart => exact ⟨16, d, 65, [], rfl, rfl, HD.out, rfl, HR, HB, HL⟩
  case round =>
    obtain ⟨f, n, j, ds, rfl, rfl, hn, HJ, HR, HB, HL⟩ := hrel
    have hj := HJ.out
    have hfl := HR.out.len
    have hf1 := HR.out.f1
    obtain ⟨k, rfl⟩ : ∃ k, j = k + 1 := ⟨j - 1, by omega⟩
    obtain ⟨j, hjk⟩ : ∃ j, j = k + 1 := ⟨_, rfl⟩
    have hs : (j : Int) - 1 = (k : Int) := by omega
    have i1 : (0 : Int) ≤ (k : Int) := by omega
    have i2 : (k : Int) < 65 := by omega
    have i3 : k < 65 := by omega
    have hc := (HB.out.cell k).trans (buf_at k ds)
    have hfz := HB.out.frozen k
    by_cases h16 : 16 ≤ n
    · have h16' : (16 : Int) ≤ (n : Int) := by omega
      obtain ⟨hR2, hf2⟩ := HR.out.next h16
      have hand : bits BinOp.and IntKind.u64 (n : Int) 15 = ((n % 16 : Nat) : Int) := and15 n hn
      have hdiv : (n : Int) / 16 = ((n / 16 : Nat) : Int) := rfl
      have hm16 : n % 16 < 16 := Nat.mod_lt _ (by omega)
      have hqn : n / 16 < n := by omega
      have hB2 := HB.out.set_ k (byC (hexC (n % 16)))
      rw [buf_set] at hB2
      obtain ⟨m, hm⟩ : ∃ m, n % 16 = m := ⟨_, rfl⟩
      obtain ⟨q, hq⟩ : ∃ q, n / 16 = q := ⟨_, rfl⟩
      rw [hm] at hand hm16 hR2 hB2
      rw [hq] at hdiv hqn hR2
      have hix := hex_ix m hm16
      obtain ⟨c, hcc⟩ : ∃ c, hexC m = c := ⟨_, rfl⟩
      rw [hcc] at hix hR2 hB2
      have HR2 := Lib.hid hR2
      have HB2 : Hid (Blk (wr.setCell ⟨w.heap.size, k, none⟩ (.int .u8 (c.toNat : Int))) w.heap.size 198 (bufC k (c :: ds))) := hB2
      have HL2 := Lib.hid (HL.out.setCell (p := ⟨w.heap.size, k, none⟩) (Nat.le_refl _) (.int .u8 (c.toNat : Int)))
      have HKF : Hid (k = f - 1 + 49) := by rw [Hid]; omega
      clear hm hq hf2 hcc hR2 hB2 hj hfl hf1
      rw [← hjk]
      clear hjk
      go_wp2_with fail
      go_roundw
      case rel => exact ⟨f - 1, q, k, c :: ds, rfl, rfl, by omega, HKF, HR2, HB2, HL2⟩
      case measure => simp [intOf]; omega
    · have h16' : ¬ (16 : Int) ≤ (n : Int) := by omega
      have hm16 : n < 16 := by omega
      have hix := hex_ix n hm16
      have hE := HR.out.last hm16
      have hB2 := HB.out.set_ k (byC (hexC n))
      rw [buf_set] at hB2
      obtain ⟨c, hcc⟩ : ∃ c, hexC n = c := ⟨_, rfl⟩
      rw [hcc] at hix hE hB2
      have HE := Lib.hid hE
      have HB2 : Hid (Blk (wr.setCell ⟨w.heap.size, k, none⟩ (.int .u8 (c.toNat : Int))) w.heap.size 198 (bufC k (c :: ds))) := hB2
      have HL2 := Lib.hid (HL.out.setCell (p := ⟨w.heap.size, k, none⟩) (Nat.le_refl _) (.int .u8 (c.toNat : Int)))
      have HKF : Hid (k + (c :: ds).length = 65) := by rw [Hid]; simp only [List.length_cons]; omega
      obtain ⟨L, hL⟩ : ∃ L, (c :: ds).length = L := ⟨_, rfl⟩
      rw [hL] at HKF
      have hLk : 65 - k = L := by have := HKF.out; omega
      have hal : Tryz.prog.arrayLen 198 = 65 := by simp [Program.arrayLen, Tryz.underlying198]
      have hsl : ∀ W, (Instr.sliceAt 198 (.pointer (some ⟨w.heap.size, 0, none⟩)) (some (.int .i64 (k : Int))) none none).run Tryz.prog W = .ok (.slice (some ⟨w.heap.size, k, none⟩) L L) W := fun W => by
        rw [run_sliceAt_array_l W 198 ⟨w.heap.size, 0, none⟩ (by simp [Program.arrayLen, Program.elem, Tryz.underlying198]) .i64 (k : Int) (by omega) (by rw [hal]; omega)]
        go_simp
        omega
      have hcv : (convert 50 9 (.slice (some ⟨w.heap.size, k, none⟩) L L)).run Tryz.prog (wr.setCell ⟨w.heap.size, k, none⟩ (.int .u8 (c.toNat : Int))) = .ok (.string ⟨(c :: ds).toArray⟩) (wr.setCell ⟨w.heap.size, k, none⟩ (.int .u8 (c.toNat : Int))) := by
        rw [← hL]
        refine run_convert_bytes_back (P := Tryz.prog) _ 50 9 5 ⟨w.heap.size, k, none⟩ _ (c :: ds) Tryz.underlying50 Tryz.underlying5 Tryz.underlying9 fun q hq => ?_
        rw [Go.WideShapes.add_plain]
        exact HB2.out.c (buf_get k (c :: ds) q hq)
      rw [HE.out] at hcv
      clear hcc hB2 hj hfl hf1 hE hL hal hLk
      rw [← hjk]
      clear hjk
      go_wp2_with fail
      refine bodyPost_ret (results_tmp2 rfl _ _ _) rfl ?_
      exact ⟨rfl, HL2.out⟩
set_option maxRecDepth 100000 in
theorem hexU_inner (d : Nat) (w : World) (hd : d < 18446744073709551616) (hw : StdT w) :
    Calls Tryz.prog 75 #[.int .u64 (d : Int), .int .i64 16] w fun e w' => e = .returned (.string ⟨(hexD 16 d).toArray⟩) ∧ Below w.heap.size w w' := by
  have HF := Lib.hid (formatBits_any d w hd hw.tz hw.b1)
  obtain ⟨s, hs⟩ : ∃ s : ByteArray, (⟨(hexD 16 d).toArray⟩ : ByteArray) = s := ⟨_, rfl⟩
  rw [hs] at HF ⊢
  clear hd hw hs
  go_enter Tryz.func75, Tryz.ntmps75
  go_wp2_with fail
  refine HF.out.mono ?_
  rintro e w1 ⟨rfl, hb⟩
  have HB := Lib.hid hb
  clear hb
  go_wp2_with fail
  go_ret
  exact ⟨rfl, HB.out⟩
set_option maxRecDepth 100000 in
theorem hexU_any (d : Nat) (w : World) (hd : d < 18446744073709551616) (hw : StdT w) :
    Calls Tryz.prog 51 #[.int .u64 (d : Int), .int .i64 16] w fun e w' => e = .returned (.string ⟨(hexD 16 d).toArray⟩) ∧ Below w.heap.size w w' := by
  have HF := Lib.hid (hexU_inner d w hd hw)
  obtain ⟨s, hs⟩ : ∃ s : ByteArray, (⟨(hexD 16 d).toArray⟩ : ByteArray) = s := ⟨_, rfl⟩
  rw [hs] at HF ⊢
  clear hd hw hs
  go_enter Tryz.func51, Tryz.ntmps51
  go_wp2_with fail
  refine HF.out.mono ?_
  rintro e w1 ⟨rfl, hb⟩
  have HB := Lib.hid hb
  clear hb
  go_wp2_with fail
  go_ret
  exact ⟨rfl, HB.out⟩
theorem repeat_zeros : ∀ c, Lib.repeatL [48] c = List.replicate c (48 : UInt8)
  | 0 => rfl
  | c + 1 => by
    have := repeat_zeros c
    simp only [Lib.repeatL] at this ⊢
    simp [List.replicate_succ, this]
set_option maxRecDepth 100000 in
theorem dhex_any (d : Nat) (w : World) (hw : StdT w) (hd : d < 18446744073709551616) :
    Calls Tryz.prog 36 #[.int .u64 (d : Int)] w fun e w' => e = .returned (.string ⟨(hexP d).toArray⟩) ∧ Below w.heap.size w w' := by
  have HF := Lib.hid (hexU_any d w hd hw)
  have hlen := hexD_len 16 d
  have HR := Lib.hid (fun W => Tryz.strings_Repeat ⟨#[48]⟩ (16 - (hexD 16 d).length) W (by omega) (by show 1 * _ ≤ _; omega))
  rw [show (⟨#[48]⟩ : ByteArray).data.toList = [48] from rfl, repeat_zeros] at HR
  obtain ⟨s, hs⟩ : ∃ s : ByteArray, (⟨(hexD 16 d).toArray⟩ : ByteArray) = s := ⟨_, rfl⟩
  obtain ⟨z, hz⟩ : ∃ z : ByteArray, (⟨(List.replicate (16 - (hexD 16 d).length) (48 : UInt8)).toArray⟩ : ByteArray) = z := ⟨_, rfl⟩
  have hsl : s.size = (hexD 16 d).length := by rw [← hs]; simp [ByteArray.size]
  have hzl : z.size = 16 - (hexD 16 d).length := by rw [← hz]; simp [ByteArray.size]
  have HE : Hid (z ++ s = ⟨(hexP d).toArray⟩) := by
    rw [Hid, ← hs, ← hz]
    refine ByteArray.ext ?_
    rw [ByteArray.data_append]
    refine Array.toList_inj.1 ?_
    simp [hexP]
  rw [hs] at HF
  rw [hz] at HR
  obtain ⟨n, hn⟩ : ∃ n, (hexD 16 d).length = n := ⟨_, rfl⟩
  rw [hn] at hlen HR hsl hzl
  have e1 : (16 : Int) - (s.size : Int) = ((16 - n : Nat) : Int) := by omega
  obtain ⟨m, hm⟩ : ∃ m, 16 - n = m := ⟨_, rfl⟩
  rw [hm] at HR e1 hzl
  have e2 : z.size + s.size = 16 := by omega
  have hadd : ∀ W, (Op.stringOp .add z s).run Tryz.prog W = .ok (.string (z ++ s)) W := fun W => run_string_add_sum W _ _ (by omega)
  rw [HE.out] at hadd
  obtain ⟨y, hy⟩ : ∃ y : ByteArray, (⟨(hexP d).toArray⟩ : ByteArray) = y := ⟨_, rfl⟩
  rw [hy] at hadd ⊢
  clear hd hw hs hz hn hm hlen hsl hzl e2 HE hy
  go_enter Tryz.func36, Tryz.ntmps36
  go_wp2_with fail
  refine HF.out.mono ?_
  rintro e w1 ⟨rfl, hb⟩
  have HB := Lib.hid hb
  clear hb
  go_wp2_with fail
  refine (HR.out _).mono ?_
  rintro e w2 ⟨rfl, hb2⟩
  have HB2 := Lib.hid (HB.out.trans (hb2.mono HB.out.size))
  clear hb2
  go_wp2_with fail
  go_ret
  exact ⟨rfl, HB2.out⟩
end Go.Proofs.YthomflbjijjhaaaGreatDoor
