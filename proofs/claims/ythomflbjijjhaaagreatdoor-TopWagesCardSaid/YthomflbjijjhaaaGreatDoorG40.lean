/-
  Several texts in one: journal.add, Make: the journal of entries. Conditions: what the variables hold (StdT); entries that are entries; a journal that is not too long. journal.read, Read: the entries of the good lines. Conditions: what the variables hold (StdT); a journal of at most 20000 bytes.
-/
import Derived.Test.YthomflbjijjhaaaGreatDoorG22
import Derived.Test.YthomflbjijjhaaaGreatDoorG27
import Derived.Test.YthomflbjijjhaaaGreatDoorG31
import Derived.Test.YthomflbjijjhaaaGreatDoorG37
import Derived.Test.YthomflbjijjhaaaGreatDoorG39

/- journal.add, Make: the journal of entries. Conditions: what the variables hold (StdT); entries that are entries; a journal that is not too long. -/
namespace Go.Proofs.YthomflbjijjhaaaGreatDoor
open Go.RowKit
open Go.Lib hiding intOf

/-- The line of an entry, and its digest. -/
def RetAdd (last : Nat) (e : List UInt8) (w : World) (en : Ending) (w' : World) : Prop := ∃ y : ByteArray, y.data.toList = lineJ last e ∧ en = .returned (.tuple #[.string y, .int .u64 ((chainP last e : Nat) : Int)]) ∧ Below w.heap.size w w'
theorem line_parts (last : Nat) (s : ByteArray) (h : s.size ≤ 1000000) : ∃ y1 y2 y3 : ByteArray, (∀ W, (Op.stringOp .add ⟨(hexP (chainP last s.data.toList)).toArray⟩ ⟨#[32]⟩).run Tryz.prog W = .ok (.string y1) W) ∧ (∀ W, (Op.stringOp .add y1 s).run Tryz.prog W = .ok (.string y2) W) ∧ (∀ W, (Op.stringOp .add y2 ⟨#[10]⟩).run Tryz.prog W = .ok (.string y3) W) ∧ y3.data.toList = lineJ last s.data.toList := by
  have hz : (⟨(hexP (chainP last s.data.toList)).toArray⟩ : ByteArray).size = 16 := by
    show (hexP (chainP last s.data.toList)).toArray.size = 16
    rw [List.size_toArray, hexP_len]
  have s1 : (⟨#[32]⟩ : ByteArray).size = 1 := rfl
  have s2 : (⟨#[10]⟩ : ByteArray).size = 1 := rfl
  obtain ⟨y1, a1, d1, z1⟩ := add2 ⟨(hexP (chainP last s.data.toList)).toArray⟩ ⟨#[32]⟩ (by omega)
  obtain ⟨y2, a2, d2, z2⟩ := add2 y1 s (by omega)
  obtain ⟨y3, a3, d3, z3⟩ := add2 y2 ⟨#[10]⟩ (by omega)
  refine ⟨y1, y2, y3, a1, a2, a3, ?_⟩
  rw [d3, d2, d1]
  simp [lineJ]

set_option maxRecDepth 100000 in
set_option maxHeartbeats 1600000 in
theorem jadd_any (last : Nat) (s : ByteArray) (w : World) (hw : StdT w) (hp : last < pM) (hs : s.size ≤ 1000000) :
    Calls Tryz.prog 23 #[.int .u64 (last : Int), .string s] w (RetAdd last s.data.toList w) := by
  have hpm : pM = 2305843009213693951 := rfl
  have HC := Lib.hid (dchain_any last s w (by omega) hs)
  obtain ⟨y1, y2, y3, a1, a2, a3, hy⟩ := line_parts last s hs
  have HY := Lib.hid hy
  have hlt := chainP_lt last s.data.toList
  have HX := Lib.hid (fun k => dhex_any (chainP last s.data.toList) (w.drewN k) (hw.drewN k) (by omega))
  obtain ⟨z, hz⟩ : ∃ z, chainP last s.data.toList = z := ⟨_, rfl⟩
  unfold RetAdd
  rw [hz] at HC HX a1 ⊢
  obtain ⟨h16, hh⟩ : ∃ h : ByteArray, (⟨(hexP z).toArray⟩ : ByteArray) = h := ⟨_, rfl⟩
  rw [hh] at HX a1
  clear hw hp hs hpm hy hlt hz hh
  go_enter Tryz.func23, Tryz.ntmps23
  go_wp2_with fail
  refine HC.out.mono ?_
  rintro e w1 ⟨rfl, k, rfl⟩
  go_wp2_with fail
  refine (HX.out k).mono ?_
  rintro e w2 ⟨rfl, hb⟩
  have HB := Lib.hid hb
  clear hb
  go_wp2_with fail
  refine bodyPost_ret (results_tmp2 rfl _ _ _) rfl ?_
  exact ⟨y3, HY.out, rfl, (below_of_drewN w w.heap.size k).trans HB.out⟩

/-- A text comes back. -/
def RetText (l : List UInt8) (w : World) (en : Ending) (w' : World) : Prop := ∃ y : ByteArray, y.data.toList = l ∧ en = .returned (.tuple #[.string y, .int .i64 0]) ∧ Below w.heap.size w w'
def lists (zs : List ByteArray) : List (List UInt8) := zs.map (·.data.toList)
theorem lists_at {zs : List ByteArray} {k : Nat} {x : ByteArray} (h : zs[k]? = some x) : (lists zs)[k]? = some x.data.toList := by simp [lists, h]
set_option maxRecDepth 100000 in
set_option maxHeartbeats 6400000 in
theorem jmake_any (A : Option Addr) (n c : Nat) (zs : List ByteArray) (w : World) (hw : StdT w) (hz : Sl w w.heap.size A n (strs zs)) (hn : n ≤ 30) (hok : ∀ e ∈ lists zs, entryOk e = true) (hlen : (textJ 0 (lists zs)).length ≤ 20000) :
    Calls Tryz.prog 16 #[.slice A n c] w (RetText (textJ 0 (lists zs)) w) := by
  have HZ := Lib.hid hz
  have HZL := Lib.hid hz.slen
  have HW := Lib.hid hw
  have HOK := Lib.hid hok
  have HLEN := Lib.hid hlen
  have HF := Lib.hid (Bytes.fresh w)
  have HB := Lib.hid ((Below.refl w.heap.size w).alloc (Nat.le_refl _) (.cells #[.pointer none, .slice none 0 0] 99))
  clear hz hw hok hlen
  go_enter Tryz.func16, Tryz.ntmps16
  go_wp2_with fail
  go_loopw [5, 7, 8, 9, 12] (fun s5 _ _ _ i wr => ∃ k : Nat, k ≤ n ∧ i = .int .i64 (k : Int) ∧ s5 = .int .u64 ((((lists zs).take k).foldl chainP 0 : Nat) : Int) ∧ Hid (Bytes w.heap.size w.heap.size (textJ 0 ((lists zs).take k)) wr) ∧ Hid (Below w.heap.size w wr)) (fun _ _ _ _ i _ => n - (intOf i).toNat)
  case atStart => exact ⟨0, Nat.zero_le _, rfl, rfl, HF, HB⟩
  case round =>
    obtain ⟨k, hk, rfl, rfl, HBY, HBE⟩ := hrel
    have hlast := chains_lt ((lists zs).take k) pM_pos
    by_cases hlt : k < n
    · obtain ⟨b, off, x, rfl, hbw, hx, c0⟩ := HZ.out.str_ hlt
      replace c0 := (HBE.out.cell (p := ⟨b, off + k, none⟩) hbw).trans c0
      have hxl := lists_at hx
      have hent := HOK.out _ (List.mem_of_getElem? hxl)
      have HEN := Lib.hid (fun W => isEntry_any x W)
      rw [hent] at HEN
      have hx200 : x.size ≤ 200 := (entry_all hent).1
      have HTK := Lib.hid (textJ_take hxl 0)
      have HCK := Lib.hid (chain_take hxl 0)
      have hmono := textJ_mono (lists zs) 0 (k + 1)
      obtain ⟨last, hla⟩ : ∃ d, ((lists zs).take k).foldl chainP 0 = d := ⟨_, rfl⟩
      obtain ⟨l, hl⟩ : ∃ l, textJ 0 ((lists zs).take k) = l := ⟨_, rfl⟩
      rw [hla] at HTK HCK hlast ⊢
      rw [hl] at HTK HBY
      have hlen := HLEN.out
      rw [HTK.out, List.length_append] at hmono
      have HAD := Lib.hid (jadd_any last x wr (HW.out.below HBE.out) hlast (by omega))
      unfold RetAdd at HAD
      have i1 : (0 : Int) ≤ (k : Int) := by omega
      have i2 : (k : Int) < (n : Int) := by omega
      have hll : l.length + (lineJ last x.data.toList).length ≤ 20000 := by omega
      clear hx hxl hent hx200 hla hl hmono hlen hlast
      go_wp2_with fail
      refine (HEN.out _).mono ?_
      rintro e w1 ⟨rfl, rfl⟩
      go_wp2_with fail
      refine HAD.out.mono ?_
      rintro e w2 ⟨y, hy, rfl, hb2⟩
      have hyl : y.size = (lineJ last x.data.toList).length := by rw [← hy, Array.length_toList]; rfl
      have HY := Lib.hid hy
      have HBY2 := Lib.hid (HBY.out.on hb2)
      have HB2 := Lib.hid (HBE.out.trans (hb2.mono HBE.out.size))
      have HLN := Lib.hid (Tryz.Builder_Len w.heap.size w.heap.size _ w2 HBY2.out)
      have hcl : (byteCells l).length = l.length := byteCells_length _
      obtain ⟨N, hN⟩ : ∃ N, (byteCells l).length = N := ⟨_, rfl⟩
      rw [hN] at HLN hcl
      have hsum : (N : Int) + (y.size : Int) ≤ 20000 := by omega
      have hsum2 : ¬ (20000 : Int) < (N : Int) + (y.size : Int) := by omega
      have HWR := Lib.hid (write_any w.heap.size w.heap.size l y w2 HBY2.out (by omega) HB2.out.size)
      clear hy hb2 hyl hcl hN
      go_wp2_with fail
      refine HLN.out.mono ?_
      rintro e w3 ⟨rfl, rfl⟩
      go_wp2_with fail
      refine HWR.out.mono ?_
      rintro e w4 ⟨rfl, hby, hb4, _⟩
      have HBF := Lib.hid hby
      have HB4 := Lib.hid (HB2.out.trans hb4)
      clear hby hb4
      go_wp2_with fail
      go_roundw
      case rel =>
        refine ⟨k + 1, by omega, by go_num, by rw [HCK.out], ?_, HB4⟩
        rw [HTK.out, ← HY.out]
        exact HBF
      case measure => simp [intOf]; omega
    · obtain rfl : n = k := by omega
      have hall : (lists zs).take n = lists zs := by rw [← HZL.out]; exact List.take_of_length_le (by simp [lists])
      rw [hall] at HBY ⊢
      obtain ⟨l, hl⟩ : ∃ l, textJ 0 (lists zs) = l := ⟨_, rfl⟩
      rw [hl] at HBY
      have HEL := Lib.hid hl
      have HST := Lib.hid (Tryz.Builder_String_any w.heap.size w.heap.size _ wr HBY.out HBE.out.size)
      clear hl hall
      go_wp2_with fail
      refine HST.out.mono ?_
      rintro e w7 ⟨rfl, hb7⟩
      have HB7 := Lib.hid (HBE.out.trans hb7)
      clear hb7
      go_wp2_with fail
      refine bodyPost_ret (results_tmp2 rfl _ _ _) rfl ?_
      exact ⟨_, HEL.out.symm, rfl, HB7.out⟩
end Go.Proofs.YthomflbjijjhaaaGreatDoor

/- journal.read, Read: the entries of the good lines. Conditions: what the variables hold (StdT); a journal of at most 20000 bytes. -/
namespace Go.Proofs.YthomflbjijjhaaaGreatDoor
open Go.RowKit
open Go.Lib hiding intOf

theorem str_info : (Tryz.prog.info? 9).map (fun i => (i.zero, i.size, i.bytes)) = some (some (.string ⟨#[]⟩), 1, 16) := by kernel_rfl
theorem new_str (W : World) (s : ByteArray) (ty : TypeId) : ∀ (j : Nat) (u : Value), ([Value.string s])[j]? = some u → (W.alloc (.cells #[.string s] ty)).cell? ((⟨W.heap.size, 0, none⟩ : Addr).add j) = some u := fun j u hu => by
  have hb : Blk (W.alloc (.cells ([Value.string s]).toArray ty)) W.heap.size ty ([Value.string s]).toArray := Blk.new W _ _
  rw [Go.WideShapes.add_plain]
  exact hb.c (by simpa using hu)
theorem str_one (s : ByteArray) : ∀ u ∈ [Value.string s], u.oneCell' = true := fun u hu => by
  obtain rfl : u = .string s := by simpa using hu
  rfl
theorem own_strs {w : World} {B n : Nat} {e : TypeId} {A : Option Addr} {c : Nat} {zs : List ByteArray} (h : w.ownsRow B e 1 (.slice A n c) n (strs zs)) : Sl w w.heap.size A n (strs zs) ∧ n ≤ c := by
  refine ⟨Sl.of_own h, ?_⟩
  rcases h.2 with ⟨e, h0⟩ | ⟨g, cap, cur, e, _, _, hc, _⟩
  · omega
  · injection e with _ _ e
    omega
theorem lists_snoc (zs : List ByteArray) (x : ByteArray) : lists (zs ++ [x]) = lists zs ++ [x.data.toList] := by simp [lists]
theorem bytes_toA (l : List UInt8) : (⟨l.toArray⟩ : ByteArray).data.toList = l := by simp

theorem split_len {l s e : List UInt8} (h : splitJ l = some (s, e)) : e.length ≤ l.length := by
  unfold splitJ at h
  split at h
  · cases h
  · split at h
    · cases h
    · split at h
      · cases h
      · split at h
        · cases h
        · injection h with h
          injection h with _ h
          rw [← h, List.length_drop]
          omega
/-- The entries R come back. -/
def RetJ (R : List (List UInt8)) (w : World) (en : Ending) (w' : World) : Prop := ∃ (A : Option Addr) (k c : Nat) (es : List ByteArray) (p d z : Int), en = .returned (.tuple #[.slice A k c, .int .i64 p, .int .u64 d, .int .i64 z]) ∧ Sl w' w'.heap.size A k (strs es) ∧ k ≤ c ∧ lists es = R ∧ Below w.heap.size w w'
/-- Where reading is: the entries so far and the rest. -/
structure JoI (R : List (List UInt8)) (j : List UInt8) (N k p last : Nat) (es : List ByteArray) : Prop where
  eq : lists es ++ readJ N last (j.drop p) = R
  le : p ≤ N
  few : k ≤ p
  last : last < pM
section
variable {R : List (List UInt8)} {j l t s e : List UInt8} {N k p last : Nat} {es : List ByteArray}
theorem JoI.done (h : JoI R j N k p last es) (hr : readJ N last (j.drop p) = []) : lists es = R := by
  rw [← h.eq, hr, List.append_nil]
theorem JoI.nocut (h : JoI R j N k p last es) (hc : cut (j.drop p) [10] = (l, t, false)) (hp : p < N) : lists es = R := by
  obtain ⟨m, rfl⟩ : ∃ m, N = m + 1 := ⟨N - 1, by omega⟩
  exact h.done (readJ_nocut (by rw [hc]))
theorem JoI.nosplit (h : JoI R j N k p last es) (hc : cut (j.drop p) [10] = (l, t, true)) (hs : splitJ l = none) (hp : p < N) : lists es = R := by
  obtain ⟨m, rfl⟩ : ∃ m, N = m + 1 := ⟨N - 1, by omega⟩
  exact h.done (readJ_nosplit hc hs)
theorem JoI.nodig (h : JoI R j N k p last es) (hN : j.length = N) (hc : cut (j.drop p) [10] = (l, t, true)) (hs : splitJ l = some (s, e)) (hne : s ≠ hexP (chainP last e)) (hp : p < N) : lists es = R := by
  obtain ⟨m, rfl⟩ : ∃ m, N = m + 1 := ⟨N - 1, by omega⟩
  refine h.done ?_
  rw [readJ_step (fun q => ?_) hc hs, if_neg hne]
  have := congrArg List.length q
  rw [List.length_drop] at this
  simp at this
  omega
theorem JoI.next (h : JoI R j N k p last es) (hN : j.length = N) (hc : cut (j.drop p) [10] = (l, t, true)) (hs : splitJ l = some (s, e)) (he : s = hexP (chainP last e)) (hp : p < N) : JoI R j N (k + 1) (p + (l.length + 1)) (chainP last e) (es ++ [⟨e.toArray⟩]) := by
  obtain ⟨m, rfl⟩ : ∃ m, N = m + 1 := ⟨N - 1, by omega⟩
  have h1 := jcut_less (c := 10) (j.drop p) (by rw [hc])
  rw [hc] at h1
  simp only [List.length_drop, List.drop_drop] at h1
  have h2 := h.eq
  rw [readJ_step (fun q => ?_) hc hs, if_pos he] at h2
  · refine ⟨?_, by omega, by have := h.few; omega, chainP_lt _ _⟩
    rw [lists_snoc, bytes_toA, List.append_assoc, ← h2, ← h1.2, readJ_fuel m (m + 1) _ _ (by omega) (by omega)]
    rfl
  · have := congrArg List.length q
    rw [List.length_drop] at this
    simp at this
    omega
theorem JoI.end_ (h : JoI R j N k p last es) (hN : j.length = N) (hp : ¬ p < N) : lists es = R := by
  refine h.done ?_
  rw [List.drop_eq_nil_of_le (by omega)]
  exact readJ_nil _ _
end
set_option maxRecDepth 100000 in
set_option maxHeartbeats 6400000 in
theorem jread_any (j : ByteArray) (w : World) (hw : StdT w) (hj : j.size ≤ 20000) :
    Calls Tryz.prog 27 #[.string j] w (RetJ (readJ j.size 0 j.data.toList) w) := by
  have HW := Lib.hid hw
  have HN : Hid (j.data.toList.length = j.size) := rfl
  have HI : Hid (JoI (readJ j.size 0 j.data.toList) j.data.toList j.size 0 0 0 []) := ⟨by rw [List.drop_zero]; rfl, Nat.zero_le _, Nat.le_refl _, pM_pos⟩
  obtain ⟨R, hR⟩ : ∃ R, readJ j.size 0 j.data.toList = R := ⟨_, rfl⟩
  rw [hR] at HI ⊢
  have hj' : ¬ (20000 : Int) < (j.size : Int) := by omega
  clear hw hR
  go_enter Tryz.func27, Tryz.ntmps27
  go_wp2_with fail
  go_loopw [2, 3, 4, 6, 7, 8, 9, 10, 11] (fun v p d _ _ _ _ _ _ wr => ∃ (k q last : Nat) (es : List ByteArray), p = .int .i64 (q : Int) ∧ d = .int .u64 (last : Int) ∧ Hid (JoI R j.data.toList j.size k q last es) ∧ Hid (wr.ownsRow w.heap.size 9 1 v k (strs es)) ∧ Hid (Below w.heap.size w wr)) (fun _ p _ _ _ _ _ _ _ _ => j.size - (intOf p).toNat)
  case atStart => exact ⟨0, 0, 0, [], rfl, rfl, HI, World.ownsRow_nil _ _ _ _, Below.refl _ _⟩
  case round =>
    obtain ⟨k, q, last, es, rfl, rfl, HI, HO, HB⟩ := hrel
    obtain ⟨A1, C1, rfl⟩ := own_form HO.out
    by_cases hlt : q < j.size
    · have hq' : (q : Int) < (j.size : Int) := by omega
      have hq1 : (0 : Int) ≤ (q : Int) := by omega
      have hq2 : (q : Int) ≤ (j.size : Int) := by omega
      have HLT := Lib.hid hlt
      obtain ⟨l, t, f, hc⟩ : ∃ l t f, cut (j.data.toList.drop q) [10] = (l, t, f) := ⟨_, _, _, rfl⟩
      have hrest : (j.extract q j.size).size ≤ 1000000 := by
        rw [ByteArray.size_extract]
        omega
      have HCUT := Lib.hid (fun W hw => cutN (j.extract q j.size) l t f W hw hrest (by rw [ext_drop]; exact hc))
      have HC := Lib.hid hc
      have hll : l.length ≤ 20000 := by
        have h1 := (cut_len10 (j.data.toList.drop q)).1
        rw [hc, List.length_drop, HN.out] at h1
        simp only at h1
        omega
      have HS := Lib.hid (HW.out.below HB.out)
      clear hc hrest
      cases f
      · have HE : Hid (lists es = R) := HI.out.nocut HC.out HLT.out
        go_wp2_with fail
        refine (HCUT.out _ HS.out.st).mono ?_
        rintro e w1 ⟨rfl, k1, rfl⟩
        go_wp2_with fail
        refine bodyPost_ret (v := .tuple #[.slice A1 k C1, .int .i64 (q : Int), .int .u64 (last : Int), .int .i64 4]) (by simp [results, Tryz.results27, go_sem]) rfl ?_
        exact ⟨A1, k, C1, es, _, _, _, rfl, (own_strs HO.out).1, (own_strs HO.out).2, HE.out, below_drewN HB.out _⟩
      · have hbl : (bytes l).size = l.length := rfl
        have HSP := Lib.hid (fun W => split_any (bytes l) W (by rw [hbl]; omega))
        rw [bytes_data] at HSP
        obtain ⟨o, ho⟩ : ∃ o, splitJ l = o := ⟨_, rfl⟩
        rw [ho] at HSP
        have HSO := Lib.hid ho
        clear ho
        rcases o with _ | ⟨s, e⟩
        · have HE : Hid (lists es = R) := HI.out.nosplit HC.out HSO.out HLT.out
          simp only [optS] at HSP
          go_wp2_with fail
          refine (HCUT.out _ HS.out.st).mono ?_
          rintro e w1 ⟨rfl, k1, rfl⟩
          go_wp2_with fail
          refine (HSP.out _).mono ?_
          rintro e w1 ⟨rfl, k2, rfl⟩
          go_wp2_with fail
          refine bodyPost_ret (v := .tuple #[.slice A1 k C1, .int .i64 (q : Int), .int .u64 (last : Int), .int .i64 2]) (by simp [results, Tryz.results27, go_sem]) rfl ?_
          exact ⟨A1, k, C1, es, _, _, _, rfl, (own_strs HO.out).1, (own_strs HO.out).2, HE.out, below_drewN HB.out _⟩
        · have hel : (⟨e.toArray⟩ : ByteArray).size ≤ 1000000 := by
            have h1 := split_len HSO.out
            show e.toArray.size ≤ _
            rw [List.size_toArray]
            omega
          have hlast := HI.out.last
          have hpm : pM = 2305843009213693951 := rfl
          have HCH := Lib.hid (fun W => dchain_any last ⟨e.toArray⟩ W (by omega) hel)
          rw [bytes_toA] at HCH
          have HHX := Lib.hid (fun W hw => dhex_any (chainP last e) W hw (by have := chainP_lt last e; omega))
          simp only [optS] at HSP
          obtain ⟨S, hS⟩ : ∃ S : ByteArray, (⟨s.toArray⟩ : ByteArray) = S := ⟨_, rfl⟩
          obtain ⟨E, hE⟩ : ∃ E : ByteArray, (⟨e.toArray⟩ : ByteArray) = E := ⟨_, rfl⟩
          obtain ⟨H, hH⟩ : ∃ H : ByteArray, (⟨(hexP (chainP last e)).toArray⟩ : ByteArray) = H := ⟨_, rfl⟩
          have hsd : S.data.toList = s := by rw [← hS]
          have hhd : H.data.toList = hexP (chainP last e) := by rw [← hH]
          by_cases hse : s = hexP (chainP last e)
          · have hJ2 := HI.out.next HN.out HC.out HSO.out hse HLT.out
            have hSH : S = H := by rw [← hS, ← hH, hse]
            rw [hE] at HCH hJ2
            rw [hS, hE, hSH] at HSP
            rw [hH] at HHX
            obtain ⟨d, hd⟩ : ∃ d, chainP last e = d := ⟨_, rfl⟩
            rw [hd] at HCH HHX hJ2
            have HJ2 := Lib.hid hJ2
            have hk1 := hJ2.few
            have hk2 := hJ2.le
            have b3' : k + 1 ≤ maxLen := by unfold maxLen; omega
            have b4' : (k + 1) * 16 ≤ 140737488355328 := by omega
            have hbs : (bytes l).size = l.length := rfl
            obtain ⟨L, hL⟩ : ∃ L, bytes l = L := ⟨_, rfl⟩
            rw [hL] at HSP HCUT hbs
            have hqn : (q : Int) + ((L.size : Int) + 1) = ((q + (l.length + 1) : Nat) : Int) := by omega
            obtain ⟨q', hq'⟩ : ∃ q', q + (l.length + 1) = q' := ⟨_, rfl⟩
            rw [hq'] at HJ2 hqn hk1 hk2
            have hqq : q < q' := by omega
            have hL9 : (L.size : Int) + 1 ≤ 20001 := by omega
            clear hse hSH hS hE hH hsd hhd hd hJ2 hel hlast hpm hL hq' hbs hlt
            go_wp2_with fail
            refine (HCUT.out _ HS.out.st).mono ?_
            rintro e w1 ⟨rfl, k1, rfl⟩
            go_wp2_with fail
            refine (HSP.out _).mono ?_
            rintro e w1 ⟨rfl, k2, rfl⟩
            go_wp2_with fail
            refine (HCH.out _).mono ?_
            rintro e w1 ⟨rfl, k3, rfl⟩
            go_wp2_with fail
            refine (HHX.out _ (HS.out.drewN _)).mono ?_
            rintro e w5 ⟨rfl, hb5⟩
            have HB5 := Lib.hid (below_drewN (Below.refl wr.heap.size wr) (k1 + k2 + k3) |>.trans hb5)
            have HOA := Lib.hid (own_below HO.out (HB5.out.alloc HB5.out.size (.cells #[.string E] 9)))
            have HBA := Lib.hid ((HB.out.trans (HB5.out.mono HB.out.size)).alloc (Nat.le_trans HB.out.size HB5.out.size) (.cells #[.string E] 9))
            have HNS := Lib.hid (new_str w5 E 9)
            clear hb5
            go_wp2_with (at_builtin; refine wpl_own (P := Tryz.prog) (by rfl) _ _ 22 (by rfl) w.heap.size 9 (.string ⟨#[]⟩) 1 16 Tryz.underlying22 str_info rfl (by decide) (.slice A1 k C1) k (strs es) (by rfl) HOA.out ⟨w5.heap.size, 0, none⟩ 1 1 [.string E] (by rfl) (by rfl) HNS.out (str_one E) b3' b4' HBA.out.size ?_; intro v7 w7 ho7 hg7 hn7; obtain ⟨A7, c7, rfl⟩ := own_form ho7)
            go_roundw
            case rel =>
              refine ⟨k + 1, q', d, es ++ [E], by go_num, rfl, HJ2, ?_, below_own HBA.out hg7 HBA.out.size (fun g e => (HO.out.lt g e).1)⟩
              refine Lib.hid ?_
              simpa [strs] using ho7
            case measure => simp [intOf]; omega
          · have HE : Hid (lists es = R) := HI.out.nodig HN.out HC.out HSO.out hse HLT.out
            have hSH := toList_ne (a := S) (b := H) (fun q => hse (by rw [← hsd, ← hhd, q]))
            rw [hE] at HCH
            rw [hS, hE] at HSP
            rw [hH] at HHX
            obtain ⟨d, hd⟩ : ∃ d, chainP last e = d := ⟨_, rfl⟩
            rw [hd] at HCH HHX
            clear hse hS hE hH hsd hhd hd hel hlast hpm
            go_wp2_with fail
            refine (HCUT.out _ HS.out.st).mono ?_
            rintro e w1 ⟨rfl, k1, rfl⟩
            go_wp2_with fail
            refine (HSP.out _).mono ?_
            rintro e w1 ⟨rfl, k2, rfl⟩
            go_wp2_with fail
            refine (HCH.out _).mono ?_
            rintro e w1 ⟨rfl, k3, rfl⟩
            go_wp2_with fail
            refine (HHX.out _ (HS.out.drewN _)).mono ?_
            rintro e w5 ⟨rfl, hb5⟩
            have HB5 := Lib.hid (below_drewN (Below.refl wr.heap.size wr) (k1 + k2 + k3) |>.trans hb5)
            have HBA := Lib.hid (HB.out.trans (HB5.out.mono HB.out.size))
            have HO5 := Lib.hid (own_below HO.out HB5.out)
            clear hb5
            go_wp2_with fail
            refine bodyPost_ret (v := .tuple #[.slice A1 k C1, .int .i64 (q : Int), .int .u64 (last : Int), .int .i64 19]) (by simp [results, Tryz.results27, go_sem]) rfl ?_
            exact ⟨A1, k, C1, es, _, _, _, rfl, (own_strs HO5.out).1, (own_strs HO5.out).2, HE.out, HBA.out⟩
    · have HE : Hid (lists es = R) := HI.out.end_ HN.out hlt
      have hq' : ¬ (q : Int) < (j.size : Int) := by omega
      go_wp2_with fail
      refine bodyPost_ret (v := .tuple #[.slice A1 k C1, .int .i64 (q : Int), .int .u64 (last : Int), .int .i64 0]) (by simp [results, Tryz.results27, go_sem]) rfl ?_
      exact ⟨A1, k, C1, es, _, _, _, rfl, (own_strs HO.out).1, (own_strs HO.out).2, HE.out, HB.out⟩
/-- The entries R come back, with two numbers. -/
def RetJ3 (R : List (List UInt8)) (w : World) (en : Ending) (w' : World) : Prop := ∃ (A : Option Addr) (k c : Nat) (es : List ByteArray) (p z : Int), en = .returned (.tuple #[.slice A k c, .int .i64 p, .int .i64 z]) ∧ Sl w' w'.heap.size A k (strs es) ∧ k ≤ c ∧ lists es = R ∧ Below w.heap.size w w'
set_option maxRecDepth 100000 in
set_option maxHeartbeats 1600000 in
theorem jRead_any (j : ByteArray) (w : World) (hw : StdT w) (hj : j.size ≤ 20000) :
    Calls Tryz.prog 17 #[.string j] w (RetJ3 (readJ j.size 0 j.data.toList) w) := by
  have HJ := Lib.hid (jread_any j w hw hj)
  obtain ⟨R, hR⟩ : ∃ R, readJ j.size 0 j.data.toList = R := ⟨_, rfl⟩
  rw [hR] at HJ ⊢
  clear hw hR hj
  go_enter Tryz.func17, Tryz.ntmps17
  go_wp2_with fail
  refine HJ.out.mono ?_
  rintro e w1 ⟨A, k, c, es, p, d, z, rfl, h1, h2, h3, h4⟩
  have HH := Lib.hid (And.intro h1 (And.intro h2 (And.intro h3 h4)))
  clear h1 h2 h3 h4
  go_wp2_with fail
  refine bodyPost_ret (v := .tuple #[.slice A k c, .int .i64 p, .int .i64 z]) (by simp [results, Tryz.results17, go_sem]) rfl ?_
  exact ⟨A, k, c, es, p, z, rfl, HH.out.1, HH.out.2.1, HH.out.2.2.1, HH.out.2.2.2⟩
end Go.Proofs.YthomflbjijjhaaaGreatDoor
