/-
  Several texts in one: garmentref18.size, row. Conditions: slices of at most 1,000,000 rows. garmentref18.sum, value. Conditions: steps of at most 100, numbers of at most 100 limbs. (Printed by gen_rh4.py.) garmentref18.value, Value, Change. Conditions: those of Check, numbers of at most 100 limbs. (Printed by gen_rh5.py.)
-/
import Derived.Test.YtjiccijfbpkliaaGreatDoorG22
import Derived.Test.YtjiccijfbpkliaaGreatDoorG25
import Derived.Test.YtjiccijfbpkliaaGreatDoorG26

/- garmentref18.size, row. Conditions: slices of at most 1,000,000 rows. -/
namespace Go.Proofs.YtjiccijfbpkliaaGreatDoor
open Go.RowKit
open Go.Lib hiding intOf

theorem hidx_any (S : Option Addr) (n c : Nat) (bs : Int) (R : Option Addr) (m d : Nat) (i : Int) (w : World) :
    Calls Tryz.prog 46 #[.agg #[.slice S n c, .int .i64 bs, .slice R m d], .int .i64 i] w fun e w' => e = .returned (.bool (decide (0 ≤ i) && decide (i < (n : Int)))) ∧ Below w.heap.size w w' := by
  have HB : Hid (Below w.heap.size w (w.alloc (.cells #[.slice S n c, .int .i64 bs, .slice R m d] 25))) := (Below.refl _ _).alloc (Nat.le_refl _) _
  by_cases h0 : 0 ≤ i
  · by_cases h1 : i < (n : Int)
    · go_enter Tryz.func46, Tryz.ntmps46
      go_wp2
      go_ret
      exact ⟨by simp [h0, h1], HB.out⟩
    · go_enter Tryz.func46, Tryz.ntmps46
      go_wp2
      go_ret
      exact ⟨by simp [h1], HB.out⟩
  · have HD : Hid ((decide (0 ≤ i) && decide (i < (n : Int))) = false) := by rw [Hid, Bool.and_eq_false_iff]; left; simp; omega
    go_enter Tryz.func46, Tryz.ntmps46
    go_wp2
    go_ret
    exact ⟨by rw [HD.out]; rfl, HB.out⟩

set_option maxRecDepth 100000 in
set_option maxHeartbeats 1600000 in
theorem hrow_any (S : Option Addr) (n c : Nat) (R : Option Addr) (m d k : Nat) (ch : PChart) (x : ByteArray) (w : World) (ha : RowsA w R m k ch.rows) (hm : m ≤ 1000000) :
    Calls Tryz.prog 47 #[.agg #[.slice S n c, .int .i64 ch.base, .slice R m d], .string x] w (RetFound ch.rows x w) := by
  have hB : Below w.heap.size w (w.alloc (.cells #[.slice S n c, .int .i64 ch.base, .slice R m d] 25)) := (Below.refl _ _).alloc (Nat.le_refl _) _
  have HA := Lib.hid (ha.on hB)
  have HL := Lib.hid ha.len
  have HB := Lib.hid hB
  clear ha hB
  go_enter Tryz.func47, Tryz.ntmps47
  go_wp2
  go_loop [5] (fun i => ∃ k : Nat, k ≤ m ∧ i = .int .i64 (k : Int) ∧ Hid (∀ (j : Nat) (r' : PRow), j < k → ch.rows[j]? = some r' → r'.name ≠ x)) (fun i => m - (intOf i).toNat)
  case atStart => exact ⟨0, Nat.zero_le _, rfl, fun j r h => by omega⟩
  case round =>
    obtain ⟨k1, hk, rfl, hno⟩ := hrel
    by_cases hlt : k1 < m
    · obtain ⟨b, off, r, neg, C, cm, c1, D, l, d1, T, sn, sc, rfl, hbw, hr, g0, g1, g2, g3, g4, _, _, _⟩ := HA.out.at_ hlt
      have i1 : (0 : Int) ≤ (k1 : Int) := by omega
      have i2 : (k1 : Int) < (m : Int) := by omega
      have HR := Lib.hid hr
      clear hr g1 g2 g3 g4
      by_cases he : r.name = x
      · have hq : (r.name.toList == x.toList) = true := by rw [he]; simp
        have HE := Lib.hid he
        clear he
        go_wp2_with fail
        go_ret
        exact ⟨(k1 : Int), rfl, .inr ⟨k1, r, rfl, HR.out, HE.out, hno.out⟩, HB.out⟩
      · have hq := toList_ne he
        have HE : Hid (∀ (j : Nat) (r' : PRow), j < k1 + 1 → ch.rows[j]? = some r' → r'.name ≠ x) := fun j r' hj hr' => by
          by_cases e : j = k1
          · subst e
            rw [HR.out] at hr'
            rw [← Option.some.inj hr']
            exact he
          · exact hno.out j r' (by omega) hr'
        clear he
        go_wp2_with fail
        go_round
        case rel => exact ⟨k1 + 1, by omega, by go_num, HE⟩
        case measure => simp [intOf]; omega
    · go_wp2_with fail
      go_ret
      exact ⟨-1, rfl, .inl ⟨rfl, fun j r hr => hno.out j r (by have := (List.getElem?_eq_some_iff.1 hr).1; rw [HL.out] at this; omega) hr⟩, HB.out⟩
end Go.Proofs.YtjiccijfbpkliaaGreatDoor

/- garmentref18.sum, value. Conditions: steps of at most 100, numbers of at most 100 limbs. (Printed by gen_rh4.py.) -/
namespace Go.Proofs.YtjiccijfbpkliaaGreatDoor
open Go.RowKit

theorem whole0 (w : World) : Calls Tryz.prog 44 #[.int .i64 0] w (RetQ 0 w) := kwhole_nat 0 w (by omega)
theorem chg_pred (s : List Rat) (a b : Nat) : chg s (a + 1) b = chg s a b - s.getD (a + 1) 0 := by
  unfold chg
  rw [show pre s (a + 1) = pre s a + s.getD (a + 1) 0 from rfl]
  grind
/-- What sum's second loop keeps. -/
def subRel2 (s : List Rat) (b g : Nat) (row : Array Value) (w : World) (N : Nat) (s8 : Value) (wr : World) : Prop :=
  ∃ (i : Nat) (A : Option Addr) (n c : Nat) (B : Option Addr) (m d : Nat), s8 = .int .i64 (i : Int) ∧ b + 1 ≤ i ∧ i ≤ N + 1 ∧ Blk wr g 36 #[.bool (ineg (chg s (i - 1) b).num), .slice A n c, .slice B m d] ∧ Sl wr wr.heap.size A n (u32s (limbs (chg s (i - 1) b).num.natAbs)) ∧ n ≤ c ∧ Sl wr wr.heap.size B m (u32s (limbs (chg s (i - 1) b).den)) ∧ m ≤ d ∧
    Blk wr w.heap.size 57 row ∧ Blk wr (w.heap.size + 1) 36 #[.bool false, .slice none 0 0, .slice none 0 0] ∧ Below w.heap.size w wr
set_option maxRecDepth 100000 in
set_option maxHeartbeats 6400000 in
theorem hsum_le (v : Value) (k : Nat) (r : PRow) (a b : Nat) (w : World) (h : RowA w v k r) (hk : 1 ≤ k) (hk2 : k ≤ 100) (hab : a ≤ b) (hb : b < r.steps.length) (hl : r.steps.length ≤ 100) :
    Calls Tryz.prog 52 #[v, .int .i64 (a : Int), .int .i64 (b : Int)] w (RetQ (chg r.steps a b) w) := by
  obtain ⟨neg, C, cm, cc, D, dl, dd, T, sn, sc, rfl, hba, hst, hsc⟩ := h
  have hsl := hst.len
  have HST := Lib.hid hst
  have hB : Below w.heap.size w ((w.alloc (.cells #[.string r.name, .bool neg, .slice C cm cc, .slice D dl dd, .slice T sn sc] 57)).alloc (.cells #[.bool false, .slice none 0 0, .slice none 0 0] 36)) := ((Below.refl _ _).alloc (Nat.le_refl _) _).alloc (by simp) _
  have X0 : Blk ((w.alloc (.cells #[.string r.name, .bool neg, .slice C cm cc, .slice D dl dd, .slice T sn sc] 57)).alloc (.cells #[.bool false, .slice none 0 0, .slice none 0 0] 36)) w.heap.size 57 #[.string r.name, .bool neg, .slice C cm cc, .slice D dl dd, .slice T sn sc] := (Blk.new w _ _).alloc _
  have Y0 : Blk ((w.alloc (.cells #[.string r.name, .bool neg, .slice C cm cc, .slice D dl dd, .slice T sn sc] 57)).alloc (.cells #[.bool false, .slice none 0 0, .slice none 0 0] 36)) (w.heap.size + 1) 36 #[.bool false, .slice none 0 0, .slice none 0 0] := Blk.new' _ _ _ (by simp)
  have hnlt : ¬ b + 1 ≤ a := by omega
  have hnlt2 : ¬ (b : Int) + 1 ≤ (a : Int) := by omega
  have HSL := Lib.hid hsl
  have hsn : b < sn := by omega
  have hsn2 : sn ≤ 100 := by omega
  clear hba hst hsl
  go_enter Tryz.func52, Tryz.ntmps52
  go_wp2_with fail
  refine (whole0 _).mono ?_
  rintro e w1 ⟨A1, n1, c1, B1, m1, d1, rfl, r1, r2, r3, r4, hb1⟩
  have HG := Lib.hid (Blk.new w1 36 #[.bool (ineg (0 : Rat).num), .slice A1 n1 c1, .slice B1 m1 d1])
  have HX := Lib.hid ((X0.below hb1).alloc (.cells #[.bool (ineg (0 : Rat).num), .slice A1 n1 c1, .slice B1 m1 d1] 36))
  have HY := Lib.hid ((Y0.below hb1).alloc (.cells #[.bool (ineg (0 : Rat).num), .slice A1 n1 c1, .slice B1 m1 d1] 36))
  have HB := Lib.hid (Below.alo (hB.trans (hb1.mono hB.size)) (.cells #[.bool (ineg (0 : Rat).num), .slice A1 n1 c1, .slice B1 m1 d1] 36))
  have HS := Lib.hid (And.intro (r1.alo (.cells #[.bool (ineg (0 : Rat).num), .slice A1 n1 c1, .slice B1 m1 d1] 36)) (r3.alo (.cells #[.bool (ineg (0 : Rat).num), .slice A1 n1 c1, .slice B1 m1 d1] 36)))
  have hg1 : w.heap.size + 1 < w1.heap.size := by have := hb1.size; simp at this; omega
  clear X0 Y0 hb1 hB r1 r3
  go_wp2_with fail
  go_loopw [8] (fun s8 wr => sumRel r.steps a w1.heap.size #[.string r.name, .bool neg, .slice C cm cc, .slice D dl dd, .slice T sn sc] w b s8 wr) (fun s8 _ => b + 1 - (intOf s8).toNat)
  case atStart => exact ⟨a + 1, A1, n1, c1, B1, m1, d1, by go_num, by omega, by omega, by rw [Nat.add_sub_cancel, chg_self]; exact HG.out, by rw [Nat.add_sub_cancel, chg_self]; exact HS.out.1, r2, by rw [Nat.add_sub_cancel, chg_self]; exact HS.out.2, r4, HX.out, HY.out, HB.out⟩
  case round =>
    clear HG HX HY HB HS
    obtain ⟨i, A2, n2, c2, B2, m2, d2, rfl, hi1, hi2, hG, s1, e1, s2, e2, hX, hY, hbel⟩ := hrel
    by_cases hlt : i ≤ b
    · obtain ⟨b2, off2, q, ng, E, em, ec, F, fl, fd, rfl, hb2w, hq, z0, z1, z2, hqa⟩ := (HST.out.on hbel).at_ (j := i) (by omega)
      have hstep : chg r.steps a i = chg r.steps a (i - 1) + q := by
        obtain ⟨i0, rfl⟩ : ∃ i0, i = i0 + 1 := ⟨i - 1, by omega⟩
        rw [Nat.add_sub_cancel, chg_succ, List.getD_eq_getElem?_getD, hq]
        rfl
      have hqk := qk_chg hk (HST.out.qk hk) a (i - 1)
      have hkk : (k + 1) * (i - 1 + 1) + (k + 1) * (a + 1) + 1 ≤ 40000 := by
        have h1 : (k + 1) * (i - 1 + 1) ≤ 101 * 101 := Nat.mul_le_mul (by omega) (by omega)
        have h2 : (k + 1) * (a + 1) ≤ 101 * 101 := Nat.mul_le_mul (by omega) (by omega)
        omega
      have hqk := hqk.mono hkk
      generalize hp : chg r.steps a (i - 1) = p at *
      obtain ⟨f0, f1, f2⟩ := three' hG
      have x4 := hX.c (i := 4) rfl
      have HAd := Lib.hid (fun W (hW : Below wr.heap.size wr W) => kadd_any _ _ 40000 k p q W ((RatA.of s1 e1 s2 e2 hqk).on hW) (hqa.on hW) (by omega) hk (by omega) (by omega))
      have j1 : (0 : Int) ≤ (i : Int) := by omega
      have j2 : (i : Int) < (sn : Int) := by omega
      have hgl := hG.lt
      have HGX := Lib.hid (And.intro hG (And.intro hX hY))
      have HBL := Lib.hid hbel
      have HQ := Lib.hid hstep
      have HP := Lib.hid hp
      clear hq hqk hkk hG hX hY s1 s2 hqa hstep hp hbel
      go_wp2_with fail
      go_region_with ((go_at_call 86; go_must ((refine (HAd.out _ (by repeat (first | (with_reducible exact Below.refl _ _) | (with_reducible refine Below.drew ?_)))).mono ?_); rintro e w3 ⟨A3, n3, c3, B3, m3, d3, rfl, t1, t2, t3, t4, hb3⟩; have HB3 := Lib.hid (show Below wr.heap.size wr w3 from ⟨hb3.os, hb3.tape, hb3.output, hb3.size, hb3.block⟩); have G3 := HGX.out.1.below HB3.out; have HT3 := Lib.hid (And.intro t1 t3); have k0 := G3.c (i := 0) rfl; have k1 := G3.c (i := 1) rfl; have k2 := G3.c (i := 2) rfl; have y0 := G3.frozen 0; have y1 := G3.frozen 1; have y2 := G3.frozen 2; clear hb3 t1 t3 G3)))
      all_goals
        go_wp2_with fail
        go_roundw
        case rel =>
          have hG3 := HGX.out.1.below HB3.out
          have hN := NoU.blk hG3 (by simp)
          have hX3 := HGX.out.2.1.below HB3.out
          have hY3 := HGX.out.2.2.below HB3.out
          refine ⟨i + 1, A3, n3, c3, B3, m3, d3, by go_num, by omega, by omega, ?_, ?_, t2, ?_, t4, hX3.far3 (by omega) _ _ _, hY3.far3 (by omega) _ _ _, below3 (HBL.out.trans (HB3.out.mono HBL.out.size)) (by omega) _ _ _⟩
          · rw [Nat.add_sub_cancel, HQ.out]; exact hG3.put3 _ _ _
          · rw [Nat.add_sub_cancel, HQ.out]; exact HT3.out.1.no3 hN _
          · rw [Nat.add_sub_cancel, HQ.out]; exact HT3.out.2.no3 hN _
        case measure => simp [intOf]; omega
    · obtain rfl : i = b + 1 := by omega
      rw [Nat.add_sub_cancel] at hG s1 s2
      obtain ⟨f0, f1, f2⟩ := three' hG
      obtain ⟨k0, k1, k2⟩ := three' hY
      have y0 := hY.frozen 0
      have y1 := hY.frozen 1
      have y2 := hY.frozen 2
      have HF := Lib.hid (rat_end s1 e1 s2 e2 hY (by simp) hbel (by omega))
      clear hG hX hY s1 s2 hbel
      go_wp2_with fail
      go_loop [9] (fun s9 => s9 = .int .i64 ((b : Int) + 1)) (fun _ => 0)
      case atStart => exact rfl
      case round =>
        subst hrel
        go_wp2_with fail
        refine bodyPost_ret (v := .agg #[.bool (ineg (chg r.steps a b).num), .slice A2 n2 c2, .slice B2 m2 d2]) (by simp [results, Tryz.results52, go_sem, k0, k1, k2]) rfl ?_
        exact HF.out

set_option maxRecDepth 100000 in
set_option maxHeartbeats 6400000 in
theorem hsum_gt (v : Value) (k : Nat) (r : PRow) (a b : Nat) (w : World) (h : RowA w v k r) (hk : 1 ≤ k) (hk2 : k ≤ 100) (hab : b < a) (hb : a < r.steps.length) (hl : r.steps.length ≤ 100) :
    Calls Tryz.prog 52 #[v, .int .i64 (a : Int), .int .i64 (b : Int)] w (RetQ (chg r.steps a b) w) := by
  obtain ⟨neg, C, cm, cc, D, dl, dd, T, sn, sc, rfl, hba, hst, hsc⟩ := h
  have hsl := hst.len
  have HST := Lib.hid hst
  have hB : Below w.heap.size w ((w.alloc (.cells #[.string r.name, .bool neg, .slice C cm cc, .slice D dl dd, .slice T sn sc] 57)).alloc (.cells #[.bool false, .slice none 0 0, .slice none 0 0] 36)) := ((Below.refl _ _).alloc (Nat.le_refl _) _).alloc (by simp) _
  have X0 : Blk ((w.alloc (.cells #[.string r.name, .bool neg, .slice C cm cc, .slice D dl dd, .slice T sn sc] 57)).alloc (.cells #[.bool false, .slice none 0 0, .slice none 0 0] 36)) w.heap.size 57 #[.string r.name, .bool neg, .slice C cm cc, .slice D dl dd, .slice T sn sc] := (Blk.new w _ _).alloc _
  have Y0 : Blk ((w.alloc (.cells #[.string r.name, .bool neg, .slice C cm cc, .slice D dl dd, .slice T sn sc] 57)).alloc (.cells #[.bool false, .slice none 0 0, .slice none 0 0] 36)) (w.heap.size + 1) 36 #[.bool false, .slice none 0 0, .slice none 0 0] := Blk.new' _ _ _ (by simp)
  have hnlt : ¬ a + 1 ≤ b := by omega
  have hnlt2 : ¬ (a : Int) + 1 ≤ (b : Int) := by omega
  have HSL := Lib.hid hsl
  have hsn : a < sn := by omega
  have hsn2 : sn ≤ 100 := by omega
  clear hba hst hsl
  go_enter Tryz.func52, Tryz.ntmps52
  go_wp2_with fail
  refine (whole0 _).mono ?_
  rintro e w1 ⟨A1, n1, c1, B1, m1, d1, rfl, r1, r2, r3, r4, hb1⟩
  have HG := Lib.hid (Blk.new w1 36 #[.bool (ineg (0 : Rat).num), .slice A1 n1 c1, .slice B1 m1 d1])
  have HX := Lib.hid ((X0.below hb1).alloc (.cells #[.bool (ineg (0 : Rat).num), .slice A1 n1 c1, .slice B1 m1 d1] 36))
  have HY := Lib.hid ((Y0.below hb1).alloc (.cells #[.bool (ineg (0 : Rat).num), .slice A1 n1 c1, .slice B1 m1 d1] 36))
  have HB := Lib.hid (Below.alo (hB.trans (hb1.mono hB.size)) (.cells #[.bool (ineg (0 : Rat).num), .slice A1 n1 c1, .slice B1 m1 d1] 36))
  have HS := Lib.hid (And.intro (r1.alo (.cells #[.bool (ineg (0 : Rat).num), .slice A1 n1 c1, .slice B1 m1 d1] 36)) (r3.alo (.cells #[.bool (ineg (0 : Rat).num), .slice A1 n1 c1, .slice B1 m1 d1] 36)))
  have hg1 : w.heap.size + 1 < w1.heap.size := by have := hb1.size; simp at this; omega
  clear X0 Y0 hb1 hB r1 r3
  go_wp2_with fail
  go_loop [8] (fun s8 => s8 = .int .i64 ((a : Int) + 1)) (fun _ => 0)
  case atStart => exact rfl
  case round =>
   subst hrel
   go_wp2_with fail
   go_loopw [9] (fun s8 wr => subRel2 r.steps b w1.heap.size #[.string r.name, .bool neg, .slice C cm cc, .slice D dl dd, .slice T sn sc] w a s8 wr) (fun s8 _ => a + 1 - (intOf s8).toNat)
   case atStart => exact ⟨b + 1, A1, n1, c1, B1, m1, d1, by go_num, by omega, by omega, by rw [Nat.add_sub_cancel, chg_self]; exact HG.out, by rw [Nat.add_sub_cancel, chg_self]; exact HS.out.1, r2, by rw [Nat.add_sub_cancel, chg_self]; exact HS.out.2, r4, HX.out, HY.out, HB.out⟩
   case round =>
     clear HG HX HY HB HS
     obtain ⟨i, A2, n2, c2, B2, m2, d2, rfl, hi1, hi2, hG, s1, e1, s2, e2, hX, hY, hbel⟩ := hrel
     by_cases hlt : i ≤ a
     · obtain ⟨b2, off2, q, ng, E, em, ec, F, fl, fd, rfl, hb2w, hq, z0, z1, z2, hqa⟩ := (HST.out.on hbel).at_ (j := i) (by omega)
       have hstep : chg r.steps i b = chg r.steps (i - 1) b - q := by
         obtain ⟨i0, rfl⟩ : ∃ i0, i = i0 + 1 := ⟨i - 1, by omega⟩
         rw [Nat.add_sub_cancel, chg_pred, List.getD_eq_getElem?_getD, hq]
         rfl
       have hqk := qk_chg hk (HST.out.qk hk) (i - 1) b
       have hkk : (k + 1) * (b + 1) + (k + 1) * (i - 1 + 1) + 1 ≤ 40000 := by
         have h1 : (k + 1) * (i - 1 + 1) ≤ 101 * 101 := Nat.mul_le_mul (by omega) (by omega)
         have h2 : (k + 1) * (b + 1) ≤ 101 * 101 := Nat.mul_le_mul (by omega) (by omega)
         omega
       have hqk := hqk.mono hkk
       generalize hp : chg r.steps (i - 1) b = p at *
       obtain ⟨f0, f1, f2⟩ := three' hG
       have x4 := hX.c (i := 4) rfl
       have HAd := Lib.hid (fun W (hW : Below wr.heap.size wr W) => ksub_any _ _ 40000 k p q W ((RatA.of s1 e1 s2 e2 hqk).on hW) (hqa.on hW) (by omega) hk (by omega) (by omega))
       have j1 : (0 : Int) ≤ (i : Int) := by omega
       have j2 : (i : Int) < (sn : Int) := by omega
       have hgl := hG.lt
       have HGX := Lib.hid (And.intro hG (And.intro hX hY))
       have HBL := Lib.hid hbel
       have HQ := Lib.hid hstep
       have HP := Lib.hid hp
       clear hq hqk hkk hG hX hY s1 s2 hqa hstep hp hbel
       go_wp2_with fail
       go_region_with ((go_at_call 88; go_must ((refine (HAd.out _ (by repeat (first | (with_reducible exact Below.refl _ _) | (with_reducible refine Below.drew ?_)))).mono ?_); rintro e w3 ⟨A3, n3, c3, B3, m3, d3, rfl, t1, t2, t3, t4, hb3⟩; have HB3 := Lib.hid (show Below wr.heap.size wr w3 from ⟨hb3.os, hb3.tape, hb3.output, hb3.size, hb3.block⟩); have G3 := HGX.out.1.below HB3.out; have HT3 := Lib.hid (And.intro t1 t3); have k0 := G3.c (i := 0) rfl; have k1 := G3.c (i := 1) rfl; have k2 := G3.c (i := 2) rfl; have y0 := G3.frozen 0; have y1 := G3.frozen 1; have y2 := G3.frozen 2; clear hb3 t1 t3 G3)))
       all_goals
         go_wp2_with fail
         go_roundw
         case rel =>
           have hG3 := HGX.out.1.below HB3.out
           have hN := NoU.blk hG3 (by simp)
           have hX3 := HGX.out.2.1.below HB3.out
           have hY3 := HGX.out.2.2.below HB3.out
           refine ⟨i + 1, A3, n3, c3, B3, m3, d3, by go_num, by omega, by omega, ?_, ?_, t2, ?_, t4, hX3.far3 (by omega) _ _ _, hY3.far3 (by omega) _ _ _, below3 (HBL.out.trans (HB3.out.mono HBL.out.size)) (by omega) _ _ _⟩
           · rw [Nat.add_sub_cancel, HQ.out]; exact hG3.put3 _ _ _
           · rw [Nat.add_sub_cancel, HQ.out]; exact HT3.out.1.no3 hN _
           · rw [Nat.add_sub_cancel, HQ.out]; exact HT3.out.2.no3 hN _
         case measure => simp [intOf]; omega
     · obtain rfl : i = a + 1 := by omega
       rw [Nat.add_sub_cancel] at hG s1 s2
       obtain ⟨f0, f1, f2⟩ := three' hG
       obtain ⟨k0, k1, k2⟩ := three' hY
       have y0 := hY.frozen 0
       have y1 := hY.frozen 1
       have y2 := hY.frozen 2
       have HF := Lib.hid (rat_end s1 e1 s2 e2 hY (by simp) hbel (by omega))
       clear hG hX hY s1 s2 hbel
       go_wp2_with fail
       refine bodyPost_ret (v := .agg #[.bool (ineg (chg r.steps a b).num), .slice A2 n2 c2, .slice B2 m2 d2]) (by simp [results, Tryz.results52, go_sem, k0, k1, k2]) rfl ?_
       exact HF.out


theorem hsum_any (v : Value) (k : Nat) (r : PRow) (a b : Nat) (w : World) (h : RowA w v k r) (hk : 1 ≤ k) (hk2 : k ≤ 100) (ha : a < r.steps.length) (hb : b < r.steps.length) (hl : r.steps.length ≤ 100) :
    Calls Tryz.prog 52 #[v, .int .i64 (a : Int), .int .i64 (b : Int)] w (RetQ (chg r.steps a b) w) := by
  by_cases hab : a ≤ b
  · exact hsum_le v k r a b w h hk hk2 hab hb hl
  · exact hsum_gt v k r a b w h hk hk2 (by omega) ha hl
end Go.Proofs.YtjiccijfbpkliaaGreatDoor

/- garmentref18.value, Value, Change. Conditions: those of Check, numbers of at most 100 limbs. (Printed by gen_rh5.py.) -/
namespace Go.Proofs.YtjiccijfbpkliaaGreatDoor
open Go.RowKit

set_option maxRecDepth 100000 in
set_option maxHeartbeats 3200000 in
theorem hvalue_any (S : Option Addr) (n c : Nat) (R : Option Addr) (m d : Nat) (bs : Nat) (v : Value) (k : Nat) (r : PRow) (b : Nat) (w : World) (h : RowA w v k r) (hk : 1 ≤ k) (hk2 : k ≤ 100) (ha : bs < r.steps.length) (hb : b < r.steps.length) (hl : r.steps.length ≤ 100) :
    Calls Tryz.prog 48 #[.agg #[.slice S n c, .int .i64 (bs : Int), .slice R m d], v, .int .i64 (b : Int)] w (RetQ (r.base + chg r.steps bs b) w) := by
  have H := fun W (hB : Below w.heap.size w W) => hsum_any v k r bs b W (h.on hB) hk hk2 ha hb hl
  obtain ⟨neg, C, cm, cc, D, dl, dd, T, sn, sc, rfl, hba, hst, hsc⟩ := h
  have hqk := qk_chg hk (hst.qk hk) bs b
  have hkk : (k + 1) * (b + 1) + (k + 1) * (bs + 1) + 1 ≤ 40000 := by
    have h1 : (k + 1) * (b + 1) ≤ 101 * 101 := Nat.mul_le_mul (by omega) (by omega)
    have h2 : (k + 1) * (bs + 1) ≤ 101 * 101 := Nat.mul_le_mul (by omega) (by omega)
    omega
  have hqk := hqk.mono hkk
  have H := Lib.hid H
  have HBA := Lib.hid hba
  have hB : Below w.heap.size w (((w.alloc (.cells #[.slice S n c, .int .i64 (bs : Int), .slice R m d] 25)).alloc (.cells #[.string r.name, .bool neg, .slice C cm cc, .slice D dl dd, .slice T sn sc] 57)).alloc (.cells #[.bool false, .slice none 0 0, .slice none 0 0] 36)) := (((Below.refl _ _).alloc (Nat.le_refl _) _).alloc (by simp) _).alloc (by simp; omega) _
  have X0 : Blk (((w.alloc (.cells #[.slice S n c, .int .i64 (bs : Int), .slice R m d] 25)).alloc (.cells #[.string r.name, .bool neg, .slice C cm cc, .slice D dl dd, .slice T sn sc] 57)).alloc (.cells #[.bool false, .slice none 0 0, .slice none 0 0] 36)) w.heap.size 25 #[.slice S n c, .int .i64 (bs : Int), .slice R m d] := ((Blk.new w _ _).alloc _).alloc _
  have Y0 : Blk (((w.alloc (.cells #[.slice S n c, .int .i64 (bs : Int), .slice R m d] 25)).alloc (.cells #[.string r.name, .bool neg, .slice C cm cc, .slice D dl dd, .slice T sn sc] 57)).alloc (.cells #[.bool false, .slice none 0 0, .slice none 0 0] 36)) (w.heap.size + 1) 57 #[.string r.name, .bool neg, .slice C cm cc, .slice D dl dd, .slice T sn sc] := (Blk.new' (w.alloc (.cells #[.slice S n c, .int .i64 (bs : Int), .slice R m d] 25)) _ _ (by simp)).alloc _
  have Z0 : Blk (((w.alloc (.cells #[.slice S n c, .int .i64 (bs : Int), .slice R m d] 25)).alloc (.cells #[.string r.name, .bool neg, .slice C cm cc, .slice D dl dd, .slice T sn sc] 57)).alloc (.cells #[.bool false, .slice none 0 0, .slice none 0 0] 36)) (w.heap.size + 1 + 1) 36 #[.bool false, .slice none 0 0, .slice none 0 0] := Blk.new' _ _ _ (by simp)
  have HX := Lib.hid X0
  have HY := Lib.hid Y0
  have HZ := Lib.hid Z0
  have HB := Lib.hid hB
  have ne0 : ¬ w.heap.size + 1 + 1 = w.heap.size := by omega
  have ne1 : ¬ w.heap.size = w.heap.size + 1 + 1 := by omega
  have ne2 : ¬ w.heap.size + 1 + 1 = w.heap.size + 1 := by omega
  have ne3 : ¬ w.heap.size + 1 = w.heap.size + 1 + 1 := by omega
  clear hba hst X0 Y0 Z0 hB
  go_enter Tryz.func48, Tryz.ntmps48
  go_upto_region 1 with fail
  go_region_held3 (fun w' => w'.cell? ⟨w.heap.size + 1, 0, none⟩ = some (.string r.name) ∧ w'.cell? ⟨w.heap.size + 1, 1, none⟩ = some (.bool neg) ∧ w'.cell? ⟨w.heap.size + 1, 2, none⟩ = some (.slice C cm cc) ∧ w'.cell? ⟨w.heap.size + 1, 3, none⟩ = some (.slice D dl dd) ∧ w'.cell? ⟨w.heap.size + 1, 4, none⟩ = some (.slice T sn sc) ∧ w'.cell? ⟨w.heap.size, 1, none⟩ = some (.int .i64 (bs : Int)))
    (go_keep)
    (first
    | (go_at_call 52; go_must ((refine (H.out _ (by exact HB.out.drew)).mono ?_); rintro e w3 ⟨A3, n3, c3, B3, m3, d3, rfl, r1, r2, r3, r4, hb3⟩; have HB3 := Lib.hid (HB.out.trans (Below.mono (w' := w3) ⟨hb3.os, hb3.tape, hb3.output, hb3.size, hb3.block⟩ HB.out.size)); have X3 := HX.out.below (w' := w3) ⟨hb3.os, hb3.tape, hb3.output, hb3.size, hb3.block⟩; have Y3 := HY.out.below (w' := w3) ⟨hb3.os, hb3.tape, hb3.output, hb3.size, hb3.block⟩; have HZ3 := Lib.hid (HZ.out.below (w' := w3) ⟨hb3.os, hb3.tape, hb3.output, hb3.size, hb3.block⟩); have u1 := X3.c (i := 1) rfl; have q0 := Y3.c (i := 0) rfl; have q1 := Y3.c (i := 1) rfl; have q2 := Y3.c (i := 2) rfl; have q3 := Y3.c (i := 3) rfl; have q4 := Y3.c (i := 4) rfl; have HX3 := Lib.hid X3; have HY3 := Lib.hid Y3; have HR3 := Lib.hid (RatA.of r1 r2 r3 r4 hqk); clear r1 r3 hb3 X3 Y3))
    | (go_at_call 86; go_must ((refine (kadd_any _ _ k 40000 r.base _ _ (HBA.out.on HB3.out) HR3.out hk (by omega) (by omega) (by omega)).mono ?_); rintro e w4 ⟨A4, n4, c4, B4, m4, d4, rfl, r5, r6, r7, r8, hb4⟩; have X4 := HX3.out.below hb4; have Y4 := HY3.out.below hb4; have Z4 := HZ3.out.below hb4; have HF := Lib.hid (rat_end r5 r6 r7 r8 Z4 (by simp) (HB3.out.trans (hb4.mono HB3.out.size)) (by omega)); have v1 := X4.c (i := 1) rfl; have p0 := Y4.c (i := 0) rfl; have p1 := Y4.c (i := 1) rfl; have p2 := Y4.c (i := 2) rfl; have p3 := Y4.c (i := 3) rfl; have p4 := Y4.c (i := 4) rfl; have k0 := Z4.c (i := 0) rfl; have k1 := Z4.c (i := 1) rfl; have k2 := Z4.c (i := 2) rfl; have y0 := Z4.frozen 0; have y1 := Z4.frozen 1; have y2 := Z4.frozen 2; clear r5 r7 X4 Y4 Z4 hb4)))
  go_wp2_with fail
  refine bodyPost_ret (v := .agg #[.bool (ineg (r.base + chg r.steps bs b).num), .slice A4 n4 c4, .slice B4 m4 d4]) (by simp [results, Tryz.results48, go_sem, k0, k1, k2]) rfl ?_
  exact HF.out
set_option maxRecDepth 100000 in
set_option maxHeartbeats 6400000 in
theorem hValue_any (S : Option Addr) (n c : Nat) (R : Option Addr) (m d k : Nat) (ch : PChart) (size : Int) (x : ByteArray) (w : World) (h : ChkA w S n c R m d k ch) (hk2 : k ≤ 100) :
    Calls Tryz.prog 18 #[.agg #[.slice S n c, .int .i64 ch.base, .slice R m d], .int .i64 size, .string x] w (RetVal ch size x w) := by
  obtain ⟨z0, hz0⟩ := Found.ex ch.rows x
  have hsl := h.slen
  have hrl := h.rlen
  have hB : Below w.heap.size w ((w.alloc (.cells #[.slice S n c, .int .i64 ch.base, .slice R m d] 25)).alloc (.cells #[.bool false, .slice none 0 0, .slice none 0 0] 36)) := ((Below.refl _ _).alloc (Nat.le_refl _) _).alloc (by simp) _
  have X0 : Blk ((w.alloc (.cells #[.slice S n c, .int .i64 ch.base, .slice R m d] 25)).alloc (.cells #[.bool false, .slice none 0 0, .slice none 0 0] 36)) w.heap.size 25 #[.slice S n c, .int .i64 ch.base, .slice R m d] := (Blk.new w _ _).alloc _
  have Y0 : Blk ((w.alloc (.cells #[.slice S n c, .int .i64 ch.base, .slice R m d] 25)).alloc (.cells #[.bool false, .slice none 0 0, .slice none 0 0] 36)) (w.heap.size + 1) 36 #[.bool false, .slice none 0 0, .slice none 0 0] := Blk.new' _ _ _ (by simp)
  have HA := Lib.hid h
  have HC := fun W (hb : Below w.heap.size w W) => hcheck_any S n c R m d k ch W (h.on hb)
  obtain ⟨E, hE⟩ : ∃ E, chkP ch = E := ⟨_, rfl⟩
  simp only [hE] at HC
  have HC := Lib.hid HC
  have HE := Lib.hid hE
  have HZ0 := Lib.hid hz0
  have HL := Lib.hid (And.intro hsl hrl)
  have n1 := h.len
  have m1 := h.lenr
  clear h hsl hrl hE hz0
  go_enter Tryz.func18, Tryz.ntmps18
  go_wp2_with fail
  refine (HC.out _ hB).mono ?_
  rintro e w1 ⟨rfl, hb1⟩
  have X1 := X0.below hb1
  have Y1 := Y0.below hb1
  have B1 := hB.trans (hb1.mono hB.size)
  obtain ⟨x0, x1, x2⟩ := three X1
  obtain ⟨k0, k1, k2⟩ := three Y1
  have y0 := Y1.frozen 0
  have y1 := Y1.frozen 1
  have y2 := Y1.frozen 2
  clear X0 Y0 hB hb1
  by_cases hE0 : E = 0
  · subst hE0
    have hck := chk_zero HE.out
    have HCK := Lib.hid hck
    have HI := hidx_any S n c ch.base R m d size w1
    rw [← idx_iff HL.out.1] at HI
    clear hck
    cases hq : isIdx ch size
    · have HV : Hid (valErr ch size z0 = 3) := by rw [Hid, valErr, HE.out, if_neg (by simp), if_pos hq]
      rw [hq] at HI
      have HI := Lib.hid HI
      have HX1 := Lib.hid X1
      have HY1 := Lib.hid Y1
      clear hq X1 Y1
      go_wp2_with fail
      refine HI.out.mono ?_
      rintro e w2 ⟨rfl, hb2⟩
      have Y2 := HY1.out.below hb2
      obtain ⟨k0, k1, k2⟩ := three Y2
      have y0 := Y2.frozen 0
      have y1 := Y2.frozen 1
      have y2 := Y2.frozen 2
      clear Y2
      go_wp2_with fail
      refine bodyPost_ret (v := .tuple #[.agg #[.bool false, .slice none 0 0, .slice none 0 0], .int .i64 3]) (by simp [results, Tryz.results18, go_sem, k0, k1, k2]) rfl ?_
      refine ⟨z0, HZ0.out, ?_⟩
      rw [HV.out]
      exact RetQE.bad (by omega) (below3 (B1.trans (hb2.mono B1.size)) (by omega) _ _ _)
    · have hqi := isIdx_iff.1 hq
      obtain ⟨sz, rfl⟩ : ∃ sz : Nat, size = (sz : Int) := ⟨size.toNat, by omega⟩
      have HV : Hid (∀ z, valErr ch (sz : Int) z = if z < 0 then 6 else 0) := fun z => by rw [valErr, HE.out, if_neg (by simp), if_neg (by rw [hq]; simp)]
      rw [hq] at HI
      have HI := Lib.hid HI
      have HX1 := Lib.hid X1
      have HY1 := Lib.hid Y1
      clear hq X1 Y1 k0 k1 k2 y0 y1 y2
      go_wp2_with fail
      refine HI.out.mono ?_
      rintro e w2 ⟨rfl, hb2⟩
      have X2 := HX1.out.below hb2
      have Y2 := HY1.out.below hb2
      have B2 := B1.trans (hb2.mono B1.size)
      obtain ⟨x0, x1, x2⟩ := three X2
      have HF := Lib.hid (hrow_any S n c R m d k ch x w2 (HA.out.lies.2.on B2) (by omega))
      clear B1 hb2
      go_wp2_with fail
      refine HF.out.mono ?_
      rintro e w3 ⟨z, rfl, hz, hb3⟩
      have X3 := X2.below hb3
      have Y3 := Y2.below hb3
      have B3 := B2.trans (hb3.mono B2.size)
      obtain ⟨x0, x1, x2⟩ := three X3
      obtain ⟨k0, k1, k2⟩ := three Y3
      have y0 := Y3.frozen 0
      have y1 := Y3.frozen 1
      have y2 := Y3.frozen 2
      have HZ := Lib.hid hz
      clear X2 Y2 B2 hb3
      rcases Int.lt_or_le z 0 with hz1 | hz1
      · clear hz
        have HB3 := Lib.hid B3
        clear X3 Y3 B3
        go_wp2_with fail
        refine bodyPost_ret (v := .tuple #[.agg #[.bool false, .slice none 0 0, .slice none 0 0], .int .i64 6]) (by simp [results, Tryz.results18, go_sem, k0, k1, k2]) rfl ?_
        refine ⟨z, HZ.out, ?_⟩
        rw [HV.out, if_pos hz1]
        exact RetQE.bad (by omega) (below3 HB3.out (by omega) _ _ _)
      · rcases hz with ⟨rfl, _⟩ | ⟨j, r, rfl, hr, hnm, hls⟩
        · omega
        clear hnm hls
        have hjm : j < m := by have := (List.getElem?_eq_some_iff.1 hr).1; rw [HL.out.2] at this; exact this
        obtain ⟨b, off, r', neg, C, cm, cc, D, dl, dd, T, sn, sc, rfl, hr', g0, g1, g2, g3, g4, hra, hbw⟩ := (HA.out.lies.2.on B3).row hjm
        obtain rfl : r = r' := by rw [hr] at hr'; exact Option.some.inj hr'
        have hrn : r.steps.length = n := by rw [row_len HCK.out.2.2.1 hr]; exact HL.out.1
        have hb0 := HCK.out.2.2.2.2.2.1
        have hb1 := HCK.out.2.2.2.2.2.2
        rw [HL.out.1] at hb1
        have hVO : valOf ch (sz : Int) (j : Int) = r.base + chg r.steps ch.base.toNat sz := by rw [valOf, Int.toNat_natCast, hr, Int.toNat_natCast]; rfl
        have hn12 := HCK.out.1
        rw [HL.out.1] at hn12
        have hqi2 := hqi.2
        rw [HL.out.1] at hqi2
        have HVA := fun W (hb : Below w3.heap.size w3 W) => hvalue_any S n c (some ⟨b, off, none⟩) m d ch.base.toNat (.agg #[.string r.name, .bool neg, .slice C cm cc, .slice D dl dd, .slice T sn sc]) k r sz W (hra.on hb) HA.out.one hk2 (by omega) (by omega) (by omega)
        rw [Int.toNat_of_nonneg hb0, ← hVO] at HVA
        generalize hqq : valOf ch (sz : Int) (j : Int) = q at HVA
        have HQ0 := Lib.hid hqq
        have HVA := Lib.hid HVA
        have HB3 := Lib.hid B3
        have HX3 := Lib.hid X3
        have HY3 := Lib.hid Y3
        have i1 : (0 : Int) ≤ (j : Int) := by omega
        have i2 : (j : Int) < (m : Int) := by omega
        have hxl := X3.lt
        have hyl := Y3.lt
        have nn1 : ¬ w.heap.size + 1 = w.heap.size := by omega
        have nn2 : ¬ w.heap.size = w.heap.size + 1 := by omega
        have nb1 : ¬ b = w.heap.size + 1 := by
          obtain ⟨b', off', e', hlt', _⟩ := HA.out.lies.2.2 (by omega)
          injection e' with e'
          injection e' with e' _
          omega
        have nb2 : ¬ w.heap.size + 1 = b := fun e => nb1 e.symm
        clear hr hr' hra B3 X3 Y3 hVO hrn hqq
        go_wp2_with fail
        go_region_held3 (fun w' => w'.cell? ⟨w.heap.size, 0, none⟩ = some (.slice S n c) ∧ w'.cell? ⟨w.heap.size, 1, none⟩ = some (.int .i64 ch.base) ∧ w'.cell? ⟨w.heap.size, 2, none⟩ = some (.slice (some ⟨b, off, none⟩) m d) ∧ w'.cell? ⟨b, off + j * 5, none⟩ = some (.string r.name) ∧ w'.cell? ⟨b, off + j * 5 + 1, none⟩ = some (.bool neg) ∧ w'.cell? ⟨b, off + j * 5 + 2, none⟩ = some (.slice C cm cc) ∧ w'.cell? ⟨b, off + j * 5 + 3, none⟩ = some (.slice D dl dd) ∧ w'.cell? ⟨b, off + j * 5 + 4, none⟩ = some (.slice T sn sc))
          (go_keep)
          ((go_at_call 48; go_must ((go_fit (HVA.out w3.drew (Below.refl _ _).drew)); rintro e w4 ⟨A4, n4, c4, B4, m4, d4, rfl, r5, r6, r7, r8, hb4⟩; have HB4 := Lib.hid (show Below w3.heap.size w3 w4 from ⟨hb4.os, hb4.tape, hb4.output, hb4.size, hb4.block⟩); obtain ⟨hcl, hfr⟩ := bcell HB4.out; have Z4 := HY3.out.below HB4.out; have HF := Lib.hid (rat_end r5 r6 r7 r8 Z4 (by simp) (HB3.out.trans (HB4.out.mono HB3.out.size)) (by omega)); have k0 := Z4.c (i := 0) rfl; have k1 := Z4.c (i := 1) rfl; have k2 := Z4.c (i := 2) rfl; have y0 := Z4.frozen 0; have y1 := Z4.frozen 1; have y2 := Z4.frozen 2; clear r5 r7 Z4 hb4)))
        go_wp2_with fail
        refine bodyPost_ret (v := .tuple #[.agg #[.bool (ineg q.num), .slice A4 n4 c4, .slice B4 m4 d4], .int .i64 0]) (by simp [results, Tryz.results18, go_sem, k0, k1, k2]) rfl ?_
        refine ⟨(j : Int), HZ.out, ?_⟩
        rw [HV.out, if_neg (by omega), HQ0.out]
        exact RetQE.good (RetQ0.of HF.out)
  · have hE1 : (E != 0) = true := by simpa using hE0
    have HV : Hid (valErr ch size z0 = E) := by rw [Hid, valErr, HE.out, if_pos hE0]
    have HB1 := Lib.hid B1
    clear X1 Y1 B1
    go_wp2_with fail
    refine bodyPost_ret (v := .tuple #[.agg #[.bool false, .slice none 0 0, .slice none 0 0], .int .i64 E]) (by simp [results, Tryz.results18, go_sem, k0, k1, k2]) rfl ?_
    refine ⟨z0, HZ0.out, ?_⟩
    rw [HV.out]
    exact RetQE.bad hE0 (below3 HB1.out (by omega) _ _ _)
set_option maxRecDepth 100000 in
set_option maxHeartbeats 6400000 in
theorem hChange_any (S : Option Addr) (n c : Nat) (R : Option Addr) (m d k : Nat) (ch : PChart) (fr to_ : Int) (x : ByteArray) (w : World) (h : ChkA w S n c R m d k ch) (hk2 : k ≤ 100) :
    Calls Tryz.prog 24 #[.agg #[.slice S n c, .int .i64 ch.base, .slice R m d], .int .i64 fr, .int .i64 to_, .string x] w (RetChg ch fr to_ x w) := by
  obtain ⟨z0, hz0⟩ := Found.ex ch.rows x
  have hsl := h.slen
  have hrl := h.rlen
  have hB : Below w.heap.size w ((w.alloc (.cells #[.slice S n c, .int .i64 ch.base, .slice R m d] 25)).alloc (.cells #[.bool false, .slice none 0 0, .slice none 0 0] 36)) := ((Below.refl _ _).alloc (Nat.le_refl _) _).alloc (by simp) _
  have X0 : Blk ((w.alloc (.cells #[.slice S n c, .int .i64 ch.base, .slice R m d] 25)).alloc (.cells #[.bool false, .slice none 0 0, .slice none 0 0] 36)) w.heap.size 25 #[.slice S n c, .int .i64 ch.base, .slice R m d] := (Blk.new w _ _).alloc _
  have Y0 : Blk ((w.alloc (.cells #[.slice S n c, .int .i64 ch.base, .slice R m d] 25)).alloc (.cells #[.bool false, .slice none 0 0, .slice none 0 0] 36)) (w.heap.size + 1) 36 #[.bool false, .slice none 0 0, .slice none 0 0] := Blk.new' _ _ _ (by simp)
  have HA := Lib.hid h
  have HC := fun W (hb : Below w.heap.size w W) => hcheck_any S n c R m d k ch W (h.on hb)
  obtain ⟨E, hE⟩ : ∃ E, chkP ch = E := ⟨_, rfl⟩
  simp only [hE] at HC
  have HC := Lib.hid HC
  have HE := Lib.hid hE
  have HZ0 := Lib.hid hz0
  have HL := Lib.hid (And.intro hsl hrl)
  have n1 := h.len
  have m1 := h.lenr
  clear h hsl hrl hE hz0
  go_enter Tryz.func24, Tryz.ntmps24
  go_wp2_with fail
  refine (HC.out _ hB).mono ?_
  rintro e w1 ⟨rfl, hb1⟩
  have X1 := X0.below hb1
  have Y1 := Y0.below hb1
  have B1 := hB.trans (hb1.mono hB.size)
  obtain ⟨x0, x1, x2⟩ := three X1
  obtain ⟨k0, k1, k2⟩ := three Y1
  have y0 := Y1.frozen 0
  have y1 := Y1.frozen 1
  have y2 := Y1.frozen 2
  clear X0 Y0 hB hb1
  by_cases hE0 : E = 0
  · subst hE0
    have hck := chk_zero HE.out
    have HCK := Lib.hid hck
    have HI := hidx_any S n c ch.base R m d fr w1
    rw [← idx_iff HL.out.1] at HI
    clear hck
    cases hq : isIdx ch fr
    · have HV : Hid (chgErr ch fr to_ z0 = 3) := by rw [Hid, chgErr, HE.out, if_neg (by simp), if_pos (.inl hq)]
      rw [hq] at HI
      have HI := Lib.hid HI
      have HX1 := Lib.hid X1
      have HY1 := Lib.hid Y1
      clear hq X1 Y1
      go_wp2_with fail
      refine HI.out.mono ?_
      rintro e w2 ⟨rfl, hb2⟩
      have Y2 := HY1.out.below hb2
      obtain ⟨k0, k1, k2⟩ := three Y2
      have y0 := Y2.frozen 0
      have y1 := Y2.frozen 1
      have y2 := Y2.frozen 2
      clear Y2
      go_wp2_with fail
      refine bodyPost_ret (v := .tuple #[.agg #[.bool false, .slice none 0 0, .slice none 0 0], .int .i64 3]) (by simp [results, Tryz.results24, go_sem, k0, k1, k2]) rfl ?_
      refine ⟨z0, HZ0.out, ?_⟩
      rw [HV.out]
      exact RetQE.bad (by omega) (below3 (B1.trans (hb2.mono B1.size)) (by omega) _ _ _)
    rw [hq] at HI
    have HQ1 := Lib.hid hq
    have HI := Lib.hid HI
    have HX1 := Lib.hid X1
    have HY1 := Lib.hid Y1
    clear hq X1 Y1 k0 k1 k2 y0 y1 y2
    go_wp2_with fail
    refine HI.out.mono ?_
    rintro e w0 ⟨rfl, hb0⟩
    have HJ := hidx_any S n c ch.base R m d to_ w0
    rw [← idx_iff HL.out.1] at HJ
    have X1 := HX1.out.below hb0
    have Y1 := HY1.out.below hb0
    have B0 := B1.trans (hb0.mono B1.size)
    obtain ⟨x0', x1', x2'⟩ := three X1
    clear B1 HX1 HY1 hb0 HI
    cases hq : isIdx ch to_
    · have HV : Hid (chgErr ch fr to_ z0 = 3) := by rw [Hid, chgErr, HE.out, if_neg (by simp), if_pos (.inr hq)]
      rw [hq] at HJ
      have HJ := Lib.hid HJ
      have HY1 := Lib.hid Y1
      clear hq X1 Y1
      go_wp2_with fail
      refine HJ.out.mono ?_
      rintro e w2 ⟨rfl, hb2⟩
      have Y2 := HY1.out.below hb2
      obtain ⟨k0, k1, k2⟩ := three Y2
      have y0 := Y2.frozen 0
      have y1 := Y2.frozen 1
      have y2 := Y2.frozen 2
      clear Y2
      go_wp2_with fail
      refine bodyPost_ret (v := .tuple #[.agg #[.bool false, .slice none 0 0, .slice none 0 0], .int .i64 3]) (by simp [results, Tryz.results24, go_sem, k0, k1, k2]) rfl ?_
      refine ⟨z0, HZ0.out, ?_⟩
      rw [HV.out]
      exact RetQE.bad (by omega) (below3 (B0.trans (hb2.mono B0.size)) (by omega) _ _ _)
    · have hqi := isIdx_iff.1 HQ1.out
      have hqj := isIdx_iff.1 hq
      have HV : Hid (∀ z, chgErr ch fr to_ z = if z < 0 then 6 else 0) := fun z => by rw [chgErr, HE.out, if_neg (by simp), if_neg (by rw [hq, HQ1.out]; simp)]
      obtain ⟨sa, rfl⟩ : ∃ sa : Nat, fr = (sa : Int) := ⟨fr.toNat, by omega⟩
      obtain ⟨sb, rfl⟩ : ∃ sb : Nat, to_ = (sb : Int) := ⟨to_.toNat, by omega⟩
      rw [hq] at HJ
      have HI := Lib.hid HJ
      have HX1 := Lib.hid X1
      have HY1 := Lib.hid Y1
      have B1 := B0
      clear hq X1 Y1 B0 HJ
      go_wp2_with fail
      refine HI.out.mono ?_
      rintro e w2 ⟨rfl, hb2⟩
      have X2 := HX1.out.below hb2
      have Y2 := HY1.out.below hb2
      have B2 := B1.trans (hb2.mono B1.size)
      obtain ⟨x0, x1, x2⟩ := three X2
      have HF := Lib.hid (hrow_any S n c R m d k ch x w2 (HA.out.lies.2.on B2) (by omega))
      clear B1 hb2
      go_wp2_with fail
      refine HF.out.mono ?_
      rintro e w3 ⟨z, rfl, hz, hb3⟩
      have X3 := X2.below hb3
      have Y3 := Y2.below hb3
      have B3 := B2.trans (hb3.mono B2.size)
      obtain ⟨x0, x1, x2⟩ := three X3
      obtain ⟨k0, k1, k2⟩ := three Y3
      have y0 := Y3.frozen 0
      have y1 := Y3.frozen 1
      have y2 := Y3.frozen 2
      have HZ := Lib.hid hz
      clear X2 Y2 B2 hb3
      rcases Int.lt_or_le z 0 with hz1 | hz1
      · clear hz
        have HB3 := Lib.hid B3
        clear X3 Y3 B3
        go_wp2_with fail
        refine bodyPost_ret (v := .tuple #[.agg #[.bool false, .slice none 0 0, .slice none 0 0], .int .i64 6]) (by simp [results, Tryz.results24, go_sem, k0, k1, k2]) rfl ?_
        refine ⟨z, HZ.out, ?_⟩
        rw [HV.out, if_pos hz1]
        exact RetQE.bad (by omega) (below3 HB3.out (by omega) _ _ _)
      · rcases hz with ⟨rfl, _⟩ | ⟨j, r, rfl, hr, hnm, hls⟩
        · omega
        clear hnm hls
        have hjm : j < m := by have := (List.getElem?_eq_some_iff.1 hr).1; rw [HL.out.2] at this; exact this
        obtain ⟨b, off, r', neg, C, cm, cc, D, dl, dd, T, sn, sc, rfl, hr', g0, g1, g2, g3, g4, hra, hbw⟩ := (HA.out.lies.2.on B3).row hjm
        obtain rfl : r = r' := by rw [hr] at hr'; exact Option.some.inj hr'
        have hrn : r.steps.length = n := by rw [row_len HCK.out.2.2.1 hr]; exact HL.out.1
        have hb0 := HCK.out.2.2.2.2.2.1
        have hb1 := HCK.out.2.2.2.2.2.2
        rw [HL.out.1] at hb1
        have hVO : chgOf ch (sa : Int) (sb : Int) (j : Int) = chg r.steps sa sb := by rw [chgOf, Int.toNat_natCast, hr, Int.toNat_natCast, Int.toNat_natCast]
        have hqi2 := hqi.2
        have hqj2 := hqj.2
        rw [HL.out.1] at hqi2 hqj2
        have HVA := hsum_any (.agg #[.string r.name, .bool neg, .slice C cm cc, .slice D dl dd, .slice T sn sc]) k r sa sb w3 hra HA.out.one hk2 (by omega) (by omega) (by have := HCK.out.1; rw [HL.out.1] at this; omega)
        rw [← hVO] at HVA
        generalize hqq : chgOf ch (sa : Int) (sb : Int) (j : Int) = q at HVA
        have HQ0 := Lib.hid hqq
        have HVA := Lib.hid HVA
        have HB3 := Lib.hid B3
        have HX3 := Lib.hid X3
        have HY3 := Lib.hid Y3
        have i1 : (0 : Int) ≤ (j : Int) := by omega
        have i2 : (j : Int) < (m : Int) := by omega
        have hxl := X3.lt
        have hyl := Y3.lt
        have nn1 : ¬ w.heap.size + 1 = w.heap.size := by omega
        have nn2 : ¬ w.heap.size = w.heap.size + 1 := by omega
        have nb1 : ¬ b = w.heap.size + 1 := by
          obtain ⟨b', off', e', hlt', _⟩ := HA.out.lies.2.2 (by omega)
          injection e' with e'
          injection e' with e' _
          omega
        have nb2 : ¬ w.heap.size + 1 = b := fun e => nb1 e.symm
        clear hr hr' hra B3 X3 Y3 hVO hrn hqq
        go_wp2_with fail
        go_fit HVA.out
        rintro e w4 ⟨A4, n4, c4, B4, m4, d4, rfl, r5, r6, r7, r8, hb4⟩
        have HB4 := Lib.hid hb4
        have Z4 := HY3.out.below HB4.out
        have HF := Lib.hid (rat_end r5 r6 r7 r8 Z4 (by simp) (HB3.out.trans (HB4.out.mono HB3.out.size)) (by omega))
        have k0 := Z4.c (i := 0) rfl
        have k1 := Z4.c (i := 1) rfl
        have k2 := Z4.c (i := 2) rfl
        have y0 := Z4.frozen 0
        have y1 := Z4.frozen 1
        have y2 := Z4.frozen 2
        clear r5 r7 Z4 hb4
        go_wp2_with fail
        refine bodyPost_ret (v := .tuple #[.agg #[.bool (ineg q.num), .slice A4 n4 c4, .slice B4 m4 d4], .int .i64 0]) (by simp [results, Tryz.results24, go_sem, k0, k1, k2]) rfl ?_
        refine ⟨(j : Int), HZ.out, ?_⟩
        rw [HV.out, if_neg (by omega), HQ0.out]
        exact RetQE.good (RetQ0.of HF.out)
  · have hE1 : (E != 0) = true := by simpa using hE0
    have HV : Hid (chgErr ch fr to_ z0 = E) := by rw [Hid, chgErr, HE.out, if_pos hE0]
    have HB1 := Lib.hid B1
    clear X1 Y1 B1
    go_wp2_with fail
    refine bodyPost_ret (v := .tuple #[.agg #[.bool false, .slice none 0 0, .slice none 0 0], .int .i64 E]) (by simp [results, Tryz.results24, go_sem, k0, k1, k2]) rfl ?_
    refine ⟨z0, HZ0.out, ?_⟩
    rw [HV.out]
    exact RetQE.bad hE0 (below3 HB1.out (by omega) _ _ _)
end Go.Proofs.YtjiccijfbpkliaaGreatDoor
