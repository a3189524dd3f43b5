/-
  Several texts in one: garmentref03.Of (at 0 and 1), garmentref17.whole (at 0), right, check, Check at names, garmentref18.Name. Conditions: a string's length is an int. garmentref17.check, Check at names; garmentref18.Name, Size. Conditions: a string's length is an int. garmentref18.invalid. Conditions: those of Check. (Printed by gen_rh1.py.)
-/
import Derived.Deep.DeepFit
import Derived.Test.YtjiccijfbpkliaaGreatDoorG20
import Derived.Test.YtjiccijfbpkliaaGreatDoorG22
import Derived.Test.YtjiccijfbpkliaaGreatDoorG23

/- garmentref03.Of (at 0 and 1), garmentref17.whole (at 0), right, check, Check at names, garmentref18.Name. Conditions: a string's length is an int. -/
namespace Go.Proofs.YtjiccijfbpkliaaGreatDoor
open Go.RowKit
open Go.Lib hiding intOf

/-- A ratio in normal form and true come back. -/
def RetQb (q : Rat) (w : World) (e : Ending) (w' : World) : Prop :=
  ∃ A n c B m d, e = .returned (.tuple #[.agg #[.bool (ineg q.num), .slice A n c, .slice B m d], .bool true]) ∧ Sl w' w'.heap.size A n (u32s (limbs q.num.natAbs)) ∧ n ≤ c ∧ Sl w' w'.heap.size B m (u32s (limbs q.den)) ∧ m ≤ d ∧ Below w.heap.size w w'
theorem RetQb.of {q : Rat} {w w' : World} {v : Value} (h : RetQ q w (.returned v) w') : RetQb q w (.returned (.tuple #[v, .bool true])) w' := by
  obtain ⟨A, n, c, B, m, d, he, h2, h3, h4, h5, h6⟩ := h
  injection he with he
  subst he
  exact ⟨A, n, c, B, m, d, rfl, h2, h3, h4, h5, h6⟩
/-- A natural number comes back as an integer. -/
def RetI0 (x : Nat) (w : World) (e : Ending) (w' : World) : Prop :=
  ∃ A n c, e = .returned (.agg #[.bool false, .slice A n c]) ∧ Sl w' w'.heap.size A n (u32s (limbs x)) ∧ n ≤ c ∧ Below w.heap.size w w'
theorem of_zero (W : World) : Calls Tryz.prog 84 #[.int .i64 0] W (RetI0 0 W) := (jof_pos 0 W (by omega)).mono fun _ _ ⟨A, n, c, h1, h2, h3, h4⟩ => ⟨A, n, c, h1, h2, h3, h4⟩
theorem of_one (W : World) : Calls Tryz.prog 84 #[.int .i64 1] W (RetI0 1 W) := (jof_pos 1 W (by omega)).mono fun _ _ ⟨A, n, c, h1, h2, h3, h4⟩ => ⟨A, n, c, h1, h2, h3, h4⟩
set_option maxRecDepth 100000 in
set_option maxHeartbeats 3200000 in
theorem kof_zero (w : World) : Calls Tryz.prog 201 #[.int .i64 0, .int .i64 1] w (RetQb 0 w) := by
  have hB : Below w.heap.size w (w.alloc (.cells #[.bool false, .slice none 0 0, .slice none 0 0] 36)) := (Below.refl _ _).alloc (Nat.le_refl _) _
  have Y0 : Blk (w.alloc (.cells #[.bool false, .slice none 0 0, .slice none 0 0] 36)) w.heap.size 36 #[.bool false, .slice none 0 0, .slice none 0 0] := Blk.new' _ _ _ rfl
  go_enter Tryz.func201, Tryz.ntmps201
  go_wp2_with fail
  refine (of_zero _).mono ?_
  rintro e w1 ⟨A1, n1, c1, rfl, h1, hc1, hb1⟩
  have Y1 := Y0.below hb1
  have B1 := hB.trans (hb1.mono hB.size)
  have hsz1 : w.heap.size < w1.heap.size := Y1.lt
  clear Y0 hB hb1
  go_wp2_with fail
  refine (of_one _).mono ?_
  rintro e w2 ⟨A2, n2, c2, rfl, h2, hc2, hb2⟩
  have Y2 := Y1.below hb2
  have B2 := B1.trans (hb2.mono B1.size)
  have h1' := h1.on hb2
  have hsz2 : w.heap.size < w2.heap.size := Y2.lt
  have HW := Lib.hid (Below.alo (Below.alo B2 (.cells #[.bool false, .slice A1 n1 c1] 34)) (.cells #[.bool false, .slice A2 n2 c2] 34))
  have HY := Lib.hid ((Y2.alloc (.cells #[.bool false, .slice A1 n1 c1] 34)).alloc (.cells #[.bool false, .slice A2 n2 c2] 34))
  have HS := Lib.hid (And.intro ((h1'.alo (.cells #[.bool false, .slice A1 n1 c1] 34)).alo (.cells #[.bool false, .slice A2 n2 c2] 34)) ((h2.alo (.cells #[.bool false, .slice A1 n1 c1] 34)).alo (.cells #[.bool false, .slice A2 n2 c2] 34)))
  have l1 : n1 ≤ 100000 := by rw [← h1.ulen]; exact Nat.le_trans (nl_small (by unfold bs; decide)) (by omega)
  have l2 : n2 ≤ 100000 := by rw [← h2.ulen]; exact Nat.le_trans (nl_small (by unfold bs; decide)) (by omega)
  have HR := kreduce_any false A1 n1 c1 0 A2 n2 c2 1 _ (.of_limbs HS.out.1 hc1) (.of_limbs HS.out.2 hc2) l1 l2 (by omega)
  rw [show rv (sgn false 0) 1 = 0 from rfl] at HR
  have HR := Lib.hid HR
  clear Y1 Y2 B1 B2 h1 h1' h2 hb2
  go_wp2_with fail
  go_fit HR.out
  rintro e w3 ⟨A3, n3, c3, B3, m3, d3, rfl, r1, r2, r3, r4, hb3⟩
  have Y3 := HY.out.below hb3
  have HF := Lib.hid (rat_end r1 r2 r3 r4 Y3 (by simp) (HW.out.trans (hb3.mono HW.out.size)) (Nat.le_refl _))
  have k0 := Y3.c (i := 0) rfl
  have k1 := Y3.c (i := 1) rfl
  have k2 := Y3.c (i := 2) rfl
  have y0 := Y3.frozen 0
  have y1 := Y3.frozen 1
  have y2 := Y3.frozen 2
  clear r1 r3 Y3 hb3
  go_wp2_with fail
  refine bodyPost_ret (v := .tuple #[.agg #[.bool (ineg (0 : Rat).num), .slice A3 n3 c3, .slice B3 m3 d3], .bool true]) (by simp [results, Tryz.results201, go_sem, k0, k1, k2]) rfl ?_
  exact RetQb.of HF.out

theorem RetQ.alo {q : Rat} {w W : World} {v : Value} (h : RetQ q w (.returned v) W) (o : Obj) : RetQ q w (.returned v) (W.alloc o) := by
  obtain ⟨A, n, c, B, m, d, h1, h2, h3, h4, h5, h6⟩ := h
  exact ⟨A, n, c, B, m, d, h1, h2.alo o, h3, h4.alo o, h5, Below.alo h6 o⟩
set_option maxRecDepth 100000 in
set_option maxHeartbeats 1600000 in
theorem gwhole_zero (w : World) : Calls Tryz.prog 191 #[.int .i64 0] w (RetQ 0 w) := by
  have hB : Below w.heap.size w (w.alloc (.cells #[.bool false, .slice none 0 0, .slice none 0 0] 36)) := (Below.refl _ _).alloc (Nat.le_refl _) _
  have Y0 : Blk (w.alloc (.cells #[.bool false, .slice none 0 0, .slice none 0 0] 36)) w.heap.size 36 #[.bool false, .slice none 0 0, .slice none 0 0] := Blk.new' _ _ _ rfl
  go_enter Tryz.func191, Tryz.ntmps191
  go_wp2_with fail
  refine (kof_zero _).mono ?_
  rintro e w1 ⟨A1, n1, c1, B1, m1, d1, rfl, r1, r2, r3, r4, hb1⟩
  have B1' := hB.trans (hb1.mono hB.size)
  have hsz1 : w.heap.size < w1.heap.size := (Y0.below hb1).lt
  have HF := Lib.hid ((rat_end r1 r2 r3 r4 (Y0.below hb1) (by simp) B1' (Nat.le_refl _)).alo (.cells #[.bool (ineg (0 : Rat).num), .slice A1 n1 c1, .slice B1 m1 d1] 36))
  have k0 := (Y0.below hb1).c (i := 0) rfl
  have k1 := (Y0.below hb1).c (i := 1) rfl
  have k2 := (Y0.below hb1).c (i := 2) rfl
  have y0 := (Y0.below hb1).frozen 0
  have y1 := (Y0.below hb1).frozen 1
  have y2 := (Y0.below hb1).frozen 2
  have hne : ¬ w.heap.size = w1.heap.size := by omega
  have hne2 : ¬ w1.heap.size = w.heap.size := by omega
  clear Y0 hB hb1 r1 r3 B1'
  go_wp2_with fail
  refine bodyPost_ret (v := .agg #[.bool (ineg (0 : Rat).num), .slice A1 n1 c1, .slice B1 m1 d1]) (by simp [results, Tryz.results191, go_sem, k0, k1, k2, hsz1]) rfl ?_
  exact HF.out

/-- The node of a name. -/
def gnode (s : ByteArray) : Value := .agg #[.int .i64 2, .bool false, .slice none 0 0, .slice none 0 0, .string s, .slice none 0 0]
set_option maxRecDepth 100000 in
set_option maxHeartbeats 3200000 in
theorem gright_name (s : ByteArray) (w : World) (hs : s.size ≤ 9223372036854775807) :
    Calls Tryz.prog 175 #[gnode s] w fun e w' => e = .returned (.bool (nameOk s.data.toList)) ∧ Below w.heap.size w w' := by
  unfold gnode
  have HN := fun W => rname_any s W hs
  have hB := nodeB w s
  have X0 : Blk (nodeW w s) w.heap.size 110 #[.int .i64 2, .bool false, .slice none 0 0, .slice none 0 0, .string s, .slice none 0 0] := Blk.new w _ _
  have HX := Lib.hid X0
  have HB := Lib.hid hB
  obtain ⟨nk, hnk⟩ : ∃ nk, nameOk s.data.toList = nk := ⟨_, rfl⟩
  simp only [hnk] at HN ⊢
  have HN := Lib.hid HN
  have hlt : w.heap.size < w.heap.size + 1 := by omega
  clear hnk X0 hB
  go_enter Tryz.func175, Tryz.ntmps175
  go_upto_region 1 with fail
  go_cut [3] (fun s3 wx => s3 = .bool true ∧ Below (nodeW w s).heap.size (nodeW w s) wx)
  case first =>
    go_region_held3 (fun w' => w'.cell? ⟨w.heap.size, 1, none⟩ = some (.bool false) ∧ w'.cell? ⟨w.heap.size, 2, none⟩ = some (.slice none 0 0) ∧ w'.cell? ⟨w.heap.size, 3, none⟩ = some (.slice none 0 0))
      (go_keep)
      (first
      | (go_at_call 191; go_must ((refine (gwhole_zero _).mono ?_); rintro e w2 ⟨A2, n2, c2, B2, m2, d2, rfl, r1, r2, r3, r4, hb2⟩; have HB2 := Lib.hid (show Below (nodeW w s).heap.size (nodeW w s) w2 from ⟨hb2.os, hb2.tape, hb2.output, hb2.size, hb2.block⟩); have X2 := HX.out.below HB2.out; have t1 := X2.c (i := 1) rfl; have t2 := X2.c (i := 2) rfl; have t3 := X2.c (i := 3) rfl; have HR := Lib.hid (RatA.of r1 r2 r3 r4 (k := 1) ⟨by rw [show (0 : Rat).num.natAbs = 0 from rfl, nl_zero]; omega, nl_small (by unfold bs; show 1 < _; omega)⟩); clear hb2 X2 r1 r3))
      | (go_at_call 190; go_must ((refine (kcmp_any _ _ 1 1 0 0 w2 (RatA.zero _) HR.out (by omega) (by omega) (by omega) (by omega)).mono ?_); rintro e w3 ⟨cv, rfl, hcv, hb3⟩; obtain rfl : cv = 0 := hcv.2 rfl; have HB3 := Lib.hid (HB2.out.trans (hb3.mono HB2.out.size)); have X3 := HX.out.below HB3.out; have u1 := X3.c (i := 1) rfl; have u2 := X3.c (i := 2) rfl; have u3 := X3.c (i := 3) rfl; clear hb3 X3)))
    all_goals
      go_wp2_with fail
      go_meet
      exact ⟨rfl, HB3.out⟩
  case rest =>
    obtain ⟨rfl, hbx⟩ := hcut
    have X2 := HX.out.below hbx
    have t0 := X2.c (i := 0) rfl
    have t4 := X2.c (i := 4) rfl
    have t5 := X2.c (i := 5) rfl
    have HBX := Lib.hid (HB.out.trans (hbx.mono HB.out.size))
    clear X2 hbx
    cases nk
    all_goals
      go_wp2_with (go_at_call 193; go_must ((refine (HN.out _).mono ?_); rintro e w' ⟨rfl, rfl⟩))
      go_ret
      exact ⟨rfl, HBX.out⟩
end Go.Proofs.YtjiccijfbpkliaaGreatDoor

/- garmentref17.check, Check at names; garmentref18.Name, Size. Conditions: a string's length is an int. -/
namespace Go.Proofs.YtjiccijfbpkliaaGreatDoor
open Go.RowKit
open Go.Lib hiding intOf

set_option maxRecDepth 100000 in
set_option maxHeartbeats 1600000 in
theorem gcheck_name (s : ByteArray) (w : World) (hs : s.size ≤ 9223372036854775807) :
    Calls Tryz.prog 147 #[gnode s, .int .i64 1] w fun e w' => e = .returned (.int .i64 (if nameOk s.data.toList = true then 0 else 1)) ∧ Below w.heap.size w w' := by
  have HN := fun W => gright_name s W hs
  unfold gnode at HN ⊢
  have HB := Lib.hid (nodeB w s)
  have X0 : Blk (nodeW w s) w.heap.size 110 #[.int .i64 2, .bool false, .slice none 0 0, .slice none 0 0, .string s, .slice none 0 0] := Blk.new w _ _
  have HX := Lib.hid X0
  clear X0
  cases hn : nameOk s.data.toList
  · simp only [hn] at HN
    have HN := Lib.hid HN
    clear hn
    go_enter Tryz.func147, Tryz.ntmps147
    go_wp2_with (go_at_call 175; go_must ((refine (HN.out _).mono ?_); rintro e w' ⟨rfl, hb⟩))
    go_ret
    exact ⟨rfl, HB.out.trans (hb.mono HB.out.size)⟩
  · simp only [hn] at HN
    have HN := Lib.hid HN
    clear hn
    go_enter Tryz.func147, Tryz.ntmps147
    go_wp2_with (go_at_call 175; go_must ((refine (HN.out _).mono ?_); rintro e w' ⟨rfl, hb⟩; have X1 := (HX.out.below hb).c (i := 5) rfl))
    go_loop [5] (fun i => i = .int .i64 0) (fun _ => 0)
    case atStart => exact rfl
    case round =>
      subst hrel
      go_wp2
      go_ret
      exact ⟨rfl, HB.out.trans (hb.mono HB.out.size)⟩
theorem gCheck_name (s : ByteArray) (w : World) (hs : s.size ≤ 9223372036854775807) :
    Calls Tryz.prog 114 #[gnode s] w fun e w' => e = .returned (.int .i64 (if nameOk s.data.toList = true then 0 else 1)) ∧ Below w.heap.size w w' := by
  have HN := fun W => gcheck_name s W hs
  have HB := Lib.hid (nodeB w s)
  unfold gnode at HN ⊢
  generalize (if nameOk s.data.toList = true then (0 : Int) else 1) = z at HN ⊢
  have HN := Lib.hid HN
  go_enter Tryz.func114, Tryz.ntmps114
  go_wp2_with (go_at_call 147; go_must ((refine (HN.out _).mono ?_); rintro e w' ⟨rfl, hb⟩))
  go_ret
  exact ⟨rfl, HB.out.trans (hb.mono HB.out.size)⟩
theorem hname_any (s : ByteArray) (w : World) (hs : s.size ≤ 9223372036854775807) :
    Calls Tryz.prog 83 #[.string s] w fun e w' => e = .returned (.bool (nameOk s.data.toList)) ∧ Below w.heap.size w w' := by
  have HN := fun W => gCheck_name s W hs
  unfold gnode at HN
  cases hn : nameOk s.data.toList
  · simp only [hn] at HN
    have HN := Lib.hid HN
    clear hn
    go_enter Tryz.func83, Tryz.ntmps83
    go_wp2_with (go_at_call 114; go_must ((refine (HN.out _).mono ?_); rintro e w' ⟨rfl, hb⟩))
    go_ret
    exact ⟨rfl, hb⟩
  · simp only [hn] at HN
    have HN := Lib.hid HN
    clear hn
    go_enter Tryz.func83, Tryz.ntmps83
    go_wp2_with (go_at_call 114; go_must ((refine (HN.out _).mono ?_); rintro e w' ⟨rfl, hb⟩))
    go_ret
    exact ⟨rfl, hb⟩

set_option maxRecDepth 100000 in
set_option maxHeartbeats 1600000 in
theorem hsize_any (s : ByteArray) (w : World) (hs : s.size ≤ 9223372036854775807) :
    Calls Tryz.prog 82 #[.string s] w fun e w' => e = .returned (.bool (sizeOk s.data.toList)) ∧ w = w' := by
  have hl : s.data.toList.length = s.size := rfl
  have HL := Lib.hid hl
  clear hl
  by_cases h1 : s.size = 0
  · have HE : Hid (sizeOk s.data.toList = false) := by
      cases hq : sizeOk s.data.toList
      · rfl
      · have := (sizeOk_iff.1 hq).1; rw [HL.out] at this; omega
    obtain ⟨e1, e2⟩ := empty_of s h1
    clear h1
    go_enter Tryz.func82, Tryz.ntmps82
    go_wp2
    go_ret
    exact ⟨by rw [HE.out]; rfl, rfl⟩
  have hpos : 0 < s.size := by omega
  obtain ⟨e1, e2⟩ := full_of s hpos
  by_cases h2 : 8 < s.size
  · have HE : Hid (sizeOk s.data.toList = false) := by
      cases hq : sizeOk s.data.toList
      · rfl
      · have := (sizeOk_iff.1 hq).2.1; rw [HL.out] at this; omega
    have h2' : decide ((8 : Int) < (s.size : Int)) = true := by simp; omega
    go_enter Tryz.func82, Tryz.ntmps82
    go_wp2
    go_ret
    exact ⟨by rw [HE.out]; rfl, rfl⟩
  have h2' : decide ((8 : Int) < (s.size : Int)) = false := by simp; omega
  go_enter Tryz.func82, Tryz.ntmps82
  go_wp2
  clear h2' e1 e2
  go_loop [3] (fun i => ∃ k : Nat, k ≤ s.size ∧ i = .int .i64 k ∧ Hid ((s.data.toList.take k).all isCapDig = true)) (fun i => s.size - (intOf i).toNat)
  case atStart => exact ⟨0, Nat.zero_le _, rfl, by rw [Hid]; simp⟩
  case round =>
    obtain ⟨k, hk, rfl, hall⟩ := hrel
    by_cases hlt : k < s.size
    · obtain ⟨b, hb⟩ : ∃ b, s[k] = b := ⟨_, rfl⟩
      have hat := at_data s k hlt
      rw [hb] at hat
      have HB := Lib.hid hat
      clear hat
      cases hd : isCapDig b
      · have HE := Lib.hid (sizeOk_no HB.out hd)
        rcases capdig_false hd with h | ⟨h, h'⟩ | h
        · have q65 : decide ((65 : Int) ≤ (b.toNat : Int)) = false := by simp; omega
          have q90 : decide ((b.toNat : Int) ≤ 90) = true := by simp; omega
          have q48 : decide ((48 : Int) ≤ (b.toNat : Int)) = false := by simp; omega
          have q57 : decide ((b.toNat : Int) ≤ 57) = true := by simp; omega
          clear hd
          go_wp2
          go_ret
          exact ⟨by rw [HE.out]; rfl, rfl⟩
        · have q65 : decide ((65 : Int) ≤ (b.toNat : Int)) = false := by simp; omega
          have q90 : decide ((b.toNat : Int) ≤ 90) = true := by simp; omega
          have q48 : decide ((48 : Int) ≤ (b.toNat : Int)) = true := by simp; omega
          have q57 : decide ((b.toNat : Int) ≤ 57) = false := by simp; omega
          clear hd
          go_wp2
          go_ret
          exact ⟨by rw [HE.out]; rfl, rfl⟩
        · have q65 : decide ((65 : Int) ≤ (b.toNat : Int)) = true := by simp; omega
          have q90 : decide ((b.toNat : Int) ≤ 90) = false := by simp; omega
          have q48 : decide ((48 : Int) ≤ (b.toNat : Int)) = true := by simp; omega
          have q57 : decide ((b.toNat : Int) ≤ 57) = false := by simp; omega
          clear hd
          go_wp2
          go_ret
          exact ⟨by rw [HE.out]; rfl, rfl⟩
      · have HE := Lib.hid (all_take_succ hall.out HB.out hd)
        rcases capdig_true hd with ⟨h1, h2⟩ | ⟨h1, h2⟩
        · have q65 : decide ((65 : Int) ≤ (b.toNat : Int)) = true := by simp; omega
          have q90 : decide ((b.toNat : Int) ≤ 90) = true := by simp; omega
          have q48 : decide ((48 : Int) ≤ (b.toNat : Int)) = true := by simp; omega
          have q57 : decide ((b.toNat : Int) ≤ 57) = false := by simp; omega
          clear hd
          go_wp2
          go_round
          case rel => exact ⟨k + 1, by omega, by go_num, HE⟩
          case measure => simp [intOf]; omega
        · have q65 : decide ((65 : Int) ≤ (b.toNat : Int)) = false := by simp; omega
          have q90 : decide ((b.toNat : Int) ≤ 90) = true := by simp; omega
          have q48 : decide ((48 : Int) ≤ (b.toNat : Int)) = true := by simp; omega
          have q57 : decide ((b.toNat : Int) ≤ 57) = true := by simp; omega
          clear hd
          go_wp2
          go_round
          case rel => exact ⟨k + 1, by omega, by go_num, HE⟩
          case measure => simp [intOf]; omega
    · obtain rfl : k = s.size := by omega
      have ha := hall.out
      rw [show s.data.toList.take s.size = s.data.toList from List.take_of_length_le (Nat.le_refl _)] at ha
      have HE : Hid (sizeOk s.data.toList = true) := sizeOk_iff.2 ⟨by rw [HL.out]; omega, by rw [HL.out]; omega, ha⟩
      clear ha hall
      go_wp2
      go_ret
      exact ⟨by rw [HE.out]; rfl, rfl⟩
end Go.Proofs.YtjiccijfbpkliaaGreatDoor

/- garmentref18.invalid. Conditions: those of Check. (Printed by gen_rh1.py.) -/
namespace Go.Proofs.YtjiccijfbpkliaaGreatDoor
open Go.RowKit
open Go.Lib hiding intOf

set_option maxRecDepth 100000 in
set_option maxHeartbeats 6400000 in
theorem invalid_any (S : Option Addr) (n c : Nat) (R : Option Addr) (m d k : Nat) (ch : PChart) (w : World) (h : ChkA w S n c R m d k ch) :
    Calls Tryz.prog 42 #[.agg #[.slice S n c, .int .i64 ch.base, .slice R m d]] w fun e w' => e = .returned (.bool (!ch.right)) ∧ Below w.heap.size w w' := by
  have hsl := h.slen
  have hrl := h.rlen
  have hB : Below w.heap.size w (w.alloc (.cells #[.slice S n c, .int .i64 ch.base, .slice R m d] 25)) := (Below.refl _ _).alloc (Nat.le_refl _) _
  have HX := Lib.hid (Blk.new w 25 #[.slice S n c, .int .i64 ch.base, .slice R m d])
  have HB := Lib.hid hB
  have HA := Lib.hid (h.on hB)
  have n1 := h.len
  have m1 := h.lenr
  have HL := Lib.hid (And.intro hsl hrl)
  clear hB
  by_cases h0 : n = 0
  · have HE := Lib.hid (right_empty (c := ch) (by rw [hsl]; exact h0))
    subst h0
    clear h hsl hrl
    go_enter Tryz.func42, Tryz.ntmps42
    go_wp2
    go_ret
    exact ⟨by rw [HE.out]; rfl, HB.out⟩
  have hpos : 0 < n := by omega
  have hn0 : ((n : Int) == 0) = false := by simp; omega
  clear h hsl hrl h0
  go_enter Tryz.func42, Tryz.ntmps42
  go_wp2
  go_loop [3] (fun i => ∃ k : Nat, k ≤ n ∧ i = .int .i64 (k : Int) ∧ Hid (∀ (j : Nat) (s : ByteArray), j < k → ch.sizes[j]? = some s → sizeOk s.data.toList = true)) (fun i => n - (intOf i).toNat)
  case atStart => exact ⟨0, Nat.zero_le _, rfl, fun j s h => by omega⟩
  case round =>
    obtain ⟨k1, hk, rfl, hall⟩ := hrel
    by_cases hlt : k1 < n
    · obtain ⟨b, off, s, rfl, hbw, hs, hcs⟩ := HA.out.lies.1.str_ hlt
      have hsz := HA.out.sz k1 s hs
      have HS := Lib.hid hs
      have H1 := fun W => hsize_any s W (by omega)
      have i1 : (0 : Int) ≤ (k1 : Int) := by omega
      have i2 : (k1 : Int) < (n : Int) := by omega
      clear hs
      cases hq : sizeOk s.data.toList
      · have HE := Lib.hid (right_size HS.out hq)
        simp only [hq] at H1
        have H1 := Lib.hid H1
        clear hq
        go_wp2_with (go_at_call 82; go_must ((refine (H1.out _).mono ?_); rintro e w' ⟨rfl, rfl⟩))
        go_ret
        exact ⟨by rw [HE.out]; rfl, HB.out⟩
      · have HE : Hid (∀ (j : Nat) (s : ByteArray), j < k1 + 1 → ch.sizes[j]? = some s → sizeOk s.data.toList = true) := fun j s' hj hs' => by
          by_cases e : j = k1
          · subst e
            rw [HS.out] at hs'
            rw [← Option.some.inj hs']
            exact hq
          · exact hall.out j s' (by omega) hs'
        simp only [hq] at H1
        have H1 := Lib.hid H1
        clear hq
        go_wp2_with (go_at_call 82; go_must ((refine (H1.out _).mono ?_); rintro e w' ⟨rfl, rfl⟩))
        go_round
        case rel => exact ⟨k1 + 1, by omega, by go_num, HE⟩
        case measure => simp [intOf]; omega
    · obtain rfl : n = k1 := by omega
      have HS1 : Hid (∀ (j : Nat) (s : ByteArray), ch.sizes[j]? = some s → sizeOk s.data.toList = true) := fun j s hs => hall.out j s (by have := (List.getElem?_eq_some_iff.1 hs).1; rw [HL.out.1] at this; exact this) hs
      clear hall hk
      go_wp2_with fail
      go_loopw [4] (fun i wr => ∃ k : Nat, k ≤ m ∧ i = .int .i64 (k : Int) ∧ Hid (∀ (j : Nat) (r : PRow), j < k → ch.rows[j]? = some r → rowOk n r = true) ∧ Below (w.alloc (.cells #[.slice S n c, .int .i64 ch.base, .slice R m d] 25)).heap.size (w.alloc (.cells #[.slice S n c, .int .i64 ch.base, .slice R m d] 25)) wr) (fun i _ => m - (intOf i).toNat)
      case atStart => exact ⟨0, Nat.zero_le _, rfl, (fun j s h => by omega), Below.refl _ _⟩
      case round =>
        obtain ⟨k2, hk2, rfl, hall, hbel⟩ := hrel
        have hW := HB.out.trans (hbel.mono HB.out.size)
        obtain ⟨xx0, xx1, xx2⟩ := three (HX.out.below hbel)
        by_cases hlt : k2 < m
        · obtain ⟨b, off, r, neg, C, cm, cc, D, dl, dd, T, sn, sc, rfl, hbw, hr, g0, g1, g2, g3, g4, hq1, hq2, hq3⟩ := (HA.out.lies.2.on hbel).at_ hlt
          have hnm := HA.out.nm k2 r hr
          have HR := Lib.hid hr
          have HS := Lib.hid (And.intro hq1 hq2)
          have HN := fun W => hname_any r.name W (by omega)
          have i1 : (0 : Int) ≤ (k2 : Int) := by omega
          have i2 : (k2 : Int) < (m : Int) := by omega
          have X1 := (HX.out.below hbel).alloc (.cells #[.string r.name, .bool neg, .slice C cm cc, .slice D dl dd, .slice T sn sc] 57)
          have Y1 := Blk.new wr 57 #[.string r.name, .bool neg, .slice C cm cc, .slice D dl dd, .slice T sn sc]
          have HW := Lib.hid (Below.alo hbel (.cells #[.string r.name, .bool neg, .slice C cm cc, .slice D dl dd, .slice T sn sc] 57))
          clear hr hq1 hq2
          cases hnk : nameOk r.name.data.toList
          · have HE := Lib.hid (right_row HR.out (by rw [rowOk, hnk]; rfl))
            simp only [hnk] at HN
            have HN := Lib.hid HN
            clear hnk
            go_wp2_with fail
            refine (HN.out _).mono ?_
            rintro e w1 ⟨rfl, hb1⟩
            go_wp2_with fail
            go_ret
            exact ⟨by rw [HE.out]; rfl, (HB.out.trans (HW.out.mono HB.out.size)).trans (hb1.mono (Nat.le_trans HB.out.size HW.out.size))⟩
          · simp only [hnk] at HN
            have HN := Lib.hid HN
            have HNK := Lib.hid hnk
            clear hnk
            go_wp2_with fail
            refine (HN.out _).mono ?_
            rintro e w1 ⟨rfl, hb1⟩
            have HB1 := Lib.hid (HW.out.trans (hb1.mono HW.out.size))
            have X2 := X1.below hb1
            have Y2 := Y1.below hb1
            have x0 := X2.c (i := 0) rfl
            have y4 := Y2.c (i := 4) rfl
            have hsn : Hid (r.steps.length = sn) := HS.out.2.len
            have HT := Lib.hid ((HS.out.2.on ((Below.refl _ _).alloc (Nat.le_refl _) (.cells #[.string r.name, .bool neg, .slice C cm cc, .slice D dl dd, .slice T sn sc] 57))).on hb1)
            clear X1 Y1 hb1 xx0 xx1 xx2
            by_cases hse : sn = n
            · have hne : ((sn : Int) != (n : Int)) = false := by simp; omega
              obtain ⟨b2, off2, q, neg2, E, em, ec, F, fl, fd, rfl, hb2w, hq0, z0, z1, z2, hqa⟩ := HT.out.at_ (j := 0) (by omega)
              simp only [Nat.zero_mul, Nat.add_zero] at z0 z1 z2
              have HQ := kzero_any _ k q w1 hqa HA.out.small
              have hgd : r.steps.getD 0 0 = q := by rw [List.getD_eq_getElem?_getD, hq0]; rfl
              have HG := Lib.hid hgd
              have j1 : 0 < sn := by omega
              have j2 : (0 : Int) < (sn : Int) := by omega
              clear hqa hq0 hgd HT HS
              by_cases hz : q = 0
              · have hd : decide (q = 0) = true := by simpa using hz
                rw [hd] at HQ
                have HQ := Lib.hid HQ
                have HE : Hid (∀ (j : Nat) (r : PRow), j < k2 + 1 → ch.rows[j]? = some r → rowOk n r = true) := fun j r' hj hr' => by
                  by_cases e : j = k2
                  · subst e
                    rw [HR.out] at hr'
                    rw [← Option.some.inj hr']
                    exact rowOk_iff.2 ⟨HNK.out, by rw [hsn.out]; exact hse, by rw [HG.out]; exact hz⟩
                  · exact hall.out j r' (by omega) hr'
                clear hd hz
                go_wp2_with fail
                refine HQ.out.mono ?_
                rintro e w2 ⟨rfl, hb2⟩
                go_wp2_with fail
                go_roundw
                case rel => exact ⟨k2 + 1, by omega, by go_num, HE, HB1.out.trans (hb2.mono HB1.out.size)⟩
                case measure => simp [intOf]; omega
              · have hd : decide (q = 0) = false := by simpa using hz
                rw [hd] at HQ
                have HQ := Lib.hid HQ
                have HE := Lib.hid (right_row HR.out (by
                  cases hq : rowOk ch.sizes.length r
                  · rfl
                  · exact absurd ((rowOk_iff.1 hq).2.2) (by rw [HG.out]; exact hz)))
                clear hd hz
                go_wp2_with fail
                refine HQ.out.mono ?_
                rintro e w2 ⟨rfl, hb2⟩
                go_wp2_with fail
                go_ret
                exact ⟨by rw [HE.out]; rfl, (HB.out.trans (HB1.out.mono HB.out.size)).trans (hb2.mono (Nat.le_trans HB.out.size HB1.out.size))⟩
            · have hne : ((sn : Int) != (n : Int)) = true := by simp; omega
              have HE := Lib.hid (right_row HR.out (by
                cases hq : rowOk ch.sizes.length r
                · rfl
                · exact absurd ((rowOk_iff.1 hq).2.1) (by rw [hsn.out, HL.out.1]; exact hse)))
              go_wp2_with fail
              go_ret
              exact ⟨by rw [HE.out]; rfl, HB.out.trans (HB1.out.mono HB.out.size)⟩
        · obtain rfl : m = k2 := by omega
          have HR1 : Hid (ch.right = true) := by
            refine right_iff.2 ⟨by rw [HL.out.1]; omega, HS1.out, fun j r hr => ?_⟩
            rw [HL.out.1]
            exact hall.out j r (by have := (List.getElem?_eq_some_iff.1 hr).1; rw [HL.out.2] at this; exact this) hr
          have HW := Lib.hid hW
          clear hall hk2 hW hlt hbel
          go_wp2_with fail
          go_ret
          exact ⟨by rw [HR1.out]; rfl, HW.out⟩
end Go.Proofs.YtjiccijfbpkliaaGreatDoor
