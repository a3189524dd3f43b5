/-
  Several texts in one: garmentref56.split, form, number: the words of a text, a number's form, a number. Conditions: texts of at most 1,000,000 bytes. garmentref56.form, number: a number's form, a number. Conditions: texts of at most 1,000,000 bytes; number: the form. garmentref56.number: the int that a number is, if there is one. Conditions: a number's form.
-/
import Derived.Deep.AppendLies
import Derived.OwnWalk
import Derived.Test.YtbgkdlfpmbnakaaGreatDoorG09
import Derived.Test.YtbgkdlfpmbnakaaGreatDoorG28
import Derived.Test.YtbgkdlfpmbnakaaGreatDoorG32

/- garmentref56.split, form, number: the words of a text, a number's form, a number. Conditions: texts of at most 1,000,000 bytes. -/
namespace Go.Proofs.YtbgkdlfpmbnakaaGreatDoor
open Go.RowKit
open Go.Lib hiding intOf

theorem spl_first {l : List UInt8} {fr k : Nat} (hf : fr ≤ k) (h1 : l[k]? = some 32) (hn : ∀ j, fr ≤ j → j < k → l[j]? ≠ some 32) : split (l.drop fr) [32] = (l.drop fr).take (k - fr) :: split (l.drop (k + 1)) [32] := by
  have hlt := (List.getElem?_eq_some_iff.1 h1).1
  have e : l.drop fr = (l.drop fr).take (k - fr) ++ 32 :: l.drop (k + 1) := by
    conv => lhs; rw [← List.take_append_drop (k - fr) (l.drop fr)]
    rw [List.drop_drop, show fr + (k - fr) = k by omega, List.drop_eq_getElem_cons hlt, (List.getElem?_eq_some_iff.1 h1).2]
  conv => lhs; rw [e]
  refine split_word (c := 32) _ _ fun hm => ?_
  obtain ⟨j, hj⟩ := List.getElem?_of_mem hm
  rw [List.getElem?_take] at hj
  split at hj
  · rw [List.getElem?_drop] at hj
    exact hn (fr + j) (by omega) (by omega) hj
  · cases hj
theorem spl_last {l : List UInt8} {fr : Nat} (hn : ∀ j, fr ≤ j → j < l.length → l[j]? ≠ some 32) : split (l.drop fr) [32] = [l.drop fr] := by
  refine split_last _ fun hm => ?_
  obtain ⟨j, hj⟩ := List.getElem?_of_mem hm
  rw [List.getElem?_drop] at hj
  exact hn (fr + j) (by omega) (List.getElem?_eq_some_iff.1 hj).1 hj
theorem ext_data (s : ByteArray) (i j : Nat) : (s.extract i j).data.toList = (s.data.toList.drop i).take (j - i) := by
  rw [ByteArray.data_extract, Array.toList_extract]
theorem ext_end (s : ByteArray) (i : Nat) : (s.extract i s.size).data.toList = s.data.toList.drop i := by
  rw [ext_data, List.take_of_length_le]
  rw [List.length_drop]
  exact Nat.le_refl _
theorem strs_add (ps : List ByteArray) (p : ByteArray) : strs (ps ++ [p]) = strs ps ++ [.string p] := by simp [strs]
theorem str_info3 : (Tryz.prog.info? 9).map (fun i => (i.zero, i.size, i.bytes)) = some (some (.string ByteArray.empty), 1, 16) := by kernel_rfl
theorem words_bytes {s : ByteArray} {ps : List ByteArray} (h : split s.data.toList [32] = ps.map (·.data.toList)) : ps = (split s.data.toList [32]).map bytes := by
  rw [h, List.map_map]
  conv => lhs; rw [← List.map_id ps]
  exact List.map_congr_left fun x _ => (bytes_of x).symm
set_option maxRecDepth 100000 in
set_option maxHeartbeats 3200000 in
theorem rsplit_any (s : ByteArray) (w : World) (hs : s.size ≤ 1000000) :
    Calls Tryz.prog 44 #[.string s] w fun e w' => ∃ A n c, e = .returned (.slice A n c) ∧ n = (split s.data.toList [32]).length ∧ Sl w' w'.heap.size A n (strs ((split s.data.toList [32]).map bytes)) ∧ Below w.heap.size w w' := by
  have HL : Hid (s.data.toList.length = s.size) := rfl
  obtain ⟨i0, hi, hz0, hz1, hz2⟩ := info_parts str_info3
  go_enter Tryz.func44, Tryz.ntmps44
  go_wp2
  go_loopw [3, 4, 5] (fun v f i wr => ∃ (k fr m : Nat) (ps : List ByteArray), k ≤ s.size ∧ i = .int .i64 k ∧ f = .int .i64 fr ∧ fr ≤ k ∧ m ≤ k ∧ Hid (split s.data.toList [32] = ps.map (·.data.toList) ++ split (s.data.toList.drop fr) [32]) ∧ Hid (∀ j, fr ≤ j → j < k → s.data.toList[j]? ≠ some 32) ∧ wr.ownsRow w.heap.size 9 1 v m (strs ps) ∧ Below w.heap.size w wr) (fun _ _ i _ => s.size - (intOf i).toNat)
  case atStart => exact ⟨0, 0, 0, [], Nat.zero_le _, rfl, rfl, Nat.le_refl _, Nat.le_refl _, by simp [Hid], (fun j h1 h2 => by omega), ⟨by simp [strs], .inl ⟨rfl, rfl⟩⟩, Below.refl _ _⟩
  case round =>
    obtain ⟨k, fr, m, ps, hk, rfl, rfl, hfr, hm, hsp, hno, hown, hbel⟩ := hrel
    have hN := hbel.size
    by_cases hlt : k < s.size
    · obtain ⟨c, hc⟩ : ∃ c, s[k] = c := ⟨_, rfl⟩
      have hck := at_data s k hlt
      rw [hc] at hck
      have HC := Lib.hid hck; clear hck
      by_cases hcc : c = 32
      · subst hcc
        have HS := Lib.hid (spl_first hfr HC.out hno.out)
        have HX := Lib.hid (ext_data s fr k)
        obtain ⟨p, hp⟩ : ∃ p, s.extract fr k = p := ⟨_, rfl⟩
        have HP : Hid (p.data.toList = (s.data.toList.drop fr).take (k - fr)) := by rw [← hp]; exact HX
        have hcq : (((32 : UInt8).toNat : Int) == 32) = true := rfl
        go_wp2_with (at_builtin; refine wpList_append_lies _ rfl _ _ _ rfl w.heap.size 9 i0 _ 1 16 Tryz.underlying22 hi hz0 hz1 hz2 rfl (by omega) _ m (strs ps) rfl (hown.alloc _) ⟨wr.heap.size, 0, none⟩ 1 1 [.string p] rfl rfl (World.news_of_block (cs := #[.string p]) (t := 9) (fr := (0, 0)) (heap_alloc_new wr _)) (by simp [Value.oneCell']) (by omega) (by unfold maxLen; omega) (by omega) (by simp; omega) (wr.heap.size + 1) (by simp) ?_; intro gg cap w1 hown1 hgrow hat hlt1)
        go_roundw
        case rel =>
          refine ⟨k + 1, k + 1, m + 1, ps ++ [p], by omega, by go_num, by go_num, Nat.le_refl _, by omega, ?_, (fun j h1 h2 => by omega), by rw [strs_add]; exact hown1, (hbel.alloc hN _).grown hgrow (by simp; omega) fun q hq => own_ge hown hq⟩
          show split s.data.toList [32] = (ps ++ [p]).map (·.data.toList) ++ split (s.data.toList.drop (k + 1)) [32]
          rw [hsp.out, HS.out, List.map_append, List.append_assoc, ← HP.out]
          rfl
        case measure => simp [intOf]; omega
      · have HN : Hid (∀ j, fr ≤ j → j < k + 1 → s.data.toList[j]? ≠ some 32) := fun j h1 h2 => by
          by_cases hj : j = k
          · subst hj
            rw [HC.out]
            exact fun e => hcc (Option.some.inj e)
          · exact hno.out j h1 (by omega)
        have hcq : ((c.toNat : Int) == 32) = false := by
          rw [beq_eq_false_iff_ne]
          intro e
          exact hcc (UInt8.toNat_inj.1 (by have : c.toNat = 32 := by omega
                                           exact this))
        clear hcc
        go_wp2
        go_roundw
        case rel => exact ⟨k + 1, fr, m, ps, by omega, by go_num, rfl, by omega, by omega, hsp, HN, hown, hbel⟩
        case measure => simp [intOf]; omega
    · have HS := Lib.hid (spl_last (l := s.data.toList) (fr := fr) (fun j h1 h2 => hno.out j h1 (by rw [HL.out] at h2; omega)))
      have HX := Lib.hid (ext_end s fr)
      obtain ⟨p, hp⟩ : ∃ p, s.extract fr s.size = p := ⟨_, rfl⟩
      have HP : Hid (p.data.toList = s.data.toList.drop fr) := by rw [← hp]; exact HX
      go_wp2_with (at_builtin; refine wpList_append_lies _ rfl _ _ _ rfl w.heap.size 9 i0 _ 1 16 Tryz.underlying22 hi hz0 hz1 hz2 rfl (by omega) _ m (strs ps) rfl (hown.alloc _) ⟨wr.heap.size, 0, none⟩ 1 1 [.string p] rfl rfl (World.news_of_block (cs := #[.string p]) (t := 9) (fr := (0, 0)) (heap_alloc_new wr _)) (by simp [Value.oneCell']) (by omega) (by unfold maxLen; omega) (by omega) (by simp; omega) (wr.heap.size + 1) (by simp) ?_; intro gg cap w1 hown1 hgrow hat hlt1)
      go_ret
      have hps : ps ++ [p] = (split s.data.toList [32]).map bytes := words_bytes (by
        rw [hsp.out, HS.out, List.map_append, ← HP.out]
        rfl)
      have hown2 : w1.ownsRow w.heap.size 9 1 (.slice (some ⟨gg, 0, none⟩) (m + 1) cap) (m + 1) (strs (ps ++ [p])) := by rw [strs_add]; exact hown1
      have hlen : m + 1 = (split s.data.toList [32]).length := by
        have h1 := hown2.1
        rw [hps] at h1
        simp [strs] at h1
        exact h1.symm
      rw [← hps]
      exact ⟨_, _, _, rfl, hlen, Sl.of_own hown2, (hbel.alloc hN _).grown hgrow (by simp; omega) fun q hq => own_ge hown hq⟩
end Go.Proofs.YtbgkdlfpmbnakaaGreatDoor

/- garmentref56.form, number: a number's form, a number. Conditions: texts of at most 1,000,000 bytes; number: the form. -/
namespace Go.Proofs.YtbgkdlfpmbnakaaGreatDoor
open Go.RowKit
open Go.Lib hiding intOf

theorem trim_cons {l : List UInt8} (h : l[0]? = some 45) : trimPrefix l [45] = l.drop 1 ∧ hasPrefix l [45] = true := by
  cases l with
  | nil => cases h
  | cons b t =>
    obtain rfl : b = 45 := by simpa using h
    exact ⟨(minus_yes t).2, (minus_yes t).1⟩
theorem trim_not {l : List UInt8} (h : l[0]? ≠ some 45) : trimPrefix l [45] = l ∧ hasPrefix l [45] = false := by
  have h1 : hasPrefix l [45] = false := by
    cases l with
    | nil => rfl
    | cons b t =>
      cases hp : hasPrefix (b :: t) [45]
      · rfl
      · have := minus_of hp
        rw [this] at h
        exact absurd rfl h
  exact ⟨by rw [trimPrefix, if_neg (by simp [h1])], h1⟩
theorem byte_ne {b c : UInt8} (h : b ≠ c) (n : Int) (hn : (c.toNat : Int) = n) : ((b.toNat : Int) == n) = false := by
  rw [beq_eq_false_iff_ne]
  intro e
  exact h (UInt8.toNat_inj.1 (by omega))
theorem byte_eq {b c : UInt8} (h : b = c) (n : Int) (hn : (c.toNat : Int) = n) : ((b.toNat : Int) == n) = true := by
  rw [beq_iff_eq, h, hn]
set_option maxRecDepth 100000 in
set_option maxHeartbeats 6400000 in
theorem rform_any (s : ByteArray) (w : World) (hs : s.size ≤ 1000000) : Calls Tryz.prog 45 #[.string s] w fun e w' => e = .returned (.bool (numOk s.data.toList)) ∧ w' = w := by
  obtain ⟨R, hR⟩ : ∃ R, numOk s.data.toList = R := ⟨_, rfl⟩
  rw [hR]
  have HR := Lib.hid hR
  clear hR
  by_cases hse : s.size = 0
  · have HE : Hid (R = false) := by
      rw [Hid, ← HR.out]
      refine nume (D := s) ?_ hse
      refine (trim_not ?_).1.symm
      rw [List.getElem?_eq_none (by rw [show s.data.toList.length = s.size from rfl]; omega)]
      exact fun e => by cases e
    obtain ⟨d1, d2⟩ := empty_of s hse
    go_enter Tryz.func45, Tryz.ntmps45
    go_wp2
    go_ret
    exact ⟨by rw [HE.out]; rfl, rfl⟩
  have hsp : 0 < s.size := by omega
  obtain ⟨s1, s2⟩ := full_of s hsp
  obtain ⟨m, hm⟩ : ∃ m, s[0] = m := ⟨_, rfl⟩
  have hm0 := at_data s 0 hsp
  rw [hm] at hm0
  by_cases hmm : m = 45
  · have hq := byte_eq hmm 45 rfl
    obtain ⟨D, hDD⟩ : ∃ D, s.extract 1 s.size = D := ⟨_, rfl⟩
    have HD : Hid (D.data.toList = trimPrefix s.data.toList [45]) := by
      rw [Hid, ← hDD, ext_end, (trim_cons (by rw [hm0, hmm])).1]
    have hDs : D.size ≤ 1000000 := by rw [← hDD, ByteArray.size_extract]; omega
    have HL : Hid (D.size = D.data.toList.length) := rfl
    clear hm0 hmm
    by_cases h0 : D.size = 0
    · have HE : Hid (R = false) := by rw [Hid, ← HR.out]; exact nume HD.out h0
      obtain ⟨d1, d2⟩ := empty_of D h0
      go_enter Tryz.func45, Tryz.ntmps45
      go_wp2
      go_ret
      exact ⟨by rw [HE.out]; rfl, rfl⟩
    have hpos : 0 < D.size := by omega
    obtain ⟨d1, d2⟩ := full_of D hpos
    obtain ⟨b, hb⟩ : ∃ b, D[0] = b := ⟨_, rfl⟩
    have hb0 := at_data D 0 hpos
    rw [hb] at hb0
    have HB0 := Lib.hid hb0
    clear hb0
    have hcase : (((b.toNat : Int) == 48) = true ∧ (s.toList == [48]) = false) ∨ ((b.toNat : Int) == 48) = false ∨ (((b.toNat : Int) == 48) = true ∧ (s.toList == [48]) = true) := by
      cases ((b.toNat : Int) == 48)
      · exact .inr (.inl rfl)
      · cases (s.toList == [48])
        · exact .inl ⟨rfl, rfl⟩
        · exact .inr (.inr ⟨rfl, rfl⟩)
    rcases hcase with ⟨z1, z2⟩ | hcase
    · have HE : Hid (R = false) := by
        rw [Hid, ← HR.out]
        refine numz HD.out (by rw [HB0.out, byte_48 z1]) fun e => ?_
        rw [toList_data, e] at z2
        exact absurd z2 (by decide)
      go_enter Tryz.func45, Tryz.ntmps45
      go_wp2
      go_ret
      exact ⟨by rw [HE.out]; rfl, rfl⟩
    have HG : Hid (D.data.toList[0]? ≠ some 48 ∨ s.data.toList = [48]) := by
      rcases hcase with z1 | ⟨_, z2⟩
      · left
        rw [HB0.out]
        intro e
        rw [Option.some.inj e] at z1
        exact absurd z1 (by decide)
      · right
        rw [← toList_data]
        simpa using z2
    rcases hcase with z1 | ⟨z1, z2⟩
    all_goals
      go_enter Tryz.func45, Tryz.ntmps45
      go_wp2
      clear z1 hb
      go_loop [4] (fun i => ∃ k : Nat, k ≤ D.size ∧ i = .int .i64 (k : Int) ∧ Hid ((D.data.toList.take k).all isDig = true)) (fun i => D.size - (intOf i).toNat)
      case atStart => exact ⟨0, Nat.zero_le _, rfl, by rw [List.take_zero]; rfl⟩
      case round =>
        obtain ⟨k, hk, rfl, hd⟩ := hrel
        by_cases hlt : k < D.size
        · obtain ⟨x, hx⟩ : ∃ x, D[k] = x := ⟨_, rfl⟩
          have hxk := at_data D k hlt
          rw [hx] at hxk
          cases hdx : isDig x
          · have HE : Hid (R = false) := by rw [Hid, ← HR.out]; exact numb HD.out hxk hdx
            have hdx' := isDig_false.1 hdx
            clear hxk hdx
            rcases hdx' with h | h
            · go_wp2
              go_ret
              exact ⟨by rw [HE.out]; rfl, rfl⟩
            · go_wp2
              go_ret
              exact ⟨by rw [HE.out]; rfl, rfl⟩
          · obtain ⟨lo, hi⟩ := isDig_true.1 hdx
            have HDS := Lib.hid (digs_succ hd.out hxk hdx)
            have hlo' : ¬ (x.toNat : Int) < 48 := by omega
            have hhi' : ¬ (57 : Int) < (x.toNat : Int) := by omega
            clear hxk hdx
            go_wp2
            go_round
            case rel => exact ⟨k + 1, by omega, by go_num, HDS⟩
            case measure => simp [intOf]; omega
        · obtain rfl : k = D.size := by omega
          have HE : Hid (R = true) := by
            rw [Hid, ← HR.out]
            refine numg HD.out hpos HG.out ?_
            have := hd.out
            rwa [HL.out, List.take_length] at this
          go_wp2
          go_ret
          exact ⟨by rw [HE.out]; rfl, rfl⟩
  · have hq := byte_ne hmm 45 rfl
    have HD : Hid (s.data.toList = trimPrefix s.data.toList [45]) := (trim_not (by rw [hm0]; exact fun e => hmm (Option.some.inj e))).1.symm
    have HL : Hid (s.size = s.data.toList.length) := rfl
    clear hmm
    by_cases h0 : s.size = 0
    · have HE : Hid (R = false) := by rw [Hid, ← HR.out]; exact nume HD.out h0
      obtain ⟨d1, d2⟩ := empty_of s h0
      go_enter Tryz.func45, Tryz.ntmps45
      go_wp2
      go_ret
      exact ⟨by rw [HE.out]; rfl, rfl⟩
    have hpos : 0 < s.size := by omega
    skip
    have HB0 := Lib.hid hm0
    clear hm0
    have hcase : (((m.toNat : Int) == 48) = true ∧ (s.toList == [48]) = false) ∨ ((m.toNat : Int) == 48) = false ∨ (((m.toNat : Int) == 48) = true ∧ (s.toList == [48]) = true) := by
      cases ((m.toNat : Int) == 48)
      · exact .inr (.inl rfl)
      · cases (s.toList == [48])
        · exact .inl ⟨rfl, rfl⟩
        · exact .inr (.inr ⟨rfl, rfl⟩)
    rcases hcase with ⟨z1, z2⟩ | hcase
    · have HE : Hid (R = false) := by
        rw [Hid, ← HR.out]
        refine numz HD.out (by rw [HB0.out, byte_48 z1]) fun e => ?_
        rw [toList_data, e] at z2
        exact absurd z2 (by decide)
      go_enter Tryz.func45, Tryz.ntmps45
      go_wp2
      go_ret
      exact ⟨by rw [HE.out]; rfl, rfl⟩
    have HG : Hid (s.data.toList[0]? ≠ some 48 ∨ s.data.toList = [48]) := by
      rcases hcase with z1 | ⟨_, z2⟩
      · left
        rw [HB0.out]
        intro e
        rw [Option.some.inj e] at z1
        exact absurd z1 (by decide)
      · right
        rw [← toList_data]
        simpa using z2
    rcases hcase with z1 | ⟨z1, z2⟩
    all_goals
      go_enter Tryz.func45, Tryz.ntmps45
      go_wp2
      clear z1 hm
      go_loop [4] (fun i => ∃ k : Nat, k ≤ s.size ∧ i = .int .i64 (k : Int) ∧ Hid ((s.data.toList.take k).all isDig = true)) (fun i => s.size - (intOf i).toNat)
      case atStart => exact ⟨0, Nat.zero_le _, rfl, by rw [List.take_zero]; rfl⟩
      case round =>
        obtain ⟨k, hk, rfl, hd⟩ := hrel
        by_cases hlt : k < s.size
        · obtain ⟨x, hx⟩ : ∃ x, s[k] = x := ⟨_, rfl⟩
          have hxk := at_data s k hlt
          rw [hx] at hxk
          cases hdx : isDig x
          · have HE : Hid (R = false) := by rw [Hid, ← HR.out]; exact numb HD.out hxk hdx
            have hdx' := isDig_false.1 hdx
            clear hxk hdx
            rcases hdx' with h | h
            · go_wp2
              go_ret
              exact ⟨by rw [HE.out]; rfl, rfl⟩
            · go_wp2
              go_ret
              exact ⟨by rw [HE.out]; rfl, rfl⟩
          · obtain ⟨lo, hi⟩ := isDig_true.1 hdx
            have HDS := Lib.hid (digs_succ hd.out hxk hdx)
            have hlo' : ¬ (x.toNat : Int) < 48 := by omega
            have hhi' : ¬ (57 : Int) < (x.toNat : Int) := by omega
            clear hxk hdx
            go_wp2
            go_round
            case rel => exact ⟨k + 1, by omega, by go_num, HDS⟩
            case measure => simp [intOf]; omega
        · obtain rfl : k = s.size := by omega
          have HE : Hid (R = true) := by
            rw [Hid, ← HR.out]
            refine numg HD.out hpos HG.out ?_
            have := hd.out
            rwa [HL.out, List.take_length] at this
          go_wp2
          go_ret
          exact ⟨by rw [HE.out]; rfl, rfl⟩
end Go.Proofs.YtbgkdlfpmbnakaaGreatDoor

/- garmentref56.number: the int that a number is, if there is one. Conditions: a number's form. -/
namespace Go.Proofs.YtbgkdlfpmbnakaaGreatDoor
open Go.RowKit
open Go.Lib hiding intOf

theorem dig_long {l : List UInt8} (h : digOk l = true) (hl : 19 < l.length) : 9223372036854775808 < valD l := by
  refine Nat.not_le.1 fun hle => ?_
  have := digits_few _ hle
  rw [dec_valD h] at this
  omega
theorem dig_bound {l : List UInt8} (h : l.all isDig = true) {k : Nat} (hk : k ≤ 18) : valD (l.take k) < 1000000000000000000 := by
  have h1 : (l.take k).all isDig = true := by
    rw [List.all_eq_true] at h ⊢
    exact fun x hx => h x (List.mem_of_mem_take hx)
  refine Nat.lt_of_lt_of_le (valD_lt _ h1) ?_
  have h2 : (l.take k).length ≤ 18 := by rw [List.length_take]; omega
  exact Nat.le_trans (Nat.pow_le_pow_right (by omega) h2) (by decide)
/-- What number answers. -/
def numR (u : List UInt8) : Value := .tuple #[.int .i64 (if inI64 (numV u) = true then numV u else 0), .bool (inI64 (numV u))]
theorem numR_no {u : List UInt8} (h : inI64 (numV u) = false) : numR u = .tuple #[.int .i64 0, .bool false] := by
  unfold numR
  rw [h]
  rfl
theorem numR_yes {u : List UInt8} (h : inI64 (numV u) = true) : numR u = .tuple #[.int .i64 (numV u), .bool true] := by
  unfold numR
  rw [h]
  rfl
theorem inI64_no {z : Int} (h : z < -9223372036854775808 ∨ 9223372036854775807 < z) : inI64 z = false := by
  cases hi : inI64 z
  · rfl
  · have := inI64_iff.1 hi
    omega
set_option maxRecDepth 100000 in
set_option maxHeartbeats 6400000 in
theorem rnumber_any (s : ByteArray) (w : World) (hs : s.size ≤ 1000000) (hn : numOk s.data.toList = true) : Calls Tryz.prog 46 #[.string s] w fun e w' => e = .returned (numR s.data.toList) ∧ w' = w := by
  have hn' := hn
  unfold numOk at hn'
  rw [Bool.and_eq_true] at hn'
  obtain ⟨hok, hzz⟩ := hn'
  obtain ⟨T, hT⟩ : ∃ T, trimPrefix s.data.toList [45] = T := ⟨_, rfl⟩
  obtain ⟨V, hV⟩ : ∃ V, valD T = V := ⟨_, rfl⟩
  rw [hT] at hok
  have HAT : Hid (T.all isDig = true) := (digOk_iff.1 hok).2.2
  have h1T := (digOk_iff.1 hok).1
  have HLG : Hid (19 < T.length → 9223372036854775808 < V) := fun h => by rw [← hV]; exact dig_long hok h
  have hNV : numV s.data.toList = if hasPrefix s.data.toList [45] = true then -(V : Int) else V := by rw [numV, hT, hV]
  have hsp : 0 < s.size := by
    refine Nat.pos_of_ne_zero fun e => ?_
    have : s.data.toList = [] := List.eq_nil_of_length_eq_zero e
    rw [this] at hn
    cases hn
  obtain ⟨m, hm⟩ : ∃ m, s[0] = m := ⟨_, rfl⟩
  have hm0 := at_data s 0 hsp
  rw [hm] at hm0
  by_cases hmm : m = 45
  · have hq := byte_eq hmm 45 rfl
    obtain ⟨t1, t2⟩ := trim_cons (by rw [hm0, hmm])
    rw [t2, if_pos rfl] at hNV
    rw [hT, hV, t2] at hzz
    have hV0 : V ≠ 0 := by simpa using hzz
    obtain ⟨D, hDD⟩ : ∃ D, s.extract 1 s.size = D := ⟨_, rfl⟩
    have HD : Hid (D.data.toList = T) := by rw [Hid, ← hDD, ext_end, ← hT, t1]
    have hDs : D.size + 1 = s.size := by rw [← hDD, ByteArray.size_extract]; omega
    have HLD : Hid (T.length = D.size) := by rw [Hid, ← HD.out]; rfl
    have HAD : Hid (D.data.toList.all isDig = true) := by rw [Hid, HD.out]; exact HAT
    have HV : Hid (valD D.data.toList = V) := by rw [Hid, HD.out, hV]
    have HNV := Lib.hid hNV
    clear hm0 hmm t1 t2 hT hok hzz hV hNV HAT hn h1T
    by_cases h19 : 19 < D.size
    · have HE := Lib.hid (numR_no (u := s.data.toList) (by rw [HNV.out]; have := HLG.out (by rw [HLD.out]; exact h19); exact inI64_no (by omega)))
      go_enter Tryz.func46, Tryz.ntmps46
      go_wp2
      refine bodyPost_ret (results_tmp2 rfl _ _ _) rfl ?_
      exact ⟨by rw [HE.out]; rfl, rfl⟩
    go_enter Tryz.func46, Tryz.ntmps46
    go_wp2
    go_loop [5, 6] (fun t i => ∃ k : Nat, k ≤ D.size ∧ i = .int .i64 (k : Int) ∧ t = .int .u64 ((valD (D.data.toList.take k) : Nat) : Int)) (fun _ i => D.size - (intOf i).toNat)
    case atStart => exact ⟨0, Nat.zero_le _, rfl, rfl⟩
    case round =>
      obtain ⟨k, hk, rfl, rfl⟩ := hrel
      by_cases hlt : k < D.size
      · obtain ⟨x, hx⟩ : ∃ x, D[k] = x := ⟨_, rfl⟩
        have hxk := at_data D k hlt
        rw [hx] at hxk
        obtain ⟨lo, hi⟩ := isDig_true.1 (List.all_eq_true.1 HAD.out x (List.mem_of_getElem? hxk))
        have HS := Lib.hid (valD_succ hxk)
        have hb := dig_bound HAD.out (k := k) (by omega)
        obtain ⟨v, hv⟩ : ∃ v, valD (D.data.toList.take k) = v := ⟨_, rfl⟩
        rw [hv] at HS hb
        rw [hv]
        obtain ⟨q, hq⟩ : ∃ q : Nat, x.toNat = q + 48 := ⟨x.toNat - 48, by omega⟩
        have hqq : (x.toNat : Int) - 48 = (q : Int) := by omega
        have HS2 : Hid (valD (D.data.toList.take (k + 1)) = v * 10 + q) := by rw [Hid, HS.out]; omega
        have w1 : IntKind.u8.wrap ((x.toNat : Int) - 48) = (q : Int) := by rw [hqq]; exact IntWalk.u8_in _ (by omega)
        have w5 : IntKind.u8.wrap (q : Int) = (q : Int) := IntWalk.u8_in _ (by omega)
        have w2 : IntKind.u64.wrap (10 * (v : Int)) = 10 * (v : Int) := IntWalk.u64_in _ (by omega)
        have w3 : IntKind.u64.wrap (q : Int) = (q : Int) := IntWalk.u64_in _ (by omega)
        have w4 : IntKind.u64.wrap (10 * (v : Int) + (q : Int)) = 10 * (v : Int) + (q : Int) := IntWalk.u64_in _ (by omega)
        clear hxk hv HS lo hi
        go_wp2
        go_round
        case rel => exact ⟨k + 1, by omega, by go_num, by rw [HS2.out]; congr 1; omega⟩
        case measure => simp [intOf]; omega
      · obtain rfl : k = D.size := by omega
        rw [show D.data.toList.take D.size = D.data.toList from List.take_of_length_le (Nat.le_refl _), HV.out]
        by_cases hbig : 9223372036854775808 < V
        · have HE := Lib.hid (numR_no (u := s.data.toList) (by rw [HNV.out]; exact inI64_no (by omega)))
          have hbig' : (9223372036854775808 : Int) < (V : Int) := by omega
          go_wp2
          refine bodyPost_ret (results_tmp2 rfl _ _ _) rfl ?_
          exact ⟨by rw [HE.out]; rfl, rfl⟩
        · have HE := Lib.hid (numR_yes (u := s.data.toList) (by rw [HNV.out]; exact inI64_iff.2 (by omega)))
          have hbig' : ¬ (9223372036854775808 : Int) < (V : Int) := by omega
          have w1 : IntKind.u64.wrap ((V : Int) - 1) = (V : Int) - 1 := IntWalk.u64_in _ (by omega)
          have w2 : IntKind.i64.wrap ((V : Int) - 1) = (V : Int) - 1 := IntWalk.i64_in _ (by omega)
          have w3 : IntKind.i64.wrap (-((V : Int) - 1)) = -((V : Int) - 1) := IntWalk.i64_in _ (by omega)
          have w4 : IntKind.i64.wrap (-((V : Int) - 1) - 1) = -((V : Int) - 1) - 1 := IntWalk.i64_in _ (by omega)
          go_wp2
          refine bodyPost_ret (results_tmp2 rfl _ _ _) rfl ?_
          refine ⟨?_, rfl⟩
          have e : -((V : Int) - 1) - 1 = -(V : Int) := by omega
          rw [HE.out, HNV.out, ← e]
          rfl
  · have hq := byte_ne hmm 45 rfl
    obtain ⟨t1, t2⟩ := trim_not (l := s.data.toList) (by rw [hm0]; exact fun e => hmm (Option.some.inj e))
    rw [t2, if_neg (by simp)] at hNV
    rw [hT] at t1
    have HLD : Hid (T.length = s.size) := by rw [Hid, t1]; rfl
    have HAD : Hid (s.data.toList.all isDig = true) := by rw [Hid, ← t1]; exact HAT.out
    have HV : Hid (valD s.data.toList = V) := by rw [Hid, ← t1, hV]
    have HNV := Lib.hid hNV
    clear hm0 hmm t1 t2 hT hok hzz hV hNV HAT hn h1T
    by_cases h19 : 19 < s.size
    · have HE := Lib.hid (numR_no (u := s.data.toList) (by rw [HNV.out]; have := HLG.out (by rw [HLD.out]; exact h19); exact inI64_no (by omega)))
      go_enter Tryz.func46, Tryz.ntmps46
      go_wp2
      refine bodyPost_ret (results_tmp2 rfl _ _ _) rfl ?_
      exact ⟨by rw [HE.out]; rfl, rfl⟩
    go_enter Tryz.func46, Tryz.ntmps46
    go_wp2
    clear hm hq
    go_loop [5, 6] (fun t i => ∃ k : Nat, k ≤ s.size ∧ i = .int .i64 (k : Int) ∧ t = .int .u64 ((valD (s.data.toList.take k) : Nat) : Int)) (fun _ i => s.size - (intOf i).toNat)
    case atStart => exact ⟨0, Nat.zero_le _, rfl, rfl⟩
    case round =>
      obtain ⟨k, hk, rfl, rfl⟩ := hrel
      by_cases hlt : k < s.size
      · obtain ⟨x, hx⟩ : ∃ x, s[k] = x := ⟨_, rfl⟩
        have hxk := at_data s k hlt
        rw [hx] at hxk
        obtain ⟨lo, hi⟩ := isDig_true.1 (List.all_eq_true.1 HAD.out x (List.mem_of_getElem? hxk))
        have HS := Lib.hid (valD_succ hxk)
        have hb := dig_bound HAD.out (k := k) (by omega)
        obtain ⟨v, hv⟩ : ∃ v, valD (s.data.toList.take k) = v := ⟨_, rfl⟩
        rw [hv] at HS hb
        rw [hv]
        obtain ⟨q, hq⟩ : ∃ q : Nat, x.toNat = q + 48 := ⟨x.toNat - 48, by omega⟩
        have hqq : (x.toNat : Int) - 48 = (q : Int) := by omega
        have HS2 : Hid (valD (s.data.toList.take (k + 1)) = v * 10 + q) := by rw [Hid, HS.out]; omega
        have w1 : IntKind.u8.wrap ((x.toNat : Int) - 48) = (q : Int) := by rw [hqq]; exact IntWalk.u8_in _ (by omega)
        have w5 : IntKind.u8.wrap (q : Int) = (q : Int) := IntWalk.u8_in _ (by omega)
        have w2 : IntKind.u64.wrap (10 * (v : Int)) = 10 * (v : Int) := IntWalk.u64_in _ (by omega)
        have w3 : IntKind.u64.wrap (q : Int) = (q : Int) := IntWalk.u64_in _ (by omega)
        have w4 : IntKind.u64.wrap (10 * (v : Int) + (q : Int)) = 10 * (v : Int) + (q : Int) := IntWalk.u64_in _ (by omega)
        clear hxk hv HS lo hi
        go_wp2
        go_round
        case rel => exact ⟨k + 1, by omega, by go_num, by rw [HS2.out]; congr 1; omega⟩
        case measure => simp [intOf]; omega
      · obtain rfl : k = s.size := by omega
        rw [show s.data.toList.take s.size = s.data.toList from List.take_of_length_le (Nat.le_refl _), HV.out]
        by_cases hbig : 9223372036854775808 ≤ V
        · have HE := Lib.hid (numR_no (u := s.data.toList) (by rw [HNV.out]; exact inI64_no (by omega)))
          have hbig' : (9223372036854775808 : Int) ≤ (V : Int) := by omega
          go_wp2
          refine bodyPost_ret (results_tmp2 rfl _ _ _) rfl ?_
          exact ⟨by rw [HE.out]; rfl, rfl⟩
        · have HE := Lib.hid (numR_yes (u := s.data.toList) (by rw [HNV.out]; exact inI64_iff.2 (by omega)))
          have hbig' : ¬ (9223372036854775808 : Int) ≤ (V : Int) := by omega
          have w2 : IntKind.i64.wrap (V : Int) = (V : Int) := IntWalk.i64_in _ (by omega)
          go_wp2
          refine bodyPost_ret (results_tmp2 rfl _ _ _) rfl ?_
          exact ⟨by rw [HE.out, HNV.out]; rfl, rfl⟩
end Go.Proofs.YtbgkdlfpmbnakaaGreatDoor
