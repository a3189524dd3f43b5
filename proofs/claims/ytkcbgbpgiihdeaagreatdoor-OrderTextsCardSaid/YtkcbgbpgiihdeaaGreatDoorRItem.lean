/-
  R35.item returns the item that a text denotes, or says that it denotes none; R35.find returns the first index. Conditions: texts of at most 1,000,000 bytes.
-/
import Derived.Test.YtkcbgbpgiihdeaaGreatDoorParse
namespace Go.Proofs.YtkcbgbpgiihdeaaGreatDoor
open Go.RowKit
open Go.Lib hiding intOf

def ItemPost (l : List UInt8) (e : Ending) : Prop :=
  (itemOk l = true ∧ e = .returned (.tuple #[.string (itemS l), .int .i64 (itemN l), .bool true])) ∨ (itemOk l = false ∧ ∃ v x, e = .returned (.tuple #[.string v, .int .i64 x, .bool false]))

theorem itemOk_head {l : List UInt8} (h : l[0]? = some 32) : itemOk l = false := by
  rw [itemOk, cut_hit h (fun j hj => by omega)]
  simp
theorem itemOk_miss {l : List UInt8} (h : ∀ j : Nat, l[j]? ≠ some 32) : itemOk l = false := by
  rw [itemOk, cut_miss h]
  rfl
theorem itemOk_hit {l : List UInt8} {i : Nat} (h : l[i]? = some 32) (hi : 1 ≤ i) (hn : ∀ j, j < i → l[j]? ≠ some 32) : itemOk l = numOk (l.drop (i + 1)) ∧ itemS l = ⟨(l.take i).toArray⟩ ∧ itemN l = num (l.drop (i + 1)) := by
  have hlt : i < l.length := (List.getElem?_eq_some_iff.1 h).1
  rw [itemOk, itemS, itemN, cut_hit h hn]
  refine ⟨?_, rfl, rfl⟩
  have : decide (1 ≤ (l.take i).length) = true := by simp; omega
  simp only [this, Bool.true_and]

set_option maxHeartbeats 1600000 in
theorem ritem_any (s : ByteArray) (w : World) (hs : s.size ≤ 1000000) :
    Calls Tryz.prog 25 #[.string s] w fun e w' => ItemPost s.data.toList e ∧ ∃ k, w' = w.drewN k := by
  have HL := Lib.hid (size_eq s)
  go_enter Tryz.func25, Tryz.ntmps25
  go_wp2
  go_loop [5] (fun i => ∃ k : Nat, 1 ≤ k ∧ (k ≤ s.size ∨ k = 1) ∧ i = .int .i64 k ∧ Hid (∀ j, 1 ≤ j → j < k → s.data.toList[j]? ≠ some 32)) (fun i => s.size - (intOf i).toNat)
  case atStart => exact ⟨1, Nat.le_refl _, .inr rfl, rfl, fun j h1 h2 => by omega⟩
  case round =>
    obtain ⟨k, hk1, hks, rfl, hno⟩ := hrel
    by_cases hlt : k < s.size
    · obtain ⟨c, hc⟩ : ∃ c, s[k] = c := ⟨_, rfl⟩
      have hck := at_data s k hlt
      rw [hc] at hck
      have HC := Lib.hid hck; clear hck
      clear hks
      by_cases h32 : c = 32
      · have hc32 : ((c.toNat : Int) == 32) = true := by rw [h32]; rfl
        have HC2 : Hid (s.data.toList[k]? = some 32) := by rw [HC.out, h32]; exact rfl
        clear h32
        have hpos : 0 < s.size := by omega
        obtain ⟨b, hb⟩ : ∃ b, s[0] = b := ⟨_, rfl⟩
        have hbk := at_data s 0 hpos
        rw [hb] at hbk
        have HB := Lib.hid hbk; clear hbk
        have hds : (s.extract (k + 1) s.size).size ≤ 1000000 := by rw [ByteArray.size_extract]; omega
        have HD := Lib.hid (extract_to_end s (k + 1))
        have HT := Lib.hid (extract_from_zero s k)
        obtain ⟨x, hx⟩ : ∃ x, numV (s.extract (k + 1) s.size).data.toList = x := ⟨_, rfl⟩
        have HX := Lib.hid hx; clear hx
        by_cases hb32 : b = 32
        · have hbn : ((b.toNat : Int) != 32) = false := by rw [hb32]; rfl
          have HI := Lib.hid (itemOk_head (l := s.data.toList) (by rw [HB.out, hb32]))
          clear hb32
          cases hno2 : numOk (s.extract (k + 1) s.size).data.toList
          · go_wp2_with (go_at_call 36; refine (number_any _ _ hds).mono ?_; rintro e w' ⟨rfl, rfl⟩; rw [hno2, HX.out])
            go_quiet (fail)
            go_wp2
            go_ret3
            exact ⟨.inr ⟨HI.out, _, _, rfl⟩, _, rfl⟩
          · go_wp2_with (go_at_call 36; refine (number_any _ _ hds).mono ?_; rintro e w' ⟨rfl, rfl⟩; rw [hno2, HX.out])
            go_quiet (fail)
            go_wp2
            go_ret3
            exact ⟨.inr ⟨HI.out, _, _, rfl⟩, _, rfl⟩
        · have hbn : ((b.toNat : Int) != 32) = true := by
            rw [bne_iff_ne]
            intro e
            exact hb32 (UInt8.toNat_inj.1 (by have : b.toNat = 32 := by omega
                                              exact this))
          have HI := Lib.hid (itemOk_hit HC2.out hk1 (fun j hj => by
            by_cases hj0 : j = 0
            · subst hj0
              rw [HB.out]
              intro e
              injection e with e
              exact hb32 e
            · exact hno.out j (by omega) hj))
          clear hb32
          cases hno2 : numOk (s.extract (k + 1) s.size).data.toList
          · go_wp2_with (go_at_call 36; refine (number_any _ _ hds).mono ?_; rintro e w' ⟨rfl, rfl⟩; rw [hno2, HX.out])
            go_quiet (fail)
            go_wp2
            go_ret3
            exact ⟨.inr ⟨by rw [HI.out.1, ← HD.out]; exact hno2, _, _, rfl⟩, _, rfl⟩
          · have HV := Lib.hid (numV_yes hno2)
            go_wp2_with (go_at_call 36; refine (number_any _ _ hds).mono ?_; rintro e w' ⟨rfl, rfl⟩; rw [hno2, HX.out])
            go_quiet (fail)
            go_wp2
            go_ret3
            refine ⟨.inl ⟨by rw [HI.out.1, ← HD.out]; exact hno2, ?_⟩, _, rfl⟩
            rw [HI.out.2.1, HI.out.2.2, ← HT.out, ← HD.out, mk_data, ← HV.out, HX.out]
            rfl
      · have hc32 : ((c.toNat : Int) == 32) = false := by
          rw [beq_eq_false_iff_ne]
          intro e
          exact h32 (UInt8.toNat_inj.1 (by have : c.toNat = 32 := by omega
                                           exact this))
        have HN : Hid (∀ j, 1 ≤ j → j < k + 1 → s.data.toList[j]? ≠ some 32) := fun j h1 h2 => by
          by_cases hj : j = k
          · subst hj
            rw [HC.out]
            intro e
            injection e with e
            exact h32 e
          · exact hno.out j h1 (by omega)
        clear h32
        go_wp2
        go_round
        case rel => exact ⟨k + 1, by omega, .inl (by omega), by go_num, HN⟩
        case measure => simp [intOf]; omega
    · have HI : Hid (itemOk s.data.toList = false) := by
        by_cases h0 : s.data.toList[0]? = some 32
        · exact itemOk_head h0
        · refine itemOk_miss fun j => ?_
          by_cases hj0 : j = 0
          · subst hj0
            exact h0
          · by_cases hjk : j < k
            · exact hno.out j (by omega) hjk
            · rw [List.getElem?_eq_none (by rw [← HL.out]; omega)]
              exact fun e => by cases e
      clear hks
      go_wp2
      go_ret3
      exact ⟨.inr ⟨HI.out, _, _, rfl⟩, 0, rfl⟩

theorem idxFromS_at (x : ByteArray) : ∀ (zs : List ByteArray) (k i : Nat), zs[k]? = some x → x ∉ zs.take k → idxFromS zs x i = ((i + k : Nat) : Int)
  | [], k, i, h, _ => by simp at h
  | z :: zs, 0, i, h, _ => by
    have : z = x := by simpa using h
    simp [idxFromS, this]
  | z :: zs, k + 1, i, h, hn => by
    simp only [List.take_succ_cons, List.mem_cons, not_or] at hn
    have hz : ¬ z = x := fun e => hn.1 e.symm
    rw [idxFromS, if_neg hz, idxFromS_at x zs k (i + 1) (by simpa using h) hn.2]
    omega
theorem idxOfS_at {zs : List ByteArray} {x : ByteArray} {k : Nat} (h : zs[k]? = some x) (hn : x ∉ zs.take k) : idxOfS zs x = k := by
  unfold idxOfS
  rw [idxFromS_at x zs k 0 h hn, Nat.zero_add]
theorem idxOfS_none {zs : List ByteArray} {x : ByteArray} (hn : x ∉ zs) : idxOfS zs x = -1 := by
  rcases idx_cases zs x with ⟨h, _⟩ | ⟨k, _, _, h, _⟩
  · exact h
  · exact absurd (List.mem_of_getElem? h) hn
theorem notin_succ {zs : List ByteArray} {x z : ByteArray} {k : Nat} (h : x ∉ zs.take k) (hz : zs[k]? = some z) (hne : ¬ z = x) : x ∉ zs.take (k + 1) := by
  rw [List.take_add_one, hz]
  simp only [Option.toList_some, List.mem_append, List.mem_singleton, not_or]
  exact ⟨h, fun e => hne e.symm⟩

set_option maxHeartbeats 400000 in
theorem find_any (A : Option Addr) (n c : Nat) (zs : List ByteArray) (x : ByteArray) (w : World) {B : Nat} (ha : Sl w B A n (strs zs)) (hn : n ≤ 1000000) :
    Calls Tryz.prog 26 #[.slice A n c, .string x] w fun e w' => e = .returned (.int .i64 (idxOfS zs x)) ∧ w = w' := by
  have HX := Lib.hid ha.slen
  go_enter Tryz.func26, Tryz.ntmps26
  go_wp2
  go_loop [5] (fun i => ∃ k : Nat, k ≤ n ∧ i = .int .i64 k ∧ Hid (x ∉ zs.take k)) (fun i => n - (intOf i).toNat)
  case atStart => exact ⟨0, Nat.zero_le _, rfl, by simp [Hid]⟩
  case round =>
    obtain ⟨k, hk, rfl, hs⟩ := hrel
    by_cases hlt : k < n
    · obtain ⟨b, off, z, rfl, _, hz, hcz⟩ := ha.str_ hlt
      have HZ := Lib.hid hz; clear hz ha
      cases hq : (z.toList == x.toList)
      · have hne : ¬ z = x := (bytes_beq_false_iff z x).1 hq
        have HN := Lib.hid (notin_succ hs.out HZ.out hne)
        clear hne
        go_wp2
        go_round
        case rel => exact ⟨k + 1, by omega, by go_num, HN⟩
        case measure => simp [intOf]; omega
      · have he : z = x := (bytes_beq_iff z x).1 hq
        have HE := Lib.hid (idxOfS_at (by rw [← he]; exact HZ.out) hs.out)
        clear he
        go_wp2
        go_ret
        exact ⟨ret_int HE.out.symm, rfl⟩
    · obtain rfl : k = n := by omega
      have hs2 := hs.out
      rw [List.take_of_length_le (by rw [HX.out]; omega)] at hs2
      have HE := Lib.hid (idxOfS_none hs2)
      clear hs2
      go_wp2
      go_ret
      exact ⟨ret_int HE.out.symm, rfl⟩
end Go.Proofs.YtkcbgbpgiihdeaaGreatDoor
