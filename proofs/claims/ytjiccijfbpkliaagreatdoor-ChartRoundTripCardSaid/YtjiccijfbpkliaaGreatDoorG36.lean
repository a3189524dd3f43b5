/-
  Several texts in one: garmentref18.Line returns the words of a line. Conditions: a text of at most 1,000,000 bytes; the offset lies in it.
-/
import Derived.Test.YtjiccijfbpkliaaGreatDoorG02
import Derived.Test.YtjiccijfbpkliaaGreatDoorG19
import Derived.Test.YtjiccijfbpkliaaGreatDoorG20

/- garmentref18.Line returns the words of a line. Conditions: a text of at most 1,000,000 bytes; the offset lies in it. -/
namespace Go.Proofs.YtjiccijfbpkliaaGreatDoor
open Go.RowKit
open Go.Lib hiding intOf

/-- Words, the place of the next line and 'true' come back; or nothing. -/
def RetLine (o : Option (List (List UInt8) × List UInt8)) (N : Nat) (w : World) (e : Ending) (w' : World) : Prop :=
  (∀ ws t, o = some (ws, t) → ∃ A c, e = .returned (.tuple #[.slice A ws.length c, .int .i64 ((N - t.length : Nat) : Int), .bool true]) ∧ ws.length ≤ c ∧ Sl w' w'.heap.size A ws.length (strs (ws.map bytes)) ∧ Below w.heap.size w w') ∧
  (o = none → e = .returned (.tuple #[.slice none 0 0, .int .i64 0, .bool false]) ∧ Below w.heap.size w w')
theorem RetLine.no {o : Option (List (List UInt8) × List UInt8)} {N : Nat} {w w' : World} (h : o = none) (hb : Below w.heap.size w w') : RetLine o N w (.returned (.tuple #[.slice none 0 0, .int .i64 0, .bool false])) w' := by
  subst h
  exact ⟨(fun ws t h => by cases h), fun _ => ⟨rfl, hb⟩⟩
theorem RetLine.yes {o : Option (List (List UInt8) × List UInt8)} {N c m : Nat} {w w' : World} {ws : List (List UInt8)} {t : List UInt8} {A : Option Addr} (h : o = some (ws, t)) (hm : m = N - t.length) (hc : ws.length ≤ c) (hs : Sl w' w'.heap.size A ws.length (strs (ws.map bytes))) (hb : Below w.heap.size w w') : RetLine o N w (.returned (.tuple #[.slice A ws.length c, .int .i64 (m : Int), .bool true])) w' := by
  subst h
  subst hm
  refine ⟨(fun ws' t' h => ?_), (fun h => by cases h)⟩
  injection h with h
  injection h with h1 h2
  subst h1
  subst h2
  exact ⟨A, c, rfl, hc, hs, hb⟩
theorem bne_byte {b : UInt8} {n : Nat} {z : Int} (h : b ≠ UInt8.ofNat n) (hn : n < 256 := by decide) (hz : z = (n : Int) := by rfl) : ((b.toNat : Int) != z) = true := by
  subst hz
  rw [bne_iff_ne]
  intro e
  apply h
  apply UInt8.toNat_inj.1
  rw [UInt8.toNat_ofNat']
  omega
theorem own_form' {w : World} {base size n : Nat} {e : TypeId} {v : Value} {xs : List Value} (h : w.ownsRow base e size v n xs) : ∃ A' c, v = .slice A' n c ∧ n ≤ c := by
  rcases h.2 with ⟨rfl, rfl⟩ | ⟨g, cap, cur, rfl, hg, h2, h3, _⟩
  · exact ⟨_, _, rfl, Nat.le_refl _⟩
  · exact ⟨_, _, rfl, h3⟩
theorem take_more {l : List UInt8} {f i : Nat} {b : UInt8} (hf : f ≤ i) (hb : l[i]? = some b) : (l.drop f).take (i + 1 - f) = (l.drop f).take (i - f) ++ [b] := by
  have e : i + 1 - f = (i - f) + 1 := by omega
  rw [e, List.take_add_one, List.getElem?_drop, show f + (i - f) = i by omega, hb]
  rfl
theorem drop_at {l : List UInt8} {i : Nat} {b : UInt8} (hb : l[i]? = some b) : l.drop i = b :: l.drop (i + 1) := by
  obtain ⟨h, rfl⟩ := List.getElem?_eq_some_iff.1 hb
  exact List.drop_eq_getElem_cons h
theorem ext_word (s : ByteArray) (f i : Nat) : s.extract f i = bytes ((s.data.toList.drop f).take (i - f)) := by
  apply eq_of_data
  rw [bytes_data, extract_data]
theorem cur_nil {l : List UInt8} {f i : Nat} (hf : f ≤ i) (hi : i ≤ l.length) : (l.drop f).take (i - f) = [] ↔ i = f := by
  constructor
  · intro h
    have := congrArg List.length h
    simp at this
    omega
  · rintro rfl
    simp

set_option maxRecDepth 100000 in
set_option maxHeartbeats 6400000 in
theorem line_any (s : ByteArray) (k : Nat) (w : World) (hs : s.size ≤ 1000000) (hk : k ≤ s.size) :
    Calls Tryz.prog 63 #[.string s, .int .i64 (k : Int)] w (RetLine (lineP (s.data.toList.drop k)) s.size w) := by
  have hl : s.data.toList.length = s.size := rfl
  have HL := Lib.hid hl
  clear hl
  go_enter Tryz.func63, Tryz.ntmps63
  go_wp2_with fail
  go_loopw [7, 8, 9] (fun s7 s8 s9 wr => ∃ (f i : Nat) (ws : List (List UInt8)), f ≤ i ∧ i ≤ s.size ∧ s8 = .int .i64 (f : Int) ∧ s9 = .int .i64 (i : Int) ∧ wr.ownsRow w.heap.size 9 1 s7 ws.length (strs (ws.map bytes)) ∧ ws.length ≤ i ∧ Hid (lineP (s.data.toList.drop k) = lineS ws ((s.data.toList.drop f).take (i - f)) (s.data.toList.drop i)) ∧ Below w.heap.size w wr) (fun _ _ s9 _ => s.size - (intOf s9).toNat)
  case atStart => exact ⟨k, k, [], Nat.le_refl _, hk, rfl, rfl, World.ownsRow_nil _ _ _ _, Nat.zero_le _, by rw [Hid, Nat.sub_self, List.take_zero]; rfl, Below.refl _ _⟩
  case round =>
    obtain ⟨f, i, ws, hfi, his, rfl, rfl, hown, hwi, hli, hbel⟩ := hrel
    by_cases hlt : i < s.size
    · obtain ⟨b, hb⟩ : ∃ b, s.data.toList[i]? = some b := ⟨_, List.getElem?_eq_getElem (by rw [HL.out]; exact hlt)⟩
      have HB := Lib.hid hb
      have hat : s[i]'hlt = b := by
        have := at_data s i hlt
        rw [hb] at this
        exact (Option.some.inj this).symm
      have HD := Lib.hid (drop_at hb)
      have HM := Lib.hid (take_more hfi hb)
      have HBE := Lib.hid hbel
      have HO := Lib.hid hown
      have HLI := hli
      clear hb hbel hown
      by_cases hsep : b = 32 ∨ b = 10
      · by_cases hif : i = f
        · subst hif
          have HN : Hid (lineP (s.data.toList.drop k) = none) := by
            rw [Hid, HLI.out, HD.out, lineS, if_neg (by rcases hsep with rfl | rfl <;> simp), if_pos (by simp)]
          clear HM HD HLI hli
          have ht : b.toNat = 32 ∨ b.toNat = 10 := by rcases hsep with rfl | rfl <;> simp
          rcases ht with ht | ht
          all_goals
            go_wp2_with fail
            refine bodyPost_ret (v := .tuple #[.slice none 0 0, .int .i64 0, .bool false]) (by simp [results, Tryz.results63, go_sem]) rfl ?_
            exact RetLine.no HN.out HBE.out
        · have hif2 : ((i : Int) == (f : Int)) = false := by rw [beq_eq_false_iff_ne]; omega
          have HX := Lib.hid (ext_word s f i)
          have HC0 : Hid (¬ (s.data.toList.drop f).take (i - f) = []) := fun e => hif ((cur_nil hfi (by rw [HL.out]; exact his)).1 e)
          have hwl : ws.length ≤ 1000000 := by omega
          have hsz := HBE.out.size
          rcases hsep with rfl | rfl
          · have HN : Hid (lineP (s.data.toList.drop k) = lineS (ws ++ [(s.data.toList.drop f).take (i - f)]) [] (s.data.toList.drop (i + 1))) := by
              rw [Hid, HLI.out, HD.out, lineS, if_neg (by simp), if_neg HC0.out, if_neg (by decide)]
            have ht : (32 : UInt8).toNat = 32 := rfl
            obtain ⟨x, hx⟩ : ∃ x, s.extract f i = x := ⟨_, rfl⟩
            have HXX := Lib.hid (hx.symm.trans HX.out)
            clear HM HD HLI hli HC0 HX
            go_wp2_with (at_builtin; go_must ((refine append_str rfl (.tmp 31) (.tmp 36) rfl w.heap.size ws.length _ _ rfl (HO.out.alloc _) ⟨wr.heap.size, 0, none⟩ rfl x (by simp) (by omega) (by simp; omega) ?_); intro v4 w4 hown4 hgr4))
            go_roundw
            case rel =>
              refine ⟨i + 1, i + 1, ws ++ [(s.data.toList.drop f).take (i - f)], Nat.le_refl _, by omega, by go_num, by go_num, ?_, by simp; omega, by rw [Hid, Nat.sub_self, List.take_zero]; exact HN.out, ?_⟩
              · rw [HXX.out] at hown4
                simpa [strs] using hown4
              · exact (Below.alo HBE.out _).grown hgr4 (by simp; omega) fun g e => (HO.out.lt _ e).1
            case measure => simp [intOf]; omega
          · have HN : Hid (lineP (s.data.toList.drop k) = some (ws ++ [(s.data.toList.drop f).take (i - f)], s.data.toList.drop (i + 1))) := by
              rw [Hid, HLI.out, HD.out, lineS, if_neg (by simp), if_neg HC0.out, if_pos rfl]
            have ht : (10 : UInt8).toNat = 10 := rfl
            obtain ⟨x, hx⟩ : ∃ x, s.extract f i = x := ⟨_, rfl⟩
            have HXX := Lib.hid (hx.symm.trans HX.out)
            clear HM HD HLI hli HC0 HX
            go_wp2_with (at_builtin; go_must ((refine append_str rfl (.tmp 31) (.tmp 36) rfl w.heap.size ws.length _ _ rfl (HO.out.alloc _) ⟨wr.heap.size, 0, none⟩ rfl x (by simp) (by omega) (by simp; omega) ?_); intro v4 w4 hown4 hgr4; obtain ⟨A4, c4, hv4, hc4⟩ := own_form' hown4; subst hv4))
            refine bodyPost_ret (v := .tuple #[.slice A4 (ws.length + 1) c4, .int .i64 ((i : Int) + 1), .bool true]) (by simp [results, Tryz.results63, go_sem]) rfl ?_
            rw [HXX.out] at hown4
            have hS : Sl w4 w4.heap.size A4 (ws ++ [(s.data.toList.drop f).take (i - f)]).length (strs ((ws ++ [(s.data.toList.drop f).take (i - f)]).map bytes)) := by
              have := Sl.of_own hown4
              simpa [strs] using this
            have := RetLine.yes (m := i + 1) (N := s.size) (c := c4) (w := w) HN.out (by rw [List.length_drop, HL.out]; omega) (by simpa using hc4) hS ((Below.alo HBE.out _).grown hgr4 (by simp; omega) fun g e => (HO.out.lt _ e).1)
            simpa using this
      · have h32 : b ≠ 32 := fun e => hsep (.inl e)
        have h10 : b ≠ 10 := fun e => hsep (.inr e)
        have HN : Hid (lineP (s.data.toList.drop k) = lineS ws ((s.data.toList.drop f).take (i + 1 - f)) (s.data.toList.drop (i + 1))) := by
          rw [Hid, HLI.out, HD.out, lineS, if_pos ⟨h32, h10⟩, HM.out]
        have t32 : ((b.toNat : Int) != 32) = true := bne_byte h32
        have t10 : ((b.toNat : Int) != 10) = true := bne_byte h10
        clear HM HD HLI hli h32 h10 hsep
        go_wp2_with fail
        go_roundw
        case rel => exact ⟨f, i + 1, ws, by omega, by omega, rfl, by go_num, HO.out, by omega, HN, HBE.out⟩
        case measure => simp [intOf]; omega
    · obtain rfl : i = s.size := by omega
      have HN : Hid (lineP (s.data.toList.drop k) = none) := by
        have e : s.data.toList.drop s.size = [] := List.drop_of_length_le (by rw [HL.out]; exact Nat.le_refl _)
        rw [Hid, hli.out, e]
        rfl
      have HBE := Lib.hid hbel
      clear hli hown hbel
      go_wp2_with fail
      refine bodyPost_ret (v := .tuple #[.slice none 0 0, .int .i64 0, .bool false]) (by simp [results, Tryz.results63, go_sem]) rfl ?_
      exact RetLine.no HN.out HBE.out
end Go.Proofs.YtjiccijfbpkliaaGreatDoor
