/-
  Several texts in one: Names: formula.isName reports whether a text is a name. Conditions: a text of at most 2^63 - 1 bytes. Plain size charts: their errors, values, changes and columns. No program in sight. Plain texts of charts: the words of a line, the chart that a text describes, and the text of a chart. No program in sight. Plain texts of numbers and charts: what is printed is read again, and what is read is printed again. No program in sight. formula.operands, right, check, Check at names, and chart.isName. Conditions: none on the name but that its length is an int. How a chart lies in memory: slices of ratios (three cells each) and of rows (five cells each). Nothing here walks the program. chart.isSize, isIndex, find. Conditions: slices of at most 1,000,000 rows. garmentref17.digit, Name. Conditions: none but that a string's length is an int.
-/
import Derived.Lib.SlicesS
import Derived.Lib.SplitLaws
import Derived.WalkLawsBesides
import Derived.Test.YtjiccijfbpkliaaGreatDoorG01
import Derived.Test.YtjiccijfbpkliaaGreatDoorG19

/- Names: formula.isName reports whether a text is a name. Conditions: a text of at most 2^63 - 1 bytes. -/
namespace Go.Proofs.YtjiccijfbpkliaaGreatDoor
open Go.RowKit
open Go.Lib hiding intOf

def isLow (b : UInt8) : Bool := decide (97 ≤ b.toNat) && decide (b.toNat ≤ 122)
/-- May a byte stand in a name? The flag: it is the first one. -/
def nameB (first : Bool) (b : UInt8) : Bool := isLow b || (!first && (b == 95 || isDig b))
/-- The first k bytes may stand in a name. -/
def nameUp (l : List UInt8) (k : Nat) : Prop := ∀ j b, j < k → l[j]? = some b → nameB (decide (j = 0)) b = true
def nameOk (l : List UInt8) : Bool := decide (1 ≤ l.length) && (decide (l.length ≤ 24) && (decide (l ≠ [109, 105, 110]) && (decide (l ≠ [109, 97, 120]) && (List.range l.length).all fun j => nameB (decide (j = 0)) (l.getD j 0))))
theorem nameOk_iff {l : List UInt8} : nameOk l = true ↔ 1 ≤ l.length ∧ l.length ≤ 24 ∧ l ≠ [109, 105, 110] ∧ l ≠ [109, 97, 120] ∧ nameUp l l.length := by
  simp only [nameOk, Bool.and_eq_true, decide_eq_true_eq, List.all_eq_true, List.mem_range, nameUp]
  refine and_congr_right fun _ => and_congr_right fun _ => and_congr_right fun _ => and_congr_right fun _ => ?_
  constructor
  · intro h j b hj hb
    have := h j hj
    rw [List.getD_eq_getElem?_getD, hb] at this
    exact this
  · intro h j hj
    have := h j l[j] hj (List.getElem?_eq_getElem hj)
    rw [List.getD_eq_getElem?_getD, List.getElem?_eq_getElem hj]
    exact this
theorem nameUp_succ {l : List UInt8} {k : Nat} {b : UInt8} (h : nameUp l k) (hb : l[k]? = some b) (hn : nameB (decide (k = 0)) b = true) : nameUp l (k + 1) := by
  intro j c hj hc
  by_cases e : j = k
  · subst e
    rw [hb] at hc
    rw [← Option.some.inj hc]
    exact hn
  · exact h j c (by omega) hc
theorem nameOk_no {l : List UInt8} {k : Nat} {b : UInt8} (hb : l[k]? = some b) (hn : nameB (decide (k = 0)) b = false) : nameOk l = false := by
  cases h : nameOk l
  · rfl
  · have := (nameOk_iff.1 h).2.2.2.2 k b (List.getElem?_eq_some_iff.1 hb).1 hb
    rw [hn] at this
    cases this

theorem isDigit_any (b : UInt8) (w : World) : Calls Tryz.prog 187 #[.int .u8 (b.toNat : Int)] w fun e w' => e = .returned (.bool (isDig b)) ∧ w = w' := by
  cases hd : isDig b
  · rcases isDig_false.1 hd with h | h
    · go_enter Tryz.func187, Tryz.ntmps187
      go_wp2
      go_ret
      exact ⟨rfl, rfl⟩
    · have h1 : ¬ b.toNat < 48 := by omega
      have h2 : decide ((b.toNat : Int) ≤ 57) = false := by simp; omega
      go_enter Tryz.func187, Tryz.ntmps187
      go_wp2
      go_ret
      exact ⟨rfl, rfl⟩
  · obtain ⟨h1, h2⟩ := isDig_true.1 hd
    have h3 : decide ((b.toNat : Int) ≤ 57) = true := by simp; omega
    go_enter Tryz.func187, Tryz.ntmps187
    go_wp2
    go_ret
    exact ⟨rfl, rfl⟩

theorem ne_min {s : ByteArray} (h : s.data.toList ≠ [109, 105, 110]) : (s.toList == [109, 105, 110]) = false := by rw [toList_data]; simpa using h
theorem ne_max {s : ByteArray} (h : s.data.toList ≠ [109, 97, 120]) : (s.toList == [109, 97, 120]) = false := by rw [toList_data]; simpa using h
set_option maxRecDepth 100000 in
set_option maxHeartbeats 1600000 in
theorem isName_any (s : ByteArray) (w : World) (hs : s.size ≤ 9223372036854775807) :
    Calls Tryz.prog 173 #[.string s] w fun e w' => e = .returned (.bool (nameOk s.data.toList)) ∧ w = w' := by
  have HL := Lib.hid (size_eq s)
  by_cases hbad : s.size = 0 ∨ 24 < s.size ∨ s.data.toList = [109, 105, 110] ∨ s.data.toList = [109, 97, 120]
  · have HE : Hid (nameOk s.data.toList = false) := by
      cases h : nameOk s.data.toList
      · rfl
      · obtain ⟨h1, h2, h3, h4, _⟩ := nameOk_iff.1 h
        rw [← HL.out] at h1 h2
        rcases hbad with h | h | h | h
        · omega
        · omega
        · exact absurd h h3
        · exact absurd h h4
    by_cases h1 : s.size = 0
    · have h1' : ((s.size : Int) == 0) = true := by rw [beq_iff_eq]; omega
      clear hbad h1
      go_enter Tryz.func173, Tryz.ntmps173
      go_wp2
      go_ret
      exact ⟨by rw [HE.out]; rfl, rfl⟩
    have h1' : ((s.size : Int) == 0) = false := by rw [beq_eq_false_iff_ne]; omega
    by_cases h2 : 24 < s.size
    · have h2' : decide ((24 : Int) < (s.size : Int)) = true := by simp; omega
      clear hbad
      go_enter Tryz.func173, Tryz.ntmps173
      go_wp2
      go_ret
      exact ⟨by rw [HE.out]; rfl, rfl⟩
    have h2' : decide ((24 : Int) < (s.size : Int)) = false := by simp; omega
    by_cases h3 : s.data.toList = [109, 105, 110]
    · have h3' : (s.toList == [109, 105, 110]) = true := by rw [toList_data, h3]; rfl
      clear hbad h3
      go_enter Tryz.func173, Tryz.ntmps173
      go_wp2
      go_ret
      exact ⟨by rw [HE.out]; rfl, rfl⟩
    have h3' := ne_min h3
    have h4 : s.data.toList = [109, 97, 120] := by
      rcases hbad with h | h | h | h
      · exact absurd h h1
      · exact absurd h h2
      · exact absurd h h3
      · exact h
    have h4' : (s.toList == [109, 97, 120]) = true := by rw [toList_data, h4]; rfl
    clear hbad h3 h4
    go_enter Tryz.func173, Tryz.ntmps173
    go_wp2
    go_ret
    exact ⟨by rw [HE.out]; rfl, rfl⟩
  · have h1 : ¬ s.size = 0 := fun h => hbad (.inl h)
    have h2 : ¬ 24 < s.size := fun h => hbad (.inr (.inl h))
    have h3 := ne_min (s := s) fun h => hbad (.inr (.inr (.inl h)))
    have h4 := ne_max (s := s) fun h => hbad (.inr (.inr (.inr h)))
    have HB := Lib.hid hbad
    have h1' : ((s.size : Int) == 0) = false := by rw [beq_eq_false_iff_ne]; omega
    have h2' : decide ((24 : Int) < (s.size : Int)) = false := by simp; omega
    clear hbad
    go_enter Tryz.func173, Tryz.ntmps173
    go_wp2
    clear h1' h2' h3 h4
    go_loop [24] (fun i => ∃ k : Nat, k ≤ s.size ∧ i = .int .i64 (k : Int) ∧ Hid (nameUp s.data.toList k)) (fun i => s.size - (intOf i).toNat)
    case atStart => exact ⟨0, Nat.zero_le _, rfl, fun j b hj => by omega⟩
    case round =>
      obtain ⟨k, hk, rfl, hup⟩ := hrel
      by_cases hlt : k < s.size
      · obtain ⟨b, hb⟩ : ∃ b, s[k] = b := ⟨_, rfl⟩
        have hbk := at_data s k hlt
        rw [hb] at hbk
        have HB' := Lib.hid hbk
        clear hbk
        obtain ⟨dg, hdg⟩ : ∃ dg, isDig b = dg := ⟨_, rfl⟩
        by_cases hlo : 97 ≤ b.toNat ∧ b.toNat ≤ 122
        · have HN : Hid (nameB (decide (k = 0)) b = true) := by simp [Hid, nameB, isLow, hlo]
          obtain ⟨l1, l2⟩ := hlo
          have d1 : decide ((97 : Int) ≤ (b.toNat : Int)) = true := by simp; omega
          have d2 : decide ((b.toNat : Int) ≤ 122) = true := by simp; omega
          go_wp2_with (go_at_call 187; go_must ((refine (isDigit_any _ _).mono ?_); rintro e w' ⟨rfl, rfl⟩; rw [hdg]))
          go_round
          case rel => exact ⟨k + 1, by omega, by go_num, nameUp_succ hup.out HB'.out HN.out⟩
          case measure => simp [intOf]; omega
        · have hnl : isLow b = false := by
            cases h : isLow b
            · rfl
            · exact absurd (by simpa [isLow] using h) hlo
          have hc : decide ((97 : Int) ≤ (b.toNat : Int)) = false ∨ (decide ((97 : Int) ≤ (b.toNat : Int)) = true ∧ decide ((b.toNat : Int) ≤ 122) = false) := by
            by_cases h : 97 ≤ b.toNat
            · exact .inr ⟨by simp; omega, by simp; omega⟩
            · exact .inl (by simp; omega)
          by_cases hk0 : k = 0
          · have HN : Hid (nameOk s.data.toList = false) := nameOk_no HB'.out (by simp [nameB, hnl, hk0])
            subst hk0
            clear hlo hnl
            rcases hc with d1 | ⟨d1, d2⟩
            all_goals
              go_wp2_with (go_at_call 187; go_must ((refine (isDigit_any _ _).mono ?_); rintro e w' ⟨rfl, rfl⟩; rw [hdg]))
              go_ret
              exact ⟨by rw [HN.out]; rfl, rfl⟩
          · have hk1 : ((k : Int) == 0) = false := by rw [beq_eq_false_iff_ne]; omega
            by_cases hu : b = 95
            · subst hu
              have HN : Hid (nameB (decide (k = 0)) 95 = true) := by simp [Hid, nameB, hk0]
              have u1 : (((95 : UInt8).toNat : Int) != 95) = false := rfl
              clear hlo hnl hk0
              rcases hc with d1 | ⟨d1, d2⟩
              all_goals
                go_wp2_with (go_at_call 187; go_must ((refine (isDigit_any _ _).mono ?_); rintro e w' ⟨rfl, rfl⟩; rw [hdg]))
                go_round
                case rel => exact ⟨k + 1, by omega, by go_num, nameUp_succ hup.out HB'.out HN.out⟩
                case measure => simp [intOf]; omega
            · have u1 : ((b.toNat : Int) != 95) = true := by
                rw [bne_iff_ne]
                intro e
                exact hu (UInt8.toNat_inj.1 (by show b.toNat = 95; omega))
              cases dg
              · have HN : Hid (nameOk s.data.toList = false) := nameOk_no HB'.out (by simp [nameB, hnl, hdg, hu])
                clear hlo hnl hk0 hu
                rcases hc with d1 | ⟨d1, d2⟩
                all_goals
                  go_wp2_with (go_at_call 187; go_must ((refine (isDigit_any _ _).mono ?_); rintro e w' ⟨rfl, rfl⟩; rw [hdg]))
                  go_ret
                  exact ⟨by rw [HN.out]; rfl, rfl⟩
              · have HN : Hid (nameB (decide (k = 0)) b = true) := by simp [Hid, nameB, hk0, hdg]
                clear hlo hnl hk0 hu
                rcases hc with d1 | ⟨d1, d2⟩
                all_goals
                  go_wp2_with (go_at_call 187; go_must ((refine (isDigit_any _ _).mono ?_); rintro e w' ⟨rfl, rfl⟩; rw [hdg]))
                  go_round
                  case rel => exact ⟨k + 1, by omega, by go_num, nameUp_succ hup.out HB'.out HN.out⟩
                  case measure => simp [intOf]; omega
      · obtain rfl : k = s.size := by omega
        have HE : Hid (nameOk s.data.toList = true) := by
          refine nameOk_iff.2 ⟨by rw [← HL.out]; omega, by rw [← HL.out]; omega, fun h => HB.out (.inr (.inr (.inl h))), fun h => HB.out (.inr (.inr (.inr h))), ?_⟩
          rw [← HL.out]
          exact hup.out
        go_wp2
        go_ret
        exact ⟨by rw [HE.out]; rfl, rfl⟩
end Go.Proofs.YtjiccijfbpkliaaGreatDoor

/- Plain size charts: their errors, values, changes and columns. No program in sight. -/
namespace Go.Proofs.YtjiccijfbpkliaaGreatDoor

structure PRow where
  name : ByteArray
  base : Rat
  steps : List Rat
structure PChart where
  sizes : List ByteArray
  base : Int
  rows : List PRow

def isCapDig (b : UInt8) : Bool := (decide (65 ≤ b.toNat) && decide (b.toNat ≤ 90)) || (decide (48 ≤ b.toNat) && decide (b.toNat ≤ 57))
def sizeOk (l : List UInt8) : Bool := decide (1 ≤ l.length) && (decide (l.length ≤ 8) && l.all isCapDig)
theorem sizeOk_iff {l : List UInt8} : sizeOk l = true ↔ 1 ≤ l.length ∧ l.length ≤ 8 ∧ l.all isCapDig = true := by simp [sizeOk]
theorem sizeOk_no {l : List UInt8} {k : Nat} {b : UInt8} (hb : l[k]? = some b) (h : isCapDig b = false) : sizeOk l = false := by
  cases ha : sizeOk l
  · rfl
  · have := (sizeOk_iff.1 ha).2.2
    rw [List.all_eq_true] at this
    rw [this b (List.mem_of_getElem? hb)] at h
    cases h
theorem all_take_succ {p : UInt8 → Bool} {l : List UInt8} {k : Nat} {b : UInt8} (h : (l.take k).all p = true) (hb : l[k]? = some b) (hd : p b = true) : (l.take (k + 1)).all p = true := by
  rw [List.take_add_one, List.all_append, h, hb]
  simp [hd]

def rowOk (n : Nat) (r : PRow) : Bool := nameOk r.name.data.toList && (decide (r.steps.length = n) && decide (r.steps.getD 0 0 = 0))
theorem rowOk_iff {n : Nat} {r : PRow} : rowOk n r = true ↔ nameOk r.name.data.toList = true ∧ r.steps.length = n ∧ r.steps.getD 0 0 = 0 := by simp [rowOk]
/-- Element i is not among those before it. -/
def newAt (l : List ByteArray) (i : Nat) : Bool := match l[i]? with | some x => !(decide (x.data.toList ∈ (l.take i).map fun y : ByteArray => y.data.toList)) | none => true
theorem mem_data {x : ByteArray} {l : List ByteArray} : (x.data.toList ∈ l.map fun y : ByteArray => y.data.toList) ↔ x ∈ l := by
  rw [List.mem_map]
  constructor
  · rintro ⟨y, hy, e⟩
    rw [← eq_of_data e]
    exact hy
  · intro h
    exact ⟨x, h, rfl⟩
def onceB (l : List ByteArray) : Bool := (List.range l.length).all (newAt l)
theorem onceB_iff {l : List ByteArray} : onceB l = true ↔ ∀ i x, l[i]? = some x → x ∉ l.take i := by
  unfold onceB
  rw [List.all_eq_true]
  constructor
  · intro h i x hx hm
    have h1 := h i (List.mem_range.2 (List.getElem?_eq_some_iff.1 hx).1)
    rw [newAt, hx] at h1
    simp only [Bool.not_eq_true', decide_eq_false_iff_not, mem_data] at h1
    exact h1 hm
  · intro h i hi
    rw [List.mem_range] at hi
    rw [newAt, List.getElem?_eq_getElem hi]
    simp only [Bool.not_eq_true', decide_eq_false_iff_not, mem_data]
    exact h i _ (List.getElem?_eq_getElem hi)
theorem onceB_no {l : List ByteArray} {i : Nat} {x : ByteArray} (hx : l[i]? = some x) (hm : x ∈ l.take i) : onceB l = false := by
  cases h : onceB l
  · rfl
  · exact absurd hm (onceB_iff.1 h i x hx)

def PChart.names (c : PChart) : List ByteArray := c.rows.map (·.name)
/-- Sizes and rows are as described. -/
def PChart.right (c : PChart) : Bool := decide (1 ≤ c.sizes.length) && ((c.sizes.all fun s : ByteArray => sizeOk s.data.toList) && c.rows.all (rowOk c.sizes.length))
def isIdx (c : PChart) (i : Int) : Bool := decide (0 ≤ i) && decide (i < c.sizes.length)
def chkP (c : PChart) : Int :=
  if 12 < c.sizes.length ∨ 32 < c.rows.length then 5
  else if c.right = false then 1
  else if onceB c.sizes = false ∨ onceB c.names = false then 7
  else if isIdx c c.base = false then 3 else 0
section
variable {c : PChart}
theorem chk_long (h : 12 < c.sizes.length ∨ 32 < c.rows.length) : chkP c = 5 := by rw [chkP, if_pos h]
theorem chk_wrong (h : ¬ (12 < c.sizes.length ∨ 32 < c.rows.length)) (h1 : c.right = false) : chkP c = 1 := by rw [chkP, if_neg h, if_pos h1]
theorem chk_twice (h : ¬ (12 < c.sizes.length ∨ 32 < c.rows.length)) (h1 : c.right = true) (h2 : onceB c.sizes = false ∨ onceB c.names = false) : chkP c = 7 := by
  rw [chkP, if_neg h, if_neg (by simp [h1]), if_pos h2]
theorem chk_base (h : ¬ (12 < c.sizes.length ∨ 32 < c.rows.length)) (h1 : c.right = true) (h2 : onceB c.sizes = true) (h3 : onceB c.names = true) (h4 : isIdx c c.base = false) : chkP c = 3 := by
  rw [chkP, if_neg h, if_neg (by simp [h1]), if_neg (by simp [h2, h3]), if_pos h4]
theorem chk_ok (h : ¬ (12 < c.sizes.length ∨ 32 < c.rows.length)) (h1 : c.right = true) (h2 : onceB c.sizes = true) (h3 : onceB c.names = true) (h4 : isIdx c c.base = true) : chkP c = 0 := by
  rw [chkP, if_neg h, if_neg (by simp [h1]), if_neg (by simp [h2, h3]), if_neg (by simp [h4])]
theorem right_iff : c.right = true ↔ 1 ≤ c.sizes.length ∧ (∀ (i : Nat) (s : ByteArray), c.sizes[i]? = some s → sizeOk s.data.toList = true) ∧ (∀ (i : Nat) (r : PRow), c.rows[i]? = some r → rowOk c.sizes.length r = true) := by
  unfold PChart.right
  rw [Bool.and_eq_true, Bool.and_eq_true, decide_eq_true_iff, List.all_eq_true, List.all_eq_true]
  refine and_congr_right fun _ => and_congr ?_ ?_
  · exact ⟨fun h i s hs => h s (List.mem_of_getElem? hs), fun h s hs => by obtain ⟨i, hi⟩ := List.getElem?_of_mem hs; exact h i s hi⟩
  · exact ⟨fun h i s hs => h s (List.mem_of_getElem? hs), fun h s hs => by obtain ⟨i, hi⟩ := List.getElem?_of_mem hs; exact h i s hi⟩
theorem right_empty (h : c.sizes.length = 0) : c.right = false := by
  cases hr : c.right
  · rfl
  · have := (right_iff.1 hr).1; omega
theorem right_size {i : Nat} {s : ByteArray} (hs : c.sizes[i]? = some s) (h : sizeOk s.data.toList = false) : c.right = false := by
  cases hr : c.right
  · rfl
  · rw [(right_iff.1 hr).2.1 i s hs] at h; cases h
theorem right_row {i : Nat} {r : PRow} (hs : c.rows[i]? = some r) (h : rowOk c.sizes.length r = false) : c.right = false := by
  cases hr : c.right
  · rfl
  · rw [(right_iff.1 hr).2.2 i r hs] at h; cases h
theorem isIdx_iff {i : Int} : isIdx c i = true ↔ 0 ≤ i ∧ i < c.sizes.length := by simp [isIdx]
/-- What a chart without an error is like. -/
theorem chk_zero (h : chkP c = 0) : c.sizes.length ≤ 12 ∧ c.rows.length ≤ 32 ∧ c.right = true ∧ onceB c.sizes = true ∧ onceB c.names = true ∧ 0 ≤ c.base ∧ c.base < c.sizes.length := by
  unfold chkP at h
  split at h
  · cases h
  · split at h
    · cases h
    · split at h
      · cases h
      · split at h
        · cases h
        · rename_i a b d e
          have e' : isIdx c c.base = true := by simpa using e
          have := isIdx_iff.1 e'
          exact ⟨by omega, by omega, by simpa using b, by simp at d; exact d.1, by simp at d; exact d.2, this.1, this.2⟩
end

/-! ### values -/
/-- The sum of the steps 1 to k. -/
def pre (s : List Rat) : Nat → Rat
  | 0 => 0
  | k + 1 => pre s k + s.getD (k + 1) 0
def chg (s : List Rat) (a b : Nat) : Rat := pre s b - pre s a
def valueP (c : PChart) (r : PRow) (size : Nat) : Rat := r.base + chg r.steps c.base.toNat size
/-- The index of the row with a name. -/
def findP (rs : List PRow) (name : ByteArray) : Int := match rs.findIdx? (fun r => decide (r.name.data.toList = name.data.toList)) with | some i => i | none => -1
theorem chg_self (s : List Rat) (a : Nat) : chg s a a = 0 := by unfold chg; grind
theorem chg_add (s : List Rat) (a b d : Nat) : chg s a b + chg s b d = chg s a d := by unfold chg; grind
theorem chg_neg (s : List Rat) (a b : Nat) : -chg s a b = chg s b a := by unfold chg; grind
theorem chg_succ (s : List Rat) (a b : Nat) : chg s a (b + 1) = chg s a b + s.getD (b + 1) 0 := by
  unfold chg
  rw [show pre s (b + 1) = pre s b + s.getD (b + 1) 0 from rfl]
  grind
end Go.Proofs.YtjiccijfbpkliaaGreatDoor

/- Plain texts of charts: the words of a line, the chart that a text describes, and the text of a chart. No program in sight. -/
namespace Go.Proofs.YtjiccijfbpkliaaGreatDoor
open Go.Lib hiding intOf

/-! ### cut and split at one byte -/
theorem index_cons_eq (c : UInt8) (t : List UInt8) : index (c :: t) [c] = 0 := by
  unfold index
  rw [if_pos (by simp [List.isPrefixOf])]
theorem index_cons_ne {b c : UInt8} (t : List UInt8) (h : b ≠ c) : index (b :: t) [c] = if index t [c] = -1 then -1 else index t [c] + 1 := by
  rw [index]
  have : List.isPrefixOf [c] (b :: t) = false := by simp [List.isPrefixOf]; exact fun e => h e.symm
  rw [this]
  simp
theorem cut_nil (c : UInt8) : cut [] [c] = ([], [], false) := by
  unfold cut
  rw [if_neg (by simp [index])]
theorem cut_cons_eq (c : UInt8) (t : List UInt8) : cut (c :: t) [c] = ([], t, true) := by
  unfold cut
  rw [index_cons_eq, if_pos (by omega)]
  simp
theorem cut_cons_ne {b c : UInt8} (t : List UInt8) (h : b ≠ c) : cut (b :: t) [c] = (b :: (cut t [c]).1, (cut t [c]).2.1, (cut t [c]).2.2) := by
  have hg := index_ge t [c]
  unfold cut
  rw [index_cons_ne t h]
  by_cases hi : index t [c] = -1
  · rw [if_pos hi, hi, if_neg (by omega), if_neg (by omega)]
  · rw [if_neg hi, if_pos (by omega), if_pos (by omega)]
    have e : (index t [c] + 1).toNat = (index t [c]).toNat + 1 := by omega
    have e2 : (index t [c]).toNat + 1 + [c].length = (index t [c]).toNat + [c].length + 1 := by omega
    rw [e, e2, List.take_succ_cons, List.drop_succ_cons]
theorem split_nil (c : UInt8) : split [] [c] = [[]] := by
  unfold split
  have : count [] [c] = 0 := by rw [count_one]; rfl
  rw [this]
  rfl
theorem split_cons_eq (c : UInt8) (t : List UInt8) : split (c :: t) [c] = [] :: split t [c] := by
  unfold split
  rw [count_cons_eq, Nat.add_comm, splitK, index_cons_eq]
  simp
theorem split_ne_nil (c : UInt8) (t : List UInt8) : split t [c] ≠ [] := by
  unfold split
  cases count t [c] with
  | zero => simp [splitK]
  | succ k =>
    unfold splitK
    split <;> simp
theorem split_cons_ne {b c : UInt8} {t : List UInt8} {x : List UInt8} {r : List (List UInt8)} (h : b ≠ c) (ht : split t [c] = x :: r) : split (b :: t) [c] = (b :: x) :: r := by
  have hg := index_ge t [c]
  have key : ∀ k, splitK [c] 0 k (b :: t) = match splitK [c] 0 k t with | [] => [] | x :: r => (b :: x) :: r := by
    intro k
    cases k with
    | zero => rfl
    | succ k =>
      rw [splitK, splitK, index_cons_ne t h]
      by_cases hi : index t [c] = -1
      · rw [if_pos hi, hi]
        simp
      · rw [if_neg hi]
        have e1 : ((index t [c] + 1) == -1) = false := by rw [beq_eq_false_iff_ne]; omega
        have e0 : (index t [c] == -1) = false := by rw [beq_eq_false_iff_ne]; exact hi
        have e : (index t [c] + 1).toNat = (index t [c]).toNat + 1 := by omega
        rw [e1, e0, e]
        simp
  have e3 : split (b :: t) [c] = splitK [c] 0 (count t [c]) (b :: t) := by unfold split; rw [count_cons_ne b c t h]
  have e4 : splitK [c] 0 (count t [c]) t = x :: r := ht
  rw [e3, key, e4]
/-- A piece without the byte, and what follows the byte. -/
theorem split_word {c : UInt8} (t : List UInt8) : ∀ (u : List UInt8), c ∉ u → split (u ++ c :: t) [c] = u :: split t [c]
  | [], _ => split_cons_eq c t
  | b :: u, h => by
    have hb : b ≠ c := fun e => h (by simp [e])
    have hu : c ∉ u := fun e => h (by simp [e])
    rw [List.cons_append, split_cons_ne hb (split_word t u hu)]
theorem split_last {c : UInt8} : ∀ (u : List UInt8), c ∉ u → split u [c] = [u]
  | [], _ => split_nil c
  | b :: u, h => by
    have hb : b ≠ c := fun e => h (by simp [e])
    have hu : c ∉ u := fun e => h (by simp [e])
    rw [split_cons_ne hb (split_last u hu)]

/-! ### the words of a line -/
/-- The words of the line at the beginning of a text, and what follows the line: ws and cur are read already. -/
def lineS (ws : List (List UInt8)) (cur : List UInt8) : List UInt8 → Option (List (List UInt8) × List UInt8)
  | [] => none
  | b :: t => if b ≠ 32 ∧ b ≠ 10 then lineS ws (cur ++ [b]) t else if cur = [] then none else if b = 10 then some (ws ++ [cur], t) else lineS (ws ++ [cur]) [] t
def lineP (l : List UInt8) : Option (List (List UInt8) × List UInt8) := lineS [] [] l
theorem lineS_cut : ∀ (l : List UInt8) (ws : List (List UInt8)) (cur : List UInt8), (32 : UInt8) ∉ cur →
    lineS ws cur l = if (cut l [10]).2.2 = true ∧ [] ∉ split (cur ++ (cut l [10]).1) [32] then some (ws ++ split (cur ++ (cut l [10]).1) [32], (cut l [10]).2.1) else none
  | [], ws, cur, _ => by
    rw [cut_nil]
    simp [lineS]
  | b :: t, ws, cur, hc => by
    rw [lineS]
    by_cases hb : b = 10
    · subst hb
      rw [cut_cons_eq, if_neg (by simp)]
      simp only [List.append_nil, if_true, true_and]
      rw [split_last cur hc]
      by_cases h0 : cur = []
      · subst h0
        simp
      · rw [if_neg h0, if_pos (by simpa using h0)]
    · rw [cut_cons_ne t hb]
      by_cases h32 : b = 32
      · subst h32
        rw [if_neg (by simp), if_neg hb]
        simp only
        rw [split_word _ cur hc]
        have ih := lineS_cut t (ws ++ [cur]) [] (by simp)
        rw [List.nil_append] at ih
        rw [ih]
        by_cases h0 : cur = []
        · subst h0
          simp
        · rw [if_neg h0]
          have hh : ([] ∉ cur :: split (cut t [10]).1 [32]) ↔ [] ∉ split (cut t [10]).1 [32] := by
            simp only [List.mem_cons, not_or]
            exact ⟨fun h => h.2, fun h => ⟨fun e => h0 e.symm, h⟩⟩
          simp only [hh, List.append_assoc, List.singleton_append]
      · rw [if_pos ⟨h32, hb⟩]
        have ih := lineS_cut t ws (cur ++ [b]) (by simp; exact ⟨hc, fun e => h32 e.symm⟩)
        rw [ih]
        simp
theorem line_cut (l : List UInt8) : lineP l = if (cut l [10]).2.2 = true ∧ [] ∉ split (cut l [10]).1 [32] then some (split (cut l [10]).1 [32], (cut l [10]).2.1) else none := by
  have := lineS_cut l [] [] (by simp)
  simpa [lineP] using this
theorem lineS_len : ∀ {l : List UInt8} {ws : List (List UInt8)} {cur : List UInt8} {us : List (List UInt8)} {t : List UInt8}, lineS ws cur l = some (us, t) → t.length < l.length
  | [], ws, cur, us, t, h => by simp [lineS] at h
  | b :: l, ws, cur, us, t, h => by
    rw [lineS] at h
    split at h
    · have := lineS_len h
      simp; omega
    · split at h
      · cases h
      · split at h
        · injection h with h
          injection h with _ h
          subst h
          simp
        · have := lineS_len h
          simp; omega
theorem line_len {l : List UInt8} {ws : List (List UInt8)} {t : List UInt8} (h : lineP l = some (ws, t)) : t.length < l.length := lineS_len h
/-- A whole word ahead of a space. -/
theorem lineS_read {b : UInt8} (hb : b = 32 ∨ b = 10) (t : List UInt8) : ∀ (u : List UInt8) (ws : List (List UInt8)) (cur : List UInt8), (32 : UInt8) ∉ u → (10 : UInt8) ∉ u → cur ++ u ≠ [] →
    lineS ws cur (u ++ b :: t) = if b = 10 then some (ws ++ [cur ++ u], t) else lineS (ws ++ [cur ++ u]) [] t
  | [], ws, cur, _, _, h0 => by
    rw [List.nil_append, lineS]
    rw [List.append_nil] at h0 ⊢
    rw [if_neg (by rcases hb with rfl | rfl <;> simp), if_neg h0]
  | x :: u, ws, cur, h1, h2, _ => by
    have hx : x ≠ 32 ∧ x ≠ 10 := ⟨fun e => h1 (by simp [e]), fun e => h2 (by simp [e])⟩
    rw [List.cons_append, lineS, if_pos hx, lineS_read hb t u ws (cur ++ [x]) (fun e => h1 (by simp [e])) (fun e => h2 (by simp [e])) (by simp)]
    simp
/-- What may be a word. -/
def wordOk (u : List UInt8) : Prop := u ≠ [] ∧ (32 : UInt8) ∉ u ∧ (10 : UInt8) ∉ u
/-- Words behind spaces, then a line's end. -/
def tailW (us : List (List UInt8)) : List UInt8 := us.flatMap fun u => 32 :: u
theorem lineS_tail (t : List UInt8) : ∀ (us : List (List UInt8)) (ws : List (List UInt8)) (u : List UInt8), wordOk u → (∀ x ∈ us, wordOk x) → lineS ws [] (u ++ (tailW us ++ 10 :: t)) = some (ws ++ u :: us, t)
  | [], ws, u, hu, _ => by
    have := lineS_read (b := 10) (.inr rfl) t u ws [] hu.2.1 hu.2.2 (by simpa using hu.1)
    simpa [tailW] using this
  | x :: us, ws, u, hu, h => by
    have e : u ++ (tailW (x :: us) ++ 10 :: t) = u ++ 32 :: (x ++ (tailW us ++ 10 :: t)) := by simp [tailW]
    rw [e, lineS_read (b := 32) (.inl rfl) _ u ws [] hu.2.1 hu.2.2 (by simpa using hu.1), if_neg (by decide), lineS_tail t us _ x (h x (by simp)) (fun y hy => h y (by simp [hy]))]
    simp
theorem line_words (t : List UInt8) (us : List (List UInt8)) (u : List UInt8) (hu : wordOk u) (h : ∀ x ∈ us, wordOk x) : lineP (u ++ (tailW us ++ 10 :: t)) = some (u :: us, t) := by
  have := lineS_tail t us [] u hu h
  simpa [lineP] using this
/-- What a line that is read was. -/
theorem lineS_inv : ∀ {l : List UInt8} {ws : List (List UInt8)} {cur : List UInt8} {us : List (List UInt8)} {t : List UInt8}, lineS ws cur l = some (us, t) → ∃ v vs, us = ws ++ (cur ++ v) :: vs ∧ l = v ++ (tailW vs ++ 10 :: t)
  | [], ws, cur, us, t, h => by simp [lineS] at h
  | b :: l, ws, cur, us, t, h => by
    rw [lineS] at h
    split at h
    · obtain ⟨v, vs, h1, h2⟩ := lineS_inv h
      exact ⟨b :: v, vs, by simp [h1], by simp [h2]⟩
    · rename_i hb
      split at h
      · cases h
      · split at h
        · rename_i h10
          injection h with h
          injection h with h1 h2
          subst h1
          subst h2
          exact ⟨[], [], by simp, by simp [tailW, h10]⟩
        · rename_i h10
          have h32 : b = 32 := by
            rcases Decidable.em (b = 32) with e | e
            · exact e
            · exact absurd ⟨e, h10⟩ hb
          obtain ⟨v, vs, h1, h2⟩ := lineS_inv h
          exact ⟨[], v :: vs, by simp [h1], by simp [h2, h32, tailW]⟩
theorem line_inv {l : List UInt8} {us : List (List UInt8)} {t : List UInt8} (h : lineP l = some (us, t)) : ∃ v vs, us = v :: vs ∧ l = v ++ (tailW vs ++ 10 :: t) := by
  obtain ⟨v, vs, h1, h2⟩ := lineS_inv h
  exact ⟨v, vs, by simpa using h1, h2⟩

/-! ### the chart that a text describes -/
def bytes (l : List UInt8) : ByteArray := ⟨l.toArray⟩
theorem bytes_data (l : List UInt8) : (bytes l).data.toList = l := by simp [bytes]
theorem bytes_of (s : ByteArray) : bytes s.data.toList = s := by simp [bytes]
theorem bytes_inj {a b : List UInt8} (h : bytes a = bytes b) : a = b := by rw [← bytes_data a, h, bytes_data]
/-- The sizes, their base and the error of a first line. -/
def sizesOf (ws : List (List UInt8)) : List ByteArray := ((ws.drop 1).take (ws.length - 3)).map bytes
def baseOf (ws : List (List UInt8)) : Int := idxOfS (sizesOf ws) (bytes (ws.getD (ws.length - 1) []))
def headE (ws : List (List UInt8)) : Int :=
  if ws.length < 3 ∨ ws.getD 0 [] ≠ [115, 105, 122, 101, 115] ∨ ws.getD (ws.length - 2) [] ≠ [98, 97, 115, 101] then 2 else if baseOf ws < 0 then 6 else 0
/-- The error of a list of numbers. -/
def numsE : List (List UInt8) → Int
  | [] => 0
  | u :: us => if ratE u ≠ 0 then ratE u else numsE us
/-- The error and the row of a line. -/
def rowE (n : Nat) (ws : List (List UInt8)) : Int := if ws.length ≠ n + 1 then 2 else numsE (ws.drop 1)
def rowV (ws : List (List UInt8)) : PRow := ⟨bytes (ws.getD 0 []), ratV (ws.getD 1 []), 0 :: (ws.drop 2).map ratV⟩
def rowsF : Nat → Nat → List PRow → List UInt8 → Except Int (List PRow)
  | 0, _, rs, _ => .ok rs
  | f + 1, n, rs, l => if l = [] then .ok rs else match lineP l with
    | none => .error 2
    | some (ws, t) => if rowE n ws ≠ 0 then .error (rowE n ws) else rowsF f n (rs ++ [rowV ws]) t
/-- The rows that a text describes, behind rs. -/
def rowsP (n : Nat) (rs : List PRow) (l : List UInt8) : Except Int (List PRow) := rowsF l.length n rs l
theorem rowsF_fuel (n : Nat) : ∀ (f g : Nat) (rs : List PRow) (l : List UInt8), l.length ≤ f → l.length ≤ g → rowsF f n rs l = rowsF g n rs l
  | 0, 0, _, _, _, _ => rfl
  | 0, g + 1, rs, l, h, _ => by
    obtain rfl : l = [] := List.eq_nil_of_length_eq_zero (by omega)
    simp [rowsF]
  | f + 1, 0, rs, l, _, h => by
    obtain rfl : l = [] := List.eq_nil_of_length_eq_zero (by omega)
    simp [rowsF]
  | f + 1, g + 1, rs, l, h1, h2 => by
    rw [rowsF, rowsF]
    split
    · rfl
    · cases hl : lineP l with
      | none => rfl
      | some p =>
        obtain ⟨ws, t⟩ := p
        have := line_len hl
        simp only
        split
        · rfl
        · exact rowsF_fuel n f g _ t (by omega) (by omega)
section
variable {n : Nat} {rs : List PRow} {l t : List UInt8} {ws : List (List UInt8)}
theorem rows_end : rowsP n rs [] = .ok rs := rfl
theorem rows_eq (h0 : l ≠ []) : rowsP n rs l = match lineP l with | none => .error 2 | some (ws, t) => if rowE n ws ≠ 0 then .error (rowE n ws) else rowsP n (rs ++ [rowV ws]) t := by
  unfold rowsP
  cases hl : l with
  | nil => exact absurd hl h0
  | cons b u =>
    rw [List.length_cons, rowsF, if_neg (by simp)]
    cases hp : lineP (b :: u) with
    | none => rfl
    | some p =>
      obtain ⟨ws, t⟩ := p
      have := line_len hp
      simp only
      split
      · rfl
      · exact rowsF_fuel n _ _ _ t (by simp at this; omega) (Nat.le_refl _)
theorem rows_line (h0 : l ≠ []) (h : lineP l = none) : rowsP n rs l = .error 2 := by rw [rows_eq h0, h]
theorem rows_bad (h0 : l ≠ []) (h : lineP l = some (ws, t)) (he : rowE n ws ≠ 0) : rowsP n rs l = .error (rowE n ws) := by
  rw [rows_eq h0, h]
  simp only
  rw [if_pos he]
theorem rows_on (h0 : l ≠ []) (h : lineP l = some (ws, t)) (he : rowE n ws = 0) : rowsP n rs l = rowsP n (rs ++ [rowV ws]) t := by
  rw [rows_eq h0, h]
  simp only
  rw [if_neg (by simpa using he)]
end
/-- The error and the chart of a text. -/
def parseR (l : List UInt8) : Except Int PChart :=
  if 20000 < l.length then .error 5 else match lineP l with
  | none => .error 2
  | some (ws, t) => if headE ws ≠ 0 then .error (headE ws) else match rowsP (sizesOf ws).length [] t with
    | .error e => .error e
    | .ok rs => if chkP ⟨sizesOf ws, baseOf ws, rs⟩ ≠ 0 then .error (chkP ⟨sizesOf ws, baseOf ws, rs⟩) else .ok ⟨sizesOf ws, baseOf ws, rs⟩
section
variable {l t : List UInt8} {ws : List (List UInt8)} {rs : List PRow} {e : Int}
theorem parse_long (h : 20000 < l.length) : parseR l = .error 5 := by rw [parseR, if_pos h]
theorem parse_none (h : ¬ 20000 < l.length) (h1 : lineP l = none) : parseR l = .error 2 := by rw [parseR, if_neg h, h1]
theorem parse_head (h : ¬ 20000 < l.length) (h1 : lineP l = some (ws, t)) (h2 : headE ws ≠ 0) : parseR l = .error (headE ws) := by
  rw [parseR, if_neg h, h1]
  simp only
  rw [if_pos h2]
theorem parse_rows (h : ¬ 20000 < l.length) (h1 : lineP l = some (ws, t)) (h2 : headE ws = 0) (h3 : rowsP (sizesOf ws).length [] t = .error e) : parseR l = .error e := by
  rw [parseR, if_neg h, h1]
  simp only
  rw [if_neg (by simpa using h2), h3]
theorem parse_chk (h : ¬ 20000 < l.length) (h1 : lineP l = some (ws, t)) (h2 : headE ws = 0) (h3 : rowsP (sizesOf ws).length [] t = .ok rs) (h4 : chkP ⟨sizesOf ws, baseOf ws, rs⟩ ≠ 0) : parseR l = .error (chkP ⟨sizesOf ws, baseOf ws, rs⟩) := by
  rw [parseR, if_neg h, h1]
  simp only
  rw [if_neg (by simpa using h2), h3]
  simp only
  rw [if_pos h4]
theorem parse_ok (h : ¬ 20000 < l.length) (h1 : lineP l = some (ws, t)) (h2 : headE ws = 0) (h3 : rowsP (sizesOf ws).length [] t = .ok rs) (h4 : chkP ⟨sizesOf ws, baseOf ws, rs⟩ = 0) : parseR l = .ok ⟨sizesOf ws, baseOf ws, rs⟩ := by
  rw [parseR, if_neg h, h1]
  simp only
  rw [if_neg (by simpa using h2), h3]
  simp only
  rw [if_neg (by simpa using h4)]
end
theorem nums_at : ∀ {us : List (List UInt8)} {i : Nat} {u : List UInt8}, (∀ j x, j < i → us[j]? = some x → ratE x = 0) → us[i]? = some u → ratE u ≠ 0 → numsE us = ratE u
  | [], i, u, _, h, _ => by simp at h
  | x :: us, 0, u, _, h, h0 => by
    obtain rfl : x = u := by simpa using h
    rw [numsE, if_pos h0]
  | x :: us, i + 1, u, hn, h, h0 => by
    have hx := hn 0 x (by omega) rfl
    rw [numsE, if_neg (by simpa using hx)]
    exact nums_at (i := i) (fun j y hj hy => hn (j + 1) y (by omega) (by simpa using hy)) (by simpa using h) h0
theorem nums_ok : ∀ {us : List (List UInt8)}, (∀ (j : Nat) (x : List UInt8), us[j]? = some x → ratE x = 0) → numsE us = 0
  | [], _ => rfl
  | x :: us, h => by
    rw [numsE, if_neg (by simpa using h 0 x rfl)]
    exact nums_ok fun j y hy => h (j + 1) y (by simpa using hy)
theorem nums_zero : ∀ {us : List (List UInt8)}, numsE us = 0 → ∀ x ∈ us, ratE x = 0
  | [], _, x, hx => by cases hx
  | y :: us, h, x, hx => by
    rw [numsE] at h
    split at h
    · exact absurd h (by assumption)
    · rename_i h0
      rcases List.mem_cons.1 hx with rfl | hx
      · simpa using h0
      · exact nums_zero h x hx

/-! ### the text of a chart -/
def rowText (r : PRow) : List UInt8 := r.name.data.toList ++ (tailW (ratText r.base :: (r.steps.drop 1).map ratText) ++ [10])
def headText (ch : PChart) : List UInt8 := [115, 105, 122, 101, 115] ++ (tailW (ch.sizes.map (·.data.toList) ++ [[98, 97, 115, 101], (ch.sizes.getD ch.base.toNat ByteArray.empty).data.toList]) ++ [10])
def printL (ch : PChart) : List UInt8 := headText ch ++ ch.rows.flatMap rowText
def printE (ch : PChart) : Int := if chkP ch ≠ 0 then chkP ch else if 20000 < (printL ch).length then 5 else 0
def printT (ch : PChart) : List UInt8 := if printE ch = 0 then printL ch else []
end Go.Proofs.YtjiccijfbpkliaaGreatDoor

/- Plain texts of numbers and charts: what is printed is read again, and what is read is printed again. No program in sight. -/
namespace Go.Proofs.YtjiccijfbpkliaaGreatDoor
open Go.Lib hiding intOf

/-! ### cut -/
theorem cut_word {c : UInt8} (t : List UInt8) : ∀ (u : List UInt8), c ∉ u → cut (u ++ c :: t) [c] = (u, t, true)
  | [], _ => cut_cons_eq c t
  | b :: u, h => by
    have hb : b ≠ c := fun e => h (by simp [e])
    rw [List.cons_append, cut_cons_ne _ hb, cut_word t u (fun e => h (by simp [e]))]
theorem cut_last {c : UInt8} : ∀ (u : List UInt8), c ∉ u → cut u [c] = (u, [], false)
  | [], _ => cut_nil c
  | b :: u, h => by
    have hb : b ≠ c := fun e => h (by simp [e])
    rw [cut_cons_ne _ hb, cut_last u (fun e => h (by simp [e]))]
theorem cut_true {c : UInt8} : ∀ (l : List UInt8), (cut l [c]).2.2 = true → l = (cut l [c]).1 ++ c :: (cut l [c]).2.1
  | [], h => by rw [cut_nil] at h; cases h
  | b :: l, h => by
    by_cases hb : b = c
    · subst hb
      rw [cut_cons_eq]
      rfl
    · rw [cut_cons_ne _ hb] at h ⊢
      have := cut_true l h
      simp only [List.cons_append]
      rw [← this]
theorem cut_false {c : UInt8} : ∀ (l : List UInt8), (cut l [c]).2.2 = false → (cut l [c]).1 = l
  | [], _ => by rw [cut_nil]
  | b :: l, h => by
    by_cases hb : b = c
    · subst hb
      rw [cut_cons_eq] at h
      cases h
    · rw [cut_cons_ne _ hb] at h ⊢
      have := cut_false l h
      simp only
      rw [this]

/-! ### numbers -/
theorem dec_no {c : UInt8} (n : Nat) (h : isDig c = false) : c ∉ decDigits n := fun hm => by
  have := List.all_eq_true.1 (dec_all n) c hm
  rw [h] at this
  cases this
theorem minus_no {l : List UInt8} (h : l.all isDig = true) : hasPrefix l [45] = false ∧ trimPrefix l [45] = l := by
  have h1 : hasPrefix l [45] = false := by
    unfold hasPrefix
    cases l with
    | nil => rfl
    | cons b t =>
      have hb := List.all_eq_true.1 h b (by simp)
      have : b ≠ 45 := fun e => by subst e; revert hb; decide
      simp [List.isPrefixOf]
      exact fun e => this e.symm
  exact ⟨h1, by rw [trimPrefix, h1]; rfl⟩
theorem minus_yes (l : List UInt8) : hasPrefix (45 :: l) [45] = true ∧ trimPrefix (45 :: l) [45] = l := by
  have h1 : hasPrefix (45 :: l) [45] = true := by simp [hasPrefix, List.isPrefixOf]
  exact ⟨h1, by rw [trimPrefix, if_pos h1]; rfl⟩
theorem minus_of {l : List UInt8} (h : hasPrefix l [45] = true) : l = 45 :: trimPrefix l [45] := by
  cases l with
  | nil => simp [hasPrefix, List.isPrefixOf] at h
  | cons b t =>
    simp [hasPrefix, List.isPrefixOf] at h
    subst h
    rw [(minus_yes t).2]
theorem int_text (i : Int) (h : nDigits i.natAbs ≤ 200) : intE (itoa i) = 0 ∧ intV (itoa i) = i := by
  have hl : (decDigits i.natAbs).length ≤ 200 := by rw [decDigits_length]; exact h
  have hn : natE (decDigits i.natAbs) = 0 := natE_ok (by omega) (dec_ok _)
  cases hi : ineg i
  · rw [itoa_pos' hi]
    obtain ⟨h1, h2⟩ := minus_no (dec_all i.natAbs)
    have hE : intE (decDigits i.natAbs) = 0 := by
      rw [intE, h2, h1, if_neg (by simp [hn]), if_neg (by simp)]
    refine ⟨hE, ?_⟩
    rw [intV, if_pos hE, h1, h2, valD_dec, ← hi, sgn_self]
  · rw [itoa_neg' hi]
    obtain ⟨h1, h2⟩ := minus_yes (decDigits i.natAbs)
    have h0 : i.natAbs ≠ 0 := by
      have : i < 0 := by simpa [ineg] using hi
      omega
    have hE : intE (45 :: decDigits i.natAbs) = 0 := by
      rw [intE, h2, h1, valD_dec, if_neg (by simp [hn]), if_neg (by simp; omega)]
    refine ⟨hE, ?_⟩
    rw [intV, if_pos hE, h1, h2, valD_dec, ← hi, sgn_self]
theorem text_int {l : List UInt8} (h : intE l = 0) : itoa (intV l) = l := by
  rw [intV, if_pos h]
  unfold intE at h
  split at h
  · exact absurd h (by assumption)
  · rename_i hn
    have hn : natE (trimPrefix l [45]) = 0 := by simpa using hn
    obtain ⟨_, hd⟩ := natE_zero hn
    cases hp : hasPrefix l [45]
    · have ht : trimPrefix l [45] = l := by rw [trimPrefix, hp]; rfl
      rw [ht] at hd ⊢
      rw [sgn_false, itoa, if_neg (by omega), Int.toNat_natCast, dec_valD hd]
    · rw [hp] at h
      have hv : valD (trimPrefix l [45]) ≠ 0 := by
        intro e
        rw [if_pos ⟨rfl, e⟩] at h
        cases h
      rw [sgn_true, itoa, if_pos (by omega)]
      have e : (-(valD (trimPrefix l [45]) : Int)).natAbs = valD (trimPrefix l [45]) := by omega
      rw [e, dec_valD hd, ← minus_of hp]
theorem itoa_no {c : UInt8} (i : Int) (h : isDig c = false) (hc : c ≠ 45) : c ∉ itoa i := by
  cases hi : ineg i
  · rw [itoa_pos' hi]; exact dec_no _ h
  · rw [itoa_neg' hi]
    intro hm
    rcases List.mem_cons.1 hm with e | hm
    · exact hc e
    · exact dec_no _ h hm
/-- Few digits. -/
def short200 (q : Rat) : Prop := nDigits q.num.natAbs ≤ 200 ∧ nDigits q.den ≤ 200
theorem rat_text (q : Rat) (h : short200 q) : ratE (ratText q) = 0 ∧ ratV (ratText q) = q := by
  obtain ⟨h1, h2⟩ := int_text q.num h.1
  by_cases hd : q.den = 1
  · rw [ratText, if_pos hd]
    have hc := cut_last (c := 47) (itoa q.num) (itoa_no _ (by decide) (by decide))
    refine ⟨?_, ?_⟩
    · rw [ratE, hc, if_neg (by simp [h1]), if_pos rfl]
    · rw [ratV, hc, h2]
      simp only [Bool.false_eq_true, if_false]
      have := rv_self q
      rwa [hd] at this
  · rw [ratText, if_neg hd]
    have hc : cut (itoa q.num ++ ([47] ++ decDigits q.den)) [47] = (itoa q.num, decDigits q.den, true) := cut_word (decDigits q.den) (itoa q.num) (itoa_no _ (by decide) (by decide))
    have hl : (decDigits q.den).length ≤ 200 := by rw [decDigits_length]; exact h.2
    have hn : natE (decDigits q.den) = 0 := natE_ok (by omega) (dec_ok _)
    have h0 := den_ne q
    refine ⟨?_, ?_⟩
    · rw [ratE, hc]
      simp only
      rw [if_neg (by simp [h1]), if_neg (by simp), if_neg (by simp [hn]), if_neg]
      rw [valD_dec, h2]
      rintro (h | h)
      · omega
      · exact h q.reduced
    · rw [ratV, hc]
      simp only [if_true]
      rw [valD_dec, h2, rv_self]
theorem text_rat {l : List UInt8} (h : ratE l = 0) : ratText (ratV l) = l := by
  unfold ratE at h
  split at h
  · exact absurd h (by assumption)
  · rename_i hi
    have hi : intE (cut l [47]).1 = 0 := by simpa using hi
    have ht := text_int hi
    split at h
    · rename_i hf
      have hl := cut_false l hf
      obtain ⟨q1, q2⟩ := rv_one (intV (cut l [47]).1)
      rw [ratV, hf]
      simp only [Bool.false_eq_true, if_false]
      rw [ratText, q1, q2, if_pos rfl, ht, hl]
    · rename_i hf
      have hf : (cut l [47]).2.2 = true := by simpa using hf
      have hl := cut_true l hf
      split at h
      · exact absurd h (by assumption)
      · rename_i hn
        have hn : natE (cut l [47]).2.1 = 0 := by simpa using hn
        obtain ⟨_, hd⟩ := natE_zero hn
        split at h
        · cases h
        · rename_i hg
          have hg1 : 1 < valD (cut l [47]).2.1 := by
            rcases Nat.lt_or_ge 1 (valD (cut l [47]).2.1) with h | h
            · exact h
            · exact absurd (.inl h) hg
          have hg2 : (intV (cut l [47]).1).natAbs.gcd (valD (cut l [47]).2.1) = 1 := Decidable.byContradiction fun e => hg (.inr e)
          obtain ⟨q1, q2⟩ := rv_coprime (i := intV (cut l [47]).1) (by omega) hg2
          rw [ratV, hf]
          simp only [if_true]
          rw [ratText, q1, q2, if_neg (by omega), ht, dec_valD hd]
          exact hl.symm
theorem rat_word (q : Rat) : wordOk (ratText q) := by
  have h0 : itoa q.num ≠ [] := by
    have := dec_len_pos q.num.natAbs
    cases hi : ineg q.num
    · rw [itoa_pos' hi]; intro e; rw [e] at this; simp at this
    · rw [itoa_neg' hi]; simp
  by_cases hd : q.den = 1
  · rw [ratText, if_pos hd]
    exact ⟨h0, itoa_no _ (by decide) (by decide), itoa_no _ (by decide) (by decide)⟩
  · rw [ratText, if_neg hd]
    have hno : ∀ c : UInt8, isDig c = false → c ≠ 45 → c ≠ 47 → c ∉ itoa q.num ++ ([47] ++ decDigits q.den) := by
      intro c h1 h2 h3 hm
      rcases List.mem_append.1 hm with hm | hm
      · exact itoa_no _ h1 h2 hm
      · rcases List.mem_append.1 hm with hm | hm
        · exact h3 (by simpa using hm)
        · exact dec_no _ h1 hm
    exact ⟨by simp [h0], hno 32 (by decide) (by decide) (by decide), hno 10 (by decide) (by decide) (by decide)⟩

/-! ### sizes and names are words -/
theorem size_word {l : List UInt8} (h : sizeOk l = true) : wordOk l := by
  obtain ⟨h1, _, h3⟩ := sizeOk_iff.1 h
  rw [List.all_eq_true] at h3
  refine ⟨fun e => by rw [e] at h1; simp at h1, fun hm => ?_, fun hm => ?_⟩
  · have := h3 _ hm; revert this; decide
  · have := h3 _ hm; revert this; decide
theorem name_word {l : List UInt8} (h : nameOk l = true) : wordOk l := by
  simp only [nameOk, Bool.and_eq_true, decide_eq_true_eq, List.all_eq_true, List.mem_range] at h
  obtain ⟨h1, _, _, _, h3⟩ := h
  have hno : ∀ c : UInt8, nameB true c = false → nameB false c = false → c ∉ l := by
    intro c n1 n2 hm
    obtain ⟨j, hj⟩ := List.getElem?_of_mem hm
    have hlt := (List.getElem?_eq_some_iff.1 hj).1
    have := h3 j hlt
    have e : l.getD j 0 = c := by simp [List.getD_eq_getElem?_getD, hj]
    rw [e] at this
    cases hd : decide (j = 0)
    · rw [hd, n2] at this; cases this
    · rw [hd, n1] at this; cases this
  exact ⟨fun e => by rw [e] at h1; simp at h1, hno 32 (by decide) (by decide), hno 10 (by decide) (by decide)⟩

/-! ### a chart that is printed is read again -/
theorem idx_base {zs : List ByteArray} (h : onceB zs = true) {b : Nat} {x : ByteArray} (hb : zs[b]? = some x) : idxOfS zs x = (b : Int) := by
  have key : ∀ (zs : List ByteArray) (i b : Nat), zs[b]? = some x → x ∉ zs.take b → idxFromS zs x i = ((i + b : Nat) : Int) := by
    intro zs
    induction zs with
    | nil => intro i b h; simp at h
    | cons z zs ih =>
      intro i b h1 h2
      cases b with
      | zero =>
        obtain rfl : z = x := by simpa using h1
        simp [idxFromS]
      | succ b =>
        have hz : z ≠ x := fun e => h2 (by simp [e])
        have := ih (i + 1) b (by simpa using h1) (fun e => h2 (by simp [e]))
        rw [show idxFromS (z :: zs) x i = idxFromS zs x (i + 1) by simp [idxFromS, hz], this]
        omega
  have := key zs 0 b hb (onceB_iff.1 h b x hb)
  unfold idxOfS
  rw [this, Nat.zero_add]
theorem row_words {n : Nat} {r : PRow} (h : rowOk n r = true) : wordOk r.name.data.toList ∧ ∀ x ∈ ratText r.base :: (r.steps.drop 1).map ratText, wordOk x := by
  refine ⟨name_word (rowOk_iff.1 h).1, fun x hx => ?_⟩
  rcases List.mem_cons.1 hx with rfl | hx
  · exact rat_word _
  · obtain ⟨q, _, rfl⟩ := List.mem_map.1 hx
    exact rat_word _
theorem row_back {n : Nat} {r : PRow} (hn : 1 ≤ n) (h : rowOk n r = true) (hb : short200 r.base) (hs : ∀ q ∈ r.steps, short200 q) :
    rowE n (r.name.data.toList :: ratText r.base :: (r.steps.drop 1).map ratText) = 0 ∧ rowV (r.name.data.toList :: ratText r.base :: (r.steps.drop 1).map ratText) = r := by
  obtain ⟨_, h2, h3⟩ := rowOk_iff.1 h
  obtain ⟨nm, bs0, st⟩ := r
  simp only at *
  cases st with
  | nil => simp at h2; omega
  | cons s st =>
    simp only [List.length_cons] at h2
    obtain rfl : s = 0 := by simpa using h3
    refine ⟨?_, ?_⟩
    · rw [rowE, if_neg (by simp; omega)]
      refine nums_ok fun j x hx => ?_
      have hm : x ∈ ratText bs0 :: st.map ratText := List.mem_of_getElem? (by simpa using hx)
      rcases List.mem_cons.1 hm with rfl | hm
      · exact (rat_text _ hb).1
      · obtain ⟨q, hq, rfl⟩ := List.mem_map.1 hm
        exact (rat_text _ (hs q (by simp [hq]))).1
    · unfold rowV
      have e : (st.map ratText).map ratV = st := by
        rw [List.map_map]
        conv => rhs; rw [← List.map_id st]
        exact List.map_congr_left fun q hq => (rat_text q (hs q (by simp [hq]))).2
      simp [bytes_of, (rat_text _ hb).2, e]
theorem rows_back {n : Nat} (hn : 1 ≤ n) : ∀ (rows rs : List PRow), (∀ r ∈ rows, rowOk n r = true ∧ short200 r.base ∧ ∀ q ∈ r.steps, short200 q) → rowsP n rs (rows.flatMap rowText) = .ok (rs ++ rows)
  | [], rs, _ => by simp [rows_end]
  | r :: rows, rs, h => by
    obtain ⟨h1, h2, h3⟩ := h r (by simp)
    obtain ⟨w1, w2⟩ := row_words h1
    obtain ⟨e1, e2⟩ := row_back hn h1 h2 h3
    have ht : (r :: rows).flatMap rowText = r.name.data.toList ++ (tailW (ratText r.base :: (r.steps.drop 1).map ratText) ++ 10 :: rows.flatMap rowText) := by
      simp [rowText]
    have hl := line_words (rows.flatMap rowText) _ _ w1 w2
    rw [ht, rows_on (by simp) hl e1, e2, rows_back hn rows _ (fun x hx => h x (by simp [hx]))]
    simp
theorem parse_print {ch : PChart} (h0 : chkP ch = 0) (hl : (printL ch).length ≤ 20000) (hd : ∀ r ∈ ch.rows, short200 r.base ∧ ∀ q ∈ r.steps, short200 q) : parseR (printL ch) = .ok ch := by
  obtain ⟨_, _, hr, o1, _, b0, b1⟩ := chk_zero h0
  obtain ⟨r1, r2, r3⟩ := right_iff.1 hr
  obtain ⟨b, hb⟩ : ∃ b : Nat, ch.base = (b : Int) := ⟨ch.base.toNat, by omega⟩
  have hbl : b < ch.sizes.length := by omega
  have hx : ch.sizes[b]? = some ch.sizes[b] := List.getElem?_eq_getElem hbl
  obtain ⟨sizes, base, rows⟩ := ch
  simp only at *
  subst hb
  have hgx : sizes.getD (b : Int).toNat ByteArray.empty = sizes[b] := by simp [List.getD_eq_getElem?_getD, hx]
  let ws : List (List UInt8) := [115, 105, 122, 101, 115] :: (sizes.map (·.data.toList) ++ [[98, 97, 115, 101], sizes[b].data.toList])
  have hline : lineP (printL ⟨sizes, b, rows⟩) = some (ws, rows.flatMap rowText) := by
    have := line_words (rows.flatMap rowText) (sizes.map (·.data.toList) ++ [[98, 97, 115, 101], sizes[b].data.toList]) [115, 105, 122, 101, 115] ⟨by simp, by decide, by decide⟩ (fun y hy => by
      rcases List.mem_append.1 hy with hy | hy
      · obtain ⟨s, hs, rfl⟩ := List.mem_map.1 hy
        obtain ⟨i, hi⟩ := List.getElem?_of_mem hs
        exact size_word (r2 i s hi)
      · simp only [List.mem_cons, List.mem_nil_iff, or_false] at hy
        rcases hy with rfl | rfl
        · exact ⟨by simp, by decide, by decide⟩
        · exact size_word (r2 b _ hx))
    rw [← this]
    congr 1
    unfold printL headText
    simp only [hgx]
    simp
  have hws : ws.length = sizes.length + 3 := by simp [ws]
  have hso : sizesOf ws = sizes := by
    unfold sizesOf
    rw [hws]
    simp only [ws, List.drop_succ_cons, List.drop_zero, Nat.add_sub_cancel]
    rw [List.take_append_of_le_length (by simp), List.take_of_length_le (by simp), List.map_map]
    conv => rhs; rw [← List.map_id sizes]
    exact List.map_congr_left fun s _ => bytes_of s
  have g2 : ws.getD (ws.length - 1) [] = sizes[b].data.toList := by
    rw [hws]
    simp [ws, List.getD_eq_getElem?_getD]
  have g1 : ws.getD (ws.length - 2) [] = [98, 97, 115, 101] := by
    rw [hws]
    simp [ws, List.getD_eq_getElem?_getD]
  have hbo : baseOf ws = (b : Int) := by
    unfold baseOf
    rw [hso, g2, bytes_of]
    exact idx_base o1 hx
  have hhe : headE ws = 0 := by
    rw [headE, g1, hbo, if_neg, if_neg (by omega)]
    rw [hws]
    rintro (h | h | h)
    · omega
    · exact h rfl
    · exact h rfl
  have hrows : rowsP (sizesOf ws).length [] (rows.flatMap rowText) = .ok rows := by
    rw [hso]
    have := rows_back r1 rows [] (fun r hr => by
      obtain ⟨i, hi⟩ := List.getElem?_of_mem hr
      exact ⟨r3 i r hi, hd r hr⟩)
    simpa using this
  have := parse_ok (l := printL ⟨sizes, b, rows⟩) (by omega) hline hhe hrows (by rw [hso, hbo]; exact h0)
  rw [this, hso, hbo]

/-! ### a chart that is read is printed again -/
theorem idx_found {zs : List ByteArray} {x : ByteArray} (h : ¬ idxOfS zs x < 0) : zs[(idxOfS zs x).toNat]? = some x := by
  have key : ∀ (zs : List ByteArray) (i : Nat), idxFromS zs x i = -1 ∨ ∃ b : Nat, idxFromS zs x i = ((i + b : Nat) : Int) ∧ zs[b]? = some x := by
    intro zs
    induction zs with
    | nil => intro i; exact .inl rfl
    | cons z zs ih =>
      intro i
      by_cases hz : z = x
      · subst hz
        exact .inr ⟨0, by simp [idxFromS], rfl⟩
      · rw [show idxFromS (z :: zs) x i = idxFromS zs x (i + 1) by simp [idxFromS, hz]]
        rcases ih (i + 1) with h | ⟨b, h, hb⟩
        · exact .inl h
        · exact .inr ⟨b + 1, by rw [h]; omega, by simpa using hb⟩
  rcases key zs 0 with h1 | ⟨b, h1, hb⟩
  · unfold idxOfS at h
    rw [h1] at h
    exact absurd (by decide) h
  · have e : idxOfS zs x = (b : Int) := by unfold idxOfS; rw [h1, Nat.zero_add]
    rw [e, Int.toNat_natCast]
    exact hb
theorem row_forth {n : Nat} {ws : List (List UInt8)} (hn : 1 ≤ n) (h : rowE n ws = 0) : ∃ v x vs, ws = v :: x :: vs ∧ rowText (rowV ws) = v ++ (tailW (x :: vs) ++ [10]) := by
  unfold rowE at h
  split at h
  · cases h
  · rename_i hl
    have hl : ws.length = n + 1 := by simpa using hl
    match ws, hl with
    | [v], hl => simp at hl; omega
    | v :: x :: vs, _ =>
      refine ⟨v, x, vs, rfl, ?_⟩
      have hz := nums_zero h
      have e : (vs.map ratV).map ratText = vs := by
        rw [List.map_map]
        conv => rhs; rw [← List.map_id vs]
        exact List.map_congr_left fun u hu => text_rat (hz u (by simp [hu]))
      have ex := text_rat (hz x (by simp))
      simp [rowText, rowV, bytes_data, e, ex]
theorem rows_forth {n : Nat} (hn : 1 ≤ n) : ∀ (k : Nat) (l : List UInt8) (rs0 rs : List PRow), l.length ≤ k → rowsP n rs0 l = .ok rs → ∃ rs1, rs = rs0 ++ rs1 ∧ l = rs1.flatMap rowText
  | 0, l, rs0, rs, hk, h => by
    obtain rfl : l = [] := List.eq_nil_of_length_eq_zero (by omega)
    rw [rows_end] at h
    injection h with h
    exact ⟨[], by simp [h], rfl⟩
  | k + 1, l, rs0, rs, hk, h => by
    by_cases h0 : l = []
    · subst h0
      rw [rows_end] at h
      injection h with h
      exact ⟨[], by simp [h], rfl⟩
    · cases hl : lineP l with
      | none => rw [rows_line h0 hl] at h; cases h
      | some p =>
        obtain ⟨ws, t⟩ := p
        have hlt := line_len hl
        by_cases he : rowE n ws = 0
        · rw [rows_on h0 hl he] at h
          obtain ⟨rs1, h1, h2⟩ := rows_forth hn k t _ rs (by omega) h
          obtain ⟨v, x, vs, hw, ht⟩ := row_forth hn he
          obtain ⟨v', vs', hw', hl'⟩ := line_inv hl
          rw [hw] at hw'
          injection hw' with e1 e2
          subst e1
          subst e2
          refine ⟨rowV ws :: rs1, by simp [h1], ?_⟩
          rw [List.flatMap_cons, ht, ← h2, hl']
          simp
        · rw [rows_bad h0 hl he] at h
          cases h
theorem print_parse {l : List UInt8} {ch : PChart} (h : parseR l = .ok ch) : chkP ch = 0 ∧ printL ch = l ∧ l.length ≤ 20000 := by
  unfold parseR at h
  split at h
  · cases h
  rename_i hlen
  cases hl : lineP l with
  | none => rw [hl] at h; cases h
  | some p =>
    obtain ⟨ws, t⟩ := p
    rw [hl] at h
    simp only at h
    split at h
    · cases h
    rename_i hh
    have hh : headE ws = 0 := by simpa using hh
    cases hr : rowsP (sizesOf ws).length [] t with
    | error e => rw [hr] at h; cases h
    | ok rs =>
      rw [hr] at h
      simp only at h
      split at h
      · cases h
      rename_i hc
      have hc : chkP ⟨sizesOf ws, baseOf ws, rs⟩ = 0 := by simpa using hc
      injection h with h
      subst h
      refine ⟨hc, ?_, by omega⟩
      obtain ⟨_, _, hright, _, _, b0, b1⟩ := chk_zero hc
      obtain ⟨r1, _, _⟩ := right_iff.1 hright
      simp only at r1 b0 b1
      obtain ⟨rs1, h1, h2⟩ := rows_forth r1 t.length t [] rs (Nat.le_refl _) hr
      obtain ⟨v, vs, hw, hl'⟩ := line_inv hl
      unfold headE at hh
      split at hh
      · cases hh
      rename_i hs
      have s1 : ¬ ws.length < 3 := fun e => hs (.inl e)
      have s2 : ws.getD 0 [] = [115, 105, 122, 101, 115] := Decidable.byContradiction fun e => hs (.inr (.inl e))
      have s3 : ws.getD (ws.length - 2) [] = [98, 97, 115, 101] := Decidable.byContradiction fun e => hs (.inr (.inr e))
      have hbf := idx_found (zs := sizesOf ws) (x := bytes (ws.getD (ws.length - 1) [])) (by show ¬ baseOf ws < 0; omega)
      have hbd : ((sizesOf ws).getD (baseOf ws).toNat ByteArray.empty).data.toList = ws.getD (ws.length - 1) [] := by
        rw [List.getD_eq_getElem?_getD]
        show (Option.getD (sizesOf ws)[(idxOfS (sizesOf ws) _).toNat]? _).data.toList = _
        rw [hbf]
        exact bytes_data _
      have hmap : (sizesOf ws).map (·.data.toList) = (ws.drop 1).take (ws.length - 3) := by
        unfold sizesOf
        rw [List.map_map]
        conv => rhs; rw [← List.map_id ((ws.drop 1).take (ws.length - 3))]
        exact List.map_congr_left fun u _ => bytes_data u
      have hv : v = [115, 105, 122, 101, 115] := by rw [hw] at s2; simpa using s2
      have hvs : vs = (sizesOf ws).map (·.data.toList) ++ [[98, 97, 115, 101], ws.getD (ws.length - 1) []] := by
        rw [hmap, ← s3, hw]
        rw [hw] at s1
        simp only [List.length_cons, List.drop_succ_cons, List.drop_zero] at s1 ⊢
        have hn2 : 2 ≤ vs.length := by omega
        have e1 : vs.length + 1 - 3 = vs.length - 2 := by omega
        have e2 : vs.length + 1 - 2 = (vs.length - 2) + 1 := by omega
        have e3 : vs.length + 1 - 1 = (vs.length - 1) + 1 := by omega
        rw [e1, e2, e3]
        simp only [List.getD_cons_succ]
        have d1 : vs.drop (vs.length - 2) = [vs.getD (vs.length - 2) [], vs.getD (vs.length - 1) []] := by
          apply List.ext_getElem?
          intro j
          rw [List.getElem?_drop]
          match j with
          | 0 => simp [List.getD_eq_getElem?_getD, List.getElem?_eq_getElem (show vs.length - 2 < vs.length by omega)]
          | 1 =>
            have : vs.length - 2 + 1 = vs.length - 1 := by omega
            rw [this]
            simp [List.getD_eq_getElem?_getD, List.getElem?_eq_getElem (show vs.length - 1 < vs.length by omega)]
          | j + 2 =>
            rw [List.getElem?_eq_none (by omega)]
            simp
        rw [← d1, List.take_append_drop]
      unfold printL headText
      simp only
      rw [hbd, ← hvs, ← hv, hl']
      obtain rfl : rs = rs1 := by simpa using h1
      rw [← h2]
      simp
end Go.Proofs.YtjiccijfbpkliaaGreatDoor

/- formula.operands, right, check, Check at names, and chart.isName. Conditions: none on the name but that its length is an int. -/
namespace Go.Proofs.YtjiccijfbpkliaaGreatDoor
open Go.RowKit

/-- The zero ratio as an argument. -/
theorem RatA.zero (w : World) : RatA w (.agg #[.bool false, .slice none 0 0, .slice none 0 0]) 1 0 :=
  ⟨false, none, 0, 0, none, 0, 0, 0, 0, rfl, NatA.nil w none 0, NatA.nil w none 0, by omega, by omega, by rw [rv_zero]⟩

theorem operands_two (w : World) : Calls Tryz.prog 172 #[.int .i64 2] w fun e w' => e = .returned (.tuple #[.int .i64 0, .int .i64 0]) ∧ w = w' := by
  go_enter Tryz.func172, Tryz.ntmps172
  go_wp2
  go_ret2
  exact ⟨rfl, rfl⟩

/-- The node of a name. -/
def nameNode (s : ByteArray) : Value := .agg #[.int .i64 2, .bool false, .slice none 0 0, .slice none 0 0, .string s, .slice none 0 0]

/-- The world with the node in a box. -/
def nodeW (w : World) (s : ByteArray) : World := w.alloc (.cells #[.int .i64 2, .bool false, .slice none 0 0, .slice none 0 0, .string s, .slice none 0 0] 110)
theorem nodeB (w : World) (s : ByteArray) : Below w.heap.size w (nodeW w s) := (Below.refl _ _).alloc (Nat.le_refl _) _

set_option maxRecDepth 100000 in
set_option maxHeartbeats 1600000 in
theorem right_name (s : ByteArray) (w : World) (hs : s.size ≤ 9223372036854775807) :
    Calls Tryz.prog 146 #[nameNode s] w fun e w' => e = .returned (.bool (nameOk s.data.toList)) ∧ Below w.heap.size w w' := by
  unfold nameNode
  have HN := fun W => isName_any s W hs
  have HB := Lib.hid (nodeB w s)
  cases hn : nameOk s.data.toList
  · simp only [hn] at HN
    have HN := Lib.hid HN
    clear hn
    go_enter Tryz.func146, Tryz.ntmps146
    go_wp2_with (first
      | (go_at_call 172; refine (operands_two _).mono ?_; rintro e w' ⟨rfl, rfl⟩)
      | (go_at_call 173; refine (HN.out _).mono ?_; rintro e w' ⟨rfl, rfl⟩))
    go_ret
    exact ⟨rfl, HB.out⟩
  · simp only [hn] at HN
    have HN := Lib.hid HN
    clear hn
    go_enter Tryz.func146, Tryz.ntmps146
    go_wp2_with (first
      | (go_at_call 172; refine (operands_two _).mono ?_; rintro e w' ⟨rfl, rfl⟩)
      | (go_at_call 173; refine (HN.out _).mono ?_; rintro e w' ⟨rfl, rfl⟩)
      | (go_at_call 32; refine (rcmp_any _ _ 1 1 0 0 _ (RatA.zero _) (RatA.zero _) (by omega) (by omega) (by omega) (by omega)).mono ?_; rintro e w' ⟨c, rfl, hc, hb⟩; obtain rfl : c = 0 := hc.2 rfl))
    go_ret
    exact ⟨rfl, HB.out.trans (hb.mono HB.out.size)⟩

set_option maxRecDepth 100000 in
set_option maxHeartbeats 1600000 in
theorem check_name (s : ByteArray) (w : World) (hs : s.size ≤ 9223372036854775807) :
    Calls Tryz.prog 113 #[nameNode s, .int .i64 1] w fun e w' => e = .returned (.int .i64 (if nameOk s.data.toList = true then 0 else 1)) ∧ Below w.heap.size w w' := by
  have HN := fun W => right_name s W hs
  unfold nameNode at HN ⊢
  have HB := Lib.hid (nodeB w s)
  cases hn : nameOk s.data.toList
  · simp only [hn] at HN
    have HN := Lib.hid HN
    clear hn
    go_enter Tryz.func113, Tryz.ntmps113
    go_wp2_with (go_at_call 146; refine (HN.out _).mono ?_; rintro e w' ⟨rfl, hb⟩)
    go_ret
    exact ⟨rfl, HB.out.trans (hb.mono HB.out.size)⟩
  · simp only [hn] at HN
    have HN := Lib.hid HN
    have X0 : Blk (nodeW w s) w.heap.size 110 #[.int .i64 2, .bool false, .slice none 0 0, .slice none 0 0, .string s, .slice none 0 0] := Blk.new w _ _
    have HX := Lib.hid X0
    clear hn X0
    go_enter Tryz.func113, Tryz.ntmps113
    go_wp2_with (go_at_call 146; refine (HN.out _).mono ?_; rintro e w' ⟨rfl, hb⟩; have X1 := (HX.out.below hb).c (i := 5) rfl)
    go_loop [16] (fun i => i = .int .i64 0) (fun _ => 0)
    case atStart => exact rfl
    case round =>
      subst hrel
      go_wp2
      go_ret
      exact ⟨rfl, HB.out.trans (hb.mono HB.out.size)⟩

theorem Check_name (s : ByteArray) (w : World) (hs : s.size ≤ 9223372036854775807) :
    Calls Tryz.prog 78 #[nameNode s] w fun e w' => e = .returned (.int .i64 (if nameOk s.data.toList = true then 0 else 1)) ∧ Below w.heap.size w w' := by
  have HN := fun W => check_name s W hs
  have HB := Lib.hid (nodeB w s)
  unfold nameNode at HN ⊢
  generalize (if nameOk s.data.toList = true then (0 : Int) else 1) = z at HN ⊢
  have HN := Lib.hid HN
  go_enter Tryz.func78, Tryz.ntmps78
  go_wp2_with (go_at_call 113; refine (HN.out _).mono ?_; rintro e w' ⟨rfl, hb⟩)
  go_ret
  exact ⟨rfl, HB.out.trans (hb.mono HB.out.size)⟩

theorem cname_any (s : ByteArray) (w : World) (hs : s.size ≤ 9223372036854775807) :
    Calls Tryz.prog 38 #[.string s] w fun e w' => e = .returned (.bool (nameOk s.data.toList)) ∧ Below w.heap.size w w' := by
  have HN := fun W => Check_name s W hs
  unfold nameNode at HN
  cases hn : nameOk s.data.toList
  · simp only [hn] at HN
    have HN := Lib.hid HN
    clear hn
    go_enter Tryz.func38, Tryz.ntmps38
    go_wp2_with (go_at_call 78; refine (HN.out _).mono ?_; rintro e w' ⟨rfl, hb⟩)
    go_ret
    exact ⟨rfl, hb⟩
  · simp only [hn] at HN
    have HN := Lib.hid HN
    clear hn
    go_enter Tryz.func38, Tryz.ntmps38
    go_wp2_with (go_at_call 78; refine (HN.out _).mono ?_; rintro e w' ⟨rfl, hb⟩)
    go_ret
    exact ⟨rfl, hb⟩
end Go.Proofs.YtjiccijfbpkliaaGreatDoor

/- How a chart lies in memory: slices of ratios (three cells each) and of rows (five cells each). Nothing here walks the program. -/
namespace Go.Proofs.YtjiccijfbpkliaaGreatDoor
open Go.RowKit

/-- The slice '.slice A n _' reads as the ratios qs, of at most k limbs. -/
def RatsA (w : World) (A : Option Addr) (n k : Nat) (qs : List Rat) : Prop :=
  qs.length = n ∧ (0 < n → ∃ b off, A = some ⟨b, off, none⟩ ∧ b < w.heap.size ∧ ∀ j q, qs[j]? = some q →
    ∃ neg B m c C l d, w.cell? ⟨b, off + j * 3, none⟩ = some (.bool neg) ∧ w.cell? ⟨b, off + j * 3 + 1, none⟩ = some (.slice B m c) ∧ w.cell? ⟨b, off + j * 3 + 2, none⟩ = some (.slice C l d) ∧ RatA w (.agg #[.bool neg, .slice B m c, .slice C l d]) k q)
/-- A row of a chart as an argument. -/
def RowA (w : World) (v : Value) (k : Nat) (r : PRow) : Prop :=
  ∃ neg B m c C l d S sn sc, v = .agg #[.string r.name, .bool neg, .slice B m c, .slice C l d, .slice S sn sc] ∧ RatA w (.agg #[.bool neg, .slice B m c, .slice C l d]) k r.base ∧ RatsA w S sn k r.steps ∧ sn ≤ sc
/-- The slice '.slice A n _' reads as the rows rs. -/
def RowsA (w : World) (A : Option Addr) (n k : Nat) (rs : List PRow) : Prop :=
  rs.length = n ∧ (0 < n → ∃ b off, A = some ⟨b, off, none⟩ ∧ b < w.heap.size ∧ ∀ j r, rs[j]? = some r →
    ∃ neg B m c C l d S sn sc, w.cell? ⟨b, off + j * 5, none⟩ = some (.string r.name) ∧ w.cell? ⟨b, off + j * 5 + 1, none⟩ = some (.bool neg) ∧ w.cell? ⟨b, off + j * 5 + 2, none⟩ = some (.slice B m c) ∧ w.cell? ⟨b, off + j * 5 + 3, none⟩ = some (.slice C l d) ∧ w.cell? ⟨b, off + j * 5 + 4, none⟩ = some (.slice S sn sc) ∧
      RatA w (.agg #[.bool neg, .slice B m c, .slice C l d]) k r.base ∧ RatsA w S sn k r.steps ∧ sn ≤ sc)
/-- A chart as an argument. -/
def ChartA (w : World) (S : Option Addr) (n : Nat) (R : Option Addr) (m k : Nat) (ch : PChart) : Prop :=
  Sl w w.heap.size S n (strs ch.sizes) ∧ RowsA w R m k ch.rows

section
variable {w w' : World} {A : Option Addr} {n k : Nat}
theorem RatsA.len {qs : List Rat} (h : RatsA w A n k qs) : qs.length = n := h.1
theorem RowsA.len {rs : List PRow} (h : RowsA w A n k rs) : rs.length = n := h.1
theorem RatsA.on {qs : List Rat} (h : RatsA w A n k qs) (hb : Below w.heap.size w w') : RatsA w' A n k qs :=
  ⟨h.1, fun hn => by
    obtain ⟨b, off, e, hlt, hc⟩ := h.2 hn
    refine ⟨b, off, e, Nat.lt_of_lt_of_le hlt hb.size, fun j q hq => ?_⟩
    obtain ⟨neg, B, m, c, C, l, d, h0, h1, h2, h3⟩ := hc j q hq
    exact ⟨neg, B, m, c, C, l, d, (hb.cell (p := ⟨b, off + j * 3, none⟩) hlt).trans h0, (hb.cell (p := ⟨b, off + j * 3 + 1, none⟩) hlt).trans h1, (hb.cell (p := ⟨b, off + j * 3 + 2, none⟩) hlt).trans h2, h3.on hb⟩⟩
theorem RowsA.on {rs : List PRow} (h : RowsA w A n k rs) (hb : Below w.heap.size w w') : RowsA w' A n k rs :=
  ⟨h.1, fun hn => by
    obtain ⟨b, off, e, hlt, hc⟩ := h.2 hn
    refine ⟨b, off, e, Nat.lt_of_lt_of_le hlt hb.size, fun j r hr => ?_⟩
    obtain ⟨neg, B, m, c, C, l, d, S, sn, sc, h0, h1, h2, h3, h4, h5, h6, h7⟩ := hc j r hr
    exact ⟨neg, B, m, c, C, l, d, S, sn, sc, (hb.cell (p := ⟨b, off + j * 5, none⟩) hlt).trans h0, (hb.cell (p := ⟨b, off + j * 5 + 1, none⟩) hlt).trans h1, (hb.cell (p := ⟨b, off + j * 5 + 2, none⟩) hlt).trans h2, (hb.cell (p := ⟨b, off + j * 5 + 3, none⟩) hlt).trans h3, (hb.cell (p := ⟨b, off + j * 5 + 4, none⟩) hlt).trans h4, h5.on hb, h6.on hb, h7⟩⟩
theorem RowA.on {v : Value} {r : PRow} (h : RowA w v k r) (hb : Below w.heap.size w w') : RowA w' v k r := by
  obtain ⟨neg, B, m, c, C, l, d, S, sn, sc, h0, h1, h2, h3⟩ := h
  exact ⟨neg, B, m, c, C, l, d, S, sn, sc, h0, h1.on hb, h2.on hb, h3⟩
theorem ChartA.on {S R : Option Addr} {m : Nat} {ch : PChart} (h : ChartA w S n R m k ch) (hb : Below w.heap.size w w') : ChartA w' S n R m k ch := ⟨h.1.on hb, h.2.on hb⟩
theorem RatsA.nil (w : World) (A : Option Addr) (k : Nat) : RatsA w A 0 k [] := ⟨rfl, fun h => absurd h (by omega)⟩
theorem RowsA.nil (w : World) (A : Option Addr) (k : Nat) : RowsA w A 0 k [] := ⟨rfl, fun h => absurd h (by omega)⟩
theorem RatsA.at_ {qs : List Rat} (h : RatsA w A n k qs) {j : Nat} (hj : j < n) : ∃ b off q neg B m c C l d, A = some ⟨b, off, none⟩ ∧ b < w.heap.size ∧ qs[j]? = some q ∧ w.cell? ⟨b, off + j * 3, none⟩ = some (.bool neg) ∧ w.cell? ⟨b, off + j * 3 + 1, none⟩ = some (.slice B m c) ∧ w.cell? ⟨b, off + j * 3 + 2, none⟩ = some (.slice C l d) ∧ RatA w (.agg #[.bool neg, .slice B m c, .slice C l d]) k q := by
  obtain ⟨b, off, e, hlt, hc⟩ := h.2 (by omega)
  have hl : j < qs.length := by rw [h.1]; exact hj
  obtain ⟨neg, B, m, c, C, l, d, hh⟩ := hc j _ (List.getElem?_eq_getElem hl)
  exact ⟨b, off, _, neg, B, m, c, C, l, d, e, hlt, List.getElem?_eq_getElem hl, hh⟩
theorem RowsA.at_ {rs : List PRow} (h : RowsA w A n k rs) {j : Nat} (hj : j < n) : ∃ b off r neg B m c C l d S sn sc, A = some ⟨b, off, none⟩ ∧ b < w.heap.size ∧ rs[j]? = some r ∧ w.cell? ⟨b, off + j * 5, none⟩ = some (.string r.name) ∧ w.cell? ⟨b, off + j * 5 + 1, none⟩ = some (.bool neg) ∧ w.cell? ⟨b, off + j * 5 + 2, none⟩ = some (.slice B m c) ∧ w.cell? ⟨b, off + j * 5 + 3, none⟩ = some (.slice C l d) ∧ w.cell? ⟨b, off + j * 5 + 4, none⟩ = some (.slice S sn sc) ∧
      RatA w (.agg #[.bool neg, .slice B m c, .slice C l d]) k r.base ∧ RatsA w S sn k r.steps ∧ sn ≤ sc := by
  obtain ⟨b, off, e, hlt, hc⟩ := h.2 (by omega)
  have hl : j < rs.length := by rw [h.1]; exact hj
  obtain ⟨neg, B, m, c, C, l, d, S, sn, sc, hh⟩ := hc j _ (List.getElem?_eq_getElem hl)
  exact ⟨b, off, _, neg, B, m, c, C, l, d, S, sn, sc, e, hlt, List.getElem?_eq_getElem hl, hh⟩
theorem RowsA.take {rs : List PRow} (h : RowsA w A n k rs) {i : Nat} (hi : i ≤ n) : RowsA w A i k (rs.take i) := by
  refine ⟨by rw [List.length_take, h.1]; omega, fun h0 => ?_⟩
  obtain ⟨b, off, e, hlt, hc⟩ := h.2 (by omega)
  refine ⟨b, off, e, hlt, fun j r hr => hc j r ?_⟩
  rw [List.getElem?_take] at hr
  split at hr
  · exact hr
  · cases hr
theorem Sl.take {xs : List Value} {B : Nat} (h : Sl w B A n xs) {i : Nat} (hi : i ≤ n) : Sl w B A i (xs.take i) := by
  refine ⟨by rw [List.length_take, h.1]; omega, fun h0 => ?_⟩
  obtain ⟨b, off, e, hlt, hc⟩ := h.2 (by omega)
  refine ⟨b, off, e, hlt, fun j u hu => hc j u ?_⟩
  rw [List.getElem?_take] at hu
  split at hu
  · exact hu
  · cases hu
theorem RatA.mono {v : Value} {j : Nat} {q : Rat} (h : RatA w v j q) (hk : j ≤ k) : RatA w v k q := by
  obtain ⟨neg, A, n, c, B, m, d, x, y, h1, h2, h3, h4, h5, h6⟩ := h
  exact ⟨neg, A, n, c, B, m, d, x, y, h1, h2, h3, by omega, by omega, h6⟩
theorem RatsA.mono {qs : List Rat} {j : Nat} (h : RatsA w A n j qs) (hk : j ≤ k) : RatsA w A n k qs :=
  ⟨h.1, fun hn => by
    obtain ⟨b, off, e, hlt, hc⟩ := h.2 hn
    refine ⟨b, off, e, hlt, fun i q hq => ?_⟩
    obtain ⟨neg, B, m, c, C, l, d, h0, h1, h2, h3⟩ := hc i q hq
    exact ⟨neg, B, m, c, C, l, d, h0, h1, h2, h3.mono hk⟩⟩
theorem RowsA.mono {rs : List PRow} {j : Nat} (h : RowsA w A n j rs) (hk : j ≤ k) : RowsA w A n k rs :=
  ⟨h.1, fun hn => by
    obtain ⟨b, off, e, hlt, hc⟩ := h.2 hn
    refine ⟨b, off, e, hlt, fun i r hr => ?_⟩
    obtain ⟨neg, B, m, c, C, l, d, S, sn, sc, h0, h1, h2, h3, h4, h5, h6, h7⟩ := hc i r hr
    exact ⟨neg, B, m, c, C, l, d, S, sn, sc, h0, h1, h2, h3, h4, h5.mono hk, h6.mono hk, h7⟩⟩
end
end Go.Proofs.YtjiccijfbpkliaaGreatDoor

/- chart.isSize, isIndex, find. Conditions: slices of at most 1,000,000 rows. -/
namespace Go.Proofs.YtjiccijfbpkliaaGreatDoor
open Go.RowKit
open Go.Lib hiding intOf

theorem capdig_false {b : UInt8} (h : isCapDig b = false) : b.toNat < 48 ∨ (57 < b.toNat ∧ b.toNat < 65) ∨ 90 < b.toNat := by
  unfold isCapDig at h
  simp only [Bool.or_eq_false_iff, Bool.and_eq_false_iff, decide_eq_false_iff_not] at h
  omega
theorem capdig_true {b : UInt8} (h : isCapDig b = true) : (65 ≤ b.toNat ∧ b.toNat ≤ 90) ∨ (48 ≤ b.toNat ∧ b.toNat ≤ 57) := by
  unfold isCapDig at h
  simp only [Bool.or_eq_true, Bool.and_eq_true, decide_eq_true_iff] at h
  exact h
set_option maxRecDepth 100000 in
set_option maxHeartbeats 1600000 in
theorem isSize_any (s : ByteArray) (w : World) (hs : s.size ≤ 9223372036854775807) :
    Calls Tryz.prog 37 #[.string s] w fun e w' => e = .returned (.bool (sizeOk s.data.toList)) ∧ w = w' := by
  go_enter Tryz.func37, Tryz.ntmps37
  go_wp2
  go_loop [8] (fun i => ∃ k : Nat, k ≤ s.size ∧ i = .int .i64 k ∧ Hid ((s.data.toList.take k).all isCapDig = true)) (fun i => s.size - (intOf i).toNat)
  case atStart => exact ⟨0, Nat.zero_le _, rfl, by rw [Hid]; simp⟩
  case round =>
    obtain ⟨k, hk, rfl, hall⟩ := hrel
    by_cases hlt : k < s.size
    · obtain ⟨b, hb⟩ : ∃ b, s[k] = b := ⟨_, rfl⟩
      have hat := at_data s k hlt
      rw [hb] at hat
      have HB := Lib.hid hat
      clear hat
      cases hd : isCapDig b
      · have HE := Lib.hid (sizeOk_no HB.out hd)
        rcases capdig_false hd with h | ⟨h, h'⟩ | h
        · have q65 : decide ((65 : Int) ≤ (b.toNat : Int)) = false := by simp; omega
          have q90 : decide ((b.toNat : Int) ≤ 90) = true := by simp; omega
          have q48 : decide ((48 : Int) ≤ (b.toNat : Int)) = false := by simp; omega
          have q57 : decide ((b.toNat : Int) ≤ 57) = true := by simp; omega
          clear hd
          go_wp2
          go_ret
          exact ⟨by rw [HE.out]; rfl, rfl⟩
        · have q65 : decide ((65 : Int) ≤ (b.toNat : Int)) = false := by simp; omega
          have q90 : decide ((b.toNat : Int) ≤ 90) = true := by simp; omega
          have q48 : decide ((48 : Int) ≤ (b.toNat : Int)) = true := by simp; omega
          have q57 : decide ((b.toNat : Int) ≤ 57) = false := by simp; omega
          clear hd
          go_wp2
          go_ret
          exact ⟨by rw [HE.out]; rfl, rfl⟩
        · have q65 : decide ((65 : Int) ≤ (b.toNat : Int)) = true := by simp; omega
          have q90 : decide ((b.toNat : Int) ≤ 90) = false := by simp; omega
          have q48 : decide ((48 : Int) ≤ (b.toNat : Int)) = true := by simp; omega
          have q57 : decide ((b.toNat : Int) ≤ 57) = false := by simp; omega
          clear hd
          go_wp2
          go_ret
          exact ⟨by rw [HE.out]; rfl, rfl⟩
      · have HE := Lib.hid (all_take_succ hall.out HB.out hd)
        rcases capdig_true hd with ⟨h1, h2⟩ | ⟨h1, h2⟩
        · have q65 : decide ((65 : Int) ≤ (b.toNat : Int)) = true := by simp; omega
          have q90 : decide ((b.toNat : Int) ≤ 90) = true := by simp; omega
          have q48 : decide ((48 : Int) ≤ (b.toNat : Int)) = true := by simp; omega
          have q57 : decide ((b.toNat : Int) ≤ 57) = false := by simp; omega
          clear hd
          go_wp2
          go_round
          case rel => exact ⟨k + 1, by omega, by go_num, HE⟩
          case measure => simp [intOf]; omega
        · have q65 : decide ((65 : Int) ≤ (b.toNat : Int)) = false := by simp; omega
          have q90 : decide ((b.toNat : Int) ≤ 90) = true := by simp; omega
          have q48 : decide ((48 : Int) ≤ (b.toNat : Int)) = true := by simp; omega
          have q57 : decide ((b.toNat : Int) ≤ 57) = true := by simp; omega
          clear hd
          go_wp2
          go_round
          case rel => exact ⟨k + 1, by omega, by go_num, HE⟩
          case measure => simp [intOf]; omega
    · obtain rfl : k = s.size := by omega
      have ha := hall.out
      rw [show s.data.toList.take s.size = s.data.toList from List.take_of_length_le (Nat.le_refl _)] at ha
      have HA := Lib.hid ha
      have hl : s.data.toList.length = s.size := rfl
      have HL := Lib.hid hl
      clear ha hall hl
      by_cases h1 : 1 ≤ s.size
      · have q1 : decide ((1 : Int) ≤ (s.size : Int)) = true := by simp; omega
        by_cases h2 : s.size ≤ 8
        · have q8 : decide ((s.size : Int) ≤ 8) = true := by simp; omega
          have HE : Hid (sizeOk s.data.toList = true) := sizeOk_iff.2 ⟨by rw [HL.out]; exact h1, by rw [HL.out]; exact h2, HA.out⟩
          go_wp2
          go_ret
          exact ⟨by rw [HE.out]; rfl, rfl⟩
        · have q8 : decide ((s.size : Int) ≤ 8) = false := by simp; omega
          have HE : Hid (sizeOk s.data.toList = false) := by
            cases hq : sizeOk s.data.toList
            · rfl
            · exact absurd (sizeOk_iff.1 hq).2.1 (by rw [HL.out]; exact h2)
          go_wp2
          go_ret
          exact ⟨by rw [HE.out]; rfl, rfl⟩
      · have q1 : decide ((1 : Int) ≤ (s.size : Int)) = false := by simp; omega
        have HE : Hid (sizeOk s.data.toList = false) := by
          cases hq : sizeOk s.data.toList
          · rfl
          · exact absurd (sizeOk_iff.1 hq).1 (by rw [HL.out]; exact h1)
        go_wp2
        go_ret
        exact ⟨by rw [HE.out]; rfl, rfl⟩

/-- isIndex: a place among the sizes. -/
theorem isIndex_any (S : Option Addr) (n c : Nat) (bs : Int) (R : Option Addr) (m d : Nat) (i : Int) (w : World) :
    Calls Tryz.prog 41 #[.agg #[.slice S n c, .int .i64 bs, .slice R m d], .int .i64 i] w fun e w' => e = .returned (.bool (decide (0 ≤ i) && decide (i < (n : Int)))) ∧ Below w.heap.size w w' := by
  have HB : Hid (Below w.heap.size w (w.alloc (.cells #[.slice S n c, .int .i64 bs, .slice R m d] 25))) := (Below.refl _ _).alloc (Nat.le_refl _) _
  by_cases h0 : 0 ≤ i
  · by_cases h1 : i < (n : Int)
    · go_enter Tryz.func41, Tryz.ntmps41
      go_wp2
      go_ret
      exact ⟨by simp [h0, h1], HB.out⟩
    · go_enter Tryz.func41, Tryz.ntmps41
      go_wp2
      go_ret
      exact ⟨by simp [h1], HB.out⟩
  · have HD : Hid ((decide (0 ≤ i) && decide (i < (n : Int))) = false) := by rw [Hid, Bool.and_eq_false_iff]; left; simp; omega
    go_enter Tryz.func41, Tryz.ntmps41
    go_wp2
    go_ret
    exact ⟨by rw [HD.out]; rfl, HB.out⟩

/-! ### the row with a name -/
/-- z is the place of the first row with the name x, or -1. -/
def Found (rs : List PRow) (x : ByteArray) (z : Int) : Prop :=
  (z = -1 ∧ ∀ (j : Nat) (r : PRow), rs[j]? = some r → r.name ≠ x) ∨ ∃ (k : Nat) (r : PRow), z = (k : Int) ∧ rs[k]? = some r ∧ r.name = x ∧ ∀ (j : Nat) (r' : PRow), j < k → rs[j]? = some r' → r'.name ≠ x
def RetFound (rs : List PRow) (x : ByteArray) (w : World) (e : Ending) (w' : World) : Prop := ∃ z : Int, e = .returned (.int .i64 z) ∧ Found rs x z ∧ Below w.heap.size w w'
theorem toList_ne {a b : ByteArray} (h : a ≠ b) : (a.toList == b.toList) = false := by
  rw [toList_data, toList_data]
  simp only [beq_eq_false_iff_ne, ne_eq]
  intro e
  exact h (eq_of_data e)
theorem closure_any (nm x : ByteArray) (u1 u2 u3 u4 : Value) (B : Nat) (w : World) (hB : B < w.heap.size) (hc : w.cell? ⟨B, 0, none⟩ = some (.string x)) :
    Calls Tryz.prog 81 #[.agg #[.string nm, u1, u2, u3, u4], .pointer (some ⟨B, 0, none⟩)] w fun e w' => e = .returned (.bool (decide (nm = x))) ∧ Below w.heap.size w w' := by
  have hne : ¬ B = w.heap.size := by omega
  have HB : Hid (Below w.heap.size w (w.alloc (.cells #[.string nm, u1, u2, u3, u4] 57))) := (Below.refl _ _).alloc (Nat.le_refl _) _
  by_cases h : nm = x
  · subst h
    have hq : (nm.toList == nm.toList) = true := by simp
    go_enter Tryz.func81, Tryz.ntmps81
    go_wp2
    go_ret
    exact ⟨by simp, HB.out⟩
  · have hq := toList_ne h
    have HD : Hid (decide (nm = x) = false) := by rw [Hid]; simpa using h
    clear h
    go_enter Tryz.func81, Tryz.ntmps81
    go_wp2
    go_ret
    exact ⟨by rw [HD.out]; rfl, HB.out⟩

set_option maxRecDepth 100000 in
set_option maxHeartbeats 1600000 in
theorem indexFunc_any (A : Option Addr) (n c k0 : Nat) (rs : List PRow) (x : ByteArray) (B : Nat) (w : World) (ha : RowsA w A n k0 rs) (hn : n ≤ 1000000) (hB : B < w.heap.size) (hc : w.cell? ⟨B, 0, none⟩ = some (.string x)) :
    Calls Tryz.prog 80 #[.slice A n c, .func (.func 81) #[] #[.pointer (some ⟨B, 0, none⟩)]] w (RetFound rs x w) := by
  have eg : ∀ args w, (callFunc 81 args).run Tryz.prog w = .ok (.enter 81 args) w := enters_of Tryz.func81 (by kernel_rfl) rfl
  have HL := Lib.hid ha.len
  have HA := Lib.hid ha
  have HC := Lib.hid hc
  clear ha hc
  go_enter Tryz.func80, Tryz.ntmps80
  go_wp2
  go_loopw [8] (fun i wr => ∃ k : Nat, k ≤ n ∧ i = .int .i64 (k : Int) ∧ Hid (∀ (j : Nat) (r' : PRow), j < k → rs[j]? = some r' → r'.name ≠ x) ∧ Below w.heap.size w wr) (fun i _ => n - (intOf i).toNat)
  case atStart => exact ⟨0, Nat.zero_le _, rfl, (fun j r h => by omega), Below.refl _ _⟩
  case round =>
    obtain ⟨k, hk, rfl, hno, hbel⟩ := hrel
    by_cases hlt : k < n
    · obtain ⟨b, off, r, neg, C, m, c1, D, l, d, S, sn, sc, rfl, hbw, hr, g0, g1, g2, g3, g4, _, _, _⟩ := (HA.out.on hbel).at_ hlt
      have i1 : (0 : Int) ≤ (k : Int) := by omega
      have i2 : (k : Int) < (n : Int) := by omega
      have HP := Lib.hid (closure_any r.name x (.bool neg) (.slice C m c1) (.slice D l d) (.slice S sn sc) B wr (Nat.lt_of_lt_of_le hB hbel.size) ((hbel.cell (p := ⟨B, 0, none⟩) hB).trans HC.out))
      have HR := Lib.hid hr
      clear hr
      by_cases he : r.name = x
      · have hd : decide (r.name = x) = true := by simpa using he
        rw [hd] at HP
        have HE := Lib.hid he
        clear hd he
        go_wp2_with fail
        refine HP.out.mono ?_
        rintro e w1 ⟨rfl, hb1⟩
        go_wp2_with fail
        go_ret
        exact ⟨(k : Int), rfl, .inr ⟨k, r, rfl, HR.out, HE.out, hno.out⟩, hbel.trans (hb1.mono hbel.size)⟩
      · have hd : decide (r.name = x) = false := by simpa using he
        rw [hd] at HP
        have HE : Hid (∀ (j : Nat) (r' : PRow), j < k + 1 → rs[j]? = some r' → r'.name ≠ x) := fun j r' hj hr' => by
          by_cases e : j = k
          · subst e
            rw [HR.out] at hr'
            rw [← Option.some.inj hr']
            exact he
          · exact hno.out j r' (by omega) hr'
        clear hd he
        go_wp2_with fail
        refine HP.out.mono ?_
        rintro e w1 ⟨rfl, hb1⟩
        go_wp2_with fail
        go_roundw
        case rel => exact ⟨k + 1, by omega, by go_num, HE, hbel.trans (hb1.mono hbel.size)⟩
        case measure => simp [intOf]; omega
    · go_wp2_with fail
      go_ret
      exact ⟨-1, rfl, .inl ⟨rfl, fun j r hr => hno.out j r (by have := (List.getElem?_eq_some_iff.1 hr).1; rw [HL.out] at this; omega) hr⟩, hbel⟩

theorem find_any (A : Option Addr) (n c k0 : Nat) (rs : List PRow) (x : ByteArray) (w : World) (ha : RowsA w A n k0 rs) (hn : n ≤ 1000000) :
    Calls Tryz.prog 40 #[.slice A n c, .string x] w (RetFound rs x w) := by
  have hB : Below w.heap.size w (w.alloc (.cells #[.string x] 9)) := (Below.refl _ _).alloc (Nat.le_refl _) _
  have H := Lib.hid (indexFunc_any A n c k0 rs x w.heap.size _ (ha.on hB) hn (by simp) (cell_one w (.string x) 9))
  have HB := Lib.hid hB
  clear ha hB
  go_enter Tryz.func40, Tryz.ntmps40
  go_wp2_with fail
  refine H.out.mono ?_
  rintro e w1 ⟨z, rfl, hz, hb1⟩
  have HZ := Lib.hid hz
  clear hz
  go_wp2_with fail
  go_ret
  exact ⟨z, rfl, HZ.out, HB.out.trans (hb1.mono HB.out.size)⟩
end Go.Proofs.YtjiccijfbpkliaaGreatDoor

/- garmentref17.digit, Name. Conditions: none but that a string's length is an int. -/
namespace Go.Proofs.YtjiccijfbpkliaaGreatDoor
open Go.RowKit
open Go.Lib hiding intOf

theorem rdigit_any (b : UInt8) (w : World) : Calls Tryz.prog 204 #[.int .u8 (b.toNat : Int)] w fun e w' => e = .returned (.bool (isDig b)) ∧ w = w' := by
  cases hd : isDig b
  · rcases isDig_false.1 hd with h | h
    · have d1 : decide ((48 : Int) ≤ (b.toNat : Int)) = false := by simp; omega
      clear hd
      go_enter Tryz.func204, Tryz.ntmps204
      go_wp2
      go_ret
      exact ⟨rfl, rfl⟩
    · have d1 : decide ((48 : Int) ≤ (b.toNat : Int)) = true := by simp; omega
      have d2 : decide ((b.toNat : Int) ≤ 57) = false := by simp; omega
      clear hd
      go_enter Tryz.func204, Tryz.ntmps204
      go_wp2
      go_ret
      exact ⟨rfl, rfl⟩
  · obtain ⟨h1, h2⟩ := isDig_true.1 hd
    have d1 : decide ((48 : Int) ≤ (b.toNat : Int)) = true := by simp; omega
    have d2 : decide ((b.toNat : Int) ≤ 57) = true := by simp; omega
    clear hd
    go_enter Tryz.func204, Tryz.ntmps204
    go_wp2
    go_ret
    exact ⟨rfl, rfl⟩

set_option maxRecDepth 100000 in
set_option maxHeartbeats 3200000 in
theorem rname_any (s : ByteArray) (w : World) (hs : s.size ≤ 9223372036854775807) :
    Calls Tryz.prog 193 #[.string s] w fun e w' => e = .returned (.bool (nameOk s.data.toList)) ∧ w = w' := by
  have HL := Lib.hid (size_eq s)
  by_cases h1 : s.size = 0
  · have HE : Hid (nameOk s.data.toList = false) := by
      cases h : nameOk s.data.toList
      · rfl
      · have := (nameOk_iff.1 h).1
        rw [← HL.out] at this
        omega
    obtain ⟨e1, e2⟩ := empty_of s h1
    clear h1
    go_enter Tryz.func193, Tryz.ntmps193
    go_wp2
    go_ret
    exact ⟨by rw [HE.out]; rfl, rfl⟩
  have hpos : 0 < s.size := by omega
  obtain ⟨e1, e2⟩ := full_of s hpos
  by_cases h2 : 24 < s.size
  · have HE : Hid (nameOk s.data.toList = false) := by
      cases h : nameOk s.data.toList
      · rfl
      · have := (nameOk_iff.1 h).2.1
        rw [← HL.out] at this
        omega
    have h2' : decide ((24 : Int) < (s.size : Int)) = true := by simp; omega
    go_enter Tryz.func193, Tryz.ntmps193
    go_wp2
    go_ret
    exact ⟨by rw [HE.out]; rfl, rfl⟩
  have h2' : decide ((24 : Int) < (s.size : Int)) = false := by simp; omega
  by_cases h3 : s.data.toList = [109, 105, 110]
  · have HE : Hid (nameOk s.data.toList = false) := by rw [Hid, h3]; decide
    have h3' : (s.toList == [109, 105, 110]) = true := by rw [toList_data, h3]; rfl
    clear h3
    go_enter Tryz.func193, Tryz.ntmps193
    go_wp2
    go_ret
    exact ⟨by rw [HE.out]; rfl, rfl⟩
  have h3' := ne_min h3
  by_cases h4 : s.data.toList = [109, 97, 120]
  · have HE : Hid (nameOk s.data.toList = false) := by rw [Hid, h4]; decide
    have h4' : (s.toList == [109, 97, 120]) = true := by rw [toList_data, h4]; rfl
    clear h4 h3
    go_enter Tryz.func193, Tryz.ntmps193
    go_wp2
    go_ret
    exact ⟨by rw [HE.out]; rfl, rfl⟩
  have h4' := ne_max h4
  obtain ⟨b0, hb0⟩ : ∃ b, s[0] = b := ⟨_, rfl⟩
  have hat := at_data s 0 hpos
  rw [hb0] at hat
  have HB0 := Lib.hid hat
  have HN34 := Lib.hid (And.intro h3 h4)
  clear hat h3 h4
  by_cases hlo : 97 ≤ b0.toNat ∧ b0.toNat ≤ 122
  · have d1 : decide ((b0.toNat : Int) < 97) = false := by simp; omega
    have d2 : decide ((122 : Int) < (b0.toNat : Int)) = false := by simp; omega
    have HLO := Lib.hid hlo
    clear hlo
    go_enter Tryz.func193, Tryz.ntmps193
    go_wp2
    clear h3' h4' d1 d2 h2' e1 e2
    go_loop [3] (fun i => ∃ k : Nat, k ≤ s.size ∧ i = .int .i64 (k : Int) ∧ Hid (nameUp s.data.toList k)) (fun i => s.size - (intOf i).toNat)
    case atStart => exact ⟨0, Nat.zero_le _, rfl, fun j b hj => by omega⟩
    case round =>
      obtain ⟨k, hk, rfl, hup⟩ := hrel
      by_cases hlt : k < s.size
      · obtain ⟨b, hb⟩ : ∃ b, s[k] = b := ⟨_, rfl⟩
        have hbk := at_data s k hlt
        rw [hb] at hbk
        have HB' := Lib.hid hbk
        have hbz : k = 0 → b = b0 := fun e => by
          subst e
          have h := HB0.out
          rw [hbk] at h
          exact Option.some.inj h
        clear hbk
        cases hdg : isDig b
        · have hdn := isDig_false.1 hdg
          by_cases hu : b = 95
          · have HN : Hid (nameB (decide (k = 0)) b = true) := by
              have hk0 : ¬ k = 0 := fun e => by have h1 := hbz e; have h := HLO.out; rw [← h1, hu] at h; exact absurd h.1 (by decide)
              simp [Hid, nameB, hk0, hu]
            have u1 : ((b.toNat : Int) != 95) = false := by rw [hu]; rfl
            clear hbz hdn hu
            go_wp2_with (go_at_call 204; go_must ((refine (rdigit_any _ _).mono ?_); rintro e w' ⟨rfl, rfl⟩; rw [hdg]))
            go_round
            case rel => exact ⟨k + 1, by omega, by go_num, nameUp_succ hup.out HB'.out HN.out⟩
            case measure => simp [intOf]; omega
          · have u1 : ((b.toNat : Int) != 95) = true := by
              rw [bne_iff_ne]
              intro e
              exact hu (UInt8.toNat_inj.1 (by show b.toNat = 95; omega))
            by_cases hl : 97 ≤ b.toNat ∧ b.toNat ≤ 122
            · have HN : Hid (nameB (decide (k = 0)) b = true) := by simp [Hid, nameB, isLow, hl]
              have q1 : decide ((b.toNat : Int) < 97) = false := by simp; omega
              have q2 : decide ((122 : Int) < (b.toNat : Int)) = false := by simp; omega
              clear hbz hdn hl hu
              go_wp2_with (go_at_call 204; go_must ((refine (rdigit_any _ _).mono ?_); rintro e w' ⟨rfl, rfl⟩; rw [hdg]))
              go_round
              case rel => exact ⟨k + 1, by omega, by go_num, nameUp_succ hup.out HB'.out HN.out⟩
              case measure => simp [intOf]; omega
            · have hnl : isLow b = false := by
                cases h : isLow b
                · rfl
                · exact absurd (by simpa [isLow] using h) hl
              have HN : Hid (nameOk s.data.toList = false) := nameOk_no HB'.out (by simp [nameB, hnl, hdg, hu])
              have hc : decide ((b.toNat : Int) < 97) = true ∨ (decide ((b.toNat : Int) < 97) = false ∧ decide ((122 : Int) < (b.toNat : Int)) = true) := by
                by_cases h : 97 ≤ b.toNat
                · exact .inr ⟨by simp; omega, by simp; omega⟩
                · exact .inl (by simp; omega)
              clear hbz hdn hl hu hnl
              rcases hc with q1 | ⟨q1, q2⟩
              all_goals
                go_wp2_with (go_at_call 204; go_must ((refine (rdigit_any _ _).mono ?_); rintro e w' ⟨rfl, rfl⟩; rw [hdg]))
                go_ret
                exact ⟨by rw [HN.out]; rfl, rfl⟩
        · have HN : Hid (nameB (decide (k = 0)) b = true) := by
            have hk0 : ¬ k = 0 := fun e => by have h1 := hbz e; have h := HLO.out; rw [← h1] at h; have := isDig_true.1 hdg; omega
            simp [Hid, nameB, hk0, hdg]
          clear hbz
          go_wp2_with (go_at_call 204; go_must ((refine (rdigit_any _ _).mono ?_); rintro e w' ⟨rfl, rfl⟩; rw [hdg]))
          go_round
          case rel => exact ⟨k + 1, by omega, by go_num, nameUp_succ hup.out HB'.out HN.out⟩
          case measure => simp [intOf]; omega
      · obtain rfl : k = s.size := by omega
        have HE : Hid (nameOk s.data.toList = true) := by
          refine nameOk_iff.2 ⟨by rw [← HL.out]; omega, by rw [← HL.out]; omega, HN34.out.1, HN34.out.2, ?_⟩
          rw [← HL.out]
          exact hup.out
        go_wp2
        go_ret
        exact ⟨by rw [HE.out]; rfl, rfl⟩
  · have hnl : isLow b0 = false := by
      cases h : isLow b0
      · rfl
      · exact absurd (by simpa [isLow] using h) hlo
    have HN : Hid (nameOk s.data.toList = false) := nameOk_no HB0.out (by simp [nameB, hnl])
    have hc : decide ((b0.toNat : Int) < 97) = true ∨ (decide ((b0.toNat : Int) < 97) = false ∧ decide ((122 : Int) < (b0.toNat : Int)) = true) := by
      by_cases h : 97 ≤ b0.toNat
      · exact .inr ⟨by simp; omega, by simp; omega⟩
      · exact .inl (by simp; omega)
    clear hlo hnl
    rcases hc with q1 | ⟨q1, q2⟩
    all_goals
      go_enter Tryz.func193, Tryz.ntmps193
      go_wp2
      go_ret
      exact ⟨by rw [HN.out]; rfl, rfl⟩
end Go.Proofs.YtjiccijfbpkliaaGreatDoor
