/- Parts of the proof. -/
import Derived.WalkLawsBesides
import Derived.Test.YtiibocdmlfedkaaGreatDoorH03
import Derived.Test.YtiibocdmlfedkaaGreatDoorH05
import Derived.Test.YtiibocdmlfedkaaGreatDoorH06
namespace Go.Proofs.YtiibocdmlfedkaaGreatDoor
section
open Go.RowKit
open Go.Lib hiding intOf
def isLow (b : UInt8) : Bool := decide (97 ≤ b.toNat) && decide (b.toNat ≤ 122)
def nameB (first : Bool) (b : UInt8) : Bool := isLow b || (!first && (b == 95 || isDig b))
def nameUp (l : List UInt8) (k : Nat) : Prop := ∀ j b, j < k → l[j]? = some b → nameB (decide (j = 0)) b = true
def nameOk (l : List UInt8) : Bool := decide (1 ≤ l.length) && (decide (l.length ≤ 24) && (decide (l ≠ [109, 105, 110]) && (decide (l ≠ [109, 97, 120]) && (List.range l.length).all fun j => nameB (decide (j = 0)) (l.getD j 0))))
theorem nameOk_iff {l : List UInt8} : nameOk l = true ↔ 1 ≤ l.length ∧ l.length ≤ 24 ∧ l ≠ [109, 105, 110] ∧ l ≠ [109, 97, 120] ∧ nameUp l l.length := by
 simp only [nameOk, Bool.and_eq_true, decide_eq_true_eq, List.all_eq_true, List.mem_range, nameUp]
 refine and_congr_right fun _ => and_congr_right fun _ => and_congr_right fun _ => and_congr_right fun _ => ?_
 constructor
 ·intro h j b hj hb
  have := h j hj
  rw [List.getD_eq_getElem?_getD, hb] at this
  exact this
 ·intro h j hj
  have := h j l[j] hj (List.getElem?_eq_getElem hj)
  rw [List.getD_eq_getElem?_getD, List.getElem?_eq_getElem hj]
  exact this
theorem nameUp_succ {l : List UInt8} {k : Nat} {b : UInt8} (h : nameUp l k) (hb : l[k]? = some b) (hn : nameB (decide (k = 0)) b = true) : nameUp l (k + 1) := by
 intro j c hj hc
 by_cases e : j = k
 ·subst e
  rw [hb] at hc
  rw [← Option.some.inj hc]
  exact hn
 ·exact h j c (by omega) hc
theorem nameOk_no {l : List UInt8} {k : Nat} {b : UInt8} (hb : l[k]? = some b) (hn : nameB (decide (k = 0)) b = false) : nameOk l = false := by
 cases h : nameOk l
 ·rfl
 ·have := (nameOk_iff.1 h).2.2.2.2 k b (List.getElem?_eq_some_iff.1 hb).1 hb
  rw [hn] at this
  cases this
theorem isDigit_any (b : UInt8) (w : World) : Calls Tryz.prog 166 #[.int .u8 (b.toNat : Int)] w fun e w' => e = .returned (.bool (isDig b)) ∧ w = w' := by
 cases hd : isDig b
 ·rcases isDig_false.1 hd with h | h
  ·go_enter Tryz.func166, Tryz.ntmps166
   go_wp2
   go_ret
   exact ⟨rfl, rfl⟩
  ·have h1 : ¬ b.toNat < 48 := by omega
   have h2 : decide ((b.toNat : Int) ≤ 57) = false := by simp; omega
   go_enter Tryz.func166, Tryz.ntmps166
   go_wp2
   go_ret
   exact ⟨rfl, rfl⟩
 ·obtain ⟨h1, h2⟩ := isDig_true.1 hd
  have h3 : decide ((b.toNat : Int) ≤ 57) = true := by simp; omega
  go_enter Tryz.func166, Tryz.ntmps166
  go_wp2
  go_ret
  exact ⟨rfl, rfl⟩
theorem ne_min {s : ByteArray} (h : s.data.toList ≠ [109, 105, 110]) : (s.toList == [109, 105, 110]) = false := by rw [toList_data]; simpa using h
theorem ne_max {s : ByteArray} (h : s.data.toList ≠ [109, 97, 120]) : (s.toList == [109, 97, 120]) = false := by rw [toList_data]; simpa using h
set_option maxRecDepth 100000 in
set_option maxHeartbeats 1600000 in
theorem isName_any (s : ByteArray) (w : World) (hs : s.size ≤ 9223372036854775807) :
  Calls Tryz.prog 141 #[.string s] w fun e w' => e = .returned (.bool (nameOk s.data.toList)) ∧ w = w' := by
 have HL := Lib.hid (size_eq s)
 by_cases hbad : s.size = 0 ∨ 24 < s.size ∨ s.data.toList = [109, 105, 110] ∨ s.data.toList = [109, 97, 120]
 ·have HE : Hid (nameOk s.data.toList = false) := by
   cases h : nameOk s.data.toList
   ·rfl
   ·obtain ⟨h1, h2, h3, h4, _⟩ := nameOk_iff.1 h
    rw [← HL.out] at h1 h2
    rcases hbad with h | h | h | h
    ·omega
    ·omega
    ·exact absurd h h3
    ·exact absurd h h4
  by_cases h1 : s.size = 0
  ·have h1' : ((s.size : Int) == 0) = true := by rw [beq_iff_eq]; omega
   clear hbad h1
   go_enter Tryz.func141, Tryz.ntmps141
   go_wp2
   go_ret
   exact ⟨by rw [HE.out]; rfl, rfl⟩
  have h1' : ((s.size : Int) == 0) = false := by rw [beq_eq_false_iff_ne]; omega
  by_cases h2 : 24 < s.size
  ·have h2' : decide ((24 : Int) < (s.size : Int)) = true := by simp; omega
   clear hbad
   go_enter Tryz.func141, Tryz.ntmps141
   go_wp2
   go_ret
   exact ⟨by rw [HE.out]; rfl, rfl⟩
  have h2' : decide ((24 : Int) < (s.size : Int)) = false := by simp; omega
  by_cases h3 : s.data.toList = [109, 105, 110]
  ·have h3' : (s.toList == [109, 105, 110]) = true := by rw [toList_data, h3]; rfl
   clear hbad h3
   go_enter Tryz.func141, Tryz.ntmps141
   go_wp2
   go_ret
   exact ⟨by rw [HE.out]; rfl, rfl⟩
  have h3' := ne_min h3
  have h4 : s.data.toList = [109, 97, 120] := by
   rcases hbad with h | h | h | h
   ·exact absurd h h1
   ·exact absurd h h2
   ·exact absurd h h3
   ·exact h
  have h4' : (s.toList == [109, 97, 120]) = true := by rw [toList_data, h4]; rfl
  clear hbad h3 h4
  go_enter Tryz.func141, Tryz.ntmps141
  go_wp2
  go_ret
  exact ⟨by rw [HE.out]; rfl, rfl⟩
 ·have h1 : ¬ s.size = 0 := fun h => hbad (.inl h)
  have h2 : ¬ 24 < s.size := fun h => hbad (.inr (.inl h))
  have h3 := ne_min (s := s) fun h => hbad (.inr (.inr (.inl h)))
  have h4 := ne_max (s := s) fun h => hbad (.inr (.inr (.inr h)))
  have HB := Lib.hid hbad
  have h1' : ((s.size : Int) == 0) = false := by rw [beq_eq_false_iff_ne]; omega
  have h2' : decide ((24 : Int) < (s.size : Int)) = false := by simp; omega
  clear hbad
  go_enter Tryz.func141, Tryz.ntmps141
  go_wp2
  clear h1' h2' h3 h4
  go_loop [24] (fun i => ∃ k : Nat, k ≤ s.size ∧ i = .int .i64 (k : Int) ∧ Hid (nameUp s.data.toList k)) (fun i => s.size - (intOf i).toNat)
  case atStart => exact ⟨0, Nat.zero_le _, rfl, fun j b hj => by omega⟩
  case round =>
   obtain ⟨k, hk, rfl, hup⟩ := hrel
   by_cases hlt : k < s.size
   ·obtain ⟨b, hb⟩ : ∃ b, s[k] = b := ⟨_, rfl⟩
    have hbk := at_data s k hlt
    rw [hb] at hbk
    have HB' := Lib.hid hbk
    clear hbk
    obtain ⟨dg, hdg⟩ : ∃ dg, isDig b = dg := ⟨_, rfl⟩
    by_cases hlo : 97 ≤ b.toNat ∧ b.toNat ≤ 122
    ·have HN : Hid (nameB (decide (k = 0)) b = true) := by simp [Hid, nameB, isLow, hlo]
     obtain ⟨l1, l2⟩ := hlo
     have d1 : decide ((97 : Int) ≤ (b.toNat : Int)) = true := by simp; omega
     have d2 : decide ((b.toNat : Int) ≤ 122) = true := by simp; omega
     go_wp2_with (go_at_call 166; go_must ((refine (isDigit_any _ _).mono ?_); rintro e w' ⟨rfl, rfl⟩; rw [hdg]))
     go_round
     case rel => exact ⟨k + 1, by omega, by go_num, nameUp_succ hup.out HB'.out HN.out⟩
     case measure => simp [intOf]; omega
    ·have hnl : isLow b = false := by
      cases h : isLow b
      ·rfl
      ·exact absurd (by simpa [isLow] using h) hlo
     have hc : decide ((97 : Int) ≤ (b.toNat : Int)) = false ∨ (decide ((97 : Int) ≤ (b.toNat : Int)) = true ∧ decide ((b.toNat : Int) ≤ 122) = false) := by
      by_cases h : 97 ≤ b.toNat
      ·exact .inr ⟨by simp; omega, by simp; omega⟩
      ·exact .inl (by simp; omega)
     by_cases hk0 : k = 0
     ·have HN : Hid (nameOk s.data.toList = false) := nameOk_no HB'.out (by simp [nameB, hnl, hk0])
      subst hk0
      clear hlo hnl
      rcases hc with d1 | ⟨d1, d2⟩
      all_goals
       go_wp2_with (go_at_call 166; go_must ((refine (isDigit_any _ _).mono ?_); rintro e w' ⟨rfl, rfl⟩; rw [hdg]))
       go_ret
       exact ⟨by rw [HN.out]; rfl, rfl⟩
     ·have hk1 : ((k : Int) == 0) = false := by rw [beq_eq_false_iff_ne]; omega
      by_cases hu : b = 95
      ·subst hu
       have HN : Hid (nameB (decide (k = 0)) 95 = true) := by simp [Hid, nameB, hk0]
       have u1 : (((95 : UInt8).toNat : Int) != 95) = false := rfl
       clear hlo hnl hk0
       rcases hc with d1 | ⟨d1, d2⟩
       all_goals
        go_wp2_with (go_at_call 166; go_must ((refine (isDigit_any _ _).mono ?_); rintro e w' ⟨rfl, rfl⟩; rw [hdg]))
        go_round
        case rel => exact ⟨k + 1, by omega, by go_num, nameUp_succ hup.out HB'.out HN.out⟩
        case measure => simp [intOf]; omega
      ·have u1 : ((b.toNat : Int) != 95) = true := by
        rw [bne_iff_ne]
        intro e
        exact hu (UInt8.toNat_inj.1 (by show b.toNat = 95; omega))
       cases dg
       ·have HN : Hid (nameOk s.data.toList = false) := nameOk_no HB'.out (by simp [nameB, hnl, hdg, hu])
        clear hlo hnl hk0 hu
        rcases hc with d1 | ⟨d1, d2⟩
        all_goals
         go_wp2_with (go_at_call 166; go_must ((refine (isDigit_any _ _).mono ?_); rintro e w' ⟨rfl, rfl⟩; rw [hdg]))
         go_ret
         exact ⟨by rw [HN.out]; rfl, rfl⟩
       ·have HN : Hid (nameB (decide (k = 0)) b = true) := by simp [Hid, nameB, hk0, hdg]
        clear hlo hnl hk0 hu
        rcases hc with d1 | ⟨d1, d2⟩
        all_goals
         go_wp2_with (go_at_call 166; go_must ((refine (isDigit_any _ _).mono ?_); rintro e w' ⟨rfl, rfl⟩; rw [hdg]))
         go_round
         case rel => exact ⟨k + 1, by omega, by go_num, nameUp_succ hup.out HB'.out HN.out⟩
         case measure => simp [intOf]; omega
   ·obtain rfl : k = s.size := by omega
    have HE : Hid (nameOk s.data.toList = true) := by
     refine nameOk_iff.2 ⟨by rw [← HL.out]; omega, by rw [← HL.out]; omega, fun h => HB.out (.inr (.inr (.inl h))), fun h => HB.out (.inr (.inr (.inr h))), ?_⟩
     rw [← HL.out]
     exact hup.out
    go_wp2
    go_ret
    exact ⟨by rw [HE.out]; rfl, rfl⟩
end
section
abbrev Pt := Int × Int
def outB (p : Pt) : Bool := decide (p.1 < -1048576) || (decide (1048576 < p.1) || (decide (p.2 < -1048576) || decide (1048576 < p.2)))
def crossP (a b c : Pt) : Int := (b.1 - a.1) * (c.2 - a.2) - (b.2 - a.2) * (c.1 - a.1)
def cmp0 (x : Int) : Int := if x < 0 then -1 else if 0 < x then 1 else 0
def onP (a b p : Pt) : Bool := decide (crossP a b p = 0) && (decide (min a.1 b.1 ≤ p.1) && (decide (p.1 ≤ max a.1 b.1) && (decide (min a.2 b.2 ≤ p.2) && decide (p.2 ≤ max a.2 b.2))))
def partedP (a b c d : Pt) : Bool := decide (cmp0 (crossP a b c) * cmp0 (crossP a b d) < 0)
def meetP (a b c d : Pt) : Bool := onP a b c || (onP a b d || (onP c d a || (onP c d b || (partedP a b c d && partedP c d a b))))
def foldedP (a b c : Pt) : Bool := decide (crossP a b c = 0) && decide (0 < (a.1 - b.1) * (c.1 - b.1) + (a.2 - b.2) * (c.2 - b.2))
def vtx (p : List Pt) (j : Nat) : Pt := p.getD (j % p.length) (0, 0)
def onceAt (p : List Pt) (i : Nat) : Bool := match p[i]? with | some x => !(decide (x ∈ p.take i)) | none => true
def sideAt (p : List Pt) (i k : Nat) : Bool := !(decide (i + 2 ≤ k) && (decide ((k + 1) % p.length ≠ i) && meetP (vtx p i) (vtx p (i + 1)) (vtx p k) (vtx p (k + 1))))
def simpleP (p : List Pt) : Bool :=
 (List.range p.length).all (onceAt p) && (List.range p.length).all fun i => !foldedP (vtx p i) (vtx p (i + 1)) (vtx p (i + 2)) && (List.range p.length).all (sideAt p i)
def polygonE (p : List Pt) : Int :=
 if 40 < p.length then 5 else if p.length < 3 then 11 else if p.any outB = true then 3 else if simpleP p = false then 11 else 0
def sameNext (l : List Pt) (i : Nat) : Bool := decide (l[i]? = l[i + 1]?)
def polylineE (l : List Pt) : Int :=
 if 40 < l.length then 5 else if l.length < 2 then 11 else if l.any outB = true then 3 else if (List.range (l.length - 1)).any (sameNext l) = true then 11 else 0
def rootI (n x : Nat) : Nat := if (x + n / x) / 2 < x then rootI n ((x + n / x) / 2) else x
termination_by x
def bitsN : Nat → Nat
 | 0 => 0
 | n + 1 => bitsN ((n + 1) / 2) + 1
decreasing_by omega
def rootP (n : Nat) : Nat := if n < 2 then n else rootI n (2 ^ ((bitsN n + 1) / 2))
def segP (p q : Pt) : Nat := rootP (1000000 * ((q.1 - p.1) * (q.1 - p.1) + (q.2 - p.2) * (q.2 - p.2))).toNat
def lenAt (l : List Pt) (i : Nat) : Nat := segP (l.getD i (0, 0)) (l.getD (i + 1) (0, 0))
def lenTo (l : List Pt) : Nat → Nat
 | 0 => 0
 | i + 1 => lenTo l i + lenAt l i
def lengthP (l : List Pt) : Nat := lenTo l (l.length - 1)
def hasName (x : ByteArray) (l : List ByteArray) : Bool := decide (x.data.toList ∈ l.map fun y : ByteArray => y.data.toList)
structure PEdge where
 name : ByteArray
 line : List Pt
def edgeE (l : List PEdge) (i : Nat) : Int :=
 match l[i]? with
 | none => 0
 | some e => if nameOk e.name.data.toList = false then 1 else if hasName e.name ((l.take i).map (·.name)) = true then 7 else polylineE e.line
def firstE : List Int → Int
 | [] => 0
 | e :: es => if e ≠ 0 then e else firstE es
def joinAt (l : List PEdge) (i : Nat) : Bool :=
 decide ((l.getD i ⟨ByteArray.empty, []⟩).line.getLast? = (l.getD ((i + 1) % l.length) ⟨ByteArray.empty, []⟩).line.head?)
def verticesP (l : List PEdge) : List Pt := l.flatMap fun e => e.line.dropLast
def outlineE (l : List PEdge) : Int :=
 if 16 < l.length then 5 else if l.length < 2 then 11 else if firstE ((List.range l.length).map (edgeE l)) ≠ 0 then firstE ((List.range l.length).map (edgeE l))
 else if (List.range l.length).all (joinAt l) = false then 11 else polygonE (verticesP l)
theorem firstE_at : ∀ {es : List Int} {i : Nat} {e : Int}, (∀ j x, j < i → es[j]? = some x → x = 0) → es[i]? = some e → e ≠ 0 → firstE es = e
 | [], i, e, _, h, _ => by simp at h
 | x :: es, 0, e, _, h, h0 => by
  obtain rfl : x = e := by simpa using h
  rw [firstE, if_pos h0]
 | x :: es, i + 1, e, hz, h, h0 => by
  have hx : x = 0 := hz 0 x (by omega) rfl
  rw [firstE, if_neg (by simp [hx])]
  exact firstE_at (fun j y hj hy => hz (j + 1) y (Nat.succ_lt_succ hj) (by simpa using hy)) (by simpa using h) h0
theorem firstE_none : ∀ {es : List Int}, (∀ (j : Nat) (x : Int), es[j]? = some x → x = 0) → firstE es = 0
 | [], _ => rfl
 | x :: es, h => by
  rw [firstE, if_neg (by simp [h 0 x rfl])]
  exact firstE_none fun j y hy => h (j + 1) y (by simpa using hy)
end
section
structure PRow where
 name : ByteArray
 base : Rat
 steps : List Rat
structure PChart where
 sizes : List ByteArray
 base : Int
 rows : List PRow
def isCapDig (b : UInt8) : Bool := (decide (65 ≤ b.toNat) && decide (b.toNat ≤ 90)) || (decide (48 ≤ b.toNat) && decide (b.toNat ≤ 57))
def sizeOk (l : List UInt8) : Bool := decide (1 ≤ l.length) && (decide (l.length ≤ 8) && l.all isCapDig)
theorem sizeOk_iff {l : List UInt8} : sizeOk l = true ↔ 1 ≤ l.length ∧ l.length ≤ 8 ∧ l.all isCapDig = true := by simp [sizeOk]
theorem sizeOk_no {l : List UInt8} {k : Nat} {b : UInt8} (hb : l[k]? = some b) (h : isCapDig b = false) : sizeOk l = false := by
 cases ha : sizeOk l
 ·rfl
 ·have := (sizeOk_iff.1 ha).2.2
  rw [List.all_eq_true] at this
  rw [this b (List.mem_of_getElem? hb)] at h
  cases h
theorem all_take_succ {p : UInt8 → Bool} {l : List UInt8} {k : Nat} {b : UInt8} (h : (l.take k).all p = true) (hb : l[k]? = some b) (hd : p b = true) : (l.take (k + 1)).all p = true := by
 rw [List.take_add_one, List.all_append, h, hb]
 simp [hd]
def rowOk (n : Nat) (r : PRow) : Bool := nameOk r.name.data.toList && (decide (r.steps.length = n) && decide (r.steps.getD 0 0 = 0))
theorem rowOk_iff {n : Nat} {r : PRow} : rowOk n r = true ↔ nameOk r.name.data.toList = true ∧ r.steps.length = n ∧ r.steps.getD 0 0 = 0 := by simp [rowOk]
def newAt (l : List ByteArray) (i : Nat) : Bool := match l[i]? with | some x => !(decide (x.data.toList ∈ (l.take i).map fun y : ByteArray => y.data.toList)) | none => true
theorem mem_data {x : ByteArray} {l : List ByteArray} : (x.data.toList ∈ l.map fun y : ByteArray => y.data.toList) ↔ x ∈ l := by
 rw [List.mem_map]
 constructor
 ·rintro ⟨y, hy, e⟩
  rw [← eq_of_data e]
  exact hy
 ·intro h
  exact ⟨x, h, rfl⟩
def onceB (l : List ByteArray) : Bool := (List.range l.length).all (newAt l)
theorem onceB_iff {l : List ByteArray} : onceB l = true ↔ ∀ i x, l[i]? = some x → x ∉ l.take i := by
 unfold onceB
 rw [List.all_eq_true]
 constructor
 ·intro h i x hx hm
  have h1 := h i (List.mem_range.2 (List.getElem?_eq_some_iff.1 hx).1)
  rw [newAt, hx] at h1
  simp only [Bool.not_eq_true', decide_eq_false_iff_not, mem_data] at h1
  exact h1 hm
 ·intro h i hi
  rw [List.mem_range] at hi
  rw [newAt, List.getElem?_eq_getElem hi]
  simp only [Bool.not_eq_true', decide_eq_false_iff_not, mem_data]
  exact h i _ (List.getElem?_eq_getElem hi)
theorem onceB_no {l : List ByteArray} {i : Nat} {x : ByteArray} (hx : l[i]? = some x) (hm : x ∈ l.take i) : onceB l = false := by
 cases h : onceB l
 ·rfl
 ·exact absurd hm (onceB_iff.1 h i x hx)
def PChart.names (c : PChart) : List ByteArray := c.rows.map (·.name)
def PChart.right (c : PChart) : Bool := decide (1 ≤ c.sizes.length) && ((c.sizes.all fun s : ByteArray => sizeOk s.data.toList) && c.rows.all (rowOk c.sizes.length))
def isIdx (c : PChart) (i : Int) : Bool := decide (0 ≤ i) && decide (i < c.sizes.length)
def chkP (c : PChart) : Int :=
 if 12 < c.sizes.length ∨ 32 < c.rows.length then 5
 else if c.right = false then 1
 else if onceB c.sizes = false ∨ onceB c.names = false then 7
 else if isIdx c c.base = false then 3 else 0
section
variable {c : PChart}
theorem chk_long (h : 12 < c.sizes.length ∨ 32 < c.rows.length) : chkP c = 5 := by rw [chkP, if_pos h]
theorem chk_wrong (h : ¬ (12 < c.sizes.length ∨ 32 < c.rows.length)) (h1 : c.right = false) : chkP c = 1 := by rw [chkP, if_neg h, if_pos h1]
theorem chk_twice (h : ¬ (12 < c.sizes.length ∨ 32 < c.rows.length)) (h1 : c.right = true) (h2 : onceB c.sizes = false ∨ onceB c.names = false) : chkP c = 7 := by
 rw [chkP, if_neg h, if_neg (by simp [h1]), if_pos h2]
theorem chk_base (h : ¬ (12 < c.sizes.length ∨ 32 < c.rows.length)) (h1 : c.right = true) (h2 : onceB c.sizes = true) (h3 : onceB c.names = true) (h4 : isIdx c c.base = false) : chkP c = 3 := by
 rw [chkP, if_neg h, if_neg (by simp [h1]), if_neg (by simp [h2, h3]), if_pos h4]
theorem chk_ok (h : ¬ (12 < c.sizes.length ∨ 32 < c.rows.length)) (h1 : c.right = true) (h2 : onceB c.sizes = true) (h3 : onceB c.names = true) (h4 : isIdx c c.base = true) : chkP c = 0 := by
 rw [chkP, if_neg h, if_neg (by simp [h1]), if_neg (by simp [h2, h3]), if_neg (by simp [h4])]
theorem right_iff : c.right = true ↔ 1 ≤ c.sizes.length ∧ (∀ (i : Nat) (s : ByteArray), c.sizes[i]? = some s → sizeOk s.data.toList = true) ∧ (∀ (i : Nat) (r : PRow), c.rows[i]? = some r → rowOk c.sizes.length r = true) := by
 unfold PChart.right
 rw [Bool.and_eq_true, Bool.and_eq_true, decide_eq_true_iff, List.all_eq_true, List.all_eq_true]
 refine and_congr_right fun _ => and_congr ?_ ?_
 ·exact ⟨fun h i s hs => h s (List.mem_of_getElem? hs), fun h s hs => by obtain ⟨i, hi⟩ := List.getElem?_of_mem hs; exact h i s hi⟩
 ·exact ⟨fun h i s hs => h s (List.mem_of_getElem? hs), fun h s hs => by obtain ⟨i, hi⟩ := List.getElem?_of_mem hs; exact h i s hi⟩
theorem right_empty (h : c.sizes.length = 0) : c.right = false := by
 cases hr : c.right
 ·rfl
 ·have := (right_iff.1 hr).1; omega
theorem right_size {i : Nat} {s : ByteArray} (hs : c.sizes[i]? = some s) (h : sizeOk s.data.toList = false) : c.right = false := by
 cases hr : c.right
 ·rfl
 ·rw [(right_iff.1 hr).2.1 i s hs] at h; cases h
theorem right_row {i : Nat} {r : PRow} (hs : c.rows[i]? = some r) (h : rowOk c.sizes.length r = false) : c.right = false := by
 cases hr : c.right
 ·rfl
 ·rw [(right_iff.1 hr).2.2 i r hs] at h; cases h
end
end
section
structure PPiece where
 name : ByteArray
 edges : List PEdge
 grain : Int
 notches : List (Int × Int)
 corners : List Pt
 widths : List Int
 match_ : Bool
structure PUse where
 piece : Int
 count : Int
 pair : Bool
structure PSeam where
 pa : Int
 ea : Int
 pb : Int
 eb : Int
 rev : Bool
 ease : Int
structure POp where
 name : ByteArray
 machine : Int
 minutes : Int
 after : List Int
 uses : List Int
structure PStyle where
 name : ByteArray
 sizes : List ByteArray
 multiples : List Int
 pieces : List PPiece
 uses : List PUse
 seams : List PSeam
 ops : List POp
structure PBundle where
 ticket : Int
 garment : Int
 size : Int
 lot : Int
 from_ : Int
 to_ : Int
structure PWorker where
 name : ByteArray
 machines : List Int
structure PScan where
 ticket : Int
 op : Int
 worker : Int
 at_ : Int
deriving DecidableEq
def shiftOut (s : Pt) : Bool := !(decide (-1000 ≤ s.1) && (decide (s.1 ≤ 1000) && (decide (-1000 ≤ s.2) && decide (s.2 ≤ 1000))))
def gradedE (p : PPiece) : Int :=
 if p.corners.length ≠ p.edges.length then 1 else if p.corners.any shiftOut = true then 3 else outlineE p.edges
def notchE (p : PPiece) (n : Int × Int) : Int :=
 if n.1 < 0 ∨ (p.edges.length : Int) ≤ n.1 then 3
 else if lengthP (p.edges.getD n.1.toNat ⟨ByteArray.empty, []⟩).line < 1 ∨ 1099511627776 < lengthP (p.edges.getD n.1.toNat ⟨ByteArray.empty, []⟩).line ∨ n.2 < 0 ∨ (lengthP (p.edges.getD n.1.toNat ⟨ByteArray.empty, []⟩).line : Int) < n.2 then 3 else 0
def placedE (p : PPiece) : Int := if gradedE p ≠ 0 then gradedE p else if 16 < p.notches.length then 5 else firstE (p.notches.map (notchE p))
def widthsE (p : PPiece) : Int := if p.widths.length ≠ p.edges.length then 1 else if (p.widths.any fun w => decide (w < 0) || decide (500 < w)) = true then 3 else 0
def pieceE (earlier : List PPiece) (p : PPiece) : Int :=
 if nameOk p.name.data.toList = false then 1 else if p.grain ≠ 1 ∧ p.grain ≠ 2 ∧ p.grain ≠ 4 then 1
 else if hasName p.name (earlier.map (·.name)) = true then 7 else if gradedE p ≠ 0 then gradedE p else if placedE p ≠ 0 then placedE p else widthsE p
def wholeE (s : PStyle) : Int :=
 if nameOk s.name.data.toList = false ∨ s.sizes.length = 0 then 1
 else if (s.sizes.all fun z : ByteArray => sizeOk z.data.toList) = false then 1
 else if s.multiples.length ≠ s.sizes.length ∨ 0 ∉ s.multiples then 1
 else if onceB s.sizes = false then 7
 else if 12 < s.sizes.length ∨ 12 < s.pieces.length ∨ 12 < s.uses.length then 5
 else if 24 < s.seams.length ∨ 16 < s.ops.length then 5
 else if (s.multiples.any fun m => decide (m < -100) || decide (100 < m)) = true then 3 else 0
def useE (s : PStyle) (u : PUse) : Int := if u.piece < 0 ∨ (s.pieces.length : Int) ≤ u.piece ∨ u.count < 1 ∨ 4 < u.count then 3 else 0
def isEdgeP (s : PStyle) (piece edge : Int) : Bool := decide (0 ≤ piece) && (decide (piece < s.pieces.length) && (decide (0 ≤ edge) && decide (edge < ((s.pieces.map fun p => p.edges.length).getD piece.toNat 0 : Nat))))
def seamE (s : PStyle) (m : PSeam) : Int := if isEdgeP s m.pa m.ea = false ∨ isEdgeP s m.pb m.eb = false then 3 else if m.ease < 0 then 1 else 0
def piecesE (s : PStyle) : Int := firstE ((List.range s.pieces.length).map fun i => match s.pieces[i]? with | some p => pieceE (s.pieces.take i) p | none => 0)
def styleE (s : PStyle) : Int :=
 if wholeE s ≠ 0 then wholeE s else if piecesE s ≠ 0 then piecesE s else if firstE (s.uses.map (useE s)) ≠ 0 then firstE (s.uses.map (useE s)) else firstE (s.seams.map (seamE s))
def idxB (n : Nat) (l : List Int) : Bool := l.all fun i => decide (0 ≤ i) && decide (i < (n : Int))
def twiceB : List Int → Bool
 | [] => false
 | x :: xs => xs.contains x || twiceB xs
def usesIn (u : Option Nat) (l : List Int) : Bool := match u with | some n => idxB n l | none => true
def usesTwice (u : Option Nat) (l : List Int) : Bool := match u with | some _ => twiceB l | none => false
def opE (l : List POp) (u : Option Nat) (i : Nat) : Int :=
 match l[i]? with
 | none => 0
 | some o => if nameOk o.name.data.toList = false then 1 else if hasName o.name ((l.take i).map (·.name)) = true then 7
  else if o.machine < 0 ∨ 8 ≤ o.machine ∨ o.minutes < 1 ∨ 10000 < o.minutes then 3
  else if idxB l.length o.after = false ∨ usesIn u o.uses = false then 3
  else if twiceB o.after = true ∨ usesTwice u o.uses = true then 7 else 0
def readyB (l : List POp) (done : List Nat) (i : Nat) : Bool := !(done.contains i) && ((l.map (·.after)).getD i []).all fun a => done.contains a.toNat
def nextP (l : List POp) (done : List Nat) : Option Nat := (List.range l.length).find? (readyB l done)
def orderF (l : List POp) : Nat → List Nat → List Nat
 | 0, done => done
 | f + 1, done => match nextP l done with | some i => orderF l f (done ++ [i]) | none => done
def orderP (l : List POp) : List Nat := orderF l l.length []
def listE (l : List POp) (u : Option Nat) : Int :=
 if 16 < l.length then 5 else if firstE ((List.range l.length).map (opE l u)) ≠ 0 then firstE ((List.range l.length).map (opE l u)) else if (orderP l).length < l.length then 9 else 0
def takenB (s : PStyle) (u : Nat) : Bool := s.ops.any fun o => o.uses.contains (u : Int)
def opsE (s : PStyle) : Int :=
 if styleE s ≠ 0 then styleE s else if listE s.ops (some s.uses.length) ≠ 0 then listE s.ops (some s.uses.length) else if (List.range s.uses.length).all (takenB s) = false then 20 else 0
def bundleE (l : List PBundle) (i : Nat) : Int :=
 match l[i]? with
 | none => 0
 | some b => if b.to_ ≤ b.from_ ∨ 40 < b.to_ - b.from_ then 3 else if b.ticket ∈ (l.take i).map (·.ticket) then 7 else 0
def machE : List Int → List Int → Int
 | _, [] => 0
 | seen, m :: ms => if m < 0 ∨ 8 ≤ m then 3 else if m ∈ seen then 7 else machE (m :: seen) ms
def workerE (l : List PWorker) (i : Nat) : Int :=
 match l[i]? with
 | none => 0
 | some w => if nameOk w.name.data.toList = false then 1 else if hasName w.name ((l.take i).map (·.name)) = true then 7 else machE [] w.machines
def workersE (l : List PWorker) : Int := if 12 < l.length then 5 else firstE ((List.range l.length).map (workerE l))
def scanE (s : PStyle) (bs : List PBundle) (ws : List PWorker) : Int :=
 if opsE s ≠ 0 then opsE s else if 60 < bs.length then 5 else if firstE ((List.range bs.length).map (bundleE bs)) ≠ 0 then firstE ((List.range bs.length).map (bundleE bs)) else workersE ws
def doneB (paid : List PScan) (t op : Int) : Bool := paid.any fun x => decide (x.ticket = t) && decide (x.op = op)
def lastP (paid : List PScan) (t : Int) : Int := (paid.filter fun x => decide (x.ticket = t)).foldl (fun _ x => x.at_) 0
def canB (w : PWorker) (m : Int) : Bool := w.machines.contains m
def outcomeP (s : PStyle) (bs : List PBundle) (ws : List PWorker) (paid : List PScan) (x : PScan) : Int :=
 if (bs.any fun b => decide (b.ticket = x.ticket)) = false ∨ x.op < 0 ∨ (s.ops.length : Int) ≤ x.op ∨ x.worker < 0 ∨ (ws.length : Int) ≤ x.worker ∨ x.at_ < 0 ∨ 1073741824 < x.at_ then 3
 else match s.ops[x.op.toNat]?, ws[x.worker.toNat]? with
 | some o, some w => if canB w o.machine = false then 4 else if doneB paid x.ticket x.op = true then 2 else if (o.after.all fun a => doneB paid x.ticket a) = false then 5 else if x.at_ < lastP paid x.ticket then 6 else 1
 | _, _ => 3
def judgeF (s : PStyle) (bs : List PBundle) (ws : List PWorker) : List PScan → List PScan → List Int
 | _, [] => []
 | paid, x :: xs => outcomeP s bs ws paid x :: judgeF s bs ws (if outcomeP s bs ws paid x = 1 then paid ++ [x] else paid) xs
def judgeP (s : PStyle) (bs : List PBundle) (ws : List PWorker) (xs : List PScan) : List Int := judgeF s bs ws [] xs
end
section
open Go.RowKit
section
variable {α : Type}
def Recs (s : Nat) (G : World → α → List Value → Prop) (w : World) (A : Option Addr) (n : Nat) (xs : List α) : Prop :=
 xs.length = n ∧ (0 < n → ∃ b off, A = some ⟨b, off, none⟩ ∧ b < w.heap.size ∧ ∀ j x, xs[j]? = some x → ∃ vs, G w x vs ∧ ∀ i u, vs[i]? = some u → w.cell? ⟨b, off + j * s + i, none⟩ = some u)
def Mono (G : World → α → List Value → Prop) : Prop := ∀ w w' x vs, Below w.heap.size w w' → G w x vs → G w' x vs
variable {s : Nat} {G : World → α → List Value → Prop} {w w' : World} {A : Option Addr} {n : Nat} {xs : List α}
theorem Recs.len (h : Recs s G w A n xs) : xs.length = n := h.1
theorem Recs.nil (s : Nat) (G : World → α → List Value → Prop) (w : World) (A : Option Addr) : Recs s G w A 0 [] := ⟨rfl, fun h => absurd h (by omega)⟩
theorem Recs.on (h : Recs s G w A n xs) (hG : Mono G) (hb : Below w.heap.size w w') : Recs s G w' A n xs :=
 ⟨h.1, fun h0 => by
  obtain ⟨b, off, e, hlt, hc⟩ := h.2 h0
  refine ⟨b, off, e, Nat.lt_of_lt_of_le hlt hb.size, fun j x hx => ?_⟩
  obtain ⟨vs, hg, hv⟩ := hc j x hx
  exact ⟨vs, hG _ _ _ _ hb hg, fun i u hu => (hb.cell (p := ⟨b, off + j * s + i, none⟩) hlt).trans (hv i u hu)⟩⟩
theorem Recs.at_ (h : Recs s G w A n xs) {j : Nat} (hj : j < n) : ∃ b off x vs, A = some ⟨b, off, none⟩ ∧ b < w.heap.size ∧ xs[j]? = some x ∧ G w x vs ∧ ∀ i u, vs[i]? = some u → w.cell? ⟨b, off + j * s + i, none⟩ = some u := by
 obtain ⟨b, off, e, hlt, hc⟩ := h.2 (by omega)
 have hl : j < xs.length := by rw [h.1]; exact hj
 obtain ⟨vs, hg, hv⟩ := hc j _ (List.getElem?_eq_getElem hl)
 exact ⟨b, off, _, vs, e, hlt, List.getElem?_eq_getElem hl, hg, hv⟩
theorem Recs.take (h : Recs s G w A n xs) {i : Nat} (hi : i ≤ n) : Recs s G w A i (xs.take i) := by
 refine ⟨by rw [List.length_take, h.1]; omega, fun h0 => ?_⟩
 obtain ⟨b, off, e, hlt, hc⟩ := h.2 (by omega)
 refine ⟨b, off, e, hlt, fun j x hx => hc j x ?_⟩
 rw [List.getElem?_take] at hx
 split at hx
 ·exact hx
 ·cases hx
end
def spotG (_ : World) (p : Pt) (vs : List Value) : Prop := vs = [.int .i64 p.1, .int .i64 p.2]
def edgeG (w : World) (e : PEdge) (vs : List Value) : Prop := ∃ A n c, vs = [.string e.name, .slice A n c] ∧ Recs 2 spotG w A n e.line ∧ n ≤ c
def pieceG (w : World) (p : PPiece) (vs : List Value) : Prop := ∃ A n c B m d C l e D k f,
 vs = [.string p.name, .slice A n c, .int .i64 p.grain, .slice B m d, .slice C l e, .slice D k f, .bool p.match_] ∧ Recs 2 edgeG w A n p.edges ∧ n ≤ c ∧ Recs 2 spotG w B m p.notches ∧ m ≤ d ∧ Recs 2 spotG w C l p.corners ∧ l ≤ e ∧ Sl w w.heap.size D k (ints p.widths) ∧ k ≤ f
def useG (_ : World) (u : PUse) (vs : List Value) : Prop := vs = [.int .i64 u.piece, .int .i64 u.count, .bool u.pair]
def seamG (_ : World) (m : PSeam) (vs : List Value) : Prop := vs = [.int .i64 m.pa, .int .i64 m.ea, .int .i64 m.pb, .int .i64 m.eb, .bool m.rev, .int .i64 m.ease]
def opG (w : World) (o : POp) (vs : List Value) : Prop := ∃ A n c B m d,
 vs = [.string o.name, .int .i64 o.machine, .int .i64 o.minutes, .slice A n c, .slice B m d] ∧ Sl w w.heap.size A n (ints o.after) ∧ n ≤ c ∧ Sl w w.heap.size B m (ints o.uses) ∧ m ≤ d
def inI (z : Int) : Prop := -9223372036854775808 ≤ z ∧ z ≤ 9223372036854775807
def bundleG (_ : World) (b : PBundle) (vs : List Value) : Prop := vs = [.int .i64 b.ticket, .int .i64 b.garment, .int .i64 b.size, .int .i64 b.lot, .int .i64 b.from_, .int .i64 b.to_] ∧ inI b.from_ ∧ inI b.to_
def workerG (w : World) (x : PWorker) (vs : List Value) : Prop := ∃ A n c, vs = [.string x.name, .slice A n c] ∧ Sl w w.heap.size A n (ints x.machines) ∧ n ≤ c
def scanG (_ : World) (x : PScan) (vs : List Value) : Prop := vs = [.int .i64 x.ticket, .int .i64 x.op, .int .i64 x.worker, .int .i64 x.at_]
theorem spot_mono : Mono spotG := fun _ _ _ _ _ h => h
theorem use_mono : Mono useG := fun _ _ _ _ _ h => h
theorem seam_mono : Mono seamG := fun _ _ _ _ _ h => h
theorem bundle_mono : Mono bundleG := fun _ _ _ _ _ h => h
theorem scan_mono : Mono scanG := fun _ _ _ _ _ h => h
theorem edge_mono : Mono edgeG := fun _ _ _ _ hb ⟨A, n, c, h1, h2, h3⟩ => ⟨A, n, c, h1, h2.on spot_mono hb, h3⟩
theorem piece_mono : Mono pieceG := fun _ _ _ _ hb ⟨A, n, c, B, m, d, C, l, e, D, k, f, h1, h2, h3, h4, h5, h6, h7, h8, h9⟩ =>
 ⟨A, n, c, B, m, d, C, l, e, D, k, f, h1, h2.on edge_mono hb, h3, h4.on spot_mono hb, h5, h6.on spot_mono hb, h7, h8.on hb, h9⟩
theorem op_mono : Mono opG := fun _ _ _ _ hb ⟨A, n, c, B, m, d, h1, h2, h3, h4, h5⟩ => ⟨A, n, c, B, m, d, h1, h2.on hb, h3, h4.on hb, h5⟩
theorem worker_mono : Mono workerG := fun _ _ _ _ hb ⟨A, n, c, h1, h2, h3⟩ => ⟨A, n, c, h1, h2.on hb, h3⟩
structure StyleA (w : World) (s : PStyle) (Z : Option Addr) (z zc : Nat) (M : Option Addr) (m mc : Nat) (P : Option Addr) (p pc : Nat) (U : Option Addr) (u uc : Nat) (E : Option Addr) (e ec : Nat) (O : Option Addr) (o oc : Nat) : Prop where
 sizes : Sl w w.heap.size Z z (strs s.sizes)
 mults : Sl w w.heap.size M m (ints s.multiples)
 pieces : Recs 7 pieceG w P p s.pieces
 uses : Recs 3 useG w U u s.uses
 seams : Recs 6 seamG w E e s.seams
 ops : Recs 5 opG w O o s.ops
 zcap : z ≤ zc
 mcap : m ≤ mc
 pcap : p ≤ pc
 ucap : u ≤ uc
 ecap : e ≤ ec
 ocap : o ≤ oc
theorem StyleA.on {w w' : World} {s : PStyle} {Z M P U E O : Option Addr} {z zc m mc p pc u uc e ec o oc : Nat} (h : StyleA w s Z z zc M m mc P p pc U u uc E e ec O o oc) (hb : Below w.heap.size w w') : StyleA w' s Z z zc M m mc P p pc U u uc E e ec O o oc :=
 ⟨h.sizes.on hb, h.mults.on hb, h.pieces.on piece_mono hb, h.uses.on use_mono hb, h.seams.on seam_mono hb, h.ops.on op_mono hb, h.zcap, h.mcap, h.pcap, h.ucap, h.ecap, h.ocap⟩
section
variable {w : World} {A : Option Addr} {n : Nat}
theorem spot_at {ps : List Pt} (h : Recs 2 spotG w A n ps) {j : Nat} (hj : j < n) : ∃ b off p, A = some ⟨b, off, none⟩ ∧ b < w.heap.size ∧ ps[j]? = some p ∧ w.cell? ⟨b, off + j * 2, none⟩ = some (.int .i64 p.1) ∧ w.cell? ⟨b, off + j * 2 + 1, none⟩ = some (.int .i64 p.2) := by
 obtain ⟨b, off, p, vs, e, hlt, hp, hg, hv⟩ := h.at_ hj
 subst hg
 exact ⟨b, off, p, e, hlt, hp, hv 0 _ rfl, hv 1 _ rfl⟩
end
end
section
section
variable {p : List Pt}
theorem all_false {f : Nat → Bool} {n i : Nat} (hi : i < n) (h : f i = false) : (List.range n).all f = false := by
 rw [List.all_eq_false]
 exact ⟨i, List.mem_range.2 hi, by simp [h]⟩
theorem all_true {f : Nat → Bool} {n : Nat} (h : ∀ i, i < n → f i = true) : (List.range n).all f = true := by
 rw [List.all_eq_true]
 intro i hi
 exact h i (List.mem_range.1 hi)
theorem simple_twice {i : Nat} {a : Pt} (ha : p[i]? = some a) (h : a ∈ p.take i) : simpleP p = false := by
 have hi := (List.getElem?_eq_some_iff.1 ha).1
 unfold simpleP
 rw [all_false hi (by rw [onceAt, ha]; simpa using h)]
 rfl
theorem simple_fold {i : Nat} (hi : i < p.length) (h : foldedP (vtx p i) (vtx p (i + 1)) (vtx p (i + 2)) = true) : simpleP p = false := by
 unfold simpleP
 rw [Bool.and_eq_false_iff]
 right
 exact all_false hi (by rw [h]; rfl)
theorem simple_meet {i k : Nat} (hi : i < p.length) (hk : k < p.length) (h1 : i + 2 ≤ k) (h2 : (k + 1) % p.length ≠ i) (h : meetP (vtx p i) (vtx p (i + 1)) (vtx p k) (vtx p (k + 1)) = true) : simpleP p = false := by
 unfold simpleP
 rw [Bool.and_eq_false_iff]
 right
 refine all_false hi ?_
 rw [Bool.and_eq_false_iff]
 right
 refine all_false hk ?_
 unfold sideAt
 simp [h1, h2, h]
theorem simple_yes (h1 : ∀ i a, p[i]? = some a → a ∉ p.take i) (h2 : ∀ i, i < p.length → foldedP (vtx p i) (vtx p (i + 1)) (vtx p (i + 2)) = false)
  (h3 : ∀ i k, i < p.length → k < p.length → i + 2 ≤ k → (k + 1) % p.length ≠ i → meetP (vtx p i) (vtx p (i + 1)) (vtx p k) (vtx p (k + 1)) = false) : simpleP p = true := by
 unfold simpleP
 rw [Bool.and_eq_true]
 refine ⟨all_true fun i hi => ?_, all_true fun i hi => ?_⟩
 ·rw [onceAt, List.getElem?_eq_getElem hi]
  simpa using h1 i _ (List.getElem?_eq_getElem hi)
 ·rw [h2 i hi, Bool.not_false, Bool.true_and]
  refine all_true fun k hk => ?_
  unfold sideAt
  by_cases a1 : i + 2 ≤ k
  ·by_cases a2 : (k + 1) % p.length ≠ i
   ·simp [h3 i k hi hk a1 a2]
   ·simp [a2]
  ·simp [a1]
theorem vtx_at {j : Nat} {a : Pt} (h : p[j % p.length]? = some a) : vtx p j = a := by
 rw [vtx, List.getD_eq_getElem?_getD, h]
 rfl
theorem vtx_lt {j : Nat} (h : j < p.length) : p[j]? = some (vtx p j) := by
 rw [vtx, Nat.mod_eq_of_lt h, List.getD_eq_getElem?_getD, List.getElem?_eq_getElem h]
 rfl
end
def inG (p : Pt) : Prop := -1048576 ≤ p.1 ∧ p.1 ≤ 1048576 ∧ -1048576 ≤ p.2 ∧ p.2 ≤ 1048576
theorem inG_iff {p : Pt} : outB p = false ↔ inG p := by
 unfold outB inG
 simp
theorem mul_in {x y : Int} {a b : Nat} (hx : -(a : Int) ≤ x ∧ x ≤ a) (hy : -(b : Int) ≤ y ∧ y ≤ b) : -((a * b : Nat) : Int) ≤ x * y ∧ x * y ≤ ((a * b : Nat) : Int) := by
 have h : (x * y).natAbs ≤ a * b := by
  rw [Int.natAbs_mul]
  exact Nat.mul_le_mul (by omega) (by omega)
 omega
theorem cross_in {a b c : Pt} (ha : inG a) (hb : inG b) (hc : inG c) : (-4398046511104 ≤ (b.1 - a.1) * (c.2 - a.2) ∧ (b.1 - a.1) * (c.2 - a.2) ≤ 4398046511104) ∧ (-4398046511104 ≤ (b.2 - a.2) * (c.1 - a.1) ∧ (b.2 - a.2) * (c.1 - a.1) ≤ 4398046511104) := by
 obtain ⟨a1, a2, a3, a4⟩ := ha
 obtain ⟨b1, b2, b3, b4⟩ := hb
 obtain ⟨c1, c2, c3, c4⟩ := hc
 exact ⟨mul_in (a := 2097152) (b := 2097152) ⟨by omega, by omega⟩ ⟨by omega, by omega⟩, mul_in (a := 2097152) (b := 2097152) ⟨by omega, by omega⟩ ⟨by omega, by omega⟩⟩
section
variable {l : List Pt}
theorem poly_long (h : 40 < l.length) : polylineE l = 5 := by rw [polylineE, if_pos h]
theorem poly_short (h : ¬ 40 < l.length) (h1 : l.length < 2) : polylineE l = 11 := by rw [polylineE, if_neg h, if_pos h1]
theorem poly_out (h : ¬ 40 < l.length) (h1 : ¬ l.length < 2) (h2 : l.any outB = true) : polylineE l = 3 := by rw [polylineE, if_neg h, if_neg h1, if_pos h2]
theorem poly_same (h : ¬ 40 < l.length) (h1 : ¬ l.length < 2) (h2 : l.any outB = false) {i : Nat} (hi : i + 1 < l.length) (h3 : l[i]? = l[i + 1]?) : polylineE l = 11 := by
 rw [polylineE, if_neg h, if_neg h1, if_neg (by simp [h2]), if_pos]
 rw [List.any_eq_true]
 exact ⟨i, List.mem_range.2 (by omega), by rw [sameNext]; simpa using h3⟩
theorem poly_ok (h : ¬ 40 < l.length) (h1 : ¬ l.length < 2) (h2 : l.any outB = false) (h3 : ∀ i, i + 1 < l.length → l[i]? ≠ l[i + 1]?) : polylineE l = 0 := by
 rw [polylineE, if_neg h, if_neg h1, if_neg (by simp [h2]), if_neg]
 rw [List.any_eq_true]
 rintro ⟨i, hi, hs⟩
 rw [List.mem_range] at hi
 rw [sameNext] at hs
 exact h3 i (by omega) (by simpa using hs)
theorem poly_zero (h : polylineE l = 0) : l.length ≤ 40 ∧ 2 ≤ l.length ∧ (∀ p ∈ l, inG p) ∧ ∀ i, i + 1 < l.length → l[i]? ≠ l[i + 1]? := by
 unfold polylineE at h
 split at h
 ·cases h
 ·split at h
  ·cases h
  ·split at h
   ·cases h
   ·split at h
    ·cases h
    ·rename_i a b c d
     refine ⟨by omega, by omega, fun p hp => ?_, fun i hi e => ?_⟩
     ·rw [← inG_iff]
      cases ho : outB p
      ·rfl
      ·exact absurd (List.any_eq_true.2 ⟨p, hp, ho⟩) c
     ·exact d (List.any_eq_true.2 ⟨i, List.mem_range.2 (by omega), by rw [sameNext]; simpa using e⟩)
theorem out_first {ps : List Pt} : ps.any outB = false ↔ ∀ (j : Nat) (p : Pt), ps[j]? = some p → outB p = false := by
 rw [List.any_eq_false]
 constructor
 ·intro h j p hp
  simpa using h p (List.mem_of_getElem? hp)
 ·intro h p hp
  obtain ⟨j, hj⟩ := List.getElem?_of_mem hp
  simpa using h j p hj
theorem out_at {ps : List Pt} {j : Nat} {p : Pt} (h : ps[j]? = some p) (ho : outB p = true) : ps.any outB = true := List.any_eq_true.2 ⟨p, List.mem_of_getElem? h, ho⟩
end
end
section
section
variable {p : List Pt}
theorem gon_long (h : 40 < p.length) : polygonE p = 5 := by rw [polygonE, if_pos h]
theorem gon_few (h : ¬ 40 < p.length) (h1 : p.length < 3) : polygonE p = 11 := by rw [polygonE, if_neg h, if_pos h1]
theorem gon_out (h : ¬ 40 < p.length) (h1 : ¬ p.length < 3) (h2 : p.any outB = true) : polygonE p = 3 := by rw [polygonE, if_neg h, if_neg h1, if_pos h2]
theorem gon_cross (h : ¬ 40 < p.length) (h1 : ¬ p.length < 3) (h2 : p.any outB = false) (h3 : simpleP p = false) : polygonE p = 11 := by rw [polygonE, if_neg h, if_neg h1, if_neg (by simp [h2]), if_pos h3]
theorem gon_ok (h : ¬ 40 < p.length) (h1 : ¬ p.length < 3) (h2 : p.any outB = false) (h3 : simpleP p = true) : polygonE p = 0 := by rw [polygonE, if_neg h, if_neg h1, if_neg (by simp [h2]), if_neg (by simp [h3])]
end
theorem firstR_at {n i : Nat} {f : Nat → Int} (hi : i < n) (hz : ∀ j, j < i → f j = 0) (h : f i ≠ 0) : firstE ((List.range n).map f) = f i :=
 firstE_at (i := i) (fun j x hj hx => by
  rw [List.getElem?_map, List.getElem?_range (by omega)] at hx
  obtain rfl := Option.some.inj hx
  exact hz j hj) (by rw [List.getElem?_map, List.getElem?_range hi]; rfl) h
theorem firstR_none {n : Nat} {f : Nat → Int} (hz : ∀ j, j < n → f j = 0) : firstE ((List.range n).map f) = 0 :=
 firstE_none fun j x hx => by
  have hj : j < n := by
   have := (List.getElem?_eq_some_iff.1 hx).1
   simpa using this
  rw [List.getElem?_map, List.getElem?_range hj] at hx
  obtain rfl := Option.some.inj hx
  exact hz j hj
theorem firstM_at {α : Type} {xs : List α} {i : Nat} {x : α} {f : α → Int} (hx : xs[i]? = some x) (hz : ∀ j y, j < i → xs[j]? = some y → f y = 0) (h : f x ≠ 0) : firstE (xs.map f) = f x :=
 firstE_at (i := i) (fun j y hj hy => by
  rw [List.getElem?_map, Option.map_eq_some_iff] at hy
  obtain ⟨z, hz1, rfl⟩ := hy
  exact hz j z hj hz1) (by rw [List.getElem?_map, hx]; rfl) h
theorem firstM_none {α : Type} {xs : List α} {f : α → Int} (hz : ∀ (j : Nat) (y : α), xs[j]? = some y → f y = 0) : firstE (xs.map f) = 0 :=
 firstE_none fun j y hy => by
  rw [List.getElem?_map, Option.map_eq_some_iff] at hy
  obtain ⟨z, hz1, rfl⟩ := hy
  exact hz j z hz1
section
variable {l : List PEdge}
theorem line_long (h : 16 < l.length) : outlineE l = 5 := by rw [outlineE, if_pos h]
theorem line_few (h : ¬ 16 < l.length) (h1 : l.length < 2) : outlineE l = 11 := by rw [outlineE, if_neg h, if_pos h1]
theorem line_edge (h : ¬ 16 < l.length) (h1 : ¬ l.length < 2) {i : Nat} {e : Int} (hi : i < l.length) (hz : ∀ j, j < i → edgeE l j = 0) (he : edgeE l i = e) (h0 : e ≠ 0) : outlineE l = e := by
 have hf := firstR_at hi hz (by rw [he]; exact h0)
 rw [outlineE, if_neg h, if_neg h1, hf, if_pos (by rw [he]; exact h0), he]
theorem line_join (h : ¬ 16 < l.length) (h1 : ¬ l.length < 2) (hz : ∀ j, j < l.length → edgeE l j = 0) {i : Nat} (hi : i < l.length) (hj : joinAt l i = false) : outlineE l = 11 := by
 have hf := firstR_none hz
 rw [outlineE, if_neg h, if_neg h1, hf, if_neg (by simp), if_pos (all_false hi hj)]
theorem line_poly (h : ¬ 16 < l.length) (h1 : ¬ l.length < 2) (hz : ∀ j, j < l.length → edgeE l j = 0) (hj : ∀ i, i < l.length → joinAt l i = true) : outlineE l = polygonE (verticesP l) := by
 have hf := firstR_none hz
 rw [outlineE, if_neg h, if_neg h1, hf, if_neg (by simp), if_neg (by rw [all_true hj]; simp)]
theorem line_zero (h : outlineE l = 0) : l.length ≤ 16 ∧ 2 ≤ l.length ∧ ∀ (j : Nat) (e : PEdge), l[j]? = some e → polylineE e.line = 0 := by
 unfold outlineE at h
 split at h
 ·cases h
 ·split at h
  ·cases h
  ·split at h
   ·rename_i h3
    exact absurd h h3
   ·rename_i h1 h2 h3
    refine ⟨by omega, by omega, fun j e he => ?_⟩
    have hj := (List.getElem?_eq_some_iff.1 he).1
    have hall : ∀ j, j < l.length → edgeE l j = 0 := by
     intro j
     induction j using Nat.strongRecOn with
     | _ j ih =>
      intro hj
      by_cases hz : edgeE l j = 0
      ·exact hz
      ·exact absurd (fun e => hz ((firstR_at hj (fun k hk => ih k hk (by omega)) hz).symm.trans e)) h3
    have := hall j hj
    unfold edgeE at this
    rw [he] at this
    simp only at this
    split at this
    ·cases this
    ·split at this
     ·cases this
     ·exact this
end
theorem edge_name {l : List PEdge} {i : Nat} {e : PEdge} (he : l[i]? = some e) (h : nameOk e.name.data.toList = false) : edgeE l i = 1 := by
 rw [edgeE, he]; simp [h]
theorem edge_twice {l : List PEdge} {i : Nat} {e : PEdge} (he : l[i]? = some e) (h : nameOk e.name.data.toList = true) (h1 : hasName e.name ((l.take i).map (·.name)) = true) : edgeE l i = 7 := by
 rw [edgeE, he]; simp only [h, h1]; rfl
theorem edge_line {l : List PEdge} {i : Nat} {e : PEdge} (he : l[i]? = some e) (h : nameOk e.name.data.toList = true) (h1 : hasName e.name ((l.take i).map (·.name)) = false) : edgeE l i = polylineE e.line := by
 rw [edgeE, he]; simp only [h, h1]; rfl
theorem hasName_yes {α : Type} {xs : List α} {f : α → ByteArray} {i j : Nat} {x y : α} (hj : j < i) (hy : xs[j]? = some y) (e : f y = f x) : hasName (f x) ((xs.take i).map f) = true := by
 unfold hasName
 rw [decide_eq_true_iff, List.map_map]
 refine List.mem_map.2 ⟨y, ?_, by simp [e]⟩
 exact List.mem_of_getElem? (i := j) (by rw [List.getElem?_take, if_pos hj]; exact hy)
theorem hasName_no {α : Type} {xs : List α} {f : α → ByteArray} {i : Nat} {s : ByteArray} (h : ∀ j y, j < i → xs[j]? = some y → f y ≠ s) : hasName s ((xs.take i).map f) = false := by
 unfold hasName
 rw [decide_eq_false_iff_not, List.map_map]
 intro hm
 obtain ⟨y, hy, e⟩ := List.mem_map.1 hm
 obtain ⟨j, hj⟩ := List.getElem?_of_mem hy
 rw [List.getElem?_take] at hj
 split at hj
 ·rename_i hlt
  refine h j y hlt hj ?_
  exact ByteArray.ext (Array.toList_inj.1 e)
 ·cases hj
theorem verts_take {l : List PEdge} {i : Nat} {e : PEdge} (h : l[i]? = some e) : verticesP (l.take (i + 1)) = verticesP (l.take i) ++ e.line.dropLast := by
 have hi := (List.getElem?_eq_some_iff.1 h).1
 have : l.take (i + 1) = l.take i ++ [e] := by
  rw [List.take_add_one, h]; rfl
 rw [this, verticesP, verticesP, List.flatMap_append]
 simp
end
section
section
variable {s : PStyle} {bs : List PBundle} {ws : List PWorker}
def runF (s : PStyle) (bs : List PBundle) (ws : List PWorker) : List PScan → List PScan → List PScan
 | paid, [] => paid
 | paid, x :: xs => runF s bs ws (if outcomeP s bs ws paid x = 1 then paid ++ [x] else paid) xs
def paidP (s : PStyle) (bs : List PBundle) (ws : List PWorker) (xs : List PScan) : List PScan := runF s bs ws [] xs
def openP (s : PStyle) (bs : List PBundle) (ws : List PWorker) (xs : List PScan) (t : Int) : List Int := ((List.range s.ops.length).map fun i : Nat => (i : Int)).filter fun op => !doneB (paidP s bs ws xs) t op
theorem judge_len : ∀ (paid xs : List PScan), (judgeF s bs ws paid xs).length = xs.length
 | _, [] => rfl
 | paid, x :: xs => by rw [judgeF, List.length_cons, judge_len, List.length_cons]
theorem judge_append : ∀ (paid xs ys : List PScan), judgeF s bs ws paid (xs ++ ys) = judgeF s bs ws paid xs ++ judgeF s bs ws (runF s bs ws paid xs) ys
 | _, [], _ => rfl
 | paid, x :: xs, ys => by
  rw [List.cons_append, judgeF, judgeF, judge_append _ xs ys, runF, List.cons_append]
theorem run_append : ∀ (paid xs ys : List PScan), runF s bs ws paid (xs ++ ys) = runF s bs ws (runF s bs ws paid xs) ys
 | _, [], _ => rfl
 | paid, x :: xs, ys => by rw [List.cons_append, runF, run_append _ xs ys, runF]
theorem judge_take (xs : List PScan) (k : Nat) : judgeP s bs ws (xs.take k) = (judgeP s bs ws xs).take k := by
 unfold judgeP
 rcases Nat.le_total k xs.length with hk | hk
 ·have h := judge_append (s := s) (bs := bs) (ws := ws) [] (xs.take k) (xs.drop k)
  rw [List.take_append_drop] at h
  have hl : (judgeF s bs ws [] (xs.take k)).length = k := by rw [judge_len, List.length_take]; omega
  rw [h, List.take_append_of_le_length (by omega)]
  exact (List.take_of_length_le (by omega)).symm
 ·rw [List.take_of_length_le hk, List.take_of_length_le (by rw [judge_len]; exact hk)]
theorem run_len : ∀ (paid xs : List PScan), (runF s bs ws paid xs).length ≤ paid.length + xs.length
 | paid, [] => by simp [runF]
 | paid, x :: xs => by
  rw [runF]
  refine Nat.le_trans (run_len _ xs) ?_
  split <;> simp <;> omega
theorem take_get {l : List PScan} {k : Nat} (hk : k < l.length) : l.take (k + 1) = l.take k ++ [l[k]] := by
 rw [List.take_add_one, List.getElem?_eq_getElem hk]
 rfl
def GoodL (s : PStyle) (bs : List PBundle) (ws : List PWorker) (l : List PScan) : Prop := ∀ (i : Nat) (x : PScan), l[i]? = some x → outcomeP s bs ws (l.take i) x = 1
theorem GoodL.nil : GoodL s bs ws [] := fun i x h => by simp at h
theorem outcome_one {paid : List PScan} {x : PScan} (h : outcomeP s bs ws paid x = 1) : (bs.any fun b => decide (b.ticket = x.ticket)) = true ∧ 0 ≤ x.op ∧ x.op < s.ops.length ∧ 0 ≤ x.worker ∧ x.worker < ws.length ∧ 0 ≤ x.at_ ∧ x.at_ ≤ 1073741824 ∧
  ∃ o w, s.ops[x.op.toNat]? = some o ∧ ws[x.worker.toNat]? = some w ∧ canB w o.machine = true ∧ doneB paid x.ticket x.op = false ∧ (o.after.all fun a => doneB paid x.ticket a) = true ∧ lastP paid x.ticket ≤ x.at_ := by
 unfold outcomeP at h
 split at h
 ·cases h
 ·rename_i h0
  simp only [not_or] at h0
  obtain ⟨a1, a2, a3, a4, a5, a6, a7⟩ := h0
  refine ⟨by simpa using a1, by omega, by omega, by omega, by omega, by omega, by omega, ?_⟩
  split at h
  ·rename_i o w ho hw
   refine ⟨o, w, ho, hw, ?_⟩
   split at h
   ·cases h
   ·rename_i b1
    split at h
    ·cases h
    ·rename_i b2
     split at h
     ·cases h
     ·rename_i b3
      split at h
      ·cases h
      ·rename_i b4
       exact ⟨by simpa using b1, by simpa using b2, by simpa using b3, by omega⟩
  ·cases h
theorem last_snoc (l : List PScan) (x : PScan) (t : Int) : lastP (l ++ [x]) t = if x.ticket = t then x.at_ else lastP l t := by
 unfold lastP
 rw [List.filter_append]
 by_cases h : x.ticket = t <;> simp [h]
end
end
section
section
variable {s : PStyle} {bs : List PBundle} {ws : List PWorker}
def isTO (t op : Int) (x : PScan) : Bool := decide (x.ticket = t) && decide (x.op = op)
theorem done_any (l : List PScan) (t op : Int) : doneB l t op = l.any (isTO t op) := rfl
theorem count_take : ∀ (k : Nat) {l : List PScan} (t op : Int), GoodL s bs ws l → k ≤ l.length → ((l.take k).filter (isTO t op)).length = if doneB (l.take k) t op = true then 1 else 0
 | 0, l, t, op, _, _ => by simp [doneB]
 | k + 1, l, t, op, h, hk => by
  have hi : k < l.length := by omega
  have hx := h k l[k] (List.getElem?_eq_getElem hi)
  obtain ⟨_, _, _, _, _, _, _, o, w, _, _, _, hd, _, _⟩ := outcome_one hx
  have ih := count_take k t op h (by omega)
  have hda : doneB (l.take k ++ [l[k]]) t op = (doneB (l.take k) t op || isTO t op l[k]) := by
   rw [done_any, done_any, List.any_append]
   simp only [List.any_cons, List.any_nil, Bool.or_false]
  rw [take_get hi, List.filter_append, List.length_append, ih, hda]
  by_cases hm : isTO t op l[k] = true
  ·have hm' := hm
   unfold isTO at hm'
   simp only [Bool.and_eq_true, decide_eq_true_eq] at hm'
   rw [hm'.1, hm'.2] at hd
   simp [hm, hd]
  ·have hm : isTO t op l[k] = false := by simpa using hm
   simp [hm]
theorem count_one {l : List PScan} (t op : Int) (h : GoodL s bs ws l) : (l.filter (isTO t op)).length = if doneB l t op = true then 1 else 0 := by
 have := count_take l.length t op h (Nat.le_refl _)
 rwa [List.take_length] at this
def OrdL (l : List POp) (done : List Nat) : Prop := ∀ (i x : Nat), done[i]? = some x → x < l.length ∧ x ∉ done.take i ∧ ∀ a ∈ (l.map (·.after)).getD x [], a.toNat ∈ done.take i
theorem OrdL.nil (l : List POp) : OrdL l [] := fun i x h => by simp at h
end
end
end Go.Proofs.YtiibocdmlfedkaaGreatDoor
