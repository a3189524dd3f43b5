/-
  Several texts in one: garmentref18.twice. Conditions: those of Check. garmentref18.Light: what it lets by is short. Conditions: none but that lengths are ints.
-/
import Derived.BigQuiet
import Derived.Deep.QuietTactic
import Derived.Test.YtjiccijfbpkliaaGreatDoorG22
import Derived.Test.YtjiccijfbpkliaaGreatDoorG24
import Derived.Test.YtjiccijfbpkliaaGreatDoorG25

/- garmentref18.twice. Conditions: those of Check. -/
namespace Go.Proofs.YtjiccijfbpkliaaGreatDoor
open Go.RowKit
open Go.Lib hiding intOf

theorem not_in_take {l : List ByteArray} {i : Nat} {x : ByteArray} (h : ∀ (j : Nat) (y : ByteArray), j < i → l[j]? = some y → y ≠ x) : x ∉ l.take i := by
  intro hm
  obtain ⟨j, hj⟩ := List.getElem?_of_mem hm
  rw [List.getElem?_take] at hj
  split at hj
  · exact h j x (by assumption) hj rfl
  · cases hj
theorem in_take {l : List ByteArray} {i j : Nat} {x : ByteArray} (hj : j < i) (h : l[j]? = some x) : x ∈ l.take i := by
  apply List.mem_of_getElem? (i := j)
  rw [List.getElem?_take, if_pos hj]
  exact h
/-- The first i elements are new, each, among those before it. -/
def newUp (l : List ByteArray) (i : Nat) : Prop := ∀ (j : Nat) (x : ByteArray), j < i → l[j]? = some x → x ∉ l.take j
theorem newUp_succ {l : List ByteArray} {i : Nat} {x : ByteArray} (h : newUp l i) (hx : l[i]? = some x) (hn : ∀ (j : Nat) (y : ByteArray), j < i → l[j]? = some y → y ≠ x) : newUp l (i + 1) := fun j y hj hy => by
  by_cases e : j = i
  · subst e
    rw [hx] at hy
    rw [← Option.some.inj hy]
    exact not_in_take hn
  · exact h j y (by omega) hy
theorem newUp_once {l : List ByteArray} {n : Nat} (hl : l.length = n) (h : newUp l n) : onceB l = true := onceB_iff.2 fun i x hx => h i x (by have := (List.getElem?_eq_some_iff.1 hx).1; omega) hx
theorem apart_succ {l : List ByteArray} {k : Nat} {x y : ByteArray} (h : ∀ (j : Nat) (y : ByteArray), j < k → l[j]? = some y → y ≠ x) (hy : l[k]? = some y) (hne : y ≠ x) : ∀ (j : Nat) (y : ByteArray), j < k + 1 → l[j]? = some y → y ≠ x := fun j z hj hz => by
  by_cases e : j = k
  · subst e
    rw [hy] at hz
    rw [← Option.some.inj hz]
    exact hne
  · exact h j z (by omega) hz
theorem RowsA.name_ {w : World} {A : Option Addr} {n k : Nat} {ch : PChart} (h : RowsA w A n k ch.rows) {j : Nat} (hj : j < n) : ∃ b off x, A = some ⟨b, off, none⟩ ∧ ch.names[j]? = some x ∧ w.cell? ⟨b, off + j * 5, none⟩ = some (.string x) := by
  obtain ⟨b, off, r, neg, B, m, c, C, l, d, S, sn, sc, e, hlt, hr, h0, h1, h2, h3, h4, h5, h6, h7⟩ := h.at_ hj
  exact ⟨b, off, r.name, e, name_at hr, h0⟩

set_option maxRecDepth 100000 in
set_option maxHeartbeats 6400000 in
theorem twice_any (S : Option Addr) (n c : Nat) (R : Option Addr) (m d k : Nat) (ch : PChart) (w : World) (h : ChkA w S n c R m d k ch) :
    Calls Tryz.prog 43 #[.agg #[.slice S n c, .int .i64 ch.base, .slice R m d]] w fun e w' => e = .returned (.bool (!(onceB ch.sizes && onceB ch.names))) ∧ Below w.heap.size w w' := by
  have hsl := h.slen
  have hrl := h.rlen
  have hB : Below w.heap.size w (w.alloc (.cells #[.slice S n c, .int .i64 ch.base, .slice R m d] 25)) := (Below.refl _ _).alloc (Nat.le_refl _) _
  have HB := Lib.hid hB
  have HA := Lib.hid (h.on hB)
  have n1 := h.len
  have m1 := h.lenr
  have HL : Hid (ch.sizes.length = n ∧ ch.names.length = m) := ⟨hsl, by rw [PChart.names, List.length_map]; exact hrl⟩
  clear hB h hsl hrl
  go_enter Tryz.func43, Tryz.ntmps43
  go_wp2
  obtain ⟨W0, hW0⟩ : ∃ W0, w.alloc (.cells #[.slice S n c, .int .i64 ch.base, .slice R m d] 25) = W0 := ⟨_, rfl⟩
  have X0 := Blk.new w 25 #[.slice S n c, .int .i64 ch.base, .slice R m d]
  rw [hW0] at HB HA X0 ⊢
  clear hW0
  obtain ⟨x0, x1, x2⟩ := three X0
  clear X0
  go_loopw [3, 4] (fun i _ wr => ∃ k q : Nat, k ≤ n ∧ i = .int .i64 (k : Int) ∧ Hid (newUp ch.sizes k) ∧ wr = W0.drewN q) (fun i _ _ => n - (intOf i).toNat)
  case atStart => exact ⟨0, 0, Nat.zero_le _, rfl, (fun j s h => by omega), rfl⟩
  case round =>
    obtain ⟨i, q, hi, rfl, hup, rfl⟩ := hrel
    by_cases hlt : i < n
    · obtain ⟨b, off, s, rfl, hbw, hs, hcs⟩ := HA.out.lies.1.str_ hlt
      have HS := Lib.hid hs
      have i1 : (0 : Int) ≤ (i : Int) := by omega
      have i2 : (i : Int) < (n : Int) := by omega
      clear hs
      go_wp2_with fail
      go_loopw [4] (fun k wr => ∃ k1 q1 : Nat, k1 ≤ i ∧ k = .int .i64 (k1 : Int) ∧ Hid (∀ (j : Nat) (y : ByteArray), j < k1 → ch.sizes[j]? = some y → y ≠ s) ∧ wr = W0.drewN q1) (fun k _ => i - (intOf k).toNat)
      case atStart => exact ⟨0, q, Nat.zero_le _, rfl, (fun j s h => by omega), rfl⟩
      case round =>
        obtain ⟨k1, q1, hk1, rfl, hap, rfl⟩ := hrel
        by_cases hlk : k1 < i
        · obtain ⟨b', off', t, hA', hbw', ht, hct⟩ := HA.out.lies.1.str_ (k := k1) (by omega)
          injection hA' with hA'
          injection hA' with e1 e2
          subst e1
          subst e2
          have HT := Lib.hid ht
          have j1 : (0 : Int) ≤ (k1 : Int) := by omega
          have j2 : (k1 : Int) < (n : Int) := by omega
          clear ht
          by_cases he : t = s
          · have hq : (t.toList == s.toList) = true := by rw [he]; simp
            have HE : Hid (onceB ch.sizes = false) := onceB_no HS.out (in_take hlk (by rw [← he]; exact HT.out))
            clear he
            go_wp2_with fail
            go_quiet (fail)
            go_wp2_with fail
            go_ret
            exact ⟨by rw [HE.out]; rfl, below_drewN (below_drewN HB.out _) _⟩
          · have hq := toList_ne he
            have HE := Lib.hid (apart_succ hap.out HT.out he)
            clear he
            go_wp2_with fail
            go_quiet (fail)
            go_wp2_with fail
            go_roundw
            case rel => exact ⟨k1 + 1, _, by omega, by go_num, HE, rfl⟩
            case measure => simp [intOf]; omega
        · obtain rfl : k1 = i := by omega
          have HE := Lib.hid (newUp_succ hup.out HS.out hap.out)
          go_wp2_with fail
          go_roundw
          case rel => exact ⟨k1 + 1, q1, by omega, by go_num, HE, rfl⟩
          case measure => simp [intOf]; omega
    · obtain rfl : n = i := by omega
      have HO := Lib.hid (newUp_once HL.out.1 hup.out)
      clear hup hi hlt
      go_wp2_with fail
      go_loopw [5, 6] (fun i _ wr => ∃ k q : Nat, k ≤ m ∧ i = .int .i64 (k : Int) ∧ Hid (newUp ch.names k) ∧ wr = W0.drewN q) (fun i _ _ => m - (intOf i).toNat)
      case atStart => exact ⟨0, q, Nat.zero_le _, rfl, (fun j s h => by omega), rfl⟩
      case round =>
        obtain ⟨i, q, hi, rfl, hup, rfl⟩ := hrel
        by_cases hlt : i < m
        · obtain ⟨b, off, s, rfl, hs, hcs⟩ := HA.out.lies.2.name_ hlt
          have HS := Lib.hid hs
          have i1 : (0 : Int) ≤ (i : Int) := by omega
          have i2 : (i : Int) < (m : Int) := by omega
          clear hs
          go_wp2_with fail
          go_loopw [6] (fun k wr => ∃ k1 q1 : Nat, k1 ≤ i ∧ k = .int .i64 (k1 : Int) ∧ Hid (∀ (j : Nat) (y : ByteArray), j < k1 → ch.names[j]? = some y → y ≠ s) ∧ wr = W0.drewN q1) (fun k _ => i - (intOf k).toNat)
          case atStart => exact ⟨0, q, Nat.zero_le _, rfl, (fun j s h => by omega), rfl⟩
          case round =>
            obtain ⟨k1, q1, hk1, rfl, hap, rfl⟩ := hrel
            by_cases hlk : k1 < i
            · obtain ⟨b', off', t, hA', ht, hct⟩ := HA.out.lies.2.name_ (j := k1) (by omega)
              injection hA' with hA'
              injection hA' with e1 e2
              subst e1
              subst e2
              have HT := Lib.hid ht
              have j1 : (0 : Int) ≤ (k1 : Int) := by omega
              have j2 : (k1 : Int) < (m : Int) := by omega
              clear ht
              by_cases he : t = s
              · have hq : (t.toList == s.toList) = true := by rw [he]; simp
                have HE : Hid (onceB ch.names = false) := onceB_no HS.out (in_take hlk (by rw [← he]; exact HT.out))
                clear he
                go_wp2_with fail
                go_quiet (fail)
                go_wp2_with fail
                go_ret
                exact ⟨by rw [HE.out, Bool.and_false]; rfl, below_drewN (below_drewN HB.out _) _⟩
              · have hq := toList_ne he
                have HE := Lib.hid (apart_succ hap.out HT.out he)
                clear he
                go_wp2_with fail
                go_quiet (fail)
                go_wp2_with fail
                go_roundw
                case rel => exact ⟨k1 + 1, _, by omega, by go_num, HE, rfl⟩
                case measure => simp [intOf]; omega
            · obtain rfl : k1 = i := by omega
              have HE := Lib.hid (newUp_succ hup.out HS.out hap.out)
              go_wp2_with fail
              go_roundw
              case rel => exact ⟨k1 + 1, q1, by omega, by go_num, HE, rfl⟩
              case measure => simp [intOf]; omega
        · obtain rfl : m = i := by omega
          have HO2 := Lib.hid (newUp_once HL.out.2 hup.out)
          clear hup hi hlt
          go_wp2_with fail
          go_ret
          exact ⟨by rw [HO.out, HO2.out]; rfl, below_drewN HB.out _⟩

/-- garmentref18.Check returns a chart's error. -/
theorem hcheck_any (S : Option Addr) (n c : Nat) (R : Option Addr) (m d k : Nat) (ch : PChart) (w : World) (h : ChkA w S n c R m d k ch) :
    Calls Tryz.prog 15 #[.agg #[.slice S n c, .int .i64 ch.base, .slice R m d]] w (RetE (chkP ch) w) := by
  have hsl := h.slen
  have hrl := h.rlen
  have hB : Below w.heap.size w (w.alloc (.cells #[.slice S n c, .int .i64 ch.base, .slice R m d] 25)) := (Below.refl _ _).alloc (Nat.le_refl _) _
  have HX := Lib.hid (Blk.new w 25 #[.slice S n c, .int .i64 ch.base, .slice R m d])
  have HB := Lib.hid hB
  have HI := fun W (hb : Below w.heap.size w W) => invalid_any S n c R m d k ch W (h.on hb)
  have HT := fun W (hb : Below w.heap.size w W) => twice_any S n c R m d k ch W (h.on hb)
  have n1 := h.len
  have m1 := h.lenr
  clear hB
  by_cases h1 : 12 < n ∨ 32 < m
  · have HE := Lib.hid (chk_long (c := ch) (by rw [hsl, hrl]; exact h1))
    clear h hsl hrl HI HT
    by_cases h2 : 12 < n
    · go_enter Tryz.func15, Tryz.ntmps15
      go_wp2
      go_ret
      exact ⟨by rw [HE.out]; rfl, HB.out⟩
    · have h3 : 32 < m := by omega
      clear h1
      go_enter Tryz.func15, Tryz.ntmps15
      go_wp2
      go_ret
      exact ⟨by rw [HE.out]; rfl, HB.out⟩
  have h12 : ¬ 12 < n := by omega
  have h32 : ¬ 32 < m := by omega
  have HLn : Hid (¬ (12 < ch.sizes.length ∨ 32 < ch.rows.length)) := by rw [Hid, hsl, hrl]; exact h1
  have HSL := Lib.hid hsl
  clear h1 h hsl hrl
  cases hr : ch.right
  · have HE := Lib.hid (chk_wrong HLn.out hr)
    simp only [hr] at HI
    have HI := Lib.hid HI
    clear hr HT
    go_enter Tryz.func15, Tryz.ntmps15
    go_wp2_with (go_at_call 42; go_must ((refine (HI.out _ HB.out).mono ?_); rintro e w1 ⟨rfl, hb1⟩))
    go_ret
    exact ⟨by rw [HE.out]; rfl, HB.out.trans (hb1.mono HB.out.size)⟩
  · simp only [hr] at HI
    have HI := Lib.hid HI
    have HR := Lib.hid hr
    clear hr
    cases ho : (onceB ch.sizes && onceB ch.names)
    · have HE : Hid (chkP ch = 7) := chk_twice HLn.out HR.out (by simpa using Bool.and_eq_false_iff.1 ho)
      simp only [ho] at HT
      have HT := Lib.hid HT
      clear ho
      go_enter Tryz.func15, Tryz.ntmps15
      go_wp2_with fail
      refine (HI.out _ HB.out).mono ?_
      rintro e w1 ⟨rfl, hb1⟩
      have B1 := HB.out.trans (hb1.mono HB.out.size)
      obtain ⟨x0, x1, x2⟩ := three (HX.out.below hb1)
      clear hb1
      go_wp2_with fail
      refine (HT.out _ B1).mono ?_
      rintro e w2 ⟨rfl, hb2⟩
      go_wp2_with fail
      go_ret
      exact ⟨by rw [HE.out]; rfl, B1.trans (hb2.mono B1.size)⟩
    · obtain ⟨o1, o2⟩ := Bool.and_eq_true_iff.1 ho
      simp only [ho] at HT
      have HT := Lib.hid HT
      have HO := Lib.hid (And.intro o1 o2)
      clear ho o1 o2
      have hidx := idx_iff (i := ch.base) HSL.out
      have hcase : (ch.base < 0 ∧ isIdx ch ch.base = false) ∨ (¬ ch.base < 0 ∧ (n : Int) ≤ ch.base ∧ isIdx ch ch.base = false) ∨ (¬ ch.base < 0 ∧ ¬ (n : Int) ≤ ch.base ∧ isIdx ch ch.base = true) := by
        rw [hidx]
        rcases Int.lt_or_le ch.base 0 with h | h
        · exact .inl ⟨h, by rw [Bool.and_eq_false_iff]; left; simp; omega⟩
        · rcases Int.lt_or_le ch.base (n : Int) with h' | h'
          · exact .inr (.inr ⟨by omega, by omega, by rw [Bool.and_eq_true_iff]; exact ⟨by simp; omega, by simp; omega⟩⟩)
          · exact .inr (.inl ⟨by omega, h', by rw [Bool.and_eq_false_iff]; right; simp; omega⟩)
      have HC : ∃ E, Hid (chkP ch = E) ∧ ((E = 3 ∧ (ch.base < 0 ∨ (¬ ch.base < 0 ∧ (n : Int) ≤ ch.base))) ∨ (E = 0 ∧ ¬ ch.base < 0 ∧ ¬ (n : Int) ≤ ch.base)) := by
        rcases hcase with ⟨h, h'⟩ | ⟨h, h2, h'⟩ | ⟨h, h2, h'⟩
        · exact ⟨3, chk_base HLn.out HR.out HO.out.1 HO.out.2 h', .inl ⟨rfl, .inl h⟩⟩
        · exact ⟨3, chk_base HLn.out HR.out HO.out.1 HO.out.2 h', .inl ⟨rfl, .inr ⟨h, h2⟩⟩⟩
        · exact ⟨0, chk_ok HLn.out HR.out HO.out.1 HO.out.2 h', .inr ⟨rfl, h, h2⟩⟩
      obtain ⟨E, HE, hE⟩ := HC
      clear hcase hidx
      go_enter Tryz.func15, Tryz.ntmps15
      go_wp2_with fail
      refine (HI.out _ HB.out).mono ?_
      rintro e w1 ⟨rfl, hb1⟩
      have B1 := HB.out.trans (hb1.mono HB.out.size)
      have X1 := HX.out.below hb1
      obtain ⟨x0, x1, x2⟩ := three X1
      clear hb1
      go_wp2_with fail
      refine (HT.out _ B1).mono ?_
      rintro e w2 ⟨rfl, hb2⟩
      obtain ⟨x0, x1, x2⟩ := three (X1.below hb2)
      have B2 := B1.trans (hb2.mono B1.size)
      clear X1 hb2 B1
      rcases hE with ⟨rfl, h | ⟨h, h2⟩⟩ | ⟨rfl, h, h2⟩
      all_goals
        go_wp2_with fail
        go_ret
        exact ⟨by rw [HE.out]; rfl, B2⟩
end Go.Proofs.YtjiccijfbpkliaaGreatDoor

/- garmentref18.Light: what it lets by is short. Conditions: none but that lengths are ints. -/
namespace Go.Proofs.YtjiccijfbpkliaaGreatDoor
open Go.RowKit
open Go.Lib hiding intOf

/-- A ratio's two numbers have at most j limbs. -/
def shortV (v : Value) (j : Nat) : Prop := ∀ b A n c B m d, v = .agg #[.bool b, .slice A n c, .slice B m d] → n ≤ j ∧ m ≤ j
theorem RatA.short {w : World} {v : Value} {k j : Nat} {q : Rat} (h : RatA w v k q) (hs : shortV v j) : RatA w v j q := by
  obtain ⟨neg, A, n, c, B, m, d, x, y, rfl, h1, h2, h3, h4, h5⟩ := h
  obtain ⟨e1, e2⟩ := hs _ _ _ _ _ _ _ rfl
  exact ⟨neg, A, n, c, B, m, d, x, y, rfl, h1, h2, e1, e2, h5⟩
theorem shortV_of {b : Bool} {A : Option Addr} {n c : Nat} {B : Option Addr} {m d j : Nat} (h1 : n ≤ j) (h2 : m ≤ j) : shortV (.agg #[.bool b, .slice A n c, .slice B m d]) j := by
  intro b' A' n' c' B' m' d' e
  injection e with e
  simp only [Array.mk.injEq, List.cons.injEq, Value.slice.injEq, Value.bool.injEq, and_true] at e
  obtain ⟨_, ⟨_, rfl, _⟩, _, rfl, _⟩ := e
  exact ⟨h1, h2⟩
theorem slight_any (neg : Bool) (A : Option Addr) (n c : Nat) (B : Option Addr) (m d j : Nat) (w : World) :
    Calls Tryz.prog 30 #[.agg #[.bool neg, .slice A n c, .slice B m d], .int .i64 (j : Int)] w fun e w' => e = .returned (.bool (decide (n ≤ j) && decide (m ≤ j))) ∧ Below w.heap.size w w' := by
  have HB : Hid (Below w.heap.size w (w.alloc (.cells #[.bool neg, .slice A n c, .slice B m d] 36))) := (Below.refl _ _).alloc (Nat.le_refl _) _
  by_cases e1 : n ≤ j
  · by_cases e2 : m ≤ j
    · go_enter Tryz.func30, Tryz.ntmps30
      go_wp2
      go_ret
      exact ⟨by simp [e1, e2], HB.out⟩
    · have HD : Hid ((decide (n ≤ j) && decide (m ≤ j)) = false) := by rw [Hid, Bool.and_eq_false_iff]; right; simpa using e2
      go_enter Tryz.func30, Tryz.ntmps30
      go_wp2
      go_ret
      exact ⟨by rw [HD.out]; rfl, HB.out⟩
  · have HD : Hid ((decide (n ≤ j) && decide (m ≤ j)) = false) := by rw [Hid, Bool.and_eq_false_iff]; left; simpa using e1
    go_enter Tryz.func30, Tryz.ntmps30
    go_wp2
    go_ret
    exact ⟨by rw [HD.out]; rfl, HB.out⟩

/-- Step t of a slice of steps is short. -/
def ShortStep (w : World) (S : Option Addr) (j t : Nat) : Prop := ∀ b off neg B m c C l d, S = some ⟨b, off, none⟩ → w.cell? ⟨b, off + t * 3, none⟩ = some (.bool neg) → w.cell? ⟨b, off + t * 3 + 1, none⟩ = some (.slice B m c) → w.cell? ⟨b, off + t * 3 + 2, none⟩ = some (.slice C l d) → m ≤ j ∧ l ≤ j
theorem RatsA.short {w : World} {A : Option Addr} {n k j : Nat} {qs : List Rat} (h : RatsA w A n k qs) (hs : ∀ t, t < n → ShortStep w A j t) : RatsA w A n j qs :=
  ⟨h.1, fun hn => by
    obtain ⟨b, off, e, hlt, hc⟩ := h.2 hn
    refine ⟨b, off, e, hlt, fun i q hq => ?_⟩
    obtain ⟨neg, B, m, c, C, l, d, h0, h1, h2, h3⟩ := hc i q hq
    have hi : i < n := by have := (List.getElem?_eq_some_iff.1 hq).1; rw [h.1] at this; exact this
    obtain ⟨s1, s2⟩ := hs i hi b off neg B m c C l d e h0 h1 h2
    exact ⟨neg, B, m, c, C, l, d, h0, h1, h2, h3.short (shortV_of s1 s2)⟩⟩
/-- Row i is short. -/
def ShortRow (w : World) (R : Option Addr) (j i : Nat) : Prop := ∀ b off neg B m c C l d S sn sc, R = some ⟨b, off, none⟩ → w.cell? ⟨b, off + i * 5 + 1, none⟩ = some (.bool neg) → w.cell? ⟨b, off + i * 5 + 2, none⟩ = some (.slice B m c) → w.cell? ⟨b, off + i * 5 + 3, none⟩ = some (.slice C l d) → w.cell? ⟨b, off + i * 5 + 4, none⟩ = some (.slice S sn sc) → (m ≤ j ∧ l ≤ j) ∧ sn ≤ 14 ∧ ∀ t, t < sn → ShortStep w S j t
theorem RowsA.short {w : World} {A : Option Addr} {n k j : Nat} {rs : List PRow} (h : RowsA w A n k rs) (hs : ∀ t, t < n → ShortRow w A j t) : RowsA w A n j rs ∧ ∀ (i : Nat) (r : PRow), rs[i]? = some r → r.steps.length ≤ 14 := by
  refine ⟨⟨h.1, fun hn => ?_⟩, fun i r hr => ?_⟩
  · obtain ⟨b, off, e, hlt, hc⟩ := h.2 hn
    refine ⟨b, off, e, hlt, fun i r hr => ?_⟩
    obtain ⟨neg, B, m, c, C, l, d, S, sn, sc, h0, h1, h2, h3, h4, h5, h6, h7⟩ := hc i r hr
    have hi : i < n := by have := (List.getElem?_eq_some_iff.1 hr).1; rw [h.1] at this; exact this
    obtain ⟨⟨s1, s2⟩, _, s3⟩ := hs i hi b off neg B m c C l d S sn sc e h1 h2 h3 h4
    exact ⟨neg, B, m, c, C, l, d, S, sn, sc, h0, h1, h2, h3, h4, h5.short (shortV_of s1 s2), h6.short s3, h7⟩
  · have hi : i < n := by have := (List.getElem?_eq_some_iff.1 hr).1; rw [h.1] at this; exact this
    obtain ⟨b, off, r', neg, B, m, c, C, l, d, S, sn, sc, e, hlt, hr', h0, h1, h2, h3, h4, h5, h6, h7⟩ := h.at_ hi
    rw [hr] at hr'
    obtain rfl := Option.some.inj hr'
    rw [h6.len]
    exact (hs i hi b off neg B m c C l d S sn sc e h1 h2 h3 h4).2.1

/-- A chart whatever its lengths. -/
structure LgtA (w : World) (S : Option Addr) (n c : Nat) (R : Option Addr) (m d k : Nat) (ch : PChart) : Prop where
  lies : ChartA w S n R m k ch
  cap : n ≤ c
  capr : m ≤ d
/-- What Light looks at. -/
def lgtP (R : Option Addr) (n m j : Nat) (ch : PChart) (w : World) : Prop :=
  n ≤ 14 ∧ m ≤ 34 ∧ (∀ (i : Nat) (s : ByteArray), ch.sizes[i]? = some s → s.size ≤ 100) ∧ ∀ t, t < m → ShortRow w R j t ∧ ∀ (r : PRow), ch.rows[t]? = some r → r.name.size ≤ 100
def RetLgt (S : Option Addr) (n c : Nat) (R : Option Addr) (m d j : Nat) (ch : PChart) (w : World) (e : Ending) (w' : World) : Prop :=
  ∃ bb, e = .returned (.bool bb) ∧ (bb = true → ChkA w S n c R m d j ch ∧ (∀ (i : Nat) (r : PRow), ch.rows[i]? = some r → r.steps.length ≤ 14) ∧ (∀ (i : Nat) (s : ByteArray), ch.sizes[i]? = some s → s.size ≤ 100) ∧ (∀ (i : Nat) (r : PRow), ch.rows[i]? = some r → r.name.size ≤ 100) ∧ n ≤ 14 ∧ m ≤ 34) ∧ (bb = true ↔ lgtP R n m j ch w) ∧ Below w.heap.size w w'
theorem RetLgt.no {S R : Option Addr} {n c m d j : Nat} {ch : PChart} {w w' : World} (h : ¬ lgtP R n m j ch w) (hb : Below w.heap.size w w') : RetLgt S n c R m d j ch w (.returned (.bool false)) w' :=
  ⟨false, rfl, (fun h => by cases h), ⟨(fun h => by cases h), fun h' => absurd h' h⟩, hb⟩
set_option maxRecDepth 100000 in
set_option maxHeartbeats 6400000 in
theorem light_any (S : Option Addr) (n c : Nat) (R : Option Addr) (m d k j : Nat) (ch : PChart) (w : World) (h : LgtA w S n c R m d k ch) (hj : 1 ≤ j) (hj2 : j ≤ 100) :
    Calls Tryz.prog 13 #[.agg #[.slice S n c, .int .i64 ch.base, .slice R m d], .int .i64 (j : Int)] w (RetLgt S n c R m d j ch w) := by
  have hB : Below w.heap.size w (w.alloc (.cells #[.slice S n c, .int .i64 ch.base, .slice R m d] 25)) := (Below.refl _ _).alloc (Nat.le_refl _) _
  have HX := Lib.hid (Blk.new w 25 #[.slice S n c, .int .i64 ch.base, .slice R m d])
  have HB := Lib.hid hB
  have HA := Lib.hid h
  have HA1 := Lib.hid (h.lies.on hB)
  clear hB h
  by_cases h14 : 14 < n
  · go_enter Tryz.func13, Tryz.ntmps13
    go_wp2
    go_ret
    exact RetLgt.no (fun h => by have := h.1; omega) (HB.out)
  by_cases h34 : 34 < m
  · go_enter Tryz.func13, Tryz.ntmps13
    go_wp2
    go_ret
    exact RetLgt.no (fun h => by have := h.2.1; omega) (HB.out)
  have n1 : n ≤ 14 := by omega
  have m1 : m ≤ 34 := by omega
  go_enter Tryz.func13, Tryz.ntmps13
  go_wp2
  go_loop [5] (fun i => ∃ k : Nat, k ≤ n ∧ i = .int .i64 (k : Int) ∧ Hid (∀ (j : Nat) (s : ByteArray), j < k → ch.sizes[j]? = some s → s.size ≤ 100)) (fun i => n - (intOf i).toNat)
  case atStart => exact ⟨0, Nat.zero_le _, rfl, fun j s h => by omega⟩
  case round =>
    obtain ⟨k1, hk, rfl, hall⟩ := hrel
    by_cases hlt : k1 < n
    · obtain ⟨b, off, s, rfl, hbw, hs, hcs⟩ := HA1.out.1.str_ hlt
      have HS := Lib.hid hs
      have i1 : (0 : Int) ≤ (k1 : Int) := by omega
      have i2 : (k1 : Int) < (n : Int) := by omega
      clear hs
      by_cases hz : 100 < s.size
      · go_wp2_with fail
        go_ret
        exact RetLgt.no (fun h => by have := h.2.2.1 k1 s HS.out; omega) (HB.out)
      · have HE : Hid (∀ (j : Nat) (s : ByteArray), j < k1 + 1 → ch.sizes[j]? = some s → s.size ≤ 100) := fun j s' hj hs' => by
          by_cases e : j = k1
          · subst e
            rw [HS.out] at hs'
            rw [← Option.some.inj hs']
            omega
          · exact hall.out j s' (by omega) hs'
        go_wp2_with fail
        go_round
        case rel => exact ⟨k1 + 1, by omega, by go_num, HE⟩
        case measure => simp [intOf]; omega
    · obtain rfl : n = k1 := by omega
      have HS1 : Hid (∀ (j : Nat) (s : ByteArray), ch.sizes[j]? = some s → s.size ≤ 100) := fun j s hs => hall.out j s (by have := (List.getElem?_eq_some_iff.1 hs).1; rw [HA1.out.1.slen] at this; exact this) hs
      clear hall hk hlt
      go_wp2_with fail
      go_loopw [6] (fun i wr => ∃ k : Nat, k ≤ m ∧ i = .int .i64 (k : Int) ∧ Hid (∀ t, t < k → ShortRow w R j t ∧ ∀ (r : PRow), ch.rows[t]? = some r → r.name.size ≤ 100) ∧ Below (w.alloc (.cells #[.slice S n c, .int .i64 ch.base, .slice R m d] 25)).heap.size (w.alloc (.cells #[.slice S n c, .int .i64 ch.base, .slice R m d] 25)) wr) (fun i _ => m - (intOf i).toNat)
      case atStart => exact ⟨0, Nat.zero_le _, rfl, (fun t h => by omega), Below.refl _ _⟩
      case round =>
        obtain ⟨k2, hk2, rfl, hall, hbel⟩ := hrel
        have hW := HB.out.trans (hbel.mono HB.out.size)
        obtain ⟨xx0, xx1, xx2⟩ := three (HX.out.below hbel)
        by_cases hlt : k2 < m
        · obtain ⟨b, off, r, neg, C, cm, cc, D, dl, dd, T, sn, sc, rfl, hbw, hr, f0, f1, f2, f3, f4, hq1, hq2, hq3⟩ := HA.out.lies.2.at_ hlt
          have g0 := (hW.cell (p := ⟨b, off + k2 * 5, none⟩) hbw).trans f0
          have g1 := (hW.cell (p := ⟨b, off + k2 * 5 + 1, none⟩) hbw).trans f1
          have g2 := (hW.cell (p := ⟨b, off + k2 * 5 + 2, none⟩) hbw).trans f2
          have g3 := (hW.cell (p := ⟨b, off + k2 * 5 + 3, none⟩) hbw).trans f3
          have g4 := (hW.cell (p := ⟨b, off + k2 * 5 + 4, none⟩) hbw).trans f4
          have HR := Lib.hid hr
          have HQ := Lib.hid hq2
          have HSR2 : Hid (ShortRow w (some ⟨b, off, none⟩) j k2 → (cm ≤ j ∧ dl ≤ j) ∧ sn ≤ 14 ∧ ∀ t, t < sn → ShortStep w T j t) := fun h => h b off neg C cm cc D dl dd T sn sc rfl f1 f2 f3 f4
          have HSR : Hid (cm ≤ j → dl ≤ j → sn ≤ 14 → (∀ t, t < sn → ShortStep w T j t) → ShortRow w (some ⟨b, off, none⟩) j k2) := by
            intro e1 e2 e3 e4 b' off' neg' B' m' c' C' l' d' S' sn' sc' e c1 c2 c3 c4
            injection e with e
            injection e with e5 e6
            subst e5
            subst e6
            rw [f2] at c2
            rw [f3] at c3
            rw [f4] at c4
            injection c2 with c2
            injection c2 with _ c2 _
            injection c3 with c3
            injection c3 with _ c3 _
            injection c4 with c4
            injection c4 with c4a c4 _
            subst c2
            subst c3
            subst c4
            subst c4a
            exact ⟨⟨e1, e2⟩, e3, e4⟩
          have i1 : (0 : Int) ≤ (k2 : Int) := by omega
          have i2 : (k2 : Int) < (m : Int) := by omega
          have X1 := (HX.out.below hbel).alloc (.cells #[.string r.name, .bool neg, .slice C cm cc, .slice D dl dd, .slice T sn sc] 57)
          have Y1 := Blk.new wr 57 #[.string r.name, .bool neg, .slice C cm cc, .slice D dl dd, .slice T sn sc]
          have HW := Lib.hid (Below.alo hbel (.cells #[.string r.name, .bool neg, .slice C cm cc, .slice D dl dd, .slice T sn sc] 57))
          have HW0 := Lib.hid (Below.alo hW (.cells #[.string r.name, .bool neg, .slice C cm cc, .slice D dl dd, .slice T sn sc] 57))
          clear hr hq1 hq2 f0 f1 f2 f3 f4
          by_cases hz : 100 < r.name.size
          · clear X1 Y1
            go_wp2_with fail
            go_ret
            exact RetLgt.no (fun h => by have := (h.2.2.2 k2 hlt).2 r HR.out; omega) (HW0.out)
          by_cases hs14 : 14 < sn
          · clear X1 Y1
            go_wp2_with fail
            go_ret
            exact RetLgt.no (fun h => by have := (HSR2.out (h.2.2.2 k2 hlt).1).2.1; omega) (HW0.out)
          have HLB := slight_any neg C cm cc D dl dd j (wr.alloc (.cells #[.string r.name, .bool neg, .slice C cm cc, .slice D dl dd, .slice T sn sc] 57))
          cases hlb : (decide (cm ≤ j) && decide (dl ≤ j))
          · rw [hlb] at HLB
            have HLB := Lib.hid HLB
            have HLF : Hid (¬ (cm ≤ j ∧ dl ≤ j)) := fun h => by rw [decide_eq_true h.1, decide_eq_true h.2] at hlb; cases hlb
            clear hlb X1 Y1
            go_wp2_with fail
            refine HLB.out.mono ?_
            rintro e w1 ⟨rfl, hb1⟩
            go_wp2_with fail
            go_ret
            exact RetLgt.no (fun h => by have := (HSR2.out (h.2.2.2 k2 hlt).1).1; exact HLF.out this) (HW0.out.trans (hb1.mono HW0.out.size))
          · rw [hlb] at HLB
            have HLB := Lib.hid HLB
            have HCD : Hid (cm ≤ j ∧ dl ≤ j) := by rw [Hid]; simpa using hlb
            have HX1 := Lib.hid X1
            have HY1 := Lib.hid Y1
            clear hlb X1 Y1
            go_wp2_with fail
            refine HLB.out.mono ?_
            rintro e w1 ⟨rfl, hb1⟩
            have HB1 := Lib.hid (HW.out.trans (hb1.mono HW.out.size))
            have HB10 := Lib.hid (HW0.out.trans (hb1.mono HW0.out.size))
            have HX2 := Lib.hid (HX1.out.below hb1)
            have HY2 := Lib.hid (HY1.out.below hb1)
            clear hb1 HLB xx0 xx1 xx2
            obtain ⟨wo, rfl⟩ : ∃ wo : World, wo = wr := ⟨_, rfl⟩
            go_wp2_with fail
            go_loopw [8] (fun i wr => ∃ t1 : Nat, t1 ≤ sn ∧ i = .int .i64 (t1 : Int) ∧ Hid (∀ t, t < t1 → ShortStep w T j t) ∧ Below w1.heap.size w1 wr) (fun i _ => sn - (intOf i).toNat)
            case atStart => exact ⟨0, Nat.zero_le _, rfl, (fun t h => by omega), Below.refl _ _⟩
            case round =>
              obtain ⟨t1, ht1, rfl, hst, hbl⟩ := hrel
              have y4 := (HY2.out.below hbl).c (i := 4) rfl
              have hW1 := HB10.out.trans (hbl.mono HB10.out.size)
              by_cases hlt1 : t1 < sn
              · obtain ⟨b2, off2, q, neg2, E, em, ec, F, fl, fd, rfl, hb2w, hq0, z0', z1', z2', hqa⟩ := HQ.out.at_ hlt1
                have z0 := (hW1.cell (p := ⟨b2, off2 + t1 * 3, none⟩) hb2w).trans z0'
                have z1 := (hW1.cell (p := ⟨b2, off2 + t1 * 3 + 1, none⟩) hb2w).trans z1'
                have z2 := (hW1.cell (p := ⟨b2, off2 + t1 * 3 + 2, none⟩) hb2w).trans z2'
                have HSS2 : Hid (ShortStep w (some ⟨b2, off2, none⟩) j t1 → em ≤ j ∧ fl ≤ j) := fun h => h b2 off2 neg2 E em ec F fl fd rfl z0' z1' z2'
                have HSS : Hid (em ≤ j → fl ≤ j → ShortStep w (some ⟨b2, off2, none⟩) j t1) := by
                  intro e1 e2 b' off' neg' B' m' c' C' l' d' e c0 c1 c2
                  injection e with e
                  injection e with e5 e6
                  subst e5
                  subst e6
                  rw [z1'] at c1
                  rw [z2'] at c2
                  injection c1 with c1
                  injection c1 with _ c1 _
                  injection c2 with c2
                  injection c2 with _ c2 _
                  subst c1
                  subst c2
                  exact ⟨e1, e2⟩
                have j1 : (0 : Int) ≤ (t1 : Int) := by omega
                have j2 : (t1 : Int) < (sn : Int) := by omega
                have HLS := slight_any neg2 E em ec F fl fd j wr
                have HWW := Lib.hid hW1
                clear hq0 hqa z0' z1' z2' hW1
                cases hlb : (decide (em ≤ j) && decide (fl ≤ j))
                · rw [hlb] at HLS
                  have HLS := Lib.hid HLS
                  have HLF : Hid (¬ (em ≤ j ∧ fl ≤ j)) := fun h => by rw [decide_eq_true h.1, decide_eq_true h.2] at hlb; cases hlb
                  clear hlb
                  go_wp2_with fail
                  refine HLS.out.mono ?_
                  rintro e w2 ⟨rfl, hb2⟩
                  go_wp2_with fail
                  go_ret
                  exact RetLgt.no (fun h => HLF.out (HSS2.out ((HSR2.out (h.2.2.2 k2 hlt).1).2.2 t1 hlt1))) (HWW.out.trans (hb2.mono HWW.out.size))
                · rw [hlb] at HLS
                  have HLS := Lib.hid HLS
                  have hef : em ≤ j ∧ fl ≤ j := by simpa using hlb
                  have HE : Hid (∀ t, t < t1 + 1 → ShortStep w (some ⟨b2, off2, none⟩) j t) := fun t ht => by
                    by_cases e : t = t1
                    · subst e
                      exact HSS.out hef.1 hef.2
                    · exact hst.out t (by omega)
                  clear hlb hef
                  go_wp2_with fail
                  refine HLS.out.mono ?_
                  rintro e w2 ⟨rfl, hb2⟩
                  go_wp2_with fail
                  go_roundw
                  case rel => exact ⟨t1 + 1, by omega, by go_num, HE, hbl.trans (hb2.mono hbl.size)⟩
                  case measure => simp [intOf]; omega
              · obtain rfl : t1 = sn := by omega
                have HE : Hid (∀ t, t < k2 + 1 → ShortRow w (some ⟨b, off, none⟩) j t ∧ ∀ (r : PRow), ch.rows[t]? = some r → r.name.size ≤ 100) := fun t ht => by
                  by_cases e : t = k2
                  · subst e
                    refine ⟨HSR.out HCD.out.1 HCD.out.2 (by omega) hst.out, fun r' hr' => ?_⟩
                    rw [HR.out] at hr'
                    rw [← Option.some.inj hr']
                    omega
                  · exact hall.out t (by omega)
                have HBB := Lib.hid (HB1.out.trans (hbl.mono HB1.out.size))
                clear hW1 hst
                go_wp2_with fail
                go_roundw
                case rel => exact ⟨k2 + 1, by omega, by go_num, HE, HBB.out⟩
                case measure => simp [intOf]; omega
        · obtain rfl : m = k2 := by omega
          have HF : Hid (ChkA w S n c R m d j ch ∧ (∀ (i : Nat) (r : PRow), ch.rows[i]? = some r → r.steps.length ≤ 14) ∧ (∀ (i : Nat) (s : ByteArray), ch.sizes[i]? = some s → s.size ≤ 100) ∧ (∀ (i : Nat) (r : PRow), ch.rows[i]? = some r → r.name.size ≤ 100) ∧ n ≤ 14 ∧ m ≤ 34) := by
            have hl := HA.out.lies
            obtain ⟨q1, q2⟩ := hl.2.short fun t ht => (hall.out t ht).1
            have q3 : ∀ (i : Nat) (r : PRow), ch.rows[i]? = some r → r.name.size ≤ 100 := fun i r hr => (hall.out i (by have := (List.getElem?_eq_some_iff.1 hr).1; rw [hl.2.len] at this; exact this)).2 r hr
            exact ⟨⟨⟨hl.1, q1⟩, HA.out.cap, HA.out.capr, by omega, by omega, hj, by omega, fun i s hs => Nat.le_trans (HS1.out i s hs) (by omega), fun i r hr => Nat.le_trans (q3 i r hr) (by omega)⟩, q2, HS1.out, q3, n1, m1⟩
          have HW := Lib.hid hW
          have HPP : Hid (lgtP R n m j ch w) := ⟨HF.out.2.2.2.2.1, HF.out.2.2.2.2.2, HS1.out, hall.out⟩
          clear hall hk2 hW hbel hlt
          go_wp2_with fail
          go_ret
          exact ⟨true, rfl, fun _ => HF.out, ⟨fun _ => HPP.out, fun _ => rfl⟩, HW.out⟩
open Classical in
/-- Light's answer is settled by what lies in memory. -/
theorem light_det (S : Option Addr) (n c : Nat) (R : Option Addr) (m d k j : Nat) (ch : PChart) (w : World) (h : LgtA w S n c R m d k ch) (hj : 1 ≤ j) (hj2 : j ≤ 100) (b : Bool) (hb : b = true ↔ lgtP R n m j ch w) :
    Calls Tryz.prog 13 #[.agg #[.slice S n c, .int .i64 ch.base, .slice R m d], .int .i64 (j : Int)] w fun e w' => e = .returned (.bool b) ∧ (b = true → ChkA w S n c R m d j ch ∧ (∀ (i : Nat) (r : PRow), ch.rows[i]? = some r → r.steps.length ≤ 14)) ∧ Below w.heap.size w w' := by
  refine (light_any S n c R m d k j ch w h hj hj2).mono ?_
  rintro e w' ⟨bb, rfl, h1, h2, h3⟩
  obtain rfl : b = bb := by
    cases b <;> cases bb
    · rfl
    · exact absurd (hb.2 (h2.1 rfl)) (by simp)
    · exact absurd (h2.2 (hb.1 rfl)) (by simp)
    · rfl
  exact ⟨rfl, fun e => ⟨(h1 e).1, (h1 e).2.1⟩, h3⟩
end Go.Proofs.YtjiccijfbpkliaaGreatDoor
