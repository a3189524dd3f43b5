/-
  Several texts in one: garmentref01.limb, Norm, Of. Conditions: slices of at most 1,000,000 limbs. garmentref01.Cmp, Sub, Add, Half. Conditions: slices of at most 1,000,000 limbs. garmentref01.Bits, Shift. Conditions: slices of at most 1,000,000 limbs; shifts of at most 10,000,000.
-/
import Derived.Test.YtjiccijfbpkliaaGreatDoorG03
import Derived.Test.YtjiccijfbpkliaaGreatDoorG13

/- garmentref01.limb, Norm, Of. Conditions: slices of at most 1,000,000 limbs. -/
namespace Go.Proofs.YtjiccijfbpkliaaGreatDoor
open Go.RowKit

/-- append of one limb to a row of the call's own. -/
theorem app_u32 {w : World} {ops : Array Oper} {rest : List Oper} {o : Oper} {a : Act} {Q : Exit → Act → World → Prop} (hgd : o.guard = none) (s x : Operand)
    (ho : o.op = Op.call { callee := Callee.builtin Builtin.append, args := #[s, x], argTypes := #[32, 32] })
    (base k : Nat) (l : List Nat) (v : Value) (hs : a.eval s = v) (hown : w.ownsRow base 117 1 v k (u32s l))
    (ad : Addr) (hx : a.eval x = .slice (some ad) 1 1) (u : Int) (hc : w.cell? ad = some (.int .u32 u)) (t : Nat) (hu : u = (t : Int)) (hk : k ≤ 10000000) (hbase : base ≤ w.heap.size)
    (h : ∀ g cap w', w'.ownsRow base 117 1 (.slice (some ⟨g, 0, none⟩) (k + 1) cap) (k + 1) (u32s (l ++ [t])) → w.grownBy w' v.ownBlock → wpList Tryz.prog ops Q rest (a.put o.dst (.slice (some ⟨g, 0, none⟩) (k + 1) cap)) w') :
    wpList Tryz.prog ops Q (o :: rest) a w := by
  subst hu
  obtain ⟨i0, hi, hz0, hz1, hz2⟩ := info_parts u32_info
  refine wpList_append_lies _ hgd s x _ ho base 117 i0 _ 1 4 Tryz.underlying32 hi hz0 hz1 hz2 rfl (by omega) v k (u32s l) hs hown ad 1 1 [.int .u32 (t : Int)] hx rfl ?_ ?_ (by omega) (by unfold maxLen; omega) (by omega) hbase w.heap.size rfl ?_
  · intro j u hu
    cases j with
    | zero =>
      obtain rfl : Value.int .u32 (t : Int) = u := by simpa using hu
      have e : ad.add 0 = ad := by simp [Addr.add]
      rw [e]
      exact hc
    | succ j => simp at hu
  · intro u hu
    obtain rfl : u = .int .u32 (t : Int) := by simpa using hu
    rfl
  · intro g cap w' h1 h2 _ _
    refine h g cap w' ?_ h2
    rw [u32s_snoc]
    exact h1
/-- The world goes on being as it was below the row's base. -/
theorem app_below {B : Nat} {w wr w1 : World} {v : Value} {k : Nat} {xs : List Value} {T : Obj} (hbel : Below B w wr) (hB : B ≤ wr.heap.size) (hown : wr.ownsRow B 117 1 v k xs) (hg : (wr.alloc T).grownBy w1 v.ownBlock) : Below B w w1 :=
  (hbel.alloc hB _).grown hg (Nat.le_trans hB (by simp)) (fun _ e => own_ge hown e)

theorem limb_any (A : Option Addr) (n c k : Nat) (l : List Nat) (w : World) {B : Nat} (ha : Sl w B A n (u32s l)) (ho : okL l) :
    Calls Tryz.prog 127 #[.slice A n c, .int .i64 (k : Int)] w fun e w' => e = .returned (.int .u64 ((l.getD k 0 : Nat) : Int)) ∧ w = w' := by
  by_cases hk : k < n
  · obtain ⟨b, off, x, rfl, hb, hx, hc⟩ := ha.limb_ hk
    have HX := Lib.hid (getD_some hx)
    have hxb := okL_at ho hx
    rw [bs_eq] at hxb
    clear ha hx ho
    have hd : ¬ (n ≤ k) := by omega
    go_enter Tryz.func127, Tryz.ntmps127
    go_wp2
    go_ret
    exact ⟨by rw [HX.out]; rfl, rfl⟩
  · have HX := Lib.hid (getD_over (l := l) (k := k) (by rw [ha.ulen]; omega))
    clear ha
    have hd : n ≤ k := by omega
    go_enter Tryz.func127, Tryz.ntmps127
    go_wp2
    go_ret
    exact ⟨by rw [HX.out]; rfl, rfl⟩

theorem run_app_empty (W : World) (ty : TypeId) (A : Option Addr) (c : Nat) : (Builtin.append_ #[32, 32] ty #[.slice none 0 0, .slice A 0 c]).run Tryz.prog W = .ok (.slice none 0 0) W := by
  obtain ⟨i0, hi, hz0, hz1, hz2⟩ := info_parts u32_info
  cases A with
  | none => simp [Builtin.append_, run_underlying (P := Tryz.prog) Tryz.underlying32, sizeOf, typeInfo, hi, Builtin.lenOf, Builtin.firstCells]
  | some ad =>
    have hl := run_loadCells_list (P := Tryz.prog) W ad [] (by simp)
    simp only [List.length_nil] at hl
    simp [Builtin.append_, run_underlying (P := Tryz.prog) Tryz.underlying32, sizeOf, typeInfo, hi, Builtin.lenOf, Builtin.firstCells, hl]
/-- append of nothing to nil. -/
theorem app_empty {w : World} {ops : Array Oper} {rest : List Oper} {o : Oper} {a : Act} {Q : Exit → Act → World → Prop} (hgd : o.guard = none) (s x : Operand)
    (ho : o.op = Op.call { callee := Callee.builtin Builtin.append, args := #[s, x], argTypes := #[32, 32] }) (hs : a.eval s = .slice none 0 0) (A : Option Addr) (c : Nat) (hx : a.eval x = .slice A 0 c)
    (h : wpList Tryz.prog ops Q rest (a.put o.dst (.slice none 0 0)) w) : wpList Tryz.prog ops Q (o :: rest) a w := by
  refine wpList_plain hgd fun K hK => ?_
  have hrun := run_app_empty w o.type A c
  unfold Oper.wp
  simp [execOp, ho, resolve, invoke, builtin, hs, hx, hrun, Result.andThen]
  exact hK _ _ h
/-- append of a slice of limbs to nil. -/
theorem app_all {w : World} {ops : Array Oper} {rest : List Oper} {o : Oper} {a : Act} {Q : Exit → Act → World → Prop} (hgd : o.guard = none) (s x : Operand)
    (ho : o.op = Op.call { callee := Callee.builtin Builtin.append, args := #[s, x], argTypes := #[32, 32] }) (hs : a.eval s = .slice none 0 0) (A : Option Addr) (k c : Nat) (hx : a.eval x = .slice A k c)
    (l : List Nat) (hsl : Sl w w.heap.size A k (u32s l)) (hk : k ≤ 10000000)
    (h : ∀ A' c' w', Sl w' w'.heap.size A' k (u32s l) → k ≤ c' → Fresh w.heap.size A' → Below w.heap.size w w' → wpList Tryz.prog ops Q rest (a.put o.dst (.slice A' k c')) w') : wpList Tryz.prog ops Q (o :: rest) a w := by
  rcases Nat.eq_zero_or_pos k with h0 | h0
  · subst h0
    have hl : l = [] := List.eq_nil_of_length_eq_zero hsl.ulen
    subst hl
    exact app_empty hgd s x ho hs A c hx (h none 0 w Sl.none_ (Nat.le_refl _) (fun a e => by cases e) (Below.refl _ _))
  · obtain ⟨i0, hi, hz0, hz1, hz2⟩ := info_parts u32_info
    obtain ⟨b, off, rfl, hb, hc⟩ := hsl.2 h0
    refine wpList_append_lies _ hgd s x _ ho w.heap.size 117 i0 _ 1 4 Tryz.underlying32 hi hz0 hz1 hz2 rfl (by omega) _ 0 [] hs ⟨rfl, .inl ⟨rfl, rfl⟩⟩ ⟨b, off, none⟩ k c (u32s l) hx (by rw [hsl.1]; omega) ?_ (u32s_one l) h0 (by unfold maxLen; omega) (by omega) (Nat.le_refl _) w.heap.size rfl ?_
    · intro j u hu
      rw [Go.WideShapes.add_plain]
      exact hc j u hu
    · intro g cap w' h1 h2 _ _
      rw [Nat.zero_add] at h1 ⊢
      rw [List.nil_append] at h1
      have hg : w.heap.size ≤ g := own_ge h1 (k := g) rfl
      refine h _ cap w' (Sl.of_own h1) ?_ (fun a e => by obtain rfl := Option.some.inj e; exact hg) ((Below.refl _ _).grown h2 (Nat.le_refl _) (fun _ e => by cases e))
      rcases h1.2 with ⟨hv, _⟩ | ⟨g', cap', cur, hv, _, _, hnc, _⟩
      · cases hv
      · injection hv with _ _ h3
        omega

/-- The limbs of a number come back, in memory of the call's own. -/
def RetF (v : Nat) (w : World) (e : Ending) (w' : World) : Prop :=
  ∃ A n c, e = .returned (.slice A n c) ∧ Sl w' w'.heap.size A n (u32s (limbs v)) ∧ n ≤ c ∧ Fresh w.heap.size A ∧ Below w.heap.size w w'
theorem Fresh.mono {B B' : Nat} {A : Option Addr} (h : Fresh B A) (hB : B' ≤ B) : Fresh B' A := fun a e => Nat.le_trans hB (h a e)
set_option maxRecDepth 100000 in
set_option maxHeartbeats 800000 in
theorem rf_norm (A : Option Addr) (n c v : Nat) (w : World) (ha : NatA w A n c v) (hn : n ≤ 4000000) :
    Calls Tryz.prog 77 #[.slice A n c] w (RetF v w) := by
  obtain ⟨l, ha, ho, rfl, hcap⟩ := ha
  have HX := Lib.hid ha.ulen
  have HT := Lib.hid (ha.trimmed ho)
  have HO := Lib.hid ho; clear ho
  go_enter Tryz.func77, Tryz.ntmps77
  go_wp2
  go_loop [3] (fun i => ∃ k : Nat, k ≤ n ∧ i = .int .i64 k ∧ Hid (∀ j x, k ≤ j → l[j]? = some x → x = 0)) (fun i => (intOf i).toNat)
  case atStart => exact ⟨n, Nat.le_refl _, rfl, fun j x hj hx => by have := (List.getElem?_eq_some_iff.1 hx).1; rw [HX.out] at this; omega⟩
  case round =>
    obtain ⟨k, hk, rfl, hz⟩ := hrel
    by_cases hk0 : k = 0
    · subst hk0
      have HE := limbs_trim HO.out (Nat.zero_le _) hz.out (.inl rfl)
      have HN : Hid ((limbs (val l)).length = 0) := by rw [Hid, HE]; simp
      clear ha HE
      go_wp2_with (at_builtin; refine app_all rfl (.tmp 19) (.tmp 22) rfl rfl A 0 c rfl (limbs (val l)) (by rw [← HN.out]; exact HT.out.2) (by omega) ?_; intro A' c' w1 hs1 hc1 hf1 hb1)
      go_ret
      exact ⟨_, _, _, rfl, hs1, hc1, hf1, hb1⟩
    · obtain ⟨m, rfl⟩ : ∃ m, k = m + 1 := ⟨k - 1, by omega⟩
      obtain ⟨b, off, x, rfl, hbl, hx, hcx⟩ := ha.limb_ (k := m) (by omega)
      have HA := Lib.hid hx; clear hx ha
      by_cases hx0 : x = 0
      · subst hx0
        have HZ : Hid (∀ j x, m ≤ j → l[j]? = some x → x = 0) := fun j x hj hx => by
          by_cases hjm : j = m
          · subst hjm
            rw [HA.out] at hx
            exact (Option.some.inj hx).symm
          · exact hz.out j x (by omega) hx
        go_wp2
        go_round
        case rel => exact ⟨m, by omega, by go_num, HZ⟩
        case measure => simp [intOf]
      · have hx1 : ((x : Int) == 0) = false := by simp; omega
        have HE := limbs_trim HO.out (by rw [HX.out]; omega) hz.out (.inr ⟨x, HA.out, hx0⟩)
        have HN : Hid ((limbs (val l)).length = m + 1) := by rw [Hid, HE, List.length_take, HX.out]; omega
        clear hx0 HE
        go_wp2_with (at_builtin; refine app_all rfl (.tmp 19) (.tmp 22) rfl rfl _ (m + 1) c rfl (limbs (val l)) (by rw [← HN.out]; exact HT.out.2) (by omega) ?_; intro A' c' w1 hs1 hc1 hf1 hb1)
        go_ret
        exact ⟨_, _, _, rfl, hs1, hc1, hf1, hb1⟩

/-- What Of's loop keeps. -/
def ofRel (n : Nat) (w : World) (v0 v3 : Value) (wr : World) : Prop :=
  ∃ (x k : Nat) (l : List Nat), v0 = .int .u64 (x : Int) ∧ x ≤ n ∧ k ≤ 1000 ∧ wr.ownsRow w.heap.size 117 1 v3 k (u32s l) ∧ Hid (limbs n = l ++ limbs x ∧ l.length + (limbs x).length ≤ 1000) ∧ Below w.heap.size w wr
set_option maxRecDepth 100000 in
set_option maxHeartbeats 800000 in
theorem rf_of (n : Nat) (w : World) (hn : n < 18446744073709551616) :
    Calls Tryz.prog 85 #[.int .u64 (n : Int)] w (RetN n w) := by
  go_enter Tryz.func85, Tryz.ntmps85
  go_wp2
  go_loopw [0, 3] (fun v0 v3 wr => ofRel n w v0 v3 wr) (fun v0 _ _ => (intOf v0).toNat)
  case atStart => exact ⟨n, 0, [], rfl, Nat.le_refl _, by omega, ⟨rfl, .inl ⟨rfl, rfl⟩⟩, ⟨rfl, by have := nl_le (v := n) (k := 2) (by simp only [bs]; omega); unfold nl at this; simp; omega⟩, Below.refl _ _⟩
  case round =>
    obtain ⟨x, k, l, rfl, hx, hk, hown, hl, hbel⟩ := hrel
    have hN := hbel.size
    by_cases h0 : x = 0
    · subst h0
      have HR := Lib.hid hown
      have he := hl.out.1
      rw [limbs_zero, List.append_nil] at he
      obtain ⟨A', c', rfl⟩ := own_form hown
      have hcap : k ≤ c' := by
        rcases hown.2 with ⟨hv, rfl⟩ | ⟨g', cap', cur, hv, _, _, hnc, _⟩
        · omega
        · injection hv with _ _ h3
          omega
      clear hown
      go_wp2
      go_ret
      exact ⟨_, _, _, rfl, by rw [he]; exact Sl.of_own HR.out, hcap, hbel⟩
    · have hp : 0 < x := by omega
      have HL : Hid (limbs n = (l ++ [x % 4294967296]) ++ limbs (x / 4294967296) ∧ (l ++ [x % 4294967296]).length + (limbs (x / 4294967296)).length ≤ 1000) := by
        have h := hl.out
        rw [limbs_pos h0] at h
        refine ⟨by rw [h.1, List.append_assoc]; rfl, ?_⟩
        have := h.2
        rw [List.length_cons] at this
        rw [List.length_append, List.length_singleton]
        show _ + (limbs (x / bs)).length ≤ _
        omega
      have hk1 : k + 1 ≤ 1000 := by
        have h1 := HL.out.2
        have h2 : l.length = k := by have := hown.1; rw [u32s_len] at this; omega
        rw [List.length_append, List.length_singleton] at h1
        omega
      clear h0
      go_wp2_with (at_builtin; refine app_u32 rfl (.tmp 6) (.tmp 10) rfl w.heap.size k l _ rfl (hown.alloc _) ⟨wr.heap.size, 0, none⟩ rfl _ (cell_one _ _ _) (x % 4294967296) (by omega) (by omega) (by simp; omega) ?_; intro g cap w1 hown1 hgr1)
      go_roundw
      case rel => exact ⟨x / 4294967296, k + 1, l ++ [x % 4294967296], by go_num, by omega, hk1, hown1, HL.out, app_below hbel hN hown hgr1⟩
      case measure => simp [intOf]; omega
end Go.Proofs.YtjiccijfbpkliaaGreatDoor

/- garmentref01.Cmp, Sub, Add, Half. Conditions: slices of at most 1,000,000 limbs. -/
namespace Go.Proofs.YtjiccijfbpkliaaGreatDoor
open Go.RowKit

theorem cmp_of_lt {a b : List Nat} {i : Nat} (ha : okL a) (h : eqFrom a b (i + 1)) (hlt : a.getD i 0 < b.getD i 0) : cmpN (val a) (val b) = -1 := cmpN_lt (eqFrom_lt ha h hlt)
theorem cmp_of_gt {a b : List Nat} {i : Nat} (hb : okL b) (h : eqFrom a b (i + 1)) (hlt : b.getD i 0 < a.getD i 0) : cmpN (val a) (val b) = 1 := cmpN_gt (eqFrom_lt hb (eqFrom_symm h) hlt)
theorem max_int (n m : Nat) : (if (n : Int) < (m : Int) then (m : Int) else (n : Int)) = ((max n m : Nat) : Int) := by
  split <;> omega

set_option maxRecDepth 100000 in
set_option maxHeartbeats 800000 in
theorem rf_cmp (A B : Option Addr) (n m c d x y : Nat) (w : World) (ha : NatA w A n c x) (hb : NatA w B m d y) (hn : n ≤ 4000000) (hm : m ≤ 4000000) :
    Calls Tryz.prog 95 #[.slice A n c, .slice B m d] w fun e w' => e = .returned (.int .i64 (cmpN x y)) ∧ w = w' := by
  obtain ⟨l, ha, ho, rfl, _⟩ := ha
  obtain ⟨l2, hb, ho2, rfl, _⟩ := hb
  have HL := Lib.hid (fun k => limb_any A n c k l w ha ho)
  have HL2 := Lib.hid (fun k => limb_any B m d k l2 w hb ho2)
  have HT : Hid (eqFrom l l2 (max n m)) := eqFrom_top (by rw [ha.ulen]; omega) (by rw [hb.ulen]; omega)
  have HO := Lib.hid (And.intro ho ho2)
  clear ha hb ho ho2
  go_enter Tryz.func95, Tryz.ntmps95
  go_wp2
  all_goals
    go_loop [5] (fun i => ∃ j : Nat, j ≤ max n m ∧ i = .int .i64 ((j : Int) - 1) ∧ Hid (eqFrom l l2 j)) (fun i => (intOf i + 1).toNat)
    case atStart => exact ⟨max n m, Nat.le_refl _, congrArg (Value.int .i64) (by omega), HT⟩
    case round =>
      obtain ⟨j, hj, rfl, hq⟩ := hrel
      by_cases h0 : j = 0
      · subst h0
        have HE := Lib.hid (cmpN_eq (eqFrom_zero hq.out))
        go_wp2
        go_ret
        exact ⟨by rw [HE.out]; rfl, rfl⟩
      · obtain ⟨i, rfl⟩ : ∃ i, j = i + 1 := ⟨j - 1, by omega⟩
        have h1 := HL.out i
        have h2 := HL2.out i
        obtain ⟨X, hX⟩ : ∃ X, l.getD i 0 = X := ⟨_, rfl⟩
        obtain ⟨Y, hY⟩ : ∃ Y, l2.getD i 0 = Y := ⟨_, rfl⟩
        rw [hX] at h1
        rw [hY] at h2
        have H1 := Lib.hid h1
        have H2 := Lib.hid h2
        have HXY := Lib.hid (And.intro hX hY)
        clear h1 h2 hX hY h0
        rcases Nat.lt_trichotomy X Y with hlt | heq | hgt
        · have HE := Lib.hid (cmp_of_lt HO.out.1 hq.out (by rw [HXY.out.1, HXY.out.2]; exact hlt))
          go_wp2_with (first
            | (go_at_call_of 127 (Value.slice A n c); go_must ((refine H1.out.mono ?_); rintro e w' ⟨rfl, rfl⟩))
            | (go_at_call_of 127 (Value.slice B m d); go_must ((refine H2.out.mono ?_); rintro e w' ⟨rfl, rfl⟩)))
          go_ret
          exact ⟨by rw [HE.out]; rfl, rfl⟩
        · subst heq
          have HE : Hid (eqFrom l l2 i) := eqFrom_step hq.out (by rw [HXY.out.1, HXY.out.2])
          go_wp2_with (first
            | (go_at_call_of 127 (Value.slice A n c); go_must ((refine H1.out.mono ?_); rintro e w' ⟨rfl, rfl⟩))
            | (go_at_call_of 127 (Value.slice B m d); go_must ((refine H2.out.mono ?_); rintro e w' ⟨rfl, rfl⟩)))
          go_round
          case rel => exact ⟨i, by omega, rfl, HE⟩
          case measure => simp [intOf]
        · have HE := Lib.hid (cmp_of_gt HO.out.2 hq.out (by rw [HXY.out.1, HXY.out.2]; exact hgt))
          have hge : ¬ X < Y := by omega
          go_wp2_with (first
            | (go_at_call_of 127 (Value.slice A n c); go_must ((refine H1.out.mono ?_); rintro e w' ⟨rfl, rfl⟩))
            | (go_at_call_of 127 (Value.slice B m d); go_must ((refine H2.out.mono ?_); rintro e w' ⟨rfl, rfl⟩)))
          go_ret
          exact ⟨by rw [HE.out]; rfl, rfl⟩

theorem own_cap {w : World} {base : Nat} {e : TypeId} {A : Option Addr} {k c : Nat} {xs : List Value} (h : w.ownsRow base e 1 (.slice A k c) k xs) : k ≤ c := by
  rcases h.2 with ⟨hv, rfl⟩ | ⟨g', cap', cur, hv, _, _, hnc, _⟩
  · omega
  · injection hv with _ _ h3
    omega

theorem NatA.mk {w : World} {A : Option Addr} {n c v : Nat} {l : List Nat} (h : Sl w w.heap.size A n (u32s l)) (ho : okL l) (hv : val l = v) (hc : n ≤ c) : NatA w A n c v := ⟨l, h, ho, hv, hc⟩

/-- .. and true beside it. -/
def RetFT (v : Nat) (w : World) (e : Ending) (w' : World) : Prop :=
  ∃ A n c, e = .returned (.tuple #[.slice A n c, .bool true]) ∧ Sl w' w'.heap.size A n (u32s (limbs v)) ∧ n ≤ c ∧ Fresh w.heap.size A ∧ Below w.heap.size w w'

/-! ### subtracting -/
def rsRel (N : Nat) (X Y : List Nat) (w : World) (v cr i : Value) (wr : World) : Prop :=
  ∃ (k cy : Nat) (o : List Nat), k ≤ N ∧ cy ≤ 1 ∧ i = .int .i64 (k : Int) ∧ cr = .int .u64 (cy : Int) ∧ wr.ownsRow w.heap.size 117 1 v k (u32s o) ∧ Hid (subInv X Y o k cy) ∧ Below w.heap.size w wr
theorem rs_word (u v cy : Nat) (hu : u < 4294967296) (hv : v < 4294967296) (hcy : cy ≤ 1) :
    ∃ t d c' : Nat, (t : Int) = 4294967296 + (u : Int) - (v : Int) - (cy : Int) ∧ t < 8589934592 ∧ t % 4294967296 = d ∧ (1 : Int) - (t : Int) / 4294967296 = (c' : Int) ∧ d < 4294967296 ∧ c' ≤ 1 ∧ d + v + cy = u + 4294967296 * c' := by
  refine ⟨4294967296 + u - v - cy, (4294967296 + u - v - cy) % 4294967296, 1 - (4294967296 + u - v - cy) / 4294967296, by omega, by omega, rfl, by omega, by omega, by omega, by omega⟩

set_option maxRecDepth 100000 in
set_option maxHeartbeats 800000 in
theorem rf_sub_no (A B : Option Addr) (n m c d x y : Nat) (w : World) (ha : NatA w A n c x) (hb : NatA w B m d y) (hn : n ≤ 1000000) (hm : m ≤ 1000000) (hlt : x < y) :
    Calls Tryz.prog 150 #[.slice A n c, .slice B m d] w fun e w' => e = .returned (.tuple #[.slice none 0 0, .bool false]) ∧ w = w' := by
  have h := rf_cmp A B n m c d x y w ha hb (by omega) (by omega)
  rw [cmpN_lt hlt] at h
  have H := Lib.hid h
  clear h ha hb
  go_enter Tryz.func150, Tryz.ntmps150
  go_wp2_with (go_at_call 95; go_must ((refine H.out.mono ?_); rintro e w' ⟨rfl, rfl⟩))
  go_ret2
  exact ⟨rfl, rfl⟩

set_option maxRecDepth 100000 in
set_option maxHeartbeats 800000 in
theorem rf_sub_yes (A B : Option Addr) (n m c d x y : Nat) (w : World) (ha : NatA w A n c x) (hb : NatA w B m d y) (hn : n ≤ 1000000) (hm : m ≤ 1000000) (hle : y ≤ x) :
    Calls Tryz.prog 150 #[.slice A n c, .slice B m d] w (RetFT (x - y) w) := by
  have h := rf_cmp A B n m c d x y w ha hb (by omega) (by omega)
  have hge : 0 ≤ cmpN x y := by
    unfold cmpN
    rw [if_neg (by omega)]
    split <;> omega
  generalize cmpN x y = z at h hge
  have H := Lib.hid h
  obtain ⟨l, ha, ho, rfl, _⟩ := ha
  obtain ⟨l2, hb, ho2, rfl, _⟩ := hb
  have HA := Lib.hid (And.intro ha hb)
  have HO := Lib.hid (And.intro ho ho2)
  obtain ⟨N, HN⟩ : ∃ N, Hid (N = max n m) := ⟨_, rfl⟩
  have HM : Hid (l.length ≤ N ∧ l2.length ≤ N) := ⟨by rw [ha.ulen, HN.out]; omega, by rw [hb.ulen, HN.out]; omega⟩
  have hNb : N ≤ 1000000 := by rw [HN.out]; omega
  clear ha hb ho ho2 h
  rcases Nat.lt_or_ge n m with hnm | hnm
  all_goals
    go_enter Tryz.func150, Tryz.ntmps150
    go_wp2_with (go_at_call 95; go_must ((refine H.out.mono ?_); rintro e w' ⟨rfl, rfl⟩))
    clear H
    go_loopw [6, 7, 8] (fun v cr i wr => rsRel N l l2 w v cr i wr) (fun _ _ i _ => N - (intOf i).toNat)
    case atStart => exact ⟨0, 0, [], Nat.zero_le _, by omega, rfl, rfl, ⟨rfl, .inl ⟨rfl, rfl⟩⟩, subInv_zero _ _, Below.refl _ _⟩
    case round =>
      obtain ⟨k, cy, o, hk, hcy, rfl, rfl, hown, hinv, hbel⟩ := hrel
      have hN := hbel.size
      by_cases hlk : k < N
      · have h1 := limb_any A n c k l wr (HA.out.1.below hbel) HO.out.1
        have h2 := limb_any B m d k l2 wr (HA.out.2.below hbel) HO.out.2
        have b1 := getD_lt HO.out.1 k
        have b2 := getD_lt HO.out.2 k
        rw [bs_eq] at b1 b2
        obtain ⟨X, hX⟩ : ∃ X, l.getD k 0 = X := ⟨_, rfl⟩
        obtain ⟨Y, hY⟩ : ∃ Y, l2.getD k 0 = Y := ⟨_, rfl⟩
        rw [hX] at h1 b1
        rw [hY] at h2 b2
        have H1 := Lib.hid h1
        have H2 := Lib.hid h2
        obtain ⟨t, e, c', ht, ht2, he, hc', he2, hc2, heq⟩ := rs_word X Y cy b1 b2 hcy
        have HE := Lib.hid (subInv_succ (d := e) (c' := c') hinv.out he2 hc2 (by rw [hX, hY]; exact heq))
        have HQ := Lib.hid (And.intro ht (And.intro he hc'))
        clear h1 h2 hX hY ht he hc' heq
        first | (have hkx : k < m := by have := HN.out; omega) | (have hkx : k < n := by have := HN.out; omega)
        go_wp2_with (first
          | (go_at_call_of 127 (Value.slice A n c); go_must ((refine H1.out.mono ?_); rintro e w' ⟨rfl, rfl⟩))
          | (go_at_call_of 127 (Value.slice B m d); go_must ((refine H2.out.mono ?_); rintro e w' ⟨rfl, rfl⟩))
          | (at_builtin; go_must ((refine app_u32 rfl (.tmp 33) (.tmp 37) rfl w.heap.size k o _ rfl (hown.alloc _) ⟨wr.heap.size, 0, none⟩ rfl _ (cell_one _ _ _) e (by have := HQ.out; omega) (by omega) (by simp; omega) ?_); intro g cap w1 hown1 hgr1)))
        go_roundw
        case rel => exact ⟨k + 1, c', o ++ [e], by omega, hc2, by go_num, congrArg (Value.int .u64) (by have := HQ.out; omega), hown1, HE.out, app_below hbel hN hown hgr1⟩
        case measure => simp [intOf]; omega
      · obtain rfl : k = N := by omega
        have hv := subInv_end hinv.out HM.out.1 HM.out.2 hle
        obtain ⟨A', c', rfl⟩ := own_form hown
        have hcap := own_cap hown
        have HR := Lib.hid (NatA.mk (Sl.of_own hown) hinv.out.2.1 hv hcap)
        clear hown hv hinv hcap
        have hkx : ¬ k < n := by have := HN.out; omega
        have hky : ¬ k < m := by have := HN.out; omega
        go_wp2_with (go_at_call 77; go_must ((refine (rf_norm _ _ _ _ _ HR.out (by omega)).mono ?_); rintro e w1 ⟨A1, n1, c1, rfl, hs1, hc1, hf1, hb1⟩))
        go_ret2
        exact ⟨_, _, _, rfl, hs1, hc1, hf1.mono hN, hbel.trans (hb1.mono hN)⟩

/-! ### adding -/
def raRel (N : Nat) (X Y : List Nat) (w : World) (v cr i : Value) (wr : World) : Prop :=
  ∃ (k cy : Nat) (o : List Nat), k ≤ N + 1 ∧ (N < k → cy = 0) ∧ cy ≤ 1 ∧ i = .int .i64 (k : Int) ∧ cr = .int .u64 (cy : Int) ∧ wr.ownsRow w.heap.size 117 1 v k (u32s o) ∧ Hid (addInv X Y o k cy) ∧ Below w.heap.size w wr
set_option maxRecDepth 100000 in
set_option maxHeartbeats 800000 in
theorem rf_add (A B : Option Addr) (n m c d x y : Nat) (w : World) (ha : NatA w A n c x) (hb : NatA w B m d y) (hn : n ≤ 1000000) (hm : m ≤ 1000000) :
    Calls Tryz.prog 149 #[.slice A n c, .slice B m d] w (RetF (x + y) w) := by
  obtain ⟨l, ha, ho, rfl, _⟩ := ha
  obtain ⟨l2, hb, ho2, rfl, _⟩ := hb
  have HA := Lib.hid (And.intro ha hb)
  have HO := Lib.hid (And.intro ho ho2)
  obtain ⟨N, HN⟩ : ∃ N, Hid (N = max n m) := ⟨_, rfl⟩
  have HM : Hid (l.length ≤ N ∧ l2.length ≤ N) := ⟨by rw [ha.ulen, HN.out]; omega, by rw [hb.ulen, HN.out]; omega⟩
  have hNb : N ≤ 1000000 := by rw [HN.out]; omega
  clear ha hb ho ho2
  rcases Nat.lt_or_ge n m with hnm | hnm
  all_goals
    go_enter Tryz.func149, Tryz.ntmps149
    go_wp2
    go_loopw [5, 6, 7] (fun v cr i wr => raRel N l l2 w v cr i wr) (fun _ _ i _ => N + 1 - (intOf i).toNat)
    case atStart => exact ⟨0, 0, [], Nat.zero_le _, fun _ => rfl, by omega, rfl, rfl, ⟨rfl, .inl ⟨rfl, rfl⟩⟩, addInv_zero _ _, Below.refl _ _⟩
    case round =>
      obtain ⟨k, cy, o, hk, hkc, hcy, rfl, rfl, hown, hinv, hbel⟩ := hrel
      have hN := hbel.size
      by_cases hlk : k < N ∨ 0 < cy
      · have h1 := limb_any A n c k l wr (HA.out.1.below hbel) HO.out.1
        have h2 := limb_any B m d k l2 wr (HA.out.2.below hbel) HO.out.2
        have b1 := getD_lt HO.out.1 k
        have b2 := getD_lt HO.out.2 k
        rw [bs_eq] at b1 b2
        have hlast : ¬ k < N → l.getD k 0 = 0 ∧ l2.getD k 0 = 0 := fun h => ⟨getD_over (by have := HM.out.1; omega), getD_over (by have := HM.out.2; omega)⟩
        obtain ⟨X, hX⟩ : ∃ X, l.getD k 0 = X := ⟨_, rfl⟩
        obtain ⟨Y, hY⟩ : ∃ Y, l2.getD k 0 = Y := ⟨_, rfl⟩
        rw [hX] at h1 b1 hlast
        rw [hY] at h2 b2 hlast
        have H1 := Lib.hid h1
        have H2 := Lib.hid h2
        have HE := Lib.hid (addInv_succ (t := X + Y + cy) HO.out.1 HO.out.2 hinv.out (by rw [hX, hY]; omega))
        have HL := Lib.hid hlast
        have hkN : k ≤ N := by omega
        clear h1 h2 hX hY hkc hlast
        have hcase : k < N ∨ (¬ k < N ∧ 0 < cy) := by omega
        clear hlk
        rcases hcase with hlk | ⟨hlk, hcp⟩
        · first | (have hkx : k < m := by have := HN.out; omega) | (have hkx : k < n := by have := HN.out; omega)
          go_wp2_with (first
            | (go_at_call_of 127 (Value.slice A n c); go_must ((refine H1.out.mono ?_); rintro e w' ⟨rfl, rfl⟩))
            | (go_at_call_of 127 (Value.slice B m d); go_must ((refine H2.out.mono ?_); rintro e w' ⟨rfl, rfl⟩))
            | (at_builtin; go_must ((refine app_u32 rfl (.tmp 31) (.tmp 35) rfl w.heap.size k o _ rfl (hown.alloc _) ⟨wr.heap.size, 0, none⟩ rfl _ (cell_one _ _ _) ((X + Y + cy) % 4294967296) (by omega) (by omega) (by simp; omega) ?_); intro g cap w1 hown1 hgr1)))
          go_roundw
          case rel => exact ⟨k + 1, (X + Y + cy) / 4294967296, o ++ [(X + Y + cy) % 4294967296], by omega, (fun h => by have := HL.out (by omega); omega), HE.out.2.2.1, by go_num, congrArg (Value.int .u64) (by omega), hown1, HE.out, app_below hbel hN hown hgr1⟩
          case measure => simp [intOf]; omega
        · have hkx : ¬ k < n := by have := HN.out; omega
          have hky : ¬ k < m := by have := HN.out; omega
          go_wp2_with (first
            | (go_at_call_of 127 (Value.slice A n c); go_must ((refine H1.out.mono ?_); rintro e w' ⟨rfl, rfl⟩))
            | (go_at_call_of 127 (Value.slice B m d); go_must ((refine H2.out.mono ?_); rintro e w' ⟨rfl, rfl⟩))
            | (at_builtin; go_must ((refine app_u32 rfl (.tmp 31) (.tmp 35) rfl w.heap.size k o _ rfl (hown.alloc _) ⟨wr.heap.size, 0, none⟩ rfl _ (cell_one _ _ _) ((X + Y + cy) % 4294967296) (by omega) (by omega) (by simp; omega) ?_); intro g cap w1 hown1 hgr1)))
          go_roundw
          case rel => exact ⟨k + 1, (X + Y + cy) / 4294967296, o ++ [(X + Y + cy) % 4294967296], by omega, (fun h => by have := HL.out (by omega); omega), HE.out.2.2.1, by go_num, congrArg (Value.int .u64) (by omega), hown1, HE.out, app_below hbel hN hown hgr1⟩
          case measure => simp [intOf]; omega
      · obtain rfl : cy = 0 := by omega
        have hge : ¬ k < N := by omega
        obtain ⟨ho, hv⟩ := addInv_end0 hinv.out (Nat.le_trans HM.out.1 (by omega)) (Nat.le_trans HM.out.2 (by omega))
        obtain ⟨A', c', rfl⟩ := own_form hown
        have hcap := own_cap hown
        have HR := Lib.hid (NatA.mk (Sl.of_own hown) ho hv hcap)
        clear hown hv hinv hcap ho hlk hkc
        have hkx : ¬ k < n := by have := HN.out; omega
        have hky : ¬ k < m := by have := HN.out; omega
        go_wp2_with (go_at_call 77; go_must ((refine (rf_norm _ _ _ _ _ HR.out (by omega)).mono ?_); rintro e w1 ⟨A1, n1, c1, rfl, hs1, hc1, hf1, hb1⟩))
        go_ret
        exact ⟨_, _, _, rfl, hs1, hc1, hf1.mono hN, hbel.trans (hb1.mono hN)⟩

/-! ### halving -/
def rhRel (N : Nat) (X : List Nat) (w : World) (v i : Value) (wr : World) : Prop :=
  ∃ (k : Nat) (o : List Nat), k ≤ N ∧ i = .int .i64 (k : Int) ∧ wr.ownsRow w.heap.size 117 1 v k (u32s o) ∧ Hid (hfInv X o k) ∧ Below w.heap.size w wr
set_option maxRecDepth 100000 in
set_option maxHeartbeats 800000 in
theorem rf_half (A : Option Addr) (n c x : Nat) (w : World) (ha : NatA w A n c x) (hn : n ≤ 1000000) :
    Calls Tryz.prog 171 #[.slice A n c] w (RetF (x / 2) w) := by
  obtain ⟨l, ha, ho, rfl, _⟩ := ha
  have HA := Lib.hid ha
  have HO := Lib.hid ho
  have HM := Lib.hid ha.ulen
  clear ha ho
  go_enter Tryz.func171, Tryz.ntmps171
  go_wp2
  go_loopw [3, 4] (fun v i wr => rhRel n l w v i wr) (fun _ i _ => n - (intOf i).toNat)
  case atStart => exact ⟨0, [], Nat.zero_le _, rfl, ⟨rfl, .inl ⟨rfl, rfl⟩⟩, hfInv_zero _, Below.refl _ _⟩
  case round =>
    obtain ⟨k, o, hk, rfl, hown, hinv, hbel⟩ := hrel
    have hN := hbel.size
    by_cases hlk : k < n
    · have h1 := limb_any A n c k l wr (HA.out.below hbel) HO.out
      have h2 := limb_any A n c (k + 1) l wr (HA.out.below hbel) HO.out
      have b1 := getD_lt HO.out k
      have b2 := getD_lt HO.out (k + 1)
      rw [bs_eq] at b1 b2
      obtain ⟨X, hX⟩ : ∃ X, l.getD k 0 = X := ⟨_, rfl⟩
      obtain ⟨Y, hY⟩ : ∃ Y, l.getD (k + 1) 0 = Y := ⟨_, rfl⟩
      rw [hX] at h1 b1
      rw [hY] at h2 b2
      have H1 := Lib.hid h1
      have H2 := Lib.hid h2
      have HE := Lib.hid (hfInv_succ (t := X / 2 + Y % 2 * 2147483648) HO.out hinv.out (by rw [hX, hY]))
      clear h1 h2 hX hY
      go_wp2_with (first
        | (go_at_call 127; (refine H1.out.mono ?_); rintro e w' ⟨rfl, rfl⟩; clear H1)
        | (go_at_call 127; go_must ((refine H2.out.mono ?_); rintro e w' ⟨rfl, rfl⟩))
        | (at_builtin; go_must ((refine app_u32 rfl (.tmp 11) (.tmp 24) rfl w.heap.size k o _ rfl (hown.alloc _) ⟨wr.heap.size, 0, none⟩ rfl _ (cell_one _ _ _) (X / 2 + Y % 2 * 2147483648) (by omega) (by omega) (by simp; omega) ?_); intro g cap w1 hown1 hgr1)))
      go_roundw
      case rel => exact ⟨k + 1, o ++ [X / 2 + Y % 2 * 2147483648], by omega, by go_num, hown1, HE.out, app_below hbel hN hown hgr1⟩
      case measure => simp [intOf]; omega
    · obtain rfl : k = n := by omega
      have hv := hinv.out
      rw [← HM.out] at hv
      obtain ⟨ho, hv⟩ := hfInv_end hv
      obtain ⟨A', c', rfl⟩ := own_form hown
      have hcap := own_cap hown
      have HR := Lib.hid (NatA.mk (Sl.of_own hown) ho hv hcap)
      clear hown hv hinv hcap ho
      go_wp2_with (go_at_call 77; go_must ((refine (rf_norm _ _ _ _ _ HR.out (by omega)).mono ?_); rintro e w1 ⟨A1, n1, c1, rfl, hs1, hc1, hf1, hb1⟩))
      go_ret
      exact ⟨_, _, _, rfl, hs1, hc1, hf1.mono hN, hbel.trans (hb1.mono hN)⟩
end Go.Proofs.YtjiccijfbpkliaaGreatDoor

/- garmentref01.Bits, Shift. Conditions: slices of at most 1,000,000 limbs; shifts of at most 10,000,000. -/
namespace Go.Proofs.YtjiccijfbpkliaaGreatDoor
open Go.RowKit

set_option maxRecDepth 100000 in
set_option maxHeartbeats 800000 in
theorem rf_bits (A : Option Addr) (n c x : Nat) (w : World) (ha : NatA w A n c x) (hn : n ≤ 1000000) :
    Calls Tryz.prog 169 #[.slice A n c] w fun e w' => e = .returned (.int .i64 (bl x : Int)) ∧ Below w.heap.size w w' := by
  have t1 := ha.trimmed.1
  have HA := Lib.hid (rf_norm A n c x w ha (by omega))
  clear ha
  by_cases h0 : x = 0
  · subst h0
    go_enter Tryz.func169, Tryz.ntmps169
    go_wp2_with fail
    refine HA.out.mono ?_
    rintro e w1 ⟨A1, n1, c1, rfl, hs1, hc1, _, hb1⟩
    obtain rfl : n1 = 0 := by rw [← hs1.ulen, limbs_zero]; rfl
    clear hs1
    go_wp2
    go_ret
    exact ⟨rfl, hb1⟩
  · have hp := nl_pos h0
    obtain ⟨k, hk⟩ : ∃ k, nl x = k + 1 := ⟨nl x - 1, by omega⟩
    have HK := Lib.hid hk
    have hk2 : k < 1000000 := by omega
    clear hp hk t1
    go_enter Tryz.func169, Tryz.ntmps169
    go_wp2_with fail
    refine HA.out.mono ?_
    rintro e w1 ⟨A1, n1, c1, rfl, hs1, hc1, _, hb1⟩
    obtain rfl : n1 = k + 1 := by rw [← hs1.ulen]; exact HK.out
    obtain ⟨b, off, z, rfl, hbw, hz, hcz⟩ := hs1.limb_ (k := k) (by omega)
    have hz0 : z ≠ 0 := by
      intro e
      subst e
      have := tight_limbs x
      rw [tight, List.getLast?_eq_getElem?] at this
      apply this
      rw [show (limbs x).length = k + 1 from HK.out]
      exact hz
    have hzb := okL_at (okL_limbs x) hz
    rw [bs_eq] at hzb
    have HB : Hid (bl x = 32 * k + bl z) := by
      have := bl_top (okL_limbs x) HK.out hz hz0
      rwa [val_limbs] at this
    have hbz := bl_small (x := z) (by rw [bs_eq]; exact hzb)
    clear hs1 hz hz0 h0
    go_wp2
    go_loop [4, 5] (fun s t => ∃ i j : Nat, s = .int .i64 (i : Int) ∧ t = .int .u32 (j : Int) ∧ j < 4294967296 ∧ i ≤ 100000000 ∧ Hid (i + bl j = 32 * k + bl z ∧ 32 * k ≤ i)) (fun _ t => (intOf t).toNat)
    case atStart => exact ⟨32 * k, z, by go_num, rfl, hzb, by omega, rfl, Nat.le_refl _⟩
    case round =>
      obtain ⟨i, j, rfl, rfl, hj, hi, hinv⟩ := hrel
      by_cases hj0 : j = 0
      · subst hj0
        have HE : Hid (bl x = i) := by have := hinv.out.1; rw [bl_zero] at this; have := HB.out; show bl x = i; omega
        go_wp2
        go_ret
        exact ⟨by rw [HE.out]; rfl, hb1⟩
      · have hp : 0 < j := by omega
        have HE : Hid (i + 1 + bl (j / 2) = 32 * k + bl z ∧ 32 * k ≤ i + 1) := ⟨by have := bl_half hj0; have := hinv.out.1; omega, by have := hinv.out.2; omega⟩
        have hi1 : i + 1 ≤ 100000000 := by have := HE.out.1; omega
        clear hj0
        go_wp2
        go_round
        case rel => exact ⟨i + 1, j / 2, by go_num, by go_num, by omega, hi1, HE⟩
        case measure => simp [intOf]; omega

/-! ### shifting -/
theorem row_made (w : World) (m : Nat) (hm : m ≤ 1000000) : (w.alloc (.cells (madeCells #[Value.int .u32 0] m) 117)).ownsRow w.heap.size 117 1 (.slice (some ⟨w.heap.size, 0, none⟩) m m) m (u32s (List.replicate m 0)) := by
  refine ⟨by simp [u32s_len], .inr ⟨w.heap.size, m, madeCells #[Value.int .u32 0] m, rfl, Nat.le_refl _, heap_alloc_new w _, Nat.le_refl _, by unfold maxLen; omega, by simp [size_madeCells], ?_⟩⟩
  rw [Nat.mul_one, toList_madeCells_one, List.take_of_length_le (by simp)]
  simp [u32s]
def shRel (N mm s : Nat) (X : List Nat) (w : World) (v cr i : Value) (wr : World) : Prop :=
  ∃ (k cy : Nat) (o : List Nat), k ≤ N + 1 ∧ cy < 2147483648 ∧ i = .int .i64 (k : Int) ∧ cr = .int .u64 (cy : Int) ∧ wr.ownsRow w.heap.size 117 1 v (mm + k) (u32s o) ∧ Hid ((k ≤ N → shInv X o mm s k cy) ∧ (N < k → okL o ∧ val o = val X * 2 ^ (32 * mm + s))) ∧ Below w.heap.size w wr
set_option maxRecDepth 100000 in
set_option maxHeartbeats 800000 in
theorem rf_shift (A : Option Addr) (n c x sh : Nat) (w : World) (ha : NatA w A n c x) (hn : n ≤ 1000000) (hsh : sh ≤ 10000000) :
    Calls Tryz.prog 170 #[.slice A n c, .int .i64 (sh : Int)] w (RetF (x * 2 ^ sh) w) := by
  obtain ⟨l, ha, ho, rfl, _⟩ := ha
  have HA := Lib.hid ha
  have HO := Lib.hid ho
  have HM := Lib.hid ha.ulen
  obtain ⟨mm, hmm⟩ : ∃ mm, sh / 32 = mm := ⟨_, rfl⟩
  obtain ⟨s, hs⟩ : ∃ s, sh % 32 = s := ⟨_, rfl⟩
  have hs31 : s ≤ 31 := by omega
  have hmb : mm ≤ 1000000 := by omega
  have HS : Hid (32 * mm + s = sh) := by rw [Hid]; omega
  have hd : ((sh : Int)) / 32 = (mm : Int) := by omega
  have hr : ((sh : Int)) % 32 = (s : Int) := by omega
  have hmk := make_full mm (by omega)
  clear ha ho hmm hs
  go_enter Tryz.func170, Tryz.ntmps170
  go_wp2
  clear hmk hd
  go_loopw [5, 6, 7] (fun v cr i wr => shRel n mm s l w v cr i wr) (fun _ _ i _ => n + 1 - (intOf i).toNat)
  case atStart => exact ⟨0, 0, List.replicate mm 0, Nat.zero_le _, by omega, rfl, rfl, row_made w mm (by omega), ⟨fun _ => shInv_zero _ _ _, fun h => absurd h (by omega)⟩, (Below.refl _ _).alloc (Nat.le_refl _) _⟩
  case round =>
    obtain ⟨k, cy, o, hk, hcy, rfl, rfl, hown, hinv, hbel⟩ := hrel
    have hN := hbel.size
    by_cases hlk : k ≤ n
    · have h1 := limb_any A n c k l wr (HA.out.below hbel) HO.out
      have b1 := getD_lt HO.out k
      rw [bs_eq] at b1
      have hin := hinv.out.1 hlk
      have hlast : ¬ k + 1 ≤ n → k = l.length := fun h => by rw [HM.out]; omega
      obtain ⟨X, hX⟩ : ∃ X, l.getD k 0 = X := ⟨_, rfl⟩
      rw [hX] at h1 b1
      have H1 := Lib.hid h1
      obtain ⟨e1, e2⟩ := shl_word X s b1 hs31
      have HE := Lib.hid (shInv_succ (t := X * 2 ^ s + cy) HO.out hin (by rw [hX]))
      have HF : Hid (¬ k + 1 ≤ n → okL (o ++ [(X * 2 ^ s + cy) % 4294967296]) ∧ val (o ++ [(X * 2 ^ s + cy) % 4294967296]) = val l * 2 ^ (32 * mm + s)) := fun h => by
        have e := hlast h
        subst e
        have hX0 : X = 0 := by rw [← hX]; exact getD_over (Nat.le_refl _)
        rw [hX0, Nat.zero_mul, Nat.zero_add]
        exact shInv_end hs31 hin cy rfl
      have hcn := HE.out.2.2.1
      have hc2 : 2 ^ s ≤ 2147483648 := by have h := Nat.pow_le_pow_right (n := 2) (by omega) hs31; simpa using h
      rw [bs_eq] at hcn
      generalize X * 2 ^ s = p at *
      have hcn' : (p + cy) / 4294967296 < 2147483648 := by omega
      clear h1 hX hlast hin hcn hc2
      go_wp2_with (first
        | (go_at_call 127; go_must ((refine H1.out.mono ?_); rintro e w' ⟨rfl, rfl⟩))
        | (at_builtin; go_must ((refine app_u32 rfl (.tmp 27) (.tmp 31) rfl w.heap.size (mm + k) o _ rfl (hown.alloc _) ⟨wr.heap.size, 0, none⟩ rfl _ (cell_one _ _ _) ((p + cy) % 4294967296) (by omega) (by omega) (by simp; omega) ?_); intro g cap w1 hown1 hgr1)))
      go_roundw
      case rel => exact ⟨k + 1, (p + cy) / 4294967296, o ++ [(p + cy) % 4294967296], by omega, hcn', by go_num, congrArg (Value.int .u64) (by omega), hown1, ⟨fun _ => HE.out, fun h => HF.out (by omega)⟩, app_below hbel hN hown hgr1⟩
      case measure => simp [intOf]; omega
    · obtain ⟨ho, hv⟩ := hinv.out.2 (by omega)
      rw [HS.out] at hv
      obtain ⟨A', c', rfl⟩ := own_form hown
      have hcap := own_cap hown
      have HR := Lib.hid (NatA.mk (Sl.of_own hown) ho hv hcap)
      clear hown hv hinv hcap ho
      go_wp2_with (go_at_call 77; go_must ((refine (rf_norm _ _ _ _ _ HR.out (by omega)).mono ?_); rintro e w1 ⟨A1, n1, c1, rfl, hs1, hc1, hf1, hb1⟩))
      go_ret
      exact ⟨_, _, _, rfl, hs1, hc1, hf1.mono hN, hbel.trans (hb1.mono hN)⟩
end Go.Proofs.YtjiccijfbpkliaaGreatDoor
