/-
  Several texts in one: natural.digit returns one digit of a quotient and leaves the remainder. Conditions: as its remark says; slices of at most 1,000,000 limbs.
-/
import Derived.Deep.CutBlock
import Derived.Deep.DeepCutAuto
import Derived.Test.YtjiccijfbpkliaaGreatDoorG12

/- natural.digit returns one digit of a quotient and leaves the remainder. Conditions: as its remark says; slices of at most 1,000,000 limbs. -/
namespace Go.Proofs.YtjiccijfbpkliaaGreatDoor
open Go.RowKit

/-- In block g the limbs r stand from place 'off' on, between P and S. -/
def Win (w : World) (g off : Nat) (P S r : List Nat) : Prop := P.length = off ∧ RowU w g (P ++ r ++ S)
/-- From the head of block h on the limbs V stand. -/
def VRow (w : World) (h : Nat) (V : List Nat) : Prop := ∀ (k x : Nat), V[k]? = some x → w.cell? ⟨h, k, none⟩ = some (.int .u32 (x : Int))
section
variable {w w' : World} {g h off : Nat} {P S r V : List Nat}
theorem Win.cell (hw : Win w g off P S r) {k x : Nat} (hx : r[k]? = some x) : w.cell? ⟨g, off + k, none⟩ = some (.int .u32 (x : Int)) := by
  have hk := (List.getElem?_eq_some_iff.1 hx).1
  refine hw.2.cell ?_
  rw [List.append_assoc, List.getElem?_append_right (by rw [hw.1]; omega), hw.1, Nat.add_sub_cancel_left, List.getElem?_append_left hk]
  exact hx
theorem Win.frozen (hw : Win w g off P S r) (k : Nat) : w.frozen? ⟨g, k, none⟩ = false := hw.2.frozen k
theorem Win.set (hw : Win w g off P S r) {k : Nat} (hk : k < r.length) (x : Nat) : Win (w.setCell ⟨g, off + k, none⟩ (.int .u32 (x : Int))) g off P S (r.set k x) := by
  refine ⟨hw.1, ?_⟩
  have h1 := hw.2.set (i := off + k) (by simp [hw.1]; omega) x
  have e : (P ++ r ++ S).set (off + k) x = P ++ r.set k x ++ S := by
    rw [List.append_assoc, List.set_append_right _ _ (by rw [hw.1]; omega), hw.1, Nat.add_sub_cancel_left, List.set_append_left _ _ hk, ← List.append_assoc]
  rw [e] at h1
  exact h1
theorem Win.drewN (hw : Win w g off P S r) (k : Nat) : Win (w.drewN k) g off P S r := hw
theorem VRow.drewN (hv : VRow w h V) (k : Nat) : VRow (w.drewN k) h V := hv
theorem VRow.far (hv : VRow w h V) {p : Addr} (hp : h ≠ p.block) (x : Value) : VRow (w.setCell p x) h V := fun k y hy =>
  (World.cell?_setCell_other w p ⟨h, k, none⟩ x (fun e => hp (by rw [e]))).trans (hv k y hy)
end
theorem only_drewN {a w : World} {row : Option Nat} (h : a.grownBy w row) (n : Nat) : a.grownBy (w.drewN n) row := ⟨h.os, h.tape, h.output, h.size, h.block⟩
theorem only_setCell {a w : World} {g : Nat} (h : a.grownBy w (some g)) {p : Addr} (hp : p.block = g) (u : Value) : a.grownBy (w.setCell p u) (some g) :=
  ⟨h.os, h.tape, h.output, by simpa [World.setCell] using h.size, fun i hi hne => (Below.heap_setCell w p u i (by
    rintro rfl
    exact hne (by rw [hp]))).trans (h.block i hi hne)⟩

/-- What the estimate leaves. -/
def estRel (Q : Nat) (w : World) (s8 : Value) (wx : World) : Prop := ∃ q : Nat, s8 = .int .u64 (q : Int) ∧ q < 4294967296 ∧ Hid (Q ≤ q ∧ q ≤ Q + 1) ∧ Hid (∃ j, wx = w.drewN j)
def est2Rel (Q top high : Nat) (w : World) (s8 s9 : Value) (wr : World) : Prop :=
  ∃ q r : Nat, s8 = .int .u64 (q : Int) ∧ s9 = .int .u64 (r : Int) ∧ q ≤ 8589934592 ∧ r ≤ 8589934592 ∧ Hid (q * high + r = top) ∧ Hid (Q ≤ q) ∧ Hid (∃ j, wr = w.drewN j)
theorem drewN_more {w wr : World} (h : ∃ j, wr = w.drewN j) (k : Nat) : ∃ j, wr.drewN k = w.drewN j := by
  obtain ⟨j, rfl⟩ := h
  exact ⟨j + k, by rw [World.drewN_drewN]⟩
theorem est_start (x0 x1 y1 : Nat) (h0 : x0 < 4294967296) (h1 : x1 < 4294967296) (hy : 2147483648 ≤ y1) (hy2 : y1 < 4294967296) : (x0 * 4294967296 + x1) / y1 ≤ 8589934592 ∧ (x0 * 4294967296 + x1) % y1 ≤ 8589934592 ∧ (x0 * 4294967296 + x1) / y1 * y1 + (x0 * 4294967296 + x1) % y1 = x0 * 4294967296 + x1 := by
  refine ⟨?_, ?_, Nat.div_add_mod' _ _⟩
  · have h : (x0 * 4294967296 + x1) / y1 < 8589934592 := by
      rw [Nat.div_lt_iff_lt_mul (by omega)]
      have : 8589934592 * 2147483648 ≤ 8589934592 * y1 := Nat.mul_le_mul_left _ hy
      omega
    omega
  · have := Nat.mod_lt (x0 * 4294967296 + x1) (by omega : 0 < y1)
    omega
theorem est2_next {Q top high q r : Nat} {w wr : World} (hq : q ≤ 8589934592) (hr : r ≤ 8589934592) (heq : q * high + r = top) (hlt : Q < q) (hwr : ∃ j, wr = w.drewN j) (k : Nat) (h1 : 1 ≤ q) (hrb : r < 4294967296) (hh : high < 4294967296) :
    est2Rel Q top high w (.int .u64 ((q : Int) - 1)) (.int .u64 ((r : Int) + (high : Int))) (wr.drewN k) := by
  refine ⟨q - 1, r + high, by congr 1; omega, by congr 1, by omega, by omega, ?_, (by show Q ≤ q - 1; omega), drewN_more hwr k⟩
  show (q - 1) * high + (r + high) = top
  rw [← heq]
  obtain ⟨p, rfl⟩ : ∃ p, q = p + 1 := ⟨q - 1, by omega⟩
  rw [Nat.add_sub_cancel, Nat.add_mul, Nat.one_mul]
  omega
/-- What the loop keeps that takes q times v from u. -/
def dig2Rel (g h off N q : Nat) (P S U V : List Nat) (w : World) (s10 s11 i : Value) (wr : World) : Prop :=
  ∃ (k c b : Nat) (r : List Nat), k ≤ N ∧ c < 4294967296 ∧ b ≤ 1 ∧ i = .int .i64 (k : Int) ∧ s10 = .int .u64 (c : Int) ∧ s11 = .int .u64 (b : Int) ∧ Win wr g off P S r ∧ VRow wr h V ∧ Hid (digInv U V r q k c b) ∧ w.grownBy wr (some g)
theorem sub_word2 (u v b : Nat) (hu : u < 4294967296) (hv : v < 4294967296) (hb : b ≤ 1) :
    ∃ e c' : Nat, e < 4294967296 ∧ c' ≤ 1 ∧ e + v + b = u + 4294967296 * c' ∧ IntKind.u64.wrap (IntKind.u64.wrap ((u : Int) - v) - b) % 4294967296 = (e : Int) ∧ IntKind.u64.wrap (IntKind.u64.wrap ((u : Int) - v) - b) / 9223372036854775808 = (c' : Int) := by
  simp only [IntKind.wrap_u64]
  by_cases h : v + b ≤ u
  · exact ⟨u - v - b, 0, by omega, by omega, by omega, by omega, by omega⟩
  · exact ⟨4294967296 + u - v - b, 1, by omega, by omega, by omega, by omega, by omega⟩
theorem dig2_next {g h off N q : Nat} {P S U V : List Nat} {w wr : World} {i c b p x y : Nat} {r : List Nat} (hi : i < N) (hN : U.length = N + 1) (hgh : h ≠ g) (hq : q < 4294967296) (hxb : x < 4294967296) (hyb : y < 4294967296) (hb : b ≤ 1) (hx : U[i]? = some x) (hy : V[i]? = some y) (hp : q * y = p)
    (hwin : Win wr g off P S r) (hvr : VRow wr h V) (hinv : digInv U V r q i c b) (hgr : w.grownBy wr (some g)) :
    dig2Rel g h off N q P S U V w (Value.int IntKind.u64 (((c : Int) + p) / 4294967296)) (Value.int IntKind.u64 (IntKind.u64.wrap (IntKind.u64.wrap ((x : Int) - ((c : Int) + p) % 4294967296) - b) / 9223372036854775808)) (Value.int IntKind.i64 ((i : Int) + 1))
      (wr.setCell ⟨g, off + i, none⟩ (Value.int IntKind.u32 (IntKind.u64.wrap (IntKind.u64.wrap ((x : Int) - ((c : Int) + p) % 4294967296) - b) % 4294967296))) := by
  obtain ⟨e, c', he, hc', heq, q1, q2⟩ := sub_word2 x ((c + p) % 4294967296) b hxb (by omega) hb
  have ee : ((c : Int) + p) % 4294967296 = (((c + p) % 4294967296 : Nat) : Int) := by omega
  rw [ee, q1, q2]
  have hn := digInv_succ hinv hx hy (by rw [bs_eq]; exact hq) (by rw [bs_eq]; exact hyb) (t := c + p) (by rw [hp]) (e := e) (b' := c') (by rw [bs_eq]; exact he) hc' (by rw [bs_eq]; exact heq)
  have h2 := hn.2.2.1
  rw [bs_eq] at h2
  have hl := hinv.1
  exact ⟨i + 1, (c + p) / 4294967296, c', _, by omega, h2, hc', by go_num, rfl, rfl, hwin.set (by omega) e, hvr.far (p := ⟨g, off + i, none⟩) hgh _, hn, only_setCell hgr rfl _⟩
theorem over_word (x c b : Nat) (hx : x < 4294967296) (hc : c < 4294967296) (hb : b ≤ 1) (h : ¬ c + b ≤ x) :
    ∃ D1 D e : Nat, IntKind.u64.wrap ((x : Int) - c) = (D1 : Int) ∧ IntKind.u64.wrap ((D1 : Int) - b) = (D : Int) ∧ (D : Int) / 9223372036854775808 = 1 ∧ (D : Int) % 4294967296 = (e : Int) ∧ e + (c + b) = x + 4294967296 ∧ e < 4294967296 := by
  simp only [IntKind.wrap_u64]
  by_cases h1 : c ≤ x
  · exact ⟨x - c, 18446744073709551616 + x - c - b, 4294967296 + x - c - b, by omega, by omega, by omega, by omega, by omega, by omega⟩
  · exact ⟨18446744073709551616 + x - c, 18446744073709551616 + x - c - b, 4294967296 + x - c - b, by omega, by omega, by omega, by omega, by omega, by omega⟩
/-- What the loop keeps that adds v back. -/
def dig3Rel (g h off N : Nat) (P S R V : List Nat) (w : World) (s10 i : Value) (wr : World) : Prop :=
  ∃ (k c : Nat) (r : List Nat), k ≤ N ∧ c ≤ 1 ∧ i = .int .i64 (k : Int) ∧ s10 = .int .u64 (c : Int) ∧ Win wr g off P S r ∧ VRow wr h V ∧ Hid (backInv R V r k c) ∧ w.grownBy wr (some g)
theorem dig3_next {g h off N : Nat} {P S R V : List Nat} {w wr : World} {i c x y : Nat} {r : List Nat} (hi : i < N) (hN : R.length = N + 1) (hgh : h ≠ g) (hxb : x < 4294967296) (hyb : y < 4294967296) (hx : R[i]? = some x) (hy : V[i]? = some y)
    (hwin : Win wr g off P S r) (hvr : VRow wr h V) (hinv : backInv R V r i c) (hgr : w.grownBy wr (some g)) {T : Int} (hT : T = ((c + x + y : Nat) : Int)) :
    dig3Rel g h off N P S R V w (Value.int IntKind.u64 (T / 4294967296)) (Value.int IntKind.i64 ((i : Int) + 1)) (wr.setCell ⟨g, off + i, none⟩ (Value.int IntKind.u32 (T % 4294967296))) := by
  subst hT
  have hn := backInv_succ hinv hx hy (by rw [bs_eq]; exact hxb) (by rw [bs_eq]; exact hyb) (t := c + x + y) rfl
  have h2 := hn.2.2.1
  have hl := hinv.1
  exact ⟨i + 1, (c + x + y) / 4294967296, _, by omega, h2, by go_num, rfl, hwin.set (by omega) _, hvr.far (p := ⟨g, off + i, none⟩) hgh _, hn, only_setCell hgr rfl _⟩
/-- A digit comes back, and a remainder stands in the window. -/
def RetDig (g h off q r : Nat) (P S V : List Nat) (w : World) (e : Ending) (w' : World) : Prop :=
  e = .returned (.int .u32 (q : Int)) ∧ ∃ R, R.length = V.length + 1 ∧ okL R ∧ val R = r ∧ Win w' g off P S R ∧ VRow w' h V ∧ w.grownBy w' (some g)

set_option maxRecDepth 100000 in
set_option maxHeartbeats 3200000 in
theorem digit_any (g h off n cu cv : Nat) (P S U V : List Nat) (w : World) (hw : Win w g off P S U) (hv : VRow w h V) (hgh : h ≠ g) (hU : U.length = n + 3) (hV : V.length = n + 2) (hoU : okL U) (hoV : okL V) (hn : n ≤ 1000000)
    (htop : ∀ y, V[n + 1]? = some y → 2147483648 ≤ y) (hlt : val U < val V * bs) :
    Calls Tryz.prog 143 #[.slice (some ⟨g, off, none⟩) (n + 3) cu, .slice (some ⟨h, 0, none⟩) (n + 2) cv] w (RetDig g h off (val U / val V) (val U % val V) P S V w) := by
  obtain ⟨x0, hx0⟩ : ∃ x, U[n + 2]? = some x := ⟨_, List.getElem?_eq_getElem (by omega)⟩
  obtain ⟨x1, hx1⟩ : ∃ x, U[n + 1]? = some x := ⟨_, List.getElem?_eq_getElem (by omega)⟩
  obtain ⟨x2, hx2⟩ : ∃ x, U[n]? = some x := ⟨_, List.getElem?_eq_getElem (by omega)⟩
  obtain ⟨y1, hy1⟩ : ∃ x, V[n + 1]? = some x := ⟨_, List.getElem?_eq_getElem (by omega)⟩
  obtain ⟨y2, hy2⟩ : ∃ x, V[n]? = some x := ⟨_, List.getElem?_eq_getElem (by omega)⟩
  have c0 := hw.cell hx0
  have c1 := hw.cell hx1
  have c2 := hw.cell hx2
  have d1 := hv _ _ hy1
  have d2 := hv _ _ hy2
  have b0 := okL_at hoU hx0
  have b1 := okL_at hoU hx1
  have b2 := okL_at hoU hx2
  have e1 := okL_at hoV hy1
  have e2 := okL_at hoV hy2
  have htop1 := htop _ hy1
  rw [bs_eq] at b0 b1 b2 e1 e2
  obtain ⟨p1, p2, p3, p4⟩ := dig_parts hoU hoV hV hU hx0 hx1 hx2 hy1 hy2
  have HP := Lib.hid (And.intro p1 (And.intro p2 (And.intro p3 p4)))
  have HX := Lib.hid (And.intro hw (And.intro hv (And.intro hoU (And.intro hoV (And.intro hU (And.intro hV hlt))))))
  clear hw hv hoU hoV hU hV hlt p1 p2 p3 p4 hx0 hx1 hx2 hy1 hy2 htop
  have hor := or_join x0 x1 b0 b1
  go_enter Tryz.func143, Tryz.ntmps143
  go_wp2
  go_quiet (fail)
  go_wp2
  go_quiet (fail)
  go_upto_block 0 with fail
  go_cut [8] (fun s8 wx => estRel (val U / val V) w s8 wx)
  case first =>
    go_wp2_with fail
    obtain ⟨i1, i2, i3⟩ := est_start x0 x1 y1 b0 b1 htop1 e1
    have HI := Lib.hid (And.intro i1 (And.intro i2 i3))
    have HC := Lib.hid (And.intro c2 d2)
    clear i1 i2 i3 c0 c1 d1 c2 d2 hor
    go_loopw [8, 9] (fun s8 s9 wr => est2Rel (val U / val V) (x0 * 4294967296 + x1) y1 w s8 s9 wr) (fun s8 _ _ => (intOf s8).toNat)
    case atStart =>
      refine ⟨(x0 * 4294967296 + x1) / y1, (x0 * 4294967296 + x1) % y1, rfl, rfl, HI.out.1, HI.out.2.1, HI.out.2.2, ?_, ⟨_, by rw [World.drewN_drewN]⟩⟩
      exact kn_first (B := bs) (P := bs ^ n) HP.out.1 HP.out.2.1 HP.out.2.2.1 (by rw [bs_eq]; exact b2) (by omega)
    case round =>
      obtain ⟨q, r, rfl, rfl, hq, hr, heq, hge, hwr⟩ := hrel
      have c2' : wr.cell? ⟨g, off + n, none⟩ = some (.int .u32 (x2 : Int)) := by
        obtain ⟨j, rfl⟩ := hwr.out
        exact HC.out.1
      have d2' : wr.cell? ⟨h, n, none⟩ = some (.int .u32 (y2 : Int)) := by
        obtain ⟨j, rfl⟩ := hwr.out
        exact HC.out.2
      by_cases hrb : r < 4294967296
      · have k1 : decide ((r : Int) < 4294967296) = true := by simp; omega
        by_cases hqb : 4294967296 ≤ q
        · have k2 : decide ((4294967296 : Int) ≤ (q : Int)) = true := by simp; omega
          have HN := Lib.hid (kn_step (q := q) (r := r) HP.out.1 HP.out.2.1 HP.out.2.2.1 HX.out.2.2.2.2.2.2 heq.out (.inl hqb))
          go_wp2
          go_quiet (fail)
          go_wp2
          go_roundw
          case rel => exact est2_next hq hr heq.out HN.out hwr.out _ (by omega) hrb e1
          case measure => simp [intOf]; omega
        · have k2 : decide ((4294967296 : Int) ≤ (q : Int)) = false := by simp; omega
          obtain ⟨p, hp1, hp2, hp3⟩ := mul_word (u := q) (v := y2) (by omega) e2
          have HP1 := Lib.hid hp1
          have hor := or_join r x2 hrb b2
          clear hp1
          obtain ⟨T, hT⟩ : ∃ T, r * 4294967296 + x2 = T := ⟨_, rfl⟩
          rw [hT] at hor
          have HT := Lib.hid hT
          clear hT
          by_cases hc : T < p
          · have HN := Lib.hid (kn_step (B := bs) (q := q) (r := r) HP.out.1 HP.out.2.1 HP.out.2.2.1 HX.out.2.2.2.2.2.2 heq.out (.inr (by rw [bs_eq, HP1.out, HT.out]; exact hc)))
            have hq1 : 1 ≤ q := by
              exact Nat.lt_of_le_of_lt (Nat.zero_le _) HN.out
            have k3 : decide (T < p) = true := by simpa using hc
            go_wp2
            go_quiet (fail)
            go_wp2
            go_roundw
            case rel => exact est2_next hq hr heq.out HN.out hwr.out _ hq1 hrb e1
            case measure => simp [intOf]; omega
          · have HN := Lib.hid (kn_last (B := bs) (q := q) (r := r) HP.out.1 HP.out.2.1 HP.out.2.2.2 (by rw [bs_eq]; exact e2) (by omega) HX.out.2.2.2.2.2.2 heq.out (.inr (by rw [bs_eq, HP1.out, HT.out]; omega)))
            have k3 : decide (T < p) = false := by simpa using hc
            go_wp2
            go_quiet (fail)
            go_wp2
            go_meet
            exact ⟨q, rfl, by omega, ⟨hge.out, HN.out.2⟩, drewN_more hwr.out _⟩
      · have k1 : decide ((r : Int) < 4294967296) = false := by simp; omega
        have HN := Lib.hid (kn_last (B := bs) (q := q) (r := r) HP.out.1 HP.out.2.1 HP.out.2.2.2 (by rw [bs_eq]; exact e2) (by omega) HX.out.2.2.2.2.2.2 heq.out (.inl (by rw [bs_eq]; omega)))
        go_wp2
        go_quiet (fail)
        go_wp2
        go_meet
        exact ⟨q, rfl, by have := HN.out.1; rw [bs_eq] at this; omega, ⟨hge.out, HN.out.2⟩, drewN_more hwr.out _⟩
  case rest =>
    obtain ⟨q, rfl, hqb, hQ, hwc⟩ := hcut
    obtain ⟨j0, rfl⟩ := hwc.out
    clear hwc c0 c1 c2 d1 d2 hor
    go_wp2
    go_loopw [10, 11, 78] (fun s10 s11 i wr => dig2Rel g h off (n + 2) q P S U V w s10 s11 i wr) (fun _ _ i _ => n + 2 - (intOf i).toNat)
    case atStart => exact ⟨0, 0, 0, U, Nat.zero_le _, by omega, by omega, rfl, rfl, rfl, HX.out.1.drewN _, HX.out.2.1.drewN _, digInv_zero _ _ HX.out.2.2.1, only_drewN (World.grownBy.refl _ _) _⟩
    case round =>
      obtain ⟨i, c, b, r, hi, hc, hb, rfl, rfl, rfl, hwin, hvr, hinv, hgr⟩ := hrel
      by_cases hli : i < n + 2
      · obtain ⟨x, hx⟩ : ∃ x, U[i]? = some x := ⟨_, List.getElem?_eq_getElem (by rw [HX.out.2.2.2.2.1]; omega)⟩
        obtain ⟨y, hy⟩ : ∃ y, V[i]? = some y := ⟨_, List.getElem?_eq_getElem (by rw [HX.out.2.2.2.2.2.1]; omega)⟩
        have hxb := okL_at HX.out.2.2.1 hx
        have hyb := okL_at HX.out.2.2.2.1 hy
        rw [bs_eq] at hxb hyb
        have hrx : r[i]? = some x := by rw [at_of_drop hinv.out.2.2.2.2.1]; exact hx
        have hcx := hwin.cell hrx
        have hfx := hwin.frozen (off + i)
        have hcy := hvr _ _ hy
        obtain ⟨p, hp1, hp2, hp3⟩ := mul_word (u := q) (v := y) hqb hyb
        have HW := Lib.hid (And.intro hwin (And.intro hvr (And.intro hx (And.intro hy hp1))))
        clear hwin hvr hx hy hrx hp1
        go_wp2
        go_roundw
        case rel => exact dig2_next hli HX.out.2.2.2.2.1 hgh hqb hxb hyb hb HW.out.2.2.1 HW.out.2.2.2.1 HW.out.2.2.2.2 HW.out.1 HW.out.2.1 hinv.out hgr
        case measure => simp [intOf]; omega
      · obtain rfl : i = n + 2 := by omega
        have hrl : r.length = n + 3 := by rw [hinv.out.1]; exact HX.out.2.2.2.2.1
        obtain ⟨x, hx⟩ : ∃ x, U[n + 2]? = some x := ⟨_, List.getElem?_eq_getElem (by rw [HX.out.2.2.2.2.1]; omega)⟩
        have hxb := okL_at HX.out.2.2.1 hx
        rw [bs_eq] at hxb
        have hrx : r[n + 2]? = some x := by rw [at_of_drop hinv.out.2.2.2.2.1]; exact hx
        have hcx := hwin.cell hrx
        have hfx := hwin.frozen (off + (n + 2))
        have HW := Lib.hid (And.intro hwin (And.intro hvr (And.intro hx hrl)))
        clear hwin hvr hx hrx hrl
        by_cases hfit : c + b ≤ x
        · have hD : ((x : Int) - (c : Int) - (b : Int)) / 9223372036854775808 = 0 := by omega
          go_wp2
          go_ret
          have hV0 : 0 < val V := Nat.pos_of_ne_zero fun e0 => by
            have := HX.out.2.2.2.2.2.2
            rw [e0, Nat.zero_mul] at this
            omega
          have hf := digInv_fit hinv.out HX.out.2.2.2.2.2.1 HX.out.2.2.2.2.1 HW.out.2.2.1 hfit
          obtain ⟨f1, f2⟩ := div_of_fit hf hQ.out.2 hQ.out.1 hV0
          refine ⟨by rw [← f1]; rfl, r.set (n + 2) (x - (c + b)), by rw [List.length_set, HW.out.2.2.2, HX.out.2.2.2.2.2.1], okL_set hinv.out.2.1 _ (by rw [bs_eq]; omega), f2, ?_, HW.out.2.1.far (p := ⟨g, off + (n + 2), none⟩) hgh _, only_setCell hgr rfl _⟩
          have hset := HW.out.1.set (k := n + 2) (by rw [HW.out.2.2.2]; omega) (x - (c + b))
          rw [show ((x - (c + b) : Nat) : Int) = (x : Int) - (c : Int) - (b : Int) by omega] at hset
          exact hset
        · obtain ⟨D1, D, e, w1, w2, w3, w4, w5, w6⟩ := over_word x c b hxb hc hb hfit
          have HE := Lib.hid w5
          have hq1 : 1 ≤ q := by
            rcases Nat.eq_zero_or_pos q with h0 | h0
            · exfalso
              have hov : val (r.set (n + 2) e) + q * val V = val U + bs ^ (n + 3) := digInv_over hinv.out HX.out.2.2.2.2.2.1 HX.out.2.2.2.2.1 HW.out.2.2.1 (by rw [bs_eq]; exact w5)
              have hbd := val_lt (okL_set hinv.out.2.1 (n + 2) (v := e) (by rw [bs_eq]; exact w6))
              rw [List.length_set, HW.out.2.2.2] at hbd
              rw [h0, Nat.zero_mul] at hov
              omega
            · exact h0
          clear w5 hfit
          have hset := HW.out.1.set (k := n + 2) (by rw [HW.out.2.2.2]; omega) e
          have hfar := HW.out.2.1.far (p := ⟨g, off + (n + 2), none⟩) hgh (.int .u32 (e : Int))
          have hong := only_setCell hgr (p := ⟨g, off + (n + 2), none⟩) rfl (.int .u32 (e : Int))
          have HS := Lib.hid (And.intro hset (And.intro hfar hong))
          have HO := Lib.hid (okL_set hinv.out.2.1 (n + 2) (v := e) (by rw [bs_eq]; exact w6))
          have HL : Hid ((r.set (n + 2) e).length = n + 3) := by rw [Hid, List.length_set]; exact HW.out.2.2.2
          clear hset hfar hong
          go_wp2
          clear hcx hfx w1 w2 w3 w4
          go_loopw [10, 131] (fun s10 i wr => dig3Rel g h off (n + 2) P S (r.set (n + 2) e) V w s10 i wr) (fun _ i _ => n + 2 - (intOf i).toNat)
          case atStart => exact ⟨0, 0, r.set (n + 2) e, Nat.zero_le _, by omega, rfl, rfl, HS.out.1, HS.out.2.1, backInv_zero _ HO.out, HS.out.2.2⟩
          case round =>
            obtain ⟨i, cc, rr, hi, hcc, rfl, rfl, hwin, hvr, hbk, hgr2⟩ := hrel
            by_cases hli : i < n + 2
            · obtain ⟨x', hx'⟩ : ∃ x', (r.set (n + 2) e)[i]? = some x' := ⟨_, List.getElem?_eq_getElem (by rw [HL.out]; omega)⟩
              obtain ⟨y, hy⟩ : ∃ y, V[i]? = some y := ⟨_, List.getElem?_eq_getElem (by rw [HX.out.2.2.2.2.2.1]; omega)⟩
              have hxb' := okL_at HO.out hx'
              have hyb := okL_at HX.out.2.2.2.1 hy
              rw [bs_eq] at hxb' hyb
              have hrx : rr[i]? = some x' := by rw [at_of_drop hbk.out.2.2.2.1]; exact hx'
              have hcx := hwin.cell hrx
              have hfx := hwin.frozen (off + i)
              have hcy := hvr _ _ hy
              have HW2 := Lib.hid (And.intro hwin (And.intro hvr (And.intro hx' hy)))
              clear hwin hvr hx' hy hrx
              go_wp2
              go_roundw
              case rel => exact dig3_next hli HL.out hgh hxb' hyb HW2.out.2.2.1 HW2.out.2.2.2 HW2.out.1 HW2.out.2.1 hbk.out hgr2 (by omega)
              case measure => simp [intOf]; omega
            · obtain rfl : i = n + 2 := by omega
              have hle : (r.set (n + 2) e)[n + 2]? = some e := List.getElem?_set_self (by rw [HW.out.2.2.2]; omega)
              have hrx : rr[n + 2]? = some e := by rw [at_of_drop hbk.out.2.2.2.1]; exact hle
              have hrl : rr.length = n + 3 := by rw [hbk.out.1]; exact HL.out
              have hcx := hwin.cell hrx
              have hfx := hwin.frozen (off + (n + 2))
              have HW2 := Lib.hid (And.intro hwin (And.intro hvr (And.intro hle hrl)))
              clear hwin hvr hrx hle hrl
              go_wp2
              go_ret
              have hV0 : 0 < val V := Nat.pos_of_ne_zero fun e0 => by
                have := HX.out.2.2.2.2.2.2
                rw [e0, Nat.zero_mul] at this
                omega
              have hov : val (r.set (n + 2) e) + q * val V = val U + bs ^ (n + 3) := digInv_over hinv.out HX.out.2.2.2.2.2.1 HX.out.2.2.2.2.1 HW.out.2.2.1 (by rw [bs_eq]; exact HE.out)
              have hbd := val_lt HO.out
              rw [HL.out] at hbd
              obtain ⟨k, hk⟩ := backInv_end hbk.out HX.out.2.2.2.2.2.1 HL.out HW2.out.2.2.1
              have hVb := val_lt HX.out.2.2.2.1
              rw [HX.out.2.2.2.2.2.1] at hVb
              have hpw : bs ^ (n + 2) ≤ bs ^ (n + 3) := Nat.pow_le_pow_right bs_pos (by omega)
              have hoR := okL_set hbk.out.2.1 (n + 2) (v := (e + cc) % bs) (Nat.mod_lt _ bs_pos)
              have hRb := val_lt hoR
              rw [List.length_set, HW2.out.2.2.2] at hRb
              obtain ⟨f1, f2⟩ := div_of_over (P := bs ^ (n + 3)) (k := k) hov hbd hQ.out.2 hQ.out.1 hV0 (by omega) hk hRb
              refine ⟨?_, rr.set (n + 2) ((e + cc) % bs), by rw [List.length_set, HW2.out.2.2.2, HX.out.2.2.2.2.2.1], hoR, f2, ?_, HW2.out.2.1.far (p := ⟨g, off + (n + 2), none⟩) hgh _, only_setCell hgr2 rfl _⟩
              · show Ending.returned (.int .u32 ((q : Int) - 1)) = _
                congr 2
                omega
              · have hset := HW2.out.1.set (k := n + 2) (by rw [HW2.out.2.2.2]; omega) ((e + cc) % bs)
                rw [bs_eq] at hset ⊢
                exact hset
end Go.Proofs.YtjiccijfbpkliaaGreatDoor
