/-
  Several texts in one: Lists of measures: how they lie, and how they grow. Nothing here walks the program. The chapter's example, plain: the chart, its text, its values. No program in sight. chart.Column. Conditions: as Value. garmentref18.SameMeasures at equal lists. Charts in normal form in memory: slices of ratios and of rows whose numbers have no spare limbs, and how they grow. Nothing here walks the program. A row of a chart while it is read: its box and its steps. Nothing here walks the program. chart.parseRow returns the row of a line, or the error. Conditions: Std; words of at most 1,000,000 bytes, at most 100,000 of them; at least one size. garmentref18.read returns the row of a line, or the error. Conditions: words of at most 1,000,000 bytes, at most 100,000 of them; at least one size. Plain facts on what a text of a chart holds, and how strings.Cut, strings.Split and slices.Contains serve. Conditions: Std; texts of at most 1,000,000 bytes. A chart's box while a text is read. Nothing here walks the program. chart.Parse returns the chart that a text describes, or the error. Conditions: Std; a text of at most 1,000,000 bytes. chart.Print returns the text of a chart, or the error. Conditions: as Check's; Std. garmentlaw18.exampleHolds returns true. Conditions: Std. The law ChartChecks returns true. Conditions: Std; the chart's data lie in memory.
-/
import Derived.Test.YtjiccijfbpkliaaGreatDoorG20
import Derived.Test.YtjiccijfbpkliaaGreatDoorG22
import Derived.Test.YtjiccijfbpkliaaGreatDoorG23
import Derived.Test.YtjiccijfbpkliaaGreatDoorG25
import Derived.Test.YtjiccijfbpkliaaGreatDoorG26
import Derived.Test.YtjiccijfbpkliaaGreatDoorG27
import Derived.Test.YtjiccijfbpkliaaGreatDoorG28

/- Lists of measures: how they lie, and how they grow. Nothing here walks the program. -/
namespace Go.Proofs.YtjiccijfbpkliaaGreatDoor
open Go.RowKit

/-- The header of a ratio in normal form. -/
structure QH where
  q : Rat
  A : Option Addr
  n : Nat
  c : Nat
  B : Option Addr
  m : Nat
  d : Nat
def QH.cells (t : QH) : List Value := [.bool (ineg t.q.num), .slice t.A t.n t.c, .slice t.B t.m t.d]
def QH.Ok (t : QH) (w : World) : Prop := Sl w w.heap.size t.A t.n (u32s (limbs t.q.num.natAbs)) ∧ t.n ≤ t.c ∧ Sl w w.heap.size t.B t.m (u32s (limbs t.q.den)) ∧ t.m ≤ t.d
theorem QH.Ok.on {t : QH} {w w' : World} (h : t.Ok w) (hb : Below w.heap.size w w') : t.Ok w' := ⟨h.1.on hb, h.2.1, h.2.2.1.on hb, h.2.2.2⟩
theorem QH.Ok.safe {t : QH} {w : World} {r : Option Nat} (h : t.Ok w) (hr : ∀ g, r = some g → NoU w g) : Safe w r t.Ok := fun w' hw =>
  ⟨Safe.sl h.1 hr w' hw, h.2.1, Safe.sl h.2.2.1 hr w' hw, h.2.2.2⟩
/-- A measure's cells. -/
def mCells (p : ByteArray × QH) : List Value := .string p.1 :: p.2.cells
theorem mCells_len (ts : List (ByteArray × QH)) : (ts.flatMap mCells).length = ts.length * 4 := by
  induction ts with
  | nil => rfl
  | cons t ts ih => rw [List.flatMap_cons, List.length_append, ih, List.length_cons]; simp [mCells, QH.cells]; omega
def mOf (ts : List (ByteArray × QH)) : List (ByteArray × Rat) := ts.map fun p => (p.1, p.2.q)
/-- The slice '.slice A n _' reads as the measures ms, in normal form. -/
def MeasA (w : World) (A : Option Addr) (n : Nat) (ms : List (ByteArray × Rat)) : Prop :=
  ∃ ts : List (ByteArray × QH), mOf ts = ms ∧ ts.length = n ∧ (0 < n → ∃ b off, A = some ⟨b, off, none⟩ ∧ b < w.heap.size ∧ ∀ j u, (ts.flatMap mCells)[j]? = some u → w.cell? ⟨b, off + j, none⟩ = some u) ∧ ∀ t ∈ ts, t.2.Ok w
theorem MeasA.on {w w' : World} {A : Option Addr} {n : Nat} {ms : List (ByteArray × Rat)} (h : MeasA w A n ms) (hb : Below w.heap.size w w') : MeasA w' A n ms := by
  obtain ⟨ts, h1, h2, h3, h4⟩ := h
  refine ⟨ts, h1, h2, fun h0 => ?_, fun t ht => (h4 t ht).on hb⟩
  obtain ⟨b, off, e, hlt, hc⟩ := h3 h0
  exact ⟨b, off, e, Nat.lt_of_lt_of_le hlt hb.size, fun j u hu => (hb.cell (p := ⟨b, off + j, none⟩) hlt).trans (hc j u hu)⟩
/-- All values in a size. -/
def colOf (ch : PChart) (size : Int) : List (ByteArray × Rat) := ch.rows.map fun r => (r.name, r.base + chg r.steps ch.base.toNat size.toNat)
def colErr (ch : PChart) (size : Int) : Int := if chkP ch ≠ 0 then chkP ch else if isIdx ch size = false then 3 else 0
def RetCol (ch : PChart) (size : Int) (w : World) (e : Ending) (w' : World) : Prop :=
  ∃ A n c, e = .returned (.tuple #[.slice A n c, .int .i64 (colErr ch size)]) ∧ n ≤ c ∧ MeasA w' A n (if colErr ch size = 0 then colOf ch size else []) ∧ Below w.heap.size w w'
theorem MeasA.nil (w : World) (A : Option Addr) : MeasA w A 0 [] := ⟨[], rfl, rfl, fun h => absurd h (by omega), fun t h => by cases h⟩
/-- What Column's loop keeps: k rows are done. -/
def colRel (ch : PChart) (size : Int) (t : TypeId) (w : World) (k : Nat) (v : Value) (wr : World) : Prop :=
  ∃ ts : List (ByteArray × QH), ts.length = k ∧ mOf ts = (colOf ch size).take k ∧ OwnN wr w.heap.size t 4 v k (ts.flatMap mCells) ∧ (∀ p ∈ ts, Safe wr v.ownBlock p.2.Ok)
theorem colRel.start (ch : PChart) (size : Int) (t : TypeId) (w w1 : World) : colRel ch size t w 0 (.slice none 0 0) w1 := ⟨[], rfl, rfl, OwnN.nil _ _ _ _, fun p h => by cases h⟩
theorem colRel.below {ch : PChart} {size : Int} {t : TypeId} {w wr w' : World} {k : Nat} {v : Value} (h : colRel ch size t w k v wr) (hb : Below wr.heap.size wr w') : colRel ch size t w k v w' := by
  obtain ⟨ts, h1, h2, h3, h4⟩ := h
  exact ⟨ts, h1, h2, h3.below hb, fun p hp => (h4 p hp).below hb⟩
theorem colRel.more {ch : PChart} {size : Int} {t : TypeId} {w wr w' : World} {k : Nat} {v v' : Value} {ts : List (ByteArray × QH)} {r : PRow} (hr : ch.rows[k]? = some r) (x : QH) (hq : x.q = r.base + chg r.steps ch.base.toNat size.toNat)
    (h1 : ts.length = k) (h2 : mOf ts = (colOf ch size).take k) (hown : OwnN wr w.heap.size t 4 v k (ts.flatMap mCells)) (h4 : ∀ p ∈ ts, Safe wr v.ownBlock p.2.Ok) (hx : x.Ok wr)
    (ho : OwnN w' w.heap.size t 4 v' (k + 1) (ts.flatMap mCells ++ mCells (r.name, x))) (hg : wr.grownBy w' v.ownBlock) (hn : ∀ g, v'.ownBlock = some g → v.ownBlock = some g ∨ wr.heap.size ≤ g) : colRel ch size t w (k + 1) v' w' := by
  refine ⟨ts ++ [(r.name, x)], by simp [h1], ?_, ?_, fun p hp => ?_⟩
  · have hc : (colOf ch size)[k]? = some (r.name, x.q) := by rw [colOf, List.getElem?_map, hr, hq]; rfl
    rw [List.take_add_one, hc, ← h2]
    simp [mOf]
  · rw [List.flatMap_append]
    simpa using ho
  · rcases List.mem_append.1 hp with h | h
    · exact (h4 p h).next hg hn
    · obtain rfl : p = (r.name, x) := by simpa using h
      exact (hx.safe hown.2).next hg hn
theorem colRel.done {ch : PChart} {size : Int} {t : TypeId} {w wr : World} {k : Nat} {v : Value} (h : colRel ch size t w k v wr) (hk : ch.rows.length = k) : ∃ A c, v = .slice A k c ∧ k ≤ c ∧ MeasA wr A k (colOf ch size) := by
  obtain ⟨ts, h1, h2, h3, h4⟩ := h
  rw [List.take_of_length_le (by rw [colOf, List.length_map]; omega)] at h2
  rcases h3.1.2 with ⟨rfl, rfl⟩ | ⟨g, cap, cur, rfl, hbg, hgc, hnc, hcm, hcs, htake⟩
  · exact ⟨none, 0, rfl, Nat.le_refl _, ts, h2, h1, fun h => absurd h (by omega), fun t ht => (h4 t ht).out⟩
  · refine ⟨_, cap, rfl, hnc, ts, h2, h1, fun _ => ⟨g, 0, rfl, (h3.1.lt g rfl).2, fun j u hu => ?_⟩, fun t ht => (h4 t ht).out⟩
    have hc := h3.1.cells (g := g) rfl j u hu
    rw [Go.WideShapes.add_plain] at hc
    exact hc
end Go.Proofs.YtjiccijfbpkliaaGreatDoor

/- The chapter's example, plain: the chart, its text, its values. No program in sight. -/
namespace Go.Proofs.YtjiccijfbpkliaaGreatDoor
open Go.Lib hiding intOf

def exText : List UInt8 := [115, 105, 122, 101, 115, 32, 83, 32, 77, 32, 76, 32, 98, 97, 115, 101, 32, 77, 10, 99, 104, 101, 115, 116, 32, 57, 50, 32, 52, 32, 53, 10]
def exChest : ByteArray := ⟨#[99, 104, 101, 115, 116]⟩
def exWaist : ByteArray := ⟨#[119, 97, 105, 115, 116]⟩
def exRow : PRow := ⟨exChest, 92, [0, 4, 5]⟩
def exCh : PChart := ⟨[⟨#[83]⟩, ⟨#[77]⟩, ⟨#[76]⟩], 1, [exRow]⟩
theorem ex_chk : chkP exCh = 0 := by kernel_rfl
theorem ex_parse : parseR exText = .ok exCh := by kernel_rfl
theorem ex_bad : parseR [115, 105, 122, 101, 115, 32, 83, 32, 98, 97, 115, 101, 32, 77, 10] = .error 6 := by kernel_rfl
theorem ex_print : printE exCh = 0 ∧ printT exCh = exText := by
  obtain ⟨h1, h2, h3⟩ := print_parse ex_parse
  have e : printE exCh = 0 := by rw [printE, if_neg (by simp [h1]), if_neg (by rw [h2]; omega)]
  exact ⟨e, by rw [printT, if_pos e, h2]⟩
theorem ex_found : Found exCh.rows exChest 0 := .inr ⟨0, exRow, rfl, rfl, rfl, fun j r hj => by omega⟩
theorem ex_lost : Found exCh.rows exWaist (-1) := .inl ⟨rfl, fun j r hr e => by
  have hm : r ∈ [exRow] := List.mem_of_getElem? hr
  obtain rfl : r = exRow := by simpa using hm
  revert e
  decide⟩
theorem ex_v1 : valErr exCh 0 0 = 0 ∧ valOf exCh 0 0 = 88 := ⟨by kernel_rfl, by kernel_rfl⟩
theorem ex_v2 : valErr exCh 3 0 = 3 := by kernel_rfl
theorem ex_v3 : valErr exCh 0 (-1) = 6 := by kernel_rfl
theorem ex_c : chgErr exCh 2 0 0 = 0 ∧ chgOf exCh 2 0 0 = -9 := ⟨by kernel_rfl, by kernel_rfl⟩
theorem ex_col : colErr exCh 2 = 0 ∧ colOf exCh 2 = [(exChest, 97)] := ⟨by kernel_rfl, by kernel_rfl⟩
theorem ex_nil : chkP ⟨[], 0, []⟩ = 1 := by kernel_rfl
theorem ex_w1 : wholeQ ((88 : Nat) : Int) = 88 := by kernel_rfl
theorem ex_w2 : wholeQ (-(((8 : Nat) : Int) + 1)) = -9 := by kernel_rfl
theorem ex_w3 : wholeQ ((97 : Nat) : Int) = 97 := by kernel_rfl
theorem qk_small {q : Rat} (h1 : q.num.natAbs < 1000) (h2 : q.den < 1000) : qk q 1 := ⟨nl_small (by unfold bs; omega), nl_small (by unfold bs; omega)⟩
theorem ex_qk : ∀ r ∈ exCh.rows, qk r.base 1 ∧ ∀ q ∈ r.steps, qk q 1 := by
  intro r hr
  obtain rfl : r = exRow := by simpa [exCh] using hr
  refine ⟨qk_small (by decide) (by decide), fun q hq => ?_⟩
  simp only [exRow, List.mem_cons, List.mem_nil_iff, or_false] at hq
  rcases hq with rfl | rfl | rfl <;> exact qk_small (by decide) (by decide)
theorem qk88 : qk 88 1 := qk_small (by decide) (by decide)
theorem qk9 : qk (-9) 1 := qk_small (by decide) (by decide)
theorem qk97 : qk 97 1 := qk_small (by decide) (by decide)
end Go.Proofs.YtjiccijfbpkliaaGreatDoor

/- chart.Column. Conditions: as Value. -/
namespace Go.Proofs.YtjiccijfbpkliaaGreatDoor
open Go.RowKit
open Go.Lib hiding intOf

theorem Blk.grown {w w' : World} {g : Nat} {t : TypeId} {cs : Array Value} {r : Option Nat} (h : Blk w g t cs) (hg : w.grownBy w' r) (hne : some g ≠ r) : Blk w' g t cs := (hg.block g h.lt hne).trans h
theorem meas_info : (Tryz.prog.info? 62).map (fun i => (i.zero, i.size, i.bytes)) = some (some (.agg #[.string ByteArray.empty, .bool false, .slice none 0 0, .slice none 0 0]), 4, 72) := by kernel_rfl
theorem step_meas {w : World} {ops : Array Oper} {o : Oper} {a : Act} {K : Act → World → Prop} {Q : Exit → Act → World → Prop} {E : Prop} (hgd : o.guard = none) (s x : Operand)
    (ho : o.op = Op.call { callee := Callee.builtin Builtin.append, args := #[s, x], argTypes := #[39, 39] })
    (base n : Nat) (v : Value) (l : List Value) (hs : a.eval s = v) (hown : OwnN w base 62 4 v n l)
    (g : Nat) (hx : a.eval x = .slice (some ⟨g, 0, none⟩) 1 1) (nm : ByteArray) (t : QH) {ty : TypeId} (hc : Blk w g ty (mCells (nm, t)).toArray) (hn : n ≤ 100000000) (hbase : base ≤ w.heap.size)
    (h : ∀ v' w', OwnN w' base 62 4 v' (n + 1) (l ++ mCells (nm, t)) → w.grownBy w' v.ownBlock → (∀ g, v'.ownBlock = some g → v.ownBlock = some g ∨ w.heap.size ≤ g) → K (a.put o.dst v') w') :
    if Region.wanted o (yielded ops a.tmps) = true then Oper.wp Tryz.prog o a w K Q else E := by
  have hw : Region.wanted o (yielded ops a.tmps) = true := by simp [Region.wanted, hgd]
  rw [if_pos hw]
  obtain ⟨i0, hi, hz0, hz1, hz2⟩ := info_parts meas_info
  obtain ⟨v', w', hr, h2, h3, h4⟩ := run_append_ownN (P := Tryz.prog) w base 39 o.type 62 i0 _ 4 72 Tryz.underlying39 hi hz0 hz1 hz2 rfl (by decide) (by simp [Value.cells]) v n l hown ⟨g, 0, none⟩ 1 (mCells (nm, t)) rfl
    (fun j u hu => by
      rw [Go.WideShapes.add_plain]
      exact hc.c (by simpa using hu))
    (fun u hu => by
      simp only [mCells, QH.cells, List.mem_cons, List.mem_nil_iff, or_false] at hu
      rcases hu with rfl | rfl | rfl | rfl <;> rfl)
    (fun u hu => by
      simp only [mCells, QH.cells, List.mem_cons, List.mem_nil_iff, or_false] at hu
      rcases hu with rfl | rfl | rfl | rfl <;> simp) (by unfold maxLen; omega) (by omega) hbase
  unfold Oper.wp execOp
  simp only [ho, resolve, invoke, builtin, Sem.run_bind, Sem.run_pure, Result.andThen_ok, List.map_toArray, List.map_cons, List.map_nil, hs, hx, hr]
  exact h v' w' h2 h3 h4

set_option maxRecDepth 100000 in
set_option maxHeartbeats 6400000 in
theorem Column_any (S : Option Addr) (n c : Nat) (R : Option Addr) (m d k : Nat) (ch : PChart) (size : Int) (w : World) (h : ChkA w S n c R m d k ch) (hk2 : k ≤ 400) :
    Calls Tryz.prog 19 #[.agg #[.slice S n c, .int .i64 ch.base, .slice R m d], .int .i64 size] w (RetCol ch size w) := by
  have hsl := h.slen
  have hrl := h.rlen
  have hB : Below w.heap.size w (w.alloc (.cells #[.slice S n c, .int .i64 ch.base, .slice R m d] 25)) := (Below.refl _ _).alloc (Nat.le_refl _) _
  have X0 := Blk.new w 25 #[.slice S n c, .int .i64 ch.base, .slice R m d]
  have HA := Lib.hid h
  have HC := fun W (hb : Below w.heap.size w W) => check_any S n c R m d k ch W (h.on hb)
  obtain ⟨E, hE⟩ : ∃ E, chkP ch = E := ⟨_, rfl⟩
  simp only [hE] at HC
  have HC := Lib.hid HC
  have HE := Lib.hid hE
  have HL := Lib.hid (And.intro hsl hrl)
  have n1 := h.len
  have m1 := h.lenr
  clear h hsl hrl hE
  go_enter Tryz.func19, Tryz.ntmps19
  go_wp2_with fail
  refine (HC.out _ hB).mono ?_
  rintro e w1 ⟨rfl, hb1⟩
  have X1 := X0.below hb1
  have B1 := hB.trans (hb1.mono hB.size)
  obtain ⟨x0, x1, x2⟩ := three X1
  clear X0 hB hb1
  by_cases hE0 : E = 0
  · subst hE0
    have hck := chk_zero HE.out
    have HCK := Lib.hid hck
    have HI := isIndex_any S n c ch.base R m d size w1
    rw [← idx_iff HL.out.1] at HI
    clear hck
    cases hq : isIdx ch size
    · have HV : Hid (colErr ch size = 3) := by rw [Hid, colErr, HE.out, if_neg (by simp), if_pos hq]
      rw [hq] at HI
      have HI := Lib.hid HI
      have HB1 := Lib.hid B1
      clear hq X1 B1
      go_wp2_with fail
      refine HI.out.mono ?_
      rintro e w2 ⟨rfl, hb2⟩
      go_wp2_with fail
      refine bodyPost_ret (v := .tuple #[.slice none 0 0, .int .i64 3]) (by simp [results, Tryz.results19, go_sem]) rfl ?_
      refine ⟨none, 0, 0, by rw [HV.out], Nat.le_refl _, ?_, HB1.out.trans (hb2.mono HB1.out.size)⟩
      rw [HV.out, if_neg (by omega)]
      exact MeasA.nil _ _
    · have hqi := isIdx_iff.1 hq
      obtain ⟨sz, rfl⟩ : ∃ sz : Nat, size = (sz : Int) := ⟨size.toNat, by omega⟩
      have HV : Hid (colErr ch (sz : Int) = 0) := by rw [Hid, colErr, HE.out, if_neg (by simp), if_neg (by rw [hq]; simp)]
      rw [hq] at HI
      have HI := Lib.hid HI
      have HX1 := Lib.hid X1
      have HB1 := Lib.hid B1
      have HQI := Lib.hid hqi
      clear hq X1 B1 hqi
      go_wp2_with fail
      refine HI.out.mono ?_
      rintro e w2 ⟨rfl, hb2⟩
      have X2 := HX1.out.below hb2
      have HB2 := Lib.hid (HB1.out.trans (hb2.mono HB1.out.size))
      have HX2 := Lib.hid X2
      obtain ⟨x0, x1, x2⟩ := three X2
      clear hb2 HX1 HB1 X2
      go_wp2_with fail
      go_loopw [7, 22] (fun s7 s22 wr => ∃ j : Nat, j ≤ m ∧ s22 = .int .i64 (j : Int) ∧ colRel ch (sz : Int) 62 w2 j s7 wr ∧ Below w2.heap.size w2 wr) (fun _ s22 _ => m - (intOf s22).toNat)
      case atStart => exact ⟨0, Nat.zero_le _, rfl, colRel.start _ _ _ _ _, Below.refl _ _⟩
      case round =>
        obtain ⟨j, hj, rfl, hcol, hbel⟩ := hrel
        by_cases hlt : j < m
        · have B3 := HB2.out.trans (hbel.mono HB2.out.size)
          obtain ⟨b, off, r, neg, C, cm, cc, D, dl, dd, T, sn, sc, rfl, hr, g0, g1, g2, g3, g4, hra, hbw⟩ := (HA.out.lies.2.on B3).row hlt
          have hrn : r.steps.length = n := by rw [row_len HCK.out.2.2.1 hr]; exact HL.out.1
          have hb0 := HCK.out.2.2.2.2.2.1
          have hb1 := HCK.out.2.2.2.2.2.2
          rw [HL.out.1] at hb1
          have hn12 := HCK.out.1
          rw [HL.out.1] at hn12
          have hqi2 := HQI.out.2
          rw [HL.out.1] at hqi2
          have HVA := fun W (hb : Below wr.heap.size wr W) => value_any' S n c (some ⟨b, off, none⟩) m d ch.base.toNat (.agg #[.string r.name, .bool neg, .slice C cm cc, .slice D dl dd, .slice T sn sc]) k r sz W (hra.on hb) HA.out.one hk2 (by omega) (by omega) (by omega)
          rw [Int.toNat_of_nonneg hb0] at HVA
          generalize hqq : r.base + chg r.steps ch.base.toNat sz = q at HVA
          have HQ0 := Lib.hid hqq
          have HVA := Lib.hid HVA
          have hBa := (Below.refl wr.heap.size wr).alloc (Nat.le_refl _) (.cells #[.string r.name, .bool neg, .slice C cm cc, .slice D dl dd, .slice T sn sc] 57)
          have X3 := (HX2.out.below hbel).alloc (.cells #[.string r.name, .bool neg, .slice C cm cc, .slice D dl dd, .slice T sn sc] 57)
          have Y3 := Blk.new wr 57 #[.string r.name, .bool neg, .slice C cm cc, .slice D dl dd, .slice T sn sc]
          obtain ⟨x0, x1, x2⟩ := three (HX2.out.below hbel)
          have hxl := (HX2.out.below hbel).lt
          have hxl2 : w.heap.size < wr.heap.size + 1 := by omega
          have HN1 : Hid (some w.heap.size ≠ u7.ownBlock) := fun e => by
            obtain ⟨ts, t1, t2, t3, t4⟩ := hcol
            have := (t3.1.lt _ e.symm).1
            have := HX2.out.lt
            omega
          have HN2 : Hid (some wr.heap.size ≠ u7.ownBlock) := fun e => by
            obtain ⟨ts, t1, t2, t3, t4⟩ := hcol
            have := (t3.1.lt _ e.symm).2
            omega
          have hw2 : w2.heap.size ≤ wr.heap.size := hbel.size
          obtain ⟨ts, t1, t2, t3, t4⟩ := hcol.below hBa
          have HT := Lib.hid (And.intro t1 (And.intro t2 (And.intro t3 t4)))
          have HBA := Lib.hid hBa
          have HX3 := Lib.hid X3
          have HY3 := Lib.hid Y3
          have HBL := Lib.hid (hbel.trans (hBa.mono hbel.size))
          have HR := Lib.hid hr
          have i1 : (0 : Int) ≤ (j : Int) := by omega
          have i2 : (j : Int) < (m : Int) := by omega
          clear hqq hr hra B3 X3 Y3 hrn hbel hcol t1 t2 t3 t4 hBa
          go_wp2_with fail
          go_region_held3 (fun w' => w'.cell? ⟨w.heap.size, 0, none⟩ = some (.slice S n c) ∧ w'.cell? ⟨w.heap.size, 1, none⟩ = some (.int .i64 ch.base) ∧ w'.cell? ⟨w.heap.size, 2, none⟩ = some (.slice (some ⟨b, off, none⟩) m d) ∧ w'.cell? ⟨wr.heap.size, 0, none⟩ = some (.string r.name) ∧ w'.cell? ⟨wr.heap.size, 1, none⟩ = some (.bool neg) ∧ w'.cell? ⟨wr.heap.size, 2, none⟩ = some (.slice C cm cc) ∧ w'.cell? ⟨wr.heap.size, 3, none⟩ = some (.slice D dl dd) ∧ w'.cell? ⟨wr.heap.size, 4, none⟩ = some (.slice T sn sc))
            (go_keep)
            (first
             | (go_at_call 45; go_must ((go_fit (HVA.out _ HBA.out.drew)); rintro e w4 ⟨A4, n4, c4, B4, m4, d4, rfl, r5, r6, r7, r8, hb4⟩; have HB4 := Lib.hid (HBA.out.drew.trans (hb4.mono HBA.out.size)); have HR4 := Lib.hid (And.intro r5 r7); have hb40 := Lib.hid (show Below (wr.alloc (.cells #[.string r.name, .bool neg, .slice C cm cc, .slice D dl dd, .slice T sn sc] 57)).heap.size (wr.alloc (.cells #[.string r.name, .bool neg, .slice C cm cc, .slice D dl dd, .slice T sn sc] 57)) w4 from ⟨hb4.os, hb4.tape, hb4.output, hb4.size, hb4.block⟩); obtain ⟨hcl, hfr⟩ := bcell hb40.out; clear r5 r7 hb4))
             | ((refine step_meas (by rfl) _ _ (by rfl) w2.heap.size j _ _ (by rfl) (HT.out.2.2.1.below (by exact Below.alo hb40.out _)) w4.heap.size (by rfl) r.name ⟨q, A4, n4, c4, B4, m4, d4⟩ (by exact Blk.new _ _ _) (by omega) (by simp; have := hb40.out.size; simp at this; omega) ?_); intro v5 w5 ho5 hg5 hn5; have X5 := ((HX3.out.below hb40.out).alloc _).grown hg5 HN1.out; have Y5 := ((HY3.out.below hb40.out).alloc _).grown hg5 HN2.out; obtain ⟨p0, p1, p2⟩ := three X5; have y0 := Y5.c (i := 0) rfl; have y1 := Y5.c (i := 1) rfl; have y2 := Y5.c (i := 2) rfl; have y3 := Y5.c (i := 3) rfl; have y4 := Y5.c (i := 4) rfl; clear X5 Y5))
          go_wp2_with fail
          go_roundw
          case rel =>
            refine ⟨j + 1, by omega, by go_num, colRel.more HR.out ⟨q, A4, n4, c4, B4, m4, d4⟩ (by rw [Int.toNat_natCast]; exact HQ0.out.symm) HT.out.1 HT.out.2.1 (HT.out.2.2.1.below (Below.alo hb40.out _)) (fun p hp => (HT.out.2.2.2 p hp).below (Below.alo hb40.out _)) ⟨HR4.out.1.alo _, r6, HR4.out.2.alo _, r8⟩ ho5 hg5 hn5, ?_⟩
            refine (Below.alo (HBL.out.trans (hb40.out.mono HBL.out.size)) _).grown hg5 (by have := hb40.out.size; simp at this ⊢; omega) fun g e => (HT.out.2.2.1.1.lt _ e).1
          case measure => simp [intOf]; omega
        · obtain rfl : j = m := by omega
          obtain ⟨A, cc, rfl, hcc, hme⟩ := hcol.done HL.out.2
          have HM := Lib.hid hme
          have HB := Lib.hid (HB2.out.trans (hbel.mono HB2.out.size))
          clear hcol hme hbel
          go_wp2_with fail
          refine bodyPost_ret (v := .tuple #[.slice A j cc, .int .i64 0]) (by simp [results, Tryz.results19, go_sem]) rfl ?_
          refine ⟨A, j, cc, by rw [HV.out], hcc, ?_, HB.out⟩
          rw [HV.out, if_pos rfl]
          exact HM.out
  · have hE1 : (E != 0) = true := by simpa using hE0
    have HV : Hid (colErr ch size = E) := by rw [Hid, colErr, HE.out, if_pos hE0]
    have HB1 := Lib.hid B1
    clear X1 B1
    go_wp2_with fail
    refine bodyPost_ret (v := .tuple #[.slice none 0 0, .int .i64 E]) (by simp [results, Tryz.results19, go_sem]) rfl ?_
    refine ⟨none, 0, 0, by rw [HV.out], Nat.le_refl _, ?_, HB1.out⟩
    rw [HV.out, if_neg hE0]
    exact MeasA.nil _ _
end Go.Proofs.YtjiccijfbpkliaaGreatDoor

/- garmentref18.SameMeasures at equal lists. -/
namespace Go.Proofs.YtjiccijfbpkliaaGreatDoor
open Go.RowKit
open Go.Lib hiding intOf

theorem mCells_at {ts : List (ByteArray × QH)} {j : Nat} {t : ByteArray × QH} (h : ts[j]? = some t) (i : Nat) (hi : i < 4) : (ts.flatMap mCells)[j * 4 + i]? = (mCells t)[i]? := by
  induction ts generalizing j with
  | nil => simp at h
  | cons x ts ih =>
    have hx : (mCells x).length = 4 := rfl
    rw [List.flatMap_cons]
    cases j with
    | zero =>
      obtain rfl : x = t := by simpa using h
      rw [Nat.zero_mul, Nat.zero_add, List.getElem?_append_left (by omega)]
    | succ j =>
      rw [List.getElem?_append_right (by omega), hx, show (j + 1) * 4 + i - 4 = j * 4 + i by omega]
      exact ih (by simpa using h)
theorem MeasA.at_ {w : World} {A : Option Addr} {n : Nat} {ms : List (ByteArray × Rat)} (h : MeasA w A n ms) {j : Nat} (hj : j < n) :
    ∃ b off nm, ∃ t : QH, A = some ⟨b, off, none⟩ ∧ b < w.heap.size ∧ ms[j]? = some (nm, t.q) ∧ w.cell? ⟨b, off + j * 4, none⟩ = some (.string nm) ∧ w.cell? ⟨b, off + j * 4 + 1, none⟩ = some (.bool (ineg t.q.num)) ∧ w.cell? ⟨b, off + j * 4 + 2, none⟩ = some (.slice t.A t.n t.c) ∧ w.cell? ⟨b, off + j * 4 + 3, none⟩ = some (.slice t.B t.m t.d) ∧ t.Ok w := by
  obtain ⟨ts, h1, h2, h3, h4⟩ := h
  obtain ⟨b, off, e, hlt, hc⟩ := h3 (by omega)
  have hl : j < ts.length := by omega
  have ht := List.getElem?_eq_getElem hl
  have hc' : ∀ i u, i < 4 → (mCells ts[j])[i]? = some u → w.cell? ⟨b, off + (j * 4 + i), none⟩ = some u := fun i u hi hu => hc _ u ((mCells_at ht i hi).trans hu)
  refine ⟨b, off, ts[j].1, ts[j].2, e, hlt, ?_, hc' 0 _ (by omega) rfl, hc' 1 _ (by omega) rfl, hc' 2 _ (by omega) rfl, hc' 3 _ (by omega) rfl, h4 _ (List.getElem_mem hl)⟩
  rw [← h1, mOf, List.getElem?_map, ht]
  rfl
theorem MeasA.len {w : World} {A : Option Addr} {n : Nat} {ms : List (ByteArray × Rat)} (h : MeasA w A n ms) : ms.length = n := by
  obtain ⟨ts, h1, h2, _⟩ := h
  rw [← h1, mOf, List.length_map, h2]

set_option maxRecDepth 100000 in
set_option maxHeartbeats 3200000 in
theorem samem_true (A : Option Addr) (n c : Nat) (B : Option Addr) (d : Nat) (ms : List (ByteArray × Rat)) (w : World) (ha : MeasA w A n ms) (hb : MeasA w B n ms) (hq : ∀ (j : Nat) (p : ByteArray × Rat), ms[j]? = some p → qk p.2 100000) (hn : n ≤ 1000000) :
    Calls Tryz.prog 22 #[.slice A n c, .slice B n d] w fun e w' => e = .returned (.bool true) ∧ Below w.heap.size w w' := by
  have HA := Lib.hid (And.intro ha hb)
  have HQ := Lib.hid hq
  clear ha hb hq
  go_enter Tryz.func22, Tryz.ntmps22
  go_wp2_with fail
  go_loopw [5] (fun i wr => ∃ k : Nat, k ≤ n ∧ i = .int .i64 (k : Int) ∧ Below w.heap.size w wr) (fun i _ => n - (intOf i).toNat)
  case atStart => exact ⟨0, Nat.zero_le _, rfl, Below.refl _ _⟩
  case round =>
    obtain ⟨k, hk, rfl, hbel⟩ := hrel
    by_cases hlt : k < n
    · obtain ⟨b, off, nm, t, rfl, hbw, hm, f0, f1, f2, f3, hok⟩ := (HA.out.1.on hbel).at_ hlt
      obtain ⟨b2, off2, nm2, t2, rfl, hbw2, hm2, g0, g1, g2, g3, hok2⟩ := (HA.out.2.on hbel).at_ hlt
      rw [hm] at hm2
      have hm2 := Option.some.inj hm2
      obtain ⟨q, A1, n1, c1, B1, m1, d1⟩ := t
      obtain ⟨q2, A2, n2, c2, B2, m2, d2⟩ := t2
      simp only [Prod.mk.injEq] at hm2
      obtain ⟨rfl, rfl⟩ := hm2
      have hqk := HQ.out k _ hm
      have HS := Lib.hid (fun W (hW : Below wr.heap.size wr W) => same_true _ _ _ _ _ W ((LiesA.of (c := c1) (d := d1) hok.1 hok.2.2.1 hqk (Nat.le_refl _)).on hW) ((LiesA.of (c := c2) (d := d2) hok2.1 hok2.2.2.1 hqk (Nat.le_refl _)).on hW))
      have HB := Lib.hid hbel
      have i1 : (0 : Int) ≤ (k : Int) := by omega
      have i2 : (k : Int) < (n : Int) := by omega
      clear hok hok2 hqk hm hbel
      go_wp2_with fail
      go_region_held3 (fun w' => w'.cell? ⟨b, off + k * 4, none⟩ = some (.string nm) ∧ w'.cell? ⟨b, off + k * 4 + 1, none⟩ = some (.bool (ineg q.num)) ∧ w'.cell? ⟨b, off + k * 4 + 2, none⟩ = some (.slice A1 n1 c1) ∧ w'.cell? ⟨b, off + k * 4 + 3, none⟩ = some (.slice B1 m1 d1) ∧ w'.cell? ⟨b2, off2 + k * 4, none⟩ = some (.string nm) ∧ w'.cell? ⟨b2, off2 + k * 4 + 1, none⟩ = some (.bool (ineg q.num)) ∧ w'.cell? ⟨b2, off2 + k * 4 + 2, none⟩ = some (.slice A2 n2 c2) ∧ w'.cell? ⟨b2, off2 + k * 4 + 3, none⟩ = some (.slice B2 m2 d2))
        (go_keep)
        ((go_at_call 21; go_must ((go_fit (HS.out _ (Below.refl _ _).drew)); rintro e w1 ⟨rfl, hb1'⟩; have hb1 := (show Below wr.heap.size wr w1 from ⟨hb1'.os, hb1'.tape, hb1'.output, hb1'.size, hb1'.block⟩); obtain ⟨hcl, hfr⟩ := bcell hb1)))
      go_wp2_with fail
      go_roundw
      case rel => exact ⟨k + 1, by omega, by go_num, HB.out.trans (hb1.mono HB.out.size)⟩
      case measure => simp [intOf]; omega
    · have HB := Lib.hid hbel
      clear hbel
      go_wp2_with fail
      go_ret
      exact ⟨rfl, HB.out⟩
end Go.Proofs.YtjiccijfbpkliaaGreatDoor

/- Charts in normal form in memory: slices of ratios and of rows whose numbers have no spare limbs, and how they grow. Nothing here walks the program. -/
namespace Go.Proofs.YtjiccijfbpkliaaGreatDoor
open Go.RowKit

theorem flat_at {α : Type} {f : α → List Value} {s : Nat} (hf : ∀ x, (f x).length = s) {ts : List α} {j : Nat} {t : α} (h : ts[j]? = some t) (i : Nat) (hi : i < s) : (ts.flatMap f)[j * s + i]? = (f t)[i]? := by
  induction ts generalizing j with
  | nil => simp at h
  | cons x ts ih =>
    have hx := hf x
    rw [List.flatMap_cons]
    cases j with
    | zero =>
      obtain rfl : x = t := by simpa using h
      rw [Nat.zero_mul, Nat.zero_add, List.getElem?_append_left (by omega)]
    | succ j =>
      have e : (j + 1) * s + i - s = j * s + i := by rw [Nat.succ_mul]; omega
      rw [List.getElem?_append_right (by rw [Nat.succ_mul]; omega), hx, e]
      exact ih (by simpa using h)
theorem QH.len (t : QH) : t.cells.length = 3 := rfl

/-- The slice '.slice A n _' reads as the ratios qs, in normal form. -/
def RatsN (w : World) (A : Option Addr) (n : Nat) (qs : List Rat) : Prop :=
  ∃ ts : List QH, ts.map (·.q) = qs ∧ ts.length = n ∧ (0 < n → ∃ b off, A = some ⟨b, off, none⟩ ∧ b < w.heap.size ∧ ∀ j u, (ts.flatMap QH.cells)[j]? = some u → w.cell? ⟨b, off + j, none⟩ = some u) ∧ ∀ t ∈ ts, t.Ok w
/-- The header of a row. -/
structure RH where
  r : PRow
  x : QH
  S : Option Addr
  n : Nat
  c : Nat
def RH.cells (h : RH) : List Value := .string h.r.name :: (h.x.cells ++ [.slice h.S h.n h.c])
theorem RH.len (h : RH) : h.cells.length = 5 := rfl
def RH.Ok (h : RH) (w : World) : Prop := h.x.q = h.r.base ∧ h.x.Ok w ∧ RatsN w h.S h.n h.r.steps ∧ h.n ≤ h.c
/-- The slice '.slice A n _' reads as the rows rs, in normal form. -/
def RowsN (w : World) (A : Option Addr) (n : Nat) (rs : List PRow) : Prop :=
  ∃ hs : List RH, hs.map (·.r) = rs ∧ hs.length = n ∧ (0 < n → ∃ b off, A = some ⟨b, off, none⟩ ∧ b < w.heap.size ∧ ∀ j u, (hs.flatMap RH.cells)[j]? = some u → w.cell? ⟨b, off + j, none⟩ = some u) ∧ ∀ h ∈ hs, h.Ok w
section
variable {w w' : World} {A : Option Addr} {n : Nat}
theorem RatsN.on {qs : List Rat} (h : RatsN w A n qs) (hb : Below w.heap.size w w') : RatsN w' A n qs := by
  obtain ⟨ts, h1, h2, h3, h4⟩ := h
  refine ⟨ts, h1, h2, fun h0 => ?_, fun t ht => (h4 t ht).on hb⟩
  obtain ⟨b, off, e, hlt, hc⟩ := h3 h0
  exact ⟨b, off, e, Nat.lt_of_lt_of_le hlt hb.size, fun j u hu => (hb.cell (p := ⟨b, off + j, none⟩) hlt).trans (hc j u hu)⟩
theorem RH.Ok.on {h : RH} (ho : h.Ok w) (hb : Below w.heap.size w w') : h.Ok w' := ⟨ho.1, ho.2.1.on hb, ho.2.2.1.on hb, ho.2.2.2⟩
theorem RowsN.on {rs : List PRow} (h : RowsN w A n rs) (hb : Below w.heap.size w w') : RowsN w' A n rs := by
  obtain ⟨hs, h1, h2, h3, h4⟩ := h
  refine ⟨hs, h1, h2, fun h0 => ?_, fun t ht => (h4 t ht).on hb⟩
  obtain ⟨b, off, e, hlt, hc⟩ := h3 h0
  exact ⟨b, off, e, Nat.lt_of_lt_of_le hlt hb.size, fun j u hu => (hb.cell (p := ⟨b, off + j, none⟩) hlt).trans (hc j u hu)⟩
theorem RatsN.len {qs : List Rat} (h : RatsN w A n qs) : qs.length = n := by
  obtain ⟨ts, h1, h2, _⟩ := h
  rw [← h1, List.length_map, h2]
theorem RowsN.len {rs : List PRow} (h : RowsN w A n rs) : rs.length = n := by
  obtain ⟨ts, h1, h2, _⟩ := h
  rw [← h1, List.length_map, h2]
theorem RatsN.nil (w : World) (A : Option Addr) : RatsN w A 0 [] := ⟨[], rfl, rfl, fun h => absurd h (by omega), fun t h => by cases h⟩
theorem RowsN.nil (w : World) (A : Option Addr) : RowsN w A 0 [] := ⟨[], rfl, rfl, fun h => absurd h (by omega), fun t h => by cases h⟩
theorem RatsN.at_ {qs : List Rat} (h : RatsN w A n qs) {j : Nat} (hj : j < n) : ∃ b off, ∃ t : QH, A = some ⟨b, off, none⟩ ∧ b < w.heap.size ∧ qs[j]? = some t.q ∧ w.cell? ⟨b, off + j * 3, none⟩ = some (.bool (ineg t.q.num)) ∧ w.cell? ⟨b, off + j * 3 + 1, none⟩ = some (.slice t.A t.n t.c) ∧ w.cell? ⟨b, off + j * 3 + 2, none⟩ = some (.slice t.B t.m t.d) ∧ t.Ok w := by
  obtain ⟨ts, h1, h2, h3, h4⟩ := h
  obtain ⟨b, off, e, hlt, hc⟩ := h3 (by omega)
  have hl : j < ts.length := by omega
  have ht := List.getElem?_eq_getElem hl
  have hc' : ∀ i u, i < 3 → (ts[j].cells)[i]? = some u → w.cell? ⟨b, off + (j * 3 + i), none⟩ = some u := fun i u hi hu => hc _ u ((flat_at QH.len ht i hi).trans hu)
  refine ⟨b, off, ts[j], e, hlt, ?_, hc' 0 _ (by omega) rfl, hc' 1 _ (by omega) rfl, hc' 2 _ (by omega) rfl, h4 _ (List.getElem_mem hl)⟩
  rw [← h1, List.getElem?_map, ht]
  rfl
theorem RowsN.at_ {rs : List PRow} (h : RowsN w A n rs) {j : Nat} (hj : j < n) : ∃ b off, ∃ t : RH, A = some ⟨b, off, none⟩ ∧ b < w.heap.size ∧ rs[j]? = some t.r ∧ w.cell? ⟨b, off + j * 5, none⟩ = some (.string t.r.name) ∧ w.cell? ⟨b, off + j * 5 + 1, none⟩ = some (.bool (ineg t.x.q.num)) ∧ w.cell? ⟨b, off + j * 5 + 2, none⟩ = some (.slice t.x.A t.x.n t.x.c) ∧ w.cell? ⟨b, off + j * 5 + 3, none⟩ = some (.slice t.x.B t.x.m t.x.d) ∧ w.cell? ⟨b, off + j * 5 + 4, none⟩ = some (.slice t.S t.n t.c) ∧ t.Ok w := by
  obtain ⟨ts, h1, h2, h3, h4⟩ := h
  obtain ⟨b, off, e, hlt, hc⟩ := h3 (by omega)
  have hl : j < ts.length := by omega
  have ht := List.getElem?_eq_getElem hl
  have hc' : ∀ i u, i < 5 → (ts[j].cells)[i]? = some u → w.cell? ⟨b, off + (j * 5 + i), none⟩ = some u := fun i u hi hu => hc _ u ((flat_at RH.len ht i hi).trans hu)
  refine ⟨b, off, ts[j], e, hlt, ?_, hc' 0 _ (by omega) rfl, hc' 1 _ (by omega) rfl, hc' 2 _ (by omega) rfl, hc' 3 _ (by omega) rfl, hc' 4 _ (by omega) rfl, h4 _ (List.getElem_mem hl)⟩
  rw [← h1, List.getElem?_map, ht]
  rfl
theorem QH.Ok.toA {t : QH} {k : Nat} (h : t.Ok w) (hk : qk t.q k) : RatA w (.agg #[.bool (ineg t.q.num), .slice t.A t.n t.c, .slice t.B t.m t.d]) k t.q := RatA.of h.1 h.2.1 h.2.2.1 h.2.2.2 hk
theorem RatsN.toA {qs : List Rat} {k : Nat} (h : RatsN w A n qs) (hq : ∀ q ∈ qs, qk q k) : RatsA w A n k qs := by
  refine ⟨h.len, fun h0 => ?_⟩
  obtain ⟨b, off, t, e, hlt, _⟩ := h.at_ h0
  refine ⟨b, off, e, hlt, fun j q hj => ?_⟩
  have hjn : j < n := by rw [← h.len]; exact (List.getElem?_eq_some_iff.1 hj).1
  obtain ⟨b', off', t', e', _, hq', c0, c1, c2, ok⟩ := h.at_ hjn
  rw [e] at e'
  injection e' with e'
  injection e' with e1 e2
  subst e1
  subst e2
  rw [hj] at hq'
  obtain rfl := Option.some.inj hq'
  exact ⟨_, _, _, _, _, _, _, c0, c1, c2, ok.toA (hq _ (List.mem_of_getElem? hj))⟩
theorem RowsN.toA {rs : List PRow} {k : Nat} (h : RowsN w A n rs) (hq : ∀ r ∈ rs, qk r.base k ∧ ∀ q ∈ r.steps, qk q k) : RowsA w A n k rs := by
  refine ⟨h.len, fun h0 => ?_⟩
  obtain ⟨b, off, t, e, hlt, _⟩ := h.at_ h0
  refine ⟨b, off, e, hlt, fun j r hj => ?_⟩
  have hjn : j < n := by rw [← h.len]; exact (List.getElem?_eq_some_iff.1 hj).1
  obtain ⟨b', off', t', e', _, hr', c0, c1, c2, c3, c4, ok⟩ := h.at_ hjn
  rw [e] at e'
  injection e' with e'
  injection e' with e1 e2
  subst e1
  subst e2
  rw [hj] at hr'
  obtain rfl := Option.some.inj hr'
  have hh := hq _ (List.mem_of_getElem? hj)
  refine ⟨_, _, _, _, _, _, _, _, _, _, c0, c1, c2, c3, c4, ?_, ok.2.2.1.toA hh.2, ok.2.2.2⟩
  have := ok.2.1.toA (k := k) (by rw [ok.1]; exact hh.1)
  rw [ok.1] at this ⊢
  exact this
end

/-! ### whatever becomes of a block that bears no limbs -/
theorem RatsN.safe {w : World} {A : Option Addr} {n : Nat} {qs : List Rat} {r : Option Nat} (h : RatsN w A n qs) (hN : ∀ g, r = some g → NoU w g) (hne : 0 < n → ∀ g off, A = some ⟨g, off, none⟩ → r ≠ some g) : Safe w r (fun w => RatsN w A n qs) := fun w' hw => by
  obtain ⟨ts, h1, h2, h3, h4⟩ := h
  refine ⟨ts, h1, h2, fun h0 => ?_, fun t ht => (h4 t ht).safe hN w' hw⟩
  obtain ⟨b, off, e, hlt, hc⟩ := h3 h0
  exact ⟨b, off, e, Nat.lt_of_lt_of_le hlt hw.size, fun j u hu => (World.cell?_of_block (a := ⟨b, off + j, none⟩) (hw.block b hlt fun e2 => hne h0 b off e e2.symm)).trans (hc j u hu)⟩
theorem RH.Ok.safe {h : RH} {w : World} {r : Option Nat} (ho : h.Ok w) (hN : ∀ g, r = some g → NoU w g) (hne : 0 < h.n → ∀ g off, h.S = some ⟨g, off, none⟩ → r ≠ some g) : Safe w r h.Ok := fun w' hw =>
  ⟨ho.1, ho.2.1.safe hN w' hw, RatsN.safe ho.2.2.1 hN hne w' hw, ho.2.2.2⟩

/-! ### a row of ratios of the call's own -/
def stepsRel (qs : List Rat) (base : Nat) (v : Value) (w : World) : Prop :=
  ∃ ts : List QH, ts.map (·.q) = qs ∧ OwnN w base 36 3 v ts.length (ts.flatMap QH.cells) ∧ ∀ t ∈ ts, Safe w v.ownBlock t.Ok
theorem stepsRel.nil (base : Nat) (w : World) : stepsRel [] base (.slice none 0 0) w := ⟨[], rfl, OwnN.nil _ _ _ _, fun t h => by cases h⟩
theorem stepsRel.below {qs : List Rat} {base : Nat} {v : Value} {w w' : World} (h : stepsRel qs base v w) (hb : Below w.heap.size w w') : stepsRel qs base v w' := by
  obtain ⟨ts, h1, h2, h3⟩ := h
  exact ⟨ts, h1, h2.below hb, fun t ht => (h3 t ht).below hb⟩
theorem stepsRel.more {qs : List Rat} {base : Nat} {v v' : Value} {w w' : World} {ts : List QH} (x : QH) (h1 : ts.map (·.q) = qs) (hown : OwnN w base 36 3 v ts.length (ts.flatMap QH.cells)) (h3 : ∀ t ∈ ts, Safe w v.ownBlock t.Ok) (hx : x.Ok w)
    (ho : OwnN w' base 36 3 v' (ts.length + 1) (ts.flatMap QH.cells ++ x.cells)) (hg : w.grownBy w' v.ownBlock) (hn : ∀ g, v'.ownBlock = some g → v.ownBlock = some g ∨ w.heap.size ≤ g) : stepsRel (qs ++ [x.q]) base v' w' := by
  refine ⟨ts ++ [x], by simp [h1], ?_, fun t ht => ?_⟩
  · rw [List.flatMap_append, List.length_append]
    simpa using ho
  · rcases List.mem_append.1 ht with h | h
    · exact (h3 t h).next hg hn
    · obtain rfl : t = x := by simpa using h
      exact (hx.safe hown.2).next hg hn
theorem stepsRel.done {qs : List Rat} {base : Nat} {v : Value} {w : World} (h : stepsRel qs base v w) : ∃ A c, v = .slice A qs.length c ∧ qs.length ≤ c ∧ RatsN w A qs.length qs ∧ ∀ g off, A = some ⟨g, off, none⟩ → base ≤ g := by
  obtain ⟨ts, h1, h3, h4⟩ := h
  have hl : ts.length = qs.length := by rw [← h1, List.length_map]
  rw [hl] at h3
  rcases h3.1.2 with ⟨rfl, h0⟩ | ⟨g, cap, cur, rfl, hbg, hgc, hnc, hcm, hcs, htake⟩
  · refine ⟨none, 0, by rw [h0], by omega, ⟨ts, h1, hl, fun h => absurd h (by omega), fun t ht => (h4 t ht).out⟩, fun g off e => by cases e⟩
  · refine ⟨_, cap, rfl, hnc, ⟨ts, h1, hl, fun _ => ⟨g, 0, rfl, (h3.1.lt g rfl).2, fun j u hu => ?_⟩, fun t ht => (h4 t ht).out⟩, fun g' off e => ?_⟩
    · have hc := h3.1.cells (g := g) rfl j u hu
      rw [Go.WideShapes.add_plain] at hc
      exact hc
    · injection e with e
      injection e with e _ _
      omega
/-- A fresh row of one ratio. -/
theorem stepsRel.one {w : World} {base : Nat} (x : QH) (hx : x.Ok w) (hb : base ≤ w.heap.size) : stepsRel [x.q] base (.slice (some ⟨w.heap.size, 0, none⟩) 1 1) (w.alloc (.cells x.cells.toArray 36)) := by
  have hB : Below w.heap.size w (w.alloc (.cells x.cells.toArray 36)) := (Below.refl _ _).alloc (Nat.le_refl _) _
  have hN : NoU (w.alloc (.cells x.cells.toArray 36)) w.heap.size := noU_row (heap_alloc_new w _) fun v hv y e => by
    subst e
    simp [QH.cells] at hv
  have ho : OwnN (w.alloc (.cells x.cells.toArray 36)) base 36 3 (.slice (some ⟨w.heap.size, 0, none⟩) 1 1) 1 ([x].flatMap QH.cells) := by
    refine ⟨⟨rfl, .inr ⟨w.heap.size, 1, x.cells.toArray, rfl, hb, heap_alloc_new w _, Nat.le_refl _, by unfold maxLen; omega, rfl, by simp; exact List.take_of_length_le (Nat.le_refl 3)⟩⟩, fun g hg => ?_⟩
    obtain rfl : w.heap.size = g := by simpa [Value.ownBlock] using hg
    exact hN
  refine ⟨[x], rfl, ho, fun t ht => ?_⟩
  obtain rfl : t = x := by simpa using ht
  exact (hx.on hB).safe fun g hg => by
    obtain rfl : w.heap.size = g := by simpa [Value.ownBlock] using hg
    exact hN

/-! ### a row of rows of the call's own -/
def rowsRel (rs : List PRow) (base : Nat) (v : Value) (w : World) : Prop :=
  ∃ hs : List RH, hs.map (·.r) = rs ∧ OwnN w base 57 5 v hs.length (hs.flatMap RH.cells) ∧ ∀ h ∈ hs, h.Ok w ∧ (0 < h.n → ∀ g off, h.S = some ⟨g, off, none⟩ → v.ownBlock ≠ some g)
theorem rowsRel.nil (base : Nat) (w : World) : rowsRel [] base (.slice none 0 0) w := ⟨[], rfl, OwnN.nil _ _ _ _, fun t h => by cases h⟩
theorem rowsRel.below {rs : List PRow} {base : Nat} {v : Value} {w w' : World} (h : rowsRel rs base v w) (hb : Below w.heap.size w w') : rowsRel rs base v w' := by
  obtain ⟨ts, h1, h2, h3⟩ := h
  exact ⟨ts, h1, h2.below hb, fun t ht => ⟨(h3 t ht).1.on hb, (h3 t ht).2⟩⟩
theorem RatsN.lt {w : World} {A : Option Addr} {n : Nat} {qs : List Rat} (h : RatsN w A n qs) (h0 : 0 < n) (g off : Nat) (e : A = some ⟨g, off, none⟩) : g < w.heap.size := by
  obtain ⟨b, off', t, e', hlt, _⟩ := h.at_ h0
  rw [e] at e'
  injection e' with e'
  injection e' with e1 _
  omega
theorem rowsRel.more {rs : List PRow} {base : Nat} {v v' : Value} {w w' : World} {hs : List RH} (x : RH) (h1 : hs.map (·.r) = rs) (hown : OwnN w base 57 5 v hs.length (hs.flatMap RH.cells)) (h3 : ∀ h ∈ hs, h.Ok w ∧ (0 < h.n → ∀ g off, h.S = some ⟨g, off, none⟩ → v.ownBlock ≠ some g)) (hx : x.Ok w) (hne : 0 < x.n → ∀ g off, x.S = some ⟨g, off, none⟩ → v.ownBlock ≠ some g)
    (ho : OwnN w' base 57 5 v' (hs.length + 1) (hs.flatMap RH.cells ++ x.cells)) (hg : w.grownBy w' v.ownBlock) (hn : ∀ g, v'.ownBlock = some g → v.ownBlock = some g ∨ w.heap.size ≤ g) : rowsRel (rs ++ [x.r]) base v' w' := by
  have key : ∀ t : RH, t.Ok w → (0 < t.n → ∀ g off, t.S = some ⟨g, off, none⟩ → v.ownBlock ≠ some g) → t.Ok w' ∧ (0 < t.n → ∀ g off, t.S = some ⟨g, off, none⟩ → v'.ownBlock ≠ some g) := fun t ok ne =>
    ⟨ok.safe hown.2 ne w' hg, fun h0 g off e e2 => by
      rcases hn g e2 with e3 | e3
      · exact ne h0 g off e e3
      · have := ok.2.2.1.lt h0 g off e
        omega⟩
  refine ⟨hs ++ [x], by simp [h1], ?_, fun t ht => ?_⟩
  · rw [List.flatMap_append, List.length_append]
    simpa using ho
  · rcases List.mem_append.1 ht with h | h
    · exact key t (h3 t h).1 (h3 t h).2
    · obtain rfl : t = x := by simpa using h
      exact key t hx hne
theorem rowsRel.done {rs : List PRow} {base : Nat} {v : Value} {w : World} (h : rowsRel rs base v w) : ∃ A c, v = .slice A rs.length c ∧ rs.length ≤ c ∧ RowsN w A rs.length rs := by
  obtain ⟨ts, h1, h3, h4⟩ := h
  have hl : ts.length = rs.length := by rw [← h1, List.length_map]
  rw [hl] at h3
  rcases h3.1.2 with ⟨rfl, h0⟩ | ⟨g, cap, cur, rfl, hbg, hgc, hnc, hcm, hcs, htake⟩
  · exact ⟨none, 0, by rw [h0], by omega, ts, h1, hl, fun h => absurd h (by omega), fun t ht => (h4 t ht).1⟩
  · refine ⟨_, cap, rfl, hnc, ts, h1, hl, fun _ => ⟨g, 0, rfl, (h3.1.lt g rfl).2, fun j u hu => ?_⟩, fun t ht => (h4 t ht).1⟩
    have hc := h3.1.cells (g := g) rfl j u hu
    rw [Go.WideShapes.add_plain] at hc
    exact hc

/-! ### appending, where the region does not draw -/
theorem ratio_info : (Tryz.prog.info? 36).map (fun i => (i.zero, i.size, i.bytes)) = some (some (.agg #[.bool false, .slice none 0 0, .slice none 0 0]), 3, 56) := by kernel_rfl
theorem row_info : (Tryz.prog.info? 57).map (fun i => (i.zero, i.size, i.bytes)) = some (some (.agg #[.string ByteArray.empty, .bool false, .slice none 0 0, .slice none 0 0, .slice none 0 0]), 5, 96) := by kernel_rfl
theorem append_ratio {w : World} {ops : Array Oper} {rest : List Oper} {o : Oper} {a : Act} {Q : Exit → Act → World → Prop} (hgd : o.guard = none) (s x : Operand)
    (ho : o.op = .call { callee := .builtin .append, args := #[s, x], argTypes := #[55, 55] })
    (base n : Nat) (v : Value) (l : List Value) (hs : a.eval s = v) (hown : OwnN w base 36 3 v n l)
    (g : Nat) (hx : a.eval x = .slice (some ⟨g, 0, none⟩) 1 1) (t : QH) {ty : TypeId} (hc : Blk w g ty t.cells.toArray) (hn : n ≤ 1000000) (hbase : base ≤ w.heap.size)
    (h : ∀ v' w', OwnN w' base 36 3 v' (n + 1) (l ++ t.cells) → w.grownBy w' v.ownBlock → (∀ g, v'.ownBlock = some g → v.ownBlock = some g ∨ w.heap.size ≤ g) → wpList Tryz.prog ops Q rest (a.put o.dst v') w') :
    wpList Tryz.prog ops Q (o :: rest) a w := by
  obtain ⟨i0, hi, hz0, hz1, hz2⟩ := info_parts ratio_info
  exact wpList_append_ownN hgd s x 55 ho base 36 i0 _ 3 56 Tryz.underlying55 hi hz0 hz1 hz2 rfl (by decide) (by simp [Value.cells]) v n l hs hown ⟨g, 0, none⟩ 1 t.cells hx rfl
    (fun j u hu => by
      rw [Go.WideShapes.add_plain]
      exact hc.c (by simpa using hu))
    (fun u hu => by
      simp only [QH.cells, List.mem_cons, List.mem_nil_iff, or_false] at hu
      rcases hu with rfl | rfl | rfl <;> rfl)
    (fun u hu => by
      simp only [QH.cells, List.mem_cons, List.mem_nil_iff, or_false] at hu
      rcases hu with rfl | rfl | rfl <;> simp) (by unfold maxLen; omega) (by omega) hbase h
theorem append_row {w : World} {ops : Array Oper} {rest : List Oper} {o : Oper} {a : Act} {Q : Exit → Act → World → Prop} (hgd : o.guard = none) (s x : Operand)
    (ho : o.op = .call { callee := .builtin .append, args := #[s, x], argTypes := #[23, 23] })
    (base n : Nat) (v : Value) (l : List Value) (hs : a.eval s = v) (hown : OwnN w base 57 5 v n l)
    (g : Nat) (hx : a.eval x = .slice (some ⟨g, 0, none⟩) 1 1) (t : RH) {ty : TypeId} (hc : Blk w g ty t.cells.toArray) (hn : n ≤ 1000000) (hbase : base ≤ w.heap.size)
    (h : ∀ v' w', OwnN w' base 57 5 v' (n + 1) (l ++ t.cells) → w.grownBy w' v.ownBlock → (∀ g, v'.ownBlock = some g → v.ownBlock = some g ∨ w.heap.size ≤ g) → wpList Tryz.prog ops Q rest (a.put o.dst v') w') :
    wpList Tryz.prog ops Q (o :: rest) a w := by
  obtain ⟨i0, hi, hz0, hz1, hz2⟩ := info_parts row_info
  exact wpList_append_ownN hgd s x 23 ho base 57 i0 _ 5 96 Tryz.underlying23 hi hz0 hz1 hz2 rfl (by decide) (by simp [Value.cells]) v n l hs hown ⟨g, 0, none⟩ 1 t.cells hx rfl
    (fun j u hu => by
      rw [Go.WideShapes.add_plain]
      exact hc.c (by simpa using hu))
    (fun u hu => by
      simp only [RH.cells, QH.cells, List.cons_append, List.nil_append, List.mem_cons, List.mem_nil_iff, or_false] at hu
      rcases hu with rfl | rfl | rfl | rfl | rfl <;> rfl)
    (fun u hu => by
      simp only [RH.cells, QH.cells, List.cons_append, List.nil_append, List.mem_cons, List.mem_nil_iff, or_false] at hu
      rcases hu with rfl | rfl | rfl | rfl | rfl <;> simp) (by unfold maxLen; omega) (by omega) hbase h
end Go.Proofs.YtjiccijfbpkliaaGreatDoor

/- A row of a chart while it is read: its box and its steps. Nothing here walks the program. -/
namespace Go.Proofs.YtjiccijfbpkliaaGreatDoor
open Go.RowKit

theorem grown_refl (w : World) (r : Option Nat) : w.grownBy w r := ⟨rfl, rfl, rfl, Nat.le_refl _, fun _ _ _ => rfl⟩
theorem grown_set {w w' : World} {g : Nat} (h : w.grownBy w' (some g)) (i : Nat) (u : Value) : w.grownBy (w'.setCell ⟨g, i, none⟩ u) (some g) :=
  ⟨h.os, h.tape, h.output, by simpa [World.setCell] using h.size, fun k hk hne => (Below.heap_setCell w' ⟨g, i, none⟩ u k (fun e => hne (by simp [e]))).trans (h.block k hk hne)⟩
theorem noU_same {w w' : World} {g : Nat} (h : NoU w g) (e : w'.heap[g]? = w.heap[g]?) : NoU w' g := fun o x hc => h o x (by rw [← World.cell?_of_block (a := ⟨g, o, none⟩) e]; exact hc)
/-- No cell of a block is a truth value. -/
def NoB (w : World) (r : Nat) : Prop := ∀ (o : Nat) (b : Bool), w.cell? ⟨r, o, none⟩ ≠ some (.bool b)
theorem NoB.blk {w : World} {g : Nat} {t : TypeId} {cs : Array Value} (h : Blk w g t cs) (hc : ∀ v ∈ cs.toList, ∀ b, v ≠ .bool b) : NoB w g := by
  intro o x e
  rw [h.cell] at e
  have hm : Value.bool x ∈ cs := Array.mem_of_getElem? e
  exact hc _ (by simpa using hm) x rfl
theorem RatsN.noB {w : World} {A : Option Addr} {n : Nat} {qs : List Rat} {r : Nat} (h : RatsN w A n qs) (hB : NoB w r) (h0 : 0 < n) (g off : Nat) (e : A = some ⟨g, off, none⟩) : some r ≠ some g := by
  rintro e2
  injection e2 with e2
  subst e2
  obtain ⟨b, off', t, e', _, _, c0, _⟩ := h.at_ h0
  rw [e] at e'
  injection e' with e'
  injection e' with e1 e2
  subst e1
  subst e2
  exact hB _ _ c0
section
variable {w w' : World} {base rb : Nat} {v : Value} {t : TypeId} {cs : Array Value}
theorem own_far {e : TypeId} {size n : Nat} {xs : List Value} (h : w.ownsRow base e size v n xs) (hb : Blk w rb t cs) (hne : t ≠ e) : v.ownBlock ≠ some rb := by
  intro e2
  rcases h.2 with ⟨rfl, _⟩ | ⟨g, cap, cur, rfl, _, hgc, _⟩
  · simp [Value.ownBlock] at e2
  · obtain rfl : g = rb := by simpa [Value.ownBlock] using e2
    unfold Blk at hb
    rw [hgc] at hb
    injection hb with hb
    injection hb with _ hb _
    exact hne hb.symm
theorem OwnN.gro {e : TypeId} {size n : Nat} {xs : List Value} (h : OwnN w base e size v n xs) (hg : w.grownBy w' (some rb)) (hb : Blk w rb t cs) (hne : t ≠ e) : OwnN w' base e size v n xs := by
  have hf := own_far h.1 hb hne
  refine ⟨h.1.kept hg (.inr hf), fun g e2 => noU_same (h.2 g e2) (hg.block g (h.1.lt g e2).2 fun e3 => hf (by rw [e2, e3]))⟩
theorem QH.Ok.gro {x : QH} (h : x.Ok w) (hg : w.grownBy w' (some rb)) (hN : NoU w rb) : x.Ok w' := h.safe (r := some rb) (fun g e => by injection e with e; subst e; exact hN) w' hg
/-- Another block of another type changes. -/
theorem stepsRel.gro {qs : List Rat} (h : stepsRel qs base v w) (hg : w.grownBy w' (some rb)) (hb : Blk w rb t cs) (hne : t ≠ 36) (hN : NoU w rb) : stepsRel qs base v w' := by
  obtain ⟨ts, h1, h2, h3⟩ := h
  have ho := h2.gro hg hb hne
  exact ⟨ts, h1, ho, fun x hx => ((h3 x hx).out.gro hg hN).safe ho.2⟩
theorem RH.Ok.gro {x : RH} (h : x.Ok w) (hg : w.grownBy w' (some rb)) (hN : NoU w rb) (hne : 0 < x.n → ∀ g off, x.S = some ⟨g, off, none⟩ → some rb ≠ some g) : x.Ok w' := h.safe (r := some rb) (fun g e => by injection e with e; subst e; exact hN) hne w' hg
theorem rowsRel.gro {rs : List PRow} (h : rowsRel rs base v w) (hg : w.grownBy w' (some rb)) (hb : Blk w rb t cs) (hne : t ≠ 57) (hN : NoU w rb) (hB : NoB w rb) : rowsRel rs base v w' := by
  obtain ⟨ts, h1, h2, h3⟩ := h
  exact ⟨ts, h1, h2.gro hg hb hne, fun x hx => ⟨(h3 x hx).1.gro hg hN fun h0 g off e => (h3 x hx).1.2.2.1.noB hB h0 g off e, (h3 x hx).2⟩⟩
end

/-! ### the row's box -/
/-- The box rb of a row that is read: its base is x's (if P), its steps are qs. -/
def rowRel (nm : ByteArray) (x : QH) (P : Prop) (qs : List Rat) (base rb : Nat) (w : World) : Prop :=
  ∃ v, Blk w rb 57 #[.string nm, .bool (ineg x.q.num), .slice x.A x.n x.c, .slice x.B x.m x.d, v] ∧ (P → x.Ok w) ∧ stepsRel qs base v w ∧ (∀ y, v ≠ .int .u32 y)
def zeroH : QH := ⟨0, none, 0, 0, none, 0, 0⟩
section
variable {nm : ByteArray} {x : QH} {P : Prop} {qs : List Rat} {base rb : Nat} {w w' : World}
theorem rowRel.below (h : rowRel nm x P qs base rb w) (hb : Below w.heap.size w w') : rowRel nm x P qs base rb w' := by
  obtain ⟨v, h1, h2, h3, h4⟩ := h
  exact ⟨v, h1.below hb, fun p => (h2 p).on hb, h3.below hb, h4⟩
theorem row_noU {v : Value} (h : Blk w rb 57 #[.string nm, .bool (ineg x.q.num), .slice x.A x.n x.c, .slice x.B x.m x.d, v]) (hv : ∀ y, v ≠ .int .u32 y) : NoU w rb := by
  refine NoU.blk h fun u hu y e => ?_
  subst e
  simp at hu
  exact hv y hu.symm
/-- The base is stored. -/
theorem rowRel.base_ (h : rowRel nm x P qs base rb w) (y : QH) (hy : y.Ok w) : rowRel nm y True qs base rb (((w.setCell ⟨rb, 1, none⟩ (.bool (ineg y.q.num))).setCell ⟨rb, 2, none⟩ (.slice y.A y.n y.c)).setCell ⟨rb, 3, none⟩ (.slice y.B y.m y.d)) := by
  obtain ⟨v, h1, h2, h3, h4⟩ := h
  have hN := row_noU h1 h4
  have hg := grown_set (grown_set (grown_set (grown_refl w (some rb)) 1 (.bool (ineg y.q.num))) 2 (.slice y.A y.n y.c)) 3 (.slice y.B y.m y.d)
  exact ⟨v, ((h1.set_ 1 _).set_ 2 _).set_ 3 _, fun _ => hy.gro hg hN, h3.gro hg h1 (by decide) hN, h4⟩
/-- A step is appended. -/
theorem rowRel.step_ {v v' : Value} {ts : List QH} (hb : Blk w rb 57 #[.string nm, .bool (ineg x.q.num), .slice x.A x.n x.c, .slice x.B x.m x.d, v]) (hx : P → x.Ok w) (y : QH) (hy : y.Ok w) (h1 : ts.map (·.q) = qs) (hown : OwnN w base 36 3 v ts.length (ts.flatMap QH.cells)) (h3 : ∀ t ∈ ts, Safe w v.ownBlock t.Ok)
    (ho : OwnN w' base 36 3 v' (ts.length + 1) (ts.flatMap QH.cells ++ y.cells)) (hg : w.grownBy w' v.ownBlock) (hn : ∀ g, v'.ownBlock = some g → v.ownBlock = some g ∨ w.heap.size ≤ g) : rowRel nm x P (qs ++ [y.q]) base rb (w'.setCell ⟨rb, 4, none⟩ v') := by
  have hf := own_far hown.1 hb (by decide)
  have hb' := hb.grown hg (fun e => hf e.symm)
  obtain ⟨A', c', hv'⟩ := own_form ho.1
  have hv4 : ∀ y, v' ≠ .int .u32 y := fun y e => by rw [hv'] at e; cases e
  have hvv : ∀ y, v ≠ .int .u32 y := fun y e => by
    obtain ⟨A, c, hv⟩ := own_form hown.1
    rw [hv] at e
    cases e
  have hN := row_noU hb' hvv
  have hs := stepsRel.more y h1 hown h3 hy ho hg hn
  have hg2 := grown_set (grown_refl w' (some rb)) 4 v'
  exact ⟨v', hb'.set_ 4 v', fun p => (((hx p).safe hown.2) w' hg).gro hg2 hN, hs.gro hg2 hb' (by decide) hN, hv4⟩
/-- What the box holds at the end. -/
theorem rowRel.done (h : rowRel nm x True qs base rb w) : ∃ A c, Blk w rb 57 #[.string nm, .bool (ineg x.q.num), .slice x.A x.n x.c, .slice x.B x.m x.d, .slice A qs.length c] ∧ x.Ok w ∧ RatsN w A qs.length qs ∧ qs.length ≤ c ∧ ∀ g off, A = some ⟨g, off, none⟩ → base ≤ g := by
  obtain ⟨v, h1, h2, h3, h4⟩ := h
  obtain ⟨A, c, rfl, d1, d2, d3⟩ := h3.done
  exact ⟨A, c, h1, h2 trivial, d2, d1, d3⟩
end
theorem Blk.put5 {w : World} {g : Nat} {t : TypeId} {e0 e1 e2 e3 e4 : Value} (h : Blk w g t #[e0, e1, e2, e3, e4]) (u0 u1 u2 u3 u4 : Value) : Blk (((((w.setCell ⟨g, 0, none⟩ u0).setCell ⟨g, 1, none⟩ u1).setCell ⟨g, 2, none⟩ u2).setCell ⟨g, 3, none⟩ u3).setCell ⟨g, 4, none⟩ u4) g t #[u0, u1, u2, u3, u4] :=
  ((((h.set_ 0 u0).set_ 1 u1).set_ 2 u2).set_ 3 u3).set_ 4 u4
theorem grown5 (w : World) (g : Nat) (u0 u1 u2 u3 u4 : Value) : w.grownBy (((((w.setCell ⟨g, 0, none⟩ u0).setCell ⟨g, 1, none⟩ u1).setCell ⟨g, 2, none⟩ u2).setCell ⟨g, 3, none⟩ u3).setCell ⟨g, 4, none⟩ u4) (some g) :=
  grown_set (grown_set (grown_set (grown_set (grown_set (grown_refl w (some g)) 0 u0) 1 u1) 2 u2) 3 u3) 4 u4
theorem below5 {B : Nat} {a w : World} (h : Below B a w) {r : Nat} (hr : B ≤ r) (u0 u1 u2 u3 u4 : Value) : Below B a (((((w.setCell ⟨r, 0, none⟩ u0).setCell ⟨r, 1, none⟩ u1).setCell ⟨r, 2, none⟩ u2).setCell ⟨r, 3, none⟩ u3).setCell ⟨r, 4, none⟩ u4) :=
  ((((h.setCell (p := ⟨r, 0, none⟩) hr _).setCell (p := ⟨r, 1, none⟩) hr _).setCell (p := ⟨r, 2, none⟩) hr _).setCell (p := ⟨r, 3, none⟩) hr _).setCell (p := ⟨r, 4, none⟩) hr _

/-- A row of a line comes back, or an error. -/
def RetRow5 (n : Nat) (ws : List (List UInt8)) (w : World) (e : Ending) (w' : World) : Prop :=
  (rowE n ws = 0 → ∃ h : RH, h.r = rowV ws ∧ e = .returned (.tuple #[.agg #[.string h.r.name, .bool (ineg h.x.q.num), .slice h.x.A h.x.n h.x.c, .slice h.x.B h.x.m h.x.d, .slice h.S h.n h.c], .int .i64 0]) ∧ h.Ok w' ∧ (∀ g off, h.S = some ⟨g, off, none⟩ → w.heap.size ≤ g) ∧ Below w.heap.size w w') ∧
  (rowE n ws ≠ 0 → e = .returned (.tuple #[.agg #[.string ⟨#[]⟩, .bool false, .slice none 0 0, .slice none 0 0, .slice none 0 0], .int .i64 (rowE n ws)]) ∧ Below w.heap.size w w')
end Go.Proofs.YtjiccijfbpkliaaGreatDoor

/- chart.parseRow returns the row of a line, or the error. Conditions: Std; words of at most 1,000,000 bytes, at most 100,000 of them; at least one size. -/
namespace Go.Proofs.YtjiccijfbpkliaaGreatDoor
open Go.RowKit
open Go.Lib hiding intOf
attribute [local go_sem ↓] Go.wp_at_zero Go.wp_at_succ

theorem Blk.put5z {w : World} {g : Nat} {t : TypeId} {u0 u1 u2 u3 u4 : Value} (h : Blk w g t #[.string ⟨#[]⟩, .bool false, .slice none 0 0, .slice none 0 0, .slice none 0 0]) : Blk (((((w.setCell ⟨g, 0, none⟩ u0).setCell ⟨g, 1, none⟩ u1).setCell ⟨g, 2, none⟩ u2).setCell ⟨g, 3, none⟩ u3).setCell ⟨g, 4, none⟩ u4) g t #[u0, u1, u2, u3, u4] := h.put5 u0 u1 u2 u3 u4
theorem Blk.far5 {w : World} {g r : Nat} {t : TypeId} {cs : Array Value} (h : Blk w g t cs) (hr : g ≠ r) (u0 u1 u2 u3 u4 : Value) : Blk (((((w.setCell ⟨r, 0, none⟩ u0).setCell ⟨r, 1, none⟩ u1).setCell ⟨r, 2, none⟩ u2).setCell ⟨r, 3, none⟩ u3).setCell ⟨r, 4, none⟩ u4) g t cs :=
  ((((h.far (p := ⟨r, 0, none⟩) hr _).far (p := ⟨r, 1, none⟩) hr _).far (p := ⟨r, 2, none⟩) hr _).far (p := ⟨r, 3, none⟩) hr _).far (p := ⟨r, 4, none⟩) hr _
theorem Sl.st5 {W : World} {A : Option Addr} {n r : Nat} {l : List Nat} {u0 u1 u2 u3 u4 : Value} (h : Sl W W.heap.size A n (u32s l)) (hb : Blk W r 57 #[.string ⟨#[]⟩, .bool false, .slice none 0 0, .slice none 0 0, .slice none 0 0]) :
    Sl (((((W.setCell ⟨r, 0, none⟩ u0).setCell ⟨r, 1, none⟩ u1).setCell ⟨r, 2, none⟩ u2).setCell ⟨r, 3, none⟩ u3).setCell ⟨r, 4, none⟩ u4) (((((W.setCell ⟨r, 0, none⟩ u0).setCell ⟨r, 1, none⟩ u1).setCell ⟨r, 2, none⟩ u2).setCell ⟨r, 3, none⟩ u3).setCell ⟨r, 4, none⟩ u4).heap.size A n (u32s l) :=
  Safe.sl h (r := some r) (fun g e => by injection e with e; subst e; exact NoU.blk hb (by simp)) _ (grown5 W r u0 u1 u2 u3 u4)
theorem word_keep {w W : World} {b off : Nat} {x : Value} (hb : b < w.heap.size) (hc : w.cell? ⟨b, off, none⟩ = some x) (hB : Below w.heap.size w W) : W.cell? ⟨b, off, none⟩ = some x := (hB.cell (p := ⟨b, off, none⟩) hb).trans hc
/-- The row's box at the start. -/
theorem row_start {w : World} {rb gb base : Nat} {nm : ByteArray} {A B : Option Addr} {n c m d : Nat} (h1 : Blk w rb 57 #[.string nm, .bool false, .slice none 0 0, .slice none 0 0, .slice (some ⟨gb, 0, none⟩) 1 1]) (h2 : Blk w gb 36 #[.bool (ineg 0), .slice A n c, .slice B m d])
    (s1 : Sl w w.heap.size A n (u32s (limbs (0 : Rat).num.natAbs))) (e1 : n ≤ c) (s2 : Sl w w.heap.size B m (u32s (limbs (0 : Rat).den))) (e2 : m ≤ d) (hb : base ≤ gb) : rowRel nm zeroH False [0] base rb w := by
  have hN : NoU w gb := NoU.blk h2 (by simp)
  have ho : OwnN w base 36 3 (.slice (some ⟨gb, 0, none⟩) 1 1) 1 ([(⟨0, A, n, c, B, m, d⟩ : QH)].flatMap QH.cells) := by
    refine ⟨⟨rfl, .inr ⟨gb, 1, _, rfl, hb, h2, Nat.le_refl _, by unfold maxLen; omega, rfl, rfl⟩⟩, fun g hg => ?_⟩
    obtain rfl : gb = g := by simpa [Value.ownBlock] using hg
    exact hN
  refine ⟨_, h1, fun h => h.elim, ⟨[⟨0, A, n, c, B, m, d⟩], rfl, ho, fun t ht => ?_⟩, fun y e => by cases e⟩
  obtain rfl : t = ⟨0, A, n, c, B, m, d⟩ := by simpa using ht
  exact QH.Ok.safe ⟨s1, e1, s2, e2⟩ ho.2
/-- Behind the row's literal. -/
def rowCut (nm : ByteArray) (w : World) (s6 : Value) (wx : World) : Prop :=
  ∃ rb, s6 = .pointer (some ⟨rb, 0, none⟩) ∧ rowRel nm zeroH False [0] (w.heap.size + 1) rb wx ∧ Blk wx w.heap.size 57 #[.string ⟨#[]⟩, .bool false, .slice none 0 0, .slice none 0 0, .slice none 0 0] ∧ Below w.heap.size w wx ∧ w.heap.size < rb
theorem rowE_len {n : Nat} {ws : List (List UInt8)} (h : ws.length ≠ n + 1) : rowE n ws = 2 := by rw [rowE, if_pos h]
theorem RetRow5.bad {n : Nat} {ws : List (List UInt8)} {w w' : World} {E : Int} (h : rowE n ws = E) (h0 : E ≠ 0) (hb : Below w.heap.size w w') : RetRow5 n ws w (.returned (.tuple #[.agg #[.string ⟨#[]⟩, .bool false, .slice none 0 0, .slice none 0 0, .slice none 0 0], .int .i64 E])) w' :=
  ⟨fun e => absurd (h.symm.trans e) h0, fun _ => ⟨by rw [h], hb⟩⟩

set_option maxRecDepth 100000 in
set_option maxHeartbeats 6400000 in
theorem parseRow_any (A : Option Addr) (n c N : Nat) (ws : List (List UInt8)) (w : World) (hw : Std w) (h : Sl w w.heap.size A n (strs (ws.map bytes))) (hn : n ≤ 100000) (hc : n ≤ c) (hN : 1 ≤ N) (hN2 : N ≤ 100000) (hws : ∀ u ∈ ws, u.length ≤ 1000000) :
    Calls Tryz.prog 62 #[.slice A n c, .int .i64 (N : Int)] w (RetRow5 N ws w) := by
  have hl : ws.length = n := by have := h.slen; rw [List.length_map] at this; exact this
  have hB : Below w.heap.size w (w.alloc (.cells #[.string ⟨#[]⟩, .bool false, .slice none 0 0, .slice none 0 0, .slice none 0 0] 57)) := (Below.refl _ _).alloc (Nat.le_refl _) _
  have X0 := Blk.new w 57 #[.string ⟨#[]⟩, .bool false, .slice none 0 0, .slice none 0 0, .slice none 0 0]
  have HB := Lib.hid hB
  have HX0 := Lib.hid X0
  by_cases hlen : n = N + 1
  · subst hlen
    obtain ⟨_, b, off, rfl, hb, hat⟩ := words_at h (by omega)
    have c0 := hat 0 (by omega)
    rw [Nat.add_zero] at c0
    obtain ⟨nm, hnm⟩ : ∃ nm, bytes (ws.getD 0 []) = nm := ⟨_, rfl⟩
    rw [hnm] at c0
    have HNM := Lib.hid hnm
    have HL := Lib.hid hl
    have HAT := Lib.hid (And.intro hat hb)
    have HWS := Lib.hid hws
    have HW := Lib.hid hw
    have hbb : b < w.heap.size + 1 := by omega
    have HNo := fun W (hW : Below (w.alloc (.cells #[.string ⟨#[]⟩, .bool false, .slice none 0 0, .slice none 0 0, .slice none 0 0] 57)).heap.size (w.alloc (.cells #[.string ⟨#[]⟩, .bool false, .slice none 0 0, .slice none 0 0, .slice none 0 0] 57)) W) => (rnorm_any _ 1 0 W (RatA.zero W) (by omega) (by omega)).mono fun e w' hh => (show RetQw 0 _ W e w' from by
      obtain ⟨A, n, c, B, m, d, h1, h2, h3, h4, h5, h6⟩ := hh
      exact ⟨A, n, c, B, m, d, h1, h2, h3, h4, h5, h6, hW.trans (h6.mono hW.size)⟩)
    have HNo := Lib.hid HNo
    clear h hat hl hnm hws hw X0 hB
    go_enter Tryz.func62, Tryz.ntmps62
    go_upto_region 3 with fail
    go_cut [6] (fun s6 wx => rowCut nm w s6 wx)
    case first =>
      go_region_held3 (fun w' => w'.cell? ⟨b, off, none⟩ = some (.string nm))
        ((refine word_keep hb c0 ?_; repeat (first | (with_reducible exact Below.refl _ _) | (with_reducible exact hw0) | (with_reducible refine Below.drew ?_) | (with_reducible refine Below.alo ?_ _) | (with_reducible refine Below.sto ?_ ?_ _) | omega | (simp <;> omega))))
        (first
        | (go_at_call 87; go_must ((refine (HNo.out _ (by repeat (first | (with_reducible exact Below.refl _ _) | (with_reducible refine Below.drew ?_) | (with_reducible refine Below.alo ?_ _)))).mono ?_); rintro e w1 ⟨A3, n3, c3, B3, m3, d3, rfl, r1, r2, r3, r4, hb1, hw1⟩; have hz1 := hb1.size; (try simp at hz1); have hz0 : w.heap.size + 1 ≤ w1.heap.size := (by omega); have hw0 := HB.out.trans (hw1.mono HB.out.size); (try (have hza : w.heap.size + 1 < w1.heap.size := by omega)); (try (have hzb : w.heap.size + 1 < w1.heap.size + 1 := by omega)); (try (have hzc : ¬ w1.heap.size = w.heap.size + 1 := by omega)); have hzd : w1.heap.size < w1.heap.size + 1 := (by omega); obtain ⟨hcl, hfr⟩ := bcell hb1; have HR1 := Lib.hid (And.intro r1 r3); clear r1 r3)))
      all_goals
        go_wp2_with fail
        go_meet
        go_light
      · have HX1 := HX0.out.below hw1
        refine ⟨_, rfl, row_start (gb := w1.heap.size) (A := A3) (B := B3) ?_ ?_ ?_ r2 ?_ r4 ?_, ?_, ?_, ?_⟩
        · (repeat (first | (focus ((with_reducible refine Blk.new' _ _ _ ?_); (simp; done))) | (with_reducible refine Blk.put5z ?_) | (with_reducible refine Blk.alloc ?_ _) | (with_reducible refine Blk.far5 ?_ ?_ _ _ _ _ _) | (with_reducible refine Blk.below ?_ hb1) | (with_reducible refine Blk.drew ?_) | omega | (simp <;> omega)))
        · (repeat (first | (focus ((with_reducible refine Blk.new' _ _ _ ?_); (simp; done))) | (with_reducible refine Blk.put5z ?_) | (with_reducible refine Blk.alloc ?_ _) | (with_reducible refine Blk.far5 ?_ ?_ _ _ _ _ _) | (with_reducible refine Blk.below ?_ hb1) | (with_reducible refine Blk.drew ?_) | omega | (simp <;> omega)))
        · (repeat (first | (with_reducible exact HR1.out.1) | (with_reducible refine Sl.alo ?_ _) | (with_reducible refine Sl.st5 ?_ ?_) | (focus ((with_reducible refine Blk.new' _ _ _ ?_); (simp; done))) | (with_reducible refine Blk.alloc ?_ _) | (with_reducible refine Blk.below ?_ hb1) | (with_reducible refine Sl.drew ?_) | (with_reducible refine Blk.drew ?_) | omega | (simp <;> omega)))
        · (repeat (first | (with_reducible exact HR1.out.2) | (with_reducible refine Sl.alo ?_ _) | (with_reducible refine Sl.st5 ?_ ?_) | (focus ((with_reducible refine Blk.new' _ _ _ ?_); (simp; done))) | (with_reducible refine Blk.alloc ?_ _) | (with_reducible refine Blk.below ?_ hb1) | (with_reducible refine Sl.drew ?_) | (with_reducible refine Blk.drew ?_) | omega | (simp <;> omega)))
        · omega
        · (repeat (first | (with_reducible exact HX1) | (with_reducible refine Blk.alloc ?_ _) | (with_reducible refine Blk.far5 ?_ ?_ _ _ _ _ _) | (with_reducible refine Blk.drew ?_) | omega | (simp <;> omega)))
        · (repeat (first | (with_reducible exact hw0) | (with_reducible refine Below.alo ?_ _) | (with_reducible refine Below.sto ?_ ?_ _) | omega | (simp <;> omega)))
        · omega
      · have HX1 := HX0.out.below hw1
        refine ⟨_, rfl, row_start (gb := w1.heap.size + 1) (A := A3) (B := B3) ?_ ?_ ?_ r2 ?_ r4 ?_, ?_, ?_, ?_⟩
        · (repeat (first | (focus ((with_reducible refine Blk.new' _ _ _ ?_); (simp; done))) | (with_reducible refine Blk.put5z ?_) | (with_reducible refine Blk.alloc ?_ _) | (with_reducible refine Blk.far5 ?_ ?_ _ _ _ _ _) | (with_reducible refine Blk.below ?_ hb1) | (with_reducible refine Blk.drew ?_) | omega | (simp <;> omega)))
        · (repeat (first | (focus ((with_reducible refine Blk.new' _ _ _ ?_); (simp; done))) | (with_reducible refine Blk.put5z ?_) | (with_reducible refine Blk.alloc ?_ _) | (with_reducible refine Blk.far5 ?_ ?_ _ _ _ _ _) | (with_reducible refine Blk.below ?_ hb1) | (with_reducible refine Blk.drew ?_) | omega | (simp <;> omega)))
        · (repeat (first | (with_reducible exact HR1.out.1) | (with_reducible refine Sl.alo ?_ _) | (with_reducible refine Sl.st5 ?_ ?_) | (focus ((with_reducible refine Blk.new' _ _ _ ?_); (simp; done))) | (with_reducible refine Blk.alloc ?_ _) | (with_reducible refine Blk.below ?_ hb1) | (with_reducible refine Sl.drew ?_) | (with_reducible refine Blk.drew ?_) | omega | (simp <;> omega)))
        · (repeat (first | (with_reducible exact HR1.out.2) | (with_reducible refine Sl.alo ?_ _) | (with_reducible refine Sl.st5 ?_ ?_) | (focus ((with_reducible refine Blk.new' _ _ _ ?_); (simp; done))) | (with_reducible refine Blk.alloc ?_ _) | (with_reducible refine Blk.below ?_ hb1) | (with_reducible refine Sl.drew ?_) | (with_reducible refine Blk.drew ?_) | omega | (simp <;> omega)))
        · omega
        · (repeat (first | (with_reducible exact HX1) | (with_reducible refine Blk.alloc ?_ _) | (with_reducible refine Blk.far5 ?_ ?_ _ _ _ _ _) | (with_reducible refine Blk.drew ?_) | omega | (simp <;> omega)))
        · (repeat (first | (with_reducible exact hw0) | (with_reducible refine Below.alo ?_ _) | (with_reducible refine Below.sto ?_ ?_ _) | omega | (simp <;> omega)))
        · omega
      · have HX1 := HX0.out.below hw1
        refine ⟨_, rfl, row_start (gb := w1.heap.size) (A := A3) (B := B3) ?_ ?_ ?_ r2 ?_ r4 ?_, ?_, ?_, ?_⟩
        · (repeat (first | (focus ((with_reducible refine Blk.new' _ _ _ ?_); (simp; done))) | (with_reducible refine Blk.put5z ?_) | (with_reducible refine Blk.alloc ?_ _) | (with_reducible refine Blk.far5 ?_ ?_ _ _ _ _ _) | (with_reducible refine Blk.below ?_ hb1) | (with_reducible refine Blk.drew ?_) | omega | (simp <;> omega)))
        · (repeat (first | (focus ((with_reducible refine Blk.new' _ _ _ ?_); (simp; done))) | (with_reducible refine Blk.put5z ?_) | (with_reducible refine Blk.alloc ?_ _) | (with_reducible refine Blk.far5 ?_ ?_ _ _ _ _ _) | (with_reducible refine Blk.below ?_ hb1) | (with_reducible refine Blk.drew ?_) | omega | (simp <;> omega)))
        · (repeat (first | (with_reducible exact HR1.out.1) | (with_reducible refine Sl.alo ?_ _) | (with_reducible refine Sl.st5 ?_ ?_) | (focus ((with_reducible refine Blk.new' _ _ _ ?_); (simp; done))) | (with_reducible refine Blk.alloc ?_ _) | (with_reducible refine Blk.below ?_ hb1) | (with_reducible refine Sl.drew ?_) | (with_reducible refine Blk.drew ?_) | omega | (simp <;> omega)))
        · (repeat (first | (with_reducible exact HR1.out.2) | (with_reducible refine Sl.alo ?_ _) | (with_reducible refine Sl.st5 ?_ ?_) | (focus ((with_reducible refine Blk.new' _ _ _ ?_); (simp; done))) | (with_reducible refine Blk.alloc ?_ _) | (with_reducible refine Blk.below ?_ hb1) | (with_reducible refine Sl.drew ?_) | (with_reducible refine Blk.drew ?_) | omega | (simp <;> omega)))
        · omega
        · (repeat (first | (with_reducible exact HX1) | (with_reducible refine Blk.alloc ?_ _) | (with_reducible refine Blk.far5 ?_ ?_ _ _ _ _ _) | (with_reducible refine Blk.drew ?_) | omega | (simp <;> omega)))
        · (repeat (first | (with_reducible exact hw0) | (with_reducible refine Below.alo ?_ _) | (with_reducible refine Below.sto ?_ ?_ _) | omega | (simp <;> omega)))
        · omega
    case rest =>
      clear HNo HX0 HB c0
      obtain ⟨rb, rfl, hrow, hX, hbel, hrb⟩ := hcut
      have HROW := Lib.hid hrow
      have HX := Lib.hid hX
      have HBE := Lib.hid hbel
      clear hrow hX hbel
      have e0 : ((N + 1 : Nat) : Int) - 1 = (N : Int) := by omega
      go_wp2_with fail
      go_loopw [27] (fun s27 wr => ∃ (i : Nat) (x : QH), i ≤ N ∧ s27 = .int .i64 (i : Int) ∧ rowRel nm x (1 ≤ i) (0 :: ((ws.drop 2).take (i - 1)).map ratV) (w.heap.size + 1) rb wr ∧ Hid (1 ≤ i → x.q = ratV (ws.getD 1 [])) ∧ Hid (∀ j u, j < i → (ws.drop 1)[j]? = some u → ratE u = 0) ∧ Blk wr w.heap.size 57 #[.string ⟨#[]⟩, .bool false, .slice none 0 0, .slice none 0 0, .slice none 0 0] ∧ Below w.heap.size w wr) (fun s27 _ => N - (intOf s27).toNat)
      case atStart =>
        refine ⟨0, zeroH, Nat.zero_le _, rfl, ?_, fun h => by omega, fun j u h => by omega, HX.out, HBE.out⟩
        have := HROW.out
        simpa using this
      case round =>
        clear HROW HX HBE
        obtain ⟨i, x, hi, rfl, hrow, hxq, hok, hX, hbel⟩ := hrel
        have hxl : w.heap.size < wr.heap.size := hX.lt
        by_cases hlt : i < N
        · have ci := (hbel.cell (p := ⟨b, off + (i + 1), none⟩) hb).trans (HAT.out.1 (i + 1) (by omega))
          rw [show off + (i + 1) = off + 1 + i by omega] at ci
          obtain ⟨u, hu⟩ : ∃ u, ws.getD (i + 1) [] = u := ⟨_, rfl⟩
          rw [hu] at ci
          have hul : ws[i + 1]? = some u := by
            have h1 : ws[i + 1]? = some ws[i + 1] := List.getElem?_eq_getElem (by rw [HL.out]; omega)
            rw [List.getD_eq_getElem?_getD, h1] at hu
            rw [h1, ← hu]
            rfl
          have hud : (ws.drop 1)[i]? = some u := by rw [List.getElem?_drop, Nat.add_comm 1 i]; exact hul
          have HPa := rparse_any (bytes u) wr (HW.out.below hbel) (by have := HWS.out u (List.mem_of_getElem? hul); exact this)
          rw [bytes_data] at HPa
          have HPa := Lib.hid HPa
          have HU := Lib.hid (And.intro hul hud)
          have HROW := Lib.hid hrow
          have HX := Lib.hid hX
          have HBE := Lib.hid hbel
          obtain ⟨E, hE⟩ : ∃ E, ratE u = E := ⟨_, rfl⟩
          rw [hE] at HPa
          have HEE := Lib.hid hE
          have HUE := Lib.hid hu
          obtain ⟨B0, hB0⟩ : ∃ B0, bytes u = B0 := ⟨_, rfl⟩
          rw [hB0] at ci HPa
          have i1 : (0 : Int) ≤ (i : Int) := by omega
          have i2 : (i : Int) < (N : Int) := by omega
          clear hul hud hrow hX hbel hE hu hB0
          go_wp2_with fail
          refine HPa.out.mono ?_
          rintro e w2 hret
          by_cases hE0 : E = 0
          · obtain ⟨A2, n2, c2, B2, m2, d2, rfl, s1, l1, s2, l2, hb2⟩ := hret.1 hE0
            subst hE0
            have HOK : Hid (∀ j x, j < i + 1 → (ws.drop 1)[j]? = some x → ratE x = 0) := fun j x hj hx => by
              by_cases e : j = i
              · subst e
                rw [HU.out.2] at hx
                obtain rfl := Option.some.inj hx
                exact HEE.out
              · exact hok.out j x (by omega) hx
            have hal := (Below.refl w2.heap.size w2).alloc (Nat.le_refl _) (.cells #[.bool (ineg (ratV u).num), .slice A2 n2 c2, .slice B2 m2 d2] 36)
            have hB3 := HBE.out.trans ((hb2.trans (hal.mono hb2.size)).mono HBE.out.size)
            have HYO : Hid (QH.Ok ⟨ratV u, A2, n2, c2, B2, m2, d2⟩ w2) := ⟨s1, l1, s2, l2⟩
            have HR2 := Lib.hid (HROW.out.below hb2)
            have HX2 := Lib.hid (HX.out.below hb2)
            have HB2 := Lib.hid (HBE.out.trans (hb2.mono HBE.out.size))
            have hw2 := hb2.size
            clear hret s1 s2 hb2 hal hB3
            have hrne : w.heap.size ≠ rb := by omega
            have hrle : w.heap.size ≤ rb := by omega
            by_cases hi0 : i = 0
            · subst hi0
              obtain ⟨v, hblk, _, _, _⟩ := HR2.out
              have hrl := hblk.lt
              have g1 := hblk.c (i := 1) rfl
              have g2 := hblk.c (i := 2) rfl
              have g3 := hblk.c (i := 3) rfl
              have z1 := hblk.frozen 1
              have z2 := hblk.frozen 2
              have z3 := hblk.frozen 3
              have hrn : ¬ w2.heap.size = rb := by omega
              clear hblk
              go_wp2_with fail
              go_roundw
              case rel =>
                have hbase := HR2.out.base_ ⟨ratV u, A2, n2, c2, B2, m2, d2⟩ HYO.out
                refine ⟨1, ⟨ratV u, A2, n2, c2, B2, m2, d2⟩, by omega, by go_num, ?_, fun _ => by rw [← HUE.out], HOK, ?_, ?_⟩
                · obtain ⟨v', q1, q2, q3, q4⟩ := hbase.below ((Below.refl _ _).alloc (Nat.le_refl _) _)
                  exact ⟨v', q1, fun _ => q2 trivial, by simpa using q3, q4⟩
                · exact (((HX2.out.far (p := ⟨rb, 1, none⟩) hrne _).far (p := ⟨rb, 2, none⟩) hrne _).far (p := ⟨rb, 3, none⟩) hrne _).alloc _
                · exact (((HB2.out.setCell (p := ⟨rb, 1, none⟩) hrle _).setCell (p := ⟨rb, 2, none⟩) hrle _).setCell (p := ⟨rb, 3, none⟩) hrle _).alloc (by simp; have := HB2.out.size; omega) _
              case measure => simp [intOf]; omega
            · obtain ⟨v, hblk, hxo, ⟨ts, t1, t2, t3⟩, hv⟩ := HR2.out
              have hts : ts.length = i := by
                have := congrArg List.length t1
                simp only [List.length_map, List.length_cons, List.length_take, List.length_drop, HL.out] at this
                omega
              rw [hts] at t2
              obtain ⟨A', c', rfl⟩ := own_form t2.1
              have HTS := Lib.hid hts
              have hi1 : ¬ (i : Int) = 0 := by omega
              have g4 := hblk.c (i := 4) rfl
              have z4 := hblk.frozen 4
              have hrl := hblk.lt
              have hrn : ¬ w2.heap.size = rb := by omega
              have hrn2 : ¬ w2.heap.size + 1 = rb := by omega
              have HBK := Lib.hid hblk
              have HXO := Lib.hid hxo
              have HT := Lib.hid (And.intro t1 (And.intro t2 t3))
              have hBA : Below w2.heap.size w2 ((w2.alloc (.cells #[.bool (ineg (ratV u).num), .slice A2 n2 c2, .slice B2 m2 d2] 36)).alloc (.cells #[.bool (ineg (ratV u).num), .slice A2 n2 c2, .slice B2 m2 d2] 36)) := Below.alo (Below.alo (Below.refl _ _) _) _
              have HBA := Lib.hid hBA
              have hq2 : (ws.drop 2)[i - 1]? = some u := by rw [List.getElem?_drop, show 2 + (i - 1) = i + 1 by omega]; exact HU.out.1
              have HQ : Hid ((0 :: ((ws.drop 2).take (i - 1)).map ratV) ++ [ratV u] = 0 :: ((ws.drop 2).take (i + 1 - 1)).map ratV) := by
                rw [Hid, show i + 1 - 1 = (i - 1) + 1 by omega, List.take_add_one, hq2]
                simp
              have hwz := HB2.out.size
              have hik : 1 ≤ i := by omega
              clear hblk hxo t1 t2 t3 hBA hq2 hi0 hts
              go_wp2_with (at_builtin; go_must ((refine append_ratio rfl (.tmp 46) (.tmp 48) rfl (w.heap.size + 1) i _ _ rfl (HT.out.2.1.below HBA.out) (w2.heap.size + 1) rfl ⟨ratV u, A2, n2, c2, B2, m2, d2⟩ (by exact Blk.new' _ _ _ (by simp)) (by omega) (by simp; omega) ?_); intro v5 w5 ho5 hg5 hn5; obtain ⟨A5, c5, hv5⟩ := own_form ho5.1; subst hv5; have X5 := ((HBK.out.below HBA.out).grown hg5 (fun e => own_far (HT.out.2.1.below HBA.out).1 (HBK.out.below HBA.out) (by decide) e.symm)); have t4 := X5.c (i := 4) rfl; have zz4 := X5.frozen 4; clear X5))
              go_roundw
              case rel =>
                have hstep := rowRel.step_ (HBK.out.below HBA.out) (fun p => (HXO.out p).on HBA.out) ⟨ratV u, A2, n2, c2, B2, m2, d2⟩ (HYO.out.on HBA.out) HT.out.1 (by rw [HTS.out]; exact HT.out.2.1.below HBA.out) (fun t ht => (HT.out.2.2 t ht).below HBA.out) (by rw [HTS.out]; exact ho5) hg5 hn5
                refine ⟨i + 1, x, by omega, by go_num, ?_, fun _ => hxq.out hik, HOK, ?_, ?_⟩
                · rw [HQ.out] at hstep
                  obtain ⟨v', q1, q2, q3, q4⟩ := hstep
                  exact ⟨v', q1, fun _ => q2 hik, q3, q4⟩
                · exact (((HX2.out.below HBA.out).grown hg5 (fun e => own_far (HT.out.2.1.below HBA.out).1 (HX2.out.below HBA.out) (by decide) e.symm))).far (p := ⟨rb, 4, none⟩) hrne _
                · exact ((HB2.out.trans (HBA.out.mono HB2.out.size)).grown hg5 (by simp; omega) fun g e => by have := ((HT.out.2.1.below HBA.out).1.lt _ e).1; omega).setCell (p := ⟨rb, 4, none⟩) hrle _
              case measure => simp [intOf]; omega
          · obtain ⟨rfl, hb2⟩ := hret.2 hE0
            have hE1 : (E != 0) = true := by simpa using hE0
            have HE : Hid (rowE N ws = E) := by
              rw [Hid, rowE, if_neg (by rw [HL.out]; simp), ← HEE.out]
              exact nums_at hok.out HU.out.2 (by rw [HEE.out]; exact hE0)
            have X2 := HX.out.below hb2
            have HB2 := Lib.hid (HBE.out.trans (hb2.mono HBE.out.size))
            have f0 := X2.c (i := 0) rfl
            have f1 := X2.c (i := 1) rfl
            have f2 := X2.c (i := 2) rfl
            have f3 := X2.c (i := 3) rfl
            have f4 := X2.c (i := 4) rfl
            have z0 := X2.frozen 0
            have z1 := X2.frozen 1
            have z2 := X2.frozen 2
            have z3 := X2.frozen 3
            have z4 := X2.frozen 4
            have hx2 : w.heap.size < w2.heap.size := X2.lt
            have hxn : ¬ w2.heap.size = w.heap.size := by omega
            clear hret hb2 X2 HX HROW
            go_wp2_with fail
            refine bodyPost_ret (v := .tuple #[.agg #[.string ⟨#[]⟩, .bool false, .slice none 0 0, .slice none 0 0, .slice none 0 0], .int .i64 E]) (by simp [results, Tryz.results62, go_sem, f0, f1, f2, f3, f4, hx2]) rfl ?_
            exact RetRow5.bad HE.out hE0 ((below5 HB2.out (Nat.le_refl _) _ _ _ _ _).alloc (by simp; exact HB2.out.size) _)
        · obtain rfl : i = N := by omega
          obtain ⟨v, hblk, hxo, hst, hv⟩ := hrow
          have hdone := rowRel.done (x := x) (nm := nm) (rb := rb) (base := w.heap.size + 1) (qs := 0 :: ((ws.drop 2).take (i - 1)).map ratV) ⟨v, hblk, fun _ => hxo hN, hst, hv⟩
          have hql : (0 :: ((ws.drop 2).take (i - 1)).map ratV) = (rowV ws).steps := by
            rw [List.take_of_length_le (by rw [List.length_drop, HL.out]; omega)]
            rfl
          rw [hql] at hdone
          clear hblk hxo hst hv
          obtain ⟨A', c', hblk, hxo, hra, hcc, hfr⟩ := hdone
          have HE : Hid (rowE i ws = 0) := by
            rw [Hid, rowE, if_neg (by rw [HL.out]; simp)]
            refine nums_ok fun j y hy => hok.out j y ?_ hy
            have := (List.getElem?_eq_some_iff.1 hy).1
            rw [List.length_drop, HL.out] at this
            omega
          have HFI : Hid (RH.Ok ⟨rowV ws, x, A', (rowV ws).steps.length, c'⟩ wr ∧ (rowV ws).name = nm) := ⟨⟨hxq.out hN, hxo, hra, hcc⟩, HNM.out⟩
          have g0 := hblk.c (i := 0) rfl
          have g1 := hblk.c (i := 1) rfl
          have g2 := hblk.c (i := 2) rfl
          have g3 := hblk.c (i := 3) rfl
          have g4 := hblk.c (i := 4) rfl
          have f0 := hX.c (i := 0) rfl
          have f1 := hX.c (i := 1) rfl
          have f2 := hX.c (i := 2) rfl
          have f3 := hX.c (i := 3) rfl
          have f4 := hX.c (i := 4) rfl
          have z0 := hX.frozen 0
          have z1 := hX.frozen 1
          have z2 := hX.frozen 2
          have z3 := hX.frozen 3
          have z4 := hX.frozen 4
          have HX := Lib.hid hX
          have HBE := Lib.hid hbel
          have HFR := Lib.hid hfr
          clear hblk hX hbel hxo hra hok hfr hql
          go_wp2_with fail
          refine bodyPost_ret (v := .tuple #[.agg #[.string nm, .bool (ineg x.q.num), .slice x.A x.n x.c, .slice x.B x.m x.d, .slice A' (rowV ws).steps.length c'], .int .i64 0]) (by simp [results, Tryz.results62, go_sem, f0, f1, f2, f3, f4]) rfl ?_
          refine ⟨fun _ => ⟨⟨rowV ws, x, A', (rowV ws).steps.length, c'⟩, rfl, by rw [HFI.out.2], ?_, fun g off e => by have := HFR.out g off e; omega, below5 HBE.out (Nat.le_refl _) _ _ _ _ _⟩, fun e => absurd HE.out e⟩
          exact HFI.out.1.gro (grown5 wr w.heap.size _ _ _ _ _) (NoU.blk HX.out (by simp)) fun _ g off e e2 => by
            have h1 := HFR.out g off e
            injection e2 with e2
            omega
  · have HE := Lib.hid (rowE_len (n := N) (ws := ws) (by omega))
    have hne : ((n : Int) != (N : Int) + 1) = true := by rw [bne_iff_ne]; omega
    clear h hl hws hw hB X0 HX0
    go_enter Tryz.func62, Tryz.ntmps62
    go_wp2_with fail
    refine bodyPost_ret (v := .tuple #[.agg #[.string ⟨#[]⟩, .bool false, .slice none 0 0, .slice none 0 0, .slice none 0 0], .int .i64 2]) (by simp [results, Tryz.results62, go_sem]) rfl ?_
    exact RetRow5.bad HE.out (by omega) HB.out
end Go.Proofs.YtjiccijfbpkliaaGreatDoor

/- garmentref18.read returns the row of a line, or the error. Conditions: words of at most 1,000,000 bytes, at most 100,000 of them; at least one size. -/
namespace Go.Proofs.YtjiccijfbpkliaaGreatDoor
open Go.RowKit
open Go.Lib hiding intOf
attribute [local go_sem ↓] Go.wp_at_zero Go.wp_at_succ

theorem whole_zero : wholeQ 0 = 0 := by decide +kernel

set_option maxRecDepth 100000 in
set_option maxHeartbeats 6400000 in
theorem read_any (A : Option Addr) (n c N : Nat) (ws : List (List UInt8)) (w : World) (h : Sl w w.heap.size A n (strs (ws.map bytes))) (hn : n ≤ 100000) (hc : n ≤ c) (hN : 1 ≤ N) (hN2 : N ≤ 100000) (hws : ∀ u ∈ ws, u.length ≤ 1000000) :
    Calls Tryz.prog 65 #[.slice A n c, .int .i64 (N : Int)] w (RetRow5 N ws w) := by
  have hl : ws.length = n := by have := h.slen; rw [List.length_map] at this; exact this
  have hB : Below w.heap.size w (w.alloc (.cells #[.string ⟨#[]⟩, .bool false, .slice none 0 0, .slice none 0 0, .slice none 0 0] 57)) := (Below.refl _ _).alloc (Nat.le_refl _) _
  have X0 := Blk.new w 57 #[.string ⟨#[]⟩, .bool false, .slice none 0 0, .slice none 0 0, .slice none 0 0]
  have HB := Lib.hid hB
  have HX0 := Lib.hid X0
  by_cases hlen : n = N + 1
  · subst hlen
    obtain ⟨_, b, off, rfl, hb, hat⟩ := words_at h (by omega)
    have c0 := hat 0 (by omega)
    rw [Nat.add_zero] at c0
    obtain ⟨nm, hnm⟩ : ∃ nm, bytes (ws.getD 0 []) = nm := ⟨_, rfl⟩
    rw [hnm] at c0
    have HNM := Lib.hid hnm
    have HL := Lib.hid hl
    have HAT := Lib.hid (And.intro hat hb)
    have HWS := Lib.hid hws
    have hbb : b < w.heap.size + 1 := by omega
    have HNo := fun W (hW : Below (w.alloc (.cells #[.string ⟨#[]⟩, .bool false, .slice none 0 0, .slice none 0 0, .slice none 0 0] 57)).heap.size (w.alloc (.cells #[.string ⟨#[]⟩, .bool false, .slice none 0 0, .slice none 0 0, .slice none 0 0] 57)) W) => (show Calls Tryz.prog 44 #[.int .i64 0] W (RetQ 0 W) from (by have := kwhole_nat 0 W (by omega); rw [show wholeQ ((0 : Nat) : Int) = 0 from whole_zero] at this; exact this)).mono fun e w' hh => (show RetQw 0 _ W e w' from by
      obtain ⟨A, n, c, B, m, d, h1, h2, h3, h4, h5, h6⟩ := hh
      exact ⟨A, n, c, B, m, d, h1, h2, h3, h4, h5, h6, hW.trans (h6.mono hW.size)⟩)
    have HNo := Lib.hid HNo
    clear h hat hl hnm hws X0 hB
    go_enter Tryz.func65, Tryz.ntmps65
    go_upto_region 3 with fail
    go_cut [6] (fun s6 wx => rowCut nm w s6 wx)
    case first =>
      go_region_held3 (fun w' => w'.cell? ⟨b, off, none⟩ = some (.string nm))
        ((refine word_keep hb c0 ?_; repeat (first | (with_reducible exact Below.refl _ _) | (with_reducible exact hw0) | (with_reducible refine Below.drew ?_) | (with_reducible refine Below.alo ?_ _) | (with_reducible refine Below.sto ?_ ?_ _) | omega | (simp <;> omega))))
        (first
        | (go_at_call 44; go_must ((refine (HNo.out _ (by repeat (first | (with_reducible exact Below.refl _ _) | (with_reducible refine Below.drew ?_) | (with_reducible refine Below.alo ?_ _)))).mono ?_); rintro e w1 ⟨A3, n3, c3, B3, m3, d3, rfl, r1, r2, r3, r4, hb1, hw1⟩; have hz1 := hb1.size; (try simp at hz1); have hz0 : w.heap.size + 1 ≤ w1.heap.size := (by omega); have hw0 := HB.out.trans (hw1.mono HB.out.size); (try (have hza : w.heap.size + 1 < w1.heap.size := by omega)); (try (have hzb : w.heap.size + 1 < w1.heap.size + 1 := by omega)); (try (have hzc : ¬ w1.heap.size = w.heap.size + 1 := by omega)); have hzd : w1.heap.size < w1.heap.size + 1 := (by omega); obtain ⟨hcl, hfr⟩ := bcell hb1; have HR1 := Lib.hid (And.intro r1 r3); clear r1 r3)))
      all_goals
        go_wp2_with fail
        go_meet
        go_light
      · have HX1 := HX0.out.below hw1
        refine ⟨_, rfl, row_start (gb := w1.heap.size) (A := A3) (B := B3) ?_ ?_ ?_ r2 ?_ r4 ?_, ?_, ?_, ?_⟩
        · (repeat (first | (focus ((with_reducible refine Blk.new' _ _ _ ?_); (simp; done))) | (with_reducible refine Blk.put5z ?_) | (with_reducible refine Blk.alloc ?_ _) | (with_reducible refine Blk.far5 ?_ ?_ _ _ _ _ _) | (with_reducible refine Blk.below ?_ hb1) | (with_reducible refine Blk.drew ?_) | omega | (simp <;> omega)))
        · (repeat (first | (focus ((with_reducible refine Blk.new' _ _ _ ?_); (simp; done))) | (with_reducible refine Blk.put5z ?_) | (with_reducible refine Blk.alloc ?_ _) | (with_reducible refine Blk.far5 ?_ ?_ _ _ _ _ _) | (with_reducible refine Blk.below ?_ hb1) | (with_reducible refine Blk.drew ?_) | omega | (simp <;> omega)))
        · (repeat (first | (with_reducible exact HR1.out.1) | (with_reducible refine Sl.alo ?_ _) | (with_reducible refine Sl.st5 ?_ ?_) | (focus ((with_reducible refine Blk.new' _ _ _ ?_); (simp; done))) | (with_reducible refine Blk.alloc ?_ _) | (with_reducible refine Blk.below ?_ hb1) | (with_reducible refine Sl.drew ?_) | (with_reducible refine Blk.drew ?_) | omega | (simp <;> omega)))
        · (repeat (first | (with_reducible exact HR1.out.2) | (with_reducible refine Sl.alo ?_ _) | (with_reducible refine Sl.st5 ?_ ?_) | (focus ((with_reducible refine Blk.new' _ _ _ ?_); (simp; done))) | (with_reducible refine Blk.alloc ?_ _) | (with_reducible refine Blk.below ?_ hb1) | (with_reducible refine Sl.drew ?_) | (with_reducible refine Blk.drew ?_) | omega | (simp <;> omega)))
        · omega
        · (repeat (first | (with_reducible exact HX1) | (with_reducible refine Blk.alloc ?_ _) | (with_reducible refine Blk.far5 ?_ ?_ _ _ _ _ _) | (with_reducible refine Blk.drew ?_) | omega | (simp <;> omega)))
        · (repeat (first | (with_reducible exact hw0) | (with_reducible refine Below.alo ?_ _) | (with_reducible refine Below.sto ?_ ?_ _) | omega | (simp <;> omega)))
        · omega
      · have HX1 := HX0.out.below hw1
        refine ⟨_, rfl, row_start (gb := w1.heap.size + 1) (A := A3) (B := B3) ?_ ?_ ?_ r2 ?_ r4 ?_, ?_, ?_, ?_⟩
        · (repeat (first | (focus ((with_reducible refine Blk.new' _ _ _ ?_); (simp; done))) | (with_reducible refine Blk.put5z ?_) | (with_reducible refine Blk.alloc ?_ _) | (with_reducible refine Blk.far5 ?_ ?_ _ _ _ _ _) | (with_reducible refine Blk.below ?_ hb1) | (with_reducible refine Blk.drew ?_) | omega | (simp <;> omega)))
        · (repeat (first | (focus ((with_reducible refine Blk.new' _ _ _ ?_); (simp; done))) | (with_reducible refine Blk.put5z ?_) | (with_reducible refine Blk.alloc ?_ _) | (with_reducible refine Blk.far5 ?_ ?_ _ _ _ _ _) | (with_reducible refine Blk.below ?_ hb1) | (with_reducible refine Blk.drew ?_) | omega | (simp <;> omega)))
        · (repeat (first | (with_reducible exact HR1.out.1) | (with_reducible refine Sl.alo ?_ _) | (with_reducible refine Sl.st5 ?_ ?_) | (focus ((with_reducible refine Blk.new' _ _ _ ?_); (simp; done))) | (with_reducible refine Blk.alloc ?_ _) | (with_reducible refine Blk.below ?_ hb1) | (with_reducible refine Sl.drew ?_) | (with_reducible refine Blk.drew ?_) | omega | (simp <;> omega)))
        · (repeat (first | (with_reducible exact HR1.out.2) | (with_reducible refine Sl.alo ?_ _) | (with_reducible refine Sl.st5 ?_ ?_) | (focus ((with_reducible refine Blk.new' _ _ _ ?_); (simp; done))) | (with_reducible refine Blk.alloc ?_ _) | (with_reducible refine Blk.below ?_ hb1) | (with_reducible refine Sl.drew ?_) | (with_reducible refine Blk.drew ?_) | omega | (simp <;> omega)))
        · omega
        · (repeat (first | (with_reducible exact HX1) | (with_reducible refine Blk.alloc ?_ _) | (with_reducible refine Blk.far5 ?_ ?_ _ _ _ _ _) | (with_reducible refine Blk.drew ?_) | omega | (simp <;> omega)))
        · (repeat (first | (with_reducible exact hw0) | (with_reducible refine Below.alo ?_ _) | (with_reducible refine Below.sto ?_ ?_ _) | omega | (simp <;> omega)))
        · omega
      · have HX1 := HX0.out.below hw1
        refine ⟨_, rfl, row_start (gb := w1.heap.size) (A := A3) (B := B3) ?_ ?_ ?_ r2 ?_ r4 ?_, ?_, ?_, ?_⟩
        · (repeat (first | (focus ((with_reducible refine Blk.new' _ _ _ ?_); (simp; done))) | (with_reducible refine Blk.put5z ?_) | (with_reducible refine Blk.alloc ?_ _) | (with_reducible refine Blk.far5 ?_ ?_ _ _ _ _ _) | (with_reducible refine Blk.below ?_ hb1) | (with_reducible refine Blk.drew ?_) | omega | (simp <;> omega)))
        · (repeat (first | (focus ((with_reducible refine Blk.new' _ _ _ ?_); (simp; done))) | (with_reducible refine Blk.put5z ?_) | (with_reducible refine Blk.alloc ?_ _) | (with_reducible refine Blk.far5 ?_ ?_ _ _ _ _ _) | (with_reducible refine Blk.below ?_ hb1) | (with_reducible refine Blk.drew ?_) | omega | (simp <;> omega)))
        · (repeat (first | (with_reducible exact HR1.out.1) | (with_reducible refine Sl.alo ?_ _) | (with_reducible refine Sl.st5 ?_ ?_) | (focus ((with_reducible refine Blk.new' _ _ _ ?_); (simp; done))) | (with_reducible refine Blk.alloc ?_ _) | (with_reducible refine Blk.below ?_ hb1) | (with_reducible refine Sl.drew ?_) | (with_reducible refine Blk.drew ?_) | omega | (simp <;> omega)))
        · (repeat (first | (with_reducible exact HR1.out.2) | (with_reducible refine Sl.alo ?_ _) | (with_reducible refine Sl.st5 ?_ ?_) | (focus ((with_reducible refine Blk.new' _ _ _ ?_); (simp; done))) | (with_reducible refine Blk.alloc ?_ _) | (with_reducible refine Blk.below ?_ hb1) | (with_reducible refine Sl.drew ?_) | (with_reducible refine Blk.drew ?_) | omega | (simp <;> omega)))
        · omega
        · (repeat (first | (with_reducible exact HX1) | (with_reducible refine Blk.alloc ?_ _) | (with_reducible refine Blk.far5 ?_ ?_ _ _ _ _ _) | (with_reducible refine Blk.drew ?_) | omega | (simp <;> omega)))
        · (repeat (first | (with_reducible exact hw0) | (with_reducible refine Below.alo ?_ _) | (with_reducible refine Below.sto ?_ ?_ _) | omega | (simp <;> omega)))
        · omega
    case rest =>
      clear HNo HX0 HB c0
      obtain ⟨rb, rfl, hrow, hX, hbel, hrb⟩ := hcut
      have HROW := Lib.hid hrow
      have HX := Lib.hid hX
      have HBE := Lib.hid hbel
      clear hrow hX hbel
      go_wp2_with fail
      go_loopw [7] (fun s27 wr => ∃ (i : Nat) (x : QH), i ≤ N ∧ s27 = .int .i64 ((i : Int) + 1) ∧ rowRel nm x (1 ≤ i) (0 :: ((ws.drop 2).take (i - 1)).map ratV) (w.heap.size + 1) rb wr ∧ Hid (1 ≤ i → x.q = ratV (ws.getD 1 [])) ∧ Hid (∀ j u, j < i → (ws.drop 1)[j]? = some u → ratE u = 0) ∧ Blk wr w.heap.size 57 #[.string ⟨#[]⟩, .bool false, .slice none 0 0, .slice none 0 0, .slice none 0 0] ∧ Below w.heap.size w wr) (fun s27 _ => N + 1 - (intOf s27).toNat)
      case atStart =>
        refine ⟨0, zeroH, Nat.zero_le _, rfl, ?_, fun h => by omega, fun j u h => by omega, HX.out, HBE.out⟩
        have := HROW.out
        simpa using this
      case round =>
        clear HROW HX HBE
        obtain ⟨i, x, hi, rfl, hrow, hxq, hok, hX, hbel⟩ := hrel
        have hxl : w.heap.size < wr.heap.size := hX.lt
        by_cases hlt : i < N
        · have ci := (hbel.cell (p := ⟨b, off + (i + 1), none⟩) hb).trans (HAT.out.1 (i + 1) (by omega))
          obtain ⟨u, hu⟩ : ∃ u, ws.getD (i + 1) [] = u := ⟨_, rfl⟩
          rw [hu] at ci
          have hul : ws[i + 1]? = some u := by
            have h1 : ws[i + 1]? = some ws[i + 1] := List.getElem?_eq_getElem (by rw [HL.out]; omega)
            rw [List.getD_eq_getElem?_getD, h1] at hu
            rw [h1, ← hu]
            rfl
          have hud : (ws.drop 1)[i]? = some u := by rw [List.getElem?_drop, Nat.add_comm 1 i]; exact hul
          have HPa := kparse_any (bytes u) wr (by have := HWS.out u (List.mem_of_getElem? hul); exact this)
          rw [bytes_data] at HPa
          have HPa := Lib.hid HPa
          have HU := Lib.hid (And.intro hul hud)
          have HROW := Lib.hid hrow
          have HX := Lib.hid hX
          have HBE := Lib.hid hbel
          obtain ⟨E, hE⟩ : ∃ E, ratE u = E := ⟨_, rfl⟩
          rw [hE] at HPa
          have HEE := Lib.hid hE
          have HUE := Lib.hid hu
          obtain ⟨B0, hB0⟩ : ∃ B0, bytes u = B0 := ⟨_, rfl⟩
          rw [hB0] at ci HPa
          have i1 : (0 : Int) ≤ (i : Int) + 1 := by omega
          have i2 : (i : Int) + 1 < (N : Int) + 1 := by omega
          have i3 : ((i : Int) + 1).toNat = i + 1 := by omega
          clear hul hud hrow hX hbel hE hu hB0
          go_wp2_with fail
          refine HPa.out.mono ?_
          rintro e w2 hret
          by_cases hE0 : E = 0
          · obtain ⟨A2, n2, c2, B2, m2, d2, rfl, s1, l1, s2, l2, hb2⟩ := hret.1 hE0
            subst hE0
            have HOK : Hid (∀ j x, j < i + 1 → (ws.drop 1)[j]? = some x → ratE x = 0) := fun j x hj hx => by
              by_cases e : j = i
              · subst e
                rw [HU.out.2] at hx
                obtain rfl := Option.some.inj hx
                exact HEE.out
              · exact hok.out j x (by omega) hx
            have hal := (Below.refl w2.heap.size w2).alloc (Nat.le_refl _) (.cells #[.bool (ineg (ratV u).num), .slice A2 n2 c2, .slice B2 m2 d2] 36)
            have hB3 := HBE.out.trans ((hb2.trans (hal.mono hb2.size)).mono HBE.out.size)
            have HYO : Hid (QH.Ok ⟨ratV u, A2, n2, c2, B2, m2, d2⟩ w2) := ⟨s1, l1, s2, l2⟩
            have HR2 := Lib.hid (HROW.out.below hb2)
            have HX2 := Lib.hid (HX.out.below hb2)
            have HB2 := Lib.hid (HBE.out.trans (hb2.mono HBE.out.size))
            have hw2 := hb2.size
            clear hret s1 s2 hb2 hal hB3
            have hrne : w.heap.size ≠ rb := by omega
            have hrle : w.heap.size ≤ rb := by omega
            by_cases hi0 : i = 0
            · subst hi0
              obtain ⟨v, hblk, _, _, _⟩ := HR2.out
              have hrl := hblk.lt
              have g1 := hblk.c (i := 1) rfl
              have g2 := hblk.c (i := 2) rfl
              have g3 := hblk.c (i := 3) rfl
              have z1 := hblk.frozen 1
              have z2 := hblk.frozen 2
              have z3 := hblk.frozen 3
              have hrn : ¬ w2.heap.size = rb := by omega
              clear hblk
              go_wp2_with fail
              go_roundw
              case rel =>
                have hbase := HR2.out.base_ ⟨ratV u, A2, n2, c2, B2, m2, d2⟩ HYO.out
                refine ⟨1, ⟨ratV u, A2, n2, c2, B2, m2, d2⟩, by omega, by go_num, ?_, fun _ => by rw [← HUE.out], HOK, ?_, ?_⟩
                · obtain ⟨v', q1, q2, q3, q4⟩ := hbase.below ((Below.refl _ _).alloc (Nat.le_refl _) _)
                  exact ⟨v', q1, fun _ => q2 trivial, by simpa using q3, q4⟩
                · exact (((HX2.out.far (p := ⟨rb, 1, none⟩) hrne _).far (p := ⟨rb, 2, none⟩) hrne _).far (p := ⟨rb, 3, none⟩) hrne _).alloc _
                · exact (((HB2.out.setCell (p := ⟨rb, 1, none⟩) hrle _).setCell (p := ⟨rb, 2, none⟩) hrle _).setCell (p := ⟨rb, 3, none⟩) hrle _).alloc (by simp; have := HB2.out.size; omega) _
              case measure => simp [intOf]; omega
            · obtain ⟨v, hblk, hxo, ⟨ts, t1, t2, t3⟩, hv⟩ := HR2.out
              have hts : ts.length = i := by
                have := congrArg List.length t1
                simp only [List.length_map, List.length_cons, List.length_take, List.length_drop, HL.out] at this
                omega
              rw [hts] at t2
              obtain ⟨A', c', rfl⟩ := own_form t2.1
              have HTS := Lib.hid hts
              have hi1 : ((i : Int) + 1 == 1) = false := by rw [beq_eq_false_iff_ne]; omega
              have g4 := hblk.c (i := 4) rfl
              have z4 := hblk.frozen 4
              have hrl := hblk.lt
              have hrn : ¬ w2.heap.size = rb := by omega
              have hrn2 : ¬ w2.heap.size + 1 = rb := by omega
              have HBK := Lib.hid hblk
              have HXO := Lib.hid hxo
              have HT := Lib.hid (And.intro t1 (And.intro t2 t3))
              have hBA : Below w2.heap.size w2 ((w2.alloc (.cells #[.bool (ineg (ratV u).num), .slice A2 n2 c2, .slice B2 m2 d2] 36)).alloc (.cells #[.bool (ineg (ratV u).num), .slice A2 n2 c2, .slice B2 m2 d2] 36)) := Below.alo (Below.alo (Below.refl _ _) _) _
              have HBA := Lib.hid hBA
              have hq2 : (ws.drop 2)[i - 1]? = some u := by rw [List.getElem?_drop, show 2 + (i - 1) = i + 1 by omega]; exact HU.out.1
              have HQ : Hid ((0 :: ((ws.drop 2).take (i - 1)).map ratV) ++ [ratV u] = 0 :: ((ws.drop 2).take (i + 1 - 1)).map ratV) := by
                rw [Hid, show i + 1 - 1 = (i - 1) + 1 by omega, List.take_add_one, hq2]
                simp
              have hwz := HB2.out.size
              have hik : 1 ≤ i := by omega
              clear hblk hxo t1 t2 t3 hBA hq2 hi0 hts
              go_wp2_with (at_builtin; go_must ((refine append_ratio rfl (.tmp 45) (.tmp 47) rfl (w.heap.size + 1) i _ _ rfl (HT.out.2.1.below HBA.out) (w2.heap.size + 1) rfl ⟨ratV u, A2, n2, c2, B2, m2, d2⟩ (by exact Blk.new' _ _ _ (by simp)) (by omega) (by simp; omega) ?_); intro v5 w5 ho5 hg5 hn5; obtain ⟨A5, c5, hv5⟩ := own_form ho5.1; subst hv5; have X5 := ((HBK.out.below HBA.out).grown hg5 (fun e => own_far (HT.out.2.1.below HBA.out).1 (HBK.out.below HBA.out) (by decide) e.symm)); have t4 := X5.c (i := 4) rfl; have zz4 := X5.frozen 4; clear X5))
              go_roundw
              case rel =>
                have hstep := rowRel.step_ (HBK.out.below HBA.out) (fun p => (HXO.out p).on HBA.out) ⟨ratV u, A2, n2, c2, B2, m2, d2⟩ (HYO.out.on HBA.out) HT.out.1 (by rw [HTS.out]; exact HT.out.2.1.below HBA.out) (fun t ht => (HT.out.2.2 t ht).below HBA.out) (by rw [HTS.out]; exact ho5) hg5 hn5
                refine ⟨i + 1, x, by omega, by go_num, ?_, fun _ => hxq.out hik, HOK, ?_, ?_⟩
                · rw [HQ.out] at hstep
                  obtain ⟨v', q1, q2, q3, q4⟩ := hstep
                  exact ⟨v', q1, fun _ => q2 hik, q3, q4⟩
                · exact (((HX2.out.below HBA.out).grown hg5 (fun e => own_far (HT.out.2.1.below HBA.out).1 (HX2.out.below HBA.out) (by decide) e.symm))).far (p := ⟨rb, 4, none⟩) hrne _
                · exact ((HB2.out.trans (HBA.out.mono HB2.out.size)).grown hg5 (by simp; omega) fun g e => by have := ((HT.out.2.1.below HBA.out).1.lt _ e).1; omega).setCell (p := ⟨rb, 4, none⟩) hrle _
              case measure => simp [intOf]; omega
          · obtain ⟨rfl, hb2⟩ := hret.2 hE0
            have hE1 : (E != 0) = true := by simpa using hE0
            have HE : Hid (rowE N ws = E) := by
              rw [Hid, rowE, if_neg (by rw [HL.out]; simp), ← HEE.out]
              exact nums_at hok.out HU.out.2 (by rw [HEE.out]; exact hE0)
            have X2 := HX.out.below hb2
            have HB2 := Lib.hid (HBE.out.trans (hb2.mono HBE.out.size))
            have f0 := X2.c (i := 0) rfl
            have f1 := X2.c (i := 1) rfl
            have f2 := X2.c (i := 2) rfl
            have f3 := X2.c (i := 3) rfl
            have f4 := X2.c (i := 4) rfl
            have z0 := X2.frozen 0
            have z1 := X2.frozen 1
            have z2 := X2.frozen 2
            have z3 := X2.frozen 3
            have z4 := X2.frozen 4
            have hx2 : w.heap.size < w2.heap.size := X2.lt
            have hxn : ¬ w2.heap.size = w.heap.size := by omega
            clear hret hb2 X2 HX HROW
            go_wp2_with fail
            refine bodyPost_ret (v := .tuple #[.agg #[.string ⟨#[]⟩, .bool false, .slice none 0 0, .slice none 0 0, .slice none 0 0], .int .i64 E]) (by simp [results, Tryz.results65, go_sem, f0, f1, f2, f3, f4, hx2]) rfl ?_
            exact RetRow5.bad HE.out hE0 ((below5 HB2.out (Nat.le_refl _) _ _ _ _ _).alloc (by simp; exact HB2.out.size) _)
        · obtain rfl : i = N := by omega
          obtain ⟨v, hblk, hxo, hst, hv⟩ := hrow
          have hdone := rowRel.done (x := x) (nm := nm) (rb := rb) (base := w.heap.size + 1) (qs := 0 :: ((ws.drop 2).take (i - 1)).map ratV) ⟨v, hblk, fun _ => hxo hN, hst, hv⟩
          have hql : (0 :: ((ws.drop 2).take (i - 1)).map ratV) = (rowV ws).steps := by
            rw [List.take_of_length_le (by rw [List.length_drop, HL.out]; omega)]
            rfl
          rw [hql] at hdone
          clear hblk hxo hst hv
          obtain ⟨A', c', hblk, hxo, hra, hcc, hfr⟩ := hdone
          have HE : Hid (rowE i ws = 0) := by
            rw [Hid, rowE, if_neg (by rw [HL.out]; simp)]
            refine nums_ok fun j y hy => hok.out j y ?_ hy
            have := (List.getElem?_eq_some_iff.1 hy).1
            rw [List.length_drop, HL.out] at this
            omega
          have HFI : Hid (RH.Ok ⟨rowV ws, x, A', (rowV ws).steps.length, c'⟩ wr ∧ (rowV ws).name = nm) := ⟨⟨hxq.out hN, hxo, hra, hcc⟩, HNM.out⟩
          have g0 := hblk.c (i := 0) rfl
          have g1 := hblk.c (i := 1) rfl
          have g2 := hblk.c (i := 2) rfl
          have g3 := hblk.c (i := 3) rfl
          have g4 := hblk.c (i := 4) rfl
          have f0 := hX.c (i := 0) rfl
          have f1 := hX.c (i := 1) rfl
          have f2 := hX.c (i := 2) rfl
          have f3 := hX.c (i := 3) rfl
          have f4 := hX.c (i := 4) rfl
          have z0 := hX.frozen 0
          have z1 := hX.frozen 1
          have z2 := hX.frozen 2
          have z3 := hX.frozen 3
          have z4 := hX.frozen 4
          have HX := Lib.hid hX
          have HBE := Lib.hid hbel
          have HFR := Lib.hid hfr
          clear hblk hX hbel hxo hra hok hfr hql
          go_wp2_with fail
          refine bodyPost_ret (v := .tuple #[.agg #[.string nm, .bool (ineg x.q.num), .slice x.A x.n x.c, .slice x.B x.m x.d, .slice A' (rowV ws).steps.length c'], .int .i64 0]) (by simp [results, Tryz.results65, go_sem, f0, f1, f2, f3, f4]) rfl ?_
          refine ⟨fun _ => ⟨⟨rowV ws, x, A', (rowV ws).steps.length, c'⟩, rfl, by rw [HFI.out.2], ?_, fun g off e => by have := HFR.out g off e; omega, below5 HBE.out (Nat.le_refl _) _ _ _ _ _⟩, fun e => absurd HE.out e⟩
          exact HFI.out.1.gro (grown5 wr w.heap.size _ _ _ _ _) (NoU.blk HX.out (by simp)) fun _ g off e e2 => by
            have h1 := HFR.out g off e
            injection e2 with e2
            omega
  · have HE := Lib.hid (rowE_len (n := N) (ws := ws) (by omega))
    have hne : ((n : Int) != (N : Int) + 1) = true := by rw [bne_iff_ne]; omega
    clear h hl hws hB X0 HX0
    go_enter Tryz.func65, Tryz.ntmps65
    go_wp2_with fail
    refine bodyPost_ret (v := .tuple #[.agg #[.string ⟨#[]⟩, .bool false, .slice none 0 0, .slice none 0 0, .slice none 0 0], .int .i64 2]) (by simp [results, Tryz.results65, go_sem]) rfl ?_
    exact RetRow5.bad HE.out (by omega) HB.out
end Go.Proofs.YtjiccijfbpkliaaGreatDoor

/- Plain facts on what a text of a chart holds, and how strings.Cut, strings.Split and slices.Contains serve. Conditions: Std; texts of at most 1,000,000 bytes. -/
namespace Go.Proofs.YtjiccijfbpkliaaGreatDoor
open Go.RowKit
open Go.Lib hiding intOf

/-! ### numbers of at most 200 limbs -/
theorem natE_nl {l : List UInt8} (h : natE l = 0) : nl (valD l) ≤ 200 := by
  obtain ⟨h2, h3⟩ := natE_zero h
  apply nl_le
  have h4 := valD_lt _ (digOk_iff.1 h3).2.2
  exact Nat.lt_of_lt_of_le h4 (Nat.le_trans (Nat.pow_le_pow_right (by omega) h2) (Nat.pow_le_pow_left (by unfold bs; omega) _))
theorem qk_ratV {u : List UInt8} (h : ratE u = 0) : qk (ratV u) 200 := by
  unfold ratV
  refine qk_rv (intV_nl _) ?_ (by omega)
  split
  · rename_i hf
    unfold ratE at h
    split at h
    · exact absurd h (by assumption)
    · split at h
      · rename_i h2
        rw [hf] at h2
        cases h2
      · split at h
        · exact absurd h (by assumption)
        · rename_i h3
          exact natE_nl (by simpa using h3)
  · exact Nat.le_trans (nl_small (v := 1) (by unfold bs; omega)) (by omega)
theorem qk_zero : qk 0 200 := by
  have := qk_rv (i := 0) (d := 0) (k := 200) (by rw [show (0 : Int).natAbs = 0 from rfl, nl_zero]; omega) (by rw [nl_zero]; omega) (by omega)
  rwa [rv_zero] at this
/-- A row that fits. -/
def rowFit (r : PRow) : Prop := r.name.size ≤ 20000 ∧ qk r.base 200 ∧ ∀ q ∈ r.steps, qk q 200
theorem fit_row {n : Nat} {ws : List (List UInt8)} (h : rowE n ws = 0) (hn : 1 ≤ n) (hw : ∀ u ∈ ws, u.length ≤ 20000) : rowFit (rowV ws) := by
  unfold rowE at h
  split at h
  · cases h
  · rename_i hl
    have hl : ws.length = n + 1 := by simpa using hl
    match ws, hl with
    | [v], hl => simp at hl; omega
    | v :: x :: vs, _ =>
      have hz := nums_zero h
      refine ⟨?_, ?_, fun q hq => ?_⟩
      · exact hw v (by simp)
      · exact qk_ratV (hz x (by simp))
      · simp only [rowV, List.mem_cons, List.mem_map] at hq
        rcases hq with rfl | ⟨u, hu, rfl⟩
        · exact qk_zero
        · exact qk_ratV (hz u (by simp; exact .inr (by simpa using hu)))
theorem tail_len (us : List (List UInt8)) : us.length ≤ (tailW us).length ∧ ∀ u ∈ us, u.length ≤ (tailW us).length := by
  induction us with
  | nil => exact ⟨Nat.le_refl _, fun u h => by cases h⟩
  | cons x us ih =>
    have e : (tailW (x :: us)).length = x.length + 1 + (tailW us).length := by simp [tailW]; omega
    refine ⟨by rw [List.length_cons, e]; omega, fun u hu => ?_⟩
    rcases List.mem_cons.1 hu with rfl | hu
    · omega
    · have := ih.2 u hu
      omega
theorem line_bounds {l t : List UInt8} {ws : List (List UInt8)} (h : lineP l = some (ws, t)) : ws.length ≤ l.length ∧ (∀ u ∈ ws, u.length ≤ l.length) ∧ t.length < l.length := by
  obtain ⟨v, vs, rfl, rfl⟩ := line_inv h
  obtain ⟨h1, h2⟩ := tail_len vs
  simp only [List.length_cons, List.length_append]
  refine ⟨by omega, fun u hu => ?_, by omega⟩
  rcases List.mem_cons.1 hu with rfl | hu
  · omega
  · have := h2 u hu
    omega
theorem head_n {ws : List (List UInt8)} (h : headE ws = 0) : 1 ≤ (sizesOf ws).length := by
  unfold headE at h
  split at h
  · cases h
  · split at h
    · cases h
    · rename_i h2
      unfold baseOf at h2
      have := idx_found h2
      have := (List.getElem?_eq_some_iff.1 this).1
      omega
theorem sizes_fit {ws : List (List UInt8)} {k : Nat} (h : ∀ u ∈ ws, u.length ≤ k) : ∀ s ∈ sizesOf ws, s.size ≤ k := by
  intro s hs
  unfold sizesOf at hs
  obtain ⟨u, hu, rfl⟩ := List.mem_map.1 hs
  exact h u (List.mem_of_mem_drop (List.mem_of_mem_take hu))

/-! ### the library -/
theorem cutN (s : ByteArray) (p d : List UInt8) (f : Bool) (w : World) (hw : Std w) (hs : s.size ≤ 1000000) (h : cut s.data.toList [10] = (p, d, f)) :
    Calls Tryz.prog 59 #[.string s, .string ⟨#[10]⟩] w fun e w' => e = .returned (.tuple #[.string (bytes p), .string (bytes d), .bool f]) ∧ ∃ n, w' = w.drewN n := by
  obtain ⟨⟨m, hm⟩, _⟩ := hw
  refine (Tryz.strings_Cut s ⟨#[10]⟩ m w (by omega) hm).mono fun e w' ⟨he, hn⟩ => ⟨?_, hn⟩
  rw [he]
  have e1 : (⟨#[10]⟩ : ByteArray).data.toList = [10] := rfl
  rw [e1, h]
  rfl
theorem words_of (s : ByteArray) : splitB ⟨#[32]⟩ 0 (countB s ⟨#[32]⟩) s = (split s.data.toList [32]).map bytes := by
  have h : (splitB ⟨#[32]⟩ 0 (countB s ⟨#[32]⟩) s).map (·.data.toList) = split s.data.toList [32] := by
    rw [splitB_data]
    rfl
  rw [← h, List.map_map]
  conv => lhs; rw [← List.map_id (splitB ⟨#[32]⟩ 0 (countB s ⟨#[32]⟩) s)]
  exact List.map_congr_left fun x _ => (bytes_of x).symm
theorem splitW (l : List UInt8) (us : List (List UInt8)) (w : World) (hw : Std w) (hs : l.length ≤ 1000000) (h : split l [32] = us) :
    Calls Tryz.prog 60 #[.string (bytes l), .string ⟨#[32]⟩] w fun e w' => e = .returned (.slice (some ⟨w.heap.size, 0, none⟩) us.length us.length) ∧ Sl w' w'.heap.size (some ⟨w.heap.size, 0, none⟩) us.length (strs (us.map bytes)) ∧ Below w.heap.size w w' := by
  obtain ⟨⟨m, hm⟩, _⟩ := hw
  have hsz : (bytes l).size = l.length := rfl
  have hwd := words_of (bytes l)
  rw [bytes_data, h] at hwd
  have hcl : countB (bytes l) ⟨#[32]⟩ + 1 = us.length := by
    have := splitB_all ⟨#[32]⟩ (by decide) 0 (countB (bytes l) ⟨#[32]⟩) (bytes l) rfl
    rw [hwd, List.length_map] at this
    exact this.symm
  refine (Tryz.strings_Split (bytes l) ⟨#[32]⟩ m w (by omega) hm (by decide)).mono ?_
  rintro e w' ⟨rfl, rfl⟩
  rw [hwd, hcl]
  refine ⟨rfl, ⟨by simp [strs], fun _ => ⟨w.heap.size, 0, rfl, by simp, fun j u hu => ?_⟩⟩, (Below.refl _ _).alloc (Nat.le_refl _) _⟩
  rw [Nat.zero_add, World.cell?_alloc_new]
  simpa [strs] using hu
theorem split_count (l : List UInt8) : (split l [32]).length ≤ l.length + 1 := by
  have h := splitB_all ⟨#[32]⟩ (by decide) 0 (countB (bytes l) ⟨#[32]⟩) (bytes l) rfl
  rw [words_of, List.length_map, bytes_data] at h
  have := countB_le ⟨#[32]⟩ (by decide) (bytes l).size (bytes l) (Nat.le_refl _)
  have hsz : (bytes l).size = l.length := rfl
  omega
theorem empty_word (us : List (List UInt8)) : containsS (us.map bytes) ⟨#[]⟩ = decide ([] ∈ us) := by
  have h : (⟨#[]⟩ : ByteArray) ∈ us.map bytes ↔ [] ∈ us := by
    rw [List.mem_map]
    constructor
    · rintro ⟨u, hu, e⟩
      have : u = [] := bytes_inj (b := []) e
      rwa [← this]
    · intro h
      exact ⟨[], h, rfl⟩
  by_cases hm : [] ∈ us
  · rw [(containsS_iff _ _).2 (h.2 hm)]
    simp [hm]
  · cases hc : containsS (us.map bytes) ⟨#[]⟩
    · simp [hm]
    · exact absurd (h.1 ((containsS_iff _ _).1 hc)) hm

/-! ### what comes back -/
/-- A chart in normal form and no error come back; or an error. -/
def RetParse (l : List UInt8) (w : World) (e : Ending) (w' : World) : Prop :=
  (∀ ch, parseR l = .ok ch → ∃ S n c R m d, e = .returned (.tuple #[.agg #[.slice S n c, .int .i64 ch.base, .slice R m d], .int .i64 0]) ∧ Sl w' w'.heap.size S n (strs ch.sizes) ∧ n ≤ c ∧ RowsN w' R m ch.rows ∧ m ≤ d ∧ (∀ r ∈ ch.rows, rowFit r) ∧ Below w.heap.size w w') ∧
  (∀ E, parseR l = .error E → e = .returned (.tuple #[.agg #[.slice none 0 0, .int .i64 0, .slice none 0 0], .int .i64 E]) ∧ Below w.heap.size w w')
theorem RetParse.bad {l : List UInt8} {w w' : World} {E : Int} (h : parseR l = .error E) (hb : Below w.heap.size w w') : RetParse l w (.returned (.tuple #[.agg #[.slice none 0 0, .int .i64 0, .slice none 0 0], .int .i64 E])) w' :=
  ⟨(fun ch e => by rw [h] at e; cases e), (fun E' e => by rw [h] at e; injection e with e; subst e; exact ⟨rfl, hb⟩)⟩
theorem RetParse.good {l : List UInt8} {w w' : World} {ch : PChart} {S R : Option Addr} {n c m d : Nat} (h : parseR l = .ok ch) (h1 : Sl w' w'.heap.size S n (strs ch.sizes)) (h2 : n ≤ c) (h3 : RowsN w' R m ch.rows) (h4 : m ≤ d) (h5 : ∀ r ∈ ch.rows, rowFit r) (hb : Below w.heap.size w w') : RetParse l w (.returned (.tuple #[.agg #[.slice S n c, .int .i64 ch.base, .slice R m d], .int .i64 0])) w' :=
  ⟨(fun ch' e => by rw [h] at e; injection e with e; subst e; exact ⟨S, n, c, R, m, d, rfl, h1, h2, h3, h4, h5, hb⟩), (fun E e => by rw [h] at e; cases e)⟩
/-- What stands of a chart while its text is read: the first line has been read, the rows rs too, rest is left. -/
def parsing (l : List UInt8) (rs : List PRow) (rest : List UInt8) (ws : List (List UInt8)) : Prop :=
  ∃ t, lineP l = some (ws, t) ∧ headE ws = 0 ∧ rowsP (sizesOf ws).length [] t = rowsP (sizesOf ws).length rs rest
theorem parsing.line {l rest : List UInt8} {rs : List PRow} {ws : List (List UInt8)} (hl : ¬ 20000 < l.length) (h : parsing l rs rest ws) (h0 : rest ≠ []) (hn : lineP rest = none) : parseR l = .error 2 := by
  obtain ⟨t, h1, h2, h3⟩ := h
  exact parse_rows hl h1 h2 (h3.trans (rows_line h0 hn))
theorem parsing.bad {l rest t' : List UInt8} {rs : List PRow} {ws us : List (List UInt8)} (hl : ¬ 20000 < l.length) (h : parsing l rs rest ws) (h0 : rest ≠ []) (hn : lineP rest = some (us, t')) (he : rowE (sizesOf ws).length us ≠ 0) : parseR l = .error (rowE (sizesOf ws).length us) := by
  obtain ⟨t, h1, h2, h3⟩ := h
  exact parse_rows hl h1 h2 (h3.trans (rows_bad h0 hn he))
theorem parsing.on {l rest t' : List UInt8} {rs : List PRow} {ws us : List (List UInt8)} (h : parsing l rs rest ws) (h0 : rest ≠ []) (hn : lineP rest = some (us, t')) (he : rowE (sizesOf ws).length us = 0) : parsing l (rs ++ [rowV us]) t' ws := by
  obtain ⟨t, h1, h2, h3⟩ := h
  exact ⟨t, h1, h2, h3.trans (rows_on h0 hn he)⟩
theorem parsing.chk {l : List UInt8} {rs : List PRow} {ws : List (List UInt8)} (hl : ¬ 20000 < l.length) (h : parsing l rs [] ws) (hc : chkP ⟨sizesOf ws, baseOf ws, rs⟩ ≠ 0) : parseR l = .error (chkP ⟨sizesOf ws, baseOf ws, rs⟩) := by
  obtain ⟨t, h1, h2, h3⟩ := h
  exact parse_chk hl h1 h2 (h3.trans rows_end) hc
theorem parsing.ok {l : List UInt8} {rs : List PRow} {ws : List (List UInt8)} (hl : ¬ 20000 < l.length) (h : parsing l rs [] ws) (hc : chkP ⟨sizesOf ws, baseOf ws, rs⟩ = 0) : parseR l = .ok ⟨sizesOf ws, baseOf ws, rs⟩ := by
  obtain ⟨t, h1, h2, h3⟩ := h
  exact parse_ok hl h1 h2 (h3.trans rows_end) hc
theorem parsing.start {l t : List UInt8} {ws : List (List UInt8)} (h1 : lineP l = some (ws, t)) (h2 : headE ws = 0) : parsing l [] t ws := ⟨t, h1, h2, rfl⟩
/-- What Check asks of a chart that has been read. -/
theorem read_chk {w : World} {S R : Option Addr} {n c m d : Nat} {ch : PChart} (h1 : Sl w w.heap.size S n (strs ch.sizes)) (h2 : n ≤ c) (h3 : RowsN w R m ch.rows) (h4 : m ≤ d) (hn : n ≤ 100000) (hm : m ≤ 100000) (hs : ∀ s ∈ ch.sizes, s.size ≤ 20000) (hr : ∀ r ∈ ch.rows, rowFit r) : ChkA w S n c R m d 200 ch :=
  ⟨⟨h1, h3.toA fun r h => (hr r h).2⟩, h2, h4, hn, hm, by omega, by omega, fun i s h => Nat.le_trans (hs s (List.mem_of_getElem? h)) (by omega), fun i r h => Nat.le_trans (hr r (List.mem_of_getElem? h)).1 (by omega)⟩
end Go.Proofs.YtjiccijfbpkliaaGreatDoor

/- A chart's box while a text is read. Nothing here walks the program. -/
namespace Go.Proofs.YtjiccijfbpkliaaGreatDoor
open Go.RowKit
open Go.Lib hiding intOf

theorem Sl.gro {w w' : World} {B n rb : Nat} {S : Option Addr} {zs : List ByteArray} {t : TypeId} {cs : Array Value} (h : Sl w B S n (strs zs)) (hB : B ≤ w.heap.size) (hg : w.grownBy w' (some rb)) (hb : Blk w rb t cs) (hc : ∀ v ∈ cs.toList, ∀ x, v ≠ .string x) : Sl w' B S n (strs zs) := by
  refine ⟨h.1, fun h0 => ?_⟩
  obtain ⟨b, off, e, hlt, hcell⟩ := h.2 h0
  have hl := h.slen
  have hne : some b ≠ some rb := fun e2 => by
    injection e2 with e2
    subst e2
    have h1 : zs[0]? = some zs[0] := List.getElem?_eq_getElem (by omega)
    have h2 := hcell 0 (.string zs[0]) (by simp [strs, h1])
    rw [hb.cell] at h2
    have hm : Value.string zs[0] ∈ cs := Array.mem_of_getElem? h2
    exact hc _ (by simpa using hm) _ rfl
  exact ⟨b, off, e, hlt, fun j u hu => (World.cell?_of_block (a := ⟨b, off + j, none⟩) (hg.block b (by omega) hne)).trans (hcell j u hu)⟩
/-- The chart's box cb: the sizes and the base are read, and the rows rs. -/
def chRel (ws : List (List UInt8)) (rs : List PRow) (cb : Nat) (w : World) : Prop :=
  ∃ base S c v, Blk w cb 25 #[.slice S (sizesOf ws).length c, .int .i64 (baseOf ws), v] ∧ Sl w base S (sizesOf ws).length (strs (sizesOf ws)) ∧ (sizesOf ws).length ≤ c ∧ rowsRel rs base v w ∧ base ≤ w.heap.size ∧ cb < base
section
variable {ws : List (List UInt8)} {rs : List PRow} {cb : Nat} {w w' : World}
theorem chRel.below (h : chRel ws rs cb w) (hb : Below w.heap.size w w') : chRel ws rs cb w' := by
  obtain ⟨base, S, c, v, h1, h2, h3, h4, h5, h6⟩ := h
  exact ⟨base, S, c, v, h1.below hb, h2.below (hb.mono h5), h3, h4.below hb, Nat.le_trans h5 hb.size, h6⟩
theorem own_slice {base : Nat} {v : Value} {e : TypeId} {size n : Nat} {xs : List Value} (h : OwnN w base e size v n xs) : (∀ y, v ≠ .int .u32 y) ∧ (∀ y, v ≠ .bool y) ∧ (∀ y, v ≠ .string y) := by
  obtain ⟨A, c, rfl⟩ := own_form h.1
  exact ⟨fun y e => (by cases e), fun y e => (by cases e), fun y e => (by cases e)⟩
/-- A row is appended. -/
theorem chRel.more {base : Nat} {S : Option Addr} {c : Nat} {v v' : Value} {hs : List RH} (x : RH) (hblk : Blk w cb 25 #[.slice S (sizesOf ws).length c, .int .i64 (baseOf ws), v]) (hsl : Sl w base S (sizesOf ws).length (strs (sizesOf ws))) (hc : (sizesOf ws).length ≤ c) (hbw : base ≤ w.heap.size) (hcb : cb < base)
    (h1 : hs.map (·.r) = rs) (hown : OwnN w base 57 5 v hs.length (hs.flatMap RH.cells)) (h3 : ∀ h ∈ hs, h.Ok w ∧ (0 < h.n → ∀ g off, h.S = some ⟨g, off, none⟩ → v.ownBlock ≠ some g)) (hx : x.Ok w) (hne : 0 < x.n → ∀ g off, x.S = some ⟨g, off, none⟩ → v.ownBlock ≠ some g)
    (ho : OwnN w' base 57 5 v' (hs.length + 1) (hs.flatMap RH.cells ++ x.cells)) (hg : w.grownBy w' v.ownBlock) (hn : ∀ g, v'.ownBlock = some g → v.ownBlock = some g ∨ w.heap.size ≤ g) : chRel ws (rs ++ [x.r]) cb (w'.setCell ⟨cb, 2, none⟩ v') := by
  have hcn : some cb ≠ v.ownBlock := fun e => by have := (hown.1.lt cb e.symm).1; omega
  have hb' := hblk.grown hg hcn
  obtain ⟨u1, u2, u3⟩ := own_slice hown
  have hr := rowsRel.more x h1 hown h3 hx hne ho hg hn
  have hg2 := grown_set (grown_refl w' (some cb)) 2 v'
  have hsl' : Sl w' base S (sizesOf ws).length (strs (sizesOf ws)) := by
    refine hsl.keep fun p hp => World.cell?_of_block (hg.block p.block (by omega) fun e => ?_)
    have := (hown.1.lt _ e.symm).1
    omega
  refine ⟨base, S, c, v', hb'.set_ 2 v', hsl'.gro (Nat.le_trans hbw hg.size) hg2 hb' ?_, hc, hr.gro hg2 hb' (by decide) (NoU.blk hb' ?_) (NoB.blk hb' ?_), ?_, hcb⟩
  · intro u hu y e
    subst e
    simp at hu
    exact u3 y hu.symm
  · intro u hu y e
    subst e
    simp at hu
    exact u1 y hu.symm
  · intro u hu y e
    subst e
    simp at hu
    exact u2 y hu.symm
  · have := hg.size
    simp [World.setCell]
    omega
/-- The first line's sizes and base are stored. -/
theorem chRel.first {S : Option Addr} {c : Nat} (hblk : Blk w cb 25 #[.slice none 0 0, .int .i64 0, .slice none 0 0]) (hsl : Sl w w.heap.size S (sizesOf ws).length (strs (sizesOf ws))) (hc : (sizesOf ws).length ≤ c) : chRel ws [] cb ((w.setCell ⟨cb, 0, none⟩ (.slice S (sizesOf ws).length c)).setCell ⟨cb, 1, none⟩ (.int .i64 (baseOf ws))) := by
  have hg := grown_set (grown_set (grown_refl w (some cb)) 0 (.slice S (sizesOf ws).length c)) 1 (.int .i64 (baseOf ws))
  refine ⟨w.heap.size, S, c, .slice none 0 0, (hblk.set_ 0 _).set_ 1 _, hsl.gro (Nat.le_refl _) hg hblk ?_, hc, rowsRel.nil _ _, ?_, hblk.lt⟩
  · intro u hu y e
    subst e
    simp at hu
  · simp [World.setCell]
/-- What the box holds at the end. -/
theorem chRel.done (h : chRel ws rs cb w) : ∃ S c R d, Blk w cb 25 #[.slice S (sizesOf ws).length c, .int .i64 (baseOf ws), .slice R rs.length d] ∧ Sl w w.heap.size S (sizesOf ws).length (strs (sizesOf ws)) ∧ (sizesOf ws).length ≤ c ∧ RowsN w R rs.length rs ∧ rs.length ≤ d := by
  obtain ⟨base, S, c, v, h1, h2, h3, h4, h5, h6⟩ := h
  obtain ⟨R, d, rfl, h7, h8⟩ := h4.done
  exact ⟨S, c, R, d, h1, h2.more h5, h3, h8, h7⟩
theorem RowsN.gro {R : Option Addr} {n rb : Nat} {t : TypeId} {cs : Array Value} (h : RowsN w R n rs) (hg : w.grownBy w' (some rb)) (hb : Blk w rb t cs) (hu : ∀ v ∈ cs.toList, ∀ x, v ≠ .int .u32 x) (hB : ∀ v ∈ cs.toList, ∀ x, v ≠ .bool x) (hS : ∀ v ∈ cs.toList, ∀ x, v ≠ .string x) : RowsN w' R n rs := by
  have hN := NoU.blk hb hu
  have hNB := NoB.blk hb hB
  obtain ⟨hs, h1, h2, h3, h4⟩ := h
  refine ⟨hs, h1, h2, fun h0 => ?_, fun x hx => (h4 x hx).gro hg hN fun h0 g off e => (h4 x hx).2.2.1.noB hNB h0 g off e⟩
  obtain ⟨b, off, e, hlt, hc⟩ := h3 h0
  have hne : some b ≠ some rb := fun e2 => by
    injection e2 with e2
    subst e2
    have h5 : hs[0]? = some hs[0] := List.getElem?_eq_getElem (by omega)
    have h6 := hc 0 (.string hs[0].r.name) (by
      have := flat_at RH.len h5 0 (by omega)
      rw [Nat.zero_mul, Nat.zero_add] at this
      rw [this]
      rfl)
    rw [hb.cell] at h6
    have hm : Value.string hs[0].r.name ∈ cs := Array.mem_of_getElem? h6
    exact hS _ (by simpa using hm) _ rfl
  exact ⟨b, off, e, Nat.lt_of_lt_of_le hlt hg.size, fun j u hu => (World.cell?_of_block (a := ⟨b, off + j, none⟩) (hg.block b hlt hne)).trans (hc j u hu)⟩
end
theorem parsing.ok' {l : List UInt8} {rs : List PRow} {ws : List (List UInt8)} {bo : Int} (h : parsing l rs [] ws) (hl : ¬ 20000 < l.length) (hc : chkP ⟨sizesOf ws, bo, rs⟩ = 0) (hb : baseOf ws = bo := by rfl) : parseR l = .ok ⟨sizesOf ws, bo, rs⟩ := by
  subst hb
  exact h.ok hl hc
theorem parsing.chk' {l : List UInt8} {rs : List PRow} {ws : List (List UInt8)} {bo : Int} (h : parsing l rs [] ws) (hl : ¬ 20000 < l.length) (hc : chkP ⟨sizesOf ws, bo, rs⟩ ≠ 0) (hb : baseOf ws = bo := by rfl) : parseR l = .error (chkP ⟨sizesOf ws, bo, rs⟩) := by
  subst hb
  exact h.chk hl hc
theorem grown3 (w : World) (g : Nat) (u0 u1 u2 : Value) : w.grownBy (((w.setCell ⟨g, 0, none⟩ u0).setCell ⟨g, 1, none⟩ u1).setCell ⟨g, 2, none⟩ u2) (some g) :=
  grown_set (grown_set (grown_set (grown_refl w (some g)) 0 u0) 1 u1) 2 u2
/-- The result's box is written. -/
theorem parse_end {w wr : World} {l : List UInt8} {ch : PChart} {S R : Option Addr} {n c m d : Nat} (h : parseR l = .ok ch) (hX : Blk wr w.heap.size 25 #[.slice none 0 0, .int .i64 0, .slice none 0 0]) (h1 : Sl wr wr.heap.size S n (strs ch.sizes)) (h2 : n ≤ c) (h3 : RowsN wr R m ch.rows) (h4 : m ≤ d) (h5 : ∀ r ∈ ch.rows, rowFit r) (hb : Below w.heap.size w wr) :
    RetParse l w (.returned (.tuple #[.agg #[.slice S n c, .int .i64 ch.base, .slice R m d], .int .i64 0])) (((wr.setCell ⟨w.heap.size, 0, none⟩ (.slice S n c)).setCell ⟨w.heap.size, 1, none⟩ (.int .i64 ch.base)).setCell ⟨w.heap.size, 2, none⟩ (.slice R m d)) := by
  have hg := grown3 wr w.heap.size (.slice S n c) (.int .i64 ch.base) (.slice R m d)
  refine RetParse.good h ((h1.gro (Nat.le_refl _) hg hX (by simp)).more hg.size) h2 (h3.gro hg hX (by simp) (by simp) (by simp)) h4 h5 (below3 hb (Nat.le_refl _) _ _ _)
end Go.Proofs.YtjiccijfbpkliaaGreatDoor

/- chart.Parse returns the chart that a text describes, or the error. Conditions: Std; a text of at most 1,000,000 bytes. -/
namespace Go.Proofs.YtjiccijfbpkliaaGreatDoor
open Go.RowKit
open Go.Lib hiding intOf

theorem cut_len10 (l : List UInt8) : (cut l [10]).1.length ≤ l.length ∧ (cut l [10]).2.1.length ≤ l.length := by
  unfold cut
  split
  · simp only [List.length_take, List.length_drop]
    omega
  · simp
theorem empty_data {x : ByteArray} : x.data.toList = [] ↔ x = ⟨#[]⟩ := by
  constructor
  · intro h
    exact eq_of_data h
  · rintro rfl
    rfl
def zeroRH : RH := ⟨⟨⟨#[]⟩, 0, []⟩, zeroH, none, 0, 0⟩
/-- What Parse's loop keeps. -/
def prsRel (s : ByteArray) (w : World) (s0 s5 : Value) (wr : World) : Prop :=
  ∃ (x : ByteArray) (fst : Bool), s0 = .string x ∧ s5 = .bool fst ∧ x.size ≤ s.size ∧ Blk wr w.heap.size 25 #[.slice none 0 0, .int .i64 0, .slice none 0 0] ∧ Below w.heap.size w wr ∧ w.heap.size + 1 < wr.heap.size ∧
    (fst = true → x = s ∧ Blk wr (w.heap.size + 1) 25 #[.slice none 0 0, .int .i64 0, .slice none 0 0]) ∧
    (fst = false → ∃ ws rs, parsing s.data.toList rs x.data.toList ws ∧ chRel ws rs (w.heap.size + 1) wr ∧ (∀ r ∈ rs, rowFit r) ∧ (∀ u ∈ ws, u.length ≤ 20000) ∧ ws.length ≤ 20000 ∧ rs.length + x.size ≤ s.size)

set_option maxRecDepth 100000 in
set_option maxHeartbeats 6400000 in
theorem Parse_any (s : ByteArray) (w : World) (hw : Std w) (hs : s.size ≤ 1000000) :
    Calls Tryz.prog 27 #[.string s] w (RetParse s.data.toList w) := by
  have hsl : s.data.toList.length = s.size := rfl
  have hB : Below w.heap.size w (w.alloc (.cells #[.slice none 0 0, .int .i64 0, .slice none 0 0] 25)) := (Below.refl _ _).alloc (Nat.le_refl _) _
  have hX := Blk.new w 25 #[.slice none 0 0, .int .i64 0, .slice none 0 0]
  have HW := Lib.hid hw
  by_cases hlong : 20000 < s.size
  · have HE := Lib.hid (parse_long (l := s.data.toList) (by omega))
    have hl2 : (20000 : Int) < (s.size : Int) := by omega
    have HB := Lib.hid hB
    clear hw hX hsl hB
    go_enter Tryz.func27, Tryz.ntmps27
    go_wp2_with fail
    refine bodyPost_ret (v := .tuple #[.agg #[.slice none 0 0, .int .i64 0, .slice none 0 0], .int .i64 5]) (by simp [results, Tryz.results27, go_sem]) rfl ?_
    exact RetParse.bad HE.out HB.out
  have hl2 : ¬ (20000 : Int) < (s.size : Int) := by omega
  have hs20 : s.size ≤ 20000 := by omega
  have HLN : Hid (¬ 20000 < s.data.toList.length) := by rw [Hid, hsl]; exact hlong
  have HX1 := Lib.hid (hX.alloc (.cells #[.slice none 0 0, .int .i64 0, .slice none 0 0] 25))
  have HY1 : Hid (Blk ((w.alloc (.cells #[.slice none 0 0, .int .i64 0, .slice none 0 0] 25)).alloc (.cells #[.slice none 0 0, .int .i64 0, .slice none 0 0] 25)) (w.heap.size + 1) 25 #[.slice none 0 0, .int .i64 0, .slice none 0 0]) := Blk.new' _ _ _ (by simp)
  have HB1 := Lib.hid (Below.alo hB (.cells #[.slice none 0 0, .int .i64 0, .slice none 0 0] 25))
  clear hw hX hsl hB hlong
  go_enter Tryz.func27, Tryz.ntmps27
  go_wp2_with fail
  go_loopw [0, 5] (fun s0 s5 wr => prsRel s w s0 s5 wr) (fun s0 _ _ => match s0 with | .string x => x.size | _ => 0)
  case atStart => exact ⟨s, true, rfl, rfl, Nat.le_refl _, HX1.out, HB1.out, by simp, fun _ => ⟨rfl, HY1.out⟩, fun h => by cases h⟩
  case round =>
    obtain ⟨x, fst, rfl, rfl, hxs, hR, hbel, hcb, hf1, hf2⟩ := hrel
    clear HX1 HY1 HB1
    have HR := Lib.hid hR
    have HBE := Lib.hid hbel
    clear hR hbel
    cases fst
    · obtain ⟨ws, rs, hpg, hch, hfit, hwl, hwn, hlen⟩ := hf2 rfl
      have HPG := Lib.hid hpg
      have HCH := Lib.hid hch
      have HFI := Lib.hid hfit
      have HWL := Lib.hid hwl
      clear hf1 hf2 hpg hch hfit hwl
      by_cases hx0 : x.size = 0
      · obtain ⟨he1, he2⟩ := empty_of x hx0
        have hxe : x.data.toList = [] := by rw [← toList_data]; exact he1
        have hpg := HPG.out
        rw [hxe] at hpg
        have HPE := Lib.hid hpg
        obtain ⟨S, c, R, d, hblk, hsl, hc, hrn, hd⟩ := HCH.out.done
        have hsn : (sizesOf ws).length ≤ 100000 := by rw [sizes_len]; omega
        have hrl : rs.length ≤ 100000 := by omega
        have hchk := read_chk (ch := ⟨sizesOf ws, baseOf ws, rs⟩) hsl hc hrn hd hsn hrl (sizes_fit HWL.out) HFI.out
        have HCk := Lib.hid (check_any S _ c R _ d 200 ⟨sizesOf ws, baseOf ws, rs⟩ wr hchk)
        obtain ⟨E, hE⟩ : ∃ E, chkP ⟨sizesOf ws, baseOf ws, rs⟩ = E := ⟨_, rfl⟩
        rw [hE] at HCk
        have HEE := Lib.hid hE
        have HPC := Lib.hid (And.intro hsl (And.intro hc (And.intro hrn hd)))
        have HBK := Lib.hid hblk
        generalize (sizesOf ws).length = N at *
        generalize hbo : baseOf ws = bo at *
        have HBO := Lib.hid hbo
        have g0 := hblk.c (i := 0) rfl
        have g1 := hblk.c (i := 1) rfl
        have g2 := hblk.c (i := 2) rfl
        clear hpg hblk hsl hrn hchk hE HCH HPG hxe hbo
        go_wp2_with fail
        refine HCk.out.mono ?_
        rintro e w4 ⟨rfl, hb4⟩
        have R4 := HR.out.below hb4
        have K4 := HBK.out.below hb4
        have HB4 := Lib.hid (HBE.out.trans (hb4.mono HBE.out.size))
        have HR4 := Lib.hid R4
        have HP4 := Lib.hid (And.intro (HPC.out.1.on hb4) (HPC.out.2.2.1.on hb4))
        have f0 := R4.c (i := 0) rfl
        have f1 := R4.c (i := 1) rfl
        have f2 := R4.c (i := 2) rfl
        have z0 := R4.frozen 0
        have z1 := R4.frozen 1
        have z2 := R4.frozen 2
        have k0 := K4.c (i := 0) rfl
        have k1 := K4.c (i := 1) rfl
        have k2 := K4.c (i := 2) rfl
        clear hb4 R4 K4 g0 g1 g2
        by_cases hE0 : E = 0
        · subst hE0
          go_wp2_with fail
          refine bodyPost_ret (v := .tuple #[.agg #[.slice S N c, .int .i64 bo, .slice R rs.length d], .int .i64 0]) (by simp [results, Tryz.results27, go_sem, f0, f1, f2]) rfl ?_
          exact parse_end (ch := ⟨sizesOf ws, bo, rs⟩) (HPE.out.ok' HLN.out HEE.out HBO.out) HR4.out HP4.out.1 HPC.out.2.1 HP4.out.2 HPC.out.2.2.2 HFI.out HB4.out
        · have hE1 : (E != 0) = true := by simpa using hE0
          have HEr : Hid (parseR s.data.toList = .error E) := by
            rw [Hid, HPE.out.chk' HLN.out (by rw [HEE.out]; exact hE0) HBO.out, HEE.out]
          go_wp2_with fail
          refine bodyPost_ret (v := .tuple #[.agg #[.slice none 0 0, .int .i64 0, .slice none 0 0], .int .i64 E]) (by simp [results, Tryz.results27, go_sem, f0, f1, f2]) rfl ?_
          exact RetParse.bad HEr.out (below3 HB4.out (Nat.le_refl _) _ _ _)

      · have HX0 : Hid (x.data.toList ≠ []) := fun e => hx0 (by rw [empty_data.1 e]; rfl)
        obtain ⟨hne1, hne2⟩ := full_of x (by omega)
        clear hx0
        obtain ⟨p, dd, f, hcut⟩ : ∃ p dd f, cut x.data.toList [10] = (p, dd, f) := ⟨_, _, _, rfl⟩
        obtain ⟨us, hus⟩ : ∃ us, split p [32] = us := ⟨_, rfl⟩
        have hlc := line_cut x.data.toList
        rw [hcut] at hlc
        simp only at hlc
        rw [hus] at hlc
        have hpl : p.length ≤ 20000 := by
          have := (cut_len10 x.data.toList).1
          rw [hcut] at this
          simp only at this
          have e : x.data.toList.length = x.size := rfl
          omega
        have hul : us.length ≤ 100000 := by rw [← hus]; have := split_count p; omega
        have HSW := HW.out.below HBE.out
        have HCut := Lib.hid (cutN x p dd f wr HSW (by omega) hcut)
        have HSpl := Lib.hid (fun q => splitW p us (wr.drewN q) (HSW.drewN q) (by omega) hus)
        have HLC := Lib.hid hlc
        clear hcut hus hlc HSW
        go_wp2_with fail
        refine HCut.out.mono ?_
        rintro e w1 ⟨rfl, q, rfl⟩
        go_wp2_with fail
        refine (HSpl.out q).mono ?_
        rintro e w2 ⟨rfl, hs2, hb2⟩
        have hb2 : Below wr.heap.size wr w2 := ⟨hb2.os, hb2.tape, hb2.output, hb2.size, hb2.block⟩
        have hR2 := HR.out.below hb2
        have HR2 := Lib.hid hR2
        have HB2 := Lib.hid hb2
        have HS2 := Lib.hid hs2
        have HBW2 := Lib.hid (HBE.out.trans (hb2.mono HBE.out.size))
        have f0 := hR2.c (i := 0) rfl
        have f1 := hR2.c (i := 1) rfl
        have f2 := hR2.c (i := 2) rfl
        have z0 := hR2.frozen 0
        have z1 := hR2.frozen 1
        have z2 := hR2.frozen 2
        clear hR2 hb2 hs2
        cases f
        · have HN : Hid (lineP x.data.toList = none) := by rw [Hid, HLC.out, if_neg (by simp)]
          go_wp2_with fail
          refine bodyPost_ret (v := .tuple #[.agg #[.slice none 0 0, .int .i64 0, .slice none 0 0], .int .i64 2]) (by simp [results, Tryz.results27, go_sem, f0, f1, f2]) rfl ?_
          exact RetParse.bad (HPG.out.line HLN.out HX0.out HN.out) (below3 HBW2.out (Nat.le_refl _) _ _ _)
        · have HCo := Lib.hid (HS2.out.contains (c := us.length) ⟨#[]⟩ hul)
          have HEW := Lib.hid (empty_word us)
          go_wp2_with fail
          refine HCo.out.mono ?_
          rintro e w3 ⟨rfl, rfl⟩
          rw [HEW.out]
          by_cases hem : [] ∈ us
          · have HN : Hid (lineP x.data.toList = none) := by rw [Hid, HLC.out, if_neg (fun h => h.2 hem)]
            have hd : decide ([] ∈ us) = true := by simpa using hem
            rw [hd]
            clear hd hem HCo
            go_wp2_with fail
            refine bodyPost_ret (v := .tuple #[.agg #[.slice none 0 0, .int .i64 0, .slice none 0 0], .int .i64 2]) (by simp [results, Tryz.results27, go_sem, f0, f1, f2]) rfl ?_
            exact RetParse.bad (HPG.out.line HLN.out HX0.out HN.out) (below3 HBW2.out (Nat.le_refl _) _ _ _)
          · have HN : Hid (lineP x.data.toList = some (us, dd)) := by rw [Hid, HLC.out]; simp [hem]
            have hd : decide ([] ∈ us) = false := by simpa using hem
            rw [hd]
            have hbnd := line_bounds HN.out
            have HBD := Lib.hid hbnd
            clear hd hem HCo hbnd
            obtain ⟨base, S, c, v, hblk, hsl, hc, hrows, hbw, hcbb⟩ := HCH.out.below HB2.out
            obtain ⟨hs, r1, r2, r3⟩ := hrows
            obtain ⟨A', c', hv⟩ := own_form r2.1
            subst hv
            have hK : hs.length = rs.length := by rw [← r1, List.length_map]
            obtain ⟨K, hKK⟩ : ∃ K, hs.length = K := ⟨_, rfl⟩
            obtain ⟨N, hNN⟩ : ∃ N, (sizesOf ws).length = N := ⟨_, rfl⟩
            obtain ⟨bo, hbo⟩ : ∃ bo, baseOf ws = bo := ⟨_, rfl⟩
            have hN1 : 1 ≤ N := by rw [← hNN]; obtain ⟨t, _, h2, _⟩ := HPG.out; exact head_n h2
            have hN2 : N ≤ 100000 := by rw [← hNN, sizes_len]; omega
            have HCC : Hid (N ≤ c) := by rw [Hid, ← hNN]; exact hc
            rw [hKK] at r2 hblk
            rw [hNN, hbo] at hblk
            have HSL : Hid (Sl w2 base S N (strs (sizesOf ws))) := by rw [Hid, ← hNN]; exact hsl
            have HBK := Lib.hid hblk
            have HOW := Lib.hid r2
            have HRW := Lib.hid (And.intro r1 r3)
            have HKK := Lib.hid (And.intro hKK (And.intro hNN hbo))
            have hKb : K + x.size ≤ s.size := by omega
            have hxl2 : x.data.toList.length = x.size := rfl
            have HCN : Hid (some (w.heap.size + 1) ≠ (Value.slice A' K c').ownBlock) := fun e => by have := (r2.1.lt _ e.symm).1; omega
            have HRN : Hid (some w.heap.size ≠ (Value.slice A' K c').ownBlock) := fun e => by have := (r2.1.lt _ e.symm).1; omega
            have g0 := hblk.c (i := 0) rfl
            have g2 := hblk.c (i := 2) rfl
            have hcl := hblk.lt
            have hcn1 : ¬ w2.heap.size = w.heap.size + 1 := by omega
            have hal := (Below.refl w2.heap.size w2).alloc (Nat.le_refl _) (.cells #[.string ⟨#[]⟩, .bool false, .slice none 0 0, .slice none 0 0, .slice none 0 0] 57)
            have HAL := Lib.hid hal
            have hbx := Blk.new w2 57 #[.string ⟨#[]⟩, .bool false, .slice none 0 0, .slice none 0 0, .slice none 0 0]
            have HBX := Lib.hid hbx
            have HPR := Lib.hid (parseRow_any (some ⟨wr.heap.size, 0, none⟩) us.length us.length N us _ ((HW.out.below HBW2.out).below hal) (HS2.out.on hal) hul (Nat.le_refl _) hN1 hN2 (fun u hu => Nat.le_trans (HBD.out.2.1 u hu) (by omega)))
            have hKn : K ≤ 1000000 := by omega
            clear hblk hsl hc r1 r2 r3 hK hKK hNN hbo hal hbx HCH
            go_wp2_with fail
            go_fit HPR.out
            rintro e w4 hret
            have hw24 : w2.heap.size < w2.heap.size + 1 := by omega
            by_cases hE : rowE N us = 0
            · obtain ⟨h, hhr, rfl, hok, hfr, hb4⟩ := hret.1 hE
              have hb24 : Below w2.heap.size w2 w4 := HAL.out.trans (hb4.mono (by simp))
              have X4 := HBX.out.below hb4
              have C4 := HBK.out.below hb24
              have hx4 := X4.lt
              have hgr := grown5 w4 w2.heap.size (.string h.r.name) (.bool (ineg h.x.q.num)) (.slice h.x.A h.x.n h.x.c) (.slice h.x.B h.x.m h.x.d) (.slice h.S h.n h.c)
              have HHO : Hid (h.Ok (((((w4.setCell ⟨w2.heap.size, 0, none⟩ (.string h.r.name)).setCell ⟨w2.heap.size, 1, none⟩ (.bool (ineg h.x.q.num))).setCell ⟨w2.heap.size, 2, none⟩ (.slice h.x.A h.x.n h.x.c)).setCell ⟨w2.heap.size, 3, none⟩ (.slice h.x.B h.x.m h.x.d)).setCell ⟨w2.heap.size, 4, none⟩ (.slice h.S h.n h.c))) := hok.gro hgr (NoU.blk X4 (by simp)) fun _ g off e e2 => by
                have h1 := hfr g off e
                injection e2 with e2
                simp at h1
                omega
              have HB6 := Lib.hid (Below.alo (below5 hb24 (Nat.le_refl _) (.string h.r.name) (.bool (ineg h.x.q.num)) (.slice h.x.A h.x.n h.x.c) (.slice h.x.B h.x.m h.x.d) (.slice h.S h.n h.c)) (.cells #[.string h.r.name, .bool (ineg h.x.q.num), .slice h.x.A h.x.n h.x.c, .slice h.x.B h.x.m h.x.d, .slice h.S h.n h.c] 57))
              have HNE : Hid (0 < h.n → ∀ g off, h.S = some ⟨g, off, none⟩ → (Value.slice A' K c').ownBlock ≠ some g) := fun _ g off e e2 => by
                have h1 := hfr g off e
                have h2 := (HOW.out.1.lt g e2).2
                simp at h1
                omega
              have HHR := Lib.hid hhr
              have HEE := Lib.hid hE
              have xx0 := X4.c (i := 0) rfl
              have xx1 := X4.c (i := 1) rfl
              have xx2 := X4.c (i := 2) rfl
              have xx3 := X4.c (i := 3) rfl
              have xx4 := X4.c (i := 4) rfl
              have xz0 := X4.frozen 0
              have xz1 := X4.frozen 1
              have xz2 := X4.frozen 2
              have xz3 := X4.frozen 3
              have xz4 := X4.frozen 4
              have k0 := C4.c (i := 0) rfl
              have k2 := C4.c (i := 2) rfl
              have hc4 := C4.lt
              have hcn4 : ¬ w4.heap.size = w.heap.size + 1 := by omega
              have hw4n : w2.heap.size < w4.heap.size := hx4
              have hw4m : w.heap.size + 1 < w4.heap.size := hc4
              clear hret hhr hok hfr hb4 hb24 X4 C4 hgr hE g0 g2 f0 f1 f2 z0 z1 z2
              go_wp2_with (at_builtin; go_must ((refine append_row rfl (.tmp 56) (.tmp 58) rfl base K _ _ rfl (HOW.out.below HB6.out) w4.heap.size rfl h (by exact Blk.new' _ _ _ (by simp)) (by omega) (by have := HB6.out.size; omega) ?_); intro v5 w7 ho5 hg5 hn5; obtain ⟨A5, c5, hv5⟩ := own_form ho5.1; subst hv5; have X7 := (HBK.out.below HB6.out).grown hg5 HCN.out; have t2 := X7.c (i := 2) rfl; have zz2 := X7.frozen 2; have R7 := (HR2.out.below HB6.out).grown hg5 HRN.out; have HR7 := Lib.hid R7; have f0 := R7.c (i := 0) rfl; have f1 := R7.c (i := 1) rfl; have f2 := R7.c (i := 2) rfl; have z0 := R7.frozen 0; have z1 := R7.frozen 1; have z2 := R7.frozen 2; clear X7 R7))
              go_roundw
              case rel =>
                have hdl : (bytes dd).size = dd.length := rfl
                have hbd := HBD.out
                have hm := chRel.more (ws := ws) (cb := w.heap.size + 1) h (by rw [HKK.out.2.1, HKK.out.2.2]; exact HBK.out.below HB6.out) (by rw [HKK.out.2.1]; exact HSL.out.below (HB6.out.mono hbw)) (by rw [HKK.out.2.1]; exact HCC.out) (Nat.le_trans hbw HB6.out.size) hcbb HRW.out.1 (by rw [HKK.out.1]; exact HOW.out.below HB6.out) (fun t ht => ⟨(HRW.out.2 t ht).1.on HB6.out, by have := (HRW.out.2 t ht).2; rw [HKK.out.1] at this; exact this⟩) (HHO.out.on ((Below.refl _ _).alloc (Nat.le_refl _) _)) HNE.out (by rw [HKK.out.1]; exact ho5) hg5 hn5
                rw [HHR.out] at hm
                have hEN : rowE (sizesOf ws).length us = 0 := by rw [HKK.out.2.1]; exact HEE.out
                refine ⟨bytes dd, false, rfl, rfl, by omega, HR7.out.far (p := ⟨w.heap.size + 1, 2, none⟩) (by simp) _, ?_, ?_, (fun h => by cases h), fun _ => ⟨ws, rs ++ [rowV us], ?_, hm, ?_, HWL.out, hwn, ?_⟩⟩
                · exact ((HBW2.out.trans (HB6.out.mono HBW2.out.size)).grown hg5 (Nat.le_trans HBW2.out.size HB6.out.size) fun g e => by have := ((HOW.out.below HB6.out).1.lt _ e).1; omega).setCell (p := ⟨w.heap.size + 1, 2, none⟩) (by simp) _
                · have h1 := hg5.size
                  have h2 := HB6.out.size
                  simp only [World.setCell, Array.size_modify]
                  omega
                · rw [bytes_data]
                  exact HPG.out.on HX0.out HN.out hEN
                · intro r hr
                  rcases List.mem_append.1 hr with hr | hr
                  · exact HFI.out r hr
                  · obtain rfl : r = rowV us := by simpa using hr
                    exact fit_row HEE.out hN1 (fun u hu => Nat.le_trans (hbd.2.1 u hu) (by omega))
                · simp only [List.length_append, List.length_singleton]
                  omega
              case measure =>
                have hdl : (bytes dd).size = dd.length := rfl
                have hbd := HBD.out
                simp only
                omega
            · obtain ⟨rfl, hb4⟩ := hret.2 hE
              have HEr : Hid (parseR s.data.toList = .error (rowE N us)) := by
                have := HPG.out.bad HLN.out HX0.out HN.out (by rw [HKK.out.2.1]; exact hE)
                rw [HKK.out.2.1] at this
                exact this
              have hb24 : Below w2.heap.size w2 w4 := HAL.out.trans (hb4.mono (by simp))
              have X4 := HBX.out.below hb4
              have C4 := HBK.out.below hb24
              have hx4 := X4.lt
              have HB6 := Lib.hid (Below.alo (below5 hb24 (Nat.le_refl _) (.string ⟨#[]⟩) (.bool false) (.slice none 0 0) (.slice none 0 0) (.slice none 0 0)) (.cells #[.string ⟨#[]⟩, .bool false, .slice none 0 0, .slice none 0 0, .slice none 0 0] 57))
              have xx0 := X4.c (i := 0) rfl
              have xx1 := X4.c (i := 1) rfl
              have xx2 := X4.c (i := 2) rfl
              have xx3 := X4.c (i := 3) rfl
              have xx4 := X4.c (i := 4) rfl
              have xz0 := X4.frozen 0
              have xz1 := X4.frozen 1
              have xz2 := X4.frozen 2
              have xz3 := X4.frozen 3
              have xz4 := X4.frozen 4
              have k0 := C4.c (i := 0) rfl
              have k2 := C4.c (i := 2) rfl
              have hc4 := C4.lt
              have hcn4 : ¬ w4.heap.size = w.heap.size + 1 := by omega
              generalize rowE N us = E at *
              have hE1 : (E != 0) = true := by simpa using hE
              clear hret hb4 hb24 X4 C4 g0 g2 f0 f1 f2 z0 z1 z2
              go_wp2_with (at_builtin; go_must ((refine append_row rfl (.tmp 56) (.tmp 58) rfl base K _ _ rfl (HOW.out.below HB6.out) w4.heap.size rfl zeroRH (by exact Blk.new' _ _ _ (by simp)) (by omega) (by have := HB6.out.size; omega) ?_); intro v5 w7 ho5 hg5 hn5; obtain ⟨A5, c5, hv5⟩ := own_form ho5.1; subst hv5; have X7 := (HBK.out.below HB6.out).grown hg5 HCN.out; have t2 := X7.c (i := 2) rfl; have zz2 := X7.frozen 2; have R7 := (HR2.out.below HB6.out).grown hg5 HRN.out; have HR7 := Lib.hid R7; have f0 := R7.c (i := 0) rfl; have f1 := R7.c (i := 1) rfl; have f2 := R7.c (i := 2) rfl; have z0 := R7.frozen 0; have z1 := R7.frozen 1; have z2 := R7.frozen 2; clear X7 R7))
              refine bodyPost_ret (v := .tuple #[.agg #[.slice none 0 0, .int .i64 0, .slice none 0 0], .int .i64 E]) (by simp [results, Tryz.results27, go_sem, f0, f1, f2]) rfl ?_
              exact RetParse.bad HEr.out (below3 (((HBW2.out.trans (HB6.out.mono HBW2.out.size)).grown hg5 (Nat.le_trans HBW2.out.size HB6.out.size) fun g e => by have := ((HOW.out.below HB6.out).1.lt _ e).1; omega).setCell (p := ⟨w.heap.size + 1, 2, none⟩) (by simp) _) (Nat.le_refl _) _ _ _)
    · obtain ⟨rfl, hY⟩ := hf1 rfl
      have HY := Lib.hid hY
      clear hf1 hf2 hY
      obtain ⟨p, dd, f, hcut⟩ : ∃ p dd f, cut x.data.toList [10] = (p, dd, f) := ⟨_, _, _, rfl⟩
      obtain ⟨us, hus⟩ : ∃ us, split p [32] = us := ⟨_, rfl⟩
      have hlc := line_cut x.data.toList
      rw [hcut] at hlc
      simp only at hlc
      rw [hus] at hlc
      have hpl : p.length ≤ 20000 := by
        have := (cut_len10 x.data.toList).1
        rw [hcut] at this
        simp only at this
        have e : x.data.toList.length = x.size := rfl
        omega
      have hul : us.length ≤ 100000 := by rw [← hus]; have := split_count p; omega
      have HSW := HW.out.below HBE.out
      have HCut := Lib.hid (cutN x p dd f wr HSW (by omega) hcut)
      have HSpl := Lib.hid (fun q => splitW p us (wr.drewN q) (HSW.drewN q) (by omega) hus)
      have HLC := Lib.hid hlc
      clear hcut hus hlc HSW
      go_wp2_with fail
      refine HCut.out.mono ?_
      rintro e w1 ⟨rfl, q, rfl⟩
      go_wp2_with fail
      refine (HSpl.out q).mono ?_
      rintro e w2 ⟨rfl, hs2, hb2⟩
      have hb2 : Below wr.heap.size wr w2 := ⟨hb2.os, hb2.tape, hb2.output, hb2.size, hb2.block⟩
      have hR2 := HR.out.below hb2
      have HR2 := Lib.hid hR2
      have HB2 := Lib.hid hb2
      have HS2 := Lib.hid hs2
      have HBW2 := Lib.hid (HBE.out.trans (hb2.mono HBE.out.size))
      have f0 := hR2.c (i := 0) rfl
      have f1 := hR2.c (i := 1) rfl
      have f2 := hR2.c (i := 2) rfl
      have z0 := hR2.frozen 0
      have z1 := hR2.frozen 1
      have z2 := hR2.frozen 2
      clear hR2 hb2 hs2
      cases f
      · have HN : Hid (lineP x.data.toList = none) := by rw [Hid, HLC.out, if_neg (by simp)]
        go_wp2_with fail
        refine bodyPost_ret (v := .tuple #[.agg #[.slice none 0 0, .int .i64 0, .slice none 0 0], .int .i64 2]) (by simp [results, Tryz.results27, go_sem, f0, f1, f2]) rfl ?_
        exact RetParse.bad (parse_none HLN.out HN.out) (below3 HBW2.out (Nat.le_refl _) _ _ _)
      · have HCo := Lib.hid (HS2.out.contains (c := us.length) ⟨#[]⟩ hul)
        have HEW := Lib.hid (empty_word us)
        go_wp2_with fail
        refine HCo.out.mono ?_
        rintro e w3 ⟨rfl, rfl⟩
        rw [HEW.out]
        by_cases hem : [] ∈ us
        · have HN : Hid (lineP x.data.toList = none) := by rw [Hid, HLC.out, if_neg (fun h => h.2 hem)]
          have hd : decide ([] ∈ us) = true := by simpa using hem
          rw [hd]
          clear hd hem HCo
          go_wp2_with fail
          refine bodyPost_ret (v := .tuple #[.agg #[.slice none 0 0, .int .i64 0, .slice none 0 0], .int .i64 2]) (by simp [results, Tryz.results27, go_sem, f0, f1, f2]) rfl ?_
          exact RetParse.bad (parse_none HLN.out HN.out) (below3 HBW2.out (Nat.le_refl _) _ _ _)
        · have HN : Hid (lineP x.data.toList = some (us, dd)) := by rw [Hid, HLC.out]; simp [hem]
          have hd : decide ([] ∈ us) = false := by simpa using hem
          rw [hd]
          have hbnd := line_bounds HN.out
          have HBD := Lib.hid hbnd
          clear hd hem HCo hbnd
          have HPz := Lib.hid (parseSizes_any (some ⟨wr.heap.size, 0, none⟩) us.length us.length us w2 HS2.out hul (Nat.le_refl _))
          have HY2 := Lib.hid (HY.out.below HB2.out)
          go_wp2_with fail
          go_fit HPz.out
          rintro e w4 hret
          by_cases hE : headE us = 0
          · obtain ⟨A4, c4, rfl, hc4, hs4, hb4⟩ := hret.1 hE
            have Y4 := HY2.out.below hb4
            have g0 := Y4.c (i := 0) rfl
            have g1 := Y4.c (i := 1) rfl
            have z0 := Y4.frozen 0
            have z1 := Y4.frozen 1
            have HY4 := Lib.hid Y4
            have HB4 := Lib.hid (HBW2.out.trans (hb4.mono HBW2.out.size))
            have HR4 := Lib.hid (HR2.out.below hb4)
            have HS4 := Lib.hid hs4
            have HEE := Lib.hid hE
            clear hret Y4 hb4 hs4 hE
            go_wp2_with fail
            go_roundw
            case rel =>
              have hdl : (bytes dd).size = dd.length := rfl
              have hxl : x.data.toList.length = x.size := rfl
              have hbd := HBD.out
              refine ⟨bytes dd, false, rfl, rfl, by omega, ?_, ?_, ?_, (fun h => by cases h), fun _ => ⟨us, [], ?_, chRel.first HY4.out HS4.out hc4, (fun r h => by cases h), fun u hu => Nat.le_trans (hbd.2.1 u hu) (by omega), by omega, by simp only [List.length_nil]; omega⟩⟩
              · exact (HR4.out.far (p := ⟨w.heap.size + 1, 0, none⟩) (by simp) _).far (p := ⟨w.heap.size + 1, 1, none⟩) (by simp) _
              · exact (HB4.out.setCell (p := ⟨w.heap.size + 1, 0, none⟩) (by simp) _).setCell (p := ⟨w.heap.size + 1, 1, none⟩) (by simp) _
              · have := HY4.out.lt
                simp [World.setCell]
                omega
              · rw [bytes_data]
                exact parsing.start HN.out HEE.out
            case measure =>
              have hdl : (bytes dd).size = dd.length := rfl
              have hxl : x.data.toList.length = x.size := rfl
              have hbd := HBD.out
              simp only
              omega
          · obtain ⟨rfl, hb4⟩ := hret.2 hE
            have HEr : Hid (parseR x.data.toList = .error (headE us)) := parse_head HLN.out HN.out hE
            have Y4 := HY2.out.below hb4
            have R4 := HR2.out.below hb4
            have HB4 := Lib.hid (HBW2.out.trans (hb4.mono HBW2.out.size))
            have g0 := Y4.c (i := 0) rfl
            have g1 := Y4.c (i := 1) rfl
            have y0 := Y4.frozen 0
            have y1 := Y4.frozen 1
            have f0 := R4.c (i := 0) rfl
            have f1 := R4.c (i := 1) rfl
            have f2 := R4.c (i := 2) rfl
            have z0 := R4.frozen 0
            have z1 := R4.frozen 1
            have z2 := R4.frozen 2
            generalize headE us = E at *
            have hE1 : (E != 0) = true := by simpa using hE
            clear hret Y4 R4 hb4
            go_wp2_with fail
            refine bodyPost_ret (v := .tuple #[.agg #[.slice none 0 0, .int .i64 0, .slice none 0 0], .int .i64 E]) (by simp [results, Tryz.results27, go_sem, f0, f1, f2]) rfl ?_
            exact RetParse.bad HEr.out (below3 ((HB4.out.setCell (p := ⟨w.heap.size + 1, 0, none⟩) (by simp) _).setCell (p := ⟨w.heap.size + 1, 1, none⟩) (by simp) _) (Nat.le_refl _) _ _ _)
end Go.Proofs.YtjiccijfbpkliaaGreatDoor

/- chart.Print returns the text of a chart, or the error. Conditions: as Check's; Std. -/
namespace Go.Proofs.YtjiccijfbpkliaaGreatDoor
open Go.RowKit
open Go.Lib hiding intOf

/-- A text and an error come back. -/
def RetPr (ch : PChart) (w : World) (e : Ending) (w' : World) : Prop := e = .returned (.tuple #[.string (bytes (printT ch)), .int .i64 (printE ch)]) ∧ Below w.heap.size w w'
theorem join_any (S : Option Addr) (n c : Nat) (zs : List ByteArray) (J : ByteArray) (w : World) (h : Sl w w.heap.size S n (strs zs)) (h0 : 0 < n) (hn : n ≤ 100000) (hc : n ≤ c) (hJ : J = bytes (join (zs.map (·.data.toList)) [32])) (hl : J.size ≤ 1000000) :
    Calls Tryz.prog 54 #[.slice S n c, .string ⟨#[32]⟩] w fun e w' => e = .returned (.string J) ∧ Below w.heap.size w w' := by
  have hzl := h.slen
  obtain ⟨b, off, rfl, hb, hcell⟩ := h.2 h0
  have hJl : (join (zs.map (·.data.toList)) [32]).length = J.size := by rw [hJ]; rfl
  have hJ2 := Tryz.strings_Join b off c zs ⟨#[32]⟩ w (fun j x hj => hcell j _ (by simp [strs, hj])) hb (by omega) (by omega) (by rw [show (⟨#[32]⟩ : ByteArray).data.toList = [32] from rfl]; omega)
  rw [hzl, show (⟨#[32]⟩ : ByteArray).data.toList = [32] from rfl] at hJ2
  rw [hJ]
  exact hJ2
theorem head_parts {ch : PChart} {k : Nat} (h0 : chkP ch = 0) (hq : ∀ r ∈ ch.rows, qk r.base k ∧ ∀ q ∈ r.steps, qk q k) (hk : k ≤ 100000) {x : ByteArray} (hx : ch.sizes[ch.base.toNat]? = some x) :
    ∃ J y1 y2 y3 y4 : ByteArray, J = bytes (join (ch.sizes.map (·.data.toList)) [32]) ∧ J.size ≤ 1000000 ∧ (∀ W, (Op.stringOp .add ⟨#[115, 105, 122, 101, 115, 32]⟩ J).run Tryz.prog W = .ok (.string y1) W) ∧ (∀ W, (Op.stringOp .add y1 ⟨#[32, 98, 97, 115, 101, 32]⟩).run Tryz.prog W = .ok (.string y2) W) ∧ (∀ W, (Op.stringOp .add y2 x).run Tryz.prog W = .ok (.string y3) W) ∧ (∀ W, (Op.stringOp .add y3 ⟨#[10]⟩).run Tryz.prog W = .ok (.string y4) W) ∧ y4.data.toList = headText ch ∧ y4.size ≤ 1000 := by
  obtain ⟨_, hroom⟩ := print_room h0 hq hk
  have hne : ch.sizes.map (·.data.toList) ≠ [] := by
    intro e
    have h1 := congrArg List.length e
    have h2 := (List.getElem?_eq_some_iff.1 hx).1
    simp at h1
    rw [h1] at h2
    simp at h2
  have ht := join_tail _ hne
  have hgx : ch.sizes.getD ch.base.toNat ByteArray.empty = x := by rw [List.getD_eq_getElem?_getD, hx]; rfl
  have hhead : headText ch = [115, 105, 122, 101, 115, 32] ++ (join (ch.sizes.map (·.data.toList)) [32]) ++ [32, 98, 97, 115, 101, 32] ++ x.data.toList ++ [10] := by
    unfold headText
    rw [hgx]
    have e : ∀ us : List (List UInt8), tailW (ch.sizes.map (·.data.toList) ++ us) = (32 :: join (ch.sizes.map (·.data.toList)) [32]) ++ tailW us := fun us => by rw [ht]; simp [tailW]
    rw [e]
    simp [tailW]
  have hJs : (bytes (join (ch.sizes.map (·.data.toList)) [32])).size = (join (ch.sizes.map (·.data.toList)) [32]).length := rfl
  have hxs : x.size = x.data.toList.length := rfl
  have hL := congrArg List.length hhead
  simp only [List.length_append, List.length_cons, List.length_nil] at hL
  have s1 : (⟨#[115, 105, 122, 101, 115, 32]⟩ : ByteArray).size = 6 := rfl
  have s2 : (⟨#[32, 98, 97, 115, 101, 32]⟩ : ByteArray).size = 6 := rfl
  have s3 : (⟨#[10]⟩ : ByteArray).size = 1 := rfl
  obtain ⟨y1, a1, d1, z1⟩ := add2 ⟨#[115, 105, 122, 101, 115, 32]⟩ (bytes (join (ch.sizes.map (·.data.toList)) [32])) (by omega)
  obtain ⟨y2, a2, d2, z2⟩ := add2 y1 ⟨#[32, 98, 97, 115, 101, 32]⟩ (by omega)
  obtain ⟨y3, a3, d3, z3⟩ := add2 y2 x (by omega)
  obtain ⟨y4, a4, d4, z4⟩ := add2 y3 ⟨#[10]⟩ (by omega)
  refine ⟨_, y1, y2, y3, y4, rfl, by omega, a1, a2, a3, a4, ?_, by omega⟩
  rw [d4, d3, d2, d1, bytes_data, hhead]
theorem prE_long {ch : PChart} (h : chkP ch = 0) (hl : 20000 < (printL ch).length) : printE ch = 5 ∧ printT ch = [] := by
  have e : printE ch = 5 := by rw [printE, if_neg (by simp [h]), if_pos hl]
  exact ⟨e, by rw [printT, e]; rfl⟩
theorem prE_ok {ch : PChart} (h : chkP ch = 0) (hl : ¬ 20000 < (printL ch).length) : printE ch = 0 ∧ printT ch = printL ch := by
  have e : printE ch = 0 := by rw [printE, if_neg (by simp [h]), if_neg hl]
  exact ⟨e, by rw [printT, if_pos e]⟩
theorem prE_bad {ch : PChart} (h : chkP ch ≠ 0) : printE ch = chkP ch ∧ printT ch = [] := by
  have e : printE ch = chkP ch := by rw [printE, if_pos h]
  exact ⟨e, by rw [printT, e, if_neg h]⟩

set_option maxRecDepth 100000 in
set_option maxHeartbeats 6400000 in
theorem Print_any (S : Option Addr) (n c : Nat) (R : Option Addr) (m d k : Nat) (ch : PChart) (w : World) (hw : Std w) (h : ChkA w S n c R m d k ch) :
    Calls Tryz.prog 25 #[.agg #[.slice S n c, .int .i64 ch.base, .slice R m d]] w (RetPr ch w) := by
  have hsl := h.slen
  have hrl := h.rlen
  have hB : Below w.heap.size w (w.alloc (.cells #[.slice S n c, .int .i64 ch.base, .slice R m d] 25)) := (Below.refl _ _).alloc (Nat.le_refl _) _
  have X0 := Blk.new w 25 #[.slice S n c, .int .i64 ch.base, .slice R m d]
  have HA := Lib.hid h
  have HW := Lib.hid hw
  have HC := fun W (hb : Below w.heap.size w W) => check_any S n c R m d k ch W (h.on hb)
  obtain ⟨E, hE⟩ : ∃ E, chkP ch = E := ⟨_, rfl⟩
  simp only [hE] at HC
  have HC := Lib.hid HC
  have HE := Lib.hid hE
  have HL := Lib.hid (And.intro hsl hrl)
  have n1 := h.len
  have m1 := h.lenr
  have k1 := h.one
  have k2 := h.small
  clear h hsl hrl hE hw
  go_enter Tryz.func25, Tryz.ntmps25
  go_wp2_with fail
  refine (HC.out _ hB).mono ?_
  rintro e w1 ⟨rfl, hb1⟩
  have X1 := X0.below hb1
  have B1 := hB.trans (hb1.mono hB.size)
  obtain ⟨x0, x1, x2⟩ := three X1
  clear X0 hB hb1
  by_cases hE0 : E = 0
  · subst hE0
    have hck := chk_zero HE.out
    have hqs := HA.out.lies.2.qks HA.out.one
    obtain ⟨room, _⟩ := print_room HE.out hqs k2
    obtain ⟨bs, hbs⟩ : ∃ bs : Nat, ch.base = (bs : Int) := ⟨ch.base.toNat, by omega⟩
    have hbn : bs < n := by have := hck.2.2.2.2.2.2; rw [HL.out.1] at this; omega
    have S1 := HA.out.lies.1.on B1
    obtain ⟨sb, so, x, hS, hsb, hx, hxc⟩ := S1.str_ hbn
    subst hS
    obtain ⟨J, y1, y2, y3, y4, hJ, hJl, a1, a2, a3, a4, hy4, hy4l⟩ := head_parts HE.out hqs k2 (x := x) (by rw [hbs, Int.toNat_natCast]; exact hx)
    have HJ := Lib.hid (fun W (hb : Below w1.heap.size w1 W) => join_any (some ⟨sb, so, none⟩) n c ch.sizes J W (S1.on hb) (by omega) n1 HA.out.cap hJ hJl)
    have HY := Lib.hid hy4
    have HCK := Lib.hid hck
    have HR := Lib.hid room
    rw [hbs] at x1
    have HX1 := Lib.hid X1
    have HB1 := Lib.hid B1
    have HBS := Lib.hid hbs
    have hxl := X1.lt
    have W2 := (Below.refl w1.heap.size w1).alloc (Nat.le_refl _) (.cells #[.pointer none, .slice none 0 0] 80)
    have HW2 := Lib.hid W2
    have HF := Lib.hid (Bytes.fresh w1)
    have i1 : (0 : Int) ≤ (bs : Int) := by omega
    have i2 : (bs : Int) < (n : Int) := by omega
    have hsb2 : sb < w1.heap.size + 1 := by omega
    have hxl2 : w.heap.size < w1.heap.size + 1 := by omega
    clear hck hqs hJ hJl hy4 room X1 B1 S1 hbs W2 hx
    go_wp2_with fail
    go_region_held3 (fun w' => w'.cell? ⟨w.heap.size, 0, none⟩ = some (.slice (some ⟨sb, so, none⟩) n c) ∧ w'.cell? ⟨w.heap.size, 1, none⟩ = some (.int .i64 (bs : Int)) ∧ w'.cell? ⟨w.heap.size, 2, none⟩ = some (.slice R m d) ∧ w'.cell? ⟨sb, so + bs, none⟩ = some (.string x))
      (go_keep)
      (first
       | (go_at_call 54; go_must ((go_fit (HJ.out _ HW2.out.drew)); rintro e w4 ⟨rfl, hb4⟩; have HB4 := Lib.hid (show Below (w1.alloc (.cells #[.pointer none, .slice none 0 0] 80)).heap.size (w1.alloc (.cells #[.pointer none, .slice none 0 0] 80)) w4 from ⟨hb4.os, hb4.tape, hb4.output, hb4.size, hb4.block⟩); obtain ⟨hcl, hfr⟩ := bcell HB4.out; clear hb4))
       | (go_at_call 53; go_must ((go_fit (write_any w1.heap.size w1.heap.size [] y4 _ (HF.out.on HB4.out) (by simp; omega) (by have := HB4.out.size; simp at this; omega))); rintro e w5 ⟨rfl, hb5, hb6, hb7⟩; have HBY := Lib.hid hb5; have HB5 := Lib.hid (((Below.refl w1.heap.size w1).alloc (Nat.le_refl _) _).trans ((HB4.out.mono (by simp)).trans hb6)); obtain ⟨hcl5, hfr5⟩ := bcell HB5.out; clear hb5 hb6 hb7)))
    have HBY2 : Hid (Bytes w1.heap.size w1.heap.size (outAt ch 0) w5) := by
      have := HBY.out
      rw [List.nil_append, HY.out] at this
      rw [Hid, out_zero]
      exact this
    have hX5 := HX1.out.below HB5.out
    have X5 := hX5
    rw [HBS.out] at X5
    obtain ⟨x0, x1, x2⟩ := three X5
    have HX5 := Lib.hid hX5
    have HBW := Lib.hid (HB1.out.trans (HB5.out.mono HB1.out.size))
    have hB5 := HB5.out.size
    clear hcl5 hfr5 HBY HY HJ HF HW2 a1 a2 a3 a4 hxc hX5 X5
    go_wp2_with fail
    go_loopw [32] (fun s32 wr => ∃ j : Nat, j ≤ m ∧ s32 = .int .i64 (j : Int) ∧ Bytes w1.heap.size w1.heap.size (outAt ch j) wr ∧ Below w1.heap.size w1 wr) (fun s32 _ => m - (intOf s32).toNat)
    case atStart => exact ⟨0, Nat.zero_le _, rfl, HBY2.out, HB5.out⟩
    case round =>
      obtain ⟨j, hj, rfl, hby, hbel⟩ := hrel
      by_cases hlt : j < m
      · have B3 := HB1.out.trans (hbel.mono HB1.out.size)
        obtain ⟨b, off, r, neg, C, cm, cc, D, dl, dd, T, sn, sc, rfl, hbw, hr, g0, g1, g2, g3, g4, hra, hst, hsc⟩ := HA.out.lies.2.at_ hlt
        have g0 := (B3.cell (p := ⟨b, off + j * 5, none⟩) hbw).trans g0
        have g1 := (B3.cell (p := ⟨b, off + j * 5 + 1, none⟩) hbw).trans g1
        have g2 := (B3.cell (p := ⟨b, off + j * 5 + 2, none⟩) hbw).trans g2
        have g3 := (B3.cell (p := ⟨b, off + j * 5 + 3, none⟩) hbw).trans g3
        have g4 := (B3.cell (p := ⟨b, off + j * 5 + 4, none⟩) hbw).trans g4
        have hra := hra.on B3
        have hrn : r.steps.length = n := by rw [row_len HCK.out.2.2.1 hr]; exact HL.out.1
        have hsn : sn = n := by rw [← hst.len]; exact hrn
        subst hsn
        obtain ⟨Tx, hTx⟩ : ∃ Tx, bytes (ratText r.base) = Tx := ⟨_, rfl⟩
        have hlen0 := in_out_len hr 0
        have hnm : r.name.size = r.name.data.toList.length := rfl
        have hTs : Tx.size = (ratText r.base).length := by rw [← hTx]; rfl
        have hroom := HR.out
        have hl0 : (outAt ch j ++ (r.name.data.toList ++ 32 :: ratText r.base)).length ≤ 1000000000 := by rw [← in_zero]; omega
        simp only [List.length_append, List.length_cons] at hl0
        have s32 : (⟨#[32]⟩ : ByteArray).size = 1 := rfl
        obtain ⟨p1, a1, d1, z1⟩ := add2 r.name ⟨#[32]⟩ (by omega)
        obtain ⟨p2, a2, d2, z2⟩ := add2 p1 Tx (by omega)
        have HP2 : Hid (outAt ch j ++ p2.data.toList = outAt ch j ++ inAt r 0) := by
          rw [Hid, d2, d1, ← hTx, bytes_data, in_zero]
          simp
        have hp2l : (outAt ch j).length + p2.size ≤ 2000000000 := by omega
        have hWb := (Below.refl wr.heap.size wr).alloc (Nat.le_refl _) (.cells #[.string r.name, .bool neg, .slice C cm cc, .slice D dl dd, .slice T sn sc] 57)
        have HWB := Lib.hid hWb
        have HTX := fun W (hb : Below wr.heap.size wr W) => rtext_any (.agg #[.bool neg, .slice C cm cc, .slice D dl dd]) k r.base W (((HW.out.below B3)).below hb) (hra.on hb) k1 k2
        unfold RetT at HTX
        have e0 : (⟨(ratText r.base).toArray⟩ : ByteArray) = Tx := hTx
        rw [e0] at HTX
        have HTX := Lib.hid HTX
        have Y3 := Blk.new wr 57 #[.string r.name, .bool neg, .slice C cm cc, .slice D dl dd, .slice T sn sc]
        have HY3 := Lib.hid Y3
        have HBYr := Lib.hid hby
        have HBEL := Lib.hid hbel
        have HRR := Lib.hid hr
        have HST := Lib.hid hst
        have hge := hby.ge.2
        have hne1 : ¬ wr.heap.size = w1.heap.size := by omega
        have hw1 : w1.heap.size ≤ wr.heap.size := hbel.size
        have i1 : (0 : Int) ≤ (j : Int) := by omega
        have i2 : (j : Int) < (m : Int) := by omega
        clear hr hst hra hby hbel hWb Y3 B3 hl0 hlen0 hTx e0 d1 d2 z1 z2 hTs hnm
        go_wp2_with fail
        go_region_held3 (fun w' => w'.cell? ⟨wr.heap.size, 0, none⟩ = some (.string r.name) ∧ w'.cell? ⟨wr.heap.size, 1, none⟩ = some (.bool neg) ∧ w'.cell? ⟨wr.heap.size, 2, none⟩ = some (.slice C cm cc) ∧ w'.cell? ⟨wr.heap.size, 3, none⟩ = some (.slice D dl dd) ∧ w'.cell? ⟨wr.heap.size, 4, none⟩ = some (.slice T sn sc))
          (go_keep)
          (first
           | (go_at_call 55; go_must ((go_fit (HTX.out _ HWB.out.drew)); rintro e w4 ⟨rfl, hb4⟩; have HB4 := Lib.hid (show Below (wr.alloc (.cells #[.string r.name, .bool neg, .slice C cm cc, .slice D dl dd, .slice T sn sc] 57)).heap.size (wr.alloc (.cells #[.string r.name, .bool neg, .slice C cm cc, .slice D dl dd, .slice T sn sc] 57)) w4 from ⟨hb4.os, hb4.tape, hb4.output, hb4.size, hb4.block⟩); obtain ⟨hcl, hfr⟩ := bcell HB4.out; clear hb4))
           | (go_at_call 53; go_must ((go_fit (write_any w1.heap.size w1.heap.size (outAt ch j) p2 _ ((HBYr.out.on HWB.out).on HB4.out) hp2l (by have := HB4.out.size; simp at this; omega))); rintro e w5' ⟨rfl, hb5, hb6, hb7⟩; have HBY5 := Lib.hid hb5; have HB5' := Lib.hid (HBEL.out.trans ((HWB.out.mono hw1).trans ((HB4.out.mono (by simp; omega)).trans hb6))); have Y5 := hb7 _ _ _ (HY3.out.below HB4.out) hne1 (by decide); have yy0 := Y5.c (i := 0) rfl; have yy1 := Y5.c (i := 1) rfl; have yy2 := Y5.c (i := 2) rfl; have yy3 := Y5.c (i := 3) rfl; have yy4 := Y5.c (i := 4) rfl; clear hb5 hb6 hb7 Y5)))
        have HBI : Hid (Bytes w1.heap.size w1.heap.size (outAt ch j ++ inAt r 0) w5') := by rw [Hid, ← HP2.out]; exact HBY5.out
        have hw5 := HB5'.out.size
        have hsn1 : 1 ≤ sn := by omega
        obtain ⟨bt, ot, _, _, _, _, _, _, _, _, hT, _⟩ := HST.out.at_ (j := 0) hsn1
        subst hT
        have e0 : (sn : Int) - 1 = ((sn - 1 : Nat) : Int) := by omega
        clear HBY5 HP2 HTX HWB HY3 a1 a2 hp2l yy0 yy1 yy2 yy3 hne1 hge
        go_wp2_with fail
        all_goals
          go_loopw [48] (fun s48 wr2 => ∃ i : Nat, i ≤ sn - 1 ∧ s48 = .int .i64 (i : Int) ∧ Bytes w1.heap.size w1.heap.size (outAt ch j ++ inAt r i) wr2 ∧ Below w1.heap.size w1 wr2) (fun s48 _ => sn - 1 - (intOf s48).toNat)
          case atStart => exact ⟨0, Nat.zero_le _, rfl, HBI.out, HB5'.out⟩
          case round =>
            obtain ⟨i, hi, rfl, hbyi, hbeli⟩ := hrel
            by_cases hlti : i < sn - 1
            · first
              | (exfalso; omega)
              | (have B6 := HB1.out.trans (hbeli.mono HB1.out.size)
                 obtain ⟨bq, oq, q, neg2, E1, en, ec, F1, fn, fc, hT2, hbq, hq, g0, g1, g2, hqa⟩ := (HST.out.on B6).at_ (j := i + 1) (by omega)
                 injection hT2 with hT2
                 injection hT2 with hT3 hT4
                 subst hT3
                 subst hT4
                 have ea : ot + (i + 1) * 3 = ot + 3 + i * 3 := by omega
                 rw [ea] at g0 g1 g2
                 have hq2 : (r.steps.drop 1)[i]? = some q := by rw [List.getElem?_drop, Nat.add_comm 1 i]; exact hq
                 obtain ⟨Tx, hTx⟩ : ∃ Tx, bytes (ratText q) = Tx := ⟨_, rfl⟩
                 have hlen0 := in_out_len HRR.out (i + 1)
                 have hroom := HR.out
                 rw [in_succ hq2] at hlen0
                 simp only [List.length_append, List.length_cons] at hlen0
                 have hTs : Tx.size = (ratText q).length := by rw [← hTx]; rfl
                 have s32 : (⟨#[32]⟩ : ByteArray).size = 1 := rfl
                 obtain ⟨p1, a1, d1, z1⟩ := add2 ⟨#[32]⟩ Tx (by omega)
                 have HP1 : Hid ((outAt ch j ++ inAt r i) ++ p1.data.toList = outAt ch j ++ inAt r (i + 1)) := by
                   rw [Hid, d1, ← hTx, bytes_data, in_succ hq2]
                   simp
                 have hp1l : (outAt ch j ++ inAt r i).length + p1.size ≤ 2000000000 := by rw [List.length_append]; omega
                 have hWb := (Below.refl wr.heap.size wr).alloc (Nat.le_refl _) (.cells #[.bool neg2, .slice E1 en ec, .slice F1 fn fc] 36)
                 have HTX := rtext_any (.agg #[.bool neg2, .slice E1 en ec, .slice F1 fn fc]) k q _ (((HW.out.below B6)).below hWb) (hqa.on hWb) k1 k2
                 unfold RetT at HTX
                 have e0 : (⟨(ratText q).toArray⟩ : ByteArray) = Tx := hTx
                 rw [e0] at HTX
                 have HTX := Lib.hid HTX
                 have HWB := Lib.hid hWb
                 have HBYr := Lib.hid hbyi
                 have HBEL2 := Lib.hid hbeli
                 have i3 : (0 : Int) ≤ (i : Int) := by omega
                 have i4 : (i : Int) < ((sn - 1 : Nat) : Int) := by omega
                 have hw2 := hbeli.size
                 clear hq hq2 hqa hbyi hbeli hWb B6 hlen0 hTx e0 d1 z1 hTs ea
                 go_wp2_with fail
                 go_fit HTX.out
                 rintro e w7 ⟨rfl, hb7⟩
                 have HWr := Lib.hid (write_any w1.heap.size w1.heap.size (outAt ch j ++ inAt r i) p1 _ ((HBYr.out.on HWB.out).on hb7) hp1l (by have := hb7.size; simp at this; omega))
                 have HB7 := Lib.hid (HBEL2.out.trans ((HWB.out.mono hw2).trans (hb7.mono (by simp; omega))))
                 clear hb7
                 go_wp2_with fail
                 go_fit HWr.out
                 rintro e w8 ⟨rfl, hb8, hb9, _⟩
                 go_wp2_with fail
                 go_roundw
                 case rel => exact ⟨i + 1, by omega, by go_num, by rw [← HP1.out]; exact hb8, HB7.out.trans hb9⟩
                 case measure => simp [intOf]; omega)
            · obtain rfl : i = sn - 1 := by omega
              have hfin : outAt ch (j + 1) = (outAt ch j ++ inAt r (sn - 1)) ++ [10] := by rw [out_succ HRR.out, hrn, List.append_assoc]
              have hlen := out_len ch (j + 1)
              rw [hfin] at hlen
              have hroom := HR.out
              simp only [List.length_append, List.length_singleton] at hlen
              have HWr := Lib.hid (write_any w1.heap.size w1.heap.size (outAt ch j ++ inAt r (sn - 1)) ⟨#[10]⟩ _ hbyi (by rw [List.length_append]; show _ + 1 ≤ _; omega) hbeli.size)
              have HFI := Lib.hid hfin
              have HBI2 := Lib.hid hbeli
              have i3 : ¬ ((sn - 1 : Nat) : Int) < ((sn - 1 : Nat) : Int) := by omega
              clear hbyi hbeli hfin hlen
              go_wp2_with fail
              refine HWr.out.mono ?_
              rintro e w8 ⟨rfl, hb8, hb9, _⟩
              go_wp2_with fail
              go_roundw
              case rel => exact ⟨j + 1, by omega, by go_num, by rw [HFI.out]; exact hb8, HBI2.out.trans hb9⟩
              case measure => simp [intOf]; omega
      · obtain rfl : j = m := by omega
        have hbl : outAt ch j = printL ch := by rw [← HL.out.2]; exact out_all ch
        rw [hbl] at hby
        have HBL := Lib.hid (Tryz.Builder_Len w1.heap.size w1.heap.size _ wr hby)
        have HST := Lib.hid (Tryz.Builder_String_any w1.heap.size w1.heap.size _ wr hby hbel.size)
        have HBB := Lib.hid hbel
        have hcl : (byteCells (printL ch)).length = (printL ch).length := byteCells_length _
        obtain ⟨N, hN⟩ : ∃ N, (byteCells (printL ch)).length = N := ⟨_, rfl⟩
        rw [hN] at HBL hcl
        have HN := Lib.hid hcl.symm
        clear hby hbel hbl hcl hN
        go_wp2_with fail
        refine HBL.out.mono ?_
        rintro e w6 ⟨rfl, rfl⟩
        by_cases hlong : 20000 < N
        · obtain ⟨p1, p2⟩ := prE_long HE.out (by rw [HN.out]; exact hlong)
          have HV := Lib.hid (And.intro p1 p2)
          have hl2 : (20000 : Int) < (N : Int) := by omega
          clear p1 p2
          go_wp2_with fail
          refine bodyPost_ret (v := .tuple #[.string ⟨#[]⟩, .int .i64 5]) (by simp [results, Tryz.results25, go_sem]) rfl ?_
          exact ⟨by rw [HV.out.1, HV.out.2]; rfl, HB1.out.trans (HBB.out.mono HB1.out.size)⟩
        · obtain ⟨p1, p2⟩ := prE_ok HE.out (by rw [HN.out]; exact hlong)
          have HV := Lib.hid (And.intro p1 p2)
          have hl2 : ¬ (20000 : Int) < (N : Int) := by omega
          clear p1 p2
          go_wp2_with fail
          refine HST.out.mono ?_
          rintro e w7 ⟨rfl, hb7⟩
          go_wp2_with fail
          refine bodyPost_ret (v := .tuple #[.string (bytes (printL ch)), .int .i64 0]) (by simp [results, Tryz.results25, go_sem, bytes]) rfl ?_
          exact ⟨by rw [HV.out.1, HV.out.2], HB1.out.trans ((HBB.out.trans hb7).mono HB1.out.size)⟩
  · have hE1 : (E != 0) = true := by simpa using hE0
    obtain ⟨p1, p2⟩ := prE_bad (ch := ch) (by rw [HE.out]; exact hE0)
    have HV := Lib.hid (And.intro (p1.trans HE.out) p2)
    have HB1 := Lib.hid B1
    clear X1 B1 p1 p2
    go_wp2_with fail
    refine bodyPost_ret (v := .tuple #[.string ⟨#[]⟩, .int .i64 E]) (by simp [results, Tryz.results25, go_sem]) rfl ?_
    exact ⟨by rw [HV.out.1, HV.out.2]; rfl, HB1.out⟩
end Go.Proofs.YtjiccijfbpkliaaGreatDoor

/- garmentlaw18.exampleHolds returns true. Conditions: Std. -/
namespace Go.Proofs.YtjiccijfbpkliaaGreatDoor
open Go.RowKit
open Go.Lib hiding intOf

theorem chk_bounds {ch : PChart} (h : chkP ch = 0) : (∀ (i : Nat) (s : ByteArray), ch.sizes[i]? = some s → s.size ≤ 8) ∧ (∀ (i : Nat) (r : PRow), ch.rows[i]? = some r → r.name.size ≤ 24) ∧ ch.sizes.length ≤ 12 ∧ ch.rows.length ≤ 32 := by
  obtain ⟨h1, h2, hr, _⟩ := chk_zero h
  obtain ⟨_, r2, r3⟩ := right_iff.1 hr
  exact ⟨fun i s hs => (sizeOk_iff.1 (r2 i s hs)).2.1, fun i r hs => name_le (rowOk_iff.1 (r3 i r hs)).1, h1, h2⟩
theorem ok_chk {w : World} {S R : Option Addr} {n c m d k : Nat} {ch : PChart} (h : chkP ch = 0) (h1 : Sl w w.heap.size S n (strs ch.sizes)) (h2 : n ≤ c) (h3 : RowsN w R m ch.rows) (h4 : m ≤ d) (hk : 1 ≤ k) (hk2 : k ≤ 100000) (hq : ∀ r ∈ ch.rows, qk r.base k ∧ ∀ q ∈ r.steps, qk q k) : ChkA w S n c R m d k ch := by
  obtain ⟨b1, b2, b3, b4⟩ := chk_bounds h
  rw [h1.slen] at b3
  rw [h3.len] at b4
  exact ⟨⟨h1, h3.toA hq⟩, h2, h4, by omega, by omega, hk, hk2, fun i s hs => Nat.le_trans (b1 i s hs) (by omega), fun i r hr => Nat.le_trans (b2 i r hr) (by omega)⟩
theorem nil_chk (w : World) : ChkA w none 0 0 none 0 0 1 ⟨[], 0, []⟩ :=
  ⟨⟨Sl.none_, RowsA.nil w none 1⟩, Nat.le_refl _, Nat.le_refl _, by omega, by omega, by omega, by omega, fun i s h => by simp at h, fun i r h => by simp at h⟩
theorem meas_one {w : World} {g : Nat} {t : TypeId} (nm : ByteArray) (x : QH) (hb : Blk w g t #[.string nm, .bool (ineg x.q.num), .slice x.A x.n x.c, .slice x.B x.m x.d]) (hx : x.Ok w) : MeasA w (some ⟨g, 0, none⟩) 1 [(nm, x.q)] :=
  ⟨[(nm, x)], rfl, rfl, fun _ => ⟨g, 0, rfl, hb.lt, fun j u hu => by
    rw [Nat.zero_add]
    exact hb.c (by simpa [mCells, QH.cells] using hu)⟩, fun p hp => by
    obtain rfl : p = (nm, x) := by simpa using hp
    exact hx⟩

theorem nine_keep {w w' : World} {g1 g2 g3 : Nat} {t1 t2 t3 : TypeId} {a0 a1 a2 b0 b1 b2 c0 c1 c2 : Value} (h1 : Blk w g1 t1 #[a0, a1, a2]) (h2 : Blk w g2 t2 #[b0, b1, b2]) (h3 : Blk w g3 t3 #[c0, c1, c2]) (hb : Below w.heap.size w w') :
    w'.cell? ⟨g1, 0, none⟩ = some a0 ∧ w'.cell? ⟨g1, 1, none⟩ = some a1 ∧ w'.cell? ⟨g1, 2, none⟩ = some a2 ∧ w'.cell? ⟨g2, 0, none⟩ = some b0 ∧ w'.cell? ⟨g2, 1, none⟩ = some b1 ∧ w'.cell? ⟨g2, 2, none⟩ = some b2 ∧ w'.cell? ⟨g3, 0, none⟩ = some c0 ∧ w'.cell? ⟨g3, 1, none⟩ = some c1 ∧ w'.cell? ⟨g3, 2, none⟩ = some c2 :=
  ⟨(h1.below hb).c rfl, (h1.below hb).c rfl, (h1.below hb).c rfl, (h2.below hb).c rfl, (h2.below hb).c rfl, (h2.below hb).c rfl, (h3.below hb).c rfl, (h3.below hb).c rfl, (h3.below hb).c rfl⟩

set_option maxRecDepth 100000 in
set_option maxHeartbeats 6400000 in
theorem example_any (w : World) (hw : Std w) : Calls Tryz.prog 16 #[] w fun e w' => e = .returned (.bool true) ∧ Below w.heap.size w w' := by
  obtain ⟨q1, hq1⟩ : ∃ q : Rat, 88 = q := ⟨_, rfl⟩
  obtain ⟨q2, hq2⟩ : ∃ q : Rat, -9 = q := ⟨_, rfl⟩
  obtain ⟨q3, hq3⟩ : ∃ q : Rat, 97 = q := ⟨_, rfl⟩
  have HQ : Hid (qk q1 1 ∧ qk q2 1 ∧ qk q3 1) := by rw [← hq1, ← hq2, ← hq3]; exact ⟨qk88, qk9, qk97⟩
  have HW1 : Hid (∀ W, Calls Tryz.prog 44 #[.int .i64 88] W (RetQ q1 W)) := fun W => by
    have := kwhole_nat 88 W (by omega)
    rw [ex_w1, hq1] at this
    exact this
  have HW2 : Hid (∀ W, Calls Tryz.prog 44 #[.int .i64 (-9)] W (RetQ q2 W)) := fun W => by
    have := kwhole_neg 8 W (by omega)
    rw [ex_w2, hq2] at this
    exact this
  have HW3 : Hid (∀ W, Calls Tryz.prog 44 #[.int .i64 97] W (RetQ q3 W)) := fun W => by
    have := kwhole_nat 97 W (by omega)
    rw [ex_w3, hq3] at this
    exact this
  have HV1 : Hid (valErr exCh 0 0 = 0 ∧ valOf exCh 0 0 = q1) := by rw [← hq1]; exact ex_v1
  have HC1 : Hid (chgErr exCh 2 0 0 = 0 ∧ chgOf exCh 2 0 0 = q2) := by rw [← hq2]; exact ex_c
  have HL1 : Hid (colErr exCh 2 = 0 ∧ colOf exCh 2 = [(exChest, q3)]) := by rw [← hq3]; exact ex_col
  have HP1 := Lib.hid (Parse_any ⟨#[115, 105, 122, 101, 115, 32, 83, 32, 77, 32, 76, 32, 98, 97, 115, 101, 32, 77, 10, 99, 104, 101, 115, 116, 32, 57, 50, 32, 52, 32, 53, 10]⟩ w hw (by decide))
  have HWW := Lib.hid hw
  clear hq1 hq2 hq3 hw
  go_enter Tryz.func16, Tryz.ntmps16
  go_wp2_with fail
  refine HP1.out.mono ?_
  rintro e w1 hret
  obtain ⟨S, n, c, R, m, d, rfl, s1, c1, r1, d1, _, hb1⟩ := hret.1 exCh ex_parse
  have hA := ok_chk (k := 1) ex_chk s1 c1 r1 d1 (by omega) (by omega) ex_qk
  have hal := (Below.refl w1.heap.size w1).alloc (Nat.le_refl _) (.cells #[.slice S n c, .int .i64 exCh.base, .slice R m d] 25)
  have HB1 := Lib.hid (hb1.trans (hal.mono hb1.size))
  have HA1 := Lib.hid (hA.on hal)
  have X1 := Blk.new w1 25 #[.slice S n c, .int .i64 exCh.base, .slice R m d]
  have HX1 := Lib.hid X1
  obtain ⟨p0, p1, p2⟩ := three X1
  clear hret s1 r1 hA hal hb1 X1 HP1
  have HPr := Print_any S n c R m d 1 exCh _ (HWW.out.below HB1.out) HA1.out
  unfold RetPr at HPr
  rw [ex_print.1, ex_print.2] at HPr
  have HPr := Lib.hid HPr
  go_wp2_with fail
  go_fit HPr.out
  rintro e w2 ⟨rfl, hb2⟩
  have HB2 := Lib.hid (HB1.out.trans (hb2.mono HB1.out.size))
  have HA2 := Lib.hid (HA1.out.on hb2)
  have X2 := HX1.out.below hb2
  have HX2 := Lib.hid X2
  obtain ⟨p0, p1, p2⟩ := three X2
  clear HB1 HA1 HX1 X2 
  clear hb2 HPr
  have HVa := Lib.hid (Value_any S n c R m d 1 exCh 0 exChest w2 HA2.out (by omega))
  go_wp2_with fail
  go_fit HVa.out
  rintro e w3 ⟨z, hz, hq⟩
  obtain rfl : z = 0 := hz.uniq ex_found
  rw [HV1.out.1, HV1.out.2] at hq
  obtain ⟨A3, n3, c3, B3, m3, d3, rfl, t1, t2, t3, t4, hb3⟩ := hq.1 rfl
  have hal := (Below.refl w3.heap.size w3).alloc (Nat.le_refl _) (.cells #[.bool (ineg q1.num), .slice A3 n3 c3, .slice B3 m3 d3] 36)
  have hbb := hb3.trans (hal.mono hb3.size)
  have HB3 := Lib.hid (HB2.out.trans (hbb.mono HB2.out.size))
  have HA3 := Lib.hid (HA2.out.on hbb)
  have X3 := HX2.out.below hbb
  have HX3 := Lib.hid X3
  obtain ⟨p0, p1, p2⟩ := three X3
  clear HB2 HA2 HX2 X3 
  have HY3 := Lib.hid (Blk.new w3 36 #[.bool (ineg q1.num), .slice A3 n3 c3, .slice B3 m3 d3])
  have HQ3 : Hid (QH.Ok ⟨q1, A3, n3, c3, B3, m3, d3⟩ _) := (show QH.Ok ⟨q1, A3, n3, c3, B3, m3, d3⟩ w3 from ⟨t1, t2, t3, t4⟩).on hal
  clear hz hq t1 t3 hb3 hal hbb HVa HV1
  have HVa := Lib.hid (Change_any S n c R m d 1 exCh 2 0 exChest _ HA3.out (by omega))
  go_wp2_with fail
  go_fit HVa.out
  rintro e w4 ⟨z, hz, hq⟩
  obtain rfl : z = 0 := hz.uniq ex_found
  rw [HC1.out.1, HC1.out.2] at hq
  obtain ⟨A4, n4, c4, B4, m4, d4, rfl, t1, t2, t3, t4, hb4⟩ := hq.1 rfl
  have hal := (Below.refl w4.heap.size w4).alloc (Nat.le_refl _) (.cells #[.bool (ineg q2.num), .slice A4 n4 c4, .slice B4 m4 d4] 36)
  have hbb := hb4.trans (hal.mono hb4.size)
  have HB4 := Lib.hid (HB3.out.trans (hbb.mono HB3.out.size))
  have HA4 := Lib.hid (HA3.out.on hbb)
  have X4 := HX3.out.below hbb
  have HX4 := Lib.hid X4
  obtain ⟨p0, p1, p2⟩ := three X4
  have HY4 := Lib.hid (HY3.out.below hbb)
  have HQ4 := Lib.hid (HQ3.out.on hbb)
  clear HB3 HA3 HX3 X4 HY3 HQ3
  have HZ4 := Lib.hid (Blk.new w4 36 #[.bool (ineg q2.num), .slice A4 n4 c4, .slice B4 m4 d4])
  have HP4 : Hid (QH.Ok ⟨q2, A4, n4, c4, B4, m4, d4⟩ _) := (show QH.Ok ⟨q2, A4, n4, c4, B4, m4, d4⟩ w4 from ⟨t1, t2, t3, t4⟩).on hal
  clear hz hq t1 t3 hb4 hal hbb HVa HC1
  have HVa := Column_any S n c R m d 1 exCh 2 _ HA4.out (by omega)
  unfold RetCol at HVa
  rw [HL1.out.1, HL1.out.2] at HVa
  simp only [if_true] at HVa
  have HVa := Lib.hid HVa
  go_wp2_with fail
  go_fit HVa.out
  rintro e w5 ⟨A5, n5, c5, rfl, l5, hm5, hb5⟩
  have HB5 := Lib.hid (HB4.out.trans (hb5.mono HB4.out.size))
  have HA5 := Lib.hid (HA4.out.on hb5)
  have X5 := HX4.out.below hb5
  have HX5 := Lib.hid X5
  obtain ⟨p0, p1, p2⟩ := three X5
  have HY5 := Lib.hid (HY4.out.below hb5)
  have HQ5 := Lib.hid (HQ4.out.on hb5)
  have HZ5 := Lib.hid (HZ4.out.below hb5)
  have HP5 := Lib.hid (HP4.out.on hb5)
  clear HB4 HA4 HX4 X5 HY4 HQ4 HZ4 HP4
  have HM5 := Lib.hid hm5
  clear hb5 hm5 HVa HL1
  have HVa := Lib.hid (Parse_any ⟨#[115, 105, 122, 101, 115, 32, 83, 32, 98, 97, 115, 101, 32, 77, 10]⟩ w5 (HWW.out.below HB5.out) (by decide))
  go_wp2_with fail
  go_fit HVa.out
  rintro e w6 hret
  obtain ⟨rfl, hb6⟩ := hret.2 6 ex_bad
  have hal := (Below.refl w6.heap.size w6).alloc (Nat.le_refl _) (.cells #[.slice none 0 0, .int .i64 0, .slice none 0 0] 25)
  have hbb := hb6.trans (hal.mono hb6.size)
  have HB6 := Lib.hid (HB5.out.trans (hbb.mono HB5.out.size))
  have HA6 := Lib.hid (HA5.out.on hbb)
  have X6 := HX5.out.below hbb
  have HX6 := Lib.hid X6
  obtain ⟨p0, p1, p2⟩ := three X6
  have HY6 := Lib.hid (HY5.out.below hbb)
  have HQ6 := Lib.hid (HQ5.out.on hbb)
  have HZ6 := Lib.hid (HZ5.out.below hbb)
  have HP6 := Lib.hid (HP5.out.on hbb)
  have HM6 := Lib.hid (HM5.out.on hbb)
  clear HB5 HA5 HX5 X6 HY5 HQ5 HZ5 HP5 HM5
  clear hret hb6 hal hbb HVa
  have HVa := Lib.hid (Value_any S n c R m d 1 exCh 3 exChest _ HA6.out (by omega))
  go_wp2_with fail
  go_fit HVa.out
  rintro e w7 ⟨z, hz, hq⟩
  obtain rfl : z = 0 := hz.uniq ex_found
  rw [ex_v2] at hq
  obtain ⟨rfl, hb7⟩ := hq.2 (by omega)
  have hal := (Below.refl w7.heap.size w7).alloc (Nat.le_refl _) (.cells #[.bool false, .slice none 0 0, .slice none 0 0] 36)
  have hbb := hb7.trans (hal.mono hb7.size)
  have HB7 := Lib.hid (HB6.out.trans (hbb.mono HB6.out.size))
  have HA7 := Lib.hid (HA6.out.on hbb)
  have X7 := HX6.out.below hbb
  have HX7 := Lib.hid X7
  obtain ⟨p0, p1, p2⟩ := three X7
  have HY7 := Lib.hid (HY6.out.below hbb)
  have HQ7 := Lib.hid (HQ6.out.on hbb)
  have HZ7 := Lib.hid (HZ6.out.below hbb)
  have HP7 := Lib.hid (HP6.out.on hbb)
  have HM7 := Lib.hid (HM6.out.on hbb)
  clear HB6 HA6 HX6 X7 HY6 HQ6 HZ6 HP6 HM6
  clear hz hq hb7 hal hbb HVa
  have HVa := Lib.hid (Value_any S n c R m d 1 exCh 0 exWaist _ HA7.out (by omega))
  go_wp2_with fail
  go_fit HVa.out
  rintro e w8 ⟨z, hz, hq⟩
  obtain rfl : z = -1 := hz.uniq ex_lost
  rw [ex_v3] at hq
  obtain ⟨rfl, hb8⟩ := hq.2 (by omega)
  have hal := (Below.refl w8.heap.size w8).alloc (Nat.le_refl _) (.cells #[.bool false, .slice none 0 0, .slice none 0 0] 36)
  have hbb := hb8.trans (hal.mono hb8.size)
  have HB8 := Lib.hid (HB7.out.trans (hbb.mono HB7.out.size))
  have HA8 := Lib.hid (HA7.out.on hbb)
  have X8 := HX7.out.below hbb
  have HX8 := Lib.hid X8
  obtain ⟨p0, p1, p2⟩ := three X8
  have HY8 := Lib.hid (HY7.out.below hbb)
  have HQ8 := Lib.hid (HQ7.out.on hbb)
  have HZ8 := Lib.hid (HZ7.out.below hbb)
  have HP8 := Lib.hid (HP7.out.on hbb)
  have HM8 := Lib.hid (HM7.out.on hbb)
  clear HB7 HA7 HX7 X8 HY7 HQ7 HZ7 HP7 HM7
  clear hz hq hb8 hal hbb HVa
  have hm5l : n5 = 1 := HM8.out.len.symm
  subst hm5l
  have y0 := HY8.out.c (i := 0) rfl
  have y1 := HY8.out.c (i := 1) rfl
  have y2 := HY8.out.c (i := 2) rfl
  have v0 := HZ8.out.c (i := 0) rfl
  have v1 := HZ8.out.c (i := 1) rfl
  have v2 := HZ8.out.c (i := 2) rfl
  go_wp2_with fail
  generalize hW8 : w8.alloc (.cells #[.bool false, .slice none 0 0, .slice none 0 0] 36) = W8 at *
  clear hW8
  have hst : ((bytes exText).toList == [115, 105, 122, 101, 115, 32, 83, 32, 77, 32, 76, 32, 98, 97, 115, 101, 32, 77, 10, 99, 104, 101, 115, 116, 32, 57, 50, 32, 52, 32, 53, 10]) = true := by rw [bytes_eq]; decide
  have HCk := fun W (hb : Below W8.heap.size W8 W) => check_any S n c R m d 1 exCh W (HA8.out.on hb)
  simp only [ex_chk] at HCk
  have HCk := Lib.hid HCk
  have HCn := fun W => check_any none 0 0 none 0 0 1 ⟨[], 0, []⟩ W (nil_chk W)
  simp only [ex_nil] at HCn
  have HCn := Lib.hid HCn
  clear p0 p1 p2 y0 y1 y2 v0 v1 v2
  go_region_held3 (fun w' => w'.cell? ⟨w1.heap.size, 0, none⟩ = some (.slice S n c) ∧ w'.cell? ⟨w1.heap.size, 1, none⟩ = some (.int .i64 exCh.base) ∧ w'.cell? ⟨w1.heap.size, 2, none⟩ = some (.slice R m d) ∧ w'.cell? ⟨w3.heap.size, 0, none⟩ = some (.bool (ineg q1.num)) ∧ w'.cell? ⟨w3.heap.size, 1, none⟩ = some (.slice A3 n3 c3) ∧ w'.cell? ⟨w3.heap.size, 2, none⟩ = some (.slice B3 m3 d3) ∧ w'.cell? ⟨w4.heap.size, 0, none⟩ = some (.bool (ineg q2.num)) ∧ w'.cell? ⟨w4.heap.size, 1, none⟩ = some (.slice A4 n4 c4) ∧ w'.cell? ⟨w4.heap.size, 2, none⟩ = some (.slice B4 m4 d4))
    ((refine nine_keep HX8.out HY8.out HZ8.out ?_; repeat (first | (with_reducible exact Below.refl _ _) | (with_reducible exact hu8) | (with_reducible exact hu7) | (with_reducible exact hu6) | (with_reducible exact hu5) | (with_reducible exact hu4) | (with_reducible exact hu3) | (with_reducible exact hu2) | (with_reducible exact hu1) | (with_reducible refine Below.drew ?_) | (with_reducible refine Below.alo ?_ _))))
    (first
     | (go_at_call_of 44 (Value.int IntKind.i64 (88)); go_must ((refine (HW1.out _).mono ?_); rintro e u1 ⟨E1, i1, j1, F1, x1, y1, rfl, a1, a2, a3, a4, hv⟩; have hu1 : Below W8.heap.size W8 u1 := ⟨hv.os, hv.tape, hv.output, hv.size, hv.block⟩; have HU1 : Hid (QH.Ok ⟨q1, E1, i1, j1, F1, x1, y1⟩ u1) := ⟨a1, a2, a3, a4⟩; clear a1 a2 a3 a4 hv))
     | (go_at_call_of 21 (Value.agg #[.bool (ineg q1.num), .slice A3 n3 c3, .slice B3 m3 d3]); go_must ((refine (same_true _ _ _ _ _ _ (LiesA.of (HQ8.out.on hu1).1 (HQ8.out.on hu1).2.2.1 HQ.out.1 (by omega)) (LiesA.of HU1.out.1 HU1.out.2.2.1 HQ.out.1 (by omega))).mono ?_); rintro e u2 ⟨rfl, hv⟩; have hu2 := hu1.trans (hv.mono hu1.size); clear hv))
     | (go_at_call 21; go_must ((refine (same_true _ _ _ _ _ _ (LiesA.of (HP8.out.on hu3).1 (HP8.out.on hu3).2.2.1 HQ.out.2.1 (by omega)) (LiesA.of HU3.out.1 HU3.out.2.2.1 HQ.out.2.1 (by omega))).mono ?_); rintro e u4 ⟨rfl, hv⟩; have hu4 := hu3.trans (hv.mono hu3.size); clear hv))
     | (go_at_call_of 44 (Value.int IntKind.i64 (97)); go_must ((refine (HW3.out _).mono ?_); rintro e u5 ⟨E5, i5, j5, F5, x5, y5, rfl, a1, a2, a3, a4, hv⟩; have hu5 : Below W8.heap.size W8 u5 := hu4.trans (hv.mono hu4.size); have HU5 : Hid (QH.Ok ⟨q3, E5, i5, j5, F5, x5, y5⟩ u5) := ⟨a1, a2, a3, a4⟩; clear a1 a2 a3 a4 hv))
     | (go_at_call 44; go_must ((refine (HW2.out _).mono ?_); rintro e u3 ⟨E3, i3, j3, F3, x3, y3, rfl, a1, a2, a3, a4, hv⟩; have hu3 : Below W8.heap.size W8 u3 := hu2.trans (hv.mono hu2.size); have HU3 : Hid (QH.Ok ⟨q2, E3, i3, j3, F3, x3, y3⟩ u3) := ⟨a1, a2, a3, a4⟩; clear a1 a2 a3 a4 hv))
     | (go_at_call 22; go_must ((refine (samem_true A5 1 c5 (some ⟨u5.heap.size, 0, none⟩) 1 [(exChest, q3)] _ (HM8.out.on (Below.alo hu5 _)) (meas_one exChest ⟨q3, E5, i5, j5, F5, x5, y5⟩ (by exact Blk.new u5 _ _) (HU5.out.on ((Below.refl _ _).alloc (Nat.le_refl _) _))) ?_ (by omega)).mono ?_); (intro j p hp; have hp2 : p = (exChest, q3) := (by have := List.mem_of_getElem? hp; simpa using this); subst hp2; exact HQ.out.2.2.mono (by omega)); rintro e u6 ⟨rfl, hv⟩; have hu6 := (Below.alo hu5 _).trans (hv.mono (Below.alo hu5 _).size); clear hv))
     | (go_at_call_of 14 (Value.agg #[.slice S n c, .int .i64 exCh.base, .slice R m d]); go_must ((refine (HCk.out _ hu6).mono ?_); rintro e u7 ⟨rfl, hv⟩; have hu7 := hu6.trans (hv.mono hu6.size); clear hv))
     | (go_at_call 14; go_must ((refine (HCn.out _).mono ?_); rintro e u8 ⟨rfl, hv⟩; have hu8 := hu7.trans (hv.mono hu7.size); clear hv)))
  go_wp2_with fail
  go_ret
  exact ⟨rfl, HB8.out.trans (hu8.mono HB8.out.size)⟩
end Go.Proofs.YtjiccijfbpkliaaGreatDoor

/- The law ChartChecks returns true. Conditions: Std; the chart's data lie in memory. -/
namespace Go.Proofs.YtjiccijfbpkliaaGreatDoor
open Go.RowKit
open Go.Lib hiding intOf

/-- True comes back. -/
def RetLaw (w : World) (e : Ending) (w' : World) : Prop := e = .returned (.bool true) ∧ Below w.heap.size w w'
theorem LgtA.on {w w' : World} {S R : Option Addr} {n c m d k : Nat} {ch : PChart} (h : LgtA w S n c R m d k ch) (hb : Below w.heap.size w w') : LgtA w' S n c R m d k ch := ⟨h.lies.on hb, h.cap, h.capr⟩
theorem three_keep {w w' : World} {g : Nat} {t : TypeId} {a0 a1 a2 : Value} (h : Blk w g t #[a0, a1, a2]) (hb : Below w.heap.size w w') : w'.cell? ⟨g, 0, none⟩ = some a0 ∧ w'.cell? ⟨g, 1, none⟩ = some a1 ∧ w'.cell? ⟨g, 2, none⟩ = some a2 := three (h.below hb)

set_option maxRecDepth 100000 in
set_option maxHeartbeats 6400000 in
theorem chartChecks_walk (S : Option Addr) (n c : Nat) (R : Option Addr) (m d k : Nat) (ch : PChart) (w : World) (hw : Std w) (h : LgtA w S n c R m d k ch) :
    Calls Tryz.prog 3 #[.agg #[.slice S n c, .int .i64 ch.base, .slice R m d]] w (RetLaw w) := by
  have hB : Below w.heap.size w (w.alloc (.cells #[.slice S n c, .int .i64 ch.base, .slice R m d] 25)) := (Below.refl _ _).alloc (Nat.le_refl _) _
  have HX := Lib.hid (Blk.new w 25 #[.slice S n c, .int .i64 ch.base, .slice R m d])
  obtain ⟨b, hb⟩ : ∃ b : Bool, b = true ↔ lgtP R n m 4 ch (w.alloc (.cells #[.slice S n c, .int .i64 ch.base, .slice R m d] 25)).drew := by
    rcases Classical.em (lgtP R n m 4 ch (w.alloc (.cells #[.slice S n c, .int .i64 ch.base, .slice R m d] 25)).drew) with e | e
    · exact ⟨true, fun _ => e, fun _ => rfl⟩
    · exact ⟨false, (fun h => by cases h), fun h => absurd h e⟩
  have HL := light_det S n c R m d k 4 ch (w.alloc (.cells #[.slice S n c, .int .i64 ch.base, .slice R m d] 25)).drew (h.on hB.drew) (by omega) (by omega) b hb
  have HL := Lib.hid HL
  have HB := Lib.hid hB
  have HW := Lib.hid hw
  obtain ⟨E, hE⟩ : ∃ E, chkP ch = E := ⟨_, rfl⟩
  have HC := Lib.hid (fun W (hA : ChkA W S n c R m d 4 ch) => check_any S n c R m d 4 ch W hA)
  have HD := Lib.hid (fun W (hA : ChkA W S n c R m d 4 ch) => hcheck_any S n c R m d 4 ch W hA)
  rw [hE] at HC HD
  clear hB hb h hw hE
  cases b
  · go_enter Tryz.func3, Tryz.ntmps3
    go_wp2_with fail
    obtain ⟨x0, x1, x2⟩ := three HX.out
    go_region_with (first
       | (go_at_call 13; go_must ((refine HL.out.mono ?_); rintro e u1 ⟨rfl, hA1, hv⟩; have hu1 : Below (w.alloc (.cells #[.slice S n c, .int .i64 ch.base, .slice R m d] 25)).heap.size (w.alloc (.cells #[.slice S n c, .int .i64 ch.base, .slice R m d] 25)) u1 := ⟨hv.os, hv.tape, hv.output, hv.size, hv.block⟩; clear hA1 hv))
       | (go_at_call 16; go_must ((refine (example_any _ ((HW.out.below HB.out).below hu1)).mono ?_); rintro e u4 ⟨rfl, hv⟩; have hu4 := hu1.trans (hv.mono hu1.size); clear hv)))
    all_goals
      go_wp2_with fail
      go_ret
      exact ⟨rfl, HB.out.trans (hu4.mono HB.out.size)⟩
  · go_enter Tryz.func3, Tryz.ntmps3
    go_wp2_with fail
    go_region_held3 (fun w' => w'.cell? ⟨w.heap.size, 0, none⟩ = some (.slice S n c) ∧ w'.cell? ⟨w.heap.size, 1, none⟩ = some (.int .i64 ch.base) ∧ w'.cell? ⟨w.heap.size, 2, none⟩ = some (.slice R m d))
      ((refine three_keep HX.out ?_; repeat (first | (with_reducible exact Below.refl _ _) | (with_reducible exact hu4) | (with_reducible exact hu3) | (with_reducible exact hu2) | (with_reducible exact hu1) | (with_reducible refine Below.drew ?_))))
      (first
       | (go_at_call 13; go_must ((refine HL.out.mono ?_); rintro e u1 ⟨rfl, hA1, hv⟩; have hu1 : Below (w.alloc (.cells #[.slice S n c, .int .i64 ch.base, .slice R m d] 25)).heap.size (w.alloc (.cells #[.slice S n c, .int .i64 ch.base, .slice R m d] 25)) u1 := ⟨hv.os, hv.tape, hv.output, hv.size, hv.block⟩; have HA1 := Lib.hid ((hA1 (by trivial)).1.on hv); clear hA1 hv))
       | (go_at_call 14; go_must ((refine (HC.out _ HA1.out).mono ?_); rintro e u2 ⟨rfl, hv⟩; have hu2 := hu1.trans (hv.mono hu1.size); have HA2 := Lib.hid (HA1.out.on hv); clear hv))
       | (go_at_call 15; go_must ((refine (HD.out _ HA2.out).mono ?_); rintro e u3 ⟨rfl, hv⟩; have hu3 := hu2.trans (hv.mono hu2.size); clear hv))
       | (go_at_call 16; go_must ((refine (example_any _ ((HW.out.below HB.out).below hu3)).mono ?_); rintro e u4 ⟨rfl, hv⟩; have hu4 := hu3.trans (hv.mono hu3.size); clear hv)))
    go_wp2_with fail
    go_ret
    exact ⟨rfl, HB.out.trans (hu4.mono HB.out.size)⟩
end Go.Proofs.YtjiccijfbpkliaaGreatDoor
