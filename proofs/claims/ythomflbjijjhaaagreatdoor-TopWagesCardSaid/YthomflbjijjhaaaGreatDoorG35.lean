/-
  Several texts in one: From the walk of a law to its row and card: how arguments are opened to what the walks ask, and the last step. Nothing here is about a single law.
-/
import Derived.ChangeSame
import Derived.Deep.DeepHandedRow
import Derived.Lay
import Derived.Lib.LaidTab
import Derived.OpenShut
import Derived.ProofKit
import Derived.SliceStrings
import Derived.Stop.LaidErr
import Derived.Test.YthomflbjijjhaaaGreatDoorCards
import Derived.Test.YthomflbjijjhaaaGreatDoorTie
import Derived.WalkKit
import Derived.Test.YthomflbjijjhaaaGreatDoorG29
import Derived.Test.YthomflbjijjhaaaGreatDoorG32

/- From the walk of a law to its row and card: how arguments are opened to what the walks ask, and the last step. Nothing here is about a single law. -/
namespace Go.Proofs.YthomflbjijjhaaaGreatDoor
open Go.ChangeShapes Go.WideShapes Go.ChangeAt Go.RowKit

theorem own : ownKnob Tryz.prog.godebug = none := by kernel_rfl
theorem laidOut : laidOutB Tryz.prog = true := by kernel_rfl
theorem gPow : Tryz.prog.globalNamed "internal/strconv.uint64pow10" = some 3 := by kernel_rfl
theorem gMax : Tryz.prog.globalNamed "internal/bytealg.MaxLen" = some 4 := by kernel_rfl
theorem tPow : (Tryz.prog.globals[3]?).map (·.type) = some 196 := by kernel_rfl
theorem cellsPow : Tryz.prog.cellsOf 196 = 20 := by kernel_rfl
theorem cellsU64 : Tryz.prog.cellsOf 100 = 1 := by kernel_rfl

/-! ### what the list gives -/
theorem vars_tail {P : Program} {W : World} {x : String × DataW Unit} {r : List (String × DataW Unit)} {ps : List MemPlace} (h : DataW.LaidVars P W (x :: r) ps) : ∃ q, DataW.LaidVars P W r q := by
  obtain ⟨g, t, cs, fuel, p, q, _, _, _, _, h, _⟩ := h
  exact ⟨q, h⟩
theorem vars_tab {P : Program} {W : World} {name : String} {k : IntKind} {zs : List Int} {rest : List (String × DataW Unit)} {g : Nat} {t e : TypeId} {n : Nat} {ps : List MemPlace}
    (hg : P.globalNamed name = some g) (hty : (P.globals[g]?).map (·.type) = some t) (ht : P.underlying t = some (.array n e)) (he : P.underlying e = some (.int k)) (hce : P.cellsOf e = 1) (hct : P.cellsOf t = n)
    (h : DataW.LaidVars P W ((name, Lib.tabData k zs) :: rest) ps) : Lib.TabIs P W name k zs := by
  obtain ⟨g', t', cs, fuel, p, q, hg', ht', hvar, hd, _, _⟩ := h
  obtain rfl := Option.some.inj (hg.symm.trans hg')
  obtain rfl := Option.some.inj (hty.symm.trans ht')
  unfold Lib.TabIs
  rw [hvar, ← Lib.cells_of_tab ht he hce hct hd]
def laidL : List (String × DataW Unit) := [("math/bits.deBruijn32tab", Rows.laid_math_bits_deBruijn32tab), ("math/bits.deBruijn64tab", Rows.laid_math_bits_deBruijn64tab), ("internal/strconv.uint64pow10", Rows.laid_internal_strconv_uint64pow10), ("unicode/utf8.acceptRanges", Rows.laid_unicode_utf8_acceptRanges), ("strconv.ErrRange", Rows.laid_strconv_ErrRange), ("strconv.ErrSyntax", Rows.laid_strconv_ErrSyntax), ("garment/wage.bounds", Rows.laid_garment_wage_bounds), ("unicode/utf8.first", Rows.laid_unicode_utf8_first)]
theorem pow_datum : (Rows.laid_internal_strconv_uint64pow10 : DataW Unit) = Lib.tabData .u64 Lib.pow10Tab := by kernel_rfl
theorem gErr : Tryz.prog.globalNamed "strconv.ErrRange" = some 2 := by kernel_rfl
theorem tErr : (Tryz.prog.globals[2]?).map (·.type) = some 106 := by kernel_rfl
theorem star_err : "*" ++ "errors.errorString" = "*errors.errorString" := by decide
theorem row_err (u : TypeId) (h : Tryz.prog.typeName? 3 u = some "*errors.errorString") : u = 205 :=
  typeName_ptr_named (nm := "errors.errorString") (by rw [star_err]; kernel_rfl) (by kernel_rfl) (by decide) u (by rw [star_err]; exact h)
theorem err_range {W : World} (h : laidMet Tryz.prog laidL W) : ∃ (a : Addr) (s : ByteArray), W.var? Tryz.prog "strconv.ErrRange" = some #[.iface 205 (.pointer (some a))] ∧ W.cell? a = some (.string s) ∧ s.data.toList = [118, 97, 108, 117, 101, 32, 111, 117, 116, 32, 111, 102, 32, 114, 97, 110, 103, 101] ∧ s.size ≤ maxLen :=
  laid_sentinel (te := 207) (ts := 9) h.tail.tail.tail.tail gErr tErr Tryz.underlying106 row_err Tryz.underlying205 Tryz.underlying207 rfl rfl Tryz.underlying9 (by kernel_rfl) (by kernel_rfl)
theorem gTz : Tryz.prog.globalNamed "math/bits.deBruijn64tab" = some 8 := by kernel_rfl
theorem tTz : (Tryz.prog.globals[8]?).map (·.type) = some 242 := by kernel_rfl
theorem cellsTz : Tryz.prog.cellsOf 242 = 64 := by kernel_rfl
theorem cellsU8 : Tryz.prog.cellsOf 5 = 1 := by kernel_rfl
theorem gBd : Tryz.prog.globalNamed "garment/wage.bounds" = some 0 := by kernel_rfl
theorem tBd : (Tryz.prog.globals[0]?).map (·.type) = some 91 := by kernel_rfl
theorem cellsBd : Tryz.prog.cellsOf 91 = 2 := by kernel_rfl
theorem cellsI : Tryz.prog.cellsOf 3 = 1 := by kernel_rfl
def tzTab : List Int := [0, 1, 56, 2, 57, 49, 28, 3, 61, 58, 42, 50, 38, 29, 17, 4, 62, 47, 59, 36, 45, 43, 51, 22, 53, 39, 33, 30, 24, 18, 12, 5, 63, 55, 48, 27, 60, 41, 37, 16, 46, 35, 44, 21, 52, 32, 23, 11, 54, 26, 40, 15, 34, 20, 31, 10, 25, 14, 19, 9, 13, 8, 7, 6]
theorem tz_datum : (Rows.laid_math_bits_deBruijn64tab : DataW Unit) = Lib.tabData .u8 tzTab := by kernel_rfl
theorem bd_datum : (Rows.laid_garment_wage_bounds : DataW Unit) = Lib.tabData .i64 [100000, 1073741824] := by kernel_rfl
theorem std_of {W : World} (h : laidMetH Tryz.prog laidL W) (hsh : W.ShapedOpen Tryz.prog) : StdT W := by
  have hm := Tryz.laysM146.s1_3 W hsh
  have h' : laidMet Tryz.prog laidL W := h
  obtain ⟨ea, es, he, _⟩ := err_range h'
  obtain ⟨ps, hv, _⟩ := h'
  unfold laidL at hv
  obtain ⟨q1, h1⟩ := vars_tail hv
  obtain ⟨q2, h2⟩ := vars_tail h1
  rw [pow_datum] at h2
  have ht := vars_tab gPow tPow Tryz.underlying196 Tryz.underlying100 cellsU64 cellsPow h2
  obtain ⟨m, hm⟩ := hm
  have hlt0 := World.block_lt_of_cell? W _ hm
  have hlt1 := World.block_lt_of_cell? W _ (ht.cell gPow 0 (by decide))
  have hec := World.var?_cell gErr he 0
  have hec : W.cell? ⟨2, 0, none⟩ = some (.iface 205 (.pointer (some ea))) := hec
  have hz := h1
  rw [tz_datum] at hz
  have htz := vars_tab gTz tTz Tryz.underlying242 Tryz.underlying5 cellsU8 cellsTz hz
  obtain ⟨q3, h3⟩ := vars_tail h2
  obtain ⟨q4, h4⟩ := vars_tail h3
  obtain ⟨q5, h5⟩ := vars_tail h4
  obtain ⟨q6, h6⟩ := vars_tail h5
  rw [bd_datum] at h6
  have hbd := vars_tab gBd tBd Tryz.underlying91 Tryz.underlying3 cellsI cellsBd h6
  have hz1 := htz.cell gTz 15 (by decide)
  have hb0 := hbd.cell gBd 0 (by decide)
  have hb1 := hbd.cell gBd 1 (by decide)
  exact ⟨⟨⟨m, hm⟩, hlt0, hlt1, ht, ⟨_, _, hec⟩, World.block_lt_of_cell? W _ hec⟩, hz1, World.block_lt_of_cell? W _ hz1, hb0, hb1, World.block_lt_of_cell? W _ hb0⟩

section
variable {H : Type} {enc : TypeId × Value → H} {W : World} {base : Nat} {r : Reach}
/-! ### the last step -/
theorem all_stays {ts : List TypeId} (hr : ts.all (fun t => Tryz.prog.readableRec t && decide (t < Tryz.prog.types.size)) = true) {W' : World} {sp : Nat → Bool} :
    ∀ {vs : List Value} {ds : List (DataW H)} {ps : List MemPlace}, DataW.TrodAll enc Tryz.prog W 0 (fun _ => true) true ts vs ds ps → (∀ p ∈ ps, W.sameAt W' p) → (∀ p ∈ ps, sp p.block = true) →
      DataW.TrodAll enc Tryz.prog W' 0 sp true ts vs ds ps := by
  induction ts with
  | nil =>
    intro vs ds ps h _ _
    obtain ⟨rfl, rfl, rfl⟩ := trodAll_nil h
    exact trodAll_mk0
  | cons t ts ih =>
    intro vs ds ps h hs hsp
    obtain ⟨v, vs', d, ds', p, q, rfl, rfl, rfl, hd, hrest⟩ := trodAll_cons h
    simp only [List.all_cons, Bool.and_eq_true, decide_eq_true_eq] at hr
    refine trodAll_cons_mk (WideElems.Trod_stays laidOut hr.1.1 hr.1.2 hd (fun x hx => hs x (by simp [hx])) (fun x hx => hsp x (by simp [hx]))) ?_
    exact ih (by simpa using hr.2) hrest (fun x hx => hs x (by simp [hx])) (fun x hx => hsp x (by simp [hx]))

/-- A law that has returned true and has left alone all that there was: the row's post. -/
theorem law_post {f : Func} {s : ChangeSpec} {W' : World} {args : Array Value} {ds gs : List (DataW H)} {before : List MemPlace}
    (hr : f.params.toList.all (fun t => Tryz.prog.readableRec t && decide (t < Tryz.prog.types.size)) = true) (hres : f.resultTypes = #[4]) (hvars : s.vars = [])
    (hW : DataW.Whole enc Tryz.prog f.params.toList s.vars false W args.toList ds gs before)
    (hs : s.fn H ds = { results := [.lit (.bool true)], args := ds }) (hb : Below W.heap.size W W') :
    s.post enc Tryz.prog f false true false false W args (.bool true) W' := by
  have hlt : ∀ p ∈ before, p.block < W.heap.size := fun p hp => hW.lt p hp
  have hold : ∀ p ∈ before, (fun b => decide (b < W.heap.size)) p.block = true := fun p hp => by simpa using hlt p hp
  have hW0 := hW
  obtain ⟨p, q, hA, hV, rfl, hfz, hnd⟩ := hW
  rw [hvars] at hV
  obtain ⟨rfl, rfl⟩ := trodVars_none hV
  have e : s.fn H (ds ++ []) = { results := [.lit (.bool true)], args := ds } := by rw [List.append_nil]; exact hs
  have hsame : ∀ x ∈ p, W.sameAt W' x := fun x hx => hb.same (hlt x (by simp [hx]))
  refine ⟨ds, [], _, [], p, [], hW0, ?_, ?_, ?_, ?_, fun h => by cases h⟩
  · rw [e, hres]
    exact trodAll_cons_mk (shut_bool Tryz.underlying4 _) trodAll_mk0
  · rw [e]
    exact all_stays hr hA hsame (fun x hx => hold x (by simp [hx]))
  · rw [e, hvars]
    exact rfl
  · exact World.keptBut_mono (fun x hx => ⟨hx, by simpa using hx⟩) (hb.frame _)
end
end Go.Proofs.YthomflbjijjhaaaGreatDoor
