/-
  The law ScanOpens: its card holds: for every input it returns true, and each argument reads afterwards as it read before. Conditions: the card's own.
-/
import Derived.Test.YtiibocdmlfedkaaGreatDoorH46
import Derived.Test.YtiibocdmlfedkaaGreatDoorH57
namespace Go.Proofs.YtiibocdmlfedkaaGreatDoor
section
open Go.RowKit
open Go.Lib hiding intOf
section
variable {s : PStyle} {bs : List PBundle} {ws : List PWorker} {xs : List PScan} {t : Int} {w w' : World} {e : Ending}
theorem RetJu.bad (h : RetJu s bs ws xs w e w') (h0 : judgeErr s bs ws xs.length ≠ 0) : e = .returned (.tuple #[.slice none 0 0, .int .i64 (judgeErr s bs ws xs.length)]) ∧ Below w.heap.size w w' := by
 rcases h with ⟨hb, ⟨_, he⟩ | ⟨hz, _⟩⟩
 ·exact ⟨he, hb⟩
 ·exact absurd hz h0
theorem RetRJ.bad (h : RetRJ s bs ws xs w e w') (h0 : judgeErr s bs ws xs.length ≠ 0) : e = .returned (.tuple #[.slice none 0 0, .int .i64 (judgeErr s bs ws xs.length)]) ∧ Below w.heap.size w w' := by
 rcases h with ⟨hb, ⟨_, he⟩ | ⟨hz, _⟩⟩
 ·exact ⟨he, hb⟩
 ·exact absurd hz h0
theorem RetPa.bad (h : RetPa s bs ws xs w e w') (h0 : judgeErr s bs ws xs.length ≠ 0) : e = .returned (.tuple #[.slice none 0 0, .int .i64 (judgeErr s bs ws xs.length)]) ∧ Below w.heap.size w w' := by
 rcases h with ⟨hb, ⟨_, he⟩ | ⟨hz, _⟩⟩
 ·exact ⟨he, hb⟩
 ·exact absurd hz h0
theorem RetOp.refuse (h : RetOp s bs ws xs t w e w') (h0 : openErr s bs ws xs.length t ≠ 0) : e = .returned (.tuple #[.slice none 0 0, .int .i64 (openErr s bs ws xs.length t)]) ∧ Below w.heap.size w w' := by
 rcases h with ⟨hb, ⟨_, he⟩ | ⟨hz, _⟩⟩
 ·exact ⟨he, hb⟩
 ·exact absurd hz h0
theorem RetRJ.ok (h : RetRJ s bs ws xs w e w') (h0 : judgeErr s bs ws xs.length = 0) :
  ∃ A c, e = .returned (.tuple #[.slice A xs.length c, .int .i64 0]) ∧ Sl w' w'.heap.size A xs.length (ints (judgeP s bs ws xs)) ∧ Below w.heap.size w w' := by
 rcases h with ⟨hb, ⟨hn, _⟩ | ⟨_, A, c, he, hsl⟩⟩
 ·exact absurd h0 hn
 ·exact ⟨A, c, he, hsl, hb⟩
end
theorem no_ints (w : World) : Sl w w.heap.size none 0 (ints []) := ⟨rfl, fun h => absurd h (by omega)⟩
set_option maxRecDepth 100000 in
set_option maxHeartbeats 12800000 in
theorem scanOpens_walk (F : FH) (s : PStyle) (bs : List PBundle) (ws : List PWorker) (X : Option Addr) (n xc : Nat) (xs : List PScan) (t : Int) (w : World) (hw : Std w) (h : FloorA w s bs ws F) (hx : Recs 4 scanG w X n xs) (_hc : n ≤ xc) :
  Calls Tryz.prog 4 #[.agg #[.string s.name, .slice F.Z F.z F.zc, .slice F.M F.m F.mc, .slice F.P F.p F.pc, .slice F.U F.u F.uc, .slice F.E F.e F.ec, .slice F.O F.o F.oc, .slice F.L F.n F.c, .slice F.V F.k F.kc], .slice X n xc, .int .i64 t] w (RetLaw w) := by
 have HB : Hid (Below w.heap.size w (w.alloc (.cells #[.string s.name, .slice F.Z F.z F.zc, .slice F.M F.m F.mc, .slice F.P F.p F.pc, .slice F.U F.u F.uc, .slice F.E F.e F.ec, .slice F.O F.o F.oc, .slice F.L F.n F.c, .slice F.V F.k F.kc] 33))) := (Below.refl _ _).alloc (Nat.le_refl _) _
 have HX := Lib.hid (Blk.new w 33 #[.string s.name, .slice F.Z F.z F.zc, .slice F.M F.m F.mc, .slice F.P F.p F.pc, .slice F.U F.u F.uc, .slice F.E F.e F.ec, .slice F.O F.o F.oc, .slice F.L F.n F.c, .slice F.V F.k F.kc])
 have hF := few_any F s bs ws X n xc _ (h.on HB.out)
 have HA := Lib.hid h
 have HXS := Lib.hid hx
 have HW := Lib.hid hw
 have HLN := Lib.hid hx.len
 have HFB := fun hf : fewB s bs ws n = true => few_all hf
 obtain ⟨R, hR⟩ : ∃ R, fewB s bs ws n = R := ⟨_, rfl⟩
 rw [hR] at hF HFB
 have HF := Lib.hid hF
 clear h hx hw hF hR
 cases R
 ·clear HFB
  go_enter Tryz.func4, Tryz.ntmps4
  go_wp2_with fail
  refine HF.out.mono ?_
  rintro e1 w1 ⟨rfl, hb1⟩
  have HB1 := Lib.hid (HB.out.trans (hb1.mono HB.out.size))
  have HE := Lib.hid (example_any w1 (HW.out.below HB1.out))
  clear hb1
  go_wp2_with fail
  refine HE.out.mono ?_
  rintro e2 w2 ⟨rfl, hb2⟩
  have HB2 := Lib.hid (HB1.out.trans (hb2.mono HB1.out.size))
  clear hb2
  go_wp2_with fail
  go_ret
  exact ⟨rfl, HB2.out⟩
 ·obtain ⟨f1, f2, f3, f4, f5⟩ := HFB rfl
  have HFS : Hid (FloorS s ws) := ⟨f1, f4⟩
  have HFN : Hid (F.n ≤ 1000) := by rw [Hid, ← HA.out.bun.len]; omega
  have HOS : Hid (s.ops.length ≤ 1000) := f1.ops
  clear HFB f1 f2 f3 f4 f5
  go_enter Tryz.func4, Tryz.ntmps4
  go_wp2_with fail
  refine HF.out.mono ?_
  rintro e1 w1 ⟨rfl, hb1⟩
  have HB1 := Lib.hid (HB.out.trans (hb1.mono HB.out.size))
  have HX1 := Lib.hid (HX.out.below hb1)
  have hj1 := fun W (hb : Below w.heap.size w W) => fopen_any F s bs ws X n xc xs t W (HA.out.on hb) HFS.out (HXS.out.on scan_mono hb)
  have hj2 := fun W (hb : Below w.heap.size w W) => rOpen_any F s bs ws X xc xs t W (HA.out.on hb) HFS.out (by have := HXS.out.on scan_mono hb; rw [← HLN.out] at this; exact this) HFN.out
  rw [HLN.out] at hj2
  by_cases hJ : openErr s bs ws xs.length t = 0
  ·have HJ1 := Lib.hid (fun W (hb : Below w.heap.size w W) => (hj1 W hb).mono fun e w' hr => RetOp.ok hr hJ)
   have HJ2 := Lib.hid (fun W (hb : Below w.heap.size w W) => (hj2 W hb).mono fun e w' hr => RetOp.ok hr hJ)
   have hpl : (openP s bs ws xs t).length ≤ 1000 := by
    unfold openP
    refine Nat.le_trans (List.length_filter_le _ _) ?_
    rw [List.length_map, List.length_range]
    exact HOS.out
   obtain ⟨js, hjs⟩ : ∃ l, openP s bs ws xs t = l := ⟨_, rfl⟩
   rw [hjs] at HJ1 HJ2 hpl
   obtain ⟨m, hm⟩ : ∃ m, js.length = m := ⟨_, rfl⟩
   rw [hm] at HJ1 HJ2 hpl
   obtain ⟨x0, x1, x2, x3, x4, x5, x6, x7, x8⟩ := nine_box HX1.out
   clear hb1 hj1 hj2 hJ hjs hm
   go_wp2_with fail
   refine (HJ1.out _ HB1.out).mono ?_
   rintro e2 w2 ⟨A2, c2, rfl, hs2, hb2⟩
   have HB2 := Lib.hid (HB1.out.trans (hb2.mono HB1.out.size))
   have HX2 := Lib.hid (HX1.out.below hb2)
   have HS2 := Lib.hid hs2
   clear hb2 hs2 x0 x1 x2 x3 x4 x5 x6 x7 x8
   obtain ⟨x0, x1, x2, x3, x4, x5, x6, x7, x8⟩ := nine_box HX2.out
   go_wp2_with fail
   refine (HJ2.out _ HB2.out).mono ?_
   rintro e3 w3 ⟨A3, c3, rfl, hs3, hb3⟩
   have HB3 := Lib.hid (HB2.out.trans (hb3.mono HB2.out.size))
   have HSI := Lib.hid (sameInts_true js A2 m c2 A3 c3 w3 (HS2.out.on hb3) hs3 (by omega))
   have HEX := Lib.hid (fun W (hb : Below w.heap.size w W) => example_any W (HW.out.below hb))
   clear hb3 hs3 x0 x1 x2 x3 x4 x5 x6 x7 x8
   go_wp2_with fail
   refine HSI.out.mono ?_
   rintro e6 w6 ⟨rfl, hb6⟩
   have HB6 := Lib.hid (HB3.out.trans (hb6.mono HB3.out.size))
   clear hb6 HSI
   go_wp2_with fail
   refine (HEX.out _ HB6.out).mono ?_
   rintro e8 w8 ⟨rfl, hb8⟩
   have HB8 := Lib.hid (HB6.out.trans (hb8.mono HB6.out.size))
   clear hb8
   go_wp2_with fail
   go_ret
   exact ⟨rfl, HB8.out⟩
  ·have HJ1 := Lib.hid (fun W (hb : Below w.heap.size w W) => (hj1 W hb).mono fun e w' hr => RetOp.refuse hr hJ)
   have HJ2 := Lib.hid (fun W (hb : Below w.heap.size w W) => (hj2 W hb).mono fun e w' hr => RetOp.refuse hr hJ)
   obtain ⟨J, hJJ⟩ : ∃ J, openErr s bs ws xs.length t = J := ⟨_, rfl⟩
   simp only [hJJ] at HJ1 HJ2
   obtain ⟨x0, x1, x2, x3, x4, x5, x6, x7, x8⟩ := nine_box HX1.out
   clear hb1 hj1 hj2 hJ hJJ
   go_wp2_with fail
   refine (HJ1.out _ HB1.out).mono ?_
   rintro e2 w2 ⟨rfl, hb2⟩
   have HB2 := Lib.hid (HB1.out.trans (hb2.mono HB1.out.size))
   have HX2 := Lib.hid (HX1.out.below hb2)
   clear hb2 x0 x1 x2 x3 x4 x5 x6 x7 x8
   obtain ⟨x0, x1, x2, x3, x4, x5, x6, x7, x8⟩ := nine_box HX2.out
   go_wp2_with fail
   refine (HJ2.out _ HB2.out).mono ?_
   rintro e3 w3 ⟨rfl, hb3⟩
   have HB3 := Lib.hid (HB2.out.trans (hb3.mono HB2.out.size))
   have HSI := Lib.hid (sameInts_true [] none 0 0 none 0 w3 (no_ints w3) (no_ints w3) (by omega))
   have HEX := Lib.hid (fun W (hb : Below w.heap.size w W) => example_any W (HW.out.below hb))
   clear hb3 x0 x1 x2 x3 x4 x5 x6 x7 x8
   go_wp2_with fail
   refine HSI.out.mono ?_
   rintro e6 w6 ⟨rfl, hb6⟩
   have HB6 := Lib.hid (HB3.out.trans (hb6.mono HB3.out.size))
   clear hb6 HSI
   go_wp2_with fail
   refine (HEX.out _ HB6.out).mono ?_
   rintro e8 w8 ⟨rfl, hb8⟩
   have HB8 := Lib.hid (HB6.out.trans (hb8.mono HB6.out.size))
   clear hb8
   go_wp2_with fail
   go_ret
   exact ⟨rfl, HB8.out⟩
end
end Go.Proofs.YtiibocdmlfedkaaGreatDoor
namespace Go.Proofs.YtiibocdmlfedkaaGreatDoor.scanOpens
open Go.ChangeShapes Go.WideShapes Go.ChangeAt Go.RowKit
open Go.ChangeMaps (open_string)
set_option maxRecDepth 100000 in
theorem contract (H : Type) (enc : TypeId × Value → H) (W : World) (b0 : Nat) (args : Array Value) (ds gs : List (DataW H)) (before : List MemPlace)
  (hval : ∀ (j : Nat) t v, Tryz.f4.params[j]? = some t → args[j]? = some v → Value.okWide Tryz.prog W .any b0 t v)
  (hW : DataW.Whole enc Tryz.prog Tryz.f4.params.toList Rows.scanOpensSpec.vars false W args.toList ds gs before) (hL : laidMetH Tryz.prog Rows.scanOpensRow.laid W) (hsh : W.ShapedOpen Tryz.prog) :
  Calls Tryz.prog 4 args W fun e W' => ∃ v, e = .returned v ∧ Rows.scanOpensSpec.post enc Tryz.prog Tryz.f4 false true false false W args v W' := by
 have hW' := hW
 have hstd := std_of hL hsh
 obtain ⟨p, q, hA, hV, rfl, hfz, hnd⟩ := hW
 rw [Tryz.params4] at hA hval
 obtain ⟨v0, vs0, d0, ds0, p0, q0, hargs, rfl, rfl, h0, r0⟩ := trodAll_cons hA
 obtain ⟨v1, vs1, d1, ds1, p1, q1, rfl, rfl, rfl, h1, r1⟩ := trodAll_cons r0
 obtain ⟨v2, vs2, d2, ds2, p2, q2, rfl, rfl, rfl, h2, r2⟩ := trodAll_cons r1
 obtain ⟨rfl, rfl, rfl⟩ := trodAll_nil r2
 obtain rfl : args = #[v0, v1, v2] := by cases args; simp_all
 obtain ⟨s0, bs0, ws0, F0, rfl, hl0⟩ := open_floor1 (hval 0 33 v0 rfl rfl) h0
 obtain ⟨A1, n1, c1, xs1, rfl, hx1, hc1⟩ := open_scans1 (hval 1 34 v1 rfl rfl) h1
 obtain ⟨z2, rfl⟩ := open_int1 (hval 2 3 v2 rfl rfl) h2
 refine (scanOpens_walk F0 s0 bs0 ws0 A1 n1 c1 xs1 z2 W hstd hl0 hx1 hc1 ).mono fun e W' ⟨he, hb⟩ => ?_
 subst he
 exact ⟨_, rfl, law_post (by kernel_rfl) (by kernel_rfl) rfl hW' rfl hb⟩
theorem laid_met (os : Os) : laidMet Tryz.prog Rows.scanOpensRow.laid ((World.laidAll Tryz.prog os laidL).forCall (fun _ _ => 0) ⟨#[], #[.agg #[.string ⟨#[]⟩, .slice none 0 0, .slice none 0 0, .slice none 0 0, .slice none 0 0, .slice none 0 0, .slice none 0 0, .slice none 0 0, .slice none 0 0], .slice none 0 0, .int .i64 0], []⟩).memory :=
 laidMet_laidAll (laid := laidL) #[.agg #[.string ⟨#[]⟩, .slice none 0 0, .slice none 0 0, .slice none 0 0, .slice none 0 0, .slice none 0 0, .slice none 0 0, .slice none 0 0, .slice none 0 0], .slice none 0 0, .int .i64 0] (by kernel_rfl) (by kernel_rfl)
theorem reads (os : Os) {H : Type} (enc : TypeId × Value → H) : ∃ places, DataW.whole enc Tryz.prog ((World.laidAll Tryz.prog os laidL).forCall (fun _ _ => 0) ⟨#[], #[.agg #[.string ⟨#[]⟩, .slice none 0 0, .slice none 0 0, .slice none 0 0, .slice none 0 0, .slice none 0 0, .slice none 0 0, .slice none 0 0, .slice none 0 0], .slice none 0 0, .int .i64 0], []⟩).memory Tryz.f4.params.toList Rows.scanOpensSpec.vars false (#[.agg #[.string ⟨#[]⟩, .slice none 0 0, .slice none 0 0, .slice none 0 0, .slice none 0 0, .slice none 0 0, .slice none 0 0, .slice none 0 0, .slice none 0 0], .slice none 0 0, .int .i64 0] : Array Value).toList 8 = some ([.agg [.agg [.lit (.string []), .nil, .nil, .nil, .nil, .nil, .nil], .nil, .nil], .nil, .lit (.int .i64 0)], [], places) :=
 ⟨[], by kernel_rfl⟩
set_option maxRecDepth 100000 in
theorem lifted (os : Os) (started : os.Started) (H : Type) (enc : TypeId × Value → H) (F : Stop.Interp) :
  ReturnsInHanded {} Tryz.checked os 4 .any ((OpenSpec.ofChange Rows.scanOpensSpec).preRow enc Tryz.prog Tryz.f4 Rows.scanOpensRow.domain false Rows.scanOpensRow.laid) (((OpenSpec.ofChange Rows.scanOpensSpec).at F).post enc Tryz.prog Tryz.f4 false true false false) := by
 obtain ⟨places, hx⟩ := reads os enc
 refine returnsInHanded_of_row (C := Tryz.checked) (s := OpenSpec.ofChange Rows.scanOpensSpec) own started (by kernel_rfl) Tryz.func4
  (witness_row_at (enc := enc) (C := Tryz.checked) false (World.laidAll Tryz.prog os laidL) #[.agg #[.string ⟨#[]⟩, .slice none 0 0, .slice none 0 0, .slice none 0 0, .slice none 0 0, .slice none 0 0, .slice none 0 0, .slice none 0 0, .slice none 0 0], .slice none 0 0, .int .i64 0] (World.laidAll_os _ _ _) (by kernel_rfl) (by kernel_rfl) (by kernel_rfl)
   (OpenSpec.preRow_of_cond 8 hx (by kernel_rfl) (fun k hk => by cases hk) (by kernel_rfl) (laid_met os))) ?_
 intro W b0 args ds gs before hval hW _ _ _ hL hsh _
 exact contract H enc W b0 args ds gs before hval hW hL hsh
set_option maxHeartbeats 12800000 in
theorem closed : joinedFacts Tryz.pinned.checked.prog 4 Tryz.f4 (OpenSpec.ofChange Rows.scanOpensSpec).bare Rows.scanOpensRow = true := by
 unfold joinedFacts
 repeat' (with_reducible refine Bool.and_eq_true_iff.mpr ⟨?_, ?_⟩)
 all_goals as_aux_lemma => kernel_rfl
theorem named : Tryz.pinned.checked.prog.funcNamed Rows.scanOpensRow.func = some 4 := by kernel_rfl
theorem inst : Tryz.f4.isInstance Tryz.pinned.checked.prog Rows.scanOpensRow.origin Rows.scanOpensRow.targs := of_decide_eq_true (by kernel_rfl)
theorem wrap : Tryz.f4.isWrapper Tryz.pinned.checked.prog Rows.scanOpensRow.wrapper Rows.scanOpensRow.mainSum := by
 unfold Func.isWrapper
 rw [if_neg (of_decide_eq_false (by kernel_rfl))]
 exact ⟨rfl, rfl⟩
theorem said : Rows.ScanOpensSaid :=
 OpenClaim.holds_of_cond 4 Tryz.f4 rfl rfl rfl rfl rfl rfl rfl ⟨rfl, rfl, rfl, rfl, rfl⟩ rfl rfl rfl rfl rfl named Tryz.func4 closed inst wrap
  (fun os started H enc _ F => by rw [OpenClaim.pre_eq_preRow]; exact lifted os started H enc F)
theorem looked : true = Tryz.pinned.checked.prog.looks [] := by kernel_rfl
theorem plain (f : FuncId) (fn : Func) (hf : Tryz.pinned.checked.prog.funcNamed "garment/garmentlaw56.ScanOpens" = some f) (hfn : Tryz.pinned.checked.prog.funcs[f]? = some fn) :
  true = Tryz.pinned.checked.prog.looks [] ∧ ∀ (j : Nat) t, fn.params[j]? = some t → Tryz.pinned.checked.prog.wantsStandIn t = false := by
 obtain rfl : f = 4 := Option.some.inj ((show Tryz.prog.funcNamed "garment/garmentlaw56.ScanOpens" = some 4 by kernel_rfl).symm.trans hf) |>.symm
 obtain rfl : fn = Tryz.f4 := (Option.some.inj (Tryz.func4.symm.trans hfn)).symm
 refine ⟨looked, fun j t ht => ?_⟩
 rw [Tryz.params4] at ht
 have hm := Array.mem_of_getElem? ht
 have hm2 : t = 33 ∨ t = 34 ∨ t = 3 := by simpa using hm
 rcases hm2 with rfl | rfl | rfl
 ·exact (show Tryz.prog.wantsStandIn 33 = false by kernel_rfl)
 ·exact (show Tryz.prog.wantsStandIn 34 = false by kernel_rfl)
 ·exact (show Tryz.prog.wantsStandIn 3 = false by kernel_rfl)
theorem card : Rows.ScanOpensCardSaid :=
 Claim7.holds_tied_plain_at .later [] _ _ _ _ said (fun _ h => by cases h) (by kernel_rfl) (fun _ h => by cases h) scanOpens_row_tie rfl ⟨rfl, rfl⟩ (by kernel_rfl) rfl plain (by kernel_rfl)
#print axioms card
end Go.Proofs.YtiibocdmlfedkaaGreatDoor.scanOpens
