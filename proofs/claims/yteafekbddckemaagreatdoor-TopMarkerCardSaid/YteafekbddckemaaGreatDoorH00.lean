/- Short names. -/
import Derived.Below
import Derived.Lib.Hide
import Derived.Lib.Agree
import Derived.WalkKit
import Derived.Laws.OwnMore
import Derived.Laws.Rows
import Derived.Deep.Draws
import Derived.Lib.Hide
import Derived.Deep.AppendLies
import Derived.Test.YteafekbddckemaaGreatDoorProg
namespace Go.RowKit
theorem Hid.o {p : Prop} (h : Hid p) : p := h.out
end Go.RowKit
namespace Go.Proofs.YteafekbddckemaaGreatDoor
open Go.RowKit
theorem zH {p : Prop} (h : p) : RowKit.Hid p := h
theorem zT {a b c : World} (h : Below a.heap.size a b) (k : Below b.heap.size b c) : Below a.heap.size a c := h.trans (k.mono h.size)
theorem zA {w : World} (o : Obj) : Below w.heap.size w (w.alloc o) := (Below.refl _ _).alloc (Nat.le_refl _) o
theorem zX {B : Nat} {a a' b b' : World} (h : Below B a' b') (e : (a'.os, a'.tape, a'.output, a'.heap) = (a.os, a.tape, a.output, a.heap) := by rfl) (f : (b'.os, b'.tape, b'.output, b'.heap) = (b.os, b.tape, b.output, b.heap) := by rfl) : Below B a b := by
  simp only [Prod.mk.injEq] at e f
  obtain ⟨e1, e2, e3, e4⟩ := e
  obtain ⟨f1, f2, f3, f4⟩ := f
  exact ⟨by rw [← e1, ← f1]; exact h.os, by rw [← e2, ← f2]; exact h.tape, by rw [← e3, ← f3]; exact h.output, by rw [← e4, ← f4]; exact h.size, fun k y => by rw [← e4, ← f4]; exact h.block k y⟩
theorem zI {k n : Nat} (h : k < n) : (0 : Int) ≤ (k : Int) ∧ (k : Int) < (n : Int) := by omega
theorem zO {p : Prop} (h : p := by omega) : p := h
theorem zQ {p : Prop} (h : p := by simp; omega) : p := h
theorem zD {p : Prop} (h : p := by decide) : p := h
theorem zU {p : Prop} (h : p := by unfold maxLen; omega) : p := h
theorem zV {q p : Prop} (x : q) (h : q → p := by intro _; omega) : p := h x
theorem zM {p : Prop} (h : p := by simp [intOf]; omega) : p := h
abbrev zi (x : Int) : Value := Value.int .i64 x
abbrev zn : Value := .slice none 0 0
abbrev zF : Value := .bool false
abbrev zY : Value := .bool true
abbrev sa (g i : Nat) : Option Addr := some ⟨g, i, none⟩
abbrev ad (g i : Nat) : Addr := ⟨g, i, none⟩
abbrev Bw (a b : World) : Prop := Below a.heap.size a b
abbrev oA := Option Addr
theorem zJ {B : Nat} {w : World} : Below B w w := Below.refl B w
theorem zj {α : Type _} {a b : α} (h : a = b := by kernel_rfl) : some a = some b := congrArg some h
theorem zk {p : Prop} (h : p := by kernel_rfl) : p := h
theorem zP {p : Prop} (h : p := by simp) : p := h
theorem zE {α : Sort _} (x : α) : ∃ v, v = x := ⟨x, rfl⟩
theorem zG {α : Sort _} (x : α) : ∃ v, x = v := ⟨x, rfl⟩
abbrev zR (v : Value) (w : World) (e : Ending) (w' : World) : Prop := e = .returned v ∧ Below w.heap.size w w'
abbrev zL (w : World) (g i : Nat) (v : Value) : Prop := w.cell? ⟨g, i, none⟩ = some v
abbrev zw (w : World) (c : Array Value) (t : TypeId) : World := w.alloc (.cells c t)
abbrev lP := List (Int × Int)
abbrev lV := List Value
abbrev aV := Array Value
abbrev CP (f : FuncId) (x : Array Value) (w : World) (Q : Ending → World → Prop) : Prop := Calls Tryz.prog f x w Q
theorem zq0 : type_of% @List.getElem?_eq_getElem := @List.getElem?_eq_getElem
theorem zq1 : type_of% @List.getElem?_eq_some_iff := @List.getElem?_eq_some_iff
theorem zq2 : type_of% @List.mem_of_getElem? := @List.mem_of_getElem?
theorem zq3 : type_of% @List.getD_eq_getElem?_getD := @List.getD_eq_getElem?_getD
theorem zq4 : type_of% @List.take_of_length_le := @List.take_of_length_le
theorem zq5 : type_of% @List.length_append := @List.length_append
theorem zq6 : type_of% @List.length_map := @List.length_map
theorem zq7 : type_of% @List.length_take := @List.length_take
theorem zq8 : type_of% @List.length_range := @List.length_range
theorem zq9 : type_of% @List.length_singleton := @List.length_singleton
theorem zr0 : type_of% @List.map_append := @List.map_append
theorem zr1 : type_of% @List.mem_append := @List.mem_append
theorem zr2 : type_of% @List.mem_map := @List.mem_map
theorem zr3 : type_of% @List.mem_cons := @List.mem_cons
theorem zr4 : type_of% @List.getElem?_append_left := @List.getElem?_append_left
theorem zr5 : type_of% @List.getElem?_map := @List.getElem?_map
theorem zr6 : type_of% @List.drop_of_length_le := @List.drop_of_length_le
theorem zr7 : type_of% @List.flatMap_append := @List.flatMap_append
theorem zr8 : type_of% @List.getElem?_take := @List.getElem?_take
theorem zr9 : type_of% @List.mem_singleton := @List.mem_singleton
theorem zs0 : type_of% @Nat.le_trans := @Nat.le_trans
theorem zs1 : type_of% @Nat.lt_of_lt_of_le := @Nat.lt_of_lt_of_le
theorem zs2 : type_of% @Nat.le_refl := @Nat.le_refl
theorem zs3 : type_of% @Nat.zero_le := @Nat.zero_le
theorem zs4 : type_of% @Nat.mul_le_mul_left := @Nat.mul_le_mul_left
theorem zs5 : type_of% @IntWalk.i64_in := @IntWalk.i64_in
theorem zs6 : type_of% @Option.some.inj := @Option.some.inj
theorem zs7 : type_of% @Nat.lt_succ_self := @Nat.lt_succ_self
theorem zs8 : type_of% @List.getElem?_append := @List.getElem?_append
theorem zs9 : type_of% @Array.getElem?_setIfInBounds := @Array.getElem?_setIfInBounds
theorem zt0 : type_of% @Nat.min_eq_left := @Nat.min_eq_left
theorem zt1 : type_of% @Nat.le_succ := @Nat.le_succ
theorem zt2 : type_of% @Nat.lt_of_le_of_lt := @Nat.lt_of_le_of_lt
theorem zt3 : type_of% @List.append_nil := @List.append_nil
theorem zt4 : type_of% @List.getElem?_range := @List.getElem?_range
theorem zt5 : type_of% @List.length_cons := @List.length_cons
theorem zt6 : type_of% @Option.map_some := @Option.map_some
theorem zt7 : type_of% @List.eq_nil_of_length_eq_zero := @List.eq_nil_of_length_eq_zero
theorem zt8 : type_of% @List.mem_range := @List.mem_range
theorem zt9 : type_of% @Array.getElem?_toList := @Array.getElem?_toList
theorem zu0 : type_of% @decide_eq_false := @decide_eq_false
theorem zu1 : type_of% @decide_eq_true := @decide_eq_true
theorem zu2 : type_of% @And.intro := @And.intro
theorem below_zN {B : Nat} {a w : World} (h : Below B a w) (k : Nat) : Below B a (w.drewN k) := ⟨h.os, h.tape, h.output, h.size, h.block⟩
theorem below_za {X W : World} (h : Below X.heap.size X W) (o : Obj) : Below X.heap.size X (W.alloc o) := h.alloc h.size o
theorem zB {p : Prop} (h : p := by repeat (first | (with_reducible exact Below.refl _ _) | (with_reducible assumption) | (with_reducible refine below_zN ?_ _) | (with_reducible refine Below.drew ?_) | (with_reducible refine below_za ?_ _))) : p := h
end Go.Proofs.YteafekbddckemaaGreatDoor
