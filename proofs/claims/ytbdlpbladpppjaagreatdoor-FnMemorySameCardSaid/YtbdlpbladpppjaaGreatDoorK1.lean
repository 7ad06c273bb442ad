/- Joined: Base, Data, Chg, Hx, Open, Wi, Vp, Cl, Cc, Cv, Mi, Mk. -/
import Derived.WalkKit
import Derived.ProofKit
import Derived.OpenShut
import Derived.Below
import Derived.Lib.Hide
import Derived.IntWalk
import Derived.Outline
import Derived.Deep.QuietTactic
import Derived.BigQuiet
import Derived.StillTailTactics
import Derived.Deep.DeepMust
import Derived.WalkSpells
import Derived.WalkLawsBesides
import Derived.Laws.MakeOwn
import Derived.Laws.OwnMore
import Derived.Deep.Draws
import Derived.Test.YtbdlpbladpppjaaGreatDoorRows
import Derived.ShutString
import Derived.ChangeOld
import Derived.Deep.Slices
import Derived.Deep.Fields
import Derived.ChangeSame
import Derived.Lib.SmallJoins
namespace Go.Proofs.YtbdlpbladpppjaaGreatDoor
open Go.ChangeShapes Go.WideShapes Go.ChangeAt Go.RowKit

/-! ### Records -/

/-- A kind of data that lies in a fixed number of cells. -/
class Rec (α : Type) where
 sz : Nat
 cs : α → List Value
 len : ∀ a, (cs a).length = sz
 pos : 0 < sz
 one : ∀ a u, u ∈ cs a → u.oneCell' = true

open Rec (sz cs)

def flat {α : Type} [Rec α] : List α → List Value
 | [] => []
 | x :: xs => cs x ++ flat xs

section
variable {α : Type} [Rec α]

@[simp] theorem flat_nil : flat ([] : List α) = [] := rfl
@[simp] theorem flat_cons (x : α) (xs : List α) : flat (x :: xs) = cs x ++ flat xs := rfl

theorem flat_append (xs ys : List α) : flat (xs ++ ys) = flat xs ++ flat ys := by
 induction xs with
 | nil => rfl
 | cons x xs ih => simp [ih]

theorem flat_length (xs : List α) : (flat xs).length = xs.length * sz α := by
 induction xs with
 | nil => simp
 | cons x xs ih => simp only [flat_cons, List.length_append, ih, Rec.len, List.length_cons, Nat.add_mul]; omega

theorem flat_one (xs : List α) : ∀ u ∈ flat xs, u.oneCell' = true := by
 induction xs with
 | nil => simp
 | cons x xs ih =>
  intro u hu
  rcases List.mem_append.1 hu with h | h
  ·exact Rec.one x u h
  ·exact ih u h

theorem flat_get (xs : List α) (k j : Nat) (x : α) (hx : xs[k]? = some x) (hj : j < sz α) : (flat xs)[k * sz α + j]? = (cs x)[j]? := by
 induction xs generalizing k with
 | nil => simp at hx
 | cons y ys ih =>
  cases k with
  | zero =>
   simp at hx
   subst hx
   simp only [flat_cons, Nat.zero_mul, Nat.zero_add]
   rw [List.getElem?_append_left (by rw [Rec.len]; exact hj)]
  | succ k =>
   simp at hx
   have := ih k hx
   simp only [flat_cons]
   rw [List.getElem?_append_right (by rw [Rec.len, Nat.add_mul]; omega), Rec.len, ← this]
   congr 1
   rw [Nat.add_mul]; omega

theorem flat_take (xs : List α) (k : Nat) : flat (xs.take k) = (flat xs).take (k * sz α) := by
 induction xs generalizing k with
 | nil => simp
 | cons x xs ih =>
  cases k with
  | zero => simp
  | succ k =>
   simp only [List.take_succ_cons, flat_cons, ih]
   have hl : (cs x).length = sz α := Rec.len x
   have e : (k + 1) * sz α = sz α + k * sz α := by rw [Nat.add_mul]; omega
   rw [e, List.take_append, hl, List.take_of_length_le (l := cs x) (by omega), Nat.add_sub_cancel_left]

theorem flat_set (xs : List α) (k j : Nat) (x y : α) (u : Value) (hx : xs[k]? = some x) (hj : j < sz α) (hy : cs y = (cs x).set j u) :
  flat (xs.set k y) = (flat xs).set (k * sz α + j) u := by
 induction xs generalizing k with
 | nil => simp at hx
 | cons z zs ih =>
  cases k with
  | zero =>
   simp at hx
   subst hx
   simp only [List.set_cons_zero, flat_cons, Nat.zero_mul, Nat.zero_add, hy]
   rw [List.set_append_left _ _ (by rw [Rec.len]; exact hj)]
  | succ k =>
   simp at hx
   simp only [List.set_cons_succ, flat_cons, ih k hx]
   have hl : (cs z).length = sz α := Rec.len z
   rw [List.set_append_right _ _ (by rw [hl, Nat.add_mul]; omega), hl]
   congr 2
   rw [Nat.add_mul]; omega
end

/-! ### Worlds that only grow -/

/-- All that was there is there still; new blocks may have come. -/
def Ex (w w' : World) : Prop := Below w.heap.size w w'

theorem Ex.refl (w : World) : Ex w w := Below.refl _ _
theorem Ex.size {w w' : World} (h : Ex w w') : w.heap.size ≤ w'.heap.size := Below.size h
theorem Ex.trans {a b c : World} (h : Ex a b) (k : Ex b c) : Ex a c := Below.trans h (Below.mono k (Below.size h))
theorem Ex.alloc {a w : World} (h : Ex a w) (o : Obj) : Ex a (w.alloc o) := Below.alloc h (Below.size h) o
theorem Ex.drew {a w : World} (h : Ex a w) : Ex a w.drew := Below.drew h
theorem Ex.drewN {a w : World} (h : Ex a w) (n : Nat) : Ex a (w.drewN n) := ⟨h.os, h.tape, h.output, h.size, h.block⟩
theorem Ex.set {a w : World} (h : Ex a w) {p : Addr} (hp : a.heap.size ≤ p.block) (u : Value) : Ex a (w.setCell p u) := Below.setCell h hp u
theorem Ex.cell {a w : World} (h : Ex a w) {b o : Nat} (hb : b < a.heap.size) : w.cell? ⟨b, o, none⟩ = a.cell? ⟨b, o, none⟩ := Below.cell h (p := ⟨b, o, none⟩) hb
theorem Ex.frozen {a w : World} (h : Ex a w) {b o : Nat} (hb : b < a.heap.size) : w.frozen? ⟨b, o, none⟩ = a.frozen? ⟨b, o, none⟩ := Below.frozen h (p := ⟨b, o, none⟩) hb
theorem Ex.block {a w : World} (h : Ex a w) {b : Nat} (hb : b < a.heap.size) : w.heap[b]? = a.heap[b]? := Below.block h b hb
theorem Ex.below {a w : World} (h : Ex a w) : Below a.heap.size a w := h
theorem Ex.of_grown {a w w' : World} (h : Ex a w) {row : Option Nat} (hg : w.grownBy w' row) (hr : ∀ k, row = some k → a.heap.size ≤ k) : Ex a w' := Below.grown h hg h.size hr

/-- The two rules by which the walk carries cells over a call. -/
theorem ex_rules {W w1 : World} (hb : Ex W w1) : (∀ b o, b < W.heap.size → w1.cell? ⟨b, o, none⟩ = W.cell? ⟨b, o, none⟩) ∧ (∀ b o, b < W.heap.size → w1.frozen? ⟨b, o, none⟩ = W.frozen? ⟨b, o, none⟩) :=
 ⟨fun _ _ h => hb.cell h, fun _ _ h => hb.frozen h⟩

/-- A known block. -/
def Blk (w : World) (g : Nat) (t : TypeId) (c : List Value) : Prop := w.heap[g]? = some (.cells c.toArray t (0, 0))

section
variable {w w' : World} {g : Nat} {t : TypeId} {c : List Value}
theorem Blk.lt (h : Blk w g t c) : g < w.heap.size := (Array.getElem?_eq_some_iff.1 h).1
theorem Blk.cell (h : Blk w g t c) (i : Nat) : w.cell? ⟨g, i, none⟩ = c[i]? := by
 rw [cell_of_row w g i _ t (0, 0) h]; simp
theorem Blk.frozen (h : Blk w g t c) (i : Nat) : w.frozen? ⟨g, i, none⟩ = false := frozen_of_row w g i _ t h
theorem Blk.new (w : World) (t : TypeId) (c : List Value) : Blk (w.alloc (.cells c.toArray t)) w.heap.size t c := heap_alloc_new w _
theorem Blk.new_at (w : World) (t : TypeId) (c : List Value) {g : Nat} (hg : g = w.heap.size) : Blk (w.alloc (.cells c.toArray t)) g t c := by subst hg; exact heap_alloc_new w _
theorem Blk.c1 {a : Value} (h : Blk w g t [a]) : w.cell? ⟨g, 0, none⟩ = some a := h.cell 0
theorem Blk.c2 {a b : Value} (h : Blk w g t [a, b]) : w.cell? ⟨g, 0, none⟩ = some a ∧ w.cell? ⟨g, 1, none⟩ = some b := ⟨h.cell 0, h.cell 1⟩
theorem Blk.c4 {a b d e : Value} (h : Blk w g t [a, b, d, e]) : w.cell? ⟨g, 0, none⟩ = some a ∧ w.cell? ⟨g, 1, none⟩ = some b ∧ w.cell? ⟨g, 2, none⟩ = some d ∧ w.cell? ⟨g, 3, none⟩ = some e := ⟨h.cell 0, h.cell 1, h.cell 2, h.cell 3⟩
theorem Blk.c6 {a b d e f k : Value} (h : Blk w g t [a, b, d, e, f, k]) : w.cell? ⟨g, 0, none⟩ = some a ∧ w.cell? ⟨g, 1, none⟩ = some b ∧ w.cell? ⟨g, 2, none⟩ = some d ∧ w.cell? ⟨g, 3, none⟩ = some e ∧ w.cell? ⟨g, 4, none⟩ = some f ∧ w.cell? ⟨g, 5, none⟩ = some k := ⟨h.cell 0, h.cell 1, h.cell 2, h.cell 3, h.cell 4, h.cell 5⟩
theorem Blk.c3 {v0 v1 v2 : Value} (h : Blk w g t [v0, v1, v2]) : w.cell? ⟨g, 0, none⟩ = some v0 ∧ w.cell? ⟨g, 1, none⟩ = some v1 ∧ w.cell? ⟨g, 2, none⟩ = some v2 := ⟨h.cell 0, h.cell 1, h.cell 2⟩
theorem Blk.c5 {v0 v1 v2 v3 v4 : Value} (h : Blk w g t [v0, v1, v2, v3, v4]) : w.cell? ⟨g, 0, none⟩ = some v0 ∧ w.cell? ⟨g, 1, none⟩ = some v1 ∧ w.cell? ⟨g, 2, none⟩ = some v2 ∧ w.cell? ⟨g, 3, none⟩ = some v3 ∧ w.cell? ⟨g, 4, none⟩ = some v4 := ⟨h.cell 0, h.cell 1, h.cell 2, h.cell 3, h.cell 4⟩
theorem Blk.c9 {v0 v1 v2 v3 v4 v5 v6 v7 v8 : Value} (h : Blk w g t [v0, v1, v2, v3, v4, v5, v6, v7, v8]) : w.cell? ⟨g, 0, none⟩ = some v0 ∧ w.cell? ⟨g, 1, none⟩ = some v1 ∧ w.cell? ⟨g, 2, none⟩ = some v2 ∧ w.cell? ⟨g, 3, none⟩ = some v3 ∧ w.cell? ⟨g, 4, none⟩ = some v4 ∧ w.cell? ⟨g, 5, none⟩ = some v5 ∧ w.cell? ⟨g, 6, none⟩ = some v6 ∧ w.cell? ⟨g, 7, none⟩ = some v7 ∧ w.cell? ⟨g, 8, none⟩ = some v8 := ⟨h.cell 0, h.cell 1, h.cell 2, h.cell 3, h.cell 4, h.cell 5, h.cell 6, h.cell 7, h.cell 8⟩
theorem Blk.c11 {v0 v1 v2 v3 v4 v5 v6 v7 v8 v9 v10 : Value} (h : Blk w g t [v0, v1, v2, v3, v4, v5, v6, v7, v8, v9, v10]) : w.cell? ⟨g, 0, none⟩ = some v0 ∧ w.cell? ⟨g, 1, none⟩ = some v1 ∧ w.cell? ⟨g, 2, none⟩ = some v2 ∧ w.cell? ⟨g, 3, none⟩ = some v3 ∧ w.cell? ⟨g, 4, none⟩ = some v4 ∧ w.cell? ⟨g, 5, none⟩ = some v5 ∧ w.cell? ⟨g, 6, none⟩ = some v6 ∧ w.cell? ⟨g, 7, none⟩ = some v7 ∧ w.cell? ⟨g, 8, none⟩ = some v8 ∧ w.cell? ⟨g, 9, none⟩ = some v9 ∧ w.cell? ⟨g, 10, none⟩ = some v10 := ⟨h.cell 0, h.cell 1, h.cell 2, h.cell 3, h.cell 4, h.cell 5, h.cell 6, h.cell 7, h.cell 8, h.cell 9, h.cell 10⟩
theorem Blk.drew (h : Blk w g t c) : Blk w.drew g t c := h
theorem Blk.drewN (h : Blk w g t c) (n : Nat) : Blk (w.drewN n) g t c := h
theorem Blk.alloc (h : Blk w g t c) (o : Obj) : Blk (w.alloc o) g t c := (Below.heap_alloc w o g h.lt).trans h
theorem Blk.set (h : Blk w g t c) (i : Nat) (u : Value) : Blk (w.setCell ⟨g, i, none⟩ u) g t (c.set i u) := by
 unfold Blk at h ⊢
 simp [World.setCell, Array.getElem?_modify, h]
theorem Blk.far (h : Blk w g t c) {p : Addr} (hp : g ≠ p.block) (u : Value) : Blk (w.setCell p u) g t c := (Below.heap_setCell w p u g hp).trans h
theorem Blk.ex (h : Blk w g t c) (k : Ex w w') : Blk w' g t c := (k.block h.lt).trans h
end

/-! ### Slices that read as lists -/

section
variable {α : Type} [Rec α] {w w' : World} {A : Option Addr} {xs : List α}

/-- The slice at A reads as xs. -/
def Rd (w : World) (A : Option Addr) (xs : List α) : Prop :=
 0 < xs.length → ∃ b off, A = some ⟨b, off, none⟩ ∧ b < w.heap.size ∧ ∀ m u, (flat xs)[m]? = some u → w.cell? ⟨b, off + m, none⟩ = some u

theorem Rd.nil (w : World) (A : Option Addr) : Rd w A ([] : List α) := fun h => absurd h (by simp)
theorem Rd.ex (h : Rd w A xs) (k : Ex w w') : Rd w' A xs := fun hn => by
 obtain ⟨b, off, e, hb, hc⟩ := h hn
 exact ⟨b, off, e, Nat.lt_of_lt_of_le hb k.size, fun m u hu => (k.cell hb).trans (hc m u hu)⟩
theorem Rd.alloc (h : Rd w A xs) (o : Obj) : Rd (w.alloc o) A xs := h.ex ((Ex.refl w).alloc o)
theorem Rd.drew (h : Rd w A xs) : Rd w.drew A xs := h
theorem Rd.drewN (h : Rd w A xs) (n : Nat) : Rd (w.drewN n) A xs := h
/-- The element at k, cell by cell. -/
theorem Rd.at_ (h : Rd w A xs) {k : Nat} (hk : k < xs.length) : ∃ b off x, A = some ⟨b, off, none⟩ ∧ b < w.heap.size ∧ xs[k]? = some x ∧
  ∀ j u, j < sz α → (cs x)[j]? = some u → w.cell? ⟨b, off + (k * sz α + j), none⟩ = some u := by
 obtain ⟨b, off, e, hb, hc⟩ := h (by omega)
 refine ⟨b, off, xs[k], e, hb, List.getElem?_eq_getElem hk, fun j u hj hu => hc _ _ ?_⟩
 rw [flat_get xs k j xs[k] (List.getElem?_eq_getElem hk) hj]
 exact hu
/-- The element at k, cell by cell, where the address is known. -/
theorem Rd.at_known {b off : Nat} (h : Rd w (some ⟨b, off, none⟩) xs) {k : Nat} (hk : k < xs.length) : ∃ x, b < w.heap.size ∧ xs[k]? = some x ∧
  ∀ j u, j < sz α → (cs x)[j]? = some u → w.cell? ⟨b, off + (k * sz α + j), none⟩ = some u := by
 obtain ⟨b', off', x, e, hb, hx, hc⟩ := h.at_ hk
 injection e with e
 injection e with e1 e2
 subst e1 e2
 exact ⟨x, hb, hx, hc⟩
theorem Rd.take (h : Rd w A xs) (k : Nat) : Rd w A (xs.take k) := fun hn => by
 obtain ⟨b, off, e, hb, hc⟩ := h (by rw [List.length_take] at hn; omega)
 refine ⟨b, off, e, hb, fun m u hu => hc m u ?_⟩
 rw [flat_take, List.getElem?_take] at hu
 split at hu
 ·exact hu
 ·cases hu

/-- The slice's row, from the head of a block of the call's own (from B on), reads as xs; 'rest' is its spare room. -/
def Bk (E : TypeId) (w : World) (g : Nat) (xs : List α) (rest : List Value) : Prop := Blk w g E (flat xs ++ rest)

/-- A slice with capacity c that shares no memory with what lies below block B. -/
def Fr (E : TypeId) (w : World) (B : Nat) (A : Option Addr) (c : Nat) (xs : List α) : Prop :=
 xs.length ≤ c ∧ c ≤ maxLen ∧ (c = 0 ∨ ∃ g rest, A = some ⟨g, 0, none⟩ ∧ B ≤ g ∧ Bk E w g xs rest ∧ (c - xs.length) * sz α ≤ rest.length)

variable {E : TypeId} {B B' g c : Nat} {rest : List Value}

theorem Bk.rd (h : Bk E w g xs rest) : Rd w (some ⟨g, 0, none⟩) xs := fun _ => by
 refine ⟨g, 0, rfl, Blk.lt h, fun m u hu => ?_⟩
 have hm : m < (flat xs).length := (List.getElem?_eq_some_iff.1 hu).1
 rw [Nat.zero_add, Blk.cell h, List.getElem?_append_left hm]
 exact hu
theorem Bk.ex (h : Bk E w g xs rest) (k : Ex w w') : Bk E w' g xs rest := Blk.ex h k
theorem Bk.alloc (h : Bk E w g xs rest) (o : Obj) : Bk E (w.alloc o) g xs rest := Blk.alloc h o
theorem Bk.drew (h : Bk E w g xs rest) : Bk E w.drew g xs rest := h
theorem Bk.frozen (h : Bk E w g xs rest) (i : Nat) : w.frozen? ⟨g, i, none⟩ = false := Blk.frozen h i
theorem Bk.far (h : Bk E w g xs rest) {p : Addr} (hp : g ≠ p.block) (u : Value) : Bk E (w.setCell p u) g xs rest := Blk.far h hp u
/-- One cell of the element at k is written. -/
theorem Bk.set (h : Bk E w g xs rest) {k j off : Nat} {x y : α} {u : Value} (hx : xs[k]? = some x) (hj : j < sz α) (hy : cs y = (cs x).set j u) (ho : off = k * sz α + j) :
  Bk E (w.setCell ⟨g, off, none⟩ u) g (xs.set k y) rest := by
 subst ho
 have hk : k < xs.length := (List.getElem?_eq_some_iff.1 hx).1
 have hlt : k * sz α + j < (flat xs).length := by
  rw [flat_length]
  exact Nat.lt_of_lt_of_le (Nat.add_lt_add_left hj _) (by rw [← Nat.succ_mul]; exact Nat.mul_le_mul_right _ hk)
 have := Blk.set h (k * sz α + j) u
 unfold Bk
 rwa [List.set_append_left _ _ hlt, ← flat_set xs k j x y u hx hj hy] at this
theorem Bk.cell_at (h : Bk E w g xs rest) {k : Nat} {x : α} (hx : xs[k]? = some x) {j : Nat} (hj : j < sz α) {u : Value} (hu : (cs x)[j]? = some u) : w.cell? ⟨g, k * sz α + j, none⟩ = some u := by
 have hk : k < xs.length := (List.getElem?_eq_some_iff.1 hx).1
 have hlt : k * sz α + j < (flat xs).length := by
  rw [flat_length]
  exact Nat.lt_of_lt_of_le (Nat.add_lt_add_left hj _) (by rw [← Nat.succ_mul]; exact Nat.mul_le_mul_right _ hk)
 rw [Blk.cell h, List.getElem?_append_left hlt, flat_get xs k j x hx hj, hu]

theorem Fr.rd (h : Fr E w B A c xs) : Rd w A xs := by
 obtain ⟨hl, _, h0 | ⟨g, rest, rfl, _, hb, _⟩⟩ := h
 ·exact fun hn => by omega
 ·exact hb.rd
theorem Fr.ex (h : Fr E w B A c xs) (k : Ex w w') : Fr E w' B A c xs := by
 obtain ⟨hl, hm, h0 | ⟨g, rest, e, hB, hb, hr⟩⟩ := h
 ·exact ⟨hl, hm, .inl h0⟩
 ·exact ⟨hl, hm, .inr ⟨g, rest, e, hB, hb.ex k, hr⟩⟩
theorem Fr.mono (h : Fr E w B A c xs) (hB : B' ≤ B) : Fr E w B' A c xs := by
 obtain ⟨hl, hm, h0 | ⟨g, rest, e, hB, hb, hr⟩⟩ := h
 ·exact ⟨hl, hm, .inl h0⟩
 ·exact ⟨hl, hm, .inr ⟨g, rest, e, by omega, hb, hr⟩⟩
theorem Fr.alloc (h : Fr E w B A c xs) (o : Obj) : Fr E (w.alloc o) B A c xs := h.ex ((Ex.refl w).alloc o)
theorem Fr.drew (h : Fr E w B A c xs) : Fr E w.drew B A c xs := h
theorem Fr.drewN (h : Fr E w B A c xs) (n : Nat) : Fr E (w.drewN n) B A c xs := h
theorem Fr.none_ (E : TypeId) (w : World) (B : Nat) (A : Option Addr) : Fr E w B A 0 ([] : List α) := ⟨Nat.le_refl _, Nat.zero_le _, .inl rfl⟩
theorem Fr.le (h : Fr E w B A c xs) : xs.length ≤ c := h.1
theorem Fr.cap (h : Fr E w B A c xs) : c ≤ maxLen := h.2.1
/-- The kit's own word for such a row. -/
theorem Fr.of_own {n : Nat} {v : Value} (h : w.ownsRow B E (sz α) v n (flat xs)) (hn : n = xs.length) : ∃ A c, v = .slice A n c ∧ Fr E w B A c xs := by
 subst hn
 rcases h.2 with ⟨rfl, hn⟩ | ⟨g, cap, cur, rfl, hB, hg, hnc, hcm, hcs, ht⟩
 ·have : xs = [] := List.eq_nil_of_length_eq_zero hn
  subst this
  exact ⟨none, 0, by rw [hn], Fr.none_ _ _ _ _⟩
 ·refine ⟨_, cap, rfl, hnc, hcm, .inr ⟨g, cur.toList.drop (xs.length * sz α), rfl, hB, ?_, ?_⟩⟩
  ·unfold Bk Blk
   rw [← ht, List.take_append_drop]
   exact hg
  ·exact Nat.le_of_eq (by rw [List.length_drop, show cur.toList.length = cur.size from rfl, hcs, Nat.sub_mul])
end

section
variable {α : Type} [Rec α] {P : Program}
theorem madeCells_flat (z : α) (n : Nat) : madeCells (cs z).toArray (n * sz α) = (flat (List.replicate n z)).toArray := by
 apply Array.ext
 ·simp [size_madeCells, flat_length]
 ·intro i h1 h2
  rw [size_madeCells] at h1
  have hp : 0 < sz α := Rec.pos
  have hd : i / sz α < n := (Nat.div_lt_iff_lt_mul hp).2 h1
  have hm : i % sz α < sz α := Nat.mod_lt _ hp
  have hi : i / sz α * sz α + i % sz α = i := by rw [Nat.mul_comm]; exact Nat.div_add_mod i (sz α)
  have hg := flat_get (List.replicate n z) (i / sz α) (i % sz α) z (by rw [List.getElem?_replicate, if_pos hd]) hm
  rw [hi, List.getElem?_eq_getElem (by simpa using h2), List.getElem?_eq_getElem (by rw [Rec.len]; exact hm)] at hg
  injection hg with hg
  have hl : (cs z).length = sz α := Rec.len z
  simp [madeCells, hl, hm]
  exact hg.symm
/-- make([]T, n): n zero values in a new block, for whatever world. -/
theorem make_rec (t e bytes : Nat) (z : α) (zv : Value) (ht : P.underlying t = some (.slice e)) (hinfo : (P.info? e).map (fun i => (i.zero, i.size, i.bytes)) = some (some zv, sz α, bytes))
  (hz : zv.cells = (cs z).toArray) (n : Nat) (hbytes : bytes * n ≤ 281474976710656) (h63 : n ≤ 9223372036854775807) (w : World) :
  (Instr.makeSlice t (.int .i64 (n : Int)) (.int .i64 (n : Int))).run P w = .ok (.slice (some ⟨w.heap.size, 0, none⟩) n n) (w.alloc (.cells (flat (List.replicate n z)).toArray e)) := by
 obtain ⟨i, hi, hz0, hz1, hz2⟩ := info_parts hinfo
 have hb' : (i.bytes : Int) * (n : Int) ≤ 281474976710656 := by
  have h : ((i.bytes * n : Nat) : Int) ≤ 281474976710656 := by rw [hz2]; omega
  rwa [Int.natCast_mul] at h
 have hr := run_make (P := P) w t e i zv ht hi hz0 .i64 .i64 n n (by omega) (Int.le_refl _) hb' (by omega)
 simp only [Int.toNat_natCast, hz1, hz, madeCells_flat] at hr
 exact hr
theorem Bk.new (w : World) (E : TypeId) (xs : List α) : Bk E (w.alloc (.cells (flat xs).toArray E)) w.heap.size xs [] := by
 have := Blk.new w E (flat xs)
 unfold Bk
 rwa [List.append_nil]
end

/-! ### Only one block has turned -/
section
variable {w w' w'' : World} {row : Option Nat} {g : Nat}
theorem grown_refl (w : World) (row : Option Nat) : w.grownBy w row := ⟨rfl, rfl, rfl, Nat.le_refl _, fun _ _ _ => rfl⟩
theorem grown_ex (h : w.grownBy w' row) (k : Ex w' w'') : w.grownBy w'' row :=
 ⟨k.os.trans h.os, k.tape.trans h.tape, k.output.trans h.output, Nat.le_trans h.size k.size, fun i hi hn => (k.block (Nat.lt_of_lt_of_le hi h.size)).trans (h.block i hi hn)⟩
theorem grown_set (h : w.grownBy w' (some g)) (o : Nat) (u : Value) : w.grownBy (w'.setCell ⟨g, o, none⟩ u) (some g) :=
 ⟨h.os, h.tape, h.output, by simpa [World.setCell] using h.size, fun i hi hn => (Below.heap_setCell w' ⟨g, o, none⟩ u i (fun e => hn (by rw [e]))).trans (h.block i hi hn)⟩
theorem Blk.grown {t : TypeId} {c : List Value} (h : Blk w g t c) (k : w.grownBy w' row) (hn : some g ≠ row) : Blk w' g t c := (k.block g h.lt hn).trans h
theorem Ex.grown {a : World} (h : Ex a w) (k : w.grownBy w' row) (hr : ∀ g, row = some g → a.heap.size ≤ g) : Ex a w' := h.of_grown k hr
end

section
variable {α : Type} [Rec α] {w w' : World} {A : Option Addr} {xs : List α} {E : TypeId} {B c : Nat} {row : Option Nat}
theorem Rd.grown (h : Rd w A xs) (k : w.grownBy w' row) (hn : ∀ b, row = some b → ∀ off, A ≠ some ⟨b, off, none⟩) : Rd w' A xs := fun h0 => by
 obtain ⟨b, off, rfl, hb, hc⟩ := h h0
 have hne : some b ≠ row := fun e => hn b e.symm off rfl
 exact ⟨b, off, rfl, Nat.lt_of_lt_of_le hb k.size, fun m u hu => (World.cell?_of_block (k.block b hb hne)).trans (hc m u hu)⟩
/-- Where a slice of the call's own lies. -/
theorem Fr.where_ (h : Fr E w B A c xs) : c = 0 ∨ ∃ g, A = some ⟨g, 0, none⟩ ∧ B ≤ g ∧ g < w.heap.size := by
 obtain ⟨_, _, h0 | ⟨g, rest, e, hB, hb, _⟩⟩ := h
 ·exact .inl h0
 ·exact .inr ⟨g, e, hB, Blk.lt hb⟩
theorem Fr.grown (h : Fr E w B A c xs) (k : w.grownBy w' row) (hn : ∀ b, row = some b → c = 0 ∨ A ≠ some ⟨b, 0, none⟩) : Fr E w' B A c xs := by
 obtain ⟨hl, hm, h0 | ⟨g, rest, rfl, hB, hb, hr⟩⟩ := h
 ·exact ⟨hl, hm, .inl h0⟩
 ·by_cases hc : c = 0
  ·exact ⟨hl, hm, .inl hc⟩
  ·refine ⟨hl, hm, .inr ⟨g, rest, rfl, hB, Blk.grown hb k (fun e => ?_), hr⟩⟩
   rcases hn g e.symm with h | h
   ·exact hc h
   ·exact h rfl
end

section
variable {α : Type} [Rec α] {w w' : World} {A : Option Addr} {xs ys : List α} {E : TypeId} {B c k g : Nat} {rest : List Value}
theorem Fr.open_ (h : Fr E w B A c xs) (hk : k < xs.length) : ∃ g rest, A = some ⟨g, 0, none⟩ ∧ B ≤ g ∧ Bk E w g xs rest ∧ (c - xs.length) * sz α ≤ rest.length := by
 obtain ⟨hl, hm, h0 | ⟨g, rest, rfl, hB, hb, hr⟩⟩ := h
 ·omega
 ·exact ⟨g, rest, rfl, hB, hb, hr⟩
theorem Fr.set_below (h : Fr E w B A c xs) {p : Addr} (hp : p.block < B) (u : Value) : Fr E (w.setCell p u) B A c xs := by
 obtain ⟨hl, hm, h0 | ⟨g, rest, rfl, hB, hb, hr⟩⟩ := h
 ·exact ⟨hl, hm, .inl h0⟩
 ·exact ⟨hl, hm, .inr ⟨g, rest, rfl, hB, hb.far (by omega) u, hr⟩⟩
theorem Fr.close (hb : Bk E w g xs rest) (hB : B ≤ g) (hr : (c - xs.length) * sz α ≤ rest.length) (hl : xs.length ≤ c) (hm : c ≤ maxLen) : Fr E w B (some ⟨g, 0, none⟩) c xs :=
 ⟨hl, hm, .inr ⟨g, rest, rfl, hB, hb, hr⟩⟩
end

/-- The one block that a write through the slice may turn. -/
def rowOf (A : Option Addr) (c : Nat) : Option Nat := if c = 0 then none else A.map (·.block)
theorem rowOf_some {g c : Nat} (h : 0 < c) : rowOf (some ⟨g, 0, none⟩) c = some g := by
 unfold rowOf; rw [if_neg (by omega)]; rfl
theorem Fr.row {α : Type} [Rec α] {w : World} {A : Option Addr} {xs : List α} {E : TypeId} {B c : Nat} (h : Fr E w B A c xs) : ∀ b, rowOf A c = some b → B ≤ b ∧ b < w.heap.size := by
 intro b hb
 rcases h.where_ with h0 | ⟨g, rfl, h1, h2⟩
 ·unfold rowOf at hb
  rw [if_pos h0] at hb
  cases hb
 ·unfold rowOf at hb
  split at hb
  ·cases hb
  ·injection hb with hb
   subst hb
   exact ⟨h1, h2⟩
/-- A slice that lies apart from the row that is written. -/
theorem Fr.apart {α : Type} [Rec α] {w w' : World} {A : Option Addr} {xs : List α} {E : TypeId} {B c : Nat} {row : Option Nat} {lo hi lo' hi' : Nat} (h : Fr E w B A c xs) (k : w.grownBy w' row)
  (hr : ∀ b, row = some b → lo ≤ b ∧ b < hi) (ha : ∀ b, rowOf A c = some b → lo' ≤ b ∧ b < hi') (hne : hi ≤ lo' ∨ hi' ≤ lo) : Fr E w' B A c xs :=
 h.grown k fun b hb => by
  by_cases hc : c = 0
  ·exact .inl hc
  ·refine .inr ?_
   rintro rfl
   have h1 := hr b hb
   have h2 := ha b (rowOf_some (by omega))
   omega

theorem ret_bool {a b : Bool} (h : a = b) : Ending.returned (.bool a) = .returned (.bool b) := by rw [h]
theorem ret_int {k : IntKind} {a b : Int} (h : a = b) : Ending.returned (.int k a) = .returned (.int k b) := by rw [h]

end Go.Proofs.YtbdlpbladpppjaaGreatDoor
namespace Go.Proofs.YtbdlpbladpppjaaGreatDoor
open Go.ChangeShapes Go.WideShapes Go.ChangeAt Go.RowKit
open Rec (sz cs)

structure OwnD where
 space : Int
 tag : Int
deriving DecidableEq, Inhabited

structure KeyD where
 space : Int
 page : Int
deriving DecidableEq, Inhabited

structure FrameD where
 used : Bool
 key : KeyD
 rights : Int
 next : Int
deriving DecidableEq, Inhabited

structure LineD where
 valid : Bool
 tag : Int
 page : Int
 frame : Int
 rights : Int
 wired : Bool
deriving DecidableEq, Inhabited

structure NoteD where
 key : KeyD
 frame : Int
deriving DecidableEq, Inhabited

instance : Rec Int where
 sz := 1
 cs n := [.int .i64 n]
 len _ := rfl
 pos := by decide
 one _ u hu := by simp at hu; subst hu; rfl

instance : Rec Bool where
 sz := 1
 cs b := [.bool b]
 len _ := rfl
 pos := by decide
 one _ u hu := by simp at hu; subst hu; rfl

instance : Rec OwnD where
 sz := 2
 cs o := [.int .i64 o.space, .int .i64 o.tag]
 len _ := rfl
 pos := by decide
 one _ u hu := by simp at hu; rcases hu with rfl | rfl <;> rfl

instance : Rec KeyD where
 sz := 2
 cs o := [.int .i64 o.space, .int .i64 o.page]
 len _ := rfl
 pos := by decide
 one _ u hu := by simp at hu; rcases hu with rfl | rfl <;> rfl

instance : Rec NoteD where
 sz := 3
 cs o := [.int .i64 o.key.space, .int .i64 o.key.page, .int .i64 o.frame]
 len _ := rfl
 pos := by decide
 one _ u hu := by simp at hu; rcases hu with rfl | rfl | rfl <;> rfl

instance : Rec FrameD where
 sz := 5
 cs o := [.bool o.used, .int .i64 o.key.space, .int .i64 o.key.page, .int .i64 o.rights, .int .i64 o.next]
 len _ := rfl
 pos := by decide
 one _ u hu := by simp at hu; rcases hu with rfl | rfl | rfl | rfl | rfl <;> rfl

instance : Rec LineD where
 sz := 6
 cs o := [.bool o.valid, .int .i64 o.tag, .int .i64 o.page, .int .i64 o.frame, .int .i64 o.rights, .bool o.wired]
 len _ := rfl
 pos := by decide
 one _ u hu := by simp at hu; rcases hu with rfl | rfl | rfl | rfl | rfl | rfl <;> rfl

structure TagsD where
 count : Int
 next : Int
 round : Int
 owns : List OwnD
deriving DecidableEq, Inhabited

structure CacheD where
 lines : List LineD
 hand : Int
deriving DecidableEq, Inhabited

structure TableD where
 buckets : List Int
 frames : List FrameD
deriving DecidableEq, Inhabited

structure MachD where
 table : TableD
 cache : CacheD
 tags : TagsD
 space : Int
deriving DecidableEq, Inhabited

structure MemD where
 mach : MachD
 marks : List Bool
 hand : Int
deriving DecidableEq, Inhabited

section
variable {w : World} {A : Option Addr} {k : Nat}

/-! ### One element, in the walk's own spelling -/
theorem Rd.own {xs : List OwnD} (h : Rd w A xs) (hk : k < xs.length) : ∃ b off x, A = some ⟨b, off, none⟩ ∧ b < w.heap.size ∧ xs[k]? = some x ∧
  w.cell? ⟨b, off + k * 2, none⟩ = some (.int .i64 x.space) ∧ w.cell? ⟨b, off + k * 2 + 1, none⟩ = some (.int .i64 x.tag) := by
 obtain ⟨b, off, x, e, hb, hx, hc⟩ := h.at_ hk
 exact ⟨b, off, x, e, hb, hx, hc 0 _ (by decide) rfl, hc 1 _ (by decide) rfl⟩
theorem Rd.own_known {b off : Nat} {xs : List OwnD} (h : Rd w (some ⟨b, off, none⟩) xs) (hk : k < xs.length) : ∃ x, b < w.heap.size ∧ xs[k]? = some x ∧
  w.cell? ⟨b, off + k * 2, none⟩ = some (.int .i64 x.space) ∧ w.cell? ⟨b, off + k * 2 + 1, none⟩ = some (.int .i64 x.tag) := by
 obtain ⟨x, hb, hx, hc⟩ := h.at_known hk
 exact ⟨x, hb, hx, hc 0 _ (by decide) rfl, hc 1 _ (by decide) rfl⟩
theorem Rd.int {xs : List Int} (h : Rd w A xs) (hk : k < xs.length) : ∃ b off x, A = some ⟨b, off, none⟩ ∧ b < w.heap.size ∧ xs[k]? = some x ∧
  w.cell? ⟨b, off + k, none⟩ = some (.int .i64 x) := by
 obtain ⟨b, off, x, e, hb, hx, hc⟩ := h.at_ hk
 exact ⟨b, off, x, e, hb, hx, by have := hc 0 _ (by decide) rfl; simpa [sz] using this⟩
theorem Rd.bool {xs : List Bool} (h : Rd w A xs) (hk : k < xs.length) : ∃ b off x, A = some ⟨b, off, none⟩ ∧ b < w.heap.size ∧ xs[k]? = some x ∧
  w.cell? ⟨b, off + k, none⟩ = some (.bool x) := by
 obtain ⟨b, off, x, e, hb, hx, hc⟩ := h.at_ hk
 exact ⟨b, off, x, e, hb, hx, by have := hc 0 _ (by decide) rfl; simpa [sz] using this⟩
theorem Rd.line {xs : List LineD} (h : Rd w A xs) (hk : k < xs.length) : ∃ b off x, A = some ⟨b, off, none⟩ ∧ b < w.heap.size ∧ xs[k]? = some x ∧
  w.cell? ⟨b, off + k * 6, none⟩ = some (.bool x.valid) ∧ w.cell? ⟨b, off + k * 6 + 1, none⟩ = some (.int .i64 x.tag) ∧
  w.cell? ⟨b, off + k * 6 + 2, none⟩ = some (.int .i64 x.page) ∧ w.cell? ⟨b, off + k * 6 + 3, none⟩ = some (.int .i64 x.frame) ∧
  w.cell? ⟨b, off + k * 6 + 4, none⟩ = some (.int .i64 x.rights) ∧ w.cell? ⟨b, off + k * 6 + 5, none⟩ = some (.bool x.wired) := by
 obtain ⟨b, off, x, e, hb, hx, hc⟩ := h.at_ hk
 exact ⟨b, off, x, e, hb, hx, hc 0 _ (by decide) rfl, hc 1 _ (by decide) rfl, hc 2 _ (by decide) rfl, hc 3 _ (by decide) rfl, hc 4 _ (by decide) rfl, hc 5 _ (by decide) rfl⟩
theorem Rd.line_known {b off : Nat} {xs : List LineD} (h : Rd w (some ⟨b, off, none⟩) xs) (hk : k < xs.length) : ∃ x, b < w.heap.size ∧ xs[k]? = some x ∧
  w.cell? ⟨b, off + k * 6, none⟩ = some (.bool x.valid) ∧ w.cell? ⟨b, off + k * 6 + 1, none⟩ = some (.int .i64 x.tag) ∧
  w.cell? ⟨b, off + k * 6 + 2, none⟩ = some (.int .i64 x.page) ∧ w.cell? ⟨b, off + k * 6 + 3, none⟩ = some (.int .i64 x.frame) ∧
  w.cell? ⟨b, off + k * 6 + 4, none⟩ = some (.int .i64 x.rights) ∧ w.cell? ⟨b, off + k * 6 + 5, none⟩ = some (.bool x.wired) := by
 obtain ⟨x, hb, hx, hc⟩ := h.at_known hk
 exact ⟨x, hb, hx, hc 0 _ (by decide) rfl, hc 1 _ (by decide) rfl, hc 2 _ (by decide) rfl, hc 3 _ (by decide) rfl, hc 4 _ (by decide) rfl, hc 5 _ (by decide) rfl⟩
theorem Rd.frame {xs : List FrameD} (h : Rd w A xs) (hk : k < xs.length) : ∃ b off x, A = some ⟨b, off, none⟩ ∧ b < w.heap.size ∧ xs[k]? = some x ∧
  w.cell? ⟨b, off + k * 5, none⟩ = some (.bool x.used) ∧ w.cell? ⟨b, off + k * 5 + 1, none⟩ = some (.int .i64 x.key.space) ∧
  w.cell? ⟨b, off + k * 5 + 2, none⟩ = some (.int .i64 x.key.page) ∧ w.cell? ⟨b, off + k * 5 + 3, none⟩ = some (.int .i64 x.rights) ∧
  w.cell? ⟨b, off + k * 5 + 4, none⟩ = some (.int .i64 x.next) := by
 obtain ⟨b, off, x, e, hb, hx, hc⟩ := h.at_ hk
 exact ⟨b, off, x, e, hb, hx, hc 0 _ (by decide) rfl, hc 1 _ (by decide) rfl, hc 2 _ (by decide) rfl, hc 3 _ (by decide) rfl, hc 4 _ (by decide) rfl⟩
end

/-! ### Elements of a row of the call's own -/
section
variable {E g k : Nat} {w : World} {rest : List Value}
theorem Bk.own {zs : List OwnD} {z : OwnD} (h : Bk E w g zs rest) (hz : zs[k]? = some z) : w.cell? ⟨g, k * 2, none⟩ = some (.int .i64 z.space) ∧ w.cell? ⟨g, k * 2 + 1, none⟩ = some (.int .i64 z.tag) :=
 ⟨h.cell_at hz (j := 0) (by decide) rfl, h.cell_at hz (j := 1) (by decide) rfl⟩
theorem Bk.line {zs : List LineD} {z : LineD} (h : Bk E w g zs rest) (hz : zs[k]? = some z) : w.cell? ⟨g, k * 6, none⟩ = some (.bool z.valid) ∧ w.cell? ⟨g, k * 6 + 1, none⟩ = some (.int .i64 z.tag) ∧ w.cell? ⟨g, k * 6 + 2, none⟩ = some (.int .i64 z.page) ∧ w.cell? ⟨g, k * 6 + 3, none⟩ = some (.int .i64 z.frame) ∧ w.cell? ⟨g, k * 6 + 4, none⟩ = some (.int .i64 z.rights) ∧ w.cell? ⟨g, k * 6 + 5, none⟩ = some (.bool z.wired) :=
 ⟨h.cell_at hz (j := 0) (by decide) rfl, h.cell_at hz (j := 1) (by decide) rfl, h.cell_at hz (j := 2) (by decide) rfl, h.cell_at hz (j := 3) (by decide) rfl, h.cell_at hz (j := 4) (by decide) rfl, h.cell_at hz (j := 5) (by decide) rfl⟩
theorem Bk.set_line {zs : List LineD} (h : Bk E w g zs rest) (x : LineD) (hk : k < zs.length) : Bk E ((((((w.setCell ⟨g, k * 6, none⟩ (.bool x.valid)).setCell ⟨g, k * 6 + 1, none⟩ (.int .i64 x.tag)).setCell ⟨g, k * 6 + 2, none⟩ (.int .i64 x.page)).setCell ⟨g, k * 6 + 3, none⟩ (.int .i64 x.frame)).setCell ⟨g, k * 6 + 4, none⟩ (.int .i64 x.rights)).setCell ⟨g, k * 6 + 5, none⟩ (.bool x.wired)) g (zs.set k x) rest := by
 obtain ⟨z, hz⟩ : ∃ z, zs[k]? = some z := ⟨_, List.getElem?_eq_getElem hk⟩
 have h1 := Bk.set h (k := k) (j := 0) (x := (z : LineD)) (y := (⟨x.valid, z.tag, z.page, z.frame, z.rights, z.wired⟩ : LineD)) (u := (.bool x.valid)) (off := k * 6) hz (by decide) rfl (by simp [sz])
 have h2 := Bk.set h1 (k := k) (j := 1) (x := (⟨x.valid, z.tag, z.page, z.frame, z.rights, z.wired⟩ : LineD)) (y := (⟨x.valid, x.tag, z.page, z.frame, z.rights, z.wired⟩ : LineD)) (u := (.int .i64 x.tag)) (off := k * 6 + 1) (by rw [List.getElem?_set_self (by simpa using hk)]) (by decide) rfl (by simp [sz])
 rw [List.set_set] at h2
 have h3 := Bk.set h2 (k := k) (j := 2) (x := (⟨x.valid, x.tag, z.page, z.frame, z.rights, z.wired⟩ : LineD)) (y := (⟨x.valid, x.tag, x.page, z.frame, z.rights, z.wired⟩ : LineD)) (u := (.int .i64 x.page)) (off := k * 6 + 2) (by rw [List.getElem?_set_self (by simpa using hk)]) (by decide) rfl (by simp [sz])
 rw [List.set_set] at h3
 have h4 := Bk.set h3 (k := k) (j := 3) (x := (⟨x.valid, x.tag, x.page, z.frame, z.rights, z.wired⟩ : LineD)) (y := (⟨x.valid, x.tag, x.page, x.frame, z.rights, z.wired⟩ : LineD)) (u := (.int .i64 x.frame)) (off := k * 6 + 3) (by rw [List.getElem?_set_self (by simpa using hk)]) (by decide) rfl (by simp [sz])
 rw [List.set_set] at h4
 have h5 := Bk.set h4 (k := k) (j := 4) (x := (⟨x.valid, x.tag, x.page, x.frame, z.rights, z.wired⟩ : LineD)) (y := (⟨x.valid, x.tag, x.page, x.frame, x.rights, z.wired⟩ : LineD)) (u := (.int .i64 x.rights)) (off := k * 6 + 4) (by rw [List.getElem?_set_self (by simpa using hk)]) (by decide) rfl (by simp [sz])
 rw [List.set_set] at h5
 have h6 := Bk.set h5 (k := k) (j := 5) (x := (⟨x.valid, x.tag, x.page, x.frame, x.rights, z.wired⟩ : LineD)) (y := (⟨x.valid, x.tag, x.page, x.frame, x.rights, x.wired⟩ : LineD)) (u := (.bool x.wired)) (off := k * 6 + 5) (by rw [List.getElem?_set_self (by simpa using hk)]) (by decide) rfl (by simp [sz])
 rw [List.set_set] at h6
 exact h6
theorem Bk.frame {zs : List FrameD} {z : FrameD} (h : Bk E w g zs rest) (hz : zs[k]? = some z) : w.cell? ⟨g, k * 5, none⟩ = some (.bool z.used) ∧ w.cell? ⟨g, k * 5 + 1, none⟩ = some (.int .i64 z.key.space) ∧ w.cell? ⟨g, k * 5 + 2, none⟩ = some (.int .i64 z.key.page) ∧ w.cell? ⟨g, k * 5 + 3, none⟩ = some (.int .i64 z.rights) ∧ w.cell? ⟨g, k * 5 + 4, none⟩ = some (.int .i64 z.next) :=
 ⟨h.cell_at hz (j := 0) (by decide) rfl, h.cell_at hz (j := 1) (by decide) rfl, h.cell_at hz (j := 2) (by decide) rfl, h.cell_at hz (j := 3) (by decide) rfl, h.cell_at hz (j := 4) (by decide) rfl⟩
theorem Bk.set_frame {zs : List FrameD} (h : Bk E w g zs rest) (x : FrameD) (hk : k < zs.length) : Bk E (((((w.setCell ⟨g, k * 5, none⟩ (.bool x.used)).setCell ⟨g, k * 5 + 1, none⟩ (.int .i64 x.key.space)).setCell ⟨g, k * 5 + 2, none⟩ (.int .i64 x.key.page)).setCell ⟨g, k * 5 + 3, none⟩ (.int .i64 x.rights)).setCell ⟨g, k * 5 + 4, none⟩ (.int .i64 x.next)) g (zs.set k x) rest := by
 obtain ⟨z, hz⟩ : ∃ z, zs[k]? = some z := ⟨_, List.getElem?_eq_getElem hk⟩
 have h1 := Bk.set h (k := k) (j := 0) (x := (z : FrameD)) (y := (⟨x.used, ⟨z.key.space, z.key.page⟩, z.rights, z.next⟩ : FrameD)) (u := (.bool x.used)) (off := k * 5) hz (by decide) rfl (by simp [sz])
 have h2 := Bk.set h1 (k := k) (j := 1) (x := (⟨x.used, ⟨z.key.space, z.key.page⟩, z.rights, z.next⟩ : FrameD)) (y := (⟨x.used, ⟨x.key.space, z.key.page⟩, z.rights, z.next⟩ : FrameD)) (u := (.int .i64 x.key.space)) (off := k * 5 + 1) (by rw [List.getElem?_set_self (by simpa using hk)]) (by decide) rfl (by simp [sz])
 rw [List.set_set] at h2
 have h3 := Bk.set h2 (k := k) (j := 2) (x := (⟨x.used, ⟨x.key.space, z.key.page⟩, z.rights, z.next⟩ : FrameD)) (y := (⟨x.used, ⟨x.key.space, x.key.page⟩, z.rights, z.next⟩ : FrameD)) (u := (.int .i64 x.key.page)) (off := k * 5 + 2) (by rw [List.getElem?_set_self (by simpa using hk)]) (by decide) rfl (by simp [sz])
 rw [List.set_set] at h3
 have h4 := Bk.set h3 (k := k) (j := 3) (x := (⟨x.used, ⟨x.key.space, x.key.page⟩, z.rights, z.next⟩ : FrameD)) (y := (⟨x.used, ⟨x.key.space, x.key.page⟩, x.rights, z.next⟩ : FrameD)) (u := (.int .i64 x.rights)) (off := k * 5 + 3) (by rw [List.getElem?_set_self (by simpa using hk)]) (by decide) rfl (by simp [sz])
 rw [List.set_set] at h4
 have h5 := Bk.set h4 (k := k) (j := 4) (x := (⟨x.used, ⟨x.key.space, x.key.page⟩, x.rights, z.next⟩ : FrameD)) (y := (⟨x.used, ⟨x.key.space, x.key.page⟩, x.rights, x.next⟩ : FrameD)) (u := (.int .i64 x.next)) (off := k * 5 + 4) (by rw [List.getElem?_set_self (by simpa using hk)]) (by decide) rfl (by simp [sz])
 rw [List.set_set] at h5
 exact h5
theorem Bk.key {zs : List KeyD} {z : KeyD} (h : Bk E w g zs rest) (hz : zs[k]? = some z) : w.cell? ⟨g, k * 2, none⟩ = some (.int .i64 z.space) ∧ w.cell? ⟨g, k * 2 + 1, none⟩ = some (.int .i64 z.page) :=
 ⟨h.cell_at hz (j := 0) (by decide) rfl, h.cell_at hz (j := 1) (by decide) rfl⟩
theorem Bk.int {zs : List Int} {z : Int} (h : Bk E w g zs rest) (hz : zs[k]? = some z) : w.cell? ⟨g, k, none⟩ = some (.int .i64 z) :=
 by have := h.cell_at hz (j := 0) (by decide) rfl; simpa [sz] using this
theorem Bk.set_int {zs : List Int} (h : Bk E w g zs rest) (x : Int) (hk : k < zs.length) : Bk E (w.setCell ⟨g, k, none⟩ (.int .i64 x)) g (zs.set k x) rest := by
 exact h.set (List.getElem?_eq_getElem hk) (j := 0) (y := x) (by decide) rfl (by simp [sz])
theorem Bk.bool {zs : List Bool} {z : Bool} (h : Bk E w g zs rest) (hz : zs[k]? = some z) : w.cell? ⟨g, k, none⟩ = some (.bool z) :=
 by have := h.cell_at hz (j := 0) (by decide) rfl; simpa [sz] using this
theorem Bk.set_bool {zs : List Bool} (h : Bk E w g zs rest) (x : Bool) (hk : k < zs.length) : Bk E (w.setCell ⟨g, k, none⟩ (.bool x)) g (zs.set k x) rest := by
 exact h.set (List.getElem?_eq_getElem hk) (j := 0) (y := x) (by decide) rfl (by simp [sz])
end

/-! ### Comparing lists element by element -/

theorem getElem?_lt {α : Type} {xs : List α} {k : Nat} {x : α} (h : xs[k]? = some x) : k < xs.length := (List.getElem?_eq_some_iff.1 h).1

theorem take_succ_of {α : Type} {xs : List α} {k : Nat} {x : α} (h : xs[k]? = some x) : xs.take (k + 1) = xs.take k ++ [x] := by
 rw [List.take_add_one, h]; rfl

theorem take_eq_step {α : Type} {xs ys : List α} {k : Nat} {x y : α} (hx : xs[k]? = some x) (hy : ys[k]? = some y) :
  xs.take (k + 1) = ys.take (k + 1) ↔ xs.take k = ys.take k ∧ x = y := by
 rw [take_succ_of hx, take_succ_of hy]
 have h1 : (xs.take k).length = (ys.take k).length := by
  have := getElem?_lt hx
  have := getElem?_lt hy
  rw [List.length_take, List.length_take]; omega
 constructor
 ·intro h
  have := List.append_inj h h1
  exact ⟨this.1, by simpa using this.2⟩
 ·rintro ⟨h, rfl⟩
  rw [h]

theorem ne_of_elem {α : Type} {xs ys : List α} {k : Nat} {x y : α} (hx : xs[k]? = some x) (hy : ys[k]? = some y) (h : x ≠ y) : xs ≠ ys := by
 rintro rfl
 rw [hx] at hy
 injection hy with hy
 exact h hy

theorem eq_of_take {α : Type} {xs ys : List α} {n : Nat} (hx : xs.length = n) (hy : ys.length = n) (h : xs.take n = ys.take n) : xs = ys := by
 rwa [List.take_of_length_le (by omega), List.take_of_length_le (by omega)] at h


/-- 0 ≤ n < e, as a Bool that the walk leaves alone. -/
def inB (n e : Int) : Bool := decide (0 ≤ n ∧ n < e)
theorem inB_true {n e : Int} : inB n e = true ↔ 0 ≤ n ∧ n < e := by simp [inB]
theorem inB_false {n e : Int} : inB n e = false ↔ ¬ (0 ≤ n ∧ n < e) := by simp [inB]

/-- Equality of data, as a Bool that the walk leaves alone. -/
def eqB {α : Type} [DecidableEq α] (a b : α) : Bool := decide (a = b)
theorem eqB_true {α : Type} [DecidableEq α] {a b : α} : eqB a b = true ↔ a = b := by simp [eqB]
theorem eqB_false {α : Type} [DecidableEq α] {a b : α} : eqB a b = false ↔ a ≠ b := by simp [eqB]
theorem eqB_self {α : Type} [DecidableEq α] (a : α) : eqB a a = true := by simp [eqB]

end Go.Proofs.YtbdlpbladpppjaaGreatDoor
namespace Go.Proofs.YtbdlpbladpppjaaGreatDoor
open Go.ChangeShapes Go.WideShapes Go.ChangeAt Go.RowKit
open Rec (sz cs)

/-- Of the blocks that were there, only those from lo on and before hi may have turned. -/
structure Chg (lo hi : Nat) (w w' : World) : Prop where
 os : w'.os = w.os
 tape : w'.tape = w.tape
 output : w'.output = w.output
 size : w.heap.size ≤ w'.heap.size
 block : ∀ i, i < w.heap.size → ¬ (lo ≤ i ∧ i < hi) → w'.heap[i]? = w.heap[i]?

section
variable {lo hi lo' hi' : Nat} {a w w' w'' : World}
theorem Chg.refl (lo hi : Nat) (w : World) : Chg lo hi w w := ⟨rfl, rfl, rfl, Nat.le_refl _, fun _ _ _ => rfl⟩
theorem Chg.of_ex (h : Ex w w') : Chg 0 0 w w' := ⟨h.os, h.tape, h.output, h.size, fun _ hi _ => h.block hi⟩
theorem Chg.of_grown {row : Option Nat} (h : w.grownBy w' row) (hr : ∀ b, row = some b → lo ≤ b ∧ b < hi) : Chg lo hi w w' :=
 ⟨h.os, h.tape, h.output, h.size, fun i hi hn => h.block i hi (fun e => hn (hr i e.symm))⟩
theorem Chg.mono (h : Chg lo hi w w') (h1 : lo' ≤ lo) (h2 : hi ≤ hi') : Chg lo' hi' w w' := ⟨h.os, h.tape, h.output, h.size, fun i hi hn => h.block i hi (fun e => hn ⟨Nat.le_trans h1 e.1, Nat.lt_of_lt_of_le e.2 h2⟩)⟩
theorem Chg.mono' (h : Chg 0 0 w w') (lo hi : Nat) : Chg lo hi w w' := ⟨h.os, h.tape, h.output, h.size, fun i hi _ => h.block i hi (by omega)⟩
theorem Chg.trans (h : Chg lo hi w w') (k : Chg lo hi w' w'') : Chg lo hi w w'' :=
 ⟨k.os.trans h.os, k.tape.trans h.tape, k.output.trans h.output, Nat.le_trans h.size k.size, fun i hi hn => (k.block i (Nat.lt_of_lt_of_le hi h.size) hn).trans (h.block i hi hn)⟩
theorem Chg.step {l h : Nat} (e : Chg lo hi a w) (k : Chg l h w w') (hl : h ≤ l ∨ a.heap.size ≤ l ∨ (lo ≤ l ∧ h ≤ hi)) : Chg lo hi a w' :=
 ⟨k.os.trans e.os, k.tape.trans e.tape, k.output.trans e.output, Nat.le_trans e.size k.size, fun i hi' hn => (k.block i (Nat.lt_of_lt_of_le hi' e.size) (by omega)).trans (e.block i hi' hn)⟩
theorem Chg.grown {g : Nat} (k : Chg g (g + 1) w w') : w.grownBy w' (some g) :=
 ⟨k.os, k.tape, k.output, k.size, fun i hi hn => k.block i hi (fun e => hn (by congr 1; omega))⟩
theorem Chg.alloc (h : Chg lo hi a w) (o : Obj) : Chg lo hi a (w.alloc o) :=
 ⟨h.os, h.tape, h.output, Nat.le_trans h.size (by simp), fun i hi hn => (Below.heap_alloc w o i (Nat.lt_of_lt_of_le hi h.size)).trans (h.block i hi hn)⟩
theorem Chg.drew (h : Chg lo hi a w) : Chg lo hi a w.drew := ⟨h.os, h.tape, h.output, h.size, h.block⟩
theorem Chg.drewN (h : Chg lo hi a w) (n : Nat) : Chg lo hi a (w.drewN n) := ⟨h.os, h.tape, h.output, h.size, h.block⟩
theorem Chg.set (h : Chg lo hi a w) {g o : Nat} (hp : (lo ≤ g ∧ g < hi) ∨ a.heap.size ≤ g) (u : Value) : Chg lo hi a (w.setCell ⟨g, o, none⟩ u) :=
 ⟨h.os, h.tape, h.output, by simpa [World.setCell] using h.size, fun i hi hn => (Below.heap_setCell w ⟨g, o, none⟩ u i (fun e => by rcases hp with hp | hp <;> simp at e <;> omega)).trans (h.block i hi hn)⟩
theorem Ex.put (h : Ex a w) {g o : Nat} (hp : a.heap.size ≤ g) (u : Value) : Ex a (w.setCell ⟨g, o, none⟩ u) := h.set hp u
theorem Ex.chg (h : Ex a w) (k : Chg lo hi w w') (hl : hi ≤ lo ∨ a.heap.size ≤ lo) : Ex a w' :=
 ⟨k.os.trans h.os, k.tape.trans h.tape, k.output.trans h.output, Nat.le_trans h.size k.size, fun i hi => (k.block i (Nat.lt_of_lt_of_le hi h.size) (by omega)).trans (h.block hi)⟩
theorem Chg.ex (k : Chg lo hi w w') (hl : hi ≤ lo ∨ w.heap.size ≤ lo) : Ex w w' := (Ex.refl w).chg k hl
theorem Chg.ex_ (k : Chg 0 0 w w') : Ex w w' := k.ex (.inl (Nat.le_refl _))
theorem Blk.put2 {g : Nat} {t : TypeId} {a b c d : Value} (h : Blk w g t [a, b]) : Blk ((w.setCell ⟨g, 0, none⟩ c).setCell ⟨g, 1, none⟩ d) g t [c, d] := (h.set 0 c).set 1 d
theorem Blk.chg {g : Nat} {t : TypeId} {c : List Value} (h : Blk w g t c) (k : Chg lo hi w w') (hn : g < lo ∨ hi ≤ g) : Blk w' g t c := (k.block g h.lt (by omega)).trans h
end

section
variable {α : Type} [Rec α] {lo hi l u : Nat} {w w' : World} {A : Option Addr} {xs : List α} {E : TypeId} {B c : Nat}
theorem Bk.chg {g : Nat} {rest : List Value} (h : Bk E w g xs rest) (k : Chg lo hi w w') (hn : g < lo ∨ hi ≤ g) : Bk E w' g xs rest := Blk.chg h k hn
theorem Bk.grown {g : Nat} {rest : List Value} {row : Option Nat} (h : Bk E w g xs rest) (k : w.grownBy w' row) (hn : some g ≠ row) : Bk E w' g xs rest := Blk.grown h k hn
theorem Fr.chg (h : Fr E w B A c xs) (k : Chg lo hi w w') (hr : ∀ b, rowOf A c = some b → l ≤ b ∧ b < u) (hn : u ≤ lo ∨ hi ≤ l ∨ hi ≤ lo) : Fr E w' B A c xs := by
 obtain ⟨hl, hm, h0 | ⟨g, rest, rfl, hB, hb, hs⟩⟩ := h
 ·exact ⟨hl, hm, .inl h0⟩
 ·by_cases hc : c = 0
  ·exact ⟨hl, hm, .inl hc⟩
  ·have := hr g (rowOf_some (by omega))
   exact ⟨hl, hm, .inr ⟨g, rest, rfl, hB, Blk.chg hb k (by omega), hs⟩⟩
theorem Fr.put {g o : Nat} (h : Fr E w B A c xs) (hr : ∀ b, rowOf A c = some b → b ≠ g) (v : Value) : Fr E (w.setCell ⟨g, o, none⟩ v) B A c xs := by
 obtain ⟨hl, hm, h0 | ⟨b, rest, rfl, hB, hb, hs⟩⟩ := h
 ·exact ⟨hl, hm, .inl h0⟩
 ·by_cases hc : c = 0
  ·exact ⟨hl, hm, .inl hc⟩
  ·exact ⟨hl, hm, .inr ⟨b, rest, rfl, hB, hb.far (hr b (rowOf_some (by omega))) v, hs⟩⟩
theorem Rd.chg (h : Rd w A xs) (k : Chg lo hi w w') (hn : ∀ b off, A = some ⟨b, off, none⟩ → b < lo ∨ hi ≤ b) : Rd w' A xs := fun h0 => by
 obtain ⟨b, off, rfl, hb, hc⟩ := h h0
 have hne := hn b off rfl
 exact ⟨b, off, rfl, Nat.lt_of_lt_of_le hb k.size, fun m u hu => (World.cell?_of_block (w := w) (a := ⟨b, off + m, none⟩) (k.block b hb (by omega))).trans (hc m u hu)⟩
end

/-- The world of a call gets a name. -/
theorem name_calls {P : Program} {f : FuncId} {args : Array Value} {w : World} {Q : Ending → World → Prop} (h : ∀ v, v = w → Calls P f args v Q) : Calls P f args w Q := h w rfl
end Go.Proofs.YtbdlpbladpppjaaGreatDoor
namespace Go.Proofs.YtbdlpbladpppjaaGreatDoor
open Go.ChangeShapes Go.WideShapes Go.ChangeAt Go.RowKit
open Rec (sz cs)
set_option linter.unusedVariables false
section
variable {p : Prop} {a v w w' W : World} {lo hi l u g g2 B c : Nat} {t E : TypeId} {cl : List Value} {α : Type} [Rec α] {A : Option Addr} {xs : List α}
theorem zq (h : p) : Hid p := Lib.hid h
theorem zx (hv : v = W) (h : Chg lo hi w W := by repeat' (first | with_reducible exact Chg.refl _ _ _ | with_reducible refine Chg.alloc ?_ _ | with_reducible refine Chg.drew ?_ | with_reducible refine Chg.set ?_ (by omega) _)) : Hid (Chg lo hi w v) := Lib.hid (by rw [hv]; exact h)
theorem zk (hv : v = W) (h : Blk W g t cl := by repeat' (first | with_reducible exact Blk.new_at _ _ _ (by simp) | with_reducible refine Blk.alloc ?_ _ | with_reducible refine Blk.drew ?_ | with_reducible refine Blk.far ?_ (by simp; omega) _)) : Hid (Blk v g t cl) := Lib.hid (by rw [hv]; exact h)
theorem ze (h : Ex a w) (k : Ex a w → Ex a w' := by intro h; repeat' (first | with_reducible exact h | with_reducible refine Ex.alloc ?_ _ | with_reducible refine Ex.drew ?_ | with_reducible refine Ex.put ?_ (by omega) _)) : Ex a w' := k h
theorem zc (h : Chg lo hi a w) (k : Chg lo hi a w → Chg lo hi a w' := by intro h; repeat' (first | with_reducible exact h | with_reducible refine Chg.alloc ?_ _ | with_reducible refine Chg.drew ?_ | with_reducible refine Chg.set ?_ (by omega) _)) : Chg lo hi a w' := k h
theorem zp (h : Fr E w B A c xs) (r : ∀ b, rowOf A c = some b → l ≤ b ∧ b < u) (k : (∀ b, rowOf A c = some b → l ≤ b ∧ b < u) → Fr E w B A c xs → Fr E w' B A c xs := by intro r h; repeat' (first | with_reducible exact h | with_reducible refine Fr.alloc ?_ _ | with_reducible refine Fr.put ?_ (fun b hb => by have := r b hb; omega) _)) : Fr E w' B A c xs := k r h
theorem zr (h : Fr E w B A c xs) (r : ∀ b, rowOf A c = some b → b ≠ g) (k : (∀ b, rowOf A c = some b → b ≠ g) → Fr E w B A c xs → Fr E w' B A c xs := by intro r h; repeat' (first | with_reducible exact h | with_reducible refine Fr.alloc ?_ _ | with_reducible refine Fr.put ?_ r _)) : Fr E w' B A c xs := k r h
theorem zt (h : Fr E w B A c xs) (r : ∀ b, rowOf A c = some b → b ≠ g) (r2 : ∀ b, rowOf A c = some b → b ≠ g2) (k : (∀ b, rowOf A c = some b → b ≠ g) → (∀ b, rowOf A c = some b → b ≠ g2) → Fr E w B A c xs → Fr E w' B A c xs := by intro r r2 h; repeat' (first | with_reducible exact h | with_reducible refine Fr.alloc ?_ _ | with_reducible refine Fr.put ?_ r _ | with_reducible refine Fr.put ?_ r2 _)) : Fr E w' B A c xs := k r r2 h
theorem zf (h : Blk w g t cl) (k : Blk w g t cl → Blk w' g t cl := by intro h; repeat' (first | with_reducible exact h | with_reducible refine Blk.alloc ?_ _ | with_reducible refine Blk.far ?_ (by first | (simp; done) | (simp; omega)) _)) : Blk w' g t cl := k h
end
end Go.Proofs.YtbdlpbladpppjaaGreatDoor
namespace Go.Proofs.YtbdlpbladpppjaaGreatDoor
open Go.ChangeShapes Go.WideShapes Go.ChangeAt Go.RowKit
set_option linter.unusedVariables false

theorem ownRow : ownKnob Tryz.prog.godebug = none := by kernel_rfl
theorem laidOutRow : laidOutB Tryz.prog = true := by kernel_rfl

section
open Go.Deep Go.Joins
open Rec (sz cs)
variable {H : Type} {enc : TypeId × Value → H} {P : Program} {w : World} {base : Nat} {spare : Nat → Bool} {held : Bool}

/-- From facts on each element to a list. -/
theorem rd_build {α : Type} [Rec α] [Inhabited α] (a : Addr) (len : Nat) (h : ∀ i, i < len → ∃ x : α, ∀ j u, (cs x)[j]? = some u → w.cell? (a.add (i * sz α + j)) = some u) :
  ∃ xs : List α, xs.length = len ∧ Rd w (some a) xs := by
 have hch : ∀ i, ∃ x : α, i < len → ∀ j u, (cs x)[j]? = some u → w.cell? (a.add (i * sz α + j)) = some u := fun i => by
  by_cases hi : i < len
  ·obtain ⟨x, hx⟩ := h i hi
   exact ⟨x, fun _ => hx⟩
  ·exact ⟨default, fun h => absurd h hi⟩
 refine ⟨(List.range len).map fun i => Classical.choose (hch i), by simp, fun hn => ?_⟩
 have hlen : 0 < len := by simpa using hn
 obtain ⟨b, off, spot⟩ := a
 have hp : 0 < sz α := Rec.pos
 have h0 := Classical.choose_spec (hch 0) hlen 0 _ (List.getElem?_eq_getElem (by rw [Rec.len]; exact hp))
 have hspot : spot = none := by simpa [Addr.add] using World.cell?_spot h0
 subst hspot
 have hb := block_lt_of_cell h0
 simp only [Addr.add] at hb
 refine ⟨b, off, rfl, by simpa [Addr.add] using hb, fun m u hu => ?_⟩
 have hm : m < len * sz α := by
  have := (List.getElem?_eq_some_iff.1 hu).1
  rw [flat_length] at this
  simpa using this
 have hd : m / sz α < len := (Nat.div_lt_iff_lt_mul hp).2 hm
 have hmm : m % sz α < sz α := Nat.mod_lt _ hp
 have hi : m / sz α * sz α + m % sz α = m := by rw [Nat.mul_comm]; exact Nat.div_add_mod m (sz α)
 have hg := flat_get ((List.range len).map fun i => Classical.choose (hch i)) (m / sz α) (m % sz α) (Classical.choose (hch (m / sz α))) (by simp [hd]) hmm
 rw [hi, hu] at hg
 have := Classical.choose_spec (hch (m / sz α)) hd (m % sz α) u hg.symm
 rw [hi] at this
 rw [← this]
 congr 1
 unfold Addr.add
 split <;> simp_all

end

/-! ### Facts on the whole program that each row asks. The program's head is long: its letters are laid as numbers, so that the kernel need not decode it. -/
def headNums : List Nat := [104, 97, 114, 110, 101, 115, 115, 32, 48, 55, 52, 54, 102, 99, 56, 48, 56, 50, 51, 56, 101, 100, 99, 100, 102, 56, 97, 56, 100, 100, 51, 57, 102, 57, 97, 49, 54, 101, 101, 55, 51, 51, 97, 101, 56, 51, 53, 51, 102, 49, 52, 48, 97, 100, 55, 54, 48, 101, 54, 50, 56, 102, 100, 50, 55, 52, 100, 51, 50, 52, 48, 56, 32, 99, 117, 116, 32, 97, 116, 32, 108, 111, 111, 112, 46, 101, 120, 97, 109, 112, 108, 101, 47, 105, 110, 118, 101, 114, 116, 101, 100, 112, 97, 103, 101, 115, 47, 108, 97, 119, 115, 46, 70, 110, 70, 114, 101, 101, 70, 114, 97, 109, 101, 32, 108, 111, 111, 112, 46, 101, 120, 97, 109, 112, 108, 101, 47, 105, 110, 118, 101, 114, 116, 101, 100, 112, 97, 103, 101, 115, 47, 108, 97, 119, 115, 46, 70, 110, 77, 101, 109, 111, 114, 121, 83, 97, 109, 101]
def headRest : List (List Nat) := [[97, 116], [108, 111, 111, 112, 46, 101, 120, 97, 109, 112, 108, 101, 47, 105, 110, 118, 101, 114, 116, 101, 100, 112, 97, 103, 101, 115, 47, 108, 97, 119, 115, 46, 70, 110, 70, 114, 101, 101, 70, 114, 97, 109, 101], [108, 111, 111, 112, 46, 101, 120, 97, 109, 112, 108, 101, 47, 105, 110, 118, 101, 114, 116, 101, 100, 112, 97, 103, 101, 115, 47, 108, 97, 119, 115, 46, 70, 110, 77, 101, 109, 111, 114, 121, 83, 97, 109, 101]]
set_option maxRecDepth 100000 in
theorem headO : Tryz.prog.initOrder = String.ofList (headNums.map Char.ofNat) := by kernel_rfl
theorem headL : Tryz.prog.initOrder.toList = headNums.map Char.ofNat := by rw [headO, String.toList_ofList]
set_option maxRecDepth 100000 in
theorem headW : behindMainWord (wordsSigns (headNums.map Char.ofNat)) = "cut".toList :: headRest.map (List.map Char.ofNat) := by kernel_rfl
theorem headCut : behindMainWord (wordsSigns Tryz.prog.initOrder.toList) = "cut".toList :: headRest.map (List.map Char.ofNat) := by
 rw [headL, headW]
theorem strip_cut (rest : List (List Char)) : stripLifts liftWords ("cut".toList :: rest) = ([], "cut".toList :: rest) := by
 simp [liftWords, stripLifts]
theorem make_of_cut {P : Program} {rest : List (List Char)} (h : behindMainWord (wordsSigns P.initOrder.toList) = "cut".toList :: rest) : P.make = some .cut := by
 unfold Program.make
 rw [h]
 simp
theorem final_of_cut {P : Program} {rest : List (List Char)} (h : behindMainWord (wordsSigns P.initOrder.toList) = "cut".toList :: rest) : P.liftsFinal = false := by
 unfold Program.liftsFinal Program.headLifts
 rw [h, strip_cut]
 simp
theorem enter_of_cut {P : Program} {rest : List (List Char)} (h : behindMainWord (wordsSigns P.initOrder.toList) = "cut".toList :: rest) (h1 : P.laysLater = false) (h2 : P.bearsReflect = false) (h3 : P.doorFits [] = true) : P.mayEnter = true := by
 unfold Program.mayEnter
 rw [h]
 simp only [strip_cut, h1, h2, h3]
 simp
theorem progFinal : Tryz.prog.liftsFinal = false := final_of_cut headCut
theorem progMake : Tryz.prog.make = some .cut := make_of_cut headCut
theorem progLater : Tryz.prog.laysLater = false := by kernel_rfl
theorem progReflect : Tryz.prog.bearsReflect = false := by kernel_rfl
theorem progDoor : Tryz.prog.doorFits [] = true := by kernel_rfl
theorem progEnter : Tryz.prog.mayEnter = true := enter_of_cut headCut progLater progReflect progDoor
theorem progMaps : mapsRowed Tryz.prog = true := by kernel_rfl
theorem progHeard : Tryz.prog.stopsHeard = true := by kernel_rfl
end Go.Proofs.YtbdlpbladpppjaaGreatDoor
namespace Go.Proofs.YtbdlpbladpppjaaGreatDoor
open Go.ChangeShapes Go.WideShapes Go.ChangeAt Go.RowKit
set_option linter.unusedVariables false
set_option maxRecDepth 100000

set_option maxHeartbeats 400000 in
theorem within_c (n e : Int) (w : World) : Calls Tryz.prog 16 #[.int .i64 n, .int .i64 e] w fun r w' => r = .returned (.bool (inB n e)) ∧ w = w' := by
 by_cases h0 : 0 ≤ n
 ·go_enter Tryz.func16, Tryz.ntmps16
  go_wp2
  go_ret
  exact ⟨ret_bool (by rw [Bool.eq_iff_iff, inB_true]; simp [h0]), rfl⟩
 ·go_enter Tryz.func16, Tryz.ntmps16
  go_wp2
  go_ret
  exact ⟨ret_bool (by rw [Bool.eq_iff_iff, inB_true]; simp; omega), rfl⟩

end Go.Proofs.YtbdlpbladpppjaaGreatDoor
namespace Go.Proofs.YtbdlpbladpppjaaGreatDoor
open Go.ChangeShapes Go.WideShapes Go.ChangeAt Go.RowKit
set_option linter.unusedVariables false

def keyOk (k : KeyD) : Prop := (0 ≤ k.space ∧ k.space < 16) ∧ (0 ≤ k.page ∧ k.page < 256)
def hashK (k : KeyD) (n : Int) : Int := (k.space * 256 + k.page) * 2654435761 % 4294967296 * n / 4294967296
def frameOk (f : FrameD) : Prop := (f.used = false → f = ⟨false, ⟨0, 0⟩, 0, -1⟩) ∧ (f.used = true → keyOk f.key ∧ 0 ≤ f.rights ∧ f.rights < 8)
/-- The first k frames are valid, each alone, and no two of them have the same key. -/
def FramesUp (fs : List FrameD) (k : Nat) : Prop := ∀ i f, i < k → fs[i]? = some f → frameOk f ∧ ∀ j g, j < i → fs[j]? = some g → f.used = true → g.used = true → g.key ≠ f.key
def usedN (fs : List FrameD) (k : Nat) : Nat := ((fs.take k).filter (·.used)).length
theorem usedN_zero (fs : List FrameD) : usedN fs 0 = 0 := rfl
theorem usedN_succ {fs : List FrameD} {k : Nat} {f : FrameD} (h : fs[k]? = some f) : usedN fs (k + 1) = usedN fs k + (if f.used = true then 1 else 0) := by
 unfold usedN
 have : fs.take (k + 1) = fs.take k ++ [f] := by rw [List.take_add_one, h]; rfl
 rw [this, List.filter_append, List.length_append]
 cases hu : f.used <;> simp [hu]
theorem framesUp_zero (fs : List FrameD) : FramesUp fs 0 := fun i f h => by omega
theorem framesUp_succ {fs : List FrameD} {k : Nat} {f : FrameD} (h : FramesUp fs k) (hf : fs[k]? = some f) (h1 : frameOk f) (h2 : ∀ j g, j < k → fs[j]? = some g → f.used = true → g.used = true → g.key ≠ f.key) : FramesUp fs (k + 1) := by
 intro i g hi hg
 by_cases e : i = k
 ·subst e
  rw [hf] at hg
  injection hg with hg
  subst hg
  exact ⟨h1, h2⟩
 ·exact h i g (by omega) hg

/-- The chain that begins at a number: -1 ends it. -/
inductive Chain (fs : List FrameD) : Int → List Nat → Prop
 | nil : Chain fs (-1) []
 | cons {i : Nat} {f : FrameD} {l : List Nat} (hf : fs[i]? = some f) (hu : f.used = true) (hl : Chain fs f.next l) : Chain fs (i : Int) (i :: l)

theorem Chain.inv {fs : List FrameD} {a : Int} {l : List Nat} (h : Chain fs a l) : (a = -1 ∧ l = []) ∨ ∃ (i : Nat) (f : FrameD) (l2 : List Nat), a = (i : Int) ∧ l = i :: l2 ∧ fs[i]? = some f ∧ f.used = true ∧ Chain fs f.next l2 := by
 cases h with
 | nil => exact .inl ⟨rfl, rfl⟩
 | cons hf hu hl => exact .inr ⟨_, _, _, rfl, rfl, hf, hu, hl⟩
theorem Chain.one {fs : List FrameD} {a : Int} {l : List Nat} (h : Chain fs a l) : ∀ {l' : List Nat}, Chain fs a l' → l = l' := by
 induction h with
 | nil =>
  intro l' h'
  rcases h'.inv with ⟨_, e⟩ | ⟨i, f, l2, e, _⟩
  ·exact e.symm
  ·omega
 | @cons i f l hf hu hl ih =>
  intro l' h'
  rcases h'.inv with ⟨e, _⟩ | ⟨j, g, l2, e, e2, hg, _, hl2⟩
  ·omega
  ·have e3 : i = j := by omega
   subst e3
   rw [hf] at hg
   injection hg with hg
   subst hg
   rw [e2, ih hl2]
theorem Chain.from {fs : List FrameD} {a : Int} {l : List Nat} (h : Chain fs a l) : ∀ {j : Nat}, j ∈ l → ∃ l2, Chain fs (j : Int) (j :: l2) ∧ l2.length < l.length := by
 induction h with
 | nil => intro j hj; cases hj
 | @cons i f l hf hu hl ih =>
  intro j hj
  rcases List.mem_cons.1 hj with e | e
  ·subst e
   exact ⟨l, .cons hf hu hl, by simp⟩
  ·obtain ⟨l2, h1, h2⟩ := ih e
   exact ⟨l2, h1, by simp; omega⟩
theorem Chain.nodup {fs : List FrameD} {a : Int} {l : List Nat} (h : Chain fs a l) : l.Nodup := by
 induction h with
 | nil => exact List.nodup_nil
 | @cons i f l hf hu hl ih =>
  refine List.nodup_cons.2 ⟨fun hi => ?_, ih⟩
  obtain ⟨l2, h1, h2⟩ := hl.from hi
  have := (Chain.cons hf hu hl).one h1
  have h3 := congrArg List.length this
  simp at h3
  omega
theorem Chain.in_ {fs : List FrameD} {a : Int} {l : List Nat} (h : Chain fs a l) : ∀ {j : Nat}, j ∈ l → ∃ f, fs[j]? = some f ∧ f.used = true := by
 induction h with
 | nil => intro j hj; cases hj
 | @cons i f l hf hu hl ih =>
  intro j hj
  rcases List.mem_cons.1 hj with e | e
  ·subst e; exact ⟨f, hf, hu⟩
  ·exact ih e
theorem nodup_few : ∀ (n : Nat) (l : List Nat), l.Nodup → (∀ j, j ∈ l → j < n) → l.length ≤ n := by
 intro n
 induction n with
 | zero =>
  intro l hn hl
  cases l with
  | nil => exact Nat.le_refl _
  | cons a l => exact absurd (hl a (by simp)) (by omega)
 | succ n ih =>
  intro l hn hl
  by_cases hm : n ∈ l
  ·have h1 := ih (l.erase n) (hn.erase n) (fun j hj => by
    have h2 := (hn.mem_erase_iff).1 hj
    have h3 := hl j h2.2
    have h4 := h2.1
    omega)
   rw [List.length_erase_of_mem hm] at h1
   omega
  ·have h1 := ih l hn (fun j hj => by
    have h3 := hl j hj
    have h4 : j ≠ n := fun e => hm (e ▸ hj)
    omega)
   omega
theorem Chain.few {fs : List FrameD} {a : Int} {l : List Nat} (h : Chain fs a l) : l.length ≤ fs.length := by
 refine nodup_few _ _ h.nodup fun j hj => ?_
 obtain ⟨f, hf, _⟩ := h.in_ hj
 exact (List.getElem?_eq_some_iff.1 hf).1

/-- Walking a chain from a0: what has been walked, and where the walk stands. -/
def Trail (fs : List FrameD) (a0 : Int) (pre : List Nat) (a : Int) : Prop := ∀ l, Chain fs a0 l ↔ ∃ l2, l = pre ++ l2 ∧ Chain fs a l2
theorem Trail.start (fs : List FrameD) (a : Int) : Trail fs a [] a := fun l => by simp
theorem Trail.step {fs : List FrameD} {a0 : Int} {pre : List Nat} {i : Nat} {f : FrameD} (h : Trail fs a0 pre (i : Int)) (hf : fs[i]? = some f) (hu : f.used = true) : Trail fs a0 (pre ++ [i]) f.next := by
 intro l
 rw [h l]
 constructor
 ·rintro ⟨l2, rfl, hc⟩
  rcases hc.inv with ⟨e, _⟩ | ⟨j, g, l3, e, e2, hg, _, hl3⟩
  ·omega
  ·have e3 : i = j := by omega
   subst e3
   rw [hf] at hg
   injection hg with hg
   subst hg
   exact ⟨l3, by rw [e2]; simp, hl3⟩
 ·rintro ⟨l2, rfl, hc⟩
  exact ⟨i :: l2, by simp, .cons hf hu hc⟩
theorem Trail.ends {fs : List FrameD} {a0 : Int} {pre : List Nat} (h : Trail fs a0 pre (-1)) : Chain fs a0 pre := (h pre).2 ⟨[], by simp, .nil⟩
/-- A number that is no used frame ends no chain. -/
theorem Trail.bad {fs : List FrameD} {a0 a : Int} {pre : List Nat} (h : Trail fs a0 pre a) (hb : ∀ (i : Nat) (f : FrameD), a = (i : Int) → fs[i]? = some f → f.used = false) (ha : a ≠ -1) (l : List Nat) : ¬ Chain fs a0 l := by
 intro hc
 obtain ⟨l2, rfl, hc2⟩ := (h l).1 hc
 rcases hc2.inv with ⟨e, _⟩ | ⟨j, g, l3, e, e2, hg, hu, hl3⟩
 ·exact ha e
 ·rw [hb j g e hg] at hu
  cases hu
theorem Trail.long {fs : List FrameD} {a0 a : Int} {pre : List Nat} (h : Trail fs a0 pre a) (hp : fs.length ≤ pre.length) (ha : a ≠ -1) (l : List Nat) : ¬ Chain fs a0 l := by
 intro hc
 have h1 := hc.few
 obtain ⟨l2, rfl, hc2⟩ := (h l).1 hc
 rcases hc2.inv with ⟨e, _⟩ | ⟨j, g, l3, e, e2, _⟩
 ·exact ha e
 ·rw [e2] at h1
  simp at h1
  omega
theorem Trail.again {fs : List FrameD} {a0 : Int} {pre : List Nat} {i : Nat} (h : Trail fs a0 pre (i : Int)) (hi : i ∈ pre) (l : List Nat) : ¬ Chain fs a0 l := by
 intro hc
 have h1 := hc.nodup
 obtain ⟨l2, rfl, hc2⟩ := (h l).1 hc
 rcases hc2.inv with ⟨e, _⟩ | ⟨j, g, l3, e, e2, _⟩
 ·omega
 ·have e3 : i = j := by omega
  subst e3
  rw [e2] at h1
  exact (List.nodup_append.1 h1).2.2 i hi i (by simp) rfl

/-- The first k buckets' chains end, and hold what belongs there. -/
def Buckets (t : TableD) (k : Nat) (ls : List (List Nat)) : Prop := ls.length = k ∧ ∀ (b : Nat) (a : Int) (l : List Nat), b < k → t.buckets[b]? = some a → ls[b]? = some l → Chain t.frames a l ∧ ∀ (i : Nat) (f : FrameD), i ∈ l → t.frames[i]? = some f → hashK f.key t.buckets.length = b
def sumL (ls : List (List Nat)) : Nat := (ls.map List.length).sum
def TableHead (t : TableD) : Prop := (1 ≤ t.frames.length ∧ t.frames.length ≤ 16) ∧ 1 ≤ t.buckets.length ∧ t.buckets.length ≤ 16
def TableOk (t : TableD) : Prop := TableHead t ∧ FramesUp t.frames t.frames.length ∧ ∃ ls, Buckets t t.buckets.length ls ∧ sumL ls = usedN t.frames t.frames.length
open Classical in
noncomputable def tableV (t : TableD) : Bool := decide (TableOk t)
theorem tableV_yes {t : TableD} (h : TableOk t) : tableV t = true := by unfold tableV; exact @decide_eq_true _ (Classical.propDecidable _) h
theorem tableV_no {t : TableD} (h : ¬ TableOk t) : tableV t = false := by unfold tableV; exact @decide_eq_false _ (Classical.propDecidable _) h
theorem tableV_iff {t : TableD} : tableV t = true ↔ TableOk t := by unfold tableV; exact @decide_eq_true_iff _ (Classical.propDecidable _)

theorem Buckets.zero (t : TableD) : Buckets t 0 [] := ⟨rfl, fun b a l h => by omega⟩
theorem Buckets.succ {t : TableD} {k : Nat} {ls : List (List Nat)} {a : Int} {l : List Nat} (h : Buckets t k ls) (ha : t.buckets[k]? = some a) (hc : Chain t.frames a l) (hh : ∀ (i : Nat) (f : FrameD), i ∈ l → t.frames[i]? = some f → hashK f.key t.buckets.length = k) : Buckets t (k + 1) (ls ++ [l]) := by
 refine ⟨by simp [h.1], fun b a' l' hb ha' hl' => ?_⟩
 by_cases e : b = k
 ·subst e
  rw [ha] at ha'
  injection ha' with ha'
  subst ha'
  rw [List.getElem?_append_right (by rw [h.1]; exact Nat.le_refl _), h.1, Nat.sub_self] at hl'
  injection hl' with hl'
  subst hl'
  exact ⟨hc, hh⟩
 ·rw [List.getElem?_append_left (by rw [h.1]; omega)] at hl'
  exact h.2 b a' l' (by omega) ha' hl'
theorem sumL_succ (ls : List (List Nat)) (l : List Nat) : sumL (ls ++ [l]) = sumL ls + l.length := by unfold sumL; simp
theorem Buckets.one {t : TableD} {k : Nat} {ls ls' : List (List Nat)} (h : Buckets t k ls) (h' : Buckets t k ls') (hk : k ≤ t.buckets.length) : ls = ls' := by
 refine List.ext_getElem? fun b => ?_
 by_cases hb : b < k
 ·obtain ⟨a, ha⟩ : ∃ a, t.buckets[b]? = some a := ⟨_, List.getElem?_eq_getElem (by omega)⟩
  obtain ⟨l, hl⟩ : ∃ l, ls[b]? = some l := ⟨_, List.getElem?_eq_getElem (by rw [h.1]; exact hb)⟩
  obtain ⟨l', hl'⟩ : ∃ l, ls'[b]? = some l := ⟨_, List.getElem?_eq_getElem (by rw [h'.1]; exact hb)⟩
  rw [hl, hl', (h.2 b a l hb ha hl).1.one (h'.2 b a l' hb ha hl').1]
 ·rw [List.getElem?_eq_none (by rw [h.1]; omega), List.getElem?_eq_none (by rw [h'.1]; omega)]
theorem TableOk.bucket {t : TableD} (h : TableOk t) {b : Nat} {a : Int} (ha : t.buckets[b]? = some a) : ∃ l, Chain t.frames a l ∧ ∀ (i : Nat) (f : FrameD), i ∈ l → t.frames[i]? = some f → hashK f.key t.buckets.length = b := by
 obtain ⟨_, _, ls, hb, _⟩ := h
 have hlt : b < t.buckets.length := (List.getElem?_eq_some_iff.1 ha).1
 obtain ⟨l, hl⟩ : ∃ l, ls[b]? = some l := ⟨_, List.getElem?_eq_getElem (by rw [hb.1]; exact hlt)⟩
 exact ⟨l, hb.2 b a l hlt ha hl⟩
theorem not_nochain {t : TableD} {b : Nat} {a : Int} (ha : t.buckets[b]? = some a) (h : ∀ l, ¬ Chain t.frames a l) : ¬ TableOk t := fun ho => by
 obtain ⟨l, hl, _⟩ := ho.bucket ha
 exact h l hl
theorem not_hash {t : TableD} {b i : Nat} {a : Int} {l : List Nat} {f : FrameD} (ha : t.buckets[b]? = some a) (hc : Chain t.frames a l) (hi : i ∈ l) (hf : t.frames[i]? = some f) (hh : hashK f.key t.buckets.length ≠ b) : ¬ TableOk t := fun ho => by
 obtain ⟨l', hl', hh'⟩ := ho.bucket ha
 rw [hl'.one hc] at hh'
 exact hh (hh' i f hi hf)
/-- The walk stands at a used frame with another bucket's hash. -/
theorem not_hash_at {t : TableD} {b i : Nat} {a : Int} {pre : List Nat} {f : FrameD} (ha : t.buckets[b]? = some a) (hp : Trail t.frames a pre (i : Int)) (hf : t.frames[i]? = some f) (hh : hashK f.key t.buckets.length ≠ b) : ¬ TableOk t := fun ho => by
 obtain ⟨l, hl, hh'⟩ := ho.bucket ha
 obtain ⟨l2, rfl, hc2⟩ := (hp l).1 hl
 rcases hc2.inv with ⟨e, _⟩ | ⟨j, g, l3, e, e2, _⟩
 ·omega
 ·have e3 : i = j := by omega
  subst e3
  exact hh (hh' i f (by rw [e2]; simp) hf)
theorem tableOk_end {t : TableD} {ls : List (List Nat)} (h1 : TableHead t) (h2 : FramesUp t.frames t.frames.length) (h3 : Buckets t t.buckets.length ls) : TableOk t ↔ sumL ls = usedN t.frames t.frames.length := by
 constructor
 ·rintro ⟨_, _, ls', h4, h5⟩
  rw [h3.one h4 (Nat.le_refl _)]
  exact h5
 ·intro h
  exact ⟨h1, h2, ls, h3, h⟩
theorem not_frames {t : TableD} {i : Nat} {f : FrameD} (hf : t.frames[i]? = some f) (h : ¬ (frameOk f ∧ ∀ j g, j < i → t.frames[j]? = some g → f.used = true → g.used = true → g.key ≠ f.key)) : ¬ TableOk t := fun ho => h (ho.2.1 i f (List.getElem?_eq_some_iff.1 hf).1 hf)

theorem hashK_range {k : KeyD} {n : Nat} (hk : keyOk k) (hn : 1 ≤ n) (hm : n ≤ 16) : 0 ≤ hashK k n ∧ hashK k n < n := by
 unfold hashK keyOk at *
 obtain ⟨x, hx⟩ : ∃ x, x = (k.space * 256 + k.page) * 2654435761 % 4294967296 := ⟨_, rfl⟩
 rw [← hx]
 have h1 : 0 ≤ x ∧ x < 4294967296 := by omega
 have h2 : 0 ≤ x * (n : Int) := Int.mul_nonneg h1.1 (by omega)
 have h3 : x * (n : Int) < 4294967296 * (n : Int) := Int.mul_lt_mul_of_pos_right h1.2 (by omega)
 obtain ⟨y, hy⟩ : ∃ y, y = x * (n : Int) := ⟨_, rfl⟩
 rw [← hy] at h2 h3 ⊢
 omega
end Go.Proofs.YtbdlpbladpppjaaGreatDoor
namespace Go.Proofs.YtbdlpbladpppjaaGreatDoor
open Go.ChangeShapes Go.WideShapes Go.ChangeAt Go.RowKit
open Rec (sz cs)
set_option linter.unusedVariables false
set_option maxRecDepth 100000

theorem fieldsLine : Tryz.prog.underlying 64 = some (.struct (Tryz.prog.fieldsOf 64)) := by kernel_rfl
theorem heldLine_ : Tryz.prog.stoodInHeld 64 = false := by kernel_rfl
theorem guardLine : Tryz.prog.eqGuardType Tryz.prog.depth 64 = false := by kernel_rfl
theorem eqIn_line (x y : LineD) (w : World) : (Op.equalIn 10000 64 (.agg #[.bool x.valid, .int .i64 x.tag, .int .i64 x.page, .int .i64 x.frame, .int .i64 x.rights, .bool x.wired]) (.agg #[.bool y.valid, .int .i64 y.tag, .int .i64 y.page, .int .i64 y.frame, .int .i64 y.rights, .bool y.wired])).run Tryz.prog w = .ok (eqB x y) w := by
 obtain ⟨a1, b1, c1, d1, e1, f1⟩ := x
 obtain ⟨a2, b2, c2, d2, e2, f2⟩ := y
 rw [run_equalIn_agg w 9999 _ _ _ fieldsLine heldLine_]
 simp [go_sem, Tryz.underlying64]
 by_cases k0 : a1 = a2 <;> by_cases k1 : b1 = b2 <;> by_cases k2 : c1 = c2 <;> by_cases k3 : d1 = d2 <;> by_cases k4 : e1 = e2 <;> by_cases k5 : f1 = f2 <;> simp [eqB, *]
theorem neq_line (x y : LineD) (w : World) : (binOp .neq 64 (.agg #[.bool x.valid, .int .i64 x.tag, .int .i64 x.page, .int .i64 x.frame, .int .i64 x.rights, .bool x.wired]) (.agg #[.bool y.valid, .int .i64 y.tag, .int .i64 y.page, .int .i64 y.frame, .int .i64 y.rights, .bool y.wired])).run Tryz.prog w = .ok (.bool (!eqB x y)) w := by
 rw [run_neq_struct, eqIn_line]; rfl
theorem eql_line (x y : LineD) (w : World) : (binOp .eql 64 (.agg #[.bool x.valid, .int .i64 x.tag, .int .i64 x.page, .int .i64 x.frame, .int .i64 x.rights, .bool x.wired]) (.agg #[.bool y.valid, .int .i64 y.tag, .int .i64 y.page, .int .i64 y.frame, .int .i64 y.rights, .bool y.wired])).run Tryz.prog w = .ok (.bool (eqB x y)) w := by
 rw [run_eql_struct, eqIn_line]; rfl

set_option maxHeartbeats 1000000 in
theorem equalLine_c (A B : Option Addr) (c d : Nat) (xs ys : List LineD) (w : World) (hx : Rd w A xs) (hy : Rd w B ys) (hn : xs.length ≤ 1048576) (hm : ys.length ≤ 1048576) :
   Calls Tryz.prog 70 #[.slice A xs.length c, .slice B ys.length d] w
   fun r w' => r = .returned (.bool (eqB xs ys)) ∧ Ex w w' := by
 by_cases hl : xs.length = ys.length
 ·obtain ⟨n, hn1⟩ : ∃ n, n = xs.length := ⟨_, rfl⟩
  obtain ⟨m, hm1⟩ : ∃ m, m = ys.length := ⟨_, rfl⟩
  rw [← hn1, ← hm1]
  obtain rfl : n = m := by omega
  have hn' : n ≤ 1048576 := by omega
  have HX := zq hn1
  have HY := zq hm1
  have H1 := zq hx
  have H2 := zq hy
  clear hn hm hn1 hm1 hx hy hl
  go_enter Tryz.func70, Tryz.ntmps70
  go_wp2
  go_loopw [13] (fun i wr => ∃ k : Nat, k ≤ n ∧ i = .int .i64 k ∧ Ex w wr ∧ xs.take k = ys.take k) (fun i _ => n - (intOf i).toNat)
  case atStart => exact ⟨0, Nat.zero_le _, rfl, Ex.refl _, rfl⟩
  case round =>
   obtain ⟨k, hk, rfl, hbel, htk⟩ := hrel
   have HT := zq htk
   clear htk
   by_cases hlt : k < n
   ·obtain ⟨b1, o1, x, rfl, hb1, hxk, h0, h1, h2, h3, h4, h5⟩ := Rd.line (H1.out.ex hbel) (k := k) (by have := HX.out; omega)
    obtain ⟨b2, o2, y, rfl, hb2, hyk, g0, g1, g2, g3, g4, g5⟩ := Rd.line (H2.out.ex hbel) (k := k) (by have := HY.out; omega)
    have HXK := zq hxk
    have HYK := zq hyk
    clear hxk hyk
    have hneq := neq_line x y
    have hgd := guardLine
    cases hxy : eqB x y
    ·have hne : x ≠ y := eqB_false.1 hxy
     go_wp2_with fail
     go_quiet (fail)
     clear hneq hgd
     go_wp2
     go_ret
     exact ⟨ret_bool (by rw [eq_comm, eqB_false]; exact ne_of_elem HXK.out HYK.out hne), hbel.drewN _⟩
    ·have HE := zq (eqB_true.1 hxy)
     go_wp2_with fail
     go_quiet (fail)
     clear hneq hgd
     go_wp2
     go_roundw
     case rel => exact ⟨k + 1, by omega, by go_num, hbel.drewN _, (take_eq_step HXK.out HYK.out).2 ⟨HT.out, HE.out⟩⟩
     case measure => simp [intOf]; omega
   ·go_wp2
    go_ret
    exact ⟨ret_bool (by rw [eq_comm, eqB_true]; exact eq_of_take HX.out.symm HY.out.symm (by rw [show n = k from by omega]; exact HT.out)), hbel⟩
 ·have hne : ((xs.length : Int) != (ys.length : Int)) = true := by simp; omega
  go_enter Tryz.func70, Tryz.ntmps70
  go_wp2
  go_ret
  exact ⟨ret_bool (by rw [eq_comm, eqB_false]; intro h; exact hl (by rw [h])), Ex.refl _⟩

theorem infoLine : (Tryz.prog.info? 64).map (fun i => (i.zero, i.size, i.bytes)) = some (some (.agg #[.bool false, .int .i64 0, .int .i64 0, .int .i64 0, .int .i64 0, .bool false]), 6, 48) := by kernel_rfl


theorem cache_eq (x y : CacheD) : x = y ↔ x.lines = y.lines ∧ x.hand = y.hand := by
 cases x; cases y; simp

set_option maxHeartbeats 400000 in
theorem cacheSameI_c (x y : CacheD) (A B : Option Addr) (c d : Nat) (w : World) (hx : Rd w A x.lines) (hy : Rd w B y.lines) (hn : x.lines.length ≤ 1048576) (hm : y.lines.length ≤ 1048576) :
  Calls Tryz.prog 41 #[.agg #[.slice A x.lines.length c, .int .i64 x.hand], .agg #[.slice B y.lines.length d, .int .i64 y.hand]] w fun r w' => r = .returned (.bool (eqB x y)) ∧ Ex w w' := by
 have HE := zq (cache_eq x y)
 obtain ⟨xs, a1⟩ := x
 obtain ⟨ys, a2⟩ := y
 simp only at HE hx hy hn hm ⊢
 have H1 := zq hx
 have H2 := zq hy
 have H3 := zq hn
 have H4 := zq hm
 clear hx hy hn hm
 cases h1 : (a1 == a2)
 ·go_enter Tryz.func41, Tryz.ntmps41
  go_wp2
  go_ret
  exact ⟨ret_bool (by rw [eq_comm, eqB_false, Ne, HE.out]; simp_all), ((Ex.refl _).alloc _).alloc _⟩
 have e : eqB (⟨xs, a1⟩ : CacheD) ⟨ys, a2⟩ = eqB xs ys := by
  rw [Bool.eq_iff_iff, eqB_true, eqB_true, HE.out]; simp_all
 rw [e]
 clear e HE
 go_enter Tryz.func41, Tryz.ntmps41
 go_wp2_with (go_at_call 70; go_must (refine (equalLine_c A B c d xs ys _ ((H1.out.alloc _).alloc _) ((H2.out.alloc _).alloc _) H3.out H4.out).mono ?_); rintro r w2 ⟨rfl, hb⟩; have HEX := zq (((Ex.refl w).alloc _).alloc _ |>.trans hb); clear hb)
 go_ret
 exact ⟨rfl, HEX.out⟩

set_option maxHeartbeats 1000000 in
theorem cacheSameS_c (x y : CacheD) (A B : Option Addr) (c d : Nat) (w : World) (hx : Rd w A x.lines) (hy : Rd w B y.lines) (hn : x.lines.length ≤ 1048576) (hm : y.lines.length ≤ 1048576) :
  Calls Tryz.prog 44 #[.agg #[.slice A x.lines.length c, .int .i64 x.hand], .agg #[.slice B y.lines.length d, .int .i64 y.hand]] w fun r w' => r = .returned (.bool (eqB x y)) ∧ Ex w w' := by
 have HE := zq (cache_eq x y)
 obtain ⟨xs, a1⟩ := x
 obtain ⟨ys, a2⟩ := y
 simp only at HE hx hy hn hm ⊢
 cases h4 : ((xs.length : Int) != (ys.length : Int))
 rotate_left
 ·go_enter Tryz.func44, Tryz.ntmps44
  go_wp2
  go_ret
  exact ⟨ret_bool (by rw [eq_comm, eqB_false, Ne, HE.out]; intro hh; rw [hh.1] at h4; simp at h4), ((Ex.refl _).alloc _).alloc _⟩
 cases h1 : (a1 != a2)
 rotate_left
 ·go_enter Tryz.func44, Tryz.ntmps44
  go_wp2
  go_ret
  exact ⟨ret_bool (by rw [eq_comm, eqB_false, Ne, HE.out]; simp_all), ((Ex.refl _).alloc _).alloc _⟩
 have e : eqB (⟨xs, a1⟩ : CacheD) ⟨ys, a2⟩ = eqB xs ys := by
  rw [Bool.eq_iff_iff, eqB_true, eqB_true, HE.out]; simp_all
 rw [e]
 clear e HE
 have hl : xs.length = ys.length := by simp at h4; omega
 clear h4
 obtain ⟨n, hn1⟩ : ∃ n, n = xs.length := ⟨_, rfl⟩
 obtain ⟨m, hm1⟩ : ∃ m, m = ys.length := ⟨_, rfl⟩
 rw [← hn1, ← hm1]
 obtain rfl : n = m := by omega
 have hn' : n ≤ 1048576 := by omega
 have HX := zq hn1
 have HY := zq hm1
 have H1 := zq hx
 have H2 := zq hy
 clear hn hm hn1 hm1 hx hy hl
 go_enter Tryz.func44, Tryz.ntmps44
 go_wp2
 clear h1
 go_loopw [5] (fun i wr => ∃ k : Nat, k ≤ n ∧ i = .int .i64 k ∧ Ex ((w.alloc (.cells #[.slice A n c, .int .i64 a1] 29)).alloc (.cells #[.slice B n d, .int .i64 a2] 29)) wr ∧ xs.take k = ys.take k) (fun i _ => n - (intOf i).toNat)
 case atStart => exact ⟨0, Nat.zero_le _, rfl, Ex.refl _, rfl⟩
 case round =>
  obtain ⟨k, hk, rfl, hbel, htk⟩ := hrel
  obtain ⟨hbc, hbf⟩ := ex_rules hbel
  have HT := zq htk
  have HBEL := zq hbel
  clear htk hbel hbf
  by_cases hlt : k < n
  ·obtain ⟨b1, o1, x, rfl, hb1, hxk, h0, h1, h2, h3, h4, h5⟩ := Rd.line (((H1.out.alloc _).alloc _).ex HBEL.out) (k := k) (by have := HX.out; omega)
   obtain ⟨b2, o2, y, rfl, hb2, hyk, g0, g1, g2, g3, g4, g5⟩ := Rd.line (((H2.out.alloc _).alloc _).ex HBEL.out) (k := k) (by have := HY.out; omega)
   have HXK := zq hxk
   have HYK := zq hyk
   clear hxk hyk
   have hneq := neq_line x y
   have hgd := guardLine
   cases hxy : eqB x y
   ·have hne : x ≠ y := eqB_false.1 hxy
    go_wp2_with fail
    go_quiet (fail)
    clear hneq hgd
    go_wp2
    go_ret
    exact ⟨ret_bool (by rw [eq_comm, eqB_false]; exact ne_of_elem HXK.out HYK.out hne), ((((Ex.refl _).alloc _).alloc _).trans HBEL.out).drewN _⟩
   ·have HE := zq (eqB_true.1 hxy)
    go_wp2_with fail
    go_quiet (fail)
    clear hneq hgd
    go_wp2
    go_roundw
    case rel => exact ⟨k + 1, by omega, by go_num, HBEL.out.drewN _, (take_eq_step HXK.out HYK.out).2 ⟨HT.out, HE.out⟩⟩
    case measure => simp [intOf]; omega
  ·go_wp2
   go_ret
   exact ⟨ret_bool (by rw [eq_comm, eqB_true]; exact eq_of_take HX.out.symm HY.out.symm (by rw [show n = k from by omega]; exact HT.out)), (((Ex.refl _).alloc _).alloc _).trans HBEL.out⟩

def noCache : CacheD := ⟨[], 0⟩
def noLine : LineD := ⟨false, 0, 0, 0, 0, false⟩
def newCache (n : Int) : CacheD × Bool := if 1 ≤ n ∧ n ≤ 8 then (⟨List.replicate n.toNat noLine, 0⟩, true) else (noCache, false)
set_option maxHeartbeats 400000 in
theorem newCacheS_c (n : Int) (w : World) : Calls Tryz.prog 86 #[.int .i64 n] w
  fun r w' => ∃ A c, r = .returned (.tuple #[.agg #[.slice A (newCache n).1.lines.length c, .int .i64 (newCache n).1.hand], .bool (newCache n).2]) ∧ Fr 64 w' w.heap.size A c (newCache n).1.lines ∧ Ex w w' := by
 by_cases h1 : 1 ≤ n
 ·by_cases h2 : n ≤ 8
  ·have e : newCache n = (⟨List.replicate n.toNat noLine, 0⟩, true) := if_pos ⟨h1, h2⟩
   rw [e]
   clear e
   obtain ⟨m, rfl⟩ := Int.eq_ofNat_of_zero_le (show 0 ≤ n by omega)
   simp only [Int.toNat_natCast, List.length_replicate]
   have hmk := make_rec (P := Tryz.prog) (α := LineD) 27 64 48 noLine _ Tryz.underlying27 infoLine rfl m (by omega) (by omega)
   go_enter Tryz.func86, Tryz.ntmps86
   go_wp2
   exact bodyPost_ret (v := .tuple #[.agg #[.slice (some ⟨w.heap.size + 1, 0, none⟩) m m, .int .i64 0], .bool true]) (by simp [results, Tryz.results86, go_sem]) rfl
    ⟨_, _, rfl, ⟨by simp, by simp only [maxLen]; omega, .inr ⟨_, [], rfl, by simp, by have := Bk.new (α := LineD) (w.alloc (.cells #[.slice (some ⟨w.heap.size + 1, 0, none⟩) m m, .int .i64 0] 29)) 64 (List.replicate m noLine); simpa using this, by simp⟩⟩, ((Ex.refl _).alloc _).alloc _⟩
  ·have e : newCache n = (noCache, false) := if_neg (fun h => h2 h.2)
   rw [e]
   clear e
   have h3 : 8 < n := by omega
   go_enter Tryz.func86, Tryz.ntmps86
   go_wp2
   exact bodyPost_ret (v := .tuple #[.agg #[.slice none 0 0, .int .i64 0], .bool false]) (by simp [results, Tryz.results86, go_sem]) rfl
    ⟨none, 0, rfl, Fr.none_ _ _ _ _, (Ex.refl _).alloc _⟩
 ·have e : newCache n = (noCache, false) := if_neg (fun h => h1 h.1)
  rw [e]
  clear e
  have h3 : n < 1 := by omega
  go_enter Tryz.func86, Tryz.ntmps86
  go_wp2
  exact bodyPost_ret (v := .tuple #[.agg #[.slice none 0 0, .int .i64 0], .bool false]) (by simp [results, Tryz.results86, go_sem]) rfl
   ⟨none, 0, rfl, Fr.none_ _ _ _ _, (Ex.refl _).alloc _⟩

def tagB (t : Int) : Bool := decide (-1 ≤ t ∧ t < 8)
def lineV (x : LineD) : Bool := if x.valid then tagB x.tag && (inB x.page 256 && (inB x.frame 16 && inB x.rights 8)) else eqB x noLine
def clashB (x y : LineD) : Bool := x.valid && (y.valid && ((x.page == y.page) && ((x.tag == y.tag) || ((x.tag == -1) || (y.tag == -1)))))

set_option maxHeartbeats 400000 in
theorem tagValid_c (t : Int) (w : World) : Calls Tryz.prog 81 #[.int .i64 t] w fun r w' => r = .returned (.bool (tagB t)) ∧ w = w' := by
 by_cases h0 : -1 ≤ t
 ·go_enter Tryz.func81, Tryz.ntmps81
  go_wp2
  go_ret
  exact ⟨ret_bool (by unfold tagB; simp [h0]), rfl⟩
 ·have h1 : t < -1 := by omega
  go_enter Tryz.func81, Tryz.ntmps81
  go_wp2
  go_ret
  exact ⟨ret_bool (by unfold tagB; simp; omega), rfl⟩

set_option maxHeartbeats 400000 in
theorem l4Tag_c (t : Int) (w : World) : Calls Tryz.prog 120 #[.int .i64 t] w fun r w' => r = .returned (.bool (tagB t)) ∧ w = w' := by
 by_cases h0 : -1 ≤ t
 ·go_enter Tryz.func120, Tryz.ntmps120
  go_wp2
  go_ret
  exact ⟨ret_bool (by unfold tagB; simp [h0]), rfl⟩
 ·have h1 : t < -1 := by omega
  go_enter Tryz.func120, Tryz.ntmps120
  go_wp2
  go_ret
  exact ⟨ret_bool (by unfold tagB; simp; omega), rfl⟩

set_option maxHeartbeats 400000 in
theorem l1Page_c (n : Int) (w : World) : Calls Tryz.prog 95 #[.int .i64 n] w fun r w' => r = .returned (.bool (inB n 256)) ∧ w = w' := by
 by_cases h0 : 0 ≤ n
 ·go_enter Tryz.func95, Tryz.ntmps95
  go_wp2
  go_ret
  exact ⟨ret_bool (by rw [Bool.eq_iff_iff, inB_true]; simp [h0]), rfl⟩
 ·go_enter Tryz.func95, Tryz.ntmps95
  go_wp2
  go_ret
  exact ⟨ret_bool (by rw [Bool.eq_iff_iff, inB_true]; simp; omega), rfl⟩

set_option maxHeartbeats 400000 in
theorem rightsS_c (n : Int) (w : World) : Calls Tryz.prog 96 #[.int .i64 n] w fun r w' => r = .returned (.bool (inB n 8)) ∧ w = w' := by
 by_cases h0 : 0 ≤ n
 ·go_enter Tryz.func96, Tryz.ntmps96
  go_wp2
  go_ret
  exact ⟨ret_bool (by rw [Bool.eq_iff_iff, inB_true]; simp [h0]; omega), rfl⟩
 ·go_enter Tryz.func96, Tryz.ntmps96
  go_wp2
  go_ret
  exact ⟨ret_bool (by rw [Bool.eq_iff_iff, inB_true]; simp; omega), rfl⟩

set_option maxHeartbeats 400000 in
theorem rightsI_c (n : Int) (w : World) : Calls Tryz.prog 53 #[.int .i64 n] w fun r w' => r = .returned (.bool (inB n 8)) ∧ w = w' := by
 go_enter Tryz.func53, Tryz.ntmps53
 go_wp2_with fail
 refine (within_c _ _ _).mono ?_
 rintro r w' ⟨rfl, rfl⟩
 go_wp2
 go_ret
 exact ⟨rfl, rfl⟩

theorem eql_noLine (x : LineD) (w : World) : (binOp .eql 64 (.agg #[.bool x.valid, .int .i64 x.tag, .int .i64 x.page, .int .i64 x.frame, .int .i64 x.rights, .bool x.wired]) (.agg #[.bool false, .int .i64 0, .int .i64 0, .int .i64 0, .int .i64 0, .bool false])).run Tryz.prog w = .ok (.bool (eqB x noLine)) w :=
 eql_line x noLine w

set_option maxHeartbeats 1000000 in
theorem lineValid_c (x : LineD) (w : World) : Calls Tryz.prog 55 #[.agg #[.bool x.valid, .int .i64 x.tag, .int .i64 x.page, .int .i64 x.frame, .int .i64 x.rights, .bool x.wired]] w fun r w' => r = .returned (.bool (lineV x)) ∧ Ex w w' := by
 have hz := eql_noLine x
 have hgd := guardLine
 cases hv : x.valid
 ·have e : lineV x = eqB x noLine := by simp [lineV, hv]
  rw [e]
  clear e
  rw [hv] at hz
  generalize eqB x noLine = b at hz
  go_enter Tryz.func55, Tryz.ntmps55
  go_wp2
  go_ret
  exact ⟨rfl, (Ex.refl _).alloc _⟩
 ·have e : lineV x = (tagB x.tag && (inB x.page 256 && (inB x.frame 16 && inB x.rights 8))) := by simp [lineV, hv]
  rw [e]
  clear e hz hgd
  cases h1 : tagB x.tag <;> cases h2 : inB x.page 256 <;> cases h3 : inB x.frame 16 <;> cases h4 : inB x.rights 8
  all_goals
   go_enter Tryz.func55, Tryz.ntmps55
   go_wp2_with (first | (go_at_call 81; refine (tagValid_c _ _).mono ?_; rintro r w' ⟨rfl, rfl⟩) | (go_at_call 53; refine (rightsI_c _ _).mono ?_; rintro r w' ⟨rfl, rfl⟩) | (go_at_call 16; refine (within_c _ _ _).mono ?_; rintro r w' ⟨rfl, rfl⟩))
   go_ret
   exact ⟨rfl, (Ex.refl _).alloc _⟩

set_option maxHeartbeats 2000000 in
theorem l4Line_c (x : LineD) (w : World) : Calls Tryz.prog 76 #[.agg #[.bool x.valid, .int .i64 x.tag, .int .i64 x.page, .int .i64 x.frame, .int .i64 x.rights, .bool x.wired]] w fun r w' => r = .returned (.bool (lineV x)) ∧ Ex w w' := by
 have hz := eql_noLine x
 have hgd := guardLine
 cases hv : x.valid
 ·have e : lineV x = eqB x noLine := by simp [lineV, hv]
  rw [e]
  clear e
  rw [hv] at hz
  generalize eqB x noLine = b at hz
  go_enter Tryz.func76, Tryz.ntmps76
  go_wp2
  go_ret
  exact ⟨rfl, (Ex.refl _).alloc _⟩
 ·have e : lineV x = (tagB x.tag && (inB x.page 256 && (inB x.frame 16 && inB x.rights 8))) := by simp [lineV, hv]
  rw [e]
  clear e hz hgd
  have ht : tagB x.tag = (decide (-1 ≤ x.tag) && decide (x.tag < 8)) := by simp [tagB]
  have hf : inB x.frame 16 = (decide (0 ≤ x.frame) && decide (x.frame < 16)) := by simp [inB]
  cases a1 : decide (-1 ≤ x.tag)
  ·have e : tagB x.tag = false := by rw [ht, a1]; rfl
   rw [e]
   clear e ht hf
   have a2 : x.tag < -1 := by simpa using a1
   go_enter Tryz.func76, Tryz.ntmps76
   go_wp2
   go_ret
   exact ⟨rfl, (Ex.refl _).alloc _⟩
  cases a2 : decide (x.tag < 8)
  ·have e : tagB x.tag = false := by rw [ht, a1, a2]; rfl
   rw [e]
   clear e ht hf
   have a3 : 8 ≤ x.tag := by simpa using a2
   have a4 : -1 ≤ x.tag := by omega
   go_enter Tryz.func76, Tryz.ntmps76
   go_wp2
   go_ret
   exact ⟨rfl, (Ex.refl _).alloc _⟩
  have e : tagB x.tag = true := by rw [ht, a1, a2]; rfl
  rw [e]
  clear e ht
  have b1 : -1 ≤ x.tag := by simpa using a1
  have b2 : x.tag < 8 := by simpa using a2
  clear a1 a2
  cases h2 : inB x.page 256
  ·clear hf
   go_enter Tryz.func76, Tryz.ntmps76
   go_wp2_with (first | (go_at_call 95; refine (l1Page_c _ _).mono ?_; rintro r w' ⟨rfl, rfl⟩))
   go_ret
   exact ⟨rfl, (Ex.refl _).alloc _⟩
  cases a1 : decide (0 ≤ x.frame)
  ·have e : inB x.frame 16 = false := by rw [hf, a1]; rfl
   rw [e]
   clear e hf
   have a2 : x.frame < 0 := by simpa using a1
   go_enter Tryz.func76, Tryz.ntmps76
   go_wp2_with (first | (go_at_call 95; refine (l1Page_c _ _).mono ?_; rintro r w' ⟨rfl, rfl⟩))
   go_ret
   exact ⟨rfl, (Ex.refl _).alloc _⟩
  cases a2 : decide (x.frame < 16)
  ·have e : inB x.frame 16 = false := by rw [hf, a1, a2]; rfl
   rw [e]
   clear e hf
   have a3 : 16 ≤ x.frame := by simpa using a2
   have a4 : 0 ≤ x.frame := by omega
   go_enter Tryz.func76, Tryz.ntmps76
   go_wp2_with (first | (go_at_call 95; refine (l1Page_c _ _).mono ?_; rintro r w' ⟨rfl, rfl⟩))
   go_ret
   exact ⟨rfl, (Ex.refl _).alloc _⟩
  have e : inB x.frame 16 = true := by rw [hf, a1, a2]; rfl
  rw [e]
  clear e hf
  have b3 : 0 ≤ x.frame := by simpa using a1
  have b4 : x.frame < 16 := by simpa using a2
  clear a1 a2
  cases h4 : inB x.rights 8
  all_goals
   go_enter Tryz.func76, Tryz.ntmps76
   go_wp2_with (first | (go_at_call 95; refine (l1Page_c _ _).mono ?_; rintro r w' ⟨rfl, rfl⟩) | (go_at_call 96; refine (rightsS_c _ _).mono ?_; rintro r w' ⟨rfl, rfl⟩))
   go_ret
   exact ⟨rfl, (Ex.refl _).alloc _⟩

theorem clash_split (x y : LineD) :
  (x.valid = false ∧ clashB x y = false) ∨ (x.valid = true ∧ y.valid = false ∧ clashB x y = false) ∨ (x.valid = true ∧ y.valid = true ∧ (x.page == y.page) = false ∧ clashB x y = false) ∨
  (x.valid = true ∧ y.valid = true ∧ (x.page == y.page) = true ∧ (x.tag == y.tag) = true ∧ clashB x y = true) ∨
  (x.valid = true ∧ y.valid = true ∧ (x.page == y.page) = true ∧ (x.tag == y.tag) = false ∧ (x.tag == -1) = true ∧ clashB x y = true) ∨
  (x.valid = true ∧ y.valid = true ∧ (x.page == y.page) = true ∧ (x.tag == y.tag) = false ∧ (x.tag == -1) = false ∧ (y.tag == -1) = true ∧ clashB x y = true) ∨
  (x.valid = true ∧ y.valid = true ∧ (x.page == y.page) = true ∧ (x.tag == y.tag) = false ∧ (x.tag == -1) = false ∧ (y.tag == -1) = false ∧ clashB x y = false) := by
 unfold clashB
 cases x.valid <;> cases y.valid <;> cases (x.page == y.page) <;> cases (x.tag == y.tag) <;> cases (x.tag == -1) <;> cases (y.tag == -1) <;> simp

set_option maxHeartbeats 1000000 in
theorem clash_c (x y : LineD) (w : World) : Calls Tryz.prog 56 #[.agg #[.bool x.valid, .int .i64 x.tag, .int .i64 x.page, .int .i64 x.frame, .int .i64 x.rights, .bool x.wired], .agg #[.bool y.valid, .int .i64 y.tag, .int .i64 y.page, .int .i64 y.frame, .int .i64 y.rights, .bool y.wired]] w fun r w' => r = .returned (.bool (clashB x y)) ∧ Ex w w' := by
 rcases clash_split x y with ⟨h1, e⟩ | ⟨h1, h2, e⟩ | ⟨h1, h2, h3, e⟩ | ⟨h1, h2, h3, h4, e⟩ | ⟨h1, h2, h3, h4, h5, e⟩ | ⟨h1, h2, h3, h4, h5, h6, e⟩ | ⟨h1, h2, h3, h4, h5, h6, e⟩
 all_goals
  rw [e]
  clear e
  go_enter Tryz.func56, Tryz.ntmps56
  go_wp2
  go_ret
  exact ⟨rfl, ((Ex.refl _).alloc _).alloc _⟩

theorem infoMInt : (Tryz.prog.info? 3).map (fun i => (i.zero, i.size, i.bytes)) = some (some (.int .i64 0), 1, 8) := by kernel_rfl

set_option maxHeartbeats 1000000 in
theorem equalInt_c (A B : Option Addr) (c d : Nat) (xs ys : List Int) (w : World) (hx : Rd w A xs) (hy : Rd w B ys) (hn : xs.length ≤ 1048576) (hm : ys.length ≤ 1048576) :
   Calls Tryz.prog 68 #[.slice A xs.length c, .slice B ys.length d] w
   fun r w' => r = .returned (.bool (eqB xs ys)) ∧ Ex w w' := by
 by_cases hl : xs.length = ys.length
 ·obtain ⟨n, hn1⟩ : ∃ n, n = xs.length := ⟨_, rfl⟩
  obtain ⟨m, hm1⟩ : ∃ m, m = ys.length := ⟨_, rfl⟩
  rw [← hn1, ← hm1]
  obtain rfl : n = m := by omega
  have hn' : n ≤ 1048576 := by omega
  have HX := zq hn1
  have HY := zq hm1
  have H1 := zq hx
  have H2 := zq hy
  clear hn hm hn1 hm1 hx hy hl
  go_enter Tryz.func68, Tryz.ntmps68
  go_wp2
  go_loopw [13] (fun i wr => ∃ k : Nat, k ≤ n ∧ i = .int .i64 k ∧ Ex w wr ∧ xs.take k = ys.take k) (fun i _ => n - (intOf i).toNat)
  case atStart => exact ⟨0, Nat.zero_le _, rfl, Ex.refl _, rfl⟩
  case round =>
   obtain ⟨k, hk, rfl, hbel, htk⟩ := hrel
   have HT := zq htk
   clear htk
   by_cases hlt : k < n
   ·obtain ⟨b1, o1, x, rfl, hb1, hxk, h0⟩ := Rd.int (H1.out.ex hbel) (k := k) (by have := HX.out; omega)
    obtain ⟨b2, o2, y, rfl, hb2, hyk, g0⟩ := Rd.int (H2.out.ex hbel) (k := k) (by have := HY.out; omega)
    have HXK := zq hxk
    have HYK := zq hyk
    clear hxk hyk
    cases hxy : eqB x y
    ·have hne : x ≠ y := eqB_false.1 hxy
     have hnb : (x != y) = true := by simpa using hne
     go_wp2_with fail
     go_quiet (fail)
     go_wp2
     go_ret
     exact ⟨ret_bool (by rw [eq_comm, eqB_false]; exact ne_of_elem HXK.out HYK.out hne), hbel.drewN _⟩
    ·have HE := zq (eqB_true.1 hxy)
     have hnb : (x != y) = false := by have := HE.out; simpa using this
     go_wp2_with fail
     go_quiet (fail)
     go_wp2
     go_roundw
     case rel => exact ⟨k + 1, by omega, by go_num, hbel.drewN _, (take_eq_step HXK.out HYK.out).2 ⟨HT.out, HE.out⟩⟩
     case measure => simp [intOf]; omega
   ·go_wp2
    go_ret
    exact ⟨ret_bool (by rw [eq_comm, eqB_true]; exact eq_of_take HX.out.symm HY.out.symm (by rw [show n = k from by omega]; exact HT.out)), hbel⟩
 ·have hne : ((xs.length : Int) != (ys.length : Int)) = true := by simp; omega
  go_enter Tryz.func68, Tryz.ntmps68
  go_wp2
  go_ret
  exact ⟨ret_bool (by rw [eq_comm, eqB_false]; intro h; exact hl (by rw [h])), Ex.refl _⟩

end Go.Proofs.YtbdlpbladpppjaaGreatDoor
