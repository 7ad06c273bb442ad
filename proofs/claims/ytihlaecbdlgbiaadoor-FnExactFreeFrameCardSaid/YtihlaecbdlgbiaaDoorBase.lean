/- Plain predicates on memory for the proofs over this seat: slices that read as lists of records, blocks of the call's own, worlds that only grow. No program in sight. -/
import Derived.WalkKit
import Derived.ProofKit
import Derived.OpenShut
import Derived.Below
import Derived.Lib.Hide
import Derived.IntWalk
import Derived.Outline
import Derived.Deep.QuietTactic
import Derived.BigQuiet
import Derived.StillTailTactics
import Derived.Deep.DeepMust
import Derived.WalkSpells
import Derived.WalkLawsBesides
import Derived.Laws.MakeOwn
import Derived.Laws.OwnMore
import Derived.Deep.Draws
namespace Go.Proofs.YtihlaecbdlgbiaaDoor
open Go.ChangeShapes Go.WideShapes Go.ChangeAt Go.RowKit

/-! ### Records -/

/-- A kind of data that lies in a fixed number of cells. -/
class Rec (α : Type) where
  sz : Nat
  cs : α → List Value
  len : ∀ a, (cs a).length = sz
  pos : 0 < sz
  one : ∀ a u, u ∈ cs a → u.oneCell' = true

open Rec (sz cs)

def flat {α : Type} [Rec α] : List α → List Value
  | [] => []
  | x :: xs => cs x ++ flat xs

section
variable {α : Type} [Rec α]

@[simp] theorem flat_nil : flat ([] : List α) = [] := rfl
@[simp] theorem flat_cons (x : α) (xs : List α) : flat (x :: xs) = cs x ++ flat xs := rfl

theorem flat_append (xs ys : List α) : flat (xs ++ ys) = flat xs ++ flat ys := by
  induction xs with
  | nil => rfl
  | cons x xs ih => simp [ih]

theorem flat_length (xs : List α) : (flat xs).length = xs.length * sz α := by
  induction xs with
  | nil => simp
  | cons x xs ih => simp only [flat_cons, List.length_append, ih, Rec.len, List.length_cons, Nat.add_mul]; omega

theorem flat_one (xs : List α) : ∀ u ∈ flat xs, u.oneCell' = true := by
  induction xs with
  | nil => simp
  | cons x xs ih =>
    intro u hu
    rcases List.mem_append.1 hu with h | h
    · exact Rec.one x u h
    · exact ih u h

theorem flat_get (xs : List α) (k j : Nat) (x : α) (hx : xs[k]? = some x) (hj : j < sz α) : (flat xs)[k * sz α + j]? = (cs x)[j]? := by
  induction xs generalizing k with
  | nil => simp at hx
  | cons y ys ih =>
    cases k with
    | zero =>
      simp at hx
      subst hx
      simp only [flat_cons, Nat.zero_mul, Nat.zero_add]
      rw [List.getElem?_append_left (by rw [Rec.len]; exact hj)]
    | succ k =>
      simp at hx
      have := ih k hx
      simp only [flat_cons]
      rw [List.getElem?_append_right (by rw [Rec.len, Nat.add_mul]; omega), Rec.len, ← this]
      congr 1
      rw [Nat.add_mul]; omega

theorem flat_take (xs : List α) (k : Nat) : flat (xs.take k) = (flat xs).take (k * sz α) := by
  induction xs generalizing k with
  | nil => simp
  | cons x xs ih =>
    cases k with
    | zero => simp
    | succ k =>
      simp only [List.take_succ_cons, flat_cons, ih]
      have hl : (cs x).length = sz α := Rec.len x
      have e : (k + 1) * sz α = sz α + k * sz α := by rw [Nat.add_mul]; omega
      rw [e, List.take_append, hl, List.take_of_length_le (l := cs x) (by omega), Nat.add_sub_cancel_left]

theorem flat_drop (xs : List α) (k : Nat) : flat (xs.drop k) = (flat xs).drop (k * sz α) := by
  induction xs generalizing k with
  | nil => simp
  | cons x xs ih =>
    cases k with
    | zero => simp
    | succ k =>
      simp only [List.drop_succ_cons, flat_cons, ih]
      have hl : (cs x).length = sz α := Rec.len x
      have e : (k + 1) * sz α = sz α + k * sz α := by rw [Nat.add_mul]; omega
      rw [e, List.drop_append, hl, List.drop_of_length_le (l := cs x) (by omega), Nat.add_sub_cancel_left, List.nil_append]

theorem flat_set (xs : List α) (k j : Nat) (x y : α) (u : Value) (hx : xs[k]? = some x) (hj : j < sz α) (hy : cs y = (cs x).set j u) :
    flat (xs.set k y) = (flat xs).set (k * sz α + j) u := by
  induction xs generalizing k with
  | nil => simp at hx
  | cons z zs ih =>
    cases k with
    | zero =>
      simp at hx
      subst hx
      simp only [List.set_cons_zero, flat_cons, Nat.zero_mul, Nat.zero_add, hy]
      rw [List.set_append_left _ _ (by rw [Rec.len]; exact hj)]
    | succ k =>
      simp at hx
      simp only [List.set_cons_succ, flat_cons, ih k hx]
      have hl : (cs z).length = sz α := Rec.len z
      rw [List.set_append_right _ _ (by rw [hl, Nat.add_mul]; omega), hl]
      congr 2
      rw [Nat.add_mul]; omega
end

/-! ### Worlds that only grow -/

/-- All that was there is there still; new blocks may have come. -/
def Ex (w w' : World) : Prop := Below w.heap.size w w'

theorem Ex.refl (w : World) : Ex w w := Below.refl _ _
theorem Ex.size {w w' : World} (h : Ex w w') : w.heap.size ≤ w'.heap.size := Below.size h
theorem Ex.trans {a b c : World} (h : Ex a b) (k : Ex b c) : Ex a c := Below.trans h (Below.mono k (Below.size h))
theorem Ex.alloc {a w : World} (h : Ex a w) (o : Obj) : Ex a (w.alloc o) := Below.alloc h (Below.size h) o
theorem Ex.drew {a w : World} (h : Ex a w) : Ex a w.drew := Below.drew h
theorem Ex.drewN {a w : World} (h : Ex a w) (n : Nat) : Ex a (w.drewN n) := ⟨h.os, h.tape, h.output, h.size, h.block⟩
theorem Ex.set {a w : World} (h : Ex a w) {p : Addr} (hp : a.heap.size ≤ p.block) (u : Value) : Ex a (w.setCell p u) := Below.setCell h hp u
theorem Ex.cell {a w : World} (h : Ex a w) {b o : Nat} (hb : b < a.heap.size) : w.cell? ⟨b, o, none⟩ = a.cell? ⟨b, o, none⟩ := Below.cell h (p := ⟨b, o, none⟩) hb
theorem Ex.frozen {a w : World} (h : Ex a w) {b o : Nat} (hb : b < a.heap.size) : w.frozen? ⟨b, o, none⟩ = a.frozen? ⟨b, o, none⟩ := Below.frozen h (p := ⟨b, o, none⟩) hb
theorem Ex.block {a w : World} (h : Ex a w) {b : Nat} (hb : b < a.heap.size) : w.heap[b]? = a.heap[b]? := Below.block h b hb
theorem Ex.below {a w : World} (h : Ex a w) : Below a.heap.size a w := h
theorem Ex.of_grown {a w w' : World} (h : Ex a w) {row : Option Nat} (hg : w.grownBy w' row) (hr : ∀ k, row = some k → a.heap.size ≤ k) : Ex a w' := Below.grown h hg h.size hr

/-- The two rules by which the walk carries cells over a call. -/
theorem ex_rules {W w1 : World} (hb : Ex W w1) : (∀ b o, b < W.heap.size → w1.cell? ⟨b, o, none⟩ = W.cell? ⟨b, o, none⟩) ∧ (∀ b o, b < W.heap.size → w1.frozen? ⟨b, o, none⟩ = W.frozen? ⟨b, o, none⟩) :=
  ⟨fun _ _ h => hb.cell h, fun _ _ h => hb.frozen h⟩

/-- A known block. -/
def Blk (w : World) (g : Nat) (t : TypeId) (c : List Value) : Prop := w.heap[g]? = some (.cells c.toArray t (0, 0))

section
variable {w w' : World} {g : Nat} {t : TypeId} {c : List Value}
theorem Blk.lt (h : Blk w g t c) : g < w.heap.size := (Array.getElem?_eq_some_iff.1 h).1
theorem Blk.cell (h : Blk w g t c) (i : Nat) : w.cell? ⟨g, i, none⟩ = c[i]? := by
  rw [cell_of_row w g i _ t (0, 0) h]; simp
theorem Blk.frozen (h : Blk w g t c) (i : Nat) : w.frozen? ⟨g, i, none⟩ = false := frozen_of_row w g i _ t h
theorem Blk.new (w : World) (t : TypeId) (c : List Value) : Blk (w.alloc (.cells c.toArray t)) w.heap.size t c := heap_alloc_new w _
theorem Blk.new_at (w : World) (t : TypeId) (c : List Value) {g : Nat} (hg : g = w.heap.size) : Blk (w.alloc (.cells c.toArray t)) g t c := by subst hg; exact heap_alloc_new w _
theorem Blk.c1 {a : Value} (h : Blk w g t [a]) : w.cell? ⟨g, 0, none⟩ = some a := h.cell 0
theorem Blk.c2 {a b : Value} (h : Blk w g t [a, b]) : w.cell? ⟨g, 0, none⟩ = some a ∧ w.cell? ⟨g, 1, none⟩ = some b := ⟨h.cell 0, h.cell 1⟩
theorem Blk.c4 {a b d e : Value} (h : Blk w g t [a, b, d, e]) : w.cell? ⟨g, 0, none⟩ = some a ∧ w.cell? ⟨g, 1, none⟩ = some b ∧ w.cell? ⟨g, 2, none⟩ = some d ∧ w.cell? ⟨g, 3, none⟩ = some e := ⟨h.cell 0, h.cell 1, h.cell 2, h.cell 3⟩
theorem Blk.c6 {a b d e f k : Value} (h : Blk w g t [a, b, d, e, f, k]) : w.cell? ⟨g, 0, none⟩ = some a ∧ w.cell? ⟨g, 1, none⟩ = some b ∧ w.cell? ⟨g, 2, none⟩ = some d ∧ w.cell? ⟨g, 3, none⟩ = some e ∧ w.cell? ⟨g, 4, none⟩ = some f ∧ w.cell? ⟨g, 5, none⟩ = some k := ⟨h.cell 0, h.cell 1, h.cell 2, h.cell 3, h.cell 4, h.cell 5⟩
theorem Blk.c3 {v0 v1 v2 : Value} (h : Blk w g t [v0, v1, v2]) : w.cell? ⟨g, 0, none⟩ = some v0 ∧ w.cell? ⟨g, 1, none⟩ = some v1 ∧ w.cell? ⟨g, 2, none⟩ = some v2 := ⟨h.cell 0, h.cell 1, h.cell 2⟩
theorem Blk.c5 {v0 v1 v2 v3 v4 : Value} (h : Blk w g t [v0, v1, v2, v3, v4]) : w.cell? ⟨g, 0, none⟩ = some v0 ∧ w.cell? ⟨g, 1, none⟩ = some v1 ∧ w.cell? ⟨g, 2, none⟩ = some v2 ∧ w.cell? ⟨g, 3, none⟩ = some v3 ∧ w.cell? ⟨g, 4, none⟩ = some v4 := ⟨h.cell 0, h.cell 1, h.cell 2, h.cell 3, h.cell 4⟩
theorem Blk.c9 {v0 v1 v2 v3 v4 v5 v6 v7 v8 : Value} (h : Blk w g t [v0, v1, v2, v3, v4, v5, v6, v7, v8]) : w.cell? ⟨g, 0, none⟩ = some v0 ∧ w.cell? ⟨g, 1, none⟩ = some v1 ∧ w.cell? ⟨g, 2, none⟩ = some v2 ∧ w.cell? ⟨g, 3, none⟩ = some v3 ∧ w.cell? ⟨g, 4, none⟩ = some v4 ∧ w.cell? ⟨g, 5, none⟩ = some v5 ∧ w.cell? ⟨g, 6, none⟩ = some v6 ∧ w.cell? ⟨g, 7, none⟩ = some v7 ∧ w.cell? ⟨g, 8, none⟩ = some v8 := ⟨h.cell 0, h.cell 1, h.cell 2, h.cell 3, h.cell 4, h.cell 5, h.cell 6, h.cell 7, h.cell 8⟩
theorem Blk.c11 {v0 v1 v2 v3 v4 v5 v6 v7 v8 v9 v10 : Value} (h : Blk w g t [v0, v1, v2, v3, v4, v5, v6, v7, v8, v9, v10]) : w.cell? ⟨g, 0, none⟩ = some v0 ∧ w.cell? ⟨g, 1, none⟩ = some v1 ∧ w.cell? ⟨g, 2, none⟩ = some v2 ∧ w.cell? ⟨g, 3, none⟩ = some v3 ∧ w.cell? ⟨g, 4, none⟩ = some v4 ∧ w.cell? ⟨g, 5, none⟩ = some v5 ∧ w.cell? ⟨g, 6, none⟩ = some v6 ∧ w.cell? ⟨g, 7, none⟩ = some v7 ∧ w.cell? ⟨g, 8, none⟩ = some v8 ∧ w.cell? ⟨g, 9, none⟩ = some v9 ∧ w.cell? ⟨g, 10, none⟩ = some v10 := ⟨h.cell 0, h.cell 1, h.cell 2, h.cell 3, h.cell 4, h.cell 5, h.cell 6, h.cell 7, h.cell 8, h.cell 9, h.cell 10⟩
theorem Blk.drew (h : Blk w g t c) : Blk w.drew g t c := h
theorem Blk.drewN (h : Blk w g t c) (n : Nat) : Blk (w.drewN n) g t c := h
theorem Blk.alloc (h : Blk w g t c) (o : Obj) : Blk (w.alloc o) g t c := (Below.heap_alloc w o g h.lt).trans h
theorem Blk.set (h : Blk w g t c) (i : Nat) (u : Value) : Blk (w.setCell ⟨g, i, none⟩ u) g t (c.set i u) := by
  unfold Blk at h ⊢
  simp [World.setCell, Array.getElem?_modify, h]
theorem Blk.far (h : Blk w g t c) {p : Addr} (hp : g ≠ p.block) (u : Value) : Blk (w.setCell p u) g t c := (Below.heap_setCell w p u g hp).trans h
theorem Blk.ex (h : Blk w g t c) (k : Ex w w') : Blk w' g t c := (k.block h.lt).trans h
end

/-! ### Slices that read as lists -/

section
variable {α : Type} [Rec α] {w w' : World} {A : Option Addr} {xs : List α}

/-- The slice at A reads as xs. -/
def Rd (w : World) (A : Option Addr) (xs : List α) : Prop :=
  0 < xs.length → ∃ b off, A = some ⟨b, off, none⟩ ∧ b < w.heap.size ∧ ∀ m u, (flat xs)[m]? = some u → w.cell? ⟨b, off + m, none⟩ = some u

theorem Rd.nil (w : World) (A : Option Addr) : Rd w A ([] : List α) := fun h => absurd h (by simp)
theorem Rd.ex (h : Rd w A xs) (k : Ex w w') : Rd w' A xs := fun hn => by
  obtain ⟨b, off, e, hb, hc⟩ := h hn
  exact ⟨b, off, e, Nat.lt_of_lt_of_le hb k.size, fun m u hu => (k.cell hb).trans (hc m u hu)⟩
theorem Rd.alloc (h : Rd w A xs) (o : Obj) : Rd (w.alloc o) A xs := h.ex ((Ex.refl w).alloc o)
theorem Rd.drew (h : Rd w A xs) : Rd w.drew A xs := h
theorem Rd.drewN (h : Rd w A xs) (n : Nat) : Rd (w.drewN n) A xs := h
/-- The element at k, cell by cell. -/
theorem Rd.at_ (h : Rd w A xs) {k : Nat} (hk : k < xs.length) : ∃ b off x, A = some ⟨b, off, none⟩ ∧ b < w.heap.size ∧ xs[k]? = some x ∧
    ∀ j u, j < sz α → (cs x)[j]? = some u → w.cell? ⟨b, off + (k * sz α + j), none⟩ = some u := by
  obtain ⟨b, off, e, hb, hc⟩ := h (by omega)
  refine ⟨b, off, xs[k], e, hb, List.getElem?_eq_getElem hk, fun j u hj hu => hc _ _ ?_⟩
  rw [flat_get xs k j xs[k] (List.getElem?_eq_getElem hk) hj]
  exact hu
/-- The element at k, cell by cell, where the address is known. -/
theorem Rd.at_known {b off : Nat} (h : Rd w (some ⟨b, off, none⟩) xs) {k : Nat} (hk : k < xs.length) : ∃ x, b < w.heap.size ∧ xs[k]? = some x ∧
    ∀ j u, j < sz α → (cs x)[j]? = some u → w.cell? ⟨b, off + (k * sz α + j), none⟩ = some u := by
  obtain ⟨b', off', x, e, hb, hx, hc⟩ := h.at_ hk
  injection e with e
  injection e with e1 e2
  subst e1 e2
  exact ⟨x, hb, hx, hc⟩
theorem Rd.take (h : Rd w A xs) (k : Nat) : Rd w A (xs.take k) := fun hn => by
  obtain ⟨b, off, e, hb, hc⟩ := h (by rw [List.length_take] at hn; omega)
  refine ⟨b, off, e, hb, fun m u hu => hc m u ?_⟩
  rw [flat_take, List.getElem?_take] at hu
  split at hu
  · exact hu
  · cases hu

/-- The slice's row, from the head of a block of the call's own (from B on), reads as xs; 'rest' is its spare room. -/
def Bk (E : TypeId) (w : World) (g : Nat) (xs : List α) (rest : List Value) : Prop := Blk w g E (flat xs ++ rest)

/-- A slice with capacity c that shares no memory with what lies below block B. -/
def Fr (E : TypeId) (w : World) (B : Nat) (A : Option Addr) (c : Nat) (xs : List α) : Prop :=
  xs.length ≤ c ∧ c ≤ maxLen ∧ (c = 0 ∨ ∃ g rest, A = some ⟨g, 0, none⟩ ∧ B ≤ g ∧ Bk E w g xs rest ∧ (c - xs.length) * sz α ≤ rest.length)

variable {E : TypeId} {B B' g c : Nat} {rest : List Value}

theorem Bk.rd (h : Bk E w g xs rest) : Rd w (some ⟨g, 0, none⟩) xs := fun _ => by
  refine ⟨g, 0, rfl, Blk.lt h, fun m u hu => ?_⟩
  have hm : m < (flat xs).length := (List.getElem?_eq_some_iff.1 hu).1
  rw [Nat.zero_add, Blk.cell h, List.getElem?_append_left hm]
  exact hu
theorem Bk.ex (h : Bk E w g xs rest) (k : Ex w w') : Bk E w' g xs rest := Blk.ex h k
theorem Bk.alloc (h : Bk E w g xs rest) (o : Obj) : Bk E (w.alloc o) g xs rest := Blk.alloc h o
theorem Bk.drew (h : Bk E w g xs rest) : Bk E w.drew g xs rest := h
theorem Bk.frozen (h : Bk E w g xs rest) (i : Nat) : w.frozen? ⟨g, i, none⟩ = false := Blk.frozen h i
theorem Bk.far (h : Bk E w g xs rest) {p : Addr} (hp : g ≠ p.block) (u : Value) : Bk E (w.setCell p u) g xs rest := Blk.far h hp u
/-- One cell of the element at k is written. -/
theorem Bk.set (h : Bk E w g xs rest) {k j off : Nat} {x y : α} {u : Value} (hx : xs[k]? = some x) (hj : j < sz α) (hy : cs y = (cs x).set j u) (ho : off = k * sz α + j) :
    Bk E (w.setCell ⟨g, off, none⟩ u) g (xs.set k y) rest := by
  subst ho
  have hk : k < xs.length := (List.getElem?_eq_some_iff.1 hx).1
  have hlt : k * sz α + j < (flat xs).length := by
    rw [flat_length]
    exact Nat.lt_of_lt_of_le (Nat.add_lt_add_left hj _) (by rw [← Nat.succ_mul]; exact Nat.mul_le_mul_right _ hk)
  have := Blk.set h (k * sz α + j) u
  unfold Bk
  rwa [List.set_append_left _ _ hlt, ← flat_set xs k j x y u hx hj hy] at this
theorem Bk.cell_at (h : Bk E w g xs rest) {k : Nat} {x : α} (hx : xs[k]? = some x) {j : Nat} (hj : j < sz α) {u : Value} (hu : (cs x)[j]? = some u) : w.cell? ⟨g, k * sz α + j, none⟩ = some u := by
  have hk : k < xs.length := (List.getElem?_eq_some_iff.1 hx).1
  have hlt : k * sz α + j < (flat xs).length := by
    rw [flat_length]
    exact Nat.lt_of_lt_of_le (Nat.add_lt_add_left hj _) (by rw [← Nat.succ_mul]; exact Nat.mul_le_mul_right _ hk)
  rw [Blk.cell h, List.getElem?_append_left hlt, flat_get xs k j x hx hj, hu]

theorem Fr.rd (h : Fr E w B A c xs) : Rd w A xs := by
  obtain ⟨hl, _, h0 | ⟨g, rest, rfl, _, hb, _⟩⟩ := h
  · exact fun hn => by omega
  · exact hb.rd
theorem Fr.ex (h : Fr E w B A c xs) (k : Ex w w') : Fr E w' B A c xs := by
  obtain ⟨hl, hm, h0 | ⟨g, rest, e, hB, hb, hr⟩⟩ := h
  · exact ⟨hl, hm, .inl h0⟩
  · exact ⟨hl, hm, .inr ⟨g, rest, e, hB, hb.ex k, hr⟩⟩
theorem Fr.mono (h : Fr E w B A c xs) (hB : B' ≤ B) : Fr E w B' A c xs := by
  obtain ⟨hl, hm, h0 | ⟨g, rest, e, hB, hb, hr⟩⟩ := h
  · exact ⟨hl, hm, .inl h0⟩
  · exact ⟨hl, hm, .inr ⟨g, rest, e, by omega, hb, hr⟩⟩
theorem Fr.alloc (h : Fr E w B A c xs) (o : Obj) : Fr E (w.alloc o) B A c xs := h.ex ((Ex.refl w).alloc o)
theorem Fr.drew (h : Fr E w B A c xs) : Fr E w.drew B A c xs := h
theorem Fr.drewN (h : Fr E w B A c xs) (n : Nat) : Fr E (w.drewN n) B A c xs := h
theorem Fr.none_ (E : TypeId) (w : World) (B : Nat) (A : Option Addr) : Fr E w B A 0 ([] : List α) := ⟨Nat.le_refl _, Nat.zero_le _, .inl rfl⟩
theorem Fr.le (h : Fr E w B A c xs) : xs.length ≤ c := h.1
theorem Fr.cap (h : Fr E w B A c xs) : c ≤ maxLen := h.2.1
/-- The kit's own word for such a row. -/
theorem Fr.of_own {n : Nat} {v : Value} (h : w.ownsRow B E (sz α) v n (flat xs)) (hn : n = xs.length) : ∃ A c, v = .slice A n c ∧ Fr E w B A c xs := by
  subst hn
  rcases h.2 with ⟨rfl, hn⟩ | ⟨g, cap, cur, rfl, hB, hg, hnc, hcm, hcs, ht⟩
  · have : xs = [] := List.eq_nil_of_length_eq_zero hn
    subst this
    exact ⟨none, 0, by rw [hn], Fr.none_ _ _ _ _⟩
  · refine ⟨_, cap, rfl, hnc, hcm, .inr ⟨g, cur.toList.drop (xs.length * sz α), rfl, hB, ?_, ?_⟩⟩
    · unfold Bk Blk
      rw [← ht, List.take_append_drop]
      exact hg
    · exact Nat.le_of_eq (by rw [List.length_drop, show cur.toList.length = cur.size from rfl, hcs, Nat.sub_mul])
end

section
variable {α : Type} [Rec α] {P : Program}
theorem madeCells_flat (z : α) (n : Nat) : madeCells (cs z).toArray (n * sz α) = (flat (List.replicate n z)).toArray := by
  apply Array.ext
  · simp [size_madeCells, flat_length]
  · intro i h1 h2
    rw [size_madeCells] at h1
    have hp : 0 < sz α := Rec.pos
    have hd : i / sz α < n := (Nat.div_lt_iff_lt_mul hp).2 h1
    have hm : i % sz α < sz α := Nat.mod_lt _ hp
    have hi : i / sz α * sz α + i % sz α = i := by rw [Nat.mul_comm]; exact Nat.div_add_mod i (sz α)
    have hg := flat_get (List.replicate n z) (i / sz α) (i % sz α) z (by rw [List.getElem?_replicate, if_pos hd]) hm
    rw [hi, List.getElem?_eq_getElem (by simpa using h2), List.getElem?_eq_getElem (by rw [Rec.len]; exact hm)] at hg
    injection hg with hg
    have hl : (cs z).length = sz α := Rec.len z
    simp [madeCells, hl, hm]
    exact hg.symm
/-- make([]T, n): n zero values in a new block, for whatever world. -/
theorem make_rec (t e bytes : Nat) (z : α) (zv : Value) (ht : P.underlying t = some (.slice e)) (hinfo : (P.info? e).map (fun i => (i.zero, i.size, i.bytes)) = some (some zv, sz α, bytes))
    (hz : zv.cells = (cs z).toArray) (n : Nat) (hbytes : bytes * n ≤ 281474976710656) (h63 : n ≤ 9223372036854775807) (w : World) :
    (Instr.makeSlice t (.int .i64 (n : Int)) (.int .i64 (n : Int))).run P w = .ok (.slice (some ⟨w.heap.size, 0, none⟩) n n) (w.alloc (.cells (flat (List.replicate n z)).toArray e)) := by
  obtain ⟨i, hi, hz0, hz1, hz2⟩ := info_parts hinfo
  have hb' : (i.bytes : Int) * (n : Int) ≤ 281474976710656 := by
    have h : ((i.bytes * n : Nat) : Int) ≤ 281474976710656 := by rw [hz2]; omega
    rwa [Int.natCast_mul] at h
  have hr := run_make (P := P) w t e i zv ht hi hz0 .i64 .i64 n n (by omega) (Int.le_refl _) hb' (by omega)
  simp only [Int.toNat_natCast, hz1, hz, madeCells_flat] at hr
  exact hr
theorem Bk.new (w : World) (E : TypeId) (xs : List α) : Bk E (w.alloc (.cells (flat xs).toArray E)) w.heap.size xs [] := by
  have := Blk.new w E (flat xs)
  unfold Bk
  rwa [List.append_nil]
end

/-! ### Only one block has turned -/
section
variable {w w' w'' : World} {row : Option Nat} {g : Nat}
theorem grown_refl (w : World) (row : Option Nat) : w.grownBy w row := ⟨rfl, rfl, rfl, Nat.le_refl _, fun _ _ _ => rfl⟩
theorem grown_trans (h : w.grownBy w' row) (k : w'.grownBy w'' row) : w.grownBy w'' row :=
  ⟨k.os.trans h.os, k.tape.trans h.tape, k.output.trans h.output, Nat.le_trans h.size k.size, fun i hi hn => (k.block i (Nat.lt_of_lt_of_le hi h.size) hn).trans (h.block i hi hn)⟩
theorem grown_ex (h : w.grownBy w' row) (k : Ex w' w'') : w.grownBy w'' row :=
  ⟨k.os.trans h.os, k.tape.trans h.tape, k.output.trans h.output, Nat.le_trans h.size k.size, fun i hi hn => (k.block (Nat.lt_of_lt_of_le hi h.size)).trans (h.block i hi hn)⟩
theorem grown_set (h : w.grownBy w' (some g)) (o : Nat) (u : Value) : w.grownBy (w'.setCell ⟨g, o, none⟩ u) (some g) :=
  ⟨h.os, h.tape, h.output, by simpa [World.setCell] using h.size, fun i hi hn => (Below.heap_setCell w' ⟨g, o, none⟩ u i (fun e => hn (by rw [e]))).trans (h.block i hi hn)⟩
theorem Blk.grown {t : TypeId} {c : List Value} (h : Blk w g t c) (k : w.grownBy w' row) (hn : some g ≠ row) : Blk w' g t c := (k.block g h.lt hn).trans h
theorem Ex.grown {a : World} (h : Ex a w) (k : w.grownBy w' row) (hr : ∀ g, row = some g → a.heap.size ≤ g) : Ex a w' := h.of_grown k hr
end

section
variable {α : Type} [Rec α] {w w' : World} {A : Option Addr} {xs : List α} {E : TypeId} {B c : Nat} {row : Option Nat}
theorem Rd.grown (h : Rd w A xs) (k : w.grownBy w' row) (hn : ∀ b, row = some b → ∀ off, A ≠ some ⟨b, off, none⟩) : Rd w' A xs := fun h0 => by
  obtain ⟨b, off, rfl, hb, hc⟩ := h h0
  have hne : some b ≠ row := fun e => hn b e.symm off rfl
  exact ⟨b, off, rfl, Nat.lt_of_lt_of_le hb k.size, fun m u hu => (World.cell?_of_block (k.block b hb hne)).trans (hc m u hu)⟩
/-- Where a slice of the call's own lies. -/
theorem Fr.where_ (h : Fr E w B A c xs) : c = 0 ∨ ∃ g, A = some ⟨g, 0, none⟩ ∧ B ≤ g ∧ g < w.heap.size := by
  obtain ⟨_, _, h0 | ⟨g, rest, e, hB, hb, _⟩⟩ := h
  · exact .inl h0
  · exact .inr ⟨g, e, hB, Blk.lt hb⟩
theorem Fr.grown (h : Fr E w B A c xs) (k : w.grownBy w' row) (hn : ∀ b, row = some b → c = 0 ∨ A ≠ some ⟨b, 0, none⟩) : Fr E w' B A c xs := by
  obtain ⟨hl, hm, h0 | ⟨g, rest, rfl, hB, hb, hr⟩⟩ := h
  · exact ⟨hl, hm, .inl h0⟩
  · by_cases hc : c = 0
    · exact ⟨hl, hm, .inl hc⟩
    · refine ⟨hl, hm, .inr ⟨g, rest, rfl, hB, Blk.grown hb k (fun e => ?_), hr⟩⟩
      rcases hn g e.symm with h | h
      · exact hc h
      · exact h rfl
end

section
variable {α : Type} [Rec α] {w w' : World} {A : Option Addr} {xs ys : List α} {E : TypeId} {B c k g : Nat} {rest : List Value}
theorem Fr.open_ (h : Fr E w B A c xs) (hk : k < xs.length) : ∃ g rest, A = some ⟨g, 0, none⟩ ∧ B ≤ g ∧ Bk E w g xs rest ∧ (c - xs.length) * sz α ≤ rest.length := by
  obtain ⟨hl, hm, h0 | ⟨g, rest, rfl, hB, hb, hr⟩⟩ := h
  · omega
  · exact ⟨g, rest, rfl, hB, hb, hr⟩
theorem Fr.set_below (h : Fr E w B A c xs) {p : Addr} (hp : p.block < B) (u : Value) : Fr E (w.setCell p u) B A c xs := by
  obtain ⟨hl, hm, h0 | ⟨g, rest, rfl, hB, hb, hr⟩⟩ := h
  · exact ⟨hl, hm, .inl h0⟩
  · exact ⟨hl, hm, .inr ⟨g, rest, rfl, hB, hb.far (by omega) u, hr⟩⟩
theorem Fr.close (hb : Bk E w g xs rest) (hB : B ≤ g) (hr : (c - xs.length) * sz α ≤ rest.length) (hl : xs.length ≤ c) (hm : c ≤ maxLen) : Fr E w B (some ⟨g, 0, none⟩) c xs :=
  ⟨hl, hm, .inr ⟨g, rest, rfl, hB, hb, hr⟩⟩
end

/-- The one block that a write through the slice may turn. -/
def rowOf (A : Option Addr) (c : Nat) : Option Nat := if c = 0 then none else A.map (·.block)
theorem rowOf_some {g c : Nat} (h : 0 < c) : rowOf (some ⟨g, 0, none⟩) c = some g := by
  unfold rowOf; rw [if_neg (by omega)]; rfl
theorem Fr.row {α : Type} [Rec α] {w : World} {A : Option Addr} {xs : List α} {E : TypeId} {B c : Nat} (h : Fr E w B A c xs) : ∀ b, rowOf A c = some b → B ≤ b ∧ b < w.heap.size := by
  intro b hb
  rcases h.where_ with h0 | ⟨g, rfl, h1, h2⟩
  · unfold rowOf at hb
    rw [if_pos h0] at hb
    cases hb
  · unfold rowOf at hb
    split at hb
    · cases hb
    · injection hb with hb
      subst hb
      exact ⟨h1, h2⟩
/-- The rules by which the walk carries cells over a call that writes to one row. -/
theorem grown_rules {w w' : World} {row : Option Nat} {lo hi : Nat} (h : w.grownBy w' row) (hr : ∀ b, row = some b → lo ≤ b ∧ b < hi) :
    (∀ b o, b < lo → b < w.heap.size → w'.cell? ⟨b, o, none⟩ = w.cell? ⟨b, o, none⟩) ∧ (∀ b o, hi ≤ b → b < w.heap.size → w'.cell? ⟨b, o, none⟩ = w.cell? ⟨b, o, none⟩) :=
  ⟨fun b o hb hw => World.cell?_of_block (w := w) (a := ⟨b, o, none⟩) (h.block b hw (fun e => by have := hr b e.symm; omega)),
   fun b o hb hw => World.cell?_of_block (w := w) (a := ⟨b, o, none⟩) (h.block b hw (fun e => by have := hr b e.symm; omega))⟩
/-- A slice that lies apart from the row that is written. -/
theorem Fr.apart {α : Type} [Rec α] {w w' : World} {A : Option Addr} {xs : List α} {E : TypeId} {B c : Nat} {row : Option Nat} {lo hi lo' hi' : Nat} (h : Fr E w B A c xs) (k : w.grownBy w' row)
    (hr : ∀ b, row = some b → lo ≤ b ∧ b < hi) (ha : ∀ b, rowOf A c = some b → lo' ≤ b ∧ b < hi') (hne : hi ≤ lo' ∨ hi' ≤ lo) : Fr E w' B A c xs :=
  h.grown k fun b hb => by
    by_cases hc : c = 0
    · exact .inl hc
    · refine .inr ?_
      rintro rfl
      have h1 := hr b hb
      have h2 := ha b (rowOf_some (by omega))
      omega

theorem ret_bool {a b : Bool} (h : a = b) : Ending.returned (.bool a) = .returned (.bool b) := by rw [h]
theorem ret_int {k : IntKind} {a b : Int} (h : a = b) : Ending.returned (.int k a) = .returned (.int k b) := by rw [h]

end Go.Proofs.YtihlaecbdlgbiaaDoor
