/- Joined: Base, Data, Chg, Hx, Wi, Vp, Fo, Ta, Tb, Tc, Eq, Td, L1, Tm, Te, Tp, Cl, Cc, Cv, Cw, Kg, Wp, Mi, Mk, Mf, Ap, Nr, Mt, Nt, Vk, Vc. -/
import Derived.WalkKit
import Derived.ProofKit
import Derived.OpenShut
import Derived.Below
import Derived.Lib.Hide
import Derived.IntWalk
import Derived.Outline
import Derived.Deep.QuietTactic
import Derived.BigQuiet
import Derived.StillTailTactics
import Derived.Deep.DeepMust
import Derived.WalkSpells
import Derived.WalkLawsBesides
import Derived.Laws.MakeOwn
import Derived.Laws.OwnMore
import Derived.Deep.Draws
import Derived.Test.YtbdlpbladpppjaaGreatDoorRows
import Derived.Maps.OwnOps
import Derived.Maps.Views
import Derived.Deep.Upon
import Derived.Laws.CopyRow
import Derived.Deep.RegionHeld3
namespace Go.Proofs.YtbdlpbladpppjaaGreatDoor
open Go.ChangeShapes Go.WideShapes Go.ChangeAt Go.RowKit

/-! ### Records -/

/-- A kind of data that lies in a fixed number of cells. -/
class Rec (α : Type) where
  sz : Nat
  cs : α → List Value
  len : ∀ a, (cs a).length = sz
  pos : 0 < sz
  one : ∀ a u, u ∈ cs a → u.oneCell' = true

open Rec (sz cs)

def flat {α : Type} [Rec α] : List α → List Value
  | [] => []
  | x :: xs => cs x ++ flat xs

section
variable {α : Type} [Rec α]

@[simp] theorem flat_nil : flat ([] : List α) = [] := rfl
@[simp] theorem flat_cons (x : α) (xs : List α) : flat (x :: xs) = cs x ++ flat xs := rfl

theorem flat_append (xs ys : List α) : flat (xs ++ ys) = flat xs ++ flat ys := by
  induction xs with
  | nil => rfl
  | cons x xs ih => simp [ih]

theorem flat_length (xs : List α) : (flat xs).length = xs.length * sz α := by
  induction xs with
  | nil => simp
  | cons x xs ih => simp only [flat_cons, List.length_append, ih, Rec.len, List.length_cons, Nat.add_mul]; omega

theorem flat_one (xs : List α) : ∀ u ∈ flat xs, u.oneCell' = true := by
  induction xs with
  | nil => simp
  | cons x xs ih =>
    intro u hu
    rcases List.mem_append.1 hu with h | h
    · exact Rec.one x u h
    · exact ih u h

theorem flat_get (xs : List α) (k j : Nat) (x : α) (hx : xs[k]? = some x) (hj : j < sz α) : (flat xs)[k * sz α + j]? = (cs x)[j]? := by
  induction xs generalizing k with
  | nil => simp at hx
  | cons y ys ih =>
    cases k with
    | zero =>
      simp at hx
      subst hx
      simp only [flat_cons, Nat.zero_mul, Nat.zero_add]
      rw [List.getElem?_append_left (by rw [Rec.len]; exact hj)]
    | succ k =>
      simp at hx
      have := ih k hx
      simp only [flat_cons]
      rw [List.getElem?_append_right (by rw [Rec.len, Nat.add_mul]; omega), Rec.len, ← this]
      congr 1
      rw [Nat.add_mul]; omega

theorem flat_take (xs : List α) (k : Nat) : flat (xs.take k) = (flat xs).take (k * sz α) := by
  induction xs generalizing k with
  | nil => simp
  | cons x xs ih =>
    cases k with
    | zero => simp
    | succ k =>
      simp only [List.take_succ_cons, flat_cons, ih]
      have hl : (cs x).length = sz α := Rec.len x
      have e : (k + 1) * sz α = sz α + k * sz α := by rw [Nat.add_mul]; omega
      rw [e, List.take_append, hl, List.take_of_length_le (l := cs x) (by omega), Nat.add_sub_cancel_left]

theorem flat_set (xs : List α) (k j : Nat) (x y : α) (u : Value) (hx : xs[k]? = some x) (hj : j < sz α) (hy : cs y = (cs x).set j u) :
    flat (xs.set k y) = (flat xs).set (k * sz α + j) u := by
  induction xs generalizing k with
  | nil => simp at hx
  | cons z zs ih =>
    cases k with
    | zero =>
      simp at hx
      subst hx
      simp only [List.set_cons_zero, flat_cons, Nat.zero_mul, Nat.zero_add, hy]
      rw [List.set_append_left _ _ (by rw [Rec.len]; exact hj)]
    | succ k =>
      simp at hx
      simp only [List.set_cons_succ, flat_cons, ih k hx]
      have hl : (cs z).length = sz α := Rec.len z
      rw [List.set_append_right _ _ (by rw [hl, Nat.add_mul]; omega), hl]
      congr 2
      rw [Nat.add_mul]; omega
end

/-! ### Worlds that only grow -/

/-- All that was there is there still; new blocks may have come. -/
def Ex (w w' : World) : Prop := Below w.heap.size w w'

theorem Ex.refl (w : World) : Ex w w := Below.refl _ _
theorem Ex.size {w w' : World} (h : Ex w w') : w.heap.size ≤ w'.heap.size := Below.size h
theorem Ex.trans {a b c : World} (h : Ex a b) (k : Ex b c) : Ex a c := Below.trans h (Below.mono k (Below.size h))
theorem Ex.alloc {a w : World} (h : Ex a w) (o : Obj) : Ex a (w.alloc o) := Below.alloc h (Below.size h) o
theorem Ex.drew {a w : World} (h : Ex a w) : Ex a w.drew := Below.drew h
theorem Ex.drewN {a w : World} (h : Ex a w) (n : Nat) : Ex a (w.drewN n) := ⟨h.os, h.tape, h.output, h.size, h.block⟩
theorem Ex.set {a w : World} (h : Ex a w) {p : Addr} (hp : a.heap.size ≤ p.block) (u : Value) : Ex a (w.setCell p u) := Below.setCell h hp u
theorem Ex.cell {a w : World} (h : Ex a w) {b o : Nat} (hb : b < a.heap.size) : w.cell? ⟨b, o, none⟩ = a.cell? ⟨b, o, none⟩ := Below.cell h (p := ⟨b, o, none⟩) hb
theorem Ex.frozen {a w : World} (h : Ex a w) {b o : Nat} (hb : b < a.heap.size) : w.frozen? ⟨b, o, none⟩ = a.frozen? ⟨b, o, none⟩ := Below.frozen h (p := ⟨b, o, none⟩) hb
theorem Ex.block {a w : World} (h : Ex a w) {b : Nat} (hb : b < a.heap.size) : w.heap[b]? = a.heap[b]? := Below.block h b hb
theorem Ex.below {a w : World} (h : Ex a w) : Below a.heap.size a w := h
theorem Ex.of_grown {a w w' : World} (h : Ex a w) {row : Option Nat} (hg : w.grownBy w' row) (hr : ∀ k, row = some k → a.heap.size ≤ k) : Ex a w' := Below.grown h hg h.size hr

/-- A known block. -/
def Blk (w : World) (g : Nat) (t : TypeId) (c : List Value) : Prop := w.heap[g]? = some (.cells c.toArray t (0, 0))

section
variable {w w' : World} {g : Nat} {t : TypeId} {c : List Value}
theorem Blk.lt (h : Blk w g t c) : g < w.heap.size := (Array.getElem?_eq_some_iff.1 h).1
theorem Blk.cell (h : Blk w g t c) (i : Nat) : w.cell? ⟨g, i, none⟩ = c[i]? := by
  rw [cell_of_row w g i _ t (0, 0) h]; simp
theorem Blk.frozen (h : Blk w g t c) (i : Nat) : w.frozen? ⟨g, i, none⟩ = false := frozen_of_row w g i _ t h
theorem Blk.new (w : World) (t : TypeId) (c : List Value) : Blk (w.alloc (.cells c.toArray t)) w.heap.size t c := heap_alloc_new w _
theorem Blk.new_at (w : World) (t : TypeId) (c : List Value) {g : Nat} (hg : g = w.heap.size) : Blk (w.alloc (.cells c.toArray t)) g t c := by subst hg; exact heap_alloc_new w _
theorem Blk.c1 {a : Value} (h : Blk w g t [a]) : w.cell? ⟨g, 0, none⟩ = some a := h.cell 0
theorem Blk.c2 {a b : Value} (h : Blk w g t [a, b]) : w.cell? ⟨g, 0, none⟩ = some a ∧ w.cell? ⟨g, 1, none⟩ = some b := ⟨h.cell 0, h.cell 1⟩
theorem Blk.c4 {a b d e : Value} (h : Blk w g t [a, b, d, e]) : w.cell? ⟨g, 0, none⟩ = some a ∧ w.cell? ⟨g, 1, none⟩ = some b ∧ w.cell? ⟨g, 2, none⟩ = some d ∧ w.cell? ⟨g, 3, none⟩ = some e := ⟨h.cell 0, h.cell 1, h.cell 2, h.cell 3⟩
theorem Blk.c6 {a b d e f k : Value} (h : Blk w g t [a, b, d, e, f, k]) : w.cell? ⟨g, 0, none⟩ = some a ∧ w.cell? ⟨g, 1, none⟩ = some b ∧ w.cell? ⟨g, 2, none⟩ = some d ∧ w.cell? ⟨g, 3, none⟩ = some e ∧ w.cell? ⟨g, 4, none⟩ = some f ∧ w.cell? ⟨g, 5, none⟩ = some k := ⟨h.cell 0, h.cell 1, h.cell 2, h.cell 3, h.cell 4, h.cell 5⟩
theorem Blk.c3 {v0 v1 v2 : Value} (h : Blk w g t [v0, v1, v2]) : w.cell? ⟨g, 0, none⟩ = some v0 ∧ w.cell? ⟨g, 1, none⟩ = some v1 ∧ w.cell? ⟨g, 2, none⟩ = some v2 := ⟨h.cell 0, h.cell 1, h.cell 2⟩
theorem Blk.c5 {v0 v1 v2 v3 v4 : Value} (h : Blk w g t [v0, v1, v2, v3, v4]) : w.cell? ⟨g, 0, none⟩ = some v0 ∧ w.cell? ⟨g, 1, none⟩ = some v1 ∧ w.cell? ⟨g, 2, none⟩ = some v2 ∧ w.cell? ⟨g, 3, none⟩ = some v3 ∧ w.cell? ⟨g, 4, none⟩ = some v4 := ⟨h.cell 0, h.cell 1, h.cell 2, h.cell 3, h.cell 4⟩
theorem Blk.c9 {v0 v1 v2 v3 v4 v5 v6 v7 v8 : Value} (h : Blk w g t [v0, v1, v2, v3, v4, v5, v6, v7, v8]) : w.cell? ⟨g, 0, none⟩ = some v0 ∧ w.cell? ⟨g, 1, none⟩ = some v1 ∧ w.cell? ⟨g, 2, none⟩ = some v2 ∧ w.cell? ⟨g, 3, none⟩ = some v3 ∧ w.cell? ⟨g, 4, none⟩ = some v4 ∧ w.cell? ⟨g, 5, none⟩ = some v5 ∧ w.cell? ⟨g, 6, none⟩ = some v6 ∧ w.cell? ⟨g, 7, none⟩ = some v7 ∧ w.cell? ⟨g, 8, none⟩ = some v8 := ⟨h.cell 0, h.cell 1, h.cell 2, h.cell 3, h.cell 4, h.cell 5, h.cell 6, h.cell 7, h.cell 8⟩
theorem Blk.c11 {v0 v1 v2 v3 v4 v5 v6 v7 v8 v9 v10 : Value} (h : Blk w g t [v0, v1, v2, v3, v4, v5, v6, v7, v8, v9, v10]) : w.cell? ⟨g, 0, none⟩ = some v0 ∧ w.cell? ⟨g, 1, none⟩ = some v1 ∧ w.cell? ⟨g, 2, none⟩ = some v2 ∧ w.cell? ⟨g, 3, none⟩ = some v3 ∧ w.cell? ⟨g, 4, none⟩ = some v4 ∧ w.cell? ⟨g, 5, none⟩ = some v5 ∧ w.cell? ⟨g, 6, none⟩ = some v6 ∧ w.cell? ⟨g, 7, none⟩ = some v7 ∧ w.cell? ⟨g, 8, none⟩ = some v8 ∧ w.cell? ⟨g, 9, none⟩ = some v9 ∧ w.cell? ⟨g, 10, none⟩ = some v10 := ⟨h.cell 0, h.cell 1, h.cell 2, h.cell 3, h.cell 4, h.cell 5, h.cell 6, h.cell 7, h.cell 8, h.cell 9, h.cell 10⟩
theorem Blk.drew (h : Blk w g t c) : Blk w.drew g t c := h
theorem Blk.drewN (h : Blk w g t c) (n : Nat) : Blk (w.drewN n) g t c := h
theorem Blk.alloc (h : Blk w g t c) (o : Obj) : Blk (w.alloc o) g t c := (Below.heap_alloc w o g h.lt).trans h
theorem Blk.set (h : Blk w g t c) (i : Nat) (u : Value) : Blk (w.setCell ⟨g, i, none⟩ u) g t (c.set i u) := by
  unfold Blk at h ⊢
  simp [World.setCell, Array.getElem?_modify, h]
theorem Blk.far (h : Blk w g t c) {p : Addr} (hp : g ≠ p.block) (u : Value) : Blk (w.setCell p u) g t c := (Below.heap_setCell w p u g hp).trans h
theorem Blk.ex (h : Blk w g t c) (k : Ex w w') : Blk w' g t c := (k.block h.lt).trans h
end

/-! ### Slices that read as lists -/

section
variable {α : Type} [Rec α] {w w' : World} {A : Option Addr} {xs : List α}

/-- The slice at A reads as xs. -/
def Rd (w : World) (A : Option Addr) (xs : List α) : Prop :=
  0 < xs.length → ∃ b off, A = some ⟨b, off, none⟩ ∧ b < w.heap.size ∧ ∀ m u, (flat xs)[m]? = some u → w.cell? ⟨b, off + m, none⟩ = some u

theorem Rd.nil (w : World) (A : Option Addr) : Rd w A ([] : List α) := fun h => absurd h (by simp)
theorem Rd.ex (h : Rd w A xs) (k : Ex w w') : Rd w' A xs := fun hn => by
  obtain ⟨b, off, e, hb, hc⟩ := h hn
  exact ⟨b, off, e, Nat.lt_of_lt_of_le hb k.size, fun m u hu => (k.cell hb).trans (hc m u hu)⟩
theorem Rd.alloc (h : Rd w A xs) (o : Obj) : Rd (w.alloc o) A xs := h.ex ((Ex.refl w).alloc o)
theorem Rd.drew (h : Rd w A xs) : Rd w.drew A xs := h
theorem Rd.drewN (h : Rd w A xs) (n : Nat) : Rd (w.drewN n) A xs := h
/-- The element at k, cell by cell. -/
theorem Rd.at_ (h : Rd w A xs) {k : Nat} (hk : k < xs.length) : ∃ b off x, A = some ⟨b, off, none⟩ ∧ b < w.heap.size ∧ xs[k]? = some x ∧
    ∀ j u, j < sz α → (cs x)[j]? = some u → w.cell? ⟨b, off + (k * sz α + j), none⟩ = some u := by
  obtain ⟨b, off, e, hb, hc⟩ := h (by omega)
  refine ⟨b, off, xs[k], e, hb, List.getElem?_eq_getElem hk, fun j u hj hu => hc _ _ ?_⟩
  rw [flat_get xs k j xs[k] (List.getElem?_eq_getElem hk) hj]
  exact hu
/-- The element at k, cell by cell, where the address is known. -/
theorem Rd.at_known {b off : Nat} (h : Rd w (some ⟨b, off, none⟩) xs) {k : Nat} (hk : k < xs.length) : ∃ x, b < w.heap.size ∧ xs[k]? = some x ∧
    ∀ j u, j < sz α → (cs x)[j]? = some u → w.cell? ⟨b, off + (k * sz α + j), none⟩ = some u := by
  obtain ⟨b', off', x, e, hb, hx, hc⟩ := h.at_ hk
  injection e with e
  injection e with e1 e2
  subst e1 e2
  exact ⟨x, hb, hx, hc⟩
theorem Rd.take (h : Rd w A xs) (k : Nat) : Rd w A (xs.take k) := fun hn => by
  obtain ⟨b, off, e, hb, hc⟩ := h (by rw [List.length_take] at hn; omega)
  refine ⟨b, off, e, hb, fun m u hu => hc m u ?_⟩
  rw [flat_take, List.getElem?_take] at hu
  split at hu
  · exact hu
  · cases hu

/-- The slice's row, from the head of a block of the call's own (from B on), reads as xs; 'rest' is its spare room. -/
def Bk (E : TypeId) (w : World) (g : Nat) (xs : List α) (rest : List Value) : Prop := Blk w g E (flat xs ++ rest)

/-- A slice with capacity c that shares no memory with what lies below block B. -/
def Fr (E : TypeId) (w : World) (B : Nat) (A : Option Addr) (c : Nat) (xs : List α) : Prop :=
  xs.length ≤ c ∧ c ≤ maxLen ∧ (c = 0 ∨ ∃ g rest, A = some ⟨g, 0, none⟩ ∧ B ≤ g ∧ Bk E w g xs rest ∧ (c - xs.length) * sz α ≤ rest.length)

variable {E : TypeId} {B B' g c : Nat} {rest : List Value}

theorem Bk.rd (h : Bk E w g xs rest) : Rd w (some ⟨g, 0, none⟩) xs := fun _ => by
  refine ⟨g, 0, rfl, Blk.lt h, fun m u hu => ?_⟩
  have hm : m < (flat xs).length := (List.getElem?_eq_some_iff.1 hu).1
  rw [Nat.zero_add, Blk.cell h, List.getElem?_append_left hm]
  exact hu
theorem Bk.ex (h : Bk E w g xs rest) (k : Ex w w') : Bk E w' g xs rest := Blk.ex h k
theorem Bk.alloc (h : Bk E w g xs rest) (o : Obj) : Bk E (w.alloc o) g xs rest := Blk.alloc h o
theorem Bk.drew (h : Bk E w g xs rest) : Bk E w.drew g xs rest := h
theorem Bk.frozen (h : Bk E w g xs rest) (i : Nat) : w.frozen? ⟨g, i, none⟩ = false := Blk.frozen h i
theorem Bk.far (h : Bk E w g xs rest) {p : Addr} (hp : g ≠ p.block) (u : Value) : Bk E (w.setCell p u) g xs rest := Blk.far h hp u
/-- One cell of the element at k is written. -/
theorem Bk.set (h : Bk E w g xs rest) {k j off : Nat} {x y : α} {u : Value} (hx : xs[k]? = some x) (hj : j < sz α) (hy : cs y = (cs x).set j u) (ho : off = k * sz α + j) :
    Bk E (w.setCell ⟨g, off, none⟩ u) g (xs.set k y) rest := by
  subst ho
  have hk : k < xs.length := (List.getElem?_eq_some_iff.1 hx).1
  have hlt : k * sz α + j < (flat xs).length := by
    rw [flat_length]
    exact Nat.lt_of_lt_of_le (Nat.add_lt_add_left hj _) (by rw [← Nat.succ_mul]; exact Nat.mul_le_mul_right _ hk)
  have := Blk.set h (k * sz α + j) u
  unfold Bk
  rwa [List.set_append_left _ _ hlt, ← flat_set xs k j x y u hx hj hy] at this
theorem Bk.cell_at (h : Bk E w g xs rest) {k : Nat} {x : α} (hx : xs[k]? = some x) {j : Nat} (hj : j < sz α) {u : Value} (hu : (cs x)[j]? = some u) : w.cell? ⟨g, k * sz α + j, none⟩ = some u := by
  have hk : k < xs.length := (List.getElem?_eq_some_iff.1 hx).1
  have hlt : k * sz α + j < (flat xs).length := by
    rw [flat_length]
    exact Nat.lt_of_lt_of_le (Nat.add_lt_add_left hj _) (by rw [← Nat.succ_mul]; exact Nat.mul_le_mul_right _ hk)
  rw [Blk.cell h, List.getElem?_append_left hlt, flat_get xs k j x hx hj, hu]

theorem Fr.rd (h : Fr E w B A c xs) : Rd w A xs := by
  obtain ⟨hl, _, h0 | ⟨g, rest, rfl, _, hb, _⟩⟩ := h
  · exact fun hn => by omega
  · exact hb.rd
theorem Fr.ex (h : Fr E w B A c xs) (k : Ex w w') : Fr E w' B A c xs := by
  obtain ⟨hl, hm, h0 | ⟨g, rest, e, hB, hb, hr⟩⟩ := h
  · exact ⟨hl, hm, .inl h0⟩
  · exact ⟨hl, hm, .inr ⟨g, rest, e, hB, hb.ex k, hr⟩⟩
theorem Fr.mono (h : Fr E w B A c xs) (hB : B' ≤ B) : Fr E w B' A c xs := by
  obtain ⟨hl, hm, h0 | ⟨g, rest, e, hB, hb, hr⟩⟩ := h
  · exact ⟨hl, hm, .inl h0⟩
  · exact ⟨hl, hm, .inr ⟨g, rest, e, by omega, hb, hr⟩⟩
theorem Fr.alloc (h : Fr E w B A c xs) (o : Obj) : Fr E (w.alloc o) B A c xs := h.ex ((Ex.refl w).alloc o)
theorem Fr.drew (h : Fr E w B A c xs) : Fr E w.drew B A c xs := h
theorem Fr.drewN (h : Fr E w B A c xs) (n : Nat) : Fr E (w.drewN n) B A c xs := h
theorem Fr.none_ (E : TypeId) (w : World) (B : Nat) (A : Option Addr) : Fr E w B A 0 ([] : List α) := ⟨Nat.le_refl _, Nat.zero_le _, .inl rfl⟩
theorem Fr.le (h : Fr E w B A c xs) : xs.length ≤ c := h.1
theorem Fr.cap (h : Fr E w B A c xs) : c ≤ maxLen := h.2.1
/-- The kit's own word for such a row. -/
theorem Fr.of_own {n : Nat} {v : Value} (h : w.ownsRow B E (sz α) v n (flat xs)) (hn : n = xs.length) : ∃ A c, v = .slice A n c ∧ Fr E w B A c xs := by
  subst hn
  rcases h.2 with ⟨rfl, hn⟩ | ⟨g, cap, cur, rfl, hB, hg, hnc, hcm, hcs, ht⟩
  · have : xs = [] := List.eq_nil_of_length_eq_zero hn
    subst this
    exact ⟨none, 0, by rw [hn], Fr.none_ _ _ _ _⟩
  · refine ⟨_, cap, rfl, hnc, hcm, .inr ⟨g, cur.toList.drop (xs.length * sz α), rfl, hB, ?_, ?_⟩⟩
    · unfold Bk Blk
      rw [← ht, List.take_append_drop]
      exact hg
    · exact Nat.le_of_eq (by rw [List.length_drop, show cur.toList.length = cur.size from rfl, hcs, Nat.sub_mul])
end

section
variable {α : Type} [Rec α] {P : Program}
theorem madeCells_flat (z : α) (n : Nat) : madeCells (cs z).toArray (n * sz α) = (flat (List.replicate n z)).toArray := by
  apply Array.ext
  · simp [size_madeCells, flat_length]
  · intro i h1 h2
    rw [size_madeCells] at h1
    have hp : 0 < sz α := Rec.pos
    have hd : i / sz α < n := (Nat.div_lt_iff_lt_mul hp).2 h1
    have hm : i % sz α < sz α := Nat.mod_lt _ hp
    have hi : i / sz α * sz α + i % sz α = i := by rw [Nat.mul_comm]; exact Nat.div_add_mod i (sz α)
    have hg := flat_get (List.replicate n z) (i / sz α) (i % sz α) z (by rw [List.getElem?_replicate, if_pos hd]) hm
    rw [hi, List.getElem?_eq_getElem (by simpa using h2), List.getElem?_eq_getElem (by rw [Rec.len]; exact hm)] at hg
    injection hg with hg
    have hl : (cs z).length = sz α := Rec.len z
    simp [madeCells, hl, hm]
    exact hg.symm
/-- make([]T, n): n zero values in a new block, for whatever world. -/
theorem make_rec (t e bytes : Nat) (z : α) (zv : Value) (ht : P.underlying t = some (.slice e)) (hinfo : (P.info? e).map (fun i => (i.zero, i.size, i.bytes)) = some (some zv, sz α, bytes))
    (hz : zv.cells = (cs z).toArray) (n : Nat) (hbytes : bytes * n ≤ 281474976710656) (h63 : n ≤ 9223372036854775807) (w : World) :
    (Instr.makeSlice t (.int .i64 (n : Int)) (.int .i64 (n : Int))).run P w = .ok (.slice (some ⟨w.heap.size, 0, none⟩) n n) (w.alloc (.cells (flat (List.replicate n z)).toArray e)) := by
  obtain ⟨i, hi, hz0, hz1, hz2⟩ := info_parts hinfo
  have hb' : (i.bytes : Int) * (n : Int) ≤ 281474976710656 := by
    have h : ((i.bytes * n : Nat) : Int) ≤ 281474976710656 := by rw [hz2]; omega
    rwa [Int.natCast_mul] at h
  have hr := run_make (P := P) w t e i zv ht hi hz0 .i64 .i64 n n (by omega) (Int.le_refl _) hb' (by omega)
  simp only [Int.toNat_natCast, hz1, hz, madeCells_flat] at hr
  exact hr
theorem Bk.new (w : World) (E : TypeId) (xs : List α) : Bk E (w.alloc (.cells (flat xs).toArray E)) w.heap.size xs [] := by
  have := Blk.new w E (flat xs)
  unfold Bk
  rwa [List.append_nil]
end

/-! ### Only one block has turned -/
section
variable {w w' w'' : World} {row : Option Nat} {g : Nat}
theorem grown_refl (w : World) (row : Option Nat) : w.grownBy w row := ⟨rfl, rfl, rfl, Nat.le_refl _, fun _ _ _ => rfl⟩
theorem grown_ex (h : w.grownBy w' row) (k : Ex w' w'') : w.grownBy w'' row :=
  ⟨k.os.trans h.os, k.tape.trans h.tape, k.output.trans h.output, Nat.le_trans h.size k.size, fun i hi hn => (k.block (Nat.lt_of_lt_of_le hi h.size)).trans (h.block i hi hn)⟩
theorem grown_set (h : w.grownBy w' (some g)) (o : Nat) (u : Value) : w.grownBy (w'.setCell ⟨g, o, none⟩ u) (some g) :=
  ⟨h.os, h.tape, h.output, by simpa [World.setCell] using h.size, fun i hi hn => (Below.heap_setCell w' ⟨g, o, none⟩ u i (fun e => hn (by rw [e]))).trans (h.block i hi hn)⟩
theorem Blk.grown {t : TypeId} {c : List Value} (h : Blk w g t c) (k : w.grownBy w' row) (hn : some g ≠ row) : Blk w' g t c := (k.block g h.lt hn).trans h
theorem Ex.grown {a : World} (h : Ex a w) (k : w.grownBy w' row) (hr : ∀ g, row = some g → a.heap.size ≤ g) : Ex a w' := h.of_grown k hr
end

section
variable {α : Type} [Rec α] {w w' : World} {A : Option Addr} {xs : List α} {E : TypeId} {B c : Nat} {row : Option Nat}
theorem Rd.grown (h : Rd w A xs) (k : w.grownBy w' row) (hn : ∀ b, row = some b → ∀ off, A ≠ some ⟨b, off, none⟩) : Rd w' A xs := fun h0 => by
  obtain ⟨b, off, rfl, hb, hc⟩ := h h0
  have hne : some b ≠ row := fun e => hn b e.symm off rfl
  exact ⟨b, off, rfl, Nat.lt_of_lt_of_le hb k.size, fun m u hu => (World.cell?_of_block (k.block b hb hne)).trans (hc m u hu)⟩
/-- Where a slice of the call's own lies. -/
theorem Fr.where_ (h : Fr E w B A c xs) : c = 0 ∨ ∃ g, A = some ⟨g, 0, none⟩ ∧ B ≤ g ∧ g < w.heap.size := by
  obtain ⟨_, _, h0 | ⟨g, rest, e, hB, hb, _⟩⟩ := h
  · exact .inl h0
  · exact .inr ⟨g, e, hB, Blk.lt hb⟩
theorem Fr.grown (h : Fr E w B A c xs) (k : w.grownBy w' row) (hn : ∀ b, row = some b → c = 0 ∨ A ≠ some ⟨b, 0, none⟩) : Fr E w' B A c xs := by
  obtain ⟨hl, hm, h0 | ⟨g, rest, rfl, hB, hb, hr⟩⟩ := h
  · exact ⟨hl, hm, .inl h0⟩
  · by_cases hc : c = 0
    · exact ⟨hl, hm, .inl hc⟩
    · refine ⟨hl, hm, .inr ⟨g, rest, rfl, hB, Blk.grown hb k (fun e => ?_), hr⟩⟩
      rcases hn g e.symm with h | h
      · exact hc h
      · exact h rfl
end

section
variable {α : Type} [Rec α] {w w' : World} {A : Option Addr} {xs ys : List α} {E : TypeId} {B c k g : Nat} {rest : List Value}
theorem Fr.open_ (h : Fr E w B A c xs) (hk : k < xs.length) : ∃ g rest, A = some ⟨g, 0, none⟩ ∧ B ≤ g ∧ Bk E w g xs rest ∧ (c - xs.length) * sz α ≤ rest.length := by
  obtain ⟨hl, hm, h0 | ⟨g, rest, rfl, hB, hb, hr⟩⟩ := h
  · omega
  · exact ⟨g, rest, rfl, hB, hb, hr⟩
theorem Fr.set_below (h : Fr E w B A c xs) {p : Addr} (hp : p.block < B) (u : Value) : Fr E (w.setCell p u) B A c xs := by
  obtain ⟨hl, hm, h0 | ⟨g, rest, rfl, hB, hb, hr⟩⟩ := h
  · exact ⟨hl, hm, .inl h0⟩
  · exact ⟨hl, hm, .inr ⟨g, rest, rfl, hB, hb.far (by omega) u, hr⟩⟩
theorem Fr.close (hb : Bk E w g xs rest) (hB : B ≤ g) (hr : (c - xs.length) * sz α ≤ rest.length) (hl : xs.length ≤ c) (hm : c ≤ maxLen) : Fr E w B (some ⟨g, 0, none⟩) c xs :=
  ⟨hl, hm, .inr ⟨g, rest, rfl, hB, hb, hr⟩⟩
end

/-- The one block that a write through the slice may turn. -/
def rowOf (A : Option Addr) (c : Nat) : Option Nat := if c = 0 then none else A.map (·.block)
theorem rowOf_some {g c : Nat} (h : 0 < c) : rowOf (some ⟨g, 0, none⟩) c = some g := by
  unfold rowOf; rw [if_neg (by omega)]; rfl
theorem Fr.row {α : Type} [Rec α] {w : World} {A : Option Addr} {xs : List α} {E : TypeId} {B c : Nat} (h : Fr E w B A c xs) : ∀ b, rowOf A c = some b → B ≤ b ∧ b < w.heap.size := by
  intro b hb
  rcases h.where_ with h0 | ⟨g, rfl, h1, h2⟩
  · unfold rowOf at hb
    rw [if_pos h0] at hb
    cases hb
  · unfold rowOf at hb
    split at hb
    · cases hb
    · injection hb with hb
      subst hb
      exact ⟨h1, h2⟩
/-- A slice that lies apart from the row that is written. -/
theorem Fr.apart {α : Type} [Rec α] {w w' : World} {A : Option Addr} {xs : List α} {E : TypeId} {B c : Nat} {row : Option Nat} {lo hi lo' hi' : Nat} (h : Fr E w B A c xs) (k : w.grownBy w' row)
    (hr : ∀ b, row = some b → lo ≤ b ∧ b < hi) (ha : ∀ b, rowOf A c = some b → lo' ≤ b ∧ b < hi') (hne : hi ≤ lo' ∨ hi' ≤ lo) : Fr E w' B A c xs :=
  h.grown k fun b hb => by
    by_cases hc : c = 0
    · exact .inl hc
    · refine .inr ?_
      rintro rfl
      have h1 := hr b hb
      have h2 := ha b (rowOf_some (by omega))
      omega

theorem ret_bool {a b : Bool} (h : a = b) : Ending.returned (.bool a) = .returned (.bool b) := by rw [h]
theorem ret_int {k : IntKind} {a b : Int} (h : a = b) : Ending.returned (.int k a) = .returned (.int k b) := by rw [h]

end Go.Proofs.YtbdlpbladpppjaaGreatDoor
namespace Go.Proofs.YtbdlpbladpppjaaGreatDoor
open Go.ChangeShapes Go.WideShapes Go.ChangeAt Go.RowKit
open Rec (sz cs)

structure OwnD where
  space : Int
  tag : Int
deriving DecidableEq, Inhabited

structure KeyD where
  space : Int
  page : Int
deriving DecidableEq, Inhabited

structure FrameD where
  used : Bool
  key : KeyD
  rights : Int
  next : Int
deriving DecidableEq, Inhabited

structure LineD where
  valid : Bool
  tag : Int
  page : Int
  frame : Int
  rights : Int
  wired : Bool
deriving DecidableEq, Inhabited

structure NoteD where
  key : KeyD
  frame : Int
deriving DecidableEq, Inhabited

instance : Rec Int where
  sz := 1
  cs n := [.int .i64 n]
  len _ := rfl
  pos := by decide
  one _ u hu := by simp at hu; subst hu; rfl

instance : Rec Bool where
  sz := 1
  cs b := [.bool b]
  len _ := rfl
  pos := by decide
  one _ u hu := by simp at hu; subst hu; rfl

instance : Rec OwnD where
  sz := 2
  cs o := [.int .i64 o.space, .int .i64 o.tag]
  len _ := rfl
  pos := by decide
  one _ u hu := by simp at hu; rcases hu with rfl | rfl <;> rfl

instance : Rec KeyD where
  sz := 2
  cs o := [.int .i64 o.space, .int .i64 o.page]
  len _ := rfl
  pos := by decide
  one _ u hu := by simp at hu; rcases hu with rfl | rfl <;> rfl

instance : Rec NoteD where
  sz := 3
  cs o := [.int .i64 o.key.space, .int .i64 o.key.page, .int .i64 o.frame]
  len _ := rfl
  pos := by decide
  one _ u hu := by simp at hu; rcases hu with rfl | rfl | rfl <;> rfl

instance : Rec FrameD where
  sz := 5
  cs o := [.bool o.used, .int .i64 o.key.space, .int .i64 o.key.page, .int .i64 o.rights, .int .i64 o.next]
  len _ := rfl
  pos := by decide
  one _ u hu := by simp at hu; rcases hu with rfl | rfl | rfl | rfl | rfl <;> rfl

instance : Rec LineD where
  sz := 6
  cs o := [.bool o.valid, .int .i64 o.tag, .int .i64 o.page, .int .i64 o.frame, .int .i64 o.rights, .bool o.wired]
  len _ := rfl
  pos := by decide
  one _ u hu := by simp at hu; rcases hu with rfl | rfl | rfl | rfl | rfl | rfl <;> rfl

structure TagsD where
  count : Int
  next : Int
  round : Int
  owns : List OwnD
deriving DecidableEq, Inhabited

structure CacheD where
  lines : List LineD
  hand : Int
deriving DecidableEq, Inhabited

structure TableD where
  buckets : List Int
  frames : List FrameD
deriving DecidableEq, Inhabited

structure MachD where
  table : TableD
  cache : CacheD
  tags : TagsD
  space : Int
deriving DecidableEq, Inhabited

structure MemD where
  mach : MachD
  marks : List Bool
  hand : Int
deriving DecidableEq, Inhabited

section
variable {w : World} {A : Option Addr} {k : Nat}

/-! ### One element, in the walk's own spelling -/
theorem Rd.own {xs : List OwnD} (h : Rd w A xs) (hk : k < xs.length) : ∃ b off x, A = some ⟨b, off, none⟩ ∧ b < w.heap.size ∧ xs[k]? = some x ∧
    w.cell? ⟨b, off + k * 2, none⟩ = some (.int .i64 x.space) ∧ w.cell? ⟨b, off + k * 2 + 1, none⟩ = some (.int .i64 x.tag) := by
  obtain ⟨b, off, x, e, hb, hx, hc⟩ := h.at_ hk
  exact ⟨b, off, x, e, hb, hx, hc 0 _ (by decide) rfl, hc 1 _ (by decide) rfl⟩
theorem Rd.own_known {b off : Nat} {xs : List OwnD} (h : Rd w (some ⟨b, off, none⟩) xs) (hk : k < xs.length) : ∃ x, b < w.heap.size ∧ xs[k]? = some x ∧
    w.cell? ⟨b, off + k * 2, none⟩ = some (.int .i64 x.space) ∧ w.cell? ⟨b, off + k * 2 + 1, none⟩ = some (.int .i64 x.tag) := by
  obtain ⟨x, hb, hx, hc⟩ := h.at_known hk
  exact ⟨x, hb, hx, hc 0 _ (by decide) rfl, hc 1 _ (by decide) rfl⟩
theorem Rd.int {xs : List Int} (h : Rd w A xs) (hk : k < xs.length) : ∃ b off x, A = some ⟨b, off, none⟩ ∧ b < w.heap.size ∧ xs[k]? = some x ∧
    w.cell? ⟨b, off + k, none⟩ = some (.int .i64 x) := by
  obtain ⟨b, off, x, e, hb, hx, hc⟩ := h.at_ hk
  exact ⟨b, off, x, e, hb, hx, by have := hc 0 _ (by decide) rfl; simpa [sz] using this⟩
theorem Rd.bool {xs : List Bool} (h : Rd w A xs) (hk : k < xs.length) : ∃ b off x, A = some ⟨b, off, none⟩ ∧ b < w.heap.size ∧ xs[k]? = some x ∧
    w.cell? ⟨b, off + k, none⟩ = some (.bool x) := by
  obtain ⟨b, off, x, e, hb, hx, hc⟩ := h.at_ hk
  exact ⟨b, off, x, e, hb, hx, by have := hc 0 _ (by decide) rfl; simpa [sz] using this⟩
theorem Rd.line {xs : List LineD} (h : Rd w A xs) (hk : k < xs.length) : ∃ b off x, A = some ⟨b, off, none⟩ ∧ b < w.heap.size ∧ xs[k]? = some x ∧
    w.cell? ⟨b, off + k * 6, none⟩ = some (.bool x.valid) ∧ w.cell? ⟨b, off + k * 6 + 1, none⟩ = some (.int .i64 x.tag) ∧
    w.cell? ⟨b, off + k * 6 + 2, none⟩ = some (.int .i64 x.page) ∧ w.cell? ⟨b, off + k * 6 + 3, none⟩ = some (.int .i64 x.frame) ∧
    w.cell? ⟨b, off + k * 6 + 4, none⟩ = some (.int .i64 x.rights) ∧ w.cell? ⟨b, off + k * 6 + 5, none⟩ = some (.bool x.wired) := by
  obtain ⟨b, off, x, e, hb, hx, hc⟩ := h.at_ hk
  exact ⟨b, off, x, e, hb, hx, hc 0 _ (by decide) rfl, hc 1 _ (by decide) rfl, hc 2 _ (by decide) rfl, hc 3 _ (by decide) rfl, hc 4 _ (by decide) rfl, hc 5 _ (by decide) rfl⟩
theorem Rd.line_known {b off : Nat} {xs : List LineD} (h : Rd w (some ⟨b, off, none⟩) xs) (hk : k < xs.length) : ∃ x, b < w.heap.size ∧ xs[k]? = some x ∧
    w.cell? ⟨b, off + k * 6, none⟩ = some (.bool x.valid) ∧ w.cell? ⟨b, off + k * 6 + 1, none⟩ = some (.int .i64 x.tag) ∧
    w.cell? ⟨b, off + k * 6 + 2, none⟩ = some (.int .i64 x.page) ∧ w.cell? ⟨b, off + k * 6 + 3, none⟩ = some (.int .i64 x.frame) ∧
    w.cell? ⟨b, off + k * 6 + 4, none⟩ = some (.int .i64 x.rights) ∧ w.cell? ⟨b, off + k * 6 + 5, none⟩ = some (.bool x.wired) := by
  obtain ⟨x, hb, hx, hc⟩ := h.at_known hk
  exact ⟨x, hb, hx, hc 0 _ (by decide) rfl, hc 1 _ (by decide) rfl, hc 2 _ (by decide) rfl, hc 3 _ (by decide) rfl, hc 4 _ (by decide) rfl, hc 5 _ (by decide) rfl⟩
theorem Rd.frame {xs : List FrameD} (h : Rd w A xs) (hk : k < xs.length) : ∃ b off x, A = some ⟨b, off, none⟩ ∧ b < w.heap.size ∧ xs[k]? = some x ∧
    w.cell? ⟨b, off + k * 5, none⟩ = some (.bool x.used) ∧ w.cell? ⟨b, off + k * 5 + 1, none⟩ = some (.int .i64 x.key.space) ∧
    w.cell? ⟨b, off + k * 5 + 2, none⟩ = some (.int .i64 x.key.page) ∧ w.cell? ⟨b, off + k * 5 + 3, none⟩ = some (.int .i64 x.rights) ∧
    w.cell? ⟨b, off + k * 5 + 4, none⟩ = some (.int .i64 x.next) := by
  obtain ⟨b, off, x, e, hb, hx, hc⟩ := h.at_ hk
  exact ⟨b, off, x, e, hb, hx, hc 0 _ (by decide) rfl, hc 1 _ (by decide) rfl, hc 2 _ (by decide) rfl, hc 3 _ (by decide) rfl, hc 4 _ (by decide) rfl⟩
end

/-! ### Elements of a row of the call's own -/
section
variable {E g k : Nat} {w : World} {rest : List Value}
theorem Bk.own {zs : List OwnD} {z : OwnD} (h : Bk E w g zs rest) (hz : zs[k]? = some z) : w.cell? ⟨g, k * 2, none⟩ = some (.int .i64 z.space) ∧ w.cell? ⟨g, k * 2 + 1, none⟩ = some (.int .i64 z.tag) :=
  ⟨h.cell_at hz (j := 0) (by decide) rfl, h.cell_at hz (j := 1) (by decide) rfl⟩
theorem Bk.line {zs : List LineD} {z : LineD} (h : Bk E w g zs rest) (hz : zs[k]? = some z) : w.cell? ⟨g, k * 6, none⟩ = some (.bool z.valid) ∧ w.cell? ⟨g, k * 6 + 1, none⟩ = some (.int .i64 z.tag) ∧ w.cell? ⟨g, k * 6 + 2, none⟩ = some (.int .i64 z.page) ∧ w.cell? ⟨g, k * 6 + 3, none⟩ = some (.int .i64 z.frame) ∧ w.cell? ⟨g, k * 6 + 4, none⟩ = some (.int .i64 z.rights) ∧ w.cell? ⟨g, k * 6 + 5, none⟩ = some (.bool z.wired) :=
  ⟨h.cell_at hz (j := 0) (by decide) rfl, h.cell_at hz (j := 1) (by decide) rfl, h.cell_at hz (j := 2) (by decide) rfl, h.cell_at hz (j := 3) (by decide) rfl, h.cell_at hz (j := 4) (by decide) rfl, h.cell_at hz (j := 5) (by decide) rfl⟩
theorem Bk.set_line {zs : List LineD} (h : Bk E w g zs rest) (x : LineD) (hk : k < zs.length) : Bk E ((((((w.setCell ⟨g, k * 6, none⟩ (.bool x.valid)).setCell ⟨g, k * 6 + 1, none⟩ (.int .i64 x.tag)).setCell ⟨g, k * 6 + 2, none⟩ (.int .i64 x.page)).setCell ⟨g, k * 6 + 3, none⟩ (.int .i64 x.frame)).setCell ⟨g, k * 6 + 4, none⟩ (.int .i64 x.rights)).setCell ⟨g, k * 6 + 5, none⟩ (.bool x.wired)) g (zs.set k x) rest := by
  obtain ⟨z, hz⟩ : ∃ z, zs[k]? = some z := ⟨_, List.getElem?_eq_getElem hk⟩
  have h1 := Bk.set h (k := k) (j := 0) (x := (z : LineD)) (y := (⟨x.valid, z.tag, z.page, z.frame, z.rights, z.wired⟩ : LineD)) (u := (.bool x.valid)) (off := k * 6) hz (by decide) rfl (by simp [sz])
  have h2 := Bk.set h1 (k := k) (j := 1) (x := (⟨x.valid, z.tag, z.page, z.frame, z.rights, z.wired⟩ : LineD)) (y := (⟨x.valid, x.tag, z.page, z.frame, z.rights, z.wired⟩ : LineD)) (u := (.int .i64 x.tag)) (off := k * 6 + 1) (by rw [List.getElem?_set_self (by simpa using hk)]) (by decide) rfl (by simp [sz])
  rw [List.set_set] at h2
  have h3 := Bk.set h2 (k := k) (j := 2) (x := (⟨x.valid, x.tag, z.page, z.frame, z.rights, z.wired⟩ : LineD)) (y := (⟨x.valid, x.tag, x.page, z.frame, z.rights, z.wired⟩ : LineD)) (u := (.int .i64 x.page)) (off := k * 6 + 2) (by rw [List.getElem?_set_self (by simpa using hk)]) (by decide) rfl (by simp [sz])
  rw [List.set_set] at h3
  have h4 := Bk.set h3 (k := k) (j := 3) (x := (⟨x.valid, x.tag, x.page, z.frame, z.rights, z.wired⟩ : LineD)) (y := (⟨x.valid, x.tag, x.page, x.frame, z.rights, z.wired⟩ : LineD)) (u := (.int .i64 x.frame)) (off := k * 6 + 3) (by rw [List.getElem?_set_self (by simpa using hk)]) (by decide) rfl (by simp [sz])
  rw [List.set_set] at h4
  have h5 := Bk.set h4 (k := k) (j := 4) (x := (⟨x.valid, x.tag, x.page, x.frame, z.rights, z.wired⟩ : LineD)) (y := (⟨x.valid, x.tag, x.page, x.frame, x.rights, z.wired⟩ : LineD)) (u := (.int .i64 x.rights)) (off := k * 6 + 4) (by rw [List.getElem?_set_self (by simpa using hk)]) (by decide) rfl (by simp [sz])
  rw [List.set_set] at h5
  have h6 := Bk.set h5 (k := k) (j := 5) (x := (⟨x.valid, x.tag, x.page, x.frame, x.rights, z.wired⟩ : LineD)) (y := (⟨x.valid, x.tag, x.page, x.frame, x.rights, x.wired⟩ : LineD)) (u := (.bool x.wired)) (off := k * 6 + 5) (by rw [List.getElem?_set_self (by simpa using hk)]) (by decide) rfl (by simp [sz])
  rw [List.set_set] at h6
  exact h6
theorem Bk.frame {zs : List FrameD} {z : FrameD} (h : Bk E w g zs rest) (hz : zs[k]? = some z) : w.cell? ⟨g, k * 5, none⟩ = some (.bool z.used) ∧ w.cell? ⟨g, k * 5 + 1, none⟩ = some (.int .i64 z.key.space) ∧ w.cell? ⟨g, k * 5 + 2, none⟩ = some (.int .i64 z.key.page) ∧ w.cell? ⟨g, k * 5 + 3, none⟩ = some (.int .i64 z.rights) ∧ w.cell? ⟨g, k * 5 + 4, none⟩ = some (.int .i64 z.next) :=
  ⟨h.cell_at hz (j := 0) (by decide) rfl, h.cell_at hz (j := 1) (by decide) rfl, h.cell_at hz (j := 2) (by decide) rfl, h.cell_at hz (j := 3) (by decide) rfl, h.cell_at hz (j := 4) (by decide) rfl⟩
theorem Bk.set_frame {zs : List FrameD} (h : Bk E w g zs rest) (x : FrameD) (hk : k < zs.length) : Bk E (((((w.setCell ⟨g, k * 5, none⟩ (.bool x.used)).setCell ⟨g, k * 5 + 1, none⟩ (.int .i64 x.key.space)).setCell ⟨g, k * 5 + 2, none⟩ (.int .i64 x.key.page)).setCell ⟨g, k * 5 + 3, none⟩ (.int .i64 x.rights)).setCell ⟨g, k * 5 + 4, none⟩ (.int .i64 x.next)) g (zs.set k x) rest := by
  obtain ⟨z, hz⟩ : ∃ z, zs[k]? = some z := ⟨_, List.getElem?_eq_getElem hk⟩
  have h1 := Bk.set h (k := k) (j := 0) (x := (z : FrameD)) (y := (⟨x.used, ⟨z.key.space, z.key.page⟩, z.rights, z.next⟩ : FrameD)) (u := (.bool x.used)) (off := k * 5) hz (by decide) rfl (by simp [sz])
  have h2 := Bk.set h1 (k := k) (j := 1) (x := (⟨x.used, ⟨z.key.space, z.key.page⟩, z.rights, z.next⟩ : FrameD)) (y := (⟨x.used, ⟨x.key.space, z.key.page⟩, z.rights, z.next⟩ : FrameD)) (u := (.int .i64 x.key.space)) (off := k * 5 + 1) (by rw [List.getElem?_set_self (by simpa using hk)]) (by decide) rfl (by simp [sz])
  rw [List.set_set] at h2
  have h3 := Bk.set h2 (k := k) (j := 2) (x := (⟨x.used, ⟨x.key.space, z.key.page⟩, z.rights, z.next⟩ : FrameD)) (y := (⟨x.used, ⟨x.key.space, x.key.page⟩, z.rights, z.next⟩ : FrameD)) (u := (.int .i64 x.key.page)) (off := k * 5 + 2) (by rw [List.getElem?_set_self (by simpa using hk)]) (by decide) rfl (by simp [sz])
  rw [List.set_set] at h3
  have h4 := Bk.set h3 (k := k) (j := 3) (x := (⟨x.used, ⟨x.key.space, x.key.page⟩, z.rights, z.next⟩ : FrameD)) (y := (⟨x.used, ⟨x.key.space, x.key.page⟩, x.rights, z.next⟩ : FrameD)) (u := (.int .i64 x.rights)) (off := k * 5 + 3) (by rw [List.getElem?_set_self (by simpa using hk)]) (by decide) rfl (by simp [sz])
  rw [List.set_set] at h4
  have h5 := Bk.set h4 (k := k) (j := 4) (x := (⟨x.used, ⟨x.key.space, x.key.page⟩, x.rights, z.next⟩ : FrameD)) (y := (⟨x.used, ⟨x.key.space, x.key.page⟩, x.rights, x.next⟩ : FrameD)) (u := (.int .i64 x.next)) (off := k * 5 + 4) (by rw [List.getElem?_set_self (by simpa using hk)]) (by decide) rfl (by simp [sz])
  rw [List.set_set] at h5
  exact h5
theorem Bk.key {zs : List KeyD} {z : KeyD} (h : Bk E w g zs rest) (hz : zs[k]? = some z) : w.cell? ⟨g, k * 2, none⟩ = some (.int .i64 z.space) ∧ w.cell? ⟨g, k * 2 + 1, none⟩ = some (.int .i64 z.page) :=
  ⟨h.cell_at hz (j := 0) (by decide) rfl, h.cell_at hz (j := 1) (by decide) rfl⟩
theorem Bk.int {zs : List Int} {z : Int} (h : Bk E w g zs rest) (hz : zs[k]? = some z) : w.cell? ⟨g, k, none⟩ = some (.int .i64 z) :=
  by have := h.cell_at hz (j := 0) (by decide) rfl; simpa [sz] using this
theorem Bk.set_int {zs : List Int} (h : Bk E w g zs rest) (x : Int) (hk : k < zs.length) : Bk E (w.setCell ⟨g, k, none⟩ (.int .i64 x)) g (zs.set k x) rest := by
  exact h.set (List.getElem?_eq_getElem hk) (j := 0) (y := x) (by decide) rfl (by simp [sz])
theorem Bk.bool {zs : List Bool} {z : Bool} (h : Bk E w g zs rest) (hz : zs[k]? = some z) : w.cell? ⟨g, k, none⟩ = some (.bool z) :=
  by have := h.cell_at hz (j := 0) (by decide) rfl; simpa [sz] using this
theorem Bk.set_bool {zs : List Bool} (h : Bk E w g zs rest) (x : Bool) (hk : k < zs.length) : Bk E (w.setCell ⟨g, k, none⟩ (.bool x)) g (zs.set k x) rest := by
  exact h.set (List.getElem?_eq_getElem hk) (j := 0) (y := x) (by decide) rfl (by simp [sz])
end

/-! ### Comparing lists element by element -/

theorem getElem?_lt {α : Type} {xs : List α} {k : Nat} {x : α} (h : xs[k]? = some x) : k < xs.length := (List.getElem?_eq_some_iff.1 h).1

theorem take_succ_of {α : Type} {xs : List α} {k : Nat} {x : α} (h : xs[k]? = some x) : xs.take (k + 1) = xs.take k ++ [x] := by
  rw [List.take_add_one, h]; rfl

/-- 0 ≤ n < e, as a Bool that the walk leaves alone. -/
def inB (n e : Int) : Bool := decide (0 ≤ n ∧ n < e)
theorem inB_true {n e : Int} : inB n e = true ↔ 0 ≤ n ∧ n < e := by simp [inB]
theorem inB_false {n e : Int} : inB n e = false ↔ ¬ (0 ≤ n ∧ n < e) := by simp [inB]

/-- Equality of data, as a Bool that the walk leaves alone. -/
def eqB {α : Type} [DecidableEq α] (a b : α) : Bool := decide (a = b)
theorem eqB_true {α : Type} [DecidableEq α] {a b : α} : eqB a b = true ↔ a = b := by simp [eqB]
theorem eqB_false {α : Type} [DecidableEq α] {a b : α} : eqB a b = false ↔ a ≠ b := by simp [eqB]
theorem eqB_self {α : Type} [DecidableEq α] (a : α) : eqB a a = true := by simp [eqB]

end Go.Proofs.YtbdlpbladpppjaaGreatDoor
namespace Go.Proofs.YtbdlpbladpppjaaGreatDoor
open Go.ChangeShapes Go.WideShapes Go.ChangeAt Go.RowKit
open Rec (sz cs)

/-- Of the blocks that were there, only those from lo on and before hi may have turned. -/
structure Chg (lo hi : Nat) (w w' : World) : Prop where
  os : w'.os = w.os
  tape : w'.tape = w.tape
  output : w'.output = w.output
  size : w.heap.size ≤ w'.heap.size
  block : ∀ i, i < w.heap.size → ¬ (lo ≤ i ∧ i < hi) → w'.heap[i]? = w.heap[i]?

section
variable {lo hi lo' hi' : Nat} {a w w' w'' : World}
theorem Chg.refl (lo hi : Nat) (w : World) : Chg lo hi w w := ⟨rfl, rfl, rfl, Nat.le_refl _, fun _ _ _ => rfl⟩
theorem Chg.of_ex (h : Ex w w') : Chg 0 0 w w' := ⟨h.os, h.tape, h.output, h.size, fun _ hi _ => h.block hi⟩
theorem Chg.of_grown {row : Option Nat} (h : w.grownBy w' row) (hr : ∀ b, row = some b → lo ≤ b ∧ b < hi) : Chg lo hi w w' :=
  ⟨h.os, h.tape, h.output, h.size, fun i hi hn => h.block i hi (fun e => hn (hr i e.symm))⟩
theorem Chg.mono (h : Chg lo hi w w') (h1 : lo' ≤ lo) (h2 : hi ≤ hi') : Chg lo' hi' w w' := ⟨h.os, h.tape, h.output, h.size, fun i hi hn => h.block i hi (fun e => hn ⟨Nat.le_trans h1 e.1, Nat.lt_of_lt_of_le e.2 h2⟩)⟩
theorem Chg.mono' (h : Chg 0 0 w w') (lo hi : Nat) : Chg lo hi w w' := ⟨h.os, h.tape, h.output, h.size, fun i hi _ => h.block i hi (by omega)⟩
theorem Chg.trans (h : Chg lo hi w w') (k : Chg lo hi w' w'') : Chg lo hi w w'' :=
  ⟨k.os.trans h.os, k.tape.trans h.tape, k.output.trans h.output, Nat.le_trans h.size k.size, fun i hi hn => (k.block i (Nat.lt_of_lt_of_le hi h.size) hn).trans (h.block i hi hn)⟩
theorem Chg.step {l h : Nat} (e : Chg lo hi a w) (k : Chg l h w w') (hl : h ≤ l ∨ a.heap.size ≤ l ∨ (lo ≤ l ∧ h ≤ hi)) : Chg lo hi a w' :=
  ⟨k.os.trans e.os, k.tape.trans e.tape, k.output.trans e.output, Nat.le_trans e.size k.size, fun i hi' hn => (k.block i (Nat.lt_of_lt_of_le hi' e.size) (by omega)).trans (e.block i hi' hn)⟩
theorem Chg.grown {g : Nat} (k : Chg g (g + 1) w w') : w.grownBy w' (some g) :=
  ⟨k.os, k.tape, k.output, k.size, fun i hi hn => k.block i hi (fun e => hn (by congr 1; omega))⟩
theorem Chg.alloc (h : Chg lo hi a w) (o : Obj) : Chg lo hi a (w.alloc o) :=
  ⟨h.os, h.tape, h.output, Nat.le_trans h.size (by simp), fun i hi hn => (Below.heap_alloc w o i (Nat.lt_of_lt_of_le hi h.size)).trans (h.block i hi hn)⟩
theorem Chg.drew (h : Chg lo hi a w) : Chg lo hi a w.drew := ⟨h.os, h.tape, h.output, h.size, h.block⟩
theorem Chg.drewN (h : Chg lo hi a w) (n : Nat) : Chg lo hi a (w.drewN n) := ⟨h.os, h.tape, h.output, h.size, h.block⟩
theorem Chg.set (h : Chg lo hi a w) {g o : Nat} (hp : (lo ≤ g ∧ g < hi) ∨ a.heap.size ≤ g) (u : Value) : Chg lo hi a (w.setCell ⟨g, o, none⟩ u) :=
  ⟨h.os, h.tape, h.output, by simpa [World.setCell] using h.size, fun i hi hn => (Below.heap_setCell w ⟨g, o, none⟩ u i (fun e => by rcases hp with hp | hp <;> simp at e <;> omega)).trans (h.block i hi hn)⟩
theorem Ex.put (h : Ex a w) {g o : Nat} (hp : a.heap.size ≤ g) (u : Value) : Ex a (w.setCell ⟨g, o, none⟩ u) := h.set hp u
theorem Ex.chg (h : Ex a w) (k : Chg lo hi w w') (hl : hi ≤ lo ∨ a.heap.size ≤ lo) : Ex a w' :=
  ⟨k.os.trans h.os, k.tape.trans h.tape, k.output.trans h.output, Nat.le_trans h.size k.size, fun i hi => (k.block i (Nat.lt_of_lt_of_le hi h.size) (by omega)).trans (h.block hi)⟩
theorem Chg.ex (k : Chg lo hi w w') (hl : hi ≤ lo ∨ w.heap.size ≤ lo) : Ex w w' := (Ex.refl w).chg k hl
theorem Chg.ex_ (k : Chg 0 0 w w') : Ex w w' := k.ex (.inl (Nat.le_refl _))
theorem Blk.put2 {g : Nat} {t : TypeId} {a b c d : Value} (h : Blk w g t [a, b]) : Blk ((w.setCell ⟨g, 0, none⟩ c).setCell ⟨g, 1, none⟩ d) g t [c, d] := (h.set 0 c).set 1 d
theorem Blk.chg {g : Nat} {t : TypeId} {c : List Value} (h : Blk w g t c) (k : Chg lo hi w w') (hn : g < lo ∨ hi ≤ g) : Blk w' g t c := (k.block g h.lt (by omega)).trans h
end

section
variable {α : Type} [Rec α] {lo hi l u : Nat} {w w' : World} {A : Option Addr} {xs : List α} {E : TypeId} {B c : Nat}
theorem Bk.chg {g : Nat} {rest : List Value} (h : Bk E w g xs rest) (k : Chg lo hi w w') (hn : g < lo ∨ hi ≤ g) : Bk E w' g xs rest := Blk.chg h k hn
theorem Bk.grown {g : Nat} {rest : List Value} {row : Option Nat} (h : Bk E w g xs rest) (k : w.grownBy w' row) (hn : some g ≠ row) : Bk E w' g xs rest := Blk.grown h k hn
theorem Fr.chg (h : Fr E w B A c xs) (k : Chg lo hi w w') (hr : ∀ b, rowOf A c = some b → l ≤ b ∧ b < u) (hn : u ≤ lo ∨ hi ≤ l ∨ hi ≤ lo) : Fr E w' B A c xs := by
  obtain ⟨hl, hm, h0 | ⟨g, rest, rfl, hB, hb, hs⟩⟩ := h
  · exact ⟨hl, hm, .inl h0⟩
  · by_cases hc : c = 0
    · exact ⟨hl, hm, .inl hc⟩
    · have := hr g (rowOf_some (by omega))
      exact ⟨hl, hm, .inr ⟨g, rest, rfl, hB, Blk.chg hb k (by omega), hs⟩⟩
theorem Fr.put {g o : Nat} (h : Fr E w B A c xs) (hr : ∀ b, rowOf A c = some b → b ≠ g) (v : Value) : Fr E (w.setCell ⟨g, o, none⟩ v) B A c xs := by
  obtain ⟨hl, hm, h0 | ⟨b, rest, rfl, hB, hb, hs⟩⟩ := h
  · exact ⟨hl, hm, .inl h0⟩
  · by_cases hc : c = 0
    · exact ⟨hl, hm, .inl hc⟩
    · exact ⟨hl, hm, .inr ⟨b, rest, rfl, hB, hb.far (hr b (rowOf_some (by omega))) v, hs⟩⟩
theorem Rd.chg (h : Rd w A xs) (k : Chg lo hi w w') (hn : ∀ b off, A = some ⟨b, off, none⟩ → b < lo ∨ hi ≤ b) : Rd w' A xs := fun h0 => by
  obtain ⟨b, off, rfl, hb, hc⟩ := h h0
  have hne := hn b off rfl
  exact ⟨b, off, rfl, Nat.lt_of_lt_of_le hb k.size, fun m u hu => (World.cell?_of_block (w := w) (a := ⟨b, off + m, none⟩) (k.block b hb (by omega))).trans (hc m u hu)⟩
end

/-- The world of a call gets a name. -/
theorem name_calls {P : Program} {f : FuncId} {args : Array Value} {w : World} {Q : Ending → World → Prop} (h : ∀ v, v = w → Calls P f args v Q) : Calls P f args w Q := h w rfl
end Go.Proofs.YtbdlpbladpppjaaGreatDoor
namespace Go.Proofs.YtbdlpbladpppjaaGreatDoor
open Go.ChangeShapes Go.WideShapes Go.ChangeAt Go.RowKit
open Rec (sz cs)
set_option linter.unusedVariables false
section
variable {p : Prop} {a v w w' W : World} {lo hi l u g g2 B c : Nat} {t E : TypeId} {cl : List Value} {α : Type} [Rec α] {A : Option Addr} {xs : List α}
theorem zq (h : p) : Hid p := Lib.hid h
theorem zx (hv : v = W) (h : Chg lo hi w W := by repeat' (first | with_reducible exact Chg.refl _ _ _ | with_reducible refine Chg.alloc ?_ _ | with_reducible refine Chg.drew ?_ | with_reducible refine Chg.set ?_ (by omega) _)) : Hid (Chg lo hi w v) := Lib.hid (by rw [hv]; exact h)
theorem zk (hv : v = W) (h : Blk W g t cl := by repeat' (first | with_reducible exact Blk.new_at _ _ _ (by simp) | with_reducible refine Blk.alloc ?_ _ | with_reducible refine Blk.drew ?_ | with_reducible refine Blk.far ?_ (by simp; omega) _)) : Hid (Blk v g t cl) := Lib.hid (by rw [hv]; exact h)
theorem ze (h : Ex a w) (k : Ex a w → Ex a w' := by intro h; repeat' (first | with_reducible exact h | with_reducible refine Ex.alloc ?_ _ | with_reducible refine Ex.drew ?_ | with_reducible refine Ex.put ?_ (by omega) _)) : Ex a w' := k h
theorem zc (h : Chg lo hi a w) (k : Chg lo hi a w → Chg lo hi a w' := by intro h; repeat' (first | with_reducible exact h | with_reducible refine Chg.alloc ?_ _ | with_reducible refine Chg.drew ?_ | with_reducible refine Chg.set ?_ (by omega) _)) : Chg lo hi a w' := k h
theorem zp (h : Fr E w B A c xs) (r : ∀ b, rowOf A c = some b → l ≤ b ∧ b < u) (k : (∀ b, rowOf A c = some b → l ≤ b ∧ b < u) → Fr E w B A c xs → Fr E w' B A c xs := by intro r h; repeat' (first | with_reducible exact h | with_reducible refine Fr.alloc ?_ _ | with_reducible refine Fr.put ?_ (fun b hb => by have := r b hb; omega) _)) : Fr E w' B A c xs := k r h
theorem zr (h : Fr E w B A c xs) (r : ∀ b, rowOf A c = some b → b ≠ g) (k : (∀ b, rowOf A c = some b → b ≠ g) → Fr E w B A c xs → Fr E w' B A c xs := by intro r h; repeat' (first | with_reducible exact h | with_reducible refine Fr.alloc ?_ _ | with_reducible refine Fr.put ?_ r _)) : Fr E w' B A c xs := k r h
theorem zt (h : Fr E w B A c xs) (r : ∀ b, rowOf A c = some b → b ≠ g) (r2 : ∀ b, rowOf A c = some b → b ≠ g2) (k : (∀ b, rowOf A c = some b → b ≠ g) → (∀ b, rowOf A c = some b → b ≠ g2) → Fr E w B A c xs → Fr E w' B A c xs := by intro r r2 h; repeat' (first | with_reducible exact h | with_reducible refine Fr.alloc ?_ _ | with_reducible refine Fr.put ?_ r _ | with_reducible refine Fr.put ?_ r2 _)) : Fr E w' B A c xs := k r r2 h
theorem zf (h : Blk w g t cl) (k : Blk w g t cl → Blk w' g t cl := by intro h; repeat' (first | with_reducible exact h | with_reducible refine Blk.alloc ?_ _ | with_reducible refine Blk.far ?_ (by first | (simp; done) | (simp; omega)) _)) : Blk w' g t cl := k h
end
end Go.Proofs.YtbdlpbladpppjaaGreatDoor
namespace Go.Proofs.YtbdlpbladpppjaaGreatDoor
open Go.ChangeShapes Go.WideShapes Go.ChangeAt Go.RowKit
set_option linter.unusedVariables false
set_option maxRecDepth 100000

set_option maxHeartbeats 400000 in
theorem within_c (n e : Int) (w : World) : Calls Tryz.prog 16 #[.int .i64 n, .int .i64 e] w fun r w' => r = .returned (.bool (inB n e)) ∧ w = w' := by
  by_cases h0 : 0 ≤ n
  · go_enter Tryz.func16, Tryz.ntmps16
    go_wp2
    go_ret
    exact ⟨ret_bool (by rw [Bool.eq_iff_iff, inB_true]; simp [h0]), rfl⟩
  · go_enter Tryz.func16, Tryz.ntmps16
    go_wp2
    go_ret
    exact ⟨ret_bool (by rw [Bool.eq_iff_iff, inB_true]; simp; omega), rfl⟩

end Go.Proofs.YtbdlpbladpppjaaGreatDoor
namespace Go.Proofs.YtbdlpbladpppjaaGreatDoor
open Go.ChangeShapes Go.WideShapes Go.ChangeAt Go.RowKit
set_option linter.unusedVariables false

def keyOk (k : KeyD) : Prop := (0 ≤ k.space ∧ k.space < 16) ∧ (0 ≤ k.page ∧ k.page < 256)
def hashK (k : KeyD) (n : Int) : Int := (k.space * 256 + k.page) * 2654435761 % 4294967296 * n / 4294967296
def frameOk (f : FrameD) : Prop := (f.used = false → f = ⟨false, ⟨0, 0⟩, 0, -1⟩) ∧ (f.used = true → keyOk f.key ∧ 0 ≤ f.rights ∧ f.rights < 8)
/-- The first k frames are valid, each alone, and no two of them have the same key. -/
def FramesUp (fs : List FrameD) (k : Nat) : Prop := ∀ i f, i < k → fs[i]? = some f → frameOk f ∧ ∀ j g, j < i → fs[j]? = some g → f.used = true → g.used = true → g.key ≠ f.key
def usedN (fs : List FrameD) (k : Nat) : Nat := ((fs.take k).filter (·.used)).length
theorem usedN_zero (fs : List FrameD) : usedN fs 0 = 0 := rfl
theorem usedN_succ {fs : List FrameD} {k : Nat} {f : FrameD} (h : fs[k]? = some f) : usedN fs (k + 1) = usedN fs k + (if f.used = true then 1 else 0) := by
  unfold usedN
  have : fs.take (k + 1) = fs.take k ++ [f] := by rw [List.take_add_one, h]; rfl
  rw [this, List.filter_append, List.length_append]
  cases hu : f.used <;> simp [hu]
theorem framesUp_zero (fs : List FrameD) : FramesUp fs 0 := fun i f h => by omega
theorem framesUp_succ {fs : List FrameD} {k : Nat} {f : FrameD} (h : FramesUp fs k) (hf : fs[k]? = some f) (h1 : frameOk f) (h2 : ∀ j g, j < k → fs[j]? = some g → f.used = true → g.used = true → g.key ≠ f.key) : FramesUp fs (k + 1) := by
  intro i g hi hg
  by_cases e : i = k
  · subst e
    rw [hf] at hg
    injection hg with hg
    subst hg
    exact ⟨h1, h2⟩
  · exact h i g (by omega) hg

/-- The chain that begins at a number: -1 ends it. -/
inductive Chain (fs : List FrameD) : Int → List Nat → Prop
  | nil : Chain fs (-1) []
  | cons {i : Nat} {f : FrameD} {l : List Nat} (hf : fs[i]? = some f) (hu : f.used = true) (hl : Chain fs f.next l) : Chain fs (i : Int) (i :: l)

theorem Chain.inv {fs : List FrameD} {a : Int} {l : List Nat} (h : Chain fs a l) : (a = -1 ∧ l = []) ∨ ∃ (i : Nat) (f : FrameD) (l2 : List Nat), a = (i : Int) ∧ l = i :: l2 ∧ fs[i]? = some f ∧ f.used = true ∧ Chain fs f.next l2 := by
  cases h with
  | nil => exact .inl ⟨rfl, rfl⟩
  | cons hf hu hl => exact .inr ⟨_, _, _, rfl, rfl, hf, hu, hl⟩
theorem Chain.one {fs : List FrameD} {a : Int} {l : List Nat} (h : Chain fs a l) : ∀ {l' : List Nat}, Chain fs a l' → l = l' := by
  induction h with
  | nil =>
    intro l' h'
    rcases h'.inv with ⟨_, e⟩ | ⟨i, f, l2, e, _⟩
    · exact e.symm
    · omega
  | @cons i f l hf hu hl ih =>
    intro l' h'
    rcases h'.inv with ⟨e, _⟩ | ⟨j, g, l2, e, e2, hg, _, hl2⟩
    · omega
    · have e3 : i = j := by omega
      subst e3
      rw [hf] at hg
      injection hg with hg
      subst hg
      rw [e2, ih hl2]
theorem Chain.from {fs : List FrameD} {a : Int} {l : List Nat} (h : Chain fs a l) : ∀ {j : Nat}, j ∈ l → ∃ l2, Chain fs (j : Int) (j :: l2) ∧ l2.length < l.length := by
  induction h with
  | nil => intro j hj; cases hj
  | @cons i f l hf hu hl ih =>
    intro j hj
    rcases List.mem_cons.1 hj with e | e
    · subst e
      exact ⟨l, .cons hf hu hl, by simp⟩
    · obtain ⟨l2, h1, h2⟩ := ih e
      exact ⟨l2, h1, by simp; omega⟩
theorem Chain.nodup {fs : List FrameD} {a : Int} {l : List Nat} (h : Chain fs a l) : l.Nodup := by
  induction h with
  | nil => exact List.nodup_nil
  | @cons i f l hf hu hl ih =>
    refine List.nodup_cons.2 ⟨fun hi => ?_, ih⟩
    obtain ⟨l2, h1, h2⟩ := hl.from hi
    have := (Chain.cons hf hu hl).one h1
    have h3 := congrArg List.length this
    simp at h3
    omega
theorem Chain.in_ {fs : List FrameD} {a : Int} {l : List Nat} (h : Chain fs a l) : ∀ {j : Nat}, j ∈ l → ∃ f, fs[j]? = some f ∧ f.used = true := by
  induction h with
  | nil => intro j hj; cases hj
  | @cons i f l hf hu hl ih =>
    intro j hj
    rcases List.mem_cons.1 hj with e | e
    · subst e; exact ⟨f, hf, hu⟩
    · exact ih e
theorem nodup_few : ∀ (n : Nat) (l : List Nat), l.Nodup → (∀ j, j ∈ l → j < n) → l.length ≤ n := by
  intro n
  induction n with
  | zero =>
    intro l hn hl
    cases l with
    | nil => exact Nat.le_refl _
    | cons a l => exact absurd (hl a (by simp)) (by omega)
  | succ n ih =>
    intro l hn hl
    by_cases hm : n ∈ l
    · have h1 := ih (l.erase n) (hn.erase n) (fun j hj => by
        have h2 := (hn.mem_erase_iff).1 hj
        have h3 := hl j h2.2
        have h4 := h2.1
        omega)
      rw [List.length_erase_of_mem hm] at h1
      omega
    · have h1 := ih l hn (fun j hj => by
        have h3 := hl j hj
        have h4 : j ≠ n := fun e => hm (e ▸ hj)
        omega)
      omega
theorem Chain.few {fs : List FrameD} {a : Int} {l : List Nat} (h : Chain fs a l) : l.length ≤ fs.length := by
  refine nodup_few _ _ h.nodup fun j hj => ?_
  obtain ⟨f, hf, _⟩ := h.in_ hj
  exact (List.getElem?_eq_some_iff.1 hf).1

/-- Walking a chain from a0: what has been walked, and where the walk stands. -/
def Trail (fs : List FrameD) (a0 : Int) (pre : List Nat) (a : Int) : Prop := ∀ l, Chain fs a0 l ↔ ∃ l2, l = pre ++ l2 ∧ Chain fs a l2
theorem Trail.start (fs : List FrameD) (a : Int) : Trail fs a [] a := fun l => by simp
theorem Trail.step {fs : List FrameD} {a0 : Int} {pre : List Nat} {i : Nat} {f : FrameD} (h : Trail fs a0 pre (i : Int)) (hf : fs[i]? = some f) (hu : f.used = true) : Trail fs a0 (pre ++ [i]) f.next := by
  intro l
  rw [h l]
  constructor
  · rintro ⟨l2, rfl, hc⟩
    rcases hc.inv with ⟨e, _⟩ | ⟨j, g, l3, e, e2, hg, _, hl3⟩
    · omega
    · have e3 : i = j := by omega
      subst e3
      rw [hf] at hg
      injection hg with hg
      subst hg
      exact ⟨l3, by rw [e2]; simp, hl3⟩
  · rintro ⟨l2, rfl, hc⟩
    exact ⟨i :: l2, by simp, .cons hf hu hc⟩
theorem Trail.ends {fs : List FrameD} {a0 : Int} {pre : List Nat} (h : Trail fs a0 pre (-1)) : Chain fs a0 pre := (h pre).2 ⟨[], by simp, .nil⟩
/-- A number that is no used frame ends no chain. -/
theorem Trail.bad {fs : List FrameD} {a0 a : Int} {pre : List Nat} (h : Trail fs a0 pre a) (hb : ∀ (i : Nat) (f : FrameD), a = (i : Int) → fs[i]? = some f → f.used = false) (ha : a ≠ -1) (l : List Nat) : ¬ Chain fs a0 l := by
  intro hc
  obtain ⟨l2, rfl, hc2⟩ := (h l).1 hc
  rcases hc2.inv with ⟨e, _⟩ | ⟨j, g, l3, e, e2, hg, hu, hl3⟩
  · exact ha e
  · rw [hb j g e hg] at hu
    cases hu
theorem Trail.long {fs : List FrameD} {a0 a : Int} {pre : List Nat} (h : Trail fs a0 pre a) (hp : fs.length ≤ pre.length) (ha : a ≠ -1) (l : List Nat) : ¬ Chain fs a0 l := by
  intro hc
  have h1 := hc.few
  obtain ⟨l2, rfl, hc2⟩ := (h l).1 hc
  rcases hc2.inv with ⟨e, _⟩ | ⟨j, g, l3, e, e2, _⟩
  · exact ha e
  · rw [e2] at h1
    simp at h1
    omega
theorem Trail.again {fs : List FrameD} {a0 : Int} {pre : List Nat} {i : Nat} (h : Trail fs a0 pre (i : Int)) (hi : i ∈ pre) (l : List Nat) : ¬ Chain fs a0 l := by
  intro hc
  have h1 := hc.nodup
  obtain ⟨l2, rfl, hc2⟩ := (h l).1 hc
  rcases hc2.inv with ⟨e, _⟩ | ⟨j, g, l3, e, e2, _⟩
  · omega
  · have e3 : i = j := by omega
    subst e3
    rw [e2] at h1
    exact (List.nodup_append.1 h1).2.2 i hi i (by simp) rfl

/-- The first k buckets' chains end, and hold what belongs there. -/
def Buckets (t : TableD) (k : Nat) (ls : List (List Nat)) : Prop := ls.length = k ∧ ∀ (b : Nat) (a : Int) (l : List Nat), b < k → t.buckets[b]? = some a → ls[b]? = some l → Chain t.frames a l ∧ ∀ (i : Nat) (f : FrameD), i ∈ l → t.frames[i]? = some f → hashK f.key t.buckets.length = b
def sumL (ls : List (List Nat)) : Nat := (ls.map List.length).sum
def TableHead (t : TableD) : Prop := (1 ≤ t.frames.length ∧ t.frames.length ≤ 16) ∧ 1 ≤ t.buckets.length ∧ t.buckets.length ≤ 16
def TableOk (t : TableD) : Prop := TableHead t ∧ FramesUp t.frames t.frames.length ∧ ∃ ls, Buckets t t.buckets.length ls ∧ sumL ls = usedN t.frames t.frames.length
open Classical in
noncomputable def tableV (t : TableD) : Bool := decide (TableOk t)
theorem tableV_yes {t : TableD} (h : TableOk t) : tableV t = true := by unfold tableV; exact @decide_eq_true _ (Classical.propDecidable _) h
theorem tableV_no {t : TableD} (h : ¬ TableOk t) : tableV t = false := by unfold tableV; exact @decide_eq_false _ (Classical.propDecidable _) h
theorem tableV_iff {t : TableD} : tableV t = true ↔ TableOk t := by unfold tableV; exact @decide_eq_true_iff _ (Classical.propDecidable _)

theorem Buckets.zero (t : TableD) : Buckets t 0 [] := ⟨rfl, fun b a l h => by omega⟩
theorem Buckets.succ {t : TableD} {k : Nat} {ls : List (List Nat)} {a : Int} {l : List Nat} (h : Buckets t k ls) (ha : t.buckets[k]? = some a) (hc : Chain t.frames a l) (hh : ∀ (i : Nat) (f : FrameD), i ∈ l → t.frames[i]? = some f → hashK f.key t.buckets.length = k) : Buckets t (k + 1) (ls ++ [l]) := by
  refine ⟨by simp [h.1], fun b a' l' hb ha' hl' => ?_⟩
  by_cases e : b = k
  · subst e
    rw [ha] at ha'
    injection ha' with ha'
    subst ha'
    rw [List.getElem?_append_right (by rw [h.1]; exact Nat.le_refl _), h.1, Nat.sub_self] at hl'
    injection hl' with hl'
    subst hl'
    exact ⟨hc, hh⟩
  · rw [List.getElem?_append_left (by rw [h.1]; omega)] at hl'
    exact h.2 b a' l' (by omega) ha' hl'
theorem sumL_succ (ls : List (List Nat)) (l : List Nat) : sumL (ls ++ [l]) = sumL ls + l.length := by unfold sumL; simp
theorem Buckets.one {t : TableD} {k : Nat} {ls ls' : List (List Nat)} (h : Buckets t k ls) (h' : Buckets t k ls') (hk : k ≤ t.buckets.length) : ls = ls' := by
  refine List.ext_getElem? fun b => ?_
  by_cases hb : b < k
  · obtain ⟨a, ha⟩ : ∃ a, t.buckets[b]? = some a := ⟨_, List.getElem?_eq_getElem (by omega)⟩
    obtain ⟨l, hl⟩ : ∃ l, ls[b]? = some l := ⟨_, List.getElem?_eq_getElem (by rw [h.1]; exact hb)⟩
    obtain ⟨l', hl'⟩ : ∃ l, ls'[b]? = some l := ⟨_, List.getElem?_eq_getElem (by rw [h'.1]; exact hb)⟩
    rw [hl, hl', (h.2 b a l hb ha hl).1.one (h'.2 b a l' hb ha hl').1]
  · rw [List.getElem?_eq_none (by rw [h.1]; omega), List.getElem?_eq_none (by rw [h'.1]; omega)]
theorem TableOk.bucket {t : TableD} (h : TableOk t) {b : Nat} {a : Int} (ha : t.buckets[b]? = some a) : ∃ l, Chain t.frames a l ∧ ∀ (i : Nat) (f : FrameD), i ∈ l → t.frames[i]? = some f → hashK f.key t.buckets.length = b := by
  obtain ⟨_, _, ls, hb, _⟩ := h
  have hlt : b < t.buckets.length := (List.getElem?_eq_some_iff.1 ha).1
  obtain ⟨l, hl⟩ : ∃ l, ls[b]? = some l := ⟨_, List.getElem?_eq_getElem (by rw [hb.1]; exact hlt)⟩
  exact ⟨l, hb.2 b a l hlt ha hl⟩
theorem not_nochain {t : TableD} {b : Nat} {a : Int} (ha : t.buckets[b]? = some a) (h : ∀ l, ¬ Chain t.frames a l) : ¬ TableOk t := fun ho => by
  obtain ⟨l, hl, _⟩ := ho.bucket ha
  exact h l hl
theorem not_hash {t : TableD} {b i : Nat} {a : Int} {l : List Nat} {f : FrameD} (ha : t.buckets[b]? = some a) (hc : Chain t.frames a l) (hi : i ∈ l) (hf : t.frames[i]? = some f) (hh : hashK f.key t.buckets.length ≠ b) : ¬ TableOk t := fun ho => by
  obtain ⟨l', hl', hh'⟩ := ho.bucket ha
  rw [hl'.one hc] at hh'
  exact hh (hh' i f hi hf)
/-- The walk stands at a used frame with another bucket's hash. -/
theorem not_hash_at {t : TableD} {b i : Nat} {a : Int} {pre : List Nat} {f : FrameD} (ha : t.buckets[b]? = some a) (hp : Trail t.frames a pre (i : Int)) (hf : t.frames[i]? = some f) (hh : hashK f.key t.buckets.length ≠ b) : ¬ TableOk t := fun ho => by
  obtain ⟨l, hl, hh'⟩ := ho.bucket ha
  obtain ⟨l2, rfl, hc2⟩ := (hp l).1 hl
  rcases hc2.inv with ⟨e, _⟩ | ⟨j, g, l3, e, e2, _⟩
  · omega
  · have e3 : i = j := by omega
    subst e3
    exact hh (hh' i f (by rw [e2]; simp) hf)
theorem tableOk_end {t : TableD} {ls : List (List Nat)} (h1 : TableHead t) (h2 : FramesUp t.frames t.frames.length) (h3 : Buckets t t.buckets.length ls) : TableOk t ↔ sumL ls = usedN t.frames t.frames.length := by
  constructor
  · rintro ⟨_, _, ls', h4, h5⟩
    rw [h3.one h4 (Nat.le_refl _)]
    exact h5
  · intro h
    exact ⟨h1, h2, ls, h3, h⟩
theorem not_frames {t : TableD} {i : Nat} {f : FrameD} (hf : t.frames[i]? = some f) (h : ¬ (frameOk f ∧ ∀ j g, j < i → t.frames[j]? = some g → f.used = true → g.used = true → g.key ≠ f.key)) : ¬ TableOk t := fun ho => h (ho.2.1 i f (List.getElem?_eq_some_iff.1 hf).1 hf)

theorem hashK_range {k : KeyD} {n : Nat} (hk : keyOk k) (hn : 1 ≤ n) (hm : n ≤ 16) : 0 ≤ hashK k n ∧ hashK k n < n := by
  unfold hashK keyOk at *
  obtain ⟨x, hx⟩ : ∃ x, x = (k.space * 256 + k.page) * 2654435761 % 4294967296 := ⟨_, rfl⟩
  rw [← hx]
  have h1 : 0 ≤ x ∧ x < 4294967296 := by omega
  have h2 : 0 ≤ x * (n : Int) := Int.mul_nonneg h1.1 (by omega)
  have h3 : x * (n : Int) < 4294967296 * (n : Int) := Int.mul_lt_mul_of_pos_right h1.2 (by omega)
  obtain ⟨y, hy⟩ : ∃ y, y = x * (n : Int) := ⟨_, rfl⟩
  rw [← hy] at h2 h3 ⊢
  omega
end Go.Proofs.YtbdlpbladpppjaaGreatDoor
namespace Go.Proofs.YtbdlpbladpppjaaGreatDoor
open Go.ChangeShapes Go.WideShapes Go.ChangeAt Go.RowKit

/-- The place of the first element of which p holds, or -1. -/
def firstOf {α : Type} (p : α → Bool) (xs : List α) : Int := match xs.findIdx? p with | some i => (i : Int) | none => -1
theorem firstOf_at {α : Type} {p : α → Bool} {xs : List α} {k : Nat} {x : α} (hx : xs[k]? = some x) (hp : p x = true) (h : ∀ j y, j < k → xs[j]? = some y → p y = false) : firstOf p xs = k := by
  have hk := getElem?_lt hx
  have : xs.findIdx? p = some k := by
    rw [List.findIdx?_eq_some_iff_getElem]
    refine ⟨hk, ?_, fun j hj => ?_⟩
    · rw [List.getElem?_eq_getElem hk] at hx
      injection hx with hx
      rw [hx]; exact hp
    · have := h j _ hj (List.getElem?_eq_getElem (by omega))
      simp [this]
  unfold firstOf; rw [this]
theorem firstOf_none {α : Type} {p : α → Bool} {xs : List α} (h : ∀ j y, j < xs.length → xs[j]? = some y → p y = false) : firstOf p xs = -1 := by
  have : xs.findIdx? p = none := by
    rw [List.findIdx?_eq_none_iff]
    intro x hx
    obtain ⟨j, hj, rfl⟩ := List.getElem_of_mem hx
    exact h j _ hj (List.getElem?_eq_getElem hj)
  unfold firstOf; rw [this]
theorem firstOf_cases {α : Type} (p : α → Bool) (xs : List α) : (firstOf p xs = -1 ∧ ∀ (j : Nat) (y : α), xs[j]? = some y → p y = false) ∨ ∃ (k : Nat) (x : α), firstOf p xs = (k : Int) ∧ xs[k]? = some x ∧ p x = true ∧ ∀ (j : Nat) (y : α), j < k → xs[j]? = some y → p y = false := by
  unfold firstOf
  cases h : xs.findIdx? p with
  | none =>
    rw [List.findIdx?_eq_none_iff] at h
    exact .inl ⟨rfl, fun j y hy => h y (List.mem_of_getElem? hy)⟩
  | some k =>
    rw [List.findIdx?_eq_some_iff_getElem] at h
    obtain ⟨hk, hp, hj⟩ := h
    refine .inr ⟨k, xs[k], rfl, List.getElem?_eq_getElem hk, hp, fun j y hjk hy => ?_⟩
    have := hj j hjk
    have e := List.getElem?_eq_getElem (l := xs) (i := j) (by omega)
    rw [hy] at e
    injection e with e
    rw [e]; simpa using this

end Go.Proofs.YtbdlpbladpppjaaGreatDoor
namespace Go.Proofs.YtbdlpbladpppjaaGreatDoor
open Go.ChangeShapes Go.WideShapes Go.ChangeAt Go.RowKit
open Rec (sz cs)
set_option linter.unusedVariables false
set_option maxRecDepth 100000



theorem infoOwn : (Tryz.prog.info? 93).map (fun i => (i.zero, i.size, i.bytes)) = some (some (.agg #[.int .i64 0, .int .i64 0]), 2, 16) := by kernel_rfl


end Go.Proofs.YtbdlpbladpppjaaGreatDoor
namespace Go.Proofs.YtbdlpbladpppjaaGreatDoor
open Go.ChangeShapes Go.WideShapes Go.ChangeAt Go.RowKit
open Rec (sz cs)

end Go.Proofs.YtbdlpbladpppjaaGreatDoor
namespace Go.Proofs.YtbdlpbladpppjaaGreatDoor
open Go.ChangeShapes Go.WideShapes Go.ChangeAt Go.RowKit
open Rec (sz cs)
set_option linter.unusedVariables false
set_option maxRecDepth 100000

end Go.Proofs.YtbdlpbladpppjaaGreatDoor
namespace Go.Proofs.YtbdlpbladpppjaaGreatDoor
open Go.ChangeShapes Go.WideShapes Go.ChangeAt Go.RowKit
set_option linter.unusedVariables false
set_option maxRecDepth 100000

set_option maxHeartbeats 400000 in
theorem l1Space_c (n : Int) (w : World) : Calls Tryz.prog 77 #[.int .i64 n] w fun r w' => r = .returned (.bool (inB n 16)) ∧ w = w' := by
  by_cases h0 : 0 ≤ n
  · go_enter Tryz.func77, Tryz.ntmps77
    go_wp2
    go_ret
    exact ⟨ret_bool (by rw [Bool.eq_iff_iff, inB_true]; simp [h0]), rfl⟩
  · go_enter Tryz.func77, Tryz.ntmps77
    go_wp2
    go_ret
    exact ⟨ret_bool (by rw [Bool.eq_iff_iff, inB_true]; simp; omega), rfl⟩

end Go.Proofs.YtbdlpbladpppjaaGreatDoor
namespace Go.Proofs.YtbdlpbladpppjaaGreatDoor
open Go.ChangeShapes Go.WideShapes Go.ChangeAt Go.RowKit
open Rec (sz cs)
set_option linter.unusedVariables false
set_option maxRecDepth 100000

def ownAt (t : TagsD) (i : Nat) : Bool := decide (0 ≤ (t.owns.getD i ⟨0, 0⟩).tag ∧ (t.owns.getD i ⟨0, 0⟩).tag < t.next ∧ 0 ≤ (t.owns.getD i ⟨0, 0⟩).space ∧ (t.owns.getD i ⟨0, 0⟩).space < 16) &&
  (List.range i).all fun j => decide ((t.owns.getD j ⟨0, 0⟩).tag < (t.owns.getD i ⟨0, 0⟩).tag ∧ (t.owns.getD j ⟨0, 0⟩).space ≠ (t.owns.getD i ⟨0, 0⟩).space)
def TagsHead (t : TagsD) : Prop := 1 ≤ t.count ∧ t.count ≤ 8 ∧ 0 ≤ t.next ∧ t.next ≤ t.count ∧ 0 ≤ t.round ∧ t.round ≤ 1000000
def tagsV (t : TagsD) : Bool := decide (1 ≤ t.count ∧ t.count ≤ 8 ∧ 0 ≤ t.next ∧ t.next ≤ t.count ∧ 0 ≤ t.round ∧ t.round ≤ 1000000) && (List.range t.owns.length).all (ownAt t)

def OwnsUp (t : TagsD) (k : Nat) : Prop := ∀ i x, i < k → t.owns[i]? = some x → (0 ≤ x.tag ∧ x.tag < t.next ∧ 0 ≤ x.space ∧ x.space < 16) ∧ ∀ j y, j < i → t.owns[j]? = some y → y.tag < x.tag ∧ y.space ≠ x.space

theorem own_getD {xs : List OwnD} {i : Nat} {x d : OwnD} (h : xs[i]? = some x) : xs.getD i d = x := by
  rw [List.getD_eq_getElem?_getD, h]; rfl

theorem tagsV_iff (t : TagsD) : tagsV t = true ↔ TagsHead t ∧ OwnsUp t t.owns.length := by
  unfold tagsV
  rw [Bool.and_eq_true, decide_eq_true_iff]
  have h1 : ((List.range t.owns.length).all (ownAt t) = true) ↔ OwnsUp t t.owns.length := by
    rw [List.all_eq_true]
    constructor
    · intro h i x hi hx
      have := h i (List.mem_range.2 hi)
      unfold ownAt at this
      rw [Bool.and_eq_true, List.all_eq_true, own_getD hx] at this
      refine ⟨by simpa using this.1, fun j y hj hy => ?_⟩
      have h2 := this.2 j (List.mem_range.2 hj)
      rw [own_getD hy] at h2
      simpa using h2
    · intro h i hi
      have hi' := List.mem_range.1 hi
      obtain ⟨x, hx⟩ : ∃ x, t.owns[i]? = some x := ⟨_, List.getElem?_eq_getElem hi'⟩
      have h2 := h i x hi' hx
      unfold ownAt
      rw [Bool.and_eq_true, List.all_eq_true, own_getD hx]
      refine ⟨by simpa using h2.1, fun j hj => ?_⟩
      have hj' := List.mem_range.1 hj
      obtain ⟨y, hy⟩ : ∃ y, t.owns[j]? = some y := ⟨_, List.getElem?_eq_getElem (by omega)⟩
      rw [own_getD hy]
      simpa using h2.2 j y hj' hy
  rw [h1]
  rfl

theorem ownsUp_zero (t : TagsD) : OwnsUp t 0 := fun i x h => by omega
theorem ownsUp_succ {t : TagsD} {k : Nat} {x : OwnD} (h : OwnsUp t k) (hx : t.owns[k]? = some x) (hv : 0 ≤ x.tag ∧ x.tag < t.next ∧ 0 ≤ x.space ∧ x.space < 16) (hc : ∀ j y, j < k → t.owns[j]? = some y → y.tag < x.tag ∧ y.space ≠ x.space) : OwnsUp t (k + 1) := by
  intro i z hi hz
  by_cases e : i = k
  · subst e
    rw [hx] at hz
    injection hz with hz
    subst hz
    exact ⟨hv, hc⟩
  · exact h i z (by omega) hz
theorem tagsV_bad {t : TagsD} {k : Nat} {x : OwnD} (hx : t.owns[k]? = some x) (hv : ¬ ((0 ≤ x.tag ∧ x.tag < t.next ∧ 0 ≤ x.space ∧ x.space < 16) ∧ ∀ j y, j < k → t.owns[j]? = some y → y.tag < x.tag ∧ y.space ≠ x.space)) : tagsV t = false := by
  cases h : tagsV t
  · rfl
  · exact absurd (((tagsV_iff t).1 h).2 k x (getElem?_lt hx) hx) hv
theorem tagsV_bad_head {t : TagsD} (h : ¬ TagsHead t) : tagsV t = false := by
  cases h2 : tagsV t
  · rfl
  · exact absurd ((tagsV_iff t).1 h2).1 h
theorem tagsV_end {t : TagsD} (h1 : TagsHead t) (h2 : OwnsUp t t.owns.length) : tagsV t = true := (tagsV_iff t).2 ⟨h1, h2⟩

/-- Tags that ascend from 0 on are no more than the next one. -/
theorem ownsUp_few {t : TagsD} {k : Nat} (h : OwnsUp t k) (hk : k ≤ t.owns.length) : ∀ i x, i < k → t.owns[i]? = some x → (i : Int) ≤ x.tag := by
  intro i
  induction i with
  | zero => intro x hi hx; exact (h 0 x hi hx).1.1
  | succ i ih =>
    intro x hi hx
    obtain ⟨y, hy⟩ : ∃ y, t.owns[i]? = some y := ⟨_, List.getElem?_eq_getElem (by omega)⟩
    have h1 := ih y (by omega) hy
    have h2 := ((h (i + 1) x hi hx).2 i y (by omega) hy).1
    omega
theorem ownsUp_len {t : TagsD} (h : OwnsUp t t.owns.length) (hn : 0 ≤ t.next) : (t.owns.length : Int) ≤ t.next := by
  by_cases h0 : t.owns.length = 0
  · rw [h0]; exact hn
  · obtain ⟨x, hx⟩ : ∃ x, t.owns[t.owns.length - 1]? = some x := ⟨_, List.getElem?_eq_getElem (by omega)⟩
    have h1 := ownsUp_few h (Nat.le_refl _) _ x (by omega) hx
    have h2 := (h _ x (by omega) hx).1.2.1
    omega

/-! ### A map of the call's own that holds true at some numbers -/
open Go.Maps (Keyed)
theorem kInt : Keyed Tryz.prog 3 := Maps.int_keyed Tryz.underlying3

def HasInts (w : World) (b n : Nat) (S : List Int) : Prop := ∃ D : DataW Unit, w.ownsMap Tryz.prog 3 (plainElem Tryz.prog 4) b n D ∧ Maps.IsMap D ∧ ∀ x : Int, D.atKey (.int .i64 x) (.lit (.bool false)) = .lit (.bool (decide (x ∈ S)))

theorem HasInts.made (w : World) : HasInts (w.alloc (.map #[] 0)) w.heap.size 0 [] :=
  ⟨_, World.ownsMap_made w _ _ _, Maps.isMap_empty, fun x => by simp [DataW.atKey]⟩
theorem HasInts.kept {w w' : World} {b n : Nat} {S : List Int} {row : Option Nat} (h : HasInts w b n S) (hg : w.grownBy w' row) (hne : some b ≠ row) : HasInts w' b n S := by
  obtain ⟨D, h1, h2⟩ := h
  exact ⟨D, h1.kept hg hne, h2⟩
theorem HasInts.ex {w w' : World} {b n : Nat} {S : List Int} (h : HasInts w b n S) (k : Ex w w') : HasInts w' b n S :=
  h.kept (grown_ex (grown_refl w none) k) (by simp)
theorem HasInts.lt {w : World} {b n : Nat} {S : List Int} (h : HasInts w b n S) : b < w.heap.size := by
  obtain ⟨D, h1, _⟩ := h
  exact h1.lt
theorem HasInts.look {w : World} {b n : Nat} {S : List Int} (h : HasInts w b n S) (x : Int) (hx : (Lit.int .i64 x).wf = true) :
    (Instr.lookup 88 (.map (some b)) (.int .i64 x) false).run Tryz.prog w = .ok (.bool (decide (x ∈ S))) w := by
  obtain ⟨D, h1, _, h2⟩ := h
  obtain ⟨v, ps, hrun, hv⟩ := h1.lookup kInt Tryz.underlying88 (z := .bool false) (by kernel_rfl) (plainElem_bool Tryz.underlying4 false) (Maps.keyOf_int_mk Tryz.underlying3 hx)
  rw [h2] at hv
  rw [hrun]
  unfold plainElem at hv
  rw [Tryz.underlying4] at hv
  cases v <;> simp at hv
  rw [hv.1]
theorem HasInts.put {w : World} {b n : Nat} {S : List Int} (h : HasInts w b n S) (hn : n < maxLen) (x : Int) (hx : (Lit.int .i64 x).wf = true) :
    ∃ w', (Instr.mapUpdate 88 (.map (some b)) (.int .i64 x) (.bool true)).run Tryz.prog w = .ok () w' ∧ HasInts w' b (n + 1) (x :: S) ∧ w.grownBy w' (some b) := by
  obtain ⟨D, h1, hm, h2⟩ := h
  obtain ⟨w', hrun, h3, h4⟩ := h1.update kInt Tryz.underlying88 hn (Maps.keyOf_int_mk Tryz.underlying3 hx) (plainElem_bool Tryz.underlying4 true)
  refine ⟨w', hrun, ⟨_, h3, hm.put _ _, fun y => ?_⟩, h4⟩
  by_cases e : y = x
  · subst e
    rw [Maps.atKey_put_same hm (by first | trivial | (simp [WideAt.IsKeyLit]) | exact True.intro)]
    simp
  · rw [Maps.atKey_put_other]
    · rw [h2]
      simp [e]
    · intro h; injection h with _ h; exact e h

def noTags : TagsD := ⟨0, 0, 0, []⟩
def newTags (n : Int) : TagsD × Bool := if 1 ≤ n ∧ n ≤ 8 then (⟨n, 0, 0, []⟩, true) else (noTags, false)

set_option maxHeartbeats 400000 in
theorem newTagsS_c (n : Int) (w : World) : Calls Tryz.prog 87 #[.int .i64 n] w
    fun r w' => ∃ A c, r = .returned (.tuple #[.agg #[.int .i64 (newTags n).1.count, .int .i64 (newTags n).1.next, .int .i64 (newTags n).1.round, .slice A (newTags n).1.owns.length c], .bool (newTags n).2]) ∧ Fr 93 w' w.heap.size A c (newTags n).1.owns ∧ Ex w w' := by
  by_cases h1 : 1 ≤ n
  · by_cases h2 : n ≤ 8
    · have e : newTags n = (⟨n, 0, 0, []⟩, true) := if_pos ⟨h1, h2⟩
      rw [e]
      clear e
      go_enter Tryz.func87, Tryz.ntmps87
      go_wp2
      exact bodyPost_ret (v := .tuple #[.agg #[.int .i64 n, .int .i64 0, .int .i64 0, .slice (some ⟨w.heap.size + 1, 0, none⟩) 0 0], .bool true]) (by simp [results, Tryz.results87, go_sem]) rfl
        ⟨_, 0, rfl, Fr.none_ _ _ _ _, ((Ex.refl _).alloc _).alloc _⟩
    · have e : newTags n = (noTags, false) := if_neg (fun h => h2 h.2)
      rw [e]
      clear e
      have h3 : 8 < n := by omega
      go_enter Tryz.func87, Tryz.ntmps87
      go_wp2
      exact bodyPost_ret (v := .tuple #[.agg #[.int .i64 0, .int .i64 0, .int .i64 0, .slice none 0 0], .bool false]) (by simp [results, Tryz.results87, go_sem]) rfl
        ⟨none, 0, rfl, Fr.none_ _ _ _ _, (Ex.refl _).alloc _⟩
  · have e : newTags n = (noTags, false) := if_neg (fun h => h1 h.1)
    rw [e]
    clear e
    have h3 : n < 1 := by omega
    go_enter Tryz.func87, Tryz.ntmps87
    go_wp2
    exact bodyPost_ret (v := .tuple #[.agg #[.int .i64 0, .int .i64 0, .int .i64 0, .slice none 0 0], .bool false]) (by simp [results, Tryz.results87, go_sem]) rfl
      ⟨none, 0, rfl, Fr.none_ _ _ _ _, (Ex.refl _).alloc _⟩
end Go.Proofs.YtbdlpbladpppjaaGreatDoor
namespace Go.Proofs.YtbdlpbladpppjaaGreatDoor
open Go.ChangeShapes Go.WideShapes Go.ChangeAt Go.RowKit
set_option linter.unusedVariables false

def noOwn : OwnD := ⟨0, 0⟩
def ownPlace (xs : List OwnD) (s : Int) : Int := firstOf (fun x => x.space == s) xs
def tagPlace (xs : List OwnD) (g : Int) : Int := firstOf (fun x => x.tag == g) xs
def spaceOf (t : TagsD) (g : Int) : Int × Bool := if tagsV t = true ∧ 0 ≤ tagPlace t.owns g then ((t.owns.getD (tagPlace t.owns g).toNat noOwn).space, true) else (0, false)
def takeTag (t : TagsD) (s : Int) : TagsD × Int × Bool × Bool :=
  if tagsV t = true ∧ inB s 16 = true then
    if 0 ≤ ownPlace t.owns s then (t, (t.owns.getD (ownPlace t.owns s).toNat noOwn).tag, false, true)
    else if t.next = t.count then
      if t.round = 1000000 then (noTags, 0, false, false) else (⟨t.count, 1, t.round + 1, [⟨s, 0⟩]⟩, 0, true, true)
    else (⟨t.count, t.next + 1, t.round, t.owns ++ [⟨s, t.next⟩]⟩, t.next, false, true)
  else (noTags, 0, false, false)
/-! ### Valid tags -/
section
variable {t : TagsD} (hv : tagsV t = true)
include hv
theorem tv_head : TagsHead t := ((tagsV_iff t).1 hv).1
theorem tv_up : OwnsUp t t.owns.length := ((tagsV_iff t).1 hv).2
theorem tv_own {i : Nat} {x : OwnD} (hx : t.owns[i]? = some x) : 0 ≤ x.tag ∧ x.tag < t.next ∧ 0 ≤ x.space ∧ x.space < 16 := (tv_up hv i x (getElem?_lt hx) hx).1
theorem tv_lt {i j : Nat} {x y : OwnD} (hx : t.owns[i]? = some x) (hy : t.owns[j]? = some y) (h : j < i) : y.tag < x.tag ∧ y.space ≠ x.space := (tv_up hv i x (getElem?_lt hx) hx).2 j y h hy
theorem tv_few : (t.owns.length : Int) ≤ t.next ∧ t.owns.length ≤ 8 := by
  have h := tv_head hv
  have h1 := ownsUp_len (tv_up hv) h.2.2.1
  have h2 := h.2.1
  have h3 := h.2.2.2.1
  omega
theorem ownPlace_of {i : Nat} {x : OwnD} (hx : t.owns[i]? = some x) : ownPlace t.owns x.space = i :=
  firstOf_at hx (by simp) fun j y hj hy => by have := (tv_lt hv hx hy hj).2; simpa using this
theorem tagPlace_of {i : Nat} {x : OwnD} (hx : t.owns[i]? = some x) : tagPlace t.owns x.tag = i :=
  firstOf_at hx (by simp) fun j y hj hy => by have := (tv_lt hv hx hy hj).1; simp; omega
theorem spaceOf_of {i : Nat} {x : OwnD} (hx : t.owns[i]? = some x) : spaceOf t x.tag = (x.space, true) := by
  unfold spaceOf
  rw [tagPlace_of hv hx, if_pos ⟨hv, by omega⟩, Int.toNat_natCast, own_getD hx]
end

theorem place_or (xs : List OwnD) (s : Int) : (ownPlace xs s = -1 ∧ ∀ (j : Nat) (y : OwnD), xs[j]? = some y → y.space ≠ s) ∨ ∃ (k : Nat) (x : OwnD), ownPlace xs s = k ∧ xs[k]? = some x ∧ x.space = s := by
  rcases firstOf_cases (fun x : OwnD => x.space == s) xs with ⟨h1, h2⟩ | ⟨k, x, h1, h2, h3, h4⟩
  · exact .inl ⟨h1, fun j y hy => by have := h2 j y hy; simpa using this⟩
  · exact .inr ⟨k, x, h1, h2, by simpa using h3⟩
theorem tplace_or (xs : List OwnD) (g : Int) : (tagPlace xs g = -1 ∧ ∀ (j : Nat) (y : OwnD), xs[j]? = some y → y.tag ≠ g) ∨ ∃ (k : Nat) (x : OwnD), tagPlace xs g = k ∧ xs[k]? = some x ∧ x.tag = g := by
  rcases firstOf_cases (fun x : OwnD => x.tag == g) xs with ⟨h1, h2⟩ | ⟨k, x, h1, h2, h3, h4⟩
  · exact .inl ⟨h1, fun j y hy => by have := h2 j y hy; simpa using this⟩
  · exact .inr ⟨k, x, h1, h2, by simpa using h3⟩
theorem spaceOf_none {t : TagsD} {g : Int} (h : ∀ (j : Nat) (y : OwnD), t.owns[j]? = some y → y.tag ≠ g) : spaceOf t g = (0, false) := by
  unfold spaceOf
  rcases tplace_or t.owns g with ⟨h1, _⟩ | ⟨k, x, _, h2, h3⟩
  · rw [if_neg (by rw [h1]; omega)]
  · exact absurd h3 (h k x h2)
theorem spaceOf_or (t : TagsD) (g : Int) : (spaceOf t g = (0, false) ∧ (tagsV t = true → ∀ (j : Nat) (y : OwnD), t.owns[j]? = some y → y.tag ≠ g)) ∨ ∃ (k : Nat) (x : OwnD), tagsV t = true ∧ t.owns[k]? = some x ∧ x.tag = g ∧ spaceOf t g = (x.space, true) := by
  by_cases hv : tagsV t = true
  · rcases tplace_or t.owns g with ⟨_, h2⟩ | ⟨k, x, _, h2, h3⟩
    · exact .inl ⟨spaceOf_none h2, fun _ => h2⟩
    · exact .inr ⟨k, x, hv, h2, h3, by rw [← h3]; exact spaceOf_of hv h2⟩
  · exact .inl ⟨if_neg (fun h => hv h.1), fun h => absurd h hv⟩

/-! ### Taking one tag -/
theorem takeTag_or (t : TagsD) (s : Int) :
    takeTag t s = (noTags, 0, false, false) ∨
    (∃ (k : Nat) (x : OwnD), tagsV t = true ∧ inB s 16 = true ∧ t.owns[k]? = some x ∧ x.space = s ∧ takeTag t s = (t, x.tag, false, true)) ∨
    (tagsV t = true ∧ inB s 16 = true ∧ (∀ (j : Nat) (y : OwnD), t.owns[j]? = some y → y.space ≠ s) ∧ t.next ≠ t.count ∧ takeTag t s = (⟨t.count, t.next + 1, t.round, t.owns ++ [⟨s, t.next⟩]⟩, t.next, false, true)) ∨
    (tagsV t = true ∧ inB s 16 = true ∧ (∀ (j : Nat) (y : OwnD), t.owns[j]? = some y → y.space ≠ s) ∧ t.next = t.count ∧ t.round ≠ 1000000 ∧ takeTag t s = (⟨t.count, 1, t.round + 1, [⟨s, 0⟩]⟩, 0, true, true)) := by
  unfold takeTag
  by_cases h : tagsV t = true ∧ inB s 16 = true
  · rw [if_pos h]
    rcases place_or t.owns s with ⟨h1, h2⟩ | ⟨k, x, h1, h2, h3⟩
    · rw [if_neg (by omega)]
      by_cases h4 : t.next = t.count
      · rw [if_pos h4]
        by_cases h5 : t.round = 1000000
        · rw [if_pos h5]; exact .inl rfl
        · rw [if_neg h5]; exact .inr (.inr (.inr ⟨h.1, h.2, h2, h4, h5, rfl⟩))
      · rw [if_neg h4]; exact .inr (.inr (.inl ⟨h.1, h.2, h2, h4, rfl⟩))
    · rw [if_pos (by omega)]
      exact .inr (.inl ⟨k, x, h.1, h.2, h2, h3, by rw [h1, Int.toNat_natCast, own_getD h2]⟩)
  · rw [if_neg h]; exact .inl rfl

theorem get_append_cases {α : Type} {xs : List α} {z x : α} {i : Nat} (h : (xs ++ [z])[i]? = some x) : xs[i]? = some x ∨ (i = xs.length ∧ x = z) := by
  by_cases hi : i < xs.length
  · rw [List.getElem?_append_left hi] at h; exact .inl h
  · rw [List.getElem?_append_right (by omega)] at h
    have h2 := getElem?_lt h
    simp at h2
    have e : i = xs.length := by omega
    subst e
    simp at h
    exact .inr ⟨rfl, h.symm⟩

theorem up_push {c n r s : Int} {xs : List OwnD} (h : OwnsUp ⟨c, n, r, xs⟩ xs.length) (hn : 0 ≤ n) (hs : inB s 16 = true) (hf : ∀ (j : Nat) (y : OwnD), xs[j]? = some y → y.space ≠ s) :
    OwnsUp ⟨c, n + 1, r, xs ++ [⟨s, n⟩]⟩ (xs ++ [(⟨s, n⟩ : OwnD)]).length := by
  intro i x hi hx
  simp only at hx
  rcases get_append_cases hx with hx' | ⟨rfl, rfl⟩
  · have h1 := h i x (getElem?_lt hx') hx'
    refine ⟨⟨h1.1.1, by have := h1.1.2.1; simp only at this ⊢; omega, h1.1.2.2⟩, fun j y hj hy => h1.2 j y hj ?_⟩
    simp only at hy
    rwa [List.getElem?_append_left (by have := getElem?_lt hx'; omega)] at hy
  · have hb := inB_true.1 hs
    refine ⟨⟨hn, by simp only; omega, hb.1, hb.2⟩, fun j y hj hy => ?_⟩
    simp only at hy
    rw [List.getElem?_append_left hj] at hy
    have := (h j y hj hy).1.2.1
    exact ⟨this, hf j y hy⟩

theorem take_valid {t : TagsD} {s : Int} (h : (takeTag t s).2.2.2 = true) : tagsV (takeTag t s).1 = true := by
  rcases takeTag_or t s with e | ⟨k, x, hv, hb, hx, hs, e⟩ | ⟨hv, hb, hf, hn, e⟩ | ⟨hv, hb, hf, hn, hr, e⟩
  · rw [e] at h; cases h
  · rw [e]; exact hv
  · rw [e]
    have hh := tv_head hv
    refine tagsV_end ⟨hh.1, hh.2.1, ?_, ?_, hh.2.2.2.2⟩ ?_
    · have := hh.2.2.1; simp only; omega
    · have := hh.2.2.2.1; simp only; omega
    · exact up_push (tv_up hv) hh.2.2.1 hb hf
  · rw [e]
    have hh := tv_head hv
    unfold TagsHead at hh
    refine tagsV_end ⟨hh.1, hh.2.1, by simp only; omega, by simp only; omega, by simp only; omega, by simp only; omega⟩ ?_
    have := up_push (c := t.count) (n := 0) (r := t.round + 1) (s := s) (xs := []) (ownsUp_zero _) (Int.le_refl _) hb (fun j y hy => by simp at hy)
    simpa using this
/-- Who has a tag takes it again. -/
theorem take_again {t : TagsD} (hv : tagsV t = true) {k : Nat} {x : OwnD} (hx : t.owns[k]? = some x) : takeTag t x.space = (t, x.tag, false, true) := by
  have hb := tv_own hv hx
  unfold takeTag
  rw [if_pos ⟨hv, inB_true.2 hb.2.2⟩, ownPlace_of hv hx, if_pos (by omega), Int.toNat_natCast, own_getD hx]

/-! ### Leaving -/
/-! ### Taking one after the other -/
end Go.Proofs.YtbdlpbladpppjaaGreatDoor
namespace Go.Proofs.YtbdlpbladpppjaaGreatDoor
open Go.ChangeShapes Go.WideShapes Go.ChangeAt Go.RowKit
open Rec (sz cs)
set_option linter.unusedVariables false
set_option maxRecDepth 100000

theorem fieldsLine : Tryz.prog.underlying 64 = some (.struct (Tryz.prog.fieldsOf 64)) := by kernel_rfl
theorem heldLine_ : Tryz.prog.stoodInHeld 64 = false := by kernel_rfl
theorem guardLine : Tryz.prog.eqGuardType Tryz.prog.depth 64 = false := by kernel_rfl
theorem eqIn_line (x y : LineD) (w : World) : (Op.equalIn 10000 64 (.agg #[.bool x.valid, .int .i64 x.tag, .int .i64 x.page, .int .i64 x.frame, .int .i64 x.rights, .bool x.wired]) (.agg #[.bool y.valid, .int .i64 y.tag, .int .i64 y.page, .int .i64 y.frame, .int .i64 y.rights, .bool y.wired])).run Tryz.prog w = .ok (eqB x y) w := by
  obtain ⟨a1, b1, c1, d1, e1, f1⟩ := x
  obtain ⟨a2, b2, c2, d2, e2, f2⟩ := y
  rw [run_equalIn_agg w 9999 _ _ _ fieldsLine heldLine_]
  simp [go_sem, Tryz.underlying64]
  by_cases k0 : a1 = a2 <;> by_cases k1 : b1 = b2 <;> by_cases k2 : c1 = c2 <;> by_cases k3 : d1 = d2 <;> by_cases k4 : e1 = e2 <;> by_cases k5 : f1 = f2 <;> simp [eqB, *]
theorem eql_line (x y : LineD) (w : World) : (binOp .eql 64 (.agg #[.bool x.valid, .int .i64 x.tag, .int .i64 x.page, .int .i64 x.frame, .int .i64 x.rights, .bool x.wired]) (.agg #[.bool y.valid, .int .i64 y.tag, .int .i64 y.page, .int .i64 y.frame, .int .i64 y.rights, .bool y.wired])).run Tryz.prog w = .ok (.bool (eqB x y)) w := by
  rw [run_eql_struct, eqIn_line]; rfl

theorem infoLine : (Tryz.prog.info? 64).map (fun i => (i.zero, i.size, i.bytes)) = some (some (.agg #[.bool false, .int .i64 0, .int .i64 0, .int .i64 0, .int .i64 0, .bool false]), 6, 48) := by kernel_rfl


def noCache : CacheD := ⟨[], 0⟩
def noLine : LineD := ⟨false, 0, 0, 0, 0, false⟩
def newCache (n : Int) : CacheD × Bool := if 1 ≤ n ∧ n ≤ 8 then (⟨List.replicate n.toNat noLine, 0⟩, true) else (noCache, false)
set_option maxHeartbeats 400000 in
theorem newCacheS_c (n : Int) (w : World) : Calls Tryz.prog 86 #[.int .i64 n] w
    fun r w' => ∃ A c, r = .returned (.tuple #[.agg #[.slice A (newCache n).1.lines.length c, .int .i64 (newCache n).1.hand], .bool (newCache n).2]) ∧ Fr 64 w' w.heap.size A c (newCache n).1.lines ∧ Ex w w' := by
  by_cases h1 : 1 ≤ n
  · by_cases h2 : n ≤ 8
    · have e : newCache n = (⟨List.replicate n.toNat noLine, 0⟩, true) := if_pos ⟨h1, h2⟩
      rw [e]
      clear e
      obtain ⟨m, rfl⟩ := Int.eq_ofNat_of_zero_le (show 0 ≤ n by omega)
      simp only [Int.toNat_natCast, List.length_replicate]
      have hmk := make_rec (P := Tryz.prog) (α := LineD) 27 64 48 noLine _ Tryz.underlying27 infoLine rfl m (by omega) (by omega)
      go_enter Tryz.func86, Tryz.ntmps86
      go_wp2
      exact bodyPost_ret (v := .tuple #[.agg #[.slice (some ⟨w.heap.size + 1, 0, none⟩) m m, .int .i64 0], .bool true]) (by simp [results, Tryz.results86, go_sem]) rfl
        ⟨_, _, rfl, ⟨by simp, by simp only [maxLen]; omega, .inr ⟨_, [], rfl, by simp, by have := Bk.new (α := LineD) (w.alloc (.cells #[.slice (some ⟨w.heap.size + 1, 0, none⟩) m m, .int .i64 0] 29)) 64 (List.replicate m noLine); simpa using this, by simp⟩⟩, ((Ex.refl _).alloc _).alloc _⟩
    · have e : newCache n = (noCache, false) := if_neg (fun h => h2 h.2)
      rw [e]
      clear e
      have h3 : 8 < n := by omega
      go_enter Tryz.func86, Tryz.ntmps86
      go_wp2
      exact bodyPost_ret (v := .tuple #[.agg #[.slice none 0 0, .int .i64 0], .bool false]) (by simp [results, Tryz.results86, go_sem]) rfl
        ⟨none, 0, rfl, Fr.none_ _ _ _ _, (Ex.refl _).alloc _⟩
  · have e : newCache n = (noCache, false) := if_neg (fun h => h1 h.1)
    rw [e]
    clear e
    have h3 : n < 1 := by omega
    go_enter Tryz.func86, Tryz.ntmps86
    go_wp2
    exact bodyPost_ret (v := .tuple #[.agg #[.slice none 0 0, .int .i64 0], .bool false]) (by simp [results, Tryz.results86, go_sem]) rfl
      ⟨none, 0, rfl, Fr.none_ _ _ _ _, (Ex.refl _).alloc _⟩

def tagB (t : Int) : Bool := decide (-1 ≤ t ∧ t < 8)
def lineV (x : LineD) : Bool := if x.valid then tagB x.tag && (inB x.page 256 && (inB x.frame 16 && inB x.rights 8)) else eqB x noLine
def clashB (x y : LineD) : Bool := x.valid && (y.valid && ((x.page == y.page) && ((x.tag == y.tag) || ((x.tag == -1) || (y.tag == -1)))))

set_option maxHeartbeats 400000 in
theorem tagValid_c (t : Int) (w : World) : Calls Tryz.prog 81 #[.int .i64 t] w fun r w' => r = .returned (.bool (tagB t)) ∧ w = w' := by
  by_cases h0 : -1 ≤ t
  · go_enter Tryz.func81, Tryz.ntmps81
    go_wp2
    go_ret
    exact ⟨ret_bool (by unfold tagB; simp [h0]), rfl⟩
  · have h1 : t < -1 := by omega
    go_enter Tryz.func81, Tryz.ntmps81
    go_wp2
    go_ret
    exact ⟨ret_bool (by unfold tagB; simp; omega), rfl⟩

set_option maxHeartbeats 400000 in
theorem l4Tag_c (t : Int) (w : World) : Calls Tryz.prog 120 #[.int .i64 t] w fun r w' => r = .returned (.bool (tagB t)) ∧ w = w' := by
  by_cases h0 : -1 ≤ t
  · go_enter Tryz.func120, Tryz.ntmps120
    go_wp2
    go_ret
    exact ⟨ret_bool (by unfold tagB; simp [h0]), rfl⟩
  · have h1 : t < -1 := by omega
    go_enter Tryz.func120, Tryz.ntmps120
    go_wp2
    go_ret
    exact ⟨ret_bool (by unfold tagB; simp; omega), rfl⟩

set_option maxHeartbeats 400000 in
theorem l1Page_c (n : Int) (w : World) : Calls Tryz.prog 95 #[.int .i64 n] w fun r w' => r = .returned (.bool (inB n 256)) ∧ w = w' := by
  by_cases h0 : 0 ≤ n
  · go_enter Tryz.func95, Tryz.ntmps95
    go_wp2
    go_ret
    exact ⟨ret_bool (by rw [Bool.eq_iff_iff, inB_true]; simp [h0]), rfl⟩
  · go_enter Tryz.func95, Tryz.ntmps95
    go_wp2
    go_ret
    exact ⟨ret_bool (by rw [Bool.eq_iff_iff, inB_true]; simp; omega), rfl⟩

set_option maxHeartbeats 400000 in
theorem rightsS_c (n : Int) (w : World) : Calls Tryz.prog 96 #[.int .i64 n] w fun r w' => r = .returned (.bool (inB n 8)) ∧ w = w' := by
  by_cases h0 : 0 ≤ n
  · go_enter Tryz.func96, Tryz.ntmps96
    go_wp2
    go_ret
    exact ⟨ret_bool (by rw [Bool.eq_iff_iff, inB_true]; simp [h0]; omega), rfl⟩
  · go_enter Tryz.func96, Tryz.ntmps96
    go_wp2
    go_ret
    exact ⟨ret_bool (by rw [Bool.eq_iff_iff, inB_true]; simp; omega), rfl⟩

set_option maxHeartbeats 400000 in
theorem rightsI_c (n : Int) (w : World) : Calls Tryz.prog 53 #[.int .i64 n] w fun r w' => r = .returned (.bool (inB n 8)) ∧ w = w' := by
  go_enter Tryz.func53, Tryz.ntmps53
  go_wp2_with fail
  refine (within_c _ _ _).mono ?_
  rintro r w' ⟨rfl, rfl⟩
  go_wp2
  go_ret
  exact ⟨rfl, rfl⟩

theorem eql_noLine (x : LineD) (w : World) : (binOp .eql 64 (.agg #[.bool x.valid, .int .i64 x.tag, .int .i64 x.page, .int .i64 x.frame, .int .i64 x.rights, .bool x.wired]) (.agg #[.bool false, .int .i64 0, .int .i64 0, .int .i64 0, .int .i64 0, .bool false])).run Tryz.prog w = .ok (.bool (eqB x noLine)) w :=
  eql_line x noLine w

set_option maxHeartbeats 1000000 in
theorem lineValid_c (x : LineD) (w : World) : Calls Tryz.prog 55 #[.agg #[.bool x.valid, .int .i64 x.tag, .int .i64 x.page, .int .i64 x.frame, .int .i64 x.rights, .bool x.wired]] w fun r w' => r = .returned (.bool (lineV x)) ∧ Ex w w' := by
  have hz := eql_noLine x
  have hgd := guardLine
  cases hv : x.valid
  · have e : lineV x = eqB x noLine := by simp [lineV, hv]
    rw [e]
    clear e
    rw [hv] at hz
    generalize eqB x noLine = b at hz
    go_enter Tryz.func55, Tryz.ntmps55
    go_wp2
    go_ret
    exact ⟨rfl, (Ex.refl _).alloc _⟩
  · have e : lineV x = (tagB x.tag && (inB x.page 256 && (inB x.frame 16 && inB x.rights 8))) := by simp [lineV, hv]
    rw [e]
    clear e hz hgd
    cases h1 : tagB x.tag <;> cases h2 : inB x.page 256 <;> cases h3 : inB x.frame 16 <;> cases h4 : inB x.rights 8
    all_goals
      go_enter Tryz.func55, Tryz.ntmps55
      go_wp2_with (first | (go_at_call 81; refine (tagValid_c _ _).mono ?_; rintro r w' ⟨rfl, rfl⟩) | (go_at_call 53; refine (rightsI_c _ _).mono ?_; rintro r w' ⟨rfl, rfl⟩) | (go_at_call 16; refine (within_c _ _ _).mono ?_; rintro r w' ⟨rfl, rfl⟩))
      go_ret
      exact ⟨rfl, (Ex.refl _).alloc _⟩

set_option maxHeartbeats 2000000 in
theorem l4Line_c (x : LineD) (w : World) : Calls Tryz.prog 76 #[.agg #[.bool x.valid, .int .i64 x.tag, .int .i64 x.page, .int .i64 x.frame, .int .i64 x.rights, .bool x.wired]] w fun r w' => r = .returned (.bool (lineV x)) ∧ Ex w w' := by
  have hz := eql_noLine x
  have hgd := guardLine
  cases hv : x.valid
  · have e : lineV x = eqB x noLine := by simp [lineV, hv]
    rw [e]
    clear e
    rw [hv] at hz
    generalize eqB x noLine = b at hz
    go_enter Tryz.func76, Tryz.ntmps76
    go_wp2
    go_ret
    exact ⟨rfl, (Ex.refl _).alloc _⟩
  · have e : lineV x = (tagB x.tag && (inB x.page 256 && (inB x.frame 16 && inB x.rights 8))) := by simp [lineV, hv]
    rw [e]
    clear e hz hgd
    have ht : tagB x.tag = (decide (-1 ≤ x.tag) && decide (x.tag < 8)) := by simp [tagB]
    have hf : inB x.frame 16 = (decide (0 ≤ x.frame) && decide (x.frame < 16)) := by simp [inB]
    cases a1 : decide (-1 ≤ x.tag)
    · have e : tagB x.tag = false := by rw [ht, a1]; rfl
      rw [e]
      clear e ht hf
      have a2 : x.tag < -1 := by simpa using a1
      go_enter Tryz.func76, Tryz.ntmps76
      go_wp2
      go_ret
      exact ⟨rfl, (Ex.refl _).alloc _⟩
    cases a2 : decide (x.tag < 8)
    · have e : tagB x.tag = false := by rw [ht, a1, a2]; rfl
      rw [e]
      clear e ht hf
      have a3 : 8 ≤ x.tag := by simpa using a2
      have a4 : -1 ≤ x.tag := by omega
      go_enter Tryz.func76, Tryz.ntmps76
      go_wp2
      go_ret
      exact ⟨rfl, (Ex.refl _).alloc _⟩
    have e : tagB x.tag = true := by rw [ht, a1, a2]; rfl
    rw [e]
    clear e ht
    have b1 : -1 ≤ x.tag := by simpa using a1
    have b2 : x.tag < 8 := by simpa using a2
    clear a1 a2
    cases h2 : inB x.page 256
    · clear hf
      go_enter Tryz.func76, Tryz.ntmps76
      go_wp2_with (first | (go_at_call 95; refine (l1Page_c _ _).mono ?_; rintro r w' ⟨rfl, rfl⟩))
      go_ret
      exact ⟨rfl, (Ex.refl _).alloc _⟩
    cases a1 : decide (0 ≤ x.frame)
    · have e : inB x.frame 16 = false := by rw [hf, a1]; rfl
      rw [e]
      clear e hf
      have a2 : x.frame < 0 := by simpa using a1
      go_enter Tryz.func76, Tryz.ntmps76
      go_wp2_with (first | (go_at_call 95; refine (l1Page_c _ _).mono ?_; rintro r w' ⟨rfl, rfl⟩))
      go_ret
      exact ⟨rfl, (Ex.refl _).alloc _⟩
    cases a2 : decide (x.frame < 16)
    · have e : inB x.frame 16 = false := by rw [hf, a1, a2]; rfl
      rw [e]
      clear e hf
      have a3 : 16 ≤ x.frame := by simpa using a2
      have a4 : 0 ≤ x.frame := by omega
      go_enter Tryz.func76, Tryz.ntmps76
      go_wp2_with (first | (go_at_call 95; refine (l1Page_c _ _).mono ?_; rintro r w' ⟨rfl, rfl⟩))
      go_ret
      exact ⟨rfl, (Ex.refl _).alloc _⟩
    have e : inB x.frame 16 = true := by rw [hf, a1, a2]; rfl
    rw [e]
    clear e hf
    have b3 : 0 ≤ x.frame := by simpa using a1
    have b4 : x.frame < 16 := by simpa using a2
    clear a1 a2
    cases h4 : inB x.rights 8
    all_goals
      go_enter Tryz.func76, Tryz.ntmps76
      go_wp2_with (first | (go_at_call 95; refine (l1Page_c _ _).mono ?_; rintro r w' ⟨rfl, rfl⟩) | (go_at_call 96; refine (rightsS_c _ _).mono ?_; rintro r w' ⟨rfl, rfl⟩))
      go_ret
      exact ⟨rfl, (Ex.refl _).alloc _⟩

theorem clash_split (x y : LineD) :
    (x.valid = false ∧ clashB x y = false) ∨ (x.valid = true ∧ y.valid = false ∧ clashB x y = false) ∨ (x.valid = true ∧ y.valid = true ∧ (x.page == y.page) = false ∧ clashB x y = false) ∨
    (x.valid = true ∧ y.valid = true ∧ (x.page == y.page) = true ∧ (x.tag == y.tag) = true ∧ clashB x y = true) ∨
    (x.valid = true ∧ y.valid = true ∧ (x.page == y.page) = true ∧ (x.tag == y.tag) = false ∧ (x.tag == -1) = true ∧ clashB x y = true) ∨
    (x.valid = true ∧ y.valid = true ∧ (x.page == y.page) = true ∧ (x.tag == y.tag) = false ∧ (x.tag == -1) = false ∧ (y.tag == -1) = true ∧ clashB x y = true) ∨
    (x.valid = true ∧ y.valid = true ∧ (x.page == y.page) = true ∧ (x.tag == y.tag) = false ∧ (x.tag == -1) = false ∧ (y.tag == -1) = false ∧ clashB x y = false) := by
  unfold clashB
  cases x.valid <;> cases y.valid <;> cases (x.page == y.page) <;> cases (x.tag == y.tag) <;> cases (x.tag == -1) <;> cases (y.tag == -1) <;> simp

set_option maxHeartbeats 1000000 in
theorem clash_c (x y : LineD) (w : World) : Calls Tryz.prog 56 #[.agg #[.bool x.valid, .int .i64 x.tag, .int .i64 x.page, .int .i64 x.frame, .int .i64 x.rights, .bool x.wired], .agg #[.bool y.valid, .int .i64 y.tag, .int .i64 y.page, .int .i64 y.frame, .int .i64 y.rights, .bool y.wired]] w fun r w' => r = .returned (.bool (clashB x y)) ∧ Ex w w' := by
  rcases clash_split x y with ⟨h1, e⟩ | ⟨h1, h2, e⟩ | ⟨h1, h2, h3, e⟩ | ⟨h1, h2, h3, h4, e⟩ | ⟨h1, h2, h3, h4, h5, e⟩ | ⟨h1, h2, h3, h4, h5, h6, e⟩ | ⟨h1, h2, h3, h4, h5, h6, e⟩
  all_goals
    rw [e]
    clear e
    go_enter Tryz.func56, Tryz.ntmps56
    go_wp2
    go_ret
    exact ⟨rfl, ((Ex.refl _).alloc _).alloc _⟩

def okAt (xs : List LineD) (i : Nat) : Bool := lineV (xs.getD i noLine) && (List.range i).all fun j => !clashB (xs.getD i noLine) (xs.getD j noLine)
def cacheV (c : CacheD) : Bool := decide (1 ≤ c.lines.length ∧ c.lines.length ≤ 8 ∧ 0 ≤ c.hand ∧ c.hand < c.lines.length) && ((List.range c.lines.length).all (okAt c.lines) && c.lines.any fun x => !x.wired)

def OkUp (xs : List LineD) (k : Nat) : Prop := ∀ i x, i < k → xs[i]? = some x → lineV x = true ∧ ∀ j y, j < i → xs[j]? = some y → clashB x y = false
def looseUp (xs : List LineD) (k : Nat) : Bool := (xs.take k).any fun x => !x.wired

theorem looseUp_succ {xs : List LineD} {k : Nat} {x : LineD} (h : xs[k]? = some x) : looseUp xs (k + 1) = (looseUp xs k || !x.wired) := by
  unfold looseUp
  rw [take_succ_of h, List.any_append]
  simp

theorem getD_of {α : Type} {xs : List α} {i : Nat} {x d : α} (h : xs[i]? = some x) : xs.getD i d = x := by
  rw [List.getD_eq_getElem?_getD, h]; rfl

theorem cacheV_iff (c : CacheD) : cacheV c = true ↔ (1 ≤ c.lines.length ∧ c.lines.length ≤ 8 ∧ 0 ≤ c.hand ∧ c.hand < c.lines.length) ∧ OkUp c.lines c.lines.length ∧ looseUp c.lines c.lines.length = true := by
  unfold cacheV
  rw [Bool.and_eq_true, Bool.and_eq_true, decide_eq_true_iff]
  have h1 : ((List.range c.lines.length).all (okAt c.lines) = true) ↔ OkUp c.lines c.lines.length := by
    rw [List.all_eq_true]
    constructor
    · intro h i x hi hx
      have := h i (List.mem_range.2 hi)
      unfold okAt at this
      rw [Bool.and_eq_true, List.all_eq_true, getD_of hx] at this
      refine ⟨this.1, fun j y hj hy => ?_⟩
      have h2 := this.2 j (List.mem_range.2 hj)
      rw [getD_of hy] at h2
      simpa using h2
    · intro h i hi
      have hi' := List.mem_range.1 hi
      obtain ⟨x, hx⟩ : ∃ x, c.lines[i]? = some x := ⟨_, List.getElem?_eq_getElem hi'⟩
      have h2 := h i x hi' hx
      unfold okAt
      rw [Bool.and_eq_true, List.all_eq_true, getD_of hx]
      refine ⟨h2.1, fun j hj => ?_⟩
      have hj' := List.mem_range.1 hj
      obtain ⟨y, hy⟩ : ∃ y, c.lines[j]? = some y := ⟨_, List.getElem?_eq_getElem (by omega)⟩
      rw [getD_of hy, h2.2 j y hj' hy]
      rfl
  have h2 : (c.lines.any fun x => !x.wired) = looseUp c.lines c.lines.length := by
    unfold looseUp; rw [List.take_length]
  rw [h1, h2]

theorem okUp_succ {xs : List LineD} {k : Nat} {x : LineD} (h : OkUp xs k) (hx : xs[k]? = some x) (hv : lineV x = true) (hc : ∀ j y, j < k → xs[j]? = some y → clashB x y = false) : OkUp xs (k + 1) := by
  intro i z hi hz
  by_cases e : i = k
  · subst e
    rw [hx] at hz
    injection hz with hz
    subst hz
    exact ⟨hv, hc⟩
  · exact h i z (by omega) hz

theorem cacheV_bad_line {c : CacheD} {k : Nat} {x : LineD} (hx : c.lines[k]? = some x) (hv : lineV x = false) : cacheV c = false := by
  cases h : cacheV c
  · rfl
  · have := ((cacheV_iff c).1 h).2.1 k x (getElem?_lt hx) hx
    rw [hv] at this
    cases this.1
theorem cacheV_bad_clash {c : CacheD} {k j : Nat} {x y : LineD} (hx : c.lines[k]? = some x) (hy : c.lines[j]? = some y) (hj : j < k) (hv : clashB x y = true) : cacheV c = false := by
  cases h : cacheV c
  · rfl
  · have := (((cacheV_iff c).1 h).2.1 k x (getElem?_lt hx) hx).2 j y hj hy
    rw [hv] at this
    cases this
theorem cacheV_bad_size {c : CacheD} (h : ¬ (1 ≤ c.lines.length ∧ c.lines.length ≤ 8 ∧ 0 ≤ c.hand ∧ c.hand < c.lines.length)) : cacheV c = false := by
  cases h2 : cacheV c
  · rfl
  · exact absurd ((cacheV_iff c).1 h2).1 h
theorem cacheV_end {c : CacheD} (h1 : 1 ≤ c.lines.length ∧ c.lines.length ≤ 8 ∧ 0 ≤ c.hand ∧ c.hand < c.lines.length) (h2 : OkUp c.lines c.lines.length) : cacheV c = looseUp c.lines c.lines.length := by
  rw [Bool.eq_iff_iff, cacheV_iff]
  exact ⟨fun h => h.2.2, fun h => ⟨h1, h2, h⟩⟩

set_option maxHeartbeats 2000000 in
theorem cacheValidI_c (t : CacheD) (A : Option Addr) (c : Nat) (w : World) (hx : Rd w A t.lines) (hn : t.lines.length ≤ 1048576) (hc : t.lines.length ≤ c) :
    Calls Tryz.prog 25 #[.agg #[.slice A t.lines.length c, .int .i64 t.hand]] w fun r w' => r = .returned (.bool (cacheV t)) ∧ Ex w w' := by
  have B1 := zq (fun k x => @cacheV_bad_line t k x)
  have B2 := zq (fun k j x y => @cacheV_bad_clash t k j x y)
  have B3 := zq (@cacheV_bad_size t)
  have B4 := zq (@cacheV_end t)
  obtain ⟨xs, hand⟩ := t
  simp only at B1 B2 B3 B4 hx hn hc ⊢
  generalize cacheV ⟨xs, hand⟩ = res at *
  obtain ⟨n, hn1⟩ : ∃ n, n = xs.length := ⟨_, rfl⟩
  have HN := zq hn1
  rw [← hn1] at B3 B4 hn hc ⊢
  have HX := zq hx
  clear hn1 hx
  by_cases g1 : n < 1
  · have g1' : (n : Int) < 1 := by omega
    obtain rfl : res = false := B3.out (by omega)
    go_enter Tryz.func25, Tryz.ntmps25
    go_wp2
    go_ret
    exact ⟨rfl, (Ex.refl _).alloc _⟩
  by_cases g2 : 8 < n
  · have g2' : (8 : Int) < (n : Int) := by omega
    have g1' : ¬ (n : Int) < 1 := by omega
    obtain rfl : res = false := B3.out (by omega)
    go_enter Tryz.func25, Tryz.ntmps25
    go_wp2
    go_ret
    exact ⟨rfl, (Ex.refl _).alloc _⟩
  have g1' : ¬ (n : Int) < 1 := by omega
  have g2' : ¬ (8 : Int) < (n : Int) := by omega
  cases g3 : inB hand n
  · have g4 := inB_false.1 g3
    obtain rfl : res = false := B3.out (by omega)
    clear g4
    go_enter Tryz.func25, Tryz.ntmps25
    go_wp2_with (go_at_call 16; refine (within_c _ _ _).mono ?_; rintro r w' ⟨rfl, rfl⟩)
    go_ret
    exact ⟨rfl, (Ex.refl _).alloc _⟩
  have g4 := inB_true.1 g3
  have HS : Hid (1 ≤ n ∧ n ≤ 8 ∧ 0 ≤ hand ∧ hand < n) := zq (by omega)
  clear g4
  go_enter Tryz.func25, Tryz.ntmps25
  go_wp2_with (go_at_call 16; refine (within_c _ _ _).mono ?_; rintro r w' ⟨rfl, rfl⟩)
  have hnc : (n : Int) ≤ (c : Int) := by omega
  obtain ⟨w0, hw0⟩ : ∃ w0 : World, w0 = w.alloc (.cells #[.slice A n c, .int .i64 hand] 29) := ⟨_, rfl⟩
  obtain ⟨gb, hgb⟩ : ∃ gb : Nat, gb = w.heap.size := ⟨_, rfl⟩
  have K0 : Hid (Blk w0 gb 29 [.slice A n c, .int .i64 hand]) := zq (by rw [hw0, hgb]; exact Blk.new w _ _)
  have E0 : Hid (Ex w w0) := zq (by rw [hw0]; exact (Ex.refl w).alloc _)
  rw [← hw0, ← hgb]
  clear hw0 hgb
  go_loopw [28, 4] (fun i l wr => ∃ k : Nat, k ≤ n ∧ i = .int .i64 k ∧ l = .bool (looseUp xs k) ∧ Ex w0 wr ∧ OkUp xs k) (fun i _ _ => n - (intOf i).toNat)
  case atStart => exact ⟨0, Nat.zero_le _, rfl, by simp [looseUp], Ex.refl _, fun i x hi => by omega⟩
  case round =>
    obtain ⟨k, hk, rfl, rfl, hbel, hok⟩ := hrel
    have HB := zq hbel
    have HOK := zq hok
    clear hbel hok
    obtain ⟨q0, q1⟩ := (K0.out.ex HB.out).c2
    have lb := (K0.out.ex HB.out).lt
    by_cases hlt : k < n
    · obtain ⟨b1, o1, x, rfl, hb1, hxk, h0, h1, h2, h3, h4, h5⟩ := Rd.line ((HX.out.ex E0.out).ex HB.out) (k := k) (by have := HN.out; omega)
      have HXK := zq hxk
      clear hxk
      go_wp2_with fail
      refine (lineValid_c x _).mono ?_
      rintro r w2 ⟨rfl, hb2⟩
      have HB2 : Hid (Ex wr w2) := zq ((((Ex.refl wr).alloc _)).trans hb2)
      have KX : Hid (Blk w2 wr.heap.size 64 [.bool x.valid, .int .i64 x.tag, .int .i64 x.page, .int .i64 x.frame, .int .i64 x.rights, .bool x.wired]) := zq ((Blk.new_at _ _ _ rfl).ex hb2)
      clear hb2 h0 h1 h2 h3 h4 h5 q0 q1
      obtain ⟨q0, q1⟩ := ((K0.out.ex HB.out).ex HB2.out).c2
      have lb2 := ((K0.out.ex HB.out).ex HB2.out).lt
      cases hv : lineV x
      · obtain rfl : res = false := B1.out k x HXK.out hv
        go_wp2
        go_ret
        exact ⟨rfl, (E0.out.trans HB.out).trans HB2.out⟩
      · have HV := zq hv
        obtain ⟨gx, hgx⟩ : ∃ gx : Nat, gx = wr.heap.size := ⟨_, rfl⟩
        rw [← hgx] at KX ⊢
        clear hgx
        go_wp2_with fail
        clear hv
        have HE2 : Hid (Ex w w2) := zq ((E0.out.trans HB.out).trans HB2.out)
        have HX2 : Hid (Rd w2 (some ⟨b1, o1, none⟩) xs) := zq (HX.out.ex HE2.out)
        have KB2 : Hid (Blk w2 gb 29 [.slice (some ⟨b1, o1, none⟩) n c, .int .i64 hand]) := zq ((K0.out.ex HB.out).ex HB2.out)
        have HC : Hid (∀ (j : Nat) (y : LineD), j < 0 → xs[j]? = some y → clashB x y = false) := zq (fun j y h => by omega)
        clear q0 q1 lb2 lb
        have HW : Hid (Ex w0 w2) := zq (HB.out.trans HB2.out)
        clear HB2 HB
        go_loopw [41] (fun j wi => ∃ m : Nat, m ≤ k ∧ j = .int .i64 m ∧ Ex w2 wi ∧ ∀ (j : Nat) (y : LineD), j < m → xs[j]? = some y → clashB x y = false) (fun j _ => k - (intOf j).toNat)
        case atStart => exact ⟨0, Nat.zero_le _, rfl, Ex.refl _, HC.out⟩
        case round =>
          obtain ⟨m, hm, rfl, hbi, hcl⟩ := hrel
          have HBI := zq hbi
          have HCL := zq hcl
          clear hbi hcl
          obtain ⟨p0, p1, p2, p3, p4, p5⟩ := (KX.out.ex HBI.out).c6
          have lx := (KX.out.ex HBI.out).lt
          obtain ⟨q0, q1⟩ := (KB2.out.ex HBI.out).c2
          have lb := (KB2.out.ex HBI.out).lt
          by_cases hlm : m < k
          · obtain ⟨y, hb1', hyk, y0, y1, y2, y3, y4, y5⟩ := Rd.line_known (HX2.out.ex HBI.out) (k := m) (by have := HN.out; omega)
            have HYK := zq hyk
            clear hyk
            go_wp2_with fail
            refine (clash_c x y _).mono ?_
            rintro r w3 ⟨rfl, hb3⟩
            have HB3 : Hid (Ex wr w3) := zq ((((Ex.refl wr).alloc _)).trans hb3)
            clear hb3 y0 y1 y2 y3 y4 y5 p0 p1 p2 p3 p4 p5 q0 q1
            cases hcy : clashB x y
            · have HCY := zq hcy
              go_wp2
              go_roundw
              case rel => exact ⟨m + 1, by omega, by go_num, HBI.out.trans HB3.out, fun j z hj hz => by
                by_cases e : j = m
                · subst e
                  have := HYK.out
                  rw [this] at hz
                  injection hz with hz
                  rw [← hz]; exact HCY.out
                · exact HCL.out j z (by omega) hz⟩
              case measure => simp [intOf]; omega
            · obtain rfl : res = false := B2.out k m x y HXK.out HYK.out hlm hcy
              go_wp2
              go_ret
              exact ⟨rfl, (HE2.out.trans HBI.out).trans HB3.out⟩
          · obtain rfl : m = k := by omega
            have HOK2 : Hid (OkUp xs (m + 1)) := zq (okUp_succ HOK.out HXK.out HV.out HCL.out)
            have HLU := zq (looseUp_succ HXK.out)
            generalize looseUp xs m = lo at *
            cases lo <;> cases hw : x.wired
            all_goals
              rw [hw] at p5
              go_wp2
              go_roundw
              case rel => exact ⟨m + 1, by omega, by go_num, by rw [HLU.out, hw]; rfl, HW.out.trans HBI.out, HOK2.out⟩
              case measure => simp [intOf]; omega
    · obtain rfl : k = n := by omega
      have HR : Hid (res = looseUp xs k) := zq (B4.out (by have := HS.out; omega) HOK.out)
      go_wp2
      go_ret
      exact ⟨ret_bool HR.out.symm, E0.out.trans HB.out⟩

def keyFor (s p : Int) : KeyD := if 128 ≤ p then ⟨0, p⟩ else ⟨s, p⟩

set_option maxHeartbeats 400000 in
theorem keyForI_c (s p : Int) (w : World) : Calls Tryz.prog 30 #[.int .i64 s, .int .i64 p] w fun r w' => r = .returned (.agg #[.int .i64 (keyFor s p).space, .int .i64 (keyFor s p).page]) ∧ Ex w w' := by
  by_cases h : 128 ≤ p
  · have e : keyFor s p = ⟨0, p⟩ := if_pos h
    rw [e]
    clear e
    go_enter Tryz.func30, Tryz.ntmps30
    go_wp2
    exact bodyPost_ret (v := .agg #[.int .i64 0, .int .i64 p]) (by simp [results, Tryz.results30, go_sem]) rfl ⟨rfl, (Ex.refl _).alloc _⟩
  · have e : keyFor s p = ⟨s, p⟩ := if_neg h
    rw [e]
    clear e
    go_enter Tryz.func30, Tryz.ntmps30
    go_wp2
    exact bodyPost_ret (v := .agg #[.int .i64 s, .int .i64 p]) (by simp [results, Tryz.results30, go_sem]) rfl ⟨rfl, (Ex.refl _).alloc _⟩

set_option maxHeartbeats 400000 in
theorem keyForS_c (s p : Int) (w : World) : Calls Tryz.prog 80 #[.int .i64 s, .int .i64 p] w fun r w' => r = .returned (.agg #[.int .i64 (keyFor s p).space, .int .i64 (keyFor s p).page]) ∧ Ex w w' := by
  by_cases h : 128 ≤ p
  · have e : keyFor s p = ⟨0, p⟩ := if_pos h
    rw [e]
    clear e
    go_enter Tryz.func80, Tryz.ntmps80
    go_wp2
    exact bodyPost_ret (v := .agg #[.int .i64 0, .int .i64 p]) (by simp [results, Tryz.results80, go_sem]) rfl ⟨rfl, (Ex.refl _).alloc _⟩
  · have e : keyFor s p = ⟨s, p⟩ := if_neg h
    rw [e]
    clear e
    go_enter Tryz.func80, Tryz.ntmps80
    go_wp2
    exact bodyPost_ret (v := .agg #[.int .i64 s, .int .i64 p]) (by simp [results, Tryz.results80, go_sem]) rfl ⟨rfl, (Ex.refl _).alloc _⟩
end Go.Proofs.YtbdlpbladpppjaaGreatDoor
namespace Go.Proofs.YtbdlpbladpppjaaGreatDoor
open Go.ChangeShapes Go.WideShapes Go.ChangeAt Go.RowKit
set_option linter.unusedVariables false

theorem pigeon : ∀ (l1 l2 : List Nat), l1.Nodup → (∀ x ∈ l1, x ∈ l2) → l2.length ≤ l1.length → ∀ x ∈ l2, x ∈ l1 := by
  intro l1
  induction l1 with
  | nil =>
    intro l2 _ _ hl x hx
    have h0 : l2.length = 0 := by simpa using hl
    rw [List.length_eq_zero_iff.1 h0] at hx
    cases hx
  | cons a l ih =>
    intro l2 hn hs hl x hx
    have ha : a ∈ l2 := hs a (by simp)
    obtain ⟨hn1, hn2⟩ := List.nodup_cons.1 hn
    by_cases e : x = a
    · subst e; simp
    · refine List.mem_cons_of_mem _ (ih (l2.erase a) hn2 (fun y hy => ?_) ?_ x ?_)
      · exact (List.mem_erase_of_ne (fun e2 => hn1 (by rw [← e2]; exact hy))).2 (hs y (List.mem_cons_of_mem _ hy))
      · rw [List.length_erase_of_mem ha]
        simp at hl
        omega
      · exact (List.mem_erase_of_ne e).2 hx

/-- The numbers of the used ones among the first k frames. -/
def usedIx (fs : List FrameD) (k : Nat) : List Nat := (List.range k).filter fun i => match fs[i]? with | some f => f.used | none => false
theorem usedIx_len (fs : List FrameD) : ∀ k, k ≤ fs.length → (usedIx fs k).length = usedN fs k := by
  intro k
  induction k with
  | zero => intro _; rfl
  | succ k ih =>
    intro hk
    obtain ⟨f, hf⟩ : ∃ f, fs[k]? = some f := ⟨_, List.getElem?_eq_getElem (by omega)⟩
    have h1 := ih (by omega)
    unfold usedIx at h1 ⊢
    rw [List.range_succ, List.filter_append, List.length_append, h1, usedN_succ hf]
    cases hu : f.used <;> simp [hf, hu]
theorem mem_usedIx {fs : List FrameD} {k i : Nat} : i ∈ usedIx fs k ↔ i < k ∧ ∃ f, fs[i]? = some f ∧ f.used = true := by
  unfold usedIx
  rw [List.mem_filter, List.mem_range]
  refine and_congr_right fun _ => ?_
  cases h : fs[i]? <;> simp

theorem Buckets.at_ {t : TableD} {k : Nat} {ls : List (List Nat)} (h : Buckets t k ls) (hk : k ≤ t.buckets.length) {b : Nat} {l : List Nat} (hl : ls[b]? = some l) : ∃ a, b < k ∧ t.buckets[b]? = some a ∧ Chain t.frames a l ∧ ∀ (i : Nat) (f : FrameD), i ∈ l → t.frames[i]? = some f → hashK f.key t.buckets.length = b := by
  have hb : b < k := by have := (List.getElem?_eq_some_iff.1 hl).1; rw [h.1] at this; exact this
  obtain ⟨a, ha⟩ : ∃ a, t.buckets[b]? = some a := ⟨_, List.getElem?_eq_getElem (by omega)⟩
  obtain ⟨h1, h2⟩ := h.2 b a l hb ha hl
  exact ⟨a, hb, ha, h1, h2⟩
theorem Buckets.nodup {t : TableD} {ls : List (List Nat)} (h : Buckets t t.buckets.length ls) : ls.flatten.Nodup := by
  unfold List.Nodup
  rw [List.pairwise_flatten]
  constructor
  · intro l hl
    obtain ⟨b, hb, e⟩ := List.getElem_of_mem hl
    obtain ⟨a, _, _, hc, _⟩ := h.at_ (Nat.le_refl _) (b := b) (l := l) (by rw [List.getElem?_eq_getElem hb, e])
    exact hc.nodup
  · rw [List.pairwise_iff_getElem]
    intro i j hi hj hij x hx y hy e
    subst e
    obtain ⟨a, _, _, hc, hh⟩ := h.at_ (Nat.le_refl _) (b := i) (List.getElem?_eq_getElem hi)
    obtain ⟨a', _, _, hc', hh'⟩ := h.at_ (Nat.le_refl _) (b := j) (List.getElem?_eq_getElem hj)
    obtain ⟨f, hf, _⟩ := hc.in_ hx
    have h1 := hh x f hx hf
    have h2 := hh' x f hy hf
    omega
/-- Every used frame of a valid table lies in a chain. -/
theorem TableOk.met {t : TableD} (h : TableOk t) {i : Nat} {f : FrameD} (hf : t.frames[i]? = some f) (hu : f.used = true) : ∃ (b : Nat) (a : Int) (l : List Nat), t.buckets[b]? = some a ∧ Chain t.frames a l ∧ i ∈ l ∧ hashK f.key t.buckets.length = b := by
  obtain ⟨_, _, ls, hb, hs⟩ := h
  have h1 : i ∈ ls.flatten := by
    refine pigeon ls.flatten (usedIx t.frames t.frames.length) hb.nodup (fun x hx => ?_) ?_ i (mem_usedIx.2 ⟨getElem?_lt hf, f, hf, hu⟩)
    · obtain ⟨l, hl, hx⟩ := List.mem_flatten.1 hx
      obtain ⟨b, hb', e⟩ := List.getElem_of_mem hl
      obtain ⟨a, _, _, hc, _⟩ := hb.at_ (Nat.le_refl _) (b := b) (l := l) (by rw [List.getElem?_eq_getElem hb', e])
      obtain ⟨g, hg, hgu⟩ := hc.in_ hx
      exact mem_usedIx.2 ⟨getElem?_lt hg, g, hg, hgu⟩
    · rw [usedIx_len _ _ (Nat.le_refl _), List.length_flatten, ← hs]
      exact Nat.le_refl _
  obtain ⟨l, hl, hi⟩ := List.mem_flatten.1 h1
  obtain ⟨b, hb', e⟩ := List.getElem_of_mem hl
  obtain ⟨a, _, ha, hc, hh⟩ := hb.at_ (Nat.le_refl _) (b := b) (l := l) (by rw [List.getElem?_eq_getElem hb', e])
  exact ⟨b, a, l, ha, hc, hi, hh i f hi hf⟩

def fitsKey (k : KeyD) (f : FrameD) : Bool := f.used && eqB f.key k
/-- The frame of a key, or -1. -/
def findF (t : TableD) (k : KeyD) : Int := firstOf (fitsKey k) t.frames
theorem findF_hit {t : TableD} {k : KeyD} (h : TableOk t) {x : Nat} {f : FrameD} (hx : t.frames[x]? = some f) (hu : f.used = true) (hk : f.key = k) : findF t k = x := by
  refine firstOf_at hx (by unfold fitsKey; rw [hu, hk, eqB_self]; rfl) fun j g hj hg => ?_
  unfold fitsKey
  cases hgu : g.used
  · rfl
  · have h1 := (h.2.1 x f (getElem?_lt hx) hx).2 j g hj hg hu hgu
    rw [hk] at h1
    rw [eqB_false.2 h1]
    rfl
theorem findF_miss {t : TableD} {k : KeyD} (h : TableOk t) {b : Nat} {a : Int} {l : List Nat} (hb : hashK k t.buckets.length = b) (ha : t.buckets[b]? = some a) (hl : Chain t.frames a l) (hno : ∀ (x : Nat) (f : FrameD), x ∈ l → t.frames[x]? = some f → f.key ≠ k) : findF t k = -1 := by
  refine firstOf_none fun j g hj hg => ?_
  unfold fitsKey
  cases hgu : g.used
  · rfl
  · by_cases e : g.key = k
    · obtain ⟨b', a', l', ha', hc', hi', hh'⟩ := h.met hg hgu
      rw [e, hb] at hh'
      have e2 : b' = b := by omega
      subst e2
      rw [ha] at ha'
      injection ha' with ha'
      subst ha'
      rw [hc'.one hl] at hi'
      exact absurd e (hno j g hi' hg)
    · rw [eqB_false.2 e]
      rfl
theorem findF_range {t : TableD} (k : KeyD) : findF t k = -1 ∨ ∃ (x : Nat) (f : FrameD), findF t k = (x : Int) ∧ t.frames[x]? = some f := by
  rcases firstOf_cases (fitsKey k) t.frames with ⟨h, _⟩ | ⟨x, f, h, hf, _⟩
  · exact .inl h
  · exact .inr ⟨x, f, h, hf⟩

/-! ### machines -/
def lineSpace (m : MachD) (x : LineD) : Int := if x.tag = -1 then 0 else (spaceOf m.tags x.tag).1
def lineAt (m : MachD) (x : LineD) : Int := findF m.table (keyFor (lineSpace m x) x.page)
/-- What a valid line must say in a valid machine. -/
def LineFits (m : MachD) (x : LineD) : Prop := (x.tag = -1 ↔ 128 ≤ x.page) ∧ (x.tag ≠ -1 → (spaceOf m.tags x.tag).2 = true) ∧ (∃ (i : Nat) (f : FrameD), lineAt m x = (i : Int) ∧ (i : Int) = x.frame ∧ m.table.frames[i]? = some f ∧ f.rights = x.rights) ∧ (x.wired = true → x.tag = -1)
def FrameFits (f : FrameD) : Prop := ¬ (f.used = true ∧ 128 ≤ f.key.page ∧ f.key.space ≠ 0)
def MachHead (m : MachD) : Prop := TableOk m.table ∧ cacheV m.cache = true ∧ tagsV m.tags = true ∧ 0 ≤ ownPlace m.tags.owns m.space
def MachOk (m : MachD) : Prop := MachHead m ∧ (∀ (i : Nat) (f : FrameD), m.table.frames[i]? = some f → FrameFits f) ∧ ∀ (i : Nat) (x : LineD), m.cache.lines[i]? = some x → x.valid = true → LineFits m x
open Classical in
noncomputable def machV (m : MachD) : Bool := decide (MachOk m)
theorem machV_iff {m : MachD} : machV m = true ↔ MachOk m := by unfold machV; exact @decide_eq_true_iff _ (Classical.propDecidable _)
theorem machV_no {m : MachD} (h : ¬ MachOk m) : machV m = false := by
  cases e : machV m
  · rfl
  · exact absurd (machV_iff.1 e) h
theorem machV_yes {m : MachD} (h : MachOk m) : machV m = true := machV_iff.2 h
open Classical in
noncomputable def lineFitsB (m : MachD) (x : LineD) : Bool := decide (LineFits m x)
theorem lineFitsB_iff {m : MachD} {x : LineD} : lineFitsB m x = true ↔ LineFits m x := by unfold lineFitsB; exact @decide_eq_true_iff _ (Classical.propDecidable _)
theorem lineFitsB_no {m : MachD} {x : LineD} (h : ¬ LineFits m x) : lineFitsB m x = false := by
  cases e : lineFitsB m x
  · rfl
  · exact absurd (lineFitsB_iff.1 e) h

theorem keyFor_ok {s p : Int} (hs : 0 ≤ s ∧ s < 16) (hp : 0 ≤ p ∧ p < 256) : keyOk (keyFor s p) := by
  unfold keyFor keyOk
  split <;> (constructor <;> (constructor <;> (dsimp only; omega)))
theorem spaceOf_range {t : TagsD} (g : Int) (h : tagsV t = true) : 0 ≤ (spaceOf t g).1 ∧ (spaceOf t g).1 < 16 := by
  rcases spaceOf_or t g with ⟨e, _⟩ | ⟨k, x, hv, hx, _, e⟩
  · rw [e]; dsimp only; omega
  · rw [e]
    have := (((tagsV_iff t).1 h).2 k x (getElem?_lt hx) hx).1
    dsimp only
    omega
theorem line_page {t : CacheD} (h : cacheV t = true) {i : Nat} {x : LineD} (hx : t.lines[i]? = some x) (hv : x.valid = true) : 0 ≤ x.page ∧ x.page < 256 := by
  have h1 := (((cacheV_iff t).1 h).2.1 i x (getElem?_lt hx) hx).1
  unfold lineV at h1
  rw [hv] at h1
  simp only [if_true, Bool.and_eq_true] at h1
  exact inB_true.1 h1.2.1

/-! ### memories -/
def MemOk (m : MemD) : Prop := MachOk m.mach ∧ m.marks.length = m.mach.table.frames.length ∧ (0 ≤ m.hand ∧ m.hand < m.marks.length) ∧ ∀ (i : Nat) (f : FrameD), m.marks[i]? = some true → m.mach.table.frames[i]? = some f → f.used = true
open Classical in
noncomputable def memV (m : MemD) : Bool := decide (MemOk m)
theorem memV_iff {m : MemD} : memV m = true ↔ MemOk m := by unfold memV; exact @decide_eq_true_iff _ (Classical.propDecidable _)
theorem memV_no {m : MemD} (h : ¬ MemOk m) : memV m = false := by
  cases e : memV m
  · rfl
  · exact absurd (memV_iff.1 e) h
/-- The first frame that is not used, or -1. -/
def freeF_ (t : TableD) : Int := firstOf (fun f => !f.used) t.frames
noncomputable def freeOf (m : MemD) : Int × Bool := if memV m = true ∧ 0 ≤ freeF_ m.mach.table then (freeF_ m.mach.table, true) else (0, false)
end Go.Proofs.YtbdlpbladpppjaaGreatDoor
namespace Go.Proofs.YtbdlpbladpppjaaGreatDoor
open Go.ChangeShapes Go.WideShapes Go.ChangeAt Go.RowKit
open Rec (sz cs)
set_option linter.unusedVariables false
set_option maxRecDepth 100000

theorem infoMInt : (Tryz.prog.info? 3).map (fun i => (i.zero, i.size, i.bytes)) = some (some (.int .i64 0), 1, 8) := by kernel_rfl



theorem infoMFrame : (Tryz.prog.info? 45).map (fun i => (i.zero, i.size, i.bytes)) = some (some (.agg #[.bool false, .int .i64 0, .int .i64 0, .int .i64 0, .int .i64 0]), 5, 40) := by kernel_rfl

theorem fieldsFrame : Tryz.prog.underlying 45 = some (.struct (Tryz.prog.fieldsOf 45)) := by kernel_rfl
theorem heldFrame_ : Tryz.prog.stoodInHeld 45 = false := by kernel_rfl
theorem guardFrame : Tryz.prog.eqGuardType Tryz.prog.depth 45 = false := by kernel_rfl
theorem eqIn_frame (x y : FrameD) (w : World) : (Op.equalIn 10000 45 (.agg #[.bool x.used, .int .i64 x.key.space, .int .i64 x.key.page, .int .i64 x.rights, .int .i64 x.next]) (.agg #[.bool y.used, .int .i64 y.key.space, .int .i64 y.key.page, .int .i64 y.rights, .int .i64 y.next])).run Tryz.prog w = .ok (eqB x y) w := by
  obtain ⟨a1, ⟨b1, c1⟩, d1, e1⟩ := x
  obtain ⟨a2, ⟨b2, c2⟩, d2, e2⟩ := y
  rw [run_equalIn_agg w 9999 _ _ _ fieldsFrame heldFrame_]
  simp [go_sem, Tryz.underlying45, Tryz.underlying43]
  by_cases k0 : a1 = a2 <;> by_cases k1 : b1 = b2 <;> by_cases k2 : c1 = c2 <;> by_cases k3 : d1 = d2 <;> by_cases k4 : e1 = e2 <;> simp [eqB, *]
theorem neq_frame (x y : FrameD) (w : World) : (binOp .neq 45 (.agg #[.bool x.used, .int .i64 x.key.space, .int .i64 x.key.page, .int .i64 x.rights, .int .i64 x.next]) (.agg #[.bool y.used, .int .i64 y.key.space, .int .i64 y.key.page, .int .i64 y.rights, .int .i64 y.next])).run Tryz.prog w = .ok (.bool (!eqB x y)) w := by
  rw [run_neq_struct, eqIn_frame]; rfl
theorem eql_frame (x y : FrameD) (w : World) : (binOp .eql 45 (.agg #[.bool x.used, .int .i64 x.key.space, .int .i64 x.key.page, .int .i64 x.rights, .int .i64 x.next]) (.agg #[.bool y.used, .int .i64 y.key.space, .int .i64 y.key.page, .int .i64 y.rights, .int .i64 y.next])).run Tryz.prog w = .ok (.bool (eqB x y)) w := by
  rw [run_eql_struct, eqIn_frame]; rfl

end Go.Proofs.YtbdlpbladpppjaaGreatDoor
namespace Go.Proofs.YtbdlpbladpppjaaGreatDoor
open Go.ChangeShapes Go.WideShapes Go.ChangeAt Go.RowKit
open Rec (sz cs)

section
variable {α : Type} [Rec α]

theorem addr_lit (b off j : Nat) : (⟨b, off, none⟩ : Addr).add j = ⟨b, off + j, none⟩ := by
  unfold Addr.add; split <;> simp_all

theorem Rd.news {w : World} {b off : Nat} {xs : List α} (h : Rd w (some ⟨b, off, none⟩) xs) : ∀ j u, (flat xs)[j]? = some u → w.cell? ((⟨b, off, none⟩ : Addr).add j) = some u := by
  intro j u hu
  have hlt := getElem?_lt hu
  rw [flat_length] at hlt
  obtain ⟨b', o', e, hb, hcs⟩ := h (by rcases xs with _ | ⟨x, l⟩ <;> simp at hlt ⊢)
  injection e with e
  injection e with e1 e2
  subst e1 e2
  rw [addr_lit]
  exact hcs j u hu

/-- What an append leaves. -/
structure Apd (E : TypeId) (w : World) (B : Nat) (A : Option Addr) (c : Nat) (zs : List α) (A' : Option Addr) (c' : Nat) (w' : World) : Prop where
  fr : Fr E w' B A' c' zs
  grown : w.grownBy w' (rowOf A c)
  row : rowOf A' c' = rowOf A c ∨ rowOf A' c' = some w.heap.size

/-- THE LAW. -/
theorem run_append_fr {P : Program} (w : World) (t ty E : TypeId) (i : TypeInfo) (z : Value) (bytes B : Nat) (ht : P.underlying t = some (.slice E)) (hi : P.info? E = some i) (hz : i.zero = some z)
    (hsize : i.size = sz α) (hby : i.bytes = bytes) (hzs : z.cells.size = sz α)
    (A : Option Addr) (c : Nat) (xs : List α) (hf : Fr E w B A c xs) (S : Option Addr) (c2 : Nat) (ys : List α) (hy : Rd w S ys)
    (h63 : xs.length + ys.length ≤ maxLen) (hbytes : (xs.length + ys.length) * bytes ≤ 140737488355328) (hbase : B ≤ w.heap.size) :
    ∃ A' c' w', (Builtin.append_ #[t, t] ty #[.slice A xs.length c, .slice S ys.length c2]).run P w = .ok (.slice A' (xs.length + ys.length) c') w' ∧ Apd E w B A c (xs ++ ys) A' c' w' := by
  by_cases hm : ys.length = 0
  · obtain rfl : ys = [] := List.eq_nil_of_length_eq_zero hm
    have hle := hf.le
    refine ⟨A, c, w, ?_, ⟨by simpa using hf, grown_refl _ _, .inl rfl⟩⟩
    cases A <;> cases S <;> simp [Builtin.append_, run_underlying ht, sizeOf, typeInfo, hi, Builtin.lenOf, Builtin.firstCells, loadCells, loadCellsFrom, hle, storeCells]
  obtain ⟨b, off, rfl, -, -⟩ := hy (by omega)
  have hnews := hy.news
  have hl : (flat ys).length = ys.length * i.size := by rw [flat_length, hsize]
  have h63' : xs.length + ys.length ≤ 9223372036854775807 := by simp only [maxLen] at h63; omega
  have hpos : 0 < sz α := Rec.pos
  have fresh : ∀ old, Fr E (w.drew.alloc (.cells ((flat xs).toArray ++ (flat ys).toArray ++ Builtin.zeroCells z.cells (grownCap w (xs.length + ys.length) old E - (xs.length + ys.length))) E)) B (some ⟨w.heap.size, 0, none⟩) (grownCap w (xs.length + ys.length) old E) (xs ++ ys) := by
    intro old
    have hge := grownCap_ge w (xs.length + ys.length) old E
    refine ⟨by rw [List.length_append]; exact hge, grownCap_le_maxLen w _ old E h63, .inr ⟨w.heap.size, (Builtin.zeroCells z.cells (grownCap w (xs.length + ys.length) old E - (xs.length + ys.length))).toList, rfl, hbase, ?_, ?_⟩⟩
    · unfold Bk Blk
      rw [show w.heap.size = w.drew.heap.size from rfl, heap_alloc_new]
      congr 2
      apply Array.ext'
      simp [flat_append]
    · simp only [Array.length_toList, size_zeroCells, hzs, List.length_append]
      exact Nat.le_refl _
  have gr : ∀ (cells : Array Value) (row : Option Nat), w.grownBy (w.drew.alloc (.cells cells E)) row := fun cells row => ⟨rfl, rfl, rfl, by simp, fun k hk _ => Below.heap_alloc w.drew _ k hk⟩
  by_cases hroom : xs.length + ys.length ≤ c
  · obtain ⟨hle, hcm, h0 | ⟨g, rest, rfl, hB, hb, hr⟩⟩ := hf
    · omega
    have hfit : xs.length * i.size + (flat ys).length ≤ (flat xs ++ rest).toArray.size := by
      rw [hl, hsize]
      simp only [List.size_toArray, List.length_append, flat_length]
      have : ys.length * sz α ≤ (c - xs.length) * sz α := Nat.mul_le_mul_right _ (by omega)
      omega
    have hrun := run_append_room (P := P) w t ty E i ht hi g xs.length c (flat xs ++ rest).toArray hb ⟨b, off, none⟩ ys.length c2 (flat ys) hl hnews (flat_one ys) hroom hfit
    refine ⟨_, _, _, hrun, ⟨⟨by rw [List.length_append]; exact hroom, hcm, .inr ⟨g, rest.drop (ys.length * sz α), rfl, hB, ?_, ?_⟩⟩, ⟨rfl, rfl, rfl, by simp, fun k _ hk => setRow_other w g k _ (fun e => hk (by rw [e, rowOf_some (by omega)]))⟩, .inl rfl⟩⟩
    · unfold Bk Blk
      rw [setRow_heap w g _ _ E _ hb]
      congr 2
      apply Array.ext'
      have e1 : xs.length * i.size = (flat xs).length := by rw [flat_length, hsize]
      simp only [e1, flat_append, List.append_assoc]
      rw [List.take_left, hl, hsize, flat_length]
      congr 2
      rw [← flat_length, List.drop_append, List.drop_of_length_le (by omega)]
      simp [flat_length]
    · rw [List.length_drop, List.length_append]
      have : (c - (xs.length + ys.length)) * sz α = (c - xs.length) * sz α - ys.length * sz α := by rw [← Nat.sub_mul]; congr 1; omega
      omega
  · cases A with
    | none =>
      have hx0 : xs = [] := by
        obtain ⟨hle, hcm, h0 | ⟨g, rest, e, _⟩⟩ := hf
        · exact List.eq_nil_of_length_eq_zero (by omega)
        · cases e
      have hc0 : c = 0 := by
        obtain ⟨hle, hcm, h0 | ⟨g, rest, e, _⟩⟩ := hf
        · exact h0
        · cases e
      subst hx0 hc0
      have hrun := run_append_nil (P := P) w t ty E i z ht hi hz ⟨b, off, none⟩ ys.length c2 (flat ys) hl hnews (by omega) (by simp at h63'; omega) (by rw [hby]; simp at hbytes; omega)
      have hfr := fresh 0
      simp only [List.length_nil, Nat.zero_add, flat_nil, List.nil_append] at hfr hrun ⊢
      refine ⟨_, _, _, hrun, ⟨by simpa using hfr, gr _ _, .inr (rowOf_some ?_)⟩⟩
      have := grownCap_ge w ys.length 0 E
      omega
    | some ad =>
      have hov : ∀ j u, (flat xs)[j]? = some u → w.cell? (ad.add j) = some u := by
        intro j u hu
        have hlt := getElem?_lt hu
        rw [flat_length] at hlt
        obtain ⟨b', o', e, -, -⟩ := hf.rd (by rcases xs with _ | ⟨x, l⟩ <;> simp at hlt ⊢)
        injection e with e
        subst e
        exact hf.rd.news j u hu
      have hrun := run_append_grow (P := P) w t ty E i z ht hi hz ad xs.length c (flat xs) (by rw [flat_length, hsize]) hov ⟨b, off, none⟩ ys.length c2 (flat ys) hl hnews (by omega) (by omega) (by rw [hby]; exact growslice_fits (by omega) hbytes)
      refine ⟨_, _, _, hrun, ⟨fresh c, gr _ _, .inr (rowOf_some ?_)⟩⟩
      have := grownCap_ge w (xs.length + ys.length) c E
      omega

/-- At the operation. -/
theorem wp_append_fr {P : Program} (w : World) {o : Oper} {a : Act} {K : Act → World → Prop} {Q : Exit → Act → World → Prop} (s x : Operand) (t : TypeId)
    (ho : o.op = .call { callee := .builtin .append, args := #[s, x], argTypes := #[t, t] })
    (E : TypeId) (i : TypeInfo) (z : Value) (bytes B : Nat) (ht : P.underlying t = some (.slice E)) (hi : P.info? E = some i) (hz : i.zero = some z)
    (hsize : i.size = sz α) (hby : i.bytes = bytes) (hzs : z.cells.size = sz α)
    (A : Option Addr) (c n : Nat) (xs : List α) (hn : n = xs.length) (hs : a.eval s = .slice A n c) (hf : Fr E w B A c xs) (S : Option Addr) (c2 m : Nat) (ys : List α) (hm : m = ys.length) (hx : a.eval x = .slice S m c2) (hy : Rd w S ys)
    (h63 : n + m ≤ maxLen) (hbytes : (n + m) * bytes ≤ 140737488355328) (hbase : B ≤ w.heap.size)
    (h : ∀ A' c' w', Apd E w B A c (xs ++ ys) A' c' w' → K (a.put o.dst (.slice A' (n + m) c')) w') : o.wp P a w K Q := by
  subst hn hm
  obtain ⟨A', c', w', hr, h2⟩ := run_append_fr (P := P) w t o.type E i z bytes B ht hi hz hsize hby hzs A c xs hf S c2 ys hy h63 hbytes hbase
  unfold Oper.wp execOp
  simp only [ho, resolve, invoke, builtin, Sem.run_bind, Sem.run_pure, Result.andThen_ok, List.map_toArray, List.map_cons, List.map_nil, hs, hx, hr]
  exact h A' c' w' h2

theorem wpList_append_fr {P : Program} {w : World} {ops : Array Oper} {rest : List Oper} {o : Oper} {a : Act} {Q : Exit → Act → World → Prop} (hgd : o.guard = none) (s x : Operand) (t : TypeId)
    (ho : o.op = .call { callee := .builtin .append, args := #[s, x], argTypes := #[t, t] })
    (E : TypeId) (i : TypeInfo) (z : Value) (bytes B : Nat) (ht : P.underlying t = some (.slice E)) (hi : P.info? E = some i) (hz : i.zero = some z)
    (hsize : i.size = sz α) (hby : i.bytes = bytes) (hzs : z.cells.size = sz α)
    (A : Option Addr) (c n : Nat) (xs : List α) (hn : n = xs.length) (hs : a.eval s = .slice A n c) (hf : Fr E w B A c xs) (S : Option Addr) (c2 m : Nat) (ys : List α) (hm : m = ys.length) (hx : a.eval x = .slice S m c2) (hy : Rd w S ys)
    (h63 : n + m ≤ maxLen) (hbytes : (n + m) * bytes ≤ 140737488355328) (hbase : B ≤ w.heap.size)
    (h : ∀ A' c' w', Apd E w B A c (xs ++ ys) A' c' w' → wpList P ops Q rest (a.put o.dst (.slice A' (n + m) c')) w') : wpList P ops Q (o :: rest) a w :=
  wpList_plain hgd fun _ hK => wp_append_fr w s x t ho E i z bytes B ht hi hz hsize hby hzs A c n xs hn hs hf S c2 m ys hm hx hy h63 hbytes hbase fun A' c' w' h2 => hK _ _ (h A' c' w' h2)

theorem step_append_fr {P : Program} {w : World} {ops : Array Oper} {o : Oper} {a : Act} {K : Act → World → Prop} {Q : Exit → Act → World → Prop} {X : Prop} (hgd : o.guard = none) (s x : Operand) (t : TypeId)
    (ho : o.op = .call { callee := .builtin .append, args := #[s, x], argTypes := #[t, t] })
    (E : TypeId) (i : TypeInfo) (z : Value) (bytes B : Nat) (ht : P.underlying t = some (.slice E)) (hi : P.info? E = some i) (hz : i.zero = some z)
    (hsize : i.size = sz α) (hby : i.bytes = bytes) (hzs : z.cells.size = sz α)
    (A : Option Addr) (c n : Nat) (xs : List α) (hn : n = xs.length) (hs : a.eval s = .slice A n c) (hf : Fr E w B A c xs) (S : Option Addr) (c2 m : Nat) (ys : List α) (hm : m = ys.length) (hx : a.eval x = .slice S m c2) (hy : Rd w S ys)
    (h63 : n + m ≤ maxLen) (hbytes : (n + m) * bytes ≤ 140737488355328) (hbase : B ≤ w.heap.size)
    (h : ∀ A' c' w', Apd E w B A c (xs ++ ys) A' c' w' → K (a.put o.dst (.slice A' (n + m) c')) w') :
    if Region.wanted o (yielded ops a.tmps) = true then Oper.wp P o a w K Q else X := by
  have hw : Region.wanted o (yielded ops a.tmps) = true := by simp [Region.wanted, hgd]
  rw [if_pos hw]
  exact wp_append_fr w s x t ho E i z bytes B ht hi hz hsize hby hzs A c n xs hn hs hf S c2 m ys hm hx hy h63 hbytes hbase h
end
end Go.Proofs.YtbdlpbladpppjaaGreatDoor
namespace Go.Proofs.YtbdlpbladpppjaaGreatDoor
open Go.ChangeShapes Go.WideShapes Go.ChangeAt Go.RowKit
open Rec (sz cs)
set_option linter.unusedVariables false
set_option maxRecDepth 100000



def freeF : FrameD := ⟨false, ⟨0, 0⟩, 0, -1⟩
def noTable : TableD := ⟨[], []⟩
def newTable (f b : Int) : TableD × Bool := if (1 ≤ f ∧ f ≤ 16) ∧ (1 ≤ b ∧ b ≤ 16) then (⟨List.replicate b.toNat (-1), List.replicate f.toNat freeF⟩, true) else (noTable, false)
/-- The program's variable of an unused frame reads as its text lays it. -/
structure FreeV (w : World) : Prop where
  lt : 0 < w.heap.size
  c0 : w.cell? ⟨0, 0, none⟩ = some (.bool false)
  c1 : w.cell? ⟨0, 1, none⟩ = some (.int .i64 0)
  c2 : w.cell? ⟨0, 2, none⟩ = some (.int .i64 0)
  c3 : w.cell? ⟨0, 3, none⟩ = some (.int .i64 0)
  c4 : w.cell? ⟨0, 4, none⟩ = some (.int .i64 (-1))
theorem FreeV.ex {w w' : World} (h : FreeV w) (k : Ex w w') : FreeV w' :=
  ⟨Nat.lt_of_lt_of_le h.lt k.size, (k.cell h.lt).trans h.c0, (k.cell h.lt).trans h.c1, (k.cell h.lt).trans h.c2, (k.cell h.lt).trans h.c3, (k.cell h.lt).trans h.c4⟩

def bkB (n : Int) : Bool := decide (1 ≤ n ∧ n ≤ 16)
theorem bkB_iff {n : Int} : bkB n = true ↔ 1 ≤ n ∧ n ≤ 16 := by simp [bkB]
theorem bkB_not {n : Int} : bkB n = false ↔ ¬ (1 ≤ n ∧ n ≤ 16) := by simp [bkB]
set_option maxHeartbeats 400000 in
theorem bucketsValid_c (n : Int) (w : World) : Calls Tryz.prog 51 #[.int .i64 n] w fun r w' => r = .returned (.bool (bkB n)) ∧ w = w' := by
  by_cases h0 : 1 ≤ n
  · go_enter Tryz.func51, Tryz.ntmps51
    go_wp2
    go_ret
    exact ⟨ret_bool (by rw [Bool.eq_iff_iff, bkB_iff]; simp [h0]), rfl⟩
  · go_enter Tryz.func51, Tryz.ntmps51
    go_wp2
    go_ret
    exact ⟨ret_bool (by rw [Bool.eq_iff_iff, bkB_iff]; simp; omega), rfl⟩
set_option maxHeartbeats 400000 in
theorem l2Buckets_c (n : Int) (w : World) : Calls Tryz.prog 72 #[.int .i64 n] w fun r w' => r = .returned (.bool (bkB n)) ∧ w = w' := by
  by_cases h0 : 1 ≤ n
  · go_enter Tryz.func72, Tryz.ntmps72
    go_wp2
    go_ret
    exact ⟨ret_bool (by rw [Bool.eq_iff_iff, bkB_iff]; simp [h0]), rfl⟩
  · go_enter Tryz.func72, Tryz.ntmps72
    go_wp2
    go_ret
    exact ⟨ret_bool (by rw [Bool.eq_iff_iff, bkB_iff]; simp; omega), rfl⟩

set_option maxHeartbeats 4000000 in
theorem newTableS_c (f b : Int) (w : World) : Calls Tryz.prog 85 #[.int .i64 f, .int .i64 b] w
    fun r w' => ∃ A c B d, r = .returned (.tuple #[.agg #[.slice A (newTable f b).1.buckets.length c, .slice B (newTable f b).1.frames.length d], .bool (newTable f b).2]) ∧ Fr 3 w' w.heap.size A c (newTable f b).1.buckets ∧ Fr 45 w' w.heap.size B d (newTable f b).1.frames ∧ Ex w w' := by
  by_cases hbad : (1 ≤ f ∧ f ≤ 16) ∧ (1 ≤ b ∧ b ≤ 16)
  rotate_left
  · have e : newTable f b = (noTable, false) := if_neg hbad
    rw [e]
    clear e
    have fin : ∀ w' : World, Ex w w' → ∃ A c B d, (Ending.returned (.tuple #[.agg #[.slice none 0 0, .slice none 0 0], .bool false])) = .returned (.tuple #[.agg #[.slice A noTable.buckets.length c, .slice B noTable.frames.length d], .bool false]) ∧ Fr 3 w' w.heap.size A c noTable.buckets ∧ Fr 45 w' w.heap.size B d noTable.frames ∧ Ex w w' := fun w' h => ⟨none, 0, none, 0, rfl, Fr.none_ _ _ _ _, Fr.none_ _ _ _ _, h⟩
    have FIN := zq fin
    clear fin
    by_cases h1 : f < 1
    · go_enter Tryz.func85, Tryz.ntmps85
      go_wp2
      exact bodyPost_ret (v := .tuple #[.agg #[.slice none 0 0, .slice none 0 0], .bool false]) (by simp [results, Tryz.results85, go_sem]) rfl (FIN.out _ (by with_reducible repeat' (first | exact Ex.refl _ | refine Ex.alloc ?_ _ | refine Ex.drew ?_ | refine Ex.put ?_ (by omega) _)))
    by_cases h2 : 16 < f
    · go_enter Tryz.func85, Tryz.ntmps85
      go_wp2
      exact bodyPost_ret (v := .tuple #[.agg #[.slice none 0 0, .slice none 0 0], .bool false]) (by simp [results, Tryz.results85, go_sem]) rfl (FIN.out _ (by with_reducible repeat' (first | exact Ex.refl _ | refine Ex.alloc ?_ _ | refine Ex.drew ?_ | refine Ex.put ?_ (by omega) _)))
    have h3 : bkB b = false := bkB_not.2 (by omega)
    have CB := zq (fun w => l2Buckets_c b w)
    rw [h3] at CB
    have h1' : 1 ≤ f := by omega
    have h2' : f ≤ 16 := by omega
    clear h3 hbad
    go_enter Tryz.func85, Tryz.ntmps85
    go_wp2_with fail
    refine (CB.out _).mono ?_
    rintro r w1 ⟨rfl, rfl⟩
    go_wp2
    exact bodyPost_ret (v := .tuple #[.agg #[.slice none 0 0, .slice none 0 0], .bool false]) (by simp [results, Tryz.results85, go_sem]) rfl (FIN.out _ (by with_reducible repeat' (first | exact Ex.refl _ | refine Ex.alloc ?_ _ | refine Ex.drew ?_ | refine Ex.put ?_ (by omega) _)))
  have e : newTable f b = (⟨List.replicate b.toNat (-1), List.replicate f.toNat freeF⟩, true) := if_pos hbad
  rw [e]
  clear e
  obtain ⟨n, rfl⟩ := Int.eq_ofNat_of_zero_le (show 0 ≤ f by omega)
  obtain ⟨m, rfl⟩ := Int.eq_ofNat_of_zero_le (show 0 ≤ b by omega)
  have hn1 : 1 ≤ n := by omega
  have hn2 : n ≤ 16 := by omega
  have hm1 : 1 ≤ m := by omega
  have hm2 : m ≤ 16 := by omega
  simp only [Int.toNat_natCast]
  have hb3 : bkB (m : Int) = true := bkB_iff.2 (by omega)
  have CB := zq (fun w => l2Buckets_c (m : Int) w)
  rw [hb3] at CB
  clear hb3 hbad
  obtain ⟨i0, hi, hz0, hz1, hz2⟩ := info_parts infoMInt
  obtain ⟨j0, hj, hy0, hy1, hy2⟩ := info_parts infoMFrame
  have HLB : Hid ((List.replicate m (-1 : Int)).length = m) := zq List.length_replicate
  have HLF : Hid ((List.replicate n freeF).length = n) := zq List.length_replicate
  go_enter Tryz.func85, Tryz.ntmps85
  go_wp2_with fail
  refine (CB.out _).mono ?_
  rintro r w1 ⟨rfl, rfl⟩
  go_wp2
  obtain ⟨w0, hw0⟩ : ∃ w0 : World, w0 = (w.alloc (.cells #[.slice none 0 0, .slice none 0 0] 26)).alloc (.cells #[.slice none 0 0, .slice none 0 0] 26) := ⟨_, rfl⟩
  obtain ⟨gR, hgR⟩ : ∃ g : Nat, g = w.heap.size := ⟨_, rfl⟩
  obtain ⟨gO, hgO⟩ : ∃ g : Nat, g = w.heap.size + 1 := ⟨_, rfl⟩
  have KR0 : Hid (Blk w0 gR 26 [.slice none 0 0, .slice none 0 0]) := zq (by rw [hw0, hgR]; exact (Blk.new w _ _).alloc _)
  have KO0 : Hid (Blk w0 gO 26 [.slice none 0 0, .slice none 0 0]) := zq (by rw [hw0, hgO]; exact Blk.new_at _ _ _ (by simp))
  have E0 : Hid (Ex w w0) := zq (by rw [hw0]; exact ((Ex.refl w).alloc _).alloc _)
  have HG : Hid (gR = w.heap.size ∧ gO = w.heap.size + 1) := zq ⟨hgR, hgO⟩
  have HS0 : Hid (w.heap.size + 2 ≤ w0.heap.size) := zq (by rw [hw0]; simp)
  rw [← hw0]
  try rw [← hgO]
  try rw [← hgR]
  have hRO : ¬ gR = gO := by omega
  have hOR : ¬ gO = gR := by omega
  clear hw0 hgR hgO
  go_loopw [7] (fun i wr => ∃ (k : Nat) (A : Option Addr) (c : Nat), k ≤ m ∧ i = .int .i64 k ∧ Blk wr gO 26 [.slice A k c, .slice none 0 0] ∧ Blk wr gR 26 [.slice none 0 0, .slice none 0 0] ∧ Fr 3 wr (w.heap.size + 2) A c (List.replicate k (-1 : Int)) ∧ Ex w wr ∧ w.heap.size + 2 ≤ wr.heap.size) (fun i _ => m - (intOf i).toNat)
  case atStart => exact ⟨0, none, 0, Nat.zero_le _, rfl, KO0.out, KR0.out, Fr.none_ _ _ _ _, E0.out, HS0.out⟩
  case round =>
    obtain ⟨k, A, c, hk, rfl, hko, hkr, hf, hex, hsz⟩ := hrel
    have KO := zq hko
    have KR := zq hkr
    have HF := zq hf
    have HE := zq hex
    have HSZ := zq hsz
    clear hko hkr hf hex hsz
    by_cases hlt : k < m
    · obtain ⟨q0, q1⟩ := KO.out.c2
      have jO := KO.out.lt
      have zO := KO.out.frozen
      have h63 : k + 1 ≤ maxLen := by simp [maxLen]; omega
      have hby : (k + 1) * 8 ≤ 140737488355328 := by omega
      have hlk : k = (List.replicate k (-1 : Int)).length := List.length_replicate.symm
      have HLK := zq hlk
      clear hlk
      go_wp2_with (at_builtin; refine wpList_append_fr (α := Int) rfl _ _ 23 rfl 3 i0 _ 8 (w.heap.size + 2) Tryz.underlying23 hi hz0 hz1 hz2 rfl A c k (List.replicate k (-1 : Int)) HLK.out rfl (HF.out.alloc _) _ 1 1 [(-1 : Int)] rfl rfl (Bk.new wr 3 [(-1 : Int)]).rd h63 hby (Nat.le_trans HSZ.out (by simp)) ?_)
      intro A6 c6 w6 ha
      have HA := zq ha
      have KO6 : Hid (Blk w6 gO 26 [.slice A k c, .slice none 0 0]) := zq ((KO.out.alloc _).grown HA.out.grown (fun e => by have := HF.out.row _ e.symm; have := HG.out; omega))
      have KR6 : Hid (Blk w6 gR 26 [.slice none 0 0, .slice none 0 0]) := zq ((KR.out.alloc _).grown HA.out.grown (fun e => by have := HF.out.row _ e.symm; have := HG.out; omega))
      have HE6 : Hid (Ex w w6) := zq ((HE.out.alloc _).grown HA.out.grown (fun g hg => by have := HF.out.row _ hg; omega))
      have HR6 := zq HA.out.fr.row
      have hw6 : wr.heap.size ≤ w6.heap.size := by have := HA.out.grown.size; simp at this; omega
      clear ha q0 q1 jO zO
      obtain ⟨q0, q1⟩ := KO6.out.c2
      have jO := KO6.out.lt
      have zO := KO6.out.frozen
      go_wp2
      go_roundw
      case rel => exact ⟨k + 1, A6, c6, by omega, by go_num, KO6.out.set 0 _, KR6.out.far (fun e => hRO e) _, by rw [List.replicate_succ']; exact HA.out.fr.put (fun b hb => by have := HR6.out b hb; have := HG.out; omega) _, HE6.out.put (by have := HG.out; omega) _, by have := HSZ.out; simp; omega⟩
      case measure => simp [intOf]; omega
    · obtain rfl : k = m := by omega
      have HWA := zq HF.out.row
      clear KO0 KR0 E0 HS0
      go_wp2
      go_loopw [8] (fun i wr' => ∃ (j : Nat) (B : Option Addr) (d : Nat), j ≤ n ∧ i = .int .i64 j ∧ Blk wr' gO 26 [.slice A k c, .slice B j d] ∧ Blk wr' gR 26 [.slice none 0 0, .slice none 0 0] ∧ Fr 3 wr' (w.heap.size + 2) A c (List.replicate k (-1 : Int)) ∧ Fr 45 wr' (w.heap.size + 2) B d (List.replicate j freeF) ∧ (∀ b, rowOf A c = some b → rowOf B d ≠ some b) ∧ Ex w wr' ∧ w.heap.size + 2 ≤ wr'.heap.size) (fun i _ => n - (intOf i).toNat)
      case atStart => exact ⟨0, none, 0, Nat.zero_le _, rfl, KO.out, KR.out, HF.out, Fr.none_ _ _ _ _, fun b hb => by simp [rowOf], HE.out, HSZ.out⟩
      case round =>
        clear KO KR HF HE HSZ HWA
        obtain ⟨j, B, d, hj2, rfl, hko, hkr, hf, hfb, hab, hex, hsz⟩ := hrel
        have KO := zq hko
        have KR := zq hkr
        have HF := zq hf
        have HFB := zq hfb
        have HAB := zq hab
        have HE := zq hex
        have HSZ := zq hsz
        clear hko hkr hf hfb hab hex hsz
        obtain ⟨q0, q1⟩ := KO.out.c2
        have jO := KO.out.lt
        have zO := KO.out.frozen
        by_cases hlt : j < n
        · have h63 : j + 1 ≤ maxLen := by simp [maxLen]; omega
          have hby : (j + 1) * 40 ≤ 140737488355328 := by omega
          have hlk : j = (List.replicate j freeF).length := List.length_replicate.symm
          have HLK := zq hlk
          clear hlk
          rename_i wr'
          go_wp2_with (at_builtin; refine wpList_append_fr (α := FrameD) rfl _ _ 24 rfl 45 j0 _ 40 (w.heap.size + 2) Tryz.underlying24 hj hy0 hy1 hy2 rfl B d j (List.replicate j freeF) HLK.out rfl (HFB.out.alloc _) _ 1 1 [freeF] rfl rfl (Bk.new _ 45 [freeF]).rd h63 hby (Nat.le_trans HSZ.out (by simp)) ?_)
          intro A6 c6 w6 ha
          have HA := zq ha
          have KO6 : Hid (Blk w6 gO 26 [.slice A k c, .slice B j d]) := zq ((KO.out.alloc _).grown HA.out.grown (fun e => by have := HFB.out.row _ e.symm; have := HG.out; omega))
          have KR6 : Hid (Blk w6 gR 26 [.slice none 0 0, .slice none 0 0]) := zq ((KR.out.alloc _).grown HA.out.grown (fun e => by have := HFB.out.row _ e.symm; have := HG.out; omega))
          have HE6 : Hid (Ex w w6) := zq ((HE.out.alloc _).grown HA.out.grown (fun g hg => by have := HFB.out.row _ hg; omega))
          have HF6 : Hid (Fr 3 w6 (w.heap.size + 2) A c (List.replicate k (-1 : Int))) := zq ((HF.out.alloc _).grown HA.out.grown (fun b hb => by
            by_cases hc : c = 0
            · exact .inl hc
            · refine .inr fun e => ?_
              subst e
              exact HAB.out b (rowOf_some (by omega)) hb))
          have HAB6 : Hid (∀ b, rowOf A c = some b → rowOf A6 c6 ≠ some b) := zq (fun b hb e => by
            rcases HA.out.row with h | h
            · rw [h] at e; exact HAB.out b hb e
            · rw [h] at e; injection e with e; have := HF.out.row b hb; simp at e; omega)
          have HR6 := zq HA.out.fr.row
          have HRA := zq HF6.out.row
          have hw6 := HA.out.grown.size
          simp at hw6
          clear ha q0 q1 jO zO
          obtain ⟨q0, q1⟩ := KO6.out.c2
          have jO := KO6.out.lt
          have zO := KO6.out.frozen
          go_wp2
          go_roundw
          case rel => exact ⟨j + 1, A6, c6, by omega, by go_num, KO6.out.set 1 _, KR6.out.far (fun e => hRO e) _, HF6.out.put (fun b hb => by have := HRA.out b hb; have := HG.out; omega) _, by rw [List.replicate_succ']; exact HA.out.fr.put (fun b hb => by have := HR6.out b hb; have := HG.out; omega) _, HAB6.out, HE6.out.put (by have := HG.out; omega) _, by have := HSZ.out; simp; omega⟩
          case measure => simp [intOf]; omega
        · obtain rfl : j = n := by omega
          obtain ⟨r0, r1⟩ := KR.out.c2
          have jR := KR.out.lt
          have zR := KR.out.frozen
          have HRA := zq HF.out.row
          have HRB := zq HFB.out.row
          go_wp2
          exact bodyPost_ret (v := .tuple #[.agg #[.slice A k c, .slice B j d], .bool true]) (by simp [results, Tryz.results85, go_sem, r0, r1]) rfl
            ⟨A, c, B, d, by rw [HLB.out, HLF.out], Fr.mono (B := w.heap.size + 2) (by with_reducible repeat' (first | exact HF.out | refine Fr.put ?_ (fun b hb => by have := HRA.out b hb; have := HG.out; omega) _)) (by omega), Fr.mono (B := w.heap.size + 2) (by with_reducible repeat' (first | exact HFB.out | refine Fr.put ?_ (fun b hb => by have := HRB.out b hb; have := HG.out; omega) _)) (by omega), (HE.out.put (by have := HG.out; omega) _).put (by have := HG.out; omega) _⟩

end Go.Proofs.YtbdlpbladpppjaaGreatDoor
namespace Go.Proofs.YtbdlpbladpppjaaGreatDoor
open Go.ChangeShapes Go.WideShapes Go.ChangeAt Go.RowKit
set_option linter.unusedVariables false
set_option maxRecDepth 100000

def keyB (k : KeyD) : Bool := inB k.space 16 && inB k.page 256
theorem keyB_iff {k : KeyD} : keyB k = true ↔ keyOk k := by unfold keyB keyOk inB; simp

set_option maxHeartbeats 1000000 in
theorem keyS_c (k : KeyD) (w : World) : Calls Tryz.prog 99 #[.agg #[.int .i64 k.space, .int .i64 k.page]] w fun r w' => r = .returned (.bool (keyB k)) ∧ Ex w w' := by
  unfold keyB
  have C1 := zq (fun w => l1Space_c k.space w)
  have C2 := zq (fun w => l1Page_c k.page w)
  generalize inB k.space 16 = b1 at C1 ⊢
  generalize inB k.page 256 = b2 at C2 ⊢
  cases b1
  · go_enter Tryz.func99, Tryz.ntmps99
    go_wp2_with fail
    refine (C1.out _).mono ?_
    rintro r w1 ⟨rfl, rfl⟩
    go_wp2
    go_ret
    exact ⟨rfl, (by with_reducible repeat' (first | exact Ex.refl _ | refine Ex.alloc ?_ _ | refine Ex.drew ?_ | refine Ex.put ?_ (by omega) _))⟩
  · go_enter Tryz.func99, Tryz.ntmps99
    go_wp2_with fail
    refine (C1.out _).mono ?_
    rintro r w1 ⟨rfl, rfl⟩
    go_wp2_with fail
    refine (C2.out _).mono ?_
    rintro r w1 ⟨rfl, rfl⟩
    go_wp2
    go_ret
    exact ⟨rfl, (by with_reducible repeat' (first | exact Ex.refl _ | refine Ex.alloc ?_ _ | refine Ex.drew ?_ | refine Ex.put ?_ (by omega) _))⟩
set_option maxHeartbeats 1000000 in
theorem keyI_c (k : KeyD) (w : World) : Calls Tryz.prog 52 #[.agg #[.int .i64 k.space, .int .i64 k.page]] w fun r w' => r = .returned (.bool (keyB k)) ∧ Ex w w' := by
  unfold keyB
  have C1 := zq (fun w => within_c k.space 16 w)
  have C2 := zq (fun w => within_c k.page 256 w)
  generalize inB k.space 16 = b1 at C1 ⊢
  generalize inB k.page 256 = b2 at C2 ⊢
  cases b1
  · go_enter Tryz.func52, Tryz.ntmps52
    go_wp2_with fail
    refine (C1.out _).mono ?_
    rintro r w1 ⟨rfl, rfl⟩
    go_wp2
    go_ret
    exact ⟨rfl, (by with_reducible repeat' (first | exact Ex.refl _ | refine Ex.alloc ?_ _ | refine Ex.drew ?_ | refine Ex.put ?_ (by omega) _))⟩
  · go_enter Tryz.func52, Tryz.ntmps52
    go_wp2_with fail
    refine (C1.out _).mono ?_
    rintro r w1 ⟨rfl, rfl⟩
    go_wp2_with fail
    refine (C2.out _).mono ?_
    rintro r w1 ⟨rfl, rfl⟩
    go_wp2
    go_ret
    exact ⟨rfl, (by with_reducible repeat' (first | exact Ex.refl _ | refine Ex.alloc ?_ _ | refine Ex.drew ?_ | refine Ex.put ?_ (by omega) _))⟩

theorem hash_parts {s p n : Int} (h1 : 0 ≤ s) (h2 : s < 16) (h3 : 0 ≤ p) (h4 : p < 256) (hn : 1 ≤ n) (hm : n ≤ 16) : 0 ≤ (s * 256 + p) * 2654435761 % 4294967296 * n ∧ (s * 256 + p) * 2654435761 % 4294967296 * n ≤ 68719476736 ∧ 0 ≤ (s * 256 + p) * 2654435761 % 4294967296 * n / 4294967296 ∧ (s * 256 + p) * 2654435761 % 4294967296 * n / 4294967296 ≤ 16 := by
  obtain ⟨x, hx⟩ : ∃ x, x = (s * 256 + p) * 2654435761 % 4294967296 := ⟨_, rfl⟩
  rw [← hx]
  have g1 : 0 ≤ x ∧ x ≤ 4294967296 := by omega
  have g2 : 0 ≤ x * n := Int.mul_nonneg g1.1 (by omega)
  have g3 : x * n ≤ 4294967296 * 16 := Int.mul_le_mul g1.2 hm (by omega) (by omega)
  obtain ⟨y, hy⟩ : ∃ y, y = x * n := ⟨_, rfl⟩
  rw [← hy] at g2 g3 ⊢
  omega
set_option maxHeartbeats 1000000 in
theorem hashS_c (k : KeyD) (n : Int) (w : World) (hk : keyOk k) (hn : 1 ≤ n) (hm : n ≤ 16) : Calls Tryz.prog 75 #[.agg #[.int .i64 k.space, .int .i64 k.page], .int .i64 n] w fun r w' => r = .returned (.int .i64 (hashK k n)) ∧ Ex w w' := by
  obtain ⟨⟨h1, h2⟩, h3, h4⟩ := hk
  obtain ⟨s, p⟩ := k
  dsimp only at h1 h2 h3 h4
  go_enter Tryz.func75, Tryz.ntmps75
  go_wp2
  go_ret
  obtain ⟨g1, g2, g3, g4⟩ := hash_parts h1 h2 h3 h4 hn hm
  refine ⟨ret_int ?_, (by with_reducible repeat' (first | exact Ex.refl _ | refine Ex.alloc ?_ _ | refine Ex.drew ?_ | refine Ex.put ?_ (by omega) _))⟩
  rw [IntWalk.wrap64_in ((s * 256 + p) * 2654435761 % 4294967296 * n) ⟨by omega, by omega⟩, Int.tdiv_eq_ediv_of_nonneg g1, IntWalk.wrap64_in _ ⟨by omega, by omega⟩]
  rfl
set_option maxHeartbeats 1000000 in
theorem hashI_c (k : KeyD) (n : Int) (w : World) (hk : keyOk k) (hn : 1 ≤ n) (hm : n ≤ 16) : Calls Tryz.prog 54 #[.agg #[.int .i64 k.space, .int .i64 k.page], .int .i64 n] w fun r w' => r = .returned (.int .i64 (hashK k n)) ∧ Ex w w' := by
  obtain ⟨⟨h1, h2⟩, h3, h4⟩ := hk
  obtain ⟨s, p⟩ := k
  dsimp only at h1 h2 h3 h4
  go_enter Tryz.func54, Tryz.ntmps54
  go_wp2
  go_ret
  obtain ⟨g1, g2, g3, g4⟩ := hash_parts h1 h2 h3 h4 hn hm
  refine ⟨ret_int ?_, (by with_reducible repeat' (first | exact Ex.refl _ | refine Ex.alloc ?_ _ | refine Ex.drew ?_ | refine Ex.put ?_ (by omega) _))⟩
  rw [IntWalk.u64_in ((s * 256 + p) * 2654435761 % 4294967296 * n) ⟨by omega, by omega⟩, IntWalk.wrap64_in _ ⟨by omega, by omega⟩]
  rfl

def frameB (f : FrameD) : Bool := if f.used then keyB f.key && inB f.rights 8 else eqB f freeF
theorem frameB_iff {f : FrameD} : frameB f = true ↔ frameOk f := by
  unfold frameB frameOk
  cases hu : f.used
  · simp [freeF, eqB]
    exact decide_eq_true_iff
  · simp [keyB_iff, inB]
set_option maxHeartbeats 1000000 in
theorem l3Frame_c (f : FrameD) (w : World) : Calls Tryz.prog 73 #[.agg #[.bool f.used, .int .i64 f.key.space, .int .i64 f.key.page, .int .i64 f.rights, .int .i64 f.next]] w fun r w' => r = .returned (.bool (frameB f)) ∧ Ex w w' := by
  unfold frameB
  have hz := eql_frame f freeF
  simp only [freeF] at hz
  have C1 := zq (fun w => keyS_c f.key w)
  have C2 := zq (fun w => rightsS_c f.rights w)
  cases hu : f.used
  · simp only [Bool.false_eq_true, if_false]
    generalize hq : eqB f freeF = q
    rw [show (⟨false, ⟨0, 0⟩, 0, -1⟩ : FrameD) = freeF from rfl, hq] at hz
    rw [hu] at hz
    clear hq
    go_enter Tryz.func73, Tryz.ntmps73
    go_wp2
    go_ret
    exact ⟨rfl, (by with_reducible repeat' (first | exact Ex.refl _ | refine Ex.alloc ?_ _ | refine Ex.drew ?_ | refine Ex.put ?_ (by omega) _))⟩
  · simp only [if_true]
    clear hz
    generalize keyB f.key = b1 at C1 ⊢
    generalize inB f.rights 8 = b2 at C2 ⊢
    cases b1
    · go_enter Tryz.func73, Tryz.ntmps73
      go_wp2_with fail
      refine (C1.out _).mono ?_
      rintro r w1 ⟨rfl, he⟩
      have HE := zq (((Ex.refl w).alloc _).trans he)
      clear he
      go_wp2
      go_ret
      exact ⟨rfl, (ze HE.out)⟩
    · go_enter Tryz.func73, Tryz.ntmps73
      go_wp2_with fail
      refine name_calls ?_; intro v1 hv1
      have X1 : Hid (Chg (0) (0) w v1) := zx hv1
      have t1 := X1.out.size
      have Ev1 := zq ((Ex.refl w).chg X1.out (by omega))
      have KX : Hid (Blk v1 (w.heap.size) 45 [.bool true, .int .i64 f.key.space, .int .i64 f.key.page, .int .i64 f.rights, .int .i64 f.next]) := zk hv1
      have lX : w.heap.size < v1.heap.size := KX.out.lt
      clear hv1
      refine (C1.out _).mono ?_; rintro r w1 ⟨rfl, hb1⟩
      have Y1 := zq (Chg.of_ex hb1)
      have s1 := Y1.out.size
      have Ew1 := zq (Ev1.out.chg Y1.out (by omega))
      clear hb1
      replace KX := zq (KX.out.chg Y1.out (by omega))
      obtain ⟨qX0, qX1, qX2, qX3, qX4⟩ := KX.out.c5
      have jX := KX.out.lt
      go_wp2_with fail
      refine (C2.out _).mono ?_
      rintro r w2 ⟨rfl, rfl⟩
      go_wp2
      go_ret
      exact ⟨rfl, (ze Ew1.out)⟩
end Go.Proofs.YtbdlpbladpppjaaGreatDoor
namespace Go.Proofs.YtbdlpbladpppjaaGreatDoor
open Go.ChangeShapes Go.WideShapes Go.ChangeAt Go.RowKit
open Rec (sz cs)
set_option linter.unusedVariables false
set_option maxRecDepth 100000

def lenOf : Value → Nat
  | .slice _ n _ => n
  | _ => 0
def nums (l : List Nat) : List Int := l.map (fun (i : Nat) => (i : Int))
theorem nums_len (l : List Nat) : (nums l).length = l.length := by unfold nums; simp
theorem nums_snoc (l : List Nat) (i : Nat) : nums (l ++ [i]) = nums l ++ [(i : Int)] := by unfold nums; simp

/-- What the reference answers for the chain that begins at a0. -/
def ChainSaid (t : TableD) (a0 : Int) (w : World) (r : Ending) (w' : World) : Prop := ∃ (l : List Nat) (ok : Bool) (A : Option Addr) (c : Nat), r = .returned (.tuple #[.slice A l.length c, .bool ok]) ∧ (ok = true → Chain t.frames a0 l) ∧ (ok = false → ∀ l', ¬ Chain t.frames a0 l') ∧ l.length ≤ t.frames.length ∧ Rd w' A (nums l) ∧ Ex w w'

set_option maxHeartbeats 4000000 in
theorem l3Chain_c (t : TableD) (A : Option Addr) (c : Nat) (B : Option Addr) (d b : Nat) (a0 : Int) (w : World) (hx : Rd w A t.buckets) (hy : Rd w B t.frames) (hb : t.buckets[b]? = some a0) (hn : t.buckets.length ≤ 1048576) (hm : t.frames.length ≤ 1048576) :
    Calls Tryz.prog 74 #[.agg #[.slice A t.buckets.length c, .slice B t.frames.length d], .int .i64 b] w (ChainSaid t a0 w) := by
  obtain ⟨i0, hi, hz0, hz1, hz2⟩ := info_parts infoMInt
  have HX := zq hx
  have HY := zq hy
  have HBK := zq hb
  have hbl : b < t.buckets.length := getElem?_lt hb
  obtain ⟨n, hn1⟩ : ∃ n, n = t.frames.length := ⟨_, rfl⟩
  obtain ⟨m, hm1⟩ : ∃ m, m = t.buckets.length := ⟨_, rfl⟩
  have HN := zq hn1
  have HM := zq hm1
  rw [← hn1] at hm ⊢
  rw [← hm1] at hn hbl ⊢
  obtain ⟨b1, o1, a1, rfl, hb1, ha1, g0⟩ := HX.out.int (k := b) (by have := HM.out; omega)
  have e : a1 = a0 := by rw [hb] at ha1; injection ha1 with e; exact e.symm
  subst e
  clear hx hy hb hn1 hm1 ha1
  go_enter Tryz.func74, Tryz.ntmps74
  go_wp2
  clear g0
  go_loopw [6, 7] (fun q i wr => ∃ (pre : List Nat) (a : Int) (A' : Option Addr) (c' : Nat), i = .int .i64 a ∧ q = .slice A' pre.length c' ∧ Fr 3 wr (w.heap.size + 1) A' c' (nums pre) ∧ pre.length ≤ n ∧ Trail t.frames a1 pre a ∧ Blk wr w.heap.size 26 [.slice (some ⟨b1, o1, none⟩) m c, .slice B n d] ∧ Ex w wr ∧ w.heap.size + 1 ≤ wr.heap.size) (fun q _ _ => n + 1 - lenOf q)
  case atStart => exact ⟨[], a1, _, 0, rfl, rfl, Fr.none_ _ _ _ _, Nat.zero_le _, Trail.start _ _, (Blk.new _ _ _).alloc _, ((Ex.refl _).alloc _).alloc _, by simp⟩
  case round =>
    obtain ⟨pre, a, A', c', rfl, rfl, hf, hl, htr, hk, hex, hsz⟩ := hrel
    have HF := zq hf
    have HT := zq htr
    have KX := zq hk
    have HE := zq hex
    have HSZ := zq hsz
    clear hf htr hk hex hsz
    obtain ⟨q0, q1⟩ := KX.out.c2
    have jX := KX.out.lt
    by_cases ha : a = -1
    · subst ha
      go_wp2
      go_ret2
      exact ⟨pre, true, A', c', rfl, fun _ => HT.out.ends, (fun h => by cases h), by rw [← HN.out]; exact hl, HF.out.rd, HE.out⟩
    have hne : (a != -1) = true := by simpa using ha
    have HA := zq ha
    have hout : ∀ (w' : World), Ex wr w' → (∀ l', ¬ Chain t.frames a1 l') → ChainSaid t a1 w (.returned (.tuple #[.slice A' pre.length c', .bool false])) w' := fun w' he h => ⟨pre, false, A', c', rfl, (fun h => by cases h), fun _ => h, by rw [← HN.out]; exact hl, HF.out.rd.ex he, HE.out.trans he⟩
    have HOUT := zq hout
    clear hout
    by_cases h1 : a < 0
    · go_wp2
      go_ret2
      exact HOUT.out _ (Ex.refl _) (HT.out.bad (fun i f e _ => by omega) HA.out)
    obtain ⟨i, rfl⟩ := Int.eq_ofNat_of_zero_le (show 0 ≤ a by omega)
    by_cases h2 : n ≤ i
    · go_wp2
      go_ret2
      exact HOUT.out _ (Ex.refl _) (HT.out.bad (fun j f e hf => by have := getElem?_lt hf; have := HN.out; omega) HA.out)
    have h2' : i < n := by omega
    by_cases h3 : n ≤ pre.length
    · go_wp2
      go_ret2
      exact HOUT.out _ (Ex.refl _) (HT.out.long (by rw [← HN.out]; exact h3) HA.out)
    have h3' : pre.length < n := by omega
    obtain ⟨b2, o2, f, rfl, hb2, hfi, k0, k1, k2, k3, k4⟩ := (HY.out.ex HE.out).frame (k := i) (by have := HN.out; omega)
    have HFI := zq hfi
    clear hfi
    cases hu : f.used
    · rw [hu] at k0
      have HU := zq hu
      clear hu
      go_wp2
      go_ret2
      exact HOUT.out _ (Ex.refl _) (HT.out.bad (fun j g e hg => by
        have e2 : i = j := by omega
        subst e2
        rw [HFI.out] at hg
        injection hg with hg
        rw [← hg]; exact HU.out) HA.out)
    · rw [hu] at k0
      have HU := zq hu
      clear hu
      have h63 : pre.length + 1 ≤ maxLen := by simp [maxLen]; omega
      have hby : (pre.length + 1) * 8 ≤ 140737488355328 := by omega
      have HLN := zq (nums_len pre).symm
      have HXE : Hid (Rd wr (some ⟨b2, o2, none⟩) t.frames) := zq (HY.out.ex HE.out)
      go_wp2_with (at_builtin; refine wpList_append_fr (α := Int) rfl _ _ 23 rfl 3 i0 _ 8 (w.heap.size + 1) Tryz.underlying23 hi hz0 hz1 hz2 rfl A' c' pre.length (nums pre) HLN.out rfl (HF.out.alloc _) _ 1 1 [(i : Int)] rfl rfl (Bk.new wr 3 [(i : Int)]).rd h63 hby (Nat.le_trans HSZ.out (by simp)) ?_)
      intro A6 c6 w6 happ
      have HAP := zq happ
      have KX6 : Hid (Blk w6 w.heap.size 26 [.slice (some ⟨b1, o1, none⟩) m c, .slice (some ⟨b2, o2, none⟩) n d]) := zq ((KX.out.alloc _).grown HAP.out.grown (fun e => by have := HF.out.row _ e.symm; omega))
      have HE6 : Hid (Ex w w6) := zq ((HE.out.alloc _).grown HAP.out.grown (fun g hg => by have := HF.out.row _ hg; omega))
      have hw6 : wr.heap.size ≤ w6.heap.size := by have := HAP.out.grown.size; simp at this; omega
      clear happ q0 q1 jX k0 k1 k2 k3 k4
      obtain ⟨q0, q1⟩ := KX6.out.c2
      have jX := KX6.out.lt
      obtain ⟨b3, o3, g, e3, hb3, hgi, k0, k1, k2, k3, k4⟩ := (HY.out.ex HE6.out).frame (k := i) (by have := HN.out; omega)
      cases e3
      have e : g = f := by rw [HFI.out] at hgi; injection hgi with e; exact e.symm
      subst e
      clear hgi
      go_wp2
      go_roundw
      case rel => exact ⟨pre ++ [i], g.next, A6, c6, rfl, by simp, by rw [nums_snoc]; exact HAP.out.fr, by simp; omega, HT.out.step HFI.out HU.out, KX6.out, HE6.out, by have := HSZ.out; omega⟩
      case measure => simp [lenOf]; omega
end Go.Proofs.YtbdlpbladpppjaaGreatDoor
