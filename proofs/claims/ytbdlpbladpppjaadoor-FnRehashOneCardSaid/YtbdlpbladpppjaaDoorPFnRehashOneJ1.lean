/- Joined: Base, Data, Rd, Chg, Re, Lr, Wi, Vp, Fo, Ta, Tb, Tc, Eq, Td, L1, Tm, Te, Tp, Cl, Cc, Cv, Cw, Kg, Wp, Zk, Sc, Ap, Mi, Mk, Mf, Mt, Wc, Nr. -/
import Derived.WalkKit
import Derived.ProofKit
import Derived.OpenShut
import Derived.Below
import Derived.Lib.Hide
import Derived.IntWalk
import Derived.Outline
import Derived.Deep.QuietTactic
import Derived.BigQuiet
import Derived.StillTailTactics
import Derived.Deep.DeepMust
import Derived.WalkSpells
import Derived.WalkLawsBesides
import Derived.Laws.MakeOwn
import Derived.Laws.OwnMore
import Derived.Deep.Draws
import Derived.Test.YtbdlpbladpppjaaDoorRows
import Derived.Laws.BitsAllLaws
import Derived.Laws.BitsLemmas
import Derived.Maps.OwnOps
import Derived.Maps.Views
import Derived.Deep.RegionLaw
import Derived.Deep.Upon
import Derived.Deep.RegionHeld3
import Derived.Laws.CopyRow
/- Plain predicates on memory for the proofs over this seat: slices that read as lists of records, blocks of the call's own, worlds that only grow. No program in sight. -/
namespace Go.Proofs.YtbdlpbladpppjaaDoor
open Go.ChangeShapes Go.WideShapes Go.ChangeAt Go.RowKit

/-! ### Records -/

/-- A kind of data that lies in a fixed number of cells. -/
class Rec (α : Type) where
  sz : Nat
  cs : α → List Value
  len : ∀ a, (cs a).length = sz
  pos : 0 < sz
  one : ∀ a u, u ∈ cs a → u.oneCell' = true

open Rec (sz cs)

def flat {α : Type} [Rec α] : List α → List Value
  | [] => []
  | x :: xs => cs x ++ flat xs

section
variable {α : Type} [Rec α]

@[simp] theorem flat_nil : flat ([] : List α) = [] := rfl
@[simp] theorem flat_cons (x : α) (xs : List α) : flat (x :: xs) = cs x ++ flat xs := rfl

theorem flat_append (xs ys : List α) : flat (xs ++ ys) = flat xs ++ flat ys := by
  induction xs with
  | nil => rfl
  | cons x xs ih => simp [ih]

theorem flat_length (xs : List α) : (flat xs).length = xs.length * sz α := by
  induction xs with
  | nil => simp
  | cons x xs ih => simp only [flat_cons, List.length_append, ih, Rec.len, List.length_cons, Nat.add_mul]; omega

theorem flat_one (xs : List α) : ∀ u ∈ flat xs, u.oneCell' = true := by
  induction xs with
  | nil => simp
  | cons x xs ih =>
    intro u hu
    rcases List.mem_append.1 hu with h | h
    · exact Rec.one x u h
    · exact ih u h

theorem flat_get (xs : List α) (k j : Nat) (x : α) (hx : xs[k]? = some x) (hj : j < sz α) : (flat xs)[k * sz α + j]? = (cs x)[j]? := by
  induction xs generalizing k with
  | nil => simp at hx
  | cons y ys ih =>
    cases k with
    | zero =>
      simp at hx
      subst hx
      simp only [flat_cons, Nat.zero_mul, Nat.zero_add]
      rw [List.getElem?_append_left (by rw [Rec.len]; exact hj)]
    | succ k =>
      simp at hx
      have := ih k hx
      simp only [flat_cons]
      rw [List.getElem?_append_right (by rw [Rec.len, Nat.add_mul]; omega), Rec.len, ← this]
      congr 1
      rw [Nat.add_mul]; omega

theorem flat_take (xs : List α) (k : Nat) : flat (xs.take k) = (flat xs).take (k * sz α) := by
  induction xs generalizing k with
  | nil => simp
  | cons x xs ih =>
    cases k with
    | zero => simp
    | succ k =>
      simp only [List.take_succ_cons, flat_cons, ih]
      have hl : (cs x).length = sz α := Rec.len x
      have e : (k + 1) * sz α = sz α + k * sz α := by rw [Nat.add_mul]; omega
      rw [e, List.take_append, hl, List.take_of_length_le (l := cs x) (by omega), Nat.add_sub_cancel_left]

theorem flat_drop (xs : List α) (k : Nat) : flat (xs.drop k) = (flat xs).drop (k * sz α) := by
  induction xs generalizing k with
  | nil => simp
  | cons x xs ih =>
    cases k with
    | zero => simp
    | succ k =>
      simp only [List.drop_succ_cons, flat_cons, ih]
      have hl : (cs x).length = sz α := Rec.len x
      have e : (k + 1) * sz α = sz α + k * sz α := by rw [Nat.add_mul]; omega
      rw [e, List.drop_append, hl, List.drop_of_length_le (l := cs x) (by omega), Nat.add_sub_cancel_left, List.nil_append]

theorem flat_set (xs : List α) (k j : Nat) (x y : α) (u : Value) (hx : xs[k]? = some x) (hj : j < sz α) (hy : cs y = (cs x).set j u) :
    flat (xs.set k y) = (flat xs).set (k * sz α + j) u := by
  induction xs generalizing k with
  | nil => simp at hx
  | cons z zs ih =>
    cases k with
    | zero =>
      simp at hx
      subst hx
      simp only [List.set_cons_zero, flat_cons, Nat.zero_mul, Nat.zero_add, hy]
      rw [List.set_append_left _ _ (by rw [Rec.len]; exact hj)]
    | succ k =>
      simp at hx
      simp only [List.set_cons_succ, flat_cons, ih k hx]
      have hl : (cs z).length = sz α := Rec.len z
      rw [List.set_append_right _ _ (by rw [hl, Nat.add_mul]; omega), hl]
      congr 2
      rw [Nat.add_mul]; omega
end

/-! ### Worlds that only grow -/

/-- All that was there is there still; new blocks may have come. -/
def Ex (w w' : World) : Prop := Below w.heap.size w w'

theorem Ex.refl (w : World) : Ex w w := Below.refl _ _
theorem Ex.size {w w' : World} (h : Ex w w') : w.heap.size ≤ w'.heap.size := Below.size h
theorem Ex.trans {a b c : World} (h : Ex a b) (k : Ex b c) : Ex a c := Below.trans h (Below.mono k (Below.size h))
theorem Ex.alloc {a w : World} (h : Ex a w) (o : Obj) : Ex a (w.alloc o) := Below.alloc h (Below.size h) o
theorem Ex.drew {a w : World} (h : Ex a w) : Ex a w.drew := Below.drew h
theorem Ex.drewN {a w : World} (h : Ex a w) (n : Nat) : Ex a (w.drewN n) := ⟨h.os, h.tape, h.output, h.size, h.block⟩
theorem Ex.set {a w : World} (h : Ex a w) {p : Addr} (hp : a.heap.size ≤ p.block) (u : Value) : Ex a (w.setCell p u) := Below.setCell h hp u
theorem Ex.cell {a w : World} (h : Ex a w) {b o : Nat} (hb : b < a.heap.size) : w.cell? ⟨b, o, none⟩ = a.cell? ⟨b, o, none⟩ := Below.cell h (p := ⟨b, o, none⟩) hb
theorem Ex.frozen {a w : World} (h : Ex a w) {b o : Nat} (hb : b < a.heap.size) : w.frozen? ⟨b, o, none⟩ = a.frozen? ⟨b, o, none⟩ := Below.frozen h (p := ⟨b, o, none⟩) hb
theorem Ex.block {a w : World} (h : Ex a w) {b : Nat} (hb : b < a.heap.size) : w.heap[b]? = a.heap[b]? := Below.block h b hb
theorem Ex.below {a w : World} (h : Ex a w) : Below a.heap.size a w := h
theorem Ex.of_grown {a w w' : World} (h : Ex a w) {row : Option Nat} (hg : w.grownBy w' row) (hr : ∀ k, row = some k → a.heap.size ≤ k) : Ex a w' := Below.grown h hg h.size hr

/-- A known block. -/
def Blk (w : World) (g : Nat) (t : TypeId) (c : List Value) : Prop := w.heap[g]? = some (.cells c.toArray t (0, 0))

section
variable {w w' : World} {g : Nat} {t : TypeId} {c : List Value}
theorem Blk.lt (h : Blk w g t c) : g < w.heap.size := (Array.getElem?_eq_some_iff.1 h).1
theorem Blk.cell (h : Blk w g t c) (i : Nat) : w.cell? ⟨g, i, none⟩ = c[i]? := by
  rw [cell_of_row w g i _ t (0, 0) h]; simp
theorem Blk.frozen (h : Blk w g t c) (i : Nat) : w.frozen? ⟨g, i, none⟩ = false := frozen_of_row w g i _ t h
theorem Blk.new (w : World) (t : TypeId) (c : List Value) : Blk (w.alloc (.cells c.toArray t)) w.heap.size t c := heap_alloc_new w _
theorem Blk.new_at (w : World) (t : TypeId) (c : List Value) {g : Nat} (hg : g = w.heap.size) : Blk (w.alloc (.cells c.toArray t)) g t c := by subst hg; exact heap_alloc_new w _
theorem Blk.c1 {a : Value} (h : Blk w g t [a]) : w.cell? ⟨g, 0, none⟩ = some a := h.cell 0
theorem Blk.c2 {a b : Value} (h : Blk w g t [a, b]) : w.cell? ⟨g, 0, none⟩ = some a ∧ w.cell? ⟨g, 1, none⟩ = some b := ⟨h.cell 0, h.cell 1⟩
theorem Blk.c4 {a b d e : Value} (h : Blk w g t [a, b, d, e]) : w.cell? ⟨g, 0, none⟩ = some a ∧ w.cell? ⟨g, 1, none⟩ = some b ∧ w.cell? ⟨g, 2, none⟩ = some d ∧ w.cell? ⟨g, 3, none⟩ = some e := ⟨h.cell 0, h.cell 1, h.cell 2, h.cell 3⟩
theorem Blk.c6 {a b d e f k : Value} (h : Blk w g t [a, b, d, e, f, k]) : w.cell? ⟨g, 0, none⟩ = some a ∧ w.cell? ⟨g, 1, none⟩ = some b ∧ w.cell? ⟨g, 2, none⟩ = some d ∧ w.cell? ⟨g, 3, none⟩ = some e ∧ w.cell? ⟨g, 4, none⟩ = some f ∧ w.cell? ⟨g, 5, none⟩ = some k := ⟨h.cell 0, h.cell 1, h.cell 2, h.cell 3, h.cell 4, h.cell 5⟩
theorem Blk.c3 {v0 v1 v2 : Value} (h : Blk w g t [v0, v1, v2]) : w.cell? ⟨g, 0, none⟩ = some v0 ∧ w.cell? ⟨g, 1, none⟩ = some v1 ∧ w.cell? ⟨g, 2, none⟩ = some v2 := ⟨h.cell 0, h.cell 1, h.cell 2⟩
theorem Blk.c5 {v0 v1 v2 v3 v4 : Value} (h : Blk w g t [v0, v1, v2, v3, v4]) : w.cell? ⟨g, 0, none⟩ = some v0 ∧ w.cell? ⟨g, 1, none⟩ = some v1 ∧ w.cell? ⟨g, 2, none⟩ = some v2 ∧ w.cell? ⟨g, 3, none⟩ = some v3 ∧ w.cell? ⟨g, 4, none⟩ = some v4 := ⟨h.cell 0, h.cell 1, h.cell 2, h.cell 3, h.cell 4⟩
theorem Blk.c9 {v0 v1 v2 v3 v4 v5 v6 v7 v8 : Value} (h : Blk w g t [v0, v1, v2, v3, v4, v5, v6, v7, v8]) : w.cell? ⟨g, 0, none⟩ = some v0 ∧ w.cell? ⟨g, 1, none⟩ = some v1 ∧ w.cell? ⟨g, 2, none⟩ = some v2 ∧ w.cell? ⟨g, 3, none⟩ = some v3 ∧ w.cell? ⟨g, 4, none⟩ = some v4 ∧ w.cell? ⟨g, 5, none⟩ = some v5 ∧ w.cell? ⟨g, 6, none⟩ = some v6 ∧ w.cell? ⟨g, 7, none⟩ = some v7 ∧ w.cell? ⟨g, 8, none⟩ = some v8 := ⟨h.cell 0, h.cell 1, h.cell 2, h.cell 3, h.cell 4, h.cell 5, h.cell 6, h.cell 7, h.cell 8⟩
theorem Blk.drew (h : Blk w g t c) : Blk w.drew g t c := h
theorem Blk.drewN (h : Blk w g t c) (n : Nat) : Blk (w.drewN n) g t c := h
theorem Blk.alloc (h : Blk w g t c) (o : Obj) : Blk (w.alloc o) g t c := (Below.heap_alloc w o g h.lt).trans h
theorem Blk.set (h : Blk w g t c) (i : Nat) (u : Value) : Blk (w.setCell ⟨g, i, none⟩ u) g t (c.set i u) := by
  unfold Blk at h ⊢
  simp [World.setCell, Array.getElem?_modify, h]
theorem Blk.far (h : Blk w g t c) {p : Addr} (hp : g ≠ p.block) (u : Value) : Blk (w.setCell p u) g t c := (Below.heap_setCell w p u g hp).trans h
theorem Blk.ex (h : Blk w g t c) (k : Ex w w') : Blk w' g t c := (k.block h.lt).trans h
end

/-! ### Slices that read as lists -/

section
variable {α : Type} [Rec α] {w w' : World} {A : Option Addr} {xs : List α}

/-- The slice at A reads as xs. -/
def Rd (w : World) (A : Option Addr) (xs : List α) : Prop :=
  0 < xs.length → ∃ b off, A = some ⟨b, off, none⟩ ∧ b < w.heap.size ∧ ∀ m u, (flat xs)[m]? = some u → w.cell? ⟨b, off + m, none⟩ = some u

theorem Rd.nil (w : World) (A : Option Addr) : Rd w A ([] : List α) := fun h => absurd h (by simp)
theorem Rd.ex (h : Rd w A xs) (k : Ex w w') : Rd w' A xs := fun hn => by
  obtain ⟨b, off, e, hb, hc⟩ := h hn
  exact ⟨b, off, e, Nat.lt_of_lt_of_le hb k.size, fun m u hu => (k.cell hb).trans (hc m u hu)⟩
theorem Rd.alloc (h : Rd w A xs) (o : Obj) : Rd (w.alloc o) A xs := h.ex ((Ex.refl w).alloc o)
theorem Rd.drew (h : Rd w A xs) : Rd w.drew A xs := h
theorem Rd.drewN (h : Rd w A xs) (n : Nat) : Rd (w.drewN n) A xs := h
/-- The element at k, cell by cell. -/
theorem Rd.at_ (h : Rd w A xs) {k : Nat} (hk : k < xs.length) : ∃ b off x, A = some ⟨b, off, none⟩ ∧ b < w.heap.size ∧ xs[k]? = some x ∧
    ∀ j u, j < sz α → (cs x)[j]? = some u → w.cell? ⟨b, off + (k * sz α + j), none⟩ = some u := by
  obtain ⟨b, off, e, hb, hc⟩ := h (by omega)
  refine ⟨b, off, xs[k], e, hb, List.getElem?_eq_getElem hk, fun j u hj hu => hc _ _ ?_⟩
  rw [flat_get xs k j xs[k] (List.getElem?_eq_getElem hk) hj]
  exact hu
theorem Rd.take (h : Rd w A xs) (k : Nat) : Rd w A (xs.take k) := fun hn => by
  obtain ⟨b, off, e, hb, hc⟩ := h (by rw [List.length_take] at hn; omega)
  refine ⟨b, off, e, hb, fun m u hu => hc m u ?_⟩
  rw [flat_take, List.getElem?_take] at hu
  split at hu
  · exact hu
  · cases hu

/-- The slice's row, from the head of a block of the call's own (from B on), reads as xs; 'rest' is its spare room. -/
def Bk (E : TypeId) (w : World) (g : Nat) (xs : List α) (rest : List Value) : Prop := Blk w g E (flat xs ++ rest)

/-- A slice with capacity c that shares no memory with what lies below block B. -/
def Fr (E : TypeId) (w : World) (B : Nat) (A : Option Addr) (c : Nat) (xs : List α) : Prop :=
  xs.length ≤ c ∧ c ≤ maxLen ∧ (c = 0 ∨ ∃ g rest, A = some ⟨g, 0, none⟩ ∧ B ≤ g ∧ Bk E w g xs rest ∧ (c - xs.length) * sz α ≤ rest.length)

variable {E : TypeId} {B B' g c : Nat} {rest : List Value}

theorem Bk.rd (h : Bk E w g xs rest) : Rd w (some ⟨g, 0, none⟩) xs := fun _ => by
  refine ⟨g, 0, rfl, Blk.lt h, fun m u hu => ?_⟩
  have hm : m < (flat xs).length := (List.getElem?_eq_some_iff.1 hu).1
  rw [Nat.zero_add, Blk.cell h, List.getElem?_append_left hm]
  exact hu
theorem Bk.ex (h : Bk E w g xs rest) (k : Ex w w') : Bk E w' g xs rest := Blk.ex h k
theorem Bk.alloc (h : Bk E w g xs rest) (o : Obj) : Bk E (w.alloc o) g xs rest := Blk.alloc h o
theorem Bk.drew (h : Bk E w g xs rest) : Bk E w.drew g xs rest := h
theorem Bk.frozen (h : Bk E w g xs rest) (i : Nat) : w.frozen? ⟨g, i, none⟩ = false := Blk.frozen h i
theorem Bk.far (h : Bk E w g xs rest) {p : Addr} (hp : g ≠ p.block) (u : Value) : Bk E (w.setCell p u) g xs rest := Blk.far h hp u
/-- One cell of the element at k is written. -/
theorem Bk.set (h : Bk E w g xs rest) {k j off : Nat} {x y : α} {u : Value} (hx : xs[k]? = some x) (hj : j < sz α) (hy : cs y = (cs x).set j u) (ho : off = k * sz α + j) :
    Bk E (w.setCell ⟨g, off, none⟩ u) g (xs.set k y) rest := by
  subst ho
  have hk : k < xs.length := (List.getElem?_eq_some_iff.1 hx).1
  have hlt : k * sz α + j < (flat xs).length := by
    rw [flat_length]
    exact Nat.lt_of_lt_of_le (Nat.add_lt_add_left hj _) (by rw [← Nat.succ_mul]; exact Nat.mul_le_mul_right _ hk)
  have := Blk.set h (k * sz α + j) u
  unfold Bk
  rwa [List.set_append_left _ _ hlt, ← flat_set xs k j x y u hx hj hy] at this
theorem Bk.cell_at (h : Bk E w g xs rest) {k : Nat} {x : α} (hx : xs[k]? = some x) {j : Nat} (hj : j < sz α) {u : Value} (hu : (cs x)[j]? = some u) : w.cell? ⟨g, k * sz α + j, none⟩ = some u := by
  have hk : k < xs.length := (List.getElem?_eq_some_iff.1 hx).1
  have hlt : k * sz α + j < (flat xs).length := by
    rw [flat_length]
    exact Nat.lt_of_lt_of_le (Nat.add_lt_add_left hj _) (by rw [← Nat.succ_mul]; exact Nat.mul_le_mul_right _ hk)
  rw [Blk.cell h, List.getElem?_append_left hlt, flat_get xs k j x hx hj, hu]

theorem Fr.rd (h : Fr E w B A c xs) : Rd w A xs := by
  obtain ⟨hl, _, h0 | ⟨g, rest, rfl, _, hb, _⟩⟩ := h
  · exact fun hn => by omega
  · exact hb.rd
theorem Fr.ex (h : Fr E w B A c xs) (k : Ex w w') : Fr E w' B A c xs := by
  obtain ⟨hl, hm, h0 | ⟨g, rest, e, hB, hb, hr⟩⟩ := h
  · exact ⟨hl, hm, .inl h0⟩
  · exact ⟨hl, hm, .inr ⟨g, rest, e, hB, hb.ex k, hr⟩⟩
theorem Fr.mono (h : Fr E w B A c xs) (hB : B' ≤ B) : Fr E w B' A c xs := by
  obtain ⟨hl, hm, h0 | ⟨g, rest, e, hB, hb, hr⟩⟩ := h
  · exact ⟨hl, hm, .inl h0⟩
  · exact ⟨hl, hm, .inr ⟨g, rest, e, by omega, hb, hr⟩⟩
theorem Fr.alloc (h : Fr E w B A c xs) (o : Obj) : Fr E (w.alloc o) B A c xs := h.ex ((Ex.refl w).alloc o)
theorem Fr.drew (h : Fr E w B A c xs) : Fr E w.drew B A c xs := h
theorem Fr.drewN (h : Fr E w B A c xs) (n : Nat) : Fr E (w.drewN n) B A c xs := h
theorem Fr.none_ (E : TypeId) (w : World) (B : Nat) (A : Option Addr) : Fr E w B A 0 ([] : List α) := ⟨Nat.le_refl _, Nat.zero_le _, .inl rfl⟩
theorem Fr.le (h : Fr E w B A c xs) : xs.length ≤ c := h.1
theorem Fr.cap (h : Fr E w B A c xs) : c ≤ maxLen := h.2.1
end

section
variable {α : Type} [Rec α] {P : Program}
theorem madeCells_flat (z : α) (n : Nat) : madeCells (cs z).toArray (n * sz α) = (flat (List.replicate n z)).toArray := by
  apply Array.ext
  · simp [size_madeCells, flat_length]
  · intro i h1 h2
    rw [size_madeCells] at h1
    have hp : 0 < sz α := Rec.pos
    have hd : i / sz α < n := (Nat.div_lt_iff_lt_mul hp).2 h1
    have hm : i % sz α < sz α := Nat.mod_lt _ hp
    have hi : i / sz α * sz α + i % sz α = i := by rw [Nat.mul_comm]; exact Nat.div_add_mod i (sz α)
    have hg := flat_get (List.replicate n z) (i / sz α) (i % sz α) z (by rw [List.getElem?_replicate, if_pos hd]) hm
    rw [hi, List.getElem?_eq_getElem (by simpa using h2), List.getElem?_eq_getElem (by rw [Rec.len]; exact hm)] at hg
    injection hg with hg
    have hl : (cs z).length = sz α := Rec.len z
    simp [madeCells, hl, hm]
    exact hg.symm
/-- make([]T, n): n zero values in a new block, for whatever world. -/
theorem make_rec (t e bytes : Nat) (z : α) (zv : Value) (ht : P.underlying t = some (.slice e)) (hinfo : (P.info? e).map (fun i => (i.zero, i.size, i.bytes)) = some (some zv, sz α, bytes))
    (hz : zv.cells = (cs z).toArray) (n : Nat) (hbytes : bytes * n ≤ 281474976710656) (h63 : n ≤ 9223372036854775807) (w : World) :
    (Instr.makeSlice t (.int .i64 (n : Int)) (.int .i64 (n : Int))).run P w = .ok (.slice (some ⟨w.heap.size, 0, none⟩) n n) (w.alloc (.cells (flat (List.replicate n z)).toArray e)) := by
  obtain ⟨i, hi, hz0, hz1, hz2⟩ := info_parts hinfo
  have hb' : (i.bytes : Int) * (n : Int) ≤ 281474976710656 := by
    have h : ((i.bytes * n : Nat) : Int) ≤ 281474976710656 := by rw [hz2]; omega
    rwa [Int.natCast_mul] at h
  have hr := run_make (P := P) w t e i zv ht hi hz0 .i64 .i64 n n (by omega) (Int.le_refl _) hb' (by omega)
  simp only [Int.toNat_natCast, hz1, hz, madeCells_flat] at hr
  exact hr
theorem Bk.new (w : World) (E : TypeId) (xs : List α) : Bk E (w.alloc (.cells (flat xs).toArray E)) w.heap.size xs [] := by
  have := Blk.new w E (flat xs)
  unfold Bk
  rwa [List.append_nil]
end

/-! ### Only one block has turned -/
section
variable {w w' w'' : World} {row : Option Nat} {g : Nat}
theorem grown_refl (w : World) (row : Option Nat) : w.grownBy w row := ⟨rfl, rfl, rfl, Nat.le_refl _, fun _ _ _ => rfl⟩
theorem grown_ex (h : w.grownBy w' row) (k : Ex w' w'') : w.grownBy w'' row :=
  ⟨k.os.trans h.os, k.tape.trans h.tape, k.output.trans h.output, Nat.le_trans h.size k.size, fun i hi hn => (k.block (Nat.lt_of_lt_of_le hi h.size)).trans (h.block i hi hn)⟩
theorem grown_set (h : w.grownBy w' (some g)) (o : Nat) (u : Value) : w.grownBy (w'.setCell ⟨g, o, none⟩ u) (some g) :=
  ⟨h.os, h.tape, h.output, by simpa [World.setCell] using h.size, fun i hi hn => (Below.heap_setCell w' ⟨g, o, none⟩ u i (fun e => hn (by rw [e]))).trans (h.block i hi hn)⟩
theorem Blk.grown {t : TypeId} {c : List Value} (h : Blk w g t c) (k : w.grownBy w' row) (hn : some g ≠ row) : Blk w' g t c := (k.block g h.lt hn).trans h
theorem Ex.grown {a : World} (h : Ex a w) (k : w.grownBy w' row) (hr : ∀ g, row = some g → a.heap.size ≤ g) : Ex a w' := h.of_grown k hr
end

section
variable {α : Type} [Rec α] {w w' : World} {A : Option Addr} {xs : List α} {E : TypeId} {B c : Nat} {row : Option Nat}
theorem Rd.grown (h : Rd w A xs) (k : w.grownBy w' row) (hn : ∀ b, row = some b → ∀ off, A ≠ some ⟨b, off, none⟩) : Rd w' A xs := fun h0 => by
  obtain ⟨b, off, rfl, hb, hc⟩ := h h0
  have hne : some b ≠ row := fun e => hn b e.symm off rfl
  exact ⟨b, off, rfl, Nat.lt_of_lt_of_le hb k.size, fun m u hu => (World.cell?_of_block (k.block b hb hne)).trans (hc m u hu)⟩
/-- Where a slice of the call's own lies. -/
theorem Fr.where_ (h : Fr E w B A c xs) : c = 0 ∨ ∃ g, A = some ⟨g, 0, none⟩ ∧ B ≤ g ∧ g < w.heap.size := by
  obtain ⟨_, _, h0 | ⟨g, rest, e, hB, hb, _⟩⟩ := h
  · exact .inl h0
  · exact .inr ⟨g, e, hB, Blk.lt hb⟩
theorem Fr.grown (h : Fr E w B A c xs) (k : w.grownBy w' row) (hn : ∀ b, row = some b → c = 0 ∨ A ≠ some ⟨b, 0, none⟩) : Fr E w' B A c xs := by
  obtain ⟨hl, hm, h0 | ⟨g, rest, rfl, hB, hb, hr⟩⟩ := h
  · exact ⟨hl, hm, .inl h0⟩
  · by_cases hc : c = 0
    · exact ⟨hl, hm, .inl hc⟩
    · refine ⟨hl, hm, .inr ⟨g, rest, rfl, hB, Blk.grown hb k (fun e => ?_), hr⟩⟩
      rcases hn g e.symm with h | h
      · exact hc h
      · exact h rfl
end

section
variable {α : Type} [Rec α] {w w' : World} {A : Option Addr} {xs ys : List α} {E : TypeId} {B c k g : Nat} {rest : List Value}
theorem Fr.open_ (h : Fr E w B A c xs) (hk : k < xs.length) : ∃ g rest, A = some ⟨g, 0, none⟩ ∧ B ≤ g ∧ Bk E w g xs rest ∧ (c - xs.length) * sz α ≤ rest.length := by
  obtain ⟨hl, hm, h0 | ⟨g, rest, rfl, hB, hb, hr⟩⟩ := h
  · omega
  · exact ⟨g, rest, rfl, hB, hb, hr⟩
theorem Fr.set_below (h : Fr E w B A c xs) {p : Addr} (hp : p.block < B) (u : Value) : Fr E (w.setCell p u) B A c xs := by
  obtain ⟨hl, hm, h0 | ⟨g, rest, rfl, hB, hb, hr⟩⟩ := h
  · exact ⟨hl, hm, .inl h0⟩
  · exact ⟨hl, hm, .inr ⟨g, rest, rfl, hB, hb.far (by omega) u, hr⟩⟩
theorem Fr.close (hb : Bk E w g xs rest) (hB : B ≤ g) (hr : (c - xs.length) * sz α ≤ rest.length) (hl : xs.length ≤ c) (hm : c ≤ maxLen) : Fr E w B (some ⟨g, 0, none⟩) c xs :=
  ⟨hl, hm, .inr ⟨g, rest, rfl, hB, hb, hr⟩⟩
end

/-- The one block that a write through the slice may turn. -/
def rowOf (A : Option Addr) (c : Nat) : Option Nat := if c = 0 then none else A.map (·.block)
theorem rowOf_some {g c : Nat} (h : 0 < c) : rowOf (some ⟨g, 0, none⟩) c = some g := by
  unfold rowOf; rw [if_neg (by omega)]; rfl
theorem Fr.row {α : Type} [Rec α] {w : World} {A : Option Addr} {xs : List α} {E : TypeId} {B c : Nat} (h : Fr E w B A c xs) : ∀ b, rowOf A c = some b → B ≤ b ∧ b < w.heap.size := by
  intro b hb
  rcases h.where_ with h0 | ⟨g, rfl, h1, h2⟩
  · unfold rowOf at hb
    rw [if_pos h0] at hb
    cases hb
  · unfold rowOf at hb
    split at hb
    · cases hb
    · injection hb with hb
      subst hb
      exact ⟨h1, h2⟩
/-- A slice that lies apart from the row that is written. -/
theorem Fr.apart {α : Type} [Rec α] {w w' : World} {A : Option Addr} {xs : List α} {E : TypeId} {B c : Nat} {row : Option Nat} {lo hi lo' hi' : Nat} (h : Fr E w B A c xs) (k : w.grownBy w' row)
    (hr : ∀ b, row = some b → lo ≤ b ∧ b < hi) (ha : ∀ b, rowOf A c = some b → lo' ≤ b ∧ b < hi') (hne : hi ≤ lo' ∨ hi' ≤ lo) : Fr E w' B A c xs :=
  h.grown k fun b hb => by
    by_cases hc : c = 0
    · exact .inl hc
    · refine .inr ?_
      rintro rfl
      have h1 := hr b hb
      have h2 := ha b (rowOf_some (by omega))
      omega

theorem ret_bool {a b : Bool} (h : a = b) : Ending.returned (.bool a) = .returned (.bool b) := by rw [h]
theorem ret_int {k : IntKind} {a b : Int} (h : a = b) : Ending.returned (.int k a) = .returned (.int k b) := by rw [h]

end Go.Proofs.YtbdlpbladpppjaaDoor
/- The program's structures as plain Lean data, and how each element of a slice lies in cells. No program in sight. -/
namespace Go.Proofs.YtbdlpbladpppjaaDoor
open Go.ChangeShapes Go.WideShapes Go.ChangeAt Go.RowKit
open Rec (sz cs)

structure OwnD where
  space : Int
  tag : Int
deriving DecidableEq, Inhabited

structure KeyD where
  space : Int
  page : Int
deriving DecidableEq, Inhabited

structure FrameD where
  used : Bool
  key : KeyD
  rights : Int
  next : Int
deriving DecidableEq, Inhabited

structure LineD where
  valid : Bool
  tag : Int
  page : Int
  frame : Int
  rights : Int
  wired : Bool
deriving DecidableEq, Inhabited

structure NoteD where
  key : KeyD
  frame : Int
deriving DecidableEq, Inhabited

instance : Rec Int where
  sz := 1
  cs n := [.int .i64 n]
  len _ := rfl
  pos := by decide
  one _ u hu := by simp at hu; subst hu; rfl

instance : Rec Bool where
  sz := 1
  cs b := [.bool b]
  len _ := rfl
  pos := by decide
  one _ u hu := by simp at hu; subst hu; rfl

instance : Rec OwnD where
  sz := 2
  cs o := [.int .i64 o.space, .int .i64 o.tag]
  len _ := rfl
  pos := by decide
  one _ u hu := by simp at hu; rcases hu with rfl | rfl <;> rfl

instance : Rec KeyD where
  sz := 2
  cs o := [.int .i64 o.space, .int .i64 o.page]
  len _ := rfl
  pos := by decide
  one _ u hu := by simp at hu; rcases hu with rfl | rfl <;> rfl

instance : Rec NoteD where
  sz := 3
  cs o := [.int .i64 o.key.space, .int .i64 o.key.page, .int .i64 o.frame]
  len _ := rfl
  pos := by decide
  one _ u hu := by simp at hu; rcases hu with rfl | rfl | rfl <;> rfl

instance : Rec FrameD where
  sz := 5
  cs o := [.bool o.used, .int .i64 o.key.space, .int .i64 o.key.page, .int .i64 o.rights, .int .i64 o.next]
  len _ := rfl
  pos := by decide
  one _ u hu := by simp at hu; rcases hu with rfl | rfl | rfl | rfl | rfl <;> rfl

instance : Rec LineD where
  sz := 6
  cs o := [.bool o.valid, .int .i64 o.tag, .int .i64 o.page, .int .i64 o.frame, .int .i64 o.rights, .bool o.wired]
  len _ := rfl
  pos := by decide
  one _ u hu := by simp at hu; rcases hu with rfl | rfl | rfl | rfl | rfl | rfl <;> rfl

structure TagsD where
  count : Int
  next : Int
  round : Int
  owns : List OwnD
deriving DecidableEq, Inhabited

structure CacheD where
  lines : List LineD
  hand : Int
deriving DecidableEq, Inhabited

structure TableD where
  buckets : List Int
  frames : List FrameD
deriving DecidableEq, Inhabited

structure MachD where
  table : TableD
  cache : CacheD
  tags : TagsD
  space : Int
deriving DecidableEq, Inhabited

structure MemD where
  mach : MachD
  marks : List Bool
  hand : Int
deriving DecidableEq, Inhabited

section
variable {w : World} {A : Option Addr} {k : Nat}

/-! ### One element, in the walk's own spelling -/
theorem Rd.own {xs : List OwnD} (h : Rd w A xs) (hk : k < xs.length) : ∃ b off x, A = some ⟨b, off, none⟩ ∧ b < w.heap.size ∧ xs[k]? = some x ∧
    w.cell? ⟨b, off + k * 2, none⟩ = some (.int .i64 x.space) ∧ w.cell? ⟨b, off + k * 2 + 1, none⟩ = some (.int .i64 x.tag) := by
  obtain ⟨b, off, x, e, hb, hx, hc⟩ := h.at_ hk
  exact ⟨b, off, x, e, hb, hx, hc 0 _ (by decide) rfl, hc 1 _ (by decide) rfl⟩
theorem Rd.int {xs : List Int} (h : Rd w A xs) (hk : k < xs.length) : ∃ b off x, A = some ⟨b, off, none⟩ ∧ b < w.heap.size ∧ xs[k]? = some x ∧
    w.cell? ⟨b, off + k, none⟩ = some (.int .i64 x) := by
  obtain ⟨b, off, x, e, hb, hx, hc⟩ := h.at_ hk
  exact ⟨b, off, x, e, hb, hx, by have := hc 0 _ (by decide) rfl; simpa [sz] using this⟩
theorem Rd.bool {xs : List Bool} (h : Rd w A xs) (hk : k < xs.length) : ∃ b off x, A = some ⟨b, off, none⟩ ∧ b < w.heap.size ∧ xs[k]? = some x ∧
    w.cell? ⟨b, off + k, none⟩ = some (.bool x) := by
  obtain ⟨b, off, x, e, hb, hx, hc⟩ := h.at_ hk
  exact ⟨b, off, x, e, hb, hx, by have := hc 0 _ (by decide) rfl; simpa [sz] using this⟩
theorem Rd.line {xs : List LineD} (h : Rd w A xs) (hk : k < xs.length) : ∃ b off x, A = some ⟨b, off, none⟩ ∧ b < w.heap.size ∧ xs[k]? = some x ∧
    w.cell? ⟨b, off + k * 6, none⟩ = some (.bool x.valid) ∧ w.cell? ⟨b, off + k * 6 + 1, none⟩ = some (.int .i64 x.tag) ∧
    w.cell? ⟨b, off + k * 6 + 2, none⟩ = some (.int .i64 x.page) ∧ w.cell? ⟨b, off + k * 6 + 3, none⟩ = some (.int .i64 x.frame) ∧
    w.cell? ⟨b, off + k * 6 + 4, none⟩ = some (.int .i64 x.rights) ∧ w.cell? ⟨b, off + k * 6 + 5, none⟩ = some (.bool x.wired) := by
  obtain ⟨b, off, x, e, hb, hx, hc⟩ := h.at_ hk
  exact ⟨b, off, x, e, hb, hx, hc 0 _ (by decide) rfl, hc 1 _ (by decide) rfl, hc 2 _ (by decide) rfl, hc 3 _ (by decide) rfl, hc 4 _ (by decide) rfl, hc 5 _ (by decide) rfl⟩
theorem Rd.frame {xs : List FrameD} (h : Rd w A xs) (hk : k < xs.length) : ∃ b off x, A = some ⟨b, off, none⟩ ∧ b < w.heap.size ∧ xs[k]? = some x ∧
    w.cell? ⟨b, off + k * 5, none⟩ = some (.bool x.used) ∧ w.cell? ⟨b, off + k * 5 + 1, none⟩ = some (.int .i64 x.key.space) ∧
    w.cell? ⟨b, off + k * 5 + 2, none⟩ = some (.int .i64 x.key.page) ∧ w.cell? ⟨b, off + k * 5 + 3, none⟩ = some (.int .i64 x.rights) ∧
    w.cell? ⟨b, off + k * 5 + 4, none⟩ = some (.int .i64 x.next) := by
  obtain ⟨b, off, x, e, hb, hx, hc⟩ := h.at_ hk
  exact ⟨b, off, x, e, hb, hx, hc 0 _ (by decide) rfl, hc 1 _ (by decide) rfl, hc 2 _ (by decide) rfl, hc 3 _ (by decide) rfl, hc 4 _ (by decide) rfl⟩
end

/-! ### Elements of a row of the call's own -/
section
variable {E g k : Nat} {w : World} {rest : List Value}
theorem Bk.own {zs : List OwnD} {z : OwnD} (h : Bk E w g zs rest) (hz : zs[k]? = some z) : w.cell? ⟨g, k * 2, none⟩ = some (.int .i64 z.space) ∧ w.cell? ⟨g, k * 2 + 1, none⟩ = some (.int .i64 z.tag) :=
  ⟨h.cell_at hz (j := 0) (by decide) rfl, h.cell_at hz (j := 1) (by decide) rfl⟩
theorem Bk.line {zs : List LineD} {z : LineD} (h : Bk E w g zs rest) (hz : zs[k]? = some z) : w.cell? ⟨g, k * 6, none⟩ = some (.bool z.valid) ∧ w.cell? ⟨g, k * 6 + 1, none⟩ = some (.int .i64 z.tag) ∧ w.cell? ⟨g, k * 6 + 2, none⟩ = some (.int .i64 z.page) ∧ w.cell? ⟨g, k * 6 + 3, none⟩ = some (.int .i64 z.frame) ∧ w.cell? ⟨g, k * 6 + 4, none⟩ = some (.int .i64 z.rights) ∧ w.cell? ⟨g, k * 6 + 5, none⟩ = some (.bool z.wired) :=
  ⟨h.cell_at hz (j := 0) (by decide) rfl, h.cell_at hz (j := 1) (by decide) rfl, h.cell_at hz (j := 2) (by decide) rfl, h.cell_at hz (j := 3) (by decide) rfl, h.cell_at hz (j := 4) (by decide) rfl, h.cell_at hz (j := 5) (by decide) rfl⟩
theorem Bk.frame {zs : List FrameD} {z : FrameD} (h : Bk E w g zs rest) (hz : zs[k]? = some z) : w.cell? ⟨g, k * 5, none⟩ = some (.bool z.used) ∧ w.cell? ⟨g, k * 5 + 1, none⟩ = some (.int .i64 z.key.space) ∧ w.cell? ⟨g, k * 5 + 2, none⟩ = some (.int .i64 z.key.page) ∧ w.cell? ⟨g, k * 5 + 3, none⟩ = some (.int .i64 z.rights) ∧ w.cell? ⟨g, k * 5 + 4, none⟩ = some (.int .i64 z.next) :=
  ⟨h.cell_at hz (j := 0) (by decide) rfl, h.cell_at hz (j := 1) (by decide) rfl, h.cell_at hz (j := 2) (by decide) rfl, h.cell_at hz (j := 3) (by decide) rfl, h.cell_at hz (j := 4) (by decide) rfl⟩
theorem Bk.set_frame {zs : List FrameD} (h : Bk E w g zs rest) (x : FrameD) (hk : k < zs.length) : Bk E (((((w.setCell ⟨g, k * 5, none⟩ (.bool x.used)).setCell ⟨g, k * 5 + 1, none⟩ (.int .i64 x.key.space)).setCell ⟨g, k * 5 + 2, none⟩ (.int .i64 x.key.page)).setCell ⟨g, k * 5 + 3, none⟩ (.int .i64 x.rights)).setCell ⟨g, k * 5 + 4, none⟩ (.int .i64 x.next)) g (zs.set k x) rest := by
  obtain ⟨z, hz⟩ : ∃ z, zs[k]? = some z := ⟨_, List.getElem?_eq_getElem hk⟩
  have h1 := Bk.set h (k := k) (j := 0) (x := (z : FrameD)) (y := (⟨x.used, ⟨z.key.space, z.key.page⟩, z.rights, z.next⟩ : FrameD)) (u := (.bool x.used)) (off := k * 5) hz (by decide) rfl (by simp [sz])
  have h2 := Bk.set h1 (k := k) (j := 1) (x := (⟨x.used, ⟨z.key.space, z.key.page⟩, z.rights, z.next⟩ : FrameD)) (y := (⟨x.used, ⟨x.key.space, z.key.page⟩, z.rights, z.next⟩ : FrameD)) (u := (.int .i64 x.key.space)) (off := k * 5 + 1) (by rw [List.getElem?_set_self (by simpa using hk)]) (by decide) rfl (by simp [sz])
  rw [List.set_set] at h2
  have h3 := Bk.set h2 (k := k) (j := 2) (x := (⟨x.used, ⟨x.key.space, z.key.page⟩, z.rights, z.next⟩ : FrameD)) (y := (⟨x.used, ⟨x.key.space, x.key.page⟩, z.rights, z.next⟩ : FrameD)) (u := (.int .i64 x.key.page)) (off := k * 5 + 2) (by rw [List.getElem?_set_self (by simpa using hk)]) (by decide) rfl (by simp [sz])
  rw [List.set_set] at h3
  have h4 := Bk.set h3 (k := k) (j := 3) (x := (⟨x.used, ⟨x.key.space, x.key.page⟩, z.rights, z.next⟩ : FrameD)) (y := (⟨x.used, ⟨x.key.space, x.key.page⟩, x.rights, z.next⟩ : FrameD)) (u := (.int .i64 x.rights)) (off := k * 5 + 3) (by rw [List.getElem?_set_self (by simpa using hk)]) (by decide) rfl (by simp [sz])
  rw [List.set_set] at h4
  have h5 := Bk.set h4 (k := k) (j := 4) (x := (⟨x.used, ⟨x.key.space, x.key.page⟩, x.rights, z.next⟩ : FrameD)) (y := (⟨x.used, ⟨x.key.space, x.key.page⟩, x.rights, x.next⟩ : FrameD)) (u := (.int .i64 x.next)) (off := k * 5 + 4) (by rw [List.getElem?_set_self (by simpa using hk)]) (by decide) rfl (by simp [sz])
  rw [List.set_set] at h5
  exact h5
theorem Bk.key {zs : List KeyD} {z : KeyD} (h : Bk E w g zs rest) (hz : zs[k]? = some z) : w.cell? ⟨g, k * 2, none⟩ = some (.int .i64 z.space) ∧ w.cell? ⟨g, k * 2 + 1, none⟩ = some (.int .i64 z.page) :=
  ⟨h.cell_at hz (j := 0) (by decide) rfl, h.cell_at hz (j := 1) (by decide) rfl⟩
theorem Bk.int {zs : List Int} {z : Int} (h : Bk E w g zs rest) (hz : zs[k]? = some z) : w.cell? ⟨g, k, none⟩ = some (.int .i64 z) :=
  by have := h.cell_at hz (j := 0) (by decide) rfl; simpa [sz] using this
theorem Bk.set_int {zs : List Int} (h : Bk E w g zs rest) (x : Int) (hk : k < zs.length) : Bk E (w.setCell ⟨g, k, none⟩ (.int .i64 x)) g (zs.set k x) rest := by
  exact h.set (List.getElem?_eq_getElem hk) (j := 0) (y := x) (by decide) rfl (by simp [sz])
theorem Bk.bool {zs : List Bool} {z : Bool} (h : Bk E w g zs rest) (hz : zs[k]? = some z) : w.cell? ⟨g, k, none⟩ = some (.bool z) :=
  by have := h.cell_at hz (j := 0) (by decide) rfl; simpa [sz] using this
end

/-! ### Comparing lists element by element -/

theorem getElem?_lt {α : Type} {xs : List α} {k : Nat} {x : α} (h : xs[k]? = some x) : k < xs.length := (List.getElem?_eq_some_iff.1 h).1

theorem take_succ_of {α : Type} {xs : List α} {k : Nat} {x : α} (h : xs[k]? = some x) : xs.take (k + 1) = xs.take k ++ [x] := by
  rw [List.take_add_one, h]; rfl

theorem take_eq_step {α : Type} {xs ys : List α} {k : Nat} {x y : α} (hx : xs[k]? = some x) (hy : ys[k]? = some y) :
    xs.take (k + 1) = ys.take (k + 1) ↔ xs.take k = ys.take k ∧ x = y := by
  rw [take_succ_of hx, take_succ_of hy]
  have h1 : (xs.take k).length = (ys.take k).length := by
    have := getElem?_lt hx
    have := getElem?_lt hy
    rw [List.length_take, List.length_take]; omega
  constructor
  · intro h
    have := List.append_inj h h1
    exact ⟨this.1, by simpa using this.2⟩
  · rintro ⟨h, rfl⟩
    rw [h]

theorem ne_of_elem {α : Type} {xs ys : List α} {k : Nat} {x y : α} (hx : xs[k]? = some x) (hy : ys[k]? = some y) (h : x ≠ y) : xs ≠ ys := by
  rintro rfl
  rw [hx] at hy
  injection hy with hy
  exact h hy

theorem eq_of_take {α : Type} {xs ys : List α} {n : Nat} (hx : xs.length = n) (hy : ys.length = n) (h : xs.take n = ys.take n) : xs = ys := by
  rwa [List.take_of_length_le (by omega), List.take_of_length_le (by omega)] at h


/-- 0 ≤ n < e, as a Bool that the walk leaves alone. -/
def inB (n e : Int) : Bool := decide (0 ≤ n ∧ n < e)
theorem inB_true {n e : Int} : inB n e = true ↔ 0 ≤ n ∧ n < e := by simp [inB]
/-- Equality of data, as a Bool that the walk leaves alone. -/
def eqB {α : Type} [DecidableEq α] (a b : α) : Bool := decide (a = b)
theorem eqB_true {α : Type} [DecidableEq α] {a b : α} : eqB a b = true ↔ a = b := by simp [eqB]
theorem eqB_false {α : Type} [DecidableEq α] {a b : α} : eqB a b = false ↔ a ≠ b := by simp [eqB]
theorem eqB_self {α : Type} [DecidableEq α] (a : α) : eqB a a = true := by simp [eqB]

end Go.Proofs.YtbdlpbladpppjaaDoor
/- Contracts of the reader of drawn bytes: l12Open, pick, num. -/
namespace Go.Proofs.YtbdlpbladpppjaaDoor
open Go.ChangeShapes Go.WideShapes Go.ChangeAt Go.RowKit
open Rec (sz cs)
set_option linter.unusedVariables false
set_option maxRecDepth 100000

/-- A byte of the drawn code. -/
structure ByteD where
  n : Int
deriving DecidableEq, Inhabited

instance : Rec ByteD where
  sz := 1
  cs b := [.int .u8 b.n]
  len _ := rfl
  pos := by decide
  one _ u hu := by simp at hu; subst hu; rfl

theorem Rd.byte {w : World} {A : Option Addr} {k : Nat} {xs : List ByteD} (h : Rd w A xs) (hk : k < xs.length) : ∃ b off x, A = some ⟨b, off, none⟩ ∧ b < w.heap.size ∧ xs[k]? = some x ∧
    w.cell? ⟨b, off + k, none⟩ = some (.int .u8 x.n) := by
  obtain ⟨b, off, x, e, hb, hx, hc⟩ := h.at_ hk
  exact ⟨b, off, x, e, hb, hx, by have := hc 0 _ (by decide) rfl; simpa [sz] using this⟩

def Bytes (bs : List ByteD) : Prop := ∀ b ∈ bs, 0 ≤ b.n ∧ b.n ≤ 255

/-- Block g is a reader that has picked p times. -/
def Rdr (w : World) (g p : Nat) : Prop := ∃ A c bs, Blk w g 59 [.slice A bs.length c, .int .i64 (p : Int)] ∧ Rd w A bs ∧ bs.length ≤ 2000 ∧ bs.length ≤ c ∧ Bytes bs ∧ (0 < bs.length → ∀ b o, A = some ⟨b, o, none⟩ → b < g)

theorem Rdr.ex {w w' : World} {g p : Nat} (h : Rdr w g p) (k : Ex w w') : Rdr w' g p := by
  obtain ⟨A, c, bs, h1, h2, h3⟩ := h
  exact ⟨A, c, bs, h1.ex k, h2.ex k, h3⟩
theorem Rdr.alloc {w : World} {g p : Nat} (h : Rdr w g p) (o : Obj) : Rdr (w.alloc o) g p := h.ex ((Ex.refl w).alloc o)
theorem Rdr.drew {w : World} {g p : Nat} (h : Rdr w g p) : Rdr w.drew g p := h.ex ((Ex.refl w).drew)
theorem Rdr.lt {w : World} {g p : Nat} (h : Rdr w g p) : g < w.heap.size := by
  obtain ⟨A, c, bs, h1, _⟩ := h
  exact h1.lt

theorem Rd.lits (w : World) (T : TypeId) (zs : List Int) : Rd (w.alloc (.cells (zs.map (Value.int .i64)).toArray T)) (some ⟨w.heap.size, 0, none⟩) zs := by
  have e : flat zs = zs.map (Value.int .i64) := by
    induction zs with
    | nil => rfl
    | cons z zs ih => simp [ih, cs]
  have := Bk.rd (Bk.new w T zs)
  rwa [e] at this

set_option maxHeartbeats 400000 in
theorem l12Open_c (A : Option Addr) (c : Nat) (bs : List ByteD) (w : World) (hx : Rd w A bs) (hb : Bytes bs) (hn : bs.length ≤ 1048576) (hc : bs.length ≤ c) (hcm : c ≤ maxLen) :
    Calls Tryd.prog 10 #[.slice A bs.length c] w fun r w' => ∃ g, r = .returned (.pointer (some ⟨g, 0, none⟩)) ∧ Rdr w' g 0 ∧ w.heap.size ≤ g ∧ Ex w w' := by
  have H1 := Lib.hid hx
  have hlt : 0 < bs.length → ∀ b o, A = some ⟨b, o, none⟩ → b < w.heap.size := fun h0 b o e => by
    obtain ⟨b', o', e', hb', _⟩ := hx h0
    rw [e] at e'
    injection e' with e'
    injection e' with e1
    omega
  have H2 := Lib.hid hlt
  unfold maxLen at hcm
  clear hx hlt
  by_cases h2 : 2000 < bs.length
  · have hl : (bs.take 2000).length = 2000 := by rw [List.length_take]; omega
    have h3 : (2000 : Int) < (bs.length : Int) := by omega
    have HL := Lib.hid hl
    clear hl
    go_enter Tryd.func10, Tryd.ntmps10
    go_wp2
    go_ret
    refine ⟨_, rfl, ⟨A, c, bs.take 2000, ?_, (H1.out.take 2000).alloc _, by rw [HL.out]; exact Nat.le_refl _, by rw [HL.out]; omega, fun b hb' => hb b (List.mem_of_mem_take hb'), fun _ => H2.out (by omega)⟩, Nat.le_refl _, (Ex.refl _).alloc _⟩
    rw [HL.out]
    exact Blk.new_at _ _ _ rfl
  · have h3 : ¬ (2000 : Int) < (bs.length : Int) := by omega
    go_enter Tryd.func10, Tryd.ntmps10
    go_wp2
    go_ret
    exact ⟨_, rfl, ⟨A, c, bs, Blk.new_at _ _ _ rfl, H1.out.alloc _, by omega, hc, hb, H2.out⟩, Nat.le_refl _, (Ex.refl _).alloc _⟩

theorem ofInt_i64 (a : Nat) (ha : a < 9223372036854775808) : (BitVec.ofInt 64 (a : Int)).toNat = a := by
  rw [BitVec.ofInt_natCast, BitVec.toNat_ofNat]; exact Nat.mod_eq_of_lt (by omega)
theorem i64_xor_nat (a b : Nat) (ha : a < 9223372036854775808) (hb : b < 9223372036854775808) : bits .xor .i64 (a : Int) (b : Int) = ((a ^^^ b : Nat) : Int) := by
  have hx : a ^^^ b < 2 ^ 63 := Nat.xor_lt_two_pow (by omega) (by omega)
  show IntKind.i64.wrap ((BitVec.ofInt 64 (a : Int) ^^^ BitVec.ofInt 64 (b : Int)).toNat : Int) = _
  rw [BitVec.toNat_xor, ofInt_i64 a ha, ofInt_i64 b hb, IntKind.wrap_i64]
  omega

def InB (v n : Int) : Prop := 0 ≤ v ∧ (1 ≤ n → v < n) ∧ (n < 1 → v = 0)

/-- What a pick leaves. -/
def Picked (g p : Nat) (n : Int) (w : World) (e : Ending) (w' : World) : Prop := ∃ v : Int, e = .returned (.int .i64 v) ∧ InB v n ∧ Rdr w' g (p + 1) ∧ w.grownBy w' (some g)

theorem rdr_step {w : World} {g p : Nat} {A : Option Addr} {c : Nat} {bs : List ByteD} (h1 : Blk w g 59 [.slice A bs.length c, .int .i64 (p : Int)]) (h2 : Rd w A bs) (h3 : bs.length ≤ 2000) (h4 : bs.length ≤ c) (h5 : Bytes bs) (h6 : 0 < bs.length → ∀ b o, A = some ⟨b, o, none⟩ → b < g) :
    Rdr (w.setCell ⟨g, 1, none⟩ (.int .i64 ((p : Int) + 1))) g (p + 1) := by
  refine ⟨A, c, bs, ?_, ?_, h3, h4, h5, h6⟩
  · have := h1.set 1 (.int .i64 ((p : Int) + 1))
    simpa using this
  · intro h0
    obtain ⟨b, o, e, hb, hc⟩ := h2 h0
    have := h6 h0 b o e
    exact ⟨b, o, e, by simpa using hb, fun m u hu => (World.cell?_setCell_other w ⟨g, 1, none⟩ ⟨b, o + m, none⟩ _ (by intro e; injection e with e1; omega)).trans (hc m u hu)⟩

set_option maxHeartbeats 1000000 in
theorem pick_c (g p : Nat) (n : Int) (w : World) (h : Rdr w g p) (hp : p ≤ 1000000) (hn : n ≤ 1000000) :
    Calls Tryd.prog 29 #[.pointer (some ⟨g, 0, none⟩), .int .i64 n] w (Picked g p n w) := by
  obtain ⟨A, c, bs, h1, h2, h3, h4, h5, h6⟩ := h
  have hst := rdr_step h1 h2 h3 h4 h5 h6
  have HST := Lib.hid hst
  have HG : Hid (w.grownBy (w.setCell ⟨g, 1, none⟩ (.int .i64 ((p : Int) + 1))) (some g)) := Lib.hid (grown_set (grown_refl w _) _ _)
  obtain ⟨q0, q1⟩ := h1.c2
  have hfz := h1.frozen
  by_cases hn1 : n < 1
  · have HF : Hid (InB 0 n) := Lib.hid ⟨Int.le_refl _, fun h => by omega, fun _ => rfl⟩
    go_enter Tryd.func29, Tryd.ntmps29
    go_wp2
    go_ret
    exact ⟨0, rfl, HF.out, HST.out, HG.out⟩
  by_cases hb0 : bs.length = 0
  · have hbe : ((bs.length : Int) == 0) = true := by simp [hb0]
    have HF : Hid (InB 0 n) := Lib.hid ⟨Int.le_refl _, fun h => by omega, fun _ => by omega⟩
    obtain ⟨m, hm⟩ : ∃ m, m = bs.length := ⟨_, rfl⟩
    rw [← hm] at q0 hbe
    clear hm hb0 h1 h2
    go_enter Tryd.func29, Tryd.ntmps29
    go_wp2
    go_ret
    exact ⟨0, rfl, HF.out, HST.out, HG.out⟩
  obtain ⟨m, hm⟩ : ∃ m, m = bs.length := ⟨_, rfl⟩
  have HM := Lib.hid hm
  rw [← hm] at q0 h3 hb0
  have hmp : 0 < m := by omega
  have hne : ((m : Int) == 0) = false := by simp; omega
  have hn1' : ¬ n < 1 := hn1
  have key : ∀ k : Nat, k < m → ∃ b o x, A = some ⟨b, o, none⟩ ∧ 0 ≤ x ∧ x ≤ 255 ∧ (w.setCell ⟨g, 1, none⟩ (.int .i64 ((p : Int) + 1))).cell? ⟨b, o + k, none⟩ = some (.int .u8 x) := by
    intro k hk
    obtain ⟨b, o, x, e, hb, hx, hc⟩ := Rd.byte h2 (k := k) (by omega)
    have h7 := h6 (by omega) b o e
    have h8 := h5 x (List.mem_of_getElem? hx)
    exact ⟨b, o, x.n, e, h8.1, h8.2, (World.cell?_setCell_other w ⟨g, 1, none⟩ ⟨b, o + k, none⟩ _ (by intro e; injection e with e1; omega)).trans hc⟩
  have KEY := Lib.hid key
  clear key hst h1 h2 h5 h6 hm
  by_cases hlt : p < m
  · obtain ⟨b, o, x, rfl, hx0, hx1, hcell⟩ := KEY.out p hlt
    have HF : Hid (InB (x % n) n) := Lib.hid ⟨Int.emod_nonneg _ (by omega), fun _ => Int.emod_lt_of_pos _ (by omega), fun h => by omega⟩
    go_enter Tryd.func29, Tryd.ntmps29
    go_wp2
    go_ret
    exact ⟨x % n, rfl, HF.out, HST.out, HG.out⟩
  · have hge : ¬ (p : Int) < (m : Int) := by omega
    obtain ⟨b, o, x, rfl, hx0, hx1, hcell⟩ := KEY.out (p % m) (Nat.mod_lt _ hmp)
    obtain ⟨b', o', y, e', hy0, hy1, hcell'⟩ := KEY.out ((p * 7 + 3) % m) (Nat.mod_lt _ hmp)
    injection e' with e'
    injection e' with e1 e2
    subst e1 e2
    have d1 : (0 : Int) ≤ (p : Int) % (m : Int) := Int.emod_nonneg _ (by omega)
    have d2 : (p : Int) % (m : Int) < (m : Int) := Int.emod_lt_of_pos _ (by omega)
    have d3 : (0 : Int) ≤ ((p : Int) * 7 + 3) % (m : Int) := Int.emod_nonneg _ (by omega)
    have d4 : ((p : Int) * 7 + 3) % (m : Int) < (m : Int) := Int.emod_lt_of_pos _ (by omega)
    have d5 : ((p : Int) % (m : Int)).toNat = p % m := by omega
    have d6 : (((p : Int) * 7 + 3) % (m : Int)).toNat = (p * 7 + 3) % m := by
      have e : ((p : Int) * 7 + 3) % (m : Int) = (((p * 7 + 3) % m : Nat) : Int) := by simp
      rw [e, Int.toNat_natCast]
    have d7 : (0 : Int) ≤ (p : Int) / (m : Int) := Int.ediv_nonneg (by omega) (by omega)
    have d8 : (p : Int) / (m : Int) ≤ 1000000 := by
      have e : (p : Int) / (m : Int) = ((p / m : Nat) : Int) := by simp
      rw [e]; have := Nat.div_le_self p m; omega
    go_enter Tryd.func29, Tryd.ntmps29
    go_wp2_with fail
    go_quiet (fail)
    have x0 : 0 ≤ x * 131 + y * 1117 + (p : Int) * 29 + (p : Int) / (m : Int) * 53 := by omega
    have x1 : x * 131 + y * 1117 + (p : Int) * 29 + (p : Int) / (m : Int) * 53 ≤ 1000000000 := by omega
    generalize hq : x * 131 + y * 1117 + (p : Int) * 29 + (p : Int) / (m : Int) * 53 = q at x0 x1 ⊢
    obtain ⟨q, rfl⟩ := Int.eq_ofNat_of_zero_le x0
    clear hq d1 d2 d3 d4 d5 d6 d7 d8 hcell hcell'
    have hx : bits .xor .i64 (q : Int) ((q : Int) / 64) = ((q ^^^ (q / 64) : Nat) : Int) := by
      have := i64_xor_nat q (q / 64) (by omega) (by omega)
      simpa using this
    have hxb : q ^^^ (q / 64) < 2 ^ 30 := Nat.xor_lt_two_pow (by omega) (by omega)
    have hxb' : (0 : Int) ≤ ((q ^^^ (q / 64) : Nat) : Int) := by omega
    generalize hz : q ^^^ (q / 64) = z at hx hxb hxb'
    clear hz
    have HF : Hid (InB ((z : Int) % n) n) := Lib.hid ⟨Int.emod_nonneg _ (by omega), fun _ => Int.emod_lt_of_pos _ (by omega), fun h => by omega⟩
    go_wp2
    go_ret
    exact ⟨(z : Int) % n, rfl, HF.out, HST.out.ex ((Ex.refl _).drewN _), grown_ex HG.out ((Ex.refl _).drewN _)⟩

/-- What a choice among the numbers zs leaves. -/
def Chosen (g p : Nat) (zs : List Int) (w : World) (e : Ending) (w' : World) : Prop := ∃ v : Int, e = .returned (.int .i64 v) ∧ v ∈ zs ∧ Rdr w' g (p + 1) ∧ w.grownBy w' (some g)

set_option maxHeartbeats 1000000 in
theorem num_c (g p b o c : Nat) (zs : List Int) (w : World) (h : Rdr w g p) (hz : Rd w (some ⟨b, o, none⟩) zs) (h0 : 0 < zs.length) (h1 : zs.length ≤ 1000000) (hp : p ≤ 1000000) (hbg : b ≠ g) :
    Calls Tryd.prog 13 #[.pointer (some ⟨g, 0, none⟩), .slice (some ⟨b, o, none⟩) zs.length c] w (Chosen g p zs w) := by
  have H := Lib.hid h
  have HZ := Lib.hid hz
  obtain ⟨n, hn⟩ : ∃ n, n = zs.length := ⟨_, rfl⟩
  have HN := Lib.hid hn
  rw [← hn] at h0 h1 ⊢
  clear h hz hn
  go_enter Tryd.func13, Tryd.ntmps13
  go_wp2_with fail
  refine (pick_c g p n w H.out hp (by omega)).mono ?_
  rintro r w1 ⟨v, rfl, ⟨hv0, hv1, hv2⟩, hr, hg⟩
  have hv1' : v < n := hv1 (by omega)
  obtain ⟨k, rfl⟩ := Int.eq_ofNat_of_zero_le hv0
  have hk : k < n := by omega
  have hgr : Rd w1 (some ⟨b, o, none⟩) zs := HZ.out.grown hg (fun b' e off e' => by injection e with e; injection e' with e'; injection e' with e1; omega)
  obtain ⟨b', o', x, e, hb, hx, hc⟩ := Rd.int hgr (k := k) (by have := HN.out; omega)
  injection e with e
  injection e with e1 e2
  subst e1 e2
  have HX : Hid (x ∈ zs) := Lib.hid (List.mem_of_getElem? hx)
  have HR := Lib.hid hr
  have HG := Lib.hid hg
  clear hv1 hv2 hr hg hgr hx
  go_wp2
  go_ret
  exact ⟨x, rfl, HX.out, HR.out, HG.out⟩
end Go.Proofs.YtbdlpbladpppjaaDoor
/- Worlds of which only the blocks of one range have turned: one relation by which a walk carries all that it knows. No program in sight. -/
namespace Go.Proofs.YtbdlpbladpppjaaDoor
open Go.ChangeShapes Go.WideShapes Go.ChangeAt Go.RowKit
open Rec (sz cs)

/-- Of the blocks that were there, only those from lo on and before hi may have turned. -/
structure Chg (lo hi : Nat) (w w' : World) : Prop where
  os : w'.os = w.os
  tape : w'.tape = w.tape
  output : w'.output = w.output
  size : w.heap.size ≤ w'.heap.size
  block : ∀ i, i < w.heap.size → ¬ (lo ≤ i ∧ i < hi) → w'.heap[i]? = w.heap[i]?

section
variable {lo hi lo' hi' : Nat} {a w w' w'' : World}
theorem Chg.refl (lo hi : Nat) (w : World) : Chg lo hi w w := ⟨rfl, rfl, rfl, Nat.le_refl _, fun _ _ _ => rfl⟩
theorem Chg.of_ex (h : Ex w w') : Chg 0 0 w w' := ⟨h.os, h.tape, h.output, h.size, fun _ hi _ => h.block hi⟩
theorem Chg.of_grown {row : Option Nat} (h : w.grownBy w' row) (hr : ∀ b, row = some b → lo ≤ b ∧ b < hi) : Chg lo hi w w' :=
  ⟨h.os, h.tape, h.output, h.size, fun i hi hn => h.block i hi (fun e => hn (hr i e.symm))⟩
theorem Chg.mono (h : Chg lo hi w w') (h1 : lo' ≤ lo) (h2 : hi ≤ hi') : Chg lo' hi' w w' := ⟨h.os, h.tape, h.output, h.size, fun i hi hn => h.block i hi (fun e => hn ⟨Nat.le_trans h1 e.1, Nat.lt_of_lt_of_le e.2 h2⟩)⟩
theorem Chg.mono' (h : Chg 0 0 w w') (lo hi : Nat) : Chg lo hi w w' := ⟨h.os, h.tape, h.output, h.size, fun i hi _ => h.block i hi (by omega)⟩
theorem Chg.trans (h : Chg lo hi w w') (k : Chg lo hi w' w'') : Chg lo hi w w'' :=
  ⟨k.os.trans h.os, k.tape.trans h.tape, k.output.trans h.output, Nat.le_trans h.size k.size, fun i hi hn => (k.block i (Nat.lt_of_lt_of_le hi h.size) hn).trans (h.block i hi hn)⟩
theorem Chg.step {l h : Nat} (e : Chg lo hi a w) (k : Chg l h w w') (hl : h ≤ l ∨ a.heap.size ≤ l ∨ (lo ≤ l ∧ h ≤ hi)) : Chg lo hi a w' :=
  ⟨k.os.trans e.os, k.tape.trans e.tape, k.output.trans e.output, Nat.le_trans e.size k.size, fun i hi' hn => (k.block i (Nat.lt_of_lt_of_le hi' e.size) (by omega)).trans (e.block i hi' hn)⟩
theorem Chg.grown {g : Nat} (k : Chg g (g + 1) w w') : w.grownBy w' (some g) :=
  ⟨k.os, k.tape, k.output, k.size, fun i hi hn => k.block i hi (fun e => hn (by congr 1; omega))⟩
theorem Chg.alloc (h : Chg lo hi a w) (o : Obj) : Chg lo hi a (w.alloc o) :=
  ⟨h.os, h.tape, h.output, Nat.le_trans h.size (by simp), fun i hi hn => (Below.heap_alloc w o i (Nat.lt_of_lt_of_le hi h.size)).trans (h.block i hi hn)⟩
theorem Chg.drew (h : Chg lo hi a w) : Chg lo hi a w.drew := ⟨h.os, h.tape, h.output, h.size, h.block⟩
theorem Chg.drewN (h : Chg lo hi a w) (n : Nat) : Chg lo hi a (w.drewN n) := ⟨h.os, h.tape, h.output, h.size, h.block⟩
theorem Chg.set (h : Chg lo hi a w) {g o : Nat} (hp : (lo ≤ g ∧ g < hi) ∨ a.heap.size ≤ g) (u : Value) : Chg lo hi a (w.setCell ⟨g, o, none⟩ u) :=
  ⟨h.os, h.tape, h.output, by simpa [World.setCell] using h.size, fun i hi hn => (Below.heap_setCell w ⟨g, o, none⟩ u i (fun e => by rcases hp with hp | hp <;> simp at e <;> omega)).trans (h.block i hi hn)⟩
theorem Ex.put (h : Ex a w) {g o : Nat} (hp : a.heap.size ≤ g) (u : Value) : Ex a (w.setCell ⟨g, o, none⟩ u) := h.set hp u
theorem Ex.chg (h : Ex a w) (k : Chg lo hi w w') (hl : hi ≤ lo ∨ a.heap.size ≤ lo) : Ex a w' :=
  ⟨k.os.trans h.os, k.tape.trans h.tape, k.output.trans h.output, Nat.le_trans h.size k.size, fun i hi => (k.block i (Nat.lt_of_lt_of_le hi h.size) (by omega)).trans (h.block hi)⟩
theorem Chg.ex (k : Chg lo hi w w') (hl : hi ≤ lo ∨ w.heap.size ≤ lo) : Ex w w' := (Ex.refl w).chg k hl
theorem Chg.ex_ (k : Chg 0 0 w w') : Ex w w' := k.ex (.inl (Nat.le_refl _))
theorem Blk.put2 {g : Nat} {t : TypeId} {a b c d : Value} (h : Blk w g t [a, b]) : Blk ((w.setCell ⟨g, 0, none⟩ c).setCell ⟨g, 1, none⟩ d) g t [c, d] := (h.set 0 c).set 1 d
theorem Blk.chg {g : Nat} {t : TypeId} {c : List Value} (h : Blk w g t c) (k : Chg lo hi w w') (hn : g < lo ∨ hi ≤ g) : Blk w' g t c := (k.block g h.lt (by omega)).trans h
end

section
variable {α : Type} [Rec α] {lo hi l u : Nat} {w w' : World} {A : Option Addr} {xs : List α} {E : TypeId} {B c : Nat}
theorem Bk.chg {g : Nat} {rest : List Value} (h : Bk E w g xs rest) (k : Chg lo hi w w') (hn : g < lo ∨ hi ≤ g) : Bk E w' g xs rest := Blk.chg h k hn
theorem Bk.grown {g : Nat} {rest : List Value} {row : Option Nat} (h : Bk E w g xs rest) (k : w.grownBy w' row) (hn : some g ≠ row) : Bk E w' g xs rest := Blk.grown h k hn
theorem Fr.chg (h : Fr E w B A c xs) (k : Chg lo hi w w') (hr : ∀ b, rowOf A c = some b → l ≤ b ∧ b < u) (hn : u ≤ lo ∨ hi ≤ l ∨ hi ≤ lo) : Fr E w' B A c xs := by
  obtain ⟨hl, hm, h0 | ⟨g, rest, rfl, hB, hb, hs⟩⟩ := h
  · exact ⟨hl, hm, .inl h0⟩
  · by_cases hc : c = 0
    · exact ⟨hl, hm, .inl hc⟩
    · have := hr g (rowOf_some (by omega))
      exact ⟨hl, hm, .inr ⟨g, rest, rfl, hB, Blk.chg hb k (by omega), hs⟩⟩
theorem Fr.put {g o : Nat} (h : Fr E w B A c xs) (hr : ∀ b, rowOf A c = some b → b ≠ g) (v : Value) : Fr E (w.setCell ⟨g, o, none⟩ v) B A c xs := by
  obtain ⟨hl, hm, h0 | ⟨b, rest, rfl, hB, hb, hs⟩⟩ := h
  · exact ⟨hl, hm, .inl h0⟩
  · by_cases hc : c = 0
    · exact ⟨hl, hm, .inl hc⟩
    · exact ⟨hl, hm, .inr ⟨b, rest, rfl, hB, hb.far (hr b (rowOf_some (by omega))) v, hs⟩⟩
theorem Rd.chg (h : Rd w A xs) (k : Chg lo hi w w') (hn : ∀ b off, A = some ⟨b, off, none⟩ → b < lo ∨ hi ≤ b) : Rd w' A xs := fun h0 => by
  obtain ⟨b, off, rfl, hb, hc⟩ := h h0
  have hne := hn b off rfl
  exact ⟨b, off, rfl, Nat.lt_of_lt_of_le hb k.size, fun m u hu => (World.cell?_of_block (w := w) (a := ⟨b, off + m, none⟩) (k.block b hb (by omega))).trans (hc m u hu)⟩
end

/-- The world of a call gets a name. -/
theorem name_calls {P : Program} {f : FuncId} {args : Array Value} {w : World} {Q : Ending → World → Prop} (h : ∀ v, v = w → Calls P f args v Q) : Calls P f args w Q := h w rfl
end Go.Proofs.YtbdlpbladpppjaaDoor
/- The reader of drawn bytes, carried over worlds. -/
namespace Go.Proofs.YtbdlpbladpppjaaDoor
open Go.ChangeShapes Go.WideShapes Go.ChangeAt Go.RowKit
open Rec (sz cs)

theorem Rdr.chg {w w' : World} {g p lo hi : Nat} (h : Rdr w g p) (k : Chg lo hi w w') (h1 : g < lo ∨ hi ≤ lo) : Rdr w' g p := by
  obtain ⟨A, c, bs, a1, a2, a3, a4, a5, a6⟩ := h
  refine ⟨A, c, bs, a1.chg k (by omega), ?_, a3, a4, a5, a6⟩
  intro h0
  obtain ⟨b, o, e, hb, hc⟩ := a2 h0
  have := a6 h0 b o e
  exact ⟨b, o, e, Nat.lt_of_lt_of_le hb k.size, fun m u hu => (World.cell?_of_block (w := w) (a := ⟨b, o + m, none⟩) (k.block b hb (by omega))).trans (hc m u hu)⟩
theorem Rd.lits_at (w : World) (T : TypeId) (zs : List Int) {g : Nat} (hg : g = w.heap.size) : Rd (w.alloc (.cells (zs.map (Value.int .i64)).toArray T)) (some ⟨g, 0, none⟩) zs := by
  subst hg; exact Rd.lits _ _ _
end Go.Proofs.YtbdlpbladpppjaaDoor
/- Small rules on what a reader leaves as it is. -/
namespace Go.Proofs.YtbdlpbladpppjaaDoor
open Go.ChangeShapes Go.WideShapes Go.ChangeAt Go.RowKit
open Rec (sz cs)
set_option linter.unusedVariables false
set_option maxRecDepth 100000

theorem Rd.past {w w' : World} {g b : Nat} {xs : List Int} (h : Rd w (some ⟨b, 0, none⟩) xs) (k : w.grownBy w' (some g)) (hb : b ≠ g) : Rd w' (some ⟨b, 0, none⟩) xs :=
  h.grown k (fun b' e off e2 => by injection e with e; injection e2 with e2; injection e2 with e2; omega)
end Go.Proofs.YtbdlpbladpppjaaDoor
/- Contract of within. -/
namespace Go.Proofs.YtbdlpbladpppjaaDoor
open Go.ChangeShapes Go.WideShapes Go.ChangeAt Go.RowKit
set_option linter.unusedVariables false
set_option maxRecDepth 100000

set_option maxHeartbeats 400000 in
theorem within_c (n e : Int) (w : World) : Calls Tryd.prog 22 #[.int .i64 n, .int .i64 e] w fun r w' => r = .returned (.bool (inB n e)) ∧ w = w' := by
  by_cases h0 : 0 ≤ n
  · go_enter Tryd.func22, Tryd.ntmps22
    go_wp2
    go_ret
    exact ⟨ret_bool (by rw [Bool.eq_iff_iff, inB_true]; simp [h0]), rfl⟩
  · go_enter Tryd.func22, Tryd.ntmps22
    go_wp2
    go_ret
    exact ⟨ret_bool (by rw [Bool.eq_iff_iff, inB_true]; simp; omega), rfl⟩

end Go.Proofs.YtbdlpbladpppjaaDoor
/- When is a table valid: plain Lean, no walk in sight. -/
namespace Go.Proofs.YtbdlpbladpppjaaDoor
open Go.ChangeShapes Go.WideShapes Go.ChangeAt Go.RowKit
set_option linter.unusedVariables false

def keyOk (k : KeyD) : Prop := (0 ≤ k.space ∧ k.space < 16) ∧ (0 ≤ k.page ∧ k.page < 256)
def hashK (k : KeyD) (n : Int) : Int := (k.space * 256 + k.page) * 2654435761 % 4294967296 * n / 4294967296
def frameOk (f : FrameD) : Prop := (f.used = false → f = ⟨false, ⟨0, 0⟩, 0, -1⟩) ∧ (f.used = true → keyOk f.key ∧ 0 ≤ f.rights ∧ f.rights < 8)
/-- The first k frames are valid, each alone, and no two of them have the same key. -/
def FramesUp (fs : List FrameD) (k : Nat) : Prop := ∀ i f, i < k → fs[i]? = some f → frameOk f ∧ ∀ j g, j < i → fs[j]? = some g → f.used = true → g.used = true → g.key ≠ f.key
def usedN (fs : List FrameD) (k : Nat) : Nat := ((fs.take k).filter (·.used)).length
theorem usedN_zero (fs : List FrameD) : usedN fs 0 = 0 := rfl
theorem usedN_succ {fs : List FrameD} {k : Nat} {f : FrameD} (h : fs[k]? = some f) : usedN fs (k + 1) = usedN fs k + (if f.used = true then 1 else 0) := by
  unfold usedN
  have : fs.take (k + 1) = fs.take k ++ [f] := by rw [List.take_add_one, h]; rfl
  rw [this, List.filter_append, List.length_append]
  cases hu : f.used <;> simp [hu]
theorem framesUp_zero (fs : List FrameD) : FramesUp fs 0 := fun i f h => by omega
theorem framesUp_succ {fs : List FrameD} {k : Nat} {f : FrameD} (h : FramesUp fs k) (hf : fs[k]? = some f) (h1 : frameOk f) (h2 : ∀ j g, j < k → fs[j]? = some g → f.used = true → g.used = true → g.key ≠ f.key) : FramesUp fs (k + 1) := by
  intro i g hi hg
  by_cases e : i = k
  · subst e
    rw [hf] at hg
    injection hg with hg
    subst hg
    exact ⟨h1, h2⟩
  · exact h i g (by omega) hg

/-- The chain that begins at a number: -1 ends it. -/
inductive Chain (fs : List FrameD) : Int → List Nat → Prop
  | nil : Chain fs (-1) []
  | cons {i : Nat} {f : FrameD} {l : List Nat} (hf : fs[i]? = some f) (hu : f.used = true) (hl : Chain fs f.next l) : Chain fs (i : Int) (i :: l)

theorem Chain.inv {fs : List FrameD} {a : Int} {l : List Nat} (h : Chain fs a l) : (a = -1 ∧ l = []) ∨ ∃ (i : Nat) (f : FrameD) (l2 : List Nat), a = (i : Int) ∧ l = i :: l2 ∧ fs[i]? = some f ∧ f.used = true ∧ Chain fs f.next l2 := by
  cases h with
  | nil => exact .inl ⟨rfl, rfl⟩
  | cons hf hu hl => exact .inr ⟨_, _, _, rfl, rfl, hf, hu, hl⟩
theorem Chain.one {fs : List FrameD} {a : Int} {l : List Nat} (h : Chain fs a l) : ∀ {l' : List Nat}, Chain fs a l' → l = l' := by
  induction h with
  | nil =>
    intro l' h'
    rcases h'.inv with ⟨_, e⟩ | ⟨i, f, l2, e, _⟩
    · exact e.symm
    · omega
  | @cons i f l hf hu hl ih =>
    intro l' h'
    rcases h'.inv with ⟨e, _⟩ | ⟨j, g, l2, e, e2, hg, _, hl2⟩
    · omega
    · have e3 : i = j := by omega
      subst e3
      rw [hf] at hg
      injection hg with hg
      subst hg
      rw [e2, ih hl2]
theorem Chain.from {fs : List FrameD} {a : Int} {l : List Nat} (h : Chain fs a l) : ∀ {j : Nat}, j ∈ l → ∃ l2, Chain fs (j : Int) (j :: l2) ∧ l2.length < l.length := by
  induction h with
  | nil => intro j hj; cases hj
  | @cons i f l hf hu hl ih =>
    intro j hj
    rcases List.mem_cons.1 hj with e | e
    · subst e
      exact ⟨l, .cons hf hu hl, by simp⟩
    · obtain ⟨l2, h1, h2⟩ := ih e
      exact ⟨l2, h1, by simp; omega⟩
theorem Chain.nodup {fs : List FrameD} {a : Int} {l : List Nat} (h : Chain fs a l) : l.Nodup := by
  induction h with
  | nil => exact List.nodup_nil
  | @cons i f l hf hu hl ih =>
    refine List.nodup_cons.2 ⟨fun hi => ?_, ih⟩
    obtain ⟨l2, h1, h2⟩ := hl.from hi
    have := (Chain.cons hf hu hl).one h1
    have h3 := congrArg List.length this
    simp at h3
    omega
theorem Chain.in_ {fs : List FrameD} {a : Int} {l : List Nat} (h : Chain fs a l) : ∀ {j : Nat}, j ∈ l → ∃ f, fs[j]? = some f ∧ f.used = true := by
  induction h with
  | nil => intro j hj; cases hj
  | @cons i f l hf hu hl ih =>
    intro j hj
    rcases List.mem_cons.1 hj with e | e
    · subst e; exact ⟨f, hf, hu⟩
    · exact ih e
theorem nodup_few : ∀ (n : Nat) (l : List Nat), l.Nodup → (∀ j, j ∈ l → j < n) → l.length ≤ n := by
  intro n
  induction n with
  | zero =>
    intro l hn hl
    cases l with
    | nil => exact Nat.le_refl _
    | cons a l => exact absurd (hl a (by simp)) (by omega)
  | succ n ih =>
    intro l hn hl
    by_cases hm : n ∈ l
    · have h1 := ih (l.erase n) (hn.erase n) (fun j hj => by
        have h2 := (hn.mem_erase_iff).1 hj
        have h3 := hl j h2.2
        have h4 := h2.1
        omega)
      rw [List.length_erase_of_mem hm] at h1
      omega
    · have h1 := ih l hn (fun j hj => by
        have h3 := hl j hj
        have h4 : j ≠ n := fun e => hm (e ▸ hj)
        omega)
      omega
theorem Chain.few {fs : List FrameD} {a : Int} {l : List Nat} (h : Chain fs a l) : l.length ≤ fs.length := by
  refine nodup_few _ _ h.nodup fun j hj => ?_
  obtain ⟨f, hf, _⟩ := h.in_ hj
  exact (List.getElem?_eq_some_iff.1 hf).1

/-- Walking a chain from a0: what has been walked, and where the walk stands. -/
def Trail (fs : List FrameD) (a0 : Int) (pre : List Nat) (a : Int) : Prop := ∀ l, Chain fs a0 l ↔ ∃ l2, l = pre ++ l2 ∧ Chain fs a l2
theorem Trail.start (fs : List FrameD) (a : Int) : Trail fs a [] a := fun l => by simp
theorem Trail.step {fs : List FrameD} {a0 : Int} {pre : List Nat} {i : Nat} {f : FrameD} (h : Trail fs a0 pre (i : Int)) (hf : fs[i]? = some f) (hu : f.used = true) : Trail fs a0 (pre ++ [i]) f.next := by
  intro l
  rw [h l]
  constructor
  · rintro ⟨l2, rfl, hc⟩
    rcases hc.inv with ⟨e, _⟩ | ⟨j, g, l3, e, e2, hg, _, hl3⟩
    · omega
    · have e3 : i = j := by omega
      subst e3
      rw [hf] at hg
      injection hg with hg
      subst hg
      exact ⟨l3, by rw [e2]; simp, hl3⟩
  · rintro ⟨l2, rfl, hc⟩
    exact ⟨i :: l2, by simp, .cons hf hu hc⟩
theorem Trail.ends {fs : List FrameD} {a0 : Int} {pre : List Nat} (h : Trail fs a0 pre (-1)) : Chain fs a0 pre := (h pre).2 ⟨[], by simp, .nil⟩
/-- A number that is no used frame ends no chain. -/
theorem Trail.bad {fs : List FrameD} {a0 a : Int} {pre : List Nat} (h : Trail fs a0 pre a) (hb : ∀ (i : Nat) (f : FrameD), a = (i : Int) → fs[i]? = some f → f.used = false) (ha : a ≠ -1) (l : List Nat) : ¬ Chain fs a0 l := by
  intro hc
  obtain ⟨l2, rfl, hc2⟩ := (h l).1 hc
  rcases hc2.inv with ⟨e, _⟩ | ⟨j, g, l3, e, e2, hg, hu, hl3⟩
  · exact ha e
  · rw [hb j g e hg] at hu
    cases hu
theorem Trail.long {fs : List FrameD} {a0 a : Int} {pre : List Nat} (h : Trail fs a0 pre a) (hp : fs.length ≤ pre.length) (ha : a ≠ -1) (l : List Nat) : ¬ Chain fs a0 l := by
  intro hc
  have h1 := hc.few
  obtain ⟨l2, rfl, hc2⟩ := (h l).1 hc
  rcases hc2.inv with ⟨e, _⟩ | ⟨j, g, l3, e, e2, _⟩
  · exact ha e
  · rw [e2] at h1
    simp at h1
    omega
theorem Trail.again {fs : List FrameD} {a0 : Int} {pre : List Nat} {i : Nat} (h : Trail fs a0 pre (i : Int)) (hi : i ∈ pre) (l : List Nat) : ¬ Chain fs a0 l := by
  intro hc
  have h1 := hc.nodup
  obtain ⟨l2, rfl, hc2⟩ := (h l).1 hc
  rcases hc2.inv with ⟨e, _⟩ | ⟨j, g, l3, e, e2, _⟩
  · omega
  · have e3 : i = j := by omega
    subst e3
    rw [e2] at h1
    exact (List.nodup_append.1 h1).2.2 i hi i (by simp) rfl

/-- The first k buckets' chains end, and hold what belongs there. -/
def Buckets (t : TableD) (k : Nat) (ls : List (List Nat)) : Prop := ls.length = k ∧ ∀ (b : Nat) (a : Int) (l : List Nat), b < k → t.buckets[b]? = some a → ls[b]? = some l → Chain t.frames a l ∧ ∀ (i : Nat) (f : FrameD), i ∈ l → t.frames[i]? = some f → hashK f.key t.buckets.length = b
def sumL (ls : List (List Nat)) : Nat := (ls.map List.length).sum
def TableHead (t : TableD) : Prop := (1 ≤ t.frames.length ∧ t.frames.length ≤ 16) ∧ 1 ≤ t.buckets.length ∧ t.buckets.length ≤ 16
def TableOk (t : TableD) : Prop := TableHead t ∧ FramesUp t.frames t.frames.length ∧ ∃ ls, Buckets t t.buckets.length ls ∧ sumL ls = usedN t.frames t.frames.length
open Classical in
noncomputable def tableV (t : TableD) : Bool := decide (TableOk t)
theorem tableV_yes {t : TableD} (h : TableOk t) : tableV t = true := by unfold tableV; exact @decide_eq_true _ (Classical.propDecidable _) h
theorem tableV_no {t : TableD} (h : ¬ TableOk t) : tableV t = false := by unfold tableV; exact @decide_eq_false _ (Classical.propDecidable _) h
theorem tableV_iff {t : TableD} : tableV t = true ↔ TableOk t := by unfold tableV; exact @decide_eq_true_iff _ (Classical.propDecidable _)

theorem Buckets.zero (t : TableD) : Buckets t 0 [] := ⟨rfl, fun b a l h => by omega⟩
theorem Buckets.succ {t : TableD} {k : Nat} {ls : List (List Nat)} {a : Int} {l : List Nat} (h : Buckets t k ls) (ha : t.buckets[k]? = some a) (hc : Chain t.frames a l) (hh : ∀ (i : Nat) (f : FrameD), i ∈ l → t.frames[i]? = some f → hashK f.key t.buckets.length = k) : Buckets t (k + 1) (ls ++ [l]) := by
  refine ⟨by simp [h.1], fun b a' l' hb ha' hl' => ?_⟩
  by_cases e : b = k
  · subst e
    rw [ha] at ha'
    injection ha' with ha'
    subst ha'
    rw [List.getElem?_append_right (by rw [h.1]; exact Nat.le_refl _), h.1, Nat.sub_self] at hl'
    injection hl' with hl'
    subst hl'
    exact ⟨hc, hh⟩
  · rw [List.getElem?_append_left (by rw [h.1]; omega)] at hl'
    exact h.2 b a' l' (by omega) ha' hl'
theorem sumL_succ (ls : List (List Nat)) (l : List Nat) : sumL (ls ++ [l]) = sumL ls + l.length := by unfold sumL; simp
theorem Buckets.one {t : TableD} {k : Nat} {ls ls' : List (List Nat)} (h : Buckets t k ls) (h' : Buckets t k ls') (hk : k ≤ t.buckets.length) : ls = ls' := by
  refine List.ext_getElem? fun b => ?_
  by_cases hb : b < k
  · obtain ⟨a, ha⟩ : ∃ a, t.buckets[b]? = some a := ⟨_, List.getElem?_eq_getElem (by omega)⟩
    obtain ⟨l, hl⟩ : ∃ l, ls[b]? = some l := ⟨_, List.getElem?_eq_getElem (by rw [h.1]; exact hb)⟩
    obtain ⟨l', hl'⟩ : ∃ l, ls'[b]? = some l := ⟨_, List.getElem?_eq_getElem (by rw [h'.1]; exact hb)⟩
    rw [hl, hl', (h.2 b a l hb ha hl).1.one (h'.2 b a l' hb ha hl').1]
  · rw [List.getElem?_eq_none (by rw [h.1]; omega), List.getElem?_eq_none (by rw [h'.1]; omega)]
theorem TableOk.bucket {t : TableD} (h : TableOk t) {b : Nat} {a : Int} (ha : t.buckets[b]? = some a) : ∃ l, Chain t.frames a l ∧ ∀ (i : Nat) (f : FrameD), i ∈ l → t.frames[i]? = some f → hashK f.key t.buckets.length = b := by
  obtain ⟨_, _, ls, hb, _⟩ := h
  have hlt : b < t.buckets.length := (List.getElem?_eq_some_iff.1 ha).1
  obtain ⟨l, hl⟩ : ∃ l, ls[b]? = some l := ⟨_, List.getElem?_eq_getElem (by rw [hb.1]; exact hlt)⟩
  exact ⟨l, hb.2 b a l hlt ha hl⟩
theorem not_nochain {t : TableD} {b : Nat} {a : Int} (ha : t.buckets[b]? = some a) (h : ∀ l, ¬ Chain t.frames a l) : ¬ TableOk t := fun ho => by
  obtain ⟨l, hl, _⟩ := ho.bucket ha
  exact h l hl
theorem not_hash {t : TableD} {b i : Nat} {a : Int} {l : List Nat} {f : FrameD} (ha : t.buckets[b]? = some a) (hc : Chain t.frames a l) (hi : i ∈ l) (hf : t.frames[i]? = some f) (hh : hashK f.key t.buckets.length ≠ b) : ¬ TableOk t := fun ho => by
  obtain ⟨l', hl', hh'⟩ := ho.bucket ha
  rw [hl'.one hc] at hh'
  exact hh (hh' i f hi hf)
/-- The walk stands at a used frame with another bucket's hash. -/
theorem not_hash_at {t : TableD} {b i : Nat} {a : Int} {pre : List Nat} {f : FrameD} (ha : t.buckets[b]? = some a) (hp : Trail t.frames a pre (i : Int)) (hf : t.frames[i]? = some f) (hh : hashK f.key t.buckets.length ≠ b) : ¬ TableOk t := fun ho => by
  obtain ⟨l, hl, hh'⟩ := ho.bucket ha
  obtain ⟨l2, rfl, hc2⟩ := (hp l).1 hl
  rcases hc2.inv with ⟨e, _⟩ | ⟨j, g, l3, e, e2, _⟩
  · omega
  · have e3 : i = j := by omega
    subst e3
    exact hh (hh' i f (by rw [e2]; simp) hf)
theorem tableOk_end {t : TableD} {ls : List (List Nat)} (h1 : TableHead t) (h2 : FramesUp t.frames t.frames.length) (h3 : Buckets t t.buckets.length ls) : TableOk t ↔ sumL ls = usedN t.frames t.frames.length := by
  constructor
  · rintro ⟨_, _, ls', h4, h5⟩
    rw [h3.one h4 (Nat.le_refl _)]
    exact h5
  · intro h
    exact ⟨h1, h2, ls, h3, h⟩
theorem not_frames {t : TableD} {i : Nat} {f : FrameD} (hf : t.frames[i]? = some f) (h : ¬ (frameOk f ∧ ∀ j g, j < i → t.frames[j]? = some g → f.used = true → g.used = true → g.key ≠ f.key)) : ¬ TableOk t := fun ho => h (ho.2.1 i f (List.getElem?_eq_some_iff.1 hf).1 hf)

theorem hashK_range {k : KeyD} {n : Nat} (hk : keyOk k) (hn : 1 ≤ n) (hm : n ≤ 16) : 0 ≤ hashK k n ∧ hashK k n < n := by
  unfold hashK keyOk at *
  obtain ⟨x, hx⟩ : ∃ x, x = (k.space * 256 + k.page) * 2654435761 % 4294967296 := ⟨_, rfl⟩
  rw [← hx]
  have h1 : 0 ≤ x ∧ x < 4294967296 := by omega
  have h2 : 0 ≤ x * (n : Int) := Int.mul_nonneg h1.1 (by omega)
  have h3 : x * (n : Int) < 4294967296 * (n : Int) := Int.mul_lt_mul_of_pos_right h1.2 (by omega)
  obtain ⟨y, hy⟩ : ∃ y, y = x * (n : Int) := ⟨_, rfl⟩
  rw [← hy] at h2 h3 ⊢
  omega
end Go.Proofs.YtbdlpbladpppjaaDoor
/- The place of the first element of a list of which a test holds. No program in sight. -/
namespace Go.Proofs.YtbdlpbladpppjaaDoor
open Go.ChangeShapes Go.WideShapes Go.ChangeAt Go.RowKit

/-- The place of the first element of which p holds, or -1. -/
def firstOf {α : Type} (p : α → Bool) (xs : List α) : Int := match xs.findIdx? p with | some i => (i : Int) | none => -1
theorem firstOf_at {α : Type} {p : α → Bool} {xs : List α} {k : Nat} {x : α} (hx : xs[k]? = some x) (hp : p x = true) (h : ∀ j y, j < k → xs[j]? = some y → p y = false) : firstOf p xs = k := by
  have hk := getElem?_lt hx
  have : xs.findIdx? p = some k := by
    rw [List.findIdx?_eq_some_iff_getElem]
    refine ⟨hk, ?_, fun j hj => ?_⟩
    · rw [List.getElem?_eq_getElem hk] at hx
      injection hx with hx
      rw [hx]; exact hp
    · have := h j _ hj (List.getElem?_eq_getElem (by omega))
      simp [this]
  unfold firstOf; rw [this]
theorem firstOf_none {α : Type} {p : α → Bool} {xs : List α} (h : ∀ j y, j < xs.length → xs[j]? = some y → p y = false) : firstOf p xs = -1 := by
  have : xs.findIdx? p = none := by
    rw [List.findIdx?_eq_none_iff]
    intro x hx
    obtain ⟨j, hj, rfl⟩ := List.getElem_of_mem hx
    exact h j _ hj (List.getElem?_eq_getElem hj)
  unfold firstOf; rw [this]
theorem firstOf_cases {α : Type} (p : α → Bool) (xs : List α) : (firstOf p xs = -1 ∧ ∀ (j : Nat) (y : α), xs[j]? = some y → p y = false) ∨ ∃ (k : Nat) (x : α), firstOf p xs = (k : Int) ∧ xs[k]? = some x ∧ p x = true ∧ ∀ (j : Nat) (y : α), j < k → xs[j]? = some y → p y = false := by
  unfold firstOf
  cases h : xs.findIdx? p with
  | none =>
    rw [List.findIdx?_eq_none_iff] at h
    exact .inl ⟨rfl, fun j y hy => h y (List.mem_of_getElem? hy)⟩
  | some k =>
    rw [List.findIdx?_eq_some_iff_getElem] at h
    obtain ⟨hk, hp, hj⟩ := h
    refine .inr ⟨k, xs[k], rfl, List.getElem?_eq_getElem hk, hp, fun j y hjk hy => ?_⟩
    have := hj j hjk
    have e := List.getElem?_eq_getElem (l := xs) (i := j) (by omega)
    rw [hy] at e
    injection e with e
    rw [e]; simpa using this

end Go.Proofs.YtbdlpbladpppjaaDoor
/- Contracts of the small functions over tags: comparing, copying, marking. -/
namespace Go.Proofs.YtbdlpbladpppjaaDoor
open Go.ChangeShapes Go.WideShapes Go.ChangeAt Go.RowKit
open Rec (sz cs)
set_option linter.unusedVariables false
set_option maxRecDepth 100000

end Go.Proofs.YtbdlpbladpppjaaDoor
/- Contracts: copying the plain data of a law into the program's, counting, marking. -/
namespace Go.Proofs.YtbdlpbladpppjaaDoor
open Go.ChangeShapes Go.WideShapes Go.ChangeAt Go.RowKit
open Rec (sz cs)
set_option linter.unusedVariables false
set_option maxRecDepth 100000


end Go.Proofs.YtbdlpbladpppjaaDoor
/- Contracts over whole tags: comparing, copying, counting, marking, making. -/
namespace Go.Proofs.YtbdlpbladpppjaaDoor
open Go.ChangeShapes Go.WideShapes Go.ChangeAt Go.RowKit
open Rec (sz cs)
set_option linter.unusedVariables false
set_option maxRecDepth 100000

end Go.Proofs.YtbdlpbladpppjaaDoor
/- Go's '==' and '!=' at the program's structs. -/
namespace Go.Proofs.YtbdlpbladpppjaaDoor
open Go.ChangeShapes Go.WideShapes Go.ChangeAt Go.RowKit
open Rec (sz cs)

end Go.Proofs.YtbdlpbladpppjaaDoor
/- Contracts: slices.Equal over tags' owners; TagsSame and NewTags, the program's and the reference's. -/
namespace Go.Proofs.YtbdlpbladpppjaaDoor
open Go.ChangeShapes Go.WideShapes Go.ChangeAt Go.RowKit
open Rec (sz cs)
set_option linter.unusedVariables false
set_option maxRecDepth 100000

end Go.Proofs.YtbdlpbladpppjaaDoor
/- Contract of l1Space. -/
namespace Go.Proofs.YtbdlpbladpppjaaDoor
open Go.ChangeShapes Go.WideShapes Go.ChangeAt Go.RowKit
set_option linter.unusedVariables false
set_option maxRecDepth 100000

set_option maxHeartbeats 400000 in
theorem l1Space_c (n : Int) (w : World) : Calls Tryd.prog 62 #[.int .i64 n] w fun r w' => r = .returned (.bool (inB n 16)) ∧ w = w' := by
  by_cases h0 : 0 ≤ n
  · go_enter Tryd.func62, Tryd.ntmps62
    go_wp2
    go_ret
    exact ⟨ret_bool (by rw [Bool.eq_iff_iff, inB_true]; simp [h0]), rfl⟩
  · go_enter Tryd.func62, Tryd.ntmps62
    go_wp2
    go_ret
    exact ⟨ret_bool (by rw [Bool.eq_iff_iff, inB_true]; simp; omega), rfl⟩

end Go.Proofs.YtbdlpbladpppjaaDoor
/- When are tags valid: the plain functions. A set of numbers kept in a map of the call's own. -/
namespace Go.Proofs.YtbdlpbladpppjaaDoor
open Go.ChangeShapes Go.WideShapes Go.ChangeAt Go.RowKit
open Rec (sz cs)
set_option linter.unusedVariables false
set_option maxRecDepth 100000

def ownAt (t : TagsD) (i : Nat) : Bool := decide (0 ≤ (t.owns.getD i ⟨0, 0⟩).tag ∧ (t.owns.getD i ⟨0, 0⟩).tag < t.next ∧ 0 ≤ (t.owns.getD i ⟨0, 0⟩).space ∧ (t.owns.getD i ⟨0, 0⟩).space < 16) &&
  (List.range i).all fun j => decide ((t.owns.getD j ⟨0, 0⟩).tag < (t.owns.getD i ⟨0, 0⟩).tag ∧ (t.owns.getD j ⟨0, 0⟩).space ≠ (t.owns.getD i ⟨0, 0⟩).space)
def tagsV (t : TagsD) : Bool := decide (1 ≤ t.count ∧ t.count ≤ 8 ∧ 0 ≤ t.next ∧ t.next ≤ t.count ∧ 0 ≤ t.round ∧ t.round ≤ 1000000) && (List.range t.owns.length).all (ownAt t)

/-! ### A map of the call's own that holds true at some numbers -/
open Go.Maps (Keyed)
theorem kInt : Keyed Tryd.prog 3 := Maps.int_keyed Tryd.underlying3

def HasInts (w : World) (b n : Nat) (S : List Int) : Prop := ∃ D : DataW Unit, w.ownsMap Tryd.prog 3 (plainElem Tryd.prog 4) b n D ∧ Maps.IsMap D ∧ ∀ x : Int, D.atKey (.int .i64 x) (.lit (.bool false)) = .lit (.bool (decide (x ∈ S)))

theorem HasInts.made (w : World) : HasInts (w.alloc (.map #[] 0)) w.heap.size 0 [] :=
  ⟨_, World.ownsMap_made w _ _ _, Maps.isMap_empty, fun x => by simp [DataW.atKey]⟩
theorem HasInts.kept {w w' : World} {b n : Nat} {S : List Int} {row : Option Nat} (h : HasInts w b n S) (hg : w.grownBy w' row) (hne : some b ≠ row) : HasInts w' b n S := by
  obtain ⟨D, h1, h2⟩ := h
  exact ⟨D, h1.kept hg hne, h2⟩
theorem HasInts.ex {w w' : World} {b n : Nat} {S : List Int} (h : HasInts w b n S) (k : Ex w w') : HasInts w' b n S :=
  h.kept (grown_ex (grown_refl w none) k) (by simp)
theorem HasInts.lt {w : World} {b n : Nat} {S : List Int} (h : HasInts w b n S) : b < w.heap.size := by
  obtain ⟨D, h1, _⟩ := h
  exact h1.lt
theorem HasInts.look {w : World} {b n : Nat} {S : List Int} (h : HasInts w b n S) (x : Int) (hx : (Lit.int .i64 x).wf = true) :
    (Instr.lookup 68 (.map (some b)) (.int .i64 x) false).run Tryd.prog w = .ok (.bool (decide (x ∈ S))) w := by
  obtain ⟨D, h1, _, h2⟩ := h
  obtain ⟨v, ps, hrun, hv⟩ := h1.lookup kInt Tryd.underlying68 (z := .bool false) (by kernel_rfl) (plainElem_bool Tryd.underlying4 false) (Maps.keyOf_int_mk Tryd.underlying3 hx)
  rw [h2] at hv
  rw [hrun]
  unfold plainElem at hv
  rw [Tryd.underlying4] at hv
  cases v <;> simp at hv
  rw [hv.1]
theorem HasInts.put {w : World} {b n : Nat} {S : List Int} (h : HasInts w b n S) (hn : n < maxLen) (x : Int) (hx : (Lit.int .i64 x).wf = true) :
    ∃ w', (Instr.mapUpdate 68 (.map (some b)) (.int .i64 x) (.bool true)).run Tryd.prog w = .ok () w' ∧ HasInts w' b (n + 1) (x :: S) ∧ w.grownBy w' (some b) := by
  obtain ⟨D, h1, hm, h2⟩ := h
  obtain ⟨w', hrun, h3, h4⟩ := h1.update kInt Tryd.underlying68 hn (Maps.keyOf_int_mk Tryd.underlying3 hx) (plainElem_bool Tryd.underlying4 true)
  refine ⟨w', hrun, ⟨_, h3, hm.put _ _, fun y => ?_⟩, h4⟩
  by_cases e : y = x
  · subst e
    rw [Maps.atKey_put_same hm (by first | trivial | (simp [WideAt.IsKeyLit]) | exact True.intro)]
    simp
  · rw [Maps.atKey_put_other]
    · rw [h2]
      simp [e]
    · intro h; injection h with _ h; exact e h
end Go.Proofs.YtbdlpbladpppjaaDoor
/- Contracts: NewTags, the program's and the reference's. -/
namespace Go.Proofs.YtbdlpbladpppjaaDoor
open Go.ChangeShapes Go.WideShapes Go.ChangeAt Go.RowKit
open Rec (sz cs)
set_option linter.unusedVariables false
set_option maxRecDepth 100000

end Go.Proofs.YtbdlpbladpppjaaDoor
/- Tags as plain data: who has which tag, taking and leaving. No program in sight. -/
namespace Go.Proofs.YtbdlpbladpppjaaDoor
open Go.ChangeShapes Go.WideShapes Go.ChangeAt Go.RowKit
set_option linter.unusedVariables false

/-! ### Valid tags -/
section
variable {t : TagsD} (hv : tagsV t = true)
include hv
end

/-! ### Taking one tag -/
/-! ### Leaving -/
/-! ### Taking one after the other -/
end Go.Proofs.YtbdlpbladpppjaaDoor
/- Contracts of the small functions over Line: comparing, copying, counting, marking. Written by a program of mine from one pattern. -/
namespace Go.Proofs.YtbdlpbladpppjaaDoor
open Go.ChangeShapes Go.WideShapes Go.ChangeAt Go.RowKit
open Rec (sz cs)
set_option linter.unusedVariables false
set_option maxRecDepth 100000

end Go.Proofs.YtbdlpbladpppjaaDoor
/- Contracts over whole caches: comparing, copying, counting, marking, making. -/
namespace Go.Proofs.YtbdlpbladpppjaaDoor
open Go.ChangeShapes Go.WideShapes Go.ChangeAt Go.RowKit
open Rec (sz cs)
set_option linter.unusedVariables false
set_option maxRecDepth 100000

def noLine : LineD := ⟨false, 0, 0, 0, 0, false⟩
end Go.Proofs.YtbdlpbladpppjaaDoor
/- When is a cache valid: the plain functions, and the contracts of CacheValid and what it calls, the program's and the reference's. -/
namespace Go.Proofs.YtbdlpbladpppjaaDoor
open Go.ChangeShapes Go.WideShapes Go.ChangeAt Go.RowKit
open Rec (sz cs)
set_option linter.unusedVariables false
set_option maxRecDepth 100000

def tagB (t : Int) : Bool := decide (-1 ≤ t ∧ t < 8)
def lineV (x : LineD) : Bool := if x.valid then tagB x.tag && (inB x.page 256 && (inB x.frame 16 && inB x.rights 8)) else eqB x noLine
def clashB (x y : LineD) : Bool := x.valid && (y.valid && ((x.page == y.page) && ((x.tag == y.tag) || ((x.tag == -1) || (y.tag == -1)))))

set_option maxHeartbeats 400000 in
theorem l1Page_c (n : Int) (w : World) : Calls Tryd.prog 63 #[.int .i64 n] w fun r w' => r = .returned (.bool (inB n 256)) ∧ w = w' := by
  by_cases h0 : 0 ≤ n
  · go_enter Tryd.func63, Tryd.ntmps63
    go_wp2
    go_ret
    exact ⟨ret_bool (by rw [Bool.eq_iff_iff, inB_true]; simp [h0]), rfl⟩
  · go_enter Tryd.func63, Tryd.ntmps63
    go_wp2
    go_ret
    exact ⟨ret_bool (by rw [Bool.eq_iff_iff, inB_true]; simp; omega), rfl⟩

set_option maxHeartbeats 400000 in
theorem rightsS_c (n : Int) (w : World) : Calls Tryd.prog 47 #[.int .i64 n] w fun r w' => r = .returned (.bool (inB n 8)) ∧ w = w' := by
  by_cases h0 : 0 ≤ n
  · go_enter Tryd.func47, Tryd.ntmps47
    go_wp2
    go_ret
    exact ⟨ret_bool (by rw [Bool.eq_iff_iff, inB_true]; simp [h0]; omega), rfl⟩
  · go_enter Tryd.func47, Tryd.ntmps47
    go_wp2
    go_ret
    exact ⟨ret_bool (by rw [Bool.eq_iff_iff, inB_true]; simp; omega), rfl⟩

set_option maxHeartbeats 400000 in
theorem rightsI_c (n : Int) (w : World) : Calls Tryd.prog 35 #[.int .i64 n] w fun r w' => r = .returned (.bool (inB n 8)) ∧ w = w' := by
  go_enter Tryd.func35, Tryd.ntmps35
  go_wp2_with fail
  refine (within_c _ _ _).mono ?_
  rintro r w' ⟨rfl, rfl⟩
  go_wp2
  go_ret
  exact ⟨rfl, rfl⟩

end Go.Proofs.YtbdlpbladpppjaaDoor
/- CacheValid: what it decides; the walks of the program's and the reference's. -/
namespace Go.Proofs.YtbdlpbladpppjaaDoor
open Go.ChangeShapes Go.WideShapes Go.ChangeAt Go.RowKit
open Rec (sz cs)
set_option linter.unusedVariables false
set_option maxRecDepth 100000

theorem getD_of {α : Type} {xs : List α} {i : Nat} {x d : α} (h : xs[i]? = some x) : xs.getD i d = x := by
  rw [List.getD_eq_getElem?_getD, h]; rfl

end Go.Proofs.YtbdlpbladpppjaaDoor
/- KeyFor of both. -/
namespace Go.Proofs.YtbdlpbladpppjaaDoor
open Go.ChangeShapes Go.WideShapes Go.ChangeAt Go.RowKit
open Rec (sz cs)
set_option linter.unusedVariables false
set_option maxRecDepth 100000

end Go.Proofs.YtbdlpbladpppjaaDoor
/- Where a key lies in a valid table; when is a machine valid, a memory: plain Lean, no walk in sight. -/
namespace Go.Proofs.YtbdlpbladpppjaaDoor
open Go.ChangeShapes Go.WideShapes Go.ChangeAt Go.RowKit
set_option linter.unusedVariables false

theorem pigeon : ∀ (l1 l2 : List Nat), l1.Nodup → (∀ x ∈ l1, x ∈ l2) → l2.length ≤ l1.length → ∀ x ∈ l2, x ∈ l1 := by
  intro l1
  induction l1 with
  | nil =>
    intro l2 _ _ hl x hx
    have h0 : l2.length = 0 := by simpa using hl
    rw [List.length_eq_zero_iff.1 h0] at hx
    cases hx
  | cons a l ih =>
    intro l2 hn hs hl x hx
    have ha : a ∈ l2 := hs a (by simp)
    obtain ⟨hn1, hn2⟩ := List.nodup_cons.1 hn
    by_cases e : x = a
    · subst e; simp
    · refine List.mem_cons_of_mem _ (ih (l2.erase a) hn2 (fun y hy => ?_) ?_ x ?_)
      · exact (List.mem_erase_of_ne (fun e2 => hn1 (by rw [← e2]; exact hy))).2 (hs y (List.mem_cons_of_mem _ hy))
      · rw [List.length_erase_of_mem ha]
        simp at hl
        omega
      · exact (List.mem_erase_of_ne e).2 hx

/-- The numbers of the used ones among the first k frames. -/
def usedIx (fs : List FrameD) (k : Nat) : List Nat := (List.range k).filter fun i => match fs[i]? with | some f => f.used | none => false
theorem usedIx_len (fs : List FrameD) : ∀ k, k ≤ fs.length → (usedIx fs k).length = usedN fs k := by
  intro k
  induction k with
  | zero => intro _; rfl
  | succ k ih =>
    intro hk
    obtain ⟨f, hf⟩ : ∃ f, fs[k]? = some f := ⟨_, List.getElem?_eq_getElem (by omega)⟩
    have h1 := ih (by omega)
    unfold usedIx at h1 ⊢
    rw [List.range_succ, List.filter_append, List.length_append, h1, usedN_succ hf]
    cases hu : f.used <;> simp [hf, hu]
theorem mem_usedIx {fs : List FrameD} {k i : Nat} : i ∈ usedIx fs k ↔ i < k ∧ ∃ f, fs[i]? = some f ∧ f.used = true := by
  unfold usedIx
  rw [List.mem_filter, List.mem_range]
  refine and_congr_right fun _ => ?_
  cases h : fs[i]? <;> simp

theorem Buckets.at_ {t : TableD} {k : Nat} {ls : List (List Nat)} (h : Buckets t k ls) (hk : k ≤ t.buckets.length) {b : Nat} {l : List Nat} (hl : ls[b]? = some l) : ∃ a, b < k ∧ t.buckets[b]? = some a ∧ Chain t.frames a l ∧ ∀ (i : Nat) (f : FrameD), i ∈ l → t.frames[i]? = some f → hashK f.key t.buckets.length = b := by
  have hb : b < k := by have := (List.getElem?_eq_some_iff.1 hl).1; rw [h.1] at this; exact this
  obtain ⟨a, ha⟩ : ∃ a, t.buckets[b]? = some a := ⟨_, List.getElem?_eq_getElem (by omega)⟩
  obtain ⟨h1, h2⟩ := h.2 b a l hb ha hl
  exact ⟨a, hb, ha, h1, h2⟩
theorem Buckets.nodup {t : TableD} {ls : List (List Nat)} (h : Buckets t t.buckets.length ls) : ls.flatten.Nodup := by
  unfold List.Nodup
  rw [List.pairwise_flatten]
  constructor
  · intro l hl
    obtain ⟨b, hb, e⟩ := List.getElem_of_mem hl
    obtain ⟨a, _, _, hc, _⟩ := h.at_ (Nat.le_refl _) (b := b) (l := l) (by rw [List.getElem?_eq_getElem hb, e])
    exact hc.nodup
  · rw [List.pairwise_iff_getElem]
    intro i j hi hj hij x hx y hy e
    subst e
    obtain ⟨a, _, _, hc, hh⟩ := h.at_ (Nat.le_refl _) (b := i) (List.getElem?_eq_getElem hi)
    obtain ⟨a', _, _, hc', hh'⟩ := h.at_ (Nat.le_refl _) (b := j) (List.getElem?_eq_getElem hj)
    obtain ⟨f, hf, _⟩ := hc.in_ hx
    have h1 := hh x f hx hf
    have h2 := hh' x f hy hf
    omega
/-- Every used frame of a valid table lies in a chain. -/
theorem TableOk.met {t : TableD} (h : TableOk t) {i : Nat} {f : FrameD} (hf : t.frames[i]? = some f) (hu : f.used = true) : ∃ (b : Nat) (a : Int) (l : List Nat), t.buckets[b]? = some a ∧ Chain t.frames a l ∧ i ∈ l ∧ hashK f.key t.buckets.length = b := by
  obtain ⟨_, _, ls, hb, hs⟩ := h
  have h1 : i ∈ ls.flatten := by
    refine pigeon ls.flatten (usedIx t.frames t.frames.length) hb.nodup (fun x hx => ?_) ?_ i (mem_usedIx.2 ⟨getElem?_lt hf, f, hf, hu⟩)
    · obtain ⟨l, hl, hx⟩ := List.mem_flatten.1 hx
      obtain ⟨b, hb', e⟩ := List.getElem_of_mem hl
      obtain ⟨a, _, _, hc, _⟩ := hb.at_ (Nat.le_refl _) (b := b) (l := l) (by rw [List.getElem?_eq_getElem hb', e])
      obtain ⟨g, hg, hgu⟩ := hc.in_ hx
      exact mem_usedIx.2 ⟨getElem?_lt hg, g, hg, hgu⟩
    · rw [usedIx_len _ _ (Nat.le_refl _), List.length_flatten, ← hs]
      exact Nat.le_refl _
  obtain ⟨l, hl, hi⟩ := List.mem_flatten.1 h1
  obtain ⟨b, hb', e⟩ := List.getElem_of_mem hl
  obtain ⟨a, _, ha, hc, hh⟩ := hb.at_ (Nat.le_refl _) (b := b) (l := l) (by rw [List.getElem?_eq_getElem hb', e])
  exact ⟨b, a, l, ha, hc, hi, hh i f hi hf⟩

def fitsKey (k : KeyD) (f : FrameD) : Bool := f.used && eqB f.key k
/-- The frame of a key, or -1. -/
def findF (t : TableD) (k : KeyD) : Int := firstOf (fitsKey k) t.frames
theorem findF_hit {t : TableD} {k : KeyD} (h : TableOk t) {x : Nat} {f : FrameD} (hx : t.frames[x]? = some f) (hu : f.used = true) (hk : f.key = k) : findF t k = x := by
  refine firstOf_at hx (by unfold fitsKey; rw [hu, hk, eqB_self]; rfl) fun j g hj hg => ?_
  unfold fitsKey
  cases hgu : g.used
  · rfl
  · have h1 := (h.2.1 x f (getElem?_lt hx) hx).2 j g hj hg hu hgu
    rw [hk] at h1
    rw [eqB_false.2 h1]
    rfl
theorem findF_miss {t : TableD} {k : KeyD} (h : TableOk t) {b : Nat} {a : Int} {l : List Nat} (hb : hashK k t.buckets.length = b) (ha : t.buckets[b]? = some a) (hl : Chain t.frames a l) (hno : ∀ (x : Nat) (f : FrameD), x ∈ l → t.frames[x]? = some f → f.key ≠ k) : findF t k = -1 := by
  refine firstOf_none fun j g hj hg => ?_
  unfold fitsKey
  cases hgu : g.used
  · rfl
  · by_cases e : g.key = k
    · obtain ⟨b', a', l', ha', hc', hi', hh'⟩ := h.met hg hgu
      rw [e, hb] at hh'
      have e2 : b' = b := by omega
      subst e2
      rw [ha] at ha'
      injection ha' with ha'
      subst ha'
      rw [hc'.one hl] at hi'
      exact absurd e (hno j g hi' hg)
    · rw [eqB_false.2 e]
      rfl
theorem findF_range {t : TableD} (k : KeyD) : findF t k = -1 ∨ ∃ (x : Nat) (f : FrameD), findF t k = (x : Int) ∧ t.frames[x]? = some f := by
  rcases firstOf_cases (fitsKey k) t.frames with ⟨h, _⟩ | ⟨x, f, h, hf, _⟩
  · exact .inl h
  · exact .inr ⟨x, f, h, hf⟩

/-! ### machines -/
/-! ### memories -/
end Go.Proofs.YtbdlpbladpppjaaDoor
/- A row and a box of another kind lie apart; drawn keys. -/
namespace Go.Proofs.YtbdlpbladpppjaaDoor
open Go.ChangeShapes Go.WideShapes Go.ChangeAt Go.RowKit
open Rec (sz cs)
set_option linter.unusedVariables false
set_option maxRecDepth 100000

theorem Fr.off {α : Type} [Rec α] {E T : TypeId} {w : World} {B c g : Nat} {A : Option Addr} {xs : List α} {cells : List Value} (h : Fr E w B A c xs) (k : Blk w g T cells) (hE : E ≠ T) : ∀ b, rowOf A c = some b → b ≠ g := by
  intro b hb e
  subst e
  obtain ⟨_, _, h0 | ⟨g', rest, rfl, _, hk, _⟩⟩ := h
  · unfold rowOf at hb; rw [if_pos h0] at hb; cases hb
  · unfold rowOf at hb
    split at hb
    · cases hb
    · injection hb with hb
      subst hb
      have h1 : w.heap[g']? = _ := hk
      have h2 : w.heap[g']? = _ := k
      rw [h1] at h2
      injection h2 with h2
      injection h2 with _ h3
      exact hE h3
def SomeKey (g p : Nat) (w : World) (e : Ending) (w' : World) : Prop := ∃ k : KeyD, e = .returned (.agg #[.int .i64 k.space, .int .i64 k.page]) ∧ keyOk k ∧ Rdr w' g (p + 2) ∧ w.grownBy w' (some g)

set_option maxHeartbeats 1000000 in
theorem l2Draw_c (g p : Nat) (w : World) (h : Rdr w g p) (hp : p ≤ 900000) : Calls Tryd.prog 30 #[.pointer (some ⟨g, 0, none⟩)] w (SomeKey g p w) := by
  have lg := h.lt
  have HR0 := Lib.hid h
  clear h
  go_enter Tryd.func30, Tryd.ntmps30
  go_wp2_with fail
  refine name_calls ?_; intro v1 hv1
  have X1 : Hid (Chg (0) (0) w v1) := Lib.hid (by rw [hv1]; repeat' (first | with_reducible exact Chg.refl _ _ _ | with_reducible refine Chg.alloc ?_ _ | with_reducible refine Chg.drew ?_ | with_reducible refine Chg.set ?_ (by omega) _))
  have t1 : w.heap.size ≤ v1.heap.size := X1.out.size
  have Ev1 : Hid (Chg g (g + 1) w v1) := Lib.hid ((Chg.refl g (g + 1) w).step X1.out (by omega))
  replace HR0 := Lib.hid (HR0.out.chg X1.out (by omega))
  have L1 : Hid (Rd v1 (some ⟨w.heap.size + 1, 0, none⟩) ([0, 1, 2, 3, 1] : List Int)) := Lib.hid (by rw [hv1]; repeat' (first | exact Rd.lits _ _ _ | exact Rd.lits_at _ _ _ (by simp) | with_reducible refine Rd.alloc ?_ _))
  have KR : Hid (Blk v1 (w.heap.size) 45 [.int .i64 0, .int .i64 0]) := Lib.hid (by rw [hv1]; repeat' (first | with_reducible exact Blk.new_at _ _ _ (by simp) | with_reducible refine Blk.alloc ?_ _ | with_reducible refine Blk.drew ?_ | with_reducible refine Blk.far ?_ (by simp; omega) _))
  have lR : w.heap.size < v1.heap.size := KR.out.lt
  clear hv1
  refine (num_c g p _ 0 _ [0, 1, 2, 3, 1] _ HR0.out L1.out (by simp) (by simp) (by omega) (by omega)).mono ?_; rintro r w1 ⟨n1, rfl, hhn1, hrd1, hb1⟩
  have Y1 : Hid (Chg (g) (g + 1) v1 w1) := Lib.hid (Chg.of_grown hb1 (fun b hb => by injection hb with hb; omega))
  have s1 : v1.heap.size ≤ w1.heap.size := Y1.out.size
  have Ew1 : Hid (Chg g (g + 1) w w1) := Lib.hid (Ev1.out.step Y1.out (by omega))
  clear hb1
  replace KR := Lib.hid (KR.out.chg Y1.out (by omega))
  clear HR0
  have HRD1 := Lib.hid hrd1; clear hrd1
  have HHN1 := Lib.hid hhn1; clear hhn1
  obtain ⟨qR0, qR1⟩ := KR.out.c2
  have jR := KR.out.lt
  have zR := KR.out.frozen
  go_wp2_with fail
  refine name_calls ?_; intro v2 hv2
  have X2 : Hid (Chg (0) (0) w1 v2) := Lib.hid (by rw [hv2]; repeat' (first | with_reducible exact Chg.refl _ _ _ | with_reducible refine Chg.alloc ?_ _ | with_reducible refine Chg.drew ?_ | with_reducible refine Chg.set ?_ (by omega) _))
  have t2 : w1.heap.size ≤ v2.heap.size := X2.out.size
  have Ev2 : Hid (Chg g (g + 1) w v2) := Lib.hid (Ew1.out.step X2.out (by omega))
  clear qR0 qR1 jR zR
  replace KR := Lib.hid (KR.out.chg X2.out (by omega))
  replace HRD1 := Lib.hid (HRD1.out.chg X2.out (by omega))
  have L2 : Hid (Rd v2 (some ⟨w1.heap.size, 0, none⟩) ([0, 1, 2, 3, 4, 5, 100, 255] : List Int)) := Lib.hid (by rw [hv2]; repeat' (first | exact Rd.lits _ _ _ | exact Rd.lits_at _ _ _ (by simp) | with_reducible refine Rd.alloc ?_ _))
  clear hv2
  refine (num_c g (p + 1) _ 0 _ [0, 1, 2, 3, 4, 5, 100, 255] _ HRD1.out L2.out (by simp) (by simp) (by omega) (by omega)).mono ?_; rintro r w2 ⟨n2, rfl, hhn2, hrd2, hb2⟩
  have Y2 : Hid (Chg (g) (g + 1) v2 w2) := Lib.hid (Chg.of_grown hb2 (fun b hb => by injection hb with hb; omega))
  have s2 : v2.heap.size ≤ w2.heap.size := Y2.out.size
  have Ew2 : Hid (Chg g (g + 1) w w2) := Lib.hid (Ev2.out.step Y2.out (by omega))
  clear hb2
  replace KR := Lib.hid (KR.out.chg Y2.out (by omega))
  clear HRD1
  have HRD2 := Lib.hid hrd2; clear hrd2
  have HHN2 := Lib.hid hhn2; clear hhn2
  obtain ⟨qR0, qR1⟩ := KR.out.c2
  have jR := KR.out.lt
  have zR := KR.out.frozen
  go_wp2
  exact bodyPost_ret (v := .agg #[.int .i64 n1, .int .i64 n2]) (by simp [results, Tryd.results30, go_sem, *]) rfl
    ⟨⟨n1, n2⟩, rfl, by have h1 := HHN1.out; have h2 := HHN2.out; simp at h1 h2; unfold keyOk; simp only; omega, Rdr.chg (lo := w.heap.size) (hi := w.heap.size + 1) HRD2.out (by repeat' (first | with_reducible exact Chg.refl _ _ w2 | with_reducible refine Chg.alloc ?_ _ | with_reducible refine Chg.drew ?_ | with_reducible refine Chg.set ?_ (by omega) _)) (by omega), Chg.grown (by repeat' (first | with_reducible exact Ew2.out | with_reducible refine Chg.alloc ?_ _ | with_reducible refine Chg.drew ?_ | with_reducible refine Chg.set ?_ (by omega) _))⟩
end Go.Proofs.YtbdlpbladpppjaaDoor
/- A call of a function as one step of a region that draws its order. -/
namespace Go.Proofs.YtbdlpbladpppjaaDoor
open Go.ChangeShapes Go.WideShapes Go.ChangeAt Go.RowKit

theorem enters {P : Program} {f : FuncId} {fn : Func} (hf : P.funcs[f]? = some fn) (hn : (fn.name == "runtime.NumGoroutine") = false) (hb : fn.body.isNone = false) (args : Array Value) (w : World) :
    (callFunc f args).run P w = .ok (.enter f args) w := by
  have h1 : fn.name ≠ "runtime.NumGoroutine" := by simpa using hn
  have h2 : ¬ fn.body = none := fun e => by rw [e] at hb; cases hb
  simp [callFunc, go_sem, hf, h1, h2]
theorem step_call_gu {P : Program} {w : World} {ops : Array Oper} {o : Oper} {a : Act} {K : Act → World → Prop} {Q : Exit → Act → World → Prop} {X : Prop} (hw : Region.wanted o (yielded ops a.tmps) = true) {f : FuncId} (hen : ∀ (args : Array Value) (w : World), (callFunc f args).run P w = .ok (.enter f args) w) (xs : Array Operand) (ts : Array TypeId)
    (ho : o.op = .call { callee := .value (.func f), args := xs, argTypes := ts }) (vs : Array Value) (hv : xs.toList.map a.eval = vs.toList) {R : Ending → World → Prop} (hc : Calls P f vs w R)
    (h : ∀ e w', R e w' → ∃ v, e = .returned v ∧ K (a.put o.dst v) w') : if Region.wanted o (yielded ops a.tmps) = true then Oper.wp P o a w K Q else X := by
  rw [if_pos hw]
  have hv' : xs.map a.eval = vs := Array.ext' (by rw [Array.toList_map]; exact hv)
  have he : (execOp a.eval o).run P w = .ok (.enter f vs) w := by
    rw [← hv']
    simp [execOp, ho, resolve, invoke, Act.eval, go_sem, hen]
  unfold Oper.wp
  rw [he, Oper.upon_enter]
  refine hc.mono fun e w' hr => ?_
  obtain ⟨v, rfl, hk⟩ := h e w' hr
  exact hk
end Go.Proofs.YtbdlpbladpppjaaDoor
/- Appending to a slice of the call's own: one law over my word for such slices, whatever its spare room. No program in sight. -/
namespace Go.Proofs.YtbdlpbladpppjaaDoor
open Go.ChangeShapes Go.WideShapes Go.ChangeAt Go.RowKit
open Rec (sz cs)

section
variable {α : Type} [Rec α]

theorem addr_lit (b off j : Nat) : (⟨b, off, none⟩ : Addr).add j = ⟨b, off + j, none⟩ := by
  unfold Addr.add; split <;> simp_all

theorem Rd.news {w : World} {b off : Nat} {xs : List α} (h : Rd w (some ⟨b, off, none⟩) xs) : ∀ j u, (flat xs)[j]? = some u → w.cell? ((⟨b, off, none⟩ : Addr).add j) = some u := by
  intro j u hu
  have hlt := getElem?_lt hu
  rw [flat_length] at hlt
  obtain ⟨b', o', e, hb, hcs⟩ := h (by rcases xs with _ | ⟨x, l⟩ <;> simp at hlt ⊢)
  injection e with e
  injection e with e1 e2
  subst e1 e2
  rw [addr_lit]
  exact hcs j u hu

/-- What an append leaves. -/
structure Apd (E : TypeId) (w : World) (B : Nat) (A : Option Addr) (c : Nat) (zs : List α) (A' : Option Addr) (c' : Nat) (w' : World) : Prop where
  fr : Fr E w' B A' c' zs
  grown : w.grownBy w' (rowOf A c)
  row : rowOf A' c' = rowOf A c ∨ rowOf A' c' = some w.heap.size

/-- THE LAW. -/
theorem run_append_fr {P : Program} (w : World) (t ty E : TypeId) (i : TypeInfo) (z : Value) (bytes B : Nat) (ht : P.underlying t = some (.slice E)) (hi : P.info? E = some i) (hz : i.zero = some z)
    (hsize : i.size = sz α) (hby : i.bytes = bytes) (hzs : z.cells.size = sz α)
    (A : Option Addr) (c : Nat) (xs : List α) (hf : Fr E w B A c xs) (S : Option Addr) (c2 : Nat) (ys : List α) (hy : Rd w S ys)
    (h63 : xs.length + ys.length ≤ maxLen) (hbytes : (xs.length + ys.length) * bytes ≤ 140737488355328) (hbase : B ≤ w.heap.size) :
    ∃ A' c' w', (Builtin.append_ #[t, t] ty #[.slice A xs.length c, .slice S ys.length c2]).run P w = .ok (.slice A' (xs.length + ys.length) c') w' ∧ Apd E w B A c (xs ++ ys) A' c' w' := by
  by_cases hm : ys.length = 0
  · obtain rfl : ys = [] := List.eq_nil_of_length_eq_zero hm
    have hle := hf.le
    refine ⟨A, c, w, ?_, ⟨by simpa using hf, grown_refl _ _, .inl rfl⟩⟩
    cases A <;> cases S <;> simp [Builtin.append_, run_underlying ht, sizeOf, typeInfo, hi, Builtin.lenOf, Builtin.firstCells, loadCells, loadCellsFrom, hle, storeCells]
  obtain ⟨b, off, rfl, -, -⟩ := hy (by omega)
  have hnews := hy.news
  have hl : (flat ys).length = ys.length * i.size := by rw [flat_length, hsize]
  have h63' : xs.length + ys.length ≤ 9223372036854775807 := by simp only [maxLen] at h63; omega
  have hpos : 0 < sz α := Rec.pos
  have fresh : ∀ old, Fr E (w.drew.alloc (.cells ((flat xs).toArray ++ (flat ys).toArray ++ Builtin.zeroCells z.cells (grownCap w (xs.length + ys.length) old E - (xs.length + ys.length))) E)) B (some ⟨w.heap.size, 0, none⟩) (grownCap w (xs.length + ys.length) old E) (xs ++ ys) := by
    intro old
    have hge := grownCap_ge w (xs.length + ys.length) old E
    refine ⟨by rw [List.length_append]; exact hge, grownCap_le_maxLen w _ old E h63, .inr ⟨w.heap.size, (Builtin.zeroCells z.cells (grownCap w (xs.length + ys.length) old E - (xs.length + ys.length))).toList, rfl, hbase, ?_, ?_⟩⟩
    · unfold Bk Blk
      rw [show w.heap.size = w.drew.heap.size from rfl, heap_alloc_new]
      congr 2
      apply Array.ext'
      simp [flat_append]
    · simp only [Array.length_toList, size_zeroCells, hzs, List.length_append]
      exact Nat.le_refl _
  have gr : ∀ (cells : Array Value) (row : Option Nat), w.grownBy (w.drew.alloc (.cells cells E)) row := fun cells row => ⟨rfl, rfl, rfl, by simp, fun k hk _ => Below.heap_alloc w.drew _ k hk⟩
  by_cases hroom : xs.length + ys.length ≤ c
  · obtain ⟨hle, hcm, h0 | ⟨g, rest, rfl, hB, hb, hr⟩⟩ := hf
    · omega
    have hfit : xs.length * i.size + (flat ys).length ≤ (flat xs ++ rest).toArray.size := by
      rw [hl, hsize]
      simp only [List.size_toArray, List.length_append, flat_length]
      have : ys.length * sz α ≤ (c - xs.length) * sz α := Nat.mul_le_mul_right _ (by omega)
      omega
    have hrun := run_append_room (P := P) w t ty E i ht hi g xs.length c (flat xs ++ rest).toArray hb ⟨b, off, none⟩ ys.length c2 (flat ys) hl hnews (flat_one ys) hroom hfit
    refine ⟨_, _, _, hrun, ⟨⟨by rw [List.length_append]; exact hroom, hcm, .inr ⟨g, rest.drop (ys.length * sz α), rfl, hB, ?_, ?_⟩⟩, ⟨rfl, rfl, rfl, by simp, fun k _ hk => setRow_other w g k _ (fun e => hk (by rw [e, rowOf_some (by omega)]))⟩, .inl rfl⟩⟩
    · unfold Bk Blk
      rw [setRow_heap w g _ _ E _ hb]
      congr 2
      apply Array.ext'
      have e1 : xs.length * i.size = (flat xs).length := by rw [flat_length, hsize]
      simp only [e1, flat_append, List.append_assoc]
      rw [List.take_left, hl, hsize, flat_length]
      congr 2
      rw [← flat_length, List.drop_append, List.drop_of_length_le (by omega)]
      simp [flat_length]
    · rw [List.length_drop, List.length_append]
      have : (c - (xs.length + ys.length)) * sz α = (c - xs.length) * sz α - ys.length * sz α := by rw [← Nat.sub_mul]; congr 1; omega
      omega
  · cases A with
    | none =>
      have hx0 : xs = [] := by
        obtain ⟨hle, hcm, h0 | ⟨g, rest, e, _⟩⟩ := hf
        · exact List.eq_nil_of_length_eq_zero (by omega)
        · cases e
      have hc0 : c = 0 := by
        obtain ⟨hle, hcm, h0 | ⟨g, rest, e, _⟩⟩ := hf
        · exact h0
        · cases e
      subst hx0 hc0
      have hrun := run_append_nil (P := P) w t ty E i z ht hi hz ⟨b, off, none⟩ ys.length c2 (flat ys) hl hnews (by omega) (by simp at h63'; omega) (by rw [hby]; simp at hbytes; omega)
      have hfr := fresh 0
      simp only [List.length_nil, Nat.zero_add, flat_nil, List.nil_append] at hfr hrun ⊢
      refine ⟨_, _, _, hrun, ⟨by simpa using hfr, gr _ _, .inr (rowOf_some ?_)⟩⟩
      have := grownCap_ge w ys.length 0 E
      omega
    | some ad =>
      have hov : ∀ j u, (flat xs)[j]? = some u → w.cell? (ad.add j) = some u := by
        intro j u hu
        have hlt := getElem?_lt hu
        rw [flat_length] at hlt
        obtain ⟨b', o', e, -, -⟩ := hf.rd (by rcases xs with _ | ⟨x, l⟩ <;> simp at hlt ⊢)
        injection e with e
        subst e
        exact hf.rd.news j u hu
      have hrun := run_append_grow (P := P) w t ty E i z ht hi hz ad xs.length c (flat xs) (by rw [flat_length, hsize]) hov ⟨b, off, none⟩ ys.length c2 (flat ys) hl hnews (by omega) (by omega) (by rw [hby]; exact growslice_fits (by omega) hbytes)
      refine ⟨_, _, _, hrun, ⟨fresh c, gr _ _, .inr (rowOf_some ?_)⟩⟩
      have := grownCap_ge w (xs.length + ys.length) c E
      omega

/-- At the operation. -/
theorem wp_append_fr {P : Program} (w : World) {o : Oper} {a : Act} {K : Act → World → Prop} {Q : Exit → Act → World → Prop} (s x : Operand) (t : TypeId)
    (ho : o.op = .call { callee := .builtin .append, args := #[s, x], argTypes := #[t, t] })
    (E : TypeId) (i : TypeInfo) (z : Value) (bytes B : Nat) (ht : P.underlying t = some (.slice E)) (hi : P.info? E = some i) (hz : i.zero = some z)
    (hsize : i.size = sz α) (hby : i.bytes = bytes) (hzs : z.cells.size = sz α)
    (A : Option Addr) (c n : Nat) (xs : List α) (hn : n = xs.length) (hs : a.eval s = .slice A n c) (hf : Fr E w B A c xs) (S : Option Addr) (c2 m : Nat) (ys : List α) (hm : m = ys.length) (hx : a.eval x = .slice S m c2) (hy : Rd w S ys)
    (h63 : n + m ≤ maxLen) (hbytes : (n + m) * bytes ≤ 140737488355328) (hbase : B ≤ w.heap.size)
    (h : ∀ A' c' w', Apd E w B A c (xs ++ ys) A' c' w' → K (a.put o.dst (.slice A' (n + m) c')) w') : o.wp P a w K Q := by
  subst hn hm
  obtain ⟨A', c', w', hr, h2⟩ := run_append_fr (P := P) w t o.type E i z bytes B ht hi hz hsize hby hzs A c xs hf S c2 ys hy h63 hbytes hbase
  unfold Oper.wp execOp
  simp only [ho, resolve, invoke, builtin, Sem.run_bind, Sem.run_pure, Result.andThen_ok, List.map_toArray, List.map_cons, List.map_nil, hs, hx, hr]
  exact h A' c' w' h2

theorem wpList_append_fr {P : Program} {w : World} {ops : Array Oper} {rest : List Oper} {o : Oper} {a : Act} {Q : Exit → Act → World → Prop} (hgd : o.guard = none) (s x : Operand) (t : TypeId)
    (ho : o.op = .call { callee := .builtin .append, args := #[s, x], argTypes := #[t, t] })
    (E : TypeId) (i : TypeInfo) (z : Value) (bytes B : Nat) (ht : P.underlying t = some (.slice E)) (hi : P.info? E = some i) (hz : i.zero = some z)
    (hsize : i.size = sz α) (hby : i.bytes = bytes) (hzs : z.cells.size = sz α)
    (A : Option Addr) (c n : Nat) (xs : List α) (hn : n = xs.length) (hs : a.eval s = .slice A n c) (hf : Fr E w B A c xs) (S : Option Addr) (c2 m : Nat) (ys : List α) (hm : m = ys.length) (hx : a.eval x = .slice S m c2) (hy : Rd w S ys)
    (h63 : n + m ≤ maxLen) (hbytes : (n + m) * bytes ≤ 140737488355328) (hbase : B ≤ w.heap.size)
    (h : ∀ A' c' w', Apd E w B A c (xs ++ ys) A' c' w' → wpList P ops Q rest (a.put o.dst (.slice A' (n + m) c')) w') : wpList P ops Q (o :: rest) a w :=
  wpList_plain hgd fun _ hK => wp_append_fr w s x t ho E i z bytes B ht hi hz hsize hby hzs A c n xs hn hs hf S c2 m ys hm hx hy h63 hbytes hbase fun A' c' w' h2 => hK _ _ (h A' c' w' h2)

theorem step_append_fr {P : Program} {w : World} {ops : Array Oper} {o : Oper} {a : Act} {K : Act → World → Prop} {Q : Exit → Act → World → Prop} {X : Prop} (hgd : o.guard = none) (s x : Operand) (t : TypeId)
    (ho : o.op = .call { callee := .builtin .append, args := #[s, x], argTypes := #[t, t] })
    (E : TypeId) (i : TypeInfo) (z : Value) (bytes B : Nat) (ht : P.underlying t = some (.slice E)) (hi : P.info? E = some i) (hz : i.zero = some z)
    (hsize : i.size = sz α) (hby : i.bytes = bytes) (hzs : z.cells.size = sz α)
    (A : Option Addr) (c n : Nat) (xs : List α) (hn : n = xs.length) (hs : a.eval s = .slice A n c) (hf : Fr E w B A c xs) (S : Option Addr) (c2 m : Nat) (ys : List α) (hm : m = ys.length) (hx : a.eval x = .slice S m c2) (hy : Rd w S ys)
    (h63 : n + m ≤ maxLen) (hbytes : (n + m) * bytes ≤ 140737488355328) (hbase : B ≤ w.heap.size)
    (h : ∀ A' c' w', Apd E w B A c (xs ++ ys) A' c' w' → K (a.put o.dst (.slice A' (n + m) c')) w') :
    if Region.wanted o (yielded ops a.tmps) = true then Oper.wp P o a w K Q else X := by
  have hw : Region.wanted o (yielded ops a.tmps) = true := by simp [Region.wanted, hgd]
  rw [if_pos hw]
  exact wp_append_fr w s x t ho E i z bytes B ht hi hz hsize hby hzs A c n xs hn hs hf S c2 m ys hm hx hy h63 hbytes hbase h
end
end Go.Proofs.YtbdlpbladpppjaaDoor
/- Contracts of the small functions over Int: comparing, copying, counting, marking. Written by a program of mine from one pattern. -/
namespace Go.Proofs.YtbdlpbladpppjaaDoor
open Go.ChangeShapes Go.WideShapes Go.ChangeAt Go.RowKit
open Rec (sz cs)
set_option linter.unusedVariables false
set_option maxRecDepth 100000

theorem infoMInt : (Tryd.prog.info? 3).map (fun i => (i.zero, i.size, i.bytes)) = some (some (.int .i64 0), 1, 8) := by kernel_rfl

set_option maxHeartbeats 1000000 in
theorem equalInt_c (A B : Option Addr) (c d : Nat) (xs ys : List Int) (w : World) (hx : Rd w A xs) (hy : Rd w B ys) (hn : xs.length ≤ 1048576) (hm : ys.length ≤ 1048576) :
   Calls Tryd.prog 20 #[.slice A xs.length c, .slice B ys.length d] w
   fun r w' => r = .returned (.bool (eqB xs ys)) ∧ Ex w w' := by
  by_cases hl : xs.length = ys.length
  · obtain ⟨n, hn1⟩ : ∃ n, n = xs.length := ⟨_, rfl⟩
    obtain ⟨m, hm1⟩ : ∃ m, m = ys.length := ⟨_, rfl⟩
    rw [← hn1, ← hm1]
    obtain rfl : n = m := by omega
    have hn' : n ≤ 1048576 := by omega
    have HX := Lib.hid hn1
    have HY := Lib.hid hm1
    have H1 := Lib.hid hx
    have H2 := Lib.hid hy
    clear hn hm hn1 hm1 hx hy hl
    go_enter Tryd.func20, Tryd.ntmps20
    go_wp2
    go_loopw [13] (fun i wr => ∃ k : Nat, k ≤ n ∧ i = .int .i64 k ∧ Ex w wr ∧ xs.take k = ys.take k) (fun i _ => n - (intOf i).toNat)
    case atStart => exact ⟨0, Nat.zero_le _, rfl, Ex.refl _, rfl⟩
    case round =>
      obtain ⟨k, hk, rfl, hbel, htk⟩ := hrel
      have HT := Lib.hid htk
      clear htk
      by_cases hlt : k < n
      · obtain ⟨b1, o1, x, rfl, hb1, hxk, h0⟩ := Rd.int (H1.out.ex hbel) (k := k) (by have := HX.out; omega)
        obtain ⟨b2, o2, y, rfl, hb2, hyk, g0⟩ := Rd.int (H2.out.ex hbel) (k := k) (by have := HY.out; omega)
        have HXK := Lib.hid hxk
        have HYK := Lib.hid hyk
        clear hxk hyk
        cases hxy : eqB x y
        · have hne : x ≠ y := eqB_false.1 hxy
          have hnb : (x != y) = true := by simpa using hne
          go_wp2_with fail
          go_quiet (fail)
          go_wp2
          go_ret
          exact ⟨ret_bool (by rw [eq_comm, eqB_false]; exact ne_of_elem HXK.out HYK.out hne), hbel.drewN _⟩
        · have HE := Lib.hid (eqB_true.1 hxy)
          have hnb : (x != y) = false := by have := HE.out; simpa using this
          go_wp2_with fail
          go_quiet (fail)
          go_wp2
          go_roundw
          case rel => exact ⟨k + 1, by omega, by go_num, hbel.drewN _, (take_eq_step HXK.out HYK.out).2 ⟨HT.out, HE.out⟩⟩
          case measure => simp [intOf]; omega
      · go_wp2
        go_ret
        exact ⟨ret_bool (by rw [eq_comm, eqB_true]; exact eq_of_take HX.out.symm HY.out.symm (by rw [show n = k from by omega]; exact HT.out)), hbel⟩
  · have hne : ((xs.length : Int) != (ys.length : Int)) = true := by simp; omega
    go_enter Tryd.func20, Tryd.ntmps20
    go_wp2
    go_ret
    exact ⟨ret_bool (by rw [eq_comm, eqB_false]; intro h; exact hl (by rw [h])), Ex.refl _⟩
end Go.Proofs.YtbdlpbladpppjaaDoor
/- Keys: comparing one with itself, copying. -/
namespace Go.Proofs.YtbdlpbladpppjaaDoor
open Go.ChangeShapes Go.WideShapes Go.ChangeAt Go.RowKit
open Rec (sz cs)
set_option linter.unusedVariables false
set_option maxRecDepth 100000

end Go.Proofs.YtbdlpbladpppjaaDoor
/- Contracts of the small functions over Frame: comparing, copying, counting, marking. Written by a program of mine from one pattern. -/
namespace Go.Proofs.YtbdlpbladpppjaaDoor
open Go.ChangeShapes Go.WideShapes Go.ChangeAt Go.RowKit
open Rec (sz cs)
set_option linter.unusedVariables false
set_option maxRecDepth 100000

theorem infoMFrame : (Tryd.prog.info? 47).map (fun i => (i.zero, i.size, i.bytes)) = some (some (.agg #[.bool false, .int .i64 0, .int .i64 0, .int .i64 0, .int .i64 0]), 5, 40) := by kernel_rfl

theorem fieldsFrame : Tryd.prog.underlying 47 = some (.struct (Tryd.prog.fieldsOf 47)) := by kernel_rfl
theorem heldFrame_ : Tryd.prog.stoodInHeld 47 = false := by kernel_rfl
theorem guardFrame : Tryd.prog.eqGuardType Tryd.prog.depth 47 = false := by kernel_rfl
theorem eqIn_frame (x y : FrameD) (w : World) : (Op.equalIn 10000 47 (.agg #[.bool x.used, .int .i64 x.key.space, .int .i64 x.key.page, .int .i64 x.rights, .int .i64 x.next]) (.agg #[.bool y.used, .int .i64 y.key.space, .int .i64 y.key.page, .int .i64 y.rights, .int .i64 y.next])).run Tryd.prog w = .ok (eqB x y) w := by
  obtain ⟨a1, ⟨b1, c1⟩, d1, e1⟩ := x
  obtain ⟨a2, ⟨b2, c2⟩, d2, e2⟩ := y
  rw [run_equalIn_agg w 9999 _ _ _ fieldsFrame heldFrame_]
  simp [go_sem, Tryd.underlying47, Tryd.underlying45]
  by_cases k0 : a1 = a2 <;> by_cases k1 : b1 = b2 <;> by_cases k2 : c1 = c2 <;> by_cases k3 : d1 = d2 <;> by_cases k4 : e1 = e2 <;> simp [eqB, *]
theorem neq_frame (x y : FrameD) (w : World) : (binOp .neq 47 (.agg #[.bool x.used, .int .i64 x.key.space, .int .i64 x.key.page, .int .i64 x.rights, .int .i64 x.next]) (.agg #[.bool y.used, .int .i64 y.key.space, .int .i64 y.key.page, .int .i64 y.rights, .int .i64 y.next])).run Tryd.prog w = .ok (.bool (!eqB x y)) w := by
  rw [run_neq_struct, eqIn_frame]; rfl
theorem eql_frame (x y : FrameD) (w : World) : (binOp .eql 47 (.agg #[.bool x.used, .int .i64 x.key.space, .int .i64 x.key.page, .int .i64 x.rights, .int .i64 x.next]) (.agg #[.bool y.used, .int .i64 y.key.space, .int .i64 y.key.page, .int .i64 y.rights, .int .i64 y.next])).run Tryd.prog w = .ok (.bool (eqB x y)) w := by
  rw [run_eql_struct, eqIn_frame]; rfl

set_option maxHeartbeats 1000000 in
theorem equalFrame_c (A B : Option Addr) (c d : Nat) (xs ys : List FrameD) (w : World) (hx : Rd w A xs) (hy : Rd w B ys) (hn : xs.length ≤ 1048576) (hm : ys.length ≤ 1048576) :
   Calls Tryd.prog 21 #[.slice A xs.length c, .slice B ys.length d] w
   fun r w' => r = .returned (.bool (eqB xs ys)) ∧ Ex w w' := by
  by_cases hl : xs.length = ys.length
  · obtain ⟨n, hn1⟩ : ∃ n, n = xs.length := ⟨_, rfl⟩
    obtain ⟨m, hm1⟩ : ∃ m, m = ys.length := ⟨_, rfl⟩
    rw [← hn1, ← hm1]
    obtain rfl : n = m := by omega
    have hn' : n ≤ 1048576 := by omega
    have HX := Lib.hid hn1
    have HY := Lib.hid hm1
    have H1 := Lib.hid hx
    have H2 := Lib.hid hy
    clear hn hm hn1 hm1 hx hy hl
    go_enter Tryd.func21, Tryd.ntmps21
    go_wp2
    go_loopw [13] (fun i wr => ∃ k : Nat, k ≤ n ∧ i = .int .i64 k ∧ Ex w wr ∧ xs.take k = ys.take k) (fun i _ => n - (intOf i).toNat)
    case atStart => exact ⟨0, Nat.zero_le _, rfl, Ex.refl _, rfl⟩
    case round =>
      obtain ⟨k, hk, rfl, hbel, htk⟩ := hrel
      have HT := Lib.hid htk
      clear htk
      by_cases hlt : k < n
      · obtain ⟨b1, o1, x, rfl, hb1, hxk, h0, h1, h2, h3, h4⟩ := Rd.frame (H1.out.ex hbel) (k := k) (by have := HX.out; omega)
        obtain ⟨b2, o2, y, rfl, hb2, hyk, g0, g1, g2, g3, g4⟩ := Rd.frame (H2.out.ex hbel) (k := k) (by have := HY.out; omega)
        have HXK := Lib.hid hxk
        have HYK := Lib.hid hyk
        clear hxk hyk
        have hneq := neq_frame x y
        have hgd := guardFrame
        cases hxy : eqB x y
        · have hne : x ≠ y := eqB_false.1 hxy
          skip
          go_wp2_with fail
          go_quiet (fail)
          clear hneq hgd
          go_wp2
          go_ret
          exact ⟨ret_bool (by rw [eq_comm, eqB_false]; exact ne_of_elem HXK.out HYK.out hne), hbel.drewN _⟩
        · have HE := Lib.hid (eqB_true.1 hxy)
          skip
          go_wp2_with fail
          go_quiet (fail)
          clear hneq hgd
          go_wp2
          go_roundw
          case rel => exact ⟨k + 1, by omega, by go_num, hbel.drewN _, (take_eq_step HXK.out HYK.out).2 ⟨HT.out, HE.out⟩⟩
          case measure => simp [intOf]; omega
      · go_wp2
        go_ret
        exact ⟨ret_bool (by rw [eq_comm, eqB_true]; exact eq_of_take HX.out.symm HY.out.symm (by rw [show n = k from by omega]; exact HT.out)), hbel⟩
  · have hne : ((xs.length : Int) != (ys.length : Int)) = true := by simp; omega
    go_enter Tryd.func21, Tryd.ntmps21
    go_wp2
    go_ret
    exact ⟨ret_bool (by rw [eq_comm, eqB_false]; intro h; exact hl (by rw [h])), Ex.refl _⟩
end Go.Proofs.YtbdlpbladpppjaaDoor
/- Contracts over whole tables: counting, copying, comparing, marking. -/
namespace Go.Proofs.YtbdlpbladpppjaaDoor
open Go.ChangeShapes Go.WideShapes Go.ChangeAt Go.RowKit
open Rec (sz cs)
set_option linter.unusedVariables false
set_option maxRecDepth 100000

theorem table_eq (x y : TableD) : x = y ↔ x.buckets = y.buckets ∧ x.frames = y.frames := by
  cases x; cases y; simp

set_option maxHeartbeats 400000 in
theorem tableSameI_c (x y : TableD) (A : Option Addr) (c : Nat) (B : Option Addr) (d : Nat) (A' : Option Addr) (c' : Nat) (B' : Option Addr) (d' : Nat) (w : World) (hx : Rd w A x.buckets) (hy : Rd w B x.frames) (hx' : Rd w A' y.buckets) (hy' : Rd w B' y.frames)
    (hn : x.buckets.length ≤ 1048576) (hm : x.frames.length ≤ 1048576) (hn' : y.buckets.length ≤ 1048576) (hm' : y.frames.length ≤ 1048576) :
    Calls Tryd.prog 7 #[.agg #[.slice A x.buckets.length c, .slice B x.frames.length d], .agg #[.slice A' y.buckets.length c', .slice B' y.frames.length d']] w fun r w' => r = .returned (.bool (eqB x y)) ∧ Ex w w' := by
  have HX := Lib.hid hx
  have HY := Lib.hid hy
  have HX2 := Lib.hid hx'
  have HY2 := Lib.hid hy'
  clear hx hy hx' hy'
  have C1 := Lib.hid (fun w h1 h2 => equalInt_c A A' c c' x.buckets y.buckets w h1 h2 hn hn')
  have C2 := Lib.hid (fun w h1 h2 => equalFrame_c B B' d d' x.frames y.frames w h1 h2 hm hm')
  cases h1 : eqB x.buckets y.buckets
  · have e : eqB x y = false := by rw [eqB_false, Ne, table_eq]; intro h; rw [eqB_true.2 h.1] at h1; cases h1
    rw [e]
    rw [h1] at C1
    clear e h1
    go_enter Tryd.func7, Tryd.ntmps7
    go_wp2_with fail
    refine name_calls ?_; intro v1 hv1
    have X1 : Hid (Chg (0) (0) w v1) := Lib.hid (by rw [hv1]; repeat' (first | with_reducible exact Chg.refl _ _ _ | with_reducible refine Chg.alloc ?_ _ | with_reducible refine Chg.drew ?_ | with_reducible refine Chg.set ?_ (by omega) _))
    have t1 : w.heap.size ≤ v1.heap.size := X1.out.size
    have Ev1 : Hid (Ex w v1) := Lib.hid ((Ex.refl w).chg X1.out (by omega))
    have KX : Hid (Blk v1 (w.heap.size) 26 [.slice A x.buckets.length c, .slice B x.frames.length d]) := Lib.hid (by rw [hv1]; repeat' (first | with_reducible exact Blk.new_at _ _ _ (by simp) | with_reducible refine Blk.alloc ?_ _ | with_reducible refine Blk.drew ?_ | with_reducible refine Blk.far ?_ (by simp; omega) _))
    have lX : w.heap.size < v1.heap.size := KX.out.lt
    have KY : Hid (Blk v1 (w.heap.size + 1) 26 [.slice A' y.buckets.length c', .slice B' y.frames.length d']) := Lib.hid (by rw [hv1]; repeat' (first | with_reducible exact Blk.new_at _ _ _ (by simp) | with_reducible refine Blk.alloc ?_ _ | with_reducible refine Blk.drew ?_ | with_reducible refine Blk.far ?_ (by simp; omega) _))
    have lY : w.heap.size + 1 < v1.heap.size := KY.out.lt
    have DX := Lib.hid (HX.out.ex Ev1.out)
    have DXX := Lib.hid (HX2.out.ex Ev1.out)
    clear hv1
    refine (C1.out _ DX.out DXX.out).mono ?_; rintro r w1 ⟨rfl, hb1⟩
    have Y1 : Hid (Chg 0 0 v1 w1) := Lib.hid (Chg.of_ex hb1)
    have s1 : v1.heap.size ≤ w1.heap.size := Y1.out.size
    have Ew1 : Hid (Ex w w1) := Lib.hid (Ev1.out.chg Y1.out (by omega))
    clear hb1
    replace KX := Lib.hid (KX.out.chg Y1.out (by omega))
    replace KY := Lib.hid (KY.out.chg Y1.out (by omega))
    replace DX := Lib.hid (HX.out.ex Ew1.out)
    replace DXX := Lib.hid (HX2.out.ex Ew1.out)
    obtain ⟨qX0, qX1⟩ := KX.out.c2
    have jX := KX.out.lt
    obtain ⟨qY0, qY1⟩ := KY.out.c2
    have jY := KY.out.lt
    go_wp2
    go_ret
    exact ⟨rfl, Ew1.out⟩
  · have e : eqB x y = eqB x.frames y.frames := by rw [Bool.eq_iff_iff, eqB_true, eqB_true, table_eq]; exact ⟨fun h => h.2, fun h => ⟨eqB_true.1 h1, h⟩⟩
    rw [e]
    rw [h1] at C1
    clear e h1
    go_enter Tryd.func7, Tryd.ntmps7
    go_wp2_with fail
    refine name_calls ?_; intro v1 hv1
    have X1 : Hid (Chg (0) (0) w v1) := Lib.hid (by rw [hv1]; repeat' (first | with_reducible exact Chg.refl _ _ _ | with_reducible refine Chg.alloc ?_ _ | with_reducible refine Chg.drew ?_ | with_reducible refine Chg.set ?_ (by omega) _))
    have t1 : w.heap.size ≤ v1.heap.size := X1.out.size
    have Ev1 : Hid (Ex w v1) := Lib.hid ((Ex.refl w).chg X1.out (by omega))
    have KX : Hid (Blk v1 (w.heap.size) 26 [.slice A x.buckets.length c, .slice B x.frames.length d]) := Lib.hid (by rw [hv1]; repeat' (first | with_reducible exact Blk.new_at _ _ _ (by simp) | with_reducible refine Blk.alloc ?_ _ | with_reducible refine Blk.drew ?_ | with_reducible refine Blk.far ?_ (by simp; omega) _))
    have lX : w.heap.size < v1.heap.size := KX.out.lt
    have KY : Hid (Blk v1 (w.heap.size + 1) 26 [.slice A' y.buckets.length c', .slice B' y.frames.length d']) := Lib.hid (by rw [hv1]; repeat' (first | with_reducible exact Blk.new_at _ _ _ (by simp) | with_reducible refine Blk.alloc ?_ _ | with_reducible refine Blk.drew ?_ | with_reducible refine Blk.far ?_ (by simp; omega) _))
    have lY : w.heap.size + 1 < v1.heap.size := KY.out.lt
    have DX := Lib.hid (HX.out.ex Ev1.out)
    have DXX := Lib.hid (HX2.out.ex Ev1.out)
    have DY := Lib.hid (HY.out.ex Ev1.out)
    have DYY := Lib.hid (HY2.out.ex Ev1.out)
    clear hv1
    refine (C1.out _ DX.out DXX.out).mono ?_; rintro r w1 ⟨rfl, hb1⟩
    have Y1 : Hid (Chg 0 0 v1 w1) := Lib.hid (Chg.of_ex hb1)
    have s1 : v1.heap.size ≤ w1.heap.size := Y1.out.size
    have Ew1 : Hid (Ex w w1) := Lib.hid (Ev1.out.chg Y1.out (by omega))
    clear hb1
    replace KX := Lib.hid (KX.out.chg Y1.out (by omega))
    replace KY := Lib.hid (KY.out.chg Y1.out (by omega))
    replace DX := Lib.hid (HX.out.ex Ew1.out)
    replace DXX := Lib.hid (HX2.out.ex Ew1.out)
    replace DY := Lib.hid (HY.out.ex Ew1.out)
    replace DYY := Lib.hid (HY2.out.ex Ew1.out)
    obtain ⟨qX0, qX1⟩ := KX.out.c2
    have jX := KX.out.lt
    obtain ⟨qY0, qY1⟩ := KY.out.c2
    have jY := KY.out.lt
    go_wp2_with fail
    refine name_calls ?_; intro v2 hv2
    have X2 : Hid (Chg (0) (0) w1 v2) := Lib.hid (by rw [hv2]; repeat' (first | with_reducible exact Chg.refl _ _ _ | with_reducible refine Chg.alloc ?_ _ | with_reducible refine Chg.drew ?_ | with_reducible refine Chg.set ?_ (by omega) _))
    have t2 : w1.heap.size ≤ v2.heap.size := X2.out.size
    have Ev2 : Hid (Ex w v2) := Lib.hid (Ew1.out.chg X2.out (by omega))
    clear qX0 qX1 jX
    clear qY0 qY1 jY
    replace KX := Lib.hid (KX.out.chg X2.out (by omega))
    replace KY := Lib.hid (KY.out.chg X2.out (by omega))
    replace DX := Lib.hid (HX.out.ex Ev2.out)
    replace DXX := Lib.hid (HX2.out.ex Ev2.out)
    replace DY := Lib.hid (HY.out.ex Ev2.out)
    replace DYY := Lib.hid (HY2.out.ex Ev2.out)
    clear hv2
    refine (C2.out _ DY.out DYY.out).mono ?_; rintro r w2 ⟨rfl, hb2⟩
    have Y2 : Hid (Chg 0 0 v2 w2) := Lib.hid (Chg.of_ex hb2)
    have s2 : v2.heap.size ≤ w2.heap.size := Y2.out.size
    have Ew2 : Hid (Ex w w2) := Lib.hid (Ev2.out.chg Y2.out (by omega))
    clear hb2
    replace KX := Lib.hid (KX.out.chg Y2.out (by omega))
    replace KY := Lib.hid (KY.out.chg Y2.out (by omega))
    replace DX := Lib.hid (HX.out.ex Ew2.out)
    replace DXX := Lib.hid (HX2.out.ex Ew2.out)
    replace DY := Lib.hid (HY.out.ex Ew2.out)
    replace DYY := Lib.hid (HY2.out.ex Ew2.out)
    obtain ⟨qX0, qX1⟩ := KX.out.c2
    have jX := KX.out.lt
    obtain ⟨qY0, qY1⟩ := KY.out.c2
    have jY := KY.out.lt
    go_wp2
    go_ret
    exact ⟨rfl, Ew2.out⟩

end Go.Proofs.YtbdlpbladpppjaaDoor
/- A copy of a table. -/
namespace Go.Proofs.YtbdlpbladpppjaaDoor
open Go.ChangeShapes Go.WideShapes Go.ChangeAt Go.RowKit
open Rec (sz cs)
set_option linter.unusedVariables false
set_option maxRecDepth 100000

set_option maxHeartbeats 2000000 in
theorem l3Copy_c (t : TableD) (A : Option Addr) (c : Nat) (B : Option Addr) (d : Nat) (w : World) (hx : Rd w A t.buckets) (hy : Rd w B t.frames) (hn : t.buckets.length ≤ 1048576) (hm : t.frames.length ≤ 1048576) (hc : t.buckets.length ≤ c) (hd : t.frames.length ≤ d) (hc2 : c ≤ maxLen) (hd2 : d ≤ maxLen) :
    Calls Tryd.prog 28 #[.agg #[.slice A t.buckets.length c, .slice B t.frames.length d]] w fun r w' => ∃ A' c' B' d', r = .returned (.agg #[.slice A' t.buckets.length c', .slice B' t.frames.length d']) ∧ Fr 3 w' w.heap.size A' c' t.buckets ∧ Fr 47 w' w.heap.size B' d' t.frames ∧ Ex w w' := by
  have HX := Lib.hid hx
  have HY := Lib.hid hy
  clear hx hy
  obtain ⟨i0, hi, hz0, hz1, hz2⟩ := info_parts infoMInt
  obtain ⟨i1, gi, gz0, gz1, gz2⟩ := info_parts infoMFrame
  obtain ⟨xs, ys⟩ := t
  simp only at HX HY hn hm hc hd ⊢
  go_enter Tryd.func28, Tryd.ntmps28
  go_wp2_with fail
  obtain ⟨w0, hw0⟩ : ∃ w0 : World, w0 = ((w.alloc (.cells #[.slice A xs.length c, .slice B ys.length d] 26)).alloc (.cells #[.slice none 0 0, .slice none 0 0] 26)) := ⟨_, rfl⟩
  have E0 : Hid (Ex w w0) := Lib.hid (by rw [hw0]; exact ((Ex.refl w).alloc _).alloc _)
  have KC : Hid (Blk w0 w.heap.size 26 [.slice A xs.length c, .slice B ys.length d]) := Lib.hid (by rw [hw0]; exact (Blk.new _ _ _).alloc _)
  have KR : Hid (Blk w0 (w.heap.size + 1) 26 [.slice none 0 0, .slice none 0 0]) := Lib.hid (by rw [hw0]; exact Blk.new_at _ _ _ (by simp))
  have HX0 : Hid (Rd w0 A xs) := Lib.hid (HX.out.ex E0.out)
  have HY0 : Hid (Rd w0 B ys) := Lib.hid (HY.out.ex E0.out)
  have H63 : Hid (0 + xs.length ≤ maxLen) := Lib.hid (by simp [maxLen]; omega)
  have H64 : Hid (0 + ys.length ≤ maxLen) := Lib.hid (by simp [maxLen]; omega)
  have HBY : Hid ((0 + xs.length) * 8 ≤ 140737488355328) := Lib.hid (by omega)
  have HBZ : Hid ((0 + ys.length) * 40 ≤ 140737488355328) := Lib.hid (by omega)
  have HO : Hid (∀ (w1 : World) (a : Option Addr), Fr 3 w1 w0.heap.size a 0 ([] : List Int)) := Lib.hid (fun w1 a => Fr.none_ _ _ _ _)
  have HP : Hid (∀ (w1 : World) (a : Option Addr), Fr 47 w1 w0.heap.size a 0 ([] : List FrameD)) := Lib.hid (fun w1 a => Fr.none_ _ _ _ _)
  have HBG : Hid (∀ (w1 w2 : World) (a : Option Addr), Ex w0 w1 → w1.grownBy w2 (rowOf a 0) → Ex w0 w2) := Lib.hid (fun w1 w2 a h hg => h.grown hg (by rintro k hk; simp [rowOf] at hk))
  obtain ⟨gc, hgc⟩ : ∃ gc : Nat, gc = w.heap.size := ⟨_, rfl⟩
  rw [← hw0, ← hgc]
  rw [← hgc] at KC KR
  have HG := Lib.hid hgc
  have FK : Hid (∀ w', Ex w0 w' → (w'.cell? ⟨gc, 0, none⟩ = some (.slice A xs.length c) ∧ w'.cell? ⟨gc, 1, none⟩ = some (.slice B ys.length d))) := Lib.hid (fun w' h => (KC.out.ex h).c2)
  clear hw0 hgc HX HY
  go_region_held3 (fun w' => (w'.cell? ⟨gc, 0, none⟩ = some (.slice A xs.length c) ∧ w'.cell? ⟨gc, 1, none⟩ = some (.slice B ys.length d))) (first | (refine FK.out _ ?_; (repeat' (first | with_reducible exact Ex.refl _ | with_reducible exact hbb | with_reducible exact hba | with_reducible refine Ex.alloc ?_ _ | with_reducible refine Ex.drew ?_)); done) | go_keep) (first
    | (refine step_append_fr (α := Int) rfl _ _ 23 rfl 3 i0 _ 8 w0.heap.size Tryd.underlying23 hi hz0 hz1 hz2 rfl _ 0 0 [] rfl rfl (HO.out _ _) A c _ xs rfl rfl (HX0.out.ex (by repeat' (first | with_reducible exact Ex.refl _ | with_reducible refine Ex.alloc ?_ _ | with_reducible refine Ex.drew ?_))) H63.out HBY.out (Ex.size (by repeat' (first | with_reducible exact Ex.refl _ | with_reducible refine Ex.alloc ?_ _ | with_reducible refine Ex.drew ?_))) ?_; intro A2 c2 w2 ha; have hba := HBG.out _ _ _ (by repeat' (first | with_reducible exact Ex.refl _ | with_reducible refine Ex.alloc ?_ _ | with_reducible refine Ex.drew ?_)) ha.grown; have hr := Blk.ex KR.out hba; obtain ⟨hr0, hr1⟩ := hr.c2; have hrf := hr.frozen; have hrl := hr.lt; clear hr)
    | (refine step_append_fr (α := FrameD) rfl _ _ 24 rfl 47 i1 _ 40 w0.heap.size Tryd.underlying24 gi gz0 gz1 gz2 rfl _ 0 0 [] rfl rfl (HP.out _ _) B d _ ys rfl rfl (HY0.out.ex (by repeat' (first | with_reducible exact Ex.refl _ | with_reducible exact hba | with_reducible refine Ex.alloc ?_ _ | with_reducible refine Ex.drew ?_))) H64.out HBZ.out (Ex.size (by repeat' (first | with_reducible exact Ex.refl _ | with_reducible exact hba | with_reducible refine Ex.alloc ?_ _ | with_reducible refine Ex.drew ?_))) ?_; intro B2 d2 w4 hb; have hbb := HBG.out _ _ _ (by repeat' (first | with_reducible exact Ex.refl _ | with_reducible exact hba | with_reducible refine Ex.alloc ?_ _ | with_reducible refine Ex.drew ?_)) hb.grown; clear hr0 hr1 hrf hrl; have hr := Blk.ex KR.out hbb; obtain ⟨hr0, hr1⟩ := hr.c2; have hrf := hr.frozen; have hrl := hr.lt; clear hr; obtain ⟨hk0, hk1⟩ := FK.out _ hbb; have hec : Ex w2 w4 := Ex.grown (a := w2) (by repeat' (first | with_reducible exact Ex.refl _ | with_reducible refine Ex.alloc ?_ _ | with_reducible refine Ex.drew ?_)) hb.grown (by rintro k hk; simp [rowOf] at hk)))
  all_goals
    rename_i hHeld
    clear hHeld hk0 hk1 hr0 hr1 hrf hrl
    simp only [List.nil_append] at ha hb
    try simp only [Nat.zero_add]
    have HFA := Lib.hid (ha.fr.ex hec)
    have HFB := Lib.hid hb.fr
    have HBB := Lib.hid hbb
    clear ha hb hba hbb hec
    have hr := Blk.set (Blk.set (Blk.ex KR.out HBB.out) 0 (.slice A2 xs.length c2)) 1 (.slice B2 ys.length d2)
    obtain ⟨hr0, hr1⟩ := Blk.c2 hr
    have hl := hr.lt
    clear hr
    have HL := Lib.hid KR.out.lt
    have HL2 := Lib.hid E0.out.size
    have hgl : w.heap.size ≤ gc + 1 := by have := HG.out; omega
    go_wp2
    exact bodyPost_ret (v := .agg #[.slice A2 xs.length c2, .slice B2 ys.length d2]) (by simp [results, Tryd.results28, go_sem, *]) rfl
      ⟨A2, c2, B2, d2, rfl, Fr.mono (B := w0.heap.size) (by repeat' (first | exact HFA.out | with_reducible refine Fr.set_below ?_ HL.out _)) HL2.out, Fr.mono (B := w0.heap.size) (by repeat' (first | exact HFB.out | with_reducible refine Fr.set_below ?_ HL.out _)) HL2.out, by repeat' (first | exact E0.out.trans HBB.out | with_reducible refine Ex.set ?_ hgl _)⟩
end Go.Proofs.YtbdlpbladpppjaaDoor
/- slices.Repeat of a slice of one element; copying rows of records. -/
namespace Go.Proofs.YtbdlpbladpppjaaDoor
open Go.ChangeShapes Go.WideShapes Go.ChangeAt Go.RowKit
open Rec (sz cs)
set_option linter.unusedVariables false
set_option maxRecDepth 100000

theorem run_copy_rec {P : Program} (w : World) (dT sT ty elem : TypeId) (g o dLen dCap : Nat) (a : Addr) (sLen sCap : Nat) (cur : Array Value) (t : TypeId) (l : List Value) (k n : Nat)
    (hu : P.underlying dT = some (.slice elem)) (hs : (P.info? elem).map (·.size) = some k)
    (hg : w.heap[g]? = some (.cells cur t (0, 0))) (hn : n = Nat.min sLen dLen) (hk : l.length = n * k)
    (hsrc : ∀ j v, l[j]? = some v → w.cell? (a.add j) = some v) (hfit : o + l.length ≤ cur.size) (h1 : ∀ v ∈ l, v.oneCell' = true) :
    (Builtin.copy_ #[dT, sT] ty #[.slice (some ⟨g, o, none⟩) dLen dCap, .slice (some a) sLen sCap]).run P w =
      .ok (goInt n) (w.setRow g (cur.toList.take o ++ l ++ cur.toList.drop (o + l.length)).toArray) := by
  have hl := run_loadCells_list (P := P) w a l hsrc
  have hst := run_storeCells_at P g o t l 0 cur w hg (by simpa using hfit) h1
  cases hq : P.info? elem with
  | none => simp [hq] at hs
  | some i =>
    have hi : i.size = k := by simpa [hq] using hs
    rw [hk] at hl
    simp [Builtin.copy_, run_underlying hu, Builtin.lenOf, Builtin.firstCells, sizeOf, typeInfo, hq, hi, ← hn, hl, hst]

/-- A row's head is copied behind its first m records. -/
theorem copied {α : Type} [Rec α] {P : Program} {w : World} {E g : Nat} {zs : List α} (hb : Bk E w g zs []) (dT sT ty : TypeId) (hu : P.underlying dT = some (.slice E)) (hs : (P.info? E).map (·.size) = some (sz α))
    (a : Addr) (xs : List α) (hx : ∀ j u, (flat xs)[j]? = some u → w.cell? (a.add j) = some u) (m p dLen dCap sLen sCap : Nat) (hp : p = Nat.min sLen dLen) (hpl : xs.length = p) (hm : m + p ≤ zs.length) :
    ∃ w', (Builtin.copy_ #[dT, sT] ty #[.slice (some ⟨g, m * sz α, none⟩) dLen dCap, .slice (some a) sLen sCap]).run P w = .ok (goInt p) w' ∧ Bk E w' g (zs.take m ++ xs ++ zs.drop (m + p)) [] ∧ w.grownBy w' (some g) := by
  have hg : w.heap[g]? = some (.cells (flat zs).toArray E (0, 0)) := by have := hb; unfold Bk Blk at this; simpa using this
  have hfl : (flat xs).length = p * sz α := by rw [flat_length, hpl]
  refine ⟨_, run_copy_rec w dT sT ty E g (m * sz α) dLen dCap a sLen sCap (flat zs).toArray E (flat xs) (sz α) p hu hs hg hp hfl hx ?_ (flat_one xs), ?_, ?_⟩
  · simp only [List.size_toArray]
    rw [hfl, flat_length, ← Nat.add_mul]
    exact Nat.mul_le_mul_right _ hm
  · have h2 := setRow_heap w g (flat zs).toArray ((flat zs).toArray.toList.take (m * sz α) ++ flat xs ++ (flat zs).toArray.toList.drop (m * sz α + (flat xs).length)).toArray E (0, 0) hg
    unfold Bk Blk
    rw [h2]
    simp only [List.append_nil]
    congr 2
    rw [flat_append, flat_append, flat_take, flat_drop, hfl, Nat.add_mul]
  · exact ⟨rfl, rfl, rfl, by simp [World.setRow], fun i hi hn => setRow_other w g i _ (fun e => hn (by rw [e]))⟩

theorem step_copied {P : Program} {w : World} {ops : Array Oper} {o : Oper} {a : Act} {K : Act → World → Prop} {Q : Exit → Act → World → Prop} {X : Prop} (hw : Region.wanted o (yielded ops a.tmps) = true) (d s : Operand) (dT sT : TypeId)
    (ho : o.op = .call { callee := .builtin .copy, args := #[d, s], argTypes := #[dT, sT] }) (dv sv : Value) (hd : a.eval d = dv) (hs : a.eval s = sv) {p : Nat} {w' : World} (hr : (Builtin.copy_ #[dT, sT] o.type #[dv, sv]).run P w = .ok (goInt p) w')
    (h : K (a.put o.dst (goInt p)) w') : if Region.wanted o (yielded ops a.tmps) = true then Oper.wp P o a w K Q else X := by
  rw [if_pos hw]
  unfold Oper.wp
  simp [execOp, ho, resolve, invoke, builtin, hd, hs, hr, Result.andThen]
  exact h
set_option maxHeartbeats 4000000 in
theorem mul64_c (n : Nat) (h1 : 1 ≤ n) (h2 : n ≤ 16) (w : World) : Calls Tryd.prog 65 #[.int .u64 1, .int .u64 (n : Int)] w fun r w' => r = .returned (.tuple #[.int .u64 0, .int .u64 (n : Int)]) ∧ w = w' := by
  have : n = 1 ∨ n = 2 ∨ n = 3 ∨ n = 4 ∨ n = 5 ∨ n = 6 ∨ n = 7 ∨ n = 8 ∨ n = 9 ∨ n = 10 ∨ n = 11 ∨ n = 12 ∨ n = 13 ∨ n = 14 ∨ n = 15 ∨ n = 16 := by omega
  rcases this with rfl | rfl | rfl | rfl | rfl | rfl | rfl | rfl | rfl | rfl | rfl | rfl | rfl | rfl | rfl | rfl
  all_goals
    go_enter Tryd.func65, Tryd.ntmps65
    go_wp2
    go_ret2
    exact ⟨rfl, rfl⟩
theorem mul_c (n : Nat) (h1 : 1 ≤ n) (h2 : n ≤ 16) (w : World) : Calls Tryd.prog 51 #[.int .u64 1, .int .u64 (n : Int)] w fun r w' => r = .returned (.tuple #[.int .u64 0, .int .u64 (n : Int)]) ∧ w = w' := by
  go_enter Tryd.func51, Tryd.ntmps51
  go_wp2_with (go_at_call 65; go_must (refine (mul64_c n h1 h2 _).mono ?_); rintro r w2 ⟨rfl, rfl⟩)
  go_ret2
  exact ⟨rfl, rfl⟩

set_option maxHeartbeats 4000000 in
theorem repeatInt_c (A : Option Addr) (v : Int) (n : Nat) (w : World) (hx : Rd w A [v]) (h1 : 1 ≤ n) (h2 : n ≤ 16) :
    Calls Tryd.prog 37 #[.slice A 1 1, .int .i64 (n : Int)] w
    fun r w' => ∃ A', r = .returned (.slice A' n n) ∧ Fr 3 w' w.heap.size A' n (List.replicate n v) ∧ Ex w w' := by
  have hmk := make_rec (P := Tryd.prog) (α := Int) 23 3 8 0 _ Tryd.underlying23 infoMInt rfl n (by omega) (by omega)
  have hsize : (Tryd.prog.info? 3).map (·.size) = some (sz Int) := by kernel_rfl
  have HX := Lib.hid hx
  obtain ⟨b0, o0, hA, hb0, hc0⟩ := hx (by simp)
  subst hA
  clear hx
  have HB0 : Hid (Bk 3 (w.alloc (.cells (flat (List.replicate n (0 : Int))).toArray 3)) w.heap.size (List.replicate n (0 : Int)) []) := Lib.hid (Bk.new _ _ _)
  have hln : (List.replicate n (0 : Int)).length = n := List.length_replicate
  obtain ⟨w2, hrun, hbk, hgr⟩ := copied (α := Int) HB0.out 23 23 3 Tryd.underlying23 hsize ⟨b0, o0, none⟩ [v] (Rd.news (HX.out.alloc _)) 0 1 n n 1 1 (by simp [Nat.min_def]; omega) rfl (by rw [hln]; omega)
  have HBK : Hid (Bk 3 w2 w.heap.size ((List.replicate n (0 : Int)).take 0 ++ [v] ++ (List.replicate n (0 : Int)).drop (0 + 1)) []) := Lib.hid hbk
  have HGR := Lib.hid hgr
  rw [Nat.zero_mul] at hrun
  have HZL : Hid (((List.replicate n (0 : Int)).take 0 ++ [v] ++ (List.replicate n (0 : Int)).drop (0 + 1)).length = n) := Lib.hid (by simp; omega)
  have HZT : Hid (((List.replicate n (0 : Int)).take 0 ++ [v] ++ (List.replicate n (0 : Int)).drop (0 + 1)).take 1 = List.replicate 1 v) := Lib.hid (by simp)
  have HE2 : Hid (Ex w w2) := Lib.hid (((Ex.refl w).alloc _).grown HGR.out (fun g hg => by injection hg with hg; omega))
  generalize (List.replicate n (0 : Int)).take 0 ++ [v] ++ (List.replicate n (0 : Int)).drop (0 + 1) = zs0 at HBK HZL HZT
  clear hbk hgr HB0 hln HGR
  go_enter Tryd.func37, Tryd.ntmps37
  go_wp2_with fail
  refine (mul_c n h1 h2 _).mono ?_
  rintro r w1 ⟨rfl, rfl⟩
  go_wp2_with fail
  obtain ⟨g0, hg0⟩ : ∃ g0, g0 = w.heap.size := ⟨_, rfl⟩
  rw [← hg0] at HBK
  try rw [← hg0]
  have HG0 : Hid (g0 = w.heap.size) := Lib.hid hg0
  clear hg0 hrun hmk
  go_loopw [8] (fun q wr => ∃ (m : Nat) (zs : List Int), 1 ≤ m ∧ m ≤ n ∧ q = .int .i64 m ∧ Ex w wr ∧ zs.length = n ∧ zs.take m = List.replicate m v ∧ Bk 3 wr g0 zs []) (fun q _ => n - (intOf q).toNat)
  case atStart => exact ⟨1, zs0, Nat.le_refl _, h1, rfl, HE2.out, HZL.out, HZT.out, HBK.out⟩
  case round =>
    obtain ⟨m, zs, hm1, hm2, rfl, hex, hzl, hzt, hbk⟩ := hrel
    have HE := Lib.hid hex
    have HZ := Lib.hid hzl
    have HT := Lib.hid hzt
    have HB := Lib.hid hbk
    clear hex hzl hzt hbk
    by_cases hlt : m < n
    · obtain ⟨p, hp⟩ : ∃ p, p = Nat.min m (n - m) := ⟨_, rfl⟩
      have hp0 : p ≤ m ∧ p ≤ n - m ∧ (p = m ∨ p = n - m) := by subst hp; simp [Nat.min_def]; split <;> omega
      have hpl : (zs.take p).length = p := by rw [List.length_take, HZ.out]; omega
      have hmp : m + p ≤ zs.length := by rw [HZ.out]; omega
      obtain ⟨w2, hrun, hbk2, hgr2⟩ := copied (α := Int) (Bk.drew HB.out) 23 23 3 Tryd.underlying23 hsize ⟨g0, 0, none⟩ (zs.take p) (Rd.news ((Bk.drew HB.out).rd.take p)) m p (n - m) (n - m) m n hp hpl hmp
      rw [show m * sz Int = m from Nat.mul_one m] at hrun
      have HRUN := Lib.hid hrun
      have HB2 := Lib.hid hbk2
      have HG2 := Lib.hid hgr2
      have hmn0 : (0 : Int) ≤ (m : Int) := by omega
      have hmne : ¬ n = m := by omega
      have hmn1 : (m : Int) ≤ (n : Int) := by omega
      have HP0 := Lib.hid hp0
      have hp16 : p ≤ 16 := by omega
      have hwr : IntKind.i64.wrap ((m : Int) + (p : Int)) = (m : Int) + (p : Int) := IntWalk.i64_in _ (by omega)
      clear hrun hbk2 hgr2 hp hpl hmp hp0
      go_wp2_with fail
      refine wp_region_held_drew (S := (fun _ => True)) (by kernel_rfl) ?r0_hS0 (fun hHeld => ?_)
      case r0_hS0 => exact trivial
      refine wpAnyH_take (i := 0) (oi := ?r0_o0) (v := ?r0_v0) ?r0_ho0 (by kernel_rfl) (by kernel_rfl) (by kernel_rfl) ?r0_hq0 ?r0_hy0 (by assumption) ?_
      case r0_ho0 => (conv => lhs; whnf; arg 1; whnf)
      case r0_hq0 => exact fun _ _ _ h => h
      case r0_hy0 => (refine Or.inl ⟨by rfl, ?_⟩; intro w hSw; (try dsimp only at hSw); first | (go_simp; done) | (go_simp; with_reducible rfl))
      try simp only [Act.put, List.setIfInBounds_toArray, List.set_cons_zero, List.set_cons_succ]
      refine wpAnyH_take (i := 1) (oi := ?r0_o1) (v := ?r0_v1) ?r0_ho1 (by kernel_rfl) (by kernel_rfl) (by kernel_rfl) ?r0_hq1 ?r0_hy1 (by assumption) ?_
      case r0_ho1 => (conv => lhs; whnf; arg 1; whnf)
      case r0_hq1 => exact fun _ _ _ h => h
      case r0_hy1 => (refine Or.inl ⟨by rfl, ?_⟩; intro w hSw; (try dsimp only at hSw); first | (go_simp; done) | (go_simp; with_reducible rfl))
      try simp only [Act.put, List.setIfInBounds_toArray, List.set_cons_zero, List.set_cons_succ]
      refine wpAnyH_take (i := 2) (oi := ?r0_o2) (v := ?r0_v2) ?r0_ho2 (by kernel_rfl) (by kernel_rfl) (by kernel_rfl) ?r0_hq2 ?r0_hy2 (by assumption) ?_
      case r0_ho2 => (conv => lhs; whnf; arg 1; whnf)
      case r0_hq2 => exact fun _ _ _ h => h
      case r0_hy2 => (refine Or.inl ⟨by rfl, ?_⟩; intro w hSw; (try dsimp only at hSw); first | (go_simp; done) | (go_simp; with_reducible rfl))
      try simp only [Act.put, List.setIfInBounds_toArray, List.set_cons_zero, List.set_cons_succ]
      refine wpAnyH_take (i := 3) (oi := ?r0_o3) (v := ?r0_v3) ?r0_ho3 (by kernel_rfl) (by kernel_rfl) (by kernel_rfl) ?r0_hq3 ?r0_hy3 (by assumption) ?_
      case r0_ho3 => (conv => lhs; whnf; arg 1; whnf)
      case r0_hq3 => exact fun _ _ _ h => h
      case r0_hy3 => (refine Or.inl ⟨by rfl, ?_⟩; intro w hSw; (try dsimp only at hSw); first | (go_simp; done) | (go_simp; with_reducible rfl))
      try simp only [Act.put, List.setIfInBounds_toArray, List.set_cons_zero, List.set_cons_succ]
      refine wpAnyH_take (i := 4) (oi := ?r0_o4) (v := ?r0_v4) ?r0_ho4 (by kernel_rfl) (by kernel_rfl) (by kernel_rfl) ?r0_hq4 ?r0_hy4 (by assumption) ?_
      case r0_ho4 => (conv => lhs; whnf; arg 1; whnf)
      case r0_hq4 => exact fun _ _ _ h => h
      case r0_hy4 => (refine Or.inl ⟨by rfl, ?_⟩; intro w hSw; (try dsimp only at hSw); first | (go_simp; done) | (go_simp; with_reducible rfl))
      try simp only [Act.put, List.setIfInBounds_toArray, List.set_cons_zero, List.set_cons_succ]
      refine wpAnyH_take (i := 5) (oi := ?r0_o5) (v := ?r0_v5) ?r0_ho5 (by kernel_rfl) (by kernel_rfl) (by kernel_rfl) ?r0_hq5 ?r0_hy5 (by assumption) ?_
      case r0_ho5 => (conv => lhs; whnf; arg 1; whnf)
      case r0_hq5 => exact fun _ _ _ h => h
      case r0_hy5 => (refine Or.inl ⟨by rfl, ?_⟩; intro w hSw; (try dsimp only at hSw); first | (go_simp; done) | (go_simp; with_reducible rfl))
      try simp only [Act.put, List.setIfInBounds_toArray, List.set_cons_zero, List.set_cons_succ]
      refine wpAnyH_take (i := 6) (oi := ?r0_o6) (v := ?r0_v6) ?r0_ho6 (by kernel_rfl) (by kernel_rfl) (by kernel_rfl) ?r0_hq6 ?r0_hy6 (by assumption) ?_
      case r0_ho6 => (conv => lhs; whnf; arg 1; whnf)
      case r0_hq6 => exact fun _ _ _ h => h
      case r0_hy6 => (refine Or.inl ⟨by rfl, ?_⟩; intro w hSw; (try dsimp only at hSw); first | (go_simp; done) | (go_simp; with_reducible rfl))
      try simp only [Act.put, List.setIfInBounds_toArray, List.set_cons_zero, List.set_cons_succ]
      refine wpAnyH_ready (rs := [7]) (by kernel_rfl) (by simp) ?_
      refine AllReadyH.cons (o := ?r0_o7) ?r0_ho7 (fun K hK => ?_) AllReadyH.nil
      case r0_ho7 => (conv => lhs; whnf; arg 1; whnf)
      refine step_copied rfl _ _ _ _ rfl _ _ rfl rfl HRUN.out ?_
      refine hK.out _ _ ?r0_hS7 (fun hHeld7 => ?_)
      case r0_hS7 => exact trivial
      clear hK K hHeld
      try simp only [Act.put, List.setIfInBounds_toArray, List.set_cons_zero, List.set_cons_succ]
      refine wpAnyH_take (i := 8) (oi := ?r0_o8) (v := ?r0_v8) ?r0_ho8 (by kernel_rfl) (by kernel_rfl) (by kernel_rfl) ?r0_hq8 ?r0_hy8 (by assumption) ?_
      case r0_ho8 => (conv => lhs; whnf; arg 1; whnf)
      case r0_hq8 => exact fun _ _ _ h => h
      case r0_hy8 => (refine Or.inl ⟨by rfl, ?_⟩; intro w hSw; (try dsimp only at hSw); first | (go_simp; done) | (go_simp; with_reducible rfl))
      try simp only [Act.put, List.setIfInBounds_toArray, List.set_cons_zero, List.set_cons_succ]
      refine wpAnyH_take (i := 9) (oi := ?r0_o9) (v := ?r0_v9) ?r0_ho9 (by kernel_rfl) (by kernel_rfl) (by kernel_rfl) ?r0_hq9 ?r0_hy9 (by assumption) ?_
      case r0_ho9 => (conv => lhs; whnf; arg 1; whnf)
      case r0_hq9 => exact fun _ _ _ h => h
      case r0_hy9 => (refine Or.inl ⟨by rfl, ?_⟩; intro w hSw; (try dsimp only at hSw); first | (go_simp; done) | (go_simp; with_reducible rfl))
      try simp only [Act.put, List.setIfInBounds_toArray, List.set_cons_zero, List.set_cons_succ]
      refine wpAnyH_done (by kernel_rfl) ?_ _
      go_wp2
      go_roundw
      case rel => exact ⟨m + p, zs.take m ++ zs.take p ++ zs.drop (m + p), by omega, by have := HP0.out; omega, by go_num, HE.out.drew.grown HG2.out (fun g hg => by injection hg with hg; have := HG0.out; omega), by have := HP0.out; simp [HZ.out]; omega, by (
        have e1 : zs.take p = List.replicate p v := by
          have : zs.take p = (zs.take m).take p := by rw [List.take_take]; congr 1; have := HP0.out; omega
          rw [this, HT.out, List.take_replicate]; congr 1; have := HP0.out; omega
        rw [HT.out, e1, List.replicate_append_replicate, List.take_append_of_le_length (by simp), List.take_of_length_le (by simp)]), HB2.out⟩
      case measure => (have := HP0.out; simp [intOf]; omega)
    · obtain rfl : m = n := by omega
      have e : zs = List.replicate m v := by rw [← HT.out, List.take_of_length_le (by rw [HZ.out]; exact Nat.le_refl _)]
      subst e
      go_wp2
      go_ret
      exact ⟨_, rfl, ⟨by simp, by simp only [maxLen]; omega, .inr ⟨g0, [], rfl, by rw [HG0.out]; exact Nat.le_refl _, HB.out, by simp⟩⟩, HE.out⟩

set_option maxHeartbeats 4000000 in
theorem repeatFrame_c (A : Option Addr) (v : FrameD) (n : Nat) (w : World) (hx : Rd w A [v]) (h1 : 1 ≤ n) (h2 : n ≤ 16) :
    Calls Tryd.prog 38 #[.slice A 1 1, .int .i64 (n : Int)] w
    fun r w' => ∃ A', r = .returned (.slice A' n n) ∧ Fr 47 w' w.heap.size A' n (List.replicate n v) ∧ Ex w w' := by
  have hmk := make_rec (P := Tryd.prog) (α := FrameD) 24 47 40 ⟨false, ⟨0, 0⟩, 0, 0⟩ _ Tryd.underlying24 infoMFrame rfl n (by omega) (by omega)
  have hsize : (Tryd.prog.info? 47).map (·.size) = some (sz FrameD) := by kernel_rfl
  have HX := Lib.hid hx
  obtain ⟨b0, o0, hA, hb0, hc0⟩ := hx (by simp)
  subst hA
  clear hx
  have HB0 : Hid (Bk 47 (w.alloc (.cells (flat (List.replicate n (⟨false, ⟨0, 0⟩, 0, 0⟩ : FrameD))).toArray 47)) w.heap.size (List.replicate n (⟨false, ⟨0, 0⟩, 0, 0⟩ : FrameD)) []) := Lib.hid (Bk.new _ _ _)
  have hln : (List.replicate n (⟨false, ⟨0, 0⟩, 0, 0⟩ : FrameD)).length = n := List.length_replicate
  obtain ⟨w2, hrun, hbk, hgr⟩ := copied (α := FrameD) HB0.out 24 24 3 Tryd.underlying24 hsize ⟨b0, o0, none⟩ [v] (Rd.news (HX.out.alloc _)) 0 1 n n 1 1 (by simp [Nat.min_def]; omega) rfl (by rw [hln]; omega)
  have HBK : Hid (Bk 47 w2 w.heap.size ((List.replicate n (⟨false, ⟨0, 0⟩, 0, 0⟩ : FrameD)).take 0 ++ [v] ++ (List.replicate n (⟨false, ⟨0, 0⟩, 0, 0⟩ : FrameD)).drop (0 + 1)) []) := Lib.hid hbk
  have HGR := Lib.hid hgr
  rw [Nat.zero_mul] at hrun
  have HZL : Hid (((List.replicate n (⟨false, ⟨0, 0⟩, 0, 0⟩ : FrameD)).take 0 ++ [v] ++ (List.replicate n (⟨false, ⟨0, 0⟩, 0, 0⟩ : FrameD)).drop (0 + 1)).length = n) := Lib.hid (by simp; omega)
  have HZT : Hid (((List.replicate n (⟨false, ⟨0, 0⟩, 0, 0⟩ : FrameD)).take 0 ++ [v] ++ (List.replicate n (⟨false, ⟨0, 0⟩, 0, 0⟩ : FrameD)).drop (0 + 1)).take 1 = List.replicate 1 v) := Lib.hid (by simp)
  have HE2 : Hid (Ex w w2) := Lib.hid (((Ex.refl w).alloc _).grown HGR.out (fun g hg => by injection hg with hg; omega))
  generalize (List.replicate n (⟨false, ⟨0, 0⟩, 0, 0⟩ : FrameD)).take 0 ++ [v] ++ (List.replicate n (⟨false, ⟨0, 0⟩, 0, 0⟩ : FrameD)).drop (0 + 1) = zs0 at HBK HZL HZT
  clear hbk hgr HB0 hln HGR
  go_enter Tryd.func38, Tryd.ntmps38
  go_wp2_with fail
  refine (mul_c n h1 h2 _).mono ?_
  rintro r w1 ⟨rfl, rfl⟩
  go_wp2_with fail
  obtain ⟨g0, hg0⟩ : ∃ g0, g0 = w.heap.size := ⟨_, rfl⟩
  rw [← hg0] at HBK
  try rw [← hg0]
  have HG0 : Hid (g0 = w.heap.size) := Lib.hid hg0
  clear hg0 hrun hmk
  go_loopw [8] (fun q wr => ∃ (m : Nat) (zs : List FrameD), 1 ≤ m ∧ m ≤ n ∧ q = .int .i64 m ∧ Ex w wr ∧ zs.length = n ∧ zs.take m = List.replicate m v ∧ Bk 47 wr g0 zs []) (fun q _ => n - (intOf q).toNat)
  case atStart => exact ⟨1, zs0, Nat.le_refl _, h1, rfl, HE2.out, HZL.out, HZT.out, HBK.out⟩
  case round =>
    obtain ⟨m, zs, hm1, hm2, rfl, hex, hzl, hzt, hbk⟩ := hrel
    have HE := Lib.hid hex
    have HZ := Lib.hid hzl
    have HT := Lib.hid hzt
    have HB := Lib.hid hbk
    clear hex hzl hzt hbk
    by_cases hlt : m < n
    · obtain ⟨p, hp⟩ : ∃ p, p = Nat.min m (n - m) := ⟨_, rfl⟩
      have hp0 : p ≤ m ∧ p ≤ n - m ∧ (p = m ∨ p = n - m) := by subst hp; simp [Nat.min_def]; split <;> omega
      have hpl : (zs.take p).length = p := by rw [List.length_take, HZ.out]; omega
      have hmp : m + p ≤ zs.length := by rw [HZ.out]; omega
      obtain ⟨w2, hrun, hbk2, hgr2⟩ := copied (α := FrameD) (Bk.drew HB.out) 24 24 3 Tryd.underlying24 hsize ⟨g0, 0, none⟩ (zs.take p) (Rd.news ((Bk.drew HB.out).rd.take p)) m p (n - m) (n - m) m n hp hpl hmp
      skip
      have HRUN := Lib.hid hrun
      have HB2 := Lib.hid hbk2
      have HG2 := Lib.hid hgr2
      have hmn0 : (0 : Int) ≤ (m : Int) := by omega
      have hmne : ¬ n = m := by omega
      have hmn1 : (m : Int) ≤ (n : Int) := by omega
      have HP0 := Lib.hid hp0
      have hp16 : p ≤ 16 := by omega
      have hwr : IntKind.i64.wrap ((m : Int) + (p : Int)) = (m : Int) + (p : Int) := IntWalk.i64_in _ (by omega)
      clear hrun hbk2 hgr2 hp hpl hmp hp0
      go_wp2_with fail
      refine wp_region_held_drew (S := (fun _ => True)) (by kernel_rfl) ?r1_hS0 (fun hHeld => ?_)
      case r1_hS0 => exact trivial
      refine wpAnyH_take (i := 0) (oi := ?r1_o0) (v := ?r1_v0) ?r1_ho0 (by kernel_rfl) (by kernel_rfl) (by kernel_rfl) ?r1_hq0 ?r1_hy0 (by assumption) ?_
      case r1_ho0 => (conv => lhs; whnf; arg 1; whnf)
      case r1_hq0 => exact fun _ _ _ h => h
      case r1_hy0 => (refine Or.inl ⟨by rfl, ?_⟩; intro w hSw; (try dsimp only at hSw); first | (go_simp; done) | (go_simp; with_reducible rfl))
      try simp only [Act.put, List.setIfInBounds_toArray, List.set_cons_zero, List.set_cons_succ]
      refine wpAnyH_take (i := 1) (oi := ?r1_o1) (v := ?r1_v1) ?r1_ho1 (by kernel_rfl) (by kernel_rfl) (by kernel_rfl) ?r1_hq1 ?r1_hy1 (by assumption) ?_
      case r1_ho1 => (conv => lhs; whnf; arg 1; whnf)
      case r1_hq1 => exact fun _ _ _ h => h
      case r1_hy1 => (refine Or.inl ⟨by rfl, ?_⟩; intro w hSw; (try dsimp only at hSw); first | (go_simp; done) | (go_simp; with_reducible rfl))
      try simp only [Act.put, List.setIfInBounds_toArray, List.set_cons_zero, List.set_cons_succ]
      refine wpAnyH_take (i := 2) (oi := ?r1_o2) (v := ?r1_v2) ?r1_ho2 (by kernel_rfl) (by kernel_rfl) (by kernel_rfl) ?r1_hq2 ?r1_hy2 (by assumption) ?_
      case r1_ho2 => (conv => lhs; whnf; arg 1; whnf)
      case r1_hq2 => exact fun _ _ _ h => h
      case r1_hy2 => (refine Or.inl ⟨by rfl, ?_⟩; intro w hSw; (try dsimp only at hSw); first | (go_simp; done) | (go_simp; with_reducible rfl))
      try simp only [Act.put, List.setIfInBounds_toArray, List.set_cons_zero, List.set_cons_succ]
      refine wpAnyH_take (i := 3) (oi := ?r1_o3) (v := ?r1_v3) ?r1_ho3 (by kernel_rfl) (by kernel_rfl) (by kernel_rfl) ?r1_hq3 ?r1_hy3 (by assumption) ?_
      case r1_ho3 => (conv => lhs; whnf; arg 1; whnf)
      case r1_hq3 => exact fun _ _ _ h => h
      case r1_hy3 => (refine Or.inl ⟨by rfl, ?_⟩; intro w hSw; (try dsimp only at hSw); first | (go_simp; done) | (go_simp; with_reducible rfl))
      try simp only [Act.put, List.setIfInBounds_toArray, List.set_cons_zero, List.set_cons_succ]
      refine wpAnyH_take (i := 4) (oi := ?r1_o4) (v := ?r1_v4) ?r1_ho4 (by kernel_rfl) (by kernel_rfl) (by kernel_rfl) ?r1_hq4 ?r1_hy4 (by assumption) ?_
      case r1_ho4 => (conv => lhs; whnf; arg 1; whnf)
      case r1_hq4 => exact fun _ _ _ h => h
      case r1_hy4 => (refine Or.inl ⟨by rfl, ?_⟩; intro w hSw; (try dsimp only at hSw); first | (go_simp; done) | (go_simp; with_reducible rfl))
      try simp only [Act.put, List.setIfInBounds_toArray, List.set_cons_zero, List.set_cons_succ]
      refine wpAnyH_take (i := 5) (oi := ?r1_o5) (v := ?r1_v5) ?r1_ho5 (by kernel_rfl) (by kernel_rfl) (by kernel_rfl) ?r1_hq5 ?r1_hy5 (by assumption) ?_
      case r1_ho5 => (conv => lhs; whnf; arg 1; whnf)
      case r1_hq5 => exact fun _ _ _ h => h
      case r1_hy5 => (refine Or.inl ⟨by rfl, ?_⟩; intro w hSw; (try dsimp only at hSw); first | (go_simp; done) | (go_simp; with_reducible rfl))
      try simp only [Act.put, List.setIfInBounds_toArray, List.set_cons_zero, List.set_cons_succ]
      refine wpAnyH_take (i := 6) (oi := ?r1_o6) (v := ?r1_v6) ?r1_ho6 (by kernel_rfl) (by kernel_rfl) (by kernel_rfl) ?r1_hq6 ?r1_hy6 (by assumption) ?_
      case r1_ho6 => (conv => lhs; whnf; arg 1; whnf)
      case r1_hq6 => exact fun _ _ _ h => h
      case r1_hy6 => (refine Or.inl ⟨by rfl, ?_⟩; intro w hSw; (try dsimp only at hSw); first | (go_simp; done) | (go_simp; with_reducible rfl))
      try simp only [Act.put, List.setIfInBounds_toArray, List.set_cons_zero, List.set_cons_succ]
      refine wpAnyH_ready (rs := [7]) (by kernel_rfl) (by simp) ?_
      refine AllReadyH.cons (o := ?r1_o7) ?r1_ho7 (fun K hK => ?_) AllReadyH.nil
      case r1_ho7 => (conv => lhs; whnf; arg 1; whnf)
      refine step_copied rfl _ _ _ _ rfl _ _ rfl rfl HRUN.out ?_
      refine hK.out _ _ ?r1_hS7 (fun hHeld7 => ?_)
      case r1_hS7 => exact trivial
      clear hK K hHeld
      try simp only [Act.put, List.setIfInBounds_toArray, List.set_cons_zero, List.set_cons_succ]
      refine wpAnyH_take (i := 8) (oi := ?r1_o8) (v := ?r1_v8) ?r1_ho8 (by kernel_rfl) (by kernel_rfl) (by kernel_rfl) ?r1_hq8 ?r1_hy8 (by assumption) ?_
      case r1_ho8 => (conv => lhs; whnf; arg 1; whnf)
      case r1_hq8 => exact fun _ _ _ h => h
      case r1_hy8 => (refine Or.inl ⟨by rfl, ?_⟩; intro w hSw; (try dsimp only at hSw); first | (go_simp; done) | (go_simp; with_reducible rfl))
      try simp only [Act.put, List.setIfInBounds_toArray, List.set_cons_zero, List.set_cons_succ]
      refine wpAnyH_take (i := 9) (oi := ?r1_o9) (v := ?r1_v9) ?r1_ho9 (by kernel_rfl) (by kernel_rfl) (by kernel_rfl) ?r1_hq9 ?r1_hy9 (by assumption) ?_
      case r1_ho9 => (conv => lhs; whnf; arg 1; whnf)
      case r1_hq9 => exact fun _ _ _ h => h
      case r1_hy9 => (refine Or.inl ⟨by rfl, ?_⟩; intro w hSw; (try dsimp only at hSw); first | (go_simp; done) | (go_simp; with_reducible rfl))
      try simp only [Act.put, List.setIfInBounds_toArray, List.set_cons_zero, List.set_cons_succ]
      refine wpAnyH_done (by kernel_rfl) ?_ _
      go_wp2
      go_roundw
      case rel => exact ⟨m + p, zs.take m ++ zs.take p ++ zs.drop (m + p), by omega, by have := HP0.out; omega, by go_num, HE.out.drew.grown HG2.out (fun g hg => by injection hg with hg; have := HG0.out; omega), by have := HP0.out; simp [HZ.out]; omega, by (
        have e1 : zs.take p = List.replicate p v := by
          have : zs.take p = (zs.take m).take p := by rw [List.take_take]; congr 1; have := HP0.out; omega
          rw [this, HT.out, List.take_replicate]; congr 1; have := HP0.out; omega
        rw [HT.out, e1, List.replicate_append_replicate, List.take_append_of_le_length (by simp), List.take_of_length_le (by simp)]), HB2.out⟩
      case measure => (have := HP0.out; simp [intOf]; omega)
    · obtain rfl : m = n := by omega
      have e : zs = List.replicate m v := by rw [← HT.out, List.take_of_length_le (by rw [HZ.out]; exact Nat.le_refl _)]
      subst e
      go_wp2
      go_ret
      exact ⟨_, rfl, ⟨by simp, by simp only [maxLen]; omega, .inr ⟨g0, [], rfl, by rw [HG0.out]; exact Nat.le_refl _, HB.out, by simp⟩⟩, HE.out⟩
end Go.Proofs.YtbdlpbladpppjaaDoor
