/- Worlds of which only the blocks of one range have turned: one relation by which a walk carries all that it knows. No program in sight. -/
import Derived.Test.YtihlaecbdlgbiaaDoorData
namespace Go.Proofs.YtihlaecbdlgbiaaDoor
open Go.ChangeShapes Go.WideShapes Go.ChangeAt Go.RowKit
open Rec (sz cs)

/-- Of the blocks that were there, only those from lo on and before hi may have turned. -/
structure Chg (lo hi : Nat) (w w' : World) : Prop where
  os : w'.os = w.os
  tape : w'.tape = w.tape
  output : w'.output = w.output
  size : w.heap.size ≤ w'.heap.size
  block : ∀ i, i < w.heap.size → ¬ (lo ≤ i ∧ i < hi) → w'.heap[i]? = w.heap[i]?

section
variable {lo hi lo' hi' : Nat} {a w w' w'' : World}
theorem Chg.refl (lo hi : Nat) (w : World) : Chg lo hi w w := ⟨rfl, rfl, rfl, Nat.le_refl _, fun _ _ _ => rfl⟩
theorem Chg.of_ex (h : Ex w w') : Chg 0 0 w w' := ⟨h.os, h.tape, h.output, h.size, fun _ hi _ => h.block hi⟩
theorem Chg.of_grown {row : Option Nat} (h : w.grownBy w' row) (hr : ∀ b, row = some b → lo ≤ b ∧ b < hi) : Chg lo hi w w' :=
  ⟨h.os, h.tape, h.output, h.size, fun i hi hn => h.block i hi (fun e => hn (hr i e.symm))⟩
theorem Chg.mono (h : Chg lo hi w w') (h1 : lo' ≤ lo) (h2 : hi ≤ hi') : Chg lo' hi' w w' := ⟨h.os, h.tape, h.output, h.size, fun i hi hn => h.block i hi (fun e => hn ⟨Nat.le_trans h1 e.1, Nat.lt_of_lt_of_le e.2 h2⟩)⟩
theorem Chg.mono' (h : Chg 0 0 w w') (lo hi : Nat) : Chg lo hi w w' := ⟨h.os, h.tape, h.output, h.size, fun i hi _ => h.block i hi (by omega)⟩
theorem Chg.trans (h : Chg lo hi w w') (k : Chg lo hi w' w'') : Chg lo hi w w'' :=
  ⟨k.os.trans h.os, k.tape.trans h.tape, k.output.trans h.output, Nat.le_trans h.size k.size, fun i hi hn => (k.block i (Nat.lt_of_lt_of_le hi h.size) hn).trans (h.block i hi hn)⟩
theorem Chg.step {l h : Nat} (e : Chg lo hi a w) (k : Chg l h w w') (hl : h ≤ l ∨ a.heap.size ≤ l ∨ (lo ≤ l ∧ h ≤ hi)) : Chg lo hi a w' :=
  ⟨k.os.trans e.os, k.tape.trans e.tape, k.output.trans e.output, Nat.le_trans e.size k.size, fun i hi' hn => (k.block i (Nat.lt_of_lt_of_le hi' e.size) (by omega)).trans (e.block i hi' hn)⟩
theorem Chg.grown {g : Nat} (k : Chg g (g + 1) w w') : w.grownBy w' (some g) :=
  ⟨k.os, k.tape, k.output, k.size, fun i hi hn => k.block i hi (fun e => hn (by congr 1; omega))⟩
theorem Chg.alloc (h : Chg lo hi a w) (o : Obj) : Chg lo hi a (w.alloc o) :=
  ⟨h.os, h.tape, h.output, Nat.le_trans h.size (by simp), fun i hi hn => (Below.heap_alloc w o i (Nat.lt_of_lt_of_le hi h.size)).trans (h.block i hi hn)⟩
theorem Chg.drew (h : Chg lo hi a w) : Chg lo hi a w.drew := ⟨h.os, h.tape, h.output, h.size, h.block⟩
theorem Chg.drewN (h : Chg lo hi a w) (n : Nat) : Chg lo hi a (w.drewN n) := ⟨h.os, h.tape, h.output, h.size, h.block⟩
theorem Chg.set (h : Chg lo hi a w) {g o : Nat} (hp : (lo ≤ g ∧ g < hi) ∨ a.heap.size ≤ g) (u : Value) : Chg lo hi a (w.setCell ⟨g, o, none⟩ u) :=
  ⟨h.os, h.tape, h.output, by simpa [World.setCell] using h.size, fun i hi hn => (Below.heap_setCell w ⟨g, o, none⟩ u i (fun e => by rcases hp with hp | hp <;> simp at e <;> omega)).trans (h.block i hi hn)⟩
theorem Ex.put (h : Ex a w) {g o : Nat} (hp : a.heap.size ≤ g) (u : Value) : Ex a (w.setCell ⟨g, o, none⟩ u) := h.set hp u
theorem Ex.chg (h : Ex a w) (k : Chg lo hi w w') (hl : hi ≤ lo ∨ a.heap.size ≤ lo) : Ex a w' :=
  ⟨k.os.trans h.os, k.tape.trans h.tape, k.output.trans h.output, Nat.le_trans h.size k.size, fun i hi => (k.block i (Nat.lt_of_lt_of_le hi h.size) (by omega)).trans (h.block hi)⟩
theorem Chg.ex (k : Chg lo hi w w') (hl : hi ≤ lo ∨ w.heap.size ≤ lo) : Ex w w' := (Ex.refl w).chg k hl
theorem Chg.ex_ (k : Chg 0 0 w w') : Ex w w' := k.ex (.inl (Nat.le_refl _))
theorem Blk.put2 {g : Nat} {t : TypeId} {a b c d : Value} (h : Blk w g t [a, b]) : Blk ((w.setCell ⟨g, 0, none⟩ c).setCell ⟨g, 1, none⟩ d) g t [c, d] := (h.set 0 c).set 1 d
theorem Blk.chg {g : Nat} {t : TypeId} {c : List Value} (h : Blk w g t c) (k : Chg lo hi w w') (hn : g < lo ∨ hi ≤ g) : Blk w' g t c := (k.block g h.lt (by omega)).trans h
end

section
variable {α : Type} [Rec α] {lo hi l u : Nat} {w w' : World} {A : Option Addr} {xs : List α} {E : TypeId} {B c : Nat}
theorem Bk.chg {g : Nat} {rest : List Value} (h : Bk E w g xs rest) (k : Chg lo hi w w') (hn : g < lo ∨ hi ≤ g) : Bk E w' g xs rest := Blk.chg h k hn
theorem Bk.grown {g : Nat} {rest : List Value} {row : Option Nat} (h : Bk E w g xs rest) (k : w.grownBy w' row) (hn : some g ≠ row) : Bk E w' g xs rest := Blk.grown h k hn
theorem Fr.chg (h : Fr E w B A c xs) (k : Chg lo hi w w') (hr : ∀ b, rowOf A c = some b → l ≤ b ∧ b < u) (hn : u ≤ lo ∨ hi ≤ l ∨ hi ≤ lo) : Fr E w' B A c xs := by
  obtain ⟨hl, hm, h0 | ⟨g, rest, rfl, hB, hb, hs⟩⟩ := h
  · exact ⟨hl, hm, .inl h0⟩
  · by_cases hc : c = 0
    · exact ⟨hl, hm, .inl hc⟩
    · have := hr g (rowOf_some (by omega))
      exact ⟨hl, hm, .inr ⟨g, rest, rfl, hB, Blk.chg hb k (by omega), hs⟩⟩
theorem Fr.put {g o : Nat} (h : Fr E w B A c xs) (hr : ∀ b, rowOf A c = some b → b ≠ g) (v : Value) : Fr E (w.setCell ⟨g, o, none⟩ v) B A c xs := by
  obtain ⟨hl, hm, h0 | ⟨b, rest, rfl, hB, hb, hs⟩⟩ := h
  · exact ⟨hl, hm, .inl h0⟩
  · by_cases hc : c = 0
    · exact ⟨hl, hm, .inl hc⟩
    · exact ⟨hl, hm, .inr ⟨b, rest, rfl, hB, hb.far (hr b (rowOf_some (by omega))) v, hs⟩⟩
theorem Rd.chg (h : Rd w A xs) (k : Chg lo hi w w') (hn : ∀ b off, A = some ⟨b, off, none⟩ → b < lo ∨ hi ≤ b) : Rd w' A xs := fun h0 => by
  obtain ⟨b, off, rfl, hb, hc⟩ := h h0
  have hne := hn b off rfl
  exact ⟨b, off, rfl, Nat.lt_of_lt_of_le hb k.size, fun m u hu => (World.cell?_of_block (w := w) (a := ⟨b, off + m, none⟩) (k.block b hb (by omega))).trans (hc m u hu)⟩
end

/-- The world of a call gets a name. -/
theorem name_calls {P : Program} {f : FuncId} {args : Array Value} {w : World} {Q : Ending → World → Prop} (h : ∀ v, v = w → Calls P f args v Q) : Calls P f args w Q := h w rfl
end Go.Proofs.YtihlaecbdlgbiaaDoor
