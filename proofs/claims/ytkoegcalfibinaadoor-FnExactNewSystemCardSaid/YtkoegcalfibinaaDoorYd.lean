/- Systems as plain data, and how their nested slices lie. No walk in sight. -/
import Derived.Test.YtkoegcalfibinaaDoorMn
namespace Go.Proofs.YtkoegcalfibinaaDoor
open Go.ChangeShapes Go.WideShapes Go.ChangeAt Go.RowKit
open Rec (sz cs)
set_option linter.unusedVariables false

structure CpuD where
  notes : List NoteD
  waits : List NoteD
deriving DecidableEq, Inhabited
structure SysD where
  table : TableD
  cpus : List CpuD
deriving DecidableEq, Inhabited
theorem cpu_eq (x y : CpuD) : x = y ↔ x.notes = y.notes ∧ x.waits = y.waits := by cases x; cases y; simp
theorem sys_eq (x y : SysD) : x = y ↔ x.table = y.table ∧ x.cpus = y.cpus := by cases x; cases y; simp

/-- A processor's two slices, as they lie in its cells. -/
structure CpuR where
  nA : Option Addr
  nn : Nat
  nc : Nat
  wA : Option Addr
  wn : Nat
  wc : Nat
deriving Inhabited
instance : Rec CpuR where
  sz := 2
  cs o := [.slice o.nA o.nn o.nc, .slice o.wA o.wn o.wc]
  len _ := rfl
  pos := by decide
  one _ u hu := by simp at hu; rcases hu with rfl | rfl <;> rfl

section
variable {w w' : World} {A : Option Addr} {k : Nat}
theorem Rd.cpu {xs : List CpuR} (h : Rd w A xs) (hk : k < xs.length) : ∃ b off x, A = some ⟨b, off, none⟩ ∧ b < w.heap.size ∧ xs[k]? = some x ∧
    w.cell? ⟨b, off + k * 2, none⟩ = some (.slice x.nA x.nn x.nc) ∧ w.cell? ⟨b, off + k * 2 + 1, none⟩ = some (.slice x.wA x.wn x.wc) := by
  obtain ⟨b, off, x, e, hb, hx, hc⟩ := h.at_ hk
  exact ⟨b, off, x, e, hb, hx, hc 0 _ (by decide) rfl, hc 1 _ (by decide) rfl⟩
theorem Bk.cpu {E g : Nat} {rest : List Value} {zs : List CpuR} {z : CpuR} (h : Bk E w g zs rest) (hz : zs[k]? = some z) : w.cell? ⟨g, k * 2, none⟩ = some (.slice z.nA z.nn z.nc) ∧ w.cell? ⟨g, k * 2 + 1, none⟩ = some (.slice z.wA z.wn z.wc) :=
  ⟨h.cell_at hz (j := 0) (by decide) rfl, h.cell_at hz (j := 1) (by decide) rfl⟩
theorem Bk.set_cpu {E g : Nat} {rest : List Value} {zs : List CpuR} (h : Bk E w g zs rest) (x : CpuR) (hk : k < zs.length) : Bk E ((w.setCell ⟨g, k * 2, none⟩ (.slice x.nA x.nn x.nc)).setCell ⟨g, k * 2 + 1, none⟩ (.slice x.wA x.wn x.wc)) g (zs.set k x) rest := by
  obtain ⟨z, hz⟩ : ∃ z, zs[k]? = some z := ⟨_, List.getElem?_eq_getElem hk⟩
  have h1 := Bk.set h (k := k) (j := 0) (x := (z : CpuR)) (y := (⟨x.nA, x.nn, x.nc, z.wA, z.wn, z.wc⟩ : CpuR)) (u := (.slice x.nA x.nn x.nc)) (off := k * 2) hz (by decide) rfl (by simp [sz])
  have h2 := Bk.set h1 (k := k) (j := 1) (x := (⟨x.nA, x.nn, x.nc, z.wA, z.wn, z.wc⟩ : CpuR)) (y := (⟨x.nA, x.nn, x.nc, x.wA, x.wn, x.wc⟩ : CpuR)) (u := (.slice x.wA x.wn x.wc)) (off := k * 2 + 1) (by rw [List.getElem?_set_self (by simpa using hk)]) (by decide) rfl (by simp [sz])
  rw [List.set_set] at h2
  exact h2
end

/-- The slice at A reads as processors. -/
def HasC (w : World) (A : Option Addr) (xs : List CpuD) : Prop := ∃ rs : List CpuR, rs.length = xs.length ∧ Rd w A rs ∧ ∀ (i : Nat) (x : CpuD) (r : CpuR), xs[i]? = some x → rs[i]? = some r → r.nn = x.notes.length ∧ r.wn = x.waits.length ∧ Rd w r.nA x.notes ∧ Rd w r.wA x.waits
theorem HasC.ex {w w' : World} {A : Option Addr} {xs : List CpuD} (h : HasC w A xs) (k : Ex w w') : HasC w' A xs := by
  obtain ⟨rs, hl, hr, hi⟩ := h
  exact ⟨rs, hl, hr.ex k, fun i x r h1 h2 => by obtain ⟨a, b, c, d⟩ := hi i x r h1 h2; exact ⟨a, b, c.ex k, d.ex k⟩⟩
theorem HasC.alloc {w : World} {A : Option Addr} {xs : List CpuD} (h : HasC w A xs) (o : Obj) : HasC (w.alloc o) A xs := h.ex ((Ex.refl w).alloc o)
theorem HasC.at_ {w : World} {A : Option Addr} {xs : List CpuD} (h : HasC w A xs) {k : Nat} (hk : k < xs.length) : ∃ (b off : Nat) (x : CpuD) (nA : Option Addr) (nc : Nat) (wA : Option Addr) (wc : Nat), A = some ⟨b, off, none⟩ ∧ b < w.heap.size ∧ xs[k]? = some x ∧
    w.cell? ⟨b, off + k * 2, none⟩ = some (.slice nA x.notes.length nc) ∧ w.cell? ⟨b, off + k * 2 + 1, none⟩ = some (.slice wA x.waits.length wc) ∧ Rd w nA x.notes ∧ Rd w wA x.waits := by
  obtain ⟨rs, hl, hr, hi⟩ := h
  obtain ⟨b, off, r, e, hb, hrk, h0, h1⟩ := hr.cpu (k := k) (by omega)
  obtain ⟨x, hx⟩ : ∃ x, xs[k]? = some x := ⟨_, List.getElem?_eq_getElem hk⟩
  obtain ⟨e1, e2, r1, r2⟩ := hi k x r hx hrk
  rw [e1] at h0
  rw [e2] at h1
  exact ⟨b, off, x, r.nA, r.nc, r.wA, r.wc, e, hb, hx, h0, h1, r1, r2⟩

/-- The processors' slices are the call's own. -/
def FrC (w : World) (B : Nat) (A : Option Addr) (c : Nat) (xs : List CpuD) : Prop := ∃ rs : List CpuR, rs.length = xs.length ∧ Fr 123 w B A c rs ∧ ∀ (i : Nat) (x : CpuD) (r : CpuR), xs[i]? = some x → rs[i]? = some r → r.nn = x.notes.length ∧ r.wn = x.waits.length ∧ Fr 162 w B r.nA r.nc x.notes ∧ Fr 162 w B r.wA r.wc x.waits
section
variable {w w' : World} {B B' c : Nat} {A : Option Addr} {xs : List CpuD}
theorem FrC.has (h : FrC w B A c xs) : HasC w A xs := by
  obtain ⟨rs, hl, hr, hi⟩ := h
  exact ⟨rs, hl, hr.rd, fun i x r h1 h2 => by obtain ⟨a, b, c, d⟩ := hi i x r h1 h2; exact ⟨a, b, c.rd, d.rd⟩⟩
theorem FrC.ex (h : FrC w B A c xs) (k : Ex w w') : FrC w' B A c xs := by
  obtain ⟨rs, hl, hr, hi⟩ := h
  exact ⟨rs, hl, hr.ex k, fun i x r h1 h2 => by obtain ⟨a, b, c, d⟩ := hi i x r h1 h2; exact ⟨a, b, c.ex k, d.ex k⟩⟩
theorem FrC.alloc (h : FrC w B A c xs) (o : Obj) : FrC (w.alloc o) B A c xs := h.ex ((Ex.refl w).alloc o)
theorem FrC.put (h : FrC w B A c xs) {g o : Nat} (hg : g < B) (v : Value) : FrC (w.setCell ⟨g, o, none⟩ v) B A c xs := by
  obtain ⟨rs, hl, hr, hi⟩ := h
  exact ⟨rs, hl, hr.set_below hg v, fun i x r h1 h2 => by obtain ⟨a, b, c, d⟩ := hi i x r h1 h2; exact ⟨a, b, c.set_below hg v, d.set_below hg v⟩⟩
theorem FrC.mono (h : FrC w B A c xs) (hB : B' ≤ B) : FrC w B' A c xs := by
  obtain ⟨rs, hl, hr, hi⟩ := h
  exact ⟨rs, hl, hr.mono hB, fun i x r h1 h2 => by obtain ⟨a, b, c, d⟩ := hi i x r h1 h2; exact ⟨a, b, c.mono hB, d.mono hB⟩⟩
end

def sumCpu (x : CpuD) : Nat := x.notes.length + x.waits.length
def sumUp (xs : List CpuD) (k : Nat) : Nat := ((xs.take k).map sumCpu).sum
theorem sumUp_zero (xs : List CpuD) : sumUp xs 0 = 0 := rfl
theorem sumUp_succ {xs : List CpuD} {k : Nat} {x : CpuD} (h : xs[k]? = some x) : sumUp xs (k + 1) = sumUp xs k + sumCpu x := by
  unfold sumUp
  rw [take_succ_of h, List.map_append, List.sum_append]
  simp
theorem sumUp_le (xs : List CpuD) : ∀ j k, k ≤ j → sumUp xs k ≤ sumUp xs j := by
  intro j
  induction j with
  | zero => intro k hk; have : k = 0 := by omega
            subst this; exact Nat.le_refl _
  | succ j ih =>
    intro k hk
    by_cases e : k = j + 1
    · subst e; exact Nat.le_refl _
    · have h1 := ih k (by omega)
      by_cases hj : j < xs.length
      · rw [sumUp_succ (List.getElem?_eq_getElem hj)]; omega
      · have : sumUp xs (j + 1) = sumUp xs j := by unfold sumUp; rw [List.take_of_length_le (by omega), List.take_of_length_le (by omega)]
        omega
def sumC (xs : List CpuD) : Nat := xs.length + sumUp xs xs.length
def sumS (s : SysD) : Nat := s.table.buckets.length + s.table.frames.length + sumC s.cpus

structure FewC (xs : List CpuD) : Prop where
  n : xs.length ≤ 1048576
  e : ∀ (i : Nat) (x : CpuD), xs[i]? = some x → x.notes.length ≤ 1048576 ∧ x.waits.length ≤ 1048576
structure LenC (xs : List CpuD) : Prop where
  n : xs.length ≤ maxLen
  e : ∀ (i : Nat) (x : CpuD), xs[i]? = some x → x.notes.length ≤ maxLen ∧ x.waits.length ≤ maxLen
theorem FewC.of_sum {xs : List CpuD} (h : sumC xs ≤ 1048576) : FewC xs := by
  unfold sumC at h
  refine ⟨by omega, fun i x hx => ?_⟩
  have h1 := sumUp_succ hx
  have h2 := sumUp_le xs xs.length (i + 1) (getElem?_lt hx)
  unfold sumCpu at h1
  omega

/-- The addresses and capacities of a system's slices. -/
structure SA where
  b : Option Addr
  bc : Nat
  f : Option Addr
  fc : Nat
  q : Option Addr
  qc : Nat
structure HasS (w : World) (s : SysD) (a : SA) : Prop where
  b : Rd w a.b s.table.buckets
  f : Rd w a.f s.table.frames
  q : HasC w a.q s.cpus
structure FewS (s : SysD) : Prop where
  b : s.table.buckets.length ≤ 1048576
  f : s.table.frames.length ≤ 1048576
  q : FewC s.cpus
structure LenS (s : SysD) : Prop where
  b : s.table.buckets.length ≤ maxLen
  f : s.table.frames.length ≤ maxLen
  q : LenC s.cpus
theorem FewS.of_sum {s : SysD} (h : sumS s ≤ 1048576) : FewS s := by
  unfold sumS at h
  exact ⟨by omega, by omega, FewC.of_sum (by omega)⟩
theorem HasS.ex {w w' : World} {s : SysD} {a : SA} (h : HasS w s a) (k : Ex w w') : HasS w' s a := ⟨h.b.ex k, h.f.ex k, h.q.ex k⟩
theorem HasS.drew {w : World} {s : SysD} {a : SA} (h : HasS w s a) : HasS w.drew s a := ⟨h.b, h.f, h.q⟩
structure FrS (w : World) (B : Nat) (s : SysD) (a : SA) : Prop where
  b : Fr 3 w B a.b a.bc s.table.buckets
  f : Fr 99 w B a.f a.fc s.table.frames
  q : FrC w B a.q a.qc s.cpus
theorem FrS.has {w : World} {B : Nat} {s : SysD} {a : SA} (h : FrS w B s a) : HasS w s a := ⟨h.b.rd, h.f.rd, h.q.has⟩
theorem FrS.ex {w w' : World} {B : Nat} {s : SysD} {a : SA} (h : FrS w B s a) (k : Ex w w') : FrS w' B s a := ⟨h.b.ex k, h.f.ex k, h.q.ex k⟩
end Go.Proofs.YtkoegcalfibinaaDoor
