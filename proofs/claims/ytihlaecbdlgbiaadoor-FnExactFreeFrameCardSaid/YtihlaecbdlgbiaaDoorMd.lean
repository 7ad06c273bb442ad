/- Machines as plain data, and where a machine's four slices lie. No program in sight. -/
import Derived.Test.YtihlaecbdlgbiaaDoorChg
namespace Go.Proofs.YtihlaecbdlgbiaaDoor
open Go.ChangeShapes Go.WideShapes Go.ChangeAt Go.RowKit
open Rec (sz cs)

/-- The addresses and capacities of a machine's four slices. -/
structure MA where
  b : Option Addr
  bc : Nat
  f : Option Addr
  fc : Nat
  l : Option Addr
  lc : Nat
  o : Option Addr
  oc : Nat

/-- The four slices read as the machine's lists. -/
structure HasM (w : World) (m : MachD) (a : MA) : Prop where
  b : Rd w a.b m.table.buckets
  f : Rd w a.f m.table.frames
  l : Rd w a.l m.cache.lines
  o : Rd w a.o m.tags.owns
/-- The capacities hold the lists. -/
structure CapM (m : MachD) (a : MA) : Prop where
  b : m.table.buckets.length ≤ a.bc
  f : m.table.frames.length ≤ a.fc
  l : m.cache.lines.length ≤ a.lc
  o : m.tags.owns.length ≤ a.oc
/-- The lists are short enough for a law to look at them. -/
structure FewM (m : MachD) : Prop where
  b : m.table.buckets.length ≤ 1048576
  f : m.table.frames.length ≤ 1048576
  l : m.cache.lines.length ≤ 1048576
  o : m.tags.owns.length ≤ 1048576
/-- The lists' lengths are lengths of slices. -/
structure LenM (m : MachD) : Prop where
  b : m.table.buckets.length ≤ maxLen
  f : m.table.frames.length ≤ maxLen
  l : m.cache.lines.length ≤ maxLen
  o : m.tags.owns.length ≤ maxLen
def sumM (m : MachD) : Nat := m.table.buckets.length + m.table.frames.length + m.cache.lines.length + m.tags.owns.length
theorem FewM.of_sum {m : MachD} (h : sumM m ≤ 1048576) : FewM m := by
  unfold sumM at h
  exact ⟨by omega, by omega, by omega, by omega⟩

section
variable {w w' : World} {m : MachD} {a : MA}
theorem HasM.ex (h : HasM w m a) (k : Ex w w') : HasM w' m a := ⟨h.b.ex k, h.f.ex k, h.l.ex k, h.o.ex k⟩
theorem HasM.alloc (h : HasM w m a) (o : Obj) : HasM (w.alloc o) m a := ⟨h.b.alloc o, h.f.alloc o, h.l.alloc o, h.o.alloc o⟩
theorem HasM.drew (h : HasM w m a) : HasM w.drew m a := ⟨h.b, h.f, h.l, h.o⟩
end

theorem mach_eq (x y : MachD) : x = y ↔ x.table = y.table ∧ x.cache = y.cache ∧ x.tags = y.tags ∧ x.space = y.space := by
  cases x; cases y; simp
theorem mem_eq (x y : MemD) : x = y ↔ x.mach = y.mach ∧ x.marks = y.marks ∧ x.hand = y.hand := by
  cases x; cases y; simp
end Go.Proofs.YtihlaecbdlgbiaaDoor
