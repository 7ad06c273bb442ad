/- Opening an argument that is a law's table, machine or memory: structs within structs, cell by cell. -/
import Derived.Test.YtihlaecbdlgbiaaDoorOpenT
import Derived.Test.YtihlaecbdlgbiaaDoorOpenC
import Derived.Test.YtihlaecbdlgbiaaDoorMd
namespace Go.Proofs.YtihlaecbdlgbiaaDoor
open Go.ChangeShapes Go.WideShapes Go.ChangeAt Go.RowKit
open Go.Deep Go.Joins
open Rec (sz cs)
set_option linter.unusedVariables false
set_option maxRecDepth 100000
section
variable {H : Type} {enc : TypeId × Value → H} {w : World} {base b0 : Nat} {spare : Nat → Bool} {held : Bool} {r : Reach} {P : Program}

theorem fields_of {t : TypeId} {fs : Array Field} {fuel : Nat} {cs : List Value} {x : DataW H × List MemPlace} (ht : P.underlying t = some (.struct fs)) (h : DataW.trod enc P w base spare held fuel t cs = some x) :
    cs.length = P.cellsOf t ∧ ∃ n, ∀ (j : Nat) (f : Field), fs[j]? = some f → ∃ y, DataW.trod enc P w base spare held n f.type ((cs.drop f.offset).take (P.cellsOf f.type)) = some y := by
  obtain ⟨xs, n, _, _, hl, hlen, hf⟩ := DataW.trod_struct ht h
  refine ⟨hl, n, fun j f hj => ?_⟩
  have hjl : j < xs.length := by
    have := (Array.getElem?_eq_some_iff.1 hj).1
    omega
  exact ⟨_, (hf j f hj).trans (List.getElem?_eq_getElem hjl)⟩

theorem open_slice_elems {t e : TypeId} {fuel : Nat} {cs : List Value} {x : DataW H × List MemPlace} (ht : P.underlying t = some (.slice e)) (h : DataW.trod enc P w base spare held fuel t cs = some x) :
    cs = [.slice none 0 0] ∨ ∃ (a : Addr) (len cap : Nat), cs = [.slice (some a) len cap] ∧ len ≤ cap ∧ cap ≤ maxLen ∧
      ∀ i, i < len → ∃ (n : Nat) (cs' : List Value) (y : DataW H × List MemPlace), (∀ (j : Nat) (u : Value), cs'[j]? = some u → w.cell? (a.add (i * P.cellsOf e + j)) = some u) ∧ DataW.trod enc P w base spare held n e cs' = some y := by
  rcases open_slice ht h with h0 | ⟨a, len, cap, m, n, D, Pl, hcs, hb, hl, hm, hmm, hx, hi⟩
  · exact .inl h0.1
  · refine .inr ⟨a, len, cap, hcs, hl, hm, fun i him => ?_⟩
    have him' : i < m := by rw [hmm]; split <;> omega
    obtain ⟨cs', hc, ht'⟩ := hi i him'
    obtain ⟨_, hcl, hat⟩ := World.cells?_some hc
    refine ⟨n, cs', _, fun j u hu => ?_, ht'⟩
    have hj := (List.getElem?_eq_some_iff.1 hu).1
    have hcell := hat j (by omega)
    rw [← Go.Deep.add_add, hcell, hu]

theorem open_IntC {fuel : Nat} {v : Value} {y : DataW H × List MemPlace} (h : DataW.trod enc Tryd.prog w base spare held fuel 22 [v] = some y) :
    ∃ (A : Option Addr) (c : Nat) (xs : List Int), v = .slice A xs.length c ∧ Rd w A xs ∧ xs.length ≤ maxLen := by
  rcases open_slice_elems Tryd.underlying22 h with h0 | ⟨a, len, cap, hcs, hl, hm, hi⟩
  · simp at h0
    subst h0
    exact ⟨none, 0, [], rfl, Rd.nil _ _, Nat.zero_le _⟩
  · simp at hcs
    subst hcs
    have hC : Tryd.prog.cellsOf 3 = 1 := by kernel_rfl
    obtain ⟨xs, hx, hr⟩ := rd_build (α := Int) (w := w) a len (fun i hil => by
      obtain ⟨n, cs', y, hc, ht⟩ := hi i hil
      obtain ⟨z, e0, _, _⟩ := DataW.trod_int Tryd.underlying3 ht
      subst e0
      rw [hC] at hc
      exact ⟨z, hc⟩)
    exact ⟨some a, cap, xs, by rw [hx], hr, by omega⟩

theorem open_BoolC {fuel : Nat} {v : Value} {y : DataW H × List MemPlace} (h : DataW.trod enc Tryd.prog w base spare held fuel 50 [v] = some y) :
    ∃ (A : Option Addr) (c : Nat) (xs : List Bool), v = .slice A xs.length c ∧ Rd w A xs ∧ xs.length ≤ maxLen := by
  rcases open_slice_elems Tryd.underlying50 h with h0 | ⟨a, len, cap, hcs, hl, hm, hi⟩
  · simp at h0
    subst h0
    exact ⟨none, 0, [], rfl, Rd.nil _ _, Nat.zero_le _⟩
  · simp at hcs
    subst hcs
    have hC : Tryd.prog.cellsOf 4 = 1 := by kernel_rfl
    obtain ⟨xs, hx, hr⟩ := rd_build (α := Bool) (w := w) a len (fun i hil => by
      obtain ⟨n, cs', y, hc, ht⟩ := hi i hil
      obtain ⟨z, e0, _⟩ := DataW.trod_bool Tryd.underlying4 ht
      subst e0
      rw [hC] at hc
      exact ⟨z, hc⟩)
    exact ⟨some a, cap, xs, by rw [hx], hr, by omega⟩

theorem open_KeyC {fuel : Nat} {v0 v1 : Value} {y : DataW H × List MemPlace} (h : DataW.trod enc Tryd.prog w base spare held fuel 121 [v0, v1] = some y) :
    ∃ x : KeyD, v0 = .int .i64 x.space ∧ v1 = .int .i64 x.page := by
  obtain ⟨_, n, hf⟩ := fields_of Tryd.underlying121 h
  have k1 : Tryd.prog.cellsOf 3 = 1 := by kernel_rfl
  obtain ⟨y0, h0⟩ := hf 0 _ rfl
  obtain ⟨y1, h1⟩ := hf 1 _ rfl
  simp [k1] at h0 h1
  obtain ⟨n0, rfl⟩ := field_int Tryd.underlying3 h0
  obtain ⟨n1, rfl⟩ := field_int Tryd.underlying3 h1
  exact ⟨⟨n0, n1⟩, rfl, rfl⟩

theorem open_FrameC {fuel : Nat} {l : List Value} {y : DataW H × List MemPlace} (h : DataW.trod enc Tryd.prog w base spare held fuel 123 l = some y) :
    ∃ x : FrameD, l = cs x := by
  obtain ⟨hl, n, hf⟩ := fields_of Tryd.underlying123 h
  have k1 : Tryd.prog.cellsOf 3 = 1 := by kernel_rfl
  have k2 : Tryd.prog.cellsOf 4 = 1 := by kernel_rfl
  have k3 : Tryd.prog.cellsOf 121 = 2 := by kernel_rfl
  have k4 : Tryd.prog.cellsOf 123 = 5 := by kernel_rfl
  rw [k4] at hl
  match l, hl with
  | [v0, v1, v2, v3, v4], _ =>
    obtain ⟨y0, h0⟩ := hf 0 _ rfl
    obtain ⟨y1, h1⟩ := hf 1 _ rfl
    obtain ⟨y2, h2⟩ := hf 2 _ rfl
    obtain ⟨y3, h3⟩ := hf 3 _ rfl
    simp [k1, k2, k3] at h0 h1 h2 h3
    obtain ⟨n0, rfl⟩ := field_bool Tryd.underlying4 h0
    obtain ⟨x, rfl, rfl⟩ := open_KeyC h1
    obtain ⟨n2, rfl⟩ := field_int Tryd.underlying3 h2
    obtain ⟨n3, rfl⟩ := field_int Tryd.underlying3 h3
    exact ⟨⟨n0, x, n2, n3⟩, rfl⟩

theorem open_FrameS {fuel : Nat} {v : Value} {y : DataW H × List MemPlace} (h : DataW.trod enc Tryd.prog w base spare held fuel 23 [v] = some y) :
    ∃ (A : Option Addr) (c : Nat) (xs : List FrameD), v = .slice A xs.length c ∧ Rd w A xs ∧ xs.length ≤ maxLen := by
  rcases open_slice_elems Tryd.underlying23 h with h0 | ⟨a, len, cap, hcs, hl, hm, hi⟩
  · simp at h0
    subst h0
    exact ⟨none, 0, [], rfl, Rd.nil _ _, Nat.zero_le _⟩
  · simp at hcs
    subst hcs
    have hC : Tryd.prog.cellsOf 123 = 5 := by kernel_rfl
    obtain ⟨xs, hx, hr⟩ := rd_build (α := FrameD) (w := w) a len (fun i hil => by
      obtain ⟨n, cs', y, hc, ht⟩ := hi i hil
      obtain ⟨x, rfl⟩ := open_FrameC ht
      rw [hC] at hc
      exact ⟨x, hc⟩)
    exact ⟨some a, cap, xs, by rw [hx], hr, by omega⟩

theorem open_TableC {fuel : Nat} {v0 v1 : Value} {y : DataW H × List MemPlace} (h : DataW.trod enc Tryd.prog w base spare held fuel 25 [v0, v1] = some y) :
    ∃ (t : TableD) (A : Option Addr) (c : Nat) (B : Option Addr) (d : Nat), v0 = .slice A t.buckets.length c ∧ v1 = .slice B t.frames.length d ∧ Rd w A t.buckets ∧ Rd w B t.frames ∧ t.buckets.length ≤ maxLen ∧ t.frames.length ≤ maxLen := by
  obtain ⟨_, n, hf⟩ := fields_of Tryd.underlying25 h
  have k1 : Tryd.prog.cellsOf 22 = 1 := by kernel_rfl
  have k2 : Tryd.prog.cellsOf 23 = 1 := by kernel_rfl
  obtain ⟨y0, h0⟩ := hf 0 _ rfl
  obtain ⟨y1, h1⟩ := hf 1 _ rfl
  simp [k1, k2] at h0 h1
  obtain ⟨A, c, bs, rfl, hr, hl⟩ := open_IntC h0
  obtain ⟨B, d, fs, rfl, hr2, hl2⟩ := open_FrameS h1
  exact ⟨⟨bs, fs⟩, A, c, B, d, rfl, rfl, hr, hr2, hl, hl2⟩

theorem open_CacheC {fuel : Nat} {v0 v1 : Value} {y : DataW H × List MemPlace} (h : DataW.trod enc Tryd.prog w base spare held fuel 28 [v0, v1] = some y) :
    ∃ (t : CacheD) (A : Option Addr) (c : Nat), v0 = .slice A t.lines.length c ∧ v1 = .int .i64 t.hand ∧ Rd w A t.lines ∧ t.lines.length ≤ maxLen := by
  obtain ⟨_, n, hf⟩ := fields_of Tryd.underlying28 h
  have k1 : Tryd.prog.cellsOf 26 = 1 := by kernel_rfl
  have k2 : Tryd.prog.cellsOf 3 = 1 := by kernel_rfl
  obtain ⟨y0, h0⟩ := hf 0 _ rfl
  obtain ⟨y1, h1⟩ := hf 1 _ rfl
  simp [k1, k2] at h0 h1
  obtain ⟨A, c, xs, rfl, hr, hl⟩ := open_LineS h0
  obtain ⟨n1, rfl⟩ := field_int Tryd.underlying3 h1
  exact ⟨⟨xs, n1⟩, A, c, rfl, rfl, hr, hl⟩

theorem open_TagsC {fuel : Nat} {v0 v1 v2 v3 : Value} {y : DataW H × List MemPlace} (h : DataW.trod enc Tryd.prog w base spare held fuel 31 [v0, v1, v2, v3] = some y) :
    ∃ (t : TagsD) (A : Option Addr) (c : Nat), v0 = .int .i64 t.count ∧ v1 = .int .i64 t.next ∧ v2 = .int .i64 t.round ∧ v3 = .slice A t.owns.length c ∧ Rd w A t.owns ∧ t.owns.length ≤ maxLen := by
  obtain ⟨_, n, hf⟩ := fields_of Tryd.underlying31 h
  have k1 : Tryd.prog.cellsOf 29 = 1 := by kernel_rfl
  have k2 : Tryd.prog.cellsOf 3 = 1 := by kernel_rfl
  obtain ⟨y0, h0⟩ := hf 0 _ rfl
  obtain ⟨y1, h1⟩ := hf 1 _ rfl
  obtain ⟨y2, h2⟩ := hf 2 _ rfl
  obtain ⟨y3, h3⟩ := hf 3 _ rfl
  simp [k1, k2] at h0 h1 h2 h3
  obtain ⟨n0, rfl⟩ := field_int Tryd.underlying3 h0
  obtain ⟨n1, rfl⟩ := field_int Tryd.underlying3 h1
  obtain ⟨n2, rfl⟩ := field_int Tryd.underlying3 h2
  obtain ⟨A, c, xs, rfl, hr, hl⟩ := open_OwnS h3
  exact ⟨⟨n0, n1, n2, xs⟩, A, c, rfl, rfl, rfl, rfl, hr, hl⟩

theorem open_MachC {fuel : Nat} {l : List Value} {y : DataW H × List MemPlace} (h : DataW.trod enc Tryd.prog w base spare held fuel 33 l = some y) :
    ∃ (m : MachD) (a : MA), l = [.slice a.b m.table.buckets.length a.bc, .slice a.f m.table.frames.length a.fc, .slice a.l m.cache.lines.length a.lc, .int .i64 m.cache.hand, .int .i64 m.tags.count, .int .i64 m.tags.next, .int .i64 m.tags.round, .slice a.o m.tags.owns.length a.oc, .int .i64 m.space] ∧ HasM w m a ∧ LenM m := by
  obtain ⟨hl, n, hf⟩ := fields_of Tryd.underlying33 h
  have k1 : Tryd.prog.cellsOf 25 = 2 := by kernel_rfl
  have k2 : Tryd.prog.cellsOf 28 = 2 := by kernel_rfl
  have k3 : Tryd.prog.cellsOf 31 = 4 := by kernel_rfl
  have k4 : Tryd.prog.cellsOf 3 = 1 := by kernel_rfl
  have k5 : Tryd.prog.cellsOf 33 = 9 := by kernel_rfl
  rw [k5] at hl
  match l, hl with
  | [v0, v1, v2, v3, v4, v5, v6, v7, v8], _ =>
    obtain ⟨y0, h0⟩ := hf 0 _ rfl
    obtain ⟨y1, h1⟩ := hf 1 _ rfl
    obtain ⟨y2, h2⟩ := hf 2 _ rfl
    obtain ⟨y3, h3⟩ := hf 3 _ rfl
    simp [k1, k2, k3, k4] at h0 h1 h2 h3
    obtain ⟨t, A, c, B, d, rfl, rfl, r1, r2, l1, l2⟩ := open_TableC h0
    obtain ⟨u, A3, c3, rfl, rfl, r3, l3⟩ := open_CacheC h1
    obtain ⟨g, A4, c4, rfl, rfl, rfl, rfl, r4, l4⟩ := open_TagsC h2
    obtain ⟨n3, rfl⟩ := field_int Tryd.underlying3 h3
    exact ⟨⟨t, u, g, n3⟩, ⟨A, c, B, d, A3, c3, A4, c4⟩, rfl, ⟨r1, r2, r3, r4⟩, ⟨l1, l2, l3, l4⟩⟩

theorem open_Machine {v : Value} {d : DataW H} {p : List MemPlace} (hv : Value.okWide Tryd.prog w r b0 33 v) (h : DataW.Trod enc Tryd.prog w base spare held 33 v d p) :
    ∃ (m : MachD) (a : MA), v = .agg #[.slice a.b m.table.buckets.length a.bc, .slice a.f m.table.frames.length a.fc, .slice a.l m.cache.lines.length a.lc, .int .i64 m.cache.hand, .int .i64 m.tags.count, .int .i64 m.tags.next, .int .i64 m.tags.round, .slice a.o m.tags.owns.length a.oc, .int .i64 m.space] ∧ HasM w m a ∧ LenM m := by
  obtain ⟨cs, rfl, hsz⟩ := okWide_struct Tryd.underlying33 hv
  obtain ⟨fuel, hf⟩ := h
  obtain ⟨m, a, e, h1, h2⟩ := open_MachC hf
  refine ⟨m, a, ?_, h1, h2⟩
  obtain ⟨l⟩ := cs
  simp [Value.cells] at e
  rw [e]
theorem open_Memory {v : Value} {d : DataW H} {p : List MemPlace} (hv : Value.okWide Tryd.prog w r b0 52 v) (h : DataW.Trod enc Tryd.prog w base spare held 52 v d p) :
    ∃ (m : MemD) (a : MA) (K : Option Addr) (k : Nat), v = .agg #[.slice a.b m.mach.table.buckets.length a.bc, .slice a.f m.mach.table.frames.length a.fc, .slice a.l m.mach.cache.lines.length a.lc, .int .i64 m.mach.cache.hand, .int .i64 m.mach.tags.count, .int .i64 m.mach.tags.next, .int .i64 m.mach.tags.round, .slice a.o m.mach.tags.owns.length a.oc, .int .i64 m.mach.space, .slice K m.marks.length k, .int .i64 m.hand] ∧ (HasM w m.mach a ∧ Rd w K m.marks) ∧ (LenM m.mach ∧ m.marks.length ≤ maxLen) := by
  obtain ⟨cs, rfl, hsz⟩ := okWide_struct Tryd.underlying52 hv
  obtain ⟨fuel, hf⟩ := h
  obtain ⟨hl, n, hf⟩ := fields_of Tryd.underlying52 hf
  have k1 : Tryd.prog.cellsOf 33 = 9 := by kernel_rfl
  have k2 : Tryd.prog.cellsOf 50 = 1 := by kernel_rfl
  have k4 : Tryd.prog.cellsOf 3 = 1 := by kernel_rfl
  have k5 : Tryd.prog.cellsOf 52 = 11 := by kernel_rfl
  rw [k5] at hl
  obtain ⟨l⟩ := cs
  simp only [Value.cells] at hl hf
  match l, hl with
  | [v0, v1, v2, v3, v4, v5, v6, v7, v8, v9, v10], _ =>
    obtain ⟨y0, h0⟩ := hf 0 _ rfl
    obtain ⟨y1, h1⟩ := hf 1 _ rfl
    obtain ⟨y2, h2⟩ := hf 2 _ rfl
    simp [k1, k2, k4] at h0 h1 h2
    obtain ⟨m, a, e, r1, l1⟩ := open_MachC h0
    obtain ⟨K, k, ks, rfl, r2, l2⟩ := open_BoolC h1
    obtain ⟨n2, rfl⟩ := field_int Tryd.underlying3 h2
    simp only [List.cons.injEq, and_true] at e
    obtain ⟨rfl, rfl, rfl, rfl, rfl, rfl, rfl, rfl, rfl⟩ := e
    exact ⟨⟨m, ks, n2⟩, a, K, k, rfl, ⟨r1, r2⟩, ⟨l1, l2⟩⟩
end
end Go.Proofs.YtihlaecbdlgbiaaDoor
