/- Opening an argument that is a law's system: processors with slices of notes. -/
import Derived.Test.YtkoegcalfibinaaOpenM
import Derived.Test.YtkoegcalfibinaaYd
namespace Go.Proofs.Ytkoegcalfibinaa
open Go.ChangeShapes Go.WideShapes Go.ChangeAt Go.RowKit
open Go.Deep Go.Joins
open Rec (sz cs)
set_option linter.unusedVariables false
set_option maxRecDepth 100000
section
variable {H : Type} {enc : TypeId × Value → H} {w : World} {base b0 : Nat} {spare : Nat → Bool} {held : Bool} {r : Reach} {P : Program}

theorem open_NoteC {fuel : Nat} {l : List Value} {y : DataW H × List MemPlace} (h : DataW.trod enc Try.prog w base spare held fuel 132 l = some y) :
    ∃ x : NoteD, l = cs x := by
  obtain ⟨hl, n, hf⟩ := fields_of Try.underlying132 h
  have k1 : Try.prog.cellsOf 3 = 1 := by kernel_rfl
  have k3 : Try.prog.cellsOf 118 = 2 := by kernel_rfl
  have k4 : Try.prog.cellsOf 132 = 3 := by kernel_rfl
  rw [k4] at hl
  match l, hl with
  | [v0, v1, v2], _ =>
    obtain ⟨y0, h0⟩ := hf 0 _ rfl
    obtain ⟨y1, h1⟩ := hf 1 _ rfl
    simp [k1, k3] at h0 h1
    obtain ⟨x, rfl, rfl⟩ := open_KeyC h0
    obtain ⟨n2, rfl⟩ := field_int Try.underlying3 h1
    exact ⟨⟨x, n2⟩, rfl⟩

theorem open_NoteS {fuel : Nat} {v : Value} {y : DataW H × List MemPlace} (h : DataW.trod enc Try.prog w base spare held fuel 96 [v] = some y) :
    ∃ (A : Option Addr) (c : Nat) (xs : List NoteD), v = .slice A xs.length c ∧ Rd w A xs ∧ xs.length ≤ maxLen := by
  rcases open_slice_elems Try.underlying96 h with h0 | ⟨a, len, cap, hcs, hl, hm, hi⟩
  · simp at h0
    subst h0
    exact ⟨none, 0, [], rfl, Rd.nil _ _, Nat.zero_le _⟩
  · simp at hcs
    subst hcs
    have hC : Try.prog.cellsOf 132 = 3 := by kernel_rfl
    obtain ⟨xs, hx, hr⟩ := rd_build (α := NoteD) (w := w) a len (fun i hil => by
      obtain ⟨n, cs', y, hc, ht⟩ := hi i hil
      obtain ⟨x, rfl⟩ := open_NoteC ht
      rw [hC] at hc
      exact ⟨x, hc⟩)
    exact ⟨some a, cap, xs, by rw [hx], hr, by omega⟩

theorem open_CpuC {fuel : Nat} {l : List Value} {y : DataW H × List MemPlace} (h : DataW.trod enc Try.prog w base spare held fuel 98 l = some y) :
    ∃ (x : CpuD) (q : CpuR), l = cs q ∧ q.nn = x.notes.length ∧ q.wn = x.waits.length ∧ Rd w q.nA x.notes ∧ Rd w q.wA x.waits ∧ x.notes.length ≤ maxLen ∧ x.waits.length ≤ maxLen := by
  obtain ⟨hl, n, hf⟩ := fields_of Try.underlying98 h
  have k1 : Try.prog.cellsOf 96 = 1 := by kernel_rfl
  have k4 : Try.prog.cellsOf 98 = 2 := by kernel_rfl
  rw [k4] at hl
  match l, hl with
  | [v0, v1], _ =>
    obtain ⟨y0, h0⟩ := hf 0 _ rfl
    obtain ⟨y1, h1⟩ := hf 1 _ rfl
    simp [k1] at h0 h1
    obtain ⟨A, c, xs, rfl, r1, l1⟩ := open_NoteS h0
    obtain ⟨B, d, ys, rfl, r2, l2⟩ := open_NoteS h1
    exact ⟨⟨xs, ys⟩, ⟨A, xs.length, c, B, ys.length, d⟩, rfl, rfl, rfl, r1, r2, l1, l2⟩

theorem open_CpuS {fuel : Nat} {v : Value} {y : DataW H × List MemPlace} (h : DataW.trod enc Try.prog w base spare held fuel 26 [v] = some y) :
    ∃ (A : Option Addr) (c : Nat) (xs : List CpuD), v = .slice A xs.length c ∧ HasC w A xs ∧ LenC xs := by
  rcases open_slice_elems Try.underlying26 h with h0 | ⟨a, len, cap, hcs, hl, hm, hi⟩
  · simp at h0
    subst h0
    exact ⟨none, 0, [], rfl, ⟨[], rfl, Rd.nil _ _, fun i x r h => by simp at h⟩, ⟨Nat.zero_le _, fun i x h => by simp at h⟩⟩
  · simp at hcs
    subst hcs
    have hC : Try.prog.cellsOf 98 = 2 := by kernel_rfl
    have hch : ∀ i, ∃ (x : CpuD) (q : CpuR), i < len → (∀ j u, (cs q)[j]? = some u → w.cell? (a.add (i * sz CpuR + j)) = some u) ∧ q.nn = x.notes.length ∧ q.wn = x.waits.length ∧ Rd w q.nA x.notes ∧ Rd w q.wA x.waits ∧ x.notes.length ≤ maxLen ∧ x.waits.length ≤ maxLen := fun i => by
      by_cases hil : i < len
      · obtain ⟨n, cs', y, hc, ht⟩ := hi i hil
        obtain ⟨x, q, rfl, h1⟩ := open_CpuC ht
        rw [hC] at hc
        exact ⟨x, q, fun _ => ⟨hc, h1⟩⟩
      · exact ⟨default, default, fun h => absurd h hil⟩
    have hfx : ∃ fx : Nat → CpuD, ∀ i, ∃ (q : CpuR), i < len → (∀ j u, (cs q)[j]? = some u → w.cell? (a.add (i * sz CpuR + j)) = some u) ∧ q.nn = (fx i).notes.length ∧ q.wn = (fx i).waits.length ∧ Rd w q.nA (fx i).notes ∧ Rd w q.wA (fx i).waits ∧ (fx i).notes.length ≤ maxLen ∧ (fx i).waits.length ≤ maxLen :=
      ⟨fun i => Classical.choose (hch i), fun i => Classical.choose_spec (hch i)⟩
    obtain ⟨fx, hfx⟩ := hfx
    have hfq : ∃ fq : Nat → CpuR, ∀ i, i < len → (∀ j u, (cs (fq i))[j]? = some u → w.cell? (a.add (i * sz CpuR + j)) = some u) ∧ (fq i).nn = (fx i).notes.length ∧ (fq i).wn = (fx i).waits.length ∧ Rd w (fq i).nA (fx i).notes ∧ Rd w (fq i).wA (fx i).waits ∧ (fx i).notes.length ≤ maxLen ∧ (fx i).waits.length ≤ maxLen :=
      ⟨fun i => Classical.choose (hfx i), fun i => Classical.choose_spec (hfx i)⟩
    obtain ⟨fq, hfq⟩ := hfq
    have hrd : Rd w (some a) ((List.range len).map fq) := by
      intro hn
      have hlen : 0 < len := by simpa using hn
      obtain ⟨b, off, spot⟩ := a
      have h0 := (hfq 0 hlen).1 0 _ (List.getElem?_eq_getElem (by rw [Rec.len]; exact Rec.pos))
      have hspot : spot = none := by simpa [Addr.add] using World.cell?_spot h0
      subst hspot
      have hb := block_lt_of_cell h0
      simp only [Addr.add] at hb
      refine ⟨b, off, rfl, by simpa [Addr.add] using hb, fun m u hu => ?_⟩
      have hp : 0 < sz CpuR := Rec.pos
      have hm : m < len * sz CpuR := by
        have := (List.getElem?_eq_some_iff.1 hu).1
        rw [flat_length] at this
        simpa using this
      have hd : m / sz CpuR < len := (Nat.div_lt_iff_lt_mul hp).2 hm
      have hmm : m % sz CpuR < sz CpuR := Nat.mod_lt _ hp
      have hi2 : m / sz CpuR * sz CpuR + m % sz CpuR = m := by rw [Nat.mul_comm]; exact Nat.div_add_mod m (sz CpuR)
      have hg := flat_get ((List.range len).map fq) (m / sz CpuR) (m % sz CpuR) (fq (m / sz CpuR)) (by simp [hd]) hmm
      rw [hi2, hu] at hg
      have := (hfq (m / sz CpuR) hd).1 (m % sz CpuR) u hg.symm
      rw [hi2] at this
      rw [← this]
      congr 1
      unfold Addr.add
      split <;> simp_all
    refine ⟨some a, cap, (List.range len).map fx, by simp, ⟨(List.range len).map fq, by simp, hrd, fun i x q h1 h2 => ?_⟩, ⟨by simp; omega, fun i x h1 => ?_⟩⟩
    · simp only [List.getElem?_map, Option.map_eq_some_iff] at h1 h2
      obtain ⟨i1, e1, rfl⟩ := h1
      obtain ⟨i2, e2, rfl⟩ := h2
      have hil : i < len := by have := getElem?_lt e1; simpa using this
      have e3 : i1 = i := by rw [List.getElem?_range hil] at e1; injection e1 with e1; exact e1.symm
      have e4 : i2 = i := by rw [List.getElem?_range hil] at e2; injection e2 with e2; exact e2.symm
      subst e3
      rw [e4]
      obtain ⟨-, a1, a2, a3, a4, -, -⟩ := hfq i1 hil
      exact ⟨a1, a2, a3, a4⟩
    · simp only [List.getElem?_map, Option.map_eq_some_iff] at h1
      obtain ⟨i1, e1, rfl⟩ := h1
      have hil : i < len := by have := getElem?_lt e1; simpa using this
      have e3 : i1 = i := by rw [List.getElem?_range hil] at e1; injection e1 with e1; exact e1.symm
      subst e3
      obtain ⟨-, -, -, -, -, a5, a6⟩ := hfq i1 hil
      exact ⟨a5, a6⟩

theorem open_System {v : Value} {d : DataW H} {p : List MemPlace} (hv : Value.okWide Try.prog w r b0 28 v) (h : DataW.Trod enc Try.prog w base spare held 28 v d p) :
    ∃ (s : SysD) (a : SA), v = .agg #[.slice a.b s.table.buckets.length a.bc, .slice a.f s.table.frames.length a.fc, .slice a.q s.cpus.length a.qc] ∧ HasS w s a ∧ LenS s := by
  obtain ⟨cs, rfl, hsz⟩ := okWide_struct Try.underlying28 hv
  obtain ⟨fuel, hf⟩ := h
  obtain ⟨hl, n, hf⟩ := fields_of Try.underlying28 hf
  have k1 : Try.prog.cellsOf 25 = 2 := by kernel_rfl
  have k2 : Try.prog.cellsOf 26 = 1 := by kernel_rfl
  have k5 : Try.prog.cellsOf 28 = 3 := by kernel_rfl
  rw [k5] at hl
  obtain ⟨l⟩ := cs
  simp only [Value.cells] at hl hf
  match l, hl with
  | [v0, v1, v2], _ =>
    obtain ⟨y0, h0⟩ := hf 0 _ rfl
    obtain ⟨y1, h1⟩ := hf 1 _ rfl
    simp [k1, k2] at h0 h1
    obtain ⟨t, A, c, B, d, rfl, rfl, r1, r2, l1, l2⟩ := open_TableC h0
    obtain ⟨Q, q, cp, rfl, r3, l3⟩ := open_CpuS h1
    exact ⟨⟨t, cp⟩, ⟨A, c, B, d, Q, q⟩, rfl, ⟨r1, r2, r3⟩, ⟨l1, l2, l3⟩⟩
end
end Go.Proofs.Ytkoegcalfibinaa
