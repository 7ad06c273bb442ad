/- Joined: OpenT, OpenC, OpenM, Door. -/
import Derived.Test.YtihlaecbdlgbiaaDoorOpen
import Derived.Test.YtihlaecbdlgbiaaDoorMd
import Derived.Test.YtihlaecbdlgbiaaDoorNt
import Derived.LaidMore
import Derived.Stop.Joined
import Derived.OpenVars
/- Opening an argument that is a law's tags. -/
namespace Go.Proofs.YtihlaecbdlgbiaaDoor
open Go.ChangeShapes Go.WideShapes Go.ChangeAt Go.RowKit
open Go.Deep Go.Joins
open Rec (sz cs)
set_option linter.unusedVariables false
set_option maxRecDepth 100000
section
variable {H : Type} {enc : TypeId × Value → H} {w : World} {base b0 : Nat} {spare : Nat → Bool} {held : Bool} {r : Reach}

theorem open_OwnS {fuel : Nat} {v : Value} {y : DataW H × List MemPlace} (h : DataW.trod enc Tryd.prog w base spare held fuel 29 [v] = some y) :
    ∃ (A : Option Addr) (c : Nat) (xs : List OwnD), v = .slice A xs.length c ∧ Rd w A xs ∧ xs.length ≤ maxLen := by
  rcases open_slice_fields Tryd.underlying29 Tryd.underlying127 (by kernel_rfl) (by kernel_rfl) h with h0 | ⟨a, len, cap, hcs, hl, hm, hi⟩
  · simp at h0
    subst h0
    exact ⟨none, 0, [], rfl, Rd.nil _ _, Nat.zero_le _⟩
  · simp at hcs
    subst hcs
    obtain ⟨xs, hx, hr⟩ := rd_build (α := OwnD) (w := w) a len (fun i hil => by
      obtain ⟨n, hf⟩ := hi i hil
      obtain ⟨v0, y0, hc0, ht0⟩ := hf 0 _ rfl
      obtain ⟨v1, y1, hc1, ht1⟩ := hf 1 _ rfl
      obtain ⟨n0, rfl⟩ := field_int Tryd.underlying3 ht0
      obtain ⟨n1, rfl⟩ := field_int Tryd.underlying3 ht1
      refine ⟨⟨n0, n1⟩, fun j u hu => ?_⟩
      match j, hu with
      | 0, hu => simp [cs] at hu; subst hu; exact hc0
      | 1, hu => simp [cs] at hu; subst hu; exact hc1
      | j + 2, hu => simp [cs] at hu)
    exact ⟨some a, cap, xs, by rw [hx], hr, by omega⟩

theorem open_Tags {v : Value} {d : DataW H} {p : List MemPlace} (hv : Value.okWide Tryd.prog w r b0 31 v) (h : DataW.Trod enc Tryd.prog w base spare held 31 v d p) :
    ∃ (t : TagsD) (A : Option Addr) (c : Nat), v = .agg #[.int .i64 t.count, .int .i64 t.next, .int .i64 t.round, .slice A t.owns.length c] ∧ Rd w A t.owns ∧ t.owns.length ≤ maxLen := by
  obtain ⟨v0, v1, v2, v3, y0, y1, y2, y3, n, rfl, rfl, rfl, h0, h1, h2, h3⟩ := open_agg4 Tryd.underlying31 (by kernel_rfl) (by kernel_rfl) hv h
  obtain ⟨n0, rfl⟩ := field_int Tryd.underlying3 h0
  obtain ⟨n1, rfl⟩ := field_int Tryd.underlying3 h1
  obtain ⟨n2, rfl⟩ := field_int Tryd.underlying3 h2
  obtain ⟨A, c, xs, rfl, hr, hl⟩ := open_OwnS h3
  exact ⟨⟨n0, n1, n2, xs⟩, A, c, rfl, hr, hl⟩
end
end Go.Proofs.YtihlaecbdlgbiaaDoor

/- Opening an argument that is a law's cache or line. -/
namespace Go.Proofs.YtihlaecbdlgbiaaDoor
open Go.ChangeShapes Go.WideShapes Go.ChangeAt Go.RowKit
open Go.Deep Go.Joins
open Rec (sz cs)
set_option linter.unusedVariables false
set_option maxRecDepth 100000
section
variable {H : Type} {enc : TypeId × Value → H} {w : World} {base b0 : Nat} {spare : Nat → Bool} {held : Bool} {r : Reach}

theorem open_LineS {fuel : Nat} {v : Value} {y : DataW H × List MemPlace} (h : DataW.trod enc Tryd.prog w base spare held fuel 26 [v] = some y) :
    ∃ (A : Option Addr) (c : Nat) (xs : List LineD), v = .slice A xs.length c ∧ Rd w A xs ∧ xs.length ≤ maxLen := by
  rcases open_slice_fields Tryd.underlying26 Tryd.underlying125 (by kernel_rfl) (by kernel_rfl) h with h0 | ⟨a, len, cap, hcs, hl, hm, hi⟩
  · simp at h0
    subst h0
    exact ⟨none, 0, [], rfl, Rd.nil _ _, Nat.zero_le _⟩
  · simp at hcs
    subst hcs
    obtain ⟨xs, hx, hr⟩ := rd_build (α := LineD) (w := w) a len (fun i hil => by
      obtain ⟨n, hf⟩ := hi i hil
      obtain ⟨v0, y0, hc0, ht0⟩ := hf 0 _ rfl
      obtain ⟨v1, y1, hc1, ht1⟩ := hf 1 _ rfl
      obtain ⟨v2, y2, hc2, ht2⟩ := hf 2 _ rfl
      obtain ⟨v3, y3, hc3, ht3⟩ := hf 3 _ rfl
      obtain ⟨v4, y4, hc4, ht4⟩ := hf 4 _ rfl
      obtain ⟨v5, y5, hc5, ht5⟩ := hf 5 _ rfl
      obtain ⟨n0, rfl⟩ := field_bool Tryd.underlying4 ht0
      obtain ⟨n1, rfl⟩ := field_int Tryd.underlying3 ht1
      obtain ⟨n2, rfl⟩ := field_int Tryd.underlying3 ht2
      obtain ⟨n3, rfl⟩ := field_int Tryd.underlying3 ht3
      obtain ⟨n4, rfl⟩ := field_int Tryd.underlying3 ht4
      obtain ⟨n5, rfl⟩ := field_bool Tryd.underlying4 ht5
      refine ⟨⟨n0, n1, n2, n3, n4, n5⟩, fun j u hu => ?_⟩
      match j, hu with
      | 0, hu => simp [cs] at hu; subst hu; exact hc0
      | 1, hu => simp [cs] at hu; subst hu; exact hc1
      | 2, hu => simp [cs] at hu; subst hu; exact hc2
      | 3, hu => simp [cs] at hu; subst hu; exact hc3
      | 4, hu => simp [cs] at hu; subst hu; exact hc4
      | 5, hu => simp [cs] at hu; subst hu; exact hc5
      | j + 6, hu => simp [cs] at hu)
    exact ⟨some a, cap, xs, by rw [hx], hr, by omega⟩

theorem open_Cache {v : Value} {d : DataW H} {p : List MemPlace} (hv : Value.okWide Tryd.prog w r b0 28 v) (h : DataW.Trod enc Tryd.prog w base spare held 28 v d p) :
    ∃ (t : CacheD) (A : Option Addr) (c : Nat), v = .agg #[.slice A t.lines.length c, .int .i64 t.hand] ∧ Rd w A t.lines ∧ t.lines.length ≤ maxLen := by
  obtain ⟨v0, v1, y0, y1, n, rfl, rfl, rfl, h0, h1⟩ := open_agg2 Tryd.underlying28 (by kernel_rfl) (by kernel_rfl) hv h
  obtain ⟨n1, rfl⟩ := field_int Tryd.underlying3 h1
  obtain ⟨A, c, xs, rfl, hr, hl⟩ := open_LineS h0
  exact ⟨⟨xs, n1⟩, A, c, rfl, hr, hl⟩
theorem open_agg6 {P : Program} {t : TypeId} {f0 f1 f2 f3 f4 f5 : Field} {v : Value} {d : DataW H} {p : List MemPlace} (hs : P.underlying t = some (.struct #[f0, f1, f2, f3, f4, f5])) (hone : oneCellFields P #[f0, f1, f2, f3, f4, f5] = true) (hC : P.cellsOf t = 6)
    (hv : Value.okWide P w r b0 t v) (h : DataW.Trod enc P w base spare held t v d p) :
    ∃ (v0 v1 v2 v3 v4 v5 : Value) (y0 y1 y2 y3 y4 y5 : DataW H × List MemPlace) (n : Nat), v = .agg #[v0, v1, v2, v3, v4, v5] ∧ DataW.trod enc P w base spare held n f0.type [v0] = some y0 ∧ DataW.trod enc P w base spare held n f1.type [v1] = some y1 ∧ DataW.trod enc P w base spare held n f2.type [v2] = some y2 ∧ DataW.trod enc P w base spare held n f3.type [v3] = some y3 ∧ DataW.trod enc P w base spare held n f4.type [v4] = some y4 ∧ DataW.trod enc P w base spare held n f5.type [v5] = some y5 := by
  obtain ⟨cs, rfl, hsz⟩ := okWide_struct hs hv
  obtain ⟨c0, c1, c2, c3, c4, c5, rfl⟩ : ∃ c0 c1 c2 c3 c4 c5 : Value, cs = #[c0, c1, c2, c3, c4, c5] := by
    have h6 : cs.toList.length = 6 := by simpa using hsz.trans hC
    obtain ⟨l⟩ := cs
    simp only at h6
    match l, h6 with
    | [c0, c1, c2, c3, c4, c5], _ => exact ⟨c0, c1, c2, c3, c4, c5, rfl⟩
  obtain ⟨fuel, hf⟩ := h
  obtain ⟨xs, n, _, hx, hl, hlen, hk⟩ := DataW.trod_struct hs hf
  obtain ⟨o0, k0⟩ := hone_of hone 0 f0 rfl
  obtain ⟨o1, k1⟩ := hone_of hone 1 f1 rfl
  obtain ⟨o2, k2⟩ := hone_of hone 2 f2 rfl
  obtain ⟨o3, k3⟩ := hone_of hone 3 f3 rfl
  obtain ⟨o4, k4⟩ := hone_of hone 4 f4 rfl
  obtain ⟨o5, k5⟩ := hone_of hone 5 f5 rfl
  match xs, hlen with
  | [y0, y1, y2, y3, y4, y5], _ => exact ⟨c0, c1, c2, c3, c4, c5, y0, y1, y2, y3, y4, y5, n, rfl, by simpa [Value.cells, o0, k0] using hk 0 f0 rfl, by simpa [Value.cells, o1, k1] using hk 1 f1 rfl, by simpa [Value.cells, o2, k2] using hk 2 f2 rfl, by simpa [Value.cells, o3, k3] using hk 3 f3 rfl, by simpa [Value.cells, o4, k4] using hk 4 f4 rfl, by simpa [Value.cells, o5, k5] using hk 5 f5 rfl⟩

theorem open_Line {v : Value} {d : DataW H} {p : List MemPlace} (hv : Value.okWide Tryd.prog w r b0 125 v) (h : DataW.Trod enc Tryd.prog w base spare held 125 v d p) :
    ∃ x : LineD, v = .agg #[.bool x.valid, .int .i64 x.tag, .int .i64 x.page, .int .i64 x.frame, .int .i64 x.rights, .bool x.wired] := by
  obtain ⟨v0, v1, v2, v3, v4, v5, y0, y1, y2, y3, y4, y5, n, rfl, h0, h1, h2, h3, h4, h5⟩ := open_agg6 Tryd.underlying125 (by kernel_rfl) (by kernel_rfl) hv h
  obtain ⟨n0, rfl⟩ := field_bool Tryd.underlying4 h0
  obtain ⟨n1, rfl⟩ := field_int Tryd.underlying3 h1
  obtain ⟨n2, rfl⟩ := field_int Tryd.underlying3 h2
  obtain ⟨n3, rfl⟩ := field_int Tryd.underlying3 h3
  obtain ⟨n4, rfl⟩ := field_int Tryd.underlying3 h4
  obtain ⟨n5, rfl⟩ := field_bool Tryd.underlying4 h5
  exact ⟨⟨n0, n1, n2, n3, n4, n5⟩, rfl⟩
end
end Go.Proofs.YtihlaecbdlgbiaaDoor

/- Opening an argument that is a law's table, machine or memory: structs within structs, cell by cell. -/
namespace Go.Proofs.YtihlaecbdlgbiaaDoor
open Go.ChangeShapes Go.WideShapes Go.ChangeAt Go.RowKit
open Go.Deep Go.Joins
open Rec (sz cs)
set_option linter.unusedVariables false
set_option maxRecDepth 100000
section
variable {H : Type} {enc : TypeId × Value → H} {w : World} {base b0 : Nat} {spare : Nat → Bool} {held : Bool} {r : Reach} {P : Program}

theorem fields_of {t : TypeId} {fs : Array Field} {fuel : Nat} {cs : List Value} {x : DataW H × List MemPlace} (ht : P.underlying t = some (.struct fs)) (h : DataW.trod enc P w base spare held fuel t cs = some x) :
    cs.length = P.cellsOf t ∧ ∃ n, ∀ (j : Nat) (f : Field), fs[j]? = some f → ∃ y, DataW.trod enc P w base spare held n f.type ((cs.drop f.offset).take (P.cellsOf f.type)) = some y := by
  obtain ⟨xs, n, _, _, hl, hlen, hf⟩ := DataW.trod_struct ht h
  refine ⟨hl, n, fun j f hj => ?_⟩
  have hjl : j < xs.length := by
    have := (Array.getElem?_eq_some_iff.1 hj).1
    omega
  exact ⟨_, (hf j f hj).trans (List.getElem?_eq_getElem hjl)⟩

theorem open_slice_elems {t e : TypeId} {fuel : Nat} {cs : List Value} {x : DataW H × List MemPlace} (ht : P.underlying t = some (.slice e)) (h : DataW.trod enc P w base spare held fuel t cs = some x) :
    cs = [.slice none 0 0] ∨ ∃ (a : Addr) (len cap : Nat), cs = [.slice (some a) len cap] ∧ len ≤ cap ∧ cap ≤ maxLen ∧
      ∀ i, i < len → ∃ (n : Nat) (cs' : List Value) (y : DataW H × List MemPlace), (∀ (j : Nat) (u : Value), cs'[j]? = some u → w.cell? (a.add (i * P.cellsOf e + j)) = some u) ∧ DataW.trod enc P w base spare held n e cs' = some y := by
  rcases open_slice ht h with h0 | ⟨a, len, cap, m, n, D, Pl, hcs, hb, hl, hm, hmm, hx, hi⟩
  · exact .inl h0.1
  · refine .inr ⟨a, len, cap, hcs, hl, hm, fun i him => ?_⟩
    have him' : i < m := by rw [hmm]; split <;> omega
    obtain ⟨cs', hc, ht'⟩ := hi i him'
    obtain ⟨_, hcl, hat⟩ := World.cells?_some hc
    refine ⟨n, cs', _, fun j u hu => ?_, ht'⟩
    have hj := (List.getElem?_eq_some_iff.1 hu).1
    have hcell := hat j (by omega)
    rw [← Go.Deep.add_add, hcell, hu]

theorem open_IntC {fuel : Nat} {v : Value} {y : DataW H × List MemPlace} (h : DataW.trod enc Tryd.prog w base spare held fuel 22 [v] = some y) :
    ∃ (A : Option Addr) (c : Nat) (xs : List Int), v = .slice A xs.length c ∧ Rd w A xs ∧ xs.length ≤ maxLen := by
  rcases open_slice_elems Tryd.underlying22 h with h0 | ⟨a, len, cap, hcs, hl, hm, hi⟩
  · simp at h0
    subst h0
    exact ⟨none, 0, [], rfl, Rd.nil _ _, Nat.zero_le _⟩
  · simp at hcs
    subst hcs
    have hC : Tryd.prog.cellsOf 3 = 1 := by kernel_rfl
    obtain ⟨xs, hx, hr⟩ := rd_build (α := Int) (w := w) a len (fun i hil => by
      obtain ⟨n, cs', y, hc, ht⟩ := hi i hil
      obtain ⟨z, e0, _, _⟩ := DataW.trod_int Tryd.underlying3 ht
      subst e0
      rw [hC] at hc
      exact ⟨z, hc⟩)
    exact ⟨some a, cap, xs, by rw [hx], hr, by omega⟩

theorem open_BoolC {fuel : Nat} {v : Value} {y : DataW H × List MemPlace} (h : DataW.trod enc Tryd.prog w base spare held fuel 50 [v] = some y) :
    ∃ (A : Option Addr) (c : Nat) (xs : List Bool), v = .slice A xs.length c ∧ Rd w A xs ∧ xs.length ≤ maxLen := by
  rcases open_slice_elems Tryd.underlying50 h with h0 | ⟨a, len, cap, hcs, hl, hm, hi⟩
  · simp at h0
    subst h0
    exact ⟨none, 0, [], rfl, Rd.nil _ _, Nat.zero_le _⟩
  · simp at hcs
    subst hcs
    have hC : Tryd.prog.cellsOf 4 = 1 := by kernel_rfl
    obtain ⟨xs, hx, hr⟩ := rd_build (α := Bool) (w := w) a len (fun i hil => by
      obtain ⟨n, cs', y, hc, ht⟩ := hi i hil
      obtain ⟨z, e0, _⟩ := DataW.trod_bool Tryd.underlying4 ht
      subst e0
      rw [hC] at hc
      exact ⟨z, hc⟩)
    exact ⟨some a, cap, xs, by rw [hx], hr, by omega⟩

theorem open_KeyC {fuel : Nat} {v0 v1 : Value} {y : DataW H × List MemPlace} (h : DataW.trod enc Tryd.prog w base spare held fuel 121 [v0, v1] = some y) :
    ∃ x : KeyD, v0 = .int .i64 x.space ∧ v1 = .int .i64 x.page := by
  obtain ⟨_, n, hf⟩ := fields_of Tryd.underlying121 h
  have k1 : Tryd.prog.cellsOf 3 = 1 := by kernel_rfl
  obtain ⟨y0, h0⟩ := hf 0 _ rfl
  obtain ⟨y1, h1⟩ := hf 1 _ rfl
  simp [k1] at h0 h1
  obtain ⟨n0, rfl⟩ := field_int Tryd.underlying3 h0
  obtain ⟨n1, rfl⟩ := field_int Tryd.underlying3 h1
  exact ⟨⟨n0, n1⟩, rfl, rfl⟩

theorem open_FrameC {fuel : Nat} {l : List Value} {y : DataW H × List MemPlace} (h : DataW.trod enc Tryd.prog w base spare held fuel 123 l = some y) :
    ∃ x : FrameD, l = cs x := by
  obtain ⟨hl, n, hf⟩ := fields_of Tryd.underlying123 h
  have k1 : Tryd.prog.cellsOf 3 = 1 := by kernel_rfl
  have k2 : Tryd.prog.cellsOf 4 = 1 := by kernel_rfl
  have k3 : Tryd.prog.cellsOf 121 = 2 := by kernel_rfl
  have k4 : Tryd.prog.cellsOf 123 = 5 := by kernel_rfl
  rw [k4] at hl
  match l, hl with
  | [v0, v1, v2, v3, v4], _ =>
    obtain ⟨y0, h0⟩ := hf 0 _ rfl
    obtain ⟨y1, h1⟩ := hf 1 _ rfl
    obtain ⟨y2, h2⟩ := hf 2 _ rfl
    obtain ⟨y3, h3⟩ := hf 3 _ rfl
    simp [k1, k2, k3] at h0 h1 h2 h3
    obtain ⟨n0, rfl⟩ := field_bool Tryd.underlying4 h0
    obtain ⟨x, rfl, rfl⟩ := open_KeyC h1
    obtain ⟨n2, rfl⟩ := field_int Tryd.underlying3 h2
    obtain ⟨n3, rfl⟩ := field_int Tryd.underlying3 h3
    exact ⟨⟨n0, x, n2, n3⟩, rfl⟩

theorem open_FrameS {fuel : Nat} {v : Value} {y : DataW H × List MemPlace} (h : DataW.trod enc Tryd.prog w base spare held fuel 23 [v] = some y) :
    ∃ (A : Option Addr) (c : Nat) (xs : List FrameD), v = .slice A xs.length c ∧ Rd w A xs ∧ xs.length ≤ maxLen := by
  rcases open_slice_elems Tryd.underlying23 h with h0 | ⟨a, len, cap, hcs, hl, hm, hi⟩
  · simp at h0
    subst h0
    exact ⟨none, 0, [], rfl, Rd.nil _ _, Nat.zero_le _⟩
  · simp at hcs
    subst hcs
    have hC : Tryd.prog.cellsOf 123 = 5 := by kernel_rfl
    obtain ⟨xs, hx, hr⟩ := rd_build (α := FrameD) (w := w) a len (fun i hil => by
      obtain ⟨n, cs', y, hc, ht⟩ := hi i hil
      obtain ⟨x, rfl⟩ := open_FrameC ht
      rw [hC] at hc
      exact ⟨x, hc⟩)
    exact ⟨some a, cap, xs, by rw [hx], hr, by omega⟩

theorem open_TableC {fuel : Nat} {v0 v1 : Value} {y : DataW H × List MemPlace} (h : DataW.trod enc Tryd.prog w base spare held fuel 25 [v0, v1] = some y) :
    ∃ (t : TableD) (A : Option Addr) (c : Nat) (B : Option Addr) (d : Nat), v0 = .slice A t.buckets.length c ∧ v1 = .slice B t.frames.length d ∧ Rd w A t.buckets ∧ Rd w B t.frames ∧ t.buckets.length ≤ maxLen ∧ t.frames.length ≤ maxLen := by
  obtain ⟨_, n, hf⟩ := fields_of Tryd.underlying25 h
  have k1 : Tryd.prog.cellsOf 22 = 1 := by kernel_rfl
  have k2 : Tryd.prog.cellsOf 23 = 1 := by kernel_rfl
  obtain ⟨y0, h0⟩ := hf 0 _ rfl
  obtain ⟨y1, h1⟩ := hf 1 _ rfl
  simp [k1, k2] at h0 h1
  obtain ⟨A, c, bs, rfl, hr, hl⟩ := open_IntC h0
  obtain ⟨B, d, fs, rfl, hr2, hl2⟩ := open_FrameS h1
  exact ⟨⟨bs, fs⟩, A, c, B, d, rfl, rfl, hr, hr2, hl, hl2⟩

theorem open_CacheC {fuel : Nat} {v0 v1 : Value} {y : DataW H × List MemPlace} (h : DataW.trod enc Tryd.prog w base spare held fuel 28 [v0, v1] = some y) :
    ∃ (t : CacheD) (A : Option Addr) (c : Nat), v0 = .slice A t.lines.length c ∧ v1 = .int .i64 t.hand ∧ Rd w A t.lines ∧ t.lines.length ≤ maxLen := by
  obtain ⟨_, n, hf⟩ := fields_of Tryd.underlying28 h
  have k1 : Tryd.prog.cellsOf 26 = 1 := by kernel_rfl
  have k2 : Tryd.prog.cellsOf 3 = 1 := by kernel_rfl
  obtain ⟨y0, h0⟩ := hf 0 _ rfl
  obtain ⟨y1, h1⟩ := hf 1 _ rfl
  simp [k1, k2] at h0 h1
  obtain ⟨A, c, xs, rfl, hr, hl⟩ := open_LineS h0
  obtain ⟨n1, rfl⟩ := field_int Tryd.underlying3 h1
  exact ⟨⟨xs, n1⟩, A, c, rfl, rfl, hr, hl⟩

theorem open_TagsC {fuel : Nat} {v0 v1 v2 v3 : Value} {y : DataW H × List MemPlace} (h : DataW.trod enc Tryd.prog w base spare held fuel 31 [v0, v1, v2, v3] = some y) :
    ∃ (t : TagsD) (A : Option Addr) (c : Nat), v0 = .int .i64 t.count ∧ v1 = .int .i64 t.next ∧ v2 = .int .i64 t.round ∧ v3 = .slice A t.owns.length c ∧ Rd w A t.owns ∧ t.owns.length ≤ maxLen := by
  obtain ⟨_, n, hf⟩ := fields_of Tryd.underlying31 h
  have k1 : Tryd.prog.cellsOf 29 = 1 := by kernel_rfl
  have k2 : Tryd.prog.cellsOf 3 = 1 := by kernel_rfl
  obtain ⟨y0, h0⟩ := hf 0 _ rfl
  obtain ⟨y1, h1⟩ := hf 1 _ rfl
  obtain ⟨y2, h2⟩ := hf 2 _ rfl
  obtain ⟨y3, h3⟩ := hf 3 _ rfl
  simp [k1, k2] at h0 h1 h2 h3
  obtain ⟨n0, rfl⟩ := field_int Tryd.underlying3 h0
  obtain ⟨n1, rfl⟩ := field_int Tryd.underlying3 h1
  obtain ⟨n2, rfl⟩ := field_int Tryd.underlying3 h2
  obtain ⟨A, c, xs, rfl, hr, hl⟩ := open_OwnS h3
  exact ⟨⟨n0, n1, n2, xs⟩, A, c, rfl, rfl, rfl, rfl, hr, hl⟩

theorem open_MachC {fuel : Nat} {l : List Value} {y : DataW H × List MemPlace} (h : DataW.trod enc Tryd.prog w base spare held fuel 33 l = some y) :
    ∃ (m : MachD) (a : MA), l = [.slice a.b m.table.buckets.length a.bc, .slice a.f m.table.frames.length a.fc, .slice a.l m.cache.lines.length a.lc, .int .i64 m.cache.hand, .int .i64 m.tags.count, .int .i64 m.tags.next, .int .i64 m.tags.round, .slice a.o m.tags.owns.length a.oc, .int .i64 m.space] ∧ HasM w m a ∧ LenM m := by
  obtain ⟨hl, n, hf⟩ := fields_of Tryd.underlying33 h
  have k1 : Tryd.prog.cellsOf 25 = 2 := by kernel_rfl
  have k2 : Tryd.prog.cellsOf 28 = 2 := by kernel_rfl
  have k3 : Tryd.prog.cellsOf 31 = 4 := by kernel_rfl
  have k4 : Tryd.prog.cellsOf 3 = 1 := by kernel_rfl
  have k5 : Tryd.prog.cellsOf 33 = 9 := by kernel_rfl
  rw [k5] at hl
  match l, hl with
  | [v0, v1, v2, v3, v4, v5, v6, v7, v8], _ =>
    obtain ⟨y0, h0⟩ := hf 0 _ rfl
    obtain ⟨y1, h1⟩ := hf 1 _ rfl
    obtain ⟨y2, h2⟩ := hf 2 _ rfl
    obtain ⟨y3, h3⟩ := hf 3 _ rfl
    simp [k1, k2, k3, k4] at h0 h1 h2 h3
    obtain ⟨t, A, c, B, d, rfl, rfl, r1, r2, l1, l2⟩ := open_TableC h0
    obtain ⟨u, A3, c3, rfl, rfl, r3, l3⟩ := open_CacheC h1
    obtain ⟨g, A4, c4, rfl, rfl, rfl, rfl, r4, l4⟩ := open_TagsC h2
    obtain ⟨n3, rfl⟩ := field_int Tryd.underlying3 h3
    exact ⟨⟨t, u, g, n3⟩, ⟨A, c, B, d, A3, c3, A4, c4⟩, rfl, ⟨r1, r2, r3, r4⟩, ⟨l1, l2, l3, l4⟩⟩

theorem open_Machine {v : Value} {d : DataW H} {p : List MemPlace} (hv : Value.okWide Tryd.prog w r b0 33 v) (h : DataW.Trod enc Tryd.prog w base spare held 33 v d p) :
    ∃ (m : MachD) (a : MA), v = .agg #[.slice a.b m.table.buckets.length a.bc, .slice a.f m.table.frames.length a.fc, .slice a.l m.cache.lines.length a.lc, .int .i64 m.cache.hand, .int .i64 m.tags.count, .int .i64 m.tags.next, .int .i64 m.tags.round, .slice a.o m.tags.owns.length a.oc, .int .i64 m.space] ∧ HasM w m a ∧ LenM m := by
  obtain ⟨cs, rfl, hsz⟩ := okWide_struct Tryd.underlying33 hv
  obtain ⟨fuel, hf⟩ := h
  obtain ⟨m, a, e, h1, h2⟩ := open_MachC hf
  refine ⟨m, a, ?_, h1, h2⟩
  obtain ⟨l⟩ := cs
  simp [Value.cells] at e
  rw [e]
theorem open_Memory {v : Value} {d : DataW H} {p : List MemPlace} (hv : Value.okWide Tryd.prog w r b0 52 v) (h : DataW.Trod enc Tryd.prog w base spare held 52 v d p) :
    ∃ (m : MemD) (a : MA) (K : Option Addr) (k : Nat), v = .agg #[.slice a.b m.mach.table.buckets.length a.bc, .slice a.f m.mach.table.frames.length a.fc, .slice a.l m.mach.cache.lines.length a.lc, .int .i64 m.mach.cache.hand, .int .i64 m.mach.tags.count, .int .i64 m.mach.tags.next, .int .i64 m.mach.tags.round, .slice a.o m.mach.tags.owns.length a.oc, .int .i64 m.mach.space, .slice K m.marks.length k, .int .i64 m.hand] ∧ (HasM w m.mach a ∧ Rd w K m.marks) ∧ (LenM m.mach ∧ m.marks.length ≤ maxLen) := by
  obtain ⟨cs, rfl, hsz⟩ := okWide_struct Tryd.underlying52 hv
  obtain ⟨fuel, hf⟩ := h
  obtain ⟨hl, n, hf⟩ := fields_of Tryd.underlying52 hf
  have k1 : Tryd.prog.cellsOf 33 = 9 := by kernel_rfl
  have k2 : Tryd.prog.cellsOf 50 = 1 := by kernel_rfl
  have k4 : Tryd.prog.cellsOf 3 = 1 := by kernel_rfl
  have k5 : Tryd.prog.cellsOf 52 = 11 := by kernel_rfl
  rw [k5] at hl
  obtain ⟨l⟩ := cs
  simp only [Value.cells] at hl hf
  match l, hl with
  | [v0, v1, v2, v3, v4, v5, v6, v7, v8, v9, v10], _ =>
    obtain ⟨y0, h0⟩ := hf 0 _ rfl
    obtain ⟨y1, h1⟩ := hf 1 _ rfl
    obtain ⟨y2, h2⟩ := hf 2 _ rfl
    simp [k1, k2, k4] at h0 h1 h2
    obtain ⟨m, a, e, r1, l1⟩ := open_MachC h0
    obtain ⟨K, k, ks, rfl, r2, l2⟩ := open_BoolC h1
    obtain ⟨n2, rfl⟩ := field_int Tryd.underlying3 h2
    simp only [List.cons.injEq, and_true] at e
    obtain ⟨rfl, rfl, rfl, rfl, rfl, rfl, rfl, rfl, rfl⟩ := e
    exact ⟨⟨m, ks, n2⟩, a, K, k, rfl, ⟨r1, r2⟩, ⟨l1, l2⟩⟩
end
end Go.Proofs.YtihlaecbdlgbiaaDoor

/- What the door's rows give the walks: the listed variable reads as the program's text lays it. -/
namespace Go.Proofs.YtihlaecbdlgbiaaDoor
open Go.ChangeShapes Go.WideShapes Go.ChangeAt Go.WideMaps Go.WideElems Go.RowKit
open Rec (sz cs)
set_option linter.unusedVariables false
set_option maxRecDepth 100000

def laidL {H : Type} : List (String × DataW H) := [("loop.example/invertedpages/impl.free", Rows.laid_loop_example_invertedpages_impl_free)]
theorem gFree : Tryd.prog.globalNamed "loop.example/invertedpages/impl.free" = some 0 := by kernel_rfl
theorem tFree : (Tryd.prog.globals[0]?).map (·.type) = some 72 := by kernel_rfl

/-- The door's own heap meets the condition. -/
theorem door_met (os : Os) (args : Array Value) : laidMetH Tryd.prog laidL ((World.doorLaid Tryd.prog 14 os).forCall (fun _ _ => 0) ⟨#[], args, []⟩).memory :=
  laidMetH_of_parts3 (fuel := 8) (laidMet_of_run' 8 (by kernel_rfl) (by kernel_rfl)) (by kernel_rfl) (by kernel_rfl)

theorem fields_door {H : Type} {enc : TypeId × Value → H} {P : Program} {w : World} {base : Nat} {spare : Nat → Bool} {held : Bool} {t : TypeId} {fs : Array Field} {fuel : Nat} {cs : List Value} {x : DataW H × List MemPlace} (ht : P.underlying t = some (.struct fs)) (h : DataW.trod enc P w base spare held fuel t cs = some x) :
    ∃ xs : List (DataW H × List MemPlace), x.1 = .agg (xs.map (·.1)) ∧ cs.length = P.cellsOf t ∧ xs.length = fs.size ∧ ∃ n, ∀ (j : Nat) (f : Field), fs[j]? = some f → DataW.trod enc P w base spare held n f.type ((cs.drop f.offset).take (P.cellsOf f.type)) = xs[j]? := by
  obtain ⟨xs, n, _, e, hl, hlen, hf⟩ := DataW.trod_struct ht h
  exact ⟨xs, by rw [e], hl, hlen, n, hf⟩

theorem free_of_laid {W : World} (h : laidMetH Tryd.prog laidL W) : FreeV W := by
  rw [MakeChecks.laidMetH_plain _ _ _ (by kernel_rfl)] at h
  obtain ⟨ps, ⟨g0, t0, cs0, f0, p0, q0, hg0, ht0, hv0, hd0, _, _⟩, _, _⟩ := h
  obtain rfl := Option.some.inj (gFree.symm.trans hg0)
  obtain rfl := Option.some.inj (tFree.symm.trans ht0)
  obtain ⟨xs, hx, hl, hlen, n, hf⟩ := fields_door Tryd.underlying72 hd0
  have k1 : Tryd.prog.cellsOf 3 = 1 := by kernel_rfl
  have k2 : Tryd.prog.cellsOf 4 = 1 := by kernel_rfl
  have k3 : Tryd.prog.cellsOf 70 = 2 := by kernel_rfl
  have k4 : Tryd.prog.cellsOf 72 = 5 := by kernel_rfl
  rw [k4] at hl
  have hcell : ∀ j, W.cell? ⟨0, j, none⟩ = cs0[j]? := fun j => World.var?_cell hg0 hv0 j
  have hcl : ∀ j, cs0[j]? = cs0.toList[j]? := fun j => Array.getElem?_toList.symm
  match hcs : cs0.toList, hl, xs, hlen, hx, hf with
  | [v0, v1, v2, v3, v4], _, [x0, x1, x2, x3], _, hx, hf =>
    have h0 := hf 0 _ rfl
    have h1 := hf 1 _ rfl
    have h2 := hf 2 _ rfl
    have h3 := hf 3 _ rfl
    simp [k1, k2, k3] at h0 h1 h2 h3
    simp only [Rows.laid_loop_example_invertedpages_impl_free, List.map_cons, List.map_nil, DataW.agg.injEq, List.cons.injEq, and_true] at hx
    obtain ⟨e0, e1, e2, e3⟩ := hx
    obtain ⟨b0, c0, d0⟩ := DataW.trod_bool Tryd.underlying4 h0
    obtain ⟨n2, c2, d2, _⟩ := DataW.trod_int Tryd.underlying3 h2
    obtain ⟨n3, c3, d3, _⟩ := DataW.trod_int Tryd.underlying3 h3
    obtain ⟨ys, hy, hyl, hylen, m, hg⟩ := fields_door Tryd.underlying70 h1
    match ys, hylen, hy, hg with
    | [y0, y1], _, hy, hg =>
      have g0 := hg 0 _ rfl
      have g1 := hg 1 _ rfl
      simp [k1] at g0 g1
      obtain ⟨m0, c4, d4, _⟩ := DataW.trod_int Tryd.underlying3 g0
      obtain ⟨m1, c5, d5, _⟩ := DataW.trod_int Tryd.underlying3 g1
      rw [hy] at e1
      simp only [List.map_cons, List.map_nil, DataW.agg.injEq, List.cons.injEq, and_true] at e1
      rw [d0] at e0
      rw [d2] at e2
      rw [d3] at e3
      rw [d4, d5] at e1
      simp at e0 e1 e2 e3 c0 c2 c3 c4 c5
      have z0 : W.cell? ⟨0, 0, none⟩ = some (.bool false) := by rw [hcell, hcl, hcs]; simp_all
      refine ⟨block_lt_of_cell z0, z0, ?_, ?_, ?_, ?_⟩
      · rw [hcell, hcl, hcs]; first | (simp_all; done) | (simp_all; omega)
      · rw [hcell, hcl, hcs]; first | (simp_all; done) | (simp_all; omega)
      · rw [hcell, hcl, hcs]; first | (simp_all; done) | (simp_all; omega)
      · rw [hcell, hcl, hcs]; first | (simp_all; done) | (simp_all; omega)
end Go.Proofs.YtihlaecbdlgbiaaDoor
