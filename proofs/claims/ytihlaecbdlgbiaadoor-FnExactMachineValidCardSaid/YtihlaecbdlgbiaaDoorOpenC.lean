/- Opening an argument that is a law's cache or line. -/
import Derived.Test.YtihlaecbdlgbiaaDoorOpen
namespace Go.Proofs.YtihlaecbdlgbiaaDoor
open Go.ChangeShapes Go.WideShapes Go.ChangeAt Go.RowKit
open Go.Deep Go.Joins
open Rec (sz cs)
set_option linter.unusedVariables false
set_option maxRecDepth 100000
section
variable {H : Type} {enc : TypeId × Value → H} {w : World} {base b0 : Nat} {spare : Nat → Bool} {held : Bool} {r : Reach}

theorem open_LineS {fuel : Nat} {v : Value} {y : DataW H × List MemPlace} (h : DataW.trod enc Tryd.prog w base spare held fuel 26 [v] = some y) :
    ∃ (A : Option Addr) (c : Nat) (xs : List LineD), v = .slice A xs.length c ∧ Rd w A xs ∧ xs.length ≤ maxLen := by
  rcases open_slice_fields Tryd.underlying26 Tryd.underlying125 (by kernel_rfl) (by kernel_rfl) h with h0 | ⟨a, len, cap, hcs, hl, hm, hi⟩
  · simp at h0
    subst h0
    exact ⟨none, 0, [], rfl, Rd.nil _ _, Nat.zero_le _⟩
  · simp at hcs
    subst hcs
    obtain ⟨xs, hx, hr⟩ := rd_build (α := LineD) (w := w) a len (fun i hil => by
      obtain ⟨n, hf⟩ := hi i hil
      obtain ⟨v0, y0, hc0, ht0⟩ := hf 0 _ rfl
      obtain ⟨v1, y1, hc1, ht1⟩ := hf 1 _ rfl
      obtain ⟨v2, y2, hc2, ht2⟩ := hf 2 _ rfl
      obtain ⟨v3, y3, hc3, ht3⟩ := hf 3 _ rfl
      obtain ⟨v4, y4, hc4, ht4⟩ := hf 4 _ rfl
      obtain ⟨v5, y5, hc5, ht5⟩ := hf 5 _ rfl
      obtain ⟨n0, rfl⟩ := field_bool Tryd.underlying4 ht0
      obtain ⟨n1, rfl⟩ := field_int Tryd.underlying3 ht1
      obtain ⟨n2, rfl⟩ := field_int Tryd.underlying3 ht2
      obtain ⟨n3, rfl⟩ := field_int Tryd.underlying3 ht3
      obtain ⟨n4, rfl⟩ := field_int Tryd.underlying3 ht4
      obtain ⟨n5, rfl⟩ := field_bool Tryd.underlying4 ht5
      refine ⟨⟨n0, n1, n2, n3, n4, n5⟩, fun j u hu => ?_⟩
      match j, hu with
      | 0, hu => simp [cs] at hu; subst hu; exact hc0
      | 1, hu => simp [cs] at hu; subst hu; exact hc1
      | 2, hu => simp [cs] at hu; subst hu; exact hc2
      | 3, hu => simp [cs] at hu; subst hu; exact hc3
      | 4, hu => simp [cs] at hu; subst hu; exact hc4
      | 5, hu => simp [cs] at hu; subst hu; exact hc5
      | j + 6, hu => simp [cs] at hu)
    exact ⟨some a, cap, xs, by rw [hx], hr, by omega⟩

theorem open_Cache {v : Value} {d : DataW H} {p : List MemPlace} (hv : Value.okWide Tryd.prog w r b0 28 v) (h : DataW.Trod enc Tryd.prog w base spare held 28 v d p) :
    ∃ (t : CacheD) (A : Option Addr) (c : Nat), v = .agg #[.slice A t.lines.length c, .int .i64 t.hand] ∧ Rd w A t.lines ∧ t.lines.length ≤ maxLen := by
  obtain ⟨v0, v1, y0, y1, n, rfl, rfl, rfl, h0, h1⟩ := open_agg2 Tryd.underlying28 (by kernel_rfl) (by kernel_rfl) hv h
  obtain ⟨n1, rfl⟩ := field_int Tryd.underlying3 h1
  obtain ⟨A, c, xs, rfl, hr, hl⟩ := open_LineS h0
  exact ⟨⟨xs, n1⟩, A, c, rfl, hr, hl⟩
theorem open_agg6 {P : Program} {t : TypeId} {f0 f1 f2 f3 f4 f5 : Field} {v : Value} {d : DataW H} {p : List MemPlace} (hs : P.underlying t = some (.struct #[f0, f1, f2, f3, f4, f5])) (hone : oneCellFields P #[f0, f1, f2, f3, f4, f5] = true) (hC : P.cellsOf t = 6)
    (hv : Value.okWide P w r b0 t v) (h : DataW.Trod enc P w base spare held t v d p) :
    ∃ (v0 v1 v2 v3 v4 v5 : Value) (y0 y1 y2 y3 y4 y5 : DataW H × List MemPlace) (n : Nat), v = .agg #[v0, v1, v2, v3, v4, v5] ∧ DataW.trod enc P w base spare held n f0.type [v0] = some y0 ∧ DataW.trod enc P w base spare held n f1.type [v1] = some y1 ∧ DataW.trod enc P w base spare held n f2.type [v2] = some y2 ∧ DataW.trod enc P w base spare held n f3.type [v3] = some y3 ∧ DataW.trod enc P w base spare held n f4.type [v4] = some y4 ∧ DataW.trod enc P w base spare held n f5.type [v5] = some y5 := by
  obtain ⟨cs, rfl, hsz⟩ := okWide_struct hs hv
  obtain ⟨c0, c1, c2, c3, c4, c5, rfl⟩ : ∃ c0 c1 c2 c3 c4 c5 : Value, cs = #[c0, c1, c2, c3, c4, c5] := by
    have h6 : cs.toList.length = 6 := by simpa using hsz.trans hC
    obtain ⟨l⟩ := cs
    simp only at h6
    match l, h6 with
    | [c0, c1, c2, c3, c4, c5], _ => exact ⟨c0, c1, c2, c3, c4, c5, rfl⟩
  obtain ⟨fuel, hf⟩ := h
  obtain ⟨xs, n, _, hx, hl, hlen, hk⟩ := DataW.trod_struct hs hf
  obtain ⟨o0, k0⟩ := hone_of hone 0 f0 rfl
  obtain ⟨o1, k1⟩ := hone_of hone 1 f1 rfl
  obtain ⟨o2, k2⟩ := hone_of hone 2 f2 rfl
  obtain ⟨o3, k3⟩ := hone_of hone 3 f3 rfl
  obtain ⟨o4, k4⟩ := hone_of hone 4 f4 rfl
  obtain ⟨o5, k5⟩ := hone_of hone 5 f5 rfl
  match xs, hlen with
  | [y0, y1, y2, y3, y4, y5], _ => exact ⟨c0, c1, c2, c3, c4, c5, y0, y1, y2, y3, y4, y5, n, rfl, by simpa [Value.cells, o0, k0] using hk 0 f0 rfl, by simpa [Value.cells, o1, k1] using hk 1 f1 rfl, by simpa [Value.cells, o2, k2] using hk 2 f2 rfl, by simpa [Value.cells, o3, k3] using hk 3 f3 rfl, by simpa [Value.cells, o4, k4] using hk 4 f4 rfl, by simpa [Value.cells, o5, k5] using hk 5 f5 rfl⟩

theorem open_Line {v : Value} {d : DataW H} {p : List MemPlace} (hv : Value.okWide Tryd.prog w r b0 125 v) (h : DataW.Trod enc Tryd.prog w base spare held 125 v d p) :
    ∃ x : LineD, v = .agg #[.bool x.valid, .int .i64 x.tag, .int .i64 x.page, .int .i64 x.frame, .int .i64 x.rights, .bool x.wired] := by
  obtain ⟨v0, v1, v2, v3, v4, v5, y0, y1, y2, y3, y4, y5, n, rfl, h0, h1, h2, h3, h4, h5⟩ := open_agg6 Tryd.underlying125 (by kernel_rfl) (by kernel_rfl) hv h
  obtain ⟨n0, rfl⟩ := field_bool Tryd.underlying4 h0
  obtain ⟨n1, rfl⟩ := field_int Tryd.underlying3 h1
  obtain ⟨n2, rfl⟩ := field_int Tryd.underlying3 h2
  obtain ⟨n3, rfl⟩ := field_int Tryd.underlying3 h3
  obtain ⟨n4, rfl⟩ := field_int Tryd.underlying3 h4
  obtain ⟨n5, rfl⟩ := field_bool Tryd.underlying4 h5
  exact ⟨⟨n0, n1, n2, n3, n4, n5⟩, rfl⟩
end
end Go.Proofs.YtihlaecbdlgbiaaDoor
