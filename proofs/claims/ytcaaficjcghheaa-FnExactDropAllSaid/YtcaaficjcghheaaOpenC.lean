/- Opening an argument that is a law's cache or line. -/
import Derived.Test.YtcaaficjcghheaaOpen
namespace Go.Proofs.Ytcaaficjcghheaa
open Go.ChangeShapes Go.WideShapes Go.ChangeAt Go.RowKit
open Go.Deep Go.Joins
open Rec (sz cs)
set_option linter.unusedVariables false
section
variable {H : Type} {enc : TypeId × Value → H} {w : World} {base b0 : Nat} {spare : Nat → Bool} {held : Bool} {r : Reach}

theorem open_LineS {fuel : Nat} {v : Value} {y : DataW H × List MemPlace} (h : DataW.trod enc Try.prog w base spare held fuel 22 [v] = some y) :
    ∃ (A : Option Addr) (c : Nat) (xs : List LineD), v = .slice A xs.length c ∧ Rd w A xs ∧ xs.length ≤ maxLen := by
  rcases open_slice_fields Try.underlying22 Try.underlying79 (by kernel_rfl) (by kernel_rfl) h with h0 | ⟨a, len, cap, hcs, hl, hm, hi⟩
  · simp at h0
    subst h0
    exact ⟨none, 0, [], rfl, Rd.nil _ _, Nat.zero_le _⟩
  · simp at hcs
    subst hcs
    obtain ⟨xs, hx, hr⟩ := rd_build (α := LineD) (w := w) a len (fun i hil => by
      obtain ⟨n, hf⟩ := hi i hil
      obtain ⟨v0, y0, hc0, ht0⟩ := hf 0 _ rfl
      obtain ⟨v1, y1, hc1, ht1⟩ := hf 1 _ rfl
      obtain ⟨v2, y2, hc2, ht2⟩ := hf 2 _ rfl
      obtain ⟨v3, y3, hc3, ht3⟩ := hf 3 _ rfl
      obtain ⟨v4, y4, hc4, ht4⟩ := hf 4 _ rfl
      obtain ⟨v5, y5, hc5, ht5⟩ := hf 5 _ rfl
      obtain ⟨n0, rfl⟩ := field_bool Try.underlying4 ht0
      obtain ⟨n1, rfl⟩ := field_int Try.underlying3 ht1
      obtain ⟨n2, rfl⟩ := field_int Try.underlying3 ht2
      obtain ⟨n3, rfl⟩ := field_int Try.underlying3 ht3
      obtain ⟨n4, rfl⟩ := field_int Try.underlying3 ht4
      obtain ⟨n5, rfl⟩ := field_bool Try.underlying4 ht5
      refine ⟨⟨n0, n1, n2, n3, n4, n5⟩, fun j u hu => ?_⟩
      match j, hu with
      | 0, hu => simp [cs] at hu; subst hu; exact hc0
      | 1, hu => simp [cs] at hu; subst hu; exact hc1
      | 2, hu => simp [cs] at hu; subst hu; exact hc2
      | 3, hu => simp [cs] at hu; subst hu; exact hc3
      | 4, hu => simp [cs] at hu; subst hu; exact hc4
      | 5, hu => simp [cs] at hu; subst hu; exact hc5
      | j + 6, hu => simp [cs] at hu)
    exact ⟨some a, cap, xs, by rw [hx], hr, by omega⟩

theorem open_Cache {v : Value} {d : DataW H} {p : List MemPlace} (hv : Value.okWide Try.prog w r b0 24 v) (h : DataW.Trod enc Try.prog w base spare held 24 v d p) :
    ∃ (t : CacheD) (A : Option Addr) (c : Nat), v = .agg #[.slice A t.lines.length c, .int .i64 t.hand] ∧ Rd w A t.lines ∧ t.lines.length ≤ maxLen := by
  obtain ⟨v0, v1, y0, y1, n, rfl, rfl, rfl, h0, h1⟩ := open_agg2 Try.underlying24 (by kernel_rfl) (by kernel_rfl) hv h
  obtain ⟨n1, rfl⟩ := field_int Try.underlying3 h1
  obtain ⟨A, c, xs, rfl, hr, hl⟩ := open_LineS h0
  exact ⟨⟨xs, n1⟩, A, c, rfl, hr, hl⟩
end
end Go.Proofs.Ytcaaficjcghheaa
