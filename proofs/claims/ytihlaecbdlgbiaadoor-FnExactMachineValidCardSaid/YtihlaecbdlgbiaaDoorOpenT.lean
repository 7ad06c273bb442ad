/- Opening an argument that is a law's tags. -/
import Derived.Test.YtihlaecbdlgbiaaDoorOpen
namespace Go.Proofs.YtihlaecbdlgbiaaDoor
open Go.ChangeShapes Go.WideShapes Go.ChangeAt Go.RowKit
open Go.Deep Go.Joins
open Rec (sz cs)
set_option linter.unusedVariables false
set_option maxRecDepth 100000
section
variable {H : Type} {enc : TypeId × Value → H} {w : World} {base b0 : Nat} {spare : Nat → Bool} {held : Bool} {r : Reach}

theorem open_OwnS {fuel : Nat} {v : Value} {y : DataW H × List MemPlace} (h : DataW.trod enc Tryd.prog w base spare held fuel 29 [v] = some y) :
    ∃ (A : Option Addr) (c : Nat) (xs : List OwnD), v = .slice A xs.length c ∧ Rd w A xs ∧ xs.length ≤ maxLen := by
  rcases open_slice_fields Tryd.underlying29 Tryd.underlying127 (by kernel_rfl) (by kernel_rfl) h with h0 | ⟨a, len, cap, hcs, hl, hm, hi⟩
  · simp at h0
    subst h0
    exact ⟨none, 0, [], rfl, Rd.nil _ _, Nat.zero_le _⟩
  · simp at hcs
    subst hcs
    obtain ⟨xs, hx, hr⟩ := rd_build (α := OwnD) (w := w) a len (fun i hil => by
      obtain ⟨n, hf⟩ := hi i hil
      obtain ⟨v0, y0, hc0, ht0⟩ := hf 0 _ rfl
      obtain ⟨v1, y1, hc1, ht1⟩ := hf 1 _ rfl
      obtain ⟨n0, rfl⟩ := field_int Tryd.underlying3 ht0
      obtain ⟨n1, rfl⟩ := field_int Tryd.underlying3 ht1
      refine ⟨⟨n0, n1⟩, fun j u hu => ?_⟩
      match j, hu with
      | 0, hu => simp [cs] at hu; subst hu; exact hc0
      | 1, hu => simp [cs] at hu; subst hu; exact hc1
      | j + 2, hu => simp [cs] at hu)
    exact ⟨some a, cap, xs, by rw [hx], hr, by omega⟩

theorem open_Tags {v : Value} {d : DataW H} {p : List MemPlace} (hv : Value.okWide Tryd.prog w r b0 31 v) (h : DataW.Trod enc Tryd.prog w base spare held 31 v d p) :
    ∃ (t : TagsD) (A : Option Addr) (c : Nat), v = .agg #[.int .i64 t.count, .int .i64 t.next, .int .i64 t.round, .slice A t.owns.length c] ∧ Rd w A t.owns ∧ t.owns.length ≤ maxLen := by
  obtain ⟨v0, v1, v2, v3, y0, y1, y2, y3, n, rfl, rfl, rfl, h0, h1, h2, h3⟩ := open_agg4 Tryd.underlying31 (by kernel_rfl) (by kernel_rfl) hv h
  obtain ⟨n0, rfl⟩ := field_int Tryd.underlying3 h0
  obtain ⟨n1, rfl⟩ := field_int Tryd.underlying3 h1
  obtain ⟨n2, rfl⟩ := field_int Tryd.underlying3 h2
  obtain ⟨A, c, xs, rfl, hr, hl⟩ := open_OwnS h3
  exact ⟨⟨n0, n1, n2, xs⟩, A, c, rfl, hr, hl⟩
end
end Go.Proofs.YtihlaecbdlgbiaaDoor
