/- How a law's arguments are opened: from the row's reading to plain data in memory. -/
import Derived.Test.YtihlaecbdlgbiaaDoorRows
import Derived.Test.YtihlaecbdlgbiaaDoorData
import Derived.ShutString
import Derived.ChangeOld
import Derived.Deep.Slices
import Derived.Deep.Fields
import Derived.ChangeSame
import Derived.Lib.SmallJoins
namespace Go.Proofs.YtihlaecbdlgbiaaDoor
open Go.ChangeShapes Go.WideShapes Go.ChangeAt Go.RowKit
set_option linter.unusedVariables false

theorem ownRow : ownKnob Tryd.prog.godebug = none := by kernel_rfl
theorem laidOutRow : laidOutB Tryd.prog = true := by kernel_rfl

section
open Go.Deep Go.Joins
open Rec (sz cs)
variable {H : Type} {enc : TypeId × Value → H} {P : Program} {w : World} {base : Nat} {spare : Nat → Bool} {held : Bool}

theorem open_slice_fields {t e : TypeId} {fs : Array Field} {fuel : Nat} {cs : List Value} {x : DataW H × List MemPlace} (ht : P.underlying t = some (.slice e)) (he : P.underlying e = some (.struct fs))
    (hone : oneCellFields P fs = true) (hC : P.cellsOf e = fs.size) (h : DataW.trod enc P w base spare held fuel t cs = some x) :
    cs = [.slice none 0 0] ∨
    ∃ (a : Addr) (len cap : Nat), cs = [.slice (some a) len cap] ∧ len ≤ cap ∧ cap ≤ maxLen ∧
      ∀ i, i < len → ∃ n, ∀ (j : Nat) (f : Field), fs[j]? = some f → ∃ (v : Value) (y : DataW H × List MemPlace), w.cell? (a.add (i * fs.size + j)) = some v ∧ DataW.trod enc P w base spare held n f.type [v] = some y := by
  rcases open_slice ht h with h0 | ⟨a, len, cap, m, n, D, Pl, hcs, hb, hl, hm, hmm, hx, hi⟩
  · exact .inl h0.1
  · refine .inr ⟨a, len, cap, hcs, hl, hm, fun i him => ?_⟩
    have him' : i < m := by rw [hmm]; split <;> omega
    obtain ⟨cs', hc, ht'⟩ := hi i him'
    rw [hC] at hc
    obtain ⟨ys, n', hn', hy, hlen, hyl, hf⟩ := DataW.trod_struct he ht'
    obtain ⟨_, hcl, hat⟩ := World.cells?_some hc
    refine ⟨n', fun j f hj => ?_⟩
    obtain ⟨ho, hk⟩ := hone_of hone j f hj
    have hjl : j < fs.size := (Array.getElem?_eq_some_iff.1 hj).1
    have hcell := hat j hjl
    have hv : cs'[j]? = some (cs'[j]'(by omega)) := List.getElem?_eq_getElem (by omega)
    have h1 := hf j f hj
    rw [ho, hk] at h1
    have hone' : (cs'.drop j).take 1 = [cs'[j]'(by omega)] := by
      rw [List.drop_eq_getElem_cons (by omega)]
      rfl
    rw [hone'] at h1
    have hys : ys[j]? = some (ys[j]'(by omega)) := List.getElem?_eq_getElem (by omega)
    refine ⟨_, _, ?_, h1.trans hys⟩
    rw [← Go.Deep.add_add, hcell, hv]

/-- From facts on each element to a list. -/
theorem rd_build {α : Type} [Rec α] [Inhabited α] (a : Addr) (len : Nat) (h : ∀ i, i < len → ∃ x : α, ∀ j u, (cs x)[j]? = some u → w.cell? (a.add (i * sz α + j)) = some u) :
    ∃ xs : List α, xs.length = len ∧ Rd w (some a) xs := by
  have hch : ∀ i, ∃ x : α, i < len → ∀ j u, (cs x)[j]? = some u → w.cell? (a.add (i * sz α + j)) = some u := fun i => by
    by_cases hi : i < len
    · obtain ⟨x, hx⟩ := h i hi
      exact ⟨x, fun _ => hx⟩
    · exact ⟨default, fun h => absurd h hi⟩
  refine ⟨(List.range len).map fun i => Classical.choose (hch i), by simp, fun hn => ?_⟩
  have hlen : 0 < len := by simpa using hn
  obtain ⟨b, off, spot⟩ := a
  have hp : 0 < sz α := Rec.pos
  have h0 := Classical.choose_spec (hch 0) hlen 0 _ (List.getElem?_eq_getElem (by rw [Rec.len]; exact hp))
  have hspot : spot = none := by simpa [Addr.add] using World.cell?_spot h0
  subst hspot
  have hb := block_lt_of_cell h0
  simp only [Addr.add] at hb
  refine ⟨b, off, rfl, by simpa [Addr.add] using hb, fun m u hu => ?_⟩
  have hm : m < len * sz α := by
    have := (List.getElem?_eq_some_iff.1 hu).1
    rw [flat_length] at this
    simpa using this
  have hd : m / sz α < len := (Nat.div_lt_iff_lt_mul hp).2 hm
  have hmm : m % sz α < sz α := Nat.mod_lt _ hp
  have hi : m / sz α * sz α + m % sz α = m := by rw [Nat.mul_comm]; exact Nat.div_add_mod m (sz α)
  have hg := flat_get ((List.range len).map fun i => Classical.choose (hch i)) (m / sz α) (m % sz α) (Classical.choose (hch (m / sz α))) (by simp [hd]) hmm
  rw [hi, hu] at hg
  have := Classical.choose_spec (hch (m / sz α)) hd (m % sz α) u hg.symm
  rw [hi] at this
  rw [← this]
  congr 1
  unfold Addr.add
  split <;> simp_all

theorem field_int {fuel : Nat} {t : TypeId} {k : IntKind} {v : Value} {y : DataW H × List MemPlace} (ht : P.underlying t = some (.int k)) (h : DataW.trod enc P w base spare held fuel t [v] = some y) : ∃ n, v = .int k n := by
  obtain ⟨a, e0, _, _⟩ := DataW.trod_int ht h
  simp at e0
  exact ⟨a, e0⟩
theorem field_bool {fuel : Nat} {t : TypeId} {v : Value} {y : DataW H × List MemPlace} (ht : P.underlying t = some .bool) (h : DataW.trod enc P w base spare held fuel t [v] = some y) : ∃ n, v = .bool n := by
  obtain ⟨a, e0, _⟩ := DataW.trod_bool ht h
  simp at e0
  exact ⟨a, e0⟩
end

/-! ### Facts on the whole program that each row asks. The program's head is long: its letters are laid as numbers, so that the kernel need not decode it. -/
def headNums : List Nat := [104, 97, 114, 110, 101, 115, 115, 32, 100, 102, 52, 99, 53, 101, 52, 49, 98, 99, 50, 98, 56, 102, 49, 97, 53, 102, 102, 54, 54, 99, 52, 53, 48, 101, 48, 54, 55, 97, 48, 50, 52, 98, 97, 56, 97, 54, 101, 101, 54, 98, 101, 48, 101, 98, 49, 55, 100, 99, 53, 55, 54, 102, 49, 97, 51, 53, 101, 101, 100, 98, 98, 52, 32, 99, 117, 116, 32, 97, 116, 32, 108, 111, 111, 112, 46, 101, 120, 97, 109, 112, 108, 101, 47, 105, 110, 118, 101, 114, 116, 101, 100, 112, 97, 103, 101, 115, 47, 108, 97, 119, 115, 46, 70, 110, 69, 120, 97, 99, 116, 77, 97, 99, 104, 105, 110, 101, 86, 97, 108, 105, 100, 32, 108, 111, 111, 112, 46, 101, 120, 97, 109, 112, 108, 101, 47, 105, 110, 118, 101, 114, 116, 101, 100, 112, 97, 103, 101, 115, 47, 108, 97, 119, 115, 46, 70, 110, 69, 120, 97, 99, 116, 77, 101, 109, 111, 114, 121, 86, 97, 108, 105, 100, 32, 108, 111, 111, 112, 46, 101, 120, 97, 109, 112, 108, 101, 47, 105, 110, 118, 101, 114, 116, 101, 100, 112, 97, 103, 101, 115, 47, 108, 97, 119, 115, 46, 70, 110, 69, 120, 97, 99, 116, 70, 114, 101, 101, 70, 114, 97, 109, 101]
def headRest : List (List Nat) := [[97, 116], [108, 111, 111, 112, 46, 101, 120, 97, 109, 112, 108, 101, 47, 105, 110, 118, 101, 114, 116, 101, 100, 112, 97, 103, 101, 115, 47, 108, 97, 119, 115, 46, 70, 110, 69, 120, 97, 99, 116, 77, 97, 99, 104, 105, 110, 101, 86, 97, 108, 105, 100], [108, 111, 111, 112, 46, 101, 120, 97, 109, 112, 108, 101, 47, 105, 110, 118, 101, 114, 116, 101, 100, 112, 97, 103, 101, 115, 47, 108, 97, 119, 115, 46, 70, 110, 69, 120, 97, 99, 116, 77, 101, 109, 111, 114, 121, 86, 97, 108, 105, 100], [108, 111, 111, 112, 46, 101, 120, 97, 109, 112, 108, 101, 47, 105, 110, 118, 101, 114, 116, 101, 100, 112, 97, 103, 101, 115, 47, 108, 97, 119, 115, 46, 70, 110, 69, 120, 97, 99, 116, 70, 114, 101, 101, 70, 114, 97, 109, 101]]
set_option maxRecDepth 100000 in
theorem headO : Tryd.prog.initOrder = String.ofList (headNums.map Char.ofNat) := by kernel_rfl
theorem headL : Tryd.prog.initOrder.toList = headNums.map Char.ofNat := by rw [headO, String.toList_ofList]
set_option maxRecDepth 100000 in
theorem headW : behindMainWord (wordsSigns (headNums.map Char.ofNat)) = "cut".toList :: headRest.map (List.map Char.ofNat) := by kernel_rfl
theorem headCut : behindMainWord (wordsSigns Tryd.prog.initOrder.toList) = "cut".toList :: headRest.map (List.map Char.ofNat) := by
  rw [headL, headW]
theorem strip_cut (rest : List (List Char)) : stripLifts liftWords ("cut".toList :: rest) = ([], "cut".toList :: rest) := by
  simp [liftWords, stripLifts]
theorem make_of_cut {P : Program} {rest : List (List Char)} (h : behindMainWord (wordsSigns P.initOrder.toList) = "cut".toList :: rest) : P.make = some .cut := by
  unfold Program.make
  rw [h]
  simp
theorem final_of_cut {P : Program} {rest : List (List Char)} (h : behindMainWord (wordsSigns P.initOrder.toList) = "cut".toList :: rest) : P.liftsFinal = false := by
  unfold Program.liftsFinal Program.headLifts
  rw [h, strip_cut]
  simp
theorem enter_of_cut {P : Program} {rest : List (List Char)} (h : behindMainWord (wordsSigns P.initOrder.toList) = "cut".toList :: rest) (h1 : P.laysLater = false) (h2 : P.bearsReflect = false) (h3 : P.doorFits [] = true) : P.mayEnter = true := by
  unfold Program.mayEnter
  rw [h]
  simp only [strip_cut, h1, h2, h3]
  simp
theorem progFinal : Tryd.prog.liftsFinal = false := final_of_cut headCut
theorem progMake : Tryd.prog.make = some .cut := make_of_cut headCut
theorem progLater : Tryd.prog.laysLater = false := by kernel_rfl
theorem progReflect : Tryd.prog.bearsReflect = false := by kernel_rfl
theorem progDoor : Tryd.prog.doorFits [] = true := by kernel_rfl
theorem progEnter : Tryd.prog.mayEnter = true := enter_of_cut headCut progLater progReflect progDoor
theorem progMaps : mapsRowed Tryd.prog = true := by kernel_rfl
theorem progHeard : Tryd.prog.stopsHeard = true := by kernel_rfl
end Go.Proofs.YtihlaecbdlgbiaaDoor
