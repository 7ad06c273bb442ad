/- Joined: Open, Vm. -/
import Derived.Test.YtbdlpbladpppjaaGreatDoorRows
import Derived.ShutString
import Derived.ChangeOld
import Derived.Deep.Slices
import Derived.Deep.Fields
import Derived.ChangeSame
import Derived.Lib.SmallJoins
import Derived.DeepKeys4
import Derived.MapViews
import Derived.Maps.OwnSet
import Derived.Test.YtbdlpbladpppjaaGreatDoorJ1
namespace Go.Proofs.YtbdlpbladpppjaaGreatDoor
open Go.ChangeShapes Go.WideShapes Go.ChangeAt Go.RowKit
set_option linter.unusedVariables false

theorem ownRow : ownKnob Tryz.prog.godebug = none := by kernel_rfl
theorem laidOutRow : laidOutB Tryz.prog = true := by kernel_rfl

section
open Go.Deep Go.Joins
open Rec (sz cs)
variable {H : Type} {enc : TypeId × Value → H} {P : Program} {w : World} {base : Nat} {spare : Nat → Bool} {held : Bool}

/-- From facts on each element to a list. -/
theorem rd_build {α : Type} [Rec α] [Inhabited α] (a : Addr) (len : Nat) (h : ∀ i, i < len → ∃ x : α, ∀ j u, (cs x)[j]? = some u → w.cell? (a.add (i * sz α + j)) = some u) :
    ∃ xs : List α, xs.length = len ∧ Rd w (some a) xs := by
  have hch : ∀ i, ∃ x : α, i < len → ∀ j u, (cs x)[j]? = some u → w.cell? (a.add (i * sz α + j)) = some u := fun i => by
    by_cases hi : i < len
    · obtain ⟨x, hx⟩ := h i hi
      exact ⟨x, fun _ => hx⟩
    · exact ⟨default, fun h => absurd h hi⟩
  refine ⟨(List.range len).map fun i => Classical.choose (hch i), by simp, fun hn => ?_⟩
  have hlen : 0 < len := by simpa using hn
  obtain ⟨b, off, spot⟩ := a
  have hp : 0 < sz α := Rec.pos
  have h0 := Classical.choose_spec (hch 0) hlen 0 _ (List.getElem?_eq_getElem (by rw [Rec.len]; exact hp))
  have hspot : spot = none := by simpa [Addr.add] using World.cell?_spot h0
  subst hspot
  have hb := block_lt_of_cell h0
  simp only [Addr.add] at hb
  refine ⟨b, off, rfl, by simpa [Addr.add] using hb, fun m u hu => ?_⟩
  have hm : m < len * sz α := by
    have := (List.getElem?_eq_some_iff.1 hu).1
    rw [flat_length] at this
    simpa using this
  have hd : m / sz α < len := (Nat.div_lt_iff_lt_mul hp).2 hm
  have hmm : m % sz α < sz α := Nat.mod_lt _ hp
  have hi : m / sz α * sz α + m % sz α = m := by rw [Nat.mul_comm]; exact Nat.div_add_mod m (sz α)
  have hg := flat_get ((List.range len).map fun i => Classical.choose (hch i)) (m / sz α) (m % sz α) (Classical.choose (hch (m / sz α))) (by simp [hd]) hmm
  rw [hi, hu] at hg
  have := Classical.choose_spec (hch (m / sz α)) hd (m % sz α) u hg.symm
  rw [hi] at this
  rw [← this]
  congr 1
  unfold Addr.add
  split <;> simp_all

end

/-! ### Facts on the whole program that each row asks. The program's head is long: its letters are laid as numbers, so that the kernel need not decode it. -/
def headNums : List Nat := [104, 97, 114, 110, 101, 115, 115, 32, 48, 55, 52, 54, 102, 99, 56, 48, 56, 50, 51, 56, 101, 100, 99, 100, 102, 56, 97, 56, 100, 100, 51, 57, 102, 57, 97, 49, 54, 101, 101, 55, 51, 51, 97, 101, 56, 51, 53, 51, 102, 49, 52, 48, 97, 100, 55, 54, 48, 101, 54, 50, 56, 102, 100, 50, 55, 52, 100, 51, 50, 52, 48, 56, 32, 99, 117, 116, 32, 97, 116, 32, 108, 111, 111, 112, 46, 101, 120, 97, 109, 112, 108, 101, 47, 105, 110, 118, 101, 114, 116, 101, 100, 112, 97, 103, 101, 115, 47, 108, 97, 119, 115, 46, 70, 110, 70, 114, 101, 101, 70, 114, 97, 109, 101, 32, 108, 111, 111, 112, 46, 101, 120, 97, 109, 112, 108, 101, 47, 105, 110, 118, 101, 114, 116, 101, 100, 112, 97, 103, 101, 115, 47, 108, 97, 119, 115, 46, 70, 110, 77, 101, 109, 111, 114, 121, 83, 97, 109, 101]
def headRest : List (List Nat) := [[97, 116], [108, 111, 111, 112, 46, 101, 120, 97, 109, 112, 108, 101, 47, 105, 110, 118, 101, 114, 116, 101, 100, 112, 97, 103, 101, 115, 47, 108, 97, 119, 115, 46, 70, 110, 70, 114, 101, 101, 70, 114, 97, 109, 101], [108, 111, 111, 112, 46, 101, 120, 97, 109, 112, 108, 101, 47, 105, 110, 118, 101, 114, 116, 101, 100, 112, 97, 103, 101, 115, 47, 108, 97, 119, 115, 46, 70, 110, 77, 101, 109, 111, 114, 121, 83, 97, 109, 101]]
set_option maxRecDepth 100000 in
theorem headO : Tryz.prog.initOrder = String.ofList (headNums.map Char.ofNat) := by kernel_rfl
theorem headL : Tryz.prog.initOrder.toList = headNums.map Char.ofNat := by rw [headO, String.toList_ofList]
set_option maxRecDepth 100000 in
theorem headW : behindMainWord (wordsSigns (headNums.map Char.ofNat)) = "cut".toList :: headRest.map (List.map Char.ofNat) := by kernel_rfl
theorem headCut : behindMainWord (wordsSigns Tryz.prog.initOrder.toList) = "cut".toList :: headRest.map (List.map Char.ofNat) := by
  rw [headL, headW]
theorem strip_cut (rest : List (List Char)) : stripLifts liftWords ("cut".toList :: rest) = ([], "cut".toList :: rest) := by
  simp [liftWords, stripLifts]
theorem make_of_cut {P : Program} {rest : List (List Char)} (h : behindMainWord (wordsSigns P.initOrder.toList) = "cut".toList :: rest) : P.make = some .cut := by
  unfold Program.make
  rw [h]
  simp
theorem final_of_cut {P : Program} {rest : List (List Char)} (h : behindMainWord (wordsSigns P.initOrder.toList) = "cut".toList :: rest) : P.liftsFinal = false := by
  unfold Program.liftsFinal Program.headLifts
  rw [h, strip_cut]
  simp
theorem enter_of_cut {P : Program} {rest : List (List Char)} (h : behindMainWord (wordsSigns P.initOrder.toList) = "cut".toList :: rest) (h1 : P.laysLater = false) (h2 : P.bearsReflect = false) (h3 : P.doorFits [] = true) : P.mayEnter = true := by
  unfold Program.mayEnter
  rw [h]
  simp only [strip_cut, h1, h2, h3]
  simp
theorem progFinal : Tryz.prog.liftsFinal = false := final_of_cut headCut
theorem progMake : Tryz.prog.make = some .cut := make_of_cut headCut
theorem progLater : Tryz.prog.laysLater = false := by kernel_rfl
theorem progReflect : Tryz.prog.bearsReflect = false := by kernel_rfl
theorem progDoor : Tryz.prog.doorFits [] = true := by kernel_rfl
theorem progEnter : Tryz.prog.mayEnter = true := enter_of_cut headCut progLater progReflect progDoor
theorem progMaps : mapsRowed Tryz.prog = true := by kernel_rfl
theorem progHeard : Tryz.prog.stopsHeard = true := by kernel_rfl
end Go.Proofs.YtbdlpbladpppjaaGreatDoor
namespace Go.Proofs.YtbdlpbladpppjaaGreatDoor
open Go.ChangeShapes Go.WideShapes Go.ChangeAt Go.RowKit
open Rec (sz cs)
set_option linter.unusedVariables false
set_option maxRecDepth 100000
open Go.Maps (Keyed)

theorem rowKey : (43 : TypeId) < Tryz.prog.types.size := of_decide_eq_true (by kernel_rfl)
theorem wideKey : (match Tryz.prog.underlying 43 with | some (.array _ _) | some (.struct _) => true | _ => false) = true := by rw [Tryz.underlying43]
theorem kKey : Keyed Tryz.prog 43 := Keyed.of_law (deep_law_laid laidOutRow (m := 2) (by omega) rowKey (by kernel_rfl) wideKey)
theorem cellsKey : Tryz.prog.cellsOf 43 = 2 := by kernel_rfl
theorem cellsInt : Tryz.prog.cellsOf 3 = 1 := by kernel_rfl
theorem typesKey : Tryz.prog.types.size + 1 = (Tryz.prog.types.size - 1) + 1 + 1 := by kernel_rfl
theorem keyTypeKey : Tryz.prog.keyType 43 = true := by kernel_rfl
theorem litsInt (d : Nat) (a : Int) (h : (Lit.int .i64 a).wf = true) : Tryz.prog.keyLits (d + 1) 3 [.int .i64 a] = some [.int .i64 a] := by
  unfold Program.keyLits
  rw [Tryz.underlying3]
  simp [h]
theorem litsKey (d : Nat) (a b : Int) (h1 : (Lit.int .i64 a).wf = true) (h2 : (Lit.int .i64 b).wf = true) : Tryz.prog.keyLits (d + 1 + 1) 43 [.int .i64 a, .int .i64 b] = some [.int .i64 a, .int .i64 b] := by
  unfold Program.keyLits
  rw [Tryz.underlying43]
  simp [cellsKey, cellsInt, litsInt d a h1, litsInt d b h2]
theorem keyOf_key (x : KeyD) (h1 : (Lit.int .i64 x.space).wf = true) (h2 : (Lit.int .i64 x.page).wf = true) : ∃ l, keyOf Tryz.prog 43 (.agg #[.int .i64 x.space, .int .i64 x.page]) = some l := by
  unfold keyOf
  rw [Tryz.underlying43]
  have hl := litsKey (Tryz.prog.types.size - 1) x.space x.page h1 h2
  rw [← typesKey] at hl
  have hf : (Value.agg #[.int .i64 x.space, .int .i64 x.page]).formed Tryz.prog 43 = true := by simp [Value.formed, Tryz.underlying43, cellsKey]
  refine ⟨.string (keyBytes [.int .i64 x.space, .int .i64 x.page]), ?_⟩
  show (if (Tryz.prog.keyType 43 && (Value.agg #[.int .i64 x.space, .int .i64 x.page]).formed Tryz.prog 43) = true then (Tryz.prog.keyLits (Tryz.prog.types.size + 1) 43 [.int .i64 x.space, .int .i64 x.page]).map (fun ls => Lit.string (keyBytes ls)) else none) = _
  rw [hl, hf, keyTypeKey]
  rfl

/-- A map of the call's own that holds true just at the keys of S (no key twice in S). -/
def HasKeys (w : World) (b n : Nat) (S : List KeyD) : Prop := ∃ D : DataW Unit, w.ownsMap Tryz.prog 43 (plainElem Tryz.prog 4) b n D ∧ Maps.IsMap D ∧ Maps.size D = S.length ∧ ∀ (x : KeyD) (l : Lit), keyOf Tryz.prog 43 (.agg #[.int .i64 x.space, .int .i64 x.page]) = some l → D.atKey l (.lit (.bool false)) = .lit (.bool (decide (x ∈ S))) ∧ Maps.has D l = decide (x ∈ S)
theorem HasKeys.made (w : World) : HasKeys (w.alloc (.map #[] 0)) w.heap.size 0 [] :=
  ⟨_, World.ownsMap_made w _ _ _, Maps.isMap_empty, rfl, fun x l h => by simp [DataW.atKey, Maps.has]⟩
theorem HasKeys.kept {w w' : World} {b n : Nat} {S : List KeyD} {row : Option Nat} (h : HasKeys w b n S) (hg : w.grownBy w' row) (hne : some b ≠ row) : HasKeys w' b n S := by
  obtain ⟨D, h1, h2⟩ := h
  exact ⟨D, h1.kept hg hne, h2⟩
theorem HasKeys.ex {w w' : World} {b n : Nat} {S : List KeyD} (h : HasKeys w b n S) (k : Ex w w') : HasKeys w' b n S :=
  h.kept (grown_ex (grown_refl w none) k) (by simp)
theorem HasKeys.lt {w : World} {b n : Nat} {S : List KeyD} (h : HasKeys w b n S) : b < w.heap.size := by
  obtain ⟨D, h1, _⟩ := h
  exact h1.lt
theorem HasKeys.look {w : World} {b n : Nat} {S : List KeyD} (h : HasKeys w b n S) (x : KeyD) {l : Lit} (hx : keyOf Tryz.prog 43 (.agg #[.int .i64 x.space, .int .i64 x.page]) = some l) :
    (Instr.lookup 86 (.map (some b)) (.agg #[.int .i64 x.space, .int .i64 x.page]) false).run Tryz.prog w = .ok (.bool (decide (x ∈ S))) w := by
  obtain ⟨D, h1, _, _, h2⟩ := h
  obtain ⟨v, ps, hrun, hv⟩ := h1.lookup kKey Tryz.underlying86 (z := .bool false) (by kernel_rfl) (plainElem_bool Tryz.underlying4 false) hx
  rw [(h2 x l hx).1] at hv
  rw [hrun]
  unfold plainElem at hv
  rw [Tryz.underlying4] at hv
  cases v <;> simp at hv
  rw [hv.1]
theorem HasKeys.put {w : World} {b n : Nat} {S : List KeyD} (h : HasKeys w b n S) (hn : n < maxLen) (x : KeyD) (hns : ¬ x ∈ S) {l : Lit} (hx : keyOf Tryz.prog 43 (.agg #[.int .i64 x.space, .int .i64 x.page]) = some l) :
    ∃ w', (Instr.mapUpdate 86 (.map (some b)) (.agg #[.int .i64 x.space, .int .i64 x.page]) (.bool true)).run Tryz.prog w = .ok () w' ∧ HasKeys w' b (n + 1) (x :: S) ∧ w.grownBy w' (some b) := by
  obtain ⟨D, h1, hm, hz, h2⟩ := h
  obtain ⟨w', hrun, h3, h4⟩ := h1.update kKey Tryz.underlying86 hn hx (plainElem_bool Tryz.underlying4 true)
  refine ⟨w', hrun, ⟨_, h3, hm.put _ _, ?_, fun y l' hy => ?_⟩, h4⟩
  · rw [Maps.size_put (h1.tidy kKey), (h2 x l hx).2, hz]
    simp [hns]
  · by_cases e : y = x
    · subst e
      have e2 : l' = l := by rw [hx] at hy; injection hy with hy; exact hy.symm
      subst e2
      rw [Maps.atKey_put_same hm (kKey.key hx), Maps.has_put_same hm (kKey.key hx)]
      simp
    · have hl : l' ≠ l := by
        intro hl
        subst hl
        have := kKey.inj hx hy
        apply e
        obtain ⟨a1, a2⟩ := x
        obtain ⟨b1, b2⟩ := y
        simp at this
        rw [this.1, this.2]
      rw [Maps.atKey_put_other hl, Maps.has_put_other hl, (h2 y l' hy).1, (h2 y l' hy).2]
      simp [e]
end Go.Proofs.YtbdlpbladpppjaaGreatDoor
