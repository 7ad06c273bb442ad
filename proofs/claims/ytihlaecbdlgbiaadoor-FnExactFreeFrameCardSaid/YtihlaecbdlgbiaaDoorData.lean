/- The program's structures as plain Lean data, and how each element of a slice lies in cells. No program in sight. -/
import Derived.Test.YtihlaecbdlgbiaaDoorBase
namespace Go.Proofs.YtihlaecbdlgbiaaDoor
open Go.ChangeShapes Go.WideShapes Go.ChangeAt Go.RowKit
open Rec (sz cs)

structure OwnD where
  space : Int
  tag : Int
deriving DecidableEq, Inhabited

structure KeyD where
  space : Int
  page : Int
deriving DecidableEq, Inhabited

structure FrameD where
  used : Bool
  key : KeyD
  rights : Int
  next : Int
deriving DecidableEq, Inhabited

structure LineD where
  valid : Bool
  tag : Int
  page : Int
  frame : Int
  rights : Int
  wired : Bool
deriving DecidableEq, Inhabited

structure NoteD where
  key : KeyD
  frame : Int
deriving DecidableEq, Inhabited

instance : Rec Int where
  sz := 1
  cs n := [.int .i64 n]
  len _ := rfl
  pos := by decide
  one _ u hu := by simp at hu; subst hu; rfl

instance : Rec Bool where
  sz := 1
  cs b := [.bool b]
  len _ := rfl
  pos := by decide
  one _ u hu := by simp at hu; subst hu; rfl

instance : Rec OwnD where
  sz := 2
  cs o := [.int .i64 o.space, .int .i64 o.tag]
  len _ := rfl
  pos := by decide
  one _ u hu := by simp at hu; rcases hu with rfl | rfl <;> rfl

instance : Rec KeyD where
  sz := 2
  cs o := [.int .i64 o.space, .int .i64 o.page]
  len _ := rfl
  pos := by decide
  one _ u hu := by simp at hu; rcases hu with rfl | rfl <;> rfl

instance : Rec NoteD where
  sz := 3
  cs o := [.int .i64 o.key.space, .int .i64 o.key.page, .int .i64 o.frame]
  len _ := rfl
  pos := by decide
  one _ u hu := by simp at hu; rcases hu with rfl | rfl | rfl <;> rfl

instance : Rec FrameD where
  sz := 5
  cs o := [.bool o.used, .int .i64 o.key.space, .int .i64 o.key.page, .int .i64 o.rights, .int .i64 o.next]
  len _ := rfl
  pos := by decide
  one _ u hu := by simp at hu; rcases hu with rfl | rfl | rfl | rfl | rfl <;> rfl

instance : Rec LineD where
  sz := 6
  cs o := [.bool o.valid, .int .i64 o.tag, .int .i64 o.page, .int .i64 o.frame, .int .i64 o.rights, .bool o.wired]
  len _ := rfl
  pos := by decide
  one _ u hu := by simp at hu; rcases hu with rfl | rfl | rfl | rfl | rfl | rfl <;> rfl

structure TagsD where
  count : Int
  next : Int
  round : Int
  owns : List OwnD
deriving DecidableEq, Inhabited

structure CacheD where
  lines : List LineD
  hand : Int
deriving DecidableEq, Inhabited

structure TableD where
  buckets : List Int
  frames : List FrameD
deriving DecidableEq, Inhabited

structure MachD where
  table : TableD
  cache : CacheD
  tags : TagsD
  space : Int
deriving DecidableEq, Inhabited

structure MemD where
  mach : MachD
  marks : List Bool
  hand : Int
deriving DecidableEq, Inhabited

section
variable {w : World} {A : Option Addr} {k : Nat}

/-! ### One element, in the walk's own spelling -/
theorem Rd.own {xs : List OwnD} (h : Rd w A xs) (hk : k < xs.length) : ∃ b off x, A = some ⟨b, off, none⟩ ∧ b < w.heap.size ∧ xs[k]? = some x ∧
    w.cell? ⟨b, off + k * 2, none⟩ = some (.int .i64 x.space) ∧ w.cell? ⟨b, off + k * 2 + 1, none⟩ = some (.int .i64 x.tag) := by
  obtain ⟨b, off, x, e, hb, hx, hc⟩ := h.at_ hk
  exact ⟨b, off, x, e, hb, hx, hc 0 _ (by decide) rfl, hc 1 _ (by decide) rfl⟩
theorem Rd.own_known {b off : Nat} {xs : List OwnD} (h : Rd w (some ⟨b, off, none⟩) xs) (hk : k < xs.length) : ∃ x, b < w.heap.size ∧ xs[k]? = some x ∧
    w.cell? ⟨b, off + k * 2, none⟩ = some (.int .i64 x.space) ∧ w.cell? ⟨b, off + k * 2 + 1, none⟩ = some (.int .i64 x.tag) := by
  obtain ⟨x, hb, hx, hc⟩ := h.at_known hk
  exact ⟨x, hb, hx, hc 0 _ (by decide) rfl, hc 1 _ (by decide) rfl⟩
theorem Rd.int {xs : List Int} (h : Rd w A xs) (hk : k < xs.length) : ∃ b off x, A = some ⟨b, off, none⟩ ∧ b < w.heap.size ∧ xs[k]? = some x ∧
    w.cell? ⟨b, off + k, none⟩ = some (.int .i64 x) := by
  obtain ⟨b, off, x, e, hb, hx, hc⟩ := h.at_ hk
  exact ⟨b, off, x, e, hb, hx, by have := hc 0 _ (by decide) rfl; simpa [sz] using this⟩
theorem Rd.bool {xs : List Bool} (h : Rd w A xs) (hk : k < xs.length) : ∃ b off x, A = some ⟨b, off, none⟩ ∧ b < w.heap.size ∧ xs[k]? = some x ∧
    w.cell? ⟨b, off + k, none⟩ = some (.bool x) := by
  obtain ⟨b, off, x, e, hb, hx, hc⟩ := h.at_ hk
  exact ⟨b, off, x, e, hb, hx, by have := hc 0 _ (by decide) rfl; simpa [sz] using this⟩
theorem Rd.line {xs : List LineD} (h : Rd w A xs) (hk : k < xs.length) : ∃ b off x, A = some ⟨b, off, none⟩ ∧ b < w.heap.size ∧ xs[k]? = some x ∧
    w.cell? ⟨b, off + k * 6, none⟩ = some (.bool x.valid) ∧ w.cell? ⟨b, off + k * 6 + 1, none⟩ = some (.int .i64 x.tag) ∧
    w.cell? ⟨b, off + k * 6 + 2, none⟩ = some (.int .i64 x.page) ∧ w.cell? ⟨b, off + k * 6 + 3, none⟩ = some (.int .i64 x.frame) ∧
    w.cell? ⟨b, off + k * 6 + 4, none⟩ = some (.int .i64 x.rights) ∧ w.cell? ⟨b, off + k * 6 + 5, none⟩ = some (.bool x.wired) := by
  obtain ⟨b, off, x, e, hb, hx, hc⟩ := h.at_ hk
  exact ⟨b, off, x, e, hb, hx, hc 0 _ (by decide) rfl, hc 1 _ (by decide) rfl, hc 2 _ (by decide) rfl, hc 3 _ (by decide) rfl, hc 4 _ (by decide) rfl, hc 5 _ (by decide) rfl⟩
theorem Rd.line_known {b off : Nat} {xs : List LineD} (h : Rd w (some ⟨b, off, none⟩) xs) (hk : k < xs.length) : ∃ x, b < w.heap.size ∧ xs[k]? = some x ∧
    w.cell? ⟨b, off + k * 6, none⟩ = some (.bool x.valid) ∧ w.cell? ⟨b, off + k * 6 + 1, none⟩ = some (.int .i64 x.tag) ∧
    w.cell? ⟨b, off + k * 6 + 2, none⟩ = some (.int .i64 x.page) ∧ w.cell? ⟨b, off + k * 6 + 3, none⟩ = some (.int .i64 x.frame) ∧
    w.cell? ⟨b, off + k * 6 + 4, none⟩ = some (.int .i64 x.rights) ∧ w.cell? ⟨b, off + k * 6 + 5, none⟩ = some (.bool x.wired) := by
  obtain ⟨x, hb, hx, hc⟩ := h.at_known hk
  exact ⟨x, hb, hx, hc 0 _ (by decide) rfl, hc 1 _ (by decide) rfl, hc 2 _ (by decide) rfl, hc 3 _ (by decide) rfl, hc 4 _ (by decide) rfl, hc 5 _ (by decide) rfl⟩
theorem Rd.frame {xs : List FrameD} (h : Rd w A xs) (hk : k < xs.length) : ∃ b off x, A = some ⟨b, off, none⟩ ∧ b < w.heap.size ∧ xs[k]? = some x ∧
    w.cell? ⟨b, off + k * 5, none⟩ = some (.bool x.used) ∧ w.cell? ⟨b, off + k * 5 + 1, none⟩ = some (.int .i64 x.key.space) ∧
    w.cell? ⟨b, off + k * 5 + 2, none⟩ = some (.int .i64 x.key.page) ∧ w.cell? ⟨b, off + k * 5 + 3, none⟩ = some (.int .i64 x.rights) ∧
    w.cell? ⟨b, off + k * 5 + 4, none⟩ = some (.int .i64 x.next) := by
  obtain ⟨b, off, x, e, hb, hx, hc⟩ := h.at_ hk
  exact ⟨b, off, x, e, hb, hx, hc 0 _ (by decide) rfl, hc 1 _ (by decide) rfl, hc 2 _ (by decide) rfl, hc 3 _ (by decide) rfl, hc 4 _ (by decide) rfl⟩
end

/-! ### Elements of a row of the call's own -/
section
variable {E g k : Nat} {w : World} {rest : List Value}
theorem Bk.own {zs : List OwnD} {z : OwnD} (h : Bk E w g zs rest) (hz : zs[k]? = some z) : w.cell? ⟨g, k * 2, none⟩ = some (.int .i64 z.space) ∧ w.cell? ⟨g, k * 2 + 1, none⟩ = some (.int .i64 z.tag) :=
  ⟨h.cell_at hz (j := 0) (by decide) rfl, h.cell_at hz (j := 1) (by decide) rfl⟩
theorem Bk.set_own {zs : List OwnD} (h : Bk E w g zs rest) (x : OwnD) (hk : k < zs.length) : Bk E ((w.setCell ⟨g, k * 2, none⟩ (.int .i64 x.space)).setCell ⟨g, k * 2 + 1, none⟩ (.int .i64 x.tag)) g (zs.set k x) rest := by
  obtain ⟨z, hz⟩ : ∃ z, zs[k]? = some z := ⟨_, List.getElem?_eq_getElem hk⟩
  have h1 := Bk.set h (k := k) (j := 0) (x := (z : OwnD)) (y := (⟨x.space, z.tag⟩ : OwnD)) (u := (.int .i64 x.space)) (off := k * 2) hz (by decide) rfl (by simp [sz])
  have h2 := Bk.set h1 (k := k) (j := 1) (x := (⟨x.space, z.tag⟩ : OwnD)) (y := (⟨x.space, x.tag⟩ : OwnD)) (u := (.int .i64 x.tag)) (off := k * 2 + 1) (by rw [List.getElem?_set_self (by simpa using hk)]) (by decide) rfl (by simp [sz])
  rw [List.set_set] at h2
  exact h2
theorem Bk.line {zs : List LineD} {z : LineD} (h : Bk E w g zs rest) (hz : zs[k]? = some z) : w.cell? ⟨g, k * 6, none⟩ = some (.bool z.valid) ∧ w.cell? ⟨g, k * 6 + 1, none⟩ = some (.int .i64 z.tag) ∧ w.cell? ⟨g, k * 6 + 2, none⟩ = some (.int .i64 z.page) ∧ w.cell? ⟨g, k * 6 + 3, none⟩ = some (.int .i64 z.frame) ∧ w.cell? ⟨g, k * 6 + 4, none⟩ = some (.int .i64 z.rights) ∧ w.cell? ⟨g, k * 6 + 5, none⟩ = some (.bool z.wired) :=
  ⟨h.cell_at hz (j := 0) (by decide) rfl, h.cell_at hz (j := 1) (by decide) rfl, h.cell_at hz (j := 2) (by decide) rfl, h.cell_at hz (j := 3) (by decide) rfl, h.cell_at hz (j := 4) (by decide) rfl, h.cell_at hz (j := 5) (by decide) rfl⟩
theorem Bk.set_line {zs : List LineD} (h : Bk E w g zs rest) (x : LineD) (hk : k < zs.length) : Bk E ((((((w.setCell ⟨g, k * 6, none⟩ (.bool x.valid)).setCell ⟨g, k * 6 + 1, none⟩ (.int .i64 x.tag)).setCell ⟨g, k * 6 + 2, none⟩ (.int .i64 x.page)).setCell ⟨g, k * 6 + 3, none⟩ (.int .i64 x.frame)).setCell ⟨g, k * 6 + 4, none⟩ (.int .i64 x.rights)).setCell ⟨g, k * 6 + 5, none⟩ (.bool x.wired)) g (zs.set k x) rest := by
  obtain ⟨z, hz⟩ : ∃ z, zs[k]? = some z := ⟨_, List.getElem?_eq_getElem hk⟩
  have h1 := Bk.set h (k := k) (j := 0) (x := (z : LineD)) (y := (⟨x.valid, z.tag, z.page, z.frame, z.rights, z.wired⟩ : LineD)) (u := (.bool x.valid)) (off := k * 6) hz (by decide) rfl (by simp [sz])
  have h2 := Bk.set h1 (k := k) (j := 1) (x := (⟨x.valid, z.tag, z.page, z.frame, z.rights, z.wired⟩ : LineD)) (y := (⟨x.valid, x.tag, z.page, z.frame, z.rights, z.wired⟩ : LineD)) (u := (.int .i64 x.tag)) (off := k * 6 + 1) (by rw [List.getElem?_set_self (by simpa using hk)]) (by decide) rfl (by simp [sz])
  rw [List.set_set] at h2
  have h3 := Bk.set h2 (k := k) (j := 2) (x := (⟨x.valid, x.tag, z.page, z.frame, z.rights, z.wired⟩ : LineD)) (y := (⟨x.valid, x.tag, x.page, z.frame, z.rights, z.wired⟩ : LineD)) (u := (.int .i64 x.page)) (off := k * 6 + 2) (by rw [List.getElem?_set_self (by simpa using hk)]) (by decide) rfl (by simp [sz])
  rw [List.set_set] at h3
  have h4 := Bk.set h3 (k := k) (j := 3) (x := (⟨x.valid, x.tag, x.page, z.frame, z.rights, z.wired⟩ : LineD)) (y := (⟨x.valid, x.tag, x.page, x.frame, z.rights, z.wired⟩ : LineD)) (u := (.int .i64 x.frame)) (off := k * 6 + 3) (by rw [List.getElem?_set_self (by simpa using hk)]) (by decide) rfl (by simp [sz])
  rw [List.set_set] at h4
  have h5 := Bk.set h4 (k := k) (j := 4) (x := (⟨x.valid, x.tag, x.page, x.frame, z.rights, z.wired⟩ : LineD)) (y := (⟨x.valid, x.tag, x.page, x.frame, x.rights, z.wired⟩ : LineD)) (u := (.int .i64 x.rights)) (off := k * 6 + 4) (by rw [List.getElem?_set_self (by simpa using hk)]) (by decide) rfl (by simp [sz])
  rw [List.set_set] at h5
  have h6 := Bk.set h5 (k := k) (j := 5) (x := (⟨x.valid, x.tag, x.page, x.frame, x.rights, z.wired⟩ : LineD)) (y := (⟨x.valid, x.tag, x.page, x.frame, x.rights, x.wired⟩ : LineD)) (u := (.bool x.wired)) (off := k * 6 + 5) (by rw [List.getElem?_set_self (by simpa using hk)]) (by decide) rfl (by simp [sz])
  rw [List.set_set] at h6
  exact h6
theorem Bk.frame {zs : List FrameD} {z : FrameD} (h : Bk E w g zs rest) (hz : zs[k]? = some z) : w.cell? ⟨g, k * 5, none⟩ = some (.bool z.used) ∧ w.cell? ⟨g, k * 5 + 1, none⟩ = some (.int .i64 z.key.space) ∧ w.cell? ⟨g, k * 5 + 2, none⟩ = some (.int .i64 z.key.page) ∧ w.cell? ⟨g, k * 5 + 3, none⟩ = some (.int .i64 z.rights) ∧ w.cell? ⟨g, k * 5 + 4, none⟩ = some (.int .i64 z.next) :=
  ⟨h.cell_at hz (j := 0) (by decide) rfl, h.cell_at hz (j := 1) (by decide) rfl, h.cell_at hz (j := 2) (by decide) rfl, h.cell_at hz (j := 3) (by decide) rfl, h.cell_at hz (j := 4) (by decide) rfl⟩
theorem Bk.set_frame {zs : List FrameD} (h : Bk E w g zs rest) (x : FrameD) (hk : k < zs.length) : Bk E (((((w.setCell ⟨g, k * 5, none⟩ (.bool x.used)).setCell ⟨g, k * 5 + 1, none⟩ (.int .i64 x.key.space)).setCell ⟨g, k * 5 + 2, none⟩ (.int .i64 x.key.page)).setCell ⟨g, k * 5 + 3, none⟩ (.int .i64 x.rights)).setCell ⟨g, k * 5 + 4, none⟩ (.int .i64 x.next)) g (zs.set k x) rest := by
  obtain ⟨z, hz⟩ : ∃ z, zs[k]? = some z := ⟨_, List.getElem?_eq_getElem hk⟩
  have h1 := Bk.set h (k := k) (j := 0) (x := (z : FrameD)) (y := (⟨x.used, ⟨z.key.space, z.key.page⟩, z.rights, z.next⟩ : FrameD)) (u := (.bool x.used)) (off := k * 5) hz (by decide) rfl (by simp [sz])
  have h2 := Bk.set h1 (k := k) (j := 1) (x := (⟨x.used, ⟨z.key.space, z.key.page⟩, z.rights, z.next⟩ : FrameD)) (y := (⟨x.used, ⟨x.key.space, z.key.page⟩, z.rights, z.next⟩ : FrameD)) (u := (.int .i64 x.key.space)) (off := k * 5 + 1) (by rw [List.getElem?_set_self (by simpa using hk)]) (by decide) rfl (by simp [sz])
  rw [List.set_set] at h2
  have h3 := Bk.set h2 (k := k) (j := 2) (x := (⟨x.used, ⟨x.key.space, z.key.page⟩, z.rights, z.next⟩ : FrameD)) (y := (⟨x.used, ⟨x.key.space, x.key.page⟩, z.rights, z.next⟩ : FrameD)) (u := (.int .i64 x.key.page)) (off := k * 5 + 2) (by rw [List.getElem?_set_self (by simpa using hk)]) (by decide) rfl (by simp [sz])
  rw [List.set_set] at h3
  have h4 := Bk.set h3 (k := k) (j := 3) (x := (⟨x.used, ⟨x.key.space, x.key.page⟩, z.rights, z.next⟩ : FrameD)) (y := (⟨x.used, ⟨x.key.space, x.key.page⟩, x.rights, z.next⟩ : FrameD)) (u := (.int .i64 x.rights)) (off := k * 5 + 3) (by rw [List.getElem?_set_self (by simpa using hk)]) (by decide) rfl (by simp [sz])
  rw [List.set_set] at h4
  have h5 := Bk.set h4 (k := k) (j := 4) (x := (⟨x.used, ⟨x.key.space, x.key.page⟩, x.rights, z.next⟩ : FrameD)) (y := (⟨x.used, ⟨x.key.space, x.key.page⟩, x.rights, x.next⟩ : FrameD)) (u := (.int .i64 x.next)) (off := k * 5 + 4) (by rw [List.getElem?_set_self (by simpa using hk)]) (by decide) rfl (by simp [sz])
  rw [List.set_set] at h5
  exact h5
theorem Bk.key {zs : List KeyD} {z : KeyD} (h : Bk E w g zs rest) (hz : zs[k]? = some z) : w.cell? ⟨g, k * 2, none⟩ = some (.int .i64 z.space) ∧ w.cell? ⟨g, k * 2 + 1, none⟩ = some (.int .i64 z.page) :=
  ⟨h.cell_at hz (j := 0) (by decide) rfl, h.cell_at hz (j := 1) (by decide) rfl⟩
theorem Bk.set_key {zs : List KeyD} (h : Bk E w g zs rest) (x : KeyD) (hk : k < zs.length) : Bk E ((w.setCell ⟨g, k * 2, none⟩ (.int .i64 x.space)).setCell ⟨g, k * 2 + 1, none⟩ (.int .i64 x.page)) g (zs.set k x) rest := by
  obtain ⟨z, hz⟩ : ∃ z, zs[k]? = some z := ⟨_, List.getElem?_eq_getElem hk⟩
  have h1 := Bk.set h (k := k) (j := 0) (x := (z : KeyD)) (y := (⟨x.space, z.page⟩ : KeyD)) (u := (.int .i64 x.space)) (off := k * 2) hz (by decide) rfl (by simp [sz])
  have h2 := Bk.set h1 (k := k) (j := 1) (x := (⟨x.space, z.page⟩ : KeyD)) (y := (⟨x.space, x.page⟩ : KeyD)) (u := (.int .i64 x.page)) (off := k * 2 + 1) (by rw [List.getElem?_set_self (by simpa using hk)]) (by decide) rfl (by simp [sz])
  rw [List.set_set] at h2
  exact h2
theorem Bk.note {zs : List NoteD} {z : NoteD} (h : Bk E w g zs rest) (hz : zs[k]? = some z) : w.cell? ⟨g, k * 3, none⟩ = some (.int .i64 z.key.space) ∧ w.cell? ⟨g, k * 3 + 1, none⟩ = some (.int .i64 z.key.page) ∧ w.cell? ⟨g, k * 3 + 2, none⟩ = some (.int .i64 z.frame) :=
  ⟨h.cell_at hz (j := 0) (by decide) rfl, h.cell_at hz (j := 1) (by decide) rfl, h.cell_at hz (j := 2) (by decide) rfl⟩
theorem Bk.set_note {zs : List NoteD} (h : Bk E w g zs rest) (x : NoteD) (hk : k < zs.length) : Bk E (((w.setCell ⟨g, k * 3, none⟩ (.int .i64 x.key.space)).setCell ⟨g, k * 3 + 1, none⟩ (.int .i64 x.key.page)).setCell ⟨g, k * 3 + 2, none⟩ (.int .i64 x.frame)) g (zs.set k x) rest := by
  obtain ⟨z, hz⟩ : ∃ z, zs[k]? = some z := ⟨_, List.getElem?_eq_getElem hk⟩
  have h1 := Bk.set h (k := k) (j := 0) (x := (z : NoteD)) (y := (⟨⟨x.key.space, z.key.page⟩, z.frame⟩ : NoteD)) (u := (.int .i64 x.key.space)) (off := k * 3) hz (by decide) rfl (by simp [sz])
  have h2 := Bk.set h1 (k := k) (j := 1) (x := (⟨⟨x.key.space, z.key.page⟩, z.frame⟩ : NoteD)) (y := (⟨⟨x.key.space, x.key.page⟩, z.frame⟩ : NoteD)) (u := (.int .i64 x.key.page)) (off := k * 3 + 1) (by rw [List.getElem?_set_self (by simpa using hk)]) (by decide) rfl (by simp [sz])
  rw [List.set_set] at h2
  have h3 := Bk.set h2 (k := k) (j := 2) (x := (⟨⟨x.key.space, x.key.page⟩, z.frame⟩ : NoteD)) (y := (⟨⟨x.key.space, x.key.page⟩, x.frame⟩ : NoteD)) (u := (.int .i64 x.frame)) (off := k * 3 + 2) (by rw [List.getElem?_set_self (by simpa using hk)]) (by decide) rfl (by simp [sz])
  rw [List.set_set] at h3
  exact h3
theorem Bk.int {zs : List Int} {z : Int} (h : Bk E w g zs rest) (hz : zs[k]? = some z) : w.cell? ⟨g, k, none⟩ = some (.int .i64 z) :=
  by have := h.cell_at hz (j := 0) (by decide) rfl; simpa [sz] using this
theorem Bk.set_int {zs : List Int} (h : Bk E w g zs rest) (x : Int) (hk : k < zs.length) : Bk E (w.setCell ⟨g, k, none⟩ (.int .i64 x)) g (zs.set k x) rest := by
  exact h.set (List.getElem?_eq_getElem hk) (j := 0) (y := x) (by decide) rfl (by simp [sz])
theorem Bk.bool {zs : List Bool} {z : Bool} (h : Bk E w g zs rest) (hz : zs[k]? = some z) : w.cell? ⟨g, k, none⟩ = some (.bool z) :=
  by have := h.cell_at hz (j := 0) (by decide) rfl; simpa [sz] using this
theorem Bk.set_bool {zs : List Bool} (h : Bk E w g zs rest) (x : Bool) (hk : k < zs.length) : Bk E (w.setCell ⟨g, k, none⟩ (.bool x)) g (zs.set k x) rest := by
  exact h.set (List.getElem?_eq_getElem hk) (j := 0) (y := x) (by decide) rfl (by simp [sz])
end

/-! ### Comparing lists element by element -/

theorem getElem?_lt {α : Type} {xs : List α} {k : Nat} {x : α} (h : xs[k]? = some x) : k < xs.length := (List.getElem?_eq_some_iff.1 h).1

theorem take_succ_of {α : Type} {xs : List α} {k : Nat} {x : α} (h : xs[k]? = some x) : xs.take (k + 1) = xs.take k ++ [x] := by
  rw [List.take_add_one, h]; rfl

theorem take_eq_step {α : Type} {xs ys : List α} {k : Nat} {x y : α} (hx : xs[k]? = some x) (hy : ys[k]? = some y) :
    xs.take (k + 1) = ys.take (k + 1) ↔ xs.take k = ys.take k ∧ x = y := by
  rw [take_succ_of hx, take_succ_of hy]
  have h1 : (xs.take k).length = (ys.take k).length := by
    have := getElem?_lt hx
    have := getElem?_lt hy
    rw [List.length_take, List.length_take]; omega
  constructor
  · intro h
    have := List.append_inj h h1
    exact ⟨this.1, by simpa using this.2⟩
  · rintro ⟨h, rfl⟩
    rw [h]

theorem ne_of_elem {α : Type} {xs ys : List α} {k : Nat} {x y : α} (hx : xs[k]? = some x) (hy : ys[k]? = some y) (h : x ≠ y) : xs ≠ ys := by
  rintro rfl
  rw [hx] at hy
  injection hy with hy
  exact h hy

theorem eq_of_take {α : Type} {xs ys : List α} {n : Nat} (hx : xs.length = n) (hy : ys.length = n) (h : xs.take n = ys.take n) : xs = ys := by
  rwa [List.take_of_length_le (by omega), List.take_of_length_le (by omega)] at h


/-- 0 ≤ n < e, as a Bool that the walk leaves alone. -/
def inB (n e : Int) : Bool := decide (0 ≤ n ∧ n < e)
theorem inB_true {n e : Int} : inB n e = true ↔ 0 ≤ n ∧ n < e := by simp [inB]
theorem inB_false {n e : Int} : inB n e = false ↔ ¬ (0 ≤ n ∧ n < e) := by simp [inB]

/-- Equality of data, as a Bool that the walk leaves alone. -/
def eqB {α : Type} [DecidableEq α] (a b : α) : Bool := decide (a = b)
theorem eqB_true {α : Type} [DecidableEq α] {a b : α} : eqB a b = true ↔ a = b := by simp [eqB]
theorem eqB_false {α : Type} [DecidableEq α] {a b : α} : eqB a b = false ↔ a ≠ b := by simp [eqB]
theorem eqB_self {α : Type} [DecidableEq α] (a : α) : eqB a a = true := by simp [eqB]

def szI (l : Int) (n : Nat) : Int := if l < n then -1 else l - n
theorem szI_neg {l : Int} {n : Nat} (h : l < n) : szI l n = -1 := if_pos h
theorem szI_pos {l : Int} {n : Nat} (h : ¬ l < n) : szI l n = l - n := if_neg h

/-- What a law writes over a slice: numbers that go on. -/
def markL {α : Type} (mk : Int → α) (step : Int) (k : Int) (n : Nat) : List α := (List.range n).map fun (i : Nat) => mk (k + step * (i : Int))
theorem markL_length {α : Type} (mk : Int → α) (step k : Int) (n : Nat) : (markL mk step k n).length = n := by simp [markL]
theorem markL_get {α : Type} (mk : Int → α) (step k : Int) {n i : Nat} (h : i < n) : (markL mk step k n)[i]? = some (mk (k + step * i)) := by simp [markL, h]
theorem markL_succ {α : Type} (mk : Int → α) (step k : Int) (n : Nat) : markL mk step k (n + 1) = markL mk step k n ++ [mk (k + step * n)] := by
  simp [markL, List.range_succ]

theorem take_set_succ {α : Type} {xs : List α} {k n : Nat} (x : α) (hx : xs.length = n) (hk : k < n) : (xs.set k x).take (k + 1) = xs.take k ++ [x] := by
  rw [List.take_succ_eq_append_getElem (by rw [List.length_set]; omega), List.getElem_set_self, List.take_set_of_le (Nat.le_refl _)]
end Go.Proofs.YtihlaecbdlgbiaaDoor
