/- Where a key lies in a valid table; when is a machine valid, a memory: plain Lean, no walk in sight. -/
import Derived.Test.YtihlaecbdlgbiaaDoorVp
import Derived.Test.YtihlaecbdlgbiaaDoorFo
import Derived.Test.YtihlaecbdlgbiaaDoorTp
import Derived.Test.YtihlaecbdlgbiaaDoorCw
import Derived.Test.YtihlaecbdlgbiaaDoorKg
namespace Go.Proofs.YtihlaecbdlgbiaaDoor
open Go.ChangeShapes Go.WideShapes Go.ChangeAt Go.RowKit
set_option linter.unusedVariables false

theorem pigeon : ∀ (l1 l2 : List Nat), l1.Nodup → (∀ x ∈ l1, x ∈ l2) → l2.length ≤ l1.length → ∀ x ∈ l2, x ∈ l1 := by
  intro l1
  induction l1 with
  | nil =>
    intro l2 _ _ hl x hx
    have h0 : l2.length = 0 := by simpa using hl
    rw [List.length_eq_zero_iff.1 h0] at hx
    cases hx
  | cons a l ih =>
    intro l2 hn hs hl x hx
    have ha : a ∈ l2 := hs a (by simp)
    obtain ⟨hn1, hn2⟩ := List.nodup_cons.1 hn
    by_cases e : x = a
    · subst e; simp
    · refine List.mem_cons_of_mem _ (ih (l2.erase a) hn2 (fun y hy => ?_) ?_ x ?_)
      · exact (List.mem_erase_of_ne (fun e2 => hn1 (by rw [← e2]; exact hy))).2 (hs y (List.mem_cons_of_mem _ hy))
      · rw [List.length_erase_of_mem ha]
        simp at hl
        omega
      · exact (List.mem_erase_of_ne e).2 hx

/-- The numbers of the used ones among the first k frames. -/
def usedIx (fs : List FrameD) (k : Nat) : List Nat := (List.range k).filter fun i => match fs[i]? with | some f => f.used | none => false
theorem usedIx_len (fs : List FrameD) : ∀ k, k ≤ fs.length → (usedIx fs k).length = usedN fs k := by
  intro k
  induction k with
  | zero => intro _; rfl
  | succ k ih =>
    intro hk
    obtain ⟨f, hf⟩ : ∃ f, fs[k]? = some f := ⟨_, List.getElem?_eq_getElem (by omega)⟩
    have h1 := ih (by omega)
    unfold usedIx at h1 ⊢
    rw [List.range_succ, List.filter_append, List.length_append, h1, usedN_succ hf]
    cases hu : f.used <;> simp [hf, hu]
theorem mem_usedIx {fs : List FrameD} {k i : Nat} : i ∈ usedIx fs k ↔ i < k ∧ ∃ f, fs[i]? = some f ∧ f.used = true := by
  unfold usedIx
  rw [List.mem_filter, List.mem_range]
  refine and_congr_right fun _ => ?_
  cases h : fs[i]? <;> simp

theorem Buckets.at_ {t : TableD} {k : Nat} {ls : List (List Nat)} (h : Buckets t k ls) (hk : k ≤ t.buckets.length) {b : Nat} {l : List Nat} (hl : ls[b]? = some l) : ∃ a, b < k ∧ t.buckets[b]? = some a ∧ Chain t.frames a l ∧ ∀ (i : Nat) (f : FrameD), i ∈ l → t.frames[i]? = some f → hashK f.key t.buckets.length = b := by
  have hb : b < k := by have := (List.getElem?_eq_some_iff.1 hl).1; rw [h.1] at this; exact this
  obtain ⟨a, ha⟩ : ∃ a, t.buckets[b]? = some a := ⟨_, List.getElem?_eq_getElem (by omega)⟩
  obtain ⟨h1, h2⟩ := h.2 b a l hb ha hl
  exact ⟨a, hb, ha, h1, h2⟩
theorem Buckets.nodup {t : TableD} {ls : List (List Nat)} (h : Buckets t t.buckets.length ls) : ls.flatten.Nodup := by
  unfold List.Nodup
  rw [List.pairwise_flatten]
  constructor
  · intro l hl
    obtain ⟨b, hb, e⟩ := List.getElem_of_mem hl
    obtain ⟨a, _, _, hc, _⟩ := h.at_ (Nat.le_refl _) (b := b) (l := l) (by rw [List.getElem?_eq_getElem hb, e])
    exact hc.nodup
  · rw [List.pairwise_iff_getElem]
    intro i j hi hj hij x hx y hy e
    subst e
    obtain ⟨a, _, _, hc, hh⟩ := h.at_ (Nat.le_refl _) (b := i) (List.getElem?_eq_getElem hi)
    obtain ⟨a', _, _, hc', hh'⟩ := h.at_ (Nat.le_refl _) (b := j) (List.getElem?_eq_getElem hj)
    obtain ⟨f, hf, _⟩ := hc.in_ hx
    have h1 := hh x f hx hf
    have h2 := hh' x f hy hf
    omega
/-- Every used frame of a valid table lies in a chain. -/
theorem TableOk.met {t : TableD} (h : TableOk t) {i : Nat} {f : FrameD} (hf : t.frames[i]? = some f) (hu : f.used = true) : ∃ (b : Nat) (a : Int) (l : List Nat), t.buckets[b]? = some a ∧ Chain t.frames a l ∧ i ∈ l ∧ hashK f.key t.buckets.length = b := by
  obtain ⟨_, _, ls, hb, hs⟩ := h
  have h1 : i ∈ ls.flatten := by
    refine pigeon ls.flatten (usedIx t.frames t.frames.length) hb.nodup (fun x hx => ?_) ?_ i (mem_usedIx.2 ⟨getElem?_lt hf, f, hf, hu⟩)
    · obtain ⟨l, hl, hx⟩ := List.mem_flatten.1 hx
      obtain ⟨b, hb', e⟩ := List.getElem_of_mem hl
      obtain ⟨a, _, _, hc, _⟩ := hb.at_ (Nat.le_refl _) (b := b) (l := l) (by rw [List.getElem?_eq_getElem hb', e])
      obtain ⟨g, hg, hgu⟩ := hc.in_ hx
      exact mem_usedIx.2 ⟨getElem?_lt hg, g, hg, hgu⟩
    · rw [usedIx_len _ _ (Nat.le_refl _), List.length_flatten, ← hs]
      exact Nat.le_refl _
  obtain ⟨l, hl, hi⟩ := List.mem_flatten.1 h1
  obtain ⟨b, hb', e⟩ := List.getElem_of_mem hl
  obtain ⟨a, _, ha, hc, hh⟩ := hb.at_ (Nat.le_refl _) (b := b) (l := l) (by rw [List.getElem?_eq_getElem hb', e])
  exact ⟨b, a, l, ha, hc, hi, hh i f hi hf⟩

def fitsKey (k : KeyD) (f : FrameD) : Bool := f.used && eqB f.key k
/-- The frame of a key, or -1. -/
def findF (t : TableD) (k : KeyD) : Int := firstOf (fitsKey k) t.frames
theorem findF_hit {t : TableD} {k : KeyD} (h : TableOk t) {x : Nat} {f : FrameD} (hx : t.frames[x]? = some f) (hu : f.used = true) (hk : f.key = k) : findF t k = x := by
  refine firstOf_at hx (by unfold fitsKey; rw [hu, hk, eqB_self]; rfl) fun j g hj hg => ?_
  unfold fitsKey
  cases hgu : g.used
  · rfl
  · have h1 := (h.2.1 x f (getElem?_lt hx) hx).2 j g hj hg hu hgu
    rw [hk] at h1
    rw [eqB_false.2 h1]
    rfl
theorem findF_miss {t : TableD} {k : KeyD} (h : TableOk t) {b : Nat} {a : Int} {l : List Nat} (hb : hashK k t.buckets.length = b) (ha : t.buckets[b]? = some a) (hl : Chain t.frames a l) (hno : ∀ (x : Nat) (f : FrameD), x ∈ l → t.frames[x]? = some f → f.key ≠ k) : findF t k = -1 := by
  refine firstOf_none fun j g hj hg => ?_
  unfold fitsKey
  cases hgu : g.used
  · rfl
  · by_cases e : g.key = k
    · obtain ⟨b', a', l', ha', hc', hi', hh'⟩ := h.met hg hgu
      rw [e, hb] at hh'
      have e2 : b' = b := by omega
      subst e2
      rw [ha] at ha'
      injection ha' with ha'
      subst ha'
      rw [hc'.one hl] at hi'
      exact absurd e (hno j g hi' hg)
    · rw [eqB_false.2 e]
      rfl
theorem findF_range {t : TableD} (k : KeyD) : findF t k = -1 ∨ ∃ (x : Nat) (f : FrameD), findF t k = (x : Int) ∧ t.frames[x]? = some f := by
  rcases firstOf_cases (fitsKey k) t.frames with ⟨h, _⟩ | ⟨x, f, h, hf, _⟩
  · exact .inl h
  · exact .inr ⟨x, f, h, hf⟩

/-! ### machines -/
def lineSpace (m : MachD) (x : LineD) : Int := if x.tag = -1 then 0 else (spaceOf m.tags x.tag).1
def lineAt (m : MachD) (x : LineD) : Int := findF m.table (keyFor (lineSpace m x) x.page)
/-- What a valid line must say in a valid machine. -/
def LineFits (m : MachD) (x : LineD) : Prop := (x.tag = -1 ↔ 128 ≤ x.page) ∧ (x.tag ≠ -1 → (spaceOf m.tags x.tag).2 = true) ∧ (∃ (i : Nat) (f : FrameD), lineAt m x = (i : Int) ∧ (i : Int) = x.frame ∧ m.table.frames[i]? = some f ∧ f.rights = x.rights) ∧ (x.wired = true → x.tag = -1)
def FrameFits (f : FrameD) : Prop := ¬ (f.used = true ∧ 128 ≤ f.key.page ∧ f.key.space ≠ 0)
def MachHead (m : MachD) : Prop := TableOk m.table ∧ cacheV m.cache = true ∧ tagsV m.tags = true ∧ 0 ≤ ownPlace m.tags.owns m.space
def MachOk (m : MachD) : Prop := MachHead m ∧ (∀ (i : Nat) (f : FrameD), m.table.frames[i]? = some f → FrameFits f) ∧ ∀ (i : Nat) (x : LineD), m.cache.lines[i]? = some x → x.valid = true → LineFits m x
open Classical in
noncomputable def machV (m : MachD) : Bool := decide (MachOk m)
theorem machV_iff {m : MachD} : machV m = true ↔ MachOk m := by unfold machV; exact @decide_eq_true_iff _ (Classical.propDecidable _)
theorem machV_no {m : MachD} (h : ¬ MachOk m) : machV m = false := by
  cases e : machV m
  · rfl
  · exact absurd (machV_iff.1 e) h
theorem machV_yes {m : MachD} (h : MachOk m) : machV m = true := machV_iff.2 h
open Classical in
noncomputable def lineFitsB (m : MachD) (x : LineD) : Bool := decide (LineFits m x)
theorem lineFitsB_iff {m : MachD} {x : LineD} : lineFitsB m x = true ↔ LineFits m x := by unfold lineFitsB; exact @decide_eq_true_iff _ (Classical.propDecidable _)
theorem lineFitsB_no {m : MachD} {x : LineD} (h : ¬ LineFits m x) : lineFitsB m x = false := by
  cases e : lineFitsB m x
  · rfl
  · exact absurd (lineFitsB_iff.1 e) h

theorem keyFor_ok {s p : Int} (hs : 0 ≤ s ∧ s < 16) (hp : 0 ≤ p ∧ p < 256) : keyOk (keyFor s p) := by
  unfold keyFor keyOk
  split <;> (constructor <;> (constructor <;> (dsimp only; omega)))
theorem spaceOf_range {t : TagsD} (g : Int) (h : tagsV t = true) : 0 ≤ (spaceOf t g).1 ∧ (spaceOf t g).1 < 16 := by
  rcases spaceOf_or t g with ⟨e, _⟩ | ⟨k, x, hv, hx, _, e⟩
  · rw [e]; dsimp only; omega
  · rw [e]
    have := (((tagsV_iff t).1 h).2 k x (getElem?_lt hx) hx).1
    dsimp only
    omega
theorem lineSpace_range {m : MachD} (x : LineD) (h : tagsV m.tags = true) : 0 ≤ lineSpace m x ∧ lineSpace m x < 16 := by
  unfold lineSpace
  split
  · omega
  · exact spaceOf_range _ h
theorem line_page {t : CacheD} (h : cacheV t = true) {i : Nat} {x : LineD} (hx : t.lines[i]? = some x) (hv : x.valid = true) : 0 ≤ x.page ∧ x.page < 256 := by
  have h1 := (((cacheV_iff t).1 h).2.1 i x (getElem?_lt hx) hx).1
  unfold lineV at h1
  rw [hv] at h1
  simp only [if_true, Bool.and_eq_true] at h1
  exact inB_true.1 h1.2.1

/-! ### memories -/
def MemOk (m : MemD) : Prop := MachOk m.mach ∧ m.marks.length = m.mach.table.frames.length ∧ (0 ≤ m.hand ∧ m.hand < m.marks.length) ∧ ∀ (i : Nat) (f : FrameD), m.marks[i]? = some true → m.mach.table.frames[i]? = some f → f.used = true
open Classical in
noncomputable def memV (m : MemD) : Bool := decide (MemOk m)
theorem memV_iff {m : MemD} : memV m = true ↔ MemOk m := by unfold memV; exact @decide_eq_true_iff _ (Classical.propDecidable _)
theorem memV_no {m : MemD} (h : ¬ MemOk m) : memV m = false := by
  cases e : memV m
  · rfl
  · exact absurd (memV_iff.1 e) h
/-- The first frame that is not used, or -1. -/
def freeF_ (t : TableD) : Int := firstOf (fun f => !f.used) t.frames
noncomputable def freeOf (m : MemD) : Int × Bool := if memV m = true ∧ 0 ≤ freeF_ m.mach.table then (freeF_ m.mach.table, true) else (0, false)
end Go.Proofs.YtihlaecbdlgbiaaDoor
