/- When is a table valid: plain Lean, no walk in sight. -/
import Derived.Test.YtihlaecbdlgbiaaDoorData
import Derived.Test.YtihlaecbdlgbiaaDoorWi
namespace Go.Proofs.YtihlaecbdlgbiaaDoor
open Go.ChangeShapes Go.WideShapes Go.ChangeAt Go.RowKit
set_option linter.unusedVariables false

def keyOk (k : KeyD) : Prop := (0 ≤ k.space ∧ k.space < 16) ∧ (0 ≤ k.page ∧ k.page < 256)
def hashK (k : KeyD) (n : Int) : Int := (k.space * 256 + k.page) * 2654435761 % 4294967296 * n / 4294967296
def frameOk (f : FrameD) : Prop := (f.used = false → f = ⟨false, ⟨0, 0⟩, 0, -1⟩) ∧ (f.used = true → keyOk f.key ∧ 0 ≤ f.rights ∧ f.rights < 8)
/-- The first k frames are valid, each alone, and no two of them have the same key. -/
def FramesUp (fs : List FrameD) (k : Nat) : Prop := ∀ i f, i < k → fs[i]? = some f → frameOk f ∧ ∀ j g, j < i → fs[j]? = some g → f.used = true → g.used = true → g.key ≠ f.key
def usedN (fs : List FrameD) (k : Nat) : Nat := ((fs.take k).filter (·.used)).length
theorem usedN_zero (fs : List FrameD) : usedN fs 0 = 0 := rfl
theorem usedN_succ {fs : List FrameD} {k : Nat} {f : FrameD} (h : fs[k]? = some f) : usedN fs (k + 1) = usedN fs k + (if f.used = true then 1 else 0) := by
  unfold usedN
  have : fs.take (k + 1) = fs.take k ++ [f] := by rw [List.take_add_one, h]; rfl
  rw [this, List.filter_append, List.length_append]
  cases hu : f.used <;> simp [hu]
theorem framesUp_zero (fs : List FrameD) : FramesUp fs 0 := fun i f h => by omega
theorem framesUp_succ {fs : List FrameD} {k : Nat} {f : FrameD} (h : FramesUp fs k) (hf : fs[k]? = some f) (h1 : frameOk f) (h2 : ∀ j g, j < k → fs[j]? = some g → f.used = true → g.used = true → g.key ≠ f.key) : FramesUp fs (k + 1) := by
  intro i g hi hg
  by_cases e : i = k
  · subst e
    rw [hf] at hg
    injection hg with hg
    subst hg
    exact ⟨h1, h2⟩
  · exact h i g (by omega) hg

/-- The chain that begins at a number: -1 ends it. -/
inductive Chain (fs : List FrameD) : Int → List Nat → Prop
  | nil : Chain fs (-1) []
  | cons {i : Nat} {f : FrameD} {l : List Nat} (hf : fs[i]? = some f) (hu : f.used = true) (hl : Chain fs f.next l) : Chain fs (i : Int) (i :: l)

theorem Chain.inv {fs : List FrameD} {a : Int} {l : List Nat} (h : Chain fs a l) : (a = -1 ∧ l = []) ∨ ∃ (i : Nat) (f : FrameD) (l2 : List Nat), a = (i : Int) ∧ l = i :: l2 ∧ fs[i]? = some f ∧ f.used = true ∧ Chain fs f.next l2 := by
  cases h with
  | nil => exact .inl ⟨rfl, rfl⟩
  | cons hf hu hl => exact .inr ⟨_, _, _, rfl, rfl, hf, hu, hl⟩
theorem Chain.one {fs : List FrameD} {a : Int} {l : List Nat} (h : Chain fs a l) : ∀ {l' : List Nat}, Chain fs a l' → l = l' := by
  induction h with
  | nil =>
    intro l' h'
    rcases h'.inv with ⟨_, e⟩ | ⟨i, f, l2, e, _⟩
    · exact e.symm
    · omega
  | @cons i f l hf hu hl ih =>
    intro l' h'
    rcases h'.inv with ⟨e, _⟩ | ⟨j, g, l2, e, e2, hg, _, hl2⟩
    · omega
    · have e3 : i = j := by omega
      subst e3
      rw [hf] at hg
      injection hg with hg
      subst hg
      rw [e2, ih hl2]
theorem Chain.from {fs : List FrameD} {a : Int} {l : List Nat} (h : Chain fs a l) : ∀ {j : Nat}, j ∈ l → ∃ l2, Chain fs (j : Int) (j :: l2) ∧ l2.length < l.length := by
  induction h with
  | nil => intro j hj; cases hj
  | @cons i f l hf hu hl ih =>
    intro j hj
    rcases List.mem_cons.1 hj with e | e
    · subst e
      exact ⟨l, .cons hf hu hl, by simp⟩
    · obtain ⟨l2, h1, h2⟩ := ih e
      exact ⟨l2, h1, by simp; omega⟩
theorem Chain.nodup {fs : List FrameD} {a : Int} {l : List Nat} (h : Chain fs a l) : l.Nodup := by
  induction h with
  | nil => exact List.nodup_nil
  | @cons i f l hf hu hl ih =>
    refine List.nodup_cons.2 ⟨fun hi => ?_, ih⟩
    obtain ⟨l2, h1, h2⟩ := hl.from hi
    have := (Chain.cons hf hu hl).one h1
    have h3 := congrArg List.length this
    simp at h3
    omega
theorem Chain.in_ {fs : List FrameD} {a : Int} {l : List Nat} (h : Chain fs a l) : ∀ {j : Nat}, j ∈ l → ∃ f, fs[j]? = some f ∧ f.used = true := by
  induction h with
  | nil => intro j hj; cases hj
  | @cons i f l hf hu hl ih =>
    intro j hj
    rcases List.mem_cons.1 hj with e | e
    · subst e; exact ⟨f, hf, hu⟩
    · exact ih e
theorem nodup_few : ∀ (n : Nat) (l : List Nat), l.Nodup → (∀ j, j ∈ l → j < n) → l.length ≤ n := by
  intro n
  induction n with
  | zero =>
    intro l hn hl
    cases l with
    | nil => exact Nat.le_refl _
    | cons a l => exact absurd (hl a (by simp)) (by omega)
  | succ n ih =>
    intro l hn hl
    by_cases hm : n ∈ l
    · have h1 := ih (l.erase n) (hn.erase n) (fun j hj => by
        have h2 := (hn.mem_erase_iff).1 hj
        have h3 := hl j h2.2
        have h4 := h2.1
        omega)
      rw [List.length_erase_of_mem hm] at h1
      omega
    · have h1 := ih l hn (fun j hj => by
        have h3 := hl j hj
        have h4 : j ≠ n := fun e => hm (e ▸ hj)
        omega)
      omega
theorem Chain.few {fs : List FrameD} {a : Int} {l : List Nat} (h : Chain fs a l) : l.length ≤ fs.length := by
  refine nodup_few _ _ h.nodup fun j hj => ?_
  obtain ⟨f, hf, _⟩ := h.in_ hj
  exact (List.getElem?_eq_some_iff.1 hf).1

/-- Walking a chain from a0: what has been walked, and where the walk stands. -/
def Trail (fs : List FrameD) (a0 : Int) (pre : List Nat) (a : Int) : Prop := ∀ l, Chain fs a0 l ↔ ∃ l2, l = pre ++ l2 ∧ Chain fs a l2
theorem Trail.start (fs : List FrameD) (a : Int) : Trail fs a [] a := fun l => by simp
theorem Trail.step {fs : List FrameD} {a0 : Int} {pre : List Nat} {i : Nat} {f : FrameD} (h : Trail fs a0 pre (i : Int)) (hf : fs[i]? = some f) (hu : f.used = true) : Trail fs a0 (pre ++ [i]) f.next := by
  intro l
  rw [h l]
  constructor
  · rintro ⟨l2, rfl, hc⟩
    rcases hc.inv with ⟨e, _⟩ | ⟨j, g, l3, e, e2, hg, _, hl3⟩
    · omega
    · have e3 : i = j := by omega
      subst e3
      rw [hf] at hg
      injection hg with hg
      subst hg
      exact ⟨l3, by rw [e2]; simp, hl3⟩
  · rintro ⟨l2, rfl, hc⟩
    exact ⟨i :: l2, by simp, .cons hf hu hc⟩
theorem Trail.ends {fs : List FrameD} {a0 : Int} {pre : List Nat} (h : Trail fs a0 pre (-1)) : Chain fs a0 pre := (h pre).2 ⟨[], by simp, .nil⟩
/-- A number that is no used frame ends no chain. -/
theorem Trail.bad {fs : List FrameD} {a0 a : Int} {pre : List Nat} (h : Trail fs a0 pre a) (hb : ∀ (i : Nat) (f : FrameD), a = (i : Int) → fs[i]? = some f → f.used = false) (ha : a ≠ -1) (l : List Nat) : ¬ Chain fs a0 l := by
  intro hc
  obtain ⟨l2, rfl, hc2⟩ := (h l).1 hc
  rcases hc2.inv with ⟨e, _⟩ | ⟨j, g, l3, e, e2, hg, hu, hl3⟩
  · exact ha e
  · rw [hb j g e hg] at hu
    cases hu
theorem Trail.long {fs : List FrameD} {a0 a : Int} {pre : List Nat} (h : Trail fs a0 pre a) (hp : fs.length ≤ pre.length) (ha : a ≠ -1) (l : List Nat) : ¬ Chain fs a0 l := by
  intro hc
  have h1 := hc.few
  obtain ⟨l2, rfl, hc2⟩ := (h l).1 hc
  rcases hc2.inv with ⟨e, _⟩ | ⟨j, g, l3, e, e2, _⟩
  · exact ha e
  · rw [e2] at h1
    simp at h1
    omega
theorem Trail.again {fs : List FrameD} {a0 : Int} {pre : List Nat} {i : Nat} (h : Trail fs a0 pre (i : Int)) (hi : i ∈ pre) (l : List Nat) : ¬ Chain fs a0 l := by
  intro hc
  have h1 := hc.nodup
  obtain ⟨l2, rfl, hc2⟩ := (h l).1 hc
  rcases hc2.inv with ⟨e, _⟩ | ⟨j, g, l3, e, e2, _⟩
  · omega
  · have e3 : i = j := by omega
    subst e3
    rw [e2] at h1
    exact (List.nodup_append.1 h1).2.2 i hi i (by simp) rfl

/-- The first k buckets' chains end, and hold what belongs there. -/
def Buckets (t : TableD) (k : Nat) (ls : List (List Nat)) : Prop := ls.length = k ∧ ∀ (b : Nat) (a : Int) (l : List Nat), b < k → t.buckets[b]? = some a → ls[b]? = some l → Chain t.frames a l ∧ ∀ (i : Nat) (f : FrameD), i ∈ l → t.frames[i]? = some f → hashK f.key t.buckets.length = b
def sumL (ls : List (List Nat)) : Nat := (ls.map List.length).sum
def TableHead (t : TableD) : Prop := (1 ≤ t.frames.length ∧ t.frames.length ≤ 16) ∧ 1 ≤ t.buckets.length ∧ t.buckets.length ≤ 16
def TableOk (t : TableD) : Prop := TableHead t ∧ FramesUp t.frames t.frames.length ∧ ∃ ls, Buckets t t.buckets.length ls ∧ sumL ls = usedN t.frames t.frames.length
open Classical in
noncomputable def tableV (t : TableD) : Bool := decide (TableOk t)
theorem tableV_yes {t : TableD} (h : TableOk t) : tableV t = true := by unfold tableV; exact @decide_eq_true _ (Classical.propDecidable _) h
theorem tableV_no {t : TableD} (h : ¬ TableOk t) : tableV t = false := by unfold tableV; exact @decide_eq_false _ (Classical.propDecidable _) h
theorem tableV_iff {t : TableD} : tableV t = true ↔ TableOk t := by unfold tableV; exact @decide_eq_true_iff _ (Classical.propDecidable _)

theorem Buckets.zero (t : TableD) : Buckets t 0 [] := ⟨rfl, fun b a l h => by omega⟩
theorem Buckets.succ {t : TableD} {k : Nat} {ls : List (List Nat)} {a : Int} {l : List Nat} (h : Buckets t k ls) (ha : t.buckets[k]? = some a) (hc : Chain t.frames a l) (hh : ∀ (i : Nat) (f : FrameD), i ∈ l → t.frames[i]? = some f → hashK f.key t.buckets.length = k) : Buckets t (k + 1) (ls ++ [l]) := by
  refine ⟨by simp [h.1], fun b a' l' hb ha' hl' => ?_⟩
  by_cases e : b = k
  · subst e
    rw [ha] at ha'
    injection ha' with ha'
    subst ha'
    rw [List.getElem?_append_right (by rw [h.1]; exact Nat.le_refl _), h.1, Nat.sub_self] at hl'
    injection hl' with hl'
    subst hl'
    exact ⟨hc, hh⟩
  · rw [List.getElem?_append_left (by rw [h.1]; omega)] at hl'
    exact h.2 b a' l' (by omega) ha' hl'
theorem sumL_succ (ls : List (List Nat)) (l : List Nat) : sumL (ls ++ [l]) = sumL ls + l.length := by unfold sumL; simp
theorem Buckets.one {t : TableD} {k : Nat} {ls ls' : List (List Nat)} (h : Buckets t k ls) (h' : Buckets t k ls') (hk : k ≤ t.buckets.length) : ls = ls' := by
  refine List.ext_getElem? fun b => ?_
  by_cases hb : b < k
  · obtain ⟨a, ha⟩ : ∃ a, t.buckets[b]? = some a := ⟨_, List.getElem?_eq_getElem (by omega)⟩
    obtain ⟨l, hl⟩ : ∃ l, ls[b]? = some l := ⟨_, List.getElem?_eq_getElem (by rw [h.1]; exact hb)⟩
    obtain ⟨l', hl'⟩ : ∃ l, ls'[b]? = some l := ⟨_, List.getElem?_eq_getElem (by rw [h'.1]; exact hb)⟩
    rw [hl, hl', (h.2 b a l hb ha hl).1.one (h'.2 b a l' hb ha hl').1]
  · rw [List.getElem?_eq_none (by rw [h.1]; omega), List.getElem?_eq_none (by rw [h'.1]; omega)]
theorem TableOk.bucket {t : TableD} (h : TableOk t) {b : Nat} {a : Int} (ha : t.buckets[b]? = some a) : ∃ l, Chain t.frames a l ∧ ∀ (i : Nat) (f : FrameD), i ∈ l → t.frames[i]? = some f → hashK f.key t.buckets.length = b := by
  obtain ⟨_, _, ls, hb, _⟩ := h
  have hlt : b < t.buckets.length := (List.getElem?_eq_some_iff.1 ha).1
  obtain ⟨l, hl⟩ : ∃ l, ls[b]? = some l := ⟨_, List.getElem?_eq_getElem (by rw [hb.1]; exact hlt)⟩
  exact ⟨l, hb.2 b a l hlt ha hl⟩
theorem not_nochain {t : TableD} {b : Nat} {a : Int} (ha : t.buckets[b]? = some a) (h : ∀ l, ¬ Chain t.frames a l) : ¬ TableOk t := fun ho => by
  obtain ⟨l, hl, _⟩ := ho.bucket ha
  exact h l hl
theorem not_hash {t : TableD} {b i : Nat} {a : Int} {l : List Nat} {f : FrameD} (ha : t.buckets[b]? = some a) (hc : Chain t.frames a l) (hi : i ∈ l) (hf : t.frames[i]? = some f) (hh : hashK f.key t.buckets.length ≠ b) : ¬ TableOk t := fun ho => by
  obtain ⟨l', hl', hh'⟩ := ho.bucket ha
  rw [hl'.one hc] at hh'
  exact hh (hh' i f hi hf)
/-- The walk stands at a used frame with another bucket's hash. -/
theorem not_hash_at {t : TableD} {b i : Nat} {a : Int} {pre : List Nat} {f : FrameD} (ha : t.buckets[b]? = some a) (hp : Trail t.frames a pre (i : Int)) (hf : t.frames[i]? = some f) (hh : hashK f.key t.buckets.length ≠ b) : ¬ TableOk t := fun ho => by
  obtain ⟨l, hl, hh'⟩ := ho.bucket ha
  obtain ⟨l2, rfl, hc2⟩ := (hp l).1 hl
  rcases hc2.inv with ⟨e, _⟩ | ⟨j, g, l3, e, e2, _⟩
  · omega
  · have e3 : i = j := by omega
    subst e3
    exact hh (hh' i f (by rw [e2]; simp) hf)
theorem tableOk_end {t : TableD} {ls : List (List Nat)} (h1 : TableHead t) (h2 : FramesUp t.frames t.frames.length) (h3 : Buckets t t.buckets.length ls) : TableOk t ↔ sumL ls = usedN t.frames t.frames.length := by
  constructor
  · rintro ⟨_, _, ls', h4, h5⟩
    rw [h3.one h4 (Nat.le_refl _)]
    exact h5
  · intro h
    exact ⟨h1, h2, ls, h3, h⟩
theorem not_frames {t : TableD} {i : Nat} {f : FrameD} (hf : t.frames[i]? = some f) (h : ¬ (frameOk f ∧ ∀ j g, j < i → t.frames[j]? = some g → f.used = true → g.used = true → g.key ≠ f.key)) : ¬ TableOk t := fun ho => h (ho.2.1 i f (List.getElem?_eq_some_iff.1 hf).1 hf)

theorem hashK_range {k : KeyD} {n : Nat} (hk : keyOk k) (hn : 1 ≤ n) (hm : n ≤ 16) : 0 ≤ hashK k n ∧ hashK k n < n := by
  unfold hashK keyOk at *
  obtain ⟨x, hx⟩ : ∃ x, x = (k.space * 256 + k.page) * 2654435761 % 4294967296 := ⟨_, rfl⟩
  rw [← hx]
  have h1 : 0 ≤ x ∧ x < 4294967296 := by omega
  have h2 : 0 ≤ x * (n : Int) := Int.mul_nonneg h1.1 (by omega)
  have h3 : x * (n : Int) < 4294967296 * (n : Int) := Int.mul_lt_mul_of_pos_right h1.2 (by omega)
  obtain ⟨y, hy⟩ : ∃ y, y = x * (n : Int) := ⟨_, rfl⟩
  rw [← hy] at h2 h3 ⊢
  omega
end Go.Proofs.YtihlaecbdlgbiaaDoor
