/- Joined: Pl, Qa, We, Wg, Wh, Wu. -/
import Derived.Deep.QuietTactic
import Derived.Test.YtbdlpbladpppjaaGreatDoorK6
import Derived.Test.YtbdlpbladpppjaaGreatDoorK3
import Derived.Test.YtbdlpbladpppjaaGreatDoorK2
import Derived.Test.YtbdlpbladpppjaaGreatDoorK1
namespace Go.Proofs.YtbdlpbladpppjaaGreatDoor
open Go.ChangeShapes Go.WideShapes Go.ChangeAt Go.RowKit
set_option linter.unusedVariables false

def dropPage (t : CacheD) (tag page : Int) : CacheD × Bool :=
 if (findLine t tag page).2 = true then (⟨t.lines.set (findLine t tag page).1.toNat noLine, t.hand⟩, true) else (noCache, false)
theorem findLine_at (t : CacheD) (tag page : Int) : (findLine t tag page).2 = true → ∃ (k : Nat) (x : LineD), (findLine t tag page).1 = (k : Int) ∧ t.lines[k]? = some x ∧ fitsB x tag page = true ∧ (∀ (j : Nat) (y : LineD), j < k → t.lines[j]? = some y → fitsB y tag page = false) ∧ cacheV t = true ∧ tagB tag = true ∧ inB page 256 = true := by
 unfold findLine placeOf
 intro h
 split at h
 ·split at h
  ·split at h
   ·split at h
    ·rename_i h1 h2 h3 h4
     rcases firstOf_cases (fun x => fitsB x tag page) t.lines with ⟨e, _⟩ | ⟨k, x, e, hx, hp, hj⟩
     ·omega
     ·simp only [h1, h2, h3, h4, if_true]
      exact ⟨k, x, e, hx, hp, hj, trivial, trivial, trivial⟩
    ·cases h
   ·cases h
  ·cases h
 ·cases h

theorem clashB_comm (x y : LineD) : clashB x y = clashB y x := by
 unfold clashB
 rw [Bool.eq_iff_iff]
 simp only [Bool.and_eq_true, Bool.or_eq_true, beq_iff_eq]
 constructor <;> (rintro ⟨a, b, c, d⟩; refine ⟨b, a, c.symm, ?_⟩; rcases d with d | d | d <;> simp [d])

structure CV (c : CacheD) : Prop where
 n1 : 1 ≤ c.lines.length
 n8 : c.lines.length ≤ 8
 h0 : 0 ≤ c.hand
 h1 : c.hand < c.lines.length
 ok : ∀ (i : Nat) (x : LineD), c.lines[i]? = some x → lineV x = true
 ap : ∀ (i j : Nat) (x y : LineD), i ≠ j → c.lines[i]? = some x → c.lines[j]? = some y → clashB x y = false
 lo : ∃ (i : Nat) (x : LineD), c.lines[i]? = some x ∧ x.wired = false

theorem cv_iff (c : CacheD) : cacheV c = true ↔ CV c := by
 rw [cacheV_iff]
 constructor
 ·rintro ⟨⟨a, b, d, e⟩, ho, hl⟩
  refine ⟨a, b, d, e, fun i x hx => (ho i x (getElem?_lt hx) hx).1, fun i j x y hij hx hy => ?_, ?_⟩
  ·rcases Nat.lt_or_gt_of_ne hij with h | h
   ·rw [clashB_comm]; exact (ho j y (getElem?_lt hy) hy).2 i x h hx
   ·exact (ho i x (getElem?_lt hx) hx).2 j y h hy
  ·unfold looseUp at hl
   rw [List.take_length, List.any_eq_true] at hl
   obtain ⟨x, hx, hw⟩ := hl
   obtain ⟨k, hk, rfl⟩ := List.getElem_of_mem hx
   exact ⟨k, _, List.getElem?_eq_getElem hk, by simpa using hw⟩
 ·rintro ⟨a, b, d, e, ok, ap, i, x, hx, hw⟩
  refine ⟨⟨a, b, d, e⟩, fun i x hi hx => ⟨ok i x hx, fun j y hj hy => ap i j x y (by omega) hx hy⟩, ?_⟩
  unfold looseUp
  rw [List.take_length, List.any_eq_true]
  exact ⟨x, List.mem_of_getElem? hx, by simp [hw]⟩

theorem lineV_no {x : LineD} (h : lineV x = true) (hv : x.valid = false) : x = noLine := by
 unfold lineV at h
 rw [hv] at h
 exact eqB_true.1 h
theorem lineV_yes {x : LineD} (h : lineV x = true) (hv : x.valid = true) : tagB x.tag = true ∧ inB x.page 256 = true ∧ inB x.frame 16 = true ∧ inB x.rights 8 = true := by
 unfold lineV at h
 rw [hv] at h
 simpa [Bool.and_eq_true] using h
theorem lineV_noLine : lineV noLine = true := by decide
theorem clash_no (x : LineD) : clashB x noLine = false := by unfold clashB; simp [noLine]
theorem clash_no' (x : LineD) : clashB noLine x = false := by unfold clashB; simp [noLine]

theorem tagB_iff {t : Int} : tagB t = true ↔ -1 ≤ t ∧ t < 8 := by simp [tagB]

/-- Two lines that fit one tag and one page clash. -/
theorem fits_clash {x y : LineD} {tag page : Int} (hx : fitsB x tag page = true) (hy : fitsB y tag page = true) : clashB x y = true := by
 unfold fitsB at hx hy
 unfold clashB
 simp only [Bool.and_eq_true, Bool.or_eq_true, beq_iff_eq] at hx hy ⊢
 obtain ⟨a, b, c⟩ := hx
 obtain ⟨a', b', c'⟩ := hy
 refine ⟨a, a', by omega, ?_⟩
 rcases c with c | c <;> rcases c' with c' | c' <;> simp [c, c']

/-- The one line that fits is found. -/
theorem place_uniq {t : CacheD} (h : CV t) {k : Nat} {x : LineD} {tag page : Int} (hx : t.lines[k]? = some x) (hf : fitsB x tag page = true) : placeOf t.lines tag page = (k : Int) := by
 unfold placeOf
 refine firstOf_at hx hf fun j y hj hy => ?_
 cases hy' : fitsB y tag page
 ·rfl
 ·have := h.ap k j x y (by omega) hx hy
  rw [fits_clash hf hy'] at this
  cases this
theorem place_none {xs : List LineD} {tag page : Int} (h : ∀ (j : Nat) (y : LineD), xs[j]? = some y → fitsB y tag page = false) : placeOf xs tag page = -1 :=
 firstOf_none fun j y _ hy => h j y hy
theorem findLine_eq {t : CacheD} (h : CV t) {tag page : Int} (ht : tagB tag = true) (hp : inB page 256 = true) : findLine t tag page = if 0 ≤ placeOf t.lines tag page then (placeOf t.lines tag page, true) else (0, false) := by
 unfold findLine
 rw [(cv_iff t).2 h, ht, hp]
 rfl
theorem findLine_found {t : CacheD} (h : CV t) {k : Nat} {x : LineD} {tag page : Int} (ht : tagB tag = true) (hx : t.lines[k]? = some x) (hf : fitsB x tag page = true) : findLine t tag page = ((k : Int), true) := by
 have hp : inB page 256 = true := by
  have hv : x.valid = true := by unfold fitsB at hf; simp [Bool.and_eq_true] at hf; exact hf.1
  have e : x.page = page := by unfold fitsB at hf; simp [Bool.and_eq_true] at hf; exact hf.2.1
  rw [← e]
  exact (lineV_yes (h.ok k x hx) hv).2.1
 rw [findLine_eq h ht hp, place_uniq h hx hf, if_pos (by omega)]
/-- What the victim is. -/
theorem victim_spec {t : CacheD} (h : CV t) : ∃ (v : Nat) (x : LineD), victimAt t = (v : Int) ∧ t.lines[v]? = some x ∧ x.wired = false ∧
  ((x.valid = false ∧ ∀ (j : Nat) (y : LineD), j < v → t.lines[j]? = some y → y.valid = true) ∨ ∀ (j : Nat) (y : LineD), t.lines[j]? = some y → y.valid = true) := by
 obtain ⟨h', d0, e1, e2, e3, e4, b1, b2, b3, b4⟩ := victim_facts ((cv_iff t).2 h)
 rcases firstOf_cases (fun x : LineD => !x.valid) t.lines with ⟨e, ha⟩ | ⟨k, x, e, hx, hp, hj⟩
 ·have ha' : ∀ (j : Nat) (y : LineD), t.lines[j]? = some y → y.valid = true := fun j y hy => by have := ha j y hy; simpa using this
  have hlt : (h' + d0) % t.lines.length < t.lines.length := Nat.mod_lt _ (by have := h.n1; omega)
  refine ⟨_, _, b2 (fun j y _ hy => ha' j y hy), List.getElem?_eq_getElem hlt, b4 _ (List.getElem?_eq_getElem hlt), .inr ha'⟩
 ·have hp' : x.valid = false := by simpa using hp
  have hj' : ∀ (j : Nat) (y : LineD), j < k → t.lines[j]? = some y → y.valid = true := fun j y h1 h2 => by have := hj j y h1 h2; simpa using this
  refine ⟨k, x, b1 k x hx hp' hj', hx, ?_, .inl ⟨hp', hj'⟩⟩
  rw [lineV_no (h.ok k x hx) hp']
  rfl
theorem get_set_cases {α : Type} {xs : List α} {k i : Nat} {x y : α} (h : (xs.set k x)[i]? = some y) : (i = k ∧ y = x ∧ k < xs.length) ∨ (i ≠ k ∧ xs[i]? = some y) := by
 by_cases e : i = k
 ·subst e
  have hl := getElem?_lt h
  rw [List.length_set] at hl
  rw [List.getElem?_set_self hl] at h
  injection h with h
  exact .inl ⟨rfl, h.symm, hl⟩
 ·rw [List.getElem?_set_ne (fun q => e q.symm)] at h
  exact .inr ⟨e, h⟩

/-- One line is laid anew. -/
theorem CV.set {t : CacheD} (h : CV t) {v : Nat} {x : LineD} {hd : Int} (h0 : 0 ≤ hd) (h1 : hd < t.lines.length) (hx : lineV x = true)
  (hc : ∀ (j : Nat) (y : LineD), j ≠ v → t.lines[j]? = some y → clashB x y = false) (hl : ∃ (i : Nat) (y : LineD), (t.lines.set v x)[i]? = some y ∧ y.wired = false) : CV ⟨t.lines.set v x, hd⟩ := by
 refine ⟨by simpa using h.n1, by simpa using h.n8, h0, by simpa using h1, fun i y hy => ?_, fun i j y z hij hy hz => ?_, hl⟩
 ·rcases get_set_cases hy with ⟨_, rfl, _⟩ | ⟨_, hy⟩
  ·exact hx
  ·exact h.ok i y hy
 ·rcases get_set_cases hy with ⟨e1, rfl, _⟩ | ⟨e1, hy'⟩ <;> rcases get_set_cases hz with ⟨e2, rfl, _⟩ | ⟨e2, hz'⟩
  ·omega
  ·exact hc j z e2 hz'
  ·rw [clashB_comm]; exact hc i y e1 hy'
  ·exact h.ap i j y z hij hy' hz'

/-! ### Dropping -/
end Go.Proofs.YtbdlpbladpppjaaGreatDoor
namespace Go.Proofs.YtbdlpbladpppjaaGreatDoor
open Go.ChangeShapes Go.WideShapes Go.ChangeAt Go.RowKit
set_option linter.unusedVariables false

theorem sub_len : ∀ (l1 l2 : List Nat), l1.Nodup → (∀ x ∈ l1, x ∈ l2) → l1.length ≤ l2.length := by
 intro l1
 induction l1 with
 | nil => intro l2 _ _; exact Nat.zero_le _
 | cons a l ih =>
  intro l2 hn hs
  obtain ⟨hn1, hn2⟩ := List.nodup_cons.1 hn
  have ha : a ∈ l2 := hs a (by simp)
  have h1 := ih (l2.erase a) hn2 (fun y hy => (List.mem_erase_of_ne (fun e2 => hn1 (by rw [← e2]; exact hy))).2 (hs y (List.mem_cons_of_mem _ hy)))
  rw [List.length_erase_of_mem ha] at h1
  have := List.length_pos_of_mem ha
  simp
  omega

/-- A valid table, told without counting. -/
structure TOk (t : TableD) : Prop where
 head : TableHead t
 up : FramesUp t.frames t.frames.length
 ch : ∀ (b : Nat) (a : Int), t.buckets[b]? = some a → ∃ l, Chain t.frames a l ∧ ∀ (i : Nat) (f : FrameD), i ∈ l → t.frames[i]? = some f → hashK f.key t.buckets.length = b
 met : ∀ (i : Nat) (f : FrameD), t.frames[i]? = some f → f.used = true → ∃ (b : Nat) (a : Int) (l : List Nat), t.buckets[b]? = some a ∧ Chain t.frames a l ∧ i ∈ l

theorem TOk.of {t : TableD} (h : TableOk t) : TOk t :=
 ⟨h.1, h.2.1, fun b a ha => h.bucket ha, fun i f hf hu => by
  obtain ⟨b, a, l, h1, h2, h3, _⟩ := h.met hf hu
  exact ⟨b, a, l, h1, h2, h3⟩⟩
theorem usedIx_nodup (fs : List FrameD) (k : Nat) : (usedIx fs k).Nodup := by
 unfold usedIx
 exact List.Nodup.sublist List.filter_sublist List.nodup_range
theorem TOk.lists {t : TableD} (h : TOk t) : ∀ k, k ≤ t.buckets.length → ∃ ls, Buckets t k ls := by
 intro k
 induction k with
 | zero => intro _; exact ⟨[], Buckets.zero t⟩
 | succ k ih =>
  intro hk
  obtain ⟨ls, hls⟩ := ih (by omega)
  have ha := List.getElem?_eq_getElem (l := t.buckets) (i := k) (by omega)
  obtain ⟨l, h1, h2⟩ := h.ch k _ ha
  exact ⟨_, hls.succ ha h1 h2⟩
theorem TOk.ok {t : TableD} (h : TOk t) : TableOk t := by
 obtain ⟨ls, hls⟩ := h.lists _ (Nat.le_refl _)
 refine ⟨h.head, h.up, ls, hls, ?_⟩
 have hfl : sumL ls = ls.flatten.length := by rw [List.length_flatten]; rfl
 rw [hfl, ← usedIx_len _ _ (Nat.le_refl _)]
 refine Nat.le_antisymm (sub_len _ _ hls.nodup fun x hx => ?_) (sub_len _ _ (usedIx_nodup _ _) fun x hx => ?_)
 ·obtain ⟨l, hl, hx⟩ := List.mem_flatten.1 hx
  obtain ⟨b, hb', e⟩ := List.getElem_of_mem hl
  obtain ⟨a, _, _, hc, _⟩ := hls.at_ (Nat.le_refl _) (b := b) (l := l) (by rw [List.getElem?_eq_getElem hb', e])
  obtain ⟨g, hg, hgu⟩ := hc.in_ hx
  exact mem_usedIx.2 ⟨getElem?_lt hg, g, hg, hgu⟩
 ·obtain ⟨hlt, f, hf, hu⟩ := mem_usedIx.1 hx
  obtain ⟨b, a, l, ha, hc, hi⟩ := h.met x f hf hu
  have hb : b < ls.length := by rw [hls.1]; exact getElem?_lt ha
  obtain ⟨h1, _⟩ := hls.2 b a ls[b] (getElem?_lt ha) ha (List.getElem?_eq_getElem hb)
  rw [hc.one h1] at hi
  exact List.mem_flatten.2 ⟨_, List.getElem_mem hb, hi⟩

/-! ### Who is where -/
theorem findF_at {t : TableD} {k : KeyD} {i : Nat} (h : findF t k = (i : Int)) : ∃ f, t.frames[i]? = some f ∧ f.used = true ∧ f.key = k := by
 unfold findF at h
 rcases firstOf_cases (fitsKey k) t.frames with ⟨e, _⟩ | ⟨x, f, e, hf, hp, _⟩
 ·omega
 ·have e2 : x = i := by omega
  subst e2
  unfold fitsKey at hp
  rw [Bool.and_eq_true] at hp
  exact ⟨f, hf, hp.1, eqB_true.1 hp.2⟩
theorem findF_neg {t : TableD} {k : KeyD} (h : findF t k < 0) {i : Nat} {f : FrameD} (hf : t.frames[i]? = some f) (hu : f.used = true) : f.key ≠ k := by
 unfold findF at h
 rcases firstOf_cases (fitsKey k) t.frames with ⟨_, e⟩ | ⟨x, f, e, _⟩
 ·have := e i f hf
  unfold fitsKey at this
  rw [hu, Bool.true_and] at this
  exact eqB_false.1 this
 ·omega
theorem findF_or {t : TableD} (k : KeyD) : findF t k = -1 ∨ ∃ (x : Nat) (f : FrameD), findF t k = (x : Int) ∧ t.frames[x]? = some f ∧ f.used = true ∧ f.key = k := by
 rcases findF_range (t := t) k with h | ⟨x, f, h, hf⟩
 ·exact .inl h
 ·obtain ⟨g, hg, h1, h2⟩ := findF_at h
  exact .inr ⟨x, g, h, hg, h1, h2⟩
theorem findF_none {t : TableD} {k : KeyD} (h : ∀ (i : Nat) (f : FrameD), t.frames[i]? = some f → f.used = true → f.key ≠ k) : findF t k = -1 := by
 rcases findF_or (t := t) k with e | ⟨x, f, _, hf, hu, hk⟩
 ·exact e
 ·exact absurd hk (h x f hf hu)

/-! ### Putting a key in -/
def bkOf (t : TableD) (k : KeyD) : Nat := (hashK k t.buckets.length).toNat
def linkT (t : TableD) (k : KeyD) (i : Nat) (rt : Int) : TableD := ⟨t.buckets.set (bkOf t k) (i : Int), t.frames.set i ⟨true, k, rt, t.buckets.getD (bkOf t k) 0⟩⟩
def putsT (t : TableD) (k : KeyD) (i : Nat) : Bool := !(t.frames.getD i freeF).used && decide (findF t k < 0)
def mapT (t : TableD) (k : KeyD) (i : Nat) (rt : Int) : TableD × Bool := if putsT t k i = true then (linkT t k i rt, true) else (noTable, false)

theorem bkOf_lt {t : TableD} (h : TableHead t) {k : KeyD} (hk : keyOk k) : bkOf t k < t.buckets.length ∧ hashK k t.buckets.length = (bkOf t k : Int) := by
 have := hashK_range hk h.2.1 h.2.2
 unfold bkOf
 omega
theorem Chain.set_free {fs : List FrameD} {a : Int} {l : List Nat} (h : Chain fs a l) {i : Nat} (g : FrameD) (hi : i ∉ l) : Chain (fs.set i g) a l := by
 induction h with
 | nil => exact .nil
 | @cons j f l hf hu hl ih =>
  simp only [List.mem_cons, not_or] at hi
  exact .cons (by rw [List.getElem?_set_ne hi.1]; exact hf) hu (ih hi.2)
theorem linkT_get {t : TableD} {k : KeyD} {i : Nat} {rt : Int} {j : Nat} {f : FrameD} (h : (linkT t k i rt).frames[j]? = some f) : (j = i ∧ f = ⟨true, k, rt, t.buckets.getD (bkOf t k) 0⟩ ∧ i < t.frames.length) ∨ (j ≠ i ∧ t.frames[j]? = some f) := get_set_cases h
theorem linkT_ok {t : TableD} (h : TableOk t) {k : KeyD} {i : Nat} {rt : Int} (hk : keyOk k) (hr : 0 ≤ rt ∧ rt < 8) {f : FrameD} (hf : t.frames[i]? = some f) (hu : f.used = false) (hn : findF t k < 0) : TableOk (linkT t k i rt) := by
 have hb := bkOf_lt h.1 hk
 have hi := getElem?_lt hf
 have hlb : (linkT t k i rt).buckets.length = t.buckets.length := by unfold linkT; simp
 have hlf : (linkT t k i rt).frames.length = t.frames.length := by unfold linkT; simp
 have T := TOk.of h
 have hnot : ∀ (a : Int) (l : List Nat), Chain t.frames a l → i ∉ l := fun a l hc hm => by
  obtain ⟨g, hg, hgu⟩ := hc.in_ hm
  rw [hf] at hg
  injection hg with hg
  subst hg
  rw [hu] at hgu
  cases hgu
 have hba := List.getElem?_eq_getElem hb.1
 obtain ⟨l0, hc0, hh0⟩ := T.ch _ _ hba
 have hgd : t.buckets.getD (bkOf t k) 0 = t.buckets[bkOf t k] := by rw [List.getD_eq_getElem?_getD, hba]; rfl
 have hnew : Chain (linkT t k i rt).frames (i : Int) (i :: l0) := by
  refine .cons (f := ⟨true, k, rt, t.buckets.getD (bkOf t k) 0⟩) (by unfold linkT; exact List.getElem?_set_self hi) rfl ?_
  rw [hgd]
  exact hc0.set_free _ (hnot _ _ hc0)
 refine TOk.ok ⟨?_, ?_, ?_, ?_⟩
 ·unfold TableHead
  rw [hlb, hlf]
  exact h.1
 ·intro j g hj hg
  rcases linkT_get hg with ⟨rfl, rfl, _⟩ | ⟨hne, hg'⟩
  ·refine ⟨⟨(fun e => by cases e), fun _ => ⟨hk, hr⟩⟩, fun j' g' hj' hg' _ hu' => ?_⟩
   rcases linkT_get hg' with ⟨rfl, _, _⟩ | ⟨_, hg2⟩
   ·omega
   ·exact findF_neg hn hg2 hu'
  ·have h1 := h.2.1 j g (getElem?_lt hg') hg'
   refine ⟨h1.1, fun j' g' hj' hg2 hu1 hu2 => ?_⟩
   rcases linkT_get hg2 with ⟨rfl, rfl, _⟩ | ⟨_, hg3⟩
   ·exact fun e => findF_neg hn hg' hu1 e.symm
   ·exact h1.2 j' g' hj' hg3 hu1 hu2
 ·intro b a hba'
  rw [hlb]
  rcases get_set_cases (show (t.buckets.set (bkOf t k) (i : Int))[b]? = some a from hba') with ⟨rfl, rfl, _⟩ | ⟨hne, hba2⟩
  ·refine ⟨i :: l0, hnew, fun j g hj hg => ?_⟩
   rcases linkT_get hg with ⟨rfl, rfl, _⟩ | ⟨hne, hg'⟩
   ·exact hb.2
   ·rcases List.mem_cons.1 hj with e | e
    ·exact absurd e hne
    ·exact hh0 j g e hg'
  ·obtain ⟨l, hc, hh⟩ := T.ch b a hba2
   refine ⟨l, hc.set_free _ (hnot _ _ hc), fun j g hj hg => ?_⟩
   rcases linkT_get hg with ⟨rfl, rfl, _⟩ | ⟨_, hg'⟩
   ·exact absurd hj (hnot _ _ hc)
   ·exact hh j g hj hg'
 ·intro j g hg hgu
  rcases linkT_get hg with ⟨rfl, rfl, _⟩ | ⟨hne, hg'⟩
  ·exact ⟨bkOf t k, _, _, by unfold linkT; exact List.getElem?_set_self hb.1, hnew, by simp⟩
  ·obtain ⟨b, a, l, ha, hc, hm⟩ := T.met j g hg' hgu
   by_cases e : b = bkOf t k
   ·subst e
    rw [hba] at ha
    injection ha with ha
    subst ha
    rw [hc.one hc0] at hm
    exact ⟨bkOf t k, _, _, by unfold linkT; exact List.getElem?_set_self hb.1, hnew, by simp [hm]⟩
   ·exact ⟨b, a, l, by unfold linkT; simp only; rw [List.getElem?_set_ne (fun q => e q.symm)]; exact ha, hc.set_free _ (hnot _ _ hc), hm⟩
theorem linkT_find {t : TableD} {k : KeyD} {i : Nat} {rt : Int} (h : TableOk (linkT t k i rt)) (hi : i < t.frames.length) : findF (linkT t k i rt) k = (i : Int) :=
 findF_hit h (f := ⟨true, k, rt, t.buckets.getD (bkOf t k) 0⟩) (by unfold linkT; exact List.getElem?_set_self hi) rfl rfl
theorem linkT_keep {t : TableD} {k : KeyD} {i : Nat} {rt : Int} {j : Nat} {f g : FrameD} (hf : t.frames[i]? = some f) (hu : f.used = false) (hg : t.frames[j]? = some g) (hgu : g.used = true) : (linkT t k i rt).frames[j]? = some g := by
 have hne : i ≠ j := by
  rintro rfl
  rw [hf] at hg
  injection hg with hg
  subst hg
  rw [hu] at hgu
  cases hgu
 unfold linkT
 simp only
 rw [List.getElem?_set_ne hne]
 exact hg

/-! ### Taking a key out -/
def skipF (i : Nat) (nx : Int) (f : FrameD) : FrameD := if f.used = true ∧ f.next = (i : Int) then { f with next := nx } else f
/-- The frames behind the loop that goes on over the first n of them. -/
def skipTo (fs : List FrameD) (i : Nat) (nx : Int) (n : Nat) : List FrameD := fs.mapIdx fun j f => if j = i then freeF else if j < n then skipF i nx f else f
def unlinkT (t : TableD) (i : Nat) : TableD :=
 if t.buckets.getD (bkOf t (t.frames.getD i freeF).key) 0 = (i : Int) then ⟨t.buckets.set (bkOf t (t.frames.getD i freeF).key) (t.frames.getD i freeF).next, t.frames.set i freeF⟩
 else ⟨t.buckets, skipTo t.frames i (t.frames.getD i freeF).next t.frames.length⟩
theorem skipTo_length (fs : List FrameD) (i : Nat) (nx : Int) (n : Nat) : (skipTo fs i nx n).length = fs.length := by unfold skipTo; simp
theorem skipTo_get {fs : List FrameD} {i : Nat} {nx : Int} {n j : Nat} {f : FrameD} (h : fs[j]? = some f) : (skipTo fs i nx n)[j]? = some (if j = i then freeF else if j < n then skipF i nx f else f) := by
 unfold skipTo
 rw [List.getElem?_mapIdx, h]
 rfl
theorem skipF_facts (i : Nat) (nx : Int) (f : FrameD) : (skipF i nx f).used = f.used ∧ (skipF i nx f).key = f.key ∧ (skipF i nx f).rights = f.rights := by
 unfold skipF
 split <;> exact ⟨rfl, rfl, rfl⟩
/-- A chain that goes through i goes on behind it. -/
theorem Chain.skip {fs fs' : List FrameD} {i : Nat} {nx : Int} (hi : ∀ f, fs[i]? = some f → f.next = nx) (ho : ∀ (j : Nat) (f : FrameD), j ≠ i → fs[j]? = some f → f.used = true → fs'[j]? = some (skipF i nx f)) {a : Int} {l : List Nat} (h : Chain fs a l) :
  Chain fs' (if a = (i : Int) then nx else a) (l.filter (fun j => decide (j ≠ i))) := by
 induction h with
 | nil => rw [if_neg (by omega)]; exact .nil
 | @cons j f l hf hu hl ih =>
  by_cases e : j = i
  ·subst e
   have hn := hi f hf
   rw [if_pos rfl, List.filter_cons_of_neg (by simp)]
   rw [hn] at ih
   split at ih <;> exact ih
  ·rw [if_neg (by omega), List.filter_cons_of_pos (by simp [e])]
   refine .cons (ho j f e hf hu) (by rw [(skipF_facts i nx f).1]; exact hu) ?_
   have h2 : (skipF i nx f).next = if f.next = (i : Int) then nx else f.next := by
    unfold skipF
    rw [hu]
    by_cases e2 : f.next = (i : Int)
    ·rw [if_pos ⟨rfl, e2⟩, if_pos e2]
    ·rw [if_neg (fun q => e2 q.2), if_neg e2]
   rw [h2]
   exact ih
/-- What the table is behind it, told in one way. -/
theorem unlinkT_facts {t : TableD} (h : TableOk t) {i : Nat} {f : FrameD} (hf : t.frames[i]? = some f) (hu : f.used = true) :
  (unlinkT t i).buckets.length = t.buckets.length ∧ (unlinkT t i).frames.length = t.frames.length ∧ (unlinkT t i).frames[i]? = some freeF ∧
  (∀ (j : Nat) (g : FrameD), j ≠ i → t.frames[j]? = some g → ∃ g', (unlinkT t i).frames[j]? = some g' ∧ g'.used = g.used ∧ g'.key = g.key ∧ g'.rights = g.rights ∧ (g.used = false → g' = g) ∧ (g.used = true → g' = skipF i f.next g)) ∧
  (∀ (b : Nat) (a : Int), t.buckets[b]? = some a → (unlinkT t i).buckets[b]? = some (if a = (i : Int) then f.next else a)) := by
 have T := TOk.of h
 have hi := getElem?_lt hf
 have hfk : keyOk f.key := (((h.2.1 i f hi hf).1).2 hu).1
 have hb := bkOf_lt h.1 hfk
 have hgd : t.frames.getD i freeF = f := getD_of hf
 obtain ⟨b0, a0, l0, ha0, hc0, hm0, hh0⟩ := h.met hf hu
 have hb0 : b0 = bkOf t f.key := by have := hb.2; omega
 subst hb0
 have hbd : t.buckets.getD (bkOf t f.key) 0 = a0 := getD_of ha0
 have hother : ∀ (b : Nat) (a : Int), t.buckets[b]? = some a → b ≠ bkOf t f.key → a ≠ (i : Int) := fun b a ha hne e => by
  obtain ⟨l, hc, hh⟩ := T.ch b a ha
  subst e
  rcases hc.inv with ⟨e, _⟩ | ⟨j, g, l3, e, e2, hg, hgu, _⟩
  ·omega
  ·have e3 : i = j := by omega
   subst e3
   have := hh i f (by rw [e2]; simp) hf
   omega
 unfold unlinkT
 rw [hgd, hbd]
 by_cases e : a0 = (i : Int)
 ·rw [if_pos e]
  subst e
  have hno : ∀ (j : Nat) (g : FrameD), t.frames[j]? = some g → g.used = true → g.next ≠ (i : Int) := fun j g hg hgu e => by
   obtain ⟨b, a, l, ha, hc, hm, hh⟩ := h.met hg hgu
   obtain ⟨l2, hc2, hlen⟩ := hc.from hm
   rcases hc2.inv with ⟨e1, _⟩ | ⟨j', g', l3, e1, e2, hg', _, hc3⟩
   ·omega
   ·have e3 : j = j' := by omega
    subst e3
    rw [hg] at hg'
    injection hg' with hg'
    subst hg'
    injection e2 with _ e2
    subst e2
    rw [e] at hc3
    have e4 := hc3.one hc0
    subst e4
    have hb' : b = bkOf t f.key := by
     have hjl : i ∈ l := by
      have : ∀ {a : Int} {l : List Nat}, Chain t.frames a l → ∀ {j : Nat} {l2 : List Nat}, j ∈ l → Chain t.frames (j : Int) (j :: l2) → ∀ x ∈ l2, x ∈ l := by
       intro a l hc
       induction hc with
       | nil => intro j l2 hj; cases hj
       | @cons p q r hq hqu hr ih =>
        intro j l2 hj hc2 x hx
        rcases List.mem_cons.1 hj with e | e
        ·subst e
         have := (Chain.cons hq hqu hr).one hc2
         injection this with _ this
         rw [this]
         exact List.mem_cons_of_mem _ hx
        ·exact List.mem_cons_of_mem _ (ih e hc2 x hx)
      exact this hc hm hc2 i hm0
     have hx := (T.ch b a ha)
     obtain ⟨lx, hcx, hhx⟩ := hx
     rw [hc.one hcx] at hjl
     have := hhx i f hjl hf
     omega
    subst hb'
    rw [ha0] at ha
    injection ha with ha
    subst ha
    rw [hc.one hc0] at hlen
    simp at hlen
  refine ⟨by simp, by simp, List.getElem?_set_self hi, fun j g hne hg => ⟨g, by simp only; rw [List.getElem?_set_ne (fun q => hne q.symm)]; exact hg, rfl, rfl, rfl, fun _ => rfl, fun hgu => ?_⟩, fun b a ha => ?_⟩
  ·unfold skipF
   rw [if_neg (fun q => hno j g hg hgu q.2)]
  ·by_cases eb : b = bkOf t f.key
   ·subst eb
    rw [ha0] at ha
    injection ha with ha
    subst ha
    rw [if_pos rfl]
    exact List.getElem?_set_self hb.1
   ·rw [if_neg (hother b a ha eb)]
    simp only
    rw [List.getElem?_set_ne (fun q => eb q.symm)]
    exact ha
 ·rw [if_neg e]
  refine ⟨rfl, skipTo_length _ _ _ _, by rw [skipTo_get hf, if_pos rfl], fun j g hne hg => ?_, fun b a ha => ?_⟩
  ·refine ⟨skipF i f.next g, by rw [skipTo_get hg, if_neg hne, if_pos (getElem?_lt hg)], (skipF_facts _ _ _).1, (skipF_facts _ _ _).2.1, (skipF_facts _ _ _).2.2, fun hgu => ?_, fun _ => rfl⟩
   unfold skipF
   rw [if_neg (fun q => by rw [hgu] at q; cases q.1)]
  ·by_cases eb : b = bkOf t f.key
   ·subst eb
    rw [ha0] at ha
    injection ha with ha
    subst ha
    rw [if_neg e]
    exact ha0
   ·rw [if_neg (hother b a ha eb)]
    exact ha
theorem unlinkT_ok {t : TableD} (h : TableOk t) {i : Nat} {f : FrameD} (hf : t.frames[i]? = some f) (hu : f.used = true) : TableOk (unlinkT t i) := by
 obtain ⟨hlb, hlf, hfree, hoth, hbk⟩ := unlinkT_facts h hf hu
 have T := TOk.of h
 have back : ∀ (j : Nat) (g' : FrameD), (unlinkT t i).frames[j]? = some g' → (j = i ∧ g' = freeF) ∨ (j ≠ i ∧ ∃ g, t.frames[j]? = some g ∧ g'.used = g.used ∧ g'.key = g.key ∧ g'.rights = g.rights ∧ (g.used = false → g' = g)) := by
  intro j g' hg'
  by_cases e : j = i
  ·subst e
   rw [hfree] at hg'
   injection hg' with hg'
   exact .inl ⟨rfl, hg'.symm⟩
  ·have hlt := getElem?_lt hg'
   rw [hlf] at hlt
   have hg := List.getElem?_eq_getElem hlt
   obtain ⟨g2, h1, h2, h3, h4, h5, _⟩ := hoth j _ e hg
   rw [h1] at hg'
   injection hg' with hg'
   subst hg'
   exact .inr ⟨e, _, hg, h2, h3, h4, h5⟩
 have hch : ∀ {a : Int} {l : List Nat}, Chain t.frames a l → Chain (unlinkT t i).frames (if a = (i : Int) then f.next else a) (l.filter (fun j => decide (j ≠ i))) := fun hc =>
  hc.skip (fun g hg => by rw [hf] at hg; injection hg with hg; rw [hg]) (fun j g hne hg hgu => by
   obtain ⟨g', h1, _, _, _, _, h2⟩ := hoth j g hne hg
   rw [h1, h2 hgu])
 refine TOk.ok ⟨?_, ?_, ?_, ?_⟩
 ·unfold TableHead
  rw [hlb, hlf]
  exact h.1
 ·intro j g' hj hg'
  rcases back j g' hg' with ⟨rfl, rfl⟩ | ⟨hne, g, hg, h1, h2, h3, h4⟩
  ·exact ⟨⟨fun _ => rfl, fun e => by cases e⟩, fun j' g2 _ _ e => by cases e⟩
  ·have h5 := h.2.1 j g (getElem?_lt hg) hg
   refine ⟨⟨fun e => ?_, fun e => ?_⟩, fun j' g2 hj' hg2 hu1 hu2 => ?_⟩
   ·have e' : g.used = false := by rw [← h1]; exact e
    rw [h4 e']
    exact h5.1.1 e'
   ·rw [h2, h3]
    exact h5.1.2 (by rw [← h1]; exact e)
   ·rcases back j' g2 hg2 with ⟨rfl, rfl⟩ | ⟨hne', g3, hg3, k1, k2, _⟩
    ·cases hu2
    ·rw [h2, k2]
     exact h5.2 j' g3 hj' hg3 (by rw [← h1]; exact hu1) (by rw [← k1]; exact hu2)
 ·intro b a' ha'
  rw [hlb]
  have hlt := getElem?_lt ha'
  rw [hlb] at hlt
  have ha := List.getElem?_eq_getElem hlt
  rw [hbk b _ ha] at ha'
  injection ha' with ha'
  subst ha'
  obtain ⟨l, hc, hh⟩ := T.ch b _ ha
  refine ⟨_, hch hc, fun j g' hj hg' => ?_⟩
  rw [List.mem_filter] at hj
  rcases back j g' hg' with ⟨rfl, _⟩ | ⟨_, g, hg, _, h2, _⟩
  ·simp at hj
  ·rw [h2]
   exact hh j g hj.1 hg
 ·intro j g' hg' hgu'
  rcases back j g' hg' with ⟨rfl, rfl⟩ | ⟨hne, g, hg, h1, _⟩
  ·cases hgu'
  ·obtain ⟨b, a, l, ha, hc, hm⟩ := T.met j g hg (by rw [← h1]; exact hgu')
   exact ⟨b, _, _, hbk b a ha, hch hc, List.mem_filter.2 ⟨hm, by simpa using hne⟩⟩
theorem unlinkT_keep {t : TableD} (h : TableOk t) {i : Nat} {f : FrameD} (hf : t.frames[i]? = some f) (hu : f.used = true) {j : Nat} {g : FrameD} (hg : t.frames[j]? = some g) (hne : j ≠ i) : ∃ g', (unlinkT t i).frames[j]? = some g' ∧ g'.used = g.used ∧ g'.key = g.key ∧ g'.rights = g.rights := by
 obtain ⟨_, _, _, hoth, _⟩ := unlinkT_facts h hf hu
 obtain ⟨g', h1, h2, h3, h4, _⟩ := hoth j g hne hg
 exact ⟨g', h1, h2, h3, h4⟩
theorem unlinkT_back {t : TableD} (h : TableOk t) {i : Nat} {f : FrameD} (hf : t.frames[i]? = some f) (hu : f.used = true) {j : Nat} {g' : FrameD} (hg' : (unlinkT t i).frames[j]? = some g') (hgu : g'.used = true) : j ≠ i ∧ ∃ g, t.frames[j]? = some g ∧ g.used = true ∧ g'.key = g.key ∧ g'.rights = g.rights := by
 obtain ⟨_, hlf, hfree, hoth, _⟩ := unlinkT_facts h hf hu
 have hne : j ≠ i := by
  rintro rfl
  rw [hfree] at hg'
  injection hg' with hg'
  subst hg'
  cases hgu
 have hlt := getElem?_lt hg'
 rw [hlf] at hlt
 have hg := List.getElem?_eq_getElem hlt
 obtain ⟨g2, h1, h2, h3, h4, _⟩ := hoth j _ hne hg
 rw [h1] at hg'
 injection hg' with hg'
 subst hg'
 exact ⟨hne, _, hg, by rw [← h2]; exact hgu, h3, h4⟩

/-! ### A new table -/
theorem newTable_ok {f b : Int} (hf : 1 ≤ f ∧ f ≤ 16) (hb : 1 ≤ b ∧ b ≤ 16) : (newTable f b).2 = true ∧ TableOk (newTable f b).1 ∧ (newTable f b).1.frames.length = f.toNat ∧ (newTable f b).1.buckets.length = b.toNat := by
 have e : newTable f b = (⟨List.replicate b.toNat (-1), List.replicate f.toNat freeF⟩, true) := by unfold newTable; rw [if_pos ⟨hf, hb⟩]
 rw [e]
 have hfr : ∀ (i : Nat) (g : FrameD), (List.replicate f.toNat freeF)[i]? = some g → g = freeF := fun i g hg => by
  rw [List.getElem?_replicate] at hg
  split at hg
  ·injection hg with hg; exact hg.symm
  ·cases hg
 refine ⟨rfl, TOk.ok ⟨?_, ?_, ?_, ?_⟩, by simp, by simp⟩
 ·unfold TableHead
  simp only [List.length_replicate]
  omega
 ·intro i g hi hg
  have := hfr i g hg
  subst this
  exact ⟨⟨fun _ => rfl, fun e => by cases e⟩, fun j g' _ _ e => by cases e⟩
 ·intro i a ha
  simp only [List.getElem?_replicate] at ha
  split at ha
  ·injection ha with ha
   subst ha
   exact ⟨[], .nil, fun i f hi => by cases hi⟩
  ·cases ha
 ·intro i g hg hu
  have := hfr i g hg
  subst this
  cases hu
end Go.Proofs.YtbdlpbladpppjaaGreatDoor
namespace Go.Proofs.YtbdlpbladpppjaaGreatDoor
open Go.ChangeShapes Go.WideShapes Go.ChangeAt Go.RowKit
open Rec (sz cs)
set_option linter.unusedVariables false
set_option maxRecDepth 100000

theorem Bk.ne {α β : Type} [Rec α] [Rec β] {w : World} {E E' : TypeId} {g g' : Nat} {xs : List α} {ys : List β} {r r' : List Value} (h : Bk E w g xs r) (h' : Bk E' w g' ys r') (hE : E ≠ E') : g ≠ g' := by
 rintro rfl
 have h1 : w.heap[g]? = _ := h
 have h2 : w.heap[g]? = _ := h'
 rw [h1] at h2
 injection h2 with h2
 injection h2 with h2 h3
 exact hE h3

/-- That table comes back, in slices of the call's own. -/
def TabIs (q : TableD) (w : World) (e : Ending) (w' : World) : Prop := ∃ (A : Option Addr) (c : Nat) (B : Option Addr) (d : Nat), e = .returned (.agg #[.slice A q.buckets.length c, .slice B q.frames.length d]) ∧ Fr 3 w' w.heap.size A c q.buckets ∧ Fr 45 w' w.heap.size B d q.frames ∧ Ex w w'
/-- That table and that word come back. -/
def TabOr (q : TableD × Bool) (w : World) (e : Ending) (w' : World) : Prop := ∃ (A : Option Addr) (c : Nat) (B : Option Addr) (d : Nat), e = .returned (.tuple #[.agg #[.slice A q.1.buckets.length c, .slice B q.1.frames.length d], .bool q.2]) ∧ Fr 3 w' w.heap.size A c q.1.buckets ∧ Fr 45 w' w.heap.size B d q.1.frames ∧ Ex w w'

set_option maxHeartbeats 4000000 in
theorem l3Map_c (t : TableD) (A : Option Addr) (c : Nat) (B : Option Addr) (d : Nat) (k : KeyD) (i : Nat) (rt : Int) (w : World) (hx : Rd w A t.buckets) (hy : Rd w B t.frames) (hc : t.buckets.length ≤ c) (hd : t.frames.length ≤ d) (hc2 : c ≤ maxLen) (hd2 : d ≤ maxLen)
  (hm1 : 1 ≤ t.buckets.length) (hm2 : t.buckets.length ≤ 16) (hn2 : t.frames.length ≤ 16) (hi : i < t.frames.length) (hk : keyOk k) :
  Calls Tryz.prog 111 #[.agg #[.slice A t.buckets.length c, .slice B t.frames.length d], .agg #[.int .i64 k.space, .int .i64 k.page], .int .i64 i, .int .i64 rt] w (TabIs (linkT t k i rt) w) := by
 obtain ⟨hv1, hv2⟩ := hashK_range (n := t.buckets.length) hk hm1 hm2
 obtain ⟨b, eb⟩ : ∃ b : Nat, hashK k t.buckets.length = (b : Int) := ⟨(hashK k t.buckets.length).toNat, by omega⟩
 have hbm : b < t.buckets.length := by omega
 have HX := zq hx
 have HY := zq hy
 have C1 := zq (fun w' (h : Ex w w') => l3Copy_c t A c B d w' (hx.ex h) (hy.ex h) (by omega) (by omega) hc hd hc2 hd2)
 have CH := zq (fun w => hashS_c k (t.buckets.length : Int) w hk (by omega) (by omega))
 rw [eb] at CH
 have hix := List.getElem?_eq_getElem hi
 have hbx := List.getElem?_eq_getElem hbm
 have HQ : Hid (linkT t k i rt = ⟨t.buckets.set b (i : Int), t.frames.set i ⟨true, k, rt, t.buckets[b]⟩⟩) := zq (by unfold linkT bkOf; rw [eb, Int.toNat_natCast, getD_of hbx])
 have HFIN : Hid (∀ (A' B' : Option Addr) (c' d' : Nat) (w' : World), Fr 3 w' w.heap.size A' c' (t.buckets.set b (i : Int)) → Fr 45 w' w.heap.size B' d' (t.frames.set i ⟨true, k, rt, t.buckets[b]⟩) → Ex w w' → TabIs (linkT t k i rt) w (.returned (.agg #[.slice A' t.buckets.length c', .slice B' t.frames.length d'])) w') := zq (fun A' B' c' d' w' h1 h2 h3 => by rw [HQ.out]; exact ⟨A', c', B', d', by simp, h1, h2, h3⟩)
 clear HQ
 generalize t.frames[i] = f at hix
 generalize t.buckets[b] = x at hbx HFIN
 obtain ⟨xs, ys⟩ := t
 dsimp only at hix hbx C1 CH HFIN hi hbm hm1 hm2 hn2 ⊢
 have HIX := zq hix
 have HBX := zq hbx
 have hi' : (i : Int) < (ys.length : Int) := by omega
 have hb' : (b : Int) < (xs.length : Int) := by omega
 have hi0 : ¬ (i : Int) < 0 := by omega
 have hb0 : ¬ (b : Int) < 0 := by omega
 clear hx hy hv1 hv2 eb hk hix hbx
 go_enter Tryz.func111, Tryz.ntmps111
 go_wp2_with fail
 refine name_calls ?_; intro v1 hv1
 have X1 : Hid (Chg (0) (0) w v1) := zx hv1
 have t1 := X1.out.size
 have Ev1 := zq ((Ex.refl w).chg X1.out (by omega))
 have KX : Hid (Blk v1 (w.heap.size) 26 [.slice A xs.length c, .slice B ys.length d]) := zk hv1
 have lX : w.heap.size < v1.heap.size := KX.out.lt
 have KK : Hid (Blk v1 (w.heap.size + 1) 43 [.int .i64 k.space, .int .i64 k.page]) := zk hv1
 have lK : w.heap.size + 1 < v1.heap.size := KK.out.lt
 have KR : Hid (Blk v1 (w.heap.size + 1 + 1) 26 [.slice none 0 0, .slice none 0 0]) := zk hv1
 have lR : w.heap.size + 1 + 1 < v1.heap.size := KR.out.lt
 clear hv1
 refine (C1.out _ X1.out.ex_).mono ?_; rintro r w1 ⟨A1, c1, B1, d1, rfl, hfa, hfb, hb1⟩
 have Y1 := zq (Chg.of_ex hb1)
 have s1 := Y1.out.size
 have Ew1 := zq (Ev1.out.chg Y1.out (by omega))
 clear hb1
 replace KX := zq (KX.out.chg Y1.out (by omega))
 replace KK := zq (KK.out.chg Y1.out (by omega))
 replace KR := zq (KR.out.chg Y1.out (by omega))
 have HFA := zq hfa; clear hfa
 have WHFA := zq HFA.out.row
 have HFB := zq hfb; clear hfb
 have WHFB := zq HFB.out.row
 obtain ⟨qX0, qX1⟩ := KX.out.c2
 have jX := KX.out.lt
 obtain ⟨qK0, qK1⟩ := KK.out.c2
 have jK := KK.out.lt
 obtain ⟨qR0, qR1⟩ := KR.out.c2
 have jR := KR.out.lt
 have zR := KR.out.frozen
 go_wp2_with fail
 refine name_calls ?_; intro v2 hv2
 have X2 : Hid (Chg (0) (0) w1 v2) := zx hv2
 have t2 := X2.out.size
 have Ev2 := zq (Ew1.out.chg X2.out (by omega))
 clear qX0 qX1 jX
 clear qK0 qK1 jK
 clear qR0 qR1 jR zR
 replace KX := zq (KX.out.chg X2.out (by omega))
 replace KK := zq (KK.out.chg X2.out (by omega))
 replace KR := zq (KR.out.chg X2.out (by omega))
 replace HFA := zq (HFA.out.chg X2.out WHFA.out (by omega))
 replace HFB := zq (HFB.out.chg X2.out WHFB.out (by omega))
 have KO : Hid (Blk v2 (w1.heap.size) 26 [.slice A1 xs.length c1, .slice B1 ys.length d1]) := zk hv2
 have lO : w1.heap.size < v2.heap.size := KO.out.lt
 clear hv2
 refine (CH.out _).mono ?_; rintro r w2 ⟨rfl, hb2⟩
 have Y2 := zq (Chg.of_ex hb2)
 have s2 := Y2.out.size
 have Ew2 := zq (Ev2.out.chg Y2.out (by omega))
 clear hb2
 replace KX := zq (KX.out.chg Y2.out (by omega))
 replace KK := zq (KK.out.chg Y2.out (by omega))
 replace KR := zq (KR.out.chg Y2.out (by omega))
 replace KO := zq (KO.out.chg Y2.out (by omega))
 replace HFA := zq (HFA.out.chg Y2.out WHFA.out (by omega))
 replace HFB := zq (HFB.out.chg Y2.out WHFB.out (by omega))
 obtain ⟨qX0, qX1⟩ := KX.out.c2
 have jX := KX.out.lt
 obtain ⟨qK0, qK1⟩ := KK.out.c2
 have jK := KK.out.lt
 obtain ⟨qR0, qR1⟩ := KR.out.c2
 have jR := KR.out.lt
 have zR := KR.out.frozen
 obtain ⟨qO0, qO1⟩ := KO.out.c2
 have jO := KO.out.lt
 obtain ⟨gb, rb, hA1, hgb, hbb, hrb⟩ := HFA.out.open_ hbm
 obtain ⟨gf, rf, hB1, hgf, hbf, hrf⟩ := HFB.out.open_ hi
 subst hA1 hB1
 have HBB := zq hbb
 have HBF := zq hbf
 have HRB := zq hrb
 have HRF := zq hrf
 have hlb := HFA.out.le
 have hlf := HFB.out.le
 have hcb := HFA.out.cap
 have hcf := HFB.out.cap
 have hgbl : gb < w1.heap.size := (WHFA.out gb (rowOf_some (by omega))).2
 have hgfl : gf < w1.heap.size := (WHFB.out gf (rowOf_some (by omega))).2
 have hne := Bk.ne hbb hbf (by decide)
 have hne' : ¬ gf = gb := fun e => hne e.symm
 clear hbb hbf hrb hrf
 clear HFA WHFA
 clear HFB WHFB
 have v0 := HBB.out.int HBX.out
 obtain ⟨d0, d1', d2', d3, d4⟩ := HBF.out.frame HIX.out
 have zb := HBB.out.frozen
 have zf := HBF.out.frozen
 have lb := Blk.lt HBB.out
 have lf := Blk.lt HBF.out
 have n1 : ¬ w1.heap.size = gf := by omega
 have n2 : ¬ gf = w1.heap.size := by omega
 have n3 : ¬ w1.heap.size = gb := by omega
 have n4 : ¬ gb = w1.heap.size := by omega
 have n5 : ¬ w.heap.size + 1 + 1 = gf := by omega
 have n6 : ¬ gf = w.heap.size + 1 + 1 := by omega
 have n7 : ¬ w.heap.size + 1 + 1 = gb := by omega
 have n8 : ¬ gb = w.heap.size + 1 + 1 := by omega
 have n9 : ¬ w.heap.size + 1 + 1 = w1.heap.size := by omega
 have n10 : ¬ w1.heap.size = w.heap.size + 1 + 1 := by omega
 have n11 : ¬ w.heap.size + 1 = gf := by omega
 have n12 : ¬ gf = w.heap.size + 1 := by omega
 have FK : Hid (∀ w', Ex w2 w' → (w'.cell? ⟨w1.heap.size, 0, none⟩ = some (.slice (some ⟨gb, 0, none⟩) xs.length c1) ∧ w'.cell? ⟨w1.heap.size, 1, none⟩ = some (.slice (some ⟨gf, 0, none⟩) ys.length d1) ∧ w'.cell? ⟨w.heap.size + 1, 0, none⟩ = some (.int .i64 k.space) ∧ w'.cell? ⟨w.heap.size + 1, 1, none⟩ = some (.int .i64 k.page) ∧ w'.cell? ⟨gb, b, none⟩ = some (.int .i64 x))) := zq (fun w' h => ⟨(KO.out.ex h).c2.1, (KO.out.ex h).c2.2, (KK.out.ex h).c2.1, (KK.out.ex h).c2.2, (HBB.out.ex h).int HBX.out⟩)
 go_wp2_with fail
 go_region_held3 (fun w' => (w'.cell? ⟨w1.heap.size, 0, none⟩ = some (.slice (some ⟨gb, 0, none⟩) xs.length c1) ∧ w'.cell? ⟨w1.heap.size, 1, none⟩ = some (.slice (some ⟨gf, 0, none⟩) ys.length d1) ∧ w'.cell? ⟨w.heap.size + 1, 0, none⟩ = some (.int .i64 k.space) ∧ w'.cell? ⟨w.heap.size + 1, 1, none⟩ = some (.int .i64 k.page) ∧ w'.cell? ⟨gb, b, none⟩ = some (.int .i64 x))) (first | (refine FK.out _ ?_; with_reducible (first | exact Ex.refl _ | exact (Ex.refl _).drew)) | go_keep) (fail)
 rename_i hHeld
 clear hHeld
 go_wp2
 refine bodyPost_ret (v := .agg #[.slice (some ⟨gb, 0, none⟩) xs.length c1, .slice (some ⟨gf, 0, none⟩) ys.length d1]) (by first | (simp [results, Tryz.results111, go_sem, *]; done) | (simp [results, Tryz.results111, go_sem, qR0, qR1]; done)) rfl
  (HFIN.out _ _ _ _ _ ?_ ?_ (ze Ew2.out))
 ·refine Fr.close (xs := xs.set b (i : Int)) (rest := rb) ?_ (by omega) (by simpa using HRB.out) (by simpa using hlb) hcb
  repeat' (first | with_reducible refine Bk.drew ?_ | with_reducible refine Bk.far ?_ hne _ | with_reducible refine Bk.far ?_ hne' _ | with_reducible refine Bk.far ?_ n8 _ | with_reducible refine Bk.far ?_ n6 _)
  with_reducible refine Bk.set_int ?_ _ hbm
  repeat' (first | with_reducible refine Bk.drew ?_ | with_reducible refine Bk.far ?_ hne _ | with_reducible refine Bk.far ?_ hne' _ | with_reducible refine Bk.far ?_ n8 _ | with_reducible refine Bk.far ?_ n6 _)
  exact HBB.out
 ·refine Fr.close (xs := ys.set i ⟨true, k, rt, x⟩) (rest := rf) ?_ (by omega) (by simpa using HRF.out) (by simpa using hlf) hcf
  repeat' (first | with_reducible refine Bk.drew ?_ | with_reducible refine Bk.far ?_ hne _ | with_reducible refine Bk.far ?_ hne' _ | with_reducible refine Bk.far ?_ n8 _ | with_reducible refine Bk.far ?_ n6 _)
  with_reducible refine Bk.set_frame ?_ ⟨true, k, rt, x⟩ hi
  exact HBF.out

def FoundP (q : Int) (w : World) (e : Ending) (w' : World) : Prop := ∃ s : Int, e = .returned (.tuple #[.int .i64 (if q < 0 then 0 else q), .int .i64 s, .bool (decide (0 ≤ q))]) ∧ Ex w w'

set_option maxHeartbeats 2000000 in
theorem findPageS_c (t : TableD) (A : Option Addr) (c : Nat) (B : Option Addr) (d : Nat) (k : KeyD) (w : World) (hx : Rd w A t.buckets) (hy : Rd w B t.frames) (hok : TableOk t) (hk : keyOk k) :
  Calls Tryz.prog 114 #[.agg #[.slice A t.buckets.length c, .slice B t.frames.length d], .agg #[.int .i64 k.space, .int .i64 k.page]] w (FoundP (findF t k) w) := by
 have few := hok.1
 unfold TableHead at few
 have C1 := zq (fun w' (h : Ex w w') => tableS_c t A c B d w' (hx.ex h) (hy.ex h) (by omega) (by omega))
 have C2 := zq (fun w' => keyS_c k w')
 have C3 := zq (fun w' (h : Ex w w') => l3Find_c t A c B d k w' (hx.ex h) (hy.ex h) hok hk)
 rw [tableV_yes hok] at C1
 rw [keyB_iff.2 hk] at C2
 generalize findF t k = q at C3 ⊢
 generalize t.buckets.length = nb at C1 C3 ⊢
 generalize t.frames.length = n at C1 C3 ⊢
 clear hx hy hok hk few
 by_cases hq : q < 0
 ·have hz : ¬ 0 ≤ q := by omega
  have HR : Hid (∀ s : Int, (Value.tuple #[.int .i64 0, .int .i64 s, .bool false]) = (.tuple #[.int .i64 (if q < 0 then 0 else q), .int .i64 s, .bool (decide (0 ≤ q))])) := zq (fun s => by rw [if_pos hq, decide_eq_false hz])
  go_enter Tryz.func114, Tryz.ntmps114
  go_wp2_with fail
  refine name_calls ?_; intro v1 hv1
  have X1 : Hid (Chg (0) (0) w v1) := zx hv1
  have t1 := X1.out.size
  have Ev1 := zq ((Ex.refl w).chg X1.out (by omega))
  have KX : Hid (Blk v1 (w.heap.size) 26 [.slice A nb c, .slice B n d]) := zk hv1
  have lX : w.heap.size < v1.heap.size := KX.out.lt
  have KK : Hid (Blk v1 (w.heap.size + 1) 43 [.int .i64 k.space, .int .i64 k.page]) := zk hv1
  have lK : w.heap.size + 1 < v1.heap.size := KK.out.lt
  clear hv1
  refine (C1.out _ Ev1.out).mono ?_; rintro r w1 ⟨rfl, hb1⟩
  have Y1 := zq (Chg.of_ex hb1)
  have s1 := Y1.out.size
  have Ew1 := zq (Ev1.out.chg Y1.out (by omega))
  clear hb1
  replace KX := zq (KX.out.chg Y1.out (by omega))
  replace KK := zq (KK.out.chg Y1.out (by omega))
  obtain ⟨qX0, qX1⟩ := KX.out.c2
  have jX := KX.out.lt
  obtain ⟨qK0, qK1⟩ := KK.out.c2
  have jK := KK.out.lt
  go_wp2_with fail
  refine name_calls ?_; intro v2 hv2
  have X2 : Hid (Chg (0) (0) w1 v2) := zx hv2
  have t2 := X2.out.size
  have Ev2 := zq (Ew1.out.chg X2.out (by omega))
  clear qX0 qX1 jX
  clear qK0 qK1 jK
  replace KX := zq (KX.out.chg X2.out (by omega))
  replace KK := zq (KK.out.chg X2.out (by omega))
  clear hv2
  refine (C2.out _).mono ?_; rintro r w2 ⟨rfl, hb2⟩
  have Y2 := zq (Chg.of_ex hb2)
  have s2 := Y2.out.size
  have Ew2 := zq (Ev2.out.chg Y2.out (by omega))
  clear hb2
  replace KX := zq (KX.out.chg Y2.out (by omega))
  replace KK := zq (KK.out.chg Y2.out (by omega))
  obtain ⟨qX0, qX1⟩ := KX.out.c2
  have jX := KX.out.lt
  obtain ⟨qK0, qK1⟩ := KK.out.c2
  have jK := KK.out.lt
  go_wp2_with fail
  refine name_calls ?_; intro v3 hv3
  have X3 : Hid (Chg (0) (0) w2 v3) := zx hv3
  have t3 := X3.out.size
  have Ev3 := zq (Ew2.out.chg X3.out (by omega))
  clear qX0 qX1 jX
  clear qK0 qK1 jK
  replace KX := zq (KX.out.chg X3.out (by omega))
  replace KK := zq (KK.out.chg X3.out (by omega))
  clear hv3
  refine (C3.out _ Ev3.out).mono ?_; rintro r w3 ⟨⟨sp, rfl⟩, hb3⟩
  have Y3 := zq (Chg.of_ex hb3)
  have s3 := Y3.out.size
  have Ew3 := zq (Ev3.out.chg Y3.out (by omega))
  clear hb3
  replace KX := zq (KX.out.chg Y3.out (by omega))
  replace KK := zq (KK.out.chg Y3.out (by omega))
  obtain ⟨qX0, qX1⟩ := KX.out.c2
  have jX := KX.out.lt
  obtain ⟨qK0, qK1⟩ := KK.out.c2
  have jK := KK.out.lt
  go_wp2
  exact bodyPost_ret (v := .tuple #[.int .i64 0, .int .i64 sp, .bool false]) (by simp [results, Tryz.results114, go_sem]) rfl ⟨sp, by rw [HR.out], Ew3.out⟩
 ·have hz : 0 ≤ q := by omega
  have HR : Hid (∀ s : Int, (Value.tuple #[.int .i64 q, .int .i64 s, .bool true]) = (.tuple #[.int .i64 (if q < 0 then 0 else q), .int .i64 s, .bool (decide (0 ≤ q))])) := zq (fun s => by rw [if_neg hq, decide_eq_true hz])
  go_enter Tryz.func114, Tryz.ntmps114
  go_wp2_with fail
  refine name_calls ?_; intro v1 hv1
  have X1 : Hid (Chg (0) (0) w v1) := zx hv1
  have t1 := X1.out.size
  have Ev1 := zq ((Ex.refl w).chg X1.out (by omega))
  have KX : Hid (Blk v1 (w.heap.size) 26 [.slice A nb c, .slice B n d]) := zk hv1
  have lX : w.heap.size < v1.heap.size := KX.out.lt
  have KK : Hid (Blk v1 (w.heap.size + 1) 43 [.int .i64 k.space, .int .i64 k.page]) := zk hv1
  have lK : w.heap.size + 1 < v1.heap.size := KK.out.lt
  clear hv1
  refine (C1.out _ Ev1.out).mono ?_; rintro r w1 ⟨rfl, hb1⟩
  have Y1 := zq (Chg.of_ex hb1)
  have s1 := Y1.out.size
  have Ew1 := zq (Ev1.out.chg Y1.out (by omega))
  clear hb1
  replace KX := zq (KX.out.chg Y1.out (by omega))
  replace KK := zq (KK.out.chg Y1.out (by omega))
  obtain ⟨qX0, qX1⟩ := KX.out.c2
  have jX := KX.out.lt
  obtain ⟨qK0, qK1⟩ := KK.out.c2
  have jK := KK.out.lt
  go_wp2_with fail
  refine name_calls ?_; intro v2 hv2
  have X2 : Hid (Chg (0) (0) w1 v2) := zx hv2
  have t2 := X2.out.size
  have Ev2 := zq (Ew1.out.chg X2.out (by omega))
  clear qX0 qX1 jX
  clear qK0 qK1 jK
  replace KX := zq (KX.out.chg X2.out (by omega))
  replace KK := zq (KK.out.chg X2.out (by omega))
  clear hv2
  refine (C2.out _).mono ?_; rintro r w2 ⟨rfl, hb2⟩
  have Y2 := zq (Chg.of_ex hb2)
  have s2 := Y2.out.size
  have Ew2 := zq (Ev2.out.chg Y2.out (by omega))
  clear hb2
  replace KX := zq (KX.out.chg Y2.out (by omega))
  replace KK := zq (KK.out.chg Y2.out (by omega))
  obtain ⟨qX0, qX1⟩ := KX.out.c2
  have jX := KX.out.lt
  obtain ⟨qK0, qK1⟩ := KK.out.c2
  have jK := KK.out.lt
  go_wp2_with fail
  refine name_calls ?_; intro v3 hv3
  have X3 : Hid (Chg (0) (0) w2 v3) := zx hv3
  have t3 := X3.out.size
  have Ev3 := zq (Ew2.out.chg X3.out (by omega))
  clear qX0 qX1 jX
  clear qK0 qK1 jK
  replace KX := zq (KX.out.chg X3.out (by omega))
  replace KK := zq (KK.out.chg X3.out (by omega))
  clear hv3
  refine (C3.out _ Ev3.out).mono ?_; rintro r w3 ⟨⟨sp, rfl⟩, hb3⟩
  have Y3 := zq (Chg.of_ex hb3)
  have s3 := Y3.out.size
  have Ew3 := zq (Ev3.out.chg Y3.out (by omega))
  clear hb3
  replace KX := zq (KX.out.chg Y3.out (by omega))
  replace KK := zq (KK.out.chg Y3.out (by omega))
  obtain ⟨qX0, qX1⟩ := KX.out.c2
  have jX := KX.out.lt
  obtain ⟨qK0, qK1⟩ := KK.out.c2
  have jK := KK.out.lt
  go_wp2
  exact bodyPost_ret (v := .tuple #[.int .i64 q, .int .i64 sp, .bool true]) (by simp [results, Tryz.results114, go_sem]) rfl ⟨sp, by rw [HR.out], Ew3.out⟩

set_option maxHeartbeats 4000000 in
theorem mapPageS_c (t : TableD) (A : Option Addr) (c : Nat) (B : Option Addr) (d : Nat) (k : KeyD) (i : Nat) (rt : Int) (w : World) (hx : Rd w A t.buckets) (hy : Rd w B t.frames) (hc : t.buckets.length ≤ c) (hd : t.frames.length ≤ d) (hc2 : c ≤ maxLen) (hd2 : d ≤ maxLen)
  (hok : TableOk t) (hk : keyOk k) (hr : 0 ≤ rt ∧ rt < 8) (hi : i < t.frames.length) :
  Calls Tryz.prog 102 #[.agg #[.slice A t.buckets.length c, .slice B t.frames.length d], .agg #[.int .i64 k.space, .int .i64 k.page], .int .i64 i, .int .i64 rt] w (TabOr (mapT t k i rt) w) := by
 have few := hok.1
 unfold TableHead at few
 have C1 := zq (fun w' (h : Ex w w') => tableS_c t A c B d w' (hx.ex h) (hy.ex h) (by omega) (by omega))
 have C2 := zq (fun w' => keyS_c k w')
 have C3 := zq (fun w' => rightsS_c rt w')
 have C4 := zq (fun w' (h : Ex w w') => l3Find_c t A c B d k w' (hx.ex h) (hy.ex h) hok hk)
 have C5 := zq (fun w' (h : Ex w w') => l3Map_c t A c B d k i rt w' (hx.ex h) (hy.ex h) hc hd hc2 hd2 (by omega) (by omega) (by omega) hi hk)
 rw [tableV_yes hok] at C1
 rw [keyB_iff.2 hk] at C2
 rw [inB_true.2 hr] at C3
 obtain ⟨b2, o2, f, rfl, hb2, hfi, k0, k1, k2, k3, k4⟩ := hy.frame hi
 have HF := zq hfi
 have PK : Hid (∀ w', Ex w w' → w'.cell? ⟨b2, o2 + i * 5, none⟩ = some (.bool f.used)) := zq (fun w' h => (h.cell hb2).trans k0)
 have HP : Hid (putsT t k i = (!f.used && decide (findF t k < 0))) := zq (by unfold putsT; rw [getD_of hfi])
 have hi' : ¬ ((t.frames.length : Int) ≤ (i : Int)) := by omega
 have hi2 : (i : Int) < (t.frames.length : Int) := by omega
 have hi0 : ¬ (i : Int) < 0 := by omega
 clear hx hy hok hk hr k0 k1 k2 k3 k4 hfi
 generalize hlb : linkT t k i rt = lt at C5
 have HLT := zq hlb
 clear hlb
 generalize t.buckets.length = nb at C1 C4 C5 few hc ⊢
 generalize t.frames.length = n at C1 C4 C5 few hd hi hi' hi2 ⊢
 cases hu : f.used
 rotate_left
 ·have HN : Hid (mapT t k i rt = (noTable, false)) := zq (by unfold mapT; rw [HP.out, hu]; rfl)
  rw [hu] at PK
  rw [HN.out]
  clear hu
  go_enter Tryz.func102, Tryz.ntmps102
  go_wp2_with fail
  refine name_calls ?_; intro v1 hv1
  have X1 : Hid (Chg (0) (0) w v1) := zx hv1
  have t1 := X1.out.size
  have Ev1 := zq ((Ex.refl w).chg X1.out (by omega))
  have KX : Hid (Blk v1 (w.heap.size) 26 [.slice A nb c, .slice (some ⟨b2, o2, none⟩) n d]) := zk hv1
  have lX : w.heap.size < v1.heap.size := KX.out.lt
  have KK : Hid (Blk v1 (w.heap.size + 1) 43 [.int .i64 k.space, .int .i64 k.page]) := zk hv1
  have lK : w.heap.size + 1 < v1.heap.size := KK.out.lt
  have KR : Hid (Blk v1 (w.heap.size + 1 + 1) 26 [.slice none 0 0, .slice none 0 0]) := zk hv1
  have lR : w.heap.size + 1 + 1 < v1.heap.size := KR.out.lt
  clear hv1
  refine (C1.out _ Ev1.out).mono ?_; rintro r w1 ⟨rfl, hb1⟩
  have Y1 := zq (Chg.of_ex hb1)
  have s1 := Y1.out.size
  have Ew1 := zq (Ev1.out.chg Y1.out (by omega))
  clear hb1
  replace KX := zq (KX.out.chg Y1.out (by omega))
  replace KK := zq (KK.out.chg Y1.out (by omega))
  replace KR := zq (KR.out.chg Y1.out (by omega))
  obtain ⟨qX0, qX1⟩ := KX.out.c2
  have jX := KX.out.lt
  obtain ⟨qK0, qK1⟩ := KK.out.c2
  have jK := KK.out.lt
  obtain ⟨qR0, qR1⟩ := KR.out.c2
  have jR := KR.out.lt
  have zR := KR.out.frozen
  go_wp2_with fail
  refine name_calls ?_; intro v2 hv2
  have X2 : Hid (Chg (0) (0) w1 v2) := zx hv2
  have t2 := X2.out.size
  have Ev2 := zq (Ew1.out.chg X2.out (by omega))
  clear qX0 qX1 jX
  clear qK0 qK1 jK
  clear qR0 qR1 jR zR
  replace KX := zq (KX.out.chg X2.out (by omega))
  replace KK := zq (KK.out.chg X2.out (by omega))
  replace KR := zq (KR.out.chg X2.out (by omega))
  clear hv2
  refine (C2.out _).mono ?_; rintro r w2 ⟨rfl, hb2⟩
  have Y2 := zq (Chg.of_ex hb2)
  have s2 := Y2.out.size
  have Ew2 := zq (Ev2.out.chg Y2.out (by omega))
  clear hb2
  replace KX := zq (KX.out.chg Y2.out (by omega))
  replace KK := zq (KK.out.chg Y2.out (by omega))
  replace KR := zq (KR.out.chg Y2.out (by omega))
  obtain ⟨qX0, qX1⟩ := KX.out.c2
  have jX := KX.out.lt
  obtain ⟨qK0, qK1⟩ := KK.out.c2
  have jK := KK.out.lt
  obtain ⟨qR0, qR1⟩ := KR.out.c2
  have jR := KR.out.lt
  have zR := KR.out.frozen
  go_wp2_with fail
  refine (C3.out _).mono ?_; rintro r wq3 ⟨rfl, rfl⟩
  have p0 := PK.out _ Ew2.out
  go_wp2
  exact bodyPost_ret (v := .tuple #[.agg #[.slice none 0 0, .slice none 0 0], .bool false]) (by simp [results, Tryz.results102, go_sem, qR0, qR1]) rfl
   ⟨none, 0, none, 0, rfl, Fr.none_ _ _ _ _, Fr.none_ _ _ _ _, (ze Ew2.out)⟩
 rw [hu] at PK
 by_cases hq : findF t k < 0
 ·have HN : Hid (mapT t k i rt = (lt, true)) := zq (by unfold mapT; rw [HP.out, hu, decide_eq_true hq, HLT.out]; rfl)
  rw [HN.out]
  have hq' : ¬ 0 ≤ findF t k := by omega
  generalize findF t k = q at C4 hq hq'
  clear hu
  go_enter Tryz.func102, Tryz.ntmps102
  go_wp2_with fail
  refine name_calls ?_; intro v1 hv1
  have X1 : Hid (Chg (0) (0) w v1) := zx hv1
  have t1 := X1.out.size
  have Ev1 := zq ((Ex.refl w).chg X1.out (by omega))
  have KX : Hid (Blk v1 (w.heap.size) 26 [.slice A nb c, .slice (some ⟨b2, o2, none⟩) n d]) := zk hv1
  have lX : w.heap.size < v1.heap.size := KX.out.lt
  have KK : Hid (Blk v1 (w.heap.size + 1) 43 [.int .i64 k.space, .int .i64 k.page]) := zk hv1
  have lK : w.heap.size + 1 < v1.heap.size := KK.out.lt
  have KR : Hid (Blk v1 (w.heap.size + 1 + 1) 26 [.slice none 0 0, .slice none 0 0]) := zk hv1
  have lR : w.heap.size + 1 + 1 < v1.heap.size := KR.out.lt
  clear hv1
  refine (C1.out _ Ev1.out).mono ?_; rintro r w1 ⟨rfl, hb1⟩
  have Y1 := zq (Chg.of_ex hb1)
  have s1 := Y1.out.size
  have Ew1 := zq (Ev1.out.chg Y1.out (by omega))
  clear hb1
  replace KX := zq (KX.out.chg Y1.out (by omega))
  replace KK := zq (KK.out.chg Y1.out (by omega))
  replace KR := zq (KR.out.chg Y1.out (by omega))
  obtain ⟨qX0, qX1⟩ := KX.out.c2
  have jX := KX.out.lt
  obtain ⟨qK0, qK1⟩ := KK.out.c2
  have jK := KK.out.lt
  obtain ⟨qR0, qR1⟩ := KR.out.c2
  have jR := KR.out.lt
  have zR := KR.out.frozen
  go_wp2_with fail
  refine name_calls ?_; intro v2 hv2
  have X2 : Hid (Chg (0) (0) w1 v2) := zx hv2
  have t2 := X2.out.size
  have Ev2 := zq (Ew1.out.chg X2.out (by omega))
  clear qX0 qX1 jX
  clear qK0 qK1 jK
  clear qR0 qR1 jR zR
  replace KX := zq (KX.out.chg X2.out (by omega))
  replace KK := zq (KK.out.chg X2.out (by omega))
  replace KR := zq (KR.out.chg X2.out (by omega))
  clear hv2
  refine (C2.out _).mono ?_; rintro r w2 ⟨rfl, hb2⟩
  have Y2 := zq (Chg.of_ex hb2)
  have s2 := Y2.out.size
  have Ew2 := zq (Ev2.out.chg Y2.out (by omega))
  clear hb2
  replace KX := zq (KX.out.chg Y2.out (by omega))
  replace KK := zq (KK.out.chg Y2.out (by omega))
  replace KR := zq (KR.out.chg Y2.out (by omega))
  obtain ⟨qX0, qX1⟩ := KX.out.c2
  have jX := KX.out.lt
  obtain ⟨qK0, qK1⟩ := KK.out.c2
  have jK := KK.out.lt
  obtain ⟨qR0, qR1⟩ := KR.out.c2
  have jR := KR.out.lt
  have zR := KR.out.frozen
  go_wp2_with fail
  refine (C3.out _).mono ?_; rintro r wq3 ⟨rfl, rfl⟩
  have p0 := PK.out _ Ew2.out
  go_wp2_with fail
  refine name_calls ?_; intro v4 hv4
  have X4 : Hid (Chg (0) (0) w2 v4) := zx hv4
  have t4 := X4.out.size
  have Ev4 := zq (Ew2.out.chg X4.out (by omega))
  clear qX0 qX1 jX
  clear qK0 qK1 jK
  clear qR0 qR1 jR zR
  replace KX := zq (KX.out.chg X4.out (by omega))
  replace KK := zq (KK.out.chg X4.out (by omega))
  replace KR := zq (KR.out.chg X4.out (by omega))
  clear hv4
  refine (C4.out _ Ev4.out).mono ?_; rintro r w4 ⟨⟨sp, rfl⟩, hb4⟩
  have Y4 := zq (Chg.of_ex hb4)
  have s4 := Y4.out.size
  have Ew4 := zq (Ev4.out.chg Y4.out (by omega))
  clear hb4
  replace KX := zq (KX.out.chg Y4.out (by omega))
  replace KK := zq (KK.out.chg Y4.out (by omega))
  replace KR := zq (KR.out.chg Y4.out (by omega))
  obtain ⟨qX0, qX1⟩ := KX.out.c2
  have jX := KX.out.lt
  obtain ⟨qK0, qK1⟩ := KK.out.c2
  have jK := KK.out.lt
  obtain ⟨qR0, qR1⟩ := KR.out.c2
  have jR := KR.out.lt
  have zR := KR.out.frozen
  go_wp2_with fail
  refine name_calls ?_; intro v5 hv5
  have X5 : Hid (Chg (0) (0) w4 v5) := zx hv5
  have t5 := X5.out.size
  have Ev5 := zq (Ew4.out.chg X5.out (by omega))
  clear qX0 qX1 jX
  clear qK0 qK1 jK
  clear qR0 qR1 jR zR
  replace KX := zq (KX.out.chg X5.out (by omega))
  replace KK := zq (KK.out.chg X5.out (by omega))
  replace KR := zq (KR.out.chg X5.out (by omega))
  clear hv5
  refine (C5.out _ Ev5.out).mono ?_; rintro r w5 ⟨A5, c5, B5, d5, rfl, hfa, hfb, hb5⟩
  have Y5 := zq (Chg.of_ex hb5)
  have s5 := Y5.out.size
  have Ew5 := zq (Ev5.out.chg Y5.out (by omega))
  clear hb5
  replace KX := zq (KX.out.chg Y5.out (by omega))
  replace KK := zq (KK.out.chg Y5.out (by omega))
  replace KR := zq (KR.out.chg Y5.out (by omega))
  have HFA := zq hfa; clear hfa
  have WHFA := zq HFA.out.row
  have HFB := zq hfb; clear hfb
  have WHFB := zq HFB.out.row
  obtain ⟨qX0, qX1⟩ := KX.out.c2
  have jX := KX.out.lt
  obtain ⟨qK0, qK1⟩ := KK.out.c2
  have jK := KK.out.lt
  obtain ⟨qR0, qR1⟩ := KR.out.c2
  have jR := KR.out.lt
  have zR := KR.out.frozen
  go_wp2
  exact bodyPost_ret (v := .tuple #[.agg #[.slice A5 lt.buckets.length c5, .slice B5 lt.frames.length d5], .bool true]) (by simp [results, Tryz.results102, go_sem, qR0, qR1]) rfl
   ⟨A5, c5, B5, d5, rfl, Fr.mono (B := v5.heap.size) (zp HFA.out WHFA.out) (by omega), Fr.mono (B := v5.heap.size) (zp HFB.out WHFB.out) (by omega), (ze Ew5.out)⟩
 ·have HN : Hid (mapT t k i rt = (noTable, false)) := zq (by unfold mapT; rw [HP.out, hu, decide_eq_false hq]; rfl)
  rw [HN.out]
  have hq' : 0 ≤ findF t k := by omega
  generalize findF t k = q at C4 hq hq'
  clear hu
  go_enter Tryz.func102, Tryz.ntmps102
  go_wp2_with fail
  refine name_calls ?_; intro v1 hv1
  have X1 : Hid (Chg (0) (0) w v1) := zx hv1
  have t1 := X1.out.size
  have Ev1 := zq ((Ex.refl w).chg X1.out (by omega))
  have KX : Hid (Blk v1 (w.heap.size) 26 [.slice A nb c, .slice (some ⟨b2, o2, none⟩) n d]) := zk hv1
  have lX : w.heap.size < v1.heap.size := KX.out.lt
  have KK : Hid (Blk v1 (w.heap.size + 1) 43 [.int .i64 k.space, .int .i64 k.page]) := zk hv1
  have lK : w.heap.size + 1 < v1.heap.size := KK.out.lt
  have KR : Hid (Blk v1 (w.heap.size + 1 + 1) 26 [.slice none 0 0, .slice none 0 0]) := zk hv1
  have lR : w.heap.size + 1 + 1 < v1.heap.size := KR.out.lt
  clear hv1
  refine (C1.out _ Ev1.out).mono ?_; rintro r w1 ⟨rfl, hb1⟩
  have Y1 := zq (Chg.of_ex hb1)
  have s1 := Y1.out.size
  have Ew1 := zq (Ev1.out.chg Y1.out (by omega))
  clear hb1
  replace KX := zq (KX.out.chg Y1.out (by omega))
  replace KK := zq (KK.out.chg Y1.out (by omega))
  replace KR := zq (KR.out.chg Y1.out (by omega))
  obtain ⟨qX0, qX1⟩ := KX.out.c2
  have jX := KX.out.lt
  obtain ⟨qK0, qK1⟩ := KK.out.c2
  have jK := KK.out.lt
  obtain ⟨qR0, qR1⟩ := KR.out.c2
  have jR := KR.out.lt
  have zR := KR.out.frozen
  go_wp2_with fail
  refine name_calls ?_; intro v2 hv2
  have X2 : Hid (Chg (0) (0) w1 v2) := zx hv2
  have t2 := X2.out.size
  have Ev2 := zq (Ew1.out.chg X2.out (by omega))
  clear qX0 qX1 jX
  clear qK0 qK1 jK
  clear qR0 qR1 jR zR
  replace KX := zq (KX.out.chg X2.out (by omega))
  replace KK := zq (KK.out.chg X2.out (by omega))
  replace KR := zq (KR.out.chg X2.out (by omega))
  clear hv2
  refine (C2.out _).mono ?_; rintro r w2 ⟨rfl, hb2⟩
  have Y2 := zq (Chg.of_ex hb2)
  have s2 := Y2.out.size
  have Ew2 := zq (Ev2.out.chg Y2.out (by omega))
  clear hb2
  replace KX := zq (KX.out.chg Y2.out (by omega))
  replace KK := zq (KK.out.chg Y2.out (by omega))
  replace KR := zq (KR.out.chg Y2.out (by omega))
  obtain ⟨qX0, qX1⟩ := KX.out.c2
  have jX := KX.out.lt
  obtain ⟨qK0, qK1⟩ := KK.out.c2
  have jK := KK.out.lt
  obtain ⟨qR0, qR1⟩ := KR.out.c2
  have jR := KR.out.lt
  have zR := KR.out.frozen
  go_wp2_with fail
  refine (C3.out _).mono ?_; rintro r wq3 ⟨rfl, rfl⟩
  have p0 := PK.out _ Ew2.out
  go_wp2_with fail
  refine name_calls ?_; intro v4 hv4
  have X4 : Hid (Chg (0) (0) w2 v4) := zx hv4
  have t4 := X4.out.size
  have Ev4 := zq (Ew2.out.chg X4.out (by omega))
  clear qX0 qX1 jX
  clear qK0 qK1 jK
  clear qR0 qR1 jR zR
  replace KX := zq (KX.out.chg X4.out (by omega))
  replace KK := zq (KK.out.chg X4.out (by omega))
  replace KR := zq (KR.out.chg X4.out (by omega))
  clear hv4
  refine (C4.out _ Ev4.out).mono ?_; rintro r w4 ⟨⟨sp, rfl⟩, hb4⟩
  have Y4 := zq (Chg.of_ex hb4)
  have s4 := Y4.out.size
  have Ew4 := zq (Ev4.out.chg Y4.out (by omega))
  clear hb4
  replace KX := zq (KX.out.chg Y4.out (by omega))
  replace KK := zq (KK.out.chg Y4.out (by omega))
  replace KR := zq (KR.out.chg Y4.out (by omega))
  obtain ⟨qX0, qX1⟩ := KX.out.c2
  have jX := KX.out.lt
  obtain ⟨qK0, qK1⟩ := KK.out.c2
  have jK := KK.out.lt
  obtain ⟨qR0, qR1⟩ := KR.out.c2
  have jR := KR.out.lt
  have zR := KR.out.frozen
  go_wp2
  exact bodyPost_ret (v := .tuple #[.agg #[.slice none 0 0, .slice none 0 0], .bool false]) (by simp [results, Tryz.results102, go_sem, qR0, qR1]) rfl
   ⟨none, 0, none, 0, rfl, Fr.none_ _ _ _ _, Fr.none_ _ _ _ _, (ze Ew4.out)⟩

theorem skipTo_none {fs : List FrameD} {i : Nat} {nx : Int} {n j : Nat} (h : fs[j]? = none) : (skipTo fs i nx n)[j]? = none := by
 unfold skipTo; rw [List.getElem?_mapIdx, h]; rfl
theorem skipTo_zero (fs : List FrameD) (i : Nat) (nx : Int) : skipTo fs i nx 0 = fs.set i freeF := by
 refine List.ext_getElem? fun j => ?_
 cases h : fs[j]? with
 | none =>
  rw [skipTo_none h]
  have : fs.length ≤ j := List.getElem?_eq_none_iff.1 h
  exact (List.getElem?_eq_none (by simpa using this)).symm
 | some f =>
  rw [skipTo_get h, List.getElem?_set]
  by_cases e : i = j
  ·subst e; rw [if_pos rfl, if_pos rfl, if_pos (getElem?_lt h)]
  ·rw [if_neg (fun h => e h.symm), if_neg e, h, if_neg (by omega)]
theorem skipTo_keep {fs : List FrameD} {i : Nat} {nx : Int} {k : Nat} {y : FrameD} (hy : fs[k]? = some y) (h : k = i ∨ ¬ (y.used = true ∧ y.next = (i : Int))) : skipTo fs i nx (k + 1) = skipTo fs i nx k := by
 refine List.ext_getElem? fun j => ?_
 cases hj : fs[j]? with
 | none => rw [skipTo_none hj, skipTo_none hj]
 | some f =>
  rw [skipTo_get hj, skipTo_get hj]
  by_cases e : j = i
  ·rw [if_pos e, if_pos e]
  rw [if_neg e, if_neg e]
  by_cases e2 : j = k
  ·subst e2
   rw [hy] at hj
   injection hj with hj
   subst hj
   rw [if_pos (by omega), if_neg (by omega)]
   unfold skipF
   rw [if_neg (by rcases h with h | h; exact absurd h e; exact h)]
  ·by_cases e3 : j < k
   ·rw [if_pos (by omega), if_pos e3]
   ·rw [if_neg (by omega), if_neg e3]
theorem skipTo_put {fs : List FrameD} {i : Nat} {nx : Int} {k : Nat} {y : FrameD} (hy : fs[k]? = some y) (hk : k ≠ i) (hu : y.used = true) (hn : y.next = (i : Int)) : skipTo fs i nx (k + 1) = (skipTo fs i nx k).set k { y with next := nx } := by
 refine List.ext_getElem? fun j => ?_
 cases hj : fs[j]? with
 | none =>
  rw [skipTo_none hj]
  have : fs.length ≤ j := List.getElem?_eq_none_iff.1 hj
  exact (List.getElem?_eq_none (by rw [List.length_set, skipTo_length]; exact this)).symm
 | some f =>
  rw [skipTo_get hj, List.getElem?_set, skipTo_length]
  by_cases e2 : k = j
  ·subst e2
   rw [hy] at hj
   injection hj with hj
   subst hj
   rw [if_neg hk, if_pos (by omega), if_pos rfl, if_pos (getElem?_lt hy)]
   unfold skipF
   rw [if_pos ⟨hu, hn⟩]
  ·rw [if_neg e2, skipTo_get hj]
   by_cases e : j = i
   ·rw [if_pos e, if_pos e]
   rw [if_neg e, if_neg e]
   by_cases e3 : j < k
   ·rw [if_pos (by omega), if_pos e3]
   ·rw [if_neg (by omega), if_neg e3]
/-- No used frame of a valid table is its own next. -/
theorem TableOk.noself {t : TableD} (h : TableOk t) {i : Nat} {f : FrameD} (hf : t.frames[i]? = some f) (hu : f.used = true) : f.next ≠ (i : Int) := fun e => by
 obtain ⟨b, a, l, _, hc, hi, _⟩ := h.met hf hu
 obtain ⟨l2, h1, _⟩ := hc.from hi
 rcases h1.inv with ⟨q, _⟩ | ⟨j, g, l3, q, q2, hg, _, hl3⟩
 ·omega
 ·have e3 : i = j := by omega
  subst e3
  rw [hf] at hg
  injection hg with hg
  subst hg
  rw [e] at hl3
  have h4 := congrArg List.length (h1.one hl3)
  injection q2 with _ q2
  rw [q2] at h4
  simp at h4

set_option maxHeartbeats 4000000 in
theorem l3Unmap_c (t : TableD) (A : Option Addr) (c : Nat) (B : Option Addr) (d : Nat) (i : Nat) (f : FrameD) (w : World) (hx : Rd w A t.buckets) (hy : Rd w B t.frames) (hc : t.buckets.length ≤ c) (hd : t.frames.length ≤ d) (hc2 : c ≤ maxLen) (hd2 : d ≤ maxLen)
  (hok : TableOk t) (hf : t.frames[i]? = some f) (hu : f.used = true) :
  Calls Tryz.prog 115 #[.agg #[.slice A t.buckets.length c, .slice B t.frames.length d], .int .i64 i] w (TabIs (unlinkT t i) w) := by
 have few := hok.1
 unfold TableHead at few
 have hi := getElem?_lt hf
 have hk : keyOk f.key := (((hok.2.1 i f hi hf).1).2 hu).1
 obtain ⟨hv1, hv2⟩ := hashK_range (n := t.buckets.length) hk (by omega) (by omega)
 obtain ⟨b, eb⟩ : ∃ b : Nat, hashK f.key t.buckets.length = (b : Int) := ⟨(hashK f.key t.buckets.length).toNat, by omega⟩
 have hbm : b < t.buckets.length := by omega
 have HSELF : Hid (f.next ≠ (i : Int)) := zq (hok.noself hf hu)
 have HY := zq hy
 have C1 := zq (fun w' (h : Ex w w') => l3Copy_c t A c B d w' (hx.ex h) (hy.ex h) (by omega) (by omega) hc hd hc2 hd2)
 have CH := zq (fun w => hashS_c f.key (t.buckets.length : Int) w hk (by omega) (by omega))
 rw [eb] at CH
 obtain ⟨b2, o2, f', rfl, hb2, hfi, k0, k1, k2, k3, k4⟩ := hy.frame hi
 obtain ⟨b1, o1, x, rfl, hb1, hbx, l0⟩ := hx.int hbm
 obtain rfl : f' = f := by rw [hf] at hfi; injection hfi with hfi; exact hfi.symm
 have PF : Hid (∀ w', Ex w w' → (w'.cell? ⟨b2, o2 + i * 5 + 1, none⟩ = some (.int .i64 f'.key.space) ∧ w'.cell? ⟨b2, o2 + i * 5 + 2, none⟩ = some (.int .i64 f'.key.page) ∧ w'.cell? ⟨b2, o2 + i * 5 + 4, none⟩ = some (.int .i64 f'.next) ∧ w'.cell? ⟨b1, o1 + b, none⟩ = some (.int .i64 x))) := zq (fun w' h => ⟨(h.cell hb2).trans k1, (h.cell hb2).trans k2, (h.cell hb2).trans k4, (h.cell hb1).trans l0⟩)
 have HQ1 : Hid (x = (i : Int) → unlinkT t i = ⟨t.buckets.set b f'.next, t.frames.set i freeF⟩) := zq (fun e => by unfold unlinkT bkOf; rw [getD_of hf, eb, Int.toNat_natCast, getD_of hbx, if_pos e])
 have HQ2 : Hid (x ≠ (i : Int) → unlinkT t i = ⟨t.buckets, skipTo t.frames i f'.next t.frames.length⟩) := zq (fun e => by unfold unlinkT bkOf; rw [getD_of hf, eb, Int.toNat_natCast, getD_of hbx, if_neg e])
 have HIX := zq hf
 have HBX := zq hbx
 have HFI := zq hfi
 obtain ⟨xs, ys⟩ := t
 dsimp only at HY C1 CH HQ1 HQ2 HIX HBX hi hbm few ⊢
 have HFIN : Hid (∀ (q : TableD) (A' B' : Option Addr) (c' d' : Nat) (w' : World), unlinkT ⟨xs, ys⟩ i = q → q.buckets.length = xs.length → q.frames.length = ys.length → Fr 3 w' w.heap.size A' c' q.buckets → Fr 45 w' w.heap.size B' d' q.frames → Ex w w' → TabIs (unlinkT ⟨xs, ys⟩ i) w (.returned (.agg #[.slice A' xs.length c', .slice B' ys.length d'])) w') := zq (fun q A' B' c' d' w' h1 e1 e2 h2 h3 h4 => by rw [h1]; exact ⟨A', c', B', d', by rw [e1, e2], h2, h3, h4⟩)
 have hi' : (i : Int) < (ys.length : Int) := by omega
 have hb' : (b : Int) < (xs.length : Int) := by omega
 have hi0 : ¬ (i : Int) < 0 := by omega
 have hb0 : ¬ (b : Int) < 0 := by omega
 have HXL : Hid (ys.length ≤ 16 ∧ 1 ≤ ys.length) := zq (by omega)
 clear hx hy k0 k1 k2 k3 k4 l0 hok few hu hk hv1 hv2 eb hf hbx hfi hc hd hc2 hd2
 go_enter Tryz.func115, Tryz.ntmps115
 go_wp2_with fail
 refine name_calls ?_; intro v1 hv1
 have X1 : Hid (Chg (0) (0) w v1) := zx hv1
 have t1 := X1.out.size
 have Ev1 := zq ((Ex.refl w).chg X1.out (by omega))
 have KX : Hid (Blk v1 (w.heap.size) 26 [.slice (some ⟨b1, o1, none⟩) xs.length c, .slice (some ⟨b2, o2, none⟩) ys.length d]) := zk hv1
 have lX : w.heap.size < v1.heap.size := KX.out.lt
 have KR : Hid (Blk v1 (w.heap.size + 1) 26 [.slice none 0 0, .slice none 0 0]) := zk hv1
 have lR : w.heap.size + 1 < v1.heap.size := KR.out.lt
 clear hv1
 refine (C1.out _ Ev1.out).mono ?_; rintro r w1 ⟨A1, c1, B1, d1, rfl, hfa, hfb, hb1⟩
 have Y1 := zq (Chg.of_ex hb1)
 have s1 := Y1.out.size
 have Ew1 := zq (Ev1.out.chg Y1.out (by omega))
 clear hb1
 replace KX := zq (KX.out.chg Y1.out (by omega))
 replace KR := zq (KR.out.chg Y1.out (by omega))
 have HFA := zq hfa; clear hfa
 have WHFA := zq HFA.out.row
 have HFB := zq hfb; clear hfb
 have WHFB := zq HFB.out.row
 obtain ⟨qX0, qX1⟩ := KX.out.c2
 have jX := KX.out.lt
 obtain ⟨qR0, qR1⟩ := KR.out.c2
 have jR := KR.out.lt
 have zR := KR.out.frozen
 go_wp2_with fail
 obtain ⟨w2, hw2⟩ : ∃ w2 : World, w2 = w1.alloc (.cells #[.slice A1 xs.length c1, .slice B1 ys.length d1] 26) := ⟨_, rfl⟩
 have Y2 : Hid (Chg 0 0 w1 w2) := zq (by rw [hw2]; exact (Chg.refl _ _ _).alloc _)
 have KO : Hid (Blk w2 w1.heap.size 26 [.slice A1 xs.length c1, .slice B1 ys.length d1]) := zq (by rw [hw2]; exact Blk.new _ _ _)
 rw [← hw2]
 clear hw2
 have s2 := Y2.out.size
 have Ew2 := zq (Ew1.out.chg Y2.out (by omega))
 clear qX0 qX1 jX
 clear qR0 qR1 jR zR
 replace KX := zq (KX.out.chg Y2.out (by omega))
 replace KR := zq (KR.out.chg Y2.out (by omega))
 replace HFA := zq (HFA.out.chg Y2.out WHFA.out (by omega))
 replace HFB := zq (HFB.out.chg Y2.out WHFB.out (by omega))
 obtain ⟨qX0, qX1⟩ := KX.out.c2
 have jX := KX.out.lt
 obtain ⟨qR0, qR1⟩ := KR.out.c2
 have jR := KR.out.lt
 have zR := KR.out.frozen
 obtain ⟨qO0, qO1⟩ := KO.out.c2
 have jO := KO.out.lt
 have FK : Hid (∀ w', Ex w2 w' → (w'.cell? ⟨w.heap.size, 0, none⟩ = some (.slice (some ⟨b1, o1, none⟩) xs.length c) ∧ w'.cell? ⟨w.heap.size, 1, none⟩ = some (.slice (some ⟨b2, o2, none⟩) ys.length d) ∧ w'.cell? ⟨b2, o2 + i * 5 + 1, none⟩ = some (.int .i64 f'.key.space) ∧ w'.cell? ⟨b2, o2 + i * 5 + 2, none⟩ = some (.int .i64 f'.key.page))) := zq (fun w' h => ⟨(KX.out.ex h).c2.1, (KX.out.ex h).c2.2, (PF.out w' (Ew2.out.trans h)).1, (PF.out w' (Ew2.out.trans h)).2.1⟩)
 go_region_held3 (fun w' => (w'.cell? ⟨w.heap.size, 0, none⟩ = some (.slice (some ⟨b1, o1, none⟩) xs.length c) ∧ w'.cell? ⟨w.heap.size, 1, none⟩ = some (.slice (some ⟨b2, o2, none⟩) ys.length d) ∧ w'.cell? ⟨b2, o2 + i * 5 + 1, none⟩ = some (.int .i64 f'.key.space) ∧ w'.cell? ⟨b2, o2 + i * 5 + 2, none⟩ = some (.int .i64 f'.key.page))) (first | (refine FK.out _ ?_; with_reducible (first | exact Ex.refl _ | exact (Ex.refl _).drew | exact hE1)) | go_keep) (first
  | (go_at_call 75; (with_reducible refine (CH.out _).mono ?_); rintro r w3 ⟨rfl, hb3⟩; have hE1 := Ex.trans (Ex.refl _).drew hb3))
 rename_i hHeld
 have Y3 := zq (Chg.of_ex hE1)
 clear hHeld hb3 hE1
 have s3 := Y3.out.size
 have Ew3 := zq (Ew2.out.chg Y3.out (by omega))
 clear qX0 qX1 jX
 clear qR0 qR1 jR zR
 clear qO0 qO1 jO
 replace KX := zq (KX.out.chg Y3.out (by omega))
 replace KR := zq (KR.out.chg Y3.out (by omega))
 replace KO := zq (KO.out.chg Y3.out (by omega))
 replace HFA := zq (HFA.out.chg Y3.out WHFA.out (by omega))
 replace HFB := zq (HFB.out.chg Y3.out WHFB.out (by omega))
 obtain ⟨qX0, qX1⟩ := KX.out.c2
 have jX := KX.out.lt
 obtain ⟨qR0, qR1⟩ := KR.out.c2
 have jR := KR.out.lt
 have zR := KR.out.frozen
 obtain ⟨qO0, qO1⟩ := KO.out.c2
 have jO := KO.out.lt
 obtain ⟨p1, p2, p3, p4⟩ := PF.out w3 Ew3.out
 obtain ⟨gb, rb, hA1, hgb, hbb, hrb⟩ := HFA.out.open_ hbm
 obtain ⟨gf, rf, hB1, hgf, hbf, hrf⟩ := HFB.out.open_ hi
 subst hA1 hB1
 have HBB := zq hbb
 have HBF := zq hbf
 have HRB := zq hrb
 have HRF := zq hrf
 have hlb := HFA.out.le
 have hlf := HFB.out.le
 have hcb := HFA.out.cap
 have hcf := HFB.out.cap
 have hgbl : gb < w1.heap.size := (WHFA.out gb (rowOf_some (by omega))).2
 have hgfl : gf < w1.heap.size := (WHFB.out gf (rowOf_some (by omega))).2
 have hne := Bk.ne hbb hbf (by decide)
 have hne' : ¬ gf = gb := fun e => hne e.symm
 clear hbb hbf hrb hrf
 clear HFA WHFA
 clear HFB WHFB
 have v0 := HBB.out.int HBX.out
 obtain ⟨d0, d1', d2', d3, d4⟩ := HBF.out.frame HIX.out
 have zb := HBB.out.frozen
 have zf := HBF.out.frozen
 have lb := Blk.lt HBB.out
 have lf := Blk.lt HBF.out
 have n1 : ¬ w1.heap.size = gf := by omega
 have n2 : ¬ gf = w1.heap.size := by omega
 have n3 : ¬ w1.heap.size = gb := by omega
 have n4 : ¬ gb = w1.heap.size := by omega
 have n5 : ¬ w.heap.size + 1 = gf := by omega
 have n6 : ¬ gf = w.heap.size + 1 := by omega
 have n7 : ¬ w.heap.size + 1 = gb := by omega
 have n8 : ¬ gb = w.heap.size + 1 := by omega
 have n9 : ¬ w.heap.size + 1 = w1.heap.size := by omega
 have n10 : ¬ w1.heap.size = w.heap.size + 1 := by omega
 have n11 : ¬ w.heap.size = gf := by omega
 have n12 : ¬ gf = w.heap.size := by omega
 have n13 : ¬ b2 = gf := by omega
 have n14 : ¬ gf = b2 := by omega
 have n15 : ¬ b1 = gf := by omega
 have n16 : ¬ gf = b1 := by omega
 by_cases hxi : x = (i : Int)
 ·have hxi' : (x == (i : Int)) = true := by simpa using hxi
  have HU := zq (HQ1.out hxi)
  clear hxi
  go_wp2
  refine bodyPost_ret (v := .agg #[.slice (some ⟨gb, 0, none⟩) xs.length c1, .slice (some ⟨gf, 0, none⟩) ys.length d1]) (by first | (simp [results, Tryz.results115, go_sem, *]; done) | (simp [results, Tryz.results115, go_sem, qR0, qR1]; done)) rfl
   (HFIN.out _ _ _ _ _ _ HU.out (by simp) (by simp) ?_ ?_ (ze Ew3.out))
  ·refine Fr.close (xs := xs.set b f'.next) (rest := rb) ?_ (by omega) (by simpa using HRB.out) (by simpa using hlb) hcb
   repeat' (first | with_reducible refine Bk.drew ?_ | with_reducible refine Bk.far ?_ hne _ | with_reducible refine Bk.far ?_ hne' _ | with_reducible refine Bk.far ?_ n8 _ | with_reducible refine Bk.far ?_ n6 _)
   with_reducible refine Bk.set_int ?_ _ hbm
   repeat' (first | with_reducible refine Bk.drew ?_ | with_reducible refine Bk.far ?_ hne _ | with_reducible refine Bk.far ?_ hne' _ | with_reducible refine Bk.far ?_ n8 _ | with_reducible refine Bk.far ?_ n6 _)
   exact HBB.out
  ·refine Fr.close (xs := ys.set i (⟨false, ⟨0, 0⟩, 0, -1⟩ : FrameD)) (rest := rf) ?_ (by omega) (by simpa using HRF.out) (by simpa using hlf) hcf
   repeat' (first | with_reducible refine Bk.drew ?_ | with_reducible refine Bk.far ?_ hne _ | with_reducible refine Bk.far ?_ hne' _ | with_reducible refine Bk.far ?_ n8 _ | with_reducible refine Bk.far ?_ n6 _)
   with_reducible refine Bk.set_frame ?_ (⟨false, ⟨0, 0⟩, 0, -1⟩ : FrameD) hi
   exact HBF.out
 ·have hxi' : (x == (i : Int)) = false := by simpa using hxi
  have HU := zq (HQ2.out hxi)
  clear hxi
  have KXS := KX
  have KOS := KO
  have KRS := KR
  go_wp2
  clear HQ1 HQ2 v0 d0 d1' d2' d3 d4 zb lb
  have h16 := HXL.out.1
  go_loopw [8] (fun z wr => ∃ k : Nat, k ≤ ys.length ∧ z = .int .i64 k ∧ Chg gf (gf + 1) w3 wr ∧ Bk 45 wr gf (skipTo ys i f'.next k) rf) (fun z _ => ys.length - (intOf z).toNat)
  case atStart =>
   refine ⟨0, Nat.zero_le _, rfl, (by with_reducible repeat' (first | exact Chg.refl _ _ w3 | refine Chg.alloc ?_ _ | refine Chg.drew ?_ | refine Chg.set ?_ (by omega) _)), ?_⟩
   rw [skipTo_zero]
   show Bk _ _ gf (ys.set i (⟨false, ⟨0, 0⟩, 0, -1⟩ : FrameD)) rf
   with_reducible refine Bk.set_frame ?_ (⟨false, ⟨0, 0⟩, 0, -1⟩ : FrameD) hi
   exact HBF.out
  case round =>
   obtain ⟨k, hk, rfl, hch, hbk⟩ := hrel
   have HCH := zq hch
   have HBK := zq hbk
   have EW : Hid (Ex w wr) := zq (Ew3.out.chg hch (by omega))
   have KX := zq (KXS.out.chg hch (by omega))
   have KO := zq (KOS.out.chg hch (by omega))
   have KR := zq (KRS.out.chg hch (by omega))
   clear qX0 qX1 jX qO0 qO1 jO qR0 qR1 jR zR zf lf p1 p2 p3 p4 hch hbk
   obtain ⟨qX0, qX1⟩ := KX.out.c2
   have jX := KX.out.lt
   obtain ⟨qO0, qO1⟩ := KO.out.c2
   have jO := KO.out.lt
   obtain ⟨qR0, qR1⟩ := KR.out.c2
   have jR := KR.out.lt
   have zR := KR.out.frozen
   by_cases hlt : k < ys.length
   ·obtain ⟨b3, o3, y, eA, hb3, hyk, k0, k1, k2, k3, k4⟩ := (HY.out.ex EW.out).frame (k := k) hlt
    injection eA with eA
    injection eA with e1 e2
    subst e1 e2
    have HYK := zq hyk
    obtain ⟨u4, d4⟩ : ∃ u : Int, wr.cell? ⟨gf, k * 5 + 4, none⟩ = some (.int .i64 u) := ⟨_, (HBK.out.frame (skipTo_get (i := i) (nx := f'.next) (n := k) hyk)).2.2.2.2⟩
    have zf := HBK.out.frozen
    have lf := Blk.lt HBK.out
    have HLT : Hid (k < (skipTo ys i f'.next k).length) := zq (by rw [skipTo_length]; exact hlt)
    clear hyk k1 k2 k3
    cases hu : y.used
    ·rw [hu] at k0
     have HS := zq (skipTo_keep (i := i) (nx := f'.next) HYK.out (.inr (fun h => by rw [hu] at h; cases h.1)))
     clear hu
     go_wp2
     go_roundw
     case rel => exact ⟨k + 1, by omega, by go_num, HCH.out, by rw [HS.out]; exact HBK.out⟩
     case measure => simp [intOf]; omega
    ·rw [hu] at k0
     by_cases hn : y.next = (i : Int)
     ·have hki : k ≠ i := fun e => by
       subst e
       have h1 := HIX.out
       rw [HYK.out] at h1
       injection h1 with h1
       rw [h1] at hn
       exact HSELF.out hn
      have HS := zq (skipTo_put (nx := f'.next) HYK.out hki hu hn)
      have HG : Hid ((skipTo ys i f'.next k)[k]? = some y) := zq (by rw [skipTo_get HYK.out, if_neg hki, if_neg (by omega)])
      have hn' : (y.next == (i : Int)) = true := by simpa using hn
      clear hu hn
      have hk0 : ¬ (k : Int) < 0 := by omega
      have hkn : (k : Int) < (ys.length : Int) := by omega
      go_wp2
      go_roundw
      case rel => exact ⟨k + 1, by omega, by go_num, HCH.out.set (by omega) _, by rw [HS.out]; exact HBK.out.set (j := 4) (x := y) (y := { y with next := f'.next }) HG.out (by decide) rfl (by simp [sz])⟩
      case measure => simp [intOf]; omega
     ·have HS := zq (skipTo_keep (i := i) (nx := f'.next) HYK.out (.inr (fun h => hn h.2)))
      have hn' : (y.next == (i : Int)) = false := by simpa using hn
      clear hu hn
      go_wp2
      go_roundw
      case rel => exact ⟨k + 1, by omega, by go_num, HCH.out, by rw [HS.out]; exact HBK.out⟩
      case measure => simp [intOf]; omega
   ·obtain rfl : k = ys.length := by omega
    have HB2 : Hid (Bk 3 wr gb xs rb) := zq (HBB.out.chg HCH.out (by omega))
    go_wp2
    refine bodyPost_ret (v := .agg #[.slice (some ⟨gb, 0, none⟩) xs.length c1, .slice (some ⟨gf, 0, none⟩) ys.length d1]) (by first | (simp [results, Tryz.results115, go_sem, *]; done) | (simp [results, Tryz.results115, go_sem, qR0, qR1]; done)) rfl
     (HFIN.out _ _ _ _ _ _ HU.out rfl (skipTo_length _ _ _ _) ?_ ?_ (ze EW.out))
    ·refine Fr.close (xs := xs) (rest := rb) ?_ (by omega) HRB.out hlb hcb
     repeat' (first | with_reducible exact HB2.out | with_reducible refine Bk.drew ?_ | with_reducible refine Bk.far ?_ n8 _)
    ·refine Fr.close (xs := skipTo ys i f'.next ys.length) (rest := rf) ?_ (by omega) (by rw [skipTo_length]; exact HRF.out) (by rw [skipTo_length]; exact hlf) hcf
     repeat' (first | with_reducible exact HBK.out | with_reducible refine Bk.drew ?_ | with_reducible refine Bk.far ?_ n6 _)

def unmapT (t : TableD) (k : KeyD) : TableD × Bool := if findF t k < 0 then (noTable, false) else (unlinkT t (findF t k).toNat, true)

set_option maxHeartbeats 4000000 in
theorem unmapS_c (t : TableD) (A : Option Addr) (c : Nat) (B : Option Addr) (d : Nat) (k : KeyD) (w : World) (hx : Rd w A t.buckets) (hy : Rd w B t.frames) (hc : t.buckets.length ≤ c) (hd : t.frames.length ≤ d) (hc2 : c ≤ maxLen) (hd2 : d ≤ maxLen)
  (hok : TableOk t) (hk : keyOk k) :
  Calls Tryz.prog 108 #[.agg #[.slice A t.buckets.length c, .slice B t.frames.length d], .agg #[.int .i64 k.space, .int .i64 k.page]] w (TabOr (unmapT t k) w) := by
 have few := hok.1
 unfold TableHead at few
 have C1 := zq (fun w' (h : Ex w w') => findPageS_c t A c B d k w' (hx.ex h) (hy.ex h) hok hk)
 rcases findF_or (t := t) k with e | ⟨i, f, e, hf, hu, _⟩
 ·have HN : unmapT t k = (noTable, false) := by unfold unmapT; rw [if_pos (by omega)]
  rw [HN]
  rw [e] at C1
  unfold FoundP at C1
  simp only [if_pos (show (-1 : Int) < 0 by decide), show decide ((0 : Int) ≤ -1) = false from rfl] at C1
  clear HN e hx hy hok hk few
  generalize t.buckets.length = nb at C1 ⊢
  generalize t.frames.length = n at C1 ⊢
  go_enter Tryz.func108, Tryz.ntmps108
  go_wp2_with fail
  refine name_calls ?_; intro v1 hv1
  have X1 : Hid (Chg (0) (0) w v1) := zx hv1
  have t1 := X1.out.size
  have Ev1 := zq ((Ex.refl w).chg X1.out (by omega))
  have KX : Hid (Blk v1 (w.heap.size) 26 [.slice A nb c, .slice B n d]) := zk hv1
  have lX : w.heap.size < v1.heap.size := KX.out.lt
  have KK : Hid (Blk v1 (w.heap.size + 1) 43 [.int .i64 k.space, .int .i64 k.page]) := zk hv1
  have lK : w.heap.size + 1 < v1.heap.size := KK.out.lt
  have KR : Hid (Blk v1 (w.heap.size + 1 + 1) 26 [.slice none 0 0, .slice none 0 0]) := zk hv1
  have lR : w.heap.size + 1 + 1 < v1.heap.size := KR.out.lt
  clear hv1
  refine (C1.out _ Ev1.out).mono ?_; rintro r w1 ⟨sp, rfl, hb1⟩
  have Y1 := zq (Chg.of_ex hb1)
  have s1 := Y1.out.size
  have Ew1 := zq (Ev1.out.chg Y1.out (by omega))
  clear hb1
  replace KX := zq (KX.out.chg Y1.out (by omega))
  replace KK := zq (KK.out.chg Y1.out (by omega))
  replace KR := zq (KR.out.chg Y1.out (by omega))
  obtain ⟨qX0, qX1⟩ := KX.out.c2
  have jX := KX.out.lt
  obtain ⟨qK0, qK1⟩ := KK.out.c2
  have jK := KK.out.lt
  obtain ⟨qR0, qR1⟩ := KR.out.c2
  have jR := KR.out.lt
  have zR := KR.out.frozen
  go_wp2
  exact bodyPost_ret (v := .tuple #[.agg #[.slice none 0 0, .slice none 0 0], .bool false]) (by first | (simp [results, Tryz.results108, go_sem, *]; done) | (simp [results, Tryz.results108, go_sem, qR0, qR1]; done)) rfl
   ⟨none, 0, none, 0, rfl, Fr.none_ _ _ _ _, Fr.none_ _ _ _ _, (ze Ew1.out)⟩
 ·have HN : unmapT t k = (unlinkT t i, true) := by unfold unmapT; rw [if_neg (by omega), e, Int.toNat_natCast]
  rw [HN]
  have C2 := zq (fun w' (h : Ex w w') => l3Unmap_c t A c B d i f w' (hx.ex h) (hy.ex h) hc hd hc2 hd2 hok hf hu)
  have h1 : ¬ findF t k < 0 := by omega
  have h2 : 0 ≤ findF t k := by omega
  unfold FoundP at C1
  simp only [if_neg h1, decide_eq_true h2] at C1
  rw [e] at C1
  generalize unlinkT t i = q at C2 ⊢
  clear HN e hx hy hok hk few h1 h2 hf hc hd
  generalize t.buckets.length = nb at C1 C2 ⊢
  generalize t.frames.length = n at C1 C2 ⊢
  go_enter Tryz.func108, Tryz.ntmps108
  go_wp2_with fail
  refine name_calls ?_; intro v1 hv1
  have X1 : Hid (Chg (0) (0) w v1) := zx hv1
  have t1 := X1.out.size
  have Ev1 := zq ((Ex.refl w).chg X1.out (by omega))
  have KX : Hid (Blk v1 (w.heap.size) 26 [.slice A nb c, .slice B n d]) := zk hv1
  have lX : w.heap.size < v1.heap.size := KX.out.lt
  have KK : Hid (Blk v1 (w.heap.size + 1) 43 [.int .i64 k.space, .int .i64 k.page]) := zk hv1
  have lK : w.heap.size + 1 < v1.heap.size := KK.out.lt
  have KR : Hid (Blk v1 (w.heap.size + 1 + 1) 26 [.slice none 0 0, .slice none 0 0]) := zk hv1
  have lR : w.heap.size + 1 + 1 < v1.heap.size := KR.out.lt
  clear hv1
  refine (C1.out _ Ev1.out).mono ?_; rintro r w1 ⟨sp, rfl, hb1⟩
  have Y1 := zq (Chg.of_ex hb1)
  have s1 := Y1.out.size
  have Ew1 := zq (Ev1.out.chg Y1.out (by omega))
  clear hb1
  replace KX := zq (KX.out.chg Y1.out (by omega))
  replace KK := zq (KK.out.chg Y1.out (by omega))
  replace KR := zq (KR.out.chg Y1.out (by omega))
  obtain ⟨qX0, qX1⟩ := KX.out.c2
  have jX := KX.out.lt
  obtain ⟨qK0, qK1⟩ := KK.out.c2
  have jK := KK.out.lt
  obtain ⟨qR0, qR1⟩ := KR.out.c2
  have jR := KR.out.lt
  have zR := KR.out.frozen
  go_wp2_with fail
  refine name_calls ?_; intro v2 hv2
  have X2 : Hid (Chg (0) (0) w1 v2) := zx hv2
  have t2 := X2.out.size
  have Ev2 := zq (Ew1.out.chg X2.out (by omega))
  clear qX0 qX1 jX
  clear qK0 qK1 jK
  clear qR0 qR1 jR zR
  replace KX := zq (KX.out.chg X2.out (by omega))
  replace KK := zq (KK.out.chg X2.out (by omega))
  replace KR := zq (KR.out.chg X2.out (by omega))
  clear hv2
  refine (C2.out _ Ev2.out).mono ?_; rintro r w2 ⟨A2, c2, B2, d2, rfl, hfa, hfb, hb2⟩
  have Y2 := zq (Chg.of_ex hb2)
  have s2 := Y2.out.size
  have Ew2 := zq (Ev2.out.chg Y2.out (by omega))
  clear hb2
  replace KX := zq (KX.out.chg Y2.out (by omega))
  replace KK := zq (KK.out.chg Y2.out (by omega))
  replace KR := zq (KR.out.chg Y2.out (by omega))
  have HFA := zq hfa; clear hfa
  have WHFA := zq HFA.out.row
  have HFB := zq hfb; clear hfb
  have WHFB := zq HFB.out.row
  obtain ⟨qX0, qX1⟩ := KX.out.c2
  have jX := KX.out.lt
  obtain ⟨qK0, qK1⟩ := KK.out.c2
  have jK := KK.out.lt
  obtain ⟨qR0, qR1⟩ := KR.out.c2
  have jR := KR.out.lt
  have zR := KR.out.frozen
  go_wp2
  exact bodyPost_ret (v := .tuple #[.agg #[.slice A2 q.buckets.length c2, .slice B2 q.frames.length d2], .bool true]) (by first | (simp [results, Tryz.results108, go_sem, *]; done) | (simp [results, Tryz.results108, go_sem, qR0, qR1]; done)) rfl
   ⟨A2, c2, B2, d2, rfl, Fr.mono (B := v2.heap.size) (zp HFA.out WHFA.out) (by omega), Fr.mono (B := v2.heap.size) (zp HFB.out WHFB.out) (by omega), (ze Ew2.out)⟩
end Go.Proofs.YtbdlpbladpppjaaGreatDoor
