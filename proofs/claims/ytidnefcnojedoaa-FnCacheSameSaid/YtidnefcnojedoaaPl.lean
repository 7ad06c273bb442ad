/- Plain laws of caches: what validity says, what dropping, wiring, filling keep. No walk in sight. -/
import Derived.Test.YtidnefcnojedoaaCn
namespace Go.Proofs.Ytidnefcnojedoaa
open Go.ChangeShapes Go.WideShapes Go.ChangeAt Go.RowKit
set_option linter.unusedVariables false

def dropPage (t : CacheD) (tag page : Int) : CacheD × Bool :=
  if (findLine t tag page).2 = true then (⟨t.lines.set (findLine t tag page).1.toNat noLine, t.hand⟩, true) else (noCache, false)
theorem dropPage_few (t : CacheD) (tag page : Int) (hn : t.lines.length ≤ 1048576) : (dropPage t tag page).1.lines.length ≤ 1048576 := by
  unfold dropPage
  split
  · simp; exact hn
  · simp [noCache]

theorem findLine_at (t : CacheD) (tag page : Int) : (findLine t tag page).2 = true → ∃ (k : Nat) (x : LineD), (findLine t tag page).1 = (k : Int) ∧ t.lines[k]? = some x ∧ fitsB x tag page = true ∧ (∀ (j : Nat) (y : LineD), j < k → t.lines[j]? = some y → fitsB y tag page = false) ∧ cacheV t = true ∧ tagB tag = true ∧ inB page 256 = true := by
  unfold findLine placeOf
  intro h
  split at h
  · split at h
    · split at h
      · split at h
        · rename_i h1 h2 h3 h4
          rcases firstOf_cases (fun x => fitsB x tag page) t.lines with ⟨e, _⟩ | ⟨k, x, e, hx, hp, hj⟩
          · omega
          · simp only [h1, h2, h3, h4, if_true]
            exact ⟨k, x, e, hx, hp, hj, trivial, trivial, trivial⟩
        · cases h
      · cases h
    · cases h
  · cases h

theorem clashB_comm (x y : LineD) : clashB x y = clashB y x := by
  unfold clashB
  rw [Bool.eq_iff_iff]
  simp only [Bool.and_eq_true, Bool.or_eq_true, beq_iff_eq]
  constructor <;> (rintro ⟨a, b, c, d⟩; refine ⟨b, a, c.symm, ?_⟩; rcases d with d | d | d <;> simp [d])

structure CV (c : CacheD) : Prop where
  n1 : 1 ≤ c.lines.length
  n8 : c.lines.length ≤ 8
  h0 : 0 ≤ c.hand
  h1 : c.hand < c.lines.length
  ok : ∀ (i : Nat) (x : LineD), c.lines[i]? = some x → lineV x = true
  ap : ∀ (i j : Nat) (x y : LineD), i ≠ j → c.lines[i]? = some x → c.lines[j]? = some y → clashB x y = false
  lo : ∃ (i : Nat) (x : LineD), c.lines[i]? = some x ∧ x.wired = false

theorem cv_iff (c : CacheD) : cacheV c = true ↔ CV c := by
  rw [cacheV_iff]
  constructor
  · rintro ⟨⟨a, b, d, e⟩, ho, hl⟩
    refine ⟨a, b, d, e, fun i x hx => (ho i x (getElem?_lt hx) hx).1, fun i j x y hij hx hy => ?_, ?_⟩
    · rcases Nat.lt_or_gt_of_ne hij with h | h
      · rw [clashB_comm]; exact (ho j y (getElem?_lt hy) hy).2 i x h hx
      · exact (ho i x (getElem?_lt hx) hx).2 j y h hy
    · unfold looseUp at hl
      rw [List.take_length, List.any_eq_true] at hl
      obtain ⟨x, hx, hw⟩ := hl
      obtain ⟨k, hk, rfl⟩ := List.getElem_of_mem hx
      exact ⟨k, _, List.getElem?_eq_getElem hk, by simpa using hw⟩
  · rintro ⟨a, b, d, e, ok, ap, i, x, hx, hw⟩
    refine ⟨⟨a, b, d, e⟩, fun i x hi hx => ⟨ok i x hx, fun j y hj hy => ap i j x y (by omega) hx hy⟩, ?_⟩
    unfold looseUp
    rw [List.take_length, List.any_eq_true]
    exact ⟨x, List.mem_of_getElem? hx, by simp [hw]⟩

theorem lineV_no {x : LineD} (h : lineV x = true) (hv : x.valid = false) : x = noLine := by
  unfold lineV at h
  rw [hv] at h
  exact eqB_true.1 h
theorem lineV_yes {x : LineD} (h : lineV x = true) (hv : x.valid = true) : tagB x.tag = true ∧ inB x.page 256 = true ∧ inB x.frame 16 = true ∧ inB x.rights 8 = true := by
  unfold lineV at h
  rw [hv] at h
  simpa [Bool.and_eq_true] using h
theorem lineV_noLine : lineV noLine = true := by decide
theorem clash_no (x : LineD) : clashB x noLine = false := by unfold clashB; simp [noLine]
theorem clash_no' (x : LineD) : clashB noLine x = false := by unfold clashB; simp [noLine]

theorem tagB_iff {t : Int} : tagB t = true ↔ -1 ≤ t ∧ t < 8 := by simp [tagB]

/-- Two lines that fit one tag and one page clash. -/
theorem fits_clash {x y : LineD} {tag page : Int} (hx : fitsB x tag page = true) (hy : fitsB y tag page = true) : clashB x y = true := by
  unfold fitsB at hx hy
  unfold clashB
  simp only [Bool.and_eq_true, Bool.or_eq_true, beq_iff_eq] at hx hy ⊢
  obtain ⟨a, b, c⟩ := hx
  obtain ⟨a', b', c'⟩ := hy
  refine ⟨a, a', by omega, ?_⟩
  rcases c with c | c <;> rcases c' with c' | c' <;> simp [c, c']

/-- The one line that fits is found. -/
theorem place_uniq {t : CacheD} (h : CV t) {k : Nat} {x : LineD} {tag page : Int} (hx : t.lines[k]? = some x) (hf : fitsB x tag page = true) : placeOf t.lines tag page = (k : Int) := by
  unfold placeOf
  refine firstOf_at hx hf fun j y hj hy => ?_
  cases hy' : fitsB y tag page
  · rfl
  · have := h.ap k j x y (by omega) hx hy
    rw [fits_clash hf hy'] at this
    cases this
theorem place_none {xs : List LineD} {tag page : Int} (h : ∀ (j : Nat) (y : LineD), xs[j]? = some y → fitsB y tag page = false) : placeOf xs tag page = -1 :=
  firstOf_none fun j y _ hy => h j y hy
theorem place_neg {xs : List LineD} {tag page : Int} (h : placeOf xs tag page < 0) : ∀ (j : Nat) (y : LineD), xs[j]? = some y → fitsB y tag page = false := by
  unfold placeOf at h
  rcases firstOf_cases (fun x => fitsB x tag page) xs with ⟨_, e⟩ | ⟨k, x, e, _⟩
  · exact e
  · omega
theorem findLine_eq {t : CacheD} (h : CV t) {tag page : Int} (ht : tagB tag = true) (hp : inB page 256 = true) : findLine t tag page = if 0 ≤ placeOf t.lines tag page then (placeOf t.lines tag page, true) else (0, false) := by
  unfold findLine
  rw [(cv_iff t).2 h, ht, hp]
  rfl
theorem findLine_found {t : CacheD} (h : CV t) {k : Nat} {x : LineD} {tag page : Int} (ht : tagB tag = true) (hx : t.lines[k]? = some x) (hf : fitsB x tag page = true) : findLine t tag page = ((k : Int), true) := by
  have hp : inB page 256 = true := by
    have hv : x.valid = true := by unfold fitsB at hf; simp [Bool.and_eq_true] at hf; exact hf.1
    have e : x.page = page := by unfold fitsB at hf; simp [Bool.and_eq_true] at hf; exact hf.2.1
    rw [← e]
    exact (lineV_yes (h.ok k x hx) hv).2.1
  rw [findLine_eq h ht hp, place_uniq h hx hf, if_pos (by omega)]
theorem findLine_none {t : CacheD} {tag page : Int} (hn : ∀ (j : Nat) (y : LineD), t.lines[j]? = some y → fitsB y tag page = false) : findLine t tag page = (0, false) := by
  unfold findLine
  rw [place_none hn]
  simp

/-- What the victim is. -/
theorem victim_spec {t : CacheD} (h : CV t) : ∃ (v : Nat) (x : LineD), victimAt t = (v : Int) ∧ t.lines[v]? = some x ∧ x.wired = false ∧
    ((x.valid = false ∧ ∀ (j : Nat) (y : LineD), j < v → t.lines[j]? = some y → y.valid = true) ∨ ∀ (j : Nat) (y : LineD), t.lines[j]? = some y → y.valid = true) := by
  obtain ⟨h', d0, e1, e2, e3, e4, b1, b2, b3, b4⟩ := victim_facts ((cv_iff t).2 h)
  rcases firstOf_cases (fun x : LineD => !x.valid) t.lines with ⟨e, ha⟩ | ⟨k, x, e, hx, hp, hj⟩
  · have ha' : ∀ (j : Nat) (y : LineD), t.lines[j]? = some y → y.valid = true := fun j y hy => by have := ha j y hy; simpa using this
    have hlt : (h' + d0) % t.lines.length < t.lines.length := Nat.mod_lt _ (by have := h.n1; omega)
    refine ⟨_, _, b2 (fun j y _ hy => ha' j y hy), List.getElem?_eq_getElem hlt, b4 _ (List.getElem?_eq_getElem hlt), .inr ha'⟩
  · have hp' : x.valid = false := by simpa using hp
    have hj' : ∀ (j : Nat) (y : LineD), j < k → t.lines[j]? = some y → y.valid = true := fun j y h1 h2 => by have := hj j y h1 h2; simpa using this
    refine ⟨k, x, b1 k x hx hp' hj', hx, ?_, .inl ⟨hp', hj'⟩⟩
    rw [lineV_no (h.ok k x hx) hp']
    rfl
theorem victimOf_eq {t : CacheD} (h : CV t) : victimOf t = (victimAt t, true) := by unfold victimOf; rw [(cv_iff t).2 h]; rfl

theorem get_set_cases {α : Type} {xs : List α} {k i : Nat} {x y : α} (h : (xs.set k x)[i]? = some y) : (i = k ∧ y = x ∧ k < xs.length) ∨ (i ≠ k ∧ xs[i]? = some y) := by
  by_cases e : i = k
  · subst e
    have hl := getElem?_lt h
    rw [List.length_set] at hl
    rw [List.getElem?_set_self hl] at h
    injection h with h
    exact .inl ⟨rfl, h.symm, hl⟩
  · rw [List.getElem?_set_ne (fun q => e q.symm)] at h
    exact .inr ⟨e, h⟩

/-- One line is laid anew. -/
theorem CV.set {t : CacheD} (h : CV t) {v : Nat} {x : LineD} {hd : Int} (h0 : 0 ≤ hd) (h1 : hd < t.lines.length) (hx : lineV x = true)
    (hc : ∀ (j : Nat) (y : LineD), j ≠ v → t.lines[j]? = some y → clashB x y = false) (hl : ∃ (i : Nat) (y : LineD), (t.lines.set v x)[i]? = some y ∧ y.wired = false) : CV ⟨t.lines.set v x, hd⟩ := by
  refine ⟨by simpa using h.n1, by simpa using h.n8, h0, by simpa using h1, fun i y hy => ?_, fun i j y z hij hy hz => ?_, hl⟩
  · rcases get_set_cases hy with ⟨_, rfl, _⟩ | ⟨_, hy⟩
    · exact hx
    · exact h.ok i y hy
  · rcases get_set_cases hy with ⟨e1, rfl, _⟩ | ⟨e1, hy'⟩ <;> rcases get_set_cases hz with ⟨e2, rfl, _⟩ | ⟨e2, hz'⟩
    · omega
    · exact hc j z e2 hz'
    · rw [clashB_comm]; exact hc i y e1 hy'
    · exact h.ap i j y z hij hy' hz'

/-! ### Dropping -/
def dropL (p : LineD → Bool) (x : LineD) : LineD := if !x.wired && p x then noLine else x
def dropIf (t : CacheD) (p : LineD → Bool) : CacheD := ⟨t.lines.map (dropL p), t.hand⟩
def dropTag (t : CacheD) (tag : Int) : CacheD × Bool := if cacheV t && tagB tag then (dropIf t (fun x => x.tag == tag), true) else (noCache, false)
def dropAll (t : CacheD) : CacheD × Bool := if cacheV t then (dropIf t (fun _ => true), true) else (noCache, false)
theorem dropTag_few (t : CacheD) (tag : Int) (hn : t.lines.length ≤ 1048576) : (dropTag t tag).1.lines.length ≤ 1048576 := by
  unfold dropTag
  split
  · simp [dropIf]; exact hn
  · simp [noCache]
theorem dropAll_few (t : CacheD) (hn : t.lines.length ≤ 1048576) : (dropAll t).1.lines.length ≤ 1048576 := by
  unfold dropAll
  split
  · simp [dropIf]; exact hn
  · simp [noCache]
theorem dropL_cases (p : LineD → Bool) (x : LineD) : (dropL p x = noLine ∧ x.wired = false ∧ p x = true) ∨ (dropL p x = x ∧ (x.wired = true ∨ p x = false)) := by
  unfold dropL
  cases hw : x.wired <;> cases hp : p x <;> simp
theorem dropIf_get {t : CacheD} {p : LineD → Bool} {i : Nat} {y : LineD} (h : (dropIf t p).lines[i]? = some y) : ∃ x, t.lines[i]? = some x ∧ y = dropL p x := by
  unfold dropIf at h
  simp only [List.getElem?_map, Option.map_eq_some_iff] at h
  obtain ⟨x, hx, e⟩ := h
  exact ⟨x, hx, e.symm⟩
theorem dropIf_cv {t : CacheD} (h : CV t) (p : LineD → Bool) : CV (dropIf t p) := by
  refine ⟨by simpa [dropIf] using h.n1, by simpa [dropIf] using h.n8, h.h0, by simpa [dropIf] using h.h1, fun i y hy => ?_, fun i j y z hij hy hz => ?_, ?_⟩
  · obtain ⟨x, hx, rfl⟩ := dropIf_get hy
    rcases dropL_cases p x with ⟨e, -, -⟩ | ⟨e, -⟩ <;> rw [e]
    · exact lineV_noLine
    · exact h.ok i x hx
  · obtain ⟨x, hx, rfl⟩ := dropIf_get hy
    obtain ⟨x', hx', rfl⟩ := dropIf_get hz
    rcases dropL_cases p x with ⟨e, -, -⟩ | ⟨e, -⟩ <;> rcases dropL_cases p x' with ⟨e', -, -⟩ | ⟨e', -⟩ <;> rw [e, e']
    · exact clash_no _
    · exact clash_no' _
    · exact clash_no _
    · exact h.ap i j x x' hij hx hx'
  · obtain ⟨i, x, hx, hw⟩ := h.lo
    refine ⟨i, dropL p x, by simp [dropIf, hx], ?_⟩
    rcases dropL_cases p x with ⟨e, -, -⟩ | ⟨e, -⟩ <;> rw [e]
    · rfl
    · exact hw
theorem dropL_idem (p : LineD → Bool) (x : LineD) : dropL p (dropL p x) = dropL p x := by
  rcases dropL_cases p x with ⟨e, -, -⟩ | ⟨e, -⟩ <;> rw [e]
  · unfold dropL; split <;> rfl
  · exact e
theorem dropIf_idem (t : CacheD) (p : LineD → Bool) : dropIf (dropIf t p) p = dropIf t p := by
  unfold dropIf
  simp only [List.map_map]
  congr 1
  exact List.map_congr_left fun x _ => dropL_idem p x
theorem dropL_comm (p q : LineD → Bool) (x : LineD) : dropL p (dropL q x) = dropL q (dropL p x) := by
  have hn : ∀ r, dropL r noLine = noLine := fun r => by unfold dropL; split <;> rfl
  rcases dropL_cases p x with ⟨e, -, -⟩ | ⟨e, -⟩ <;> rcases dropL_cases q x with ⟨e', -, -⟩ | ⟨e', -⟩ <;> simp [e, e', hn]
theorem dropIf_comm (t : CacheD) (p q : LineD → Bool) : dropIf (dropIf t p) q = dropIf (dropIf t q) p := by
  unfold dropIf
  simp only [List.map_map]
  congr 1
  exact List.map_congr_left fun x _ => dropL_comm q p x
theorem dropIf_congr {t : CacheD} {p q : LineD → Bool} (h : ∀ (i : Nat) (x : LineD), t.lines[i]? = some x → dropL p x = dropL q x) : dropIf t p = dropIf t q := by
  unfold dropIf
  congr 1
  refine List.map_congr_left fun x hx => ?_
  obtain ⟨k, hk, rfl⟩ := List.getElem_of_mem hx
  exact h k _ (List.getElem?_eq_getElem hk)
theorem dropIf_self {t : CacheD} {p : LineD → Bool} (h : ∀ (i : Nat) (x : LineD), t.lines[i]? = some x → dropL p x = x) : dropIf t p = t := by
  obtain ⟨xs, hd⟩ := t
  unfold dropIf
  congr 1
  rw [List.map_congr_left (g := id) (fun x hx => ?_), List.map_id]
  obtain ⟨k, hk, rfl⟩ := List.getElem_of_mem hx
  exact h k _ (List.getElem?_eq_getElem hk)
theorem dropTag_eq {t : CacheD} (h : CV t) {tag : Int} (ht : tagB tag = true) : dropTag t tag = (dropIf t (fun x => x.tag == tag), true) := by
  unfold dropTag; rw [(cv_iff t).2 h, ht]; rfl
theorem dropAll_eq {t : CacheD} (h : CV t) : dropAll t = (dropIf t (fun _ => true), true) := by
  unfold dropAll; rw [(cv_iff t).2 h]; rfl
theorem dropTag_ok {t : CacheD} {tag : Int} (h : (dropTag t tag).2 = true) : CV t ∧ tagB tag = true := by
  unfold dropTag at h
  split at h
  · rename_i h1
    rw [Bool.and_eq_true] at h1
    exact ⟨(cv_iff t).1 h1.1, h1.2⟩
  · cases h
theorem dropAll_ok {t : CacheD} (h : (dropAll t).2 = true) : CV t := by
  unfold dropAll at h
  split at h
  · rename_i h1
    exact (cv_iff t).1 h1
  · cases h
end Go.Proofs.Ytidnefcnojedoaa
