/- Joined: Qb, Za, Dr, Cr, Zb, Cp, Zd. -/
import Derived.Test.YtbdlpbladpppjaaGreatDoorK7
import Derived.Test.YtbdlpbladpppjaaGreatDoorK8
import Derived.Test.YtbdlpbladpppjaaGreatDoorK6
import Derived.Test.YtbdlpbladpppjaaGreatDoorK1
namespace Go.Proofs.YtbdlpbladpppjaaGreatDoor
open Go.ChangeShapes Go.WideShapes Go.ChangeAt Go.RowKit
set_option linter.unusedVariables false

/-! ### The steps -/
def tagFor (m : MachD) (s p : Int) : Int × Bool := if 128 ≤ p then (-1, true) else if ownPlace m.tags.owns s < 0 then (0, false) else ((m.tags.owns.getD (ownPlace m.tags.owns s).toNat noOwn).tag, true)
def freshL (x : LineD) : LineD := if x.tag = -1 then x else noLine
def freshC (c : CacheD) : CacheD := ⟨c.lines.map freshL, c.hand⟩
def enterM (m : MachD) (s : Int) : MachD × Bool :=
 if (takeTag m.tags s).2.2.2 = true then (⟨m.table, if (takeTag m.tags s).2.2.1 = true then freshC m.cache else m.cache, (takeTag m.tags s).1, s⟩, true) else (noMach, false)
def putM (m : MachD) (k : KeyD) (i : Nat) (rt : Int) : MachD × Bool := if putsT m.table k i = true then (⟨linkT m.table k i rt, m.cache, m.tags, m.space⟩, true) else (noMach, false)
def forgetC (m : MachD) (k : KeyD) : CacheD := if (tagFor m k.space k.page).2 = true then (if (dropPage m.cache (tagFor m k.space k.page).1 k.page).2 = true then (dropPage m.cache (tagFor m k.space k.page).1 k.page).1 else m.cache) else m.cache
def takeM (m : MachD) (k : KeyD) : MachD × Bool := if findF m.table k < 0 then (noMach, false) else (⟨unlinkT m.table (findF m.table k).toNat, forgetC m k, m.tags, m.space⟩, true)
def newL (m : MachD) (page : Int) : LineD := ⟨true, (tagFor m m.space page).1, page, findF m.table (keyFor m.space page), (m.table.frames.getD (findF m.table (keyFor m.space page)).toNat freeF).rights, false⟩
def hitAt (m : MachD) (page : Int) : Int := placeOf m.cache.lines (tagFor m m.space page).1 page
/-- The machine behind a touch. -/
def touchM (m : MachD) (page : Int) : MachD := if 0 ≤ hitAt m page then m else if findF m.table (keyFor m.space page) < 0 then m else ⟨m.table, (fillLine m.cache (newL m page)).1, m.tags, m.space⟩
/-- The frame that a touch tells. -/
def touchF (m : MachD) (page : Int) : Int := if 0 ≤ hitAt m page then (m.cache.lines.getD (hitAt m page).toNat noLine).frame else if findF m.table (keyFor m.space page) < 0 then 0 else findF m.table (keyFor m.space page)
def missM (m : MachD) (page : Int) : Bool := decide (hitAt m page < 0) && decide (findF m.table (keyFor m.space page) < 0)
def wireM (m : MachD) (page : Int) : MachD × Bool :=
 if missM m page = true then (noMach, false) else
 if (wireLine (touchM m page).cache (placeOf (touchM m page).cache.lines (-1) page) true).2 = true then (⟨(touchM m page).table, (wireLine (touchM m page).cache (placeOf (touchM m page).cache.lines (-1) page) true).1, (touchM m page).tags, (touchM m page).space⟩, true) else (noMach, false)

/-! ### What a valid machine is -/
theorem MachOk.cv {m : MachD} (h : MachOk m) : CV m.cache := (cv_iff _).1 h.1.2.1
theorem spaceOf_fst {t : TagsD} (hv : tagsV t = true) {g : Int} (h : (spaceOf t g).2 = true) : ∃ (i : Nat) (y : OwnD), t.owns[i]? = some y ∧ y.tag = g ∧ (spaceOf t g).1 = y.space := by
 rcases spaceOf_or t g with ⟨e, _⟩ | ⟨k, x, _, hx, hg, e⟩
 ·rw [e] at h; cases h
 ·exact ⟨k, x, hx, hg, by rw [e]⟩
theorem lineSpace_eq {m m' : MachD} {x : LineD} (h : x.tag ≠ -1 → spaceOf m'.tags x.tag = spaceOf m.tags x.tag) : lineSpace m' x = lineSpace m x := by
 unfold lineSpace
 split
 ·rfl
 ·rename_i e
  rw [h e]
/-- A line goes on to fit, as long as its tag tells the same space and its frame stays. -/
theorem LineFits.move {m m' : MachD} {x : LineD} (h : LineFits m x) (hsp : x.tag ≠ -1 → spaceOf m'.tags x.tag = spaceOf m.tags x.tag) (hT : TableOk m'.table)
  (hfr : ∀ (i : Nat) (f : FrameD), m.table.frames[i]? = some f → f.used = true → f.key = keyFor (lineSpace m x) x.page → ∃ f' : FrameD, m'.table.frames[i]? = some f' ∧ f'.used = f.used ∧ f'.key = f.key ∧ f'.rights = f.rights) : LineFits m' x := by
 obtain ⟨h1, h2, ⟨i, f, ha, hfx, hf, hr⟩, h4⟩ := h
 have hls := lineSpace_eq hsp
 unfold lineAt at ha
 obtain ⟨g, hg, hgu, hgk⟩ := findF_at ha
 rw [hf] at hg
 injection hg with hg
 subst hg
 obtain ⟨f', e1, e2, e3, e4⟩ := hfr i f hf hgu hgk
 refine ⟨h1, fun e => by rw [hsp e]; exact h2 e, ⟨i, f', ?_, hfx, e1, by rw [e4]; exact hr⟩, h4⟩
 unfold lineAt
 rw [hls]
 exact findF_hit hT e1 (by rw [e2]; exact hgu) (by rw [e3]; exact hgk)
theorem LineFits.same {m m' : MachD} {x : LineD} (h : LineFits m x) (h1 : m'.table = m.table) (h2 : m'.tags = m.tags) : LineFits m' x := by
 unfold LineFits lineAt lineSpace at h ⊢
 rw [h1, h2]
 exact h
/-- What the line's frame is. -/
theorem LineFits.frame {m : MachD} {x : LineD} (h : LineFits m x) : ∃ (i : Nat) (f : FrameD), x.frame = (i : Int) ∧ m.table.frames[i]? = some f ∧ f.used = true ∧ f.key = keyFor (lineSpace m x) x.page ∧ f.rights = x.rights := by
 obtain ⟨h1, h2, ⟨i, f, ha, hfx, hf, hr⟩, h4⟩ := h
 unfold lineAt at ha
 obtain ⟨g, hg, hgu, hgk⟩ := findF_at ha
 rw [hf] at hg
 injection hg with hg
 subst hg
 exact ⟨i, f, hfx.symm, hf, hgu, hgk, hr⟩
theorem keyFor_page (s p : Int) : (keyFor s p).page = p := by unfold keyFor; split <;> rfl
theorem MachOk.own {m : MachD} (h : MachOk m) : ∃ (k : Nat) (x : OwnD), ownPlace m.tags.owns m.space = (k : Int) ∧ m.tags.owns[k]? = some x ∧ x.space = m.space := by
 rcases place_or m.tags.owns m.space with ⟨e, _⟩ | ⟨k, x, e, hx, hs⟩
 ·have := h.1.2.2.2; omega
 ·exact ⟨k, x, e, hx, hs⟩
theorem place_has {xs : List OwnD} {s : Int} {k : Nat} {x : OwnD} (hx : xs[k]? = some x) (hs : x.space = s) : 0 ≤ ownPlace xs s := by
 rcases place_or xs s with ⟨_, h⟩ | ⟨k, y, e, _⟩
 ·exact absurd hs (h k x hx)
 ·omega
/-- The tag of the space that runs. -/
theorem MachOk.tag {m : MachD} (h : MachOk m) (page : Int) : (128 ≤ page ∧ tagFor m m.space page = (-1, true)) ∨ (page < 128 ∧ ∃ (k : Nat) (x : OwnD), m.tags.owns[k]? = some x ∧ x.space = m.space ∧ tagFor m m.space page = (x.tag, true) ∧ 0 ≤ x.tag ∧ x.tag < 8 ∧ spaceOf m.tags x.tag = (m.space, true)) := by
 unfold tagFor
 by_cases hp : 128 ≤ page
 ·rw [if_pos hp]; exact .inl ⟨hp, rfl⟩
 ·rw [if_neg hp]
  obtain ⟨k, x, e, hx, hs⟩ := h.own
  have h1 := tv_own h.1.2.2.1 hx
  have h2 : TagsHead m.tags := tv_head h.1.2.2.1
  unfold TagsHead at h2
  rw [if_neg (by omega), e, Int.toNat_natCast, own_getD hx]
  exact .inr ⟨by omega, k, x, hx, hs, rfl, h1.1, by omega, by rw [spaceOf_of h.1.2.2.1 hx, hs]⟩
theorem MachOk.space {m : MachD} (h : MachOk m) : 0 ≤ m.space ∧ m.space < 16 := by
 obtain ⟨k, x, e, hx, hs⟩ := h.own
 have h1 := tv_own h.1.2.2.1 hx
 omega
theorem machOk_mk {m : MachD} (h1 : TableOk m.table) (h2 : CV m.cache) (h3 : tagsV m.tags = true) (h4 : 0 ≤ ownPlace m.tags.owns m.space) (h5 : ∀ (i : Nat) (f : FrameD), m.table.frames[i]? = some f → FrameFits f) (h6 : ∀ (i : Nat) (x : LineD), m.cache.lines[i]? = some x → x.valid = true → LineFits m x) : MachOk m :=
 ⟨⟨h1, (cv_iff _).2 h2, h3, h4⟩, h5, h6⟩

/-! ### Entering a space -/
theorem freshC_cv {m : MachD} (h : MachOk m) : CV (freshC m.cache) := by
 have c := h.cv
 have hg : ∀ (i : Nat) (y : LineD), (freshC m.cache).lines[i]? = some y → ∃ x, m.cache.lines[i]? = some x ∧ y = freshL x := fun i y hy => by
  unfold freshC at hy
  simp only [List.getElem?_map, Option.map_eq_some_iff] at hy
  obtain ⟨x, hx, e⟩ := hy
  exact ⟨x, hx, e.symm⟩
 have hc : ∀ x : LineD, freshL x = x ∧ x.tag = -1 ∨ freshL x = noLine ∧ x.tag ≠ -1 := fun x => by
  unfold freshL
  split
  ·rename_i e; exact .inl ⟨rfl, e⟩
  ·rename_i e; exact .inr ⟨rfl, e⟩
 refine ⟨by simpa [freshC] using c.n1, by simpa [freshC] using c.n8, c.h0, by simpa [freshC] using c.h1, fun i y hy => ?_, fun i j y z hij hy hz => ?_, ?_⟩
 ·obtain ⟨x, hx, rfl⟩ := hg i y hy
  rcases hc x with ⟨e, _⟩ | ⟨e, _⟩ <;> rw [e]
  ·exact c.ok i x hx
  ·exact lineV_noLine
 ·obtain ⟨x, hx, rfl⟩ := hg i y hy
  obtain ⟨x', hx', rfl⟩ := hg j z hz
  rcases hc x with ⟨e, _⟩ | ⟨e, _⟩ <;> rcases hc x' with ⟨e', _⟩ | ⟨e', _⟩ <;> rw [e, e']
  ·exact c.ap i j x x' hij hx hx'
  ·exact clash_no _
  ·exact clash_no' _
  ·exact clash_no _
 ·obtain ⟨i, x, hx, hw⟩ := c.lo
  refine ⟨i, freshL x, by simp [freshC, hx], ?_⟩
  rcases hc x with ⟨e, _⟩ | ⟨e, _⟩ <;> rw [e]
  ·exact hw
  ·rfl
theorem enterM_ok {m : MachD} (h : MachOk m) {s : Int} (hok : (enterM m s).2 = true) : MachOk (enterM m s).1 := by
 unfold enterM at hok ⊢
 split at hok
 rotate_left
 ·cases hok
 rename_i hk
 rw [if_pos hk]
 have hv := take_valid hk
 rcases takeTag_or m.tags s with e | ⟨k, x, _, _, hx, hs, e⟩ | ⟨_, hb, hno, hne, e⟩ | ⟨_, hb, hno, hne, hr, e⟩
 ·rw [e] at hk; cases hk
 ·rw [e]
  exact machOk_mk h.1.1 h.cv h.1.2.2.1 (place_has hx hs) h.2.1 (fun i x hx hxv => (h.2.2 i x hx hxv).same rfl rfl)
 ·rw [e] at hv ⊢
  refine machOk_mk h.1.1 h.cv hv (place_has (k := m.tags.owns.length) (x := ⟨s, m.tags.next⟩) (by simp) rfl) h.2.1 (fun i x hx hxv => ?_)
  have hl := h.2.2 i x hx hxv
  refine hl.move (fun ht => ?_) h.1.1 (fun i f hf hu hk => ⟨f, hf, rfl, rfl, rfl⟩)
  obtain ⟨j, y, hy, hyt, e1⟩ := spaceOf_fst h.1.2.2.1 (hl.2.1 ht)
  rw [← hyt, spaceOf_of h.1.2.2.1 hy]
  exact spaceOf_of hv (i := j) (x := y) (by simp only; rw [List.getElem?_append_left (getElem?_lt hy)]; exact hy)
 ·rw [e] at hv ⊢
  refine machOk_mk h.1.1 (freshC_cv h) hv (place_has (k := 0) (x := ⟨s, 0⟩) rfl rfl) h.2.1 (fun i y hy hyv => ?_)
  have hy' : (freshC m.cache).lines[i]? = some y := hy
  unfold freshC at hy'
  simp only [List.getElem?_map, Option.map_eq_some_iff] at hy'
  obtain ⟨x, hx, e2⟩ := hy'
  unfold freshL at e2
  split at e2
  ·rename_i ht
   subst e2
   exact (h.2.2 i x hx hyv).move (fun hn => absurd ht hn) h.1.1 (fun i f hf hu hk => ⟨f, hf, rfl, rfl, rfl⟩)
  ·subst e2; cases hyv

/-! ### Putting a page in -/
theorem putM_ok {m : MachD} (h : MachOk m) {k : KeyD} {i : Nat} {rt : Int} (hk : keyOk k) (hs : keyFor k.space k.page = k) (hr : 0 ≤ rt ∧ rt < 8) (hi : i < m.table.frames.length) (hok : (putM m k i rt).2 = true) : MachOk (putM m k i rt).1 ∧ findF (putM m k i rt).1.table k = (i : Int) := by
 unfold putM at hok ⊢
 split at hok
 rotate_left
 ·cases hok
 rename_i hp
 rw [if_pos hp]
 unfold putsT at hp
 rw [Bool.and_eq_true] at hp
 have hf := List.getElem?_eq_getElem hi
 rw [getD_of hf] at hp
 have hu : m.table.frames[i].used = false := by simpa using hp.1
 have hn : findF m.table k < 0 := by simpa using hp.2
 have hT := linkT_ok h.1.1 hk hr hf hu hn
 refine ⟨machOk_mk hT h.cv h.1.2.2.1 h.1.2.2.2 (fun j g hg => ?_) (fun j x hx hxv => ?_), linkT_find hT hi⟩
 ·rcases linkT_get hg with ⟨rfl, rfl, _⟩ | ⟨_, hg'⟩
  ·rintro ⟨_, h1, h2⟩
   simp only at h1 h2
   unfold keyFor at hs
   rw [if_pos h1] at hs
   apply h2
   rw [← hs]
  ·exact h.2.1 j g hg'
 ·exact (h.2.2 j x hx hxv).move (fun _ => rfl) hT (fun i' f' hf' hu' _ => ⟨f', linkT_keep hf hu hf' hu', rfl, rfl, rfl⟩)

/-! ### Taking a page out -/
theorem forget_cases {m : MachD} (h : MachOk m) {k : KeyD} (hk : keyOk k) : CV (forgetC m k) ∧ ∀ (i : Nat) (x : LineD), (forgetC m k).lines[i]? = some x → x.valid = true → m.cache.lines[i]? = some x ∧ ∀ g : Int, tagFor m k.space k.page = (g, true) → fitsB x g k.page = false := by
 have c := h.cv
 unfold forgetC
 generalize hq : tagFor m k.space k.page = q
 obtain ⟨g, ok⟩ := q
 dsimp only
 cases ok
 ·rw [if_neg (by simp)]
  exact ⟨c, fun i x hx hxv => ⟨hx, fun g' e => by injection e with _ e; cases e⟩⟩
 rw [if_pos rfl]
 have htb : tagB g = true := by
  unfold tagFor at hq
  split at hq
  ·injection hq with hq _
   rw [← hq]; decide
  ·split at hq
   ·injection hq with _ hq; cases hq
   ·injection hq with hq _
    rcases place_or m.tags.owns k.space with ⟨e, _⟩ | ⟨j, y, e, hy, _⟩
    ·omega
    ·rw [e, Int.toNat_natCast, own_getD hy] at hq
     have h1 := tv_own h.1.2.2.1 hy
     have h2 : TagsHead m.tags := tv_head h.1.2.2.1
     unfold TagsHead at h2
     exact tagB_iff.2 (by omega)
 have hpb : inB k.page 256 = true := inB_true.2 hk.2
 by_cases hfl : (findLine m.cache g k.page).2 = true
 ·have e : dropPage m.cache g k.page = (⟨m.cache.lines.set (findLine m.cache g k.page).1.toNat noLine, m.cache.hand⟩, true) := by unfold dropPage; rw [if_pos hfl]
  rw [e]
  simp only [if_true]
  obtain ⟨v, x, e1, hx, hfit, _⟩ := findLine_at _ _ _ hfl
  rw [e1, Int.toNat_natCast]
  refine ⟨c.set c.h0 c.h1 lineV_noLine (fun j y _ _ => clash_no' _) ⟨v, noLine, by rw [List.getElem?_set_self (getElem?_lt hx)], rfl⟩, fun i y hy hyv => ?_⟩
  rcases get_set_cases hy with ⟨_, rfl, _⟩ | ⟨hne, hy'⟩
  ·cases hyv
  ·refine ⟨hy', fun g' eg => ?_⟩
   injection eg with eg _
   subst eg
   cases hyf : fitsB y g k.page
   ·rfl
   ·have := c.ap i v y x hne hy' hx
    rw [fits_clash hyf hfit] at this
    cases this
 ·have e : dropPage m.cache g k.page = (noCache, false) := by unfold dropPage; rw [if_neg hfl]
  rw [e]
  rw [if_neg (by simp)]
  refine ⟨c, fun i y hy hyv => ⟨hy, fun g' eg => ?_⟩⟩
  injection eg with eg _
  subst eg
  cases hyf : fitsB y g k.page
  ·rfl
  ·rw [findLine_found c htb hy hyf] at hfl
   exact absurd rfl hfl
theorem takeM_ok {m : MachD} (h : MachOk m) {k : KeyD} (hk : keyOk k) (hs : keyFor k.space k.page = k) (hok : (takeM m k).2 = true) : ∃ (i : Nat) (f : FrameD), findF m.table k = (i : Int) ∧ m.table.frames[i]? = some f ∧ f.used = true ∧ f.key = k ∧ (takeM m k).1.table = unlinkT m.table i ∧ (takeM m k).1.tags = m.tags ∧ (takeM m k).1.space = m.space ∧ MachOk (takeM m k).1 := by
 unfold takeM at hok ⊢
 split at hok
 ·cases hok
 rename_i hge
 rw [if_neg hge]
 rcases findF_or (t := m.table) k with e | ⟨i, f, e, hf, hu, hkf⟩
 ·omega
 rw [e, Int.toNat_natCast]
 have hT := unlinkT_ok h.1.1 hf hu
 obtain ⟨hcv, hln⟩ := forget_cases h hk
 refine ⟨i, f, rfl, hf, hu, hkf, rfl, rfl, rfl, machOk_mk hT hcv h.1.2.2.1 h.1.2.2.2 (fun j g hg => ?_) (fun j x hx hxv => ?_)⟩
 ·by_cases hgu : g.used = true
  ·obtain ⟨_, g0, hg0, hgu0, e2, _⟩ := unlinkT_back h.1.1 hf hu hg hgu
   have := h.2.1 j g0 hg0
   unfold FrameFits at this ⊢
   rw [e2]
   rintro ⟨a, b, d⟩
   exact this ⟨hgu0, b, d⟩
  ·exact fun q => hgu q.1
 ·obtain ⟨hx0, hnf⟩ := hln j x hx hxv
  have hl := h.2.2 j x hx0 hxv
  have htag : (tagFor m k.space k.page).2 = true → fitsB x (tagFor m k.space k.page).1 k.page = false := fun e => hnf _ (by rw [← e])
  refine hl.move (fun _ => rfl) hT (fun i' f' hf' hu' hk' => ?_)
  have hne : i' ≠ i := by
   rintro rfl
   rw [hf] at hf'
   injection hf' with hf'
   subst hf'
   rw [hkf] at hk'
   have hpg : x.page = k.page := by rw [hk', keyFor_page]
   by_cases hp : 128 ≤ k.page
   ·have e1 : tagFor m k.space k.page = (-1, true) := by unfold tagFor; rw [if_pos hp]
    have := htag (by rw [e1])
    rw [e1] at this
    have ht : x.tag = -1 := hl.1.2 (by omega)
    unfold fitsB at this
    simp [hxv, hpg, ht] at this
   ·have ht : x.tag ≠ -1 := fun e => hp (by have := hl.1.1 e; omega)
    obtain ⟨q, y, hy, hyt, hys⟩ := spaceOf_fst h.1.2.2.1 (hl.2.1 ht)
    have hsp : y.space = k.space := by
     unfold keyFor lineSpace at hk'
     rw [if_neg (by omega), if_neg ht, hys] at hk'
     rw [hk']
    have e1 : tagFor m k.space k.page = (x.tag, true) := by
     unfold tagFor
     have := ownPlace_of h.1.2.2.1 hy
     rw [hsp] at this
     rw [if_neg hp, this, if_neg (by omega), Int.toNat_natCast, own_getD hy, hyt]
    have := htag (by rw [e1])
    rw [e1] at this
    unfold fitsB at this
    simp [hxv, hpg] at this
  obtain ⟨g', a1, a2, a3, a4⟩ := unlinkT_keep h.1.1 hf hu hf' hne
  exact ⟨g', a1, a2, a3, a4⟩

/-! ### Touching a page -/
theorem hit_or (m : MachD) (page : Int) : (hitAt m page = -1 ∧ ∀ (j : Nat) (y : LineD), m.cache.lines[j]? = some y → fitsB y (tagFor m m.space page).1 page = false) ∨ ∃ (v : Nat) (x : LineD), hitAt m page = (v : Int) ∧ m.cache.lines[v]? = some x ∧ fitsB x (tagFor m m.space page).1 page = true := by
 unfold hitAt placeOf
 rcases firstOf_cases (fun x => fitsB x (tagFor m m.space page).1 page) m.cache.lines with ⟨h1, h2⟩ | ⟨v, x, e, hx, hp, _⟩
 ·exact .inl ⟨h1, h2⟩
 ·exact .inr ⟨v, x, e, hx, hp⟩
theorem fits_parts {x : LineD} {g p : Int} (h : fitsB x g p = true) : x.valid = true ∧ x.page = p ∧ (x.tag = g ∨ x.tag = -1) := by
 unfold fitsB at h
 simpa [Bool.and_eq_true, Bool.or_eq_true] using h
/-- A page that is brought: the line that is filled in. -/
theorem newL_fill {m : MachD} (h : MachOk m) {page : Int} (hp : 0 ≤ page ∧ page < 256) (hm : hitAt m page < 0) (hf : ¬ findF m.table (keyFor m.space page) < 0) :
  fillLine m.cache (newL m page) = (fillOut m.cache (newL m page), victimAt m.cache, true) ∧ CV (fillOut m.cache (newL m page)) ∧ (∀ (i : Nat) (x : LineD), (fillOut m.cache (newL m page)).lines[i]? = some x → x = newL m page ∨ m.cache.lines[i]? = some x) ∧ LineFits m (newL m page) := by
 have c := h.cv
 rcases hit_or m page with ⟨_, hno⟩ | ⟨v, x, e, _⟩
 rotate_left
 ·omega
 obtain ⟨i, f, e, hfi, hu, hk⟩ : ∃ (i : Nat) (f : FrameD), findF m.table (keyFor m.space page) = (i : Int) ∧ m.table.frames[i]? = some f ∧ f.used = true ∧ f.key = keyFor m.space page := by
  rcases findF_or (t := m.table) (keyFor m.space page) with e | ⟨i, f, e, h1, h2, h3⟩
  ·omega
  ·exact ⟨i, f, e, h1, h2, h3⟩
 have hL : newL m page = ⟨true, (tagFor m m.space page).1, page, (i : Int), f.rights, false⟩ := by unfold newL; rw [e, Int.toNat_natCast, getD_of hfi]
 have hfl := getElem?_lt hfi
 have hrt := ((h.1.1.2.1 i f hfl hfi).1.2 hu).2
 have hT := h.1.1.1.1
 have htg := h.tag page
 generalize hgq : (tagFor m m.space page).1 = g at hL hno
 have hgr : -1 ≤ g ∧ g < 8 := by
  rcases htg with ⟨_, e1⟩ | ⟨_, k, x, _, _, e1, h1, h2, _⟩
  ·rw [e1] at hgq; omega
  ·rw [e1] at hgq; simp only at hgq; omega
 have hlv : lineV (newL m page) = true := by
  rw [hL]
  unfold lineV
  simp only [if_true, Bool.and_eq_true]
  exact ⟨tagB_iff.2 hgr, inB_true.2 hp, inB_true.2 (by omega), inB_true.2 hrt⟩
 have hcl : ∀ (j : Nat) (y : LineD), m.cache.lines[j]? = some y → clashB (newL m page) y = false := fun j y hy => by
  cases hcb : clashB (newL m page) y
  ·rfl
  ·have hn := hno j y hy
   rw [hL] at hcb
   unfold clashB at hcb
   simp only [Bool.true_and, Bool.and_eq_true, Bool.or_eq_true, beq_iff_eq] at hcb
   obtain ⟨hyv, hpg, htt⟩ := hcb
   have hlf := h.2.2 j y hy hyv
   have : fitsB y g page = true := by
    unfold fitsB
    simp only [Bool.and_eq_true, Bool.or_eq_true, beq_iff_eq]
    refine ⟨hyv, hpg.symm, ?_⟩
    rcases htt with h1 | h1 | h1
    ·exact .inl h1.symm
    ·left
     have h128 : 128 ≤ page := by
      rcases htg with ⟨q, _⟩ | ⟨q, k, x, _, _, e1, h2, _⟩
      ·exact q
      ·rw [e1] at hgq; simp only at hgq; omega
     have := hlf.1.2 (by omega)
     omega
    ·exact .inr h1
   rw [hn] at this
   cases this
 obtain ⟨v, z, hv, hz, hzw, _⟩ := victim_spec c
 have hlt := getElem?_lt hz
 have hfo : fillOut m.cache (newL m page) = ⟨m.cache.lines.set v (newL m page), if z.valid then ((v : Int) + 1) % (m.cache.lines.length : Int) else m.cache.hand⟩ := by
  unfold fillOut; rw [hv, Int.toNat_natCast, getD_of hz]
 have hcv : CV (fillOut m.cache (newL m page)) := by
  rw [hfo]
  have hpos : (0 : Int) < (m.cache.lines.length : Int) := by have := c.n1; omega
  refine c.set ?_ ?_ hlv (fun j y _ hy => hcl j y hy) ⟨v, newL m page, by rw [List.getElem?_set_self hlt], by rw [hL]⟩
  ·split
   ·exact Int.emod_nonneg _ (by omega)
   ·exact c.h0
  ·split
   ·exact Int.emod_lt_of_pos _ hpos
   ·exact c.h1
 refine ⟨?_, hcv, fun i x hx => ?_, ?_⟩
 ·unfold fillLine
  have h1 : placeOf m.cache.lines (newL m page).tag (newL m page).page = -1 := by rw [hL]; exact place_none hno
  rw [(cv_iff _).2 c, hlv, h1, (cv_iff _).2 hcv]
  rw [show (newL m page).valid = true by rw [hL]]
  simp
 ·rw [hfo] at hx
  rcases get_set_cases hx with ⟨_, rfl, _⟩ | ⟨_, hx'⟩
  ·exact .inl rfl
  ·exact .inr hx'
 ·rw [hL]
  have hsp : (g = -1 ∧ 128 ≤ page) ∨ (g ≠ -1 ∧ page < 128 ∧ spaceOf m.tags g = (m.space, true)) := by
   rcases htg with ⟨q, e1⟩ | ⟨q, k, x, _, _, e1, h1, h2, h3⟩
   ·rw [e1] at hgq; exact .inl ⟨hgq.symm, q⟩
   ·rw [e1] at hgq
    simp only at hgq
    subst hgq
    exact .inr ⟨by omega, q, h3⟩
  have hkf : keyFor (lineSpace m ⟨true, g, page, (i : Int), f.rights, false⟩) page = keyFor m.space page := by
   unfold lineSpace
   rcases hsp with ⟨h1, h2⟩ | ⟨h1, h2, h3⟩
   ·unfold keyFor; rw [if_pos h2, if_pos h2]
   ·simp only
    rw [if_neg h1, h3]
  refine ⟨by simp only; omega, fun h1 => ?_, ⟨i, f, ?_, rfl, hfi, rfl⟩, fun h1 => by cases h1⟩
  ·rcases hsp with ⟨h2, _⟩ | ⟨_, _, h3⟩
   ·exact absurd h2 h1
   ·simp only; rw [h3]
  ·unfold lineAt
   simp only
   rw [hkf]
   exact e
theorem touchM_ok {m : MachD} (h : MachOk m) {page : Int} (hp : 0 ≤ page ∧ page < 256) : MachOk (touchM m page) ∧ (touchM m page).table = m.table ∧ (touchM m page).tags = m.tags ∧ (touchM m page).space = m.space := by
 unfold touchM
 by_cases h1 : 0 ≤ hitAt m page
 ·rw [if_pos h1]; exact ⟨h, rfl, rfl, rfl⟩
 rw [if_neg h1]
 by_cases h2 : findF m.table (keyFor m.space page) < 0
 ·rw [if_pos h2]; exact ⟨h, rfl, rfl, rfl⟩
 rw [if_neg h2]
 obtain ⟨e, hcv, hget, hfit⟩ := newL_fill h hp (by omega) h2
 rw [e]
 refine ⟨machOk_mk h.1.1 hcv h.1.2.2.1 h.1.2.2.2 h.2.1 (fun i x hx hxv => ?_), rfl, rfl, rfl⟩
 rcases hget i x hx with rfl | hx'
 ·exact hfit.same rfl rfl
 ·exact (h.2.2 i x hx' hxv).same rfl rfl
theorem touchF_ok {m : MachD} (h : MachOk m) {page : Int} (hm : missM m page = false) : ∃ (i : Nat) (f : FrameD), touchF m page = (i : Int) ∧ m.table.frames[i]? = some f ∧ f.used = true := by
 unfold missM at hm
 unfold touchF
 rcases hit_or m page with ⟨e, _⟩ | ⟨v, x, e, hx, hfit⟩
 ·rw [e] at hm ⊢
  rw [if_neg (by omega)]
  have : ¬ findF m.table (keyFor m.space page) < 0 := by simpa using hm
  rw [if_neg this]
  rcases findF_or (t := m.table) (keyFor m.space page) with e2 | ⟨i, f, e2, hf, hu, _⟩
  ·omega
  ·exact ⟨i, f, e2, hf, hu⟩
 ·rw [e, if_pos (by omega), Int.toNat_natCast, getD_of hx]
  obtain ⟨i, f, h1, h2, h3, _⟩ := (h.2.2 v x hx (fits_parts hfit).1).frame
  exact ⟨i, f, h1, h2, h3⟩
/-- The page that is in the table is not missed. -/
theorem missM_no {m : MachD} {page : Int} (h : ¬ findF m.table (keyFor m.space page) < 0) : missM m page = false := by
 unfold missM; simp only [Bool.and_eq_false_iff, decide_eq_false_iff_not]; exact .inr h

/-! ### Wiring a page -/
theorem wireM_ok {m : MachD} (h : MachOk m) {page : Int} (hp : 128 ≤ page ∧ page < 256) (hok : (wireM m page).2 = true) : MachOk (wireM m page).1 := by
 obtain ⟨h1, _, _, _⟩ := touchM_ok h (page := page) (by omega)
 unfold wireM at hok ⊢
 split at hok
 ·cases hok
 rename_i hm
 rw [if_neg hm]
 split at hok
 rotate_left
 ·cases hok
 rename_i hw
 rw [if_pos hw]
 generalize touchM m page = n at h1 hw ⊢
 unfold wireLine at hw ⊢
 split at hw
 rotate_left
 ·cases hw
 rename_i hc
 rw [if_pos hc]
 obtain ⟨_, hin, hval, hcv⟩ := hc
 have hin' := inB_true.1 hin
 obtain ⟨x0, hx0⟩ : ∃ x0, n.cache.lines[(placeOf n.cache.lines (-1) page).toNat]? = some x0 := ⟨_, List.getElem?_eq_getElem (by omega)⟩
 have hfit : x0.tag = -1 := by
  rcases firstOf_cases (fun x => fitsB x (-1) page) n.cache.lines with ⟨e, _⟩ | ⟨v, x, e, hx, hpx, _⟩
  ·have : placeOf n.cache.lines (-1) page = -1 := e
   omega
  ·have e' : placeOf n.cache.lines (-1) page = (v : Int) := e
   have e2 : (placeOf n.cache.lines (-1) page).toNat = v := by omega
   rw [e2] at hx0
   rw [hx] at hx0
   injection hx0 with hx0
   have h3 := (fits_parts hpx).2.2
   rw [← hx0]
   rcases h3 with h3 | h3 <;> exact h3
 refine machOk_mk h1.1.1 ((cv_iff _).1 hcv) h1.1.2.2.1 h1.1.2.2.2 h1.2.1 (fun i x hx hxv => ?_)
 unfold wireOut at hx
 rw [getD_of hx0] at hx
 rcases get_set_cases hx with ⟨rfl, rfl, _⟩ | ⟨_, hx'⟩
 ·have hl := h1.2.2 _ _ hx0 hxv
  obtain ⟨a1, a2, a3, a4⟩ := hl
  exact ⟨a1, a2, a3, fun _ => hfit⟩
 ·exact (h1.2.2 i x hx' hxv).same rfl rfl

/-! ### A new machine -/
theorem newMach_ok {f b l t : Int} (hf : 1 ≤ f ∧ f ≤ 16) (hb : 1 ≤ b ∧ b ≤ 16) (hl : 1 ≤ l ∧ l ≤ 8) (ht : 1 ≤ t ∧ t ≤ 8) : MachOk (newMach f b l t).1 := by
 obtain ⟨e1, hT, _⟩ := newTable_ok hf hb
 have e2 : newCache l = (⟨List.replicate l.toNat noLine, 0⟩, true) := by unfold newCache; rw [if_pos hl]
 have e3 : newTags t = (⟨t, 0, 0, []⟩, true) := by unfold newTags; rw [if_pos ht]
 have hfr : ∀ (i : Nat) (g : FrameD), (newTable f b).1.frames[i]? = some g → g = freeF := fun i g hg => by
  unfold newTable at hg
  rw [if_pos ⟨hf, hb⟩] at hg
  simp only [List.getElem?_replicate] at hg
  split at hg
  ·injection hg with hg; exact hg.symm
  ·cases hg
 have hln : ∀ (i : Nat) (x : LineD), (List.replicate l.toNat noLine)[i]? = some x → x = noLine := fun i x hx => by
  rw [List.getElem?_replicate] at hx
  split at hx
  ·injection hx with hx; exact hx.symm
  ·cases hx
 have htv : tagsV (⟨t, 0, 0, []⟩ : TagsD) = true := tagsV_end ⟨ht.1, ht.2, by simp, by simp only; omega, by simp, by simp⟩ (ownsUp_zero _)
 have htk : (takeTag (⟨t, 0, 0, []⟩ : TagsD) 0).2.2.2 = true := by
  unfold takeTag
  rw [if_pos ⟨htv, by decide⟩, if_neg (by unfold ownPlace firstOf; simp), if_neg (by simp only; omega)]
 have hpl : 0 ≤ ownPlace (takeTag (⟨t, 0, 0, []⟩ : TagsD) 0).1.owns 0 := by
  unfold takeTag
  rw [if_pos ⟨htv, by decide⟩, if_neg (by unfold ownPlace firstOf; simp), if_neg (by simp only; omega)]
  exact place_has (k := 0) (x := ⟨0, 0⟩) rfl rfl
 unfold newMach
 rw [e1, e2, e3]
 simp only [Bool.and_self, if_true]
 refine machOk_mk hT ⟨by simp; omega, by simp; omega, by simp, by simp; omega, fun i x hx => ?_, fun i j x y _ hx hy => ?_, ?_⟩ (take_valid htk) hpl (fun i g hg => ?_) (fun i x hx hxv => ?_)
 ·rw [hln i x hx]; exact lineV_noLine
 ·rw [hln i x hx]; exact clash_no' _
 ·exact ⟨0, noLine, by rw [List.getElem?_replicate, if_pos (by omega)], rfl⟩
 ·rw [hfr i g hg]
  exact fun q => by cases q.1
 ·rw [hln i x hx] at hxv
  cases hxv

/-- A valid machine is small. -/
theorem MachOk.few {m : MachD} (h : MachOk m) : m.table.buckets.length ≤ 16 ∧ m.table.frames.length ≤ 16 ∧ m.cache.lines.length ≤ 8 ∧ m.tags.owns.length ≤ 8 ∧ 1 ≤ m.table.buckets.length ∧ 1 ≤ m.table.frames.length ∧ 1 ≤ m.cache.lines.length := by
 have a := h.1.1.1
 unfold TableHead at a
 have c := h.cv
 have d := (tv_few h.1.2.2.1).2
 have c1 := c.n1
 have c2 := c.n8
 omega
end Go.Proofs.YtbdlpbladpppjaaGreatDoor
namespace Go.Proofs.YtbdlpbladpppjaaGreatDoor
open Go.ChangeShapes Go.WideShapes Go.ChangeAt Go.RowKit
open Rec (sz cs)
set_option linter.unusedVariables false
set_option maxRecDepth 100000

/-- That machine comes back, in slices of the call's own. -/
def MachIs (q : MachD) (w : World) (e : Ending) (w' : World) : Prop := ∃ a : MA, e = .returned (.agg #[.slice a.b q.table.buckets.length a.bc, .slice a.f q.table.frames.length a.fc, .slice a.l q.cache.lines.length a.lc, .int .i64 q.cache.hand, .int .i64 q.tags.count, .int .i64 q.tags.next, .int .i64 q.tags.round, .slice a.o q.tags.owns.length a.oc, .int .i64 q.space]) ∧ FrM w' w.heap.size q a ∧ Ex w w'
/-- That machine and that word come back. -/
def MachOr (q : MachD × Bool) (w : World) (e : Ending) (w' : World) : Prop := ∃ a : MA, e = .returned (.tuple #[.agg #[.slice a.b q.1.table.buckets.length a.bc, .slice a.f q.1.table.frames.length a.fc, .slice a.l q.1.cache.lines.length a.lc, .int .i64 q.1.cache.hand, .int .i64 q.1.tags.count, .int .i64 q.1.tags.next, .int .i64 q.1.tags.round, .slice a.o q.1.tags.owns.length a.oc, .int .i64 q.1.space], .bool q.2]) ∧ FrM w' w.heap.size q.1 a ∧ Ex w w'

def freshUp (xs : List LineD) (k : Nat) : List LineD := (xs.take k).map freshL ++ xs.drop k
theorem freshUp_zero (xs : List LineD) : freshUp xs 0 = xs := by simp [freshUp]
theorem freshUp_full (xs : List LineD) : freshUp xs xs.length = xs.map freshL := by simp [freshUp]
theorem freshUp_length (xs : List LineD) (k : Nat) : (freshUp xs k).length = xs.length := by
 simp [freshUp]; omega
theorem freshUp_get {xs : List LineD} {k : Nat} {x : LineD} (h : xs[k]? = some x) : (freshUp xs k)[k]? = some x := by
 have hk := getElem?_lt h
 unfold freshUp
 rw [List.getElem?_append_right (by simp; omega)]
 simp only [List.length_map, List.length_take, List.getElem?_drop]
 rw [show k + (k - min k xs.length) = k by omega]
 exact h
theorem freshUp_set {xs : List LineD} {k : Nat} {x : LineD} (h : xs[k]? = some x) : freshUp xs (k + 1) = (freshUp xs k).set k (freshL x) := by
 have hk := getElem?_lt h
 unfold freshUp
 rw [take_succ_of h, List.map_append, List.map_cons, List.map_nil, List.set_append_right _ _ (by simp; omega)]
 simp only [List.length_map, List.length_take]
 rw [show k - min k xs.length = 0 by omega]
 have e : xs.drop k = x :: xs.drop (k + 1) := by
  rw [List.drop_eq_getElem_cons hk]
  rw [List.getElem?_eq_getElem hk] at h
  injection h with h
  rw [h]
 rw [e, List.set_cons_zero, List.append_assoc]
 rfl
theorem freshUp_keep {xs : List LineD} {k : Nat} {x : LineD} (h : xs[k]? = some x) (hd : freshL x = x) : freshUp xs (k + 1) = freshUp xs k := by
 rw [freshUp_set h, hd]
 refine List.ext_getElem? fun i => ?_
 by_cases e : i = k
 ·subst e
  rw [freshUp_get h, List.getElem?_set_self (by rw [freshUp_length]; exact getElem?_lt h)]
 ·rw [List.getElem?_set_ne (fun q => e q.symm)]


set_option maxHeartbeats 4000000 in
theorem l6Fresh_c (t : CacheD) (A : Option Addr) (c : Nat) (w : World) (hx : Rd w A t.lines) (hn : t.lines.length ≤ 1048576) (hc : t.lines.length ≤ c) (hc2 : c ≤ maxLen) (h0 : 0 < t.lines.length) :
  Calls Tryz.prog 100 #[.agg #[.slice A t.lines.length c, .int .i64 t.hand]] w fun r w' => ∃ A' c', r = .returned (.agg #[.slice A' t.lines.length c', .int .i64 t.hand]) ∧ Fr 64 w' w.heap.size A' c' (freshC t).lines ∧ Ex w w' := by
 obtain ⟨xs, hand⟩ := t
 change Calls _ _ #[.agg #[.slice A xs.length c, .int .i64 hand]] w (fun r w' => ∃ A' c', r = .returned (.agg #[.slice A' xs.length c', .int .i64 hand]) ∧ Fr 64 w' w.heap.size A' c' (xs.map freshL) ∧ Ex w w')
 simp only at hx hn hc h0
 have HX := zq hx
 have C1 := zq (fun A c w hx => l4Copy_c ⟨xs, hand⟩ A c w hx hn)
 dsimp only at C1
 obtain ⟨n, hn1⟩ : ∃ n, n = xs.length := ⟨_, rfl⟩
 have HN := zq hn1
 rw [← hn1] at hn hc h0 C1 ⊢
 clear hx hn1
 go_enter Tryz.func100, Tryz.ntmps100
 go_wp2_with fail
 refine name_calls ?_; intro v1 hv1
 have X1 : Hid (Chg (0) (0) w v1) := zx hv1
 have t1 := X1.out.size
 have Ev1 := zq ((Ex.refl w).chg X1.out (by omega))
 have KX : Hid (Blk v1 (w.heap.size) 29 [.slice A n c, .int .i64 hand]) := zk hv1
 have lX : w.heap.size < v1.heap.size := KX.out.lt
 have KR : Hid (Blk v1 (w.heap.size + 1) 29 [.slice none 0 0, .int .i64 0]) := zk hv1
 have lR : w.heap.size + 1 < v1.heap.size := KR.out.lt
 have DX := zq (HX.out.ex Ev1.out)
 clear hv1
 refine (C1.out A c _ DX.out hc hc2).mono ?_; rintro r w1 ⟨A2, c2, rfl, hf1, hb1⟩
 have Y1 := zq (Chg.of_ex hb1)
 have s1 := Y1.out.size
 have Ew1 := zq (Ev1.out.chg Y1.out (by omega))
 clear hb1
 replace KX := zq (KX.out.chg Y1.out (by omega))
 replace KR := zq (KR.out.chg Y1.out (by omega))
 replace DX := zq (HX.out.ex Ew1.out)
 have HF1 := zq hf1; clear hf1
 have WHF1 := zq HF1.out.row
 obtain ⟨qX0, qX1⟩ := KX.out.c2
 have jX := KX.out.lt
 obtain ⟨qR0, qR1⟩ := KR.out.c2
 have jR := KR.out.lt
 obtain ⟨g, rest, rfl, hBg, hbk, hrest⟩ := HF1.out.open_ (k := 0) (by have := HN.out; omega)
 have hca := HF1.out.cap
 have hle : n ≤ c2 := Nat.le_trans (Nat.le_of_eq HN.out) HF1.out.le
 have HREST := zq hrest
 have BG := zq hbk
 have jg0 := Blk.lt hbk
 clear hbk hrest
 go_wp2
 obtain ⟨wE, hwE⟩ : ∃ wE : World, wE = w1.alloc (.cells #[.slice (some ⟨g, 0, none⟩) n c2, .int .i64 hand] 29) := ⟨_, rfl⟩
 have KN : Hid (Blk wE w1.heap.size 29 [.slice (some ⟨g, 0, none⟩) n c2, .int .i64 hand]) := zq (by rw [hwE]; exact Blk.new _ _ _)
 have EE : Hid (Ex w wE) := zq (by rw [hwE]; exact Ew1.out.alloc _)
 have BE : Hid (Bk 64 wE g xs rest) := zq (by rw [hwE]; exact BG.out.alloc _)
 have KRE : Hid (Blk wE (w.heap.size + 1) 29 [.slice none 0 0, .int .i64 0]) := zq (by rw [hwE]; exact KR.out.alloc _)
 obtain ⟨gN, hgN⟩ : ∃ gN, gN = w1.heap.size := ⟨_, rfl⟩
 have hne : g < gN := by omega
 have hgw : w.heap.size + 1 < g := by omega
 rw [← hgN] at KN
 rw [← hwE, ← hgN]
 clear hwE hgN
 clear qX0 qX1 jX
 clear KX
 clear qR0 qR1 jR
 clear KR
 clear HF1 WHF1
 go_loopw [4] (fun i wr => ∃ k : Nat, k ≤ n ∧ i = .int .i64 k ∧ Chg g (g + 1) wE wr ∧ Bk 64 wr g (freshUp xs k) rest) (fun i _ => n - (intOf i).toNat)
 case atStart => exact ⟨0, Nat.zero_le _, rfl, Chg.refl _ _ _, by rw [freshUp_zero]; exact BE.out⟩
 case round =>
  obtain ⟨k, hk, rfl, hch, hbk⟩ := hrel
  have HCH := zq hch
  have HBK := zq hbk
  have EW : Hid (Ex w wr) := zq (EE.out.chg hch (by omega))
  have KNr : Hid (Blk wr gN 29 [.slice (some ⟨g, 0, none⟩) n c2, .int .i64 hand]) := zq (KN.out.chg hch (by omega))
  clear hch hbk
  have jg := Blk.lt HBK.out
  obtain ⟨n0, n1⟩ := KNr.out.c2
  have jN := KNr.out.lt
  by_cases hlt : k < n
  ·obtain ⟨x, hxk⟩ : ∃ x, xs[k]? = some x := ⟨_, List.getElem?_eq_getElem (by have := HN.out; omega)⟩
   have HXK := zq hxk
   obtain ⟨d0, d1, d2, d3, d4, d5⟩ := HBK.out.line (freshUp_get hxk)
   have hfz := HBK.out.frozen
   clear hxk
   have hk0 : ¬ ((k : Int) < 0) := by omega
   have hkn : (k : Int) < (n : Int) := by omega
   have HL : Hid (k < (freshUp xs k).length) := zq (by rw [freshUp_length]; have := HN.out; omega)
   by_cases ht : x.tag = -1
   ·have HD : Hid (freshUp xs (k + 1) = freshUp xs k) := zq (freshUp_keep HXK.out (by unfold freshL; rw [if_pos ht]))
    have ht' : (x.tag != -1) = false := by simpa using ht
    rw [ht] at d1
    clear ht
    go_wp2
    go_roundw
    case rel => exact ⟨k + 1, by omega, by go_num, HCH.out, by rw [HD.out]; exact HBK.out⟩
    case measure => simp [intOf]; omega
   ·have HD : Hid (freshUp xs (k + 1) = (freshUp xs k).set k noLine) := zq (by rw [freshUp_set HXK.out]; unfold freshL; rw [if_neg ht])
    have ht' : (x.tag != -1) = true := by simpa using ht
    have ht2 : (x.tag == -1) = false := by simpa using ht
    clear ht
    go_wp2
    go_roundw
    case rel => exact ⟨k + 1, by omega, by go_num, (((((HCH.out.set (by omega) _).set (by omega) _).set (by omega) _).set (by omega) _).set (by omega) _).set (by omega) _, by rw [HD.out]; exact HBK.out.set_line noLine HL.out⟩
    case measure => simp [intOf]; omega
  ·obtain rfl : k = n := by omega
   have HKR : Hid (Blk wr (w.heap.size + 1) 29 [.slice none 0 0, .int .i64 0]) := zq (KRE.out.chg HCH.out (by omega))
   have HDF : Hid (freshUp xs k = xs.map freshL) := zq (by rw [HN.out]; exact freshUp_full _)
   obtain ⟨r0, r1⟩ := HKR.out.c2
   have rfz := HKR.out.frozen
   have jr := HKR.out.lt
   have hnr' : g ≠ w.heap.size + 1 := by omega
   have HLE : Hid ((c2 - (xs.map freshL).length) * sz LineD ≤ rest.length) := zq (by rw [List.length_map]; exact HREST.out)
   have HLL : Hid ((xs.map freshL).length ≤ c2) := zq (by rw [List.length_map, ← HN.out]; exact hle)
   have H9 : Hid (Bk 64 ((wr.setCell ⟨w.heap.size + 1, 0, none⟩ (.slice (some ⟨g, 0, none⟩) k c2)).setCell ⟨w.heap.size + 1, 1, none⟩ (.int .i64 hand)) g (xs.map freshL) rest) := zq (by rw [← HDF.out]; exact (HBK.out.far hnr' _).far hnr' _)
   go_wp2
   exact bodyPost_ret (v := .agg #[.slice (some ⟨g, 0, none⟩) k c2, .int .i64 hand]) (by simp [results, Tryz.results100, go_sem, r0, r1]) rfl
    ⟨some ⟨g, 0, none⟩, c2, rfl, Fr.close H9.out (by omega) HLE.out HLL.out hca, (EW.out.put (by omega) _).put (by omega) _⟩

end Go.Proofs.YtbdlpbladpppjaaGreatDoor
namespace Go.Proofs.YtbdlpbladpppjaaGreatDoor
open Go.ChangeShapes Go.WideShapes Go.ChangeAt Go.RowKit
open Rec (sz cs)
set_option linter.unusedVariables false

end Go.Proofs.YtbdlpbladpppjaaGreatDoor
namespace Go.Proofs.YtbdlpbladpppjaaGreatDoor
open Go.ChangeShapes Go.WideShapes Go.ChangeAt Go.RowKit
open Rec (sz cs)
set_option linter.unusedVariables false
set_option maxRecDepth 100000

theorem cacheV_pos {t : CacheD} (h : cacheV t = true) : 0 < t.lines.length := by have := ((cv_iff t).1 h).n1; omega


theorem MachOk.fewM {m : MachD} (h : MachOk m) : FewM m := by
 obtain ⟨h1, h2, h3, h4, _⟩ := h.few
 exact ⟨by omega, by omega, by omega, by omega⟩

set_option maxHeartbeats 2000000 in
/-- A key that a machine can have. -/
theorem sharedS_c (k : KeyD) (w : World) (hk : keyOk k) (hs : keyFor k.space k.page = k) : Calls Tryz.prog 101 #[.agg #[.int .i64 k.space, .int .i64 k.page]] w fun r w' => r = .returned (.bool true) ∧ Ex w w' := by
 have C1 := zq (fun w' => keyS_c k w')
 have C2 := zq (fun w' => keyForS_c k.space k.page w')
 rw [keyB_iff.2 hk] at C1
 rw [hs] at C2
 clear hk hs
 go_enter Tryz.func101, Tryz.ntmps101
 go_wp2_with fail
 obtain ⟨w0, hw0⟩ : ∃ w0 : World, w0 = w.alloc (.cells #[.int .i64 k.space, .int .i64 k.page] 43) := ⟨_, rfl⟩
 have E0 : Hid (Ex w w0) := zq (by rw [hw0]; exact (Ex.refl w).alloc _)
 have KC : Hid (Blk w0 w.heap.size 43 [.int .i64 k.space, .int .i64 k.page]) := zq (by rw [hw0]; exact Blk.new _ _ _)
 obtain ⟨gc, hgc⟩ : ∃ gc : Nat, gc = w.heap.size := ⟨_, rfl⟩
 rw [← hw0, ← hgc]
 rw [← hgc] at KC
 have FK : Hid (∀ w', Ex w0 w' → (w'.cell? ⟨gc, 0, none⟩ = some (.int .i64 k.space) ∧ w'.cell? ⟨gc, 1, none⟩ = some (.int .i64 k.page))) := zq (fun w' h => (KC.out.ex h).c2)
 clear hw0 hgc
 go_region_held3 (fun w' => (w'.cell? ⟨gc, 0, none⟩ = some (.int .i64 k.space) ∧ w'.cell? ⟨gc, 1, none⟩ = some (.int .i64 k.page))) (first | (refine FK.out _ ?_; with_reducible (first | exact Ex.refl _ | exact (Ex.refl _).drew | exact hE1 | exact hE2)) | go_keep) (first
  | (go_at_call 99; (with_reducible refine (C1.out _).mono ?_); rintro r w1 ⟨rfl, hb1⟩; have hE1 := Ex.trans (Ex.refl _).drew hb1)
  | (go_at_call 80; (with_reducible refine (C2.out _).mono ?_); rintro r w2 ⟨rfl, hb2⟩; have hE2 := Ex.trans hE1 hb2))
 rename_i hHeld
 clear hHeld
 go_wp2
 go_ret
 exact ⟨ret_bool (by simp), E0.out.trans hE2⟩

set_option maxHeartbeats 4000000 in
theorem enterS_c (m : MachD) (a : MA) (s : Int) (w : World) (h : MachOk m) (hx : HasM w m a) (hc : CapM m a) (hk : CapX a) :
  Calls Tryz.prog 89 #[.agg #[.slice a.b m.table.buckets.length a.bc, .slice a.f m.table.frames.length a.fc, .slice a.l m.cache.lines.length a.lc, .int .i64 m.cache.hand, .int .i64 m.tags.count, .int .i64 m.tags.next, .int .i64 m.tags.round, .slice a.o m.tags.owns.length a.oc, .int .i64 m.space], .int .i64 s] w (MachOr (enterM m s) w) := by
 have hf := h.fewM
 have C1 := zq (fun w' (e : Ex w w') => takeTagS_c m.tags s a.o a.oc w' (hx.o.ex e) hf.o hc.o hk.o)
 have C2 := zq (fun w' (e : Ex w w') => machS_c m a w' (hx.ex e) hf hc)
 rw [machV_yes h] at C2
 have C3 := zq (fun w' (e : Ex w w') => l6Copy_c m a w' (hx.ex e) hf hc hk)
 have C4 := zq (fun w' (e : Ex w w') => l6Fresh_c m.cache a.l a.lc w' (hx.l.ex e) hf.l hc.l hk.l (cacheV_pos h.1.2.1))
 unfold enterM
 generalize takeTag m.tags s = q at C1 ⊢
 obtain ⟨tg, g, fr, ok⟩ := q
 dsimp only at C1 ⊢
 clear hf hx hc hk h
 cases ok
 ·simp only [Bool.false_eq_true, if_false]
  go_enter Tryz.func89, Tryz.ntmps89
  go_wp2_with fail
  refine name_calls ?_; intro v1 hv1
  have X1 : Hid (Chg (0) (0) w v1) := zx hv1
  have t1 := X1.out.size
  have Ev1 := zq ((Ex.refl w).chg X1.out (by omega))
  have KX : Hid (Blk v1 (w.heap.size) 34 [.slice a.b m.table.buckets.length a.bc, .slice a.f m.table.frames.length a.fc, .slice a.l m.cache.lines.length a.lc, .int .i64 m.cache.hand, .int .i64 m.tags.count, .int .i64 m.tags.next, .int .i64 m.tags.round, .slice a.o m.tags.owns.length a.oc, .int .i64 m.space]) := zk hv1
  have lX : w.heap.size < v1.heap.size := KX.out.lt
  have KR : Hid (Blk v1 (w.heap.size + 1) 34 [.slice none 0 0, .slice none 0 0, .slice none 0 0, .int .i64 0, .int .i64 0, .int .i64 0, .int .i64 0, .slice none 0 0, .int .i64 0]) := zk hv1
  have lR : w.heap.size + 1 < v1.heap.size := KR.out.lt
  clear hv1
  refine (C1.out _ Ev1.out).mono ?_; rintro r w1 ⟨A1, c1, rfl, hf1, hb1⟩
  have Y1 := zq (Chg.of_ex hb1)
  have s1 := Y1.out.size
  have Ew1 := zq (Ev1.out.chg Y1.out (by omega))
  clear hb1
  replace KX := zq (KX.out.chg Y1.out (by omega))
  replace KR := zq (KR.out.chg Y1.out (by omega))
  have HF1 := zq hf1; clear hf1
  have WHF1 := zq HF1.out.row
  obtain ⟨qX0, qX1, qX2, qX3, qX4, qX5, qX6, qX7, qX8⟩ := KX.out.c9
  have jX := KX.out.lt
  obtain ⟨qR0, qR1, qR2, qR3, qR4, qR5, qR6, qR7, qR8⟩ := KR.out.c9
  have jR := KR.out.lt
  have zR := KR.out.frozen
  go_wp2_with fail
  refine name_calls ?_; intro v2 hv2
  have X2 : Hid (Chg (0) (0) w1 v2) := zx hv2
  have t2 := X2.out.size
  have Ev2 := zq (Ew1.out.chg X2.out (by omega))
  clear qX0 qX1 qX2 qX3 qX4 qX5 qX6 qX7 qX8 jX
  clear qR0 qR1 qR2 qR3 qR4 qR5 qR6 qR7 qR8 jR zR
  replace KX := zq (KX.out.chg X2.out (by omega))
  replace KR := zq (KR.out.chg X2.out (by omega))
  replace HF1 := zq (HF1.out.chg X2.out WHF1.out (by omega))
  have KT : Hid (Blk v2 (w1.heap.size) 32 [.int .i64 tg.count, .int .i64 tg.next, .int .i64 tg.round, .slice A1 tg.owns.length c1]) := zk hv2
  have lT : w1.heap.size < v2.heap.size := KT.out.lt
  clear hv2
  refine (C2.out _ Ev2.out).mono ?_; rintro r w2 ⟨rfl, hb2⟩
  have Y2 := zq (Chg.of_ex hb2)
  have s2 := Y2.out.size
  have Ew2 := zq (Ev2.out.chg Y2.out (by omega))
  clear hb2
  replace KX := zq (KX.out.chg Y2.out (by omega))
  replace KR := zq (KR.out.chg Y2.out (by omega))
  replace KT := zq (KT.out.chg Y2.out (by omega))
  replace HF1 := zq (HF1.out.chg Y2.out WHF1.out (by omega))
  obtain ⟨qX0, qX1, qX2, qX3, qX4, qX5, qX6, qX7, qX8⟩ := KX.out.c9
  have jX := KX.out.lt
  obtain ⟨qR0, qR1, qR2, qR3, qR4, qR5, qR6, qR7, qR8⟩ := KR.out.c9
  have jR := KR.out.lt
  have zR := KR.out.frozen
  obtain ⟨qT0, qT1, qT2, qT3⟩ := KT.out.c4
  have jT := KT.out.lt
  go_wp2
  exact bodyPost_ret (v := .tuple #[.agg #[.slice none 0 0, .slice none 0 0, .slice none 0 0, .int .i64 0, .int .i64 0, .int .i64 0, .int .i64 0, .slice none 0 0, .int .i64 0], .bool false]) (by simp [results, Tryz.results89, go_sem, *]) rfl
   ⟨⟨none, 0, none, 0, none, 0, none, 0⟩, rfl, ⟨Fr.none_ _ _ _ _, Fr.none_ _ _ _ _, Fr.none_ _ _ _ _, Fr.none_ _ _ _ _⟩, (ze Ew2.out)⟩
 simp only [if_true]
 cases fr
 ·simp only [Bool.false_eq_true, if_false]
  go_enter Tryz.func89, Tryz.ntmps89
  go_wp2_with fail
  refine name_calls ?_; intro v1 hv1
  have X1 : Hid (Chg (0) (0) w v1) := zx hv1
  have t1 := X1.out.size
  have Ev1 := zq ((Ex.refl w).chg X1.out (by omega))
  have KX : Hid (Blk v1 (w.heap.size) 34 [.slice a.b m.table.buckets.length a.bc, .slice a.f m.table.frames.length a.fc, .slice a.l m.cache.lines.length a.lc, .int .i64 m.cache.hand, .int .i64 m.tags.count, .int .i64 m.tags.next, .int .i64 m.tags.round, .slice a.o m.tags.owns.length a.oc, .int .i64 m.space]) := zk hv1
  have lX : w.heap.size < v1.heap.size := KX.out.lt
  have KR : Hid (Blk v1 (w.heap.size + 1) 34 [.slice none 0 0, .slice none 0 0, .slice none 0 0, .int .i64 0, .int .i64 0, .int .i64 0, .int .i64 0, .slice none 0 0, .int .i64 0]) := zk hv1
  have lR : w.heap.size + 1 < v1.heap.size := KR.out.lt
  clear hv1
  refine (C1.out _ Ev1.out).mono ?_; rintro r w1 ⟨A1, c1, rfl, hf1, hb1⟩
  have Y1 := zq (Chg.of_ex hb1)
  have s1 := Y1.out.size
  have Ew1 := zq (Ev1.out.chg Y1.out (by omega))
  clear hb1
  replace KX := zq (KX.out.chg Y1.out (by omega))
  replace KR := zq (KR.out.chg Y1.out (by omega))
  have HF1 := zq hf1; clear hf1
  have WHF1 := zq HF1.out.row
  obtain ⟨qX0, qX1, qX2, qX3, qX4, qX5, qX6, qX7, qX8⟩ := KX.out.c9
  have jX := KX.out.lt
  obtain ⟨qR0, qR1, qR2, qR3, qR4, qR5, qR6, qR7, qR8⟩ := KR.out.c9
  have jR := KR.out.lt
  have zR := KR.out.frozen
  go_wp2_with fail
  refine name_calls ?_; intro v2 hv2
  have X2 : Hid (Chg (0) (0) w1 v2) := zx hv2
  have t2 := X2.out.size
  have Ev2 := zq (Ew1.out.chg X2.out (by omega))
  clear qX0 qX1 qX2 qX3 qX4 qX5 qX6 qX7 qX8 jX
  clear qR0 qR1 qR2 qR3 qR4 qR5 qR6 qR7 qR8 jR zR
  replace KX := zq (KX.out.chg X2.out (by omega))
  replace KR := zq (KR.out.chg X2.out (by omega))
  replace HF1 := zq (HF1.out.chg X2.out WHF1.out (by omega))
  have KT : Hid (Blk v2 (w1.heap.size) 32 [.int .i64 tg.count, .int .i64 tg.next, .int .i64 tg.round, .slice A1 tg.owns.length c1]) := zk hv2
  have lT : w1.heap.size < v2.heap.size := KT.out.lt
  clear hv2
  refine (C2.out _ Ev2.out).mono ?_; rintro r w2 ⟨rfl, hb2⟩
  have Y2 := zq (Chg.of_ex hb2)
  have s2 := Y2.out.size
  have Ew2 := zq (Ev2.out.chg Y2.out (by omega))
  clear hb2
  replace KX := zq (KX.out.chg Y2.out (by omega))
  replace KR := zq (KR.out.chg Y2.out (by omega))
  replace KT := zq (KT.out.chg Y2.out (by omega))
  replace HF1 := zq (HF1.out.chg Y2.out WHF1.out (by omega))
  obtain ⟨qX0, qX1, qX2, qX3, qX4, qX5, qX6, qX7, qX8⟩ := KX.out.c9
  have jX := KX.out.lt
  obtain ⟨qR0, qR1, qR2, qR3, qR4, qR5, qR6, qR7, qR8⟩ := KR.out.c9
  have jR := KR.out.lt
  have zR := KR.out.frozen
  obtain ⟨qT0, qT1, qT2, qT3⟩ := KT.out.c4
  have jT := KT.out.lt
  go_wp2_with fail
  refine name_calls ?_; intro v3 hv3
  have X3 : Hid (Chg (0) (0) w2 v3) := zx hv3
  have t3 := X3.out.size
  have Ev3 := zq (Ew2.out.chg X3.out (by omega))
  clear qX0 qX1 qX2 qX3 qX4 qX5 qX6 qX7 qX8 jX
  clear qR0 qR1 qR2 qR3 qR4 qR5 qR6 qR7 qR8 jR zR
  clear qT0 qT1 qT2 qT3 jT
  replace KX := zq (KX.out.chg X3.out (by omega))
  replace KR := zq (KR.out.chg X3.out (by omega))
  replace KT := zq (KT.out.chg X3.out (by omega))
  replace HF1 := zq (HF1.out.chg X3.out WHF1.out (by omega))
  clear hv3
  refine (C3.out _ Ev3.out).mono ?_; rintro r w3 ⟨a3, rfl, ⟨hfa, hfb, hfc, hfd⟩, hb3⟩
  have Y3 := zq (Chg.of_ex hb3)
  have s3 := Y3.out.size
  have Ew3 := zq (Ev3.out.chg Y3.out (by omega))
  clear hb3
  replace KX := zq (KX.out.chg Y3.out (by omega))
  replace KR := zq (KR.out.chg Y3.out (by omega))
  replace KT := zq (KT.out.chg Y3.out (by omega))
  replace HF1 := zq (HF1.out.chg Y3.out WHF1.out (by omega))
  have HFA := zq hfa; clear hfa
  have WHFA := zq HFA.out.row
  have HFB := zq hfb; clear hfb
  have WHFB := zq HFB.out.row
  have HFC := zq hfc; clear hfc
  have WHFC := zq HFC.out.row
  have HFD := zq hfd; clear hfd
  have WHFD := zq HFD.out.row
  obtain ⟨qX0, qX1, qX2, qX3, qX4, qX5, qX6, qX7, qX8⟩ := KX.out.c9
  have jX := KX.out.lt
  obtain ⟨qR0, qR1, qR2, qR3, qR4, qR5, qR6, qR7, qR8⟩ := KR.out.c9
  have jR := KR.out.lt
  have zR := KR.out.frozen
  obtain ⟨qT0, qT1, qT2, qT3⟩ := KT.out.c4
  have jT := KT.out.lt
  have hne1 : ¬ w3.heap.size = w.heap.size + 1 := by omega
  have hne2 : ¬ w.heap.size + 1 = w3.heap.size := by omega
  have hne3 : ¬ w3.heap.size = w1.heap.size := by omega
  have hne4 : ¬ w1.heap.size = w3.heap.size := by omega
  go_wp2
  exact bodyPost_ret (v := .tuple #[.agg #[.slice (⟨a3.b, a3.bc, a3.f, a3.fc, a3.l, a3.lc, A1, c1⟩ : MA).b (⟨m.table, m.cache, tg, s⟩ : MachD).table.buckets.length (⟨a3.b, a3.bc, a3.f, a3.fc, a3.l, a3.lc, A1, c1⟩ : MA).bc, .slice (⟨a3.b, a3.bc, a3.f, a3.fc, a3.l, a3.lc, A1, c1⟩ : MA).f (⟨m.table, m.cache, tg, s⟩ : MachD).table.frames.length (⟨a3.b, a3.bc, a3.f, a3.fc, a3.l, a3.lc, A1, c1⟩ : MA).fc, .slice (⟨a3.b, a3.bc, a3.f, a3.fc, a3.l, a3.lc, A1, c1⟩ : MA).l (⟨m.table, m.cache, tg, s⟩ : MachD).cache.lines.length (⟨a3.b, a3.bc, a3.f, a3.fc, a3.l, a3.lc, A1, c1⟩ : MA).lc, .int .i64 (⟨m.table, m.cache, tg, s⟩ : MachD).cache.hand, .int .i64 (⟨m.table, m.cache, tg, s⟩ : MachD).tags.count, .int .i64 (⟨m.table, m.cache, tg, s⟩ : MachD).tags.next, .int .i64 (⟨m.table, m.cache, tg, s⟩ : MachD).tags.round, .slice (⟨a3.b, a3.bc, a3.f, a3.fc, a3.l, a3.lc, A1, c1⟩ : MA).o (⟨m.table, m.cache, tg, s⟩ : MachD).tags.owns.length (⟨a3.b, a3.bc, a3.f, a3.fc, a3.l, a3.lc, A1, c1⟩ : MA).oc, .int .i64 (⟨m.table, m.cache, tg, s⟩ : MachD).space], .bool true]) (by simp [results, Tryz.results89, go_sem, *]) rfl
   ⟨⟨a3.b, a3.bc, a3.f, a3.fc, a3.l, a3.lc, A1, c1⟩, rfl, ⟨(Fr.mono (zp HFA.out WHFA.out) (by omega)), (Fr.mono (zp HFB.out WHFB.out) (by omega)), (Fr.mono (zp HFC.out WHFC.out) (by omega)), (Fr.mono (zp HF1.out WHF1.out) (by omega))⟩, (ze Ew3.out)⟩
 ·simp only [if_true]
  have HFL : Hid ((freshC m.cache).lines.length = m.cache.lines.length) := zq (by unfold freshC; simp)
  have HFH : Hid ((freshC m.cache).hand = m.cache.hand) := zq rfl
  go_enter Tryz.func89, Tryz.ntmps89
  go_wp2_with fail
  refine name_calls ?_; intro v1 hv1
  have X1 : Hid (Chg (0) (0) w v1) := zx hv1
  have t1 := X1.out.size
  have Ev1 := zq ((Ex.refl w).chg X1.out (by omega))
  have KX : Hid (Blk v1 (w.heap.size) 34 [.slice a.b m.table.buckets.length a.bc, .slice a.f m.table.frames.length a.fc, .slice a.l m.cache.lines.length a.lc, .int .i64 m.cache.hand, .int .i64 m.tags.count, .int .i64 m.tags.next, .int .i64 m.tags.round, .slice a.o m.tags.owns.length a.oc, .int .i64 m.space]) := zk hv1
  have lX : w.heap.size < v1.heap.size := KX.out.lt
  have KR : Hid (Blk v1 (w.heap.size + 1) 34 [.slice none 0 0, .slice none 0 0, .slice none 0 0, .int .i64 0, .int .i64 0, .int .i64 0, .int .i64 0, .slice none 0 0, .int .i64 0]) := zk hv1
  have lR : w.heap.size + 1 < v1.heap.size := KR.out.lt
  clear hv1
  refine (C1.out _ Ev1.out).mono ?_; rintro r w1 ⟨A1, c1, rfl, hf1, hb1⟩
  have Y1 := zq (Chg.of_ex hb1)
  have s1 := Y1.out.size
  have Ew1 := zq (Ev1.out.chg Y1.out (by omega))
  clear hb1
  replace KX := zq (KX.out.chg Y1.out (by omega))
  replace KR := zq (KR.out.chg Y1.out (by omega))
  have HF1 := zq hf1; clear hf1
  have WHF1 := zq HF1.out.row
  obtain ⟨qX0, qX1, qX2, qX3, qX4, qX5, qX6, qX7, qX8⟩ := KX.out.c9
  have jX := KX.out.lt
  obtain ⟨qR0, qR1, qR2, qR3, qR4, qR5, qR6, qR7, qR8⟩ := KR.out.c9
  have jR := KR.out.lt
  have zR := KR.out.frozen
  go_wp2_with fail
  refine name_calls ?_; intro v2 hv2
  have X2 : Hid (Chg (0) (0) w1 v2) := zx hv2
  have t2 := X2.out.size
  have Ev2 := zq (Ew1.out.chg X2.out (by omega))
  clear qX0 qX1 qX2 qX3 qX4 qX5 qX6 qX7 qX8 jX
  clear qR0 qR1 qR2 qR3 qR4 qR5 qR6 qR7 qR8 jR zR
  replace KX := zq (KX.out.chg X2.out (by omega))
  replace KR := zq (KR.out.chg X2.out (by omega))
  replace HF1 := zq (HF1.out.chg X2.out WHF1.out (by omega))
  have KT : Hid (Blk v2 (w1.heap.size) 32 [.int .i64 tg.count, .int .i64 tg.next, .int .i64 tg.round, .slice A1 tg.owns.length c1]) := zk hv2
  have lT : w1.heap.size < v2.heap.size := KT.out.lt
  clear hv2
  refine (C2.out _ Ev2.out).mono ?_; rintro r w2 ⟨rfl, hb2⟩
  have Y2 := zq (Chg.of_ex hb2)
  have s2 := Y2.out.size
  have Ew2 := zq (Ev2.out.chg Y2.out (by omega))
  clear hb2
  replace KX := zq (KX.out.chg Y2.out (by omega))
  replace KR := zq (KR.out.chg Y2.out (by omega))
  replace KT := zq (KT.out.chg Y2.out (by omega))
  replace HF1 := zq (HF1.out.chg Y2.out WHF1.out (by omega))
  obtain ⟨qX0, qX1, qX2, qX3, qX4, qX5, qX6, qX7, qX8⟩ := KX.out.c9
  have jX := KX.out.lt
  obtain ⟨qR0, qR1, qR2, qR3, qR4, qR5, qR6, qR7, qR8⟩ := KR.out.c9
  have jR := KR.out.lt
  have zR := KR.out.frozen
  obtain ⟨qT0, qT1, qT2, qT3⟩ := KT.out.c4
  have jT := KT.out.lt
  go_wp2_with fail
  refine name_calls ?_; intro v3 hv3
  have X3 : Hid (Chg (0) (0) w2 v3) := zx hv3
  have t3 := X3.out.size
  have Ev3 := zq (Ew2.out.chg X3.out (by omega))
  clear qX0 qX1 qX2 qX3 qX4 qX5 qX6 qX7 qX8 jX
  clear qR0 qR1 qR2 qR3 qR4 qR5 qR6 qR7 qR8 jR zR
  clear qT0 qT1 qT2 qT3 jT
  replace KX := zq (KX.out.chg X3.out (by omega))
  replace KR := zq (KR.out.chg X3.out (by omega))
  replace KT := zq (KT.out.chg X3.out (by omega))
  replace HF1 := zq (HF1.out.chg X3.out WHF1.out (by omega))
  clear hv3
  refine (C3.out _ Ev3.out).mono ?_; rintro r w3 ⟨a3, rfl, ⟨hfa, hfb, hfc, hfd⟩, hb3⟩
  have Y3 := zq (Chg.of_ex hb3)
  have s3 := Y3.out.size
  have Ew3 := zq (Ev3.out.chg Y3.out (by omega))
  clear hb3
  replace KX := zq (KX.out.chg Y3.out (by omega))
  replace KR := zq (KR.out.chg Y3.out (by omega))
  replace KT := zq (KT.out.chg Y3.out (by omega))
  replace HF1 := zq (HF1.out.chg Y3.out WHF1.out (by omega))
  have HFA := zq hfa; clear hfa
  have WHFA := zq HFA.out.row
  have HFB := zq hfb; clear hfb
  have WHFB := zq HFB.out.row
  have HFC := zq hfc; clear hfc
  have WHFC := zq HFC.out.row
  have HFD := zq hfd; clear hfd
  have WHFD := zq HFD.out.row
  obtain ⟨qX0, qX1, qX2, qX3, qX4, qX5, qX6, qX7, qX8⟩ := KX.out.c9
  have jX := KX.out.lt
  obtain ⟨qR0, qR1, qR2, qR3, qR4, qR5, qR6, qR7, qR8⟩ := KR.out.c9
  have jR := KR.out.lt
  have zR := KR.out.frozen
  obtain ⟨qT0, qT1, qT2, qT3⟩ := KT.out.c4
  have jT := KT.out.lt
  have hne1 : ¬ w3.heap.size = w.heap.size + 1 := by omega
  have hne2 : ¬ w.heap.size + 1 = w3.heap.size := by omega
  have hne3 : ¬ w3.heap.size = w1.heap.size := by omega
  have hne4 : ¬ w1.heap.size = w3.heap.size := by omega
  go_wp2_with fail
  refine name_calls ?_; intro v4 hv4
  have X4 : Hid (Chg (0) (0) w3 v4) := zx hv4
  have t4 := X4.out.size
  have Ev4 := zq (Ew3.out.chg X4.out (by omega))
  clear qX0 qX1 qX2 qX3 qX4 qX5 qX6 qX7 qX8 jX
  clear qR0 qR1 qR2 qR3 qR4 qR5 qR6 qR7 qR8 jR zR
  clear qT0 qT1 qT2 qT3 jT
  replace KX := zq (KX.out.chg X4.out (by omega))
  replace KR := zq (KR.out.chg X4.out (by omega))
  replace KT := zq (KT.out.chg X4.out (by omega))
  replace HF1 := zq (HF1.out.chg X4.out WHF1.out (by omega))
  replace HFA := zq (HFA.out.chg X4.out WHFA.out (by omega))
  replace HFB := zq (HFB.out.chg X4.out WHFB.out (by omega))
  replace HFC := zq (HFC.out.chg X4.out WHFC.out (by omega))
  replace HFD := zq (HFD.out.chg X4.out WHFD.out (by omega))
  have KO : Hid (Blk v4 (w3.heap.size) 34 [.slice a3.b m.table.buckets.length a3.bc, .slice a3.f m.table.frames.length a3.fc, .slice a3.l m.cache.lines.length a3.lc, .int .i64 m.cache.hand, .int .i64 tg.count, .int .i64 tg.next, .int .i64 tg.round, .slice A1 tg.owns.length c1, .int .i64 s]) := zk hv4
  have lO : w3.heap.size < v4.heap.size := KO.out.lt
  clear hv4
  refine (C4.out _ Ev4.out).mono ?_; rintro r w4 ⟨A4, c4, rfl, hf4, hb4⟩
  have Y4 := zq (Chg.of_ex hb4)
  have s4 := Y4.out.size
  have Ew4 := zq (Ev4.out.chg Y4.out (by omega))
  clear hb4
  replace KX := zq (KX.out.chg Y4.out (by omega))
  replace KR := zq (KR.out.chg Y4.out (by omega))
  replace KT := zq (KT.out.chg Y4.out (by omega))
  replace KO := zq (KO.out.chg Y4.out (by omega))
  replace HF1 := zq (HF1.out.chg Y4.out WHF1.out (by omega))
  replace HFA := zq (HFA.out.chg Y4.out WHFA.out (by omega))
  replace HFB := zq (HFB.out.chg Y4.out WHFB.out (by omega))
  replace HFC := zq (HFC.out.chg Y4.out WHFC.out (by omega))
  replace HFD := zq (HFD.out.chg Y4.out WHFD.out (by omega))
  have HF4 := zq hf4; clear hf4
  have WHF4 := zq HF4.out.row
  obtain ⟨qX0, qX1, qX2, qX3, qX4, qX5, qX6, qX7, qX8⟩ := KX.out.c9
  have jX := KX.out.lt
  obtain ⟨qR0, qR1, qR2, qR3, qR4, qR5, qR6, qR7, qR8⟩ := KR.out.c9
  have jR := KR.out.lt
  have zR := KR.out.frozen
  obtain ⟨qT0, qT1, qT2, qT3⟩ := KT.out.c4
  have jT := KT.out.lt
  obtain ⟨qO0, qO1, qO2, qO3, qO4, qO5, qO6, qO7, qO8⟩ := KO.out.c9
  have jO := KO.out.lt
  have zO := KO.out.frozen
  go_wp2
  exact bodyPost_ret (v := .tuple #[.agg #[.slice (⟨a3.b, a3.bc, a3.f, a3.fc, A4, c4, A1, c1⟩ : MA).b (⟨m.table, freshC m.cache, tg, s⟩ : MachD).table.buckets.length (⟨a3.b, a3.bc, a3.f, a3.fc, A4, c4, A1, c1⟩ : MA).bc, .slice (⟨a3.b, a3.bc, a3.f, a3.fc, A4, c4, A1, c1⟩ : MA).f (⟨m.table, freshC m.cache, tg, s⟩ : MachD).table.frames.length (⟨a3.b, a3.bc, a3.f, a3.fc, A4, c4, A1, c1⟩ : MA).fc, .slice (⟨a3.b, a3.bc, a3.f, a3.fc, A4, c4, A1, c1⟩ : MA).l (⟨m.table, freshC m.cache, tg, s⟩ : MachD).cache.lines.length (⟨a3.b, a3.bc, a3.f, a3.fc, A4, c4, A1, c1⟩ : MA).lc, .int .i64 (⟨m.table, freshC m.cache, tg, s⟩ : MachD).cache.hand, .int .i64 (⟨m.table, freshC m.cache, tg, s⟩ : MachD).tags.count, .int .i64 (⟨m.table, freshC m.cache, tg, s⟩ : MachD).tags.next, .int .i64 (⟨m.table, freshC m.cache, tg, s⟩ : MachD).tags.round, .slice (⟨a3.b, a3.bc, a3.f, a3.fc, A4, c4, A1, c1⟩ : MA).o (⟨m.table, freshC m.cache, tg, s⟩ : MachD).tags.owns.length (⟨a3.b, a3.bc, a3.f, a3.fc, A4, c4, A1, c1⟩ : MA).oc, .int .i64 (⟨m.table, freshC m.cache, tg, s⟩ : MachD).space], .bool true]) (by first | (simp [results, Tryz.results89, go_sem, qR0, qR1, qR2, qR3, qR4, qR5, qR6, qR7, qR8, HFL.out, HFH.out]; done) | skip) rfl
   ⟨⟨a3.b, a3.bc, a3.f, a3.fc, A4, c4, A1, c1⟩, rfl, ⟨(Fr.mono (zp HFA.out WHFA.out) (by omega)), (Fr.mono (zp HFB.out WHFB.out) (by omega)), (Fr.mono (zp HF4.out WHF4.out) (by omega)), (Fr.mono (zp HF1.out WHF1.out) (by omega))⟩, (ze Ew4.out)⟩


set_option maxHeartbeats 2000000 in
theorem dropPageS_c (t : CacheD) (tag page : Int) (A : Option Addr) (c : Nat) (w : World) (hx : Rd w A t.lines) (hn : t.lines.length ≤ 1048576) (hc : t.lines.length ≤ c) (hc2 : c ≤ maxLen) :
  Calls Tryz.prog 116 #[.agg #[.slice A t.lines.length c, .int .i64 t.hand], .int .i64 tag, .int .i64 page] w
  fun r w' => ∃ A' c', r = .returned (.tuple #[.agg #[.slice A' (dropPage t tag page).1.lines.length c', .int .i64 (dropPage t tag page).1.hand], .bool (dropPage t tag page).2]) ∧ Fr 64 w' w.heap.size A' c' (dropPage t tag page).1.lines ∧ Ex w w' := by
 have HX := zq hx
 clear hx
 have C1 := zq (findLineS_c t tag page)
 have hfa := findLine_at t tag page
 unfold dropPage
 generalize findLine t tag page = q at C1 hfa ⊢
 obtain ⟨at_, ok⟩ := q
 dsimp only at C1 hfa ⊢
 cases ok
 ·simp only [Bool.false_eq_true, if_false]
  clear hfa
  go_enter Tryz.func116, Tryz.ntmps116
  go_wp2_with fail
  refine name_calls ?_; intro v1 hv1
  have X1 : Hid (Chg (0) (0) w v1) := zx hv1
  have t1 := X1.out.size
  have Ev1 := zq ((Ex.refl w).chg X1.out (by omega))
  have KX : Hid (Blk v1 (w.heap.size) 29 [.slice A t.lines.length c, .int .i64 t.hand]) := zk hv1
  have lX : w.heap.size < v1.heap.size := KX.out.lt
  have KR : Hid (Blk v1 (w.heap.size + 1) 29 [.slice none 0 0, .int .i64 0]) := zk hv1
  have lR : w.heap.size + 1 < v1.heap.size := KR.out.lt
  have DX := zq (HX.out.ex Ev1.out)
  clear hv1
  refine (C1.out A c _ DX.out hn hc).mono ?_; rintro r w1 ⟨rfl, hb1⟩
  have Y1 := zq (Chg.of_ex hb1)
  have s1 := Y1.out.size
  have Ew1 := zq (Ev1.out.chg Y1.out (by omega))
  clear hb1
  replace KX := zq (KX.out.chg Y1.out (by omega))
  replace KR := zq (KR.out.chg Y1.out (by omega))
  replace DX := zq (HX.out.ex Ew1.out)
  obtain ⟨qX0, qX1⟩ := KX.out.c2
  have jX := KX.out.lt
  obtain ⟨qR0, qR1⟩ := KR.out.c2
  have jR := KR.out.lt
  have zR := KR.out.frozen
  go_wp2
  exact bodyPost_ret (v := .tuple #[.agg #[.slice none 0 0, .int .i64 0], .bool false]) (by simp [results, Tryz.results116, go_sem, qR0, qR1]) rfl
   ⟨none, 0, rfl, Fr.none_ _ _ _ _, (Ew1.out.set (Nat.le_add_right _ 1) _).set (Nat.le_add_right _ 1) _⟩
 ·simp only [if_true]
  obtain ⟨k, x, rfl, hxk, -, -, -⟩ := hfa rfl
  have hkn := getElem?_lt hxk
  have HXK := zq hxk
  clear hxk hfa
  rw [Int.toNat_natCast]
  obtain ⟨a1, o1, hA, -, -⟩ := HX.out (by omega)
  subst hA
  go_enter Tryz.func116, Tryz.ntmps116
  go_wp2_with fail
  refine name_calls ?_; intro v1 hv1
  have X1 : Hid (Chg (0) (0) w v1) := zx hv1
  have t1 := X1.out.size
  have Ev1 := zq ((Ex.refl w).chg X1.out (by omega))
  have KX : Hid (Blk v1 (w.heap.size) 29 [.slice (some ⟨a1, o1, none⟩) t.lines.length c, .int .i64 t.hand]) := zk hv1
  have lX : w.heap.size < v1.heap.size := KX.out.lt
  have KR : Hid (Blk v1 (w.heap.size + 1) 29 [.slice none 0 0, .int .i64 0]) := zk hv1
  have lR : w.heap.size + 1 < v1.heap.size := KR.out.lt
  have DX := zq (HX.out.ex Ev1.out)
  clear hv1
  refine (C1.out _ c _ DX.out hn hc).mono ?_; rintro r w1 ⟨rfl, hb1⟩
  have Y1 := zq (Chg.of_ex hb1)
  have s1 := Y1.out.size
  have Ew1 := zq (Ev1.out.chg Y1.out (by omega))
  clear hb1
  replace KX := zq (KX.out.chg Y1.out (by omega))
  replace KR := zq (KR.out.chg Y1.out (by omega))
  replace DX := zq (HX.out.ex Ew1.out)
  obtain ⟨qX0, qX1⟩ := KX.out.c2
  have jX := KX.out.lt
  obtain ⟨qR0, qR1⟩ := KR.out.c2
  have jR := KR.out.lt
  have zR := KR.out.frozen
  go_wp2_with fail
  refine name_calls ?_; intro v2 hv2
  have X2 : Hid (Chg (0) (0) w1 v2) := zx hv2
  have t2 := X2.out.size
  have Ev2 := zq (Ew1.out.chg X2.out (by omega))
  clear qX0 qX1 jX
  clear qR0 qR1 jR zR
  replace KX := zq (KX.out.chg X2.out (by omega))
  replace KR := zq (KR.out.chg X2.out (by omega))
  replace DX := zq (HX.out.ex Ev2.out)
  clear hv2
  refine (l4Copy_c t _ c _ DX.out hn hc hc2).mono ?_; rintro r w2 ⟨A2, c2, rfl, hf2, hb2⟩
  have Y2 := zq (Chg.of_ex hb2)
  have s2 := Y2.out.size
  have Ew2 := zq (Ev2.out.chg Y2.out (by omega))
  clear hb2
  replace KX := zq (KX.out.chg Y2.out (by omega))
  replace KR := zq (KR.out.chg Y2.out (by omega))
  replace DX := zq (HX.out.ex Ew2.out)
  have HF2 := zq hf2; clear hf2
  have WHF2 := zq HF2.out.row
  obtain ⟨qX0, qX1⟩ := KX.out.c2
  have jX := KX.out.lt
  obtain ⟨qR0, qR1⟩ := KR.out.c2
  have jR := KR.out.lt
  have zR := KR.out.frozen
  obtain ⟨g, rest, rfl, hBg, hbk, hrest⟩ := HF2.out.open_ hkn
  have HBK := zq hbk
  have HR := zq hrest
  have hle := HF2.out.le
  have hca := HF2.out.cap
  obtain ⟨d0, d1, d2, d3, d4, d5⟩ := hbk.line HXK.out
  have hfz := hbk.frozen
  have lg := Blk.lt hbk
  clear hbk hrest
  have hgR : ¬ w.heap.size + 1 = g := by omega
  have hgR' : ¬ g = w.heap.size + 1 := by omega
  go_wp2
  exact bodyPost_ret (v := .tuple #[.agg #[.slice (some ⟨g, 0, none⟩) t.lines.length c2, .int .i64 t.hand], .bool true]) (by simp [results, Tryz.results116, go_sem, qR0, qR1, jR]) rfl
   ⟨some ⟨g, 0, none⟩, c2, by simp, Fr.close (xs := t.lines.set k noLine) (rest := rest) (by repeat' (first | with_reducible refine Bk.alloc ?_ _ | with_reducible refine Bk.drew ?_ | with_reducible refine Bk.far ?_ (by first | (simp; done) | (simp; omega)) _ | exact Bk.set_line HBK.out noLine hkn)) (by omega) (by rw [List.length_set]; exact HR.out) (by simp; omega) hca, (ze Ew2.out)⟩


set_option maxHeartbeats 2000000 in
theorem tagS_c (m : MachD) (a : MA) (s p : Int) (w : World) (h : MachOk m) (hx : HasM w m a) :
  Calls Tryz.prog 103 #[.agg #[.slice a.b m.table.buckets.length a.bc, .slice a.f m.table.frames.length a.fc, .slice a.l m.cache.lines.length a.lc, .int .i64 m.cache.hand, .int .i64 m.tags.count, .int .i64 m.tags.next, .int .i64 m.tags.round, .slice a.o m.tags.owns.length a.oc, .int .i64 m.space], .int .i64 s, .int .i64 p] w fun r w' => r = .returned (.tuple #[.int .i64 (tagFor m s p).1, .bool (tagFor m s p).2]) ∧ Ex w w' := by
 have hf := h.fewM
 have HO := zq hx.o
 obtain ⟨A, c, B, d, L, ee, O, g⟩ := a
 dsimp only at HO ⊢
 have C1 := zq (fun w' (e : Ex w w') => l5Find_c m.tags s O g w' (HO.out.ex e) hf.o)
 unfold tagFor
 by_cases hp : 128 ≤ p
 ·rw [if_pos hp]
  clear hx hf h
  go_enter Tryz.func103, Tryz.ntmps103
  go_wp2
  exact bodyPost_ret (v := .tuple #[.int .i64 (-1), .bool true]) (by simp [results, Tryz.results103, go_sem]) rfl ⟨rfl, (Ex.refl _).alloc _⟩
 rw [if_neg hp]
 rcases place_or m.tags.owns s with ⟨e, _⟩ | ⟨k, x, e, hk, _⟩
 ·rw [e, if_pos (by omega)]
  rw [e] at C1
  clear hx hf h e
  go_enter Tryz.func103, Tryz.ntmps103
  go_wp2_with fail
  refine name_calls ?_; intro v1 hv1
  have X1 : Hid (Chg (0) (0) w v1) := zx hv1
  have t1 := X1.out.size
  have Ev1 := zq ((Ex.refl w).chg X1.out (by omega))
  have KX : Hid (Blk v1 (w.heap.size) 34 [.slice A m.table.buckets.length c, .slice B m.table.frames.length d, .slice L m.cache.lines.length ee, .int .i64 m.cache.hand, .int .i64 m.tags.count, .int .i64 m.tags.next, .int .i64 m.tags.round, .slice O m.tags.owns.length g, .int .i64 m.space]) := zk hv1
  have lX : w.heap.size < v1.heap.size := KX.out.lt
  clear hv1
  refine (C1.out _ Ev1.out).mono ?_; rintro r w1 ⟨rfl, hb1⟩
  have Y1 := zq (Chg.of_ex hb1)
  have s1 := Y1.out.size
  have Ew1 := zq (Ev1.out.chg Y1.out (by omega))
  clear hb1
  replace KX := zq (KX.out.chg Y1.out (by omega))
  obtain ⟨qX0, qX1, qX2, qX3, qX4, qX5, qX6, qX7, qX8⟩ := KX.out.c9
  have jX := KX.out.lt
  go_wp2
  exact bodyPost_ret (v := .tuple #[.int .i64 0, .bool false]) (by simp [results, Tryz.results103, go_sem]) rfl ⟨rfl, Ew1.out⟩
 ·rw [e, if_neg (by omega), Int.toNat_natCast, own_getD hk]
  rw [e] at C1
  have hkl := getElem?_lt hk
  have HK := zq hk
  have hkn : (k : Int) < (m.tags.owns.length : Int) := by omega
  have hk0 : ¬ (k : Int) < 0 := by omega
  obtain ⟨b, o, x', rfl, hb, hx', p0, p1⟩ := HO.out.own hkl
  obtain rfl : x' = x := by rw [hk] at hx'; injection hx' with q; exact q.symm
  have PK : Hid (∀ w', Ex w w' → w'.cell? ⟨b, o + k * 2 + 1, none⟩ = some (.int .i64 x'.tag)) := zq (fun w' h => (h.cell hb).trans p1)
  clear hx hf h e hk hx' p0 p1
  go_enter Tryz.func103, Tryz.ntmps103
  go_wp2_with fail
  refine name_calls ?_; intro v1 hv1
  have X1 : Hid (Chg (0) (0) w v1) := zx hv1
  have t1 := X1.out.size
  have Ev1 := zq ((Ex.refl w).chg X1.out (by omega))
  have KX : Hid (Blk v1 (w.heap.size) 34 [.slice A m.table.buckets.length c, .slice B m.table.frames.length d, .slice L m.cache.lines.length ee, .int .i64 m.cache.hand, .int .i64 m.tags.count, .int .i64 m.tags.next, .int .i64 m.tags.round,   .slice (some ⟨b, o, none⟩) m.tags.owns.length g, .int .i64 m.space]) := zk hv1
  have lX : w.heap.size < v1.heap.size := KX.out.lt
  clear hv1
  refine (C1.out _ Ev1.out).mono ?_; rintro r w1 ⟨rfl, hb1⟩
  have Y1 := zq (Chg.of_ex hb1)
  have s1 := Y1.out.size
  have Ew1 := zq (Ev1.out.chg Y1.out (by omega))
  clear hb1
  replace KX := zq (KX.out.chg Y1.out (by omega))
  obtain ⟨qX0, qX1, qX2, qX3, qX4, qX5, qX6, qX7, qX8⟩ := KX.out.c9
  have jX := KX.out.lt
  have pk := PK.out _ Ew1.out
  go_wp2
  exact bodyPost_ret (v := .tuple #[.int .i64 x'.tag, .bool true]) (by simp [results, Tryz.results103, go_sem]) rfl ⟨rfl, Ew1.out⟩

set_option maxHeartbeats 4000000 in
theorem forgetS_c (m : MachD) (a : MA) (k : KeyD) (w : World) (h : MachOk m) (hx : HasM w m a) (hc : CapM m a) (hk : CapX a) :
  Calls Tryz.prog 109 #[.agg #[.slice a.b m.table.buckets.length a.bc, .slice a.f m.table.frames.length a.fc, .slice a.l m.cache.lines.length a.lc, .int .i64 m.cache.hand, .int .i64 m.tags.count, .int .i64 m.tags.next, .int .i64 m.tags.round, .slice a.o m.tags.owns.length a.oc, .int .i64 m.space], .agg #[.int .i64 k.space, .int .i64 k.page]] w (MachIs ⟨m.table, forgetC m k, m.tags, m.space⟩ w) := by
 have hf := h.fewM
 have C1 := zq (fun w' (e : Ex w w') => l6Copy_c m a w' (hx.ex e) hf hc hk)
 have C2 := zq (fun w' (e : Ex w w') => tagS_c m a k.space k.page w' h (hx.ex e))
 have C3 := zq (fun g w' (e : Ex w w') => dropPageS_c m.cache g k.page a.l a.lc w' (hx.l.ex e) hf.l hc.l hk.l)
 unfold forgetC
 generalize tagFor m k.space k.page = q at C2 ⊢
 obtain ⟨g, ok⟩ := q
 dsimp only at C2 ⊢
 have C3 := zq (C3.out g)
 generalize dropPage m.cache g k.page = z at C3 ⊢
 obtain ⟨dc, dk⟩ := z
 dsimp only at C3 ⊢
 clear hf hx hc hk h
 cases ok
 ·simp only [Bool.false_eq_true, if_false]
  go_enter Tryz.func109, Tryz.ntmps109
  go_wp2_with fail
  refine name_calls ?_; intro v1 hv1
  have X1 : Hid (Chg (0) (0) w v1) := zx hv1
  have t1 := X1.out.size
  have Ev1 := zq ((Ex.refl w).chg X1.out (by omega))
  have KX : Hid (Blk v1 (w.heap.size) 34 [.slice a.b m.table.buckets.length a.bc, .slice a.f m.table.frames.length a.fc, .slice a.l m.cache.lines.length a.lc, .int .i64 m.cache.hand, .int .i64 m.tags.count, .int .i64 m.tags.next, .int .i64 m.tags.round, .slice a.o m.tags.owns.length a.oc, .int .i64 m.space]) := zk hv1
  have lX : w.heap.size < v1.heap.size := KX.out.lt
  have KK : Hid (Blk v1 (w.heap.size + 1) 43 [.int .i64 k.space, .int .i64 k.page]) := zk hv1
  have lK : w.heap.size + 1 < v1.heap.size := KK.out.lt
  have KR : Hid (Blk v1 (w.heap.size + 1 + 1) 34 [.slice none 0 0, .slice none 0 0, .slice none 0 0, .int .i64 0, .int .i64 0, .int .i64 0, .int .i64 0, .slice none 0 0, .int .i64 0]) := zk hv1
  have lR : w.heap.size + 1 + 1 < v1.heap.size := KR.out.lt
  clear hv1
  refine (C1.out _ Ev1.out).mono ?_; rintro r w1 ⟨a1, rfl, ⟨hfa, hfb, hfc, hfd⟩, hb1⟩
  have Y1 := zq (Chg.of_ex hb1)
  have s1 := Y1.out.size
  have Ew1 := zq (Ev1.out.chg Y1.out (by omega))
  clear hb1
  replace KX := zq (KX.out.chg Y1.out (by omega))
  replace KK := zq (KK.out.chg Y1.out (by omega))
  replace KR := zq (KR.out.chg Y1.out (by omega))
  have HFA := zq hfa; clear hfa
  have WHFA := zq HFA.out.row
  have HFB := zq hfb; clear hfb
  have WHFB := zq HFB.out.row
  have HFC := zq hfc; clear hfc
  have WHFC := zq HFC.out.row
  have HFD := zq hfd; clear hfd
  have WHFD := zq HFD.out.row
  obtain ⟨qX0, qX1, qX2, qX3, qX4, qX5, qX6, qX7, qX8⟩ := KX.out.c9
  have jX := KX.out.lt
  obtain ⟨qK0, qK1⟩ := KK.out.c2
  have jK := KK.out.lt
  obtain ⟨qR0, qR1, qR2, qR3, qR4, qR5, qR6, qR7, qR8⟩ := KR.out.c9
  have jR := KR.out.lt
  have zR := KR.out.frozen
  go_wp2_with fail
  refine name_calls ?_; intro v2 hv2
  have X2 : Hid (Chg (0) (0) w1 v2) := zx hv2
  have t2 := X2.out.size
  have Ev2 := zq (Ew1.out.chg X2.out (by omega))
  clear qX0 qX1 qX2 qX3 qX4 qX5 qX6 qX7 qX8 jX
  clear qK0 qK1 jK
  clear qR0 qR1 qR2 qR3 qR4 qR5 qR6 qR7 qR8 jR zR
  replace KX := zq (KX.out.chg X2.out (by omega))
  replace KK := zq (KK.out.chg X2.out (by omega))
  replace KR := zq (KR.out.chg X2.out (by omega))
  replace HFA := zq (HFA.out.chg X2.out WHFA.out (by omega))
  replace HFB := zq (HFB.out.chg X2.out WHFB.out (by omega))
  replace HFC := zq (HFC.out.chg X2.out WHFC.out (by omega))
  replace HFD := zq (HFD.out.chg X2.out WHFD.out (by omega))
  have KO : Hid (Blk v2 (w1.heap.size) 34 [.slice a1.b m.table.buckets.length a1.bc, .slice a1.f m.table.frames.length a1.fc, .slice a1.l m.cache.lines.length a1.lc, .int .i64 m.cache.hand, .int .i64 m.tags.count, .int .i64 m.tags.next, .int .i64 m.tags.round, .slice a1.o m.tags.owns.length a1.oc, .int .i64 m.space]) := zk hv2
  have lO : w1.heap.size < v2.heap.size := KO.out.lt
  clear hv2
  refine (C2.out _ Ev2.out).mono ?_; rintro r w2 ⟨rfl, hb2⟩
  have Y2 := zq (Chg.of_ex hb2)
  have s2 := Y2.out.size
  have Ew2 := zq (Ev2.out.chg Y2.out (by omega))
  clear hb2
  replace KX := zq (KX.out.chg Y2.out (by omega))
  replace KK := zq (KK.out.chg Y2.out (by omega))
  replace KR := zq (KR.out.chg Y2.out (by omega))
  replace KO := zq (KO.out.chg Y2.out (by omega))
  replace HFA := zq (HFA.out.chg Y2.out WHFA.out (by omega))
  replace HFB := zq (HFB.out.chg Y2.out WHFB.out (by omega))
  replace HFC := zq (HFC.out.chg Y2.out WHFC.out (by omega))
  replace HFD := zq (HFD.out.chg Y2.out WHFD.out (by omega))
  obtain ⟨qX0, qX1, qX2, qX3, qX4, qX5, qX6, qX7, qX8⟩ := KX.out.c9
  have jX := KX.out.lt
  obtain ⟨qK0, qK1⟩ := KK.out.c2
  have jK := KK.out.lt
  obtain ⟨qR0, qR1, qR2, qR3, qR4, qR5, qR6, qR7, qR8⟩ := KR.out.c9
  have jR := KR.out.lt
  have zR := KR.out.frozen
  obtain ⟨qO0, qO1, qO2, qO3, qO4, qO5, qO6, qO7, qO8⟩ := KO.out.c9
  have jO := KO.out.lt
  have hne1 : ¬ w1.heap.size = w.heap.size + 1 + 1 := by omega
  have hne2 : ¬ w.heap.size + 1 + 1 = w1.heap.size := by omega
  go_wp2
  exact bodyPost_ret (v := .agg #[.slice a1.b (⟨m.table, m.cache, m.tags, m.space⟩ : MachD).table.buckets.length a1.bc, .slice a1.f (⟨m.table, m.cache, m.tags, m.space⟩ : MachD).table.frames.length a1.fc, .slice a1.l (⟨m.table, m.cache, m.tags, m.space⟩ : MachD).cache.lines.length a1.lc, .int .i64 (⟨m.table, m.cache, m.tags, m.space⟩ : MachD).cache.hand, .int .i64 (⟨m.table, m.cache, m.tags, m.space⟩ : MachD).tags.count, .int .i64 (⟨m.table, m.cache, m.tags, m.space⟩ : MachD).tags.next, .int .i64 (⟨m.table, m.cache, m.tags, m.space⟩ : MachD).tags.round, .slice a1.o (⟨m.table, m.cache, m.tags, m.space⟩ : MachD).tags.owns.length a1.oc, .int .i64 (⟨m.table, m.cache, m.tags, m.space⟩ : MachD).space]) (by simp [results, Tryz.results109, go_sem, *]) rfl
   ⟨a1, rfl, ⟨(Fr.mono (zp HFA.out WHFA.out) (by omega)), (Fr.mono (zp HFB.out WHFB.out) (by omega)), (Fr.mono (zp HFC.out WHFC.out) (by omega)), (Fr.mono (zp HFD.out WHFD.out) (by omega))⟩, (ze Ew2.out)⟩
 simp only [if_true]
 cases dk
 ·simp only [Bool.false_eq_true, if_false]
  go_enter Tryz.func109, Tryz.ntmps109
  go_wp2_with fail
  refine name_calls ?_; intro v1 hv1
  have X1 : Hid (Chg (0) (0) w v1) := zx hv1
  have t1 := X1.out.size
  have Ev1 := zq ((Ex.refl w).chg X1.out (by omega))
  have KX : Hid (Blk v1 (w.heap.size) 34 [.slice a.b m.table.buckets.length a.bc, .slice a.f m.table.frames.length a.fc, .slice a.l m.cache.lines.length a.lc, .int .i64 m.cache.hand, .int .i64 m.tags.count, .int .i64 m.tags.next, .int .i64 m.tags.round, .slice a.o m.tags.owns.length a.oc, .int .i64 m.space]) := zk hv1
  have lX : w.heap.size < v1.heap.size := KX.out.lt
  have KK : Hid (Blk v1 (w.heap.size + 1) 43 [.int .i64 k.space, .int .i64 k.page]) := zk hv1
  have lK : w.heap.size + 1 < v1.heap.size := KK.out.lt
  have KR : Hid (Blk v1 (w.heap.size + 1 + 1) 34 [.slice none 0 0, .slice none 0 0, .slice none 0 0, .int .i64 0, .int .i64 0, .int .i64 0, .int .i64 0, .slice none 0 0, .int .i64 0]) := zk hv1
  have lR : w.heap.size + 1 + 1 < v1.heap.size := KR.out.lt
  clear hv1
  refine (C1.out _ Ev1.out).mono ?_; rintro r w1 ⟨a1, rfl, ⟨hfa, hfb, hfc, hfd⟩, hb1⟩
  have Y1 := zq (Chg.of_ex hb1)
  have s1 := Y1.out.size
  have Ew1 := zq (Ev1.out.chg Y1.out (by omega))
  clear hb1
  replace KX := zq (KX.out.chg Y1.out (by omega))
  replace KK := zq (KK.out.chg Y1.out (by omega))
  replace KR := zq (KR.out.chg Y1.out (by omega))
  have HFA := zq hfa; clear hfa
  have WHFA := zq HFA.out.row
  have HFB := zq hfb; clear hfb
  have WHFB := zq HFB.out.row
  have HFC := zq hfc; clear hfc
  have WHFC := zq HFC.out.row
  have HFD := zq hfd; clear hfd
  have WHFD := zq HFD.out.row
  obtain ⟨qX0, qX1, qX2, qX3, qX4, qX5, qX6, qX7, qX8⟩ := KX.out.c9
  have jX := KX.out.lt
  obtain ⟨qK0, qK1⟩ := KK.out.c2
  have jK := KK.out.lt
  obtain ⟨qR0, qR1, qR2, qR3, qR4, qR5, qR6, qR7, qR8⟩ := KR.out.c9
  have jR := KR.out.lt
  have zR := KR.out.frozen
  go_wp2_with fail
  refine name_calls ?_; intro v2 hv2
  have X2 : Hid (Chg (0) (0) w1 v2) := zx hv2
  have t2 := X2.out.size
  have Ev2 := zq (Ew1.out.chg X2.out (by omega))
  clear qX0 qX1 qX2 qX3 qX4 qX5 qX6 qX7 qX8 jX
  clear qK0 qK1 jK
  clear qR0 qR1 qR2 qR3 qR4 qR5 qR6 qR7 qR8 jR zR
  replace KX := zq (KX.out.chg X2.out (by omega))
  replace KK := zq (KK.out.chg X2.out (by omega))
  replace KR := zq (KR.out.chg X2.out (by omega))
  replace HFA := zq (HFA.out.chg X2.out WHFA.out (by omega))
  replace HFB := zq (HFB.out.chg X2.out WHFB.out (by omega))
  replace HFC := zq (HFC.out.chg X2.out WHFC.out (by omega))
  replace HFD := zq (HFD.out.chg X2.out WHFD.out (by omega))
  have KO : Hid (Blk v2 (w1.heap.size) 34 [.slice a1.b m.table.buckets.length a1.bc, .slice a1.f m.table.frames.length a1.fc, .slice a1.l m.cache.lines.length a1.lc, .int .i64 m.cache.hand, .int .i64 m.tags.count, .int .i64 m.tags.next, .int .i64 m.tags.round, .slice a1.o m.tags.owns.length a1.oc, .int .i64 m.space]) := zk hv2
  have lO : w1.heap.size < v2.heap.size := KO.out.lt
  clear hv2
  refine (C2.out _ Ev2.out).mono ?_; rintro r w2 ⟨rfl, hb2⟩
  have Y2 := zq (Chg.of_ex hb2)
  have s2 := Y2.out.size
  have Ew2 := zq (Ev2.out.chg Y2.out (by omega))
  clear hb2
  replace KX := zq (KX.out.chg Y2.out (by omega))
  replace KK := zq (KK.out.chg Y2.out (by omega))
  replace KR := zq (KR.out.chg Y2.out (by omega))
  replace KO := zq (KO.out.chg Y2.out (by omega))
  replace HFA := zq (HFA.out.chg Y2.out WHFA.out (by omega))
  replace HFB := zq (HFB.out.chg Y2.out WHFB.out (by omega))
  replace HFC := zq (HFC.out.chg Y2.out WHFC.out (by omega))
  replace HFD := zq (HFD.out.chg Y2.out WHFD.out (by omega))
  obtain ⟨qX0, qX1, qX2, qX3, qX4, qX5, qX6, qX7, qX8⟩ := KX.out.c9
  have jX := KX.out.lt
  obtain ⟨qK0, qK1⟩ := KK.out.c2
  have jK := KK.out.lt
  obtain ⟨qR0, qR1, qR2, qR3, qR4, qR5, qR6, qR7, qR8⟩ := KR.out.c9
  have jR := KR.out.lt
  have zR := KR.out.frozen
  obtain ⟨qO0, qO1, qO2, qO3, qO4, qO5, qO6, qO7, qO8⟩ := KO.out.c9
  have jO := KO.out.lt
  go_wp2_with fail
  refine name_calls ?_; intro v3 hv3
  have X3 : Hid (Chg (0) (0) w2 v3) := zx hv3
  have t3 := X3.out.size
  have Ev3 := zq (Ew2.out.chg X3.out (by omega))
  clear qX0 qX1 qX2 qX3 qX4 qX5 qX6 qX7 qX8 jX
  clear qK0 qK1 jK
  clear qR0 qR1 qR2 qR3 qR4 qR5 qR6 qR7 qR8 jR zR
  clear qO0 qO1 qO2 qO3 qO4 qO5 qO6 qO7 qO8 jO
  replace KX := zq (KX.out.chg X3.out (by omega))
  replace KK := zq (KK.out.chg X3.out (by omega))
  replace KR := zq (KR.out.chg X3.out (by omega))
  replace KO := zq (KO.out.chg X3.out (by omega))
  replace HFA := zq (HFA.out.chg X3.out WHFA.out (by omega))
  replace HFB := zq (HFB.out.chg X3.out WHFB.out (by omega))
  replace HFC := zq (HFC.out.chg X3.out WHFC.out (by omega))
  replace HFD := zq (HFD.out.chg X3.out WHFD.out (by omega))
  clear hv3
  refine (C3.out _ Ev3.out).mono ?_; rintro r w3 ⟨A3, c3, rfl, hf3, hb3⟩
  have Y3 := zq (Chg.of_ex hb3)
  have s3 := Y3.out.size
  have Ew3 := zq (Ev3.out.chg Y3.out (by omega))
  clear hb3
  replace KX := zq (KX.out.chg Y3.out (by omega))
  replace KK := zq (KK.out.chg Y3.out (by omega))
  replace KR := zq (KR.out.chg Y3.out (by omega))
  replace KO := zq (KO.out.chg Y3.out (by omega))
  replace HFA := zq (HFA.out.chg Y3.out WHFA.out (by omega))
  replace HFB := zq (HFB.out.chg Y3.out WHFB.out (by omega))
  replace HFC := zq (HFC.out.chg Y3.out WHFC.out (by omega))
  replace HFD := zq (HFD.out.chg Y3.out WHFD.out (by omega))
  have HF3 := zq hf3; clear hf3
  have WHF3 := zq HF3.out.row
  obtain ⟨qX0, qX1, qX2, qX3, qX4, qX5, qX6, qX7, qX8⟩ := KX.out.c9
  have jX := KX.out.lt
  obtain ⟨qK0, qK1⟩ := KK.out.c2
  have jK := KK.out.lt
  obtain ⟨qR0, qR1, qR2, qR3, qR4, qR5, qR6, qR7, qR8⟩ := KR.out.c9
  have jR := KR.out.lt
  have zR := KR.out.frozen
  obtain ⟨qO0, qO1, qO2, qO3, qO4, qO5, qO6, qO7, qO8⟩ := KO.out.c9
  have jO := KO.out.lt
  have hne1 : ¬ w1.heap.size = w.heap.size + 1 + 1 := by omega
  have hne2 : ¬ w.heap.size + 1 + 1 = w1.heap.size := by omega
  go_wp2
  exact bodyPost_ret (v := .agg #[.slice a1.b (⟨m.table, m.cache, m.tags, m.space⟩ : MachD).table.buckets.length a1.bc, .slice a1.f (⟨m.table, m.cache, m.tags, m.space⟩ : MachD).table.frames.length a1.fc, .slice a1.l (⟨m.table, m.cache, m.tags, m.space⟩ : MachD).cache.lines.length a1.lc, .int .i64 (⟨m.table, m.cache, m.tags, m.space⟩ : MachD).cache.hand, .int .i64 (⟨m.table, m.cache, m.tags, m.space⟩ : MachD).tags.count, .int .i64 (⟨m.table, m.cache, m.tags, m.space⟩ : MachD).tags.next, .int .i64 (⟨m.table, m.cache, m.tags, m.space⟩ : MachD).tags.round, .slice a1.o (⟨m.table, m.cache, m.tags, m.space⟩ : MachD).tags.owns.length a1.oc, .int .i64 (⟨m.table, m.cache, m.tags, m.space⟩ : MachD).space]) (by simp [results, Tryz.results109, go_sem, *]) rfl
   ⟨a1, rfl, ⟨(Fr.mono (zp HFA.out WHFA.out) (by omega)), (Fr.mono (zp HFB.out WHFB.out) (by omega)), (Fr.mono (zp HFC.out WHFC.out) (by omega)), (Fr.mono (zp HFD.out WHFD.out) (by omega))⟩, (ze Ew3.out)⟩
 ·simp only [if_true]
  go_enter Tryz.func109, Tryz.ntmps109
  go_wp2_with fail
  refine name_calls ?_; intro v1 hv1
  have X1 : Hid (Chg (0) (0) w v1) := zx hv1
  have t1 := X1.out.size
  have Ev1 := zq ((Ex.refl w).chg X1.out (by omega))
  have KX : Hid (Blk v1 (w.heap.size) 34 [.slice a.b m.table.buckets.length a.bc, .slice a.f m.table.frames.length a.fc, .slice a.l m.cache.lines.length a.lc, .int .i64 m.cache.hand, .int .i64 m.tags.count, .int .i64 m.tags.next, .int .i64 m.tags.round, .slice a.o m.tags.owns.length a.oc, .int .i64 m.space]) := zk hv1
  have lX : w.heap.size < v1.heap.size := KX.out.lt
  have KK : Hid (Blk v1 (w.heap.size + 1) 43 [.int .i64 k.space, .int .i64 k.page]) := zk hv1
  have lK : w.heap.size + 1 < v1.heap.size := KK.out.lt
  have KR : Hid (Blk v1 (w.heap.size + 1 + 1) 34 [.slice none 0 0, .slice none 0 0, .slice none 0 0, .int .i64 0, .int .i64 0, .int .i64 0, .int .i64 0, .slice none 0 0, .int .i64 0]) := zk hv1
  have lR : w.heap.size + 1 + 1 < v1.heap.size := KR.out.lt
  clear hv1
  refine (C1.out _ Ev1.out).mono ?_; rintro r w1 ⟨a1, rfl, ⟨hfa, hfb, hfc, hfd⟩, hb1⟩
  have Y1 := zq (Chg.of_ex hb1)
  have s1 := Y1.out.size
  have Ew1 := zq (Ev1.out.chg Y1.out (by omega))
  clear hb1
  replace KX := zq (KX.out.chg Y1.out (by omega))
  replace KK := zq (KK.out.chg Y1.out (by omega))
  replace KR := zq (KR.out.chg Y1.out (by omega))
  have HFA := zq hfa; clear hfa
  have WHFA := zq HFA.out.row
  have HFB := zq hfb; clear hfb
  have WHFB := zq HFB.out.row
  have HFC := zq hfc; clear hfc
  have WHFC := zq HFC.out.row
  have HFD := zq hfd; clear hfd
  have WHFD := zq HFD.out.row
  obtain ⟨qX0, qX1, qX2, qX3, qX4, qX5, qX6, qX7, qX8⟩ := KX.out.c9
  have jX := KX.out.lt
  obtain ⟨qK0, qK1⟩ := KK.out.c2
  have jK := KK.out.lt
  obtain ⟨qR0, qR1, qR2, qR3, qR4, qR5, qR6, qR7, qR8⟩ := KR.out.c9
  have jR := KR.out.lt
  have zR := KR.out.frozen
  go_wp2_with fail
  refine name_calls ?_; intro v2 hv2
  have X2 : Hid (Chg (0) (0) w1 v2) := zx hv2
  have t2 := X2.out.size
  have Ev2 := zq (Ew1.out.chg X2.out (by omega))
  clear qX0 qX1 qX2 qX3 qX4 qX5 qX6 qX7 qX8 jX
  clear qK0 qK1 jK
  clear qR0 qR1 qR2 qR3 qR4 qR5 qR6 qR7 qR8 jR zR
  replace KX := zq (KX.out.chg X2.out (by omega))
  replace KK := zq (KK.out.chg X2.out (by omega))
  replace KR := zq (KR.out.chg X2.out (by omega))
  replace HFA := zq (HFA.out.chg X2.out WHFA.out (by omega))
  replace HFB := zq (HFB.out.chg X2.out WHFB.out (by omega))
  replace HFC := zq (HFC.out.chg X2.out WHFC.out (by omega))
  replace HFD := zq (HFD.out.chg X2.out WHFD.out (by omega))
  have KO : Hid (Blk v2 (w1.heap.size) 34 [.slice a1.b m.table.buckets.length a1.bc, .slice a1.f m.table.frames.length a1.fc, .slice a1.l m.cache.lines.length a1.lc, .int .i64 m.cache.hand, .int .i64 m.tags.count, .int .i64 m.tags.next, .int .i64 m.tags.round, .slice a1.o m.tags.owns.length a1.oc, .int .i64 m.space]) := zk hv2
  have lO : w1.heap.size < v2.heap.size := KO.out.lt
  clear hv2
  refine (C2.out _ Ev2.out).mono ?_; rintro r w2 ⟨rfl, hb2⟩
  have Y2 := zq (Chg.of_ex hb2)
  have s2 := Y2.out.size
  have Ew2 := zq (Ev2.out.chg Y2.out (by omega))
  clear hb2
  replace KX := zq (KX.out.chg Y2.out (by omega))
  replace KK := zq (KK.out.chg Y2.out (by omega))
  replace KR := zq (KR.out.chg Y2.out (by omega))
  replace KO := zq (KO.out.chg Y2.out (by omega))
  replace HFA := zq (HFA.out.chg Y2.out WHFA.out (by omega))
  replace HFB := zq (HFB.out.chg Y2.out WHFB.out (by omega))
  replace HFC := zq (HFC.out.chg Y2.out WHFC.out (by omega))
  replace HFD := zq (HFD.out.chg Y2.out WHFD.out (by omega))
  obtain ⟨qX0, qX1, qX2, qX3, qX4, qX5, qX6, qX7, qX8⟩ := KX.out.c9
  have jX := KX.out.lt
  obtain ⟨qK0, qK1⟩ := KK.out.c2
  have jK := KK.out.lt
  obtain ⟨qR0, qR1, qR2, qR3, qR4, qR5, qR6, qR7, qR8⟩ := KR.out.c9
  have jR := KR.out.lt
  have zR := KR.out.frozen
  obtain ⟨qO0, qO1, qO2, qO3, qO4, qO5, qO6, qO7, qO8⟩ := KO.out.c9
  have jO := KO.out.lt
  have zO := KO.out.frozen
  go_wp2_with fail
  refine name_calls ?_; intro v3 hv3
  have X3 : Hid (Chg (0) (0) w2 v3) := zx hv3
  have t3 := X3.out.size
  have Ev3 := zq (Ew2.out.chg X3.out (by omega))
  clear qX0 qX1 qX2 qX3 qX4 qX5 qX6 qX7 qX8 jX
  clear qK0 qK1 jK
  clear qR0 qR1 qR2 qR3 qR4 qR5 qR6 qR7 qR8 jR zR
  clear qO0 qO1 qO2 qO3 qO4 qO5 qO6 qO7 qO8 jO zO
  replace KX := zq (KX.out.chg X3.out (by omega))
  replace KK := zq (KK.out.chg X3.out (by omega))
  replace KR := zq (KR.out.chg X3.out (by omega))
  replace KO := zq (KO.out.chg X3.out (by omega))
  replace HFA := zq (HFA.out.chg X3.out WHFA.out (by omega))
  replace HFB := zq (HFB.out.chg X3.out WHFB.out (by omega))
  replace HFC := zq (HFC.out.chg X3.out WHFC.out (by omega))
  replace HFD := zq (HFD.out.chg X3.out WHFD.out (by omega))
  clear hv3
  refine (C3.out _ Ev3.out).mono ?_; rintro r w3 ⟨A3, c3, rfl, hf3, hb3⟩
  have Y3 := zq (Chg.of_ex hb3)
  have s3 := Y3.out.size
  have Ew3 := zq (Ev3.out.chg Y3.out (by omega))
  clear hb3
  replace KX := zq (KX.out.chg Y3.out (by omega))
  replace KK := zq (KK.out.chg Y3.out (by omega))
  replace KR := zq (KR.out.chg Y3.out (by omega))
  replace KO := zq (KO.out.chg Y3.out (by omega))
  replace HFA := zq (HFA.out.chg Y3.out WHFA.out (by omega))
  replace HFB := zq (HFB.out.chg Y3.out WHFB.out (by omega))
  replace HFC := zq (HFC.out.chg Y3.out WHFC.out (by omega))
  replace HFD := zq (HFD.out.chg Y3.out WHFD.out (by omega))
  have HF3 := zq hf3; clear hf3
  have WHF3 := zq HF3.out.row
  obtain ⟨qX0, qX1, qX2, qX3, qX4, qX5, qX6, qX7, qX8⟩ := KX.out.c9
  have jX := KX.out.lt
  obtain ⟨qK0, qK1⟩ := KK.out.c2
  have jK := KK.out.lt
  obtain ⟨qR0, qR1, qR2, qR3, qR4, qR5, qR6, qR7, qR8⟩ := KR.out.c9
  have jR := KR.out.lt
  have zR := KR.out.frozen
  obtain ⟨qO0, qO1, qO2, qO3, qO4, qO5, qO6, qO7, qO8⟩ := KO.out.c9
  have jO := KO.out.lt
  have zO := KO.out.frozen
  have hne1 : ¬ w1.heap.size = w.heap.size + 1 + 1 := by omega
  have hne2 : ¬ w.heap.size + 1 + 1 = w1.heap.size := by omega
  have hne3 : ¬ w1.heap.size = w3.heap.size := by omega
  have hne4 : ¬ w3.heap.size = w1.heap.size := by omega
  go_wp2
  exact bodyPost_ret (v := .agg #[.slice (⟨a1.b, a1.bc, a1.f, a1.fc, A3, c3, a1.o, a1.oc⟩ : MA).b (⟨m.table, dc, m.tags, m.space⟩ : MachD).table.buckets.length (⟨a1.b, a1.bc, a1.f, a1.fc, A3, c3, a1.o, a1.oc⟩ : MA).bc, .slice (⟨a1.b, a1.bc, a1.f, a1.fc, A3, c3, a1.o, a1.oc⟩ : MA).f (⟨m.table, dc, m.tags, m.space⟩ : MachD).table.frames.length (⟨a1.b, a1.bc, a1.f, a1.fc, A3, c3, a1.o, a1.oc⟩ : MA).fc, .slice (⟨a1.b, a1.bc, a1.f, a1.fc, A3, c3, a1.o, a1.oc⟩ : MA).l (⟨m.table, dc, m.tags, m.space⟩ : MachD).cache.lines.length (⟨a1.b, a1.bc, a1.f, a1.fc, A3, c3, a1.o, a1.oc⟩ : MA).lc, .int .i64 (⟨m.table, dc, m.tags, m.space⟩ : MachD).cache.hand, .int .i64 (⟨m.table, dc, m.tags, m.space⟩ : MachD).tags.count, .int .i64 (⟨m.table, dc, m.tags, m.space⟩ : MachD).tags.next, .int .i64 (⟨m.table, dc, m.tags, m.space⟩ : MachD).tags.round, .slice (⟨a1.b, a1.bc, a1.f, a1.fc, A3, c3, a1.o, a1.oc⟩ : MA).o (⟨m.table, dc, m.tags, m.space⟩ : MachD).tags.owns.length (⟨a1.b, a1.bc, a1.f, a1.fc, A3, c3, a1.o, a1.oc⟩ : MA).oc, .int .i64 (⟨m.table, dc, m.tags, m.space⟩ : MachD).space]) (by simp [results, Tryz.results109, go_sem, *]) rfl
   ⟨⟨a1.b, a1.bc, a1.f, a1.fc, A3, c3, a1.o, a1.oc⟩, rfl, ⟨(Fr.mono (zp HFA.out WHFA.out) (by omega)), (Fr.mono (zp HFB.out WHFB.out) (by omega)), (Fr.mono (zp HF3.out WHF3.out) (by omega)), (Fr.mono (zp HFD.out WHFD.out) (by omega))⟩, (ze Ew3.out)⟩
end Go.Proofs.YtbdlpbladpppjaaGreatDoor
