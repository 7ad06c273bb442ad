/- Tags as plain data: who has which tag, taking and leaving. No program in sight. -/
import Derived.Test.YtihlaecbdlgbiaaDoorTm
import Derived.Test.YtihlaecbdlgbiaaDoorTe
import Derived.Test.YtihlaecbdlgbiaaDoorFo
namespace Go.Proofs.YtihlaecbdlgbiaaDoor
open Go.ChangeShapes Go.WideShapes Go.ChangeAt Go.RowKit
set_option linter.unusedVariables false

def noOwn : OwnD := ⟨0, 0⟩
def ownPlace (xs : List OwnD) (s : Int) : Int := firstOf (fun x => x.space == s) xs
def tagPlace (xs : List OwnD) (g : Int) : Int := firstOf (fun x => x.tag == g) xs
def tagOf (t : TagsD) (s : Int) : Int × Bool := if tagsV t = true ∧ 0 ≤ ownPlace t.owns s then ((t.owns.getD (ownPlace t.owns s).toNat noOwn).tag, true) else (0, false)
def spaceOf (t : TagsD) (g : Int) : Int × Bool := if tagsV t = true ∧ 0 ≤ tagPlace t.owns g then ((t.owns.getD (tagPlace t.owns g).toNat noOwn).space, true) else (0, false)
def takeTag (t : TagsD) (s : Int) : TagsD × Int × Bool × Bool :=
  if tagsV t = true ∧ inB s 16 = true then
    if 0 ≤ ownPlace t.owns s then (t, (t.owns.getD (ownPlace t.owns s).toNat noOwn).tag, false, true)
    else if t.next = t.count then
      if t.round = 1000000 then (noTags, 0, false, false) else (⟨t.count, 1, t.round + 1, [⟨s, 0⟩]⟩, 0, true, true)
    else (⟨t.count, t.next + 1, t.round, t.owns ++ [⟨s, t.next⟩]⟩, t.next, false, true)
  else (noTags, 0, false, false)
def leaveTag (t : TagsD) (s : Int) : TagsD × Bool :=
  if tagsV t = true ∧ 0 ≤ ownPlace t.owns s then (⟨t.count, t.next, t.round, t.owns.take (ownPlace t.owns s).toNat ++ t.owns.drop ((ownPlace t.owns s).toNat + 1)⟩, true) else (noTags, false)
def takeAll : TagsD → Int → List Int → TagsD × Int × Bool
  | t, r, [] => (t, r, true)
  | t, r, s :: l => if (takeTag t s).2.2.2 then takeAll (takeTag t s).1 (if (takeTag t s).2.2.1 then r + 1 else r) l else (noTags, 0, false)
def takeTags (t : TagsD) (l : List Int) : TagsD × Int × Bool := if tagsV t = true ∧ l.length ≤ 64 then takeAll t 0 l else (noTags, 0, false)

/-! ### Valid tags -/
section
variable {t : TagsD} (hv : tagsV t = true)
include hv
theorem tv_head : TagsHead t := ((tagsV_iff t).1 hv).1
theorem tv_up : OwnsUp t t.owns.length := ((tagsV_iff t).1 hv).2
theorem tv_own {i : Nat} {x : OwnD} (hx : t.owns[i]? = some x) : 0 ≤ x.tag ∧ x.tag < t.next ∧ 0 ≤ x.space ∧ x.space < 16 := (tv_up hv i x (getElem?_lt hx) hx).1
theorem tv_lt {i j : Nat} {x y : OwnD} (hx : t.owns[i]? = some x) (hy : t.owns[j]? = some y) (h : j < i) : y.tag < x.tag ∧ y.space ≠ x.space := (tv_up hv i x (getElem?_lt hx) hx).2 j y h hy
theorem tv_few : (t.owns.length : Int) ≤ t.next ∧ t.owns.length ≤ 8 := by
  have h := tv_head hv
  have h1 := ownsUp_len (tv_up hv) h.2.2.1
  have h2 := h.2.1
  have h3 := h.2.2.2.1
  omega
theorem tv_space {i j : Nat} {x y : OwnD} (hx : t.owns[i]? = some x) (hy : t.owns[j]? = some y) (h : x.space = y.space) : i = j := by
  rcases Nat.lt_trichotomy i j with h1 | h1 | h1
  · exact absurd h (tv_lt hv hy hx h1).2
  · exact h1
  · exact absurd h.symm (tv_lt hv hx hy h1).2
theorem tv_tag {i j : Nat} {x y : OwnD} (hx : t.owns[i]? = some x) (hy : t.owns[j]? = some y) (h : x.tag = y.tag) : i = j := by
  rcases Nat.lt_trichotomy i j with h1 | h1 | h1
  · have := (tv_lt hv hy hx h1).1; omega
  · exact h1
  · have := (tv_lt hv hx hy h1).1; omega
theorem ownPlace_of {i : Nat} {x : OwnD} (hx : t.owns[i]? = some x) : ownPlace t.owns x.space = i :=
  firstOf_at hx (by simp) fun j y hj hy => by have := (tv_lt hv hx hy hj).2; simpa using this
theorem tagPlace_of {i : Nat} {x : OwnD} (hx : t.owns[i]? = some x) : tagPlace t.owns x.tag = i :=
  firstOf_at hx (by simp) fun j y hj hy => by have := (tv_lt hv hx hy hj).1; simp; omega
theorem tagOf_of {i : Nat} {x : OwnD} (hx : t.owns[i]? = some x) : tagOf t x.space = (x.tag, true) := by
  unfold tagOf
  rw [ownPlace_of hv hx, if_pos ⟨hv, by omega⟩, Int.toNat_natCast, own_getD hx]
theorem spaceOf_of {i : Nat} {x : OwnD} (hx : t.owns[i]? = some x) : spaceOf t x.tag = (x.space, true) := by
  unfold spaceOf
  rw [tagPlace_of hv hx, if_pos ⟨hv, by omega⟩, Int.toNat_natCast, own_getD hx]
end

theorem place_or (xs : List OwnD) (s : Int) : (ownPlace xs s = -1 ∧ ∀ (j : Nat) (y : OwnD), xs[j]? = some y → y.space ≠ s) ∨ ∃ (k : Nat) (x : OwnD), ownPlace xs s = k ∧ xs[k]? = some x ∧ x.space = s := by
  rcases firstOf_cases (fun x : OwnD => x.space == s) xs with ⟨h1, h2⟩ | ⟨k, x, h1, h2, h3, h4⟩
  · exact .inl ⟨h1, fun j y hy => by have := h2 j y hy; simpa using this⟩
  · exact .inr ⟨k, x, h1, h2, by simpa using h3⟩
theorem tplace_or (xs : List OwnD) (g : Int) : (tagPlace xs g = -1 ∧ ∀ (j : Nat) (y : OwnD), xs[j]? = some y → y.tag ≠ g) ∨ ∃ (k : Nat) (x : OwnD), tagPlace xs g = k ∧ xs[k]? = some x ∧ x.tag = g := by
  rcases firstOf_cases (fun x : OwnD => x.tag == g) xs with ⟨h1, h2⟩ | ⟨k, x, h1, h2, h3, h4⟩
  · exact .inl ⟨h1, fun j y hy => by have := h2 j y hy; simpa using this⟩
  · exact .inr ⟨k, x, h1, h2, by simpa using h3⟩
theorem tagOf_none {t : TagsD} {s : Int} (h : ∀ (j : Nat) (y : OwnD), t.owns[j]? = some y → y.space ≠ s) : tagOf t s = (0, false) := by
  unfold tagOf
  rcases place_or t.owns s with ⟨h1, _⟩ | ⟨k, x, _, h2, h3⟩
  · rw [if_neg (by rw [h1]; omega)]
  · exact absurd h3 (h k x h2)
theorem spaceOf_none {t : TagsD} {g : Int} (h : ∀ (j : Nat) (y : OwnD), t.owns[j]? = some y → y.tag ≠ g) : spaceOf t g = (0, false) := by
  unfold spaceOf
  rcases tplace_or t.owns g with ⟨h1, _⟩ | ⟨k, x, _, h2, h3⟩
  · rw [if_neg (by rw [h1]; omega)]
  · exact absurd h3 (h k x h2)
theorem tagOf_or (t : TagsD) (s : Int) : (tagOf t s = (0, false) ∧ (tagsV t = true → ∀ (j : Nat) (y : OwnD), t.owns[j]? = some y → y.space ≠ s)) ∨ ∃ (k : Nat) (x : OwnD), tagsV t = true ∧ t.owns[k]? = some x ∧ x.space = s ∧ tagOf t s = (x.tag, true) := by
  by_cases hv : tagsV t = true
  · rcases place_or t.owns s with ⟨_, h2⟩ | ⟨k, x, _, h2, h3⟩
    · exact .inl ⟨tagOf_none h2, fun _ => h2⟩
    · exact .inr ⟨k, x, hv, h2, h3, by rw [← h3]; exact tagOf_of hv h2⟩
  · exact .inl ⟨if_neg (fun h => hv h.1), fun h => absurd h hv⟩
theorem spaceOf_or (t : TagsD) (g : Int) : (spaceOf t g = (0, false) ∧ (tagsV t = true → ∀ (j : Nat) (y : OwnD), t.owns[j]? = some y → y.tag ≠ g)) ∨ ∃ (k : Nat) (x : OwnD), tagsV t = true ∧ t.owns[k]? = some x ∧ x.tag = g ∧ spaceOf t g = (x.space, true) := by
  by_cases hv : tagsV t = true
  · rcases tplace_or t.owns g with ⟨_, h2⟩ | ⟨k, x, _, h2, h3⟩
    · exact .inl ⟨spaceOf_none h2, fun _ => h2⟩
    · exact .inr ⟨k, x, hv, h2, h3, by rw [← h3]; exact spaceOf_of hv h2⟩
  · exact .inl ⟨if_neg (fun h => hv h.1), fun h => absurd h hv⟩

/-! ### Taking one tag -/
theorem takeTag_or (t : TagsD) (s : Int) :
    takeTag t s = (noTags, 0, false, false) ∨
    (∃ (k : Nat) (x : OwnD), tagsV t = true ∧ inB s 16 = true ∧ t.owns[k]? = some x ∧ x.space = s ∧ takeTag t s = (t, x.tag, false, true)) ∨
    (tagsV t = true ∧ inB s 16 = true ∧ (∀ (j : Nat) (y : OwnD), t.owns[j]? = some y → y.space ≠ s) ∧ t.next ≠ t.count ∧ takeTag t s = (⟨t.count, t.next + 1, t.round, t.owns ++ [⟨s, t.next⟩]⟩, t.next, false, true)) ∨
    (tagsV t = true ∧ inB s 16 = true ∧ (∀ (j : Nat) (y : OwnD), t.owns[j]? = some y → y.space ≠ s) ∧ t.next = t.count ∧ t.round ≠ 1000000 ∧ takeTag t s = (⟨t.count, 1, t.round + 1, [⟨s, 0⟩]⟩, 0, true, true)) := by
  unfold takeTag
  by_cases h : tagsV t = true ∧ inB s 16 = true
  · rw [if_pos h]
    rcases place_or t.owns s with ⟨h1, h2⟩ | ⟨k, x, h1, h2, h3⟩
    · rw [if_neg (by omega)]
      by_cases h4 : t.next = t.count
      · rw [if_pos h4]
        by_cases h5 : t.round = 1000000
        · rw [if_pos h5]; exact .inl rfl
        · rw [if_neg h5]; exact .inr (.inr (.inr ⟨h.1, h.2, h2, h4, h5, rfl⟩))
      · rw [if_neg h4]; exact .inr (.inr (.inl ⟨h.1, h.2, h2, h4, rfl⟩))
    · rw [if_pos (by omega)]
      exact .inr (.inl ⟨k, x, h.1, h.2, h2, h3, by rw [h1, Int.toNat_natCast, own_getD h2]⟩)
  · rw [if_neg h]; exact .inl rfl

theorem get_append_cases {α : Type} {xs : List α} {z x : α} {i : Nat} (h : (xs ++ [z])[i]? = some x) : xs[i]? = some x ∨ (i = xs.length ∧ x = z) := by
  by_cases hi : i < xs.length
  · rw [List.getElem?_append_left hi] at h; exact .inl h
  · rw [List.getElem?_append_right (by omega)] at h
    have h2 := getElem?_lt h
    simp at h2
    have e : i = xs.length := by omega
    subst e
    simp at h
    exact .inr ⟨rfl, h.symm⟩

theorem up_push {c n r s : Int} {xs : List OwnD} (h : OwnsUp ⟨c, n, r, xs⟩ xs.length) (hn : 0 ≤ n) (hs : inB s 16 = true) (hf : ∀ (j : Nat) (y : OwnD), xs[j]? = some y → y.space ≠ s) :
    OwnsUp ⟨c, n + 1, r, xs ++ [⟨s, n⟩]⟩ (xs ++ [(⟨s, n⟩ : OwnD)]).length := by
  intro i x hi hx
  simp only at hx
  rcases get_append_cases hx with hx' | ⟨rfl, rfl⟩
  · have h1 := h i x (getElem?_lt hx') hx'
    refine ⟨⟨h1.1.1, by have := h1.1.2.1; simp only at this ⊢; omega, h1.1.2.2⟩, fun j y hj hy => h1.2 j y hj ?_⟩
    simp only at hy
    rwa [List.getElem?_append_left (by have := getElem?_lt hx'; omega)] at hy
  · have hb := inB_true.1 hs
    refine ⟨⟨hn, by simp only; omega, hb.1, hb.2⟩, fun j y hj hy => ?_⟩
    simp only at hy
    rw [List.getElem?_append_left hj] at hy
    have := (h j y hj hy).1.2.1
    exact ⟨this, hf j y hy⟩

theorem take_valid {t : TagsD} {s : Int} (h : (takeTag t s).2.2.2 = true) : tagsV (takeTag t s).1 = true := by
  rcases takeTag_or t s with e | ⟨k, x, hv, hb, hx, hs, e⟩ | ⟨hv, hb, hf, hn, e⟩ | ⟨hv, hb, hf, hn, hr, e⟩
  · rw [e] at h; cases h
  · rw [e]; exact hv
  · rw [e]
    have hh := tv_head hv
    refine tagsV_end ⟨hh.1, hh.2.1, ?_, ?_, hh.2.2.2.2⟩ ?_
    · have := hh.2.2.1; simp only; omega
    · have := hh.2.2.2.1; simp only; omega
    · exact up_push (tv_up hv) hh.2.2.1 hb hf
  · rw [e]
    have hh := tv_head hv
    unfold TagsHead at hh
    refine tagsV_end ⟨hh.1, hh.2.1, by simp only; omega, by simp only; omega, by simp only; omega, by simp only; omega⟩ ?_
    have := up_push (c := t.count) (n := 0) (r := t.round + 1) (s := s) (xs := []) (ownsUp_zero _) (Int.le_refl _) hb (fun j y hy => by simp at hy)
    simpa using this
theorem noTags_owns : noTags.owns = [] := rfl
theorem takeTag_few (t : TagsD) (s : Int) (hn : t.owns.length ≤ 1048576) : (takeTag t s).1.owns.length ≤ 1048576 := by
  cases h : (takeTag t s).2.2.2
  · rcases takeTag_or t s with e | ⟨k, x, hv, hb, hx, hs, e⟩ | ⟨hv, hb, hf, hn, e⟩ | ⟨hv, hb, hf, hn, hr, e⟩
    · rw [e]; exact Nat.zero_le _
    all_goals rw [e] at h; cases h
  · have := (tv_few (take_valid h)).2
    omega
/-- Who has a tag takes it again. -/
theorem take_again {t : TagsD} (hv : tagsV t = true) {k : Nat} {x : OwnD} (hx : t.owns[k]? = some x) : takeTag t x.space = (t, x.tag, false, true) := by
  have hb := tv_own hv hx
  unfold takeTag
  rw [if_pos ⟨hv, inB_true.2 hb.2.2⟩, ownPlace_of hv hx, if_pos (by omega), Int.toNat_natCast, own_getD hx]

/-! ### Leaving -/
theorem leaveTag_or (t : TagsD) (s : Int) : leaveTag t s = (noTags, false) ∨ ∃ (k : Nat) (x : OwnD), tagsV t = true ∧ t.owns[k]? = some x ∧ x.space = s ∧ ownPlace t.owns s = k ∧ leaveTag t s = (⟨t.count, t.next, t.round, t.owns.take k ++ t.owns.drop (k + 1)⟩, true) := by
  unfold leaveTag
  by_cases h : tagsV t = true ∧ 0 ≤ ownPlace t.owns s
  · rw [if_pos h]
    rcases place_or t.owns s with ⟨h1, h2⟩ | ⟨k, x, h1, h2, h3⟩
    · omega
    · exact .inr ⟨k, x, h.1, h2, h3, h1, by rw [h1, Int.toNat_natCast]⟩
  · rw [if_neg h]; exact .inl rfl
theorem cut_get {α : Type} {xs : List α} {k i : Nat} {x : α} (h : (xs.take k ++ xs.drop (k + 1))[i]? = some x) (hk : k < xs.length) : (i < k ∧ xs[i]? = some x) ∨ (k ≤ i ∧ xs[i + 1]? = some x) := by
  by_cases hi : i < k
  · rw [List.getElem?_append_left (by rw [List.length_take]; omega), List.getElem?_take, if_pos hi] at h
    exact .inl ⟨hi, h⟩
  · rw [List.getElem?_append_right (by rw [List.length_take]; omega), List.length_take, List.getElem?_drop] at h
    rw [show k + 1 + (i - min k xs.length) = i + 1 by omega] at h
    exact .inr ⟨by omega, h⟩
theorem leave_valid {t : TagsD} {s : Int} (h : (leaveTag t s).2 = true) : tagsV (leaveTag t s).1 = true := by
  rcases leaveTag_or t s with e | ⟨k, x, hv, hx, hs, hp, e⟩
  · rw [e] at h; cases h
  · rw [e]
    have hk := getElem?_lt hx
    have hh : TagsHead t := tv_head hv
    refine tagsV_end hh ?_
    intro i z hi hz
    simp only at hz
    have key : ∃ i', t.owns[i']? = some z ∧ (i' = i ∧ i < k ∨ i' = i + 1 ∧ k ≤ i) := by
      rcases cut_get hz hk with ⟨h1, h2⟩ | ⟨h1, h2⟩
      · exact ⟨i, h2, .inl ⟨rfl, h1⟩⟩
      · exact ⟨i + 1, h2, .inr ⟨rfl, h1⟩⟩
    obtain ⟨i', hz', hi'⟩ := key
    refine ⟨tv_own hv hz', fun j y hj hy => ?_⟩
    simp only at hy
    rcases cut_get hy hk with ⟨h1, h2⟩ | ⟨h1, h2⟩
    · exact tv_lt hv hz' h2 (by omega)
    · exact tv_lt hv hz' h2 (by omega)
theorem leaveTag_few (t : TagsD) (s : Int) (hn : t.owns.length ≤ 1048576) : (leaveTag t s).1.owns.length ≤ 1048576 := by
  rcases leaveTag_or t s with e | ⟨k, x, hv, hx, hs, hp, e⟩
  · rw [e]; exact Nat.zero_le _
  · rw [e]; simp only [List.length_append, List.length_take, List.length_drop]; omega
theorem leave_gone {t : TagsD} {k : Nat} {x : OwnD} (hv : tagsV t = true) (hx : t.owns[k]? = some x) : ∀ (j : Nat) (y : OwnD), (t.owns.take k ++ t.owns.drop (k + 1))[j]? = some y → y.space ≠ x.space := by
  intro j y hy e
  rcases cut_get hy (getElem?_lt hx) with ⟨h1, h2⟩ | ⟨h1, h2⟩
  · have := tv_space hv h2 hx e; omega
  · have := tv_space hv h2 hx e; omega

/-! ### Taking one after the other -/
theorem takeAll_append (l1 l2 : List Int) : ∀ (t : TagsD) (r : Int), (takeAll t r l1).2.2 = true → takeAll t r (l1 ++ l2) = takeAll (takeAll t r l1).1 (takeAll t r l1).2.1 l2 := by
  induction l1 with
  | nil => intro t r _; rfl
  | cons s l ih =>
    intro t r h
    simp only [List.cons_append, takeAll] at h ⊢
    split
    · rename_i hk
      rw [if_pos hk] at h
      exact ih _ _ h
    · rename_i hk
      rw [if_neg hk] at h; cases h
theorem takeAll_prefix (l1 l2 : List Int) : ∀ (t : TagsD) (r : Int), (takeAll t r (l1 ++ l2)).2.2 = true → (takeAll t r l1).2.2 = true := by
  induction l1 with
  | nil => intro t r _; rfl
  | cons s l ih =>
    intro t r h
    simp only [List.cons_append, takeAll] at h ⊢
    split
    · rename_i hk
      rw [if_pos hk] at h
      exact ih _ _ h
    · rename_i hk
      rw [if_neg hk] at h; cases h
theorem takeAll_shift (l : List Int) : ∀ (t : TagsD) (r d : Int), (takeAll t r l).2.2 = true → takeAll t (r + d) l = ((takeAll t r l).1, (takeAll t r l).2.1 + d, true) := by
  induction l with
  | nil => intro t r d _; rfl
  | cons s l ih =>
    intro t r d h
    simp only [takeAll] at h ⊢
    split
    · rename_i hk
      rw [if_pos hk] at h
      cases hf : (takeTag t s).2.2.1
      · rw [hf] at h
        simp only [Bool.false_eq_true, if_false] at h ⊢
        exact ih _ _ d h
      · rw [hf] at h
        simp only [if_true] at h ⊢
        rw [← ih _ (r + 1) d h]
        congr 1
        omega
    · rename_i hk
      rw [if_neg hk] at h; cases h
theorem takeAll_valid (l : List Int) : ∀ (t : TagsD) (r : Int), tagsV t = true → (takeAll t r l).2.2 = true → tagsV (takeAll t r l).1 = true := by
  induction l with
  | nil => intro t r hv _; exact hv
  | cons s l ih =>
    intro t r hv h
    simp only [takeAll] at h ⊢
    split
    · rename_i hk
      rw [if_pos hk] at h
      exact ih _ _ (take_valid hk) h
    · rename_i hk
      rw [if_neg hk] at h; cases h
theorem take_round {t : TagsD} {s : Int} (h : (takeTag t s).2.2.2 = true) : (takeTag t s).1.round = t.round + (if (takeTag t s).2.2.1 then 1 else 0) := by
  rcases takeTag_or t s with e | ⟨k, x, hv, hb, hx, hs, e⟩ | ⟨hv, hb, hf, hn, e⟩ | ⟨hv, hb, hf, hn, hr, e⟩
  · rw [e] at h; cases h
  all_goals rw [e]; simp
theorem takeAll_round (l : List Int) : ∀ (t : TagsD) (r : Int), (takeAll t r l).2.2 = true → (takeAll t r l).1.round = t.round + ((takeAll t r l).2.1 - r) ∧ r ≤ (takeAll t r l).2.1 ∧ (takeAll t r l).2.1 ≤ r + l.length := by
  induction l with
  | nil => intro t r _; simp [takeAll]
  | cons s l ih =>
    intro t r h
    simp only [takeAll] at h ⊢
    split
    · rename_i hk
      rw [if_pos hk] at h
      obtain ⟨h1, h2, h3⟩ := ih _ _ h
      have h4 := take_round hk
      rw [h1, h4]
      simp only [List.length_cons]
      cases hf : (takeTag t s).2.2.1
      · rw [hf] at h2 h3
        simp only [Bool.false_eq_true, if_false] at h2 h3 ⊢
        omega
      · rw [hf] at h2 h3
        simp only [if_true] at h2 h3 ⊢
        omega
    · rename_i hk
      rw [if_neg hk] at h; cases h
theorem takeAll_few (l : List Int) (t : TagsD) (r : Int) (hv : tagsV t = true) : (takeAll t r l).1.owns.length ≤ 8 := by
  cases h : (takeAll t r l).2.2
  · have : ∀ (l : List Int) (t : TagsD) (r : Int), (takeAll t r l).2.2 = false → (takeAll t r l).1 = noTags := by
      intro l
      induction l with
      | nil => intro t r h; cases h
      | cons s l ih =>
        intro t r h
        simp only [takeAll] at h ⊢
        split
        · rename_i hk
          rw [if_pos hk] at h
          exact ih _ _ h
        · rfl
    rw [this l t r h]; exact Nat.zero_le _
  · exact (tv_few (takeAll_valid l t r hv h)).2
theorem takeTags_few (t : TagsD) (l : List Int) : (takeTags t l).1.owns.length ≤ 8 := by
  unfold takeTags
  split
  · rename_i h; exact takeAll_few l t 0 h.1
  · exact Nat.zero_le _
/-- What holds after a list has been taken: whoever came last has a tag. -/
theorem take_has {t : TagsD} {s : Int} (h : (takeTag t s).2.2.2 = true) : ∃ (k : Nat) (x : OwnD), (takeTag t s).1.owns[k]? = some x ∧ x.space = s ∧ x.tag = (takeTag t s).2.1 := by
  rcases takeTag_or t s with e | ⟨k, x, hv, hb, hx, hs, e⟩ | ⟨hv, hb, hf, hn, e⟩ | ⟨hv, hb, hf, hn, hr, e⟩
  · rw [e] at h; cases h
  · rw [e]; exact ⟨k, x, hx, hs, rfl⟩
  · rw [e]; exact ⟨t.owns.length, ⟨s, t.next⟩, by simp, rfl, rfl⟩
  · rw [e]; exact ⟨0, ⟨s, 0⟩, rfl, rfl, rfl⟩
theorem takeAll_last (l : List Int) (s : Int) (t : TagsD) (r : Int) (h : (takeAll t r (l ++ [s])).2.2 = true) : ∃ (k : Nat) (x : OwnD), (takeAll t r (l ++ [s])).1.owns[k]? = some x ∧ x.space = s := by
  have h1 := takeAll_prefix l [s] t r h
  rw [takeAll_append l [s] t r h1] at h ⊢
  simp only [takeAll] at h ⊢
  split
  · rename_i hk
    obtain ⟨k, x, hx, hs, _⟩ := take_has hk
    exact ⟨k, x, hx, hs⟩
  · rename_i hk
    rw [if_neg hk] at h; cases h
theorem takeAll_same {t : TagsD} (hv : tagsV t = true) (l : List Int) : ∀ (r : Int), (∀ s ∈ l, ∃ (k : Nat) (x : OwnD), t.owns[k]? = some x ∧ x.space = s) → takeAll t r l = (t, r, true) := by
  induction l with
  | nil => intro r _; rfl
  | cons s l ih =>
    intro r h
    obtain ⟨k, x, hx, rfl⟩ := h s (by simp)
    simp only [takeAll, take_again hv hx, if_true, Bool.false_eq_true, if_false]
    exact ih r (fun s hs => h s (by simp [hs]))
end Go.Proofs.YtihlaecbdlgbiaaDoor
