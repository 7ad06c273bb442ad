/- Tags: what the laws of part P5 ask, as plain facts. No program in sight. -/
import Derived.Test.YtidnefcnojedoaaTp
namespace Go.Proofs.Ytidnefcnojedoaa
open Go.ChangeShapes Go.WideShapes Go.ChangeAt Go.RowKit
set_option linter.unusedVariables false

/-! ### How many spaces below s have a tag -/
def cntB : List OwnD → Int → Nat
  | [], _ => 0
  | x :: xs, s => (if x.space < s then 1 else 0) + cntB xs s
theorem cntB_step : ∀ (xs : List OwnD) (s : Int), xs.Pairwise (fun x y => x.space ≠ y.space) → cntB xs (s + 1) = cntB xs s + (xs.any (fun x => x.space == s)).toNat
  | [], s, _ => rfl
  | x :: xs, s, h => by
    have hp := List.pairwise_cons.1 h
    have ih := cntB_step xs s hp.2
    simp only [cntB, List.any_cons]
    by_cases e : x.space = s
    · have hn : xs.any (fun x => x.space == s) = false := by
        rw [List.any_eq_false]
        intro y hy
        have := hp.1 y hy
        simp; omega
      have e4 : (x.space == s) = true := by simp [e]
      rw [ih, hn, e4, Bool.true_or, Bool.toNat_true, Bool.toNat_false, if_pos (by omega), if_neg (by omega)]
      omega
    · have e2 : (x.space == s) = false := by simpa using e
      rw [ih, e2, Bool.false_or]
      by_cases h1 : x.space < s
      · rw [if_pos h1, if_pos (by omega)]; omega
      · rw [if_neg h1, if_neg (by omega)]; omega
theorem cntB_zero {xs : List OwnD} : (∀ x ∈ xs, 0 ≤ x.space) → cntB xs 0 = 0 := by
  induction xs with
  | nil => intro _; rfl
  | cons x xs ih =>
    intro h
    simp only [cntB]
    rw [if_neg (by have := h x (by simp); omega), ih (fun y hy => h y (by simp [hy]))]
theorem cntB_all {xs : List OwnD} {s : Int} : (∀ x ∈ xs, x.space < s) → cntB xs s = xs.length := by
  induction xs with
  | nil => intro _; rfl
  | cons x xs ih =>
    intro h
    simp only [cntB]
    rw [if_pos (h x (by simp)), ih (fun y hy => h y (by simp [hy])), List.length_cons]
    omega
theorem cntB_le (xs : List OwnD) (s : Int) : cntB xs s ≤ xs.length := by
  induction xs with
  | nil => exact Nat.le_refl _
  | cons x xs ih =>
    simp only [cntB, List.length_cons]
    split <;> omega

section
variable {t : TagsD} (hv : tagsV t = true)
include hv
theorem tv_pair : t.owns.Pairwise (fun x y => x.space ≠ y.space) := by
  rw [List.pairwise_iff_getElem]
  intro i j hi hj hij e
  have := (tv_lt hv (List.getElem?_eq_getElem hj) (List.getElem?_eq_getElem hi) hij).2
  exact this e
theorem tv_mem {x : OwnD} (h : x ∈ t.owns) : 0 ≤ x.tag ∧ x.tag < t.next ∧ 0 ≤ x.space ∧ x.space < 16 := by
  obtain ⟨i, hi, rfl⟩ := List.getElem_of_mem h
  exact tv_own hv (List.getElem?_eq_getElem hi)
theorem few_start : cntB t.owns 0 = 0 := cntB_zero fun x hx => (tv_mem hv hx).2.2.1
theorem few_end : cntB t.owns 16 = t.owns.length := cntB_all fun x hx => (tv_mem hv hx).2.2.2
/-- One round of the count. -/
theorem few_step (s : Int) : (tagOf t s = (0, false) ∧ cntB t.owns (s + 1) = cntB t.owns s) ∨ ∃ g, tagOf t s = (g, true) ∧ 0 ≤ g ∧ g < t.count ∧ cntB t.owns (s + 1) = cntB t.owns s + 1 := by
  rcases tagOf_or t s with ⟨h1, h2⟩ | ⟨k, x, _, hx, rfl, h1⟩
  · refine .inl ⟨h1, ?_⟩
    have hn : t.owns.any (fun x => x.space == s) = false := by
      rw [List.any_eq_false]
      intro y hy e
      obtain ⟨j, hj, rfl⟩ := List.getElem_of_mem hy
      exact h2 hv j _ (List.getElem?_eq_getElem hj) (by simpa using e)
    rw [cntB_step _ _ (tv_pair hv), hn, Bool.toNat_false]
    omega
  · have hb := tv_own hv hx
    have hh := (tv_head hv).2.2.2.1
    refine .inr ⟨x.tag, h1, hb.1, by omega, ?_⟩
    have hy : t.owns.any (fun y => y.space == x.space) = true := by
      rw [List.any_eq_true]
      exact ⟨x, List.mem_of_getElem? hx, by simp⟩
    rw [cntB_step _ _ (tv_pair hv), hy, Bool.toNat_true]
theorem few_count : (t.owns.length : Int) ≤ t.count := by
  have := (tv_few hv).1
  have := (tv_head hv).2.2.2.1
  omega
/-- A space has a tag exactly if the tag has the space. -/
theorem tag_space (g s : Int) : tagOf t s = (g, true) ↔ spaceOf t g = (s, true) := by
  constructor
  · intro h
    rcases tagOf_or t s with ⟨h1, _⟩ | ⟨k, x, _, hx, rfl, h1⟩
    · rw [h1] at h; cases h
    · rw [h1] at h
      injection h with h
      subst h
      exact spaceOf_of hv hx
  · intro h
    rcases spaceOf_or t g with ⟨h1, _⟩ | ⟨k, x, _, hx, rfl, h1⟩
    · rw [h1] at h; cases h
    · rw [h1] at h
      injection h with h
      subst h
      exact tagOf_of hv hx
end
theorem spaceOf_lo {t : TagsD} {g s : Int} (h : spaceOf t g = (s, true)) : tagsV t = true ∧ 0 ≤ s ∧ s < 16 := by
  rcases spaceOf_or t g with ⟨h1, _⟩ | ⟨k, x, hv, hx, rfl, h1⟩
  · rw [h1] at h; cases h
  · rw [h1] at h
    injection h with h
    subst h
    exact ⟨hv, (tv_own hv hx).2.2⟩
theorem spaceOf_bad {t : TagsD} {g s : Int} (h : spaceOf t g = (s, false)) : s = 0 := by
  rcases spaceOf_or t g with ⟨h1, _⟩ | ⟨k, x, hv, hx, rfl, h1⟩
  · rw [h1] at h; injection h with h; exact h.symm
  · rw [h1] at h; injection h with _ h; cases h

/-! ### Leaving one after the other -/
theorem leave_first {t : TagsD} (hv : tagsV t = true) {x : OwnD} {l : List OwnD} (h : t.owns = x :: l) : leaveTag t x.space = (⟨t.count, t.next, t.round, l⟩, true) := by
  have hx : t.owns[0]? = some x := by rw [h]; rfl
  unfold leaveTag
  rw [ownPlace_of hv hx, if_pos ⟨hv, by omega⟩]
  simp [h]
theorem leave_keeps {t u : TagsD} {s : Int} (h : leaveTag t s = (u, true)) : u.count = t.count ∧ u.next = t.next ∧ u.round = t.round ∧ tagsV u = true ∧ tagsV t = true := by
  have hv := leave_valid (t := t) (s := s) (by rw [h])
  rw [h] at hv
  rcases leaveTag_or t s with e | ⟨k, x, hv', hx, hs, hp, e⟩
  · rw [e] at h; cases h
  · rw [e] at h
    injection h with h
    subst h
    exact ⟨rfl, rfl, rfl, hv, hv'⟩
theorem tail_valid {c n r : Int} {x : OwnD} {l : List OwnD} (hv : tagsV ⟨c, n, r, x :: l⟩ = true) : tagsV ⟨c, n, r, l⟩ = true := by
  have := leave_valid (t := ⟨c, n, r, x :: l⟩) (s := x.space) (by rw [leave_first hv rfl])
  rwa [leave_first hv rfl] at this

/-! ### The laws on taking -/
/-- FnTagRange. -/
theorem range_law {t u : TagsD} {s g : Int} {fr : Bool} (h : takeTag t s = (u, g, fr, true)) : ((tagOf t s).2 = true → fr = false ∧ u.next = t.next) ∧ ((tagOf t s).2 = false → g = u.next - 1 ∧ ((fr = true ∧ g = 0) ∨ (fr = false ∧ g = t.next))) := by
  rcases takeTag_or t s with e | ⟨k, x, hv, hb, hx, hs, e⟩ | ⟨hv, hb, hf, hn, e⟩ | ⟨hv, hb, hf, hn, hr, e⟩
  · rw [e] at h; cases h
  · rw [e] at h; cases h
    have := tagOf_of hv hx
    rw [hs] at this
    rw [this]
    exact ⟨fun _ => ⟨rfl, rfl⟩, fun h => by cases h⟩
  · rw [e] at h; cases h
    rw [tagOf_none hf]
    exact ⟨fun h => by (try cases h), fun _ => ⟨by simp only; omega, .inr ⟨rfl, rfl⟩⟩⟩
  · rw [e] at h; cases h
    rw [tagOf_none hf]
    exact ⟨fun h => by (try cases h), fun _ => ⟨by simp only; omega, .inl ⟨rfl, rfl⟩⟩⟩
/-- FnTakeRound. -/
theorem round_law {t u : TagsD} {s g : Int} {fr : Bool} (h : takeTag t s = (u, g, fr, true)) : (∀ i, i ≠ s → (fr = true → (tagOf u i).2 = false) ∧ (fr = false → tagOf u i = tagOf t i)) ∧ (fr = true → u.round = t.round + 1) ∧ (fr = false → u.round = t.round) := by
  have hvu := take_valid (t := t) (s := s) (by rw [h])
  rw [h] at hvu
  rcases takeTag_or t s with e | ⟨k, x, hv, hb, hx, hs, e⟩ | ⟨hv, hb, hf, hn, e⟩ | ⟨hv, hb, hf, hn, hr, e⟩
  · rw [e] at h; cases h
  · rw [e] at h; cases h
    exact ⟨fun i _ => ⟨fun h => Bool.noConfusion h, fun _ => rfl⟩, fun h => Bool.noConfusion h, fun _ => rfl⟩
  · rw [e] at h; cases h
    refine ⟨fun i hi => ⟨fun h => Bool.noConfusion h, fun _ => ?_⟩, fun h => Bool.noConfusion h, fun _ => rfl⟩
    rcases tagOf_or t i with ⟨h1, h2⟩ | ⟨k, x, _, hx, rfl, h1⟩
    · rw [h1]
      refine tagOf_none fun j y hy => ?_
      rcases get_append_cases hy with hy | ⟨_, rfl⟩
      · exact h2 hv j y hy
      · exact fun e => hi e.symm
    · rw [h1]
      exact tagOf_of hvu (i := k) (x := x) (by simp only; rw [List.getElem?_append_left (getElem?_lt hx)]; exact hx)
  · rw [e] at h; cases h
    refine ⟨fun i hi => ⟨fun _ => ?_, fun h => Bool.noConfusion h⟩, fun _ => rfl, fun h => Bool.noConfusion h⟩
    rw [tagOf_none]
    intro j y hy
    simp only at hy
    have := getElem?_lt hy
    simp at this
    subst this
    simp at hy
    subst hy
    exact fun e => hi e.symm
/-- FnTakeTag. -/
theorem took_law {t u : TagsD} {s g : Int} {fr : Bool} (h : takeTag t s = (u, g, fr, true)) : tagsV u = true ∧ tagOf u s = (g, true) ∧ spaceOf u g = (s, true) ∧ takeTag u s = (u, g, false, true) := by
  have hv := take_valid (t := t) (s := s) (by rw [h])
  obtain ⟨k, x, hx, hs, hg⟩ := take_has (t := t) (s := s) (by rw [h])
  rw [h] at hv hx hg
  simp only at hv hx hg
  subst hs hg
  exact ⟨hv, tagOf_of hv hx, spaceOf_of hv hx, take_again hv hx⟩
theorem takeTags_eq {t : TagsD} {l : List Int} {u : TagsD} {r : Int} (h : takeTags t l = (u, r, true)) : tagsV t = true ∧ l.length ≤ 64 ∧ takeAll t 0 l = (u, r, true) ∧ tagsV u = true := by
  unfold takeTags at h
  split at h
  · rename_i hc
    have := takeAll_valid l t 0 hc.1 (by rw [h])
    rw [h] at this
    exact ⟨hc.1, hc.2, h, this⟩
  · cases h
/-- FnTakeSame. -/
theorem same_law {u : TagsD} (hv : tagsV u = true) : takeTags u (u.owns.map (·.space)) = (u, 0, true) := by
  unfold takeTags
  have hn := (tv_few hv).2
  rw [if_pos ⟨hv, by rw [List.length_map]; omega⟩]
  refine takeAll_same hv _ _ fun s hs => ?_
  obtain ⟨x, hx, rfl⟩ := List.mem_map.1 hs
  obtain ⟨i, hi, rfl⟩ := List.getElem_of_mem hx
  exact ⟨i, _, List.getElem?_eq_getElem hi, rfl⟩
/-- FnTakeTags. -/
theorem adds_law {t : TagsD} {l : List Int} {u : TagsD} {r : Int} (h : takeTags t l = (u, r, true)) (k : Nat) (hk : k ≤ l.length) : ∃ a m n, takeTags t (l.take k) = (a, m, true) ∧ takeTags a (l.drop k) = (u, n, true) ∧ m + n = r ∧ tagsV u = true ∧ u.round = t.round + r := by
  obtain ⟨hv, hl, ha, hvu⟩ := takeTags_eq h
  have hr := takeAll_round l t 0 (by rw [ha])
  rw [ha] at hr
  have e : l = l.take k ++ l.drop k := (List.take_append_drop k l).symm
  have hp := takeAll_prefix (l.take k) (l.drop k) t 0 (by rw [← e, ha])
  have hva := takeAll_valid (l.take k) t 0 hv hp
  have hap := takeAll_append (l.take k) (l.drop k) t 0 hp
  rw [← e, ha] at hap
  generalize hq : takeAll t 0 (l.take k) = q at hp hap hva
  obtain ⟨a, m, ok⟩ := q
  simp only at hp hap hva
  subst hp
  have hsh := takeAll_shift (l.drop k) a m (-m) (by rw [← hap])
  rw [← hap] at hsh
  refine ⟨a, m, r - m, ?_, ?_, by omega, hvu, by simp only at hr; omega⟩
  · unfold takeTags
    rw [if_pos ⟨hv, by rw [List.length_take]; omega⟩, hq]
  · unfold takeTags
    rw [if_pos ⟨hva, by rw [List.length_drop]; omega⟩, show (0 : Int) = m + -m by omega, hsh]
    simp only [Prod.mk.injEq, and_true, true_and]
    omega
/-- FnTakeLast. -/
theorem last_law {t : TagsD} {l : List Int} {u : TagsD} {r s : Int} (h : takeTags t l = (u, r, true)) (hs : l[l.length - 1]? = some s) : ∃ g, tagOf u s = (g, true) ∧ spaceOf u g = (s, true) ∧ r ≤ l.length := by
  obtain ⟨hv, hl, ha, hvu⟩ := takeTags_eq h
  have hr := takeAll_round l t 0 (by rw [ha])
  rw [ha] at hr
  have hlt := getElem?_lt hs
  have e : l = l.take (l.length - 1) ++ [s] := by
    have h1 := take_succ_of hs
    rw [show l.length - 1 + 1 = l.length by omega, List.take_length] at h1
    exact h1
  have hq := takeAll_last (l.take (l.length - 1)) s t 0 (by rw [← e, ha])
  rw [← e, ha] at hq
  obtain ⟨k, x, hx, rfl⟩ := hq
  exact ⟨x.tag, tagOf_of hvu hx, spaceOf_of hvu hx, by simp only at hr; omega⟩
/-- FnLeaveTag. -/
theorem left_law {t u : TagsD} {s : Int} (h : leaveTag t s = (u, true)) : ∃ o, tagOf t s = (o, true) ∧ tagOf u s = (0, false) ∧ u.next = t.next ∧ tagsV u = true ∧ ∀ x g fr, takeTag u s = (x, g, fr, true) → fr = true ∨ g ≠ o := by
  have hvu := (leave_keeps h).2.2.2.1
  rcases leaveTag_or t s with e | ⟨k, x, hv, hx, rfl, hp, e⟩
  · rw [e] at h; cases h
  rw [e] at h
  injection h with h
  subst h
  have hg := leave_gone hv hx
  refine ⟨x.tag, tagOf_of hv hx, tagOf_none hg, rfl, hvu, fun y g fr ht => ?_⟩
  have hb := (tv_own hv hx).2.1
  rcases takeTag_or _ x.space with e | ⟨k', x', hv', hb', hx', hs', e⟩ | ⟨hv', hb', hf, hn, e⟩ | ⟨hv', hb', hf, hn, hr, e⟩
  · rw [e] at ht; cases ht
  · exact absurd hs' (hg k' x' hx')
  · rw [e] at ht; cases ht
    right; simp only; omega
  · rw [e] at ht; cases ht
    exact .inl rfl
end Go.Proofs.Ytidnefcnojedoaa
