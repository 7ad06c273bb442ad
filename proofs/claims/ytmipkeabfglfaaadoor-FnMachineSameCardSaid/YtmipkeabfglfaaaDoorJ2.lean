/- Joined: Tp, Cl, Cc, Cv, Cw, Kg, Wp, Vk, Vc, Sc, Sk, Vs, Wf, Tv, Ts, To. -/
import Derived.Test.YtmipkeabfglfaaaDoorRows
import Derived.IntWalk
import Derived.Deep.RegionLaw
import Derived.Deep.RegionHeld3
import Derived.BigQuiet
import Derived.Test.YtmipkeabfglfaaaDoorJ1
/- Tags as plain data: who has which tag, taking and leaving. No program in sight. -/
namespace Go.Proofs.YtmipkeabfglfaaaDoor
open Go.ChangeShapes Go.WideShapes Go.ChangeAt Go.RowKit
set_option linter.unusedVariables false

def noOwn : OwnD := ⟨0, 0⟩
def ownPlace (xs : List OwnD) (s : Int) : Int := firstOf (fun x => x.space == s) xs
def tagPlace (xs : List OwnD) (g : Int) : Int := firstOf (fun x => x.tag == g) xs
def tagOf (t : TagsD) (s : Int) : Int × Bool := if tagsV t = true ∧ 0 ≤ ownPlace t.owns s then ((t.owns.getD (ownPlace t.owns s).toNat noOwn).tag, true) else (0, false)
def spaceOf (t : TagsD) (g : Int) : Int × Bool := if tagsV t = true ∧ 0 ≤ tagPlace t.owns g then ((t.owns.getD (tagPlace t.owns g).toNat noOwn).space, true) else (0, false)
def takeTag (t : TagsD) (s : Int) : TagsD × Int × Bool × Bool :=
  if tagsV t = true ∧ inB s 16 = true then
    if 0 ≤ ownPlace t.owns s then (t, (t.owns.getD (ownPlace t.owns s).toNat noOwn).tag, false, true)
    else if t.next = t.count then
      if t.round = 1000000 then (noTags, 0, false, false) else (⟨t.count, 1, t.round + 1, [⟨s, 0⟩]⟩, 0, true, true)
    else (⟨t.count, t.next + 1, t.round, t.owns ++ [⟨s, t.next⟩]⟩, t.next, false, true)
  else (noTags, 0, false, false)
/-! ### Valid tags -/
section
variable {t : TagsD} (hv : tagsV t = true)
include hv
theorem tv_head : TagsHead t := ((tagsV_iff t).1 hv).1
theorem tv_up : OwnsUp t t.owns.length := ((tagsV_iff t).1 hv).2
theorem tv_own {i : Nat} {x : OwnD} (hx : t.owns[i]? = some x) : 0 ≤ x.tag ∧ x.tag < t.next ∧ 0 ≤ x.space ∧ x.space < 16 := (tv_up hv i x (getElem?_lt hx) hx).1
theorem tv_lt {i j : Nat} {x y : OwnD} (hx : t.owns[i]? = some x) (hy : t.owns[j]? = some y) (h : j < i) : y.tag < x.tag ∧ y.space ≠ x.space := (tv_up hv i x (getElem?_lt hx) hx).2 j y h hy
theorem tv_few : (t.owns.length : Int) ≤ t.next ∧ t.owns.length ≤ 8 := by
  have h := tv_head hv
  have h1 := ownsUp_len (tv_up hv) h.2.2.1
  have h2 := h.2.1
  have h3 := h.2.2.2.1
  omega
theorem ownPlace_of {i : Nat} {x : OwnD} (hx : t.owns[i]? = some x) : ownPlace t.owns x.space = i :=
  firstOf_at hx (by simp) fun j y hj hy => by have := (tv_lt hv hx hy hj).2; simpa using this
theorem tagPlace_of {i : Nat} {x : OwnD} (hx : t.owns[i]? = some x) : tagPlace t.owns x.tag = i :=
  firstOf_at hx (by simp) fun j y hj hy => by have := (tv_lt hv hx hy hj).1; simp; omega
theorem tagOf_of {i : Nat} {x : OwnD} (hx : t.owns[i]? = some x) : tagOf t x.space = (x.tag, true) := by
  unfold tagOf
  rw [ownPlace_of hv hx, if_pos ⟨hv, by omega⟩, Int.toNat_natCast, own_getD hx]
theorem spaceOf_of {i : Nat} {x : OwnD} (hx : t.owns[i]? = some x) : spaceOf t x.tag = (x.space, true) := by
  unfold spaceOf
  rw [tagPlace_of hv hx, if_pos ⟨hv, by omega⟩, Int.toNat_natCast, own_getD hx]
end

theorem place_or (xs : List OwnD) (s : Int) : (ownPlace xs s = -1 ∧ ∀ (j : Nat) (y : OwnD), xs[j]? = some y → y.space ≠ s) ∨ ∃ (k : Nat) (x : OwnD), ownPlace xs s = k ∧ xs[k]? = some x ∧ x.space = s := by
  rcases firstOf_cases (fun x : OwnD => x.space == s) xs with ⟨h1, h2⟩ | ⟨k, x, h1, h2, h3, h4⟩
  · exact .inl ⟨h1, fun j y hy => by have := h2 j y hy; simpa using this⟩
  · exact .inr ⟨k, x, h1, h2, by simpa using h3⟩
theorem tplace_or (xs : List OwnD) (g : Int) : (tagPlace xs g = -1 ∧ ∀ (j : Nat) (y : OwnD), xs[j]? = some y → y.tag ≠ g) ∨ ∃ (k : Nat) (x : OwnD), tagPlace xs g = k ∧ xs[k]? = some x ∧ x.tag = g := by
  rcases firstOf_cases (fun x : OwnD => x.tag == g) xs with ⟨h1, h2⟩ | ⟨k, x, h1, h2, h3, h4⟩
  · exact .inl ⟨h1, fun j y hy => by have := h2 j y hy; simpa using this⟩
  · exact .inr ⟨k, x, h1, h2, by simpa using h3⟩
theorem spaceOf_none {t : TagsD} {g : Int} (h : ∀ (j : Nat) (y : OwnD), t.owns[j]? = some y → y.tag ≠ g) : spaceOf t g = (0, false) := by
  unfold spaceOf
  rcases tplace_or t.owns g with ⟨h1, _⟩ | ⟨k, x, _, h2, h3⟩
  · rw [if_neg (by rw [h1]; omega)]
  · exact absurd h3 (h k x h2)
theorem spaceOf_or (t : TagsD) (g : Int) : (spaceOf t g = (0, false) ∧ (tagsV t = true → ∀ (j : Nat) (y : OwnD), t.owns[j]? = some y → y.tag ≠ g)) ∨ ∃ (k : Nat) (x : OwnD), tagsV t = true ∧ t.owns[k]? = some x ∧ x.tag = g ∧ spaceOf t g = (x.space, true) := by
  by_cases hv : tagsV t = true
  · rcases tplace_or t.owns g with ⟨_, h2⟩ | ⟨k, x, _, h2, h3⟩
    · exact .inl ⟨spaceOf_none h2, fun _ => h2⟩
    · exact .inr ⟨k, x, hv, h2, h3, by rw [← h3]; exact spaceOf_of hv h2⟩
  · exact .inl ⟨if_neg (fun h => hv h.1), fun h => absurd h hv⟩

/-! ### Taking one tag -/
theorem takeTag_or (t : TagsD) (s : Int) :
    takeTag t s = (noTags, 0, false, false) ∨
    (∃ (k : Nat) (x : OwnD), tagsV t = true ∧ inB s 16 = true ∧ t.owns[k]? = some x ∧ x.space = s ∧ takeTag t s = (t, x.tag, false, true)) ∨
    (tagsV t = true ∧ inB s 16 = true ∧ (∀ (j : Nat) (y : OwnD), t.owns[j]? = some y → y.space ≠ s) ∧ t.next ≠ t.count ∧ takeTag t s = (⟨t.count, t.next + 1, t.round, t.owns ++ [⟨s, t.next⟩]⟩, t.next, false, true)) ∨
    (tagsV t = true ∧ inB s 16 = true ∧ (∀ (j : Nat) (y : OwnD), t.owns[j]? = some y → y.space ≠ s) ∧ t.next = t.count ∧ t.round ≠ 1000000 ∧ takeTag t s = (⟨t.count, 1, t.round + 1, [⟨s, 0⟩]⟩, 0, true, true)) := by
  unfold takeTag
  by_cases h : tagsV t = true ∧ inB s 16 = true
  · rw [if_pos h]
    rcases place_or t.owns s with ⟨h1, h2⟩ | ⟨k, x, h1, h2, h3⟩
    · rw [if_neg (by omega)]
      by_cases h4 : t.next = t.count
      · rw [if_pos h4]
        by_cases h5 : t.round = 1000000
        · rw [if_pos h5]; exact .inl rfl
        · rw [if_neg h5]; exact .inr (.inr (.inr ⟨h.1, h.2, h2, h4, h5, rfl⟩))
      · rw [if_neg h4]; exact .inr (.inr (.inl ⟨h.1, h.2, h2, h4, rfl⟩))
    · rw [if_pos (by omega)]
      exact .inr (.inl ⟨k, x, h.1, h.2, h2, h3, by rw [h1, Int.toNat_natCast, own_getD h2]⟩)
  · rw [if_neg h]; exact .inl rfl

theorem get_append_cases {α : Type} {xs : List α} {z x : α} {i : Nat} (h : (xs ++ [z])[i]? = some x) : xs[i]? = some x ∨ (i = xs.length ∧ x = z) := by
  by_cases hi : i < xs.length
  · rw [List.getElem?_append_left hi] at h; exact .inl h
  · rw [List.getElem?_append_right (by omega)] at h
    have h2 := getElem?_lt h
    simp at h2
    have e : i = xs.length := by omega
    subst e
    simp at h
    exact .inr ⟨rfl, h.symm⟩

theorem up_push {c n r s : Int} {xs : List OwnD} (h : OwnsUp ⟨c, n, r, xs⟩ xs.length) (hn : 0 ≤ n) (hs : inB s 16 = true) (hf : ∀ (j : Nat) (y : OwnD), xs[j]? = some y → y.space ≠ s) :
    OwnsUp ⟨c, n + 1, r, xs ++ [⟨s, n⟩]⟩ (xs ++ [(⟨s, n⟩ : OwnD)]).length := by
  intro i x hi hx
  simp only at hx
  rcases get_append_cases hx with hx' | ⟨rfl, rfl⟩
  · have h1 := h i x (getElem?_lt hx') hx'
    refine ⟨⟨h1.1.1, by have := h1.1.2.1; simp only at this ⊢; omega, h1.1.2.2⟩, fun j y hj hy => h1.2 j y hj ?_⟩
    simp only at hy
    rwa [List.getElem?_append_left (by have := getElem?_lt hx'; omega)] at hy
  · have hb := inB_true.1 hs
    refine ⟨⟨hn, by simp only; omega, hb.1, hb.2⟩, fun j y hj hy => ?_⟩
    simp only at hy
    rw [List.getElem?_append_left hj] at hy
    have := (h j y hj hy).1.2.1
    exact ⟨this, hf j y hy⟩

theorem take_valid {t : TagsD} {s : Int} (h : (takeTag t s).2.2.2 = true) : tagsV (takeTag t s).1 = true := by
  rcases takeTag_or t s with e | ⟨k, x, hv, hb, hx, hs, e⟩ | ⟨hv, hb, hf, hn, e⟩ | ⟨hv, hb, hf, hn, hr, e⟩
  · rw [e] at h; cases h
  · rw [e]; exact hv
  · rw [e]
    have hh := tv_head hv
    refine tagsV_end ⟨hh.1, hh.2.1, ?_, ?_, hh.2.2.2.2⟩ ?_
    · have := hh.2.2.1; simp only; omega
    · have := hh.2.2.2.1; simp only; omega
    · exact up_push (tv_up hv) hh.2.2.1 hb hf
  · rw [e]
    have hh := tv_head hv
    unfold TagsHead at hh
    refine tagsV_end ⟨hh.1, hh.2.1, by simp only; omega, by simp only; omega, by simp only; omega, by simp only; omega⟩ ?_
    have := up_push (c := t.count) (n := 0) (r := t.round + 1) (s := s) (xs := []) (ownsUp_zero _) (Int.le_refl _) hb (fun j y hy => by simp at hy)
    simpa using this
/-- Who has a tag takes it again. -/
theorem take_again {t : TagsD} (hv : tagsV t = true) {k : Nat} {x : OwnD} (hx : t.owns[k]? = some x) : takeTag t x.space = (t, x.tag, false, true) := by
  have hb := tv_own hv hx
  unfold takeTag
  rw [if_pos ⟨hv, inB_true.2 hb.2.2⟩, ownPlace_of hv hx, if_pos (by omega), Int.toNat_natCast, own_getD hx]

/-! ### Leaving -/
/-! ### Taking one after the other -/
end Go.Proofs.YtmipkeabfglfaaaDoor
/- Contracts of the small functions over Line: comparing, copying, counting, marking. Written by a program of mine from one pattern. -/
namespace Go.Proofs.YtmipkeabfglfaaaDoor
open Go.ChangeShapes Go.WideShapes Go.ChangeAt Go.RowKit
open Rec (sz cs)
set_option linter.unusedVariables false
set_option maxRecDepth 100000

theorem fieldsLine : Tryd.prog.underlying 51 = some (.struct (Tryd.prog.fieldsOf 51)) := by kernel_rfl
theorem heldLine_ : Tryd.prog.stoodInHeld 51 = false := by kernel_rfl
theorem guardLine : Tryd.prog.eqGuardType Tryd.prog.depth 51 = false := by kernel_rfl
theorem eqIn_line (x y : LineD) (w : World) : (Op.equalIn 10000 51 (.agg #[.bool x.valid, .int .i64 x.tag, .int .i64 x.page, .int .i64 x.frame, .int .i64 x.rights, .bool x.wired]) (.agg #[.bool y.valid, .int .i64 y.tag, .int .i64 y.page, .int .i64 y.frame, .int .i64 y.rights, .bool y.wired])).run Tryd.prog w = .ok (eqB x y) w := by
  obtain ⟨a1, b1, c1, d1, e1, f1⟩ := x
  obtain ⟨a2, b2, c2, d2, e2, f2⟩ := y
  rw [run_equalIn_agg w 9999 _ _ _ fieldsLine heldLine_]
  simp [go_sem, Tryd.underlying51]
  by_cases k0 : a1 = a2 <;> by_cases k1 : b1 = b2 <;> by_cases k2 : c1 = c2 <;> by_cases k3 : d1 = d2 <;> by_cases k4 : e1 = e2 <;> by_cases k5 : f1 = f2 <;> simp [eqB, *]
theorem neq_line (x y : LineD) (w : World) : (binOp .neq 51 (.agg #[.bool x.valid, .int .i64 x.tag, .int .i64 x.page, .int .i64 x.frame, .int .i64 x.rights, .bool x.wired]) (.agg #[.bool y.valid, .int .i64 y.tag, .int .i64 y.page, .int .i64 y.frame, .int .i64 y.rights, .bool y.wired])).run Tryd.prog w = .ok (.bool (!eqB x y)) w := by
  rw [run_neq_struct, eqIn_line]; rfl
theorem eql_line (x y : LineD) (w : World) : (binOp .eql 51 (.agg #[.bool x.valid, .int .i64 x.tag, .int .i64 x.page, .int .i64 x.frame, .int .i64 x.rights, .bool x.wired]) (.agg #[.bool y.valid, .int .i64 y.tag, .int .i64 y.page, .int .i64 y.frame, .int .i64 y.rights, .bool y.wired])).run Tryd.prog w = .ok (.bool (eqB x y)) w := by
  rw [run_eql_struct, eqIn_line]; rfl

set_option maxHeartbeats 1000000 in
theorem equalLine_c (A B : Option Addr) (c d : Nat) (xs ys : List LineD) (w : World) (hx : Rd w A xs) (hy : Rd w B ys) (hn : xs.length ≤ 1048576) (hm : ys.length ≤ 1048576) :
   Calls Tryd.prog 67 #[.slice A xs.length c, .slice B ys.length d] w
   fun r w' => r = .returned (.bool (eqB xs ys)) ∧ Ex w w' := by
  by_cases hl : xs.length = ys.length
  · obtain ⟨n, hn1⟩ : ∃ n, n = xs.length := ⟨_, rfl⟩
    obtain ⟨m, hm1⟩ : ∃ m, m = ys.length := ⟨_, rfl⟩
    rw [← hn1, ← hm1]
    obtain rfl : n = m := by omega
    have hn' : n ≤ 1048576 := by omega
    have HX := Lib.hid hn1
    have HY := Lib.hid hm1
    have H1 := Lib.hid hx
    have H2 := Lib.hid hy
    clear hn hm hn1 hm1 hx hy hl
    go_enter Tryd.func67, Tryd.ntmps67
    go_wp2
    go_loopw [13] (fun i wr => ∃ k : Nat, k ≤ n ∧ i = .int .i64 k ∧ Ex w wr ∧ xs.take k = ys.take k) (fun i _ => n - (intOf i).toNat)
    case atStart => exact ⟨0, Nat.zero_le _, rfl, Ex.refl _, rfl⟩
    case round =>
      obtain ⟨k, hk, rfl, hbel, htk⟩ := hrel
      have HT := Lib.hid htk
      clear htk
      by_cases hlt : k < n
      · obtain ⟨b1, o1, x, rfl, hb1, hxk, h0, h1, h2, h3, h4, h5⟩ := Rd.line (H1.out.ex hbel) (k := k) (by have := HX.out; omega)
        obtain ⟨b2, o2, y, rfl, hb2, hyk, g0, g1, g2, g3, g4, g5⟩ := Rd.line (H2.out.ex hbel) (k := k) (by have := HY.out; omega)
        have HXK := Lib.hid hxk
        have HYK := Lib.hid hyk
        clear hxk hyk
        have hneq := neq_line x y
        have hgd := guardLine
        cases hxy : eqB x y
        · have hne : x ≠ y := eqB_false.1 hxy
          go_wp2_with fail
          go_quiet (fail)
          clear hneq hgd
          go_wp2
          go_ret
          exact ⟨ret_bool (by rw [eq_comm, eqB_false]; exact ne_of_elem HXK.out HYK.out hne), hbel.drewN _⟩
        · have HE := Lib.hid (eqB_true.1 hxy)
          go_wp2_with fail
          go_quiet (fail)
          clear hneq hgd
          go_wp2
          go_roundw
          case rel => exact ⟨k + 1, by omega, by go_num, hbel.drewN _, (take_eq_step HXK.out HYK.out).2 ⟨HT.out, HE.out⟩⟩
          case measure => simp [intOf]; omega
      · go_wp2
        go_ret
        exact ⟨ret_bool (by rw [eq_comm, eqB_true]; exact eq_of_take HX.out.symm HY.out.symm (by rw [show n = k from by omega]; exact HT.out)), hbel⟩
  · have hne : ((xs.length : Int) != (ys.length : Int)) = true := by simp; omega
    go_enter Tryd.func67, Tryd.ntmps67
    go_wp2
    go_ret
    exact ⟨ret_bool (by rw [eq_comm, eqB_false]; intro h; exact hl (by rw [h])), Ex.refl _⟩

theorem infoLine : (Tryd.prog.info? 51).map (fun i => (i.zero, i.size, i.bytes)) = some (some (.agg #[.bool false, .int .i64 0, .int .i64 0, .int .i64 0, .int .i64 0, .bool false]), 6, 48) := by kernel_rfl

end Go.Proofs.YtmipkeabfglfaaaDoor
/- Contracts over whole caches: comparing, copying, counting, marking, making. -/
namespace Go.Proofs.YtmipkeabfglfaaaDoor
open Go.ChangeShapes Go.WideShapes Go.ChangeAt Go.RowKit
open Rec (sz cs)
set_option linter.unusedVariables false
set_option maxRecDepth 100000

theorem cache_eq (x y : CacheD) : x = y ↔ x.lines = y.lines ∧ x.hand = y.hand := by
  cases x; cases y; simp

set_option maxHeartbeats 400000 in
theorem cacheSameI_c (x y : CacheD) (A B : Option Addr) (c d : Nat) (w : World) (hx : Rd w A x.lines) (hy : Rd w B y.lines) (hn : x.lines.length ≤ 1048576) (hm : y.lines.length ≤ 1048576) :
    Calls Tryd.prog 24 #[.agg #[.slice A x.lines.length c, .int .i64 x.hand], .agg #[.slice B y.lines.length d, .int .i64 y.hand]] w fun r w' => r = .returned (.bool (eqB x y)) ∧ Ex w w' := by
  have HE := Lib.hid (cache_eq x y)
  obtain ⟨xs, a1⟩ := x
  obtain ⟨ys, a2⟩ := y
  simp only at HE hx hy hn hm ⊢
  have H1 := Lib.hid hx
  have H2 := Lib.hid hy
  have H3 := Lib.hid hn
  have H4 := Lib.hid hm
  clear hx hy hn hm
  cases h1 : (a1 == a2)
  · go_enter Tryd.func24, Tryd.ntmps24
    go_wp2
    go_ret
    exact ⟨ret_bool (by rw [eq_comm, eqB_false, Ne, HE.out]; simp_all), ((Ex.refl _).alloc _).alloc _⟩
  have e : eqB (⟨xs, a1⟩ : CacheD) ⟨ys, a2⟩ = eqB xs ys := by
    rw [Bool.eq_iff_iff, eqB_true, eqB_true, HE.out]; simp_all
  rw [e]
  clear e HE
  go_enter Tryd.func24, Tryd.ntmps24
  go_wp2_with (go_at_call 67; go_must (refine (equalLine_c A B c d xs ys _ ((H1.out.alloc _).alloc _) ((H2.out.alloc _).alloc _) H3.out H4.out).mono ?_); rintro r w2 ⟨rfl, hb⟩; have HEX := Lib.hid (((Ex.refl w).alloc _).alloc _ |>.trans hb); clear hb)
  go_ret
  exact ⟨rfl, HEX.out⟩

set_option maxHeartbeats 1000000 in
theorem cacheSameS_c (x y : CacheD) (A B : Option Addr) (c d : Nat) (w : World) (hx : Rd w A x.lines) (hy : Rd w B y.lines) (hn : x.lines.length ≤ 1048576) (hm : y.lines.length ≤ 1048576) :
    Calls Tryd.prog 27 #[.agg #[.slice A x.lines.length c, .int .i64 x.hand], .agg #[.slice B y.lines.length d, .int .i64 y.hand]] w fun r w' => r = .returned (.bool (eqB x y)) ∧ Ex w w' := by
  have HE := Lib.hid (cache_eq x y)
  obtain ⟨xs, a1⟩ := x
  obtain ⟨ys, a2⟩ := y
  simp only at HE hx hy hn hm ⊢
  cases h4 : ((xs.length : Int) != (ys.length : Int))
  rotate_left
  · go_enter Tryd.func27, Tryd.ntmps27
    go_wp2
    go_ret
    exact ⟨ret_bool (by rw [eq_comm, eqB_false, Ne, HE.out]; intro hh; rw [hh.1] at h4; simp at h4), ((Ex.refl _).alloc _).alloc _⟩
  cases h1 : (a1 != a2)
  rotate_left
  · go_enter Tryd.func27, Tryd.ntmps27
    go_wp2
    go_ret
    exact ⟨ret_bool (by rw [eq_comm, eqB_false, Ne, HE.out]; simp_all), ((Ex.refl _).alloc _).alloc _⟩
  have e : eqB (⟨xs, a1⟩ : CacheD) ⟨ys, a2⟩ = eqB xs ys := by
    rw [Bool.eq_iff_iff, eqB_true, eqB_true, HE.out]; simp_all
  rw [e]
  clear e HE
  have hl : xs.length = ys.length := by simp at h4; omega
  clear h4
  obtain ⟨n, hn1⟩ : ∃ n, n = xs.length := ⟨_, rfl⟩
  obtain ⟨m, hm1⟩ : ∃ m, m = ys.length := ⟨_, rfl⟩
  rw [← hn1, ← hm1]
  obtain rfl : n = m := by omega
  have hn' : n ≤ 1048576 := by omega
  have HX := Lib.hid hn1
  have HY := Lib.hid hm1
  have H1 := Lib.hid hx
  have H2 := Lib.hid hy
  clear hn hm hn1 hm1 hx hy hl
  go_enter Tryd.func27, Tryd.ntmps27
  go_wp2
  clear h1
  go_loopw [5] (fun i wr => ∃ k : Nat, k ≤ n ∧ i = .int .i64 k ∧ Ex ((w.alloc (.cells #[.slice A n c, .int .i64 a1] 29)).alloc (.cells #[.slice B n d, .int .i64 a2] 29)) wr ∧ xs.take k = ys.take k) (fun i _ => n - (intOf i).toNat)
  case atStart => exact ⟨0, Nat.zero_le _, rfl, Ex.refl _, rfl⟩
  case round =>
    obtain ⟨k, hk, rfl, hbel, htk⟩ := hrel
    obtain ⟨hbc, hbf⟩ := ex_rules hbel
    have HT := Lib.hid htk
    have HBEL := Lib.hid hbel
    clear htk hbel hbf
    by_cases hlt : k < n
    · obtain ⟨b1, o1, x, rfl, hb1, hxk, h0, h1, h2, h3, h4, h5⟩ := Rd.line (((H1.out.alloc _).alloc _).ex HBEL.out) (k := k) (by have := HX.out; omega)
      obtain ⟨b2, o2, y, rfl, hb2, hyk, g0, g1, g2, g3, g4, g5⟩ := Rd.line (((H2.out.alloc _).alloc _).ex HBEL.out) (k := k) (by have := HY.out; omega)
      have HXK := Lib.hid hxk
      have HYK := Lib.hid hyk
      clear hxk hyk
      have hneq := neq_line x y
      have hgd := guardLine
      cases hxy : eqB x y
      · have hne : x ≠ y := eqB_false.1 hxy
        go_wp2_with fail
        go_quiet (fail)
        clear hneq hgd
        go_wp2
        go_ret
        exact ⟨ret_bool (by rw [eq_comm, eqB_false]; exact ne_of_elem HXK.out HYK.out hne), ((((Ex.refl _).alloc _).alloc _).trans HBEL.out).drewN _⟩
      · have HE := Lib.hid (eqB_true.1 hxy)
        go_wp2_with fail
        go_quiet (fail)
        clear hneq hgd
        go_wp2
        go_roundw
        case rel => exact ⟨k + 1, by omega, by go_num, HBEL.out.drewN _, (take_eq_step HXK.out HYK.out).2 ⟨HT.out, HE.out⟩⟩
        case measure => simp [intOf]; omega
    · go_wp2
      go_ret
      exact ⟨ret_bool (by rw [eq_comm, eqB_true]; exact eq_of_take HX.out.symm HY.out.symm (by rw [show n = k from by omega]; exact HT.out)), (((Ex.refl _).alloc _).alloc _).trans HBEL.out⟩

def noCache : CacheD := ⟨[], 0⟩
def noLine : LineD := ⟨false, 0, 0, 0, 0, false⟩
def newCache (n : Int) : CacheD × Bool := if 1 ≤ n ∧ n ≤ 8 then (⟨List.replicate n.toNat noLine, 0⟩, true) else (noCache, false)
set_option maxHeartbeats 400000 in
theorem newCacheS_c (n : Int) (w : World) : Calls Tryd.prog 96 #[.int .i64 n] w
    fun r w' => ∃ A c, r = .returned (.tuple #[.agg #[.slice A (newCache n).1.lines.length c, .int .i64 (newCache n).1.hand], .bool (newCache n).2]) ∧ Fr 51 w' w.heap.size A c (newCache n).1.lines ∧ Ex w w' := by
  by_cases h1 : 1 ≤ n
  · by_cases h2 : n ≤ 8
    · have e : newCache n = (⟨List.replicate n.toNat noLine, 0⟩, true) := if_pos ⟨h1, h2⟩
      rw [e]
      clear e
      obtain ⟨m, rfl⟩ := Int.eq_ofNat_of_zero_le (show 0 ≤ n by omega)
      simp only [Int.toNat_natCast, List.length_replicate]
      have hmk := make_rec (P := Tryd.prog) (α := LineD) 27 51 48 noLine _ Tryd.underlying27 infoLine rfl m (by omega) (by omega)
      go_enter Tryd.func96, Tryd.ntmps96
      go_wp2
      exact bodyPost_ret (v := .tuple #[.agg #[.slice (some ⟨w.heap.size + 1, 0, none⟩) m m, .int .i64 0], .bool true]) (by simp [results, Tryd.results96, go_sem]) rfl
        ⟨_, _, rfl, ⟨by simp, by simp only [maxLen]; omega, .inr ⟨_, [], rfl, by simp, by have := Bk.new (α := LineD) (w.alloc (.cells #[.slice (some ⟨w.heap.size + 1, 0, none⟩) m m, .int .i64 0] 29)) 51 (List.replicate m noLine); simpa using this, by simp⟩⟩, ((Ex.refl _).alloc _).alloc _⟩
    · have e : newCache n = (noCache, false) := if_neg (fun h => h2 h.2)
      rw [e]
      clear e
      have h3 : 8 < n := by omega
      go_enter Tryd.func96, Tryd.ntmps96
      go_wp2
      exact bodyPost_ret (v := .tuple #[.agg #[.slice none 0 0, .int .i64 0], .bool false]) (by simp [results, Tryd.results96, go_sem]) rfl
        ⟨none, 0, rfl, Fr.none_ _ _ _ _, (Ex.refl _).alloc _⟩
  · have e : newCache n = (noCache, false) := if_neg (fun h => h1 h.1)
    rw [e]
    clear e
    have h3 : n < 1 := by omega
    go_enter Tryd.func96, Tryd.ntmps96
    go_wp2
    exact bodyPost_ret (v := .tuple #[.agg #[.slice none 0 0, .int .i64 0], .bool false]) (by simp [results, Tryd.results96, go_sem]) rfl
      ⟨none, 0, rfl, Fr.none_ _ _ _ _, (Ex.refl _).alloc _⟩
end Go.Proofs.YtmipkeabfglfaaaDoor
/- When is a cache valid: the plain functions, and the contracts of CacheValid and what it calls, the program's and the reference's. -/
namespace Go.Proofs.YtmipkeabfglfaaaDoor
open Go.ChangeShapes Go.WideShapes Go.ChangeAt Go.RowKit
open Rec (sz cs)
set_option linter.unusedVariables false
set_option maxRecDepth 100000

def tagB (t : Int) : Bool := decide (-1 ≤ t ∧ t < 8)
def lineV (x : LineD) : Bool := if x.valid then tagB x.tag && (inB x.page 256 && (inB x.frame 16 && inB x.rights 8)) else eqB x noLine
def clashB (x y : LineD) : Bool := x.valid && (y.valid && ((x.page == y.page) && ((x.tag == y.tag) || ((x.tag == -1) || (y.tag == -1)))))

set_option maxHeartbeats 400000 in
theorem tagValid_c (t : Int) (w : World) : Calls Tryd.prog 111 #[.int .i64 t] w fun r w' => r = .returned (.bool (tagB t)) ∧ w = w' := by
  by_cases h0 : -1 ≤ t
  · go_enter Tryd.func111, Tryd.ntmps111
    go_wp2
    go_ret
    exact ⟨ret_bool (by unfold tagB; simp [h0]), rfl⟩
  · have h1 : t < -1 := by omega
    go_enter Tryd.func111, Tryd.ntmps111
    go_wp2
    go_ret
    exact ⟨ret_bool (by unfold tagB; simp; omega), rfl⟩

set_option maxHeartbeats 400000 in
theorem l4Tag_c (t : Int) (w : World) : Calls Tryd.prog 139 #[.int .i64 t] w fun r w' => r = .returned (.bool (tagB t)) ∧ w = w' := by
  by_cases h0 : -1 ≤ t
  · go_enter Tryd.func139, Tryd.ntmps139
    go_wp2
    go_ret
    exact ⟨ret_bool (by unfold tagB; simp [h0]), rfl⟩
  · have h1 : t < -1 := by omega
    go_enter Tryd.func139, Tryd.ntmps139
    go_wp2
    go_ret
    exact ⟨ret_bool (by unfold tagB; simp; omega), rfl⟩

set_option maxHeartbeats 400000 in
theorem l1Page_c (n : Int) (w : World) : Calls Tryd.prog 101 #[.int .i64 n] w fun r w' => r = .returned (.bool (inB n 256)) ∧ w = w' := by
  by_cases h0 : 0 ≤ n
  · go_enter Tryd.func101, Tryd.ntmps101
    go_wp2
    go_ret
    exact ⟨ret_bool (by rw [Bool.eq_iff_iff, inB_true]; simp [h0]), rfl⟩
  · go_enter Tryd.func101, Tryd.ntmps101
    go_wp2
    go_ret
    exact ⟨ret_bool (by rw [Bool.eq_iff_iff, inB_true]; simp; omega), rfl⟩

set_option maxHeartbeats 400000 in
theorem rightsS_c (n : Int) (w : World) : Calls Tryd.prog 102 #[.int .i64 n] w fun r w' => r = .returned (.bool (inB n 8)) ∧ w = w' := by
  by_cases h0 : 0 ≤ n
  · go_enter Tryd.func102, Tryd.ntmps102
    go_wp2
    go_ret
    exact ⟨ret_bool (by rw [Bool.eq_iff_iff, inB_true]; simp [h0]; omega), rfl⟩
  · go_enter Tryd.func102, Tryd.ntmps102
    go_wp2
    go_ret
    exact ⟨ret_bool (by rw [Bool.eq_iff_iff, inB_true]; simp; omega), rfl⟩

set_option maxHeartbeats 400000 in
theorem rightsI_c (n : Int) (w : World) : Calls Tryd.prog 71 #[.int .i64 n] w fun r w' => r = .returned (.bool (inB n 8)) ∧ w = w' := by
  go_enter Tryd.func71, Tryd.ntmps71
  go_wp2_with fail
  refine (within_c _ _ _).mono ?_
  rintro r w' ⟨rfl, rfl⟩
  go_wp2
  go_ret
  exact ⟨rfl, rfl⟩

theorem eql_noLine (x : LineD) (w : World) : (binOp .eql 51 (.agg #[.bool x.valid, .int .i64 x.tag, .int .i64 x.page, .int .i64 x.frame, .int .i64 x.rights, .bool x.wired]) (.agg #[.bool false, .int .i64 0, .int .i64 0, .int .i64 0, .int .i64 0, .bool false])).run Tryd.prog w = .ok (.bool (eqB x noLine)) w :=
  eql_line x noLine w

set_option maxHeartbeats 1000000 in
theorem lineValid_c (x : LineD) (w : World) : Calls Tryd.prog 73 #[.agg #[.bool x.valid, .int .i64 x.tag, .int .i64 x.page, .int .i64 x.frame, .int .i64 x.rights, .bool x.wired]] w fun r w' => r = .returned (.bool (lineV x)) ∧ Ex w w' := by
  have hz := eql_noLine x
  have hgd := guardLine
  cases hv : x.valid
  · have e : lineV x = eqB x noLine := by simp [lineV, hv]
    rw [e]
    clear e
    rw [hv] at hz
    generalize eqB x noLine = b at hz
    go_enter Tryd.func73, Tryd.ntmps73
    go_wp2
    go_ret
    exact ⟨rfl, (Ex.refl _).alloc _⟩
  · have e : lineV x = (tagB x.tag && (inB x.page 256 && (inB x.frame 16 && inB x.rights 8))) := by simp [lineV, hv]
    rw [e]
    clear e hz hgd
    cases h1 : tagB x.tag <;> cases h2 : inB x.page 256 <;> cases h3 : inB x.frame 16 <;> cases h4 : inB x.rights 8
    all_goals
      go_enter Tryd.func73, Tryd.ntmps73
      go_wp2_with (first | (go_at_call 111; refine (tagValid_c _ _).mono ?_; rintro r w' ⟨rfl, rfl⟩) | (go_at_call 71; refine (rightsI_c _ _).mono ?_; rintro r w' ⟨rfl, rfl⟩) | (go_at_call 46; refine (within_c _ _ _).mono ?_; rintro r w' ⟨rfl, rfl⟩))
      go_ret
      exact ⟨rfl, (Ex.refl _).alloc _⟩

set_option maxHeartbeats 2000000 in
theorem l4Line_c (x : LineD) (w : World) : Calls Tryd.prog 92 #[.agg #[.bool x.valid, .int .i64 x.tag, .int .i64 x.page, .int .i64 x.frame, .int .i64 x.rights, .bool x.wired]] w fun r w' => r = .returned (.bool (lineV x)) ∧ Ex w w' := by
  have hz := eql_noLine x
  have hgd := guardLine
  cases hv : x.valid
  · have e : lineV x = eqB x noLine := by simp [lineV, hv]
    rw [e]
    clear e
    rw [hv] at hz
    generalize eqB x noLine = b at hz
    go_enter Tryd.func92, Tryd.ntmps92
    go_wp2
    go_ret
    exact ⟨rfl, (Ex.refl _).alloc _⟩
  · have e : lineV x = (tagB x.tag && (inB x.page 256 && (inB x.frame 16 && inB x.rights 8))) := by simp [lineV, hv]
    rw [e]
    clear e hz hgd
    have ht : tagB x.tag = (decide (-1 ≤ x.tag) && decide (x.tag < 8)) := by simp [tagB]
    have hf : inB x.frame 16 = (decide (0 ≤ x.frame) && decide (x.frame < 16)) := by simp [inB]
    cases a1 : decide (-1 ≤ x.tag)
    · have e : tagB x.tag = false := by rw [ht, a1]; rfl
      rw [e]
      clear e ht hf
      have a2 : x.tag < -1 := by simpa using a1
      go_enter Tryd.func92, Tryd.ntmps92
      go_wp2
      go_ret
      exact ⟨rfl, (Ex.refl _).alloc _⟩
    cases a2 : decide (x.tag < 8)
    · have e : tagB x.tag = false := by rw [ht, a1, a2]; rfl
      rw [e]
      clear e ht hf
      have a3 : 8 ≤ x.tag := by simpa using a2
      have a4 : -1 ≤ x.tag := by omega
      go_enter Tryd.func92, Tryd.ntmps92
      go_wp2
      go_ret
      exact ⟨rfl, (Ex.refl _).alloc _⟩
    have e : tagB x.tag = true := by rw [ht, a1, a2]; rfl
    rw [e]
    clear e ht
    have b1 : -1 ≤ x.tag := by simpa using a1
    have b2 : x.tag < 8 := by simpa using a2
    clear a1 a2
    cases h2 : inB x.page 256
    · clear hf
      go_enter Tryd.func92, Tryd.ntmps92
      go_wp2_with (first | (go_at_call 101; refine (l1Page_c _ _).mono ?_; rintro r w' ⟨rfl, rfl⟩))
      go_ret
      exact ⟨rfl, (Ex.refl _).alloc _⟩
    cases a1 : decide (0 ≤ x.frame)
    · have e : inB x.frame 16 = false := by rw [hf, a1]; rfl
      rw [e]
      clear e hf
      have a2 : x.frame < 0 := by simpa using a1
      go_enter Tryd.func92, Tryd.ntmps92
      go_wp2_with (first | (go_at_call 101; refine (l1Page_c _ _).mono ?_; rintro r w' ⟨rfl, rfl⟩))
      go_ret
      exact ⟨rfl, (Ex.refl _).alloc _⟩
    cases a2 : decide (x.frame < 16)
    · have e : inB x.frame 16 = false := by rw [hf, a1, a2]; rfl
      rw [e]
      clear e hf
      have a3 : 16 ≤ x.frame := by simpa using a2
      have a4 : 0 ≤ x.frame := by omega
      go_enter Tryd.func92, Tryd.ntmps92
      go_wp2_with (first | (go_at_call 101; refine (l1Page_c _ _).mono ?_; rintro r w' ⟨rfl, rfl⟩))
      go_ret
      exact ⟨rfl, (Ex.refl _).alloc _⟩
    have e : inB x.frame 16 = true := by rw [hf, a1, a2]; rfl
    rw [e]
    clear e hf
    have b3 : 0 ≤ x.frame := by simpa using a1
    have b4 : x.frame < 16 := by simpa using a2
    clear a1 a2
    cases h4 : inB x.rights 8
    all_goals
      go_enter Tryd.func92, Tryd.ntmps92
      go_wp2_with (first | (go_at_call 101; refine (l1Page_c _ _).mono ?_; rintro r w' ⟨rfl, rfl⟩) | (go_at_call 102; refine (rightsS_c _ _).mono ?_; rintro r w' ⟨rfl, rfl⟩))
      go_ret
      exact ⟨rfl, (Ex.refl _).alloc _⟩

theorem clash_split (x y : LineD) :
    (x.valid = false ∧ clashB x y = false) ∨ (x.valid = true ∧ y.valid = false ∧ clashB x y = false) ∨ (x.valid = true ∧ y.valid = true ∧ (x.page == y.page) = false ∧ clashB x y = false) ∨
    (x.valid = true ∧ y.valid = true ∧ (x.page == y.page) = true ∧ (x.tag == y.tag) = true ∧ clashB x y = true) ∨
    (x.valid = true ∧ y.valid = true ∧ (x.page == y.page) = true ∧ (x.tag == y.tag) = false ∧ (x.tag == -1) = true ∧ clashB x y = true) ∨
    (x.valid = true ∧ y.valid = true ∧ (x.page == y.page) = true ∧ (x.tag == y.tag) = false ∧ (x.tag == -1) = false ∧ (y.tag == -1) = true ∧ clashB x y = true) ∨
    (x.valid = true ∧ y.valid = true ∧ (x.page == y.page) = true ∧ (x.tag == y.tag) = false ∧ (x.tag == -1) = false ∧ (y.tag == -1) = false ∧ clashB x y = false) := by
  unfold clashB
  cases x.valid <;> cases y.valid <;> cases (x.page == y.page) <;> cases (x.tag == y.tag) <;> cases (x.tag == -1) <;> cases (y.tag == -1) <;> simp

set_option maxHeartbeats 1000000 in
theorem clash_c (x y : LineD) (w : World) : Calls Tryd.prog 74 #[.agg #[.bool x.valid, .int .i64 x.tag, .int .i64 x.page, .int .i64 x.frame, .int .i64 x.rights, .bool x.wired], .agg #[.bool y.valid, .int .i64 y.tag, .int .i64 y.page, .int .i64 y.frame, .int .i64 y.rights, .bool y.wired]] w fun r w' => r = .returned (.bool (clashB x y)) ∧ Ex w w' := by
  rcases clash_split x y with ⟨h1, e⟩ | ⟨h1, h2, e⟩ | ⟨h1, h2, h3, e⟩ | ⟨h1, h2, h3, h4, e⟩ | ⟨h1, h2, h3, h4, h5, e⟩ | ⟨h1, h2, h3, h4, h5, h6, e⟩ | ⟨h1, h2, h3, h4, h5, h6, e⟩
  all_goals
    rw [e]
    clear e
    go_enter Tryd.func74, Tryd.ntmps74
    go_wp2
    go_ret
    exact ⟨rfl, ((Ex.refl _).alloc _).alloc _⟩
end Go.Proofs.YtmipkeabfglfaaaDoor
/- CacheValid: what it decides; the walks of the program's and the reference's. -/
namespace Go.Proofs.YtmipkeabfglfaaaDoor
open Go.ChangeShapes Go.WideShapes Go.ChangeAt Go.RowKit
open Rec (sz cs)
set_option linter.unusedVariables false
set_option maxRecDepth 100000

def okAt (xs : List LineD) (i : Nat) : Bool := lineV (xs.getD i noLine) && (List.range i).all fun j => !clashB (xs.getD i noLine) (xs.getD j noLine)
def cacheV (c : CacheD) : Bool := decide (1 ≤ c.lines.length ∧ c.lines.length ≤ 8 ∧ 0 ≤ c.hand ∧ c.hand < c.lines.length) && ((List.range c.lines.length).all (okAt c.lines) && c.lines.any fun x => !x.wired)

def OkUp (xs : List LineD) (k : Nat) : Prop := ∀ i x, i < k → xs[i]? = some x → lineV x = true ∧ ∀ j y, j < i → xs[j]? = some y → clashB x y = false
def looseUp (xs : List LineD) (k : Nat) : Bool := (xs.take k).any fun x => !x.wired

theorem looseUp_succ {xs : List LineD} {k : Nat} {x : LineD} (h : xs[k]? = some x) : looseUp xs (k + 1) = (looseUp xs k || !x.wired) := by
  unfold looseUp
  rw [take_succ_of h, List.any_append]
  simp

theorem getD_of {α : Type} {xs : List α} {i : Nat} {x d : α} (h : xs[i]? = some x) : xs.getD i d = x := by
  rw [List.getD_eq_getElem?_getD, h]; rfl

theorem cacheV_iff (c : CacheD) : cacheV c = true ↔ (1 ≤ c.lines.length ∧ c.lines.length ≤ 8 ∧ 0 ≤ c.hand ∧ c.hand < c.lines.length) ∧ OkUp c.lines c.lines.length ∧ looseUp c.lines c.lines.length = true := by
  unfold cacheV
  rw [Bool.and_eq_true, Bool.and_eq_true, decide_eq_true_iff]
  have h1 : ((List.range c.lines.length).all (okAt c.lines) = true) ↔ OkUp c.lines c.lines.length := by
    rw [List.all_eq_true]
    constructor
    · intro h i x hi hx
      have := h i (List.mem_range.2 hi)
      unfold okAt at this
      rw [Bool.and_eq_true, List.all_eq_true, getD_of hx] at this
      refine ⟨this.1, fun j y hj hy => ?_⟩
      have h2 := this.2 j (List.mem_range.2 hj)
      rw [getD_of hy] at h2
      simpa using h2
    · intro h i hi
      have hi' := List.mem_range.1 hi
      obtain ⟨x, hx⟩ : ∃ x, c.lines[i]? = some x := ⟨_, List.getElem?_eq_getElem hi'⟩
      have h2 := h i x hi' hx
      unfold okAt
      rw [Bool.and_eq_true, List.all_eq_true, getD_of hx]
      refine ⟨h2.1, fun j hj => ?_⟩
      have hj' := List.mem_range.1 hj
      obtain ⟨y, hy⟩ : ∃ y, c.lines[j]? = some y := ⟨_, List.getElem?_eq_getElem (by omega)⟩
      rw [getD_of hy, h2.2 j y hj' hy]
      rfl
  have h2 : (c.lines.any fun x => !x.wired) = looseUp c.lines c.lines.length := by
    unfold looseUp; rw [List.take_length]
  rw [h1, h2]

theorem okUp_succ {xs : List LineD} {k : Nat} {x : LineD} (h : OkUp xs k) (hx : xs[k]? = some x) (hv : lineV x = true) (hc : ∀ j y, j < k → xs[j]? = some y → clashB x y = false) : OkUp xs (k + 1) := by
  intro i z hi hz
  by_cases e : i = k
  · subst e
    rw [hx] at hz
    injection hz with hz
    subst hz
    exact ⟨hv, hc⟩
  · exact h i z (by omega) hz

theorem cacheV_bad_line {c : CacheD} {k : Nat} {x : LineD} (hx : c.lines[k]? = some x) (hv : lineV x = false) : cacheV c = false := by
  cases h : cacheV c
  · rfl
  · have := ((cacheV_iff c).1 h).2.1 k x (getElem?_lt hx) hx
    rw [hv] at this
    cases this.1
theorem cacheV_bad_clash {c : CacheD} {k j : Nat} {x y : LineD} (hx : c.lines[k]? = some x) (hy : c.lines[j]? = some y) (hj : j < k) (hv : clashB x y = true) : cacheV c = false := by
  cases h : cacheV c
  · rfl
  · have := (((cacheV_iff c).1 h).2.1 k x (getElem?_lt hx) hx).2 j y hj hy
    rw [hv] at this
    cases this
theorem cacheV_bad_size {c : CacheD} (h : ¬ (1 ≤ c.lines.length ∧ c.lines.length ≤ 8 ∧ 0 ≤ c.hand ∧ c.hand < c.lines.length)) : cacheV c = false := by
  cases h2 : cacheV c
  · rfl
  · exact absurd ((cacheV_iff c).1 h2).1 h
theorem cacheV_end {c : CacheD} (h1 : 1 ≤ c.lines.length ∧ c.lines.length ≤ 8 ∧ 0 ≤ c.hand ∧ c.hand < c.lines.length) (h2 : OkUp c.lines c.lines.length) : cacheV c = looseUp c.lines c.lines.length := by
  rw [Bool.eq_iff_iff, cacheV_iff]
  exact ⟨fun h => h.2.2, fun h => ⟨h1, h2, h⟩⟩

set_option maxHeartbeats 2000000 in
theorem cacheValidI_c (t : CacheD) (A : Option Addr) (c : Nat) (w : World) (hx : Rd w A t.lines) (hn : t.lines.length ≤ 1048576) (hc : t.lines.length ≤ c) :
    Calls Tryd.prog 30 #[.agg #[.slice A t.lines.length c, .int .i64 t.hand]] w fun r w' => r = .returned (.bool (cacheV t)) ∧ Ex w w' := by
  have B1 := Lib.hid (fun k x => @cacheV_bad_line t k x)
  have B2 := Lib.hid (fun k j x y => @cacheV_bad_clash t k j x y)
  have B3 := Lib.hid (@cacheV_bad_size t)
  have B4 := Lib.hid (@cacheV_end t)
  obtain ⟨xs, hand⟩ := t
  simp only at B1 B2 B3 B4 hx hn hc ⊢
  generalize cacheV ⟨xs, hand⟩ = res at *
  obtain ⟨n, hn1⟩ : ∃ n, n = xs.length := ⟨_, rfl⟩
  have HN := Lib.hid hn1
  rw [← hn1] at B3 B4 hn hc ⊢
  have HX := Lib.hid hx
  clear hn1 hx
  by_cases g1 : n < 1
  · have g1' : (n : Int) < 1 := by omega
    obtain rfl : res = false := B3.out (by omega)
    go_enter Tryd.func30, Tryd.ntmps30
    go_wp2
    go_ret
    exact ⟨rfl, (Ex.refl _).alloc _⟩
  by_cases g2 : 8 < n
  · have g2' : (8 : Int) < (n : Int) := by omega
    have g1' : ¬ (n : Int) < 1 := by omega
    obtain rfl : res = false := B3.out (by omega)
    go_enter Tryd.func30, Tryd.ntmps30
    go_wp2
    go_ret
    exact ⟨rfl, (Ex.refl _).alloc _⟩
  have g1' : ¬ (n : Int) < 1 := by omega
  have g2' : ¬ (8 : Int) < (n : Int) := by omega
  cases g3 : inB hand n
  · have g4 := inB_false.1 g3
    obtain rfl : res = false := B3.out (by omega)
    clear g4
    go_enter Tryd.func30, Tryd.ntmps30
    go_wp2_with (go_at_call 46; refine (within_c _ _ _).mono ?_; rintro r w' ⟨rfl, rfl⟩)
    go_ret
    exact ⟨rfl, (Ex.refl _).alloc _⟩
  have g4 := inB_true.1 g3
  have HS : Hid (1 ≤ n ∧ n ≤ 8 ∧ 0 ≤ hand ∧ hand < n) := Lib.hid (by omega)
  clear g4
  go_enter Tryd.func30, Tryd.ntmps30
  go_wp2_with (go_at_call 46; refine (within_c _ _ _).mono ?_; rintro r w' ⟨rfl, rfl⟩)
  have hnc : (n : Int) ≤ (c : Int) := by omega
  obtain ⟨w0, hw0⟩ : ∃ w0 : World, w0 = w.alloc (.cells #[.slice A n c, .int .i64 hand] 29) := ⟨_, rfl⟩
  obtain ⟨gb, hgb⟩ : ∃ gb : Nat, gb = w.heap.size := ⟨_, rfl⟩
  have K0 : Hid (Blk w0 gb 29 [.slice A n c, .int .i64 hand]) := Lib.hid (by rw [hw0, hgb]; exact Blk.new w _ _)
  have E0 : Hid (Ex w w0) := Lib.hid (by rw [hw0]; exact (Ex.refl w).alloc _)
  rw [← hw0, ← hgb]
  clear hw0 hgb
  go_loopw [28, 4] (fun i l wr => ∃ k : Nat, k ≤ n ∧ i = .int .i64 k ∧ l = .bool (looseUp xs k) ∧ Ex w0 wr ∧ OkUp xs k) (fun i _ _ => n - (intOf i).toNat)
  case atStart => exact ⟨0, Nat.zero_le _, rfl, by simp [looseUp], Ex.refl _, fun i x hi => by omega⟩
  case round =>
    obtain ⟨k, hk, rfl, rfl, hbel, hok⟩ := hrel
    have HB := Lib.hid hbel
    have HOK := Lib.hid hok
    clear hbel hok
    obtain ⟨q0, q1⟩ := (K0.out.ex HB.out).c2
    have lb := (K0.out.ex HB.out).lt
    by_cases hlt : k < n
    · obtain ⟨b1, o1, x, rfl, hb1, hxk, h0, h1, h2, h3, h4, h5⟩ := Rd.line ((HX.out.ex E0.out).ex HB.out) (k := k) (by have := HN.out; omega)
      have HXK := Lib.hid hxk
      clear hxk
      go_wp2_with fail
      refine (lineValid_c x _).mono ?_
      rintro r w2 ⟨rfl, hb2⟩
      have HB2 : Hid (Ex wr w2) := Lib.hid ((((Ex.refl wr).alloc _)).trans hb2)
      have KX : Hid (Blk w2 wr.heap.size 51 [.bool x.valid, .int .i64 x.tag, .int .i64 x.page, .int .i64 x.frame, .int .i64 x.rights, .bool x.wired]) := Lib.hid ((Blk.new_at _ _ _ rfl).ex hb2)
      clear hb2 h0 h1 h2 h3 h4 h5 q0 q1
      obtain ⟨q0, q1⟩ := ((K0.out.ex HB.out).ex HB2.out).c2
      have lb2 := ((K0.out.ex HB.out).ex HB2.out).lt
      cases hv : lineV x
      · obtain rfl : res = false := B1.out k x HXK.out hv
        go_wp2
        go_ret
        exact ⟨rfl, (E0.out.trans HB.out).trans HB2.out⟩
      · have HV := Lib.hid hv
        obtain ⟨gx, hgx⟩ : ∃ gx : Nat, gx = wr.heap.size := ⟨_, rfl⟩
        rw [← hgx] at KX ⊢
        clear hgx
        go_wp2_with fail
        clear hv
        have HE2 : Hid (Ex w w2) := Lib.hid ((E0.out.trans HB.out).trans HB2.out)
        have HX2 : Hid (Rd w2 (some ⟨b1, o1, none⟩) xs) := Lib.hid (HX.out.ex HE2.out)
        have KB2 : Hid (Blk w2 gb 29 [.slice (some ⟨b1, o1, none⟩) n c, .int .i64 hand]) := Lib.hid ((K0.out.ex HB.out).ex HB2.out)
        have HC : Hid (∀ (j : Nat) (y : LineD), j < 0 → xs[j]? = some y → clashB x y = false) := Lib.hid (fun j y h => by omega)
        clear q0 q1 lb2 lb
        have HW : Hid (Ex w0 w2) := Lib.hid (HB.out.trans HB2.out)
        clear HB2 HB
        go_loopw [41] (fun j wi => ∃ m : Nat, m ≤ k ∧ j = .int .i64 m ∧ Ex w2 wi ∧ ∀ (j : Nat) (y : LineD), j < m → xs[j]? = some y → clashB x y = false) (fun j _ => k - (intOf j).toNat)
        case atStart => exact ⟨0, Nat.zero_le _, rfl, Ex.refl _, HC.out⟩
        case round =>
          obtain ⟨m, hm, rfl, hbi, hcl⟩ := hrel
          have HBI := Lib.hid hbi
          have HCL := Lib.hid hcl
          clear hbi hcl
          obtain ⟨p0, p1, p2, p3, p4, p5⟩ := (KX.out.ex HBI.out).c6
          have lx := (KX.out.ex HBI.out).lt
          obtain ⟨q0, q1⟩ := (KB2.out.ex HBI.out).c2
          have lb := (KB2.out.ex HBI.out).lt
          by_cases hlm : m < k
          · obtain ⟨y, hb1', hyk, y0, y1, y2, y3, y4, y5⟩ := Rd.line_known (HX2.out.ex HBI.out) (k := m) (by have := HN.out; omega)
            have HYK := Lib.hid hyk
            clear hyk
            go_wp2_with fail
            refine (clash_c x y _).mono ?_
            rintro r w3 ⟨rfl, hb3⟩
            have HB3 : Hid (Ex wr w3) := Lib.hid ((((Ex.refl wr).alloc _)).trans hb3)
            clear hb3 y0 y1 y2 y3 y4 y5 p0 p1 p2 p3 p4 p5 q0 q1
            cases hcy : clashB x y
            · have HCY := Lib.hid hcy
              go_wp2
              go_roundw
              case rel => exact ⟨m + 1, by omega, by go_num, HBI.out.trans HB3.out, fun j z hj hz => by
                by_cases e : j = m
                · subst e
                  have := HYK.out
                  rw [this] at hz
                  injection hz with hz
                  rw [← hz]; exact HCY.out
                · exact HCL.out j z (by omega) hz⟩
              case measure => simp [intOf]; omega
            · obtain rfl : res = false := B2.out k m x y HXK.out HYK.out hlm hcy
              go_wp2
              go_ret
              exact ⟨rfl, (HE2.out.trans HBI.out).trans HB3.out⟩
          · obtain rfl : m = k := by omega
            have HOK2 : Hid (OkUp xs (m + 1)) := Lib.hid (okUp_succ HOK.out HXK.out HV.out HCL.out)
            have HLU := Lib.hid (looseUp_succ HXK.out)
            generalize looseUp xs m = lo at *
            cases lo <;> cases hw : x.wired
            all_goals
              rw [hw] at p5
              go_wp2
              go_roundw
              case rel => exact ⟨m + 1, by omega, by go_num, by rw [HLU.out, hw]; rfl, HW.out.trans HBI.out, HOK2.out⟩
              case measure => simp [intOf]; omega
    · obtain rfl : k = n := by omega
      have HR : Hid (res = looseUp xs k) := Lib.hid (B4.out (by have := HS.out; omega) HOK.out)
      go_wp2
      go_ret
      exact ⟨ret_bool HR.out.symm, E0.out.trans HB.out⟩
end Go.Proofs.YtmipkeabfglfaaaDoor
/- KeyFor of both. -/
namespace Go.Proofs.YtmipkeabfglfaaaDoor
open Go.ChangeShapes Go.WideShapes Go.ChangeAt Go.RowKit
open Rec (sz cs)
set_option linter.unusedVariables false
set_option maxRecDepth 100000

def keyFor (s p : Int) : KeyD := if 128 ≤ p then ⟨0, p⟩ else ⟨s, p⟩

set_option maxHeartbeats 400000 in
theorem keyForI_c (s p : Int) (w : World) : Calls Tryd.prog 35 #[.int .i64 s, .int .i64 p] w fun r w' => r = .returned (.agg #[.int .i64 (keyFor s p).space, .int .i64 (keyFor s p).page]) ∧ Ex w w' := by
  by_cases h : 128 ≤ p
  · have e : keyFor s p = ⟨0, p⟩ := if_pos h
    rw [e]
    clear e
    go_enter Tryd.func35, Tryd.ntmps35
    go_wp2
    exact bodyPost_ret (v := .agg #[.int .i64 0, .int .i64 p]) (by simp [results, Tryd.results35, go_sem]) rfl ⟨rfl, (Ex.refl _).alloc _⟩
  · have e : keyFor s p = ⟨s, p⟩ := if_neg h
    rw [e]
    clear e
    go_enter Tryd.func35, Tryd.ntmps35
    go_wp2
    exact bodyPost_ret (v := .agg #[.int .i64 s, .int .i64 p]) (by simp [results, Tryd.results35, go_sem]) rfl ⟨rfl, (Ex.refl _).alloc _⟩

set_option maxHeartbeats 400000 in
theorem keyForS_c (s p : Int) (w : World) : Calls Tryd.prog 59 #[.int .i64 s, .int .i64 p] w fun r w' => r = .returned (.agg #[.int .i64 (keyFor s p).space, .int .i64 (keyFor s p).page]) ∧ Ex w w' := by
  by_cases h : 128 ≤ p
  · have e : keyFor s p = ⟨0, p⟩ := if_pos h
    rw [e]
    clear e
    go_enter Tryd.func59, Tryd.ntmps59
    go_wp2
    exact bodyPost_ret (v := .agg #[.int .i64 0, .int .i64 p]) (by simp [results, Tryd.results59, go_sem]) rfl ⟨rfl, (Ex.refl _).alloc _⟩
  · have e : keyFor s p = ⟨s, p⟩ := if_neg h
    rw [e]
    clear e
    go_enter Tryd.func59, Tryd.ntmps59
    go_wp2
    exact bodyPost_ret (v := .agg #[.int .i64 s, .int .i64 p]) (by simp [results, Tryd.results59, go_sem]) rfl ⟨rfl, (Ex.refl _).alloc _⟩
end Go.Proofs.YtmipkeabfglfaaaDoor
/- Where a key lies in a valid table; when is a machine valid, a memory: plain Lean, no walk in sight. -/
namespace Go.Proofs.YtmipkeabfglfaaaDoor
open Go.ChangeShapes Go.WideShapes Go.ChangeAt Go.RowKit
set_option linter.unusedVariables false

theorem pigeon : ∀ (l1 l2 : List Nat), l1.Nodup → (∀ x ∈ l1, x ∈ l2) → l2.length ≤ l1.length → ∀ x ∈ l2, x ∈ l1 := by
  intro l1
  induction l1 with
  | nil =>
    intro l2 _ _ hl x hx
    have h0 : l2.length = 0 := by simpa using hl
    rw [List.length_eq_zero_iff.1 h0] at hx
    cases hx
  | cons a l ih =>
    intro l2 hn hs hl x hx
    have ha : a ∈ l2 := hs a (by simp)
    obtain ⟨hn1, hn2⟩ := List.nodup_cons.1 hn
    by_cases e : x = a
    · subst e; simp
    · refine List.mem_cons_of_mem _ (ih (l2.erase a) hn2 (fun y hy => ?_) ?_ x ?_)
      · exact (List.mem_erase_of_ne (fun e2 => hn1 (by rw [← e2]; exact hy))).2 (hs y (List.mem_cons_of_mem _ hy))
      · rw [List.length_erase_of_mem ha]
        simp at hl
        omega
      · exact (List.mem_erase_of_ne e).2 hx

/-- The numbers of the used ones among the first k frames. -/
def usedIx (fs : List FrameD) (k : Nat) : List Nat := (List.range k).filter fun i => match fs[i]? with | some f => f.used | none => false
theorem usedIx_len (fs : List FrameD) : ∀ k, k ≤ fs.length → (usedIx fs k).length = usedN fs k := by
  intro k
  induction k with
  | zero => intro _; rfl
  | succ k ih =>
    intro hk
    obtain ⟨f, hf⟩ : ∃ f, fs[k]? = some f := ⟨_, List.getElem?_eq_getElem (by omega)⟩
    have h1 := ih (by omega)
    unfold usedIx at h1 ⊢
    rw [List.range_succ, List.filter_append, List.length_append, h1, usedN_succ hf]
    cases hu : f.used <;> simp [hf, hu]
theorem mem_usedIx {fs : List FrameD} {k i : Nat} : i ∈ usedIx fs k ↔ i < k ∧ ∃ f, fs[i]? = some f ∧ f.used = true := by
  unfold usedIx
  rw [List.mem_filter, List.mem_range]
  refine and_congr_right fun _ => ?_
  cases h : fs[i]? <;> simp

theorem Buckets.at_ {t : TableD} {k : Nat} {ls : List (List Nat)} (h : Buckets t k ls) (hk : k ≤ t.buckets.length) {b : Nat} {l : List Nat} (hl : ls[b]? = some l) : ∃ a, b < k ∧ t.buckets[b]? = some a ∧ Chain t.frames a l ∧ ∀ (i : Nat) (f : FrameD), i ∈ l → t.frames[i]? = some f → hashK f.key t.buckets.length = b := by
  have hb : b < k := by have := (List.getElem?_eq_some_iff.1 hl).1; rw [h.1] at this; exact this
  obtain ⟨a, ha⟩ : ∃ a, t.buckets[b]? = some a := ⟨_, List.getElem?_eq_getElem (by omega)⟩
  obtain ⟨h1, h2⟩ := h.2 b a l hb ha hl
  exact ⟨a, hb, ha, h1, h2⟩
theorem Buckets.nodup {t : TableD} {ls : List (List Nat)} (h : Buckets t t.buckets.length ls) : ls.flatten.Nodup := by
  unfold List.Nodup
  rw [List.pairwise_flatten]
  constructor
  · intro l hl
    obtain ⟨b, hb, e⟩ := List.getElem_of_mem hl
    obtain ⟨a, _, _, hc, _⟩ := h.at_ (Nat.le_refl _) (b := b) (l := l) (by rw [List.getElem?_eq_getElem hb, e])
    exact hc.nodup
  · rw [List.pairwise_iff_getElem]
    intro i j hi hj hij x hx y hy e
    subst e
    obtain ⟨a, _, _, hc, hh⟩ := h.at_ (Nat.le_refl _) (b := i) (List.getElem?_eq_getElem hi)
    obtain ⟨a', _, _, hc', hh'⟩ := h.at_ (Nat.le_refl _) (b := j) (List.getElem?_eq_getElem hj)
    obtain ⟨f, hf, _⟩ := hc.in_ hx
    have h1 := hh x f hx hf
    have h2 := hh' x f hy hf
    omega
/-- Every used frame of a valid table lies in a chain. -/
theorem TableOk.met {t : TableD} (h : TableOk t) {i : Nat} {f : FrameD} (hf : t.frames[i]? = some f) (hu : f.used = true) : ∃ (b : Nat) (a : Int) (l : List Nat), t.buckets[b]? = some a ∧ Chain t.frames a l ∧ i ∈ l ∧ hashK f.key t.buckets.length = b := by
  obtain ⟨_, _, ls, hb, hs⟩ := h
  have h1 : i ∈ ls.flatten := by
    refine pigeon ls.flatten (usedIx t.frames t.frames.length) hb.nodup (fun x hx => ?_) ?_ i (mem_usedIx.2 ⟨getElem?_lt hf, f, hf, hu⟩)
    · obtain ⟨l, hl, hx⟩ := List.mem_flatten.1 hx
      obtain ⟨b, hb', e⟩ := List.getElem_of_mem hl
      obtain ⟨a, _, _, hc, _⟩ := hb.at_ (Nat.le_refl _) (b := b) (l := l) (by rw [List.getElem?_eq_getElem hb', e])
      obtain ⟨g, hg, hgu⟩ := hc.in_ hx
      exact mem_usedIx.2 ⟨getElem?_lt hg, g, hg, hgu⟩
    · rw [usedIx_len _ _ (Nat.le_refl _), List.length_flatten, ← hs]
      exact Nat.le_refl _
  obtain ⟨l, hl, hi⟩ := List.mem_flatten.1 h1
  obtain ⟨b, hb', e⟩ := List.getElem_of_mem hl
  obtain ⟨a, _, ha, hc, hh⟩ := hb.at_ (Nat.le_refl _) (b := b) (l := l) (by rw [List.getElem?_eq_getElem hb', e])
  exact ⟨b, a, l, ha, hc, hi, hh i f hi hf⟩

def fitsKey (k : KeyD) (f : FrameD) : Bool := f.used && eqB f.key k
/-- The frame of a key, or -1. -/
def findF (t : TableD) (k : KeyD) : Int := firstOf (fitsKey k) t.frames
theorem findF_hit {t : TableD} {k : KeyD} (h : TableOk t) {x : Nat} {f : FrameD} (hx : t.frames[x]? = some f) (hu : f.used = true) (hk : f.key = k) : findF t k = x := by
  refine firstOf_at hx (by unfold fitsKey; rw [hu, hk, eqB_self]; rfl) fun j g hj hg => ?_
  unfold fitsKey
  cases hgu : g.used
  · rfl
  · have h1 := (h.2.1 x f (getElem?_lt hx) hx).2 j g hj hg hu hgu
    rw [hk] at h1
    rw [eqB_false.2 h1]
    rfl
theorem findF_miss {t : TableD} {k : KeyD} (h : TableOk t) {b : Nat} {a : Int} {l : List Nat} (hb : hashK k t.buckets.length = b) (ha : t.buckets[b]? = some a) (hl : Chain t.frames a l) (hno : ∀ (x : Nat) (f : FrameD), x ∈ l → t.frames[x]? = some f → f.key ≠ k) : findF t k = -1 := by
  refine firstOf_none fun j g hj hg => ?_
  unfold fitsKey
  cases hgu : g.used
  · rfl
  · by_cases e : g.key = k
    · obtain ⟨b', a', l', ha', hc', hi', hh'⟩ := h.met hg hgu
      rw [e, hb] at hh'
      have e2 : b' = b := by omega
      subst e2
      rw [ha] at ha'
      injection ha' with ha'
      subst ha'
      rw [hc'.one hl] at hi'
      exact absurd e (hno j g hi' hg)
    · rw [eqB_false.2 e]
      rfl
theorem findF_range {t : TableD} (k : KeyD) : findF t k = -1 ∨ ∃ (x : Nat) (f : FrameD), findF t k = (x : Int) ∧ t.frames[x]? = some f := by
  rcases firstOf_cases (fitsKey k) t.frames with ⟨h, _⟩ | ⟨x, f, h, hf, _⟩
  · exact .inl h
  · exact .inr ⟨x, f, h, hf⟩

/-! ### machines -/
def lineSpace (m : MachD) (x : LineD) : Int := if x.tag = -1 then 0 else (spaceOf m.tags x.tag).1
def lineAt (m : MachD) (x : LineD) : Int := findF m.table (keyFor (lineSpace m x) x.page)
/-- What a valid line must say in a valid machine. -/
def LineFits (m : MachD) (x : LineD) : Prop := (x.tag = -1 ↔ 128 ≤ x.page) ∧ (x.tag ≠ -1 → (spaceOf m.tags x.tag).2 = true) ∧ (∃ (i : Nat) (f : FrameD), lineAt m x = (i : Int) ∧ (i : Int) = x.frame ∧ m.table.frames[i]? = some f ∧ f.rights = x.rights) ∧ (x.wired = true → x.tag = -1)
def FrameFits (f : FrameD) : Prop := ¬ (f.used = true ∧ 128 ≤ f.key.page ∧ f.key.space ≠ 0)
def MachHead (m : MachD) : Prop := TableOk m.table ∧ cacheV m.cache = true ∧ tagsV m.tags = true ∧ 0 ≤ ownPlace m.tags.owns m.space
def MachOk (m : MachD) : Prop := MachHead m ∧ (∀ (i : Nat) (f : FrameD), m.table.frames[i]? = some f → FrameFits f) ∧ ∀ (i : Nat) (x : LineD), m.cache.lines[i]? = some x → x.valid = true → LineFits m x
open Classical in
noncomputable def machV (m : MachD) : Bool := decide (MachOk m)
theorem machV_iff {m : MachD} : machV m = true ↔ MachOk m := by unfold machV; exact @decide_eq_true_iff _ (Classical.propDecidable _)
theorem machV_no {m : MachD} (h : ¬ MachOk m) : machV m = false := by
  cases e : machV m
  · rfl
  · exact absurd (machV_iff.1 e) h
theorem machV_yes {m : MachD} (h : MachOk m) : machV m = true := machV_iff.2 h
open Classical in
noncomputable def lineFitsB (m : MachD) (x : LineD) : Bool := decide (LineFits m x)
theorem lineFitsB_iff {m : MachD} {x : LineD} : lineFitsB m x = true ↔ LineFits m x := by unfold lineFitsB; exact @decide_eq_true_iff _ (Classical.propDecidable _)
theorem lineFitsB_no {m : MachD} {x : LineD} (h : ¬ LineFits m x) : lineFitsB m x = false := by
  cases e : lineFitsB m x
  · rfl
  · exact absurd (lineFitsB_iff.1 e) h

theorem keyFor_ok {s p : Int} (hs : 0 ≤ s ∧ s < 16) (hp : 0 ≤ p ∧ p < 256) : keyOk (keyFor s p) := by
  unfold keyFor keyOk
  split <;> (constructor <;> (constructor <;> (dsimp only; omega)))
theorem spaceOf_range {t : TagsD} (g : Int) (h : tagsV t = true) : 0 ≤ (spaceOf t g).1 ∧ (spaceOf t g).1 < 16 := by
  rcases spaceOf_or t g with ⟨e, _⟩ | ⟨k, x, hv, hx, _, e⟩
  · rw [e]; dsimp only; omega
  · rw [e]
    have := (((tagsV_iff t).1 h).2 k x (getElem?_lt hx) hx).1
    dsimp only
    omega
theorem line_page {t : CacheD} (h : cacheV t = true) {i : Nat} {x : LineD} (hx : t.lines[i]? = some x) (hv : x.valid = true) : 0 ≤ x.page ∧ x.page < 256 := by
  have h1 := (((cacheV_iff t).1 h).2.1 i x (getElem?_lt hx) hx).1
  unfold lineV at h1
  rw [hv] at h1
  simp only [if_true, Bool.and_eq_true] at h1
  exact inB_true.1 h1.2.1

/-! ### memories -/
def MemOk (m : MemD) : Prop := MachOk m.mach ∧ m.marks.length = m.mach.table.frames.length ∧ (0 ≤ m.hand ∧ m.hand < m.marks.length) ∧ ∀ (i : Nat) (f : FrameD), m.marks[i]? = some true → m.mach.table.frames[i]? = some f → f.used = true
end Go.Proofs.YtmipkeabfglfaaaDoor
/- Keys and hashes, of both sides. -/
namespace Go.Proofs.YtmipkeabfglfaaaDoor
open Go.ChangeShapes Go.WideShapes Go.ChangeAt Go.RowKit
set_option linter.unusedVariables false
set_option maxRecDepth 100000

def keyB (k : KeyD) : Bool := inB k.space 16 && inB k.page 256
theorem keyB_iff {k : KeyD} : keyB k = true ↔ keyOk k := by unfold keyB keyOk inB; simp

set_option maxHeartbeats 1000000 in
theorem keyS_c (k : KeyD) (w : World) : Calls Tryd.prog 112 #[.agg #[.int .i64 k.space, .int .i64 k.page]] w fun r w' => r = .returned (.bool (keyB k)) ∧ Ex w w' := by
  unfold keyB
  have C1 := Lib.hid (fun w => l1Space_c k.space w)
  have C2 := Lib.hid (fun w => l1Page_c k.page w)
  generalize inB k.space 16 = b1 at C1 ⊢
  generalize inB k.page 256 = b2 at C2 ⊢
  cases b1
  · go_enter Tryd.func112, Tryd.ntmps112
    go_wp2_with fail
    refine (C1.out _).mono ?_
    rintro r w1 ⟨rfl, rfl⟩
    go_wp2
    go_ret
    exact ⟨rfl, (by repeat' (first | with_reducible exact Ex.refl _ | with_reducible refine Ex.alloc ?_ _ | with_reducible refine Ex.drew ?_ | with_reducible refine Ex.put ?_ (by omega) _))⟩
  · go_enter Tryd.func112, Tryd.ntmps112
    go_wp2_with fail
    refine (C1.out _).mono ?_
    rintro r w1 ⟨rfl, rfl⟩
    go_wp2_with fail
    refine (C2.out _).mono ?_
    rintro r w1 ⟨rfl, rfl⟩
    go_wp2
    go_ret
    exact ⟨rfl, (by repeat' (first | with_reducible exact Ex.refl _ | with_reducible refine Ex.alloc ?_ _ | with_reducible refine Ex.drew ?_ | with_reducible refine Ex.put ?_ (by omega) _))⟩
set_option maxHeartbeats 1000000 in
theorem keyI_c (k : KeyD) (w : World) : Calls Tryd.prog 70 #[.agg #[.int .i64 k.space, .int .i64 k.page]] w fun r w' => r = .returned (.bool (keyB k)) ∧ Ex w w' := by
  unfold keyB
  have C1 := Lib.hid (fun w => within_c k.space 16 w)
  have C2 := Lib.hid (fun w => within_c k.page 256 w)
  generalize inB k.space 16 = b1 at C1 ⊢
  generalize inB k.page 256 = b2 at C2 ⊢
  cases b1
  · go_enter Tryd.func70, Tryd.ntmps70
    go_wp2_with fail
    refine (C1.out _).mono ?_
    rintro r w1 ⟨rfl, rfl⟩
    go_wp2
    go_ret
    exact ⟨rfl, (by repeat' (first | with_reducible exact Ex.refl _ | with_reducible refine Ex.alloc ?_ _ | with_reducible refine Ex.drew ?_ | with_reducible refine Ex.put ?_ (by omega) _))⟩
  · go_enter Tryd.func70, Tryd.ntmps70
    go_wp2_with fail
    refine (C1.out _).mono ?_
    rintro r w1 ⟨rfl, rfl⟩
    go_wp2_with fail
    refine (C2.out _).mono ?_
    rintro r w1 ⟨rfl, rfl⟩
    go_wp2
    go_ret
    exact ⟨rfl, (by repeat' (first | with_reducible exact Ex.refl _ | with_reducible refine Ex.alloc ?_ _ | with_reducible refine Ex.drew ?_ | with_reducible refine Ex.put ?_ (by omega) _))⟩

theorem hash_parts {s p n : Int} (h1 : 0 ≤ s) (h2 : s < 16) (h3 : 0 ≤ p) (h4 : p < 256) (hn : 1 ≤ n) (hm : n ≤ 16) : 0 ≤ (s * 256 + p) * 2654435761 % 4294967296 * n ∧ (s * 256 + p) * 2654435761 % 4294967296 * n ≤ 68719476736 ∧ 0 ≤ (s * 256 + p) * 2654435761 % 4294967296 * n / 4294967296 ∧ (s * 256 + p) * 2654435761 % 4294967296 * n / 4294967296 ≤ 16 := by
  obtain ⟨x, hx⟩ : ∃ x, x = (s * 256 + p) * 2654435761 % 4294967296 := ⟨_, rfl⟩
  rw [← hx]
  have g1 : 0 ≤ x ∧ x ≤ 4294967296 := by omega
  have g2 : 0 ≤ x * n := Int.mul_nonneg g1.1 (by omega)
  have g3 : x * n ≤ 4294967296 * 16 := Int.mul_le_mul g1.2 hm (by omega) (by omega)
  obtain ⟨y, hy⟩ : ∃ y, y = x * n := ⟨_, rfl⟩
  rw [← hy] at g2 g3 ⊢
  omega
set_option maxHeartbeats 1000000 in
theorem hashS_c (k : KeyD) (n : Int) (w : World) (hk : keyOk k) (hn : 1 ≤ n) (hm : n ≤ 16) : Calls Tryd.prog 88 #[.agg #[.int .i64 k.space, .int .i64 k.page], .int .i64 n] w fun r w' => r = .returned (.int .i64 (hashK k n)) ∧ Ex w w' := by
  obtain ⟨⟨h1, h2⟩, h3, h4⟩ := hk
  obtain ⟨s, p⟩ := k
  dsimp only at h1 h2 h3 h4
  go_enter Tryd.func88, Tryd.ntmps88
  go_wp2
  go_ret
  obtain ⟨g1, g2, g3, g4⟩ := hash_parts h1 h2 h3 h4 hn hm
  refine ⟨ret_int ?_, (by repeat' (first | with_reducible exact Ex.refl _ | with_reducible refine Ex.alloc ?_ _ | with_reducible refine Ex.drew ?_ | with_reducible refine Ex.put ?_ (by omega) _))⟩
  rw [IntWalk.wrap64_in ((s * 256 + p) * 2654435761 % 4294967296 * n) ⟨by omega, by omega⟩, Int.tdiv_eq_ediv_of_nonneg g1, IntWalk.wrap64_in _ ⟨by omega, by omega⟩]
  rfl
set_option maxHeartbeats 1000000 in
theorem hashI_c (k : KeyD) (n : Int) (w : World) (hk : keyOk k) (hn : 1 ≤ n) (hm : n ≤ 16) : Calls Tryd.prog 72 #[.agg #[.int .i64 k.space, .int .i64 k.page], .int .i64 n] w fun r w' => r = .returned (.int .i64 (hashK k n)) ∧ Ex w w' := by
  obtain ⟨⟨h1, h2⟩, h3, h4⟩ := hk
  obtain ⟨s, p⟩ := k
  dsimp only at h1 h2 h3 h4
  go_enter Tryd.func72, Tryd.ntmps72
  go_wp2
  go_ret
  obtain ⟨g1, g2, g3, g4⟩ := hash_parts h1 h2 h3 h4 hn hm
  refine ⟨ret_int ?_, (by repeat' (first | with_reducible exact Ex.refl _ | with_reducible refine Ex.alloc ?_ _ | with_reducible refine Ex.drew ?_ | with_reducible refine Ex.put ?_ (by omega) _))⟩
  rw [IntWalk.u64_in ((s * 256 + p) * 2654435761 % 4294967296 * n) ⟨by omega, by omega⟩, IntWalk.wrap64_in _ ⟨by omega, by omega⟩]
  rfl

def frameB (f : FrameD) : Bool := if f.used then keyB f.key && inB f.rights 8 else eqB f freeF
theorem frameB_iff {f : FrameD} : frameB f = true ↔ frameOk f := by
  unfold frameB frameOk
  cases hu : f.used
  · simp [freeF, eqB]
    exact decide_eq_true_iff
  · simp [keyB_iff, inB]
set_option maxHeartbeats 1000000 in
theorem l3Frame_c (f : FrameD) (w : World) : Calls Tryd.prog 86 #[.agg #[.bool f.used, .int .i64 f.key.space, .int .i64 f.key.page, .int .i64 f.rights, .int .i64 f.next]] w fun r w' => r = .returned (.bool (frameB f)) ∧ Ex w w' := by
  unfold frameB
  have hz := eql_frame f freeF
  simp only [freeF] at hz
  have C1 := Lib.hid (fun w => keyS_c f.key w)
  have C2 := Lib.hid (fun w => rightsS_c f.rights w)
  cases hu : f.used
  · simp only [Bool.false_eq_true, if_false]
    generalize hq : eqB f freeF = q
    rw [show (⟨false, ⟨0, 0⟩, 0, -1⟩ : FrameD) = freeF from rfl, hq] at hz
    rw [hu] at hz
    clear hq
    go_enter Tryd.func86, Tryd.ntmps86
    go_wp2
    go_ret
    exact ⟨rfl, (by repeat' (first | with_reducible exact Ex.refl _ | with_reducible refine Ex.alloc ?_ _ | with_reducible refine Ex.drew ?_ | with_reducible refine Ex.put ?_ (by omega) _))⟩
  · simp only [if_true]
    clear hz
    generalize keyB f.key = b1 at C1 ⊢
    generalize inB f.rights 8 = b2 at C2 ⊢
    cases b1
    · go_enter Tryd.func86, Tryd.ntmps86
      go_wp2_with fail
      refine (C1.out _).mono ?_
      rintro r w1 ⟨rfl, he⟩
      have HE := Lib.hid (((Ex.refl w).alloc _).trans he)
      clear he
      go_wp2
      go_ret
      exact ⟨rfl, (by repeat' (first | with_reducible exact HE.out | with_reducible refine Ex.alloc ?_ _ | with_reducible refine Ex.drew ?_ | with_reducible refine Ex.put ?_ (by omega) _))⟩
    · go_enter Tryd.func86, Tryd.ntmps86
      go_wp2_with fail
      refine name_calls ?_; intro v1 hv1
      have X1 : Hid (Chg (0) (0) w v1) := Lib.hid (by rw [hv1]; repeat' (first | with_reducible exact Chg.refl _ _ _ | with_reducible refine Chg.alloc ?_ _ | with_reducible refine Chg.drew ?_ | with_reducible refine Chg.set ?_ (by omega) _))
      have t1 : w.heap.size ≤ v1.heap.size := X1.out.size
      have Ev1 : Hid (Ex w v1) := Lib.hid ((Ex.refl w).chg X1.out (by omega))
      have KX : Hid (Blk v1 (w.heap.size) 55 [.bool true, .int .i64 f.key.space, .int .i64 f.key.page, .int .i64 f.rights, .int .i64 f.next]) := Lib.hid (by rw [hv1]; repeat' (first | with_reducible exact Blk.new_at _ _ _ (by simp) | with_reducible refine Blk.alloc ?_ _ | with_reducible refine Blk.drew ?_ | with_reducible refine Blk.far ?_ (by simp; omega) _))
      have lX : w.heap.size < v1.heap.size := KX.out.lt
      clear hv1
      refine (C1.out _).mono ?_; rintro r w1 ⟨rfl, hb1⟩
      have Y1 : Hid (Chg 0 0 v1 w1) := Lib.hid (Chg.of_ex hb1)
      have s1 : v1.heap.size ≤ w1.heap.size := Y1.out.size
      have Ew1 : Hid (Ex w w1) := Lib.hid (Ev1.out.chg Y1.out (by omega))
      clear hb1
      replace KX := Lib.hid (KX.out.chg Y1.out (by omega))
      obtain ⟨qX0, qX1, qX2, qX3, qX4⟩ := KX.out.c5
      have jX := KX.out.lt
      go_wp2_with fail
      refine (C2.out _).mono ?_
      rintro r w2 ⟨rfl, rfl⟩
      go_wp2
      go_ret
      exact ⟨rfl, (by repeat' (first | with_reducible exact Ew1.out | with_reducible refine Ex.alloc ?_ _ | with_reducible refine Ex.drew ?_ | with_reducible refine Ex.put ?_ (by omega) _))⟩
end Go.Proofs.YtmipkeabfglfaaaDoor
/- The chain of a bucket, as the reference walks it. -/
namespace Go.Proofs.YtmipkeabfglfaaaDoor
open Go.ChangeShapes Go.WideShapes Go.ChangeAt Go.RowKit
open Rec (sz cs)
set_option linter.unusedVariables false
set_option maxRecDepth 100000

def lenOf : Value → Nat
  | .slice _ n _ => n
  | _ => 0
def nums (l : List Nat) : List Int := l.map (fun (i : Nat) => (i : Int))
theorem nums_len (l : List Nat) : (nums l).length = l.length := by unfold nums; simp
theorem nums_snoc (l : List Nat) (i : Nat) : nums (l ++ [i]) = nums l ++ [(i : Int)] := by unfold nums; simp

/-- What the reference answers for the chain that begins at a0. -/
def ChainSaid (t : TableD) (a0 : Int) (w : World) (r : Ending) (w' : World) : Prop := ∃ (l : List Nat) (ok : Bool) (A : Option Addr) (c : Nat), r = .returned (.tuple #[.slice A l.length c, .bool ok]) ∧ (ok = true → Chain t.frames a0 l) ∧ (ok = false → ∀ l', ¬ Chain t.frames a0 l') ∧ l.length ≤ t.frames.length ∧ Rd w' A (nums l) ∧ Ex w w'

set_option maxHeartbeats 4000000 in
theorem l3Chain_c (t : TableD) (A : Option Addr) (c : Nat) (B : Option Addr) (d b : Nat) (a0 : Int) (w : World) (hx : Rd w A t.buckets) (hy : Rd w B t.frames) (hb : t.buckets[b]? = some a0) (hn : t.buckets.length ≤ 1048576) (hm : t.frames.length ≤ 1048576) :
    Calls Tryd.prog 87 #[.agg #[.slice A t.buckets.length c, .slice B t.frames.length d], .int .i64 b] w (ChainSaid t a0 w) := by
  obtain ⟨i0, hi, hz0, hz1, hz2⟩ := info_parts infoMInt
  have HX := Lib.hid hx
  have HY := Lib.hid hy
  have HBK := Lib.hid hb
  have hbl : b < t.buckets.length := getElem?_lt hb
  obtain ⟨n, hn1⟩ : ∃ n, n = t.frames.length := ⟨_, rfl⟩
  obtain ⟨m, hm1⟩ : ∃ m, m = t.buckets.length := ⟨_, rfl⟩
  have HN := Lib.hid hn1
  have HM := Lib.hid hm1
  rw [← hn1] at hm ⊢
  rw [← hm1] at hn hbl ⊢
  obtain ⟨b1, o1, a1, rfl, hb1, ha1, g0⟩ := HX.out.int (k := b) (by have := HM.out; omega)
  have e : a1 = a0 := by rw [hb] at ha1; injection ha1 with e; exact e.symm
  subst e
  clear hx hy hb hn1 hm1 ha1
  go_enter Tryd.func87, Tryd.ntmps87
  go_wp2
  clear g0
  go_loopw [6, 7] (fun q i wr => ∃ (pre : List Nat) (a : Int) (A' : Option Addr) (c' : Nat), i = .int .i64 a ∧ q = .slice A' pre.length c' ∧ Fr 3 wr (w.heap.size + 1) A' c' (nums pre) ∧ pre.length ≤ n ∧ Trail t.frames a1 pre a ∧ Blk wr w.heap.size 26 [.slice (some ⟨b1, o1, none⟩) m c, .slice B n d] ∧ Ex w wr ∧ w.heap.size + 1 ≤ wr.heap.size) (fun q _ _ => n + 1 - lenOf q)
  case atStart => exact ⟨[], a1, _, 0, rfl, rfl, Fr.none_ _ _ _ _, Nat.zero_le _, Trail.start _ _, (Blk.new _ _ _).alloc _, ((Ex.refl _).alloc _).alloc _, by simp⟩
  case round =>
    obtain ⟨pre, a, A', c', rfl, rfl, hf, hl, htr, hk, hex, hsz⟩ := hrel
    have HF := Lib.hid hf
    have HT := Lib.hid htr
    have KX := Lib.hid hk
    have HE := Lib.hid hex
    have HSZ := Lib.hid hsz
    clear hf htr hk hex hsz
    obtain ⟨q0, q1⟩ := KX.out.c2
    have jX := KX.out.lt
    by_cases ha : a = -1
    · subst ha
      go_wp2
      go_ret2
      exact ⟨pre, true, A', c', rfl, fun _ => HT.out.ends, (fun h => by cases h), by rw [← HN.out]; exact hl, HF.out.rd, HE.out⟩
    have hne : (a != -1) = true := by simpa using ha
    have HA := Lib.hid ha
    have hout : ∀ (w' : World), Ex wr w' → (∀ l', ¬ Chain t.frames a1 l') → ChainSaid t a1 w (.returned (.tuple #[.slice A' pre.length c', .bool false])) w' := fun w' he h => ⟨pre, false, A', c', rfl, (fun h => by cases h), fun _ => h, by rw [← HN.out]; exact hl, HF.out.rd.ex he, HE.out.trans he⟩
    have HOUT := Lib.hid hout
    clear hout
    by_cases h1 : a < 0
    · go_wp2
      go_ret2
      exact HOUT.out _ (Ex.refl _) (HT.out.bad (fun i f e _ => by omega) HA.out)
    obtain ⟨i, rfl⟩ := Int.eq_ofNat_of_zero_le (show 0 ≤ a by omega)
    by_cases h2 : n ≤ i
    · go_wp2
      go_ret2
      exact HOUT.out _ (Ex.refl _) (HT.out.bad (fun j f e hf => by have := getElem?_lt hf; have := HN.out; omega) HA.out)
    have h2' : i < n := by omega
    by_cases h3 : n ≤ pre.length
    · go_wp2
      go_ret2
      exact HOUT.out _ (Ex.refl _) (HT.out.long (by rw [← HN.out]; exact h3) HA.out)
    have h3' : pre.length < n := by omega
    obtain ⟨b2, o2, f, rfl, hb2, hfi, k0, k1, k2, k3, k4⟩ := (HY.out.ex HE.out).frame (k := i) (by have := HN.out; omega)
    have HFI := Lib.hid hfi
    clear hfi
    cases hu : f.used
    · rw [hu] at k0
      have HU := Lib.hid hu
      clear hu
      go_wp2
      go_ret2
      exact HOUT.out _ (Ex.refl _) (HT.out.bad (fun j g e hg => by
        have e2 : i = j := by omega
        subst e2
        rw [HFI.out] at hg
        injection hg with hg
        rw [← hg]; exact HU.out) HA.out)
    · rw [hu] at k0
      have HU := Lib.hid hu
      clear hu
      have h63 : pre.length + 1 ≤ maxLen := by simp [maxLen]; omega
      have hby : (pre.length + 1) * 8 ≤ 140737488355328 := by omega
      have HLN := Lib.hid (nums_len pre).symm
      have HXE : Hid (Rd wr (some ⟨b2, o2, none⟩) t.frames) := Lib.hid (HY.out.ex HE.out)
      go_wp2_with (at_builtin; refine wpList_append_fr (α := Int) rfl _ _ 23 rfl 3 i0 _ 8 (w.heap.size + 1) Tryd.underlying23 hi hz0 hz1 hz2 rfl A' c' pre.length (nums pre) HLN.out rfl (HF.out.alloc _) _ 1 1 [(i : Int)] rfl rfl (Bk.new wr 3 [(i : Int)]).rd h63 hby (Nat.le_trans HSZ.out (by simp)) ?_)
      intro A6 c6 w6 happ
      have HAP := Lib.hid happ
      have KX6 : Hid (Blk w6 w.heap.size 26 [.slice (some ⟨b1, o1, none⟩) m c, .slice (some ⟨b2, o2, none⟩) n d]) := Lib.hid ((KX.out.alloc _).grown HAP.out.grown (fun e => by have := HF.out.row _ e.symm; omega))
      have HE6 : Hid (Ex w w6) := Lib.hid ((HE.out.alloc _).grown HAP.out.grown (fun g hg => by have := HF.out.row _ hg; omega))
      have hw6 : wr.heap.size ≤ w6.heap.size := by have := HAP.out.grown.size; simp at this; omega
      clear happ q0 q1 jX k0 k1 k2 k3 k4
      obtain ⟨q0, q1⟩ := KX6.out.c2
      have jX := KX6.out.lt
      obtain ⟨b3, o3, g, e3, hb3, hgi, k0, k1, k2, k3, k4⟩ := (HY.out.ex HE6.out).frame (k := i) (by have := HN.out; omega)
      cases e3
      have e : g = f := by rw [HFI.out] at hgi; injection hgi with e; exact e.symm
      subst e
      clear hgi
      go_wp2
      go_roundw
      case rel => exact ⟨pre ++ [i], g.next, A6, c6, rfl, by simp, by rw [nums_snoc]; exact HAP.out.fr, by simp; omega, HT.out.step HFI.out HU.out, KX6.out, HE6.out, by have := HSZ.out; omega⟩
      case measure => simp [lenOf]; omega
end Go.Proofs.YtmipkeabfglfaaaDoor
/- A call of a function as one step of a region that draws its order. -/
namespace Go.Proofs.YtmipkeabfglfaaaDoor
open Go.ChangeShapes Go.WideShapes Go.ChangeAt Go.RowKit

theorem enters {P : Program} {f : FuncId} {fn : Func} (hf : P.funcs[f]? = some fn) (hn : (fn.name == "runtime.NumGoroutine") = false) (hb : fn.body.isNone = false) (args : Array Value) (w : World) :
    (callFunc f args).run P w = .ok (.enter f args) w := by
  have h1 : fn.name ≠ "runtime.NumGoroutine" := by simpa using hn
  have h2 : ¬ fn.body = none := fun e => by rw [e] at hb; cases hb
  simp [callFunc, go_sem, hf, h1, h2]
theorem step_call {P : Program} {w : World} {ops : Array Oper} {o : Oper} {a : Act} {K : Act → World → Prop} {Q : Exit → Act → World → Prop} {X : Prop} (hgd : o.guard = none) {f : FuncId} (hen : ∀ (args : Array Value) (w : World), (callFunc f args).run P w = .ok (.enter f args) w) (xs : Array Operand) (ts : Array TypeId)
    (ho : o.op = .call { callee := .value (.func f), args := xs, argTypes := ts }) (vs : Array Value) (hv : xs.toList.map a.eval = vs.toList) {R : Ending → World → Prop} (hc : Calls P f vs w R)
    (h : ∀ e w', R e w' → ∃ v, e = .returned v ∧ K (a.put o.dst v) w') : if Region.wanted o (yielded ops a.tmps) = true then Oper.wp P o a w K Q else X := by
  have hw : Region.wanted o (yielded ops a.tmps) = true := by simp [Region.wanted, hgd]
  rw [if_pos hw]
  have hv' : xs.map a.eval = vs := Array.ext' (by rw [Array.toList_map]; exact hv)
  have he : (execOp a.eval o).run P w = .ok (.enter f vs) w := by
    rw [← hv']
    simp [execOp, ho, resolve, invoke, Act.eval, go_sem, hen]
  unfold Oper.wp
  rw [he, Oper.upon_enter]
  refine hc.mono fun e w' hr => ?_
  obtain ⟨v, rfl, hk⟩ := h e w' hr
  exact hk
theorem step_call_gu {P : Program} {w : World} {ops : Array Oper} {o : Oper} {a : Act} {K : Act → World → Prop} {Q : Exit → Act → World → Prop} {X : Prop} (hw : Region.wanted o (yielded ops a.tmps) = true) {f : FuncId} (hen : ∀ (args : Array Value) (w : World), (callFunc f args).run P w = .ok (.enter f args) w) (xs : Array Operand) (ts : Array TypeId)
    (ho : o.op = .call { callee := .value (.func f), args := xs, argTypes := ts }) (vs : Array Value) (hv : xs.toList.map a.eval = vs.toList) {R : Ending → World → Prop} (hc : Calls P f vs w R)
    (h : ∀ e w', R e w' → ∃ v, e = .returned v ∧ K (a.put o.dst v) w') : if Region.wanted o (yielded ops a.tmps) = true then Oper.wp P o a w K Q else X := by
  rw [if_pos hw]
  have hv' : xs.map a.eval = vs := Array.ext' (by rw [Array.toList_map]; exact hv)
  have he : (execOp a.eval o).run P w = .ok (.enter f vs) w := by
    rw [← hv']
    simp [execOp, ho, resolve, invoke, Act.eval, go_sem, hen]
  unfold Oper.wp
  rw [he, Oper.upon_enter]
  refine hc.mono fun e w' hr => ?_
  obtain ⟨v, rfl, hk⟩ := h e w' hr
  exact hk
end Go.Proofs.YtmipkeabfglfaaaDoor
/- Moves of a walk through a region that draws its order, in few words. -/
namespace Go.Proofs.YtmipkeabfglfaaaDoor
open Go.ChangeShapes Go.WideShapes Go.ChangeAt Go.RowKit
set_option linter.unusedVariables false
set_option maxRecDepth 100000
section
variable {P : Program} {ops : Array Oper} {Q : Exit → Act → World → Prop} {md : Region.Mode} {S : World → Prop}
/-- Number i is taken first: it yields. -/
theorem tk {fuel : Nat} {listed l' : Array Bool} {a a' : Act} {w : World} {oi : Oper} {v : Value} (i : Nat) (h : wpAnyH P md ops Q S fuel l' a' w)
    (hi : ops[i]? = some oi := by (conv => lhs; whnf; arg 1; whnf))
    (hs : Region.noSelect ops = true := by kernel_rfl) (hf : Region.free md ops listed i = true := by kernel_rfl) (hr : (Region.ready md ops listed).contains i = true := by kernel_rfl)
    (hQ : ∀ c a w, Q (.panic c) (a.put oi.dst v) w → Q (.panic c) a w := by exact fun _ _ _ h => h)
    (hy : YieldsIf P ops S oi v a := by (refine Or.inl ⟨by rfl, ?_⟩; intro w hSw; (try dsimp only at hSw); first | (go_simp; done) | (go_simp; with_reducible rfl)))
    (hS : S w := by assumption)
    (hl : listed.setIfInBounds i true = l' := by first | (simp only [List.setIfInBounds_toArray, List.set_cons_zero, List.set_cons_succ]; done) | (simp only [List.setIfInBounds_toArray, List.set_cons_zero, List.set_cons_succ]; exact rfl) | exact rfl)
    (ha : a.put oi.dst v = a' := by first | (simp only [Act.put, List.setIfInBounds_toArray, List.set_cons_zero, List.set_cons_succ]; done) | (simp only [Act.put, List.setIfInBounds_toArray, List.set_cons_zero, List.set_cons_succ]; exact rfl) | exact rfl) :
    wpAnyH P md ops Q S (fuel + 1) listed a w := by
  subst hl ha
  exact wpAnyH_take hi hs hf hr hQ hy hS h
/-- Number i is taken first: its guard is off. -/
theorem tn {fuel : Nat} {listed l' : Array Bool} {a a' : Act} {w : World} {oi : Oper} (i : Nat) (h : wpAnyH P md ops Q S fuel l' a' w)
    (hi : ops[i]? = some oi := by (conv => lhs; whnf; arg 1; whnf))
    (hs : Region.noSelect ops = true := by kernel_rfl) (hf : Region.free md ops listed i = true := by kernel_rfl) (hr : (Region.ready md ops listed).contains i = true := by kernel_rfl)
    (hQ : ∀ c a w, Q (.panic c) (a.put oi.dst undef) w → Q (.panic c) a w := by exact fun _ _ _ h => h)
    (hw : Region.wanted oi (yielded ops a.tmps) = false := by rfl)
    (hS : S w := by assumption)
    (hl : listed.setIfInBounds i true = l' := by first | (simp only [List.setIfInBounds_toArray, List.set_cons_zero, List.set_cons_succ]; done) | (simp only [List.setIfInBounds_toArray, List.set_cons_zero, List.set_cons_succ]; exact rfl) | exact rfl)
    (ha : a.put oi.dst undef = a' := by first | (simp only [Act.put, List.setIfInBounds_toArray, List.set_cons_zero, List.set_cons_succ]; done) | (simp only [Act.put, List.setIfInBounds_toArray, List.set_cons_zero, List.set_cons_succ]; exact rfl) | exact rfl) :
    wpAnyH P md ops Q S (fuel + 1) listed a w := by
  subst hl ha
  exact wpAnyH_take hi hs hf hr hQ (Or.inr ⟨hw, rfl⟩) hS h
end
end Go.Proofs.YtmipkeabfglfaaaDoor
/- TableValid of the reference. -/
namespace Go.Proofs.YtmipkeabfglfaaaDoor
open Go.ChangeShapes Go.WideShapes Go.ChangeAt Go.RowKit
open Rec (sz cs)
set_option linter.unusedVariables false
set_option maxRecDepth 100000

theorem fieldsKeyV : Tryd.prog.underlying 53 = some (.struct (Tryd.prog.fieldsOf 53)) := by kernel_rfl
theorem heldKeyV : Tryd.prog.stoodInHeld 53 = false := by kernel_rfl
theorem guardKeyV : Tryd.prog.eqGuardType Tryd.prog.depth 53 = false := by kernel_rfl
theorem eqIn_keyV (x y : KeyD) (w : World) : (Op.equalIn 10000 53 (.agg #[.int .i64 x.space, .int .i64 x.page]) (.agg #[.int .i64 y.space, .int .i64 y.page])).run Tryd.prog w = .ok (eqB x y) w := by
  obtain ⟨a, b⟩ := x
  obtain ⟨c, d⟩ := y
  rw [run_equalIn_agg w 9999 _ _ _ fieldsKeyV heldKeyV]
  simp [go_sem, Tryd.underlying53]
  by_cases h1 : a = c <;> by_cases h2 : b = d <;> simp [eqB, h1, h2]
theorem eql_keyV (x y : KeyD) (w : World) : (binOp .eql 53 (.agg #[.int .i64 x.space, .int .i64 x.page]) (.agg #[.int .i64 y.space, .int .i64 y.page])).run Tryd.prog w = .ok (.bool (eqB x y)) w := by
  rw [run_eql_struct, eqIn_keyV]; rfl
theorem usedN_le (fs : List FrameD) (k : Nat) : usedN fs k ≤ k := by
  unfold usedN
  exact Nat.le_trans (List.length_filter_le _ _) (by rw [List.length_take]; omega)

set_option maxHeartbeats 4000000 in
theorem tableS_c (t : TableD) (A : Option Addr) (c : Nat) (B : Option Addr) (d : Nat) (w : World) (hx : Rd w A t.buckets) (hy : Rd w B t.frames) (hn : t.buckets.length ≤ 1048576) (hm : t.frames.length ≤ 1048576) :
    Calls Tryd.prog 42 #[.agg #[.slice A t.buckets.length c, .slice B t.frames.length d]] w fun r w' => r = .returned (.bool (tableV t)) ∧ Ex w w' := by
  have CB := Lib.hid (fun w => l2Buckets_c (t.buckets.length : Int) w)
  by_cases hh : TableHead t
  rotate_left
  · rw [tableV_no (fun h => hh h.1)]
    have h3 : t.frames.length < 1 ∨ 16 < t.frames.length ∨ ((1 ≤ t.frames.length ∧ t.frames.length ≤ 16) ∧ bkB (t.buckets.length : Int) = false) := by
      unfold TableHead at hh
      by_cases g : 1 ≤ t.frames.length ∧ t.frames.length ≤ 16
      · exact .inr (.inr ⟨g, bkB_not.2 (by omega)⟩)
      · omega
    generalize t.frames.length = n at h3 hm ⊢
    generalize t.buckets.length = m at CB hn h3 ⊢
    clear hh hx hy
    rcases h3 with h1 | h1 | ⟨⟨h1, h2⟩, h3⟩
    · go_enter Tryd.func42, Tryd.ntmps42
      go_wp2
      go_ret
      exact ⟨rfl, (by repeat' (first | with_reducible exact Ex.refl _ | with_reducible refine Ex.alloc ?_ _ | with_reducible refine Ex.drew ?_ | with_reducible refine Ex.put ?_ (by omega) _))⟩
    · go_enter Tryd.func42, Tryd.ntmps42
      go_wp2
      go_ret
      exact ⟨rfl, (by repeat' (first | with_reducible exact Ex.refl _ | with_reducible refine Ex.alloc ?_ _ | with_reducible refine Ex.drew ?_ | with_reducible refine Ex.put ?_ (by omega) _))⟩
    · rw [h3] at CB
      clear h3
      go_enter Tryd.func42, Tryd.ntmps42
      go_wp2_with fail
      refine (CB.out _).mono ?_
      rintro r w1 ⟨rfl, rfl⟩
      go_wp2
      go_ret
      exact ⟨rfl, (by repeat' (first | with_reducible exact Ex.refl _ | with_reducible refine Ex.alloc ?_ _ | with_reducible refine Ex.drew ?_ | with_reducible refine Ex.put ?_ (by omega) _))⟩
  rw [show bkB (t.buckets.length : Int) = true from bkB_iff.2 (by unfold TableHead at hh; omega)] at CB
  have HH := Lib.hid hh
  obtain ⟨⟨hn1, hn2⟩, hm1, hm2⟩ := hh
  have HX := Lib.hid hx
  have HY := Lib.hid hy
  obtain ⟨n, en⟩ : ∃ n, n = t.frames.length := ⟨_, rfl⟩
  obtain ⟨m, em⟩ : ∃ m, m = t.buckets.length := ⟨_, rfl⟩
  have HN := Lib.hid en
  have HM := Lib.hid em
  rw [← en] at hn1 hn2 ⊢
  rw [← em] at hm1 hm2 CB ⊢
  have HNO : Hid (∀ w', Ex w w' → ¬ TableOk t → (Ending.returned (.bool false) = .returned (.bool (tableV t)) ∧ Ex w w')) := Lib.hid (fun w' h1 h2 => ⟨ret_bool (tableV_no h2).symm, h1⟩)
  have CC := Lib.hid (fun b a0 w h1 h2 hb => l3Chain_c t A c B d b a0 w h1 h2 hb hn hm)
  rw [← en, ← em] at CC
  have CES : Hid (∀ (args : Array Value) (w : World), (callFunc 88 args).run Tryd.prog w = .ok (.enter 88 args) w) := Lib.hid (enters Tryd.func88 (by kernel_rfl) (by kernel_rfl))
  clear hx hy hn hm en em
  go_enter Tryd.func42, Tryd.ntmps42
  go_wp2_with fail
  refine (CB.out _).mono ?_
  rintro r w1 ⟨rfl, rfl⟩
  clear CB
  go_wp2
  go_loopw [3, 4] (fun u i wr => ∃ k : Nat, k ≤ n ∧ i = .int .i64 k ∧ u = .int .i64 (usedN t.frames k) ∧ FramesUp t.frames k ∧ Blk wr w.heap.size 26 [.slice A m c, .slice B n d] ∧ Ex w wr) (fun _ i _ => n - (intOf i).toNat)
  case atStart => exact ⟨0, Nat.zero_le _, rfl, rfl, framesUp_zero _, Blk.new _ _ _, (Ex.refl _).alloc _⟩
  case round =>
    obtain ⟨k, hk, rfl, rfl, hup, hbk, hex⟩ := hrel
    have HU := Lib.hid hup
    have KX := Lib.hid hbk
    have HE := Lib.hid hex
    clear hup hbk hex
    by_cases hlt : k < n
    · obtain ⟨b2, o2, f, rfl, hb2, hfi, k0, k1, k2, k3, k4⟩ := (HY.out.ex HE.out).frame (k := k) (by have := HN.out; omega)
      have HFI := Lib.hid hfi
      obtain ⟨q0, q1⟩ := KX.out.c2
      have jX := KX.out.lt
      have C1 := Lib.hid (fun w => l3Frame_c f w)
      cases hfb : frameB f
      · rw [hfb] at C1
        clear hfi
        go_wp2_with fail
        refine (C1.out _).mono ?_
        rintro r w2 ⟨rfl, he⟩
        have HE2 := Lib.hid (HE.out.trans he)
        have HB := Lib.hid hfb
        clear he hfb
        go_wp2
        go_ret
        exact HNO.out _ HE2.out (not_frames HFI.out (fun h => by have := frameB_iff.2 h.1; rw [HB.out] at this; cases this))
      · rw [hfb] at C1
        have HB : Hid (frameOk f) := Lib.hid (frameB_iff.1 hfb)
        clear hfi hfb
        go_wp2_with fail
        refine (C1.out _).mono ?_
        rintro r w2 ⟨rfl, he⟩
        have HE2 := Lib.hid (HE.out.trans he)
        have KX2 := Lib.hid (KX.out.ex he)
        clear he q0 q1 jX k0 k1 k2 k3 k4 C1 KX
        obtain ⟨q0, q1⟩ := KX2.out.c2
        have jX := KX2.out.lt
        obtain ⟨b3, o3, g, e3, hb3, hgi, k0, k1, k2, k3, k4⟩ := (HY.out.ex HE2.out).frame (k := k) (by have := HN.out; omega)
        cases e3
        have e : f = g := by rw [HFI.out] at hgi; injection hgi
        subst e
        clear hgi
        have hul := usedN_le t.frames k
        have HUS := Lib.hid (usedN_succ HFI.out)
        generalize usedN t.frames k = un at hul HUS ⊢
        cases hu : f.used
        · have HFU := Lib.hid hu
          rw [hu] at k0
          clear hu
          go_wp2
          clear q0 q1 jX k0 k1 k2 k3 k4
          go_loopw [5] (fun i wq => ∃ j : Nat, j ≤ k ∧ i = .int .i64 j ∧ Ex w2 wq) (fun i _ => k - (intOf i).toNat)
          case atStart => exact ⟨0, Nat.zero_le _, rfl, Ex.refl _⟩
          case round =>
            obtain ⟨j, hj, rfl, hq⟩ := hrel
            have HQ := Lib.hid hq
            skip
            clear hq
            by_cases hjk : j < k
            · obtain ⟨q0, q1⟩ := (KX2.out.ex HQ.out).c2
              have jX := (KX2.out.ex HQ.out).lt
              obtain ⟨b4, o4, g4, e4, hb4, hg4, k0, k1, k2, k3, k4⟩ := (HY.out.ex (HE2.out.trans HQ.out)).frame (k := k) (by have := HN.out; omega)
              cases e4
              have e : g4 = f := by rw [HFI.out] at hg4; injection hg4 with e; exact e.symm
              rw [e] at k0 k1 k2 k3 k4
              rw [HFU.out] at k0
              clear hg4 e
              go_wp2_with fail
              go_quiet (fail)
              go_wp2
              go_roundw
              case rel => exact ⟨j + 1, by omega, by go_num, HQ.out.drewN _⟩
              case measure => simp [intOf]; omega
            · obtain rfl : j = k := by omega
              go_wp2
              go_roundw
              case rel => exact ⟨j + 1, by omega, by go_num, by rw [HUS.out, HFU.out]; simp, framesUp_succ HU.out HFI.out HB.out (fun j' g hj' hg h1 => by rw [HFU.out] at h1; cases h1), KX2.out.ex HQ.out, HE2.out.trans HQ.out⟩
              case measure => simp [intOf]; omega
        · have HFU := Lib.hid hu
          rw [hu] at k0
          clear hu
          go_wp2
          clear q0 q1 jX k0 k1 k2 k3 k4
          go_loopw [5] (fun i wq => ∃ j : Nat, j ≤ k ∧ i = .int .i64 j ∧ Ex w2 wq ∧ ∀ j' g, j' < j → t.frames[j']? = some g → g.used = true → g.key ≠ f.key) (fun i _ => k - (intOf i).toNat)
          case atStart => exact ⟨0, Nat.zero_le _, rfl, Ex.refl _, fun j' g h => by omega⟩
          case round =>
            obtain ⟨j, hj, rfl, hq, hall⟩ := hrel
            have HQ := Lib.hid hq
            have HALL := Lib.hid hall
            clear hq hall
            by_cases hjk : j < k
            · obtain ⟨q0, q1⟩ := (KX2.out.ex HQ.out).c2
              have jX := (KX2.out.ex HQ.out).lt
              obtain ⟨b4, o4, g4, e4, hb4, hg4, k0, k1, k2, k3, k4⟩ := (HY.out.ex (HE2.out.trans HQ.out)).frame (k := k) (by have := HN.out; omega)
              cases e4
              have e : g4 = f := by rw [HFI.out] at hg4; injection hg4 with e; exact e.symm
              rw [e] at k0 k1 k2 k3 k4
              rw [HFU.out] at k0
              clear hg4 e
              obtain ⟨b5, o5, g, e5, hb5, hgj, p0, p1, p2, p3, p4⟩ := (HY.out.ex (HE2.out.trans HQ.out)).frame (k := j) (by have := HN.out; omega)
              cases e5
              have HGJ := Lib.hid hgj
              clear hgj
              cases hgu : g.used
              · have HGU := Lib.hid hgu
                rw [hgu] at p0
                clear hgu
                go_wp2_with fail
                go_quiet (fail)
                go_wp2
                go_roundw
                case rel => exact ⟨j + 1, by omega, by go_num, HQ.out.drewN _, fun j' g' hj' hg' h1 => by
                  by_cases e : j' = j
                  · subst e
                    rw [HGJ.out] at hg'
                    injection hg' with hg'
                    rw [← hg', HGU.out] at h1
                    cases h1
                  · exact HALL.out j' g' (by omega) hg' h1⟩
                case measure => simp [intOf]; omega
              · have HGU := Lib.hid hgu
                rw [hgu] at p0
                have hz := eql_keyV g.key f.key
                have hgd := guardKeyV
                cases hkk : eqB g.key f.key
                · rw [hkk] at hz
                  have HKK := Lib.hid (eqB_false.1 hkk)
                  clear hgu hkk
                  go_wp2_with fail
                  go_quiet (fail)
                  go_wp2
                  go_roundw
                  case rel => exact ⟨j + 1, by omega, by go_num, HQ.out.drewN _, fun j' g' hj' hg' h1 => by
                    by_cases e : j' = j
                    · subst e
                      rw [HGJ.out] at hg'
                      injection hg' with hg'
                      rw [← hg']
                      exact HKK.out
                    · exact HALL.out j' g' (by omega) hg' h1⟩
                  case measure => simp [intOf]; omega
                · rw [hkk] at hz
                  have HKK := Lib.hid (eqB_true.1 hkk)
                  clear hgu hkk
                  go_wp2_with fail
                  go_quiet (fail)
                  go_wp2
                  go_ret
                  exact HNO.out _ ((HE2.out.trans HQ.out).drewN _) (not_frames HFI.out (fun h => h.2 j g hjk HGJ.out HFU.out HGU.out HKK.out))
            · obtain rfl : j = k := by omega
              go_wp2
              go_roundw
              case rel => exact ⟨j + 1, by omega, by go_num, by rw [HUS.out, HFU.out]; exact congrArg _ (by simp), framesUp_succ HU.out HFI.out HB.out (fun j' g hj' hg _ => HALL.out j' g hj' hg), KX2.out.ex HQ.out, HE2.out.trans HQ.out⟩
              case measure => simp [intOf]; omega
    · -- BUCKETS
      obtain rfl : k = n := by omega
      have HU3 : Hid (FramesUp t.frames t.frames.length) := Lib.hid (by rw [← HN.out]; exact HU.out)
      have hul := usedN_le t.frames k
      have HUN : Hid (usedN t.frames k = usedN t.frames t.frames.length) := Lib.hid (by rw [← HN.out])
      generalize usedN t.frames k = un at hul HUN ⊢
      obtain ⟨q0, q1⟩ := KX.out.c2
      have jX := KX.out.lt
      clear HU
      go_wp2
      clear q0 q1 jX
      go_loopw [3, 6] (fun u i wb => ∃ (b : Nat) (ls : List (List Nat)), b ≤ m ∧ i = .int .i64 b ∧ u = .int .i64 ((un : Int) - (sumL ls : Int)) ∧ Buckets t b ls ∧ sumL ls ≤ 16 * b ∧ Ex wr wb) (fun _ i _ => m - (intOf i).toNat)
      case atStart => exact ⟨0, [], Nat.zero_le _, rfl, by simp [sumL], Buckets.zero _, Nat.zero_le _, Ex.refl _⟩
      case round =>
        obtain ⟨b, ls, hb, rfl, rfl, hbu, hsl, hexb⟩ := hrel
        have HBU := Lib.hid hbu
        have HEB := Lib.hid hexb
        have HE3 := Lib.hid (HE.out.trans hexb)
        have KX2 := Lib.hid (KX.out.ex hexb)
        clear hbu hexb
        obtain ⟨q0, q1⟩ := KX2.out.c2
        have jX := KX2.out.lt
        by_cases hbm : b < m
        · obtain ⟨a0, ha0⟩ : ∃ a, t.buckets[b]? = some a := ⟨_, List.getElem?_eq_getElem (by have := HM.out; omega)⟩
          have HA0 := Lib.hid ha0
          clear ha0
          generalize hsm : sumL ls = sl at hsl ⊢
          have HSM := Lib.hid hsm
          clear hsm
          go_wp2_with fail
          refine (CC.out b a0 _ (HX.out.ex HE3.out) (HY.out.ex HE3.out) HA0.out).mono ?_
          rintro r w3 ⟨l, ok, A3, c3, rfl, hok, hno, hll, hrd, he⟩
          have HOK := Lib.hid hok
          have HNOC := Lib.hid hno
          have HRD := Lib.hid hrd
          have HE4 := Lib.hid (HE3.out.trans he)
          have HEB3 := Lib.hid (HEB.out.trans he)
          have KX3 := Lib.hid (KX2.out.ex he)
          have hll' : l.length ≤ k := by have := HN.out; omega
          clear hok hno hrd he hll q0 q1 jX KX2
          cases ok
          · have HNC := Lib.hid (HNOC.out rfl)
            clear HNOC HOK
            go_wp2
            go_ret
            exact HNO.out _ HE4.out (not_nochain HA0.out HNC.out)
          have HCH := Lib.hid (HOK.out rfl)
          clear HOK HNOC
          go_wp2
          go_loopw [9] (fun i wq => ∃ j : Nat, j ≤ l.length ∧ i = .int .i64 j ∧ Ex w3 wq ∧ ∀ (j' x : Nat) (f : FrameD), j' < j → l[j']? = some x → t.frames[x]? = some f → hashK f.key t.buckets.length = b) (fun i _ => l.length - (intOf i).toNat)
          case atStart => exact ⟨0, Nat.zero_le _, rfl, Ex.refl _, fun j' x f h => by omega⟩
          case round =>
            obtain ⟨j, hj, rfl, hq, hall⟩ := hrel
            have HQ := Lib.hid hq
            have HALL := Lib.hid hall
            clear hq hall
            by_cases hjl : j < l.length
            · obtain ⟨b5, o5, y, rfl, hb5, hyj, hcy⟩ := (HRD.out.ex HQ.out).int (k := j) (by rw [nums_len]; exact hjl)
              obtain ⟨x, hxj⟩ : ∃ x, l[j]? = some x := ⟨_, List.getElem?_eq_getElem hjl⟩
              have e : y = (x : Int) := by unfold nums at hyj; rw [List.getElem?_map, hxj] at hyj; injection hyj with e; exact e.symm
              subst e
              obtain ⟨f, hfx, hfu⟩ := HCH.out.in_ (List.mem_of_getElem? hxj)
              have hxn : x < k := by have := getElem?_lt hfx; have := HN.out; omega
              have hkok : keyOk f.key := ((HU3.out x f (getElem?_lt hfx) hfx).1.2 hfu).1
              obtain ⟨b2, o2, f', rfl, hb2, hfx', k0, k1, k2, k3, k4⟩ := (HY.out.ex (HE4.out.trans HQ.out)).frame (k := x) (by have := HN.out; omega)
              have e : f' = f := by rw [hfx] at hfx'; injection hfx' with e; exact e.symm
              subst e
              have HXJ := Lib.hid hxj
              have HFX := Lib.hid hfx
              have FK : Hid (∀ w', Ex wr w' → (w'.cell? ⟨w.heap.size, 0, none⟩ = some (.slice A m c) ∧ w'.cell? ⟨w.heap.size, 1, none⟩ = some (.slice (some ⟨b2, o2, none⟩) k d) ∧ w'.cell? ⟨b5, o5 + j, none⟩ = some (.int .i64 x) ∧ w'.cell? ⟨b2, o2 + x * 5 + 1, none⟩ = some (.int .i64 f'.key.space) ∧ w'.cell? ⟨b2, o2 + x * 5 + 2, none⟩ = some (.int .i64 f'.key.page))) := Lib.hid (fun w' h => ⟨((KX3.out.ex HQ.out).ex h).c2.1, ((KX3.out.ex HQ.out).ex h).c2.2, (h.cell hb5).trans hcy, (h.cell hb2).trans k1, (h.cell hb2).trans k2⟩)
              have CH := Lib.hid (fun w => hashS_c f'.key (m : Int) w hkok (by omega) (by omega))
              have HHV : Hid (hashK f'.key (m : Int) = hashK f'.key t.buckets.length) := Lib.hid (by rw [← HM.out])
              generalize hashK f'.key (m : Int) = hv at CH HHV
              clear hyj hxj hfx hfx' k0 k1 k2 k3 k4 hcy hkok hfu
              by_cases ehv : hv = (b : Int)
              · subst ehv
                obtain ⟨m0, m1, m2, m3, m4⟩ := FK.out wr (Ex.refl _)
                have jX := (KX3.out.ex HQ.out).lt
                go_wp2_with fail
                clear m0 m1 m2 m3 m4 jX
                refine wp_region_held_drew (S := (fun w' => (w'.cell? ⟨w.heap.size, 0, none⟩ = some (.slice A m c) ∧ w'.cell? ⟨w.heap.size, 1, none⟩ = some (.slice (some ⟨b2, o2, none⟩) k d) ∧ w'.cell? ⟨b5, o5 + j, none⟩ = some (.int .i64 x) ∧ w'.cell? ⟨b2, o2 + x * 5 + 1, none⟩ = some (.int .i64 f'.key.space) ∧ w'.cell? ⟨b2, o2 + x * 5 + 2, none⟩ = some (.int .i64 f'.key.page)))) (by kernel_rfl) ?r0_hS0 (fun hHeld => ?_)
                case r0_hS0 => exact FK.out _ (Ex.refl _).drew
                refine tk 0 ?_; refine tk 1 ?_; refine tk 2 ?_; refine tk 3 ?_; refine tk 4 ?_; refine tk 5 ?_; refine tk 6 ?_; refine tk 7 ?_; refine tk 8 ?_; refine tk 9 ?_; refine tk 10 ?_; refine tk 11 ?_; refine tk 13 ?_
                refine wpAnyH_ready (rs := [12]) (by kernel_rfl) (by simp) ?_
                refine AllReadyH.cons (o := ?r0_o12) ?r0_ho12 (fun K hK => ?_) AllReadyH.nil
                case r0_ho12 => (conv => lhs; whnf; arg 1; whnf)
                refine step_call_gu rfl CES.out _ _ rfl #[.agg #[  .int .i64 f'.key.space, .int .i64 f'.key.page], .int .i64 m] rfl (CH.out _) ?_; rintro r wa ⟨rfl, hwa⟩; refine ⟨_, rfl, ?_⟩; have hxa := Ex.trans (Ex.refl _).drew hwa
                refine hK.out _ _ ?r0_hS12 (fun hHeld12 => ?_)
                case r0_hS12 => exact FK.out _ hxa
                clear hK K hHeld
                try simp only [Act.put, List.setIfInBounds_toArray, List.set_cons_zero, List.set_cons_succ]
                refine tk 14 ?_
                refine wpAnyH_done (by kernel_rfl) ?_ _
                go_wp2
                go_roundw
                case rel => exact ⟨j + 1, by omega, by go_num, HQ.out.trans hxa, fun j' x' g hj' hx' hg => by
                  by_cases e : j' = j
                  · subst e
                    rw [HXJ.out] at hx'
                    injection hx' with hx'
                    subst hx'
                    rw [HFX.out] at hg
                    injection hg with hg
                    subst hg
                    exact HHV.out.symm
                  · exact HALL.out j' x' g (by omega) hx' hg⟩
                case measure => simp [intOf]; omega
              · have HEHV := Lib.hid ehv
                obtain ⟨m0, m1, m2, m3, m4⟩ := FK.out wr (Ex.refl _)
                have jX := (KX3.out.ex HQ.out).lt
                go_wp2_with fail
                clear m0 m1 m2 m3 m4 jX
                refine wp_region_held_drew (S := (fun w' => (w'.cell? ⟨w.heap.size, 0, none⟩ = some (.slice A m c) ∧ w'.cell? ⟨w.heap.size, 1, none⟩ = some (.slice (some ⟨b2, o2, none⟩) k d) ∧ w'.cell? ⟨b5, o5 + j, none⟩ = some (.int .i64 x) ∧ w'.cell? ⟨b2, o2 + x * 5 + 1, none⟩ = some (.int .i64 f'.key.space) ∧ w'.cell? ⟨b2, o2 + x * 5 + 2, none⟩ = some (.int .i64 f'.key.page)))) (by kernel_rfl) ?r1_hS0 (fun hHeld => ?_)
                case r1_hS0 => exact FK.out _ (Ex.refl _).drew
                refine tk 0 ?_; refine tk 1 ?_; refine tk 2 ?_; refine tk 3 ?_; refine tk 4 ?_; refine tk 5 ?_; refine tk 6 ?_; refine tk 7 ?_; refine tk 8 ?_; refine tk 9 ?_; refine tk 10 ?_; refine tk 11 ?_; refine tk 13 ?_
                refine wpAnyH_ready (rs := [12]) (by kernel_rfl) (by simp) ?_
                refine AllReadyH.cons (o := ?r1_o12) ?r1_ho12 (fun K hK => ?_) AllReadyH.nil
                case r1_ho12 => (conv => lhs; whnf; arg 1; whnf)
                refine step_call_gu rfl CES.out _ _ rfl #[.agg #[  .int .i64 f'.key.space, .int .i64 f'.key.page], .int .i64 m] rfl (CH.out _) ?_; rintro r wa ⟨rfl, hwa⟩; refine ⟨_, rfl, ?_⟩; have hxa := Ex.trans (Ex.refl _).drew hwa
                refine hK.out _ _ ?r1_hS12 (fun hHeld12 => ?_)
                case r1_hS12 => exact FK.out _ hxa
                clear hK K hHeld
                try simp only [Act.put, List.setIfInBounds_toArray, List.set_cons_zero, List.set_cons_succ]
                refine tk 14 ?_
                refine wpAnyH_done (by kernel_rfl) ?_ _
                go_wp2
                go_ret
                exact HNO.out _ ((HE4.out.trans HQ.out).trans hxa) (not_hash HA0.out HCH.out (List.mem_of_getElem? HXJ.out) HFX.out (by rw [← HHV.out]; exact HEHV.out))
            · obtain rfl : j = l.length := by omega
              go_wp2
              go_roundw
              case rel => exact ⟨b + 1, ls ++ [l], by omega, by go_num, by rw [sumL_succ, HSM.out]; exact congrArg _ (by omega), HBU.out.succ HA0.out HCH.out (fun x f hx hf => by
                obtain ⟨j', hj', e⟩ := List.getElem_of_mem hx
                exact HALL.out j' x f hj' (by rw [List.getElem?_eq_getElem hj', e]) hf), by rw [sumL_succ, HSM.out]; omega, HEB3.out.trans HQ.out⟩
              case measure => simp [intOf]; omega
        · obtain rfl : b = m := by omega
          go_wp2
          go_ret
          refine ⟨ret_bool ?_, HE3.out⟩
          rw [Bool.eq_iff_iff, tableV_iff, tableOk_end HH.out HU3.out (HM.out ▸ HBU.out), ← HUN.out]
          simp
          omega
end Go.Proofs.YtmipkeabfglfaaaDoor
/- The frame of a key: l3Find of the reference, find of the program. -/
namespace Go.Proofs.YtmipkeabfglfaaaDoor
open Go.ChangeShapes Go.WideShapes Go.ChangeAt Go.RowKit
open Rec (sz cs)
set_option linter.unusedVariables false
set_option maxRecDepth 100000

set_option maxHeartbeats 4000000 in
theorem l3Find_c (t : TableD) (A : Option Addr) (c : Nat) (B : Option Addr) (d : Nat) (k : KeyD) (w : World) (hx : Rd w A t.buckets) (hy : Rd w B t.frames) (hok : TableOk t) (hk : keyOk k) :
    Calls Tryd.prog 95 #[.agg #[.slice A t.buckets.length c, .slice B t.frames.length d], .agg #[.int .i64 k.space, .int .i64 k.page]] w fun r w' => (∃ s : Int, r = .returned (.tuple #[.int .i64 (findF t k), .int .i64 s])) ∧ Ex w w' := by
  obtain ⟨⟨hn1, hn2⟩, hm1, hm2⟩ := hok.1
  obtain ⟨hv1, hv2⟩ := hashK_range (n := t.buckets.length) hk hm1 hm2
  obtain ⟨b, eb⟩ : ∃ b : Nat, hashK k t.buckets.length = (b : Int) := ⟨(hashK k t.buckets.length).toNat, by omega⟩
  have hbm : b < t.buckets.length := by omega
  obtain ⟨a0, ha0⟩ : ∃ a, t.buckets[b]? = some a := ⟨_, List.getElem?_eq_getElem hbm⟩
  obtain ⟨l0, hl0, _⟩ := hok.bucket ha0
  have HX := Lib.hid hx
  have HY := Lib.hid hy
  have HL0 := Lib.hid hl0
  have CC := Lib.hid (fun w h1 h2 => l3Chain_c t A c B d b a0 w h1 h2 ha0 (by omega) (by omega))
  have CH := Lib.hid (fun w => hashS_c k (t.buckets.length : Int) w hk (by omega) (by omega))
  rw [eb] at CH
  have HIT := Lib.hid (fun x f h1 h2 h3 => @findF_hit t k hok x f h1 h2 h3)
  have HMISS := Lib.hid (fun l hl hno => @findF_miss t k hok b a0 l eb ha0 hl hno)
  obtain ⟨n, en⟩ : ∃ n, n = t.frames.length := ⟨_, rfl⟩
  obtain ⟨m, em⟩ : ∃ m, m = t.buckets.length := ⟨_, rfl⟩
  have HN := Lib.hid en
  rw [← en] at hn1 hn2 CC ⊢
  rw [← em] at hm1 hm2 hbm CC CH ⊢
  generalize findF t k = res at HIT HMISS ⊢
  have CES : Hid (∀ (args : Array Value) (w : World), (callFunc 88 args).run Tryd.prog w = .ok (.enter 88 args) w) := Lib.hid (enters Tryd.func88 (by kernel_rfl) (by kernel_rfl))
  have CEC : Hid (∀ (args : Array Value) (w : World), (callFunc 87 args).run Tryd.prog w = .ok (.enter 87 args) w) := Lib.hid (enters Tryd.func87 (by kernel_rfl) (by kernel_rfl))
  clear hx hy hl0 ha0 eb hv1 hv2 hok hk en em
  go_enter Tryd.func95, Tryd.ntmps95
  go_wp2_with fail
  obtain ⟨w0, hw0⟩ : ∃ w0 : World, w0 = (w.alloc (.cells #[.slice A m c, .slice B n d] 26)).alloc (.cells #[.int .i64 k.space, .int .i64 k.page] 53) := ⟨_, rfl⟩
  obtain ⟨gt, hgt⟩ : ∃ gt : Nat, gt = w.heap.size := ⟨_, rfl⟩
  obtain ⟨gk, hgk⟩ : ∃ gk : Nat, gk = w.heap.size + 1 := ⟨_, rfl⟩
  have K0 : Hid (Blk w0 gt 26 [.slice A m c, .slice B n d]) := Lib.hid (by rw [hw0, hgt]; exact (Blk.new w _ _).alloc _)
  have K1 : Hid (Blk w0 gk 53 [.int .i64 k.space, .int .i64 k.page]) := Lib.hid (by rw [hw0, hgk]; exact Blk.new_at _ _ _ (by simp))
  have E0 : Hid (Ex w w0) := Lib.hid (by rw [hw0]; exact ((Ex.refl w).alloc _).alloc _)
  rw [← hw0]
  try rw [← hgk]
  rw [← hgt]
  clear hw0 hgt hgk
  have FK : Hid (∀ w', Ex w0 w' → (w'.cell? ⟨gt, 0, none⟩ = some (.slice A m c) ∧ w'.cell? ⟨gt, 1, none⟩ = some (.slice B n d) ∧ w'.cell? ⟨gk, 0, none⟩ = some (.int .i64 k.space) ∧ w'.cell? ⟨gk, 1, none⟩ = some (.int .i64 k.page))) := Lib.hid (fun w' h => ⟨(K0.out.ex h).c2.1, (K0.out.ex h).c2.2, (K1.out.ex h).c2.1, (K1.out.ex h).c2.2⟩)
  refine wp_region_held_drew (S := (fun w' => (w'.cell? ⟨gt, 0, none⟩ = some (.slice A m c) ∧ w'.cell? ⟨gt, 1, none⟩ = some (.slice B n d) ∧ w'.cell? ⟨gk, 0, none⟩ = some (.int .i64 k.space) ∧ w'.cell? ⟨gk, 1, none⟩ = some (.int .i64 k.page)))) (by kernel_rfl) ?r0_hS0 (fun hHeld => ?_)
  case r0_hS0 => exact FK.out _ (Ex.refl _).drew
  refine tk 0 ?_; refine tk 1 ?_; refine tk 2 ?_; refine tk 3 ?_; refine tk 4 ?_
  refine wpAnyH_ready (rs := [5]) (by kernel_rfl) (by simp) ?_
  refine AllReadyH.cons (o := ?r0_o5) ?r0_ho5 (fun K hK => ?_) AllReadyH.nil
  case r0_ho5 => (conv => lhs; whnf; arg 1; whnf)
  refine step_call_gu rfl CES.out _ _ rfl #[.agg #[.int .i64 k.space, .int .i64 k.page], .int .i64 m] rfl (CH.out _) ?_; rintro r wa ⟨rfl, hwa⟩; refine ⟨_, rfl, ?_⟩; have hxa := Ex.trans (Ex.refl _).drew hwa
  refine hK.out _ _ ?r0_hS5 (fun hHeld5 => ?_)
  case r0_hS5 => exact FK.out _ hxa
  clear hK K hHeld
  try simp only [Act.put, List.setIfInBounds_toArray, List.set_cons_zero, List.set_cons_succ]
  refine wpAnyH_ready (rs := [6]) (by kernel_rfl) (by simp) ?_
  refine AllReadyH.cons (o := ?r0_o6) ?r0_ho6 (fun K hK => ?_) AllReadyH.nil
  case r0_ho6 => (conv => lhs; whnf; arg 1; whnf)
  refine step_call_gu rfl CEC.out _ _ rfl #[.agg #[.slice A m c, .slice B n d], .int .i64 b] rfl (CC.out _ (HX.out.ex (E0.out.trans hxa)) (HY.out.ex (E0.out.trans hxa))) ?_; rintro r w3 ⟨l, ok, A3, c3, rfl, hok3, hno3, hll, hrd, he⟩; obtain rfl : ok = true := (by cases ok; exact absurd HL0.out (hno3 rfl _); rfl); have e : l0 = l := HL0.out.one (hok3 rfl); subst e; refine ⟨_, rfl, ?_⟩; have hx3 := Ex.trans hxa he
  refine hK.out _ _ ?r0_hS6 (fun hHeld6 => ?_)
  case r0_hS6 => exact FK.out _ hx3
  clear hK K hHeld5
  try simp only [Act.put, List.setIfInBounds_toArray, List.set_cons_zero, List.set_cons_succ]
  refine tk 7 ?_; refine tk 8 ?_; refine tk 9 ?_; refine tk 10 ?_; refine tk 11 ?_
  refine wpAnyH_done (by kernel_rfl) ?_ _
  have HX3 := Lib.hid hx3
  have HRD := Lib.hid hrd
  have hll' : l0.length ≤ n := by have := HN.out; omega
  clear hx3 hxa he hwa hno3 hok3 hll hrd
  go_wp2
  go_loopw [8] (fun i wq => ∃ j : Nat, j ≤ l0.length ∧ i = .int .i64 j ∧ Ex w3 wq ∧ ∀ (j' x : Nat) (f : FrameD), j' < j → l0[j']? = some x → t.frames[x]? = some f → f.key ≠ k) (fun i _ => l0.length - (intOf i).toNat)
  case atStart => exact ⟨0, Nat.zero_le _, rfl, Ex.refl _, fun j' x f h => by omega⟩
  case round =>
    obtain ⟨j, hj, rfl, hq, hall⟩ := hrel
    have HQ := Lib.hid (HX3.out.trans hq)
    have HQ3 := Lib.hid hq
    have HALL := Lib.hid hall
    clear hq hall
    by_cases hjl : j < l0.length
    · obtain ⟨b5, o5, y, rfl, hb5, hyj, hcy⟩ := (HRD.out.ex HQ3.out).int (k := j) (by rw [nums_len]; exact hjl)
      obtain ⟨x, hxj⟩ : ∃ x, l0[j]? = some x := ⟨_, List.getElem?_eq_getElem hjl⟩
      have e : y = (x : Int) := by unfold nums at hyj; rw [List.getElem?_map, hxj] at hyj; injection hyj with e; exact e.symm
      subst e
      obtain ⟨f, hfx, hfu⟩ := HL0.out.in_ (List.mem_of_getElem? hxj)
      have hxn : x < n := by have := getElem?_lt hfx; have := HN.out; omega
      obtain ⟨b2, o2, f', rfl, hb2, hfx', k0, k1, k2, k3, k4⟩ := (HY.out.ex (E0.out.trans HQ.out)).frame (k := x) (by have := HN.out; omega)
      have e : f' = f := by rw [hfx] at hfx'; injection hfx' with e; exact e.symm
      subst e
      have HXJ := Lib.hid hxj
      have HFX := Lib.hid hfx
      have HFU := Lib.hid hfu
      have FK2 : Hid (∀ w', Ex wr w' → (w'.cell? ⟨gt, 1, none⟩ = some (.slice (some ⟨b2, o2, none⟩) n d) ∧ w'.cell? ⟨gk, 0, none⟩ = some (.int .i64 k.space) ∧ w'.cell? ⟨gk, 1, none⟩ = some (.int .i64 k.page) ∧ w'.cell? ⟨b5, o5 + j, none⟩ = some (.int .i64 x) ∧ w'.cell? ⟨b2, o2 + x * 5 + 1, none⟩ = some (.int .i64 f'.key.space) ∧ w'.cell? ⟨b2, o2 + x * 5 + 2, none⟩ = some (.int .i64 f'.key.page))) := Lib.hid (fun w' h => ⟨(K0.out.ex (HQ.out.trans h)).c2.2, (K1.out.ex (HQ.out.trans h)).c2.1, (K1.out.ex (HQ.out.trans h)).c2.2, (h.cell hb5).trans hcy, (h.cell hb2).trans k1, (h.cell hb2).trans k2⟩)
      have hz := eql_keyV f'.key k
      have hgd := guardKeyV
      clear hyj hxj hfx hfx' k0 k1 k2 k3 k4 hcy hfu hb2 hb5
      cases hek : eqB f'.key k
      · rw [hek] at hz
        have HEK := Lib.hid (eqB_false.1 hek)
        clear hek
        go_wp2_with fail
        refine wp_region_held_drew (S := (fun w' => (w'.cell? ⟨gt, 1, none⟩ = some (.slice (some ⟨b2, o2, none⟩) n d) ∧ w'.cell? ⟨gk, 0, none⟩ = some (.int .i64 k.space) ∧ w'.cell? ⟨gk, 1, none⟩ = some (.int .i64 k.page) ∧ w'.cell? ⟨b5, o5 + j, none⟩ = some (.int .i64 x) ∧ w'.cell? ⟨b2, o2 + x * 5 + 1, none⟩ = some (.int .i64 f'.key.space) ∧ w'.cell? ⟨b2, o2 + x * 5 + 2, none⟩ = some (.int .i64 f'.key.page)))) (by kernel_rfl) ?r1_hS0 (fun hHeld => ?_)
        case r1_hS0 => exact FK2.out _ (Ex.refl _).drew
        refine tk 0 ?_; refine tk 1 ?_; refine tk 2 ?_; refine tk 3 ?_; refine tk 4 ?_; refine tk 5 ?_; refine tk 6 ?_; refine tk 7 ?_; refine tk 8 ?_; refine tk 9 ?_; refine tk 10 ?_
        refine wpAnyH_done (by kernel_rfl) ?_ _
        clear hz hgd
        go_wp2
        go_roundw
        case rel => exact ⟨j + 1, by omega, by go_num, HQ3.out.drew, fun j' x' g hj' hx' hg => by
          by_cases e : j' = j
          · subst e
            rw [HXJ.out] at hx'
            injection hx' with hx'
            subst hx'
            rw [HFX.out] at hg
            injection hg with hg
            subst hg
            exact HEK.out
          · exact HALL.out j' x' g (by omega) hx' hg⟩
        case measure => simp [intOf]; omega
      · rw [hek] at hz
        obtain rfl : res = (x : Int) := HIT.out x f' HFX.out HFU.out (eqB_true.1 hek)
        clear hek
        obtain ⟨m0, m1, m2, m3, m4, m5⟩ := FK2.out wr.drew (Ex.refl _).drew
        clear m0 m1 m2 m4 m5
        go_wp2_with fail
        refine wp_region_held_drew (S := (fun w' => (w'.cell? ⟨gt, 1, none⟩ = some (.slice (some ⟨b2, o2, none⟩) n d) ∧ w'.cell? ⟨gk, 0, none⟩ = some (.int .i64 k.space) ∧ w'.cell? ⟨gk, 1, none⟩ = some (.int .i64 k.page) ∧ w'.cell? ⟨b5, o5 + j, none⟩ = some (.int .i64 x) ∧ w'.cell? ⟨b2, o2 + x * 5 + 1, none⟩ = some (.int .i64 f'.key.space) ∧ w'.cell? ⟨b2, o2 + x * 5 + 2, none⟩ = some (.int .i64 f'.key.page)))) (by kernel_rfl) ?r2_hS0 (fun hHeld => ?_)
        case r2_hS0 => exact FK2.out _ (Ex.refl _).drew
        refine tk 0 ?_; refine tk 1 ?_; refine tk 2 ?_; refine tk 3 ?_; refine tk 4 ?_; refine tk 5 ?_; refine tk 6 ?_; refine tk 7 ?_; refine tk 8 ?_; refine tk 9 ?_; refine tk 10 ?_
        refine wpAnyH_done (by kernel_rfl) ?_ _
        clear hz hgd
        go_wp2
        go_ret2
        exact ⟨⟨_, rfl⟩, (E0.out.trans HQ.out).drew⟩
    · obtain rfl : j = l0.length := by omega
      obtain rfl : res = -1 := HMISS.out l0 HL0.out (fun x f hx hf => by
        obtain ⟨j', hj', e⟩ := List.getElem_of_mem hx
        exact HALL.out j' x f hj' (by rw [List.getElem?_eq_getElem hj', e]) hf)
      go_wp2
      go_ret2
      exact ⟨⟨_, rfl⟩, E0.out.trans HQ.out⟩

set_option maxHeartbeats 1000000 in
theorem find1_c (f : FrameD) (k : KeyD) (w : World) (gk : Nat) (hk : Blk w gk 53 [.int .i64 k.space, .int .i64 k.page]) :
    Calls Tryd.prog 78 #[.agg #[.bool f.used, .int .i64 f.key.space, .int .i64 f.key.page, .int .i64 f.rights, .int .i64 f.next], .pointer (some ⟨gk, 0, none⟩)] w fun r w' => r = .returned (.bool (fitsKey k f)) ∧ Ex w w' := by
  obtain ⟨p0, p1⟩ := hk.c2
  have lk := hk.lt
  have hz := eql_keyV f.key k
  have hgd := guardKeyV
  unfold fitsKey
  clear hk
  cases hu : f.used
  · go_enter Tryd.func78, Tryd.ntmps78
    go_wp2
    go_ret
    exact ⟨ret_bool (by simp), (Ex.refl _).alloc _⟩
  · generalize eqB f.key k = res at hz ⊢
    go_enter Tryd.func78, Tryd.ntmps78
    go_wp2
    go_ret
    exact ⟨ret_bool (by simp), (Ex.refl _).alloc _⟩

set_option maxHeartbeats 1000000 in
theorem indexFind_c (xs : List FrameD) (k : KeyD) (A : Option Addr) (c : Nat) (w : World) (gk : Nat) (hx : Rd w A xs) (hn : xs.length ≤ 1048576) (hk : Blk w gk 53 [.int .i64 k.space, .int .i64 k.page]) :
    Calls Tryd.prog 77 #[.slice A xs.length c, .func (.func 78) #[] #[.pointer (some ⟨gk, 0, none⟩)]] w fun r w' => r = .returned (.int .i64 (firstOf (fitsKey k) xs)) ∧ Ex w w' := by
  have B1 := Lib.hid (fun k' x => @firstOf_at _ (fitsKey k) xs k' x)
  have B2 := Lib.hid (@firstOf_none _ (fitsKey k) xs)
  generalize firstOf (fitsKey k) xs = res at *
  obtain ⟨n, hn1⟩ : ∃ n, n = xs.length := ⟨_, rfl⟩
  have HN := Lib.hid hn1
  rw [← hn1] at B2 hn ⊢
  have HX := Lib.hid hx
  have HK := Lib.hid hk
  clear hn1 hx hk
  go_enter Tryd.func77, Tryd.ntmps77
  go_wp2
  go_loopw [8] (fun i wr => ∃ q : Nat, q ≤ n ∧ i = .int .i64 q ∧ Ex w wr ∧ ∀ (j : Nat) (y : FrameD), j < q → xs[j]? = some y → fitsKey k y = false) (fun i _ => n - (intOf i).toNat)
  case atStart => exact ⟨0, Nat.zero_le _, rfl, Ex.refl _, fun j y h => by omega⟩
  case round =>
    obtain ⟨q, hq, rfl, hbel, hcl⟩ := hrel
    have HB := Lib.hid hbel
    have HCL := Lib.hid hcl
    clear hbel hcl
    by_cases hlt : q < n
    · obtain ⟨b1, o1, x, rfl, hb1, hxk, h0, h1, h2, h3, h4⟩ := Rd.frame (HX.out.ex HB.out) (k := q) (by have := HN.out; omega)
      have HXK := Lib.hid hxk
      clear hxk
      go_wp2_with fail
      refine (find1_c x k _ _ (HK.out.ex HB.out)).mono ?_
      rintro r w2 ⟨rfl, hb2⟩
      have HB2 := Lib.hid hb2
      clear hb2 h0 h1 h2 h3 h4
      cases hv : fitsKey k x
      · have HV := Lib.hid hv
        go_wp2
        go_roundw
        case rel => exact ⟨q + 1, by omega, by go_num, HB.out.trans HB2.out, fun j z hj hz => by
          by_cases e : j = q
          · subst e
            have := HXK.out
            rw [this] at hz
            injection hz with hz
            rw [← hz]; exact HV.out
          · exact HCL.out j z (by omega) hz⟩
        case measure => simp [intOf]; omega
      · obtain rfl : res = (q : Int) := B1.out q x HXK.out hv HCL.out
        go_wp2
        go_ret
        exact ⟨rfl, HB.out.trans HB2.out⟩
    · obtain rfl : q = n := by omega
      obtain rfl : res = -1 := B2.out HCL.out
      go_wp2
      go_ret
      exact ⟨rfl, HB.out⟩

set_option maxHeartbeats 1000000 in
theorem findI_c (t : TableD) (A : Option Addr) (c : Nat) (B : Option Addr) (d : Nat) (k : KeyD) (w : World) (hy : Rd w B t.frames) (hm : t.frames.length ≤ 1048576) :
    Calls Tryd.prog 34 #[.agg #[.slice A t.buckets.length c, .slice B t.frames.length d], .agg #[.int .i64 k.space, .int .i64 k.page]] w fun r w' => r = .returned (.int .i64 (findF t k)) ∧ Ex w w' := by
  have HY := Lib.hid hy
  clear hy
  unfold findF
  have hmf : ∀ (fn : Fn) (first cap : Array Value) (w : World), (Instr.makeFunc fn first cap).run Tryd.prog w = .ok (.func fn first cap) w := fun _ _ _ _ => rfl
  go_enter Tryd.func34, Tryd.ntmps34
  go_wp2_with fail
  refine (indexFind_c t.frames k B d _ _ ((HY.out.alloc _).alloc _) hm (Blk.new_at _ _ _ (by simp))).mono ?_
  rintro r w2 ⟨rfl, hb2⟩
  have HB2 : Hid (Ex w w2) := Lib.hid ((((Ex.refl w).alloc _).alloc _).trans hb2)
  clear hb2
  go_wp2
  go_ret
  exact ⟨rfl, HB2.out⟩
end Go.Proofs.YtmipkeabfglfaaaDoor
/- TagsValid: the walks of the program's and the reference's. -/
namespace Go.Proofs.YtmipkeabfglfaaaDoor
open Go.ChangeShapes Go.WideShapes Go.ChangeAt Go.RowKit
open Rec (sz cs)
set_option linter.unusedVariables false
set_option maxRecDepth 100000

theorem wpList_put_int (w : World) {ops : Array Oper} {rest : List Oper} {o : Oper} {a : Act} {Q : Exit → Act → World → Prop}
    (hg : o.guard = none) (m x v : Operand) (hop : o.op = Op.mapUpdate 106 m x v) (b n : Nat) (S : List Int) (hm : a.eval m = .map (some b)) (h : HasInts w b n S) (hn : n < maxLen) (k : Int) (hx : a.eval x = .int .i64 k) (hv : a.eval v = .bool true)
    (hk : (Lit.int .i64 k).wf = true) (hK : ∀ w', HasInts w' b (n + 1) (k :: S) → w.grownBy w' (some b) → wpList Tryd.prog ops Q rest (a.put o.dst undef) w') : wpList Tryd.prog ops Q (o :: rest) a w := by
  refine wpList_plain hg fun K' hK' => ?_
  obtain ⟨w', hrun, r1, r2⟩ := h.put hn k hk
  unfold Oper.wp
  simp [execOp, hop, hm, hx, hv, hrun, Result.andThen]
  exact hK' _ _ (hK w' r1 r2)

/-- The tag before place k, or -1. -/
def lastTag (xs : List OwnD) (k : Nat) : Int := if k = 0 then -1 else (xs.getD (k - 1) ⟨0, 0⟩).tag
theorem lastTag_succ {xs : List OwnD} {k : Nat} {x : OwnD} (h : xs[k]? = some x) : lastTag xs (k + 1) = x.tag := by
  unfold lastTag
  rw [if_neg (by omega), Nat.add_sub_cancel, own_getD h]
theorem lastTag_le {t : TagsD} {k : Nat} (h : OwnsUp t k) (hk : k ≤ t.owns.length) {j : Nat} {y : OwnD} (hj : j < k) (hy : t.owns[j]? = some y) : y.tag ≤ lastTag t.owns k := by
  obtain ⟨z, hz⟩ : ∃ z, t.owns[k - 1]? = some z := ⟨_, List.getElem?_eq_getElem (by omega)⟩
  have e : lastTag t.owns k = z.tag := by
    have := lastTag_succ hz
    rwa [show k - 1 + 1 = k from by omega] at this
  rw [e]
  by_cases hjk : j = k - 1
  · subst hjk
    rw [hz] at hy
    injection hy with hy
    rw [hy]; exact Int.le_refl _
  · have := ((h (k - 1) z (by omega) hz).2 j y (by omega) hy).1
    omega
theorem lastTag_or (xs : List OwnD) {k : Nat} (hk : k ≤ xs.length) : (k = 0 ∧ lastTag xs k = -1) ∨ ∃ y, 0 < k ∧ xs[k - 1]? = some y ∧ lastTag xs k = y.tag := by
  by_cases h : k = 0
  · exact .inl ⟨h, if_pos h⟩
  · obtain ⟨z, hz⟩ : ∃ z, xs[k - 1]? = some z := ⟨_, List.getElem?_eq_getElem (by omega)⟩
    refine .inr ⟨z, by omega, hz, ?_⟩
    have := lastTag_succ hz
    rwa [show k - 1 + 1 = k from by omega] at this

/-- The spaces of the first k owners. -/
def spacesUp (xs : List OwnD) (k : Nat) : List Int := ((xs.take k).map (·.space)).reverse
theorem spacesUp_succ {xs : List OwnD} {k : Nat} {x : OwnD} (h : xs[k]? = some x) : spacesUp xs (k + 1) = x.space :: spacesUp xs k := by
  unfold spacesUp; rw [take_succ_of h]; simp
theorem mem_spacesUp {xs : List OwnD} {k : Nat} {s : Int} : s ∈ spacesUp xs k ↔ ∃ j y, j < k ∧ xs[j]? = some y ∧ y.space = s := by
  unfold spacesUp
  simp only [List.mem_reverse, List.mem_map]
  constructor
  · rintro ⟨y, hy, rfl⟩
    obtain ⟨j, hj, e⟩ := List.getElem_of_mem hy
    rw [List.length_take] at hj
    refine ⟨j, y, by omega, ?_, rfl⟩
    have : (xs.take k)[j]? = some y := by rw [List.getElem?_eq_getElem (by rw [List.length_take]; omega), e]
    rw [List.getElem?_take] at this
    split at this
    · exact this
    · cases this
  · rintro ⟨j, y, hj, hy, rfl⟩
    refine ⟨y, ?_, rfl⟩
    apply List.mem_of_getElem? (i := j)
    rw [List.getElem?_take, if_pos hj, hy]

theorem own_step {t : TagsD} {k : Nat} {x : OwnD} (h : OwnsUp t k) (hx : t.owns[k]? = some x) (h1 : lastTag t.owns k < x.tag) (h2 : x.tag < t.next) (h3 : inB x.space 16 = true) (h4 : decide (x.space ∈ spacesUp t.owns k) = false) : OwnsUp t (k + 1) := by
  have hk := getElem?_lt hx
  have h3' := inB_true.1 h3
  have h0 : -1 ≤ lastTag t.owns k := by
    rcases lastTag_or t.owns (k := k) (by omega) with ⟨_, e⟩ | ⟨y, hp, hy, e⟩
    · omega
    · have := (h (k - 1) y (by omega) hy).1.1
      omega
  refine ownsUp_succ h hx ⟨by omega, h2, h3'.1, h3'.2⟩ fun j y hj hy => ⟨by have := lastTag_le h (by omega) hj hy; omega, fun e => ?_⟩
  have : x.space ∈ spacesUp t.owns k := mem_spacesUp.2 ⟨j, y, hj, hy, e⟩
  simp [this] at h4

theorem own_bad_last {t : TagsD} {k : Nat} {x : OwnD} (hx : t.owns[k]? = some x) (h1 : x.tag ≤ lastTag t.owns k) : tagsV t = false :=
  tagsV_bad hx fun h => by
    have hk := getElem?_lt hx
    rcases lastTag_or t.owns (k := k) (by omega) with ⟨_, e⟩ | ⟨y, hp, hy, e⟩
    · have := h.1.1; omega
    · have := (h.2 (k - 1) y (by omega) hy).1; omega
theorem own_bad_next {t : TagsD} {k : Nat} {x : OwnD} (hx : t.owns[k]? = some x) (h1 : t.next ≤ x.tag) : tagsV t = false :=
  tagsV_bad hx fun h => by have := h.1.2.1; omega
theorem own_bad_space {t : TagsD} {k : Nat} {x : OwnD} (hx : t.owns[k]? = some x) (h1 : inB x.space 16 = false) : tagsV t = false :=
  tagsV_bad hx fun h => by have := inB_false.1 h1; exact this ⟨h.1.2.2.1, h.1.2.2.2⟩
theorem own_bad_twice {t : TagsD} {k : Nat} {x : OwnD} (hx : t.owns[k]? = some x) (h1 : decide (x.space ∈ spacesUp t.owns k) = true) : tagsV t = false :=
  tagsV_bad hx fun h => by
    obtain ⟨j, y, hj, hy, e⟩ := mem_spacesUp.1 (of_decide_eq_true h1)
    exact (h.2 j y hj hy).2 e

set_option maxHeartbeats 2000000 in
theorem tagsValidI_c (t : TagsD) (A : Option Addr) (c : Nat) (w : World) (hx : Rd w A t.owns) (hn : t.owns.length ≤ 1048576) (hc : t.owns.length ≤ c) :
    Calls Tryd.prog 31 #[.agg #[.int .i64 t.count, .int .i64 t.next, .int .i64 t.round, .slice A t.owns.length c]] w fun r w' => r = .returned (.bool (tagsV t)) ∧ Ex w w' := by
  have B0 := Lib.hid (@tagsV_bad_head t)
  have B1 := Lib.hid (fun k x => @own_bad_last t k x)
  have B2 := Lib.hid (fun k x => @own_bad_next t k x)
  have B3 := Lib.hid (fun k x => @own_bad_space t k x)
  have B4 := Lib.hid (fun k x => @own_bad_twice t k x)
  have B5 := Lib.hid (@tagsV_end t)
  have B6 := Lib.hid (fun k x => @own_step t k x)
  have B7 := Lib.hid (ownsUp_zero t)
  obtain ⟨cnt, nxt, rnd, xs⟩ := t
  unfold TagsHead at B0 B5
  simp only at B0 B1 B2 B3 B4 B5 B6 hx hn hc ⊢
  generalize hOK : OwnsUp ⟨cnt, nxt, rnd, xs⟩ = OK at *
  clear hOK
  generalize tagsV ⟨cnt, nxt, rnd, xs⟩ = res at *
  obtain ⟨n, hn1⟩ : ∃ n, n = xs.length := ⟨_, rfl⟩
  have HN := Lib.hid hn1
  rw [← hn1] at B5 hn hc ⊢
  have HX := Lib.hid hx
  clear hn1 hx
  by_cases g1 : cnt < 1
  · obtain rfl : res = false := B0.out (by omega)
    go_enter Tryd.func31, Tryd.ntmps31
    go_wp2
    go_ret
    exact ⟨rfl, (Ex.refl _).alloc _⟩
  by_cases g2 : 8 < cnt
  · have g1' : 1 ≤ cnt := by omega
    obtain rfl : res = false := B0.out (by omega)
    go_enter Tryd.func31, Tryd.ntmps31
    go_wp2
    go_ret
    exact ⟨rfl, (Ex.refl _).alloc _⟩
  have g1' : 1 ≤ cnt := by omega
  have g2' : cnt ≤ 8 := by omega
  by_cases g3 : nxt < 0
  · obtain rfl : res = false := B0.out (by omega)
    go_enter Tryd.func31, Tryd.ntmps31
    go_wp2
    go_ret
    exact ⟨rfl, (Ex.refl _).alloc _⟩
  have g3' : 0 ≤ nxt := by omega
  by_cases g4 : cnt < nxt
  · obtain rfl : res = false := B0.out (by omega)
    go_enter Tryd.func31, Tryd.ntmps31
    go_wp2
    go_ret
    exact ⟨rfl, (Ex.refl _).alloc _⟩
  have g4' : nxt ≤ cnt := by omega
  by_cases g5 : rnd < 0
  · obtain rfl : res = false := B0.out (by omega)
    go_enter Tryd.func31, Tryd.ntmps31
    go_wp2
    go_ret
    exact ⟨rfl, (Ex.refl _).alloc _⟩
  have g5' : 0 ≤ rnd := by omega
  by_cases g6 : 1000000 < rnd
  · obtain rfl : res = false := B0.out (by omega)
    go_enter Tryd.func31, Tryd.ntmps31
    go_wp2
    go_ret
    exact ⟨rfl, (Ex.refl _).alloc _⟩
  have g6' : rnd ≤ 1000000 := by omega
  have HS : Hid (1 ≤ cnt ∧ cnt ≤ 8 ∧ 0 ≤ nxt ∧ nxt ≤ cnt ∧ 0 ≤ rnd ∧ rnd ≤ 1000000) := Lib.hid (by omega)
  have d1 : decide (cnt < 1) = false := by simp; omega
  have d2 : decide (8 < cnt) = false := by simp; omega
  have d3 : decide (nxt < 0) = false := by simp; omega
  have d4 : decide (cnt < nxt) = false := by simp; omega
  have d5 : decide (rnd < 0) = false := by simp; omega
  have d6 : decide (1000000 < rnd) = false := by simp; omega
  clear g1 g2 g3 g4 g5 g6 B0 g1' g2' g3' g4' g5' g6'
  have hmm := @run_makeMap Tryd.prog
  go_enter Tryd.func31, Tryd.ntmps31
  go_wp2
  clear hmm
  clear d1 d2 d3 d4 d5 d6
  obtain ⟨w0, hw0⟩ : ∃ w0 : World, w0 = (w.alloc (.cells #[.int .i64 cnt, .int .i64 nxt, .int .i64 rnd, .slice A n c] 32)).alloc (.map #[] 0) := ⟨_, rfl⟩
  obtain ⟨gb, hgb⟩ : ∃ gb : Nat, gb = w.heap.size := ⟨_, rfl⟩
  obtain ⟨gm, hgm⟩ : ∃ gm : Nat, gm = w.heap.size + 1 := ⟨_, rfl⟩
  have K0 : Hid (Blk w0 gb 32 [.int .i64 cnt, .int .i64 nxt, .int .i64 rnd, .slice A n c]) := Lib.hid (by rw [hw0, hgb]; exact (Blk.new w _ _).alloc _)
  have E0 : Hid (Ex w w0) := Lib.hid (by rw [hw0]; exact ((Ex.refl w).alloc _).alloc _)
  have M0 : Hid (HasInts w0 gm 0 []) := Lib.hid (by
    have := HasInts.made (w.alloc (.cells #[.int .i64 cnt, .int .i64 nxt, .int .i64 rnd, .slice A n c] 32))
    rw [hw0, hgm]; simpa using this)
  have hne : Hid (gb ≠ gm) := Lib.hid (by omega)
  have hge : Hid (w.heap.size ≤ gm) := Lib.hid (by omega)
  rw [← hw0, ← hgm, ← hgb]
  clear hw0 hgm hgb
  go_loopw [41, 4] (fun i l wr => ∃ k : Nat, k ≤ n ∧ i = .int .i64 k ∧ l = .int .i64 (lastTag xs k) ∧ Ex w wr ∧ Blk wr gb 32 [.int .i64 cnt, .int .i64 nxt, .int .i64 rnd, .slice A n c] ∧ HasInts wr gm k (spacesUp xs k) ∧ OK k) (fun i _ _ => n - (intOf i).toNat)
  case atStart => exact ⟨0, Nat.zero_le _, rfl, rfl, E0.out, K0.out, M0.out, B7.out⟩
  case round =>
    obtain ⟨k, hk, rfl, rfl, hbel, hkb, hmap, hok⟩ := hrel
    have HB := Lib.hid hbel
    have KB := Lib.hid hkb
    have MB := Lib.hid hmap
    have HOK := Lib.hid hok
    clear hbel hkb hmap hok
    obtain ⟨q0, q1, q2, q3⟩ := KB.out.c4
    have lb := KB.out.lt
    by_cases hlt : k < n
    · obtain ⟨b1, o1, x, rfl, hb1, hxk, h0, h1⟩ := Rd.own (HX.out.ex HB.out) (k := k) (by have := HN.out; omega)
      have HXK := Lib.hid hxk
      clear hxk
      have HLS := Lib.hid (lastTag_succ HXK.out)
      have HSS := Lib.hid (spacesUp_succ HXK.out)
      have B1k := Lib.hid (B1.out k x HXK.out)
      have B4k := Lib.hid (B4.out k x HXK.out)
      have B6k := Lib.hid (B6.out k x HOK.out HXK.out)
      generalize lastTag xs k = la at *
      generalize spacesUp xs k = sp at *
      by_cases t1 : x.tag ≤ la
      · obtain rfl : res = false := B1k.out t1
        go_wp2
        go_ret
        exact ⟨rfl, HB.out.alloc _⟩
      have t1' : ¬ x.tag ≤ la := t1
      by_cases t2 : nxt ≤ x.tag
      · obtain rfl : res = false := B2.out k x HXK.out t2
        go_wp2
        go_ret
        exact ⟨rfl, HB.out.alloc _⟩
      have t2' : ¬ nxt ≤ x.tag := t2
      cases t3 : inB x.space 16
      · obtain rfl : res = false := B3.out k x HXK.out t3
        go_wp2_with (go_at_call 46; refine (within_c _ _ _).mono ?_; rintro r w' ⟨rfl, rfl⟩)
        go_ret
        exact ⟨rfl, HB.out.alloc _⟩
      have hwf : (Lit.int .i64 x.space).wf = true := WalkArith.wf_i64 (by have := inB_true.1 t3; omega)
      have HWF := Lib.hid hwf
      clear hwf
      obtain ⟨wz, hwz⟩ : ∃ wz : World, wz = wr.alloc (.cells #[.int .i64 x.space, .int .i64 x.tag] 87) := ⟨_, rfl⟩
      have hlk := (MB.out.ex ((Ex.refl wr).alloc (.cells #[.int .i64 x.space, .int .i64 x.tag] 87))).look x.space HWF.out
      cases t4 : decide (x.space ∈ sp)
      rotate_left
      · obtain rfl : res = false := B4k.out t4
        rw [t4] at hlk
        go_wp2_with (go_at_call 46; refine (within_c _ _ _).mono ?_; rintro r w' ⟨rfl, rfl⟩)
        go_ret
        exact ⟨rfl, HB.out.alloc _⟩
      · rw [t4] at hlk
        have HOK2 := Lib.hid (B6k.out (by omega) (by omega) t3 t4)
        clear hwz
        have MZ := Lib.hid (MB.out.ex ((Ex.refl wr).alloc (.cells #[.int .i64 x.space, .int .i64 x.tag] 87)))
        go_wp2_with (first | (go_at_call 46; refine (within_c _ _ _).mono ?_; rintro r w' ⟨rfl, rfl⟩) | (at_mapUpdate; go_must (refine wpList_put_int _ rfl _ _ _ rfl gm k sp rfl MZ.out (by simp only [maxLen]; omega) x.space rfl rfl HWF.out ?_); intro w3 hs3 hg3))
        go_roundw
        case rel => exact ⟨k + 1, by omega, by go_num, by rw [HLS.out], (HB.out.alloc _).grown hg3 (fun g hg => by injection hg with hg; have := hge.out; omega), (KB.out.alloc _).grown hg3 (by intro e; injection e with e; exact hne.out e), by rw [HSS.out]; exact hs3, HOK2.out⟩
        case measure => simp [intOf]; omega
    · obtain rfl : k = n := by omega
      obtain rfl : res = true := B5.out HS.out HOK.out
      go_wp2
      go_ret
      exact ⟨rfl, HB.out⟩
end Go.Proofs.YtmipkeabfglfaaaDoor
/- The reference's TagsValid: the walk. -/
namespace Go.Proofs.YtmipkeabfglfaaaDoor
open Go.ChangeShapes Go.WideShapes Go.ChangeAt Go.RowKit
open Rec (sz cs)
set_option linter.unusedVariables false
set_option maxRecDepth 100000

theorem l1Space_q (n : Int) (w : World) : Calls Tryd.prog 93 #[.int .i64 n] w fun r w' => r = .returned (.bool (inB n 16)) ∧ w' = w :=
  (l1Space_c n w).mono fun _ _ ⟨h1, h2⟩ => ⟨h1, h2.symm⟩

theorem tagsV_bad_len {t : TagsD} (h : t.next < t.owns.length) : tagsV t = false := by
  cases h2 : tagsV t
  · rfl
  · have := (tagsV_iff t).1 h2
    have h3 := ownsUp_len this.2 this.1.2.2.1
    omega

theorem own_bad_neg {t : TagsD} {k : Nat} {x : OwnD} (hx : t.owns[k]? = some x) (h1 : x.tag < 0) : tagsV t = false :=
  tagsV_bad hx fun h => by have := h.1.1; omega
theorem own_bad_same {t : TagsD} {k j : Nat} {x y : OwnD} (hx : t.owns[k]? = some x) (hy : t.owns[j]? = some y) (hj : j < k) (h1 : y.space = x.space) : tagsV t = false :=
  tagsV_bad hx fun h => (h.2 j y hj hy).2 h1
theorem own_step' {t : TagsD} {k : Nat} {x : OwnD} (h : OwnsUp t k) (hx : t.owns[k]? = some x) (h0 : 0 ≤ x.tag) (h1 : lastTag t.owns k < x.tag) (h2 : x.tag < t.next) (h3 : inB x.space 16 = true) (h4 : ∀ j y, j < k → t.owns[j]? = some y → y.space ≠ x.space) : OwnsUp t (k + 1) := by
  have hk := getElem?_lt hx
  have h3' := inB_true.1 h3
  exact ownsUp_succ h hx ⟨h0, h2, h3'.1, h3'.2⟩ fun j y hj hy => ⟨by have := lastTag_le h (by omega) hj hy; omega, h4 j y hj hy⟩

set_option maxHeartbeats 4000000 in
theorem tagsValidS_c (t : TagsD) (A : Option Addr) (c : Nat) (w : World) (hx : Rd w A t.owns) (hn : t.owns.length ≤ 1048576) (hc : t.owns.length ≤ c) :
    Calls Tryd.prog 53 #[.agg #[.int .i64 t.count, .int .i64 t.next, .int .i64 t.round, .slice A t.owns.length c]] w fun r w' => r = .returned (.bool (tagsV t)) ∧ Ex w w' := by
  have B0 := Lib.hid (@tagsV_bad_head t)
  have B1 := Lib.hid (fun k x => @own_bad_last t k x)
  have B2 := Lib.hid (fun k x => @own_bad_next t k x)
  have B3 := Lib.hid (fun k x => @own_bad_space t k x)
  have B4 := Lib.hid (fun k j x y => @own_bad_same t k j x y)
  have B5 := Lib.hid (@tagsV_end t)
  have B6 := Lib.hid (fun k x => @own_step' t k x)
  have B7 := Lib.hid (ownsUp_zero t)
  have B8 := Lib.hid (@tagsV_bad_len t)
  have B9 := Lib.hid (fun k x => @own_bad_neg t k x)
  obtain ⟨cnt, nxt, rnd, xs⟩ := t
  unfold TagsHead at B0 B5
  simp only at B0 B1 B2 B3 B4 B5 B6 B8 B9 hx hn hc ⊢
  generalize hOK : OwnsUp ⟨cnt, nxt, rnd, xs⟩ = OK at *
  clear hOK
  generalize tagsV ⟨cnt, nxt, rnd, xs⟩ = res at *
  have HLO := Lib.hid (fun k (h : k ≤ xs.length) => lastTag_or xs (k := k) h)
  obtain ⟨n, hn1⟩ : ∃ n, n = xs.length := ⟨_, rfl⟩
  have HN := Lib.hid hn1
  rw [← hn1] at B5 B8 HLO hn hc ⊢
  have HX := Lib.hid hx
  clear hn1 hx
  by_cases g1 : cnt < 1
  · obtain rfl : res = false := B0.out (by omega)
    go_enter Tryd.func53, Tryd.ntmps53
    go_wp2
    go_ret
    exact ⟨rfl, (Ex.refl _).alloc _⟩
  by_cases g2 : 8 < cnt
  · have g1' : 1 ≤ cnt := by omega
    obtain rfl : res = false := B0.out (by omega)
    go_enter Tryd.func53, Tryd.ntmps53
    go_wp2
    go_ret
    exact ⟨rfl, (Ex.refl _).alloc _⟩
  have g1' : 1 ≤ cnt := by omega
  have g2' : cnt ≤ 8 := by omega
  by_cases g3 : nxt < 0
  · obtain rfl : res = false := B0.out (by omega)
    go_enter Tryd.func53, Tryd.ntmps53
    go_wp2
    go_ret
    exact ⟨rfl, (Ex.refl _).alloc _⟩
  have g3' : 0 ≤ nxt := by omega
  by_cases g4 : cnt < nxt
  · obtain rfl : res = false := B0.out (by omega)
    go_enter Tryd.func53, Tryd.ntmps53
    go_wp2
    go_ret
    exact ⟨rfl, (Ex.refl _).alloc _⟩
  have g4' : nxt ≤ cnt := by omega
  by_cases g5 : rnd < 0
  · obtain rfl : res = false := B0.out (by omega)
    go_enter Tryd.func53, Tryd.ntmps53
    go_wp2
    go_ret
    exact ⟨rfl, (Ex.refl _).alloc _⟩
  have g5' : 0 ≤ rnd := by omega
  by_cases g6 : 1000000 < rnd
  · obtain rfl : res = false := B0.out (by omega)
    go_enter Tryd.func53, Tryd.ntmps53
    go_wp2
    go_ret
    exact ⟨rfl, (Ex.refl _).alloc _⟩
  have g6' : rnd ≤ 1000000 := by omega
  by_cases g7 : nxt < n
  · obtain rfl : res = false := B8.out g7
    go_enter Tryd.func53, Tryd.ntmps53
    go_wp2
    go_ret
    exact ⟨rfl, (Ex.refl _).alloc _⟩
  have g7' : (n : Int) ≤ nxt := by omega
  have HS : Hid (1 ≤ cnt ∧ cnt ≤ 8 ∧ 0 ≤ nxt ∧ nxt ≤ cnt ∧ 0 ≤ rnd ∧ rnd ≤ 1000000) := Lib.hid (by omega)
  have d1 : decide (cnt < 1) = false := by simp; omega
  have d2 : decide (8 < cnt) = false := by simp; omega
  have d3 : decide (nxt < 0) = false := by simp; omega
  have d4 : decide (cnt < nxt) = false := by simp; omega
  have d5 : decide (rnd < 0) = false := by simp; omega
  have d6 : decide (1000000 < rnd) = false := by simp; omega
  have d7 : decide (nxt < (n : Int)) = false := by simp; omega
  clear g1 g2 g3 g4 g5 g6 g7 B0 g1' g2' g3' g4' g5' g6' g7' B8
  go_enter Tryd.func53, Tryd.ntmps53
  go_wp2
  clear d1 d2 d3 d4 d5 d6 d7
  obtain ⟨w0, hw0⟩ : ∃ w0 : World, w0 = w.alloc (.cells #[.int .i64 cnt, .int .i64 nxt, .int .i64 rnd, .slice A n c] 32) := ⟨_, rfl⟩
  obtain ⟨gb, hgb⟩ : ∃ gb : Nat, gb = w.heap.size := ⟨_, rfl⟩
  have K0 : Hid (Blk w0 gb 32 [.int .i64 cnt, .int .i64 nxt, .int .i64 rnd, .slice A n c]) := Lib.hid (by rw [hw0, hgb]; exact Blk.new w _ _)
  have E0 : Hid (Ex w w0) := Lib.hid (by rw [hw0]; exact (Ex.refl w).alloc _)
  rw [← hw0, ← hgb]
  clear hw0 hgb
  go_loopw [3] (fun i wr => ∃ k : Nat, k ≤ n ∧ i = .int .i64 k ∧ Ex w0 wr ∧ OK k) (fun i _ => n - (intOf i).toNat)
  case atStart => exact ⟨0, Nat.zero_le _, rfl, Ex.refl _, B7.out⟩
  case round =>
    obtain ⟨k, hk, rfl, hbel, hok⟩ := hrel
    have HB := Lib.hid hbel
    have HOK := Lib.hid hok
    have HKB := Lib.hid (K0.out.ex HB.out)
    clear hbel hok
    obtain ⟨q0, q1, q2, q3⟩ := HKB.out.c4
    have lb := HKB.out.lt
    by_cases hlt : k < n
    · obtain ⟨b1, o1, x, rfl, hb1, hxk, h0, h1⟩ := Rd.own ((HX.out.ex E0.out).ex HB.out) (k := k) (by have := HN.out; omega)
      have HXK := Lib.hid hxk
      clear hxk
      cases t3 : inB x.space 16
      · obtain rfl : res = false := B3.out k x HXK.out t3
        go_wp2
        go_quiet ((go_at_call 93; exact Calls.quiet_of_same (l1Space_q _ _)))
        go_wp2
        go_ret
        exact ⟨rfl, ((E0.out.trans HB.out).alloc _).drewN _⟩
      by_cases t1 : x.tag < 0
      · obtain rfl : res = false := B9.out k x HXK.out t1
        have t1b : decide (x.tag < 0) = true := by simp; omega
        go_wp2
        go_quiet ((go_at_call 93; exact Calls.quiet_of_same (l1Space_q _ _)))
        go_wp2
        go_ret
        exact ⟨rfl, ((E0.out.trans HB.out).alloc _).drewN _⟩
      have t1b : decide (x.tag < 0) = false := by simp; omega
      by_cases t2 : nxt ≤ x.tag
      · obtain rfl : res = false := B2.out k x HXK.out t2
        have t2b : decide (nxt ≤ x.tag) = true := by simp; omega
        go_wp2
        go_quiet ((go_at_call 93; exact Calls.quiet_of_same (l1Space_q _ _)))
        go_wp2
        go_ret
        exact ⟨rfl, ((E0.out.trans HB.out).alloc _).drewN _⟩
      have t2b : decide (nxt ≤ x.tag) = false := by simp; omega
      rcases HLO.out k (by omega) with ⟨hk0, hla⟩ | ⟨y, hk0, hy, hla⟩
      · subst hk0
        have HLT : Hid (lastTag xs 0 < x.tag) := Lib.hid (by omega)
        clear hla
        simp only [Nat.zero_mul, Nat.add_zero] at h0 h1
        go_wp2_with fail
        go_quiet ((go_at_call 93; exact Calls.quiet_of_same (l1Space_q _ _)))
        obtain ⟨w2, hw2⟩ : ∃ w2 : World, w2 = (wr.alloc (.cells #[.int .i64 x.space, .int .i64 x.tag] 87)).drewN nq := ⟨_, rfl⟩
        obtain ⟨gx, hgx⟩ : ∃ gx : Nat, gx = wr.heap.size := ⟨_, rfl⟩
        have HB2 : Hid (Ex wr w2) := Lib.hid (by rw [hw2]; exact ((Ex.refl wr).alloc _).drewN _)
        have KX : Hid (Blk w2 gx 87 [.int .i64 x.space, .int .i64 x.tag]) := Lib.hid (by rw [hw2, hgx]; exact (Blk.new wr _ _).drewN _)
        rw [← hw2, ← hgx]
        clear hw2 hgx
        have KB2 := Lib.hid (HKB.out.ex HB2.out)
        have HE2 : Hid (Ex w w2) := Lib.hid ((E0.out.trans HB.out).trans HB2.out)
        have HW2 : Hid (Ex w0 w2) := Lib.hid (HB.out.trans HB2.out)
        have HX2 : Hid (Rd w2 (some ⟨b1, o1, none⟩) xs) := Lib.hid (HX.out.ex HE2.out)
        have HC : Hid (∀ (j : Nat) (y : OwnD), j < 0 → xs[j]? = some y → y.space ≠ x.space) := Lib.hid (fun j y h => by omega)
        clear HB HB2 HKB
        go_wp2
        go_loopw [5] (fun j wi => ∃ m : Nat, m ≤ 0 ∧ j = .int .i64 m ∧ Ex w2 wi ∧ ∀ (j : Nat) (y : OwnD), j < m → xs[j]? = some y → y.space ≠ x.space) (fun j _ => 0 - (intOf j).toNat)
        case atStart => exact ⟨0, Nat.zero_le _, rfl, Ex.refl _, HC.out⟩
        case round =>
          obtain ⟨m, hm, rfl, hbi, hcl⟩ := hrel
          have HBI := Lib.hid hbi
          have HCL := Lib.hid hcl
          clear hbi hcl
          obtain ⟨p0, p1⟩ := (KX.out.ex HBI.out).c2
          have lx := (KX.out.ex HBI.out).lt
          obtain ⟨q0, q1, q2, q3⟩ := (KB2.out.ex HBI.out).c4
          have lb := (KB2.out.ex HBI.out).lt
          by_cases hlm : m < 0
          · omega
          · have hmk : m = 0 := by omega
            have HOK2 : Hid (OK (0 + 1)) := Lib.hid (B6.out 0 x HOK.out HXK.out (by omega) HLT.out (by omega) t3 (fun j y hj hy => HCL.out j y (by omega) hy))
            have HMK := Lib.hid hmk
            clear hmk
            go_wp2
            go_roundw
            case rel => exact ⟨0 + 1, by omega, by go_num, HW2.out.trans HBI.out, HOK2.out⟩
            case measure => simp [intOf]; omega
      · obtain ⟨k', rfl⟩ : ∃ k', k = k' + 1 := ⟨k - 1, by omega⟩
        have hkk : k' + 1 - 1 = k' := by omega
        rw [hkk] at hy
        clear hkk
        obtain ⟨y', hb2, hyk', y0, y1⟩ := Rd.own_known ((HX.out.ex E0.out).ex HB.out) (k := k') (by have := HN.out; omega)
        have e : y' = y := by rw [hy] at hyk'; injection hyk' with e; exact e.symm
        subst e
        have HYP := Lib.hid hy
        have HLA := Lib.hid hla
        clear hy hyk' hla y0
        have hkp : decide ((0 : Int) < ((k' + 1 : Nat) : Int)) = true := by simp
        have hsub : IntKind.i64.wrap (((k' + 1 : Nat) : Int) - 1) = (k' : Int) := by rw [show ((k' + 1 : Nat) : Int) - 1 = (k' : Int) from by omega]; exact IntWalk.i64_in _ (by omega)
        have hk'n : (k' : Int) < (n : Int) := by omega
        have hk'0 : (0 : Int) < (k' : Int) + 1 := by omega
        by_cases t4 : x.tag ≤ y'.tag
        · obtain rfl : res = false := B1.out (k' + 1) x HXK.out (by rw [HLA.out]; exact t4)
          have t4b : decide (x.tag ≤ y'.tag) = true := by simp; omega
          go_wp2_with fail
          go_quiet ((go_at_call 93; exact Calls.quiet_of_same (l1Space_q _ _)))
          go_wp2
          go_ret
          exact ⟨rfl, ((E0.out.trans HB.out).alloc _).drewN _⟩
        · have t4b : decide (x.tag ≤ y'.tag) = false := by simp; omega
          have HLT : Hid (lastTag xs (k' + 1) < x.tag) := Lib.hid (by rw [HLA.out]; omega)
          go_wp2_with fail
          go_quiet ((go_at_call 93; exact Calls.quiet_of_same (l1Space_q _ _)))
          clear hsub t4b hkp
          obtain ⟨w2, hw2⟩ : ∃ w2 : World, w2 = (wr.alloc (.cells #[.int .i64 x.space, .int .i64 x.tag] 87)).drewN nq := ⟨_, rfl⟩
          obtain ⟨gx, hgx⟩ : ∃ gx : Nat, gx = wr.heap.size := ⟨_, rfl⟩
          have HB2 : Hid (Ex wr w2) := Lib.hid (by rw [hw2]; exact ((Ex.refl wr).alloc _).drewN _)
          have KX : Hid (Blk w2 gx 87 [.int .i64 x.space, .int .i64 x.tag]) := Lib.hid (by rw [hw2, hgx]; exact (Blk.new wr _ _).drewN _)
          rw [← hw2, ← hgx]
          clear hw2 hgx
          have KB2 := Lib.hid (HKB.out.ex HB2.out)
          have HE2 : Hid (Ex w w2) := Lib.hid ((E0.out.trans HB.out).trans HB2.out)
          have HW2 : Hid (Ex w0 w2) := Lib.hid (HB.out.trans HB2.out)
          have HX2 : Hid (Rd w2 (some ⟨b1, o1, none⟩) xs) := Lib.hid (HX.out.ex HE2.out)
          have HC : Hid (∀ (j : Nat) (y : OwnD), j < 0 → xs[j]? = some y → y.space ≠ x.space) := Lib.hid (fun j y h => by omega)
          clear HB HB2 HKB
          go_wp2
          go_loopw [5] (fun j wi => ∃ m : Nat, m ≤ (k' + 1) ∧ j = .int .i64 m ∧ Ex w2 wi ∧ ∀ (j : Nat) (y : OwnD), j < m → xs[j]? = some y → y.space ≠ x.space) (fun j _ => (k' + 1) - (intOf j).toNat)
          case atStart => exact ⟨0, Nat.zero_le _, rfl, Ex.refl _, HC.out⟩
          case round =>
            obtain ⟨m, hm, rfl, hbi, hcl⟩ := hrel
            have HBI := Lib.hid hbi
            have HCL := Lib.hid hcl
            clear hbi hcl
            obtain ⟨p0, p1⟩ := (KX.out.ex HBI.out).c2
            have lx := (KX.out.ex HBI.out).lt
            obtain ⟨q0, q1, q2, q3⟩ := (KB2.out.ex HBI.out).c4
            have lb := (KB2.out.ex HBI.out).lt
            by_cases hlm : m < (k' + 1)
            · obtain ⟨y, hb1', hyk, y0, y1⟩ := Rd.own_known (HX2.out.ex HBI.out) (k := m) (by have := HN.out; omega)
              have HYK := Lib.hid hyk
              clear hyk
              have hmn : (m : Int) < (n : Int) := by omega
              cases hys : (y.space == x.space)
              · have HYS := Lib.hid hys
                go_wp2_with fail
                go_quiet (fail)
                go_wp2
                go_roundw
                case rel => exact ⟨m + 1, by omega, by go_num, HBI.out.drewN _, fun j z hj hz => by
                  by_cases e : j = m
                  · subst e
                    have := HYK.out
                    rw [this] at hz
                    injection hz with hz
                    have h2 := HYS.out
                    rw [← hz]; simpa using h2
                  · exact HCL.out j z (by omega) hz⟩
                case measure => simp [intOf]; omega
              · obtain rfl : res = false := B4.out (k' + 1) m x y HXK.out HYK.out hlm (by simpa using hys)
                go_wp2_with fail
                go_quiet (fail)
                go_wp2
                go_ret
                exact ⟨rfl, (HE2.out.trans HBI.out).drewN _⟩
            · have hmk : m = (k' + 1) := by omega
              have HOK2 : Hid (OK ((k' + 1) + 1)) := Lib.hid (B6.out (k' + 1) x HOK.out HXK.out (by omega) HLT.out (by omega) t3 (fun j y hj hy => HCL.out j y (by omega) hy))
              have HMK := Lib.hid hmk
              clear hmk
              go_wp2
              go_roundw
              case rel => exact ⟨(k' + 1) + 1, by omega, by go_num, HW2.out.trans HBI.out, HOK2.out⟩
              case measure => simp [intOf]; omega
    · obtain rfl : k = n := by omega
      obtain rfl : res = true := B5.out HS.out HOK.out
      go_wp2
      go_ret
      exact ⟨rfl, E0.out.trans HB.out⟩
end Go.Proofs.YtmipkeabfglfaaaDoor
/- The place of a space: the program's method (a closure and the library's IndexFunc) and the reference's loop. -/
namespace Go.Proofs.YtmipkeabfglfaaaDoor
open Go.ChangeShapes Go.WideShapes Go.ChangeAt Go.RowKit
open Rec (sz cs)
set_option linter.unusedVariables false
set_option maxRecDepth 100000

set_option maxHeartbeats 1000000 in
theorem own1_c (x : OwnD) (s : Int) (w : World) (gs : Nat) (hs : Blk w gs 3 [.int .i64 s]) :
    Calls Tryd.prog 76 #[.agg #[.int .i64 x.space, .int .i64 x.tag], .pointer (some ⟨gs, 0, none⟩)] w fun r w' => r = .returned (.bool (x.space == s)) ∧ Ex w w' := by
  obtain s0 := hs.c1
  have ls := hs.lt
  clear hs
  go_enter Tryd.func76, Tryd.ntmps76
  go_wp2
  go_ret
  exact ⟨rfl, (Ex.refl _).alloc _⟩

set_option maxHeartbeats 1000000 in
theorem indexOwn_c (xs : List OwnD) (s : Int) (A : Option Addr) (c : Nat) (w : World) (gs : Nat) (hx : Rd w A xs) (hn : xs.length ≤ 1048576) (hs : Blk w gs 3 [.int .i64 s]) :
    Calls Tryd.prog 75 #[.slice A xs.length c, .func (.func 76) #[] #[.pointer (some ⟨gs, 0, none⟩)]] w fun r w' => r = .returned (.int .i64 (ownPlace xs s)) ∧ Ex w w' := by
  have B1 := Lib.hid (fun k x => @firstOf_at _ (fun x : OwnD => x.space == s) xs k x)
  have B2 := Lib.hid (@firstOf_none _ (fun x : OwnD => x.space == s) xs)
  unfold ownPlace
  generalize firstOf (fun x : OwnD => x.space == s) xs = res at *
  obtain ⟨n, hn1⟩ : ∃ n, n = xs.length := ⟨_, rfl⟩
  have HN := Lib.hid hn1
  rw [← hn1] at B2 hn ⊢
  have HX := Lib.hid hx
  have HS := Lib.hid hs
  clear hn1 hx hs
  go_enter Tryd.func75, Tryd.ntmps75
  go_wp2
  go_loopw [8] (fun i wr => ∃ k : Nat, k ≤ n ∧ i = .int .i64 k ∧ Ex w wr ∧ ∀ (j : Nat) (y : OwnD), j < k → xs[j]? = some y → (y.space == s) = false) (fun i _ => n - (intOf i).toNat)
  case atStart => exact ⟨0, Nat.zero_le _, rfl, Ex.refl _, fun j y h => by omega⟩
  case round =>
    obtain ⟨k, hk, rfl, hbel, hcl⟩ := hrel
    have HB := Lib.hid hbel
    have HCL := Lib.hid hcl
    clear hbel hcl
    by_cases hlt : k < n
    · obtain ⟨b1, o1, x, rfl, hb1, hxk, h0, h1⟩ := Rd.own (HX.out.ex HB.out) (k := k) (by have := HN.out; omega)
      have HXK := Lib.hid hxk
      clear hxk
      go_wp2_with fail
      refine (own1_c x s _ _ (HS.out.ex HB.out)).mono ?_
      rintro r w2 ⟨rfl, hb2⟩
      have HB2 := Lib.hid hb2
      clear hb2 h0 h1
      cases hv : (x.space == s)
      · have HV := Lib.hid hv
        clear hv
        go_wp2
        go_roundw
        case rel => exact ⟨k + 1, by omega, by go_num, HB.out.trans HB2.out, fun j z hj hz => by
          by_cases e : j = k
          · subst e
            have := HXK.out
            rw [this] at hz
            injection hz with hz
            rw [← hz]; exact HV.out
          · exact HCL.out j z (by omega) hz⟩
        case measure => simp [intOf]; omega
      · obtain rfl : res = (k : Int) := B1.out k x HXK.out hv HCL.out
        clear hv
        go_wp2
        go_ret
        exact ⟨rfl, HB.out.trans HB2.out⟩
    · obtain rfl : k = n := by omega
      obtain rfl : res = -1 := B2.out HCL.out
      go_wp2
      go_ret
      exact ⟨rfl, HB.out⟩

set_option maxHeartbeats 1000000 in
theorem ownI_c (t : TagsD) (s : Int) (A : Option Addr) (c : Nat) (w : World) (hx : Rd w A t.owns) (hn : t.owns.length ≤ 1048576) :
    Calls Tryd.prog 32 #[.agg #[.int .i64 t.count, .int .i64 t.next, .int .i64 t.round, .slice A t.owns.length c], .int .i64 s] w fun r w' => r = .returned (.int .i64 (ownPlace t.owns s)) ∧ Ex w w' := by
  have HX := Lib.hid hx
  clear hx
  have hmf : ∀ (fn : Fn) (first cap : Array Value) (w : World), (Instr.makeFunc fn first cap).run Tryd.prog w = .ok (.func fn first cap) w := fun _ _ _ _ => rfl
  go_enter Tryd.func32, Tryd.ntmps32
  go_wp2_with fail
  refine (indexOwn_c t.owns s A c _ _ ((HX.out.alloc _).alloc _) hn (Blk.new_at _ _ _ (by simp))).mono ?_
  rintro r w2 ⟨rfl, hb2⟩
  have HB2 : Hid (Ex w w2) := Lib.hid ((((Ex.refl w).alloc _).alloc _).trans hb2)
  clear hb2
  go_wp2
  go_ret
  exact ⟨rfl, HB2.out⟩

set_option maxHeartbeats 1000000 in
theorem l5Find_c (t : TagsD) (s : Int) (A : Option Addr) (c : Nat) (w : World) (hx : Rd w A t.owns) (hn : t.owns.length ≤ 1048576) :
    Calls Tryd.prog 54 #[.agg #[.int .i64 t.count, .int .i64 t.next, .int .i64 t.round, .slice A t.owns.length c], .int .i64 s] w fun r w' => r = .returned (.int .i64 (ownPlace t.owns s)) ∧ Ex w w' := by
  obtain ⟨cnt, nxt, rnd, xs⟩ := t
  simp only at hx hn ⊢
  have B1 := Lib.hid (fun k x => @firstOf_at _ (fun x : OwnD => x.space == s) xs k x)
  have B2 := Lib.hid (@firstOf_none _ (fun x : OwnD => x.space == s) xs)
  unfold ownPlace
  generalize firstOf (fun x : OwnD => x.space == s) xs = res at *
  obtain ⟨n, hn1⟩ : ∃ n, n = xs.length := ⟨_, rfl⟩
  have HN := Lib.hid hn1
  rw [← hn1] at B2 hn ⊢
  have HX := Lib.hid hx
  clear hn1 hx
  go_enter Tryd.func54, Tryd.ntmps54
  go_wp2
  obtain ⟨w0, hw0⟩ : ∃ w0 : World, w0 = w.alloc (.cells #[.int .i64 cnt, .int .i64 nxt, .int .i64 rnd, .slice A n c] 32) := ⟨_, rfl⟩
  have E0 : Hid (Ex w w0) := Lib.hid (by rw [hw0]; exact (Ex.refl _).alloc _)
  have K0 : Hid (Blk w0 w.heap.size 32 [.int .i64 cnt, .int .i64 nxt, .int .i64 rnd, .slice A n c]) := Lib.hid (by rw [hw0]; exact Blk.new _ _ _)
  rw [← hw0]
  clear hw0
  go_loopw [5] (fun i wr => ∃ k : Nat, k ≤ n ∧ i = .int .i64 k ∧ Ex w0 wr ∧ ∀ (j : Nat) (y : OwnD), j < k → xs[j]? = some y → (y.space == s) = false) (fun i _ => n - (intOf i).toNat)
  case atStart => exact ⟨0, Nat.zero_le _, rfl, Ex.refl _, fun j y h => by omega⟩
  case round =>
    obtain ⟨k, hk, rfl, hbel, hcl⟩ := hrel
    have HB := Lib.hid hbel
    have HCL := Lib.hid hcl
    clear hbel hcl
    obtain ⟨q0, q1, q2, q3⟩ := (K0.out.ex HB.out).c4
    have lb := (K0.out.ex HB.out).lt
    by_cases hlt : k < n
    · obtain ⟨b1, o1, x, rfl, hb1, hxk, h0, h1⟩ := Rd.own ((HX.out.ex E0.out).ex HB.out) (k := k) (by have := HN.out; omega)
      have HXK := Lib.hid hxk
      clear hxk
      cases hv : (x.space == s)
      · have HV := Lib.hid hv
        go_wp2
        go_roundw
        case rel => exact ⟨k + 1, by omega, by go_num, (by repeat' (first | with_reducible exact HB.out | with_reducible refine Ex.alloc ?_ _ | with_reducible refine Ex.drew ?_ | with_reducible refine Ex.put ?_ (by omega) _)), fun j z hj hz => by
          by_cases e : j = k
          · subst e
            have := HXK.out
            rw [this] at hz
            injection hz with hz
            rw [← hz]; exact HV.out
          · exact HCL.out j z (by omega) hz⟩
        case measure => simp [intOf]; omega
      · obtain rfl : res = (k : Int) := B1.out k x HXK.out hv HCL.out
        go_wp2
        go_ret
        exact ⟨rfl, (by repeat' (first | with_reducible exact E0.out.trans HB.out | with_reducible refine Ex.alloc ?_ _ | with_reducible refine Ex.drew ?_ | with_reducible refine Ex.put ?_ (by omega) _))⟩
    · obtain rfl : k = n := by omega
      obtain rfl : res = -1 := B2.out HCL.out
      go_wp2
      go_ret
      exact ⟨rfl, E0.out.trans HB.out⟩
end Go.Proofs.YtmipkeabfglfaaaDoor
